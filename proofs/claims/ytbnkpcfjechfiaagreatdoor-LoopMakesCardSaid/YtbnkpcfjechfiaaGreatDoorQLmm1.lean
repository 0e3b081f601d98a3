/- Lemmas of this claim. -/
import Derived.Deep.Slices
import Derived.OpenShut
import Derived.Test.YtbnkpcfjechfiaaGreatDoorRows
import Derived.ProofKit
import Derived.LaidMore
import Derived.HandedShaped
import Derived.Shelf.Vars
import Derived.Lay
import Derived.Stop.Joined
import Derived.Test.YtbnkpcfjechfiaaGreatDoorTie
import Derived.Test.YtbnkpcfjechfiaaGreatDoorCards
import Derived.SevenTiedAt
import Derived.Test.YtbnkpcfjechfiaaGreatDoorQCoef
import Derived.Test.YtbnkpcfjechfiaaGreatDoorQLP2
import Derived.Test.YtbnkpcfjechfiaaGreatDoorQRV12
import Derived.Test.YtbnkpcfjechfiaaGreatDoorQRV17
set_option linter.all false
set_option maxRecDepth 100000
set_option maxHeartbeats 8000000
namespace Go.Proofs.YtbnkpcfjechfiaaGreatDoor
open Go.RowKit Dc Dg
open Go.ChangeShapes Go.WideShapes
set_option maxRecDepth 100000
theorem laidAll:laidOutB Tryz.prog=true:=by kernel_rfl
theorem und3:Tryz.prog.underlying 3=some (.int .i64):=by kernel_rfl
theorem BR:Tryz.prog.underlying 34=some .string:=by kernel_rfl
theorem w_:Tryz.prog.underlying 22=some (.slice 34):=by kernel_rfl
theorem Bp {w:World}{b:Nat}{o:Obj} (h:w.heap[b]?=some o):b<w.heap.size:=(Fh.1 h).1
theorem wB {α:Type}:∀ (n:Nat) (p:Nat→α→Prop),(∀ i,i<n→∃ x,p i x)→∃ l:List α,l.length=n∧∀ i (h:i<l.length),p i l[i]
 | 0,_,_=>⟨[],rfl,fun i h=>by simp at h⟩
 | n+1,p,h=>by
  obtain⟨l,hl,hp⟩:=wB n p (fun i hi=>h i (by omega));obtain⟨x,hx⟩:=h n (by omega);refine⟨l++[x],by simp[hl],fun i hi=>?_⟩;by_cases hin:i<l.length
  ·rw[FK hin];exact hp i hin
  ·have hie:i=n:=by simp at hi;omega
   subst hie;rw[FI (by omega)];simp only[hl,Hc,E7];exact hx
section
variable {H : Type} {enc : TypeId × Value → H} {w : World} {sp : Nat → Bool} {held : Bool}
def oI (t:TypeId) (d:DataW H):Prop:=∀ n∈d.weights Tryz.prog t,n≤140737488351232
theorem jx {e:TypeId}:∀ {l:List (DataW H)}{d:DataW H},d∈l→∀ n∈d.weights Tryz.prog e,n∈DataW.weightsAll Tryz.prog e l
 | [],_,h,_,_=>by cases h
 | x :: l,d,h,n,hn=>by
  unfold DataW.weightsAll;rcases Ge.1 h with rfl | h
  ·exact List.mem_append_left _ hn
  ·exact List.mem_append_right _ (jx h n hn)
theorem BE {t e:TypeId}{k fuel:Nat}{cs:List Value}{x:DataW H×List MemPlace} (ht:Tryz.prog.underlying t=some (.slice e)) (hk:Tryz.prog.cellsOf e=k) (hk0:0<k) (hby:1≤Tryz.prog.bytesOf e) (h:DataW.trod enc Tryz.prog w 0 sp held fuel t cs=some x) (hf:oI t x.1) :
  ∃ (p:Option Addr) (len cap:Nat),cs=[.slice p len cap]∧len≤cap∧cap≤maxLen∧len≤140737488351232∧(0<len→∃ b o,p=some ⟨b,o,none⟩∧b<w.heap.size∧∀ i,i<len→∃ (ecs:List Value) (n:Nat) (y:DataW H×List MemPlace),ecs.length=k∧(∀ j,j<k→w.cell? ⟨b,o+i*k+j,none⟩=ecs[j]?)∧DataW.trod enc Tryz.prog w 0 sp held n e ecs=some y∧oI e y.1):=by
 rcases Go.Deep.open_slice ht h with ⟨rfl,_⟩ | ⟨a,len,cap,m,n,D,Pl,rfl,_,hl,hm,hmm,hxe,hx⟩
 ·exact⟨none,0,0,rfl,Fb _,Fk _,Fk _,fun h=>absurd h (Nat.lt_irrefl 0)⟩
 ·have hlm:len≤m:=by rw[hmm];split<;>omega
  have hfe:∀ i,i<len→oI e (D i):=fun i hi n hn=>hf n (by
   rw[hxe]
   show n∈DataW.weights Tryz.prog t (.slice _ _)
   unfold DataW.weights;rw[ht]
   exact FN _ (List.mem_append_left _ (jx (G3.2 ⟨i,GM.2 hi,rfl⟩) n hn)))
  have hlr:len≤140737488351232:=by
   have h1:=hf ((((List.range len).map D).length+((List.range (m-len)).map fun j=>D (len+j)).length)*Tryz.prog.bytesOf e) (by
    rw[hxe]
    show _∈DataW.weights Tryz.prog t (.slice _ _)
    unfold DataW.weights;rw[ht]
    exact FL ..)
   simp only[Fp,List.length_range] at h1;have h2:len*1≤(len+(m-len))*Tryz.prog.bytesOf e:=Gq (by omega) hby;omega
  refine⟨some a,len,cap,rfl,hl,hm,hlr,fun h0=>?_⟩;rw[hk] at hx
  have cellAt:∀ i,i<len→∃ (ecs:List Value),ecs.length=k∧(∀ j,j<k→w.cell? ((a.add (i*k)).add j)=ecs[j]?)∧∃ y,DataW.trod enc Tryz.prog w 0 sp held n e ecs=some y∧oI e y.1:=fun i hi=>by
   obtain⟨ecs,h1,h2⟩:=hx i (by omega);obtain⟨_,hlen,hc⟩:=World.cells?_some h1;exact⟨ecs,hlen,fun j hj=>hc j hj,_,h2,hfe i hi⟩
  obtain⟨ecs,hlen,hc,_⟩:=cellAt 0 h0;have h00:=hc 0 hk0;rw[Gk] at h00
  have hsp:a.spot=none∧a.block<w.heap.size:=by
   have e0:(a.add 0).add 0=a:=by simp[Addr.add]
   rw[e0,Fr (by omega)] at h00;unfold World.cell? at h00
   split at h00
   ·rename_i c _ _ hb
    split at h00
    ·cases h00
    ·rename_i hs
     exact⟨by simpa using hs,Bp hb⟩
   ·cases h00
  obtain⟨hs,hb⟩:=hsp;obtain⟨b,o,s⟩:=a;simp only at hs hb;subst hs;refine⟨b,o,rfl,hb,fun i hi=>?_⟩;obtain⟨ecs,hlen,hc,y,hy⟩:=cellAt i hi;refine⟨ecs,n,y,hlen,fun j hj=>?_,hy⟩
  have ea:((⟨b,o,none⟩:Addr).add (i*k)).add j=⟨b,o+i*k+j,none⟩:=by
   rw[Go.Deep.add_add];unfold Addr.add
   split
   ·rename_i hz
    rw[GL,hz,FM]
   ·rw[GL]
  rw[←hc j hj,ea]
theorem yX {t:TypeId}{fuel:Nat}{cs:List Value}{x:DataW H×List MemPlace} (ht:Tryz.prog.underlying t=some .string) (h:DataW.trod enc Tryz.prog w 0 sp held fuel t cs=some x) (hf:oI t x.1):∃ s:ByteArray,cs=[.string s]∧s.size≤140737488351232:=by
 obtain⟨s,e,hx,hs⟩:=DataW.trod_string ht h;refine⟨s,e,?_⟩;have:=hf s.data.toList.length (by rw[hx];unfold DataW.weights;exact FL ..);simpa using this
theorem sy {t:TypeId}{fs:Array Field}{fuel:Nat}{cs:List Value}{x:DataW H×List MemPlace} (ht:Tryz.prog.underlying t=some (.struct fs)) (h:DataW.trod enc Tryz.prog w 0 sp held fuel t cs=some x) (hw:oI t x.1) {i:Nat}{f:Field} (hf:fs[i]?=some f) :
  ∃ n y,DataW.trod enc Tryz.prog w 0 sp held n f.type ((cs.drop f.offset).take (Tryz.prog.cellsOf f.type))=some y∧oI f.type y.1:=by
 obtain⟨xs,n,_,hxe,_,hl,hx⟩:=DataW.trod_struct ht h;have h1:=hx i f hf;have hi:i<xs.length:=by rw[hl];exact (Fh.1 hf).1
 rw[Fr hi] at h1;refine⟨n,_,h1,fun m hm=>hw m ?_⟩;rw[hxe]
 show m∈DataW.weights Tryz.prog t (.agg _)
 unfold DataW.weights;rw[ht];exact DataW.weights_mem_each (j:=i) (by simp only[Hu,GT,hf,Ih]) (by simp only[Hu,Fr hi,Ih]) m hm
theorem Dm {cs:List Value}{o k:Nat}{v:Value} (h:(cs.drop o).take k=[v]):cs[o]?=some v:=by
 have h1:=congrArg (·[0]?) h;simp only[Hm,GA,Hq,FM] at h1
 split at h1
 ·exact h1
 ·cases h1
theorem ol {t:TypeId}{fuel:Nat}{cs:List Value}{x:DataW H×List MemPlace} (ht:Tryz.prog.underlying t=some (.slice 34)) (h:DataW.trod enc Tryz.prog w 0 sp held fuel t cs=some x) (hf:oI t x.1) :
  ∃ (p:Option Addr) (cap:Nat) (l:List ByteArray),cs=[.slice p l.length cap]∧IsS w (.slice p l.length cap) l:=by
 obtain⟨p,len,cap,rfl,hl,hm,hr,hx⟩:=BE ht (by kernel_rfl:Tryz.prog.cellsOf 34=1) (by decide) (of_decide_eq_true (by kernel_rfl)) h hf;by_cases h0:0<len
 ·obtain⟨b,o,rfl,hb,hx⟩:=hx h0
  obtain⟨l,rfl,hp⟩:=wB len (fun i (s:ByteArray)=>w.cell? ⟨b,o+i,none⟩=some (.string s)) (fun i hi=>by
   obtain⟨ecs,n,y,h1,h2,h3,h4⟩:=hx i hi;obtain⟨s,rfl,-⟩:=yX BR h3 h4
   exact⟨s,by have:=h2 0 (by omega);rw[GE,FM] at this;exact this⟩)
  refine⟨_,cap,l,rfl,⟨_,cap,by rw[Fp],by rw[Fp];exact hl,hm,fun _=>⟨b,o,rfl,hb,fun i hi j u hu=>?_⟩⟩⟩;have hi':i<l.length:=by simpa using hi
  rw[Gb] at hu
  have hj:j=0:=by
   rcases j with _ | j
   ·rfl
   ·simp[cellsOf] at hu
  subst hj;have hu':Value.string l[i]=u:=by simpa[cellsOf] using hu
  rw[←hu',GE,FM];exact hp i hi'
 ·obtain rfl:len=0:=by omega
  exact⟨p,cap,[],rfl,⟨p,cap,rfl,Fk _,hm,fun h=>absurd h (Nat.lt_irrefl 0)⟩⟩
theorem xW {v:Value}{d:DataW H}{pl:List MemPlace} (h:DataW.Trod enc Tryz.prog w 0 sp held 24 v d pl) (hf:oI 24 d) (hv:∃ cs,v=.agg cs):∃ a b,IsF w v a b:=by
 obtain⟨fuel,h⟩:=h
 obtain⟨n0,y0,f0,gf0⟩:=sy Tryz.underlying24 h hf (i:=0) rfl
 obtain⟨n1,y1,f1,gf1⟩:=sy Tryz.underlying24 h hf (i:=1) rfl
 obtain⟨xs,_,_,_,hcl,_,_⟩:=DataW.trod_struct Tryz.underlying24 h
 have hc1:Tryz.prog.cellsOf 24=2:=by kernel_rfl
 obtain⟨p1,c1,al,e1,hq1⟩:=ol w_ f0 gf0
 obtain⟨p2,c2,fl,e2,hq2⟩:=ol w_ f1 gf1
 have g1:=Dm e1
 have g2:=Dm e2
 obtain⟨cs,rfl⟩:=hv
 rw[hc1] at hcl
 have hcs:(Value.agg cs).cells.toList=[.slice p1 al.length c1,.slice p2 fl.length c2]:=by
  revert hcl g1 g2
  generalize (Value.agg cs).cells.toList=l
  intro hcl g1 g2
  match l,hcl,g1,g2 with
  | [a,b],_,g1,g2 =>
   have ha:a=.slice p1 al.length c1:=by
    have h1:[a,b][0]?=some (Value.slice p1 al.length c1):=g1
    simpa using h1
   have hb:b=.slice p2 fl.length c2:=by
    have h1:[a,b][1]?=some (Value.slice p2 fl.length c2):=g2
    simpa using h1
   rw[ha,hb]
 refine⟨al,fl,⟨p1,c1,p2,c2,?_,hq1,hq2⟩⟩
 have:cs.toList=[.slice p1 al.length c1,.slice p2 fl.length c2]:=hcs
 rw[show cs=#[.slice p1 al.length c1,.slice p2 fl.length c2] from Array.toList_inj.1 this]
end
open Go.RowKit Dc Dg
open Go.ChangeShapes Go.WideShapes Go.ChangeAt
set_option maxRecDepth 100000
theorem own:ownKnob Tryz.prog.godebug=none:=by kernel_rfl
def pC:List (String×DataW Unit):=[("math/bits.deBruijn32tab", Rows.laid_math_bits_deBruijn32tab),("math/bits.deBruijn64tab", Rows.laid_math_bits_deBruijn64tab),("internal/strconv.uint64pow10", Rows.laid_internal_strconv_uint64pow10),("unicode/utf8.acceptRanges", Rows.laid_unicode_utf8_acceptRanges),("strconv.ErrRange", Rows.laid_strconv_ErrRange),("strconv.ErrSyntax", Rows.laid_strconv_ErrSyntax),("unicode/utf8.first", Rows.laid_unicode_utf8_first)]
theorem sP {H:Type}{enc:TypeId×Value→H}{a:Assume}{C:Checked}{os:Os}{f:FuncId}{fn:Func}{s:ChangeSpec}{conds:List PathCond}{apart fresh handsOn again:Bool}{X:World→Array Value→Prop}
  (hX:∀ (w w':World) (args:Array Value),w.heap=w'.heap→X w args→X w' args)
  (own:ownKnob C.prog.godebug=none) (started:os.Started) (noInit:C.prog.inits.idxOf? f=none) (hfn:C.prog.funcs[f]?=some fn)
  (witness:∃ (w:World) (tape:Tape) (i:Input),w.os=os∧(w.forCall tape i).Shaped C.prog∧i.vars=[]∧Input.okWide C.prog (w.forCall tape i) .any w.heap.size f i ∧
   ((s.pre enc C.prog fn conds apart (w.forCall tape i).memory i.args∧X (w.forCall tape i).memory i.args)∧sizedMet enc C.prog fn (OpenSpec.ofChange s) apart (w.forCall tape i).memory i.args)∧a.holds C.prog (lone (Frame.enter C.prog f i.args .normal) [] (w.forCall tape i)))
  (contract:∀ (W:World) (base:Nat) (args:Array Value) (ds gs:List (DataW H)) (before:List MemPlace),
   (∀ (j:Nat) t v,fn.params[j]?=some t→args[j]?=some v→Value.okWide C.prog W .any base t v) →
   DataW.Whole enc C.prog fn.params.toList s.vars apart W args.toList ds gs before →
   (DataW.weightsEach C.prog (fn.params.toList++s.plain.varTypes C.prog) (ds++gs)).all (·≤reachBytes)=true→X W args→W.ShapedOpen C.prog →
   Calls C.prog f args W fun e W'=>∃ v,e=.returned v∧s.post enc C.prog fn apart fresh handsOn again W args v W') :
  ReturnsInHanded a C os f .any (fun w args=>(s.pre enc C.prog fn conds apart w args∧X w args)∧sizedMet enc C.prog fn (OpenSpec.ofChange s) apart w args) (s.post enc C.prog fn apart fresh handsOn again):=by
 refine returnsInHanded_of_calls own started noInit witness ?_;intro w tape i _ hsh _ hok hpre hholds;obtain⟨_,_,_,fn',hfn',_,_,_,_,hval⟩:=hok;have e:fn'=fn:=Option.some.inj (hfn'.symm.trans hfn);subst e;obtain⟨⟨⟨ds,gs,before,hw,hc⟩,hx⟩,hz⟩:=hpre;have hw':=DataW.Whole.of_heap (w':=w.forCall tape i) (by rfl) hw;refine (contract (w.forCall tape i) w.heap.size i.args ds gs before hval hw' (hz.weights hw) (hX _ _ _ (by rfl) hx) hsh).mono fun e W' ⟨v,he,hp⟩=>?_;subst he;exact ChangeSpec.post_blind hp
theorem sI {H:Type}{enc:TypeId×Value→H}{w:World}{base:Nat}{sp:Nat→Bool}{held:Bool}{fuel:Nat}{t:TypeId}{cs:List Value}{n:String}{d:DataW H}{p:List MemPlace}{ms:Array (String×TypeId)} (ht:Tryz.prog.underlying t=some (.interface ms)) (h:DataW.trod enc Tryz.prog w base sp held fuel t cs=some (.iface n d,p)):∃ u v,cs=[.iface u v]:=by
 cases fuel with
 | zero=>simp[DataW.trod] at h
 | succ fuel =>
  unfold DataW.trod at h;rw[ht] at h
  split at h<;>first | (cases h;done) | skip
  all_goals first | exact⟨_,_,rfl⟩ | (simp_all;done)
theorem A0:(Rows.laid_internal_strconv_uint64pow10:DataW Unit)=Lib.tabData .u64 Lib.pow10Tab:=by kernel_rfl
theorem EI {W:World} (hL:laidMetH Tryz.prog pC W) (hsh:W.ShapedOpen Tryz.prog):Gx W:=by
 rw[Go.MakeChecks.laidMetH_plain _ _ _ (by kernel_rfl)] at hL;obtain⟨ps,hv,_,_⟩:=hL;unfold pC at hv;obtain⟨g6,t6,c6,f6,p6,q6,hg6,ht6,hv6,hd6,hv,_⟩:=hv;obtain⟨g7,t7,c7,f7,p7,q7,hg7,ht7,hv7,hd7,hv,_⟩:=hv;obtain⟨g5,t5,c5,f5,p5,q5,hg5,ht5,hv5,hd5,hv,_⟩:=hv;obtain⟨g4,t4,c4,f4,p4,q4,hg4,ht4,hv4,hd4,hv,_⟩:=hv;obtain⟨g1,t1,c1,f1,p1,q1,hg1,ht1,hv1,hd1,hv,_⟩:=hv;obtain⟨g0,t0,c0,f0,p0,q0,hg0,ht0,hv0,hd0,_,_⟩:=hv
 have n0:Tryz.prog.globalNamed "strconv.ErrSyntax" = some 0:=by kernel_rfl
 have n1:Tryz.prog.globalNamed "strconv.ErrRange" = some 1:=by kernel_rfl
 have n5:=l3;have y0:(Tryz.prog.globals[0]?).map (·.type)=some 169:=by kernel_rfl
 have y1:(Tryz.prog.globals[1]?).map (·.type)=some 169:=by kernel_rfl
 obtain rfl:=Option.some.inj (n0.symm.trans hg0);obtain rfl:=Option.some.inj (n1.symm.trans hg1);obtain rfl:=Option.some.inj (n5.symm.trans hg5);obtain rfl:=Option.some.inj (y0.symm.trans ht0);obtain rfl:=Option.some.inj (y1.symm.trans ht1);have hif:=Tryz.underlying169;have k0:=World.var?_cell hg0 hv0 0;have k1:=World.var?_cell hg1 hv1 0;obtain⟨u0,v0,e0⟩:=sI hif hd0;obtain⟨u1,v1,e1⟩:=sI hif hd1;rw[←GT,e0] at k0;rw[←GT,e1] at k1;rw[A0] at hd5
 obtain⟨T,hT,e,hu,he⟩:∃ T,(Tryz.prog.globals[5]?).map (·.type)=some T∧∃ e,Tryz.prog.underlying T=some (.array 20 e)∧(Tryz.prog.underlying e=some (.int .u64)∧Tryz.prog.cellsOf e=1∧Tryz.prog.cellsOf T=20) :=
  ⟨312,by kernel_rfl,193,by kernel_rfl,by kernel_rfl,by kernel_rfl,by kernel_rfl⟩
 obtain rfl:=Option.some.inj (hT.symm.trans ht5);have ep:=Lib.cells_of_tab hu he.1 he.2.1 he.2.2 hd5
 have hsz:8≤W.heap.size:=by
  have h7:(((begin Tryz.prog (fun _ _=>0) default).world.heap[7]?).bind Obj.row?).isSome=true:=by kernel_rfl
  obtain⟨⟨zero,t⟩,hz⟩:=Option.isSome_iff_exists.1 h7;obtain⟨cs,hh,_⟩:=hsh.1 7 zero t (of_decide_eq_true (by kernel_rfl)) hz;have:=Bp hh;omega
 refine⟨⟨?_,?_,hsz⟩,⟨u0,v0,k0⟩,⟨u1,v1,k1⟩⟩
 ·unfold rL Lib.TabIs;rw[hv5,←ep]
 ·exact cell_of_shapedOpen_int (g:=2) (t:=3) (zero:=#[.int .i64 0]) hsh (of_decide_eq_true (by kernel_rfl)) (by kernel_rfl) rfl (by kernel_rfl) (by kernel_rfl) und3
open Go.RowKit Dg
theorem yf (v:Value) (a b:List ByteArray) (k:ByteArray) (n:Int) (w:World) (hF:IsF w v a b) (hG:Gx w) :
  Calls Tryz.prog 5 #[v,.string k,.int .i64 n] w fun e w'=>e=.returned (.bool true)∧Below w.heap.size w w':=by
 have HF:=E5 hF;have HG:=E5 hG;obtain⟨p,c,q,d,rfl,hfa,hfb⟩:=id hF.ex;go_enter Tryz.func5,Tryz.ntmps5;go_upto_region 1 with fail
 have l1:=aT w (.cells #[.slice p a.length c,.slice q b.length d] 24);have z1:=size_alloc w (.cells #[.slice p a.length c,.slice q b.length d] 24);have hBB:=l1.below;have s0:=l1.s0;generalize w.alloc (.cells #[.slice p a.length c,.slice q b.length d] 24)=w2 at *
 clear l1 hF hfa hfb;have hz:w.heap.size+1≤w2.heap.size:=Ho z1.symm;have LF:=E5 (fun (wx:World) (h:Below (w.heap.size+1) w2 wx)=>HF.out.below (hBB.trans (h.mono (FP _ _))));have LG:=E5 (fun (wx:World) (h:Below (w.heap.size+1) w2 wx)=>HG.out.below (hBB.trans (h.mono (FP _ _))));have HBB:=E5 hBB;have hBw:Below (w.heap.size+1) w2 w2:=Below.refl _ _;have q0:=ae s0 0;have q1:=ae s0 1;clear z1 hBB;have HLN:=E5 (gD (fa:=a) (fb:=b) (ga:=a) (gb:=b) (r:=fJ a b k));change Hid ((dS a b k).1.1.length≤7∧(dS a b k).1.2.length≤7) at HLN;have HS1:=fun (wx:World) (h:Below (w.heap.size+1) w2 wx)=>Ce (.agg #[.slice p a.length c,.slice q b.length d]) a b k wx (LF.out wx h) (LG.out wx h);have HS2:=fun (wx:World) (h:Below (w.heap.size+1) w2 wx)=>uY (.agg #[.slice p a.length c,.slice q b.length d]) a b k wx (LF.out wx h);obtain⟨⟨⟨L1,L2⟩,er⟩,hR0⟩:∃ R0:(List ByteArray×List ByteArray)×Int,R0=dS a b k:=⟨_,rfl⟩;rw[←hR0] at HLN HS1 HS2;simp only at HLN;have HC1:=E5 HS1;have HC2:=E5 HS2;clear hR0 HS1 HS2;go_wp2_with fail
 refine (HC1.out w2 hBw).mono ?_;rintro e wn ⟨v,rfl,hv,hb⟩;replace hv:=hv.isF;simp only at hv ⊢;obtain⟨p1,c1,p2,c2,rfl,-,-⟩:=id hv.ex;replace hBw:=hBw.trans (hb.mono hz);replace hz:=Fj hz hb.size;clear q0 q1;have q0:=ae ((hBw.block w.heap.size (by omega)).trans s0) 0;have q1:=ae ((hBw.block w.heap.size (by omega)).trans s0) 1;clear HC1 hb;have lx:=aT wn (.cells #[.slice p1 L1.length c1,.slice p2 L2.length c2] 24);have hbx:=lx.below;have sa:=lx.s0;clear lx;have hga:=hz;replace hBw:=hBw.trans (hbx.mono hz);replace hz:=Fj hz hbx.size;clear q0 q1;have q0:=ae ((hBw.block w.heap.size (by omega)).trans s0) 0;have q1:=ae ((hBw.block w.heap.size (by omega)).trans s0) 1;replace hv:=hv.below hbx;go_wp2_with fail
 generalize World.alloc wn (.cells #[.slice p1 L1.length c1,.slice p2 L2.length c2] 24)=wm at *
 generalize (World.heap wn).size=ga at *
 clear hbx;rename World=>wn;refine (HC2.out wn hBw).mono ?_;rintro e wn ⟨v2,rfl,hv2,hb⟩;simp only at hv2 ⊢;obtain⟨p3,c3,p4,c4,rfl,-,-⟩:=id hv2.ex;replace hv:=hv.below hb;clear HC2;replace sa:=(hb.block _ (ag sa)).trans sa;replace hBw:=hBw.trans (hb.mono hz);replace hz:=Fj hz hb.size;clear q0 q1;have q0:=ae ((hBw.block w.heap.size (by omega)).trans s0) 0;have q1:=ae ((hBw.block w.heap.size (by omega)).trans s0) 1;clear hb;have lx:=aT wn (.cells #[.slice p3 L1.length c3,.slice p4 L2.length c4] 24);have hbx:=lx.below;have sb:=lx.s0;clear lx;have hgb:=hz;replace hBw:=hBw.trans (hbx.mono hz);replace hz:=Fj hz hbx.size;clear q0 q1;have q0:=ae ((hBw.block w.heap.size (by omega)).trans s0) 0;have q1:=ae ((hBw.block w.heap.size (by omega)).trans s0) 1;replace hv:=hv.below hbx;replace hv2:=hv2.below hbx;have hab:ga<wn.heap.size:=ag sa;replace sa:=(hbx.block _ (ag sa)).trans sa;have a0:=ae sa 0;have a1:=ae sa 1;have b0:=ae sb 0;have b1:=ae sb 1;go_wp2_with fail
 generalize World.alloc wn (.cells #[.slice p3 L1.length c3,.slice p4 L2.length c4] 24)=wm at *
 generalize (World.heap wn).size=gb at *
 clear hbx;rename World=>wn;refine (mC _ _ L1 L2 er wn hv hv2 (by have:=HLN.out;omega) (by have:=HLN.out;omega)).mono ?_;rintro e wn ⟨rfl,hb⟩;replace sa:=(hb.block _ (ag sa)).trans sa;replace sb:=(hb.block _ (ag sb)).trans sb;replace hBw:=hBw.trans (hb.mono hz);replace hz:=Fj hz hb.size;clear q0 q1;have q0:=ae ((hBw.block w.heap.size (by omega)).trans s0) 0;have q1:=ae ((hBw.block w.heap.size (by omega)).trans s0) 1;clear hv hv2 HLN hb a0 a1 b0 b1;have HLN:=E5 (gD (fa:=a) (fb:=b) (ga:=a) (gb:=b) (r:=gM a b n));change Hid ((cR a b n).1.1.length≤7∧(cR a b n).1.2.length≤7) at HLN;have HS1:=fun (wx:World) (h:Below (w.heap.size+1) w2 wx)=>zh (.agg #[.slice p a.length c,.slice q b.length d]) a b n wx (LF.out wx h) (LG.out wx h);have HS2:=fun (wx:World) (h:Below (w.heap.size+1) w2 wx)=>tz (.agg #[.slice p a.length c,.slice q b.length d]) a b n wx (LF.out wx h);obtain⟨⟨⟨L1,L2⟩,er⟩,hR0⟩:∃ R0:(List ByteArray×List ByteArray)×Int,R0=cR a b n:=⟨_,rfl⟩;rw[←hR0] at HLN HS1 HS2;simp only at HLN;have HC1:=E5 HS1;have HC2:=E5 HS2;clear hR0 HS1 HS2;go_wp2_with fail
 refine (HC1.out wn hBw).mono ?_;rintro e wn ⟨v,rfl,hv,hb⟩;replace hv:=hv.isF;simp only at hv ⊢;obtain⟨p1,c1,p2,c2,rfl,-,-⟩:=id hv.ex;replace hBw:=hBw.trans (hb.mono hz);replace hz:=Fj hz hb.size;clear q0 q1;have q0:=ae ((hBw.block w.heap.size (by omega)).trans s0) 0;have q1:=ae ((hBw.block w.heap.size (by omega)).trans s0) 1;clear HC1;replace sa:=(hb.block _ (ag sa)).trans sa;replace sb:=(hb.block _ (ag sb)).trans sb;clear hb;have t0:=ae sa 0;have t1:=ae sa 1;have f0:=ap sa 0;have f1:=ap sa 1;replace sb:=((heap_setCell_other (wn.setCell ⟨ga,0,none⟩ (.slice p1 L1.length c1)) ⟨ga,1,none⟩ gb (.slice p2 L2.length c2) (show gb≠ga by omega)).trans (heap_setCell_other wn ⟨ga,0,none⟩ gb (.slice p1 L1.length c1) (show gb≠ga by omega))).trans sb;have hkeep:=fun (v:Value) (l m:List ByteArray) (h:IsF wn v l m)=>eo (x:=.slice p1 L1.length c1) (y:=.slice p2 L2.length c2) sa cZ h;replace sa:=aI sa (.slice p1 L1.length c1) (.slice p2 L2.length c2);replace hBw:=(hBw.setCell (p:=⟨ga,0,none⟩) hga (.slice p1 L1.length c1)).setCell (p:=⟨ga,1,none⟩) hga (.slice p2 L2.length c2);clear q0 q1;have q0:=ae ((hBw.block w.heap.size (by omega)).trans s0) 0;have q1:=ae ((hBw.block w.heap.size (by omega)).trans s0) 1;replace hv:=hkeep _ _ _ hv;clear hkeep;go_wp2_with fail
 clear t0 t1 f0 f1;replace hz:w.heap.size+1≤((wn.setCell ⟨ga,0,none⟩ (.slice p1 L1.length c1)).setCell ⟨ga,1,none⟩ (.slice p2 L2.length c2)).heap.size:=by simpa[World.setCell] using hz
 generalize (wn.setCell ⟨ga,0,none⟩ (.slice p1 L1.length c1)).setCell ⟨ga,1,none⟩ (.slice p2 L2.length c2)=wm at *
 rename World=>wn;refine (HC2.out wn hBw).mono ?_;rintro e wn ⟨v2,rfl,hv2,hb⟩;simp only at hv2 ⊢;obtain⟨p3,c3,p4,c4,rfl,-,-⟩:=id hv2.ex;replace hv:=hv.below hb;clear HC2;replace sa:=(hb.block _ (ag sa)).trans sa;replace sb:=(hb.block _ (ag sb)).trans sb;replace hBw:=hBw.trans (hb.mono hz);replace hz:=Fj hz hb.size;clear q0 q1;have q0:=ae ((hBw.block w.heap.size (by omega)).trans s0) 0;have q1:=ae ((hBw.block w.heap.size (by omega)).trans s0) 1;clear hb;have t0:=ae sb 0;have t1:=ae sb 1;have f0:=ap sb 0;have f1:=ap sb 1;replace sa:=((heap_setCell_other (wn.setCell ⟨gb,0,none⟩ (.slice p3 L1.length c3)) ⟨gb,1,none⟩ ga (.slice p4 L2.length c4) (show ga≠gb by omega)).trans (heap_setCell_other wn ⟨gb,0,none⟩ ga (.slice p3 L1.length c3) (show ga≠gb by omega))).trans sa;have hkeep:=fun (v:Value) (l m:List ByteArray) (h:IsF wn v l m)=>eo (x:=.slice p3 L1.length c3) (y:=.slice p4 L2.length c4) sb cZ h;replace sb:=aI sb (.slice p3 L1.length c3) (.slice p4 L2.length c4);replace hBw:=(hBw.setCell (p:=⟨gb,0,none⟩) hgb (.slice p3 L1.length c3)).setCell (p:=⟨gb,1,none⟩) hgb (.slice p4 L2.length c4);clear q0 q1;have q0:=ae ((hBw.block w.heap.size (by omega)).trans s0) 0;have q1:=ae ((hBw.block w.heap.size (by omega)).trans s0) 1;replace hv:=hkeep _ _ _ hv;replace hv2:=hkeep _ _ _ hv2;clear hkeep;have a0:=ae sa 0;have a1:=ae sa 1;have b0:=ae sb 0;have b1:=ae sb 1;go_wp2_with fail
 clear t0 t1 f0 f1;replace hz:w.heap.size+1≤((wn.setCell ⟨gb,0,none⟩ (.slice p3 L1.length c3)).setCell ⟨gb,1,none⟩ (.slice p4 L2.length c4)).heap.size:=by simpa[World.setCell] using hz
 generalize (wn.setCell ⟨gb,0,none⟩ (.slice p3 L1.length c3)).setCell ⟨gb,1,none⟩ (.slice p4 L2.length c4)=wm at *
 rename World=>wn;refine (mC _ _ L1 L2 er wn hv hv2 (by have:=HLN.out;omega) (by have:=HLN.out;omega)).mono ?_;rintro e wn ⟨rfl,hb⟩;replace sa:=(hb.block _ (ag sa)).trans sa;replace sb:=(hb.block _ (ag sb)).trans sb;replace hBw:=hBw.trans (hb.mono hz);replace hz:=Fj hz hb.size;clear q0 q1;have q0:=ae ((hBw.block w.heap.size (by omega)).trans s0) 0;have q1:=ae ((hBw.block w.heap.size (by omega)).trans s0) 1;clear hv hv2 HLN hb a0 a1 b0 b1;have HLN:=E5 (gD (fa:=a) (fb:=b) (ga:=a) (gb:=b) (r:=dh a a b));change Hid ((eA a b).1.1.length≤7∧(eA a b).1.2.length≤7) at HLN;have HS1:=fun (wx:World) (h:Below (w.heap.size+1) w2 wx)=>vJ (.agg #[.slice p a.length c,.slice q b.length d]) a b wx (LF.out wx h) (LG.out wx h);have HS2:=fun (wx:World) (h:Below (w.heap.size+1) w2 wx)=>uX (.agg #[.slice p a.length c,.slice q b.length d]) a b wx (LF.out wx h);obtain⟨⟨⟨L1,L2⟩,er⟩,hR0⟩:∃ R0:(List ByteArray×List ByteArray)×Int,R0=eA a b:=⟨_,rfl⟩;rw[←hR0] at HLN HS1 HS2;simp only at HLN;have HC1:=E5 HS1;have HC2:=E5 HS2;clear hR0 HS1 HS2;go_wp2_with fail
 refine (HC1.out wn hBw).mono ?_;rintro e wn ⟨v,rfl,hv,hb⟩;replace hv:=hv.isF;simp only at hv ⊢;obtain⟨p1,c1,p2,c2,rfl,-,-⟩:=id hv.ex;replace hBw:=hBw.trans (hb.mono hz);replace hz:=Fj hz hb.size;clear q0 q1;have q0:=ae ((hBw.block w.heap.size (by omega)).trans s0) 0;have q1:=ae ((hBw.block w.heap.size (by omega)).trans s0) 1;clear HC1;replace sa:=(hb.block _ (ag sa)).trans sa;replace sb:=(hb.block _ (ag sb)).trans sb;clear hb;have t0:=ae sa 0;have t1:=ae sa 1;have f0:=ap sa 0;have f1:=ap sa 1;replace sb:=((heap_setCell_other (wn.setCell ⟨ga,0,none⟩ (.slice p1 L1.length c1)) ⟨ga,1,none⟩ gb (.slice p2 L2.length c2) (show gb≠ga by omega)).trans (heap_setCell_other wn ⟨ga,0,none⟩ gb (.slice p1 L1.length c1) (show gb≠ga by omega))).trans sb;have hkeep:=fun (v:Value) (l m:List ByteArray) (h:IsF wn v l m)=>eo (x:=.slice p1 L1.length c1) (y:=.slice p2 L2.length c2) sa cZ h;replace sa:=aI sa (.slice p1 L1.length c1) (.slice p2 L2.length c2);replace hBw:=(hBw.setCell (p:=⟨ga,0,none⟩) hga (.slice p1 L1.length c1)).setCell (p:=⟨ga,1,none⟩) hga (.slice p2 L2.length c2);clear q0 q1;have q0:=ae ((hBw.block w.heap.size (by omega)).trans s0) 0;have q1:=ae ((hBw.block w.heap.size (by omega)).trans s0) 1;replace hv:=hkeep _ _ _ hv;clear hkeep;go_wp2_with fail
 clear t0 t1 f0 f1;replace hz:w.heap.size+1≤((wn.setCell ⟨ga,0,none⟩ (.slice p1 L1.length c1)).setCell ⟨ga,1,none⟩ (.slice p2 L2.length c2)).heap.size:=by simpa[World.setCell] using hz
 generalize (wn.setCell ⟨ga,0,none⟩ (.slice p1 L1.length c1)).setCell ⟨ga,1,none⟩ (.slice p2 L2.length c2)=wm at *
 rename World=>wn;refine (HC2.out wn hBw).mono ?_;rintro e wn ⟨v2,rfl,hv2,hb⟩;simp only at hv2 ⊢;obtain⟨p3,c3,p4,c4,rfl,-,-⟩:=id hv2.ex;replace hv:=hv.below hb;clear HC2;replace sa:=(hb.block _ (ag sa)).trans sa;replace sb:=(hb.block _ (ag sb)).trans sb;replace hBw:=hBw.trans (hb.mono hz);replace hz:=Fj hz hb.size;clear q0 q1;have q0:=ae ((hBw.block w.heap.size (by omega)).trans s0) 0;have q1:=ae ((hBw.block w.heap.size (by omega)).trans s0) 1;clear hb;have t0:=ae sb 0;have t1:=ae sb 1;have f0:=ap sb 0;have f1:=ap sb 1;replace sa:=((heap_setCell_other (wn.setCell ⟨gb,0,none⟩ (.slice p3 L1.length c3)) ⟨gb,1,none⟩ ga (.slice p4 L2.length c4) (show ga≠gb by omega)).trans (heap_setCell_other wn ⟨gb,0,none⟩ ga (.slice p3 L1.length c3) (show ga≠gb by omega))).trans sa;have hkeep:=fun (v:Value) (l m:List ByteArray) (h:IsF wn v l m)=>eo (x:=.slice p3 L1.length c3) (y:=.slice p4 L2.length c4) sb cZ h;replace sb:=aI sb (.slice p3 L1.length c3) (.slice p4 L2.length c4);replace hBw:=(hBw.setCell (p:=⟨gb,0,none⟩) hgb (.slice p3 L1.length c3)).setCell (p:=⟨gb,1,none⟩) hgb (.slice p4 L2.length c4);clear q0 q1;have q0:=ae ((hBw.block w.heap.size (by omega)).trans s0) 0;have q1:=ae ((hBw.block w.heap.size (by omega)).trans s0) 1;replace hv:=hkeep _ _ _ hv;replace hv2:=hkeep _ _ _ hv2;clear hkeep;have a0:=ae sa 0;have a1:=ae sa 1;have b0:=ae sb 0;have b1:=ae sb 1;go_wp2_with fail
 clear t0 t1 f0 f1;replace hz:w.heap.size+1≤((wn.setCell ⟨gb,0,none⟩ (.slice p3 L1.length c3)).setCell ⟨gb,1,none⟩ (.slice p4 L2.length c4)).heap.size:=by simpa[World.setCell] using hz
 generalize (wn.setCell ⟨gb,0,none⟩ (.slice p3 L1.length c3)).setCell ⟨gb,1,none⟩ (.slice p4 L2.length c4)=wm at *
 rename World=>wn;refine (mC _ _ L1 L2 er wn hv hv2 (by have:=HLN.out;omega) (by have:=HLN.out;omega)).mono ?_;rintro e wn ⟨rfl,hb⟩;replace sa:=(hb.block _ (ag sa)).trans sa;replace sb:=(hb.block _ (ag sb)).trans sb;replace hBw:=hBw.trans (hb.mono hz);replace hz:=Fj hz hb.size;clear q0 q1;have q0:=ae ((hBw.block w.heap.size (by omega)).trans s0) 0;have q1:=ae ((hBw.block w.heap.size (by omega)).trans s0) 1;clear hv hv2 HLN hb a0 a1 b0 b1;have HLN:=E5 (gD (fa:=a) (fb:=b) (ga:=a) (gb:=b) (r:=dh b a b));change Hid ((iW a b).1.1.length≤7∧(iW a b).1.2.length≤7) at HLN;have HS1:=fun (wx:World) (h:Below (w.heap.size+1) w2 wx)=>Dl (.agg #[.slice p a.length c,.slice q b.length d]) a b wx (LF.out wx h) (LG.out wx h);have HS2:=fun (wx:World) (h:Below (w.heap.size+1) w2 wx)=>Bk (.agg #[.slice p a.length c,.slice q b.length d]) a b wx (LF.out wx h);obtain⟨⟨⟨L1,L2⟩,er⟩,hR0⟩:∃ R0:(List ByteArray×List ByteArray)×Int,R0=iW a b:=⟨_,rfl⟩;rw[←hR0] at HLN HS1 HS2;simp only at HLN;have HC1:=E5 HS1;have HC2:=E5 HS2;clear hR0 HS1 HS2;go_wp2_with fail
 refine (HC1.out wn hBw).mono ?_;rintro e wn ⟨v,rfl,hv,hb⟩;replace hv:=hv.isF;simp only at hv ⊢;obtain⟨p1,c1,p2,c2,rfl,-,-⟩:=id hv.ex;replace hBw:=hBw.trans (hb.mono hz);replace hz:=Fj hz hb.size;clear q0 q1;have q0:=ae ((hBw.block w.heap.size (by omega)).trans s0) 0;have q1:=ae ((hBw.block w.heap.size (by omega)).trans s0) 1;clear HC1;replace sa:=(hb.block _ (ag sa)).trans sa;replace sb:=(hb.block _ (ag sb)).trans sb;clear hb;have t0:=ae sa 0;have t1:=ae sa 1;have f0:=ap sa 0;have f1:=ap sa 1;replace sb:=((heap_setCell_other (wn.setCell ⟨ga,0,none⟩ (.slice p1 L1.length c1)) ⟨ga,1,none⟩ gb (.slice p2 L2.length c2) (show gb≠ga by omega)).trans (heap_setCell_other wn ⟨ga,0,none⟩ gb (.slice p1 L1.length c1) (show gb≠ga by omega))).trans sb;have hkeep:=fun (v:Value) (l m:List ByteArray) (h:IsF wn v l m)=>eo (x:=.slice p1 L1.length c1) (y:=.slice p2 L2.length c2) sa cZ h;replace sa:=aI sa (.slice p1 L1.length c1) (.slice p2 L2.length c2);replace hBw:=(hBw.setCell (p:=⟨ga,0,none⟩) hga (.slice p1 L1.length c1)).setCell (p:=⟨ga,1,none⟩) hga (.slice p2 L2.length c2);clear q0 q1;have q0:=ae ((hBw.block w.heap.size (by omega)).trans s0) 0;have q1:=ae ((hBw.block w.heap.size (by omega)).trans s0) 1;replace hv:=hkeep _ _ _ hv;clear hkeep;go_wp2_with fail
 clear t0 t1 f0 f1;replace hz:w.heap.size+1≤((wn.setCell ⟨ga,0,none⟩ (.slice p1 L1.length c1)).setCell ⟨ga,1,none⟩ (.slice p2 L2.length c2)).heap.size:=by simpa[World.setCell] using hz
 generalize (wn.setCell ⟨ga,0,none⟩ (.slice p1 L1.length c1)).setCell ⟨ga,1,none⟩ (.slice p2 L2.length c2)=wm at *
 rename World=>wn;refine (HC2.out wn hBw).mono ?_;rintro e wn ⟨v2,rfl,hv2,hb⟩;simp only at hv2 ⊢;obtain⟨p3,c3,p4,c4,rfl,-,-⟩:=id hv2.ex;replace hv:=hv.below hb;clear HC2;replace sa:=(hb.block _ (ag sa)).trans sa;replace sb:=(hb.block _ (ag sb)).trans sb;replace hBw:=hBw.trans (hb.mono hz);replace hz:=Fj hz hb.size;clear q0 q1;have q0:=ae ((hBw.block w.heap.size (by omega)).trans s0) 0;have q1:=ae ((hBw.block w.heap.size (by omega)).trans s0) 1;clear hb;have t0:=ae sb 0;have t1:=ae sb 1;have f0:=ap sb 0;have f1:=ap sb 1;replace sa:=((heap_setCell_other (wn.setCell ⟨gb,0,none⟩ (.slice p3 L1.length c3)) ⟨gb,1,none⟩ ga (.slice p4 L2.length c4) (show ga≠gb by omega)).trans (heap_setCell_other wn ⟨gb,0,none⟩ ga (.slice p3 L1.length c3) (show ga≠gb by omega))).trans sa;have hkeep:=fun (v:Value) (l m:List ByteArray) (h:IsF wn v l m)=>eo (x:=.slice p3 L1.length c3) (y:=.slice p4 L2.length c4) sb cZ h;replace sb:=aI sb (.slice p3 L1.length c3) (.slice p4 L2.length c4);replace hBw:=(hBw.setCell (p:=⟨gb,0,none⟩) hgb (.slice p3 L1.length c3)).setCell (p:=⟨gb,1,none⟩) hgb (.slice p4 L2.length c4);clear q0 q1;have q0:=ae ((hBw.block w.heap.size (by omega)).trans s0) 0;have q1:=ae ((hBw.block w.heap.size (by omega)).trans s0) 1;replace hv:=hkeep _ _ _ hv;replace hv2:=hkeep _ _ _ hv2;clear hkeep;have a0:=ae sa 0;have a1:=ae sa 1;have b0:=ae sb 0;have b1:=ae sb 1;go_wp2_with fail
 clear t0 t1 f0 f1;replace hz:w.heap.size+1≤((wn.setCell ⟨gb,0,none⟩ (.slice p3 L1.length c3)).setCell ⟨gb,1,none⟩ (.slice p4 L2.length c4)).heap.size:=by simpa[World.setCell] using hz
 generalize (wn.setCell ⟨gb,0,none⟩ (.slice p3 L1.length c3)).setCell ⟨gb,1,none⟩ (.slice p4 L2.length c4)=wm at *
 rename World=>wn;refine (mC _ _ L1 L2 er wn hv hv2 (by have:=HLN.out;omega) (by have:=HLN.out;omega)).mono ?_;rintro e wn ⟨rfl,hb⟩;replace sa:=(hb.block _ (ag sa)).trans sa;replace sb:=(hb.block _ (ag sb)).trans sb;replace hBw:=hBw.trans (hb.mono hz);replace hz:=Fj hz hb.size;clear q0 q1;have q0:=ae ((hBw.block w.heap.size (by omega)).trans s0) 0;have q1:=ae ((hBw.block w.heap.size (by omega)).trans s0) 1;clear hv hv2 HLN hb a0 a1 b0 b1;have HW:=E5 (Eu wn (LG.out wn hBw));have HBF:=E5 (HBB.out.trans (hBw.mono (FP _ _)));clear sa sb q0 q1 hBw;go_wp2_with fail
 refine HW.out.mono ?_;rintro e wn ⟨rfl,hb⟩;have hBE:=HBF.out.trans (hb.mono HBF.out.size);clear hb;go_wp2;refine bodyPost_ret (v:=.bool true) (by simp[results,Tryz.results5,go_sem]) rfl ⟨rfl,hBE⟩
set_option maxRecDepth 100000
theorem mh (os:Os) (started:os.Started) (H:Type) (enc:TypeId×Value→H) :
  ReturnsInHanded {} Tryz.checked os 5 .any (fun w args=>(Rows.loopMakesSpec.pre enc Tryz.prog Tryz.f5 [] false w args∧laidMetH Tryz.prog pC w)∧sizedMet enc Tryz.prog Tryz.f5 (OpenSpec.ofChange Rows.loopMakesSpec) false w args)
   (Rows.loopMakesSpec.post enc Tryz.prog Tryz.f5 false true false false):=by
 refine sP (C:=Tryz.checked) (X:=fun w _=>laidMetH Tryz.prog pC w) (fun _ _ _ hh h=>h.of_heap hh) own started (by kernel_rfl) Tryz.func5
  (ChangeSpec.witness_shaped (enc:=enc) (C:=Tryz.checked) (os:=os) (X:=fun w _=>laidMetH Tryz.prog pC w) false (World.laidAll Tryz.prog os pC) #[.agg #[.slice none 0 0,.slice none 0 0],.string ⟨#[48]⟩,.int .i64 0] 8 (World.laidAll_os _ _ _)
   (World.shaped_of_ZipB (by kernel_rfl) (by kernel_rfl)) (by kernel_rfl) (by kernel_rfl) (by kernel_rfl)
   (by rw[Go.MakeChecks.laidMetH_plain _ _ _ (by kernel_rfl)];exact laidMet_laidAll _ (by kernel_rfl) (by kernel_rfl))) ?_
 intro W base args ds gs before hval0 hW hwt hL hsh;have hval:∀ (j:Nat) t v,Tryz.f5.params[j]?=some t→args[j]?=some v→Value.okWide Tryz.prog W .any base t v:=hval0;have hW':=hW;obtain⟨p,q,hA0,hV,rfl,_,_⟩:=hW;have hA:DataW.TrodAll enc Tryz.prog W 0 (fun _=>true) true Tryz.f5.params.toList args.toList ds p:=hA0;rw[Tryz.params5] at hA hval;have hwt':(DataW.weightsEach Tryz.prog (Tryz.f5.params.toList++[]) (ds++gs)).all (·≤reachBytes)=true:=hwt;rw[Tryz.params5,Gf] at hwt';obtain⟨v0,v1,v2,d0,d1,d2,p0,p1,p2,rfl,rfl,rfl,h0,h1,h2⟩:=trodAll_three hA;obtain⟨rfl,rfl⟩:=trodVars_none hV;simp only[Gf] at hW' hwt';have hX:=EI hL hsh
 have fits:∀ (j:Nat) (t:TypeId) (d:DataW H),([24,34,3]:List TypeId)[j]?=some t→[d0,d1,d2][j]?=some d→oI t d:=fun j t d ht hd n hn=>by
  have:=FH.1 hwt' n (DataW.weights_mem_each ht hd n hn);exact of_decide_eq_true this
 have hlt:∀ x∈p0++p1++p2,x.block<W.heap.size:=fun x hx=>by simpa using hW'.lt x hx
 have ok0:=hval 0 24 v0 rfl rfl;obtain⟨cs0,hcs0,_⟩:=okWide_struct Tryz.underlying24 ok0;obtain⟨a0,b0,hF0⟩:=xW h0 (fits 0 _ _ rfl rfl) ⟨cs0,hcs0⟩;have ok1:=hval 1 34 v1 rfl rfl;obtain⟨s1,rfl⟩:=okWide_string BR ok1;have ok2:=hval 2 3 v2 rfl rfl;obtain⟨z2,rfl⟩:=okWide_int und3 ok2;refine (yf v0 a0 b0 s1 z2 W hF0 hX).mono fun e W' ⟨he,hb⟩=>?_;subst he;exact⟨_,rfl,_,_,_,[],p0++p1++p2,[],hW',trodAll_mk1 (shut_bool Tryz.underlying4 _),(by rw[FO];exact trodAll_mk3 (Below.trod laidAll (by kernel_rfl) (of_decide_eq_true (by kernel_rfl)) h0 hb (fun x hx=>hlt x (by simp[hx]))) (Below.trod laidAll (by kernel_rfl) (of_decide_eq_true (by kernel_rfl)) h1 hb (fun x hx=>hlt x (by simp[hx]))) (Below.trod laidAll (by kernel_rfl) (of_decide_eq_true (by kernel_rfl)) h2 hb (fun x hx=>hlt x (by simp[hx])))),rfl,hb.frame _,fun h=>by cases h⟩
end Go.Proofs.YtbnkpcfjechfiaaGreatDoor
