/- Lemmas of this claim. -/
import Derived.Deep.Slices
import Derived.OpenShut
import Derived.Test.YtbnkpcfjechfiaaGreatDoorRows
import Derived.ProofKit
import Derived.LaidMore
import Derived.HandedShaped
import Derived.Shelf.Vars
import Derived.Lay
import Derived.Stop.Joined
import Derived.Test.YtbnkpcfjechfiaaGreatDoorTie
import Derived.Test.YtbnkpcfjechfiaaGreatDoorCards
import Derived.SevenTiedAt
import Derived.Test.YtbnkpcfjechfiaaGreatDoorYCoef
import Derived.Test.YtbnkpcfjechfiaaGreatDoorYLP2
import Derived.Test.YtbnkpcfjechfiaaGreatDoorYLB4
import Derived.Test.YtbnkpcfjechfiaaGreatDoorYRV14
import Derived.Test.YtbnkpcfjechfiaaGreatDoorYLB3
import Derived.Test.YtbnkpcfjechfiaaGreatDoorYLE5
set_option linter.all false
set_option maxRecDepth 100000
set_option maxHeartbeats 8000000
namespace Go.Proofs.YtbnkpcfjechfiaaGreatDoor
open Go.RowKit Dc Dg
open Go.ChangeShapes Go.WideShapes
set_option maxRecDepth 100000
theorem laidAll:laidOutB Tryz.prog=true:=by kernel_rfl
theorem und3:Tryz.prog.underlying 3=some (.int .i64):=by kernel_rfl
theorem EJ:Tryz.prog.underlying 34=some .string:=by kernel_rfl
theorem xA:Tryz.prog.underlying 22=some (.slice 34):=by kernel_rfl
theorem BL {w:World}{b:Nat}{o:Obj} (h:w.heap[b]?=some o):b<w.heap.size:=(Fw.1 h).1
theorem wO {α:Type}:∀ (n:Nat) (p:Nat→α→Prop),(∀ i,i<n→∃ x,p i x)→∃ l:List α,l.length=n∧∀ i (h:i<l.length),p i l[i]
 | 0,_,_=>⟨[],rfl,fun i h=>by simp at h⟩
 | n+1,p,h=>by
  obtain⟨l,hl,hp⟩:=wO n p (fun i hi=>h i (by omega));obtain⟨x,hx⟩:=h n (by omega);refine⟨l++[x],by simp[hl],fun i hi=>?_⟩;by_cases hin:i<l.length
  ·rw[FY hin];exact hp i hin
  ·have hie:i=n:=by simp at hi;omega
   subst hie;rw[FV (by omega)];simp only[hl,Hd,Fk];exact hx
section
variable {H : Type} {enc : TypeId × Value → H} {w : World} {sp : Nat → Bool} {held : Bool}
def o7 (t:TypeId) (d:DataW H):Prop:=∀ n∈d.weights Tryz.prog t,n≤140737488351232
theorem jI {e:TypeId}:∀ {l:List (DataW H)}{d:DataW H},d∈l→∀ n∈d.weights Tryz.prog e,n∈DataW.weightsAll Tryz.prog e l
 | [],_,h,_,_=>by cases h
 | x :: l,d,h,n,hn=>by
  unfold DataW.weightsAll;rcases Gy.1 h with rfl | h
  ·exact List.mem_append_left _ hn
  ·exact List.mem_append_right _ (jI h n hn)
theorem BY {t e:TypeId}{k fuel:Nat}{cs:List Value}{x:DataW H×List MemPlace} (ht:Tryz.prog.underlying t=some (.slice e)) (hk:Tryz.prog.cellsOf e=k) (hk0:0<k) (hby:1≤Tryz.prog.bytesOf e) (h:DataW.trod enc Tryz.prog w 0 sp held fuel t cs=some x) (hf:o7 t x.1) :
  ∃ (p:Option Addr) (len cap:Nat),cs=[.slice p len cap]∧len≤cap∧cap≤maxLen∧len≤140737488351232∧(0<len→∃ b o,p=some ⟨b,o,none⟩∧b<w.heap.size∧∀ i,i<len→∃ (ecs:List Value) (n:Nat) (y:DataW H×List MemPlace),ecs.length=k∧(∀ j,j<k→w.cell? ⟨b,o+i*k+j,none⟩=ecs[j]?)∧DataW.trod enc Tryz.prog w 0 sp held n e ecs=some y∧o7 e y.1):=by
 rcases Go.Deep.open_slice ht h with ⟨rfl,_⟩ | ⟨a,len,cap,m,n,D,Pl,rfl,_,hl,hm,hmm,hxe,hx⟩
 ·exact⟨none,0,0,rfl,Fq _,Fz _,Fz _,fun h=>absurd h (Nat.lt_irrefl 0)⟩
 ·have hlm:len≤m:=by rw[hmm];split<;>omega
  have hfe:∀ i,i<len→o7 e (D i):=fun i hi n hn=>hf n (by
   rw[hxe]
   show n∈DataW.weights Tryz.prog t (.slice _ _)
   unfold DataW.weights;rw[ht]
   exact FZ _ (List.mem_append_left _ (jI (IP.2 ⟨i,G8.2 hi,rfl⟩) n hn)))
  have hlr:len≤140737488351232:=by
   have h1:=hf ((((List.range len).map D).length+((List.range (m-len)).map fun j=>D (len+j)).length)*Tryz.prog.bytesOf e) (by
    rw[hxe]
    show _∈DataW.weights Tryz.prog t (.slice _ _)
    unfold DataW.weights;rw[ht]
    exact FW ..)
   simp only[FJ,List.length_range] at h1;have h2:len*1≤(len+(m-len))*Tryz.prog.bytesOf e:=Gs (by omega) hby;omega
  refine⟨some a,len,cap,rfl,hl,hm,hlr,fun h0=>?_⟩;rw[hk] at hx
  have cellAt:∀ i,i<len→∃ (ecs:List Value),ecs.length=k∧(∀ j,j<k→w.cell? ((a.add (i*k)).add j)=ecs[j]?)∧∃ y,DataW.trod enc Tryz.prog w 0 sp held n e ecs=some y∧o7 e y.1:=fun i hi=>by
   obtain⟨ecs,h1,h2⟩:=hx i (by omega);obtain⟨_,hlen,hc⟩:=World.cells?_some h1;exact⟨ecs,hlen,fun j hj=>hc j hj,_,h2,hfe i hi⟩
  obtain⟨ecs,hlen,hc,_⟩:=cellAt 0 h0;have h00:=hc 0 hk0;rw[GF] at h00
  have hsp:a.spot=none∧a.block<w.heap.size:=by
   have e0:(a.add 0).add 0=a:=by simp[Addr.add]
   rw[e0,FC (by omega)] at h00;unfold World.cell? at h00
   split at h00
   ·rename_i c _ _ hb
    split at h00
    ·cases h00
    ·rename_i hs
     exact⟨by simpa using hs,BL hb⟩
   ·cases h00
  obtain⟨hs,hb⟩:=hsp;obtain⟨b,o,s⟩:=a;simp only at hs hb;subst hs;refine⟨b,o,rfl,hb,fun i hi=>?_⟩;obtain⟨ecs,hlen,hc,y,hy⟩:=cellAt i hi;refine⟨ecs,n,y,hlen,fun j hj=>?_,hy⟩
  have ea:((⟨b,o,none⟩:Addr).add (i*k)).add j=⟨b,o+i*k+j,none⟩:=by
   rw[Go.Deep.add_add];unfold Addr.add
   split
   ·rename_i hz
    rw[GP,hz,F8]
   ·rw[GP]
  rw[←hc j hj,ea]
theorem zn {t:TypeId}{fuel:Nat}{cs:List Value}{x:DataW H×List MemPlace} (ht:Tryz.prog.underlying t=some .string) (h:DataW.trod enc Tryz.prog w 0 sp held fuel t cs=some x) (hf:o7 t x.1):∃ s:ByteArray,cs=[.string s]∧s.size≤140737488351232:=by
 obtain⟨s,e,hx,hs⟩:=DataW.trod_string ht h;refine⟨s,e,?_⟩;have:=hf s.data.toList.length (by rw[hx];unfold DataW.weights;exact FW ..);simpa using this
theorem sR {t:TypeId}{fs:Array Field}{fuel:Nat}{cs:List Value}{x:DataW H×List MemPlace} (ht:Tryz.prog.underlying t=some (.struct fs)) (h:DataW.trod enc Tryz.prog w 0 sp held fuel t cs=some x) (hw:o7 t x.1) {i:Nat}{f:Field} (hf:fs[i]?=some f) :
  ∃ n y,DataW.trod enc Tryz.prog w 0 sp held n f.type ((cs.drop f.offset).take (Tryz.prog.cellsOf f.type))=some y∧o7 f.type y.1:=by
 obtain⟨xs,n,_,hxe,_,hl,hx⟩:=DataW.trod_struct ht h;have h1:=hx i f hf;have hi:i<xs.length:=by rw[hl];exact (Fw.1 hf).1
 rw[FC hi] at h1;refine⟨n,_,h1,fun m hm=>hw m ?_⟩;rw[hxe]
 show m∈DataW.weights Tryz.prog t (.agg _)
 unfold DataW.weights;rw[ht];exact DataW.weights_mem_each (j:=i) (by simp only[Hs,He,hf,Ix]) (by simp only[Hs,FC hi,Ix]) m hm
theorem DF {cs:List Value}{o k:Nat}{v:Value} (h:(cs.drop o).take k=[v]):cs[o]?=some v:=by
 have h1:=congrArg (·[0]?) h;simp only[Ib,GV,Id,F8] at h1
 split at h1
 ·exact h1
 ·cases h1
theorem oN {t:TypeId}{fuel:Nat}{cs:List Value}{x:DataW H×List MemPlace} (ht:Tryz.prog.underlying t=some (.slice 34)) (h:DataW.trod enc Tryz.prog w 0 sp held fuel t cs=some x) (hf:o7 t x.1) :
  ∃ (p:Option Addr) (cap:Nat) (l:List ByteArray),cs=[.slice p l.length cap]∧IsS w (.slice p l.length cap) l:=by
 obtain⟨p,len,cap,rfl,hl,hm,hr,hx⟩:=BY ht (by kernel_rfl:Tryz.prog.cellsOf 34=1) (by decide) (of_decide_eq_true (by kernel_rfl)) h hf;by_cases h0:0<len
 ·obtain⟨b,o,rfl,hb,hx⟩:=hx h0
  obtain⟨l,rfl,hp⟩:=wO len (fun i (s:ByteArray)=>w.cell? ⟨b,o+i,none⟩=some (.string s)) (fun i hi=>by
   obtain⟨ecs,n,y,h1,h2,h3,h4⟩:=hx i hi;obtain⟨s,rfl,-⟩:=zn EJ h3 h4
   exact⟨s,by have:=h2 0 (by omega);rw[G1,F8] at this;exact this⟩)
  refine⟨_,cap,l,rfl,⟨_,cap,by rw[FJ],by rw[FJ];exact hl,hm,fun _=>⟨b,o,rfl,hb,fun i hi j u hu=>?_⟩⟩⟩;have hi':i<l.length:=by simpa using hi
  rw[Gu] at hu
  have hj:j=0:=by
   rcases j with _ | j
   ·rfl
   ·simp[cellsOf] at hu
  subst hj;have hu':Value.string l[i]=u:=by simpa[cellsOf] using hu
  rw[←hu',G1,F8];exact hp i hi'
 ·obtain rfl:len=0:=by omega
  exact⟨p,cap,[],rfl,⟨p,cap,rfl,Fz _,hm,fun h=>absurd h (Nat.lt_irrefl 0)⟩⟩
theorem pO {v:Value}{d:DataW H}{pl:List MemPlace} (h:DataW.Trod enc Tryz.prog w 0 sp held 24 v d pl) (hf:o7 24 d) (hv:∃ cs,v=.agg cs):∃ a b,IsF w v a b:=by
 obtain⟨fuel,h⟩:=h
 obtain⟨n0,y0,f0,gf0⟩:=sR Tryz.underlying24 h hf (i:=0) rfl
 obtain⟨n1,y1,f1,gf1⟩:=sR Tryz.underlying24 h hf (i:=1) rfl
 obtain⟨xs,_,_,_,hcl,_,_⟩:=DataW.trod_struct Tryz.underlying24 h
 have hc1:Tryz.prog.cellsOf 24=2:=by kernel_rfl
 obtain⟨p1,c1,al,e1,hq1⟩:=oN xA f0 gf0
 obtain⟨p2,c2,fl,e2,hq2⟩:=oN xA f1 gf1
 have g1:=DF e1
 have g2:=DF e2
 obtain⟨cs,rfl⟩:=hv
 rw[hc1] at hcl
 have hcs:(Value.agg cs).cells.toList=[.slice p1 al.length c1,.slice p2 fl.length c2]:=by
  revert hcl g1 g2
  generalize (Value.agg cs).cells.toList=l
  intro hcl g1 g2
  match l,hcl,g1,g2 with
  | [a,b],_,g1,g2 =>
   have ha:a=.slice p1 al.length c1:=by
    have h1:[a,b][0]?=some (Value.slice p1 al.length c1):=g1
    simpa using h1
   have hb:b=.slice p2 fl.length c2:=by
    have h1:[a,b][1]?=some (Value.slice p2 fl.length c2):=g2
    simpa using h1
   rw[ha,hb]
 refine⟨al,fl,⟨p1,c1,p2,c2,?_,hq1,hq2⟩⟩
 have:cs.toList=[.slice p1 al.length c1,.slice p2 fl.length c2]:=hcs
 rw[show cs=#[.slice p1 al.length c1,.slice p2 fl.length c2] from Array.toList_inj.1 this]
end
open Go.RowKit Dc Dg
open Go.ChangeShapes Go.WideShapes Go.ChangeAt
set_option maxRecDepth 100000
theorem own:ownKnob Tryz.prog.godebug=none:=by kernel_rfl
def pV:List (String×DataW Unit):=[("math/bits.deBruijn32tab", Rows.laid_math_bits_deBruijn32tab),("math/bits.deBruijn64tab", Rows.laid_math_bits_deBruijn64tab),("internal/strconv.uint64pow10", Rows.laid_internal_strconv_uint64pow10),("unicode/utf8.acceptRanges", Rows.laid_unicode_utf8_acceptRanges),("strconv.ErrRange", Rows.laid_strconv_ErrRange),("strconv.ErrSyntax", Rows.laid_strconv_ErrSyntax),("unicode/utf8.first", Rows.laid_unicode_utf8_first)]
theorem tr {H:Type}{enc:TypeId×Value→H}{a:Assume}{C:Checked}{os:Os}{f:FuncId}{fn:Func}{s:ChangeSpec}{conds:List PathCond}{apart fresh handsOn again:Bool}{X:World→Array Value→Prop}
  (hX:∀ (w w':World) (args:Array Value),w.heap=w'.heap→X w args→X w' args)
  (own:ownKnob C.prog.godebug=none) (started:os.Started) (noInit:C.prog.inits.idxOf? f=none) (hfn:C.prog.funcs[f]?=some fn)
  (witness:∃ (w:World) (tape:Tape) (i:Input),w.os=os∧(w.forCall tape i).Shaped C.prog∧i.vars=[]∧Input.okWide C.prog (w.forCall tape i) .any w.heap.size f i ∧
   ((s.pre enc C.prog fn conds apart (w.forCall tape i).memory i.args∧X (w.forCall tape i).memory i.args)∧sizedMet enc C.prog fn (OpenSpec.ofChange s) apart (w.forCall tape i).memory i.args)∧a.holds C.prog (lone (Frame.enter C.prog f i.args .normal) [] (w.forCall tape i)))
  (contract:∀ (W:World) (base:Nat) (args:Array Value) (ds gs:List (DataW H)) (before:List MemPlace),
   (∀ (j:Nat) t v,fn.params[j]?=some t→args[j]?=some v→Value.okWide C.prog W .any base t v) →
   DataW.Whole enc C.prog fn.params.toList s.vars apart W args.toList ds gs before →
   (DataW.weightsEach C.prog (fn.params.toList++s.plain.varTypes C.prog) (ds++gs)).all (·≤reachBytes)=true→X W args→W.ShapedOpen C.prog →
   Calls C.prog f args W fun e W'=>∃ v,e=.returned v∧s.post enc C.prog fn apart fresh handsOn again W args v W') :
  ReturnsInHanded a C os f .any (fun w args=>(s.pre enc C.prog fn conds apart w args∧X w args)∧sizedMet enc C.prog fn (OpenSpec.ofChange s) apart w args) (s.post enc C.prog fn apart fresh handsOn again):=by
 refine returnsInHanded_of_calls own started noInit witness ?_;intro w tape i _ hsh _ hok hpre hholds;obtain⟨_,_,_,fn',hfn',_,_,_,_,hval⟩:=hok;have e:fn'=fn:=Option.some.inj (hfn'.symm.trans hfn);subst e;obtain⟨⟨⟨ds,gs,before,hw,hc⟩,hx⟩,hz⟩:=hpre;have hw':=DataW.Whole.of_heap (w':=w.forCall tape i) (by rfl) hw;refine (contract (w.forCall tape i) w.heap.size i.args ds gs before hval hw' (hz.weights hw) (hX _ _ _ (by rfl) hx) hsh).mono fun e W' ⟨v,he,hp⟩=>?_;subst he;exact ChangeSpec.post_blind hp
theorem tf {H:Type}{enc:TypeId×Value→H}{w:World}{base:Nat}{sp:Nat→Bool}{held:Bool}{fuel:Nat}{t:TypeId}{cs:List Value}{n:String}{d:DataW H}{p:List MemPlace}{ms:Array (String×TypeId)} (ht:Tryz.prog.underlying t=some (.interface ms)) (h:DataW.trod enc Tryz.prog w base sp held fuel t cs=some (.iface n d,p)):∃ u v,cs=[.iface u v]:=by
 cases fuel with
 | zero=>simp[DataW.trod] at h
 | succ fuel =>
  unfold DataW.trod at h;rw[ht] at h
  split at h<;>first | (cases h;done) | skip
  all_goals first | exact⟨_,_,rfl⟩ | (simp_all;done)
theorem Bk:(Rows.laid_internal_strconv_uint64pow10:DataW Unit)=Lib.tabData .u64 Lib.pow10Tab:=by kernel_rfl
theorem E2 {W:World} (hL:laidMetH Tryz.prog pV W) (hsh:W.ShapedOpen Tryz.prog):Gx W:=by
 rw[Go.MakeChecks.laidMetH_plain _ _ _ (by kernel_rfl)] at hL;obtain⟨ps,hv,_,_⟩:=hL;unfold pV at hv;obtain⟨g6,t6,c6,f6,p6,q6,hg6,ht6,hv6,hd6,hv,_⟩:=hv;obtain⟨g7,t7,c7,f7,p7,q7,hg7,ht7,hv7,hd7,hv,_⟩:=hv;obtain⟨g5,t5,c5,f5,p5,q5,hg5,ht5,hv5,hd5,hv,_⟩:=hv;obtain⟨g4,t4,c4,f4,p4,q4,hg4,ht4,hv4,hd4,hv,_⟩:=hv;obtain⟨g1,t1,c1,f1,p1,q1,hg1,ht1,hv1,hd1,hv,_⟩:=hv;obtain⟨g0,t0,c0,f0,p0,q0,hg0,ht0,hv0,hd0,_,_⟩:=hv
 have n0:Tryz.prog.globalNamed "strconv.ErrSyntax" = some 0:=by kernel_rfl
 have n1:Tryz.prog.globalNamed "strconv.ErrRange" = some 1:=by kernel_rfl
 have n5:=mv;have y0:(Tryz.prog.globals[0]?).map (·.type)=some 169:=by kernel_rfl
 have y1:(Tryz.prog.globals[1]?).map (·.type)=some 169:=by kernel_rfl
 obtain rfl:=Option.some.inj (n0.symm.trans hg0);obtain rfl:=Option.some.inj (n1.symm.trans hg1);obtain rfl:=Option.some.inj (n5.symm.trans hg5);obtain rfl:=Option.some.inj (y0.symm.trans ht0);obtain rfl:=Option.some.inj (y1.symm.trans ht1);have hif:=Tryz.underlying169;have k0:=World.var?_cell hg0 hv0 0;have k1:=World.var?_cell hg1 hv1 0;obtain⟨u0,v0,e0⟩:=tf hif hd0;obtain⟨u1,v1,e1⟩:=tf hif hd1;rw[←He,e0] at k0;rw[←He,e1] at k1;rw[Bk] at hd5
 obtain⟨T,hT,e,hu,he⟩:∃ T,(Tryz.prog.globals[5]?).map (·.type)=some T∧∃ e,Tryz.prog.underlying T=some (.array 20 e)∧(Tryz.prog.underlying e=some (.int .u64)∧Tryz.prog.cellsOf e=1∧Tryz.prog.cellsOf T=20) :=
  ⟨312,by kernel_rfl,193,by kernel_rfl,by kernel_rfl,by kernel_rfl,by kernel_rfl⟩
 obtain rfl:=Option.some.inj (hT.symm.trans ht5);have ep:=Lib.cells_of_tab hu he.1 he.2.1 he.2.2 hd5
 have hsz:8≤W.heap.size:=by
  have h7:(((begin Tryz.prog (fun _ _=>0) default).world.heap[7]?).bind Obj.row?).isSome=true:=by kernel_rfl
  obtain⟨⟨zero,t⟩,hz⟩:=Option.isSome_iff_exists.1 h7;obtain⟨cs,hh,_⟩:=hsh.1 7 zero t (of_decide_eq_true (by kernel_rfl)) hz;have:=BL hh;omega
 refine⟨⟨?_,?_,hsz⟩,⟨u0,v0,k0⟩,⟨u1,v1,k1⟩⟩
 ·unfold r9 Lib.TabIs;rw[hv5,←ep]
 ·exact cell_of_shapedOpen_int (g:=2) (t:=3) (zero:=#[.int .i64 0]) hsh (of_decide_eq_true (by kernel_rfl)) (by kernel_rfl) rfl (by kernel_rfl) (by kernel_rfl) und3
open Go.RowKit Dg
structure xH (w:World) (g:Nat) (p:Option Addr) (c:Nat) (q:Option Addr) (d:Nat):Prop where
 f0:w.cell? ⟨g,0,none⟩=some (.slice p 2 c)
 f1:w.cell? ⟨g,1,none⟩=some (.slice q 2 d)
 la:IsS w (.slice p 2 c) aW
 lb:IsS w (.slice q 2 d) aX
 G:Gx w
 lt:g<w.heap.size
theorem xH.below {w w':World}{g:Nat}{p:Option Addr}{c:Nat}{q:Option Addr}{d:Nat} (h:xH w g p c q d) (hb:Below w.heap.size w w'):xH w' g p c q d :=
 ⟨ag hb h.lt h.f0,ag hb h.lt h.f1,h.la.below hb,h.lb.below hb,h.G.below hb,Ft h.lt hb.size⟩
theorem xH.F {w:World}{g:Nat}{p:Option Addr}{c:Nat}{q:Option Addr}{d:Nat} (h:xH w g p c q d):IsF w (.agg #[.slice p 2 c,.slice q 2 d]) aW aX:=⟨⟨p,c,q,d,rfl,h.la,h.lb⟩⟩
theorem lL:ko aW aX 4=0∧eP aW aX (gK 4) 4=[⟨#[48]⟩,⟨#[49,47,50]⟩,⟨#[49,47,52]⟩,⟨#[49,47,56]⟩]:=by decide +kernel
theorem gy:b_ aX=some [⟨#[45,49,47,50]⟩]∧aC aW [⟨#[49]⟩,⟨#[45,50]⟩]=true∧b_ [⟨#[49]⟩,⟨#[45,50]⟩]=none:=by decide +kernel
theorem sW:fp aW [⟨#[49]⟩,⟨#[49,47,52]⟩,⟨#[45,49,47,50]⟩] [⟨#[49,47,50]⟩,⟨#[45,49,47,50]⟩]=(true,0):=by decide +kernel
theorem sX:eV aX (ofT 33)=true∧∀ m,m<33→1≤m→eV aX (ofT m)=false:=by decide +kernel
theorem gh:dU aW aX=(⟨#[49,47,51]⟩,0)∧fK aW aX ⟨#[45,49]⟩=(⟨#[45,49,47,51]⟩,0)∧fK aW aX ⟨#[49,47,50]⟩=(⟨#[]⟩,32)∧eJ aW aX=(5,0)∧kF aW aX=((aW,[⟨#[49]⟩,⟨#[48]⟩]),0)∧r7 aW aX=((aX,[⟨#[49]⟩,⟨#[48]⟩]),0):=by decide +kernel
theorem k8 (w:World) (l:List ByteArray) (h:l.length<1000):IsS (w.alloc (.cells (l.map Value.string).toArray 34)) (.slice (some ⟨w.heap.size,0,none⟩) l.length l.length) l :=
 bW.isS (base:=w.heap.size) (by
  refine⟨by simp,Or.inr ⟨w.heap.size,l.length,_,rfl,Fq _,heap_alloc_new w _,Fq _,by unfold maxLen;omega,by simp,by simp[Fx]⟩⟩)
theorem EK (w:World) (hG:Gx w):Calls Tryz.prog 14 #[] w fun e w'=>e=.returned (.bool true)∧Below w.heap.size w w':=by
 go_enter Tryz.func14,Tryz.ntmps14;go_wp2_with fail
 refine (E3 w).mono ?_;rintro e w1 ⟨v1,rfl,hF,hb1⟩;obtain⟨p,c,q,d,rfl,hA,hB⟩:=id hF.ex;rw[show aW.length=2 from rfl] at hA ⊢;rw[show aX.length=2 from rfl] at hB ⊢;have cc:=aG w1 (.slice p 2 c) (.slice q 2 d);have m2:=aq w1 (.cells #[.slice p 2 c,.slice q 2 d] 24);have z2:=size_alloc w1 (.cells #[.slice p 2 c,.slice q 2 d] 24);go_upto_region 2 with fail
 generalize w1.alloc (.cells #[.slice p 2 c,.slice q 2 d] 24)=w2 at *
 obtain⟨g,hg⟩:∃ g,g=w1.heap.size:=⟨_,rfl⟩;rw[←hg] at cc ⊢;have HP:=Fi (show xH w2 g p c q d from⟨cc.1,cc.2,hA.below m2,hB.below m2,(hG.below hb1).below m2,by omega⟩);have HB:=Fi (hb1.trans (m2.mono hb1.size));have k0:=HP.out.f0;have k1:=HP.out.f1;clear cc m2 z2 hA hB hF hb1 hG hg;go_wp2_with fail
 refine (xL _ aW aX 4 w2 HP.out.F HP.out.G).mono ?_;rintro e w3 ⟨vr,rfl,hvr,-,hb⟩;have HR:=Fi (hvr lL.1);rw[show (4:Int).toNat=4 from rfl,lL.2] at HR;rw[lL.1];clear hvr;have HP:=Fi (HP.out.below hb);have HB:=Fi (HB.out.trans (hb.mono HB.out.size));clear hb k0 k1;have k0:=HP.out.f0;have k1:=HP.out.f1;go_wp2_with fail
 refine (zR _ aW aX w3 HP.out.F HP.out.G).mono ?_;rintro e w4 ⟨vp,er,rfl,hcase,hb⟩
 have HPR:er=0∧Hid (IsS w4 vp [⟨#[45,49,47,50]⟩]):=by
  rcases hcase with ⟨pf,-,h1,rfl,h2,-⟩ | ⟨-,h1,-⟩ | ⟨h1,-⟩
  ·rw[gy.1] at h1
   cases h1
   exact⟨rfl,h2⟩
  ·rw[gy.1] at h1;cases h1
  ·rw[eZ] at h1;cases h1
 obtain⟨rfl,HPR⟩:=HPR;have HR:=Fi (HR.out.below hb);clear hcase;have HP:=Fi (HP.out.below hb);have HB:=Fi (HB.out.trans (hb.mono HB.out.size));clear hb k0 k1;have k0:=HP.out.f0;have k1:=HP.out.f1;have hm:=aq w4 (.cells #[.string ⟨#[49]⟩,.string ⟨#[45,50]⟩] 34);have HU:=Fi (zR _ aW [⟨#[49]⟩,⟨#[45,50]⟩] _ ⟨⟨p,c,_,_,rfl,HP.out.la.below hm,IsS.two w4 ⟨#[49]⟩ ⟨#[45,50]⟩⟩⟩ (HP.out.G.below hm));have HM:=Fi hm;clear hm;go_wp2_with fail
 refine HU.out.mono ?_;rintro e w5 ⟨vx,er,rfl,hcase,hb⟩
 obtain rfl:er=31:=by
  rcases hcase with ⟨pf,-,h1,-⟩ | ⟨-,-,h,-⟩ | ⟨h1,-⟩
  ·rw[gy.2.2] at h1;cases h1
  ·exact h
  ·rw[gy.2.1] at h1;cases h1
 have hb:=HM.out.trans (hb.mono HM.out.size);have HR:=Fi (HR.out.below hb);have HPR:=Fi (HPR.out.below hb);clear hcase HU HM;have HP:=Fi (HP.out.below hb);have HB:=Fi (HB.out.trans (hb.mono HB.out.size));clear hb k0 k1;have k0:=HP.out.f0;have k1:=HP.out.f1;have hm:=aq w5 (.cells #[.string ⟨#[49]⟩,.string ⟨#[49,47,52]⟩,.string ⟨#[45,49,47,50]⟩] 34);have hl:=k8 w5 [⟨#[49]⟩,⟨#[49,47,52]⟩,⟨#[45,49,47,50]⟩] (by decide);have hm2:=aq (w5.alloc (.cells #[.string ⟨#[49]⟩,.string ⟨#[49,47,52]⟩,.string ⟨#[45,49,47,50]⟩] 34)) (.cells #[.string ⟨#[49,47,50]⟩,.string ⟨#[45,49,47,50]⟩] 34);have hl2:=IsS.two (w5.alloc (.cells #[.string ⟨#[49]⟩,.string ⟨#[49,47,52]⟩,.string ⟨#[45,49,47,50]⟩] 34)) ⟨#[49,47,50]⟩ ⟨#[45,49,47,50]⟩;have hM:=hm.trans (hm2.mono hm.size);have HU:=Fi (Cu _ _ aW [⟨#[49]⟩,⟨#[49,47,52]⟩,⟨#[45,49,47,50]⟩] [⟨#[49,47,50]⟩,⟨#[45,49,47,50]⟩] _ ⟨⟨p,c,_,_,rfl,HP.out.la.below hM,hl.below hm2⟩⟩ hl2 (HP.out.G.below hM));rw[sW] at HU;have HM:=Fi hM;rw[size_alloc] at HU;clear hm hm2 hl hl2 hM;go_wp2_with fail
 refine HU.out.mono ?_;rintro e w6 ⟨rfl,hb⟩;have hb:=HM.out.trans (hb.mono HM.out.size);have HR:=Fi (HR.out.below hb);have HPR:=Fi (HPR.out.below hb);clear HU HM;have HP:=Fi (HP.out.below hb);have HB:=Fi (HB.out.trans (hb.mono HB.out.size));clear hb k0 k1;have k0:=HP.out.f0;have k1:=HP.out.f1;have hm:=aq w6 (.cells #[.string ⟨#[48]⟩,.string ⟨#[49,47,50]⟩,.string ⟨#[49,47,52]⟩,.string ⟨#[49,47,56]⟩] 34);have HU:=Fi (j6 _ _ _ _ _ (HR.out.below hm) (k8 w6 [⟨#[48]⟩,⟨#[49,47,50]⟩,⟨#[49,47,52]⟩,⟨#[49,47,56]⟩] (by decide)) (by decide) (by decide));rw[decide_eq_true (rfl:[(⟨#[48]⟩:ByteArray),⟨#[49,47,50]⟩,⟨#[49,47,52]⟩,⟨#[49,47,56]⟩]=_)] at HU;have HM:=Fi hm;clear hm;go_wp2_with fail
 refine HU.out.mono ?_;rintro e w7 ⟨rfl,hb⟩;have hb:=HM.out.trans (hb.mono HM.out.size);have HPR:=Fi (HPR.out.below hb);clear HU HM HR;have HP:=Fi (HP.out.below hb);have HB:=Fi (HB.out.trans (hb.mono HB.out.size));clear hb k0 k1;have k0:=HP.out.f0;have k1:=HP.out.f1;have hm:=aq w7 (.cells #[.string ⟨#[45,49,47,50]⟩] 34);have HU:=Fi (j6 _ _ _ _ _ (HPR.out.below hm) (k8 w7 [⟨#[45,49,47,50]⟩] (by decide)) (by decide) (by decide));rw[decide_eq_true (rfl:[(⟨#[45,49,47,50]⟩:ByteArray)]=_)] at HU;have HM:=Fi hm;clear hm;go_wp2_with fail
 refine HU.out.mono ?_;rintro e w8 ⟨rfl,hb⟩;have hb:=HM.out.trans (hb.mono HM.out.size);clear HU HM HPR;have HP:=Fi (HP.out.below hb);have HB:=Fi (HB.out.trans (hb.mono HB.out.size));clear hb k0 k1;have k0:=HP.out.f0;have k1:=HP.out.f1;go_wp2_with fail
 refine (Cx _ aW aX w8 HP.out.F HP.out.G).mono ?_;rintro e w9 ⟨nr,er,rfl,hcase,hb⟩
 obtain⟨rfl,rfl⟩:er=0∧nr=33:=by
  rcases hcase with ⟨-,-,rfl,k,rfl,k1,k64,hk,hlt⟩ | ⟨-,h,-⟩ | ⟨h,-⟩
  ·refine⟨rfl,?_⟩;rcases IK k 33 with h | h | h
   ·have:=sX.2 k h k1;rw[hk] at this;cases this
   ·rw[h];rfl
   ·have:=hlt 33 (by decide) h;rw[sX.1] at this;cases this
  ·rw[gy.1] at h;cases h
  ·rw[eZ] at h;cases h
 clear hcase;have HP:=Fi (HP.out.below hb);have HB:=Fi (HB.out.trans (hb.mono HB.out.size));clear hb k0 k1;have k0:=HP.out.f0;have k1:=HP.out.f1;go_wp2_with fail
 refine (Cr _ aW aX w9 HP.out.F HP.out.G).mono ?_;rintro e w10 ⟨rfl,hb⟩;rw[gh.1];have HP:=Fi (HP.out.below hb);have HB:=Fi (HB.out.trans (hb.mono HB.out.size));clear hb k0 k1;have k0:=HP.out.f0;have k1:=HP.out.f1;go_wp2_with fail
 refine (pF _ aW aX _ w10 HP.out.F HP.out.G).mono ?_;rintro e w11 ⟨rfl,hb⟩;rw[gh.2.1];have HP:=Fi (HP.out.below hb);have HB:=Fi (HB.out.trans (hb.mono HB.out.size));clear hb k0 k1;have k0:=HP.out.f0;have k1:=HP.out.f1;go_wp2_with fail
 refine (pF _ aW aX _ w11 HP.out.F HP.out.G).mono ?_;rintro e w12 ⟨rfl,hb⟩;rw[gh.2.2.1];have HP:=Fi (HP.out.below hb);have HB:=Fi (HB.out.trans (hb.mono HB.out.size));clear hb k0 k1;have k0:=HP.out.f0;have k1:=HP.out.f1;go_wp2_with fail
 refine (Cp _ aW aX w12 HP.out.F HP.out.G).mono ?_;rintro e w13 ⟨vc,rfl,hfc,hb⟩;rw[gh.2.2.2.2.1] at hfc ⊢;have HP:=Fi (HP.out.below hb);have HB:=Fi (HB.out.trans (hb.mono HB.out.size));clear hb k0 k1;have k0:=HP.out.f0;have k1:=HP.out.f1;obtain⟨pc,cc,qc,dc,e,hca,hcb,-,-⟩:=hfc.ex;replace e:vc=.agg #[.slice pc 2 cc,.slice qc 2 dc]:=e;replace hca:IsS w13 (.slice pc 2 cc) aW:=hca;replace hcb:IsS w13 (.slice qc 2 dc) [⟨#[49]⟩,⟨#[48]⟩]:=hcb;subst e;clear hfc;go_upto_region 15 with fail
 have kk:=aG w13 (.slice pc 2 cc) (.slice qc 2 dc);have hb:=aq w13 (.cells #[.slice pc 2 cc,.slice qc 2 dc] 24);have zz:=size_alloc w13 (.cells #[.slice pc 2 cc,.slice qc 2 dc] 24);generalize w13.alloc (.cells #[.slice pc 2 cc,.slice qc 2 dc] 24)=w14 at *
 obtain⟨gc,hgc⟩:∃ x,x=w13.heap.size:=⟨_,rfl⟩;rw[←hgc] at kk ⊢;have HC:=Fi (And.intro (show gc<w14.heap.size by omega) (And.intro kk.1 (And.intro kk.2 (And.intro (hca.below hb) (hcb.below hb)))));clear hca hcb kk zz hgc;have HP:=Fi (HP.out.below hb);have HB:=Fi (HB.out.trans (hb.mono HB.out.size));clear hb k0 k1;have k0:=HP.out.f0;have k1:=HP.out.f1;go_wp2_with fail
 refine (EU _ aW aX w14 HP.out.F HP.out.G).mono ?_;rintro e w15 ⟨vd,rfl,hfc,hb⟩;rw[gh.2.2.2.2.2] at hfc ⊢;obtain⟨pd,cd,qd,dd,e,hda,hdb,-,-⟩:=hfc.ex;replace e:vd=.agg #[.slice pd 2 cd,.slice qd 2 dd]:=e;replace hda:IsS w15 (.slice pd 2 cd) aX:=hda;replace hdb:IsS w15 (.slice qd 2 dd) [⟨#[49]⟩,⟨#[48]⟩]:=hdb;subst e;have hc:=HC.out;have HC:=Fi (And.intro (Ft hc.1 hb.size) (And.intro (ag hb hc.1 hc.2.1) (And.intro (ag hb hc.1 hc.2.2.1) (And.intro (hc.2.2.2.1.below hb) (hc.2.2.2.2.below hb)))));clear hfc hc;have HP:=Fi (HP.out.below hb);have HB:=Fi (HB.out.trans (hb.mono HB.out.size));clear hb k0 k1;have k0:=HP.out.f0;have k1:=HP.out.f1;go_upto_region 16 with fail
 have kk:=aG w15 (.slice pd 2 cd) (.slice qd 2 dd);have hb:=aq w15 (.cells #[.slice pd 2 cd,.slice qd 2 dd] 24);have zz:=size_alloc w15 (.cells #[.slice pd 2 cd,.slice qd 2 dd] 24);generalize w15.alloc (.cells #[.slice pd 2 cd,.slice qd 2 dd] 24)=w16 at *
 obtain⟨gd,hgd⟩:∃ x,x=w15.heap.size:=⟨_,rfl⟩;rw[←hgd] at kk ⊢;have HD:=Fi (And.intro (show gd<w16.heap.size by omega) (And.intro kk.1 (And.intro kk.2 (And.intro (hda.below hb) (hdb.below hb)))));have hc:=HC.out;have HC:=Fi (And.intro (Ft hc.1 hb.size) (And.intro (ag hb hc.1 hc.2.1) (And.intro (ag hb hc.1 hc.2.2.1) (And.intro (hc.2.2.2.1.below hb) (hc.2.2.2.2.below hb)))));clear hda hdb kk zz hgd hc;have HP:=Fi (HP.out.below hb);have HB:=Fi (HB.out.trans (hb.mono HB.out.size));clear hb k0 k1;have k0:=HP.out.f0;have k1:=HP.out.f1;have hm:=aq w16 (.cells #[.string ⟨#[49]⟩,.string ⟨#[48]⟩] 34);have HU:=Fi (BP (.agg #[.slice pc 2 cc,.slice qc 2 dc]) (.agg #[.slice p 2 c,.slice (some ⟨w16.heap.size,0,none⟩) 2 2]) aW [⟨#[49]⟩,⟨#[48]⟩] aW [⟨#[49]⟩,⟨#[48]⟩] _ ⟨⟨_,_,_,_,rfl,HC.out.2.2.2.1.below hm,HC.out.2.2.2.2.below hm⟩⟩ ⟨⟨_,_,_,_,rfl,HP.out.la.below hm,IsS.two w16 ⟨#[49]⟩ ⟨#[48]⟩⟩⟩ (by decide) (by decide) (by decide) (by decide));rw[show (decide (aW=aW)&&decide ([(⟨#[49]⟩:ByteArray),⟨#[48]⟩]=[⟨#[49]⟩,⟨#[48]⟩]))=true from by decide] at HU;have HM:=Fi hm;have x0:=HC.out.2.1;have x1:=HC.out.2.2.1;clear hm;go_wp2_with fail
 refine HU.out.mono ?_;rintro e w17 ⟨rfl,hb⟩;have hb:=HM.out.trans (hb.mono HM.out.size);have hc:=HD.out;have HD:=Fi (And.intro (Ft hc.1 hb.size) (And.intro (ag hb hc.1 hc.2.1) (And.intro (ag hb hc.1 hc.2.2.1) (And.intro (hc.2.2.2.1.below hb) (hc.2.2.2.2.below hb)))));clear HU HM hc HC x0 x1;have HP:=Fi (HP.out.below hb);have HB:=Fi (HB.out.trans (hb.mono HB.out.size));clear hb k0 k1;have k0:=HP.out.f0;have k1:=HP.out.f1;have hm:=aq w17 (.cells #[.string ⟨#[49]⟩,.string ⟨#[48]⟩] 34);have HU:=Fi (BP (.agg #[.slice pd 2 cd,.slice qd 2 dd]) (.agg #[.slice q 2 d,.slice (some ⟨w17.heap.size,0,none⟩) 2 2]) aX [⟨#[49]⟩,⟨#[48]⟩] aX [⟨#[49]⟩,⟨#[48]⟩] _ ⟨⟨_,_,_,_,rfl,HD.out.2.2.2.1.below hm,HD.out.2.2.2.2.below hm⟩⟩ ⟨⟨_,_,_,_,rfl,HP.out.lb.below hm,IsS.two w17 ⟨#[49]⟩ ⟨#[48]⟩⟩⟩ (by decide) (by decide) (by decide) (by decide));rw[show (decide (aX=aX)&&decide ([(⟨#[49]⟩:ByteArray),⟨#[48]⟩]=[⟨#[49]⟩,⟨#[48]⟩]))=true from by decide] at HU;have HM:=Fi hm;have x0:=HD.out.2.1;have x1:=HD.out.2.2.1;clear hm;go_wp2_with fail
 refine HU.out.mono ?_;rintro e w18 ⟨rfl,hb⟩;have hb:=HM.out.trans (hb.mono HM.out.size);clear HU HM HD x0 x1;have HP:=Fi (HP.out.below hb);have HB:=Fi (HB.out.trans (hb.mono HB.out.size));clear hb k0 k1;have k0:=HP.out.f0;have k1:=HP.out.f1;go_wp2_with fail
 refine (rX _ aW aX ⟨#[45,49,47,50]⟩ ⟨#[50]⟩ 1 w18 HP.out.F HP.out.G rfl (by decide) wC.1).mono ?_;rintro e w19 ⟨rfl,hb⟩;rw[wC.2];have HP:=Fi (HP.out.below hb);have HB:=Fi (HB.out.trans (hb.mono HB.out.size));clear hb k0 k1;have k0:=HP.out.f0;have k1:=HP.out.f1;go_wp2_with fail
 refine (rX _ aW aX ⟨#[48]⟩ ⟨#[51]⟩ 1 w19 HP.out.F HP.out.G rfl (by decide) wD.1).mono ?_;rintro e w20 ⟨rfl,hb⟩;rw[wD.2];have HP:=Fi (HP.out.below hb);have HB:=Fi (HB.out.trans (hb.mono HB.out.size));clear hb k0 k1;have k0:=HP.out.f0;have k1:=HP.out.f1;have hm:=aq w20 (.cells #[.string ⟨#[45,50]⟩,.string ⟨#[45,49]⟩,.string ⟨#[48]⟩,.string ⟨#[49]⟩,.string ⟨#[50]⟩,.string ⟨#[51]⟩] 34);have HU:=Fi (vS (.agg #[.slice p 2 c,.slice q 2 d]) (.slice (some ⟨w20.heap.size,0,none⟩) 6 6) _ (HP.out.F.below hm) (k8 w20 ij (by decide)) (HP.out.G.below hm));have HM:=Fi hm;clear hm;go_wp2_with fail
 refine HU.out.mono ?_;rintro e w21 ⟨rfl,hb⟩;have hb:=HM.out.trans (hb.mono HM.out.size);clear HU HM;have HP:=Fi (HP.out.below hb);have HB:=Fi (HB.out.trans (hb.mono HB.out.size));clear hb k0 k1;have k0:=HP.out.f0;have k1:=HP.out.f1;go_upto_region 21 with fail
 have r2:=heap_alloc_new w21 (.cells #[.string ⟨#[48]⟩,.string ⟨#[50]⟩] 67 (0,0));have hb:=aq w21 (.cells #[.string ⟨#[48]⟩,.string ⟨#[50]⟩] 67);have zz:=size_alloc w21 (.cells #[.string ⟨#[48]⟩,.string ⟨#[50]⟩] 67);generalize w21.alloc (.cells #[.string ⟨#[48]⟩,.string ⟨#[50]⟩] 67)=w22 at *
 obtain⟨gm,hgm⟩:∃ x,x=w21.heap.size:=⟨_,rfl⟩;rw[←hgm] at r2 ⊢;clear zz hgm;have HP:=Fi (HP.out.below hb);have HB:=Fi (HB.out.trans (hb.mono HB.out.size));clear hb k0 k1;have k0:=HP.out.f0;have k1:=HP.out.f1;go_wp2_with fail
 refine (Cq _ aW aX w22 HP.out.F HP.out.G).mono ?_;rintro e w23 ⟨rfl,hb⟩;rw[gh.2.2.2.1];have r2:=(hb.block gm (Fw.1 r2).1).trans r2;have y0:=ah r2 0;have y1:=ah r2 1;simp only[Im,Id,Hm] at y0 y1;clear r2;have HP:=Fi (HP.out.below hb);have HB:=Fi (HB.out.trans (hb.mono HB.out.size));clear hb k0 k1;have k0:=HP.out.f0;have k1:=HP.out.f1;go_wp2;go_ret;exact⟨rfl,HB.out⟩
theorem mw {w:World}{g:Nat}{x0 y0 x y:Value}{t:TypeId} (h:w.heap[g]?=some (.cells #[x0,y0] t (0,0))) (hn:∀ (j:Nat) (s:ByteArray),(#[x0,y0]:Array Value)[j]?≠some (Value.string s)) {v:Value}{l m:List ByteArray} (hv:IsF w v l m) :
  IsF ((w.setCell ⟨g,0,none⟩ x).setCell ⟨g,1,none⟩ y) v l m:=by
 obtain⟨p,c,q,d,e,h1,h2⟩:=hv.ex;exact⟨⟨p,c,q,d,e,c_ h hn h1,c_ h hn h2⟩⟩
theorem l_ {fa fb ga gb:List ByteArray}{r:Except Int (List ByteArray×List ByteArray)}:(a6 fa fb ga gb r).1.1.length≤7∧(a6 fa fb ga gb r).1.2.length≤7:=by
 unfold a6
 split
 ·exact⟨Fz _,Fz _⟩
 ·split
  ·exact⟨Fz _,Fz _⟩
  ·cases r with
   | error n=>exact⟨Fz _,Fz _⟩
   | ok ab =>
    obtain⟨l1,l2⟩:=ab
    show (if 7<l1.length∨7<l2.length then (([],[]),3) else if aC l1 l2=false then (([],[]),8) else ((l1,l2),0):(List ByteArray×List ByteArray)×Int).1.1.length≤7∧(if 7<l1.length∨7<l2.length then (([],[]),3) else if aC l1 l2=false then (([],[]),8) else ((l1,l2),0):(List ByteArray×List ByteArray)×Int).1.2.length≤7
    by_cases h:7<l1.length∨7<l2.length
    ·rw[if_pos h];exact⟨Fz _,Fz _⟩
    ·rw[if_neg h];by_cases h2:aC l1 l2=false
     ·rw[if_pos h2];exact⟨Fz _,Fz _⟩
     ·rw[if_neg h2];exact⟨by show l1.length≤7;omega,by show l2.length≤7;omega⟩
theorem wL (v v':Value) (a b:List ByteArray) (e:Int) (w:World) (hF:IsF w v a b) (hF':IsF w v' a b) (ha:a.length<1000) (hb:b.length<1000) :
  Calls Tryz.prog 23 #[v,.int .i64 e,v',.int .i64 e] w fun e w'=>e=.returned (.bool true)∧Below w.heap.size w w':=by
 obtain⟨p,c,q,d,rfl,hfa,hfb⟩:=id hF.ex;obtain⟨p',c',q',d',rfl,hga,hgb⟩:=id hF'.ex;go_enter Tryz.func23,Tryz.ntmps23;go_upto_region 1 with fail
 have l1:=aY w (.cells #[.slice p a.length c,.slice q b.length d] 24);have z1:=size_alloc w (.cells #[.slice p a.length c,.slice q b.length d] 24);generalize w.alloc (.cells #[.slice p a.length c,.slice q b.length d] 24)=w1 at *
 have l2:=aY w1 (.cells #[.slice p' a.length c',.slice q' b.length d'] 24);have hBB:=l1.below.trans (l2.below.mono l1.below.size);have s1:=l2.s0;rw[z1] at s1;have s0:=(l2.below.block _ (ai l1.s0)).trans l1.s0;generalize w1.alloc (.cells #[.slice p' a.length c',.slice q' b.length d'] 24)=w2 at *
 have HS:=Fi (BP _ _ a b a b w2 (hF.below hBB) (hF'.below hBB) (by omega) (by omega) (by omega) (by omega));rw[decide_eq_true (rfl:a=a),decide_eq_true (rfl:b=b)] at HS;clear l1 l2 z1 hF hF' hfa hfb hga hgb;have q0:=ah s0 0;have q1:=ah s0 1;have q2:=ah s1 0;have q3:=ah s1 1;go_wp2_with fail
 refine HS.out.mono ?_;rintro e2 w3 ⟨rfl,hb3⟩;have hB3:=hBB.trans (hb3.mono hBB.size);clear HS hb3 hBB s0 s1 q0 q1 q2 q3;go_wp2;refine bodyPost_ret (v:=.bool true) (by simp[results,Tryz.results23,go_sem]) rfl ⟨rfl,hB3⟩
theorem rh (v:Value) (a b:List ByteArray) (v':Value) (a' b':List ByteArray) (w:World) (hF:IsF w v a b) (hF':IsF w v' a' b') (hG:Gx w) :
  Calls Tryz.prog 6 #[v,v'] w fun e w'=>e=.returned (.bool true)∧Below w.heap.size w w':=by
 have HF:=Fi hF;have HF':=Fi hF';have HG:=Fi hG;obtain⟨p,c,q,d,rfl,hfa,hfb⟩:=id hF.ex;obtain⟨p',c',q',d',rfl,hga,hgb⟩:=id hF'.ex;go_enter Tryz.func6,Tryz.ntmps6;go_upto_region 1 with fail
 have l1:=aY w (.cells #[.slice p a.length c,.slice q b.length d] 24);have z1:=size_alloc w (.cells #[.slice p a.length c,.slice q b.length d] 24);generalize w.alloc (.cells #[.slice p a.length c,.slice q b.length d] 24)=w1 at *
 have l2:=aY w1 (.cells #[.slice p' a'.length c',.slice q' b'.length d'] 24);have z2:=size_alloc w1 (.cells #[.slice p' a'.length c',.slice q' b'.length d'] 24);have hBB:=l1.below.trans (l2.below.mono l1.below.size);have s1:=l2.s0;rw[z1] at s1;have s0:=(l2.below.block _ (ai l1.s0)).trans l1.s0;generalize w1.alloc (.cells #[.slice p' a'.length c',.slice q' b'.length d'] 24)=w2 at *
 rw[z1] at z2;clear l1 l2 z1 hF hF';have hz:w.heap.size+2≤w2.heap.size:=by omega
 have LF:=Fi (fun (wx:World) (h:Below (w.heap.size+2) w2 wx)=>HF.out.below (hBB.trans (h.mono (Ge _ _))));have LF':=Fi (fun (wx:World) (h:Below (w.heap.size+2) w2 wx)=>HF'.out.below (hBB.trans (h.mono (Ge _ _))));have LG:=Fi (fun (wx:World) (h:Below (w.heap.size+2) w2 wx)=>HG.out.below (hBB.trans (h.mono (Ge _ _))));have HBB:=Fi hBB;have hBw:Below (w.heap.size+2) w2 w2.drew:=(Below.refl _ _).drew;refine aw (fun w'=>∃ z:aK (w.heap.size+2) w2,w'=z.w) (fun i=>i == 1||i == 3) (by kernel_rfl) (by kernel_rfl) ⟨⟨_,hBw⟩,rfl⟩ ?_;have k0:=bO (B:=w.heap.size+2) s0 (by omega) 0 rfl;have k1:=bO (B:=w.heap.size+2) s0 (by omega) 1 rfl;have k2:=bO (B:=w.heap.size+2) s1 (by omega) 0 rfl;have k3:=bO (B:=w.heap.size+2) s1 (by omega) 1 rfl;have hz:w.heap.size+2≤w2.drew.heap.size:=hz;clear hfa hfb hga hgb hBB z2;generalize w2.drew=wn at *
 refine ak 1 0 _ _ _ (by kernel_rfl) ?_;simp only[Fr,Fv,Fs,Fu];repeat (go_big_quiet_step (fail))
 refine wpQuiet_nil ?_;refine ap rfl rfl (fun K hK=>?_);go_simp;refine (eH _ a b wn (LF.out wn hBw) (LG.out wn hBw)).mono ?_;rintro e wn ⟨rfl,hb⟩;replace hBw:=hBw.trans (hb.mono hz);replace hz:=FB hz hb.size;refine hK _ _ ⟨⟨_,hBw⟩,rfl⟩ ?_;clear hK K hb;try simp only[Act.put,Fm,Fl,Fk,Fj,Fo,Fp]
 refine ak 1 2 _ _ _ (by kernel_rfl) ?_;simp only[Fr,Fv,Fs,Fu];repeat (go_big_quiet_step (fail))
 refine wpQuiet_nil ?_;refine ap rfl rfl (fun K hK=>?_);go_simp;refine (oD _ a b wn (LF.out wn hBw)).mono ?_;rintro e wn ⟨rfl,hb⟩;replace hBw:=hBw.trans (hb.mono hz);replace hz:=FB hz hb.size;refine hK _ _ ⟨⟨_,hBw⟩,rfl⟩ ?_;clear hK K hb;try simp only[Act.put,Fm,Fl,Fk,Fj,Fo,Fp]
 generalize aB a b=ce;refine ak 1 4 _ _ _ (by kernel_rfl) ?_;simp only[Fr,Fv,Fs,Fu];repeat (go_big_quiet_step (fail))
 refine wpQuiet_nil ?_;refine aD ?_;clear k0 k1 k2 k3;have q0:=ah ((hBw.block w.heap.size (by omega)).trans s0) 0;have q1:=ah ((hBw.block w.heap.size (by omega)).trans s0) 1;have q2:=ah ((hBw.block (w.heap.size+1) (by omega)).trans s1) 0;have q3:=ah ((hBw.block (w.heap.size+1) (by omega)).trans s1) 1;have HLN:=Fi (l_ (fa:=a) (fb:=b) (ga:=a') (gb:=b') (r:=nj a b a' b'));change Hid ((d_ a b a' b').1.1.length≤7∧(d_ a b a' b').1.2.length≤7) at HLN;have HS1:=Cy (.agg #[.slice p a.length c,.slice q b.length d]) (.agg #[.slice p' a'.length c',.slice q' b'.length d']) a b a' b';have HS2:=y7 (.agg #[.slice p a.length c,.slice q b.length d]) (.agg #[.slice p' a'.length c',.slice q' b'.length d']) a b a' b';obtain⟨⟨⟨L1,L2⟩,er⟩,hR0⟩:∃ R0:(List ByteArray×List ByteArray)×Int,R0=d_ a b a' b':=⟨_,rfl⟩;rw[←hR0] at HLN HS1 HS2;simp only at HLN;have HC1:=Fi HS1;have HC2:=Fi HS2;clear hR0 HS1 HS2;go_wp2_with fail
 refine (HC1.out wn (LF.out wn hBw) (LF'.out wn hBw) (LG.out wn hBw)).mono ?_;rintro e wn ⟨v,rfl,hv,hb⟩;replace hv:=hv.isF;simp only at hv ⊢;obtain⟨p1,c1,p2,c2,rfl,-,-⟩:=id hv.ex;replace hBw:=hBw.trans (hb.mono hz);replace hz:=FB hz hb.size;clear q0 q1 q2 q3;have q0:=ah ((hBw.block w.heap.size (by omega)).trans s0) 0;have q1:=ah ((hBw.block w.heap.size (by omega)).trans s0) 1;have q2:=ah ((hBw.block (w.heap.size+1) (by omega)).trans s1) 0;have q3:=ah ((hBw.block (w.heap.size+1) (by omega)).trans s1) 1;clear HC1;have lx:=aY wn (.cells #[.slice p1 L1.length c1,.slice p2 L2.length c2] 24);have hbx:=lx.below;have sa:=lx.s0;clear lx;have hga:=hz;replace hBw:=hBw.trans (hbx.mono hz);replace hz:=FB hz hbx.size;clear q0 q1 q2 q3;have q0:=ah ((hBw.block w.heap.size (by omega)).trans s0) 0;have q1:=ah ((hBw.block w.heap.size (by omega)).trans s0) 1;have q2:=ah ((hBw.block (w.heap.size+1) (by omega)).trans s1) 0;have q3:=ah ((hBw.block (w.heap.size+1) (by omega)).trans s1) 1;replace hv:=hv.below hbx;go_wp2_with fail
 generalize World.alloc wn (.cells #[.slice p1 L1.length c1,.slice p2 L2.length c2] 24)=wm at *
 generalize (World.heap wn).size=ga at *
 clear hbx;rename World=>wn;refine (HC2.out wn (LF.out wn hBw) (LF'.out wn hBw)).mono ?_;rintro e wn ⟨v2,rfl,hv2,hb⟩;simp only at hv2 ⊢;obtain⟨p3,c3,p4,c4,rfl,-,-⟩:=id hv2.ex;replace hv:=hv.below hb;clear HC2;replace sa:=(hb.block _ (ai sa)).trans sa;replace hBw:=hBw.trans (hb.mono hz);replace hz:=FB hz hb.size;clear q0 q1 q2 q3;have q0:=ah ((hBw.block w.heap.size (by omega)).trans s0) 0;have q1:=ah ((hBw.block w.heap.size (by omega)).trans s0) 1;have q2:=ah ((hBw.block (w.heap.size+1) (by omega)).trans s1) 0;have q3:=ah ((hBw.block (w.heap.size+1) (by omega)).trans s1) 1;clear hb;have lx:=aY wn (.cells #[.slice p3 L1.length c3,.slice p4 L2.length c4] 24);have hbx:=lx.below;have sb:=lx.s0;clear lx;have hgb:=hz;replace hBw:=hBw.trans (hbx.mono hz);replace hz:=FB hz hbx.size;clear q0 q1 q2 q3;have q0:=ah ((hBw.block w.heap.size (by omega)).trans s0) 0;have q1:=ah ((hBw.block w.heap.size (by omega)).trans s0) 1;have q2:=ah ((hBw.block (w.heap.size+1) (by omega)).trans s1) 0;have q3:=ah ((hBw.block (w.heap.size+1) (by omega)).trans s1) 1;replace hv:=hv.below hbx;replace hv2:=hv2.below hbx;have hab:ga<wn.heap.size:=ai sa;replace sa:=(hbx.block _ (ai sa)).trans sa;have a0:=ah sa 0;have a1:=ah sa 1;have b0:=ah sb 0;have b1:=ah sb 1;go_wp2_with fail
 generalize World.alloc wn (.cells #[.slice p3 L1.length c3,.slice p4 L2.length c4] 24)=wm at *
 generalize (World.heap wn).size=gb at *
 clear hbx;rename World=>wn;refine (wL _ _ L1 L2 er wn hv hv2 (by have:=HLN.out;omega) (by have:=HLN.out;omega)).mono ?_;rintro e wn ⟨rfl,hb⟩;replace sa:=(hb.block _ (ai sa)).trans sa;replace sb:=(hb.block _ (ai sb)).trans sb;replace hBw:=hBw.trans (hb.mono hz);replace hz:=FB hz hb.size;clear q0 q1 q2 q3;have q0:=ah ((hBw.block w.heap.size (by omega)).trans s0) 0;have q1:=ah ((hBw.block w.heap.size (by omega)).trans s0) 1;have q2:=ah ((hBw.block (w.heap.size+1) (by omega)).trans s1) 0;have q3:=ah ((hBw.block (w.heap.size+1) (by omega)).trans s1) 1;clear hv hv2 HLN hb a0 a1 b0 b1;have HLN:=Fi (l_ (fa:=a) (fb:=b) (ga:=a') (gb:=b') (r:=j0 a b a' b'));change Hid ((cZ a b a' b').1.1.length≤7∧(cZ a b a' b').1.2.length≤7) at HLN;have HS1:=xI (.agg #[.slice p a.length c,.slice q b.length d]) (.agg #[.slice p' a'.length c',.slice q' b'.length d']) a b a' b';have HS2:=tO (.agg #[.slice p a.length c,.slice q b.length d]) (.agg #[.slice p' a'.length c',.slice q' b'.length d']) a b a' b';obtain⟨⟨⟨L1,L2⟩,er⟩,hR0⟩:∃ R0:(List ByteArray×List ByteArray)×Int,R0=cZ a b a' b':=⟨_,rfl⟩;rw[←hR0] at HLN HS1 HS2;simp only at HLN;have HC1:=Fi HS1;have HC2:=Fi HS2;clear hR0 HS1 HS2;go_wp2_with fail
 refine (HC1.out wn (LF.out wn hBw) (LF'.out wn hBw) (LG.out wn hBw)).mono ?_;rintro e wn ⟨v,rfl,hv,hb⟩;replace hv:=hv.isF;simp only at hv ⊢;obtain⟨p1,c1,p2,c2,rfl,-,-⟩:=id hv.ex;replace hBw:=hBw.trans (hb.mono hz);replace hz:=FB hz hb.size;clear q0 q1 q2 q3;have q0:=ah ((hBw.block w.heap.size (by omega)).trans s0) 0;have q1:=ah ((hBw.block w.heap.size (by omega)).trans s0) 1;have q2:=ah ((hBw.block (w.heap.size+1) (by omega)).trans s1) 0;have q3:=ah ((hBw.block (w.heap.size+1) (by omega)).trans s1) 1;clear HC1;replace sa:=(hb.block _ (ai sa)).trans sa;replace sb:=(hb.block _ (ai sb)).trans sb;clear hb;have t0:=ah sa 0;have t1:=ah sa 1;have f0:=av sa 0;have f1:=av sa 1;replace sb:=((heap_setCell_other (wn.setCell ⟨ga,0,none⟩ (.slice p1 L1.length c1)) ⟨ga,1,none⟩ gb (.slice p2 L2.length c2) (show gb≠ga by omega)).trans (heap_setCell_other wn ⟨ga,0,none⟩ gb (.slice p1 L1.length c1) (show gb≠ga by omega))).trans sb;have hkeep:=fun (v:Value) (l m:List ByteArray) (h:IsF wn v l m)=>mw (x:=.slice p1 L1.length c1) (y:=.slice p2 L2.length c2) sa fG h;replace sa:=aT sa (.slice p1 L1.length c1) (.slice p2 L2.length c2);replace hBw:=(hBw.setCell (p:=⟨ga,0,none⟩) hga (.slice p1 L1.length c1)).setCell (p:=⟨ga,1,none⟩) hga (.slice p2 L2.length c2);clear q0 q1 q2 q3;have q0:=ah ((hBw.block w.heap.size (by omega)).trans s0) 0;have q1:=ah ((hBw.block w.heap.size (by omega)).trans s0) 1
 have q2:=ah ((hBw.block (w.heap.size+1) (by omega)).trans s1) 0;have q3:=ah ((hBw.block (w.heap.size+1) (by omega)).trans s1) 1;replace hv:=hkeep _ _ _ hv;clear hkeep;go_wp2_with fail
 clear t0 t1 f0 f1;replace hz:w.heap.size+2≤((wn.setCell ⟨ga,0,none⟩ (.slice p1 L1.length c1)).setCell ⟨ga,1,none⟩ (.slice p2 L2.length c2)).heap.size:=by simpa[World.setCell] using hz
 generalize (wn.setCell ⟨ga,0,none⟩ (.slice p1 L1.length c1)).setCell ⟨ga,1,none⟩ (.slice p2 L2.length c2)=wm at *
 rename World=>wn;refine (HC2.out wn (LF.out wn hBw) (LF'.out wn hBw)).mono ?_;rintro e wn ⟨v2,rfl,hv2,hb⟩;simp only at hv2 ⊢;obtain⟨p3,c3,p4,c4,rfl,-,-⟩:=id hv2.ex;replace hv:=hv.below hb;clear HC2;replace sa:=(hb.block _ (ai sa)).trans sa;replace sb:=(hb.block _ (ai sb)).trans sb;replace hBw:=hBw.trans (hb.mono hz);replace hz:=FB hz hb.size;clear q0 q1 q2 q3;have q0:=ah ((hBw.block w.heap.size (by omega)).trans s0) 0;have q1:=ah ((hBw.block w.heap.size (by omega)).trans s0) 1;have q2:=ah ((hBw.block (w.heap.size+1) (by omega)).trans s1) 0;have q3:=ah ((hBw.block (w.heap.size+1) (by omega)).trans s1) 1;clear hb;have t0:=ah sb 0;have t1:=ah sb 1;have f0:=av sb 0;have f1:=av sb 1;replace sa:=((heap_setCell_other (wn.setCell ⟨gb,0,none⟩ (.slice p3 L1.length c3)) ⟨gb,1,none⟩ ga (.slice p4 L2.length c4) (show ga≠gb by omega)).trans (heap_setCell_other wn ⟨gb,0,none⟩ ga (.slice p3 L1.length c3) (show ga≠gb by omega))).trans sa;have hkeep:=fun (v:Value) (l m:List ByteArray) (h:IsF wn v l m)=>mw (x:=.slice p3 L1.length c3) (y:=.slice p4 L2.length c4) sb fG h;replace sb:=aT sb (.slice p3 L1.length c3) (.slice p4 L2.length c4);replace hBw:=(hBw.setCell (p:=⟨gb,0,none⟩) hgb (.slice p3 L1.length c3)).setCell (p:=⟨gb,1,none⟩) hgb (.slice p4 L2.length c4);clear q0 q1 q2 q3;have q0:=ah ((hBw.block w.heap.size (by omega)).trans s0) 0;have q1:=ah ((hBw.block w.heap.size (by omega)).trans s0) 1
 have q2:=ah ((hBw.block (w.heap.size+1) (by omega)).trans s1) 0;have q3:=ah ((hBw.block (w.heap.size+1) (by omega)).trans s1) 1;replace hv:=hkeep _ _ _ hv;replace hv2:=hkeep _ _ _ hv2;clear hkeep;have a0:=ah sa 0;have a1:=ah sa 1;have b0:=ah sb 0;have b1:=ah sb 1;go_wp2_with fail
 clear t0 t1 f0 f1;replace hz:w.heap.size+2≤((wn.setCell ⟨gb,0,none⟩ (.slice p3 L1.length c3)).setCell ⟨gb,1,none⟩ (.slice p4 L2.length c4)).heap.size:=by simpa[World.setCell] using hz
 generalize (wn.setCell ⟨gb,0,none⟩ (.slice p3 L1.length c3)).setCell ⟨gb,1,none⟩ (.slice p4 L2.length c4)=wm at *
 rename World=>wn;refine (wL _ _ L1 L2 er wn hv hv2 (by have:=HLN.out;omega) (by have:=HLN.out;omega)).mono ?_;rintro e wn ⟨rfl,hb⟩;replace sa:=(hb.block _ (ai sa)).trans sa;replace sb:=(hb.block _ (ai sb)).trans sb;replace hBw:=hBw.trans (hb.mono hz);replace hz:=FB hz hb.size;clear q0 q1 q2 q3;have q0:=ah ((hBw.block w.heap.size (by omega)).trans s0) 0;have q1:=ah ((hBw.block w.heap.size (by omega)).trans s0) 1;have q2:=ah ((hBw.block (w.heap.size+1) (by omega)).trans s1) 0;have q3:=ah ((hBw.block (w.heap.size+1) (by omega)).trans s1) 1;clear hv hv2 HLN hb a0 a1 b0 b1;have HW:=Fi (EK wn (LG.out wn hBw));have HBF:=Fi (HBB.out.trans (hBw.mono (Ge _ _)));clear sa sb q0 q1 q2 q3 hBw;go_wp2_with fail
 refine HW.out.mono ?_;rintro e wn ⟨rfl,hb⟩;have hBE:=HBF.out.trans (hb.mono HBF.out.size);clear hb;go_wp2;refine bodyPost_ret (v:=.bool true) (by simp[results,Tryz.results6,go_sem]) rfl ⟨rfl,hBE⟩
set_option maxRecDepth 100000
theorem ky (os:Os) (started:os.Started) (H:Type) (enc:TypeId×Value→H) :
  ReturnsInHanded {} Tryz.checked os 6 .any (fun w args=>(Rows.loopComposesSpec.pre enc Tryz.prog Tryz.f6 [] false w args∧laidMetH Tryz.prog pV w)∧sizedMet enc Tryz.prog Tryz.f6 (OpenSpec.ofChange Rows.loopComposesSpec) false w args)
   (Rows.loopComposesSpec.post enc Tryz.prog Tryz.f6 false true false false):=by
 refine tr (C:=Tryz.checked) (X:=fun w _=>laidMetH Tryz.prog pV w) (fun _ _ _ hh h=>h.of_heap hh) own started (by kernel_rfl) Tryz.func6
  (ChangeSpec.witness_shaped (enc:=enc) (C:=Tryz.checked) (os:=os) (X:=fun w _=>laidMetH Tryz.prog pV w) false (World.laidAll Tryz.prog os pV) #[.agg #[.slice none 0 0,.slice none 0 0],.agg #[.slice none 0 0,.slice none 0 0]] 8 (World.laidAll_os _ _ _)
   (World.shaped_of_ZipB (by kernel_rfl) (by kernel_rfl)) (by kernel_rfl) (by kernel_rfl) (by kernel_rfl)
   (by rw[Go.MakeChecks.laidMetH_plain _ _ _ (by kernel_rfl)];exact laidMet_laidAll _ (by kernel_rfl) (by kernel_rfl))) ?_
 intro W base args ds gs before hval0 hW hwt hL hsh;have hval:∀ (j:Nat) t v,Tryz.f6.params[j]?=some t→args[j]?=some v→Value.okWide Tryz.prog W .any base t v:=hval0;have hW':=hW;obtain⟨p,q,hA0,hV,rfl,_,_⟩:=hW;have hA:DataW.TrodAll enc Tryz.prog W 0 (fun _=>true) true Tryz.f6.params.toList args.toList ds p:=hA0;rw[Tryz.params6] at hA hval;have hwt':(DataW.weightsEach Tryz.prog (Tryz.f6.params.toList++[]) (ds++gs)).all (·≤reachBytes)=true:=hwt;rw[Tryz.params6,Gz] at hwt';obtain⟨v0,v1,d0,d1,p0,p1,rfl,rfl,rfl,h0,h1⟩:=trodAll_two hA;obtain⟨rfl,rfl⟩:=trodVars_none hV;simp only[Gz] at hW' hwt';have hX:=E2 hL hsh
 have fits:∀ (j:Nat) (t:TypeId) (d:DataW H),([24,24]:List TypeId)[j]?=some t→[d0,d1][j]?=some d→o7 t d:=fun j t d ht hd n hn=>by
  have:=FX.1 hwt' n (DataW.weights_mem_each ht hd n hn);exact of_decide_eq_true this
 have hlt:∀ x∈p0++p1,x.block<W.heap.size:=fun x hx=>by simpa using hW'.lt x hx
 have ok0:=hval 0 24 v0 rfl rfl;obtain⟨cs0,hcs0,_⟩:=okWide_struct Tryz.underlying24 ok0;obtain⟨a0,b0,hF0⟩:=pO h0 (fits 0 _ _ rfl rfl) ⟨cs0,hcs0⟩;have ok1:=hval 1 24 v1 rfl rfl;obtain⟨cs1,hcs1,_⟩:=okWide_struct Tryz.underlying24 ok1;obtain⟨a1,b1,hF1⟩:=pO h1 (fits 1 _ _ rfl rfl) ⟨cs1,hcs1⟩;refine (rh v0 a0 b0 v1 a1 b1 W hF0 hF1 hX).mono fun e W' ⟨he,hb⟩=>?_;subst he;exact⟨_,rfl,_,_,_,[],p0++p1,[],hW',trodAll_mk1 (shut_bool Tryz.underlying4 _),trodAll_mk2 (Below.trod laidAll (by kernel_rfl) (of_decide_eq_true (by kernel_rfl)) h0 hb (fun x hx=>hlt x (by simp[hx]))) (Below.trod laidAll (by kernel_rfl) (of_decide_eq_true (by kernel_rfl)) h1 hb (fun x hx=>hlt x (by simp[hx]))),rfl,hb.frame _,fun h=>by cases h⟩
end Go.Proofs.YtbnkpcfjechfiaaGreatDoor
