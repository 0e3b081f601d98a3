/- L -/
import Derived.Deep.Slices
import Derived.OpenShut
import Derived.Test.YtlhpcoelfhjomaaGreatDoorRows
import Derived.ProofKit
import Derived.LaidMore
import Derived.HandedShaped
import Derived.Shelf.Vars
import Derived.Lay
import Derived.Stop.Joined
import Derived.Test.YtlhpcoelfhjomaaGreatDoorTie
import Derived.Test.YtlhpcoelfhjomaaGreatDoorCards
import Derived.SevenTiedAt
import Derived.Test.YtlhpcoelfhjomaaGreatDoorQReg
import Derived.Test.YtlhpcoelfhjomaaGreatDoorQCoef
import Derived.Test.YtlhpcoelfhjomaaGreatDoorQLP1
import Derived.Test.YtlhpcoelfhjomaaGreatDoorQLP3
import Derived.Test.YtlhpcoelfhjomaaGreatDoorQRng2
import Derived.Test.YtlhpcoelfhjomaaGreatDoorQLB4
import Derived.Test.YtlhpcoelfhjomaaGreatDoorQEN9
import Derived.Test.YtlhpcoelfhjomaaGreatDoorQRV38
import Derived.Test.YtlhpcoelfhjomaaGreatDoorQLB3
set_option linter.all false
set_option maxRecDepth 100000
set_option maxHeartbeats 8000000
namespace Go.Proofs.YtlhpcoelfhjomaaGreatDoor
open Go.RowKit Dc Dg
open Go.ChangeShapes Go.WideShapes
theorem laidAll:laidOutB Tryz.prog=true:=by kernel_rfl
theorem und3:Tryz.prog.underlying 3=some (.int .i64):=by kernel_rfl
theorem EP:Tryz.prog.underlying 25=some .string:=by kernel_rfl
theorem Ap:Tryz.prog.underlying 22=some (.slice 25):=by kernel_rfl
theorem Eq {w:World}{b:Nat}{o:Obj} (h:w.heap[b]?=some o):b<w.heap.size:=(ID.1 h).1
theorem zT {α:Type}:∀ (n:Nat) (p:Nat->α->Prop),(∀ i,i<n->∃ x,p i x)->∃ l:List α,l.length=n/\∀ i (h:i<l.length),p i l[i]
 | 0,_,_=>⟨[],rfl,fun i h=>by simp at h⟩
 | n+1,p,h=>by
  obtain⟨l,hl,hp⟩:=zT n p (fun i hi=>h i (by omega));obtain⟨x,hx⟩:=h n (by omega);refine⟨l++[x],by simp[hl],fun i hi=>?_⟩;by_cases hin:i<l.length
  ·rw[I6 hin];exact hp i hin
  ·have hie:i=n:=by simp at hi;omega
   subst hie;rw[I4 (by omega)];simp only[hl,JJ,Ir];exact hx
section
variable {H : Type} {enc : TypeId × Value -> H} {w : World} {sp : Nat -> Bool} {held : Bool}
def rC (t:TypeId) (d:DataW H):Prop:=∀ n∈d.weights Tryz.prog t,n<=140737488351232
theorem kI {e:TypeId}:∀ {l:List (DataW H)}{d:DataW H},d∈l->∀ n∈d.weights Tryz.prog e,n∈DataW.weightsAll Tryz.prog e l
 | [],_,h,_,_=>by cases h
 | x :: l,d,h,n,hn=>by
  unfold DataW.weightsAll;rcases Jv.1 h with rfl | h
  ·exact List.mem_append_left _ hn
  ·exact List.mem_append_right _ (kI h n hn)
theorem EC {t e:TypeId}{k fuel:Nat}{cs:List Value}{x:DataW H×List MemPlace} (ht:Tryz.prog.underlying t=some (.slice e)) (hk:Tryz.prog.cellsOf e=k) (hk0:0<k) (hby:1<=Tryz.prog.bytesOf e) (h:DataW.trod enc Tryz.prog w 0 sp held fuel t cs=some x) (hf:rC t x.1) :
  ∃ (p:Option Addr) (len cap:Nat),cs=[.slice p len cap]/\len<=cap/\cap<=maxLen/\len<=140737488351232/\(0<len->∃ b o,p=some ⟨b,o,none⟩/\b<w.heap.size/\∀ i,i<len->∃ (ecs:List Value) (n:Nat) (y:DataW H×List MemPlace),ecs.length=k/\(∀ j,j<k->w.cell? ⟨b,o+i*k+j,none⟩=ecs[j]?)/\DataW.trod enc Tryz.prog w 0 sp held n e ecs=some y/\rC e y.1):=by
 rcases Go.Deep.open_slice ht h with ⟨rfl,_⟩ | ⟨a,len,cap,m,n,D,Pl,rfl,_,hl,hm,hmm,hxe,hx⟩
 ·exact⟨none,0,0,rfl,Iw _,IF _,IF _,fun h=>absurd h (Nat.lt_irrefl 0)⟩
 ·have hlm:len<=m:=by rw[hmm];split<;>omega
  have hfe:∀ i,i<len->rC e (D i):=fun i hi n hn=>hf n (by
   rw[hxe]
   show n∈DataW.weights Tryz.prog t (.slice _ _)
   unfold DataW.weights;rw[ht]
   exact JL _ (List.mem_append_left _ (kI (Kv.2 ⟨i,JG.2 hi,rfl⟩) n hn)))
  have hlr:len<=140737488351232:=by
   have h1:=hf ((((List.range len).map D).length+((List.range (m-len)).map fun j=>D (len+j)).length)*Tryz.prog.bytesOf e) (by
    rw[hxe]
    show _∈DataW.weights Tryz.prog t (.slice _ _)
    unfold DataW.weights;rw[ht]
    exact JA ..)
   simp only[IX,List.length_range] at h1;have h2:len*1<=(len+(m-len))*Tryz.prog.bytesOf e:=Je (by omega) hby;omega
  refine⟨some a,len,cap,rfl,hl,hm,hlr,fun h0=>?_⟩;rw[hk] at hx
  have cellAt:∀ i,i<len->∃ (ecs:List Value),ecs.length=k/\(∀ j,j<k->w.cell? ((a.add (i*k)).add j)=ecs[j]?)/\∃ y,DataW.trod enc Tryz.prog w 0 sp held n e ecs=some y/\rC e y.1:=fun i hi=>by
   obtain⟨ecs,h1,h2⟩:=hx i (by omega);obtain⟨_,hlen,hc⟩:=World.cells?_some h1;exact⟨ecs,hlen,fun j hj=>hc j hj,_,h2,hfe i hi⟩
  obtain⟨ecs,hlen,hc,_⟩:=cellAt 0 h0;have h00:=hc 0 hk0;rw[JE] at h00
  have hsp:a.spot=none/\a.block<w.heap.size:=by
   have e0:(a.add 0).add 0=a:=by simp[Addr.add]
   rw[e0,II (by omega)] at h00;unfold World.cell? at h00
   split at h00
   ·rename_i c _ _ hb
    split at h00
    ·cases h00
    ·rename_i hs
     exact⟨by simpa using hs,Eq hb⟩
   ·cases h00
  obtain⟨hs,hb⟩:=hsp;obtain⟨b,o,s⟩:=a;simp only at hs hb;subst hs;refine⟨b,o,rfl,hb,fun i hi=>?_⟩;obtain⟨ecs,hlen,hc,y,hy⟩:=cellAt i hi;refine⟨ecs,n,y,hlen,fun j hj=>?_,hy⟩
  have ea:((⟨b,o,none⟩:Addr).add (i*k)).add j=⟨b,o+i*k+j,none⟩:=by
   rw[Go.Deep.add_add];unfold Addr.add
   split
   ·rename_i hz
    rw[J7,hz,I7]
   ·rw[J7]
  rw[<-hc j hj,ea]
theorem BX {t:TypeId}{fuel:Nat}{cs:List Value}{x:DataW H×List MemPlace} (ht:Tryz.prog.underlying t=some .string) (h:DataW.trod enc Tryz.prog w 0 sp held fuel t cs=some x) (hf:rC t x.1):∃ s:ByteArray,cs=[.string s]/\s.size<=140737488351232:=by
 obtain⟨s,e,hx,hs⟩:=DataW.trod_string ht h;refine⟨s,e,?_⟩;have:=hf s.data.toList.length (by rw[hx];unfold DataW.weights;exact JA ..);simpa using this
theorem vC {t:TypeId}{fs:Array Field}{fuel:Nat}{cs:List Value}{x:DataW H×List MemPlace} (ht:Tryz.prog.underlying t=some (.struct fs)) (h:DataW.trod enc Tryz.prog w 0 sp held fuel t cs=some x) (hw:rC t x.1) {i:Nat}{f:Field} (hf:fs[i]?=some f) :
  ∃ n y,DataW.trod enc Tryz.prog w 0 sp held n f.type ((cs.drop f.offset).take (Tryz.prog.cellsOf f.type))=some y/\rC f.type y.1:=by
 obtain⟨xs,n,_,hxe,_,hl,hx⟩:=DataW.trod_struct ht h;have h1:=hx i f hf;have hi:i<xs.length:=by rw[hl];exact (ID.1 hf).1
 rw[II hi] at h1;refine⟨n,_,h1,fun m hm=>hw m ?_⟩;rw[hxe]
 show m∈DataW.weights Tryz.prog t (.agg _)
 unfold DataW.weights;rw[ht];exact DataW.weights_mem_each (j:=i) (by simp only[J6,Kb,hf,KO]) (by simp only[J6,II hi,KO]) m hm
theorem Gd {cs:List Value}{o k:Nat}{v:Value} (h:(cs.drop o).take k=[v]):cs[o]?=some v:=by
 have h1:=congrArg (·[0]?) h;simp only[KP,J1,KT,I7] at h1
 split at h1
 ·exact h1
 ·cases h1
theorem qY {t:TypeId}{fuel:Nat}{cs:List Value}{x:DataW H×List MemPlace} (ht:Tryz.prog.underlying t=some (.slice 25)) (h:DataW.trod enc Tryz.prog w 0 sp held fuel t cs=some x) (hf:rC t x.1) :
  ∃ (p:Option Addr) (cap:Nat) (l:List ByteArray),cs=[.slice p l.length cap]/\IsS w (.slice p l.length cap) l:=by
 obtain⟨p,len,cap,rfl,hl,hm,hr,hx⟩:=EC ht (by kernel_rfl:Tryz.prog.cellsOf 25=1) (by decide) (of_decide_eq_true (by kernel_rfl)) h hf;by_cases h0:0<len
 ·obtain⟨b,o,rfl,hb,hx⟩:=hx h0
  obtain⟨l,rfl,hp⟩:=zT len (fun i (s:ByteArray)=>w.cell? ⟨b,o+i,none⟩=some (.string s)) (fun i hi=>by
   obtain⟨ecs,n,y,h1,h2,h3,h4⟩:=hx i hi;obtain⟨s,rfl,-⟩:=BX EP h3 h4
   exact⟨s,by have:=h2 0 (by omega);rw[JO,I7] at this;exact this⟩)
  refine⟨_,cap,l,rfl,⟨_,cap,by rw[IX],by rw[IX];exact hl,hm,fun _=>⟨b,o,rfl,hb,fun i hi j u hu=>?_⟩⟩⟩;have hi':i<l.length:=by simpa using hi
  rw[JT] at hu
  have hj:j=0:=by
   rcases j with _ | j
   ·rfl
   ·simp[cellsOf] at hu
  subst hj;have hu':Value.string l[i]=u:=by simpa[cellsOf] using hu
  rw[<-hu',JO,I7];exact hp i hi'
 ·obtain rfl:len=0:=by omega
  exact⟨p,cap,[],rfl,⟨p,cap,rfl,IF _,hm,fun h=>absurd h (Nat.lt_irrefl 0)⟩⟩
theorem A5 {v:Value}{d:DataW H}{pl:List MemPlace} (h:DataW.Trod enc Tryz.prog w 0 sp held 24 v d pl) (hf:rC 24 d) (hv:∃ cs,v=.agg cs):∃ a b,IsF w v a b:=by
 obtain⟨fuel,h⟩:=h
 obtain⟨n0,y0,f0,gf0⟩:=vC Tryz.underlying24 h hf (i:=0) rfl
 obtain⟨n1,y1,f1,gf1⟩:=vC Tryz.underlying24 h hf (i:=1) rfl
 obtain⟨xs,_,_,_,hcl,_,_⟩:=DataW.trod_struct Tryz.underlying24 h
 have hc1:Tryz.prog.cellsOf 24=2:=by kernel_rfl
 obtain⟨p1,c1,al,e1,hq1⟩:=qY Ap f0 gf0
 obtain⟨p2,c2,fl,e2,hq2⟩:=qY Ap f1 gf1
 have g1:=Gd e1
 have g2:=Gd e2
 obtain⟨cs,rfl⟩:=hv
 rw[hc1] at hcl
 have hcs:(Value.agg cs).cells.toList=[.slice p1 al.length c1,.slice p2 fl.length c2]:=by
  revert hcl g1 g2
  generalize (Value.agg cs).cells.toList=l
  intro hcl g1 g2
  match l,hcl,g1,g2 with
  | [a,b],_,g1,g2 =>
   have ha:a=.slice p1 al.length c1:=by
    have h1:[a,b][0]?=some (Value.slice p1 al.length c1):=g1
    simpa using h1
   have hb:b=.slice p2 fl.length c2:=by
    have h1:[a,b][1]?=some (Value.slice p2 fl.length c2):=g2
    simpa using h1
   rw[ha,hb]
 refine⟨al,fl,⟨p1,c1,p2,c2,?_,hq1,hq2⟩⟩
 have:cs.toList=[.slice p1 al.length c1,.slice p2 fl.length c2]:=hcs
 rw[show cs=#[.slice p1 al.length c1,.slice p2 fl.length c2] from Array.toList_inj.1 this]
end
open Go.RowKit Dc Dg
open Go.ChangeShapes Go.WideShapes Go.ChangeAt
theorem own:ownKnob Tryz.prog.godebug=none:=by kernel_rfl
def ss:List (String×DataW Unit):=[("math/bits.deBruijn32tab", Rows.laid_math_bits_deBruijn32tab),("math/bits.deBruijn64tab", Rows.laid_math_bits_deBruijn64tab),("internal/strconv.uint64pow10", Rows.laid_internal_strconv_uint64pow10),("unicode/utf8.acceptRanges", Rows.laid_unicode_utf8_acceptRanges),("strconv.ErrRange", Rows.laid_strconv_ErrRange),("strconv.ErrSyntax", Rows.laid_strconv_ErrSyntax),("unicode/utf8.first", Rows.laid_unicode_utf8_first)]
theorem vZ {H:Type}{enc:TypeId×Value->H}{a:Assume}{C:Checked}{os:Os}{f:FuncId}{fn:Func}{s:ChangeSpec}{conds:List PathCond}{apart fresh handsOn again:Bool}{X:World->Array Value->Prop}
  (hX:∀ (w w':World) (args:Array Value),w.heap=w'.heap->X w args->X w' args)
  (own:ownKnob C.prog.godebug=none) (started:os.Started) (noInit:C.prog.inits.idxOf? f=none) (hfn:C.prog.funcs[f]?=some fn)
  (witness:∃ (w:World) (tape:Tape) (i:Input),w.os=os/\(w.forCall tape i).Shaped C.prog/\i.vars=[]/\Input.okWide C.prog (w.forCall tape i) .any w.heap.size f i /\
   ((s.pre enc C.prog fn conds apart (w.forCall tape i).memory i.args/\X (w.forCall tape i).memory i.args)/\sizedMet enc C.prog fn (OpenSpec.ofChange s) apart (w.forCall tape i).memory i.args)/\a.holds C.prog (lone (Frame.enter C.prog f i.args .normal) [] (w.forCall tape i)))
  (contract:∀ (W:World) (base:Nat) (args:Array Value) (ds gs:List (DataW H)) (before:List MemPlace),
   (∀ (j:Nat) t v,fn.params[j]?=some t->args[j]?=some v->Value.okWide C.prog W .any base t v) ->
   DataW.Whole enc C.prog fn.params.toList s.vars apart W args.toList ds gs before ->
   (DataW.weightsEach C.prog (fn.params.toList++s.plain.varTypes C.prog) (ds++gs)).all (·<=reachBytes)=true->X W args->W.ShapedOpen C.prog ->
   Calls C.prog f args W fun e W'=>∃ v,e=.returned v/\s.post enc C.prog fn apart fresh handsOn again W args v W') :
  ReturnsInHanded a C os f .any (fun w args=>(s.pre enc C.prog fn conds apart w args/\X w args)/\sizedMet enc C.prog fn (OpenSpec.ofChange s) apart w args) (s.post enc C.prog fn apart fresh handsOn again):=by
 refine returnsInHanded_of_calls own started noInit witness ?_;intro w tape i _ hsh _ hok hpre hholds;obtain⟨_,_,_,fn',hfn',_,_,_,_,hval⟩:=hok;have e:fn'=fn:=Option.some.inj (hfn'.symm.trans hfn);subst e;obtain⟨⟨⟨ds,gs,before,hw,hc⟩,hx⟩,hz⟩:=hpre;have hw':=DataW.Whole.of_heap (w':=w.forCall tape i) (by rfl) hw;refine (contract (w.forCall tape i) w.heap.size i.args ds gs before hval hw' (hz.weights hw) (hX _ _ _ (by rfl) hx) hsh).mono fun e W' ⟨v,he,hp⟩=>?_;subst he;exact ChangeSpec.post_blind hp
theorem vQ {H:Type}{enc:TypeId×Value->H}{w:World}{base:Nat}{sp:Nat->Bool}{held:Bool}{fuel:Nat}{t:TypeId}{cs:List Value}{n:String}{d:DataW H}{p:List MemPlace}{ms:Array (String×TypeId)} (ht:Tryz.prog.underlying t=some (.interface ms)) (h:DataW.trod enc Tryz.prog w base sp held fuel t cs=some (.iface n d,p)):∃ u v,cs=[.iface u v]:=by
 cases fuel with
 | zero=>simp[DataW.trod] at h
 | succ fuel =>
  unfold DataW.trod at h;rw[ht] at h
  split at h<;>first | (cases h;done) | skip
  all_goals first | exact⟨_,_,rfl⟩ | (simp_all;done)
theorem DZ:(Rows.laid_internal_strconv_uint64pow10:DataW Unit)=Lib.tabData .u64 Lib.pow10Tab:=by kernel_rfl
theorem H6 {W:World} (hL:laidMetH Tryz.prog ss W) (hsh:W.ShapedOpen Tryz.prog):Gx W:=by
 rw[Go.MakeChecks.laidMetH_plain _ _ _ (by kernel_rfl)] at hL;obtain⟨ps,hv,_,_⟩:=hL;unfold ss at hv;obtain⟨g6,t6,c6,f6,p6,q6,hg6,ht6,hv6,hd6,hv,_⟩:=hv;obtain⟨g7,t7,c7,f7,p7,q7,hg7,ht7,hv7,hd7,hv,_⟩:=hv;obtain⟨g5,t5,c5,f5,p5,q5,hg5,ht5,hv5,hd5,hv,_⟩:=hv;obtain⟨g4,t4,c4,f4,p4,q4,hg4,ht4,hv4,hd4,hv,_⟩:=hv;obtain⟨g1,t1,c1,f1,p1,q1,hg1,ht1,hv1,hd1,hv,_⟩:=hv;obtain⟨g0,t0,c0,f0,p0,q0,hg0,ht0,hv0,hd0,_,_⟩:=hv
 have n0:Tryz.prog.globalNamed "strconv.ErrSyntax" = some 0:=by kernel_rfl
 have n1:Tryz.prog.globalNamed "strconv.ErrRange" = some 1:=by kernel_rfl
 have n5:=ol;have y0:(Tryz.prog.globals[0]?).map (·.type)=some 120:=by kernel_rfl
 have y1:(Tryz.prog.globals[1]?).map (·.type)=some 120:=by kernel_rfl
 obtain rfl:=Option.some.inj (n0.symm.trans hg0);obtain rfl:=Option.some.inj (n1.symm.trans hg1);obtain rfl:=Option.some.inj (n5.symm.trans hg5);obtain rfl:=Option.some.inj (y0.symm.trans ht0);obtain rfl:=Option.some.inj (y1.symm.trans ht1);have hif:=Tryz.underlying120;have k0:=World.var?_cell hg0 hv0 0;have k1:=World.var?_cell hg1 hv1 0;obtain⟨u0,v0,e0⟩:=vQ hif hd0;obtain⟨u1,v1,e1⟩:=vQ hif hd1;rw[<-Kb,e0] at k0;rw[<-Kb,e1] at k1;rw[DZ] at hd5
 obtain⟨T,hT,e,hu,he⟩:∃ T,(Tryz.prog.globals[5]?).map (·.type)=some T/\∃ e,Tryz.prog.underlying T=some (.array 20 e)/\(Tryz.prog.underlying e=some (.int .u64)/\Tryz.prog.cellsOf e=1/\Tryz.prog.cellsOf T=20) :=
  ⟨280,by kernel_rfl,136,by kernel_rfl,by kernel_rfl,by kernel_rfl,by kernel_rfl⟩
 obtain rfl:=Option.some.inj (hT.symm.trans ht5);have ep:=Lib.cells_of_tab hu he.1 he.2.1 he.2.2 hd5
 have hsz:8<=W.heap.size:=by
  have h7:(((begin Tryz.prog (fun _ _=>0) default).world.heap[7]?).bind Obj.row?).isSome=true:=by kernel_rfl
  obtain⟨⟨zero,t⟩,hz⟩:=Option.isSome_iff_exists.1 h7;obtain⟨cs,hh,_⟩:=hsh.1 7 zero t (of_decide_eq_true (by kernel_rfl)) hz;have:=Eq hh;omega
 refine⟨⟨?_,?_,hsz⟩,⟨u0,v0,k0⟩,⟨u1,v1,k1⟩⟩
 ·unfold uN Lib.TabIs;rw[hv5,<-ep]
 ·exact cell_of_shapedOpen_int (g:=2) (t:=3) (zero:=#[.int .i64 0]) hsh (of_decide_eq_true (by kernel_rfl)) (by kernel_rfl) rfl (by kernel_rfl) (by kernel_rfl) und3
open Go.RowKit Dg Dc
theorem BH (v:Value) (a b:List ByteArray) (w:World) (hF:IsF w v a b) :
  Calls Tryz.prog 9 #[v] w fun e w'=>e=.returned (.tuple #[.string (cf a b).1,.int .i64 (cf a b).2])/\Below w.heap.size w w':=by
 obtain⟨p,c,q,d,rfl,hfa,hfb⟩:=id hF.ex;go_enter Tryz.func9,Tryz.ntmps9;go_upto_region 1 with fail
 have cc:=aG w (.slice p a.length c) (.slice q b.length d);have m1:=aj w (.cells #[.slice p a.length c,.slice q b.length d] 24);have zz:=size_alloc w (.cells #[.slice p a.length c,.slice q b.length d] 24);generalize w.alloc (.cells #[.slice p a.length c,.slice q b.length d] 24)=w1 at *
 have HCK:=Ip (qP _ a b w1 (hF.below m1));have HF1:=Ip (hF.below m1);have HB:=Ip (hfb.below m1);have c0:=cc.1;have c1:=cc.2;have hlt:w.heap.size<w1.heap.size:=by omega
 have M1:=Ip m1;clear hfa hfb cc zz m1 hF;by_cases hck:aC a b=true
 ·have hce:aB a b=0:=by unfold aB;rw[if_pos hck]
  rw[hce] at HCK;obtain⟨qb,hbe,hok,hq0,hq7,hdeep,hpt,hlo⟩:=By hck;have HC:=Ip hck;have HBE:=Ip hbe;have HOK:=Ip hok;have HPT:=Ip hpt;have HD:=Ip hdeep;have HQL:=Ip (And.intro hq0 hq7);clear hce hck hbe hok hq0 hq7 hdeep hpt hlo;go_wp2_with fail
  refine HCK.out.mono ?_;rintro e w2 ⟨rfl,hb2⟩;have d0:=ag hb2 hlt c0;have d1:=ag hb2 hlt c1;have M2:=Ip (LK M1.out hb2);have hlt2:w.heap.size<w2.heap.size:=Iz hlt hb2.size;have hB2:=HB.out.below hb2;have HF2:=Ip (HF1.out.below hb2);have HG:=Ip (mS _ qb w2 (by rw[<-HBE.out];exact hB2) HOK.out (by have:=HQL.out.2;omega));clear c0 c1 HB HCK M1 hb2 hlt hB2 HF1;go_wp2_with fail
  refine HG.out.mono ?_;rintro e w3 ⟨v3,rfl,hv3,hb3⟩;have M3:=Ip (LK M2.out hb3);have hs3:=hv3.isQs;obtain⟨p3,c3,rfl,-,-⟩:=hs3.form;have HF3:=Ip (HF2.out.below hb3);have d0:=ag hb3 hlt2 d0;have d1:=ag hb3 hlt2 d1;have hlt3:=Iz hlt2 hb3.size;clear hv3 hb3 HG HF2 hlt2;have HS:=Ip (sS _ qb w3 hs3 HQL.out.1 (by have:=HQL.out.2;omega) HD.out);have HPT:=Ip (show (bA b).isSome=(bg (qb.length-1) qb).isSome by rw[HPT.out];simp);go_wp2_with fail
  refine HS.out.mono ?_;rintro e w4 ⟨rfl,hb4⟩;obtain⟨ok,hok⟩:∃ ok,ok=(bg (qb.length-1) qb).isSome:=⟨_,rfl⟩;rw[<-hok] at HPT |-;have d0:=ag hb4 hlt3 d0;have d1:=ag hb4 hlt3 d1;have HF4:=Ip (HF3.out.below hb4);have M4:=Ip (LK M3.out hb4);clear hok HS hb4 hs3 HF3 hlt3
  cases ok with
  | false =>
   have HE:=Ip (show cf a b=(⟨#[]⟩,31) from by unfold cf;rw[if_pos HC.out,if_neg (by rw[HPT.out];decide)]);go_wp2;refine LM (v:=.tuple #[.string ⟨#[]⟩,.int .i64 31]) (by simp[results,Tryz.results9,go_sem]) rfl ⟨by rw[HE.out],M4.out⟩
  | true =>
   obtain⟨qa,tl,n,pa,pb,hn6,hla,hlb,hmax,hdp,hgood,hbd,hen,heok⟩:=vA HC.out HPT.out;have HRE:=Ip (BL _ a b qa (1 :: tl) (n+1) w4 HF4.out pa pb hmax (by omega) (by omega) hdp);have HFM:=Ip (show gj (n+1) (fun i=>(1 :: tl).getD i 0) (fun i=>qa.getD i 0) 0=aS n (fun i=>(1 :: tl).getD i 0) (fun i=>qa.getD i 0) (fun i=>qa.getD i 0) from by rw[mc];grind);rw[HFM.out] at HRE;obtain⟨E,hE⟩:∃ E,E=aS n (fun i=>(1 :: tl).getD i 0) (fun i=>qa.getD i 0) (fun i=>qa.getD i 0):=⟨_,rfl⟩;rw[<-hE] at HRE hen heok;have HEN:=Ip hen;have HEO:=Ip heok;clear hn6 hla hlb hmax hdp hgood hbd hen heok hE HFM pa pb;go_wp2_with fail
   refine HRE.out.mono ?_;rintro e w5 ⟨v5,rfl,hv5,hb5⟩;obtain⟨s1,s2,s3,s4,s5,s6,s7,rfl⟩:=hv5.forms;have M5:=Ip (LK M4.out hb5);go_wp2_with fail
   refine (FO _ E w5 hv5 HEO.out).mono ?_;rintro e w6 ⟨rfl,hb6⟩;obtain⟨te,hte⟩:∃ te,te=tq E:=⟨_,rfl⟩;rw[<-hte] at HEN |-;clear hte hv5 hb5 HRE;go_wp2;refine LM (v:=.tuple #[.string te,.int .i64 0]) (by simp[results,Tryz.results9,go_sem]) rfl ⟨by rw[HEN.out],LK M5.out hb6⟩
 ·have HC:=Ip (show aC a b=false by simpa using hck);have hce:aB a b=30:=by unfold aB;rw[if_neg hck]
  rw[hce] at HCK;have HE:=Ip (show cf a b=(⟨#[]⟩,30) from by unfold cf;rw[if_neg hck]);clear hce;go_wp2_with fail
  refine HCK.out.mono ?_;rintro e w2 ⟨rfl,hb2⟩;go_wp2;refine LM (v:=.tuple #[.string ⟨#[]⟩,.int .i64 30]) (by simp[results,Tryz.results9,go_sem]) rfl ⟨by rw[HE.out],LK M1.out hb2⟩
open Go.RowKit Dg
theorem zf (v:Value) (a b:List ByteArray) (w:World) (hF:IsF w v a b) (hG:Gx w) :
  Calls Tryz.prog 8 #[v] w fun e w'=>e=.returned (.tuple #[.string (cf a b).1,.int .i64 (cf a b).2])/\Below w.heap.size w w':=by
 obtain⟨p,c,q,d,rfl,hfa,hfb⟩:=id hF.ex;go_enter Tryz.func8,Tryz.ntmps8;go_upto_region 1 with fail
 have cc:=aG w (.slice p a.length c) (.slice q b.length d);have m1:=aj w (.cells #[.slice p a.length c,.slice q b.length d] 24);have zz:=size_alloc w (.cells #[.slice p a.length c,.slice q b.length d] 24);generalize w.alloc (.cells #[.slice p a.length c,.slice q b.length d] 24)=w1 at *
 have HCK:=Ip (fP _ a b w1 (hF.below m1) (hG.below m1));have HA:=Ip (hfa.below m1);have HB:=Ip (hfb.below m1);have HG:=Ip (hG.below m1);have c0:=cc.1;have c1:=cc.2;have hlt:w.heap.size<w1.heap.size:=by omega
 have M1:=Ip m1;clear hfa hfb cc zz m1 hF hG;by_cases hck:aC a b=true
 ·have HT:=Ip (show cf a b=if (bA b).isSome=true then (gl (max a.length b.length) (eS b (max a.length b.length)) (eS a (max a.length b.length)) ⟨#[48]⟩,0) else (⟨#[]⟩,31) by unfold cf;rw[if_pos hck]);have hce:aB a b=0:=by unfold aB;rw[if_pos hck]
  rw[hce] at HCK;obtain⟨ob1,ob7,oa1,oa7,oac,obc,ohd⟩:=bv hck;clear hce;go_wp2_with fail
  refine HCK.out.mono ?_;rintro e w2 ⟨rfl,hb2⟩;have d0:=ag hb2 hlt c0;have d1:=ag hb2 hlt c1;have HA2:=Ip (HA.out.below hb2);have HB2:=Ip (HB.out.below hb2);have HG2:=Ip (HG.out.below hb2);have M2:=Ip (LK M1.out hb2);have hlt2:w.heap.size<w2.heap.size:=Iz hlt hb2.size;clear c0 c1 HA HB HG HCK M1 hb2 hlt;clear oac obc ohd hck;have HS:=Ip (oZ _ b w2 HB2.out ob1 (by omega) HG2.out.g)
  cases hst:(bA b).isSome with
  | false =>
   rw[hst] at HS HT;clear hst;go_wp2_with fail
   refine HS.out.mono ?_;rintro e w3 ⟨rfl,hb3⟩;have HE:=Ip (show cf a b=(⟨#[]⟩,31) from HT.out);go_wp2;refine LM (v:=.tuple #[.string ⟨#[]⟩,.int .i64 31]) (by simp[results,Tryz.results8,go_sem]) rfl ⟨by rw[HE.out],LK M2.out hb3⟩
  | true =>
   rw[hst] at HS HT;clear hst;go_wp2_with fail
   refine HS.out.mono ?_;rintro e w3 ⟨rfl,hb3⟩;have e0:=ag hb3 hlt2 d0;have e1:=ag hb3 hlt2 d1;have hlt3:w.heap.size<w3.heap.size:=Iz hlt2 hb3.size;have HA3:=Ip (HA2.out.below hb3);have HB3:=Ip (HB2.out.below hb3);have HG3:=Ip (HG2.out.below hb3);have M3:=Ip (LK M2.out hb3);clear d0 d1 hlt2 HA2 HB2 HG2 M2 hb3 HS;obtain⟨n,hn⟩:∃ n,n=max a.length b.length:=⟨_,rfl⟩;have hmax:max (a.length:Int) (b.length:Int)=(n:Int):=by rw[hn];omega
   have hn7:n<=7:=by omega
   have hn1:1<=n:=by omega
   have HT:=Ip (show cf a b=(gl n (eS b n) (eS a n) ⟨#[48]⟩,0) by rw[hn];exact HT.out);have HPB:=Ip (show (eS b n).length=n by rw[ji];omega);have HPA:=Ip (show (eS a n).length=n by rw[ji];omega);clear hn;go_upto_region 7 with fail
   clear hmax;have m4:Below w3.heap.size w3 w3.drew:=(LN _ _).drew;refine av (fun w'=>∃ x:az w3.drew.heap.size w3.drew,w'=x.w) (fun i=>i == 3||i == 7) (by kernel_rfl) (by kernel_rfl) ⟨⟨_,LN _ _⟩,rfl⟩ ?_;have d0:=ag m4 hlt3 e0;have d1:=ag m4 hlt3 e1;have hlt4:w.heap.size<w3.drew.heap.size:=by have:=m4.size;omega
   have HA4:=Ip (HA3.out.below m4);have HB4:=Ip (HB3.out.below m4);have HG4:=Ip (HG3.out.below m4);have M4:=Ip (LK M3.out m4);clear e0 e1 hlt3 HA3 HB3 HG3 M3 m4;generalize w3.drew=wd at *
   have hz:wd.heap.size<=wd.heap.size:=Iw _;have g0:=fun x:az wd.heap.size wd=>ag x.h hlt4 d0;have g1:=fun x:az wd.heap.size wd=>ag x.h hlt4 d1;clear d0 d1;refine ak 3 0 _ _ _ (by kernel_rfl) ?_;simp only[Ix,IC,Iy,IA];repeat (go_big_quiet_step (fail))
   refine wpQuiet_nil ?_;refine ap rfl rfl (fun K hK=>?_);go_simp;refine (oU _ b n wd HB4.out ob1 (by omega) (by omega)).mono ?_;rintro e w5 ⟨u1,rfl,hu1,hb5⟩;refine hK _ _ ⟨⟨_,hb5.mono hz⟩,rfl⟩ ?_;clear hK K;try simp only[Act.put,It,Is,Ir,Iq,Iu,Iv]
   refine ak 3 4 _ _ _ (by kernel_rfl) ?_;simp only[Ix,IC,Iy,IA];repeat (go_big_quiet_step (fail))
   refine wpQuiet_nil ?_;refine ap rfl rfl (fun K hK=>?_);go_simp;refine (oU _ a n w5 (HA4.out.below hb5) oa1 (by omega) (by omega)).mono ?_;rintro e w6 ⟨u2,rfl,hu2,hb6⟩;have hB6:=LK hb5 hb6;refine hK _ _ ⟨⟨_,hB6.mono hz⟩,rfl⟩ ?_;clear hK K;try simp only[Act.put,It,Is,Ir,Iq,Iu,Iv]
   refine ak 2 8 _ _ _ (by kernel_rfl) ?_;simp only[Ix,IC,Iy,IA];repeat (go_big_quiet_step (fail))
   refine wpQuiet_nil ?_;refine aE ?_;have HU1:=Ip (hu1.isS.below hb6);have HU2:=Ip hu2.isS;have M6:=Ip (LK M4.out hB6);have HG6:=Ip (HG4.out.below hB6);clear hu1 hu2 hb5 hb6 hB6 g0 g1 HA4 HB4 HG4 M4 hlt4 hz;go_wp2;go_loopw [6,7,8,9] (fun s6 s7 s8 s9 wr=>∃ (k:Nat) (z:Int) (la lb:List ByteArray) (e:ByteArray),s9=.int .i64 z/\z=(k:Int)-1/\k<=n/\IsS wr s6 la/\IsS wr s7 lb/\la.length=k/\lb.length=k/\s8=.string e/\Below w.heap.size w wr/\Hid (Gx wr)/\Hid (cf a b=(gl k la lb e,0))) (fun _ _ _ s9 _=>(intOf s9+1).toNat)
   case atStart=>exact⟨n,_,_,_,_,rfl,rfl,Iw _,HU1.out,HU2.out,HPB.out,HPA.out,rfl,M6.out,HG6.out,HT.out⟩
   case round =>
    obtain⟨k,z,la,lb,e,rfl,hz,hkn,hla,hlb,hal,hbl,rfl,hbr,HGr,hrec⟩:=hrel;by_cases h0:k=0
    ·subst h0;obtain rfl:z=-1:=by omega
     have HE:=Ip (show cf a b=(e,0) from hrec.out);clear hrec hal hbl hz;go_wp2;refine LM (v:=.tuple #[.string e,.int .i64 0]) (by simp[results,Tryz.results8,go_sem]) rfl ⟨by rw[HE.out],hbr⟩
    ·obtain⟨m,rfl⟩:∃ m,k=m+1:=⟨k-1,by omega⟩;obtain rfl:z=(m:Int):=by omega
     obtain⟨pa,ca,rfl,-⟩:=id hla.form;obtain⟨pb,cb,rfl,-⟩:=id hlb.form;obtain⟨b1,o1,rfl,hb1,hc1⟩:=hla.all (by omega);obtain⟨b2,o2,rfl,hb2,hc2⟩:=hlb.all (by omega);rw[hal,hbl];have HLA:=Ip hla;have HLB:=Ip hlb;have HLL:=Ip (And.intro hal hbl);have h1:wr.cell? ⟨b1,o1,none⟩=some (.string (aD la 0)):=by simpa using hc1 0 (by omega)
     have h2:=hc2 m (by omega);have h3:=hc1 m (by omega);clear hla hlb hal hbl hc1 hc2 hz h0;go_upto_region 12 with fail
     have m4:Below wr.heap.size wr wr.drew:=(LN _ _).drew;refine av (fun w'=>∃ x:az wr.drew.heap.size wr.drew,w'=x.w) (fun i=>i == 9||i == 13||i == 14) (by kernel_rfl) (by kernel_rfl) ⟨⟨_,LN _ _⟩,rfl⟩ ?_;have HB4:=Ip (LK hbr m4);have h1:=ag m4 hb1 h1;have h2:=ag m4 hb2 h2;have h3:=ag m4 hb1 h3;have hb1:=Iz hb1 m4.size;have hb2:=Iz hb2 m4.size;have HLA:=Ip (HLA.out.below m4);have HLB:=Ip (HLB.out.below m4);have HG4:=Ip (HGr.out.below m4);clear m4 hbr HGr;generalize wr.drew=wd at *
     have hz:wd.heap.size<=wd.heap.size:=Iw _;have g1:=fun x:az wd.heap.size wd=>ag x.h hb1 h1;have g2:=fun x:az wd.heap.size wd=>ag x.h hb2 h2;have H3:=Ip h3;have H2:=Ip h2;have H1:=Ip h1;clear h1 h2 h3;refine ak 9 0 _ _ _ (by kernel_rfl) ?_;simp only[Ix,IC,Iy,IA];repeat (go_big_quiet_step (fail))
     refine wpQuiet_nil ?_;refine ap rfl rfl (fun K hK=>?_);go_simp;refine (gp _ _ wd HG4.out.g).mono ?_;rintro e5 w5 ⟨rfl,hb5⟩;refine hK _ _ ⟨⟨_,hb5.mono hz⟩,rfl⟩ ?_;clear hK K;try simp only[Act.put,It,Is,Ir,Iq,Iu,Iv]
     refine ak 3 10 _ _ _ (by kernel_rfl) ?_;simp only[Ix,IC,Iy,IA];repeat (go_big_quiet_step (fail))
     refine wpQuiet_nil ?_;refine ap rfl rfl (fun K hK=>?_);go_simp;refine (gT _ _ w5 (HG4.out.below hb5).g).mono ?_;rintro e6 w6 ⟨rfl,hb6⟩;have hB6:=LK hb5 hb6;refine hK _ _ ⟨⟨_,hB6.mono hz⟩,rfl⟩ ?_;clear hK K;try simp only[Act.put,It,Is,Ir,Iq,Iu,Iv]
     refine ap rfl rfl (fun K hK=>?_);go_simp;refine (mv _ _ w6 (HG4.out.below hB6).g).mono ?_;rintro e7 w7 ⟨rfl,hb7⟩;have hB7:=LK hB6 hb7;refine hK _ _ ⟨⟨_,hB7.mono hz⟩,rfl⟩ ?_;clear hK K;try simp only[Act.put,It,Is,Ir,Iq,Iu,Iv]
     refine ak 1 15 _ _ _ (by kernel_rfl) ?_;simp only[Ix,IC,Iy,IA];repeat (go_big_quiet_step (fail))
     refine wpQuiet_nil ?_;refine aE ?_;have h1:=ag hB7 hb1 H1.out;have h2:=ag hB7 hb2 H2.out;have h3:=ag hB7 hb1 H3.out;have hb1:=Iz hb1 hB7.size;have hb2:=Iz hb2 hB7.size;have HLA:=Ip (HLA.out.below hB7);have HLB:=Ip (HLB.out.below hB7);have HG7:=Ip (HG4.out.below hB7);have M7:=Ip (LK HB4.out hB7);clear g1 g2 H1 H2 H3 hb5 hb6 hb7 hB6 hB7 HB4 HG4 hz;go_upto_region 13 with fail
     have m4:Below w7.heap.size w7 w7.drew:=(LN _ _).drew;refine av (fun w'=>∃ x:az w7.drew.heap.size w7.drew,w'=x.w) (fun i=>i == 7||i == 15) (by kernel_rfl) (by kernel_rfl) ⟨⟨_,LN _ _⟩,rfl⟩ ?_;have M8:=Ip (LK M7.out m4);have h1:=ag m4 hb1 h1;have h2:=ag m4 hb2 h2;have h3:=ag m4 hb1 h3;have hb1:=Iz hb1 m4.size;have hb2:=Iz hb2 m4.size;have HLA:=Ip (HLA.out.below m4);have HLB:=Ip (HLB.out.below m4);have HG8:=Ip (HG7.out.below m4);clear m4 M7 HG7;generalize w7.drew=w8 at *
     have hz:w8.heap.size<=w8.heap.size:=Iw _;have g1:=fun x:az w8.heap.size w8=>ag x.h hb1 h1;have g2:=fun x:az w8.heap.size w8=>ag x.h hb2 h2;have g3:=fun x:az w8.heap.size w8=>ag x.h hb1 h3;clear h1 h2 h3;refine ak 7 0 _ _ _ (by kernel_rfl) ?_;simp only[Ix,IC,Iy,IA];repeat (go_big_quiet_step (fail))
     refine wpQuiet_nil ?_;refine ap rfl rfl (fun K hK=>?_);go_simp;refine (gT _ _ w8 HG8.out.g).mono ?_;rintro e9 w9 ⟨rfl,hb9⟩;refine hK _ _ ⟨⟨_,hb9.mono hz⟩,rfl⟩ ?_;clear hK K;try simp only[Act.put,It,Is,Ir,Iq,Iu,Iv]
     refine ak 7 8 _ _ _ (by kernel_rfl) ?_;simp only[Ix,IC,Iy,IA];repeat (go_big_quiet_step (fail))
     refine wpQuiet_nil ?_;refine ap rfl rfl (fun K hK=>?_);go_simp;refine (gT _ _ w9 (HG8.out.below hb9).g).mono ?_;rintro e10 w10 ⟨rfl,hb10⟩;have hB10:=LK hb9 hb10;refine hK _ _ ⟨⟨_,hB10.mono hz⟩,rfl⟩ ?_;clear hK K;try simp only[Act.put,It,Is,Ir,Iq,Iu,Iv]
     refine ak 2 16 _ _ _ (by kernel_rfl) ?_;simp only[Ix,IC,Iy,IA];repeat (go_big_quiet_step (fail))
     refine wpQuiet_nil ?_;refine aE ?_;have HLA:=Ip (HLA.out.below hB10);have HLB:=Ip (HLB.out.below hB10);have HG10:=Ip (HG8.out.below hB10);have M10:=Ip (LK M8.out hB10);clear g1 g2 g3 hb9 hb10 hB10 hz M8 HG8;go_upto_region 14 with fail
     go_cut [12,13] from 76 to 79 (fun s12 s13 wx=>∃ g1 g2:Nat,s12=.slice (some ⟨g1,0,none⟩) m m/\s13=.slice (some ⟨g2,0,none⟩) m m/\dO wx g1 m (List.replicate m ⟨#[]⟩)/\dO wx g2 m (List.replicate m ⟨#[]⟩)/\g1≠g2/\w10.heap.size<=g1/\w10.heap.size<=g2/\Below w10.heap.size w10 wx)
     case first =>
      have hBd:Below w10.heap.size w10 w10.drew:=(LN _ _).drew;refine wp_mono (ax (Q:=aP _) (fun _=>True) (fun _=>false) (by kernel_rfl) ?_) (fun _ _ _ h=>aY h);generalize w10.drew=wd at *
      refine ai (i:=0) (v:=.int .i64 m) rfl (by kernel_rfl) (fun _ _ _ h=>h) rfl (fun wy=>by go_simp;try with_reducible rfl) ?_;refine ai (i:=2) (v:=.int .i64 m) rfl (by kernel_rfl) (fun _ _ _ h=>h) rfl (fun wy=>by go_simp;try with_reducible rfl) ?_;try simp only[Act.put,It,Is,Ir,Iq,Iu,Iv]
      refine dN (i:=1) (i':=3) rfl rfl (by kernel_rfl) rfl rfl (fun K hK=>?_) (fun K hK=>?_)
      ·refine dR rfl ?_;refine dz 22 Tryz.underlying22 rfl (.tmp 76) (.tmp 76) rfl _ _ m rfl rfl (by go_num) (by go_num) (by omega) ?_;intro w11 hr11 hb11 hs11;refine⟨rfl,hK _ _ (fun _ _=>trivial) ?_⟩;clear hK K;refine LJ 4 (r:=?_)
       try simp only[Act.put,It,Is,Ir,Iq,Iu,Iv]
       refine ar (i:=3) rfl (by kernel_rfl) rfl (fun K hK=>?_);refine dR rfl ?_;refine dz 22 Tryz.underlying22 rfl (.tmp 78) (.tmp 78) rfl _ _ m rfl rfl (by go_num) (by go_num) (by omega) ?_;intro w12 hr12 hb12 hs12;refine⟨rfl,hK _ _ (fun _ _=>trivial) ?_⟩;clear hK K;refine LJ 5 (r:=?_)
       try simp only[Act.put,It,Is,Ir,Iq,Iu,Iv]
       refine aF (by kernel_rfl) ?_ _;simp only[aP];try go_wp2
       go_meet;exact⟨wd.heap.size,w11.heap.size,rfl,rfl,hr11.below (hb12 _ _ (LN _ _) (Iw _)),hr12,by omega,by have:=hBd.size;omega,by have:=hBd.size;omega,hBd.trans ((hb12 _ _ (hb11 _ _ (LN _ _) (Iw _)) (by omega)).mono hBd.size)⟩
      ·refine dR rfl ?_;refine dz 22 Tryz.underlying22 rfl (.tmp 78) (.tmp 78) rfl _ _ m rfl rfl (by go_num) (by go_num) (by omega) ?_;intro w11 hr11 hb11 hs11;refine⟨rfl,hK _ _ (fun _ _=>trivial) ?_⟩;clear hK K;try simp only[Act.put,It,Is,Ir,Iq,Iu,Iv]
       refine ar (i:=1) rfl (by kernel_rfl) rfl (fun K hK=>?_);refine dR rfl ?_;refine dz 22 Tryz.underlying22 rfl (.tmp 76) (.tmp 76) rfl _ _ m rfl rfl (by go_num) (by go_num) (by omega) ?_;intro w12 hr12 hb12 hs12;refine⟨rfl,hK _ _ (fun _ _=>trivial) ?_⟩;clear hK K;refine LJ 4 (r:=?_)
       refine LJ 5 (r:=?_)
       try simp only[Act.put,It,Is,Ir,Iq,Iu,Iv]
       refine aF (by kernel_rfl) ?_ _;simp only[aP];try go_wp2
       go_meet;exact⟨w11.heap.size,wd.heap.size,rfl,rfl,hr12,hr11.below (hb12 _ _ (LN _ _) (Iw _)),by omega,by have:=hBd.size;omega,by have:=hBd.size;omega,hBd.trans ((hb12 _ _ (hb11 _ _ (LN _ _) (Iw _)) (by omega)).mono hBd.size)⟩
     case rest =>
      obtain⟨g1,g2,rfl,rfl,hr1,hr2,hne,hg1,hg2,hbc⟩:=hcut;rename World=>wc;have HB0:=Ip (LK M10.out hbc);have HGc:=Ip (HG10.out.below hbc);have HLAc:=Ip (HLA.out.below hbc);have HLBc:=Ip (HLB.out.below hbc);obtain⟨La,hLa⟩:∃ L,L=eC la la m:=⟨_,rfl⟩;obtain⟨Lb,hLb⟩:∃ L,L=eC la lb m:=⟨_,rfl⟩;have hLal:La.length=m:=by rw[hLa];exact kR _ _ _
      have hLbl:Lb.length=m:=by rw[hLb];exact kR _ _ _
      have hr1':dO wc g1 m (cj La 0):=by rw[iw,hLal];exact hr1
      have hr2':dO wc g2 m (cj Lb 0):=by rw[iw,hLbl];exact hr2
      have HDA:=Ip hLa;have HDB:=Ip hLb;obtain⟨hal,hbl⟩:=HLL.out;obtain⟨b1',o1',e1,hlA,hcA⟩:=HLAc.out.all (by omega);obtain⟨rfl,rfl⟩:b1=b1'/\o1=o1':=by simpa using e1
      obtain⟨b2',o2',e2,hlB,hcB⟩:=HLBc.out.all (by omega);obtain⟨rfl,rfl⟩:b2=b2'/\o2=o2':=by simpa using e2
      rw[hal] at hcA;rw[hbl] at hcB;have HCA:=Ip hcA;have HCB:=Ip hcB;have hB0:Below w10.heap.size wc wc:=LN _ _;have HEN:=Ip (show cf a b=(gl m La Lb (iH e (dw (d_ (aD lb m) (aD lb m)) (aD la 0))),0) by rw[hLa,hLb];exact hrec.out);have hm6:m<1000000:=by omega
      have hlt1:b1<w10.heap.size:=by
       obtain⟨b',o',e',h',-⟩:=HLA.out.all (by omega);obtain⟨rfl,rfl⟩:b1=b'/\o1=o':=by simpa using e'
       exact h'
      have hlt2:b2<w10.heap.size:=by
       obtain⟨b',o',e',h',-⟩:=HLB.out.all (by omega);obtain⟨rfl,rfl⟩:b2=b'/\o2=o':=by simpa using e'
       exact h'
      have hle:w10.heap.size<=wc.heap.size:=hbc.size;have HBC:=Ip hbc;clear hLa hLb hr1 hr2 hal hbl hcA hcB e1 e2 hlA hlB hbc h1 h2 h3 hb1 hb2 hrec HLAc HLBc;go_wp2;go_loopw [81] (fun s81 wi=>∃ i:Nat,s81=.int .i64 i/\i<=m/\dO wi g1 m (cj La i)/\dO wi g2 m (cj Lb i)/\Below w10.heap.size wc wi) (fun s81 _=>m-(intOf s81).toNat)
      case atStart=>exact⟨0,rfl,IF _,hr1',hr2',hB0⟩
      case round =>
       clear hr1' hr2' hB0;obtain⟨i,rfl,him,hr1,hr2,hbi⟩:=hrel;by_cases hi:i<m
       ·have e1:(m:Int)-(i:Int)=((m-i:Nat):Int):=by omega
        go_upto_region 18 with fail
        have hx:=HCA.out i (by omega);have hy:=HCA.out (m-i) (by omega);have m4:Below wr.heap.size wr wr.drew:=(LN _ _).drew;have hlw:w10.heap.size<=wr.heap.size:=IB hle hbi.size;have HBd:=Ip (hbi.trans (m4.mono hlw));have hr9:=Ip (hr1.below m4);have ho9:=Ip (hr2.below m4);refine av (fun w'=>∃ x:az w10.heap.size wr.drew,w'=x.w) (fun i=>i == 13||i == 14||i == 16) (by kernel_rfl) (by kernel_rfl) ⟨⟨_,LN _ _⟩,rfl⟩ ?_;have hz:w10.heap.size<=wr.drew.heap.size:=IB hlw m4.size;generalize wr.drew=wd at *
        have c0:=fun x:az w10.heap.size wd=>ag (HBd.out.trans x.h) hlt1 hx;have c1:=fun x:az w10.heap.size wd=>ag (HBd.out.trans x.h) hlt1 hy;have HG9:=Ip (HG10.out.below (HBC.out.trans HBd.out));clear hx hy m4 hr1 hr2 hbi hlw;refine ak 13 0 _ _ _ (by kernel_rfl) ?_;simp only[Ix,IC,Iy,IA];repeat (go_big_quiet_step (fail))
        refine wpQuiet_nil ?_;clear c0 c1;refine ap rfl rfl (fun K hK=>?_);go_simp;refine (gp _ _ wd HG9.out.g).mono ?_;rintro e wa ⟨rfl,hba⟩;refine hK _ _ ⟨⟨_,hba.mono hz⟩,rfl⟩ ?_;clear hK K;try simp only[Act.put,It,Is,Ir,Iq,Iu,Iv]
        refine ap rfl rfl (fun K hK=>?_);go_simp;refine (mC _ _ wa (HG9.out.below hba).g).mono ?_;rintro e wb ⟨rfl,hbb⟩;have hBb:=LK hba hbb;refine hK _ _ ⟨⟨_,hBb.mono hz⟩,rfl⟩ ?_;clear hK K;try simp only[Act.put,It,Is,Ir,Iq,Iu,Iv]
        refine ak 1 15 _ _ _ (by kernel_rfl) ?_;simp only[Ix,IC,Iy,IA];repeat (go_big_quiet_step (fail))
        refine wpQuiet_nil ?_;have hfl:i<(cj La i).length:=by rw[jd La (by omega)];omega
        have rc:=hr9.out.below hBb;have rd:=rc.cell hfl;have re:=rc.free i;obtain⟨tx,htx⟩:∃ t,t=iY (aD la i) (d_ (dw (aD la m) (aD la 0)) (aD la (m-i))):=⟨_,rfl⟩
        have hset:dO (wb.setCell ⟨g1,i,none⟩ (.string tx)) g1 m (cj La (i+1)):=by
         have h1:=rc.set i tx;have h2:=pJ la la (k:=m) hi;rw[<-HDA.out,<-htx] at h2;rw[<-h2];exact h1
        have hoth:=(ho9.out.below hBb).other hne.symm i (.string tx);have hP:Below w10.heap.size wd (wb.setCell ⟨g1,i,none⟩ (.string tx)):=(hBb.mono hz).setCell (p:=⟨g1,i,none⟩) (by show w10.heap.size<=g1;omega) _;rw[<-htx];have HTX:=Ip htx;clear htx;refine ap rfl rfl (fun K hK=>?_);go_simp;refine hK undef _ ⟨⟨_,hP⟩,rfl⟩ ?_;clear hK K;try simp only[Act.put,It,Is,Ir,Iq,Iu,Iv]
        refine aE ?_;have hbi:=HBd.out.trans hP;clear rc rd re hP hbb hba hBb hr9 ho9 HG9 HBd hz;generalize wb.setCell ⟨g1,i,none⟩ (.string tx)=we at *
        have hr1:=hset;have hr2:=hoth;clear hset hoth HTX;have e1:(m:Int)-(i:Int)=((m-i:Nat):Int):=by omega
        go_upto_region 19 with fail
        have hx:=HCB.out i (by omega);have hy:=HCA.out (m-i) (by omega);have m4:Below we.heap.size we we.drew:=(LN _ _).drew;have hlw:w10.heap.size<=we.heap.size:=IB hle hbi.size;have HBd:=Ip (hbi.trans (m4.mono hlw));have hr9:=Ip (hr2.below m4);have ho9:=Ip (hr1.below m4);refine av (fun w'=>∃ x:az w10.heap.size we.drew,w'=x.w) (fun i=>i == 13||i == 14||i == 16) (by kernel_rfl) (by kernel_rfl) ⟨⟨_,LN _ _⟩,rfl⟩ ?_;have hz:w10.heap.size<=we.drew.heap.size:=IB hlw m4.size;generalize we.drew=wd at *
        have c0:=fun x:az w10.heap.size wd=>ag (HBd.out.trans x.h) hlt2 hx;have c1:=fun x:az w10.heap.size wd=>ag (HBd.out.trans x.h) hlt1 hy;have HG9:=Ip (HG10.out.below (HBC.out.trans HBd.out));clear hx hy m4 hr2 hr1 hbi hlw;refine ak 13 0 _ _ _ (by kernel_rfl) ?_;simp only[Ix,IC,Iy,IA];repeat (go_big_quiet_step (fail))
        refine wpQuiet_nil ?_;clear c0 c1;refine ap rfl rfl (fun K hK=>?_);go_simp;refine (gp _ _ wd HG9.out.g).mono ?_;rintro e wa ⟨rfl,hba⟩;refine hK _ _ ⟨⟨_,hba.mono hz⟩,rfl⟩ ?_;clear hK K;try simp only[Act.put,It,Is,Ir,Iq,Iu,Iv]
        refine ap rfl rfl (fun K hK=>?_);go_simp;refine (mC _ _ wa (HG9.out.below hba).g).mono ?_;rintro e wb ⟨rfl,hbb⟩;have hBb:=LK hba hbb;refine hK _ _ ⟨⟨_,hBb.mono hz⟩,rfl⟩ ?_;clear hK K;try simp only[Act.put,It,Is,Ir,Iq,Iu,Iv]
        refine ak 1 15 _ _ _ (by kernel_rfl) ?_;simp only[Ix,IC,Iy,IA];repeat (go_big_quiet_step (fail))
        refine wpQuiet_nil ?_;have hfl:i<(cj Lb i).length:=by rw[jd Lb (by omega)];omega
        have rc:=hr9.out.below hBb;have rd:=rc.cell hfl;have re:=rc.free i;obtain⟨tx,htx⟩:∃ t,t=iY (aD lb i) (d_ (dw (aD lb m) (aD la 0)) (aD la (m-i))):=⟨_,rfl⟩
        have hset:dO (wb.setCell ⟨g2,i,none⟩ (.string tx)) g2 m (cj Lb (i+1)):=by
         have h1:=rc.set i tx;have h2:=pJ la lb (k:=m) hi;rw[<-HDB.out,<-htx] at h2;rw[<-h2];exact h1
        have hoth:=(ho9.out.below hBb).other hne i (.string tx);have hP:Below w10.heap.size wd (wb.setCell ⟨g2,i,none⟩ (.string tx)):=(hBb.mono hz).setCell (p:=⟨g2,i,none⟩) (by show w10.heap.size<=g2;omega) _;rw[<-htx];have HTX:=Ip htx;clear htx;refine ap rfl rfl (fun K hK=>?_);go_simp;refine hK undef _ ⟨⟨_,hP⟩,rfl⟩ ?_;clear hK K;try simp only[Act.put,It,Is,Ir,Iq,Iu,Iv]
        refine aE ?_;have hbi:=HBd.out.trans hP;clear rc rd re hP hbb hba hBb hr9 ho9 HG9 HBd hz;generalize wb.setCell ⟨g2,i,none⟩ (.string tx)=wf at *
        have hr2:=hset;have hr1:=hoth;clear hset hoth HTX;go_wp2;go_roundw;case rel=>exact⟨i+1,by go_num,by omega,hr1,hr2,hbi⟩
        case measure=>simp[intOf]<;>omega
       ·obtain rfl:m=i:=by omega
        have HF1:=Ip (show IsS wr (.slice (some ⟨g1,0,none⟩) La.length m) La from by
         have h1:=hr1;rw[show cj La m=La from by rw[<-hLal];exact iu La] at h1;have:=h1.isS
         exact this)
        have HF2:=Ip (show IsS wr (.slice (some ⟨g2,0,none⟩) Lb.length m) Lb from by
         have h1:=hr2;rw[show cj Lb m=Lb from by rw[<-hLbl];exact iu Lb] at h1;have:=h1.isS
         exact this)
        have hBN:=HBC.out.trans hbi;have HBN:=Ip (LK M10.out hBN);have HGN:=Ip (HG10.out.below hBN);clear hr1 hr2 hbi hi hBN;go_wp2;go_roundw;case rel=>exact⟨m,_,La,Lb,_,rfl,by go_num,by omega,by have:=HF1.out;rwa [hLal] at this,by have:=HF2.out;rwa [hLbl] at this,hLal,hLbl,rfl,HBN.out,HGN.out,HEN.out⟩
        case measure=>simp[intOf]<;>omega
 ·have HE:=Ip (show cf a b=(⟨#[]⟩,30) by unfold cf;rw[if_neg hck]);have hce:aB a b=30:=by unfold aB;rw[if_neg hck]
  rw[hce] at HCK;clear hce;go_wp2_with fail
  refine HCK.out.mono ?_;rintro e w2 ⟨rfl,hb2⟩;go_wp2;refine LM (v:=.tuple #[.string ⟨#[]⟩,.int .i64 30]) (by simp[results,Tryz.results8,go_sem]) rfl ⟨by rw[HE.out],LK M1.out hb2⟩
structure AC (w:World) (g:Nat) (p:Option Addr) (c:Nat) (q:Option Addr) (d:Nat):Prop where
 f0:w.cell? ⟨g,0,none⟩=some (.slice p 2 c)
 f1:w.cell? ⟨g,1,none⟩=some (.slice q 2 d)
 la:IsS w (.slice p 2 c) a8
 lb:IsS w (.slice q 2 d) a_
 G:Gx w
 lt:g<w.heap.size
theorem AC.below {w w':World}{g:Nat}{p:Option Addr}{c:Nat}{q:Option Addr}{d:Nat} (h:AC w g p c q d) (hb:Below w.heap.size w w'):AC w' g p c q d :=
 ⟨ag hb h.lt h.f0,ag hb h.lt h.f1,h.la.below hb,h.lb.below hb,h.G.below hb,Iz h.lt hb.size⟩
theorem AC.F {w:World}{g:Nat}{p:Option Addr}{c:Nat}{q:Option Addr}{d:Nat} (h:AC w g p c q d):IsF w (.agg #[.slice p 2 c,.slice q 2 d]) a8 a_:=⟨⟨p,c,q,d,rfl,h.la,h.lb⟩⟩
theorem np:lC a8 a_ 4=0/\fH a8 a_ (iI 4) 4=[⟨#[48]⟩,⟨#[49,47,50]⟩,⟨#[49,47,52]⟩,⟨#[49,47,56]⟩]:=by decide +kernel
theorem iz:bA a_=some [⟨#[45,49,47,50]⟩]/\aC a8 [⟨#[49]⟩,⟨#[45,50]⟩]=true/\bA [⟨#[49]⟩,⟨#[45,50]⟩]=none:=by decide +kernel
theorem vK:gr a8 [⟨#[49]⟩,⟨#[49,47,52]⟩,⟨#[45,49,47,50]⟩] [⟨#[49,47,50]⟩,⟨#[45,49,47,50]⟩]=(true,0):=by decide +kernel
theorem vL:cU a_ (ofT 33)=true/\∀ m,m<33->1<=m->cU a_ (ofT m)=false:=by decide +kernel
theorem ii:cf a8 a_=(⟨#[49,47,51]⟩,0)/\gN a8 a_ ⟨#[45,49]⟩=(⟨#[45,49,47,51]⟩,0)/\gN a8 a_ ⟨#[49,47,50]⟩=(⟨#[]⟩,32)/\fB a8 a_=(5,0)/\lW a8 a_=((a8,[⟨#[49]⟩,⟨#[48]⟩]),0)/\uK a8 a_=((a_,[⟨#[49]⟩,⟨#[48]⟩]),0):=by decide +kernel
theorem mp (w:World) (l:List ByteArray) (h:l.length<1000):IsS (w.alloc (.cells (l.map Value.string).toArray 25)) (.slice (some ⟨w.heap.size,0,none⟩) l.length l.length) l :=
 dh.isS (base:=w.heap.size) (by
  refine⟨by simp,Or.inr ⟨w.heap.size,l.length,_,rfl,Iw _,heap_alloc_new w _,Iw _,by unfold maxLen;omega,by simp,by simp[IE]⟩⟩)
theorem Hm (w:World) (hG:Gx w):Calls Tryz.prog 10 #[] w fun e w'=>e=.returned (.bool true)/\Below w.heap.size w w':=by
 go_enter Tryz.func10,Tryz.ntmps10;go_wp2_with fail
 refine (H_ w).mono ?_;rintro e w1 ⟨v1,rfl,hF,hb1⟩;obtain⟨p,c,q,d,rfl,hA,hB⟩:=id hF.ex;rw[show a8.length=2 from rfl] at hA |-;rw[show a_.length=2 from rfl] at hB |-;have cc:=aG w1 (.slice p 2 c) (.slice q 2 d);have m2:=aj w1 (.cells #[.slice p 2 c,.slice q 2 d] 24);have z2:=size_alloc w1 (.cells #[.slice p 2 c,.slice q 2 d] 24);go_upto_region 2 with fail
 generalize w1.alloc (.cells #[.slice p 2 c,.slice q 2 d] 24)=w2 at *
 obtain⟨g,hg⟩:∃ g,g=w1.heap.size:=⟨_,rfl⟩;rw[<-hg] at cc |-;have HP:=Ip (show AC w2 g p c q d from⟨cc.1,cc.2,hA.below m2,hB.below m2,(hG.below hb1).below m2,by omega⟩);have HB:=Ip (LK hb1 m2);have k0:=HP.out.f0;have k1:=HP.out.f1;clear cc m2 z2 hA hB hF hb1 hG hg;go_wp2_with fail
 refine (AG _ a8 a_ 4 w2 HP.out.F HP.out.G).mono ?_;rintro e w3 ⟨vr,rfl,hvr,-,hb⟩;have HR:=Ip (hvr np.1);rw[show (4:Int).toNat=4 from rfl,np.2] at HR;rw[np.1];clear hvr;have HP:=Ip (HP.out.below hb);have HB:=Ip (LK HB.out hb);clear hb k0 k1;have k0:=HP.out.f0;have k1:=HP.out.f1;go_wp2_with fail
 refine (Cn _ a8 a_ w3 HP.out.F HP.out.G).mono ?_;rintro e w4 ⟨vp,er,rfl,hcase,hb⟩
 have HPR:er=0/\Hid (IsS w4 vp [⟨#[45,49,47,50]⟩]):=by
  rcases hcase with ⟨pf,-,h1,rfl,h2,-⟩ | ⟨-,h1,-⟩ | ⟨h1,-⟩
  ·rw[iz.1] at h1
   cases h1
   exact⟨rfl,h2⟩
  ·rw[iz.1] at h1;cases h1
  ·rw[fR] at h1;cases h1
 obtain⟨rfl,HPR⟩:=HPR;have HR:=Ip (HR.out.below hb);clear hcase;have HP:=Ip (HP.out.below hb);have HB:=Ip (LK HB.out hb);clear hb k0 k1;have k0:=HP.out.f0;have k1:=HP.out.f1;have hm:=aj w4 (.cells #[.string ⟨#[49]⟩,.string ⟨#[45,50]⟩] 25);have HU:=Ip (Cn _ a8 [⟨#[49]⟩,⟨#[45,50]⟩] _ ⟨⟨p,c,_,_,rfl,HP.out.la.below hm,IsS.two w4 ⟨#[49]⟩ ⟨#[45,50]⟩⟩⟩ (HP.out.G.below hm));have HM:=Ip hm;clear hm;go_wp2_with fail
 refine HU.out.mono ?_;rintro e w5 ⟨vx,er,rfl,hcase,hb⟩
 obtain rfl:er=31:=by
  rcases hcase with ⟨pf,-,h1,-⟩ | ⟨-,-,h,-⟩ | ⟨h1,-⟩
  ·rw[iz.2.2] at h1;cases h1
  ·exact h
  ·rw[iz.2.1] at h1;cases h1
 have hb:=LK HM.out hb;have HR:=Ip (HR.out.below hb);have HPR:=Ip (HPR.out.below hb);clear hcase HU HM;have HP:=Ip (HP.out.below hb);have HB:=Ip (LK HB.out hb);clear hb k0 k1;have k0:=HP.out.f0;have k1:=HP.out.f1;have hm:=aj w5 (.cells #[.string ⟨#[49]⟩,.string ⟨#[49,47,52]⟩,.string ⟨#[45,49,47,50]⟩] 25);have hl:=mp w5 [⟨#[49]⟩,⟨#[49,47,52]⟩,⟨#[45,49,47,50]⟩] (by decide);have hm2:=aj (w5.alloc (.cells #[.string ⟨#[49]⟩,.string ⟨#[49,47,52]⟩,.string ⟨#[45,49,47,50]⟩] 25)) (.cells #[.string ⟨#[49,47,50]⟩,.string ⟨#[45,49,47,50]⟩] 25);have hl2:=IsS.two (w5.alloc (.cells #[.string ⟨#[49]⟩,.string ⟨#[49,47,52]⟩,.string ⟨#[45,49,47,50]⟩] 25)) ⟨#[49,47,50]⟩ ⟨#[45,49,47,50]⟩;have hM:=LK hm hm2;have HU:=Ip (E2 _ _ a8 [⟨#[49]⟩,⟨#[49,47,52]⟩,⟨#[45,49,47,50]⟩] [⟨#[49,47,50]⟩,⟨#[45,49,47,50]⟩] _ ⟨⟨p,c,_,_,rfl,HP.out.la.below hM,hl.below hm2⟩⟩ hl2 (HP.out.G.below hM));rw[vK] at HU;have HM:=Ip hM;rw[size_alloc] at HU;clear hm hm2 hl hl2 hM;go_wp2_with fail
 refine HU.out.mono ?_;rintro e w6 ⟨rfl,hb⟩;have hb:=LK HM.out hb;have HR:=Ip (HR.out.below hb);have HPR:=Ip (HPR.out.below hb);clear HU HM;have HP:=Ip (HP.out.below hb);have HB:=Ip (LK HB.out hb);clear hb k0 k1;have k0:=HP.out.f0;have k1:=HP.out.f1;have hm:=aj w6 (.cells #[.string ⟨#[48]⟩,.string ⟨#[49,47,50]⟩,.string ⟨#[49,47,52]⟩,.string ⟨#[49,47,56]⟩] 25);have HU:=Ip (li _ _ _ _ _ (HR.out.below hm) (mp w6 [⟨#[48]⟩,⟨#[49,47,50]⟩,⟨#[49,47,52]⟩,⟨#[49,47,56]⟩] (by decide)) (by decide) (by decide));rw[decide_eq_true (rfl:[(⟨#[48]⟩:ByteArray),⟨#[49,47,50]⟩,⟨#[49,47,52]⟩,⟨#[49,47,56]⟩]=_)] at HU;have HM:=Ip hm;clear hm;go_wp2_with fail
 refine HU.out.mono ?_;rintro e w7 ⟨rfl,hb⟩;have hb:=LK HM.out hb;have HPR:=Ip (HPR.out.below hb);clear HU HM HR;have HP:=Ip (HP.out.below hb);have HB:=Ip (LK HB.out hb);clear hb k0 k1;have k0:=HP.out.f0;have k1:=HP.out.f1;have hm:=aj w7 (.cells #[.string ⟨#[45,49,47,50]⟩] 25);have HU:=Ip (li _ _ _ _ _ (HPR.out.below hm) (mp w7 [⟨#[45,49,47,50]⟩] (by decide)) (by decide) (by decide));rw[decide_eq_true (rfl:[(⟨#[45,49,47,50]⟩:ByteArray)]=_)] at HU;have HM:=Ip hm;clear hm;go_wp2_with fail
 refine HU.out.mono ?_;rintro e w8 ⟨rfl,hb⟩;have hb:=LK HM.out hb;clear HU HM HPR;have HP:=Ip (HP.out.below hb);have HB:=Ip (LK HB.out hb);clear hb k0 k1;have k0:=HP.out.f0;have k1:=HP.out.f1;go_wp2_with fail
 refine (zg _ a8 a_ w8 HP.out.F HP.out.G).mono ?_;rintro e w9 ⟨nr,er,rfl,hcase,hb⟩
 obtain⟨rfl,rfl⟩:er=0/\nr=33:=by
  rcases hcase with ⟨-,-,rfl,k,rfl,k1,k64,hk,hlt⟩ | ⟨-,h,-⟩ | ⟨h,-⟩
  ·refine⟨rfl,?_⟩;rcases K6 k 33 with h | h | h
   ·have:=vL.2 k h k1;rw[hk] at this;cases this
   ·rw[h];rfl
   ·have:=hlt 33 (by decide) h;rw[vL.1] at this;cases this
  ·rw[iz.1] at h;cases h
  ·rw[fR] at h;cases h
 clear hcase;have HP:=Ip (HP.out.below hb);have HB:=Ip (LK HB.out hb);clear hb k0 k1;have k0:=HP.out.f0;have k1:=HP.out.f1;go_wp2_with fail
 refine (zf _ a8 a_ w9 HP.out.F HP.out.G).mono ?_;rintro e w10 ⟨rfl,hb⟩;rw[ii.1];have HP:=Ip (HP.out.below hb);have HB:=Ip (LK HB.out hb);clear hb k0 k1;have k0:=HP.out.f0;have k1:=HP.out.f1;go_wp2_with fail
 refine (rU _ a8 a_ _ w10 HP.out.F HP.out.G).mono ?_;rintro e w11 ⟨rfl,hb⟩;rw[ii.2.1];have HP:=Ip (HP.out.below hb);have HB:=Ip (LK HB.out hb);clear hb k0 k1;have k0:=HP.out.f0;have k1:=HP.out.f1;go_wp2_with fail
 refine (rU _ a8 a_ _ w11 HP.out.F HP.out.G).mono ?_;rintro e w12 ⟨rfl,hb⟩;rw[ii.2.2.1];have HP:=Ip (HP.out.below hb);have HB:=Ip (LK HB.out hb);clear hb k0 k1;have k0:=HP.out.f0;have k1:=HP.out.f1;go_wp2_with fail
 refine (EZ _ a8 a_ w12 HP.out.F HP.out.G).mono ?_;rintro e w13 ⟨vc,rfl,hfc,hb⟩;rw[ii.2.2.2.2.1] at hfc |-;have HP:=Ip (HP.out.below hb);have HB:=Ip (LK HB.out hb);clear hb k0 k1;have k0:=HP.out.f0;have k1:=HP.out.f1;obtain⟨pc,cc,qc,dc,e,hca,hcb,-,-⟩:=hfc.ex;replace e:vc=.agg #[.slice pc 2 cc,.slice qc 2 dc]:=e;replace hca:IsS w13 (.slice pc 2 cc) a8:=hca;replace hcb:IsS w13 (.slice qc 2 dc) [⟨#[49]⟩,⟨#[48]⟩]:=hcb;subst e;clear hfc;go_upto_region 15 with fail
 have kk:=aG w13 (.slice pc 2 cc) (.slice qc 2 dc);have hb:=aj w13 (.cells #[.slice pc 2 cc,.slice qc 2 dc] 24);have zz:=size_alloc w13 (.cells #[.slice pc 2 cc,.slice qc 2 dc] 24);generalize w13.alloc (.cells #[.slice pc 2 cc,.slice qc 2 dc] 24)=w14 at *
 obtain⟨gc,hgc⟩:∃ x,x=w13.heap.size:=⟨_,rfl⟩;rw[<-hgc] at kk |-;have HC:=Ip (And.intro (show gc<w14.heap.size by omega) (And.intro kk.1 (And.intro kk.2 (And.intro (hca.below hb) (hcb.below hb)))));clear hca hcb kk zz hgc;have HP:=Ip (HP.out.below hb);have HB:=Ip (LK HB.out hb);clear hb k0 k1;have k0:=HP.out.f0;have k1:=HP.out.f1;go_wp2_with fail
 refine (Hv _ a8 a_ w14 HP.out.F HP.out.G).mono ?_;rintro e w15 ⟨vd,rfl,hfc,hb⟩;rw[ii.2.2.2.2.2] at hfc |-;obtain⟨pd,cd,qd,dd,e,hda,hdb,-,-⟩:=hfc.ex;replace e:vd=.agg #[.slice pd 2 cd,.slice qd 2 dd]:=e;replace hda:IsS w15 (.slice pd 2 cd) a_:=hda;replace hdb:IsS w15 (.slice qd 2 dd) [⟨#[49]⟩,⟨#[48]⟩]:=hdb;subst e;have hc:=HC.out;have HC:=Ip (And.intro (Iz hc.1 hb.size) (And.intro (ag hb hc.1 hc.2.1) (And.intro (ag hb hc.1 hc.2.2.1) (And.intro (hc.2.2.2.1.below hb) (hc.2.2.2.2.below hb)))));clear hfc hc;have HP:=Ip (HP.out.below hb);have HB:=Ip (LK HB.out hb);clear hb k0 k1;have k0:=HP.out.f0;have k1:=HP.out.f1;go_upto_region 16 with fail
 have kk:=aG w15 (.slice pd 2 cd) (.slice qd 2 dd);have hb:=aj w15 (.cells #[.slice pd 2 cd,.slice qd 2 dd] 24);have zz:=size_alloc w15 (.cells #[.slice pd 2 cd,.slice qd 2 dd] 24);generalize w15.alloc (.cells #[.slice pd 2 cd,.slice qd 2 dd] 24)=w16 at *
 obtain⟨gd,hgd⟩:∃ x,x=w15.heap.size:=⟨_,rfl⟩;rw[<-hgd] at kk |-;have HD:=Ip (And.intro (show gd<w16.heap.size by omega) (And.intro kk.1 (And.intro kk.2 (And.intro (hda.below hb) (hdb.below hb)))));have hc:=HC.out;have HC:=Ip (And.intro (Iz hc.1 hb.size) (And.intro (ag hb hc.1 hc.2.1) (And.intro (ag hb hc.1 hc.2.2.1) (And.intro (hc.2.2.2.1.below hb) (hc.2.2.2.2.below hb)))));clear hda hdb kk zz hgd hc;have HP:=Ip (HP.out.below hb);have HB:=Ip (LK HB.out hb);clear hb k0 k1;have k0:=HP.out.f0;have k1:=HP.out.f1;have hm:=aj w16 (.cells #[.string ⟨#[49]⟩,.string ⟨#[48]⟩] 25);have HU:=Ip (Gq (.agg #[.slice pc 2 cc,.slice qc 2 dc]) (.agg #[.slice p 2 c,.slice (some ⟨w16.heap.size,0,none⟩) 2 2]) a8 [⟨#[49]⟩,⟨#[48]⟩] a8 [⟨#[49]⟩,⟨#[48]⟩] _ ⟨⟨_,_,_,_,rfl,HC.out.2.2.2.1.below hm,HC.out.2.2.2.2.below hm⟩⟩ ⟨⟨_,_,_,_,rfl,HP.out.la.below hm,IsS.two w16 ⟨#[49]⟩ ⟨#[48]⟩⟩⟩ (by decide) (by decide) (by decide) (by decide));rw[show (decide (a8=a8)&&decide ([(⟨#[49]⟩:ByteArray),⟨#[48]⟩]=[⟨#[49]⟩,⟨#[48]⟩]))=true from by decide] at HU;have HM:=Ip hm;have x0:=HC.out.2.1;have x1:=HC.out.2.2.1;clear hm;go_wp2_with fail
 refine HU.out.mono ?_;rintro e w17 ⟨rfl,hb⟩;have hb:=LK HM.out hb;have hc:=HD.out;have HD:=Ip (And.intro (Iz hc.1 hb.size) (And.intro (ag hb hc.1 hc.2.1) (And.intro (ag hb hc.1 hc.2.2.1) (And.intro (hc.2.2.2.1.below hb) (hc.2.2.2.2.below hb)))));clear HU HM hc HC x0 x1;have HP:=Ip (HP.out.below hb);have HB:=Ip (LK HB.out hb);clear hb k0 k1;have k0:=HP.out.f0;have k1:=HP.out.f1;have hm:=aj w17 (.cells #[.string ⟨#[49]⟩,.string ⟨#[48]⟩] 25);have HU:=Ip (Gq (.agg #[.slice pd 2 cd,.slice qd 2 dd]) (.agg #[.slice q 2 d,.slice (some ⟨w17.heap.size,0,none⟩) 2 2]) a_ [⟨#[49]⟩,⟨#[48]⟩] a_ [⟨#[49]⟩,⟨#[48]⟩] _ ⟨⟨_,_,_,_,rfl,HD.out.2.2.2.1.below hm,HD.out.2.2.2.2.below hm⟩⟩ ⟨⟨_,_,_,_,rfl,HP.out.lb.below hm,IsS.two w17 ⟨#[49]⟩ ⟨#[48]⟩⟩⟩ (by decide) (by decide) (by decide) (by decide));rw[show (decide (a_=a_)&&decide ([(⟨#[49]⟩:ByteArray),⟨#[48]⟩]=[⟨#[49]⟩,⟨#[48]⟩]))=true from by decide] at HU;have HM:=Ip hm;have x0:=HD.out.2.1;have x1:=HD.out.2.2.1;clear hm;go_wp2_with fail
 refine HU.out.mono ?_;rintro e w18 ⟨rfl,hb⟩;have hb:=LK HM.out hb;clear HU HM HD x0 x1;have HP:=Ip (HP.out.below hb);have HB:=Ip (LK HB.out hb);clear hb k0 k1;have k0:=HP.out.f0;have k1:=HP.out.f1;go_wp2_with fail
 refine (uH _ a8 a_ ⟨#[45,49,47,50]⟩ ⟨#[50]⟩ 1 w18 HP.out.F HP.out.G rfl (by decide) zG.1).mono ?_;rintro e w19 ⟨rfl,hb⟩;rw[zG.2];have HP:=Ip (HP.out.below hb);have HB:=Ip (LK HB.out hb);clear hb k0 k1;have k0:=HP.out.f0;have k1:=HP.out.f1;go_wp2_with fail
 refine (uH _ a8 a_ ⟨#[48]⟩ ⟨#[51]⟩ 1 w19 HP.out.F HP.out.G rfl (by decide) zH.1).mono ?_;rintro e w20 ⟨rfl,hb⟩;rw[zH.2];have HP:=Ip (HP.out.below hb);have HB:=Ip (LK HB.out hb);clear hb k0 k1;have k0:=HP.out.f0;have k1:=HP.out.f1;have hm:=aj w20 (.cells #[.string ⟨#[45,50]⟩,.string ⟨#[45,49]⟩,.string ⟨#[48]⟩,.string ⟨#[49]⟩,.string ⟨#[50]⟩,.string ⟨#[51]⟩] 25);have HU:=Ip (y_ (.agg #[.slice p 2 c,.slice q 2 d]) (.slice (some ⟨w20.heap.size,0,none⟩) 6 6) _ (HP.out.F.below hm) (mp w20 jf (by decide)) (HP.out.G.below hm));have HM:=Ip hm;clear hm;go_wp2_with fail
 refine HU.out.mono ?_;rintro e w21 ⟨rfl,hb⟩;have hb:=LK HM.out hb;clear HU HM;have HP:=Ip (HP.out.below hb);have HB:=Ip (LK HB.out hb);clear hb k0 k1;have k0:=HP.out.f0;have k1:=HP.out.f1;go_upto_region 21 with fail
 have r2:=heap_alloc_new w21 (.cells #[.string ⟨#[48]⟩,.string ⟨#[50]⟩] 71 (0,0));have hb:=aj w21 (.cells #[.string ⟨#[48]⟩,.string ⟨#[50]⟩] 71);have zz:=size_alloc w21 (.cells #[.string ⟨#[48]⟩,.string ⟨#[50]⟩] 71);generalize w21.alloc (.cells #[.string ⟨#[48]⟩,.string ⟨#[50]⟩] 71)=w22 at *
 obtain⟨gm,hgm⟩:∃ x,x=w21.heap.size:=⟨_,rfl⟩;rw[<-hgm] at r2 |-;clear zz hgm;have HP:=Ip (HP.out.below hb);have HB:=Ip (LK HB.out hb);clear hb k0 k1;have k0:=HP.out.f0;have k1:=HP.out.f1;go_wp2_with fail
 refine (E0 _ a8 a_ w22 HP.out.F HP.out.G).mono ?_;rintro e w23 ⟨rfl,hb⟩;rw[ii.2.2.2.1];have r2:=(hb.block gm (ID.1 r2).1).trans r2;have y0:=au r2 0;have y1:=au r2 1;simp only[Le,KT,Kk] at y0 y1;clear r2;have HP:=Ip (HP.out.below hb);have HB:=Ip (LK HB.out hb);clear hb k0 k1;have k0:=HP.out.f0;have k1:=HP.out.f1;go_wp2;go_ret;exact⟨rfl,HB.out⟩
theorem FI {a b:List ByteArray}{n err n' err':Int}
  (hp:(aC a b=true/\(bA b).isSome=true/\err=0/\∃ k:Nat,n=k/\1<=k/\k<=64/\cU b (ofT k)=true/\∀ m,1<=m->m<k->cU b (ofT m)=false)\/(aC a b=true/\(bA b).isSome=false/\err=31/\n=0)\/(aC a b=false/\err=30/\n=0))
  (hr:(aC a b=true/\∀ qb,eR b qb->xE b qb n' err')\/(aC a b=false/\err'=30/\n'=0)):n'=n/\err'=err:=by
 rcases hr with ⟨hc,hr⟩ | ⟨hc,rfl,rfl⟩
 ·obtain⟨qa,qb,pa,pb,la,lb⟩:=mJ hc;obtain⟨tl,hh⟩:=kq hc pb;have h1:qb.getD 0 0=1:=by rw[hh];rfl
  have h:=Eb pb h1 lb (hr qb pb) (n:=n) (err:=err) (by
   rcases hp with ⟨-,h⟩ | ⟨-,h⟩ | ⟨h,-⟩
   ·exact Or.inl h
   ·exact Or.inr h
   ·rw[hc] at h;cases h)
  exact⟨h.1.symm,h.2.symm⟩
 ·rcases hp with ⟨h,-⟩ | ⟨h,-⟩ | ⟨-,rfl,rfl⟩
  ·rw[hc] at h;cases h
  ·rw[hc] at h;cases h
  ·exact⟨rfl,rfl⟩
theorem vT (v:Value) (a b:List ByteArray) (r:ByteArray) (w:World) (hF:IsF w v a b) (hG:Gx w) :
  Calls Tryz.prog 3 #[v,.string r] w fun e w'=>e=.returned (.bool true)/\Below w.heap.size w w':=by
 obtain⟨p,c,q,d,rfl,hfa,hfb⟩:=id hF.ex;go_enter Tryz.func3,Tryz.ntmps3;go_upto_region 1 with fail
 have m1:=aj w (.cells #[.slice p a.length c,.slice q b.length d] 24);have cc:=aG w (.slice p a.length c) (.slice q b.length d);have zz:=size_alloc w (.cells #[.slice p a.length c,.slice q b.length d] 24);have HF:=Ip (hF.below m1);have HG:=Ip (hG.below m1);have HB:=Ip m1;have k0:=cc.1;have k1:=cc.2;have KL:w.heap.size<(w.alloc (.cells #[.slice p a.length c,.slice q b.length d] 24)).heap.size:=by omega
 clear hF hG m1 hfa hfb cc zz;generalize w.alloc (.cells #[.slice p a.length c,.slice q b.length d] 24)=w1 at *
 obtain⟨x,hx⟩:∃ x,x=(bZ a b r).1:=⟨_,rfl⟩;obtain⟨y,hy⟩:∃ y,y=(bZ a b r).2:=⟨_,rfl⟩;have HW1:=Ip (E5 _ a b r w1 HF.out HG.out);have HW2:=Ip (fun wx (h:IsF wx (.agg #[.slice p a.length c,.slice q b.length d]) a b)=>BK _ a b r wx h);rw[<-hx,<-hy] at HW1 HW2;clear hx hy;have hxx:(x != x)=false:=by cases x<;>rfl
 have hyy:(y != y)=false:=by simp
 go_wp2_with fail
 refine HW1.out.mono ?_;rintro e w2 ⟨rfl,hb2⟩;have HF:=Ip (HF.out.below hb2);have HG:=Ip (HG.out.below hb2);have HB:=Ip (LK HB.out hb2);have k0:=ag hb2 KL k0;have k1:=ag hb2 KL k1;have KL:=Iz KL (hb2.size);clear hb2;go_wp2_with fail
 refine (HW2.out w2 HF.out).mono ?_;rintro e w3 ⟨rfl,hb3⟩;have HF:=Ip (HF.out.below hb3);have HG:=Ip (HG.out.below hb3);have HB:=Ip (LK HB.out hb3);have k0:=ag hb3 KL k0;have k1:=ag hb3 KL k1;have KL:=Iz KL (hb3.size);clear hb3;clear HW1 HW2;go_wp2_with fail
 refine (zg _ a b w3 HF.out HG.out).mono ?_;rintro e w4 ⟨n,er,rfl,hcase,hb4⟩;have HF:=Ip (HF.out.below hb4);have HG:=Ip (HG.out.below hb4);have HB:=Ip (LK HB.out hb4);have k0:=ag hb4 KL k0;have k1:=ag hb4 KL k1;have KL:=Iz KL (hb4.size);clear hb4;have HCA:=Ip hcase;clear hcase;go_wp2_with fail
 refine (BJ _ a b w4 HF.out).mono ?_;rintro e w5 ⟨n',er',rfl,hcase,hb5⟩;have HF:=Ip (HF.out.below hb5);have HG:=Ip (HG.out.below hb5);have HB:=Ip (LK HB.out hb5);have k0:=ag hb5 KL k0;have k1:=ag hb5 KL k1;have KL:=Iz KL (hb5.size);clear hb5;obtain⟨rfl,rfl⟩:=FI HCA.out hcase;clear hcase HCA hxx hyy;obtain⟨s,hs⟩:∃ s,s=(cf a b).1:=⟨_,rfl⟩;obtain⟨t,ht⟩:∃ t,t=(cf a b).2:=⟨_,rfl⟩;have HE1:=Ip (zf _ a b w5 HF.out HG.out);have HE2:=Ip (fun wx (h:IsF wx (.agg #[.slice p a.length c,.slice q b.length d]) a b)=>BH _ a b wx h);rw[<-hs,<-ht] at HE1 HE2;clear hs ht;have hnn:(n' != n')=false:=by simp
 have hee:(er' != er')=false:=by simp
 go_wp2_with fail
 refine HE1.out.mono ?_;rintro e w6 ⟨rfl,hb6⟩;have HF:=Ip (HF.out.below hb6);have HG:=Ip (HG.out.below hb6);have HB:=Ip (LK HB.out hb6);have k0:=ag hb6 KL k0;have k1:=ag hb6 KL k1;have KL:=Iz KL (hb6.size);clear hb6;clear hnn hee;go_wp2_with fail
 refine (HE2.out w6 HF.out).mono ?_;rintro e w7 ⟨rfl,hb7⟩;have HF:=Ip (HF.out.below hb7);have HG:=Ip (HG.out.below hb7);have HB:=Ip (LK HB.out hb7);have k0:=ag hb7 KL k0;have k1:=ag hb7 KL k1;have KL:=Iz KL (hb7.size);clear hb7;have hss:(s.data.toList == s.data.toList)=true:=by simp
 have htt:(t == t)=true:=by simp
 go_wp2_with fail
 refine (Hm w7 HG.out).mono ?_;rintro e w8 ⟨rfl,hb8⟩;have HB:=Ip (LK HB.out hb8);go_wp2;refine LM (v:=.bool true) (by simp[results,Tryz.results3,go_sem]) rfl ⟨rfl,HB.out⟩
theorem mr (os:Os) (started:os.Started) (H:Type) (enc:TypeId×Value->H) :
  ReturnsInHanded {} Tryz.checked os 3 .any (fun w args=>(Rows.loopSettlesSpec.pre enc Tryz.prog Tryz.f3 [] false w args/\laidMetH Tryz.prog ss w)/\sizedMet enc Tryz.prog Tryz.f3 (OpenSpec.ofChange Rows.loopSettlesSpec) false w args)
   (Rows.loopSettlesSpec.post enc Tryz.prog Tryz.f3 false true false false):=by
 refine vZ (C:=Tryz.checked) (X:=fun w _=>laidMetH Tryz.prog ss w) (fun _ _ _ hh h=>h.of_heap hh) own started (by kernel_rfl) Tryz.func3
  (ChangeSpec.witness_shaped (enc:=enc) (C:=Tryz.checked) (os:=os) (X:=fun w _=>laidMetH Tryz.prog ss w) false (World.laidAll Tryz.prog os ss) #[.agg #[.slice none 0 0,.slice none 0 0],.string ⟨#[48]⟩] 8 (World.laidAll_os _ _ _)
   (World.shaped_of_ZipB (by kernel_rfl) (by kernel_rfl)) (by kernel_rfl) (by kernel_rfl) (by kernel_rfl)
   (by rw[Go.MakeChecks.laidMetH_plain _ _ _ (by kernel_rfl)];exact laidMet_laidAll _ (by kernel_rfl) (by kernel_rfl))) ?_
 intro W base args ds gs before hval0 hW hwt hL hsh;have hval:∀ (j:Nat) t v,Tryz.f3.params[j]?=some t->args[j]?=some v->Value.okWide Tryz.prog W .any base t v:=hval0;have hW':=hW;obtain⟨p,q,hA0,hV,rfl,_,_⟩:=hW;have hA:DataW.TrodAll enc Tryz.prog W 0 (fun _=>true) true Tryz.f3.params.toList args.toList ds p:=hA0;rw[Tryz.params3] at hA hval;have hwt':(DataW.weightsEach Tryz.prog (Tryz.f3.params.toList++[]) (ds++gs)).all (·<=reachBytes)=true:=hwt;rw[Tryz.params3,Ju] at hwt';obtain⟨v0,v1,d0,d1,p0,p1,rfl,rfl,rfl,h0,h1⟩:=trodAll_two hA;obtain⟨rfl,rfl⟩:=trodVars_none hV;simp only[Ju] at hW' hwt';have hX:=H6 hL hsh
 have fits:∀ (j:Nat) (t:TypeId) (d:DataW H),([24,25]:List TypeId)[j]?=some t->[d0,d1][j]?=some d->rC t d:=fun j t d ht hd n hn=>by
  have:=I5.1 hwt' n (DataW.weights_mem_each ht hd n hn);exact of_decide_eq_true this
 have hlt:∀ x∈p0++p1,x.block<W.heap.size:=fun x hx=>by simpa using hW'.lt x hx
 have ok0:=hval 0 24 v0 rfl rfl;obtain⟨cs0,hcs0,_⟩:=okWide_struct Tryz.underlying24 ok0;obtain⟨a0,b0,hF0⟩:=A5 h0 (fits 0 _ _ rfl rfl) ⟨cs0,hcs0⟩;have ok1:=hval 1 25 v1 rfl rfl;obtain⟨s1,rfl⟩:=okWide_string EP ok1;refine (vT v0 a0 b0 s1 W hF0 hX).mono fun e W' ⟨he,hb⟩=>?_;subst he;exact⟨_,rfl,_,_,_,[],p0++p1,[],hW',trodAll_mk1 (shut_bool Tryz.underlying4 _),trodAll_mk2 (Below.trod laidAll (by kernel_rfl) (of_decide_eq_true (by kernel_rfl)) h0 hb (fun x hx=>hlt x (by simp[hx]))) (Below.trod laidAll (by kernel_rfl) (of_decide_eq_true (by kernel_rfl)) h1 hb (fun x hx=>hlt x (by simp[hx]))),rfl,hb.frame _,fun h=>by cases h⟩
end Go.Proofs.YtlhpcoelfhjomaaGreatDoor
