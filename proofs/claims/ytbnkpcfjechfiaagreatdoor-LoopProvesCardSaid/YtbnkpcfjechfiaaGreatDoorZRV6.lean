/- Lemmas of this claim. -/
import Derived.Deep.Slices
import Derived.OpenShut
import Derived.Test.YtbnkpcfjechfiaaGreatDoorRows
import Derived.ProofKit
import Derived.LaidMore
import Derived.HandedShaped
import Derived.Shelf.Vars
import Derived.Lay
import Derived.Stop.Joined
import Derived.Test.YtbnkpcfjechfiaaGreatDoorTie
import Derived.Test.YtbnkpcfjechfiaaGreatDoorCards
import Derived.SevenTiedAt
import Derived.Test.YtbnkpcfjechfiaaGreatDoorZGet
import Derived.Test.YtbnkpcfjechfiaaGreatDoorZLP2
import Derived.Test.YtbnkpcfjechfiaaGreatDoorZLH1
import Derived.Test.YtbnkpcfjechfiaaGreatDoorZRS7
import Derived.Test.YtbnkpcfjechfiaaGreatDoorZRV4
import Derived.Test.YtbnkpcfjechfiaaGreatDoorZLB5
set_option linter.all false
set_option maxRecDepth 100000
set_option maxHeartbeats 8000000
namespace Go.Proofs.YtbnkpcfjechfiaaGreatDoor
open Go.RowKit Dc Dg
open Go.ChangeShapes Go.WideShapes
set_option maxRecDepth 100000
theorem laidAll:laidOutB Tryz.prog=true:=by kernel_rfl
theorem und3:Tryz.prog.underlying 3=some (.int .i64):=by kernel_rfl
theorem EE:Tryz.prog.underlying 34=some .string:=by kernel_rfl
theorem mQ:Tryz.prog.underlying 22=some (.slice 34):=by kernel_rfl
theorem BK {w:World}{b:Nat}{o:Obj} (h:w.heap[b]?=some o):b<w.heap.size:=(Fs.1 h).1
theorem w_ {α:Type}:∀ (n:Nat) (p:Nat→α→Prop),(∀ i,i<n→∃ x,p i x)→∃ l:List α,l.length=n∧∀ i (h:i<l.length),p i l[i]
 | 0,_,_=>⟨[],rfl,fun i h=>by simp at h⟩
 | n+1,p,h=>by
  obtain⟨l,hl,hp⟩:=w_ n p (fun i hi=>h i (by omega))
  obtain⟨x,hx⟩:=h n (by omega)
  refine⟨l++[x],by simp[hl],fun i hi=>?_⟩
  by_cases hin:i<l.length
  ·rw[FP hin];exact hp i hin
  ·have hie:i=n:=by simp at hi;omega
   subst hie
   rw[FQ (by omega)]
   simp only[hl,G8,Fh]
   exact hx
section
variable {H : Type} {enc : TypeId × Value → H} {w : World} {sp : Nat → Bool} {held : Bool}
def mT (t:TypeId) (d:DataW H):Prop:=∀ n∈d.weights Tryz.prog t,n≤140737488351232
theorem jH {e:TypeId}:∀ {l:List (DataW H)}{d:DataW H},d∈l→∀ n∈d.weights Tryz.prog e,n∈DataW.weightsAll Tryz.prog e l
 | [],_,h,_,_=>by cases h
 | x :: l,d,h,n,hn=>by
  unfold DataW.weightsAll
  rcases Gp.1 h with rfl | h
  ·exact It _ hn
  ·exact List.mem_append_right _ (jH h n hn)
theorem BV {t e:TypeId}{k fuel:Nat}{cs:List Value}{x:DataW H×List MemPlace} (ht:Tryz.prog.underlying t=some (.slice e)) (hk:Tryz.prog.cellsOf e=k) (hk0:0<k) (hby:1≤Tryz.prog.bytesOf e) (h:DataW.trod enc Tryz.prog w 0 sp held fuel t cs=some x) (hf:mT t x.1) :
  ∃ (p:Option Addr) (len cap:Nat),cs=[.slice p len cap]∧len≤cap∧cap≤maxLen∧len≤140737488351232∧(0<len→∃ b o,p=some ⟨b,o,none⟩∧b<w.heap.size∧∀ i,i<len→∃ (ecs:List Value) (n:Nat) (y:DataW H×List MemPlace),ecs.length=k∧(∀ j,j<k→w.cell? ⟨b,o+i*k+j,none⟩=ecs[j]?)∧DataW.trod enc Tryz.prog w 0 sp held n e ecs=some y∧mT e y.1):=by
 rcases Go.Deep.open_slice ht h with ⟨rfl,_⟩ | ⟨a,len,cap,m,n,D,Pl,rfl,_,hl,hm,hmm,hxe,hx⟩
 ·exact⟨none,0,0,rfl,Fm _,Fy _,Fy _,fun h=>absurd h (Nat.lt_irrefl 0)⟩
 ·have hlm:len≤m:=by rw[hmm];split<;>omega
  have hfe:∀ i,i<len→mT e (D i):=fun i hi n hn=>hf n (by
   rw[hxe]
   show n∈DataW.weights Tryz.prog t (.slice _ _)
   unfold DataW.weights
   rw[ht]
   exact GE _ (It _ (jH (Hs.2 ⟨i,Gv.2 hi,rfl⟩) n hn)))
  have hlr:len≤140737488351232:=by
   have h1:=hf ((((List.range len).map D).length+((List.range (m-len)).map fun j=>D (len+j)).length)*Tryz.prog.bytesOf e) (by
    rw[hxe]
    show _∈DataW.weights Tryz.prog t (.slice _ _)
    unfold DataW.weights
    rw[ht]
    exact Gq ..)
   simp only[FF,List.length_range] at h1
   have h2:len*1≤(len+(m-len))*Tryz.prog.bytesOf e:=Gj (by omega) hby
   omega
  refine⟨some a,len,cap,rfl,hl,hm,hlr,fun h0=>?_⟩
  rw[hk] at hx
  have cellAt:∀ i,i<len→∃ (ecs:List Value),ecs.length=k∧(∀ j,j<k→w.cell? ((a.add (i*k)).add j)=ecs[j]?)∧∃ y,DataW.trod enc Tryz.prog w 0 sp held n e ecs=some y∧mT e y.1:=fun i hi=>by
   obtain⟨ecs,h1,h2⟩:=hx i (by omega)
   obtain⟨_,hlen,hc⟩:=World.cells?_some h1
   exact⟨ecs,hlen,fun j hj=>hc j hj,_,h2,hfe i hi⟩
  obtain⟨ecs,hlen,hc,_⟩:=cellAt 0 h0
  have h00:=hc 0 hk0
  rw[GJ] at h00
  have hsp:a.spot=none∧a.block<w.heap.size:=by
   have e0:(a.add 0).add 0=a:=by simp[Addr.add]
   rw[e0,FB (by omega)] at h00
   unfold World.cell? at h00
   split at h00
   ·rename_i c _ _ hb
    split at h00
    ·cases h00
    ·rename_i hs
     exact⟨by simpa using hs,BK hb⟩
   ·cases h00
  obtain⟨hs,hb⟩:=hsp
  obtain⟨b,o,s⟩:=a
  simp only at hs hb
  subst hs
  refine⟨b,o,rfl,hb,fun i hi=>?_⟩
  obtain⟨ecs,hlen,hc,y,hy⟩:=cellAt i hi
  refine⟨ecs,n,y,hlen,fun j hj=>?_,hy⟩
  have ea:((⟨b,o,none⟩:Addr).add (i*k)).add j=⟨b,o+i*k+j,none⟩:=by
   rw[Go.Deep.add_add]
   unfold Addr.add
   split
   ·rename_i hz
    rw[G2,hz,FU]
   ·rw[G2]
  rw[←hc j hj,ea]
theorem zw {t:TypeId}{fuel:Nat}{cs:List Value}{x:DataW H×List MemPlace} (ht:Tryz.prog.underlying t=some .string) (h:DataW.trod enc Tryz.prog w 0 sp held fuel t cs=some x) (hf:mT t x.1):∃ s:ByteArray,cs=[.string s]∧s.size≤140737488351232:=by
 obtain⟨s,e,hx,hs⟩:=DataW.trod_string ht h
 refine⟨s,e,?_⟩
 have:=hf s.data.toList.length (by rw[hx];unfold DataW.weights;exact Gq ..)
 simpa using this
theorem sE {t:TypeId}{fs:Array Field}{fuel:Nat}{cs:List Value}{x:DataW H×List MemPlace} (ht:Tryz.prog.underlying t=some (.struct fs)) (h:DataW.trod enc Tryz.prog w 0 sp held fuel t cs=some x) (hw:mT t x.1) {i:Nat}{f:Field} (hf:fs[i]?=some f) :
  ∃ n y,DataW.trod enc Tryz.prog w 0 sp held n f.type ((cs.drop f.offset).take (Tryz.prog.cellsOf f.type))=some y∧mT f.type y.1:=by
 obtain⟨xs,n,_,hxe,_,hl,hx⟩:=DataW.trod_struct ht h
 have h1:=hx i f hf
 have hi:i<xs.length:=by rw[hl];exact (Fs.1 hf).1
 rw[FB hi] at h1
 refine⟨n,_,h1,fun m hm=>hw m ?_⟩
 rw[hxe]
 show m∈DataW.weights Tryz.prog t (.agg _)
 unfold DataW.weights
 rw[ht]
 exact DataW.weights_mem_each (j:=i) (by simp only[Ho,G9,hf,Iz]) (by simp only[Ho,FB hi,Iz]) m hm
theorem DA {cs:List Value}{o k:Nat}{v:Value} (h:(cs.drop o).take k=[v]):cs[o]?=some v:=by
 have h1:=congrArg (·[0]?) h
 simp only[Ia,GW,If,FU] at h1
 split at h1
 ·exact h1
 ·cases h1
theorem zv {r:Reach}{base:Nat}{t e:TypeId}{v:Value}{p:Option Addr}{l c:Nat} (ht:Tryz.prog.underlying t=some (.slice e)) (h:Value.okWide Tryz.prog w r base t v) (hv:v.cells.toList=[.slice p l c]):v=.slice p l c:=by
 cases v
 case agg xs =>
  unfold Value.okWide at h
  rw[ht] at h
  simp only[Cell.okWide,ht,Cell.ok] at h
 all_goals (simp[Value.cells] at hv)
 case slice a b d =>
  obtain⟨rfl,rfl,rfl⟩:=hv
  rfl
theorem kw {t:TypeId}{fuel:Nat}{cs:List Value}{x:DataW H×List MemPlace} (ht:Tryz.prog.underlying t=some (.slice 34)) (h:DataW.trod enc Tryz.prog w 0 sp held fuel t cs=some x) (hf:mT t x.1) :
  ∃ (p:Option Addr) (cap:Nat) (l:List ByteArray),cs=[.slice p l.length cap]∧IsS w (.slice p l.length cap) l:=by
 obtain⟨p,len,cap,rfl,hl,hm,hr,hx⟩:=BV ht (by kernel_rfl:Tryz.prog.cellsOf 34=1) (by decide) (of_decide_eq_true (by kernel_rfl)) h hf
 by_cases h0:0<len
 ·obtain⟨b,o,rfl,hb,hx⟩:=hx h0
  obtain⟨l,rfl,hp⟩:=w_ len (fun i (s:ByteArray)=>w.cell? ⟨b,o+i,none⟩=some (.string s)) (fun i hi=>by
   obtain⟨ecs,n,y,h1,h2,h3,h4⟩:=hx i hi
   obtain⟨s,rfl,-⟩:=zw EE h3 h4
   exact⟨s,by have:=h2 0 (by omega);rw[GA,FU] at this;exact this⟩)
  refine⟨_,cap,l,rfl,⟨_,cap,by rw[FF],by rw[FF];exact hl,hm,fun _=>⟨b,o,rfl,hb,fun i hi j u hu=>?_⟩⟩⟩
  have hi':i<l.length:=by simpa using hi
  rw[GD] at hu
  have hj:j=0:=by
   rcases j with _ | j
   ·rfl
   ·simp[cellsOf] at hu
  subst hj
  have hu':Value.string l[i]=u:=by simpa[cellsOf] using hu
  rw[←hu',GA,FU]
  exact hp i hi'
 ·obtain rfl:len=0:=by omega
  exact⟨p,cap,[],rfl,⟨p,cap,rfl,Fy _,hm,fun h=>absurd h (Nat.lt_irrefl 0)⟩⟩
theorem C2 {r:Reach}{base:Nat}{v:Value}{d:DataW H}{pl:List MemPlace} (h:DataW.Trod enc Tryz.prog w 0 sp held 22 v d pl) (hf:mT 22 d) (hok:Value.okWide Tryz.prog w r base 22 v):∃ l:List ByteArray,IsS w v l:=by
 obtain⟨fuel,h⟩:=h
 obtain⟨p,cap,l,e0,hl⟩:=kw mQ h hf
 have hv:v=.slice p l.length cap:=zv mQ hok e0
 exact⟨l,hv ▸ hl⟩
theorem yE {v:Value}{d:DataW H}{pl:List MemPlace} (h:DataW.Trod enc Tryz.prog w 0 sp held 24 v d pl) (hf:mT 24 d) (hv:∃ cs,v=.agg cs):∃ a b,IsF w v a b:=by
 obtain⟨fuel,h⟩:=h
 obtain⟨n0,y0,f0,gf0⟩:=sE Tryz.underlying24 h hf (i:=0) rfl
 obtain⟨n1,y1,f1,gf1⟩:=sE Tryz.underlying24 h hf (i:=1) rfl
 obtain⟨xs,_,_,_,hcl,_,_⟩:=DataW.trod_struct Tryz.underlying24 h
 have hc1:Tryz.prog.cellsOf 24=2:=by kernel_rfl
 obtain⟨p1,c1,al,e1,hq1⟩:=kw mQ f0 gf0
 obtain⟨p2,c2,fl,e2,hq2⟩:=kw mQ f1 gf1
 have g1:=DA e1
 have g2:=DA e2
 obtain⟨cs,rfl⟩:=hv
 rw[hc1] at hcl
 have hcs:(Value.agg cs).cells.toList=[.slice p1 al.length c1,.slice p2 fl.length c2]:=by
  revert hcl g1 g2
  generalize (Value.agg cs).cells.toList=l
  intro hcl g1 g2
  match l,hcl,g1,g2 with
  | [a,b],_,g1,g2 =>
   have ha:a=.slice p1 al.length c1:=by
    have h1:[a,b][0]?=some (Value.slice p1 al.length c1):=g1
    simpa using h1
   have hb:b=.slice p2 fl.length c2:=by
    have h1:[a,b][1]?=some (Value.slice p2 fl.length c2):=g2
    simpa using h1
   rw[ha,hb]
 refine⟨al,fl,⟨p1,c1,p2,c2,?_,hq1,hq2⟩⟩
 have:cs.toList=[.slice p1 al.length c1,.slice p2 fl.length c2]:=hcs
 rw[show cs=#[.slice p1 al.length c1,.slice p2 fl.length c2] from Array.toList_inj.1 this]
end
open Go.RowKit Dc Dg
open Go.ChangeShapes Go.WideShapes Go.ChangeAt
set_option maxRecDepth 100000
theorem own:ownKnob Tryz.prog.godebug=none:=by kernel_rfl
def pH:List (String×DataW Unit):=[("math/bits.deBruijn32tab", Rows.laid_math_bits_deBruijn32tab),("math/bits.deBruijn64tab", Rows.laid_math_bits_deBruijn64tab),("internal/strconv.uint64pow10", Rows.laid_internal_strconv_uint64pow10),("unicode/utf8.acceptRanges", Rows.laid_unicode_utf8_acceptRanges),("strconv.ErrRange", Rows.laid_strconv_ErrRange),("strconv.ErrSyntax", Rows.laid_strconv_ErrSyntax),("unicode/utf8.first", Rows.laid_unicode_utf8_first)]
theorem sS {H:Type}{enc:TypeId×Value→H}{a:Assume}{C:Checked}{os:Os}{f:FuncId}{fn:Func}{s:ChangeSpec}{conds:List PathCond}{apart fresh handsOn again:Bool}{X:World→Array Value→Prop}
  (hX:∀ (w w':World) (args:Array Value),w.heap=w'.heap→X w args→X w' args)
  (own:ownKnob C.prog.godebug=none) (started:os.Started) (noInit:C.prog.inits.idxOf? f=none) (hfn:C.prog.funcs[f]?=some fn)
  (witness:∃ (w:World) (tape:Tape) (i:Input),w.os=os∧(w.forCall tape i).Shaped C.prog∧i.vars=[]∧Input.okWide C.prog (w.forCall tape i) .any w.heap.size f i ∧
   ((s.pre enc C.prog fn conds apart (w.forCall tape i).memory i.args∧X (w.forCall tape i).memory i.args)∧sizedMet enc C.prog fn (OpenSpec.ofChange s) apart (w.forCall tape i).memory i.args)∧a.holds C.prog (lone (Frame.enter C.prog f i.args .normal) [] (w.forCall tape i)))
  (contract:∀ (W:World) (base:Nat) (args:Array Value) (ds gs:List (DataW H)) (before:List MemPlace),
   (∀ (j:Nat) t v,fn.params[j]?=some t→args[j]?=some v→Value.okWide C.prog W .any base t v) →
   DataW.Whole enc C.prog fn.params.toList s.vars apart W args.toList ds gs before →
   (DataW.weightsEach C.prog (fn.params.toList++s.plain.varTypes C.prog) (ds++gs)).all (·≤reachBytes)=true→X W args→W.ShapedOpen C.prog →
   Calls C.prog f args W fun e W'=>∃ v,e=.returned v∧s.post enc C.prog fn apart fresh handsOn again W args v W') :
  ReturnsInHanded a C os f .any (fun w args=>(s.pre enc C.prog fn conds apart w args∧X w args)∧sizedMet enc C.prog fn (OpenSpec.ofChange s) apart w args) (s.post enc C.prog fn apart fresh handsOn again):=by
 refine returnsInHanded_of_calls own started noInit witness ?_
 intro w tape i _ hsh _ hok hpre hholds
 obtain⟨_,_,_,fn',hfn',_,_,_,_,hval⟩:=hok
 have e:fn'=fn:=Option.some.inj (hfn'.symm.trans hfn)
 subst e
 obtain⟨⟨⟨ds,gs,before,hw,hc⟩,hx⟩,hz⟩:=hpre
 have hw':=DataW.Whole.of_heap (w':=w.forCall tape i) (by rfl) hw
 refine (contract (w.forCall tape i) w.heap.size i.args ds gs before hval hw' (hz.weights hw) (hX _ _ _ (by rfl) hx) hsh).mono fun e W' ⟨v,he,hp⟩=>?_
 subst he
 exact ChangeSpec.post_blind hp
theorem sN {H:Type}{enc:TypeId×Value→H}{w:World}{base:Nat}{sp:Nat→Bool}{held:Bool}{fuel:Nat}{t:TypeId}{cs:List Value}{n:String}{d:DataW H}{p:List MemPlace}{ms:Array (String×TypeId)} (ht:Tryz.prog.underlying t=some (.interface ms)) (h:DataW.trod enc Tryz.prog w base sp held fuel t cs=some (.iface n d,p)):∃ u v,cs=[.iface u v]:=by
 cases fuel with
 | zero=>simp[DataW.trod] at h
 | succ fuel =>
  unfold DataW.trod at h
  rw[ht] at h
  split at h<;>first | (cases h;done) | skip
  all_goals first | exact⟨_,_,rfl⟩ | (simp_all;done)
theorem Bi:(Rows.laid_internal_strconv_uint64pow10:DataW Unit)=Lib.tabData .u64 Lib.pow10Tab:=by kernel_rfl
theorem EW {W:World} (hL:laidMetH Tryz.prog pH W) (hsh:W.ShapedOpen Tryz.prog):Gx W:=by
 rw[Go.MakeChecks.laidMetH_plain _ _ _ (by kernel_rfl)] at hL
 obtain⟨ps,hv,_,_⟩:=hL
 unfold pH at hv
 obtain⟨g6,t6,c6,f6,p6,q6,hg6,ht6,hv6,hd6,hv,_⟩:=hv
 obtain⟨g7,t7,c7,f7,p7,q7,hg7,ht7,hv7,hd7,hv,_⟩:=hv
 obtain⟨g5,t5,c5,f5,p5,q5,hg5,ht5,hv5,hd5,hv,_⟩:=hv
 obtain⟨g4,t4,c4,f4,p4,q4,hg4,ht4,hv4,hd4,hv,_⟩:=hv
 obtain⟨g1,t1,c1,f1,p1,q1,hg1,ht1,hv1,hd1,hv,_⟩:=hv
 obtain⟨g0,t0,c0,f0,p0,q0,hg0,ht0,hv0,hd0,_,_⟩:=hv
 have n0:Tryz.prog.globalNamed "strconv.ErrSyntax" = some 0:=by kernel_rfl
 have n1:Tryz.prog.globalNamed "strconv.ErrRange" = some 1:=by kernel_rfl
 have n5:=me
 have y0:(Tryz.prog.globals[0]?).map (·.type)=some 169:=by kernel_rfl
 have y1:(Tryz.prog.globals[1]?).map (·.type)=some 169:=by kernel_rfl
 obtain rfl:=Option.some.inj (n0.symm.trans hg0)
 obtain rfl:=Option.some.inj (n1.symm.trans hg1)
 obtain rfl:=Option.some.inj (n5.symm.trans hg5)
 obtain rfl:=Option.some.inj (y0.symm.trans ht0)
 obtain rfl:=Option.some.inj (y1.symm.trans ht1)
 have hif:=Tryz.underlying169
 have k0:=World.var?_cell hg0 hv0 0
 have k1:=World.var?_cell hg1 hv1 0
 obtain⟨u0,v0,e0⟩:=sN hif hd0
 obtain⟨u1,v1,e1⟩:=sN hif hd1
 rw[←G9,e0] at k0
 rw[←G9,e1] at k1
 rw[Bi] at hd5
 obtain⟨T,hT,e,hu,he⟩:∃ T,(Tryz.prog.globals[5]?).map (·.type)=some T∧∃ e,Tryz.prog.underlying T=some (.array 20 e)∧(Tryz.prog.underlying e=some (.int .u64)∧Tryz.prog.cellsOf e=1∧Tryz.prog.cellsOf T=20) :=
  ⟨312,by kernel_rfl,193,by kernel_rfl,by kernel_rfl,by kernel_rfl,by kernel_rfl⟩
 obtain rfl:=Option.some.inj (hT.symm.trans ht5)
 have ep:=Lib.cells_of_tab hu he.1 he.2.1 he.2.2 hd5
 have hsz:8≤W.heap.size:=by
  have h7:(((begin Tryz.prog (fun _ _=>0) default).world.heap[7]?).bind Obj.row?).isSome=true:=by kernel_rfl
  obtain⟨⟨zero,t⟩,hz⟩:=Option.isSome_iff_exists.1 h7
  obtain⟨cs,hh,_⟩:=hsh.1 7 zero t (of_decide_eq_true (by kernel_rfl)) hz
  have:=BK hh
  omega
 refine⟨⟨?_,?_,hsz⟩,⟨u0,v0,k0⟩,⟨u1,v1,k1⟩⟩
 ·unfold rR Lib.TabIs
  rw[hv5,←ep]
 ·exact cell_of_shapedOpen_int (g:=2) (t:=3) (zero:=#[.int .i64 0]) hsh (of_decide_eq_true (by kernel_rfl)) (by kernel_rfl) rfl (by kernel_rfl) (by kernel_rfl) und3
open Go.RowKit Dg
theorem wH:∀ (j:Nat) (p l:List Rat),p.length=j+1→je p j→aZ j p=some l→∀ k∈l,okQ k
 | 0,_,l,_,_,h=>by cases h;intro k hk;cases hk
 | j+1,p,l,hl,hd,h=>by
  rw[aZ] at h
  split at h
  ·rename_i hk
   cases hq:aZ j (dh p (j+1) (p.getD (j+1) 0)) with
   | none=>rw[hq] at h;cases h
   | some l' =>
    rw[hq] at h
    cases h
    intro k hm
    rcases F8.1 hm with hm | hm
    ·exact wH j _ _ (ci ..) (hd.next hl hk.1 hk.2) hq k hm
    ·rw[FZ.1 hm]
     exact hd.ok _ (eh (by omega))
  ·cases h
theorem pY {a b:List ByteArray} (hc:aB a b=true):∃ qb:List Rat,b=qb.map tq∧(∀ q∈qb,okQ q)∧0<qb.length∧qb.length≤7∧je qb (qb.length-1) ∧
  aY b=(aZ (qb.length-1) qb).map (fun l=>l.map tq)∧(∀ l,aZ (qb.length-1) qb=some l→∀ k∈l,okQ k):=by
 obtain⟨qa,qb,pa,pb,la,lb⟩:=n9 hc
 obtain⟨b',hb'⟩:=nG hc pb
 have h1:qb.getD 0 0=1:=by rw[hb'];rfl
 have h7:=pb.len
 have hd:je qb (qb.length-1):=⟨96,oE pb h1,lO (by omega)⟩
 exact⟨qb,pb.e,pb.ok,lb,h7,hd,od pb h1 lb,fun l hl=>wH _ qb l (by omega) hd hl⟩
theorem zl (v:Value) (qs:List Rat) (w:World) (hl:kj w v qs) (hpos:0<qs.length) (hlen:qs.length<1000000) (hd:je qs (qs.length-1)) :
  Calls Tryz.prog 37 #[v] w fun e w'=>e=.returned (.bool (aZ (qs.length-1) qs).isSome)∧Below w.heap.size w w':=by
 obtain⟨p,c,rfl,-,-⟩:=id hl.form
 have HP:=Ff (tI _ qs w hl hpos hlen hd)
 clear hl hpos hlen hd
 go_enter Tryz.func37,Tryz.ntmps37
 go_wp2_with fail
 refine HP.out.mono ?_
 rintro e w2 ⟨v2,ok,rfl,hcase,hb⟩
 have HOK:=Ff (show ok=(aZ (qs.length-1) qs).isSome by rcases hcase with ⟨l,h,rfl,-⟩ | ⟨h,rfl,-⟩<;>rw[h]<;>rfl)
 clear hcase
 go_wp2
 refine bodyPost_ret (v:=.bool ok) (by simp[results,Tryz.results37,go_sem]) rfl ⟨by rw[HOK.out],hb⟩
theorem zj (v:Value) (a b:List ByteArray) (w:World) (hF:IsF w v a b) :
  Calls Tryz.prog 8 #[v] w fun e w'=>e=.returned (.tuple #[.bool (aB a b&&(aY b).isSome),.int .i64 (aA a b)])∧Below w.heap.size w w':=by
 obtain⟨p,c,q,d,rfl,hfa,hfb⟩:=id hF.ex
 go_enter Tryz.func8,Tryz.ntmps8
 go_upto_region 1 with fail
 have cc:=aE w (.slice p a.length c) (.slice q b.length d)
 have m1:=aj w (.cells #[.slice p a.length c,.slice q b.length d] 24)
 have zz:=size_alloc w (.cells #[.slice p a.length c,.slice q b.length d] 24)
 generalize w.alloc (.cells #[.slice p a.length c,.slice q b.length d] 24)=w1 at *
 have HCK:=Ff (tG _ a b w1 (hF.below m1))
 have HB:=Ff (hfb.below m1)
 have c0:=cc.1
 have c1:=cc.2
 have hlt:w.heap.size<w1.heap.size:=by omega
 have M1:=Ff m1
 clear hfa hfb cc zz m1 hF
 by_cases hck:aB a b=true
 ·have hce:aA a b=0:=by unfold aA;rw[if_pos hck]
  rw[hce] at HCK
  obtain⟨qb,hbe,hok,hq0,hq7,hdeep,hpt,hlo⟩:=pY hck
  have HC:=Ff hck
  have HBE:=Ff hbe
  have HOK:=Ff hok
  have HPT:=Ff hpt
  have HLO:=Ff hlo
  have HD:=Ff hdeep
  have HQL:=Ff (And.intro hq0 hq7)
  clear hce hck hbe hok hq0 hq7 hdeep hpt hlo
  go_wp2_with fail
  refine HCK.out.mono ?_
  rintro e w2 ⟨rfl,hb2⟩
  have d0:=ag hb2 hlt c0
  have d1:=ag hb2 hlt c1
  have M2:=Ff (M1.out.trans (hb2.mono M1.out.size))
  have hlt2:w.heap.size<w2.heap.size:=Fo hlt hb2.size
  have hB2:=HB.out.below hb2
  have HG:=Ff (xx _ qb w2 (by rw[←HBE.out];exact hB2) HOK.out (by have:=HQL.out.2;omega))
  clear c0 c1 HB HCK M1 hb2 hlt hB2
  go_wp2_with fail
  refine HG.out.mono ?_
  rintro e w3 ⟨v3,rfl,hv3,hb3⟩
  have M3:=Ff (M2.out.trans (hb3.mono M2.out.size))
  have hs3:=hv3.isQs
  obtain⟨p3,c3,rfl,-,-⟩:=hs3.form
  clear hv3 hb3 HG
  have HS:=Ff (zl _ qb w3 hs3 HQL.out.1 (by have:=HQL.out.2;omega) HD.out)
  have HPT:=Ff (show (aY b).isSome=(aZ (qb.length-1) qb).isSome by rw[HPT.out];simp)
  go_wp2_with fail
  refine HS.out.mono ?_
  rintro e w4 ⟨rfl,hb4⟩
  generalize (aZ (qb.length-1) qb).isSome=ok at *
  go_wp2
  refine bodyPost_ret (v:=.tuple #[.bool ok,.int .i64 0]) (by simp[results,Tryz.results8,go_sem]) rfl ⟨by unfold aA;rw[HC.out,HPT.out];rfl,M3.out.trans (hb4.mono M3.out.size)⟩
 ·have HC:=Ff (show aB a b=false by simpa using hck)
  have hce:aA a b=30:=by unfold aA;rw[if_neg hck]
  rw[hce] at HCK
  clear hce
  go_wp2_with fail
  refine HCK.out.mono ?_
  rintro e w2 ⟨rfl,hb2⟩
  go_wp2
  refine bodyPost_ret (v:=.tuple #[.bool false,.int .i64 30]) (by simp[results,Tryz.results8,go_sem]) rfl ⟨by unfold aA;rw[HC.out];rfl,M1.out.trans (hb2.mono M1.out.size)⟩
theorem tJ (v:Value) (a b:List ByteArray) (w:World) (hF:IsF w v a b) :
  Calls Tryz.prog 10 #[v] w (ur a b w):=by
 obtain⟨p,c,q,d,rfl,hfa,hfb⟩:=id hF.ex
 go_enter Tryz.func10,Tryz.ntmps10
 go_upto_region 1 with fail
 have cc:=aE w (.slice p a.length c) (.slice q b.length d)
 have m1:=aj w (.cells #[.slice p a.length c,.slice q b.length d] 24)
 have zz:=size_alloc w (.cells #[.slice p a.length c,.slice q b.length d] 24)
 generalize w.alloc (.cells #[.slice p a.length c,.slice q b.length d] 24)=w1 at *
 have HCK:=Ff (tG _ a b w1 (hF.below m1))
 have HB:=Ff (hfb.below m1)
 have c0:=cc.1
 have c1:=cc.2
 have hlt:w.heap.size<w1.heap.size:=by omega
 have M1:=Ff m1
 clear hfa hfb cc zz m1 hF
 by_cases hck:aB a b=true
 ·have hce:aA a b=0:=by unfold aA;rw[if_pos hck]
  rw[hce] at HCK
  obtain⟨qb,hbe,hok,hq0,hq7,hdeep,hpt,hlo⟩:=pY hck
  have HC:=Ff hck
  have HBE:=Ff hbe
  have HOK:=Ff hok
  have HPT:=Ff hpt
  have HLO:=Ff hlo
  have HD:=Ff hdeep
  have HQL:=Ff (And.intro hq0 hq7)
  clear hce hck hbe hok hq0 hq7 hdeep hpt hlo
  go_wp2_with fail
  refine HCK.out.mono ?_
  rintro e w2 ⟨rfl,hb2⟩
  have d0:=ag hb2 hlt c0
  have d1:=ag hb2 hlt c1
  have M2:=Ff (M1.out.trans (hb2.mono M1.out.size))
  have hlt2:w.heap.size<w2.heap.size:=Fo hlt hb2.size
  have hB2:=HB.out.below hb2
  have HG:=Ff (xx _ qb w2 (by rw[←HBE.out];exact hB2) HOK.out (by have:=HQL.out.2;omega))
  clear c0 c1 HB HCK M1 hb2 hlt hB2
  go_wp2_with fail
  refine HG.out.mono ?_
  rintro e w3 ⟨v3,rfl,hv3,hb3⟩
  have M3:=Ff (M2.out.trans (hb3.mono M2.out.size))
  have hs3:=hv3.isQs
  obtain⟨p3,c3,rfl,-,-⟩:=hs3.form
  clear hv3 hb3 HG
  have HS:=Ff (tI _ qb w3 hs3 HQL.out.1 (by have:=HQL.out.2;omega) HD.out)
  go_wp2_with fail
  refine HS.out.mono ?_
  rintro e w4 ⟨v4,ok,rfl,hcase,hb4⟩
  have M4:=Ff (M3.out.trans (hb4.mono M3.out.size))
  rcases hcase with ⟨l,hq,rfl,hp⟩ | ⟨hq,rfl,rfl⟩
  ·have HL:=Ff (show aY b=some (l.map tq) by rw[HPT.out,hq];rfl)
   have hll:=kt _ _ _ hq
   have HPL:=Ff (show (l.map tq).length=b.length-1 by rw[FF,hll,HBE.out,FF])
   have HPS:=Ff (Db _ l w4 hp (HLO.out l hq) (by have:=HQL.out.2;omega))
   obtain⟨p4,c4,rfl,-,-⟩:=hp.form
   clear hq hll hp
   go_wp2_with fail
   refine HPS.out.mono ?_
   rintro e w5 ⟨v5,rfl,hv5,hb5⟩
   obtain⟨p5,c5,rfl,-⟩:=id hv5.form
   go_wp2
   refine bodyPost_ret (v:=.tuple #[.slice p5 _ c5,.int .i64 0]) (by simp[results,Tryz.results10,go_sem]) rfl ⟨_,_,rfl,Or.inl ⟨l.map tq,HC.out,HL.out,rfl,hv5,HPL.out⟩,M4.out.trans (hb5.mono M4.out.size)⟩
  ·have HL:=Ff (show aY b=none by rw[HPT.out,hq];rfl)
   clear hq
   go_wp2
   refine bodyPost_ret (v:=.tuple #[.slice none 0 0,.int .i64 31]) (by simp[results,Tryz.results10,go_sem]) rfl ⟨_,_,rfl,Or.inr (Or.inl ⟨HC.out,HL.out,rfl,rfl⟩),M4.out⟩
 ·have HC:=Ff (show aB a b=false by simpa using hck)
  have hce:aA a b=30:=by unfold aA;rw[if_neg hck]
  rw[hce] at HCK
  clear hce
  go_wp2_with fail
  refine HCK.out.mono ?_
  rintro e w2 ⟨rfl,hb2⟩
  go_wp2
  refine bodyPost_ret (v:=.tuple #[.slice none 0 0,.int .i64 30]) (by simp[results,Tryz.results10,go_sem]) rfl ⟨_,_,rfl,Or.inr (Or.inr ⟨HC.out,rfl,rfl⟩),M1.out.trans (hb2.mono M1.out.size)⟩
def ek (a b l:List ByteArray):Bool×Int:=if aB a b=true then (decide (aY b=some l),0) else (false,30)
theorem rz (va vb:Value) (a b:List ByteArray) (w:World) (ha:IsS w va a) (hb:IsS w vb b) (hne:a.length≠b.length) :
  Calls Tryz.prog 42 #[va,vb] w fun e w'=>e=.returned (.bool (decide (a=b)))∧Below w.heap.size w w':=by
 obtain⟨pa,ca,rfl,-⟩:=id ha.form
 obtain⟨pb,cb,rfl,-⟩:=id hb.form
 have HE:=Ff (show decide (a=b)=false from decide_eq_false fun h=>hne (by rw[h]))
 have hn:((a.length:Int) != (b.length:Int))=true:=by simp;omega
 clear ha hb hne
 generalize a.length=n at *
 generalize b.length=m at *
 go_enter Tryz.func42,Tryz.ntmps42
 go_wp2
 refine bodyPost_ret (v:=.bool false) (by simp[results,Tryz.results42,go_sem]) rfl ⟨by rw[HE.out],Below.refl _ _⟩
theorem zi (v vl:Value) (a b l:List ByteArray) (w:World) (hF:IsF w v a b) (hl:IsS w vl l) :
  Calls Tryz.prog 13 #[v,vl] w fun e w'=>e=.returned (.tuple #[.bool (ek a b l).1,.int .i64 (ek a b l).2])∧Below w.heap.size w w':=by
 obtain⟨p,c,q,d,rfl,hfa,hfb⟩:=id hF.ex
 obtain⟨pl,cl,rfl,-⟩:=id hl.form
 obtain⟨n,hn⟩:∃ n,n=l.length:=⟨_,rfl⟩
 rw[←hn] at hl ⊢
 have HN:=Ff hn
 clear hn
 go_enter Tryz.func13,Tryz.ntmps13
 go_upto_region 1 with fail
 have m1:=aj w (.cells #[.slice p a.length c,.slice q b.length d] 24)
 have cc:=aE w (.slice p a.length c) (.slice q b.length d)
 have HP:=Ff (tJ _ a b _ (hF.below m1))
 have HL:=Ff (hl.below m1)
 have M1:=Ff m1
 have c0:=cc.1
 have c1:=cc.2
 clear hF hl m1 hfa hfb cc
 generalize w.alloc (.cells #[.slice p a.length c,.slice q b.length d] 24)=w1 at *
 go_wp2_with fail
 refine HP.out.mono ?_
 rintro e w2 ⟨v2,er,rfl,hcase,hb2⟩
 have M2:=Ff (M1.out.trans (hb2.mono M1.out.size))
 have HL2:=Ff (HL.out.below hb2)
 clear hb2 HL HP c0 c1
 rcases hcase with ⟨pf,hc,hp,rfl,hs,hpl⟩ | ⟨hc,hp,rfl,rfl⟩ | ⟨hc,rfl,rfl⟩
 ·have HR:=Ff (show ek a b l=(decide (pf=l),0) by unfold ek;rw[if_pos hc,hp];simp)
  have hbl:=(bf hc).2.1
  have HS:=Ff (show Calls Tryz.prog 42 #[_,.slice pl n cl] w2 fun e w'=>e=.returned (.bool (decide (pf=l)))∧Below w2.heap.size w2 w' by
   by_cases h:l.length<1000000
   ·exact gD _ (.slice pl n cl) pf l w2 hs HL2.out (by omega) h
   ·exact rz _ (.slice pl n cl) pf l w2 hs HL2.out (by omega))
  obtain⟨p2,c2,rfl,-⟩:=id hs.form
  clear hc hp hs hpl hbl
  go_wp2_with fail
  refine HS.out.mono ?_
  rintro e w3 ⟨rfl,hb3⟩
  generalize decide (pf=l)=ok at *
  go_wp2
  refine bodyPost_ret (v:=.tuple #[.bool ok,.int .i64 0]) (by simp[results,Tryz.results13,go_sem]) rfl ⟨by rw[HR.out],M2.out.trans (hb3.mono M2.out.size)⟩
 ·have HR:=Ff (show ek a b l=(false,0) by unfold ek;rw[if_pos hc,hp];simp)
  clear hc hp
  go_wp2
  refine bodyPost_ret (v:=.tuple #[.bool false,.int .i64 0]) (by simp[results,Tryz.results13,go_sem]) rfl ⟨by rw[HR.out],M2.out⟩
 ·have HR:=Ff (show ek a b l=(false,30) by unfold ek;rw[if_neg (by rw[hc];simp)])
  clear hc
  go_wp2
  refine bodyPost_ret (v:=.tuple #[.bool false,.int .i64 30]) (by simp[results,Tryz.results13,go_sem]) rfl ⟨by rw[HR.out],M2.out⟩
open Go.RowKit Dg Dc
theorem nE:dy ⟨#[]⟩=none:=by decide +kernel
theorem x9 {φ:CQ→CQ→CQ×Int}{s t:ByteArray} (h:dy s=none):dy (cz φ s t).1=none:=by
 unfold cz
 rw[h]
 exact nE
theorem x_ {φ:CQ→CQ→CQ×Int}{s t:ByteArray} (h:dy t=none):dy (cz φ s t).1=none:=by
 unfold cz
 rw[h]
 cases dy s<;>exact nE
theorem xu {z:CQ} (h:ee z=true):dy (dQ z).1=none:=by
 unfold dQ
 rw[if_pos h]
 exact nE
theorem Ek {k y:Rat} (hk:okQ k) (hy:okQ y):(okQ (k*y)∧dj (tq k) (tq y)=tq (k*y))∨dy (dj (tq k) (tq y))=none:=by
 cases hb:ee (CQ.real (k*y)) with
 | false=>exact Or.inl ⟨hb,kU hk hy hb⟩
 | true =>
  refine Or.inr ?_
  unfold dj cz fi
  rw[dT hk,dT hy]
  simp only[if_true]
  rw[tE]
  exact xu hb
theorem wK {k x y:Rat} (hk:okQ k) (hx:okQ x) (hy:okQ y):(okQ (x+k*y)∧fT (tq x) (dj (tq k) (tq y))=tq (x+k*y))∨dy (fT (tq x) (dj (tq k) (tq y)))=none:=by
 rcases Ek hk hy with ⟨h1,e1⟩ | h1
 ·rw[e1]
  cases hb:ee (CQ.real (x+k*y)) with
  | false=>exact Or.inl ⟨hb,wm hx h1 hb⟩
  | true =>
   refine Or.inr ?_
   unfold fT cz fi
   rw[dT hx,dT h1]
   simp only[if_true]
   rw[tB]
   exact xu hb
 ·exact Or.inr (x_ h1)
theorem kW {l:List ByteArray}{i:Nat} (h:i<l.length):aD l i=l[i]:=(eX h).symm
theorem xB (k:ByteArray) (p:List ByteArray) {i:Nat} (h:i<p.length+1):aD (dS k p) i=fT (aD (p++[⟨#[48]⟩]) i) (dj k (aD (p++[⟨#[48]⟩]) (p.length-i))):=by
 rw[kW (by rw[d8];exact h),qk]
theorem BW {k:ByteArray}{p:List ByteArray}{i:Nat} (hi:i<p.length) (h:dy (aD p i)=none):dy (aD (dS k p) i)=none:=by
 rw[xB k p (by omega)]
 refine x9 ?_
 have e:aD (p++[⟨#[48]⟩]) i=aD p i:=by
  rw[kW (by simp;omega),kW hi,FP hi]
 rw[e];exact h
theorem nh:∀ (l p:List ByteArray) (i:Nat),i<p.length→dy (aD p i)=none→dy (aD ((bE l p).getLastD p) i)=none∧i<((bE l p).getLastD p).length
 | [],p,i,hi,h=>⟨h,hi⟩
 | k :: ks,p,i,hi,h=>by
  rw[bE]
  split
  ·rw[Ib]
   exact nh ks (dS k p) i (by rw[d8];omega) (BW hi h)
  ·exact⟨h,hi⟩
theorem ni:∀ (l p:List ByteArray),((bE l p).getLastD p).length=p.length+(bE l p).length∧(bE l p).length≤l.length
 | [],p=>⟨rfl,Fm _⟩
 | k :: ks,p=>by
  rw[bE]
  split
  ·obtain⟨h1,h2⟩:=ni ks (dS k p)
   rw[Ib,h1,d8,FH,FH]
   omega
  ·exact⟨rfl,Fy _⟩
theorem Do {k:Rat}{p:List Rat} (hk:okQ k) (hp:∀ q∈p,okQ q) :
  (dS (tq k) (p.map tq)=(eM k p).map tq∧∀ q∈eM k p,okQ q)∨∃ i,i<(dS (tq k) (p.map tq)).length∧dy (aD (dS (tq k) (p.map tq)) i)=none:=by
 have ez:p.map tq++[(⟨#[48]⟩:ByteArray)]=(p++[0]).map tq:=by rw[H7,GH,Hg,xK]
 have eg:∀ i,(p++[0]).getD i 0=p.getD i 0:=fun i=>by
  rw[FA,FA]
  by_cases hi:i<p.length
  ·rw[Hc hi]
  ·rw[GT (by omega),GM (l:=p) (by omega)]
   cases hh:i-p.length with
   | zero=>rfl
   | succ n=>rfl
 have okp:∀ i,okQ (p.getD i 0):=fun i=>by
  by_cases hi:i<p.length
  ·exact hp _ (eh hi)
  ·rw[kN (by omega)];exact Bb
 have at_:∀ i,i<p.length+1→aD (dS (tq k) (p.map tq)) i=fT (tq (p.getD i 0)) (dj (tq k) (tq (p.getD (p.length-i) 0))):=fun i hi=>by
  rw[xB _ _ (by rw[FF];exact hi),ez,FF,g9 (by rw[Fv,Gu];exact hi),g9 (by rw[Fv,Gu];omega),eg,eg]
 by_cases hall:∀ i,i<p.length+1→dy (aD (dS (tq k) (p.map tq)) i)≠none
 ·refine Or.inl ⟨?_,fun q hq=>?_⟩
  ·unfold eM
   refine IM (by rw[d8];simp) fun i h1 h2=>?_
   have hi:i<p.length+1:=by rw[d8,FF] at h1;exact h1
   rw[←kW h1,at_ i hi]
   have hg:=hall i hi
   rw[at_ i hi] at hg
   rcases wK hk (okp i) (okp (p.length-i)) with ⟨-,e⟩ | e
   ·rw[e];simp
   ·exact absurd e hg
  ·unfold eM at hq
   obtain⟨i,hi,rfl⟩:=Hs.1 hq
   have hi:=Gv.1 hi
   have hg:=hall i hi
   rw[at_ i hi] at hg
   rcases wK hk (okp i) (okp (p.length-i)) with ⟨e,-⟩ | e
   ·exact e
   ·exact absurd e hg
 ·refine Or.inr ?_
  obtain⟨i,h⟩:=Classical.not_forall.1 hall
  obtain⟨hi,h⟩:=Classical.not_imp.1 h
  exact⟨i,by rw[d8,FF];exact hi,Classical.not_not.1 h⟩
theorem nj:∀ (l:List ByteArray) (p:List Rat),(∀ q∈p,okQ q)→(bE l (p.map tq)).length=l.length →
  (∀ i,i<((bE l (p.map tq)).getLastD (p.map tq)).length→dy (aD ((bE l (p.map tq)).getLastD (p.map tq)) i)≠none) →
  ∃ ks:List Rat,l=ks.map tq∧(∀ k∈ks,inK k)∧(bE l (p.map tq)).getLastD (p.map tq)=(upQ ks p).map tq∧∀ q∈upQ ks p,okQ q
 | [],p,hp,_,_=>⟨[],rfl,(fun k hk=>by cases hk),rfl,hp⟩
 | k :: ks,p,hp,hlen,hgood=>by
  rw[bE] at hlen hgood ⊢
  by_cases hc:fP k.data.toList=true∧eA k=true
  ·rw[if_pos hc] at hlen hgood ⊢
   rw[Ib] at hgood ⊢
   obtain⟨q,rfl,hq⟩:=xw hc.1
   have hin:inK q:=by
    have h:=hc.2
    rw[kq hq] at h
    simp at h
    exact h
   rcases Do hq hp with ⟨e,hok⟩ | ⟨i,hi,hbad⟩
   ·rw[e] at hlen hgood ⊢
    obtain⟨ls,h1,h2,h3,h4⟩:=nj ks (eM q p) hok (by simpa using hlen) hgood
    refine⟨q :: ls,by rw[h1];rfl,fun x hx=>?_,h3,h4⟩
    rcases Gp.1 hx with rfl | hx
    ·exact hin
    ·exact h2 x hx
   ·obtain⟨b1,b2⟩:=nh ks _ i hi hbad
    exact absurd b1 (hgood i b2)
  ·rw[if_neg hc] at hlen
   cases hlen
theorem vC {a b l:List ByteArray} (hc:aB a b=true) (hl:l.length+1=b.length) (h:gZ l=b):aY b=some l:=by
 obtain⟨qa,qb,pa,pb,la,lb⟩:=n9 hc
 obtain⟨b',hb'⟩:=nG hc pb
 have h1:qb.getD 0 0=1:=by rw[hb'];rfl
 have e1:gZ l=(bE l ([1].map tq)).getLastD ([1].map tq):=by
  unfold gZ
  rw[pJ]
  unfold bo
  rw[GH,Hg,jG]
 rw[e1] at h
 obtain⟨g1,g2⟩:=ni l ([1].map tq)
 rw[h] at g1
 simp only[FF,Gu] at g1
 obtain⟨ks,k1,k2,k3,k4⟩:=nj l [1] (fun q hq=>by rw[FZ.1 hq];exact gl) (by omega) (fun i hi=>by
  rw[h,pb.e] at hi ⊢
  rw[FF] at hi
  rw[g9 hi,dT (pb.ok _ (eh hi))]
  simp)
 have e3:upQ ks [1]=qb:=rH k4 pb.ok (by rw[←k3,h,pb.e])
 have hkl:ks.length+1=qb.length:=by
  have:=congrArg List.length k1
  rw[FF] at this
  rw[pb.e,FF] at hl
  omega
 obtain⟨v1,-,-⟩:=oL ks.length ks rfl k2
 rw[od pb h1 lb,show qb.length-1=ks.length by omega,←e3,v1,k1]
 rfl
theorem oe {a b l:List ByteArray} (hc:aB a b=true) (hp:aY b=some l):l.length+1=b.length∧gZ l=b:=by
 obtain⟨ks,qb,pb,h1,rfl,hl,⟨s,hs,hsz⟩,hin,hup,-⟩:=zd hc hp
 obtain⟨e1,-⟩:=wY (mK hsz (by omega)) hin
 exact⟨by rw[FF];exact hl,by rw[e1,hup,pb.e]⟩
theorem tu (a b l:List ByteArray):ek a b l=dR a b l:=by
 unfold ek dR
 by_cases hc:aB a b=true
 ·rw[if_pos hc,if_pos hc]
  by_cases hl:l.length+1=b.length
  ·rw[if_pos hl]
   have:(aY b=some l)↔(gZ l=b):=⟨fun h=>(oe hc h).2,fun h=>vC hc hl h⟩
   rw[decide_eq_decide.2 this]
  ·rw[if_neg hl,decide_eq_false fun h=>hl (oe hc h).1]
 ·rw[if_neg hc,if_neg hc]
def prL (a b:List ByteArray):List ByteArray:=if aB a b=true then (aY b).getD [] else []
def prE (a b:List ByteArray):Int:=if aB a b=true then (if (aY b).isSome=true then 0 else 31) else 30
theorem xt {a b:List ByteArray}{w:World}{e:Ending}{w':World} (h:ur a b w e w'):∃ v,e=.returned (.tuple #[v,.int .i64 (prE a b)])∧IsS w' v (prL a b)∧(prL a b).length<1000000∧Below w.heap.size w w':=by
 have hnil:IsS w' (.slice none 0 0) []:=cL.isS (cL.nil w' 0)
 obtain⟨v,er,rfl,hc,hb⟩:=h
 rcases hc with ⟨pf,c1,c2,rfl,hs,hpl⟩ | ⟨c1,c2,rfl,rfl⟩ | ⟨c1,rfl,rfl⟩
 ·have hl:=(bf c1).2.1
  have e1:prL a b=pf:=by unfold prL;rw[if_pos c1,c2];rfl
  have e2:prE a b=0:=by unfold prE;rw[if_pos c1,c2];rfl
  rw[e1,e2]
  exact⟨v,rfl,hs,by omega,hb⟩
 ·have e1:prL a b=[]:=by unfold prL;rw[if_pos c1,c2];rfl
  have e2:prE a b=31:=by unfold prE;rw[if_pos c1,c2];rfl
  rw[e1,e2]
  exact⟨_,rfl,hnil,by decide,hb⟩
 ·have e1:prL a b=[]:=by unfold prL;rw[if_neg (by rw[c1];decide)]
  have e2:prE a b=30:=by unfold prE;rw[if_neg (by rw[c1];decide)]
  rw[e1,e2]
  exact⟨_,rfl,hnil,by decide,hb⟩
theorem Es (va vb:Value) (l:List ByteArray) (x:Int) (w:World) (ha:IsS w va l) (hb:IsS w vb l) (hl:l.length<1000000) :
  Calls Tryz.prog 11 #[va,.int .i64 x,vb,.int .i64 x] w fun e w'=>e=.returned (.bool true)∧Below w.heap.size w w':=by
 obtain⟨pa,ca,rfl,-⟩:=id ha.form
 obtain⟨pb,cb,rfl,-⟩:=id hb.form
 have HS:=Ff (gD _ _ l l w ha hb hl hl)
 rw[decide_eq_true rfl] at HS
 clear ha hb hl
 go_enter Tryz.func11,Tryz.ntmps11
 go_wp2_with fail
 refine HS.out.mono ?_
 rintro e w2 ⟨rfl,hb⟩
 go_wp2
 refine bodyPost_ret (v:=.bool true) (by simp[results,Tryz.results11,go_sem]) rfl ⟨rfl,hb⟩
theorem uV (v:Value) (a b:List ByteArray) (vl:Value) (l:List ByteArray) (w:World) (hF:IsF w v a b) (hl:IsS w vl l) (hG:Gx w) :
  Calls Tryz.prog 3 #[v,vl] w fun e w'=>e=.returned (.bool true)∧Below w.heap.size w w':=by
 obtain⟨p,c,q,d,rfl,hfa,hfb⟩:=id hF.ex
 obtain⟨pl,cl,rfl,-⟩:=id hl.form
 obtain⟨n,hn⟩:∃ n,n=l.length:=⟨_,rfl⟩
 rw[←hn] at hl ⊢
 clear hn
 go_enter Tryz.func3,Tryz.ntmps3
 go_upto_region 1 with fail
 have m1:=aj w (.cells #[.slice p a.length c,.slice q b.length d] 24)
 have cc:=aE w (.slice p a.length c) (.slice q b.length d)
 have zz:=size_alloc w (.cells #[.slice p a.length c,.slice q b.length d] 24)
 have HF:=Ff (hF.below m1)
 have HL:=Ff (hl.below m1)
 have HG:=Ff (hG.below m1)
 have HB:=Ff m1
 have k0:=cc.1
 have k1:=cc.2
 have KL:w.heap.size<(w.alloc (.cells #[.slice p a.length c,.slice q b.length d] 24)).heap.size:=by omega
 clear hF hl hG m1 hfa hfb cc zz
 generalize w.alloc (.cells #[.slice p a.length c,.slice q b.length d] 24)=w1 at *
 go_wp2_with fail
 refine (Cu _ a b w1 HF.out HG.out).mono ?_
 rintro e w2 ⟨rfl,hb2⟩
 have HF:=Ff (HF.out.below hb2)
 have HL:=Ff (HL.out.below hb2)
 have HG:=Ff (HG.out.below hb2)
 have HB:=Ff (HB.out.trans ((hb2).mono HB.out.size))
 have k0:=ag hb2 KL k0
 have k1:=ag hb2 KL k1
 have KL:=Fo KL ((hb2).size)
 clear hb2
 generalize hst:(aB a b&&(aY b).isSome)=st
 generalize hce:aA a b=ce
 have HST:=Ff hst
 have HCE:=Ff hce
 clear hst hce
 go_wp2_with fail
 have hr:=zj _ a b w2 HF.out
 rw[HST.out,HCE.out] at hr
 refine hr.mono ?_
 rintro e w3 ⟨rfl,hb3⟩
 clear hr
 have HF:=Ff (HF.out.below hb3)
 have HL:=Ff (HL.out.below hb3)
 have HG:=Ff (HG.out.below hb3)
 have HB:=Ff (HB.out.trans ((hb3).mono HB.out.size))
 have k0:=ag hb3 KL k0
 have k1:=ag hb3 KL k1
 have KL:=Fo KL ((hb3).size)
 clear hb3
 have hstt:(st != st)=false:=by cases st<;>rfl
 have hcee:(ce != ce)=false:=by simp
 clear hstt hcee
 have HP1:=Ff (fun w1 (h:IsF w1 (.agg #[.slice p a.length c,.slice q b.length d]) a b) (hG:Gx w1)=>Calls.mono (ut _ a b w1 h hG) (fun e w' h=>xt h))
 have HP2:=Ff (fun w1 (h:IsF w1 (.agg #[.slice p a.length c,.slice q b.length d]) a b)=>Calls.mono (tJ _ a b w1 h) (fun e w' h=>xt h))
 generalize prL a b=L at HP1 HP2
 generalize prE a b=E at HP1 HP2
 have hstt:(st != st)=false:=by cases st<;>rfl
 have hcee:(ce != ce)=false:=by simp
 go_wp2_with fail
 refine (HP1.out w3 HF.out HG.out).mono ?_
 rintro e w4 ⟨v4,rfl,hs4,hl4,hb4⟩
 obtain⟨p4,c4,rfl,-⟩:=id hs4.form
 have HS4:=Ff hs4
 have HL4:=Ff hl4
 obtain⟨m4,hm4⟩:∃ m,m=L.length:=⟨_,rfl⟩
 rw[←hm4] at HS4 ⊢
 clear hs4 hl4 hm4
 have HF:=Ff (HF.out.below hb4)
 have HL:=Ff (HL.out.below hb4)
 have HG:=Ff (HG.out.below hb4)
 have HB:=Ff (HB.out.trans ((hb4).mono HB.out.size))
 have k0:=ag hb4 KL k0
 have k1:=ag hb4 KL k1
 have KL:=Fo KL ((hb4).size)
 clear hb4
 go_wp2_with fail
 refine (HP2.out w4 HF.out).mono ?_
 rintro e w5 ⟨v5,rfl,hs5,hl5,hb5⟩
 obtain⟨p5,c5,rfl,-⟩:=id hs5.form
 have HS5:=Ff hs5
 obtain⟨m5,hm5⟩:∃ m,m=L.length:=⟨_,rfl⟩
 rw[←hm5] at HS5 ⊢
 clear hs5 hl5 hm5
 have HS4:=Ff (HS4.out.below hb5)
 have HF:=Ff (HF.out.below hb5)
 have HL:=Ff (HL.out.below hb5)
 have HG:=Ff (HG.out.below hb5)
 have HB:=Ff (HB.out.trans ((hb5).mono HB.out.size))
 have k0:=ag hb5 KL k0
 have k1:=ag hb5 KL k1
 have KL:=Fo KL ((hb5).size)
 clear hb5
 go_wp2_with fail
 refine (Es _ _ L E w5 HS4.out HS5.out HL4.out).mono ?_
 rintro e w6 ⟨rfl,hb6⟩
 have HF:=Ff (HF.out.below hb6)
 have HL:=Ff (HL.out.below hb6)
 have HG:=Ff (HG.out.below hb6)
 have HB:=Ff (HB.out.trans ((hb6).mono HB.out.size))
 have k0:=ag hb6 KL k0
 have k1:=ag hb6 KL k1
 have KL:=Fo KL ((hb6).size)
 clear hb6
 go_wp2_with fail
 have HPE:=Ff (tu a b l)
 refine (wh _ _ a b l w6 HF.out HL.out HG.out).mono ?_
 rintro e w7 ⟨rfl,hb7⟩
 have HR:=Ff (fun w1 (h:IsF w1 (.agg #[.slice p a.length c,.slice q b.length d]) a b) (h':IsS w1 (.slice pl n cl) l)=>zi _ _ a b l w1 h h')
 rw[HPE.out] at HR
 have HF:=Ff (HF.out.below hb7)
 have HL:=Ff (HL.out.below hb7)
 have HG:=Ff (HG.out.below hb7)
 have HB:=Ff (HB.out.trans ((hb7).mono HB.out.size))
 have k0:=ag hb7 KL k0
 have k1:=ag hb7 KL k1
 have KL:=Fo KL ((hb7).size)
 clear hb7
 generalize (dR a b l).1=x at HR ⊢
 generalize (dR a b l).2=y at HR ⊢
 go_wp2_with fail
 refine (HR.out w7 HF.out HL.out).mono ?_
 rintro e w8 ⟨rfl,hb8⟩
 have HF:=Ff (HF.out.below hb8)
 have HL:=Ff (HL.out.below hb8)
 have HG:=Ff (HG.out.below hb8)
 have HB:=Ff (HB.out.trans ((hb8).mono HB.out.size))
 have k0:=ag hb8 KL k0
 have k1:=ag hb8 KL k1
 have KL:=Fo KL ((hb8).size)
 clear hb8
 have hxx:(x == x)=true:=by cases x<;>rfl
 have hyy:(y == y)=true:=by simp
 go_wp2_with fail
 refine (EF _ HG.out).mono ?_
 rintro e wz ⟨rfl,hz⟩
 have HB:=HB.out.trans (hz.mono HB.out.size)
 clear hz
 go_wp2
 go_ret
 exact⟨rfl,HB⟩
set_option maxRecDepth 100000
theorem lD (os:Os) (started:os.Started) (H:Type) (enc:TypeId×Value→H) :
  ReturnsInHanded {} Tryz.checked os 3 .any (fun w args=>(Rows.loopProvesSpec.pre enc Tryz.prog Tryz.f3 [] false w args∧laidMetH Tryz.prog pH w)∧sizedMet enc Tryz.prog Tryz.f3 (OpenSpec.ofChange Rows.loopProvesSpec) false w args)
   (Rows.loopProvesSpec.post enc Tryz.prog Tryz.f3 false true false false):=by
 refine sS (C:=Tryz.checked) (X:=fun w _=>laidMetH Tryz.prog pH w) (fun _ _ _ hh h=>h.of_heap hh) own started (by kernel_rfl) Tryz.func3
  (ChangeSpec.witness_shaped (enc:=enc) (C:=Tryz.checked) (os:=os) (X:=fun w _=>laidMetH Tryz.prog pH w) false (World.laidAll Tryz.prog os pH) #[.agg #[.slice none 0 0,.slice none 0 0],.slice none 0 0] 8 (World.laidAll_os _ _ _)
   (World.shaped_of_ZipB (by kernel_rfl) (by kernel_rfl)) (by kernel_rfl) (by kernel_rfl) (by kernel_rfl)
   (by rw[Go.MakeChecks.laidMetH_plain _ _ _ (by kernel_rfl)];exact laidMet_laidAll _ (by kernel_rfl) (by kernel_rfl))) ?_
 intro W base args ds gs before hval0 hW hwt hL hsh
 have hval:∀ (j:Nat) t v,Tryz.f3.params[j]?=some t→args[j]?=some v→Value.okWide Tryz.prog W .any base t v:=hval0
 have hW':=hW
 obtain⟨p,q,hA0,hV,rfl,_,_⟩:=hW
 have hA:DataW.TrodAll enc Tryz.prog W 0 (fun _=>true) true Tryz.f3.params.toList args.toList ds p:=hA0
 rw[Tryz.params3] at hA hval
 have hwt':(DataW.weightsEach Tryz.prog (Tryz.f3.params.toList++[]) (ds++gs)).all (·≤reachBytes)=true:=hwt
 rw[Tryz.params3,Gk] at hwt'
 obtain⟨v0,v1,d0,d1,p0,p1,rfl,rfl,rfl,h0,h1⟩:=trodAll_two hA
 obtain⟨rfl,rfl⟩:=trodVars_none hV
 simp only[Gk] at hW' hwt'
 have hX:=EW hL hsh
 have fits:∀ (j:Nat) (t:TypeId) (d:DataW H),([24,22]:List TypeId)[j]?=some t→[d0,d1][j]?=some d→mT t d:=fun j t d ht hd n hn=>by
  have:=FR.1 hwt' n (DataW.weights_mem_each ht hd n hn)
  exact of_decide_eq_true this
 have hlt:∀ x∈p0++p1,x.block<W.heap.size:=fun x hx=>by simpa using hW'.lt x hx
 have ok0:=hval 0 24 v0 rfl rfl
 obtain⟨cs0,hcs0,_⟩:=okWide_struct Tryz.underlying24 ok0
 obtain⟨a0,b0,hF0⟩:=yE h0 (fits 0 _ _ rfl rfl) ⟨cs0,hcs0⟩
 have ok1:=hval 1 22 v1 rfl rfl
 obtain⟨l1,hF1⟩:=C2 h1 (fits 1 _ _ rfl rfl) ok1
 refine (uV v0 a0 b0 v1 l1 W hF0 hF1 hX).mono fun e W' ⟨he,hb⟩=>?_
 subst he
 exact⟨_,rfl,_,_,_,[],p0++p1,[],hW',trodAll_mk1 (shut_bool Tryz.underlying4 _),trodAll_mk2 (Below.trod laidAll (by kernel_rfl) (of_decide_eq_true (by kernel_rfl)) h0 hb (fun x hx=>hlt x (by simp[hx]))) (Below.trod laidAll (by kernel_rfl) (of_decide_eq_true (by kernel_rfl)) h1 hb (fun x hx=>hlt x (by simp[hx]))),rfl,hb.frame _,fun h=>by cases h⟩
end Go.Proofs.YtbnkpcfjechfiaaGreatDoor
