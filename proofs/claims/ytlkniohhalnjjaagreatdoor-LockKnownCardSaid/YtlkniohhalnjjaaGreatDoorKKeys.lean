/- Lemmas of this claim. -/
import Derived.Maps.OwnSet
import Derived.DeepKeys4
import Derived.Test.YtlkniohhalnjjaaGreatDoorKMach
set_option linter.all false
set_option maxRecDepth 100000
set_option maxHeartbeats 8000000
namespace Go.Proofs.YtlkniohhalnjjaaGreatDoor
open Go.Maps (Keyed)
def ej (v:Value):Option (DataW Value×List MemPlace):=some (.held v,[])
structure ed (P:Program) (K:TypeId) {κ:Type} (enc:κ→Value) (ok:κ→Prop):Prop where
 law:Keyed P K
 key:∀ k,ok k→∃ l,keyOf P K (enc k)=some l
 inj:∀ a b,ok a→ok b→enc a=enc b→a=b
def bj {κ:Type} (P:Program) (K:TypeId) (enc:κ→Value) (ok:κ→Prop) (w:World) (b n s:Nat) (f:κ→Option Value):Prop :=
 ∃ D:DataW Value,w.ownsMap P K ej b n D∧Go.Maps.size D=s ∧
  (∀ k l,ok k→keyOf P K (enc k)=some l→(∀ z,D.atKey l (.held z)=.held ((f k).getD z))∧Go.Maps.has D l=(f k).isSome) ∧
  (∀ k,(f k).isSome=true→ok k)∧(∀ l,Go.Maps.has D l=true→∃ k,(f k).isSome=true∧keyOf P K (enc k)=some l)
section
variable {κ : Type} {P : Program} {K : TypeId} {enc : κ → Value} {ok : κ → Prop} {w : World} {b n s : Nat} {f : κ → Option Value}
theorem bj.made (w:World) (P:Program) (K:TypeId) (enc:κ→Value) (ok:κ→Prop):bj P K enc ok (w.alloc (.map #[] 0)) w.heap.size 0 0 (fun _=>none):=by
 refine⟨.map [],World.ownsMap_made _ _ _ _,rfl,fun k l _ _=>⟨fun z=>Go.Maps.atKey_of_not_has rfl _,rfl⟩,?_,?_⟩
 ·intro k h;cases h
 ·intro l h;cases h
theorem bj.lt (h:bj P K enc ok w b n s f):b<w.heap.size:=by
 obtain⟨D,h1,_⟩:=h
 exact h1.lt
theorem bj.kept {w':World}{row:Option Nat} (h:bj P K enc ok w b n s f) (hg:w.grownBy w' row) (hne:some b≠row):bj P K enc ok w' b n s f:=by
 obtain⟨D,h1,h2⟩:=h
 exact⟨D,h1.kept hg hne,h2⟩
theorem bj.same {w':World} (h:bj P K enc ok w b n s f) (hg:w'.heap[b]?=w.heap[b]?):bj P K enc ok w' b n s f:=by
 obtain⟨D,⟨es,clock,hb,r⟩,h2⟩:=h
 exact⟨D,⟨es,clock,hg.trans hb,r⟩,h2⟩
theorem bj.mono (h:bj P K enc ok w b n s f) {n':Nat} (hn:n≤n'):bj P K enc ok w b n' s f:=by
 obtain⟨D,h1,h2⟩:=h
 exact⟨D,h1.mono hn,h2⟩
theorem bj.look {t e:TypeId} (h:bj P K enc ok w b n s f) (E:ed P K enc ok) (ht:P.underlying t=some (.map K e)) {z:Value} (hz:(zeroValue e).run P w=.ok z w) {k:κ} (hk:ok k) :
  (Instr.lookup t (.map (some b)) (enc k) false).run P w=.ok ((f k).getD z) w:=by
 obtain⟨D,h1,_,h2,_⟩:=h
 obtain⟨l,hl⟩:=E.key k hk
 obtain⟨v,ps,hr,hv⟩:=h1.lookup E.law ht hz (zd:=.held z) (zp:=[]) rfl hl
 rw[(h2 k l hk hl).1 z] at hv
 unfold ej at hv
 simp only[Option.some.injEq,Prod.mk.injEq,DataW.held.injEq] at hv
 rw[hr,hv.1]
theorem bj.look_ok {t e:TypeId} (h:bj P K enc ok w b n s f) (E:ed P K enc ok) (ht:P.underlying t=some (.map K e)) {z:Value} (hz:(zeroValue e).run P w=.ok z w) {k:κ} (hk:ok k) :
  (Instr.lookup t (.map (some b)) (enc k) true).run P w=.ok (.tuple #[(f k).getD z,.bool (f k).isSome]) w:=by
 obtain⟨D,h1,_,h2,_⟩:=h
 obtain⟨l,hl⟩:=E.key k hk
 obtain⟨v,ps,hr,hv⟩:=h1.look_ok E.law ht hz (zd:=.held z) (zp:=[]) rfl hl
 rw[(h2 k l hk hl).1 z] at hv
 unfold ej at hv
 simp only[Option.some.injEq,Prod.mk.injEq,DataW.held.injEq] at hv
 rw[hr,hv.1,(h2 k l hk hl).2]
theorem bj.len {t e:TypeId} (h:bj P K enc ok w b n s f) (ht:P.underlying t=some (.map K e)) (ty:TypeId):(Builtin.len_ #[t] ty #[.map (some b)]).run P w=.ok (.int .i64 s) w:=by
 obtain⟨D,h1,h2,_⟩:=h
 rw[←h2]
 exact h1.len ht ty
def eP {κ:Type} [DecidableEq κ] (f:κ→Option Value) (k:κ) (v:Value):κ→Option Value:=fun x=>if x=k then some v else f x
theorem bj.store [DecidableEq κ] {t e:TypeId} (h:bj P K enc ok w b n s f) (E:ed P K enc ok) (ht:P.underlying t=some (.map K e)) (hn:n<maxLen) {k:κ} (hk:ok k) (v:Value) :
  ∃ w',(Instr.mapUpdate t (.map (some b)) (enc k) v).run P w=.ok () w'∧bj P K enc ok w' b (n+1) (if (f k).isSome then s else s+1) (eP f k v)∧w.grownBy w' (some b):=by
 obtain⟨D,h1,h2,h3,h4,h5⟩:=h
 obtain⟨l,hl⟩:=E.key k hk
 obtain⟨w',hr,h6,hg⟩:=h1.update E.law ht hn (val:=v) (d:=.held v) (ps:=[]) hl rfl
 refine⟨w',hr,⟨D.put l (.held v),h6,?_,?_,?_,?_⟩,hg⟩
 ·rw[Go.Maps.size_put (h1.tidy E.law),(h3 k l hk hl).2,h2]
 ·intro x lx hx hlx
  unfold eP
  by_cases e:x=k
  ·subst e
   rw[hl] at hlx
   cases hlx
   rw[if_pos rfl]
   exact⟨fun z=>Go.Maps.atKey_put_same h1.isMap (E.law.key hl) _ _,Go.Maps.has_put_same h1.isMap (E.law.key hl) _⟩
  ·rw[if_neg e]
   have hne:lx≠l:=fun e2=>e (E.inj _ _ hx hk (E.law.inj hlx (e2 ▸ hl)))
   obtain⟨a1,a2⟩:=h3 x lx hx hlx
   exact⟨fun z=>by rw[Go.Maps.atKey_put_other hne];exact a1 z,by rw[Go.Maps.has_put_other hne];exact a2⟩
 ·intro x hx
  unfold eP at hx
  by_cases e:x=k
  ·rw[e];exact hk
  ·rw[if_neg e] at hx;exact h4 x hx
 ·intro lx hlx
  by_cases e:lx=l
  ·subst e;exact⟨k,by unfold eP;rw[if_pos rfl];rfl,hl⟩
  ·rw[Go.Maps.has_put_other e] at hlx
   obtain⟨x,hx,hk2⟩:=h5 lx hlx
   refine⟨x,?_,hk2⟩
   unfold eP
   split
   ·rfl
   ·exact hx
end
/-! ### at the operation -/
section
variable {κ : Type} {P : Program} (w : World) {ops : Array Oper} {rest : List Oper} {o : Oper} {a : Act} {Q : Exit → Act → World → Prop} {enc : κ → Value} {ok : κ → Prop}
theorem mz (hg:o.guard=none) (m x:Operand) (t:TypeId) (hop:o.op=Op.lookup t m x false) (K e:TypeId) (b n s:Nat) (f:κ→Option Value) (E:ed P K enc ok) (ht:P.underlying t=some (.map K e))
  (z:Value) (hz:(zeroValue e).run P w=.ok z w) (hm:a.eval m=.map (some b)) (hown:bj P K enc ok w b n s f) (k:κ) (hk:ok k) (hx:a.eval x=enc k)
  (hK:wpList P ops Q rest (a.put o.dst ((f k).getD z)) w):wpList P ops Q (o :: rest) a w:=by
 refine wpList_plain hg fun K' hK'=>?_
 unfold Oper.wp
 simp[execOp,hop,hm,hx,hown.look E ht hz hk,Result.andThen]
 exact hK' _ _ hK
theorem kX [DecidableEq κ] (hg:o.guard=none) (m x y:Operand) (t:TypeId) (hop:o.op=Op.mapUpdate t m x y) (K e:TypeId) (b n s:Nat) (f:κ→Option Value) (E:ed P K enc ok) (ht:P.underlying t=some (.map K e))
  (hm:a.eval m=.map (some b)) (hown:bj P K enc ok w b n s f) (hn:n<maxLen) (k:κ) (hk:ok k) (v:Value) (hx:a.eval x=enc k) (hy:a.eval y=v)
  (hK:∀ w',bj P K enc ok w' b (n+1) (if (f k).isSome then s else s+1) (eP f k v)→w.grownBy w' (some b)→wpList P ops Q rest (a.put o.dst undef) w'):wpList P ops Q (o :: rest) a w:=by
 refine wpList_plain hg fun K' hK'=>?_
 obtain⟨w',hrun,r1,r2⟩:=hown.store E ht hn hk v
 unfold Oper.wp
 simp[execOp,hop,hm,hx,hy,hrun,Result.andThen]
 exact hK' _ _ (hK w' r1 r2)
end
theorem laidAll:laidOutB Tryz.prog=true:=by kernel_rfl
theorem fF:Tryz.prog.types.size=(Tryz.prog.types.size-3)+1+1+1:=by kernel_rfl
theorem rI:Tryz.prog.underlying 3=some (.int .i64):=by kernel_rfl
theorem sI:Tryz.prog.underlying 42=some (.array 2 3):=by kernel_rfl
theorem sK:Tryz.prog.underlying 68=some (.array 3 3):=by kernel_rfl
theorem rJ:Tryz.prog.underlying 69=some (.array 3 3):=by kernel_rfl
theorem kA:Tryz.prog.cellsOf 3=1:=by kernel_rfl
theorem pX:Tryz.prog.cellsOf 42=2:=by kernel_rfl
theorem pZ:Tryz.prog.cellsOf 68=3:=by kernel_rfl
theorem mN:Tryz.prog.cellsOf 69=3:=by kernel_rfl
theorem pY:Tryz.prog.cellsOf 71=6:=by kernel_rfl
theorem ktP:Tryz.prog.keyType 42=true:=by kernel_rfl
theorem ktT:Tryz.prog.keyType 68=true:=by kernel_rfl
theorem ktL:Tryz.prog.keyType 69=true:=by kernel_rfl
theorem ktS:Tryz.prog.keyType 71=true:=by kernel_rfl
theorem wfI {a:Int} (h0:0≤a) (h1:a<1000):(Lit.int .i64 a).wf=true:=WalkArith.wf_i64 (by omega)
theorem lawP:Go.Maps.Keyed Tryz.prog 42:=Go.Maps.Keyed.of_law (deep_law_laid laidAll (m:=2) (by omega) (of_decide_eq_true (by kernel_rfl)) (by kernel_rfl) (by rw[sI]))
theorem lawT:Go.Maps.Keyed Tryz.prog 68:=Go.Maps.Keyed.of_law (deep_law_laid laidAll (m:=2) (by omega) (of_decide_eq_true (by kernel_rfl)) (by kernel_rfl) (by rw[sK]))
theorem lawL:Go.Maps.Keyed Tryz.prog 69:=Go.Maps.Keyed.of_law (deep_law_laid laidAll (m:=2) (by omega) (of_decide_eq_true (by kernel_rfl)) (by kernel_rfl) (by rw[rJ]))
theorem oV:Go.Maps.Keyed Tryz.prog 71:=Go.Maps.Keyed.of_law (deep_law_laid laidAll (m:=3) (by omega) (of_decide_eq_true (by kernel_rfl)) (by kernel_rfl) (by rw[Tryz.underlying71]))
theorem uc {a b:Int} (ha:(Lit.int .i64 a).wf=true) (hb:(Lit.int .i64 b).wf=true) (m:Nat):Tryz.prog.keyLits (m+1+1) 42 [.int .i64 a,.int .i64 b]=some [.int .i64 a,.int .i64 b]:=by
 unfold Program.keyLits
 simp only[sI]
 rw[if_pos (by rw[pX];rfl),show List.range 2=[0,1] from rfl,vB,vB,List.mapM_nil]
 simp[kA,Program.keyLits,rI,ha,hb]
theorem ue {a b c:Int} (ha:(Lit.int .i64 a).wf=true) (hb:(Lit.int .i64 b).wf=true) (hc:(Lit.int .i64 c).wf=true) (m:Nat):Tryz.prog.keyLits (m+1+1) 68 [.int .i64 a,.int .i64 b,.int .i64 c]=some [.int .i64 a,.int .i64 b,.int .i64 c]:=by
 unfold Program.keyLits
 simp only[sK]
 rw[if_pos (by rw[pZ];rfl),show List.range 3=[0,1,2] from rfl,vB,vB,vB,List.mapM_nil]
 simp[kA,Program.keyLits,rI,ha,hb,hc]
theorem qM {a b c:Int} (ha:(Lit.int .i64 a).wf=true) (hb:(Lit.int .i64 b).wf=true) (hc:(Lit.int .i64 c).wf=true) (m:Nat):Tryz.prog.keyLits (m+1+1) 69 [.int .i64 a,.int .i64 b,.int .i64 c]=some [.int .i64 a,.int .i64 b,.int .i64 c]:=by
 unfold Program.keyLits
 simp only[rJ]
 rw[if_pos (by rw[mN];rfl),show List.range 3=[0,1,2] from rfl,vB,vB,vB,List.mapM_nil]
 simp[kA,Program.keyLits,rI,ha,hb,hc]
theorem ud {a b c d e f:Int} (ha:(Lit.int .i64 a).wf=true) (hb:(Lit.int .i64 b).wf=true) (hc:(Lit.int .i64 c).wf=true) (hd:(Lit.int .i64 d).wf=true) (he:(Lit.int .i64 e).wf=true) (hf:(Lit.int .i64 f).wf=true) (m:Nat) :
  Tryz.prog.keyLits (m+1+1+1) 71 [.int .i64 a,.int .i64 b,.int .i64 c,.int .i64 d,.int .i64 e,.int .i64 f]=some [.int .i64 a,.int .i64 b,.int .i64 c,.int .i64 d,.int .i64 e,.int .i64 f]:=by
 unfold Program.keyLits
 simp only[Tryz.underlying71]
 rw[if_pos (by rw[pY];exact⟨rfl,by simp⟩)]
 simp[vB,mN,qM ha hb hc,qM hd he hf]
theorem keyP {a b:Int} (ha:(Lit.int .i64 a).wf=true) (hb:(Lit.int .i64 b).wf=true):∃ l,keyOf Tryz.prog 42 (.agg #[.int .i64 a,.int .i64 b])=some l:=by
 refine⟨.string (keyBytes [.int .i64 a,.int .i64 b]),?_⟩
 unfold keyOf
 simp only[sI]
 rw[if_pos (by rw[ktP];simp[Value.formed,sI,pX]),fF]
 show ((Tryz.prog.keyLits _ _ [.int .i64 a,.int .i64 b]).map _)=_
 rw[uc ha hb];rfl
theorem keyT {a b c:Int} (ha:(Lit.int .i64 a).wf=true) (hb:(Lit.int .i64 b).wf=true) (hc:(Lit.int .i64 c).wf=true):∃ l,keyOf Tryz.prog 68 (.agg #[.int .i64 a,.int .i64 b,.int .i64 c])=some l:=by
 refine⟨.string (keyBytes [.int .i64 a,.int .i64 b,.int .i64 c]),?_⟩
 unfold keyOf
 simp only[sK]
 rw[if_pos (by rw[ktT];simp[Value.formed,sK,pZ]),fF]
 show ((Tryz.prog.keyLits _ _ [.int .i64 a,.int .i64 b,.int .i64 c]).map _)=_
 rw[ue ha hb hc];rfl
theorem keyL {a b c:Int} (ha:(Lit.int .i64 a).wf=true) (hb:(Lit.int .i64 b).wf=true) (hc:(Lit.int .i64 c).wf=true):∃ l,keyOf Tryz.prog 69 (.agg #[.int .i64 a,.int .i64 b,.int .i64 c])=some l:=by
 refine⟨.string (keyBytes [.int .i64 a,.int .i64 b,.int .i64 c]),?_⟩
 unfold keyOf
 simp only[rJ]
 rw[if_pos (by rw[ktL];simp[Value.formed,rJ,mN]),fF]
 show ((Tryz.prog.keyLits _ _ [.int .i64 a,.int .i64 b,.int .i64 c]).map _)=_
 rw[qM ha hb hc];rfl
theorem t_ {a b c d e f:Int} (ha:(Lit.int .i64 a).wf=true) (hb:(Lit.int .i64 b).wf=true) (hc:(Lit.int .i64 c).wf=true) (hd:(Lit.int .i64 d).wf=true) (he:(Lit.int .i64 e).wf=true) (hf:(Lit.int .i64 f).wf=true) :
  ∃ l,keyOf Tryz.prog 71 (.agg #[.int .i64 a,.int .i64 b,.int .i64 c,.int .i64 d,.int .i64 e,.int .i64 f])=some l:=by
 refine⟨.string (keyBytes [.int .i64 a,.int .i64 b,.int .i64 c,.int .i64 d,.int .i64 e,.int .i64 f]),?_⟩
 unfold keyOf
 simp only[Tryz.underlying71]
 rw[if_pos (by rw[ktS];simp[Value.formed,Tryz.underlying71,pY]),fF]
 show ((Tryz.prog.keyLits _ _ [.int .i64 a,.int .i64 b,.int .i64 c,.int .i64 d,.int .i64 e,.int .i64 f]).map _)=_
 rw[ud ha hb hc hd he hf];rfl
def St.val (x:St):Value:=.agg #[.int .i64 x.a0,.int .i64 x.a1,.int .i64 x.a2,.int .i64 x.f0,.int .i64 x.f1,.int .i64 x.f2]
structure St.Small (x:St):Prop where
 a0:0≤x.a0∧x.a0<1000
 a1:0≤x.a1∧x.a1<1000
 a2:0≤x.a2∧x.a2<1000
 f0:0≤x.f0∧x.f0<1000
 f1:0≤x.f1∧x.f1<1000
 f2:0≤x.f2∧x.f2<1000
theorem ar.At.small {M:ar} (G:M.Good) {x:St} (h:M.At x):x.Small:=by
 have h0:=bM G h 0 (by omega)
 have h1:=bM G h 1 (by omega)
 have h2:=bM G h 2 (by omega)
 simp only[St.a,St.f] at h0 h1 h2
 exact⟨by omega,by omega,by omega,by omega,by omega,by omega⟩
theorem qm:ed Tryz.prog 71 St.val St.Small where
 law:=oV
 key k h:=t_ (wfI h.a0.1 h.a0.2) (wfI h.a1.1 h.a1.2) (wfI h.a2.1 h.a2.2) (wfI h.f0.1 h.f0.2) (wfI h.f1.1 h.f1.2) (wfI h.f2.1 h.f2.2)
 inj a b _ _ h:=by
  unfold St.val at h
  cases a;cases b
  simp at h
  simp[h]
def gM (k:Nat×Nat):Value:=.agg #[.int .i64 k.1,.int .i64 k.2]
def pf (k:Nat×Nat):Prop:=k.1<1000∧k.2<1000
theorem encP:ed Tryz.prog 42 gM pf where
 law:=lawP
 key k h:=keyP (wfI (by omega) (by have:=h.1;omega)) (wfI (by omega) (by have:=h.2;omega))
 inj a b _ _ h:=by
  unfold gM at h
  simp at h
  exact Prod.ext (by omega) (by omega)
def gO (k:Nat×Nat×Nat):Value:=.agg #[.int .i64 k.1,.int .i64 k.2.1,.int .i64 k.2.2]
def tA (k:Nat×Nat×Nat):Prop:=k.1<1000∧k.2.1<1000∧k.2.2<1000
theorem encT:ed Tryz.prog 68 gO tA where
 law:=lawT
 key k h:=keyT (wfI (by omega) (by have:=h.1;omega)) (wfI (by omega) (by have:=h.2.1;omega)) (wfI (by omega) (by have:=h.2.2;omega))
 inj a b _ _ h:=by
  unfold gO at h
  simp at h
  exact Prod.ext (by omega) (Prod.ext (by omega) (by omega))
def ll (k:Int×Int×Int):Value:=.agg #[.int .i64 k.1,.int .i64 k.2.1,.int .i64 k.2.2]
def sD (k:Int×Int×Int):Prop:=(0≤k.1∧k.1<1000)∧(0≤k.2.1∧k.2.1<1000)∧(0≤k.2.2∧k.2.2<1000)
theorem encL:ed Tryz.prog 69 ll sD where
 law:=lawL
 key k h:=keyL (wfI h.1.1 h.1.2) (wfI h.2.1.1 h.2.1.2) (wfI h.2.2.1 h.2.2.2)
 inj a b _ _ h:=by
  unfold ll at h
  simp at h
  exact Prod.ext (by omega) (Prod.ext (by omega) (by omega))
end Go.Proofs.YtlkniohhalnjjaaGreatDoor
