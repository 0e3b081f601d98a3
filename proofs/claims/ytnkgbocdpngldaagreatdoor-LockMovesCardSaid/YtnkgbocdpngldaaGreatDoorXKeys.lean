/- Lemmas of this claim. -/
import Derived.Maps.OwnSet
import Derived.DeepKeys4
import Derived.Test.YtnkgbocdpngldaaGreatDoorXMach
import Derived.Test.YtnkgbocdpngldaaGreatDoorXSys
set_option linter.all false
set_option maxRecDepth 100000
set_option maxHeartbeats 8000000
namespace Go.Proofs.YtnkgbocdpngldaaGreatDoor
open Go.Maps (Keyed)
def gY (v:Value):Option (DataW Value×List MemPlace):=some (.held v,[])
structure gU (P:Program) (K:TypeId) {κ:Type} (enc:κ→Value) (ok:κ→Prop):Prop where
 law:Keyed P K
 key:∀ k,ok k→∃ l,keyOf P K (enc k)=some l
 inj:∀ a b,ok a→ok b→enc a=enc b→a=b
def cY {κ:Type} (P:Program) (K:TypeId) (enc:κ→Value) (ok:κ→Prop) (w:World) (b n s:Nat) (f:κ→Option Value):Prop :=
 ∃ D:DataW Value,w.ownsMap P K gY b n D∧Go.Maps.size D=s ∧
  (∀ k l,ok k→keyOf P K (enc k)=some l→(∀ z,D.atKey l (.held z)=.held ((f k).getD z))∧Go.Maps.has D l=(f k).isSome) ∧
  (∀ k,(f k).isSome=true→ok k)∧(∀ l,Go.Maps.has D l=true→∃ k,(f k).isSome=true∧keyOf P K (enc k)=some l)
section
variable {κ : Type} {P : Program} {K : TypeId} {enc : κ → Value} {ok : κ → Prop} {w : World} {b n s : Nat} {f : κ → Option Value}
theorem cY.made (w:World) (P:Program) (K:TypeId) (enc:κ→Value) (ok:κ→Prop):cY P K enc ok (w.alloc (.map #[] 0)) w.heap.size 0 0 (fun _=>none):=by
 refine⟨.map [],World.ownsMap_made _ _ _ _,rfl,fun k l _ _=>⟨fun z=>Go.Maps.atKey_of_not_has rfl _,rfl⟩,?_,?_⟩
 ·intro k h;cases h
 ·intro l h;cases h
theorem cY.lt (h:cY P K enc ok w b n s f):b<w.heap.size:=by
 obtain⟨D,h1,_⟩:=h
 exact h1.lt
theorem cY.kept {w':World}{row:Option Nat} (h:cY P K enc ok w b n s f) (hg:w.grownBy w' row) (hne:some b≠row):cY P K enc ok w' b n s f:=by
 obtain⟨D,h1,h2⟩:=h
 exact⟨D,h1.kept hg hne,h2⟩
theorem cY.same {w':World} (h:cY P K enc ok w b n s f) (hg:w'.heap[b]?=w.heap[b]?):cY P K enc ok w' b n s f:=by
 obtain⟨D,⟨es,clock,hb,r⟩,h2⟩:=h
 exact⟨D,⟨es,clock,hg.trans hb,r⟩,h2⟩
theorem cY.look {t e:TypeId} (h:cY P K enc ok w b n s f) (E:gU P K enc ok) (ht:P.underlying t=some (.map K e)) {z:Value} (hz:(zeroValue e).run P w=.ok z w) {k:κ} (hk:ok k) :
  (Instr.lookup t (.map (some b)) (enc k) false).run P w=.ok ((f k).getD z) w:=by
 obtain⟨D,h1,_,h2,_⟩:=h
 obtain⟨l,hl⟩:=E.key k hk
 obtain⟨v,ps,hr,hv⟩:=h1.lookup E.law ht hz (zd:=.held z) (zp:=[]) rfl hl
 rw[(h2 k l hk hl).1 z] at hv
 unfold gY at hv
 simp only[Option.some.injEq,Prod.mk.injEq,DataW.held.injEq] at hv
 rw[hr,hv.1]
theorem cY.look_ok {t e:TypeId} (h:cY P K enc ok w b n s f) (E:gU P K enc ok) (ht:P.underlying t=some (.map K e)) {z:Value} (hz:(zeroValue e).run P w=.ok z w) {k:κ} (hk:ok k) :
  (Instr.lookup t (.map (some b)) (enc k) true).run P w=.ok (.tuple #[(f k).getD z,.bool (f k).isSome]) w:=by
 obtain⟨D,h1,_,h2,_⟩:=h
 obtain⟨l,hl⟩:=E.key k hk
 obtain⟨v,ps,hr,hv⟩:=h1.look_ok E.law ht hz (zd:=.held z) (zp:=[]) rfl hl
 rw[(h2 k l hk hl).1 z] at hv
 unfold gY at hv
 simp only[Option.some.injEq,Prod.mk.injEq,DataW.held.injEq] at hv
 rw[hr,hv.1,(h2 k l hk hl).2]
theorem cY.len {t e:TypeId} (h:cY P K enc ok w b n s f) (ht:P.underlying t=some (.map K e)) (ty:TypeId):(Builtin.len_ #[t] ty #[.map (some b)]).run P w=.ok (.int .i64 s) w:=by
 obtain⟨D,h1,h2,_⟩:=h
 rw[←h2]
 exact h1.len ht ty
def iC {κ:Type} [DecidableEq κ] (f:κ→Option Value) (k:κ) (v:Value):κ→Option Value:=fun x=>if x=k then some v else f x
theorem cY.store [DecidableEq κ] {t e:TypeId} (h:cY P K enc ok w b n s f) (E:gU P K enc ok) (ht:P.underlying t=some (.map K e)) (hn:n<maxLen) {k:κ} (hk:ok k) (v:Value) :
  ∃ w',(Instr.mapUpdate t (.map (some b)) (enc k) v).run P w=.ok () w'∧cY P K enc ok w' b (n+1) (if (f k).isSome then s else s+1) (iC f k v)∧w.grownBy w' (some b):=by
 obtain⟨D,h1,h2,h3,h4,h5⟩:=h
 obtain⟨l,hl⟩:=E.key k hk
 obtain⟨w',hr,h6,hg⟩:=h1.update E.law ht hn (val:=v) (d:=.held v) (ps:=[]) hl rfl
 refine⟨w',hr,⟨D.put l (.held v),h6,?_,?_,?_,?_⟩,hg⟩
 ·rw[Go.Maps.size_put (h1.tidy E.law),(h3 k l hk hl).2,h2]
 ·intro x lx hx hlx
  unfold iC
  by_cases e:x=k
  ·subst e
   rw[hl] at hlx
   cases hlx
   rw[if_pos rfl]
   exact⟨fun z=>Go.Maps.atKey_put_same h1.isMap (E.law.key hl) _ _,Go.Maps.has_put_same h1.isMap (E.law.key hl) _⟩
  ·rw[if_neg e]
   have hne:lx≠l:=fun e2=>e (E.inj _ _ hx hk (E.law.inj hlx (e2 ▸ hl)))
   obtain⟨a1,a2⟩:=h3 x lx hx hlx
   exact⟨fun z=>by rw[Go.Maps.atKey_put_other hne];exact a1 z,by rw[Go.Maps.has_put_other hne];exact a2⟩
 ·intro x hx
  unfold iC at hx
  by_cases e:x=k
  ·rw[e];exact hk
  ·rw[if_neg e] at hx;exact h4 x hx
 ·intro lx hlx
  by_cases e:lx=l
  ·subst e;exact⟨k,by unfold iC;rw[if_pos rfl];rfl,hl⟩
  ·rw[Go.Maps.has_put_other e] at hlx
   obtain⟨x,hx,hk2⟩:=h5 lx hlx
   refine⟨x,?_,hk2⟩
   unfold iC
   split
   ·rfl
   ·exact hx
end
/-! ### at the operation -/
section
variable {κ : Type} {P : Program} (w : World) {ops : Array Oper} {rest : List Oper} {o : Oper} {a : Act} {Q : Exit → Act → World → Prop} {enc : κ → Value} {ok : κ → Prop}
theorem sX (hg:o.guard=none) (m x:Operand) (t:TypeId) (hop:o.op=Op.lookup t m x false) (K e:TypeId) (b n s:Nat) (f:κ→Option Value) (E:gU P K enc ok) (ht:P.underlying t=some (.map K e))
  (z:Value) (hz:(zeroValue e).run P w=.ok z w) (hm:a.eval m=.map (some b)) (hown:cY P K enc ok w b n s f) (k:κ) (hk:ok k) (hx:a.eval x=enc k)
  (hK:wpList P ops Q rest (a.put o.dst ((f k).getD z)) w):wpList P ops Q (o :: rest) a w:=by
 refine wpList_plain hg fun K' hK'=>?_
 unfold Oper.wp
 simp[execOp,hop,hm,hx,hown.look E ht hz hk,Result.andThen]
 exact hK' _ _ hK
theorem qN [DecidableEq κ] (hg:o.guard=none) (m x y:Operand) (t:TypeId) (hop:o.op=Op.mapUpdate t m x y) (K e:TypeId) (b n s:Nat) (f:κ→Option Value) (E:gU P K enc ok) (ht:P.underlying t=some (.map K e))
  (hm:a.eval m=.map (some b)) (hown:cY P K enc ok w b n s f) (hn:n<maxLen) (k:κ) (hk:ok k) (v:Value) (hx:a.eval x=enc k) (hy:a.eval y=v)
  (hK:∀ w',cY P K enc ok w' b (n+1) (if (f k).isSome then s else s+1) (iC f k v)→w.grownBy w' (some b)→wpList P ops Q rest (a.put o.dst undef) w'):wpList P ops Q (o :: rest) a w:=by
 refine wpList_plain hg fun K' hK'=>?_
 obtain⟨w',hrun,r1,r2⟩:=hown.store E ht hn hk v
 unfold Oper.wp
 simp[execOp,hop,hm,hx,hy,hrun,Result.andThen]
 exact hK' _ _ (hK w' r1 r2)
end
theorem laidAll:laidOutB Tryz.prog=true:=by kernel_rfl
theorem jH:Tryz.prog.types.size=(Tryz.prog.types.size-3)+1+1+1:=by kernel_rfl
theorem lN:Tryz.prog.underlying 3=some (.int .i64):=by kernel_rfl
theorem Bk:Tryz.prog.underlying 25=some (.array 2 3):=by kernel_rfl
theorem Bm:Tryz.prog.underlying 84=some (.array 3 3):=by kernel_rfl
theorem Am:Tryz.prog.underlying 85=some (.array 3 3):=by kernel_rfl
theorem mS:Tryz.prog.cellsOf 3=1:=by kernel_rfl
theorem xV:Tryz.prog.cellsOf 25=2:=by kernel_rfl
theorem xX:Tryz.prog.cellsOf 84=3:=by kernel_rfl
theorem tk:Tryz.prog.cellsOf 85=3:=by kernel_rfl
theorem xW:Tryz.prog.cellsOf 87=6:=by kernel_rfl
theorem ktP:Tryz.prog.keyType 25=true:=by kernel_rfl
theorem ktT:Tryz.prog.keyType 84=true:=by kernel_rfl
theorem ktL:Tryz.prog.keyType 85=true:=by kernel_rfl
theorem ktS:Tryz.prog.keyType 87=true:=by kernel_rfl
theorem wfI {a:Int} (h0:0≤a) (h1:a<1000):(Lit.int .i64 a).wf=true:=WalkArith.wf_i64 (by omega)
theorem lawP:Go.Maps.Keyed Tryz.prog 25:=Go.Maps.Keyed.of_law (deep_law_laid laidAll (m:=2) (by omega) (of_decide_eq_true (by kernel_rfl)) (by kernel_rfl) (by rw[Bk]))
theorem lawT:Go.Maps.Keyed Tryz.prog 84:=Go.Maps.Keyed.of_law (deep_law_laid laidAll (m:=2) (by omega) (of_decide_eq_true (by kernel_rfl)) (by kernel_rfl) (by rw[Bm]))
theorem lawL:Go.Maps.Keyed Tryz.prog 85:=Go.Maps.Keyed.of_law (deep_law_laid laidAll (m:=2) (by omega) (of_decide_eq_true (by kernel_rfl)) (by kernel_rfl) (by rw[Am]))
theorem wA:Go.Maps.Keyed Tryz.prog 87:=Go.Maps.Keyed.of_law (deep_law_laid laidAll (m:=3) (by omega) (of_decide_eq_true (by kernel_rfl)) (by kernel_rfl) (by rw[Tryz.underlying87]))
theorem CN {a b:Int} (ha:(Lit.int .i64 a).wf=true) (hb:(Lit.int .i64 b).wf=true) (m:Nat):Tryz.prog.keyLits (m+1+1) 25 [.int .i64 a,.int .i64 b]=some [.int .i64 a,.int .i64 b]:=by
 unfold Program.keyLits
 simp only[Bk]
 rw[if_pos (by rw[xV];rfl),show List.range 2=[0,1] from rfl,Eq,Eq,List.mapM_nil]
 simp[mS,Program.keyLits,lN,ha,hb]
theorem CP {a b c:Int} (ha:(Lit.int .i64 a).wf=true) (hb:(Lit.int .i64 b).wf=true) (hc:(Lit.int .i64 c).wf=true) (m:Nat):Tryz.prog.keyLits (m+1+1) 84 [.int .i64 a,.int .i64 b,.int .i64 c]=some [.int .i64 a,.int .i64 b,.int .i64 c]:=by
 unfold Program.keyLits
 simp only[Bm]
 rw[if_pos (by rw[xX];rfl),show List.range 3=[0,1,2] from rfl,Eq,Eq,Eq,List.mapM_nil]
 simp[mS,Program.keyLits,lN,ha,hb,hc]
theorem yY {a b c:Int} (ha:(Lit.int .i64 a).wf=true) (hb:(Lit.int .i64 b).wf=true) (hc:(Lit.int .i64 c).wf=true) (m:Nat):Tryz.prog.keyLits (m+1+1) 85 [.int .i64 a,.int .i64 b,.int .i64 c]=some [.int .i64 a,.int .i64 b,.int .i64 c]:=by
 unfold Program.keyLits
 simp only[Am]
 rw[if_pos (by rw[tk];rfl),show List.range 3=[0,1,2] from rfl,Eq,Eq,Eq,List.mapM_nil]
 simp[mS,Program.keyLits,lN,ha,hb,hc]
theorem CO {a b c d e f:Int} (ha:(Lit.int .i64 a).wf=true) (hb:(Lit.int .i64 b).wf=true) (hc:(Lit.int .i64 c).wf=true) (hd:(Lit.int .i64 d).wf=true) (he:(Lit.int .i64 e).wf=true) (hf:(Lit.int .i64 f).wf=true) (m:Nat) :
  Tryz.prog.keyLits (m+1+1+1) 87 [.int .i64 a,.int .i64 b,.int .i64 c,.int .i64 d,.int .i64 e,.int .i64 f]=some [.int .i64 a,.int .i64 b,.int .i64 c,.int .i64 d,.int .i64 e,.int .i64 f]:=by
 unfold Program.keyLits
 simp only[Tryz.underlying87]
 rw[if_pos (by rw[xW];exact⟨rfl,by simp⟩)]
 simp[Eq,tk,yY ha hb hc,yY hd he hf]
theorem keyP {a b:Int} (ha:(Lit.int .i64 a).wf=true) (hb:(Lit.int .i64 b).wf=true):∃ l,keyOf Tryz.prog 25 (.agg #[.int .i64 a,.int .i64 b])=some l:=by
 refine⟨.string (keyBytes [.int .i64 a,.int .i64 b]),?_⟩
 unfold keyOf
 simp only[Bk]
 rw[if_pos (by rw[ktP];simp[Value.formed,Bk,xV]),jH]
 show ((Tryz.prog.keyLits _ _ [.int .i64 a,.int .i64 b]).map _)=_
 rw[CN ha hb];rfl
theorem keyT {a b c:Int} (ha:(Lit.int .i64 a).wf=true) (hb:(Lit.int .i64 b).wf=true) (hc:(Lit.int .i64 c).wf=true):∃ l,keyOf Tryz.prog 84 (.agg #[.int .i64 a,.int .i64 b,.int .i64 c])=some l:=by
 refine⟨.string (keyBytes [.int .i64 a,.int .i64 b,.int .i64 c]),?_⟩
 unfold keyOf
 simp only[Bm]
 rw[if_pos (by rw[ktT];simp[Value.formed,Bm,xX]),jH]
 show ((Tryz.prog.keyLits _ _ [.int .i64 a,.int .i64 b,.int .i64 c]).map _)=_
 rw[CP ha hb hc];rfl
theorem keyL {a b c:Int} (ha:(Lit.int .i64 a).wf=true) (hb:(Lit.int .i64 b).wf=true) (hc:(Lit.int .i64 c).wf=true):∃ l,keyOf Tryz.prog 85 (.agg #[.int .i64 a,.int .i64 b,.int .i64 c])=some l:=by
 refine⟨.string (keyBytes [.int .i64 a,.int .i64 b,.int .i64 c]),?_⟩
 unfold keyOf
 simp only[Am]
 rw[if_pos (by rw[ktL];simp[Value.formed,Am,tk]),jH]
 show ((Tryz.prog.keyLits _ _ [.int .i64 a,.int .i64 b,.int .i64 c]).map _)=_
 rw[yY ha hb hc];rfl
theorem CL {a b c d e f:Int} (ha:(Lit.int .i64 a).wf=true) (hb:(Lit.int .i64 b).wf=true) (hc:(Lit.int .i64 c).wf=true) (hd:(Lit.int .i64 d).wf=true) (he:(Lit.int .i64 e).wf=true) (hf:(Lit.int .i64 f).wf=true) :
  ∃ l,keyOf Tryz.prog 87 (.agg #[.int .i64 a,.int .i64 b,.int .i64 c,.int .i64 d,.int .i64 e,.int .i64 f])=some l:=by
 refine⟨.string (keyBytes [.int .i64 a,.int .i64 b,.int .i64 c,.int .i64 d,.int .i64 e,.int .i64 f]),?_⟩
 unfold keyOf
 simp only[Tryz.underlying87]
 rw[if_pos (by rw[ktS];simp[Value.formed,Tryz.underlying87,xW]),jH]
 show ((Tryz.prog.keyLits _ _ [.int .i64 a,.int .i64 b,.int .i64 c,.int .i64 d,.int .i64 e,.int .i64 f]).map _)=_
 rw[CO ha hb hc hd he hf];rfl
def St.val (x:St):Value:=.agg #[.int .i64 x.a0,.int .i64 x.a1,.int .i64 x.a2,.int .i64 x.f0,.int .i64 x.f1,.int .i64 x.f2]
structure St.Small (x:St):Prop where
 a0:0≤x.a0∧x.a0<1000
 a1:0≤x.a1∧x.a1<1000
 a2:0≤x.a2∧x.a2<1000
 f0:0≤x.f0∧x.f0<1000
 f1:0≤x.f1∧x.f1<1000
 f2:0≤x.f2∧x.f2<1000
theorem aH.At.small {M:aH} (G:M.Good) {x:St} (h:M.At x):x.Small:=by
 have h0:=dr G h 0 (by omega)
 have h1:=dr G h 1 (by omega)
 have h2:=dr G h 2 (by omega)
 simp only[St.a,St.f] at h0 h1 h2
 exact⟨by omega,by omega,by omega,by omega,by omega,by omega⟩
theorem yt:gU Tryz.prog 87 St.val St.Small where
 law:=wA
 key k h:=CL (wfI h.a0.1 h.a0.2) (wfI h.a1.1 h.a1.2) (wfI h.a2.1 h.a2.2) (wfI h.f0.1 h.f0.2) (wfI h.f1.1 h.f1.2) (wfI h.f2.1 h.f2.2)
 inj a b _ _ h:=by
  unfold St.val at h
  cases a;cases b
  simp at h
  simp[h]
def kF (k:Nat×Nat):Value:=.agg #[.int .i64 k.1,.int .i64 k.2]
def wN (k:Nat×Nat):Prop:=k.1<1000∧k.2<1000
theorem encP:gU Tryz.prog 25 kF wN where
 law:=lawP
 key k h:=keyP (wfI (by omega) (by have:=h.1;omega)) (wfI (by omega) (by have:=h.2;omega))
 inj a b _ _ h:=by
  unfold kF at h
  simp at h
  exact Prod.ext (by omega) (by omega)
def kG (k:Nat×Nat×Nat):Value:=.agg #[.int .i64 k.1,.int .i64 k.2.1,.int .i64 k.2.2]
def Cb (k:Nat×Nat×Nat):Prop:=k.1<1000∧k.2.1<1000∧k.2.2<1000
theorem encT:gU Tryz.prog 84 kG Cb where
 law:=lawT
 key k h:=keyT (wfI (by omega) (by have:=h.1;omega)) (wfI (by omega) (by have:=h.2.1;omega)) (wfI (by omega) (by have:=h.2.2;omega))
 inj a b _ _ h:=by
  unfold kG at h
  simp at h
  exact Prod.ext (by omega) (Prod.ext (by omega) (by omega))
def rm (k:Int×Int×Int):Value:=.agg #[.int .i64 k.1,.int .i64 k.2.1,.int .i64 k.2.2]
def A8 (k:Int×Int×Int):Prop:=(0≤k.1∧k.1<1000)∧(0≤k.2.1∧k.2.1<1000)∧(0≤k.2.2∧k.2.2<1000)
theorem encL:gU Tryz.prog 85 rm A8 where
 law:=lawL
 key k h:=keyL (wfI h.1.1 h.1.2) (wfI h.2.1.1 h.2.1.2) (wfI h.2.2.1 h.2.2.2)
 inj a b _ _ h:=by
  unfold rm at h
  simp at h
  exact Prod.ext (by omega) (Prod.ext (by omega) (by omega))
open Go.RowKit Dc Dg
structure aN (w:World) (v:Value) (l:List Int):Prop where
 at_:∃ p c,v=.slice p l.length c∧(0<l.length→∃ b o,p=some ⟨b,o,none⟩∧b<w.heap.size∧∀ i (h:i<l.length),w.cell? ⟨b,o+i,none⟩=some (.int .i64 l[i]))
theorem aN.below {w w':World}{v:Value}{l:List Int} (h:aN w v l) (hb:Below w.heap.size w w'):aN w' v l:=by
 obtain⟨p,c,e,hc⟩:=h.at_
 refine⟨p,c,e,fun hl=>?_⟩
 obtain⟨b,o,e2,hlt,hi⟩:=hc hl
 exact⟨b,o,e2,C8 hlt hb.size,fun i hi2=>(hb.cell (p:=⟨b,_,none⟩) hlt).trans (hi i hi2)⟩
structure iF (w:World) (v:Value) (l:List (Nat×List Int)):Prop where
 at_:∃ p c,v=.slice p l.length c∧(0<l.length→∃ b o,p=some ⟨b,o,none⟩∧b<w.heap.size∧∀ i (h:i<l.length),∃ u,w.cell? ⟨b,o+i*2,none⟩=some (.int .i64 l[i].1)∧w.cell? ⟨b,o+i*2+1,none⟩=some u∧aN w u l[i].2)
theorem iF.below {w w':World}{v:Value}{l:List (Nat×List Int)} (h:iF w v l) (hb:Below w.heap.size w w'):iF w' v l:=by
 obtain⟨p,c,e,hc⟩:=h.at_
 refine⟨p,c,e,fun hl=>?_⟩
 obtain⟨b,o,e2,hlt,hi⟩:=hc hl
 refine⟨b,o,e2,C8 hlt hb.size,fun i hi2=>?_⟩
 obtain⟨u,h1,h2,h3⟩:=hi i hi2
 exact⟨u,(hb.cell (p:=⟨b,_,none⟩) hlt).trans h1,(hb.cell (p:=⟨b,_,none⟩) hlt).trans h2,h3.below hb⟩
structure oU (w:World) (v:Value) (n:Nat) (f:Nat→List Int):Prop where
 at_:∃ p c,v=.slice p n c∧(0<n→∃ b o,p=some ⟨b,o,none⟩∧b<w.heap.size∧∀ i,i<n→∃ u,w.cell? ⟨b,o+i,none⟩=some u∧aN w u (f i))
theorem oU.below {w w':World}{v:Value}{n:Nat}{f:Nat→List Int} (h:oU w v n f) (hb:Below w.heap.size w w'):oU w' v n f:=by
 obtain⟨p,c,e,hc⟩:=h.at_
 refine⟨p,c,e,fun hl=>?_⟩
 obtain⟨b,o,e2,hlt,hi⟩:=hc hl
 refine⟨b,o,e2,C8 hlt hb.size,fun i hi2=>?_⟩
 obtain⟨u,h1,h2⟩:=hi i hi2
 exact⟨u,(hb.cell (p:=⟨b,_,none⟩) hlt).trans h1,h2.below hb⟩
def iy (gs:List Gd) (g:Nat):List Int:=(List.range (ag gs g).length).map ((ah gs).next g)
def iu (gs:List Gd) (g:Nat):List Int:=(List.range (ag gs g).length).map ((ah gs).back g)
structure d_ (w:World) (m:Nat) (gs:List Gd) (p:Option Addr) (c:Nat) (vn vb:Value) (mb N s:Nat) (f:Nat×Nat→Option Value):Prop where
 m0:w.cell? ⟨m,0,none⟩=some (.slice p gs.length c)
 m1:w.cell? ⟨m,1,none⟩=some vn
 m2:w.cell? ⟨m,2,none⟩=some vb
 m3:w.cell? ⟨m,3,none⟩=some (.map (some mb))
 lt:m<w.heap.size
 G:bE w p gs
 n:oU w vn gs.length (iy gs)
 b:oU w vb gs.length (iu gs)
 map:cY Tryz.prog 25 kF wN w mb N s f
 needs:∀ g k,g<gs.length→k<(ag gs g).length→∃ v,f (g,k)=some v∧iF w v ((ah gs).needs g k)
theorem d_.below {w w':World}{m:Nat}{gs:List Gd}{p:Option Addr}{c:Nat}{vn vb:Value}{mb N s:Nat}{f:Nat×Nat→Option Value} (h:d_ w m gs p c vn vb mb N s f) (hb:Below w.heap.size w w'):d_ w' m gs p c vn vb mb N s f :=
 ⟨(hb.cell (p:=⟨m,0,none⟩) h.lt).trans h.m0,(hb.cell (p:=⟨m,1,none⟩) h.lt).trans h.m1,(hb.cell (p:=⟨m,2,none⟩) h.lt).trans h.m2,(hb.cell (p:=⟨m,3,none⟩) h.lt).trans h.m3,C8 h.lt hb.size,h.G.below hb,h.n.below hb,h.b.below hb,
  h.map.same (hb.block mb h.map.lt),fun g k hg hk=>by obtain⟨v,e,hv⟩:=h.needs g k hg hk;exact⟨v,e,hv.below hb⟩⟩
theorem oD {l:List Int}{i:Nat}{x:Int} (h:i<l.length) (h1:(l.take i).contains x=false) (h2:¬ x=l[i]):(l.take (i+1)).contains x=false:=by
 rw[DH,C7 h]
 rw[List.contains_eq_any_beq] at h1 ⊢
 rw[Ft,h1]
 simp[h2]
theorem yK (p:Option Addr) (c:Nat) (l:List Int) (x:Int) (w:World) (hl:0<l.length→∃ b o,p=some ⟨b,o,none⟩∧b<w.heap.size∧∀ i (h:i<l.length),w.cell? ⟨b,o+i,none⟩=some (.int .i64 l[i])) (hn:l.length≤1000000) :
  Calls Tryz.prog 107 #[.slice p l.length c,.int .i64 x] w fun e w'=>∃ z:Int,e=.returned (.int .i64 z)∧Hid (l.contains x=decide (0≤z))∧w'=w:=by
 have HL:=C5 hl
 clear hl
 go_enter Tryz.func107,Tryz.ntmps107
 go_wp2_with fail
 go_loopw [8] (fun s8 wr=>∃ i:Nat,s8=.int .i64 i∧i≤l.length∧wr=w∧Hid ((l.take i).contains x=false)) (fun s8 _=>l.length-(intOf s8).toNat)
 case atStart=>exact⟨0,rfl,by omega,rfl,rfl⟩
 case round =>
  obtain⟨i,rfl,hi,rfl,hx⟩:=hrel
  by_cases hil:i<l.length
  ·obtain⟨b,o,rfl,hbw,hcs⟩:=HL.out (by omega)
   have e0:=hcs i hil
   obtain⟨y,hy⟩:∃ y,y=l[i]:=⟨_,rfl⟩
   rw[←hy] at e0
   have HY:=C5 hy
   clear hy hcs
   by_cases hxy:x=y
   ·have hd:(x == y)=true:=by simp[hxy]
    have HXY:=C5 hxy
    clear hxy
    go_wp2
    go_ret
    refine⟨_,rfl,?_,by trivial⟩
    unfold Hid
    have h1:x∈l:=by rw[HXY.out,HY.out];exact Dt hil
    simp[h1]
   ·have hd:(x == y)=false:=by simp[hxy]
    have HXY:=C5 hxy
    clear hxy
    go_wp2
    go_roundw
    case rel =>
     refine⟨i+1,by go_num,by omega,by trivial,?_⟩
     have h2:=HXY.out
     rw[HY.out] at h2
     exact oD hil hx.out h2
    case measure=>simp[intOf];omega
  ·have hie:i=l.length:=by omega
   subst hie
   clear hil hi
   go_wp2
   go_ret
   exact⟨-1,rfl,by unfold Hid;have:=hx.out;rw[DG] at this;rw[this];rfl,rfl⟩
theorem iK (v:Value) (l:List Int) (x:Int) (w:World) (hl:aN w v l) (hn:l.length≤1000000) :
  Calls Tryz.prog 102 #[v,.int .i64 x] w fun e w'=>e=.returned (.bool (l.contains x))∧w'=w:=by
 obtain⟨p,c,rfl,hc⟩:=hl.at_
 clear hl
 go_enter Tryz.func102,Tryz.ntmps102
 go_wp2_with fail
 refine (yK p c l x w hc hn).mono ?_
 rintro e w2 ⟨z,rfl,hz,rfl⟩
 go_wp2
 go_ret
 exact⟨by rw[hz.out];rfl,by trivial⟩
theorem B8 (j:Nat) (u:Value) (l:List Int) (x:St) (k:Nat) (w:World) (hj:j<3) (hl:aN w u l) (hn:l.length≤1000000) (hk:k<w.heap.size)
  (h0:w.cell? ⟨k,0,none⟩=some (.int .i64 x.a0)) (h1:w.cell? ⟨k,1,none⟩=some (.int .i64 x.a1)) (h2:w.cell? ⟨k,2,none⟩=some (.int .i64 x.a2)) :
  Calls Tryz.prog 101 #[.agg #[.int .i64 j,u],.pointer (some ⟨k,0,none⟩)] w (gl (!l.contains (x.a j)) w):=by
 have HL:=C5 hl
 obtain⟨p,c,rfl,hc⟩:=hl.at_
 clear hc hl
 have hbA:Below w.heap.size w (w.alloc (.cells #[.int .i64 j,.slice p l.length c] 140)):=(Below.refl _ _).alloc (C6 _) _
 have t0:=an w #[.int .i64 j,.slice p l.length c] 140 0 _ rfl
 have t1:=an w #[.int .i64 j,.slice p l.length c] 140 1 _ rfl
 have hta:w.heap.size<(w.alloc (.cells #[.int .i64 j,.slice p l.length c] 140)).heap.size:=by simp
 rcases lt3 hj with rfl | rfl | rfl
 ·show Calls Tryz.prog 101 _ w (gl (!l.contains x.a0) w)
  go_enter Tryz.func101,Tryz.ntmps101
  go_wp2_with fail
  generalize hwa:w.alloc (.cells #[.int .i64 ((0:Nat):Int),.slice p l.length c] 140)=wa at hbA t0 t1 hta ⊢
  clear hwa
  have y0:=ay hta t0
  have y1:=ay hta t1
  have y2:=ay (C8 hk hbA.size) (((hbA.cell (p:=⟨k,0,none⟩) hk).trans h0))
  have HN:=C5 (show aQ wa 102 #[.slice p l.length c,.int .i64 x.a0] ((.bool (l.contains x.a0))) from fun y=>(iK _ l x.a0 y.w ((HL.out.below hbA).below y.h) hn).mono (fun e w' h=>⟨h.1,y,h.2⟩))
  clear t0 t1
  refine ai (by kernel_rfl) (by kernel_rfl) ?_
  repeat (go_big_quiet_step ((go_at_call 102;exact HN.out _)))
  refine wpQuiet_nil ?_
  rintro _ ⟨⟨w2,hbN⟩,rfl⟩
  clear HN y0 y1 y2
  go_wp2
  go_ret
  exact⟨_,rfl,by unfold Hid;simp,hbA.trans (hbN.mono hbA.size)⟩
 ·show Calls Tryz.prog 101 _ w (gl (!l.contains x.a1) w)
  go_enter Tryz.func101,Tryz.ntmps101
  go_wp2_with fail
  generalize hwa:w.alloc (.cells #[.int .i64 ((1:Nat):Int),.slice p l.length c] 140)=wa at hbA t0 t1 hta ⊢
  clear hwa
  have y0:=ay hta t0
  have y1:=ay hta t1
  have y2:=ay (C8 hk hbA.size) (((hbA.cell (p:=⟨k,1,none⟩) hk).trans h1))
  have HN:=C5 (show aQ wa 102 #[.slice p l.length c,.int .i64 x.a1] ((.bool (l.contains x.a1))) from fun y=>(iK _ l x.a1 y.w ((HL.out.below hbA).below y.h) hn).mono (fun e w' h=>⟨h.1,y,h.2⟩))
  clear t0 t1
  refine ai (by kernel_rfl) (by kernel_rfl) ?_
  repeat (go_big_quiet_step ((go_at_call 102;exact HN.out _)))
  refine wpQuiet_nil ?_
  rintro _ ⟨⟨w2,hbN⟩,rfl⟩
  clear HN y0 y1 y2
  go_wp2
  go_ret
  exact⟨_,rfl,by unfold Hid;simp,hbA.trans (hbN.mono hbA.size)⟩
 ·show Calls Tryz.prog 101 _ w (gl (!l.contains x.a2) w)
  go_enter Tryz.func101,Tryz.ntmps101
  go_wp2_with fail
  generalize hwa:w.alloc (.cells #[.int .i64 ((2:Nat):Int),.slice p l.length c] 140)=wa at hbA t0 t1 hta ⊢
  clear hwa
  have y0:=ay hta t0
  have y1:=ay hta t1
  have y2:=ay (C8 hk hbA.size) (((hbA.cell (p:=⟨k,2,none⟩) hk).trans h2))
  have HN:=C5 (show aQ wa 102 #[.slice p l.length c,.int .i64 x.a2] ((.bool (l.contains x.a2))) from fun y=>(iK _ l x.a2 y.w ((HL.out.below hbA).below y.h) hn).mono (fun e w' h=>⟨h.1,y,h.2⟩))
  clear t0 t1
  refine ai (by kernel_rfl) (by kernel_rfl) ?_
  repeat (go_big_quiet_step ((go_at_call 102;exact HN.out _)))
  refine wpQuiet_nil ?_
  rintro _ ⟨⟨w2,hbN⟩,rfl⟩
  clear HN y0 y1 y2
  go_wp2
  go_ret
  exact⟨_,rfl,by unfold Hid;simp,hbA.trans (hbN.mono hbA.size)⟩
def fU (l:List (Nat×List Int)) (x:St):Bool:=l.any (fun n=>!n.2.contains (x.a n.1))
theorem wG {l:List (Nat×List Int)}{x:St}{i:Nat} (hi:i<l.length) (h:(!l[i].2.contains (x.a l[i].1))=true):fU l x=true:=by
 unfold fU
 rw[Fp]
 exact⟨l[i],Dt hi,h⟩
theorem tS {l:List (Nat×List Int)}{x:St}{i:Nat} (hi:i<l.length) (h1:fU (l.take i) x=false) (h:(!l[i].2.contains (x.a l[i].1))=false):fU (l.take (i+1)) x=false:=by
 unfold fU at h1 ⊢
 rw[DH,C7 hi,Ft,h1]
 simp only[Option.toList_some,List.any_cons,List.any_nil,h,Bool.or_false]
structure eI (w:World) (k:Nat) (x:St):Prop where
 lt:k<w.heap.size
 h0:w.cell? ⟨k,0,none⟩=some (.int .i64 x.a0)
 h1:w.cell? ⟨k,1,none⟩=some (.int .i64 x.a1)
 h2:w.cell? ⟨k,2,none⟩=some (.int .i64 x.a2)
theorem eI.below {w w':World}{k:Nat}{x:St} (h:eI w k x) (hb:Below w.heap.size w w'):eI w' k x :=
 ⟨C8 h.lt hb.size,(hb.cell (p:=⟨k,0,none⟩) h.lt).trans h.h0,(hb.cell (p:=⟨k,1,none⟩) h.lt).trans h.h1,(hb.cell (p:=⟨k,2,none⟩) h.lt).trans h.h2⟩
theorem ws (p:Option Addr) (c:Nat) (l:List (Nat×List Int)) (x:St) (k:Nat) (w:World) (hl:iF w (.slice p l.length c) l) (hn:l.length≤1000000) (hg:∀ n∈l,n.1<3∧n.2.length≤1000000) (hk:eI w k x) :
  Calls Tryz.prog 106 #[.slice p l.length c,.func (.func 101) #[] #[.pointer (some ⟨k,0,none⟩)]] w fun e w'=>∃ z:Int,e=.returned (.int .i64 z)∧Hid (fU l x=decide (0≤z))∧Below w.heap.size w w':=by
 have HG:=C5 hg
 clear hg
 go_enter Tryz.func106,Tryz.ntmps106
 go_wp2_with fail
 go_loopw [8] (fun s8 wr=>∃ i:Nat,s8=.int .i64 i∧i≤l.length∧iF wr (.slice p l.length c) l∧eI wr k x∧Below w.heap.size w wr∧Hid (fU (l.take i) x=false)) (fun s8 _=>l.length-(intOf s8).toNat)
 case atStart=>exact⟨0,rfl,by omega,hl,hk,Below.refl _ _,rfl⟩
 case round =>
  clear hl hk
  obtain⟨i,rfl,hi,hl,hk,hb,hx⟩:=hrel
  by_cases hil:i<l.length
  ·obtain⟨p',c',e,hcs0⟩:=hl.at_
   obtain⟨b,o,rfl,hbw,hcs⟩:=hcs0 (by omega)
   clear hcs0
   simp only[Value.slice.injEq] at e
   obtain⟨rfl,-,rfl⟩:=e
   obtain⟨u,e0,e1,hu⟩:=hcs i hil
   obtain⟨j,ns,hjn⟩:∃ j ns,l[i]=(j,ns):=⟨_,_,rfl⟩
   rw[hjn] at e0 hu
   have hgi:=HG.out l[i] (Dt hil)
   rw[hjn] at hgi
   have HJ:=C5 hjn
   obtain⟨hg1,hg2⟩:=hgi
   simp only at e0 hu hg1 hg2
   obtain⟨pu,cu,rfl,-⟩:=hu.at_
   clear hjn hcs
   have HU:=C5 hu
   clear hu
   go_wp2_with fail
   refine (B8 j _ ns x k wr hg1 HU.out hg2 hk.lt hk.h0 hk.h1 hk.h2).mono ?_
   rintro e w2 ⟨bb,rfl,hbb,hb2⟩
   have hb3:=hb.trans (hb2.mono hb.size)
   have hl2:=hl.below hb2
   have hk2:=hk.below hb2
   clear hl hk hb2 e0 e1
   cases bb
   ·go_wp2
    go_roundw
    case rel=>exact⟨i+1,by go_num,by omega,hl2,hk2,hb3,tS hil hx.out (by rw[HJ.out];exact hbb.out)⟩
    case measure=>simp[intOf];omega
   ·go_wp2
    go_ret
    exact⟨_,rfl,by unfold Hid;rw[wG hil (by rw[HJ.out];exact hbb.out)];simp,hb3⟩
  ·have hie:i=l.length:=by omega
   subst hie
   clear hil hi
   go_wp2
   go_ret
   exact⟨-1,rfl,by unfold Hid;have:=hx.out;rw[DG] at this;rw[this];rfl,hb⟩
theorem p_ (p:Option Addr) (c:Nat) (l:List (Nat×List Int)) (x:St) (k:Nat) (w:World) (hl:iF w (.slice p l.length c) l) (hn:l.length≤1000000) (hg:∀ n∈l,n.1<3∧n.2.length≤1000000) (hk:eI w k x) :
  Calls Tryz.prog 100 #[.slice p l.length c,.func (.func 101) #[] #[.pointer (some ⟨k,0,none⟩)]] w fun e w'=>e=.returned (.bool (fU l x))∧Below w.heap.size w w':=by
 have HI:=C5 (ws p c l x k w hl hn hg hk)
 clear hl hn hg hk
 go_enter Tryz.func100,Tryz.ntmps100
 go_wp2_with fail
 refine HI.out.mono ?_
 rintro e w2 ⟨z,rfl,hz,hb⟩
 go_wp2
 go_ret
 exact⟨by rw[hz.out];rfl,hb⟩
theorem wm (M:aH) (x:St) (g:Nat):dK M x g=!fU (M.needs g (x.a g).toNat) x:=by
 unfold dK fU
 rw[List.not_any_eq_all_not]
 simp
theorem xB (w:World):(zeroValue 138).run Tryz.prog w=.ok (.slice none 0 0) w:=by kernel_rfl
theorem sT:Tryz.prog.underlying 117=some (.map 25 138):=by kernel_rfl
structure vp (gs:List Gd):Prop where
 needs:∀ g k,g<gs.length→k<(ag gs g).length→((ah gs).needs g k).length≤1000000∧∀ n∈(ah gs).needs g k,n.1<3∧n.2.length≤1000000
structure Cs (gs:List Gd) (x:St) (g:Nat) (w:World) (m mb k:Nat) (a:Int):Prop where
 ex:∃ q c,∀ y:World,Below w.heap.size w y→y.cell? ⟨m,3,none⟩=some (.map (some mb))∧y.cell? ⟨k,g,none⟩=some (.int .i64 a) ∧
  (Instr.lookup 117 (.map (some mb)) (.agg #[.int .i64 g,.int .i64 a]) false).run Tryz.prog y=.ok (.slice q ((ah gs).needs g (x.a g).toNat).length c) y ∧
  Calls Tryz.prog 100 #[.slice q ((ah gs).needs g (x.a g).toNat).length c,.func (.func 101) #[] #[.pointer (some ⟨k,0,none⟩)]] y fun e w'=>e=.returned (.bool (fU ((ah gs).needs g (x.a g).toNat) x))∧Below y.heap.size y w'
theorem yG {gs:List Gd}{p:Option Addr}{c:Nat}{vn vb:Value}{mb N s:Nat}{f:Nat×Nat→Option Value}{w:World}{m k g:Nat}{x:St} (hP:d_ w m gs p c vn vb mb N s f) (hF:vp gs) (hS:aX gs=true) (hx:(ah gs).At x) (hg:g<gs.length) (hk:eI w k x):Cs gs x g w m mb k (x.a g):=by
 have hn3:=(a_ hS).2
 have ha:=hx.a g hg
 have ha8:=(bD hS).r8 g hg
 have hak:(x.a g).toNat<(ag gs g).length:=by have:(ah gs).rungs g=(ag gs g).length:=rfl;omega
 obtain⟨v,hf,hv⟩:=hP.needs g (x.a g).toNat hg hak
 obtain⟨q,cq,e,hc⟩:=hv.at_
 obtain⟨f1,f2⟩:=hF.needs g (x.a g).toNat hg hak
 refine⟨q,cq,fun y hy=>?_⟩
 have hPy:=hP.below hy
 have hky:=hk.below hy
 refine⟨hPy.m3,?_,?_,p_ q cq _ x k y (by rw[←e];exact hv.below hy) f1 f2 hky⟩
 ·rcases lt3 (show g<3 by omega) with rfl | rfl | rfl
  ·exact hky.h0
  ·exact hky.h1
  ·exact hky.h2
 ·have:=hPy.map.look encP sT (xB y) (k:=(g,(x.a g).toNat)) ⟨by show g<1000;omega,by show (x.a g).toNat<1000;have:(ah gs).rungs g=(ag gs g).length:=rfl;omega⟩
  rw[hf,e] at this
  have e2:kF (g,(x.a g).toNat)=.agg #[.int .i64 g,.int .i64 (x.a g)]:=by
   unfold kF
   simp only
   rw[show (((x.a g).toNat:Nat):Int)=x.a g from Int.toNat_of_nonneg ha.1]
  rw[e2] at this
  exact this
theorem Bx (gs:List Gd) (p:Option Addr) (c:Nat) (vn vb:Value) (mb N s:Nat) (f:Nat×Nat→Option Value) (w:World) (m:Nat) (x:St) (g:Nat)
  (hP:d_ w m gs p c vn vb mb N s f) (hF:vp gs) (hS:aX gs=true) (hx:(ah gs).At x) (hg:g<gs.length) :
  Calls Tryz.prog 89 #[.pointer (some ⟨m,0,none⟩),.agg #[.int .i64 x.a0,.int .i64 x.a1,.int .i64 x.a2],.int .i64 g] w (fun e w'=>e=.returned (.bool (dK (ah gs) x g))∧Below w.heap.size w w'):=by
 have hbA:Below w.heap.size w (w.alloc (.cells #[.int .i64 x.a0,.int .i64 x.a1,.int .i64 x.a2] 85)):=(Below.refl _ _).alloc (C6 _) _
 have hPl:eI (w.alloc (.cells #[.int .i64 x.a0,.int .i64 x.a1,.int .i64 x.a2] 85)) w.heap.size x:=⟨by simp,an w _ _ 0 _ rfl,an w _ _ 1 _ rfl,an w _ _ 2 _ rfl⟩
 have hH:=yG (hP.below hbA) hF hS hx hg hPl
 have hn3:=(a_ hS).2
 rw[wm]
 clear hP hPl hF hS hx
 obtain⟨q,cq,hy⟩:=hH.ex
 clear hH
 rcases lt3 (show g<3 by omega) with rfl | rfl | rfl
 ·have HY:=C5 hy
  clear hy hg
  simp only[St.a] at HY ⊢
  generalize fU ((ah gs).needs 0 x.a0.toNat) x=ms at HY ⊢
  generalize ((ah gs).needs 0 x.a0.toNat).length=nl at HY ⊢
  go_enter Tryz.func89,Tryz.ntmps89
  go_wp2_with fail
  generalize w.alloc (.cells #[.int .i64 x.a0,.int .i64 x.a1,.int .i64 x.a2] 85)=wa at hbA HY ⊢
  have y0:∀ y:ax wa,y.w.cell? ⟨m,3,none⟩=some (.map (some mb)):=fun y=>(HY.out y.w y.h).1
  have y1:∀ y:ax wa,y.w.cell? ⟨w.heap.size,0,none⟩=some (.int .i64 x.a0):=fun y=>(HY.out y.w y.h).2.1
  have y2:∀ y:ax wa,(Instr.lookup 117 (.map (some mb)) (.agg #[.int .i64 0,.int .i64 x.a0]) false).run Tryz.prog y.w=.ok (.slice q nl cq) y.w:=fun y=>(HY.out y.w y.h).2.2.1
  have HN:=C5 (show aQ wa 100 #[.slice q nl cq,.func (.func 101) #[] #[.pointer (some ⟨w.heap.size,0,none⟩)]] ((.bool ms)) from fun y=>ax.calls (HY.out y.w y.h).2.2.2)
  refine ai (by kernel_rfl) (by kernel_rfl) ?_
  repeat (go_big_quiet_step ((go_at_call 100;exact HN.out _)))
  refine wpQuiet_nil ?_
  rintro _ ⟨⟨w2,hbN⟩,rfl⟩
  clear HN y0 y1 y2 HY
  go_wp2
  go_ret
  exact⟨by rfl,hbA.trans (hbN.mono hbA.size)⟩
 ·have HY:=C5 hy
  clear hy hg
  simp only[St.a] at HY ⊢
  generalize fU ((ah gs).needs 1 x.a1.toNat) x=ms at HY ⊢
  generalize ((ah gs).needs 1 x.a1.toNat).length=nl at HY ⊢
  go_enter Tryz.func89,Tryz.ntmps89
  go_wp2_with fail
  generalize w.alloc (.cells #[.int .i64 x.a0,.int .i64 x.a1,.int .i64 x.a2] 85)=wa at hbA HY ⊢
  have y0:∀ y:ax wa,y.w.cell? ⟨m,3,none⟩=some (.map (some mb)):=fun y=>(HY.out y.w y.h).1
  have y1:∀ y:ax wa,y.w.cell? ⟨w.heap.size,1,none⟩=some (.int .i64 x.a1):=fun y=>(HY.out y.w y.h).2.1
  have y2:∀ y:ax wa,(Instr.lookup 117 (.map (some mb)) (.agg #[.int .i64 1,.int .i64 x.a1]) false).run Tryz.prog y.w=.ok (.slice q nl cq) y.w:=fun y=>(HY.out y.w y.h).2.2.1
  have HN:=C5 (show aQ wa 100 #[.slice q nl cq,.func (.func 101) #[] #[.pointer (some ⟨w.heap.size,0,none⟩)]] ((.bool ms)) from fun y=>ax.calls (HY.out y.w y.h).2.2.2)
  refine ai (by kernel_rfl) (by kernel_rfl) ?_
  repeat (go_big_quiet_step ((go_at_call 100;exact HN.out _)))
  refine wpQuiet_nil ?_
  rintro _ ⟨⟨w2,hbN⟩,rfl⟩
  clear HN y0 y1 y2 HY
  go_wp2
  go_ret
  exact⟨by rfl,hbA.trans (hbN.mono hbA.size)⟩
 ·have HY:=C5 hy
  clear hy hg
  simp only[St.a] at HY ⊢
  generalize fU ((ah gs).needs 2 x.a2.toNat) x=ms at HY ⊢
  generalize ((ah gs).needs 2 x.a2.toNat).length=nl at HY ⊢
  go_enter Tryz.func89,Tryz.ntmps89
  go_wp2_with fail
  generalize w.alloc (.cells #[.int .i64 x.a0,.int .i64 x.a1,.int .i64 x.a2] 85)=wa at hbA HY ⊢
  have y0:∀ y:ax wa,y.w.cell? ⟨m,3,none⟩=some (.map (some mb)):=fun y=>(HY.out y.w y.h).1
  have y1:∀ y:ax wa,y.w.cell? ⟨w.heap.size,2,none⟩=some (.int .i64 x.a2):=fun y=>(HY.out y.w y.h).2.1
  have y2:∀ y:ax wa,(Instr.lookup 117 (.map (some mb)) (.agg #[.int .i64 2,.int .i64 x.a2]) false).run Tryz.prog y.w=.ok (.slice q nl cq) y.w:=fun y=>(HY.out y.w y.h).2.2.1
  have HN:=C5 (show aQ wa 100 #[.slice q nl cq,.func (.func 101) #[] #[.pointer (some ⟨w.heap.size,0,none⟩)]] ((.bool ms)) from fun y=>ax.calls (HY.out y.w y.h).2.2.2)
  refine ai (by kernel_rfl) (by kernel_rfl) ?_
  repeat (go_big_quiet_step ((go_at_call 100;exact HN.out _)))
  refine wpQuiet_nil ?_
  rintro _ ⟨⟨w2,hbN⟩,rfl⟩
  clear HN y0 y1 y2 HY
  go_wp2
  go_ret
  exact⟨by rfl,hbA.trans (hbN.mono hbA.size)⟩
def StP (w:World) (b:Nat) (x:St):Prop:=w.heap[b]?=some (.cells #[.int .i64 x.a0,.int .i64 x.a1,.int .i64 x.a2,.int .i64 x.f0,.int .i64 x.f1,.int .i64 x.f2] 87 (0,0))
theorem StP.lt {w:World}{b:Nat}{x:St} (h:StP w b x):b<w.heap.size:=(C_.1 h).1
theorem StP.cell {w:World}{b:Nat}{x:St} (h:StP w b x) (j:Nat):w.cell? ⟨b,j,none⟩=#[Value.int .i64 x.a0,.int .i64 x.a1,.int .i64 x.a2,.int .i64 x.f0,.int .i64 x.f1,.int .i64 x.f2][j]?:=by rw[World.cell?,h];rfl
theorem StP.fr {w:World}{b:Nat}{x:St} (h:StP w b x) (j:Nat):w.frozen? ⟨b,j,none⟩=false:=by
 rw[World.frozen?,h];simp
theorem StP.below {w w':World}{b:Nat}{x:St} (h:StP w b x) (hb:Below w.heap.size w w'):StP w' b x:=by
 unfold StP;rw[hb.block b h.lt];exact h
theorem StP.new (w:World) (x:St):StP (w.alloc (.cells #[.int .i64 x.a0,.int .i64 x.a1,.int .i64 x.a2,.int .i64 x.f0,.int .i64 x.f1,.int .i64 x.f2] 87)) w.heap.size x:=heap_alloc_new w _
def goW (w:World) (b g:Nat) (k:Int):World:=(w.setCell ⟨b,g,none⟩ (.int .i64 k)).setCell ⟨b,3+g,none⟩ (.int .i64 0)
theorem StP.go {w:World}{b g:Nat}{x:St} (h:StP w b x) (hg:g<3) (k:Int):StP (goW w b g k) b (x.go g k):=by
 unfold goW
 rcases lt3 hg with rfl | rfl | rfl
 ·have h1:StP (w.setCell ⟨b,0,none⟩ (.int .i64 k)) b ⟨k,x.a1,x.a2,x.f0,x.f1,x.f2⟩:=by unfold StP;rw[heap_setCell_same w b 0 _ _ (.int .i64 k) h];rfl
  unfold StP;rw[heap_setCell_same _ b (3+0) _ _ (.int .i64 0) h1];rfl
 ·have h1:StP (w.setCell ⟨b,1,none⟩ (.int .i64 k)) b ⟨x.a0,k,x.a2,x.f0,x.f1,x.f2⟩:=by unfold StP;rw[heap_setCell_same w b 1 _ _ (.int .i64 k) h];rfl
  unfold StP;rw[heap_setCell_same _ b (3+1) _ _ (.int .i64 0) h1];rfl
 ·have h1:StP (w.setCell ⟨b,2,none⟩ (.int .i64 k)) b ⟨x.a0,x.a1,k,x.f0,x.f1,x.f2⟩:=by unfold StP;rw[heap_setCell_same w b 2 _ _ (.int .i64 k) h];rfl
  unfold StP;rw[heap_setCell_same _ b (3+2) _ _ (.int .i64 0) h1];rfl
theorem wj {w:World}{n b g:Nat}{k:Int} (hb:n≤b):Below n w (goW w b g k):=(((Below.refl n w).setCell (p:=⟨b,g,none⟩) hb _).setCell (p:=⟨b,3+g,none⟩) hb _)
theorem lz {w:World}{b g:Nat}{k:Int}{i:Nat} (h:i≠b):(goW w b g k).heap[i]?=w.heap[i]?:=by
 unfold goW
 rw[Below.heap_setCell _ _ _ _ h,Below.heap_setCell _ _ _ _ h]
def bh (w:World) (b:Nat) (z:St):World:=(((((w.setCell ⟨b,0,none⟩ (.int .i64 z.a0)).setCell ⟨b,1,none⟩ (.int .i64 z.a1)).setCell ⟨b,2,none⟩ (.int .i64 z.a2)).setCell ⟨b,3,none⟩ (.int .i64 z.f0)).setCell ⟨b,4,none⟩ (.int .i64 z.f1)).setCell ⟨b,5,none⟩ (.int .i64 z.f2)
theorem StP.put {w:World}{b:Nat}{x:St} (h:StP w b x) (z:St):StP (bh w b z) b z:=by
 have h1:StP (w.setCell ⟨b,0,none⟩ (.int .i64 z.a0)) b ⟨z.a0,x.a1,x.a2,x.f0,x.f1,x.f2⟩:=by unfold StP;rw[heap_setCell_same w b 0 _ _ _ h];rfl
 have h2:StP ((w.setCell ⟨b,0,none⟩ (.int .i64 z.a0)).setCell ⟨b,1,none⟩ (.int .i64 z.a1)) b ⟨z.a0,z.a1,x.a2,x.f0,x.f1,x.f2⟩:=by unfold StP;rw[heap_setCell_same _ b 1 _ _ _ h1];rfl
 have h3:StP (((w.setCell ⟨b,0,none⟩ (.int .i64 z.a0)).setCell ⟨b,1,none⟩ (.int .i64 z.a1)).setCell ⟨b,2,none⟩ (.int .i64 z.a2)) b ⟨z.a0,z.a1,z.a2,x.f0,x.f1,x.f2⟩:=by unfold StP;rw[heap_setCell_same _ b 2 _ _ _ h2];rfl
 have h4:StP ((((w.setCell ⟨b,0,none⟩ (.int .i64 z.a0)).setCell ⟨b,1,none⟩ (.int .i64 z.a1)).setCell ⟨b,2,none⟩ (.int .i64 z.a2)).setCell ⟨b,3,none⟩ (.int .i64 z.f0)) b ⟨z.a0,z.a1,z.a2,z.f0,x.f1,x.f2⟩:=by unfold StP;rw[heap_setCell_same _ b 3 _ _ _ h3];rfl
 have h5:StP (((((w.setCell ⟨b,0,none⟩ (.int .i64 z.a0)).setCell ⟨b,1,none⟩ (.int .i64 z.a1)).setCell ⟨b,2,none⟩ (.int .i64 z.a2)).setCell ⟨b,3,none⟩ (.int .i64 z.f0)).setCell ⟨b,4,none⟩ (.int .i64 z.f1)) b ⟨z.a0,z.a1,z.a2,z.f0,z.f1,x.f2⟩:=by unfold StP;rw[heap_setCell_same _ b 4 _ _ _ h4];rfl
 unfold bh StP;rw[heap_setCell_same _ b 5 _ _ _ h5];rfl
theorem bo {w:World}{n b:Nat}{z:St} (hb:n≤b):Below n w (bh w b z) :=
 ((((((Below.refl n w).setCell (p:=⟨b,0,none⟩) hb _).setCell (p:=⟨b,1,none⟩) hb _).setCell (p:=⟨b,2,none⟩) hb _).setCell (p:=⟨b,3,none⟩) hb _).setCell (p:=⟨b,4,none⟩) hb _).setCell (p:=⟨b,5,none⟩) hb _
theorem sv {w:World}{b i:Nat}{z:St} (h:i≠b):(bh w b z).heap[i]?=w.heap[i]?:=by
 unfold bh
 rw[Below.heap_setCell _ _ _ _ h,Below.heap_setCell _ _ _ _ h,Below.heap_setCell _ _ _ _ h,Below.heap_setCell _ _ _ _ h,Below.heap_setCell _ _ _ _ h,Below.heap_setCell _ _ _ _ h]
theorem toN (w:World) (b g:Nat) (x:St) (k:Int) (hg:g<3) (h:StP w b x) :
  Calls Tryz.prog 88 #[.int .i64 g,.int .i64 k,.pointer (some ⟨b,0,none⟩)] w (fun e w'=>e=.returned (.tuple #[])∧w'=goW w b g k):=by
 rcases lt3 hg with rfl | rfl | rfl
 ·have c0:=h.cell 0;have c3:=h.cell 3;have f0:=h.fr 0;have f3:=h.fr 3
  go_enter Tryz.func88,Tryz.ntmps88
  go_wp2
  go_end0
  exact⟨by rfl,by rfl⟩
 ·have c0:=h.cell 1;have c3:=h.cell 4;have f0:=h.fr 1;have f3:=h.fr 4
  go_enter Tryz.func88,Tryz.ntmps88
  go_wp2
  go_end0
  exact⟨by rfl,by rfl⟩
 ·have c0:=h.cell 2;have c3:=h.cell 5;have f0:=h.fr 2;have f3:=h.fr 5
  go_enter Tryz.func88,Tryz.ntmps88
  go_wp2
  go_end0
  exact⟨by rfl,by rfl⟩
end Go.Proofs.YtnkgbocdpngldaaGreatDoor
