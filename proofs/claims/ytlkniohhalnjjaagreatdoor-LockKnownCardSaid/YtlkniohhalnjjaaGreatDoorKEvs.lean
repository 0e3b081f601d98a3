/- Lemmas of this claim. -/
import Derived.RangeFuncWrites
import Derived.RangeFuncNested
import Derived.RangeFuncBound
import Derived.RangeFuncCalls
import Derived.RangeFuncLeaves
import Derived.Shelf.Abstract
import Derived.Shelf.RegionOpen
import Derived.OwnWalkIn
import Derived.TacticsInMore
import Derived.LoopNIn
import Derived.LoopIn
import Derived.Test.YtlkniohhalnjjaaGreatDoorKMach
import Derived.Test.YtlkniohhalnjjaaGreatDoorKLock10
set_option linter.all false
set_option maxRecDepth 100000
set_option maxHeartbeats 8000000
namespace Go.Proofs.YtlkniohhalnjjaaGreatDoor
open Go.RowKit
variable {F : Fence} {n : Nat} {P : Program}
def pJ {β:Type} (B:Nat) (I:β→World→Prop):Prop:=∀ s W,I s W→(∀ o,I s (W.alloc o))∧∀ l o o',B≤l→W.heap[l]?=some (.loop o)→I s (W.putObj l o')
def np (B:Nat) (I:World→Prop) (W:World):Exit→Act→World→Prop
 | .normal,_,W'=>KeepsFrom B W W'∧I W'
 | _,_,_=>False
def sO {α:Type} (F:Fence) (n:Nat) (P:Program) (gf:Nat) (bnd lb:Array Value) (encs:α→Array Value) (xs:List α) (w:World):Prop :=
 ∀ (l:Nat) (J:Nat→World→Prop) (W:World),Below w.heap.size w W →
  (∀ i (hi:i<xs.length) W1,J i W1→YieldAt F (n-1) P l (encs xs[i]) W1 fun e W'=>e=.returned (.bool true)∧J (i+1) W') →
  J 0 W→CallsIn F n P gf (bnd++#[.func (.yield l) #[] #[]]++lb) W fun e W'=>(∃ v,e=.returned v)∧J xs.length W'
theorem iT {α:Type}{g:Operand}{ps:Array Tmp}{assign body:Code}{Q:Exit→Act→World→Prop}{a:Act}{w:World}
  (hro:F.round=none) (h1:1≤n) {gf:Nat} {bnd lb:Array Value} (hg:a.eval g=.func (.func gf) bnd lb) (hFg:F.fn gf) (eg:∀ args w,(callFunc gf args).run P w=.ok (.enter gf args) w)
  {encs:α→Array Value} {xs:List α} (hseq:sO F (n-1) P gf bnd lb encs xs w) (hps:∀ x,(encs x).size=ps.size)
  (I:Nat→World→Prop) (hI:pJ w.heap.size I) (h0:I 0 w) (I₁:Nat→Act→World→Prop) (hI₁:pJ w.heap.size (fun (s:Nat×Act)=>I₁ s.1 s.2))
  (hassign:∀ (l i:Nat) (hi:i<xs.length) (W:World),I i W →
   assign.wpIn (F.inRound l) (n-1-1) P (Exit.then (fun a₁ W₁=>KeepsFrom w.heap.size W W₁∧I₁ i a₁ W₁) (fun _ _ _=>False)) { tmps:=(ps.zip (encs xs[i])).foldl (fun t (p,v)=>t.setIfInBounds p v) a.tmps,defers:=[] } W)
  (hbody:∀ (l i:Nat) (_:i<xs.length) (a₁:Act) (W:World),I₁ i a₁ W→body.wpIn (F.inRound l) (n-1-1) P (np w.heap.size (I (i+1)) W) a₁ W)
  (hdone:∀ (D:Nat) (W:World),w.heap.size≤D→I xs.length W→W.heap[D]?=some (.deferred (some []))→Q .normal { a with defers:={ target:=.collected D,args:=#[] } :: a.defers } W) :
  (Code.rangeFunc g ps assign body).wpIn F n P Q a w:=by
 refine wpIn_rangeFunc ?_
 intro fn hfn
 rw[hro]
 obtain⟨rec,hrec⟩:∃ rec:LoopState→Option Code→Loop,rec=fun st pe=>{ state:=st,pending:=pe,fn,tmps:=a.tmps,params:=ps,assign,body,defers:=w.heap.size }:=⟨_,rfl⟩
 obtain⟨W1,hW1⟩:∃ W1,(w.alloc (.deferred (some []))).alloc (.loop (rec .ready none))=W1:=⟨_,rfl⟩
 have hL1:W1.heap[w.heap.size+1]?=some (.loop (rec .ready none)):=by
  rw[←hW1];have:=World.alloc_heap_new (w.alloc (.deferred (some []))) (.loop (rec .ready none));rwa [World.size_alloc] at this
 have hK1:W1.heap[w.heap.size]?=some (.deferred (some [])):=by
  rw[←hW1];exact (Below.heap_alloc _ _ _ (by simp)).trans (World.alloc_heap_new w _)
 have hI1:I 0 W1:=by rw[←hW1];exact (hI 0 _ ((hI 0 _ h0).1 _)).1 _
 have hb1:Below w.heap.size w W1:=by
  rw[←hW1];exact ((Below.refl _ w).alloc (uo _) _).alloc (by simp) _
 refine⟨w.heap.size+1,[{ target:=.collected w.heap.size,args:=#[] }],W1,{ target:=.fn (.func gf) lb,args:=bnd++#[.func (.yield (w.heap.size+1)) #[] #[]] },W1,gf,
  bnd++#[.func (.yield (w.heap.size+1)) #[] #[]]++lb,W1,?_,?_,?_,?_,fun _=>h1,?_⟩
 ·rw[←hW1,hrec];exact run_enterLoop_outer _ _ _ _ _
 ·simp only[resolve,hg]
  simp[go_sem]
 ·intro f' hf';simp[Target.leads] at hf';subst hf';exact hFg
 ·simp[invoke,go_sem,eg]
 ·refine (hseq (w.heap.size+1)
   (fun i W=>I i W∧W.heap[w.heap.size+1]?=some (.loop (rec .ready none))∧W.heap[w.heap.size]?=some (.deferred (some [])))
   W1 hb1 ?_ ⟨hI1,hL1,hK1⟩).mono ?_
  ·rintro i hi W ⟨hi1,hl,hk⟩
   have hlt:w.heap.size+1<W.heap.size:=(uw.1 hl).1
   have hy:=run_yield (P:=P) (args:=encs xs[i]) hl (by rw[hrec];exact hps _)
   rw[hrec] at hy
   refine⟨fn,_,assign,body,hy,roundIn_of_wpIn hfn ?_⟩
   refine wpIn_mono (hassign _ i hi W hi1) ?_
   rintro e a₁ W₂ hp
   cases e with
   | normal =>
    obtain⟨hk2,hj⟩:=hp
    have hl2:=hk2.same _ _ (by omega) hl rfl
    have hd2:=hk2.same _ _ (uo _) hk rfl
    have hlt2:w.heap.size+1<W₂.heap.size:=(uw.1 hl2).1
    refine⟨_,run_beginRound hl2 (by rw[hrec]),?_⟩
    have hl3:(W₂.putObj (w.heap.size+1) (.loop { rec .ready none with state:=.busy })).heap[w.heap.size+1]?=some (.loop { rec .ready none with state:=.busy }):=World.putObj_heap_same hlt2
    have hd3:(W₂.putObj (w.heap.size+1) (.loop { rec .ready none with state:=.busy })).heap[w.heap.size]?=some (.deferred (some [])):=(World.putObj_heap_other (by omega)).trans hd2
    refine wpIn_mono (hbody _ i hi a₁ _ ((hI₁ (i,a₁) _ hj).2 _ _ _ (by omega) hl2)) ?_
    rintro e a3 W3 hp
    cases e with
    | normal =>
     obtain⟨hk3,hi3⟩:=hp
     have hl4:=hk3.same _ _ (by omega) hl3 rfl
     have hd4:=hk3.same _ _ (uo _) hd3 rfl
     have hr:=run_endRound (P:=P) none hl4
     rw[hrec] at hr
     rw[hrec] at hl4
     refine⟨_,_,hr,rfl,(hI _ _ hi3).2 _ _ _ (by omega) hl4,?_,(World.putObj_heap_other (by omega)).trans hd4⟩
     rw[hrec]
     exact World.putObj_heap_same (uw.1 hl4).1
    | ret=>exact hp.elim
    | exit id=>exact hp.elim
    | goto t=>exact hp.elim
    | panic ch=>exact hp.elim
    | outgrown=>exact hp.elim
   | ret=>exact hp.elim
   | exit id=>exact hp.elim
   | goto t=>exact hp.elim
   | panic ch=>exact hp.elim
   | outgrown=>exact hp.elim
  ·rintro e W2 ⟨⟨v,rfl⟩,hi,hl,hk⟩
   exact⟨none,_,by have:=run_endLoop (P:=P) hl (by rw[hrec];simp);rw[hrec] at this;exact this,hdone _ _ (uo _) ((hI _ _ hi).2 _ _ _ (by omega) hl) ((World.putObj_heap_other (by omega)).trans hk)⟩
open Go.RowKit Go.Shelf Dc Dg
def gL (v:Ev):Array Value:=#[.agg #[.int .i64 v.g,.int .i64 v.k]]
theorem em:∀ n,(evs n).length=3*n
 | 0=>rfl
 | n+1=>by
  have:=em n
  unfold evs at this ⊢
  rw[vI,vN,uF,this]
  simp;omega
theorem sd {n g k:Nat} (hg:g<n) (hk:k<3):∃ h:3*g+k<(evs n).length,(evs n)[3*g+k]=⟨g,k⟩:=by
 induction n with
 | zero=>omega
 | succ n ih =>
  have hl:=em n
  have e:evs (n+1)=evs n++[⟨(n:Int),0⟩,⟨(n:Int),1⟩,⟨(n:Int),2⟩]:=by
   unfold evs
   rw[vI,vN];simp
  have hlt:3*g+k<(evs (n+1)).length:=by rw[em];omega
  refine⟨hlt,?_⟩
  rcases vf g n with h1 | h1
  ·obtain⟨h2,h3⟩:=ih h1
   simp only[e]
   rw[List.getElem_append_left h2,h3]
  ·have:g=n:=by omega
   subst this
   simp only[e]
   rw[List.getElem_append_right (by omega)]
   rcases lt3 hk with rfl | rfl | rfl<;>simp[hl]
attribute [local go_sem] Oper.semAt_some
theorem kF (F:Fence) (n:Nat) (hF:F.fn 46) (hro:F.round=none) (hn:1≤n) (gs:List Gd) (p:Option Addr) (c:Nat) (m:Nat) (w:World) (hm:w.cell? ⟨m,0,none⟩=some (.slice p gs.length c)) (hlt:m<w.heap.size) (h3:gs.length≤3) :
  sO F n Tryz.prog 46 #[.pointer (some ⟨m,0,none⟩)] #[] gL (evs gs.length) w:=by
 intro l J W hW hY h0
 have m0:=(hW.cell (p:=⟨m,0,none⟩) hlt).trans hm
 have HY:=uk hY
 have hlen:=em gs.length
 clear hm hW hY hlt
 refine callsIn_of_wp Tryz.func46 rfl hF ?_ hro
 simp only[Tryz.ntmps46,List.size_toArray,uG,vu,Nat.reduceAdd,Nat.reduceSub,Array.replicate_succ,Array.replicate_zero,List.push_toArray,List.append_toArray,v_,vT]
 gi_wp2
 gi_loopw [12] (fun s12 wr=>∃ g:Nat,s12=.int .i64 g∧g≤gs.length∧J (3*g) wr) (fun s12 _=>gs.length-(intOf s12).toNat)
 case atStart=>exact⟨0,rfl,by omega,h0⟩
 case round =>
  clear h0 m0
  obtain⟨g,rfl,hg,hJ⟩:=hrel
  by_cases hgl:g<gs.length
  ·gi_wp2
   gi_loopw [15] (fun s15 wr=>∃ k:Nat,s15=.int .i64 k∧k≤3∧J (3*g+k) wr) (fun s15 _=>3-(intOf s15).toNat)
   case atStart=>exact⟨0,rfl,by omega,hJ⟩
   case round =>
    clear hJ
    obtain⟨k,rfl,hk,hJ⟩:=hrel
    by_cases hkl:k<3
    ·obtain⟨hi,hx⟩:=sd hgl hkl
     obtain⟨fn,tmps,assign,body,hy,hR⟩:=HY.out _ hi wr hJ
     rw[hx] at hy
     unfold gL at hy
     clear hx hJ
     gi_wp2
     refine hR.mono ?_
     rintro e W' ⟨rfl,hJ'⟩
     gi_wp2
     go_roundw
     case rel=>exact⟨k+1,by go_num,by omega,hJ'⟩
     case measure=>simp[intOf];omega
    ·obtain rfl:k=3:=by omega
     clear hkl hk
     gi_wp2
     go_roundw
     case rel=>exact⟨g+1,by go_num,by omega,hJ⟩
     case measure=>simp[intOf];omega
  ·obtain rfl:g=gs.length:=by omega
   clear hgl hg
   gi_wp2
   go_end0
   exact⟨⟨_,rfl⟩,by rw[hlen];exact hJ⟩
end Go.Proofs.YtlkniohhalnjjaaGreatDoor
