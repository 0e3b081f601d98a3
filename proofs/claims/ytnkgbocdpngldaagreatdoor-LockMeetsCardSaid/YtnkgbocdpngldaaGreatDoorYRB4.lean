/-
  Texts of this claim: RB4, RB3, RB5.
-/
import Derived.Test.YtnkgbocdpngldaaGreatDoorYRev
import Derived.Test.YtnkgbocdpngldaaGreatDoorYCnt
import Derived.Test.YtnkgbocdpngldaaGreatDoorYMeet
import Derived.Test.YtnkgbocdpngldaaGreatDoorYRB1
import Derived.Test.YtnkgbocdpngldaaGreatDoorYA
set_option linter.unusedVariables false
set_option linter.unusedSimpArgs false
set_option maxRecDepth 100000
set_option maxHeartbeats 8000000

namespace Go.Proofs.YtnkgbocdpngldaaGreatDoor
open Go.RowKit Dc Dg
theorem vH {gs:List Gd} (hS:a8 gs=true):fY gs=(k9 (d8 (ai gs) St.zero xD):Int):=by unfold fY;rw [if_pos hS];rfl
structure ow (L:List (St×Int×Ev)) (i:Nat) (P:List (Int×Int×Int)):Prop where
 nd:P.Nodup
 sub:∀ q∈P,∃ j,∃ h:j<L.length,j<i∧pl L[j].1=q
 all:∀ j (h:j<L.length),j<i→pl L[j].1∈P
def qz (gs:List Gd) (L:List (St×Int×Ev)) (i c:Nat):Bool:=decide (c∈(L.take i).map fun t=>dW t.1 gs.length)
theorem CK {x y:St} (h:∀ g,g<3→x.a g=y.a g):pl x=pl y:=by
 have h0:=h 0 (by omega);have h1:=h 1 (by omega);have h2:=h 2 (by omega)
 simp only [St.a] at h0 h1 h2
 unfold pl
 rw [h0,h1,h2]
theorem BV (n:Nat) {x y:St} (hn:n≤3) (h:pl x=pl y):dW x n=dW y n:=by
 unfold pl at h
 simp only [Prod.mk.injEq] at h
 obtain ⟨h0,h1,h2⟩:=h
 have ha:∀ g,g<3→x.a g=y.a g:=fun g hg=>by
  rcases lt3 hg with rfl | rfl | rfl
  ·exact h0
  ·exact h1
  ·exact h2
 have key:∀ i,i≤3→dW x i=dW y i:=by
  intro i
  induction i with
  | zero=>intro _;rfl
  | succ i ih=>intro hi;rw [dW,dW,ih (by omega),ha i (by omega)]
 exact key n hn
theorem zo {gs:List Gd} (hS:a8 gs=true) {L:List (St×Int×Ev)} (hL:∀ j (h:j<L.length),(ai gs).At L[j].1) {i:Nat} (hi:i<L.length) {P:List (Int×Int×Int)} (hP:ow L i P):qz gs L i (dW L[i].1 gs.length)=true↔pl L[i].1∈P:=by
 unfold qz
 rw [decide_eq_true_iff,DA]
 constructor
 ·rintro ⟨t,ht,he⟩
  obtain ⟨j,hj,rfl⟩:=DG.1 ht
  rw [Dy] at hj
  rw [List.getElem_take] at he
  have:=A4 (aW hS) (hL j (by omega)) (hL i hi) he
  have e:=CK this
  rw [←e]
  exact hP.all j (by omega) (by omega)
 ·intro h
  obtain ⟨j,hj,hji,he⟩:=hP.sub _ h
  refine ⟨L[j],?_,BV _ (bV hS).2 he⟩
  rw [List.mem_take_iff_getElem]
  exact ⟨j,by omega,rfl⟩
theorem ow.old {L:List (St×Int×Ev)} {i:Nat} {P:List (Int×Int×Int)} (h:ow L i P) (hi:i<L.length) (hm:pl L[i].1∈P):ow L (i+1) P:=by
 refine ⟨h.nd,fun q hq=>?_,fun j hj hji=>?_⟩
 ·obtain ⟨j,hj,hji,he⟩:=h.sub q hq
  exact ⟨j,hj,by omega,he⟩
 ·by_cases hjj:j=i
  ·subst hjj;exact hm
  ·exact h.all j hj (by omega)
theorem ow.new {L:List (St×Int×Ev)} {i:Nat} {P:List (Int×Int×Int)} (h:ow L i P) (hi:i<L.length) (hm:pl L[i].1∉P):ow L (i+1) (P++[pl L[i].1]):=by
 refine ⟨?_,fun q hq=>?_,fun j hj hji=>?_⟩
 ·rw [E_]
  refine ⟨h.nd,by simp,fun a ha b hb e=>?_⟩
  simp at hb
  subst hb;subst e
  exact hm ha
 ·rcases Dv.1 hq with hq | hq
  ·obtain ⟨j,hj,hji,he⟩:=h.sub q hq
   exact ⟨j,hj,by omega,he⟩
  ·simp at hq
   exact ⟨i,hi,by omega,hq.symm⟩
 ·by_cases hjj:j=i
  ·subst hjj;exact Ff _ (DX.2 rfl)
  ·exact DV _ (h.all j hj (by omega))
theorem wN {gs:List Gd} {L:List (St×Int×Ev)} {i:Nat} (hi:i<L.length) (c:Nat):qz gs L (i+1) c=if c=dW L[i].1 gs.length then true else qz gs L i c:=by
 unfold qz
 rw [DC,C1 hi,DB]
 by_cases h:c=dW L[i].1 gs.length<;>simp [h]
theorem pW {R:List (St×aD)} {L:List (St×Int×Ev)} (hk:L.map (·.1)=ay R) {P:List (Int×Int×Int)} (h:ow L L.length P):P.length=k9 R:=by
 refine oU h.nd (fun q hq=>?_) (fun x hx=>?_)
 ·obtain ⟨j,hj,_,he⟩:=h.sub q hq
  exact ⟨L[j].1,by rw [←hk];exact DA.2 ⟨_,Df hj,rfl⟩,he⟩
 ·rw [←hk] at hx
  obtain ⟨t,ht,rfl⟩:=DA.1 hx
  obtain ⟨j,hj,rfl⟩:=DG.1 ht
  exact h.all j hj hj
theorem uY {gs:List Gd} (hS:a8 gs=true) {x:St} (hx:(ai gs).At x) {al:Ev→Bool} {L:List (St×Int×Ev)} (h:gS x (d8 (ai gs) x al) L):∀ j (h:j<L.length),(ai gs).At L[j].1:=fun j hj=>by
 refine (mU (aW hS) hx (al:=al)).at_ _ ?_
 rw [←h.key]
 exact DA.2 ⟨_,Df hj,rfl⟩
def Bw (gs:List Gd) (w:World) (e:Ending) (w':World):Prop:=e=.returned (.tuple #[.int .i64 (fY gs),.int .i64 (if a8 gs then 0 else 40)])∧Below w.heap.size w w'
theorem vI (gs:List Gd) (p:Option Addr) (c:Nat) (w:World) (hP:fL w p c gs) :
  Calls Tryz.prog 12 #[.agg #[.slice p gs.length c]] w (Bw gs w):=by
 have hl:=bo w (.cells #[.slice p gs.length c] 24)
 have P1:=hP.below hl.below
 clear hP
 go_enter Tryz.func12,Tryz.ntmps12
 go_upto_region 1 with fail
 generalize w.alloc (.cells #[.slice p gs.length c] 24)=w1 at *
 have x0:=aa hl.s0 0
 go_wp2_with fail
 refine (oT gs p c w1 P1.G P1.X P1.F).mono ?_
 rintro e w2 ⟨rfl,hb2⟩
 have P2:=P1.below hb2
 have r0:=(hb2.block _ (ac hl.s0)).trans hl.s0
 have HB2:=hl.below.trans (hb2.mono hl.below.size)
 clear hl P1 hb2 x0
 obtain ⟨bs,hbs⟩:∃ b,b=a8 gs:=⟨_,rfl⟩
 rw [←hbs]
 have HBS:=CX hbs
 clear hbs
 cases bs
 ·rw [if_neg Db]
  go_wp2
  go_ret2
  refine ⟨?_,HB2⟩
  unfold fY
  rw [←HBS.out]
  rfl
 ·rw [if_pos rfl]
  have HSy:Hid (a8 gs=true):=HBS.out.symm
  obtain ⟨hn1,hn3⟩:=bV HSy.out
  have GD:=CX (aW HSy.out)
  go_upto_region 4 with fail
  have hS:Below w2.heap.size w2 w2.drew:=(Below.refl _ _).drew
  refine wp_mono (aw (Q:=aJ _) (fun wx:World=>Below w2.heap.size w2 wx) (fun i=>false) (by kernel_rfl) ?_) (fun _ _ _ h=>aK h)
  generalize w2.drew=wd at *
  refine am (i:=0) (v:=?vvA) rfl (by kernel_rfl) (fun _ _ _ h=>h) rfl hS ?hyA ?restA
  case hyA =>
   intro wy hy
   have e2:=aa ((hy.block _ (ac r0)).trans r0) 0
   clear hy
   go_simp
   try with_reducible rfl
  try simp only [Act.put,CY,CV,CW,CS,CU,CT]
  refine am (i:=1) (v:=?vvB) rfl (by kernel_rfl) (fun _ _ _ h=>h) rfl hS ?hyB ?restB
  case hyB =>
   intro wy hy
   have e2:=aa ((hy.block _ (ac r0)).trans r0) 0
   clear hy
   go_simp
   try with_reducible rfl
  try simp only [Act.put,CY,CV,CW,CS,CU,CT]
  refine ak (i:=2) rfl (by kernel_rfl) rfl (fun K hK=>?_)
  go_simp
  refine (oR gs p c wd hn3).mono ?_
  rintro e w4 ⟨u1,u2,rfl,hL,hb4⟩
  obtain ⟨ga,d1,rfl,hga,_⟩:=hL.a.some (by rw [fi hn3];omega)
  obtain ⟨gf,d2,rfl,hgf,_⟩:=hL.f.some (by rw [eB hn3];omega)
  rw [fi hn3] at hL ⊢
  rw [eB hn3] at hL ⊢
  have hS4:=hS.trans (hb4.mono hS.size)
  refine hK _ _ (fun _ _=>hS4) ?_
  clear hK K
  try simp only [Act.put,CY,CV,CW,CS,CU,CT]
  refine ak (i:=3) rfl (by kernel_rfl) rfl (fun K hK=>?_)
  go_simp
  refine (sV gs p c _ d1 _ d2 St.zero xD 2 w4 (P2.below hS4) hL.a.q hL.f.q HSy.out (aB.At.zero GD.out) pG).mono ?_
  rintro e w5 ⟨pv,cv,L,rfl,hRL,hQ,hl32,hb5⟩
  have hS5:=hS4.trans (hb5.mono hS4.size)
  refine hK _ _ (fun _ _=>hS5) ?_
  clear hK K hS hS4 hb4 hb5 hL hga hgf
  try simp only [Act.put,CY,CV,CW,CS,CU,CT]
  refine ae (i:=4) (v:=?vv1) rfl (by kernel_rfl) (fun _ _ _ h=>h) rfl ?hy1 ?rest1
  case hy1=>(intro wy;go_simp;try with_reducible rfl)
  try simp only [Act.put,CY,CV,CW,CS,CU,CT]
  try simp only [Act.put,CY,CV,CW,CS,CU,CT]
  refine aA (by kernel_rfl) ?_ _
  simp only [aJ]
  have HRL:=CX hRL
  have r5:=(hS5.block _ (ac r0)).trans r0
  have HB5:=HB2.trans (hS5.mono HB2.size)
  clear hRL hS5 r0
  have HAT:=CX (uY HSy.out (aB.At.zero GD.out) HRL.out)
  go_wp2_with (at_make;refine pA rfl _ _ rfl 512 rfl rfl (by omega) ?_;intro w6 hsn hb6)
  have HAL:=CX (show ∀ z,(atL gs.length z).length=gs.length from fun z=>fi hn3 z)
  have r6:=(hb6.block _ (ac r5)).trans r5
  have HQ6:=CX (hQ.below hb6)
  have HB6:=HB5.trans (hb6.mono HB5.size)
  have hbs:w.heap.size≤w5.heap.size:=HB5.size
  have hn6:∀ (q:Nat),q<w5.heap.size→q≠w5.heap.size:=fun q hq=>by omega
  have h5:=CX hb6
  have R6:=CX r6
  have HBW:=CX HB5
  have r5':=CX (ac r5)
  have HQ5:=CX hQ
  clear hb6 hQ r5 HB5 hn6
  have C0:ow L 0 []:=⟨E7,fun q hq=>(by cases hq),fun j hj h=>(by omega)⟩
  have F0:dt w6 w5.heap.size 512 (qz gs L 0):=hsn.congr (fun c _=>by unfold qz;simp)
  clear hsn
  go_loopw [7,8] (fun s7 s8 wx=>∃ (i:Nat) (P:List (Int×Int×Int)),s8=.int .i64 i∧s7=.int .i64 P.length∧i≤L.length∧P.length≤i∧Hid (ow L i P)∧dt wx w5.heap.size 512 (qz gs L i)∧Below w5.heap.size w5 wx) (fun _ s8 _=>L.length-(intOf s8).toNat)
  case atStart=>exact ⟨0,[],rfl,rfl,by omega,by simp,C0,F0,h5.out⟩
  case round =>
   clear C0 F0 r6
   obtain ⟨i,P,rfl,rfl,hi,hPi,HC,hF,hbw⟩:=hrel
   have r0:=(hbw.block _ r5'.out).trans ((h5.out.block _ r5'.out).symm.trans R6.out)
   by_cases hil:i<L.length
   ·obtain ⟨b,o,u1,u2,rfl,hbw5,q0,-,-,-,-,hq1,-⟩:=HQ5.out.get hil
    obtain ⟨x,hx⟩:∃ x,x=L[i].1:=⟨_,rfl⟩
    rw [←hx] at hq1
    have HX:=CX hx
    obtain ⟨ba,oa,cn,rfl⟩:=hq1.form (HAL.out x) (by omega)
    have HSM:=CX (nT HSy.out (show (ai gs).At x by rw [hx];exact HAT.out i hil))
    have HPL:Hid (dW x gs.length<512):=BU (M:=ai gs) GD.out (show (ai gs).At x by rw [hx];exact HAT.out i hil)
    have q0:=(hbw.cell (p:=⟨b,_,none⟩) hbw5).trans q0
    have hqa:=CX (hq1.below hbw)
    have x0:=aa r0 0
    have hiI:(i:Int)<(L.length:Int):=by omega
    clear hx hq1 r0 hbw5
    go_wp2_with fail
    go_loop [9,10] (fun s9 s10=>∃ g:Nat,s10=.int .i64 g∧s9=.int .i64 (dW x g)∧g≤gs.length) (fun _ s10=>gs.length-(intOf s10).toNat)
    case atStart=>exact ⟨0,rfl,rfl,by omega⟩
    case round =>
     obtain ⟨g,rfl,rfl,hg⟩:=hrel
     by_cases hgl:g<gs.length
     ·obtain ⟨ba',oa',e',-,hgn,hba,hca⟩:=hqa.out.at? (j9 hn3 x hgl)
      obtain ⟨rfl,rfl⟩:ba=ba'∧oa=oa':=by simpa using e'
      obtain ⟨s1,s2,-,-⟩:=HSM.out g (by omega)
      have hlt:=qA HSM.out g (by omega)
      have hp:8 ^ g≤8 ^ 2:=Dr (by omega) (by omega)
      have HST:Hid ((dW x (g+1):Int)=8*(dW x g:Int)+x.a g):=by
       unfold Hid;rw [dW];push_cast;rw [EI s1]
      obtain ⟨N,hN⟩:∃ N:Int,N=(dW x g:Int):=⟨_,rfl⟩
      have hN0:0≤N:=by omega
      have hN1:N≤64:=by omega
      rw [←hN] at HST ⊢
      clear hN hlt hp e'
      obtain ⟨a,ha⟩:∃ a,a=x.a g:=⟨_,rfl⟩
      rw [←ha] at s1 s2 hca HST
      clear ha
      have hgI:(g:Int)<(gs.length:Int):=by omega
      go_wp2
      go_round
      case rel=>exact ⟨g+1,by go_num,by rw [HST.out],by omega⟩
      case measure=>simp [intOf];omega
     ·obtain rfl:g=gs.length:=by omega
      clear hgl hg
      have HFI:=CX (zo HSy.out HAT.out hil HC.out)
      have HSTP:=CX (fun c=>wN (gs:=gs) hil c)
      rw [←HX.out] at HFI HSTP
      obtain ⟨N,hN⟩:∃ N,N=dW x gs.length:=⟨_,rfl⟩
      rw [←hN] at HPL HFI HSTP ⊢
      have hNI:(N:Int)<512:=by have:=HPL.out;omega
      have z0:=hF.cell HPL.out
      obtain ⟨bb,hbb⟩:∃ b,b=qz gs L i N:=⟨_,rfl⟩
      rw [←hbb] at z0 HFI
      have HBB:=CX hbb
      clear hN hbb
      cases bb
      ·have HN:=CX (HC.out.new hil (by rw [←HX.out];intro h;have:=HFI.out.2 h;cases this))
       have z1:=hF.fr N
       have hF2:=hF.set N
       have hb2:Below w5.heap.size w5 (wr.setCell ⟨w5.heap.size,N,none⟩ (.bool true)):=hbw.setCell (p:=⟨w5.heap.size,N,none⟩) (CZ _) _
       clear hF hbw
       go_wp2
       go_roundw
       case rel=>exact ⟨i+1,P++[pl L[i].1],by go_num,by rw [C7,D3];go_num,by omega,by rw [C7,D3];omega,HN.out,hF2.congr (fun c _=>by rw [HSTP.out]),hb2⟩
       case measure=>simp [intOf];omega
      ·have HN:=CX (HC.out.old hil (by rw [←HX.out];exact HFI.out.1 rfl))
       go_wp2
       go_roundw
       case rel=>exact ⟨i+1,P,by go_num,rfl,by omega,by omega,HN.out,hF.congr (fun c _=>by rw [HSTP.out];by_cases h:c=N<;>simp [h,←HBB.out]),hbw⟩
       case measure=>simp [intOf];omega
   ·obtain rfl:i=L.length:=by omega
    have HCN:Hid (fY gs=(P.length:Int)):=by unfold Hid;rw [vH HSy.out,pW HRL.out.key HC.out]
    have HB:=HBW.out.trans (hbw.mono HBW.out.size)
    clear hil hi r0 hF hbw
    go_wp2
    go_ret2
    exact ⟨by rw [HCN.out,if_pos HSy.out];rfl,HB⟩
end Go.Proofs.YtnkgbocdpngldaaGreatDoor

namespace Go.Proofs.YtnkgbocdpngldaaGreatDoor
open Go.RowKit Dc Dg
theorem ux {w:World} {o:Oper} {a:Act} {K:Act→World→Prop} {Q:Exit→Act→World→Prop} (s x:Operand) (ho:o.op=.call { callee:=.builtin .append,args:=#[s,x],argTypes:=#[29,29] })
  (n:Nat) (v:Value) (l:List Ev) (hs:a.eval s=v) (hr:EvR n w v l) (hl:l.length≤1000000) (hn:n≤w.heap.size) (b:Nat) (t:Ev) (hx:a.eval x=.slice (some ⟨b,0,none⟩) 1 1) (hb0:w.cell? ⟨b,0,none⟩=some (.int .i64 t.g)) (hb1:w.cell? ⟨b,1,none⟩=some (.int .i64 t.k))
  (h:∀ g cap w',EvR n w' (.slice (some ⟨g,0,none⟩) (l.length+1) cap) (l++[t])→w.grownBy w' v.ownBlock→K (a.put o.dst (.slice (some ⟨g,0,none⟩) (l.length+1) cap)) w'):o.wp Tryz.prog a w K Q:=by
 obtain ⟨i0,hi,hz0,hz1,hz2⟩:=info_parts Bq
 refine wp_append_lies w s x 29 ho n 53 i0 (.agg #[.int .i64 0,.int .i64 0]) 2 16 undE hi hz0 hz1 hz2 rfl (by decide) v l.length _ hs hr ⟨b,0,none⟩ 1 1 [.int .i64 t.g,.int .i64 t.k] hx rfl (fun j u hj=>?_) (fun u hu=>?_) (by decide) (by unfold maxLen;omega) (by omega) hn _ rfl (fun g cap w' h1 h2 h3 h4=>?_)
 ·match j,hj with
  | 0,hj=>simp at hj;subst hj;simpa [Addr.add] using hb0
  | 1,hj=>simp at hj;subst hj;simpa [Addr.add] using hb1
 ·simp at hu
  rcases hu with rfl | rfl<;>rfl
 ·refine h g cap w' ?_ h2
  have e:(l++[t]).length=l.length+1:=by simp
  unfold EvR
  rw [e,DZ]
  exact h1
theorem sW (L:List (St×Int×Ev)):∀ m i,(jO L m i).length≤m
 | 0,_=>CZ _
 | m+1,i=>by
  rw [jO]
  split
  ·exact Di _
  ·rename_i p _
   split
   ·exact Di _
   ·have:=sW L m p.2.1.toNat
    rw [C7,D3]
    omega
theorem Bg (n:Nat) (pv:Option Addr) (cv N:Nat) (L:List (St×Int×Ev)) (hN:N=L.length) (hl:L.length≤32768) (hsrc:∀ j (h:j<L.length),L[j].2.1<0∨∃ k:Nat,k<j∧L[j].2.1=(k:Int)):∀ (i:Nat),i<L.length→∀ m,i<m→m≤1000000→∀ (w:World),fX n w (.slice pv N cv) L →
  Calls Tryz.prog 52 #[.slice pv N cv,.int .i64 i] w fun e w'=>∃ v,e=.returned v∧EvR w.heap.size w' v (jO L m i)∧Below w.heap.size w w':=by
 have HSR:=CX hsrc
 have HN:=CX hN
 clear hsrc hN
 intro i
 induction i using Nat.strongRecOn with
 | ind i ih =>
  intro hi m hm hm6 w hQ
  obtain ⟨j,rfl⟩:∃ j,m=j+1:=⟨m-1,by omega⟩
  have hstep:jO L (j+1) i=if L[i].2.1<0 then [] else jO L j L[i].2.1.toNat++[L[i].2.2]:=by
   rw [jO,C1 hi]
  obtain ⟨b,o,u1,u2,rfl,hbw,-,-,q2,q3,q4,-,-⟩:=hQ.get hi
  have HQ:=CX hQ
  have HIH:=CX ih
  have HST:=CX hstep
  have HI:=CX hi
  have hiI:(i:Int)<(N:Int):=by have:=HN.out;omega
  clear hQ ih hstep
  rcases HSR.out i hi with hneg | ⟨k,hk,hke⟩
  ·have hd:decide (L[i].2.1<0)=true:=by simp;omega
   have HW:Hid (jO L (j+1) i=[]):=by unfold Hid;rw [HST.out,if_pos hneg]
   clear hneg hm
   generalize L[i].2.1=fr at *
   go_enter Tryz.func52,Tryz.ntmps52
   go_wp2
   go_ret
   exact ⟨_,rfl,by rw [HW.out];exact World.ownsRow_nil _ _ _ _,Below.refl _ _⟩
  ·have HW:Hid (jO L (j+1) i=jO L j k++[L[i].2.2]):=by unfold Hid;rw [HST.out,if_neg (by omega)];simp only [hke,Dm];rfl
   have HC:=CX (fun wx hx=>HIH.out k hk (by omega) j (by omega) (by omega) wx (HQ.out.below hx))
   rw [hke] at q2
   have hlen:(jO L j k).length≤1000000:=by have:=sW L j k;omega
   have hd:decide ((k:Int)<0)=false:=decide_eq_false (by omega)
   generalize L[i].2.2=t at *
   clear hke hm hm6
   go_enter Tryz.func52,Tryz.ntmps52
   go_upto_region 3 with fail
   have hS:Below w.heap.size w w.drew:=(Below.refl _ _).drew
   refine wp_mono (aw (Q:=aJ _) (fun wx:World=>Below w.heap.size w wx) (fun i=>false) (by kernel_rfl) ?_) (fun _ _ _ h=>aK h)
   generalize w.drew=wd at *
   refine ae (i:=0) (v:=?vv1) rfl (by kernel_rfl) (fun _ _ _ h=>h) rfl ?hy1 ?rest1
   case hy1=>(intro wy;go_simp;try with_reducible rfl)
   try simp only [Act.put,CY,CV,CW,CS,CU,CT]
   refine ae (i:=1) (v:=?vv2) rfl (by kernel_rfl) (fun _ _ _ h=>h) rfl ?hy2 ?rest2
   case hy2=>(intro wy;go_simp;try with_reducible rfl)
   try simp only [Act.put,CY,CV,CW,CS,CU,CT]
   refine ae (i:=2) (v:=?vv3) rfl (by kernel_rfl) (fun _ _ _ h=>h) rfl ?hy3 ?rest3
   case hy3=>(intro wy;go_simp;try with_reducible rfl)
   try simp only [Act.put,CY,CV,CW,CS,CU,CT]
   refine ae (i:=3) (v:=?vv4) rfl (by kernel_rfl) (fun _ _ _ h=>h) rfl ?hy4 ?rest4
   case hy4=>(intro wy;go_simp;try with_reducible rfl)
   try simp only [Act.put,CY,CV,CW,CS,CU,CT]
   refine ae (i:=4) (v:=?vv5) rfl (by kernel_rfl) (fun _ _ _ h=>h) rfl ?hy5 ?rest5
   case hy5=>(intro wy;go_simp;try with_reducible rfl)
   try simp only [Act.put,CY,CV,CW,CS,CU,CT]
   refine am (i:=5) (v:=?vvA) rfl (by kernel_rfl) (fun _ _ _ h=>h) rfl hS ?hyA ?restA
   case hyA =>
    intro wy hy
    have e2:=(hy.cell (p:=⟨b,_,none⟩) hbw).trans q2
    have e3:=(hy.cell (p:=⟨b,_,none⟩) hbw).trans q3
    have e4:=(hy.cell (p:=⟨b,_,none⟩) hbw).trans q4
    clear hy
    go_simp
    try with_reducible rfl
   try simp only [Act.put,CY,CV,CW,CS,CU,CT]
   refine ae (i:=7) (v:=?vv6) rfl (by kernel_rfl) (fun _ _ _ h=>h) rfl ?hy6 ?rest6
   case hy6=>(intro wy;go_simp;try with_reducible rfl)
   try simp only [Act.put,CY,CV,CW,CS,CU,CT]
   refine ae (i:=8) (v:=?vv7) rfl (by kernel_rfl) (fun _ _ _ h=>h) rfl ?hy7 ?rest7
   case hy7=>(intro wy;go_simp;try with_reducible rfl)
   try simp only [Act.put,CY,CV,CW,CS,CU,CT]
   refine ae (i:=9) (v:=?vv8) rfl (by kernel_rfl) (fun _ _ _ h=>h) rfl ?hy8 ?rest8
   case hy8=>(intro wy;go_simp;try with_reducible rfl)
   try simp only [Act.put,CY,CV,CW,CS,CU,CT]
   refine ae (i:=10) (v:=?vv9) rfl (by kernel_rfl) (fun _ _ _ h=>h) rfl ?hy9 ?rest9
   case hy9=>(intro wy;go_simp;try with_reducible rfl)
   try simp only [Act.put,CY,CV,CW,CS,CU,CT]
   refine am (i:=11) (v:=?vvB) rfl (by kernel_rfl) (fun _ _ _ h=>h) rfl hS ?hyB ?restB
   case hyB =>
    intro wy hy
    have e2:=(hy.cell (p:=⟨b,_,none⟩) hbw).trans q2
    have e3:=(hy.cell (p:=⟨b,_,none⟩) hbw).trans q3
    have e4:=(hy.cell (p:=⟨b,_,none⟩) hbw).trans q4
    clear hy
    go_simp
    try with_reducible rfl
   try simp only [Act.put,CY,CV,CW,CS,CU,CT]
   refine fV (i:=6) (i':=12) rfl rfl (by kernel_rfl) rfl rfl (fun K hK=>?_) (fun K hK=>?_)
   ·go_simp
    refine (HC.out wd hS).mono ?_
    rintro e w4 ⟨v4,rfl,hE4,hb4⟩
    have hS4:=hS.trans (hb4.mono hS.size)
    have hEb:=hS.size
    refine hK _ _ (fun _ _=>hS4) ?_
    clear hK K
    try simp only [Act.put,CY,CV,CW,CS,CU,CT]
    refine ak (i:=12) rfl (by kernel_rfl) rfl (fun K hK=>?_)
    go_simp
    have l5:=bo w4 (.cells #[.int .i64 t.g,.int .i64 t.k] 53)
    have hBw:=hS4.trans (l5.below.mono hS4.size)
    have hEv:=eV (bA hE4 (fun q hq=>l5.below.block q (ax hE4 hq).2.1)) hEb
    have hc0:=aa l5.s0 0
    have hc1:=aa l5.s0 1
    refine hK _ _ (fun _ _=>hBw) ?_
    clear hK K hS hS4 hE4 hb4 l5 hEb
    try simp only [Act.put,CY,CV,CW,CS,CU,CT]
    generalize w4.alloc (.cells #[.int .i64 t.g,.int .i64 t.k] 53)=w5 at *
    refine ak (i:=13) rfl (by kernel_rfl) rfl (fun K hK=>?_)
    refine ux _ _ rfl w.heap.size _ (jO L j k) rfl hEv (by have:=hlen;omega) hBw.size w4.heap.size t rfl hc0 hc1 ?_
    intro gn cn w9 hE9 hg9
    have hB9:Below w.heap.size w w9:=hBw.grown hg9 hBw.size (fun q hq=>(ax hEv hq).1)
    refine hK _ _ (fun _ _=>hB9) ?_
    clear hK K hEv hBw hg9 hc0 hc1
    try simp only [Act.put,CY,CV,CW,CS,CU,CT]
    refine ae (i:=14) (v:=?vv10) rfl (by kernel_rfl) (fun _ _ _ h=>h) rfl ?hy10 ?rest10
    case hy10=>(intro wy;go_simp;try with_reducible rfl)
    try simp only [Act.put,CY,CV,CW,CS,CU,CT]
    try simp only [Act.put,CY,CV,CW,CS,CU,CT]
    refine aA (by kernel_rfl) ?_ _
    simp only [aJ]
    go_wp2_with fail
    go_ret
    exact ⟨_,rfl,by rw [HW.out];exact hE9,hB9⟩
   ·go_simp
    have l5:=bo wd (.cells #[.int .i64 t.g,.int .i64 t.k] 53)
    have hS5:=hS.trans (l5.below.mono hS.size)
    refine hK _ _ (fun _ _=>hS5) ?_
    clear hK K
    try simp only [Act.put,CY,CV,CW,CS,CU,CT]
    refine ak (i:=6) rfl (by kernel_rfl) rfl (fun K hK=>?_)
    go_simp
    refine (HC.out _ hS5).mono ?_
    rintro e w4 ⟨v4,rfl,hE4,hb4⟩
    have hBw:=hS5.trans (hb4.mono hS5.size)
    have hEv:=eV hE4 hS5.size
    have r5:=(hb4.block _ (ac l5.s0)).trans l5.s0
    have hc0:=aa r5 0
    have hc1:=aa r5 1
    refine hK _ _ (fun _ _=>hBw) ?_
    clear hK K hS hS5 hE4 hb4 l5 r5
    try simp only [Act.put,CY,CV,CW,CS,CU,CT]
    refine ak (i:=13) rfl (by kernel_rfl) rfl (fun K hK=>?_)
    refine ux _ _ rfl w.heap.size _ (jO L j k) rfl hEv (by have:=hlen;omega) hBw.size wd.heap.size t rfl hc0 hc1 ?_
    intro gn cn w9 hE9 hg9
    have hB9:Below w.heap.size w w9:=hBw.grown hg9 hBw.size (fun q hq=>(ax hEv hq).1)
    refine hK _ _ (fun _ _=>hB9) ?_
    clear hK K hEv hBw hg9 hc0 hc1
    try simp only [Act.put,CY,CV,CW,CS,CU,CT]
    refine ae (i:=14) (v:=?vv11) rfl (by kernel_rfl) (fun _ _ _ h=>h) rfl ?hy11 ?rest11
    case hy11=>(intro wy;go_simp;try with_reducible rfl)
    try simp only [Act.put,CY,CV,CW,CS,CU,CT]
    try simp only [Act.put,CY,CV,CW,CS,CU,CT]
    refine aA (by kernel_rfl) ?_ _
    simp only [aJ]
    go_wp2_with fail
    go_ret
    exact ⟨_,rfl,by rw [HW.out];exact hE9,hB9⟩
end Go.Proofs.YtnkgbocdpngldaaGreatDoor

namespace Go.Proofs.YtnkgbocdpngldaaGreatDoor
open Go.RowKit Dc Dg
theorem gS.at_key {x0:St} {R:List (St×aD)} {L:List (St×Int×Ev)} (h:gS x0 R L) {j:Nat} (hj:j<L.length):∃ q,R[j]?=some q∧q.1=L[j].1:=by
 have hl:=h.len
 have hk:=congrArg (fun l=>l[j]?) h.key
 simp only [ay,Do,C1 hj,C1 (show j<R.length by omega),EC] at hk
 exact ⟨R[j],C1 (by omega),(Option.some.inj hk).symm⟩
theorem gS.srcs {x0:St} {R:List (St×aD)} {L:List (St×Int×Ev)} (h:gS x0 R L):∀ j (hj:j<L.length),L[j].2.1<0∨∃ k:Nat,k<j∧L[j].2.1=(k:Int):=by
 intro j hj
 by_cases h0:j=0
 ·subst h0
  obtain ⟨v,hv⟩:=h.zero
  rw [C1 hj] at hv
  left
  rw [Option.some.inj hv]
  show (-1:Int)<0
  decide
 ·right
  obtain ⟨k,h1,h2,_⟩:=h.src j _ (by omega) (C1 hj)
  exact ⟨k,h1,h2⟩
theorem qD {M:aB} (G:M.Good) {al:Ev→Bool} {fd:St→Bool} {x:St} (hx:M.At x) {L:List (St×Int×Ev)} (hL:gS x (d8 M x al) L) {i:Nat} (hi:i<L.length) (hf:fd L[i].1=true) (hn:∀ j (h:j<L.length),j<i→fd L[j].1=false) :
  (match a7 M x al fd with | (some y,R)=>(lD R y,(0:Int)) | (none,_)=>([],4))=(jO L (i+1) i,0):=by
 obtain ⟨q,hq,hqk⟩:=hL.at_key hi
 rcases kO G (al:=al) (fd:=fd) hx with ⟨i0,p,h1,h2,h3,R,h4,h5⟩ | ⟨h1,R,h4⟩
 ·have hi0:i0=i:=by
   rcases Fx i0 i with h | h | h
   ·exfalso
    obtain ⟨q0,hq0,hk0⟩:=hL.at_key (show i0<L.length by omega)
    rw [h1] at hq0
    have e:=Option.some.inj hq0
    have:=hn i0 (by omega) h
    rw [←hk0,←e,h2] at this
    cases this
   ·exact h
   ·exfalso
    have:=h3 i q h hq
    rw [hqk,hf] at this
    cases this
  subst hi0
  rw [h4]
  simp only
  rw [h5,Cd (mU G hx) hL i0 p h1 (i0+1) (by omega)]
 ·exfalso
  have:=h1 i q hq
  rw [hqk,hf] at this
  cases this
theorem sD {M:aB} (G:M.Good) {al:Ev→Bool} {fd:St→Bool} {x:St} (hx:M.At x) {L:List (St×Int×Ev)} (hL:gS x (d8 M x al) L) (hn:∀ j (h:j<L.length),fd L[j].1=false) :
  (match a7 M x al fd with | (some y,R)=>(lD R y,(0:Int)) | (none,_)=>([],4))=([],4):=by
 rcases kO G (al:=al) (fd:=fd) hx with ⟨i0,p,h1,h2,h3,R,h4,h5⟩ | ⟨h1,R,h4⟩
 ·exfalso
  have hl:=hL.len
  have hi0:=(C4.1 h1).1
  obtain ⟨q,hq,hk⟩:=hL.at_key (show i0<L.length by omega)
  rw [h1] at hq
  have:=hn i0 (by omega)
  rw [←hk,←Option.some.inj hq,h2] at this
  cases this
 ·rw [h4]
theorem pt (gs:List Gd) (p:Option Addr) (c:Nat) (a:Int×Int) (w:World) (hG:bh w p gs) (hS:a8 gs=true) :
  Calls Tryz.prog 51 #[.agg #[.slice p gs.length c],.agg #[.int .i64 a.1,.int .i64 a.2]] w fun e w'=>e=.returned (.bool (bN gs a))∧Below w.heap.size w w':=by
 obtain ⟨hn1,hn3⟩:=bV hS
 obtain ⟨a1,a2⟩:=a
 have HSy:=CX hS
 have hO:bN gs (a1,a2)=((decide (0≤a1)&&decide (a1≤(gs.length:Int)-1))&&(decide (0≤a2)&&decide (a2≤((ag gs a1.toNat).length:Int)-1))):=rfl
 have HO:=CX hO
 simp only
 have hl:=iN w (.cells #[.slice p gs.length c] 24) (.cells #[.int .i64 a1,.int .i64 a2] 25)
 have HG:=CX (hG.below hl.below)
 clear hO hS hG
 go_enter Tryz.func51,Tryz.ntmps51
 go_upto_region 1 with fail
 generalize (w.alloc (.cells #[.slice p gs.length c] 24)).alloc (.cells #[.int .i64 a1,.int .i64 a2] 25)=w1 at *
 have y0:∀ x:ah w1,x.w.cell? ⟨w.heap.size,0,none⟩=some (.slice p gs.length c):=fun x=>(x.cell (ac hl.s0)).trans (aa hl.s0 0)
 have y1:∀ x:ah w1,x.w.cell? ⟨w.heap.size+1,0,none⟩=some (.int .i64 a1):=fun x=>(x.cell (ac hl.s1)).trans (aa hl.s1 0)
 have y2:∀ x:ah w1,x.w.cell? ⟨w.heap.size+1,1,none⟩=some (.int .i64 a2):=fun x=>(x.cell (ac hl.s1)).trans (aa hl.s1 1)
 have HB:=hl.below
 have HI:Hid (∀ x:ah w1,Calls Tryz.prog 33 #[.int .i64 a1,.int .i64 0,.int .i64 ((gs.length:Int)-1)] x.w fun e w''=>e=.returned (.bool (decide (0≤a1)&&decide (a1≤(gs.length:Int)-1)))∧∃ z:ah w1,w''=z.w):=fun x=>ah.calls (kE _ _ _ x.w)
 clear hl
 by_cases hin:0≤a1∧a1≤(gs.length:Int)-1
 ·have hbi:(decide (0≤a1)&&decide (a1≤(gs.length:Int)-1))=true:=by simp;omega
  rw [hbi] at HI HO
  obtain ⟨g,rfl⟩:∃ g:Nat,a1=(g:Int):=⟨a1.toNat,by omega⟩
  have hg:g<gs.length:=by omega
  rw [Dm,Bool.true_and] at HO
  obtain ⟨bg,og,rfl,hbg,hcg⟩:=HG.out.at_ (by omega)
  obtain ⟨q,cq,e0,e1,hR⟩:=hcg g hg
  have hra:ag gs g=gs[g].rungs:=by unfold ag;rw [C1 hg]
  rw [←hra] at e1
  have hr8:=(cY (bE HSy.out hg)).2
  have y3:∀ x:ah w1,x.w.cell? ⟨bg,og+g*2+1,none⟩=some (.slice q (ag gs g).length cq):=fun x=>(x.cell (p:=⟨bg,_,none⟩) hbg).trans e1
  have HJ:Hid (∀ x:ah w1,Calls Tryz.prog 33 #[.int .i64 a2,.int .i64 0,.int .i64 (((ag gs g).length:Int)-1)] x.w fun e w''=>e=.returned (.bool (decide (0≤a2)&&decide (a2≤((ag gs g).length:Int)-1)))∧∃ z:ah w1,w''=z.w):=fun x=>ah.calls (kE _ _ _ x.w)
  have hgI:(g:Int)<(gs.length:Int):=by omega
  obtain ⟨bb,hbb⟩:∃ b,b=(decide (0≤a2)&&decide (a2≤((ag gs g).length:Int)-1)):=⟨_,rfl⟩
  rw [←hbb] at HJ HO
  clear hin hbi hcg e0 e1 hR hra hbb
  cases bb <;>
  ·refine aj (by kernel_rfl) (by kernel_rfl) ?_
   repeat (go_big_quiet_step ((first | (go_at_call 33;with_reducible exact HI.out _) | (go_at_call 33;with_reducible exact HJ.out _))))
   refine wpQuiet_nil ?_
   rintro _ ⟨⟨w5,hbN⟩,rfl⟩
   have HB5:=HB.trans (hbN.mono HB.size)
   clear HI HJ y0 y1 y2 y3 hbN
   go_wp2
   go_ret
   exact ⟨by rw [HO.out];rfl,HB5⟩
 ·have hbi:(decide (0≤a1)&&decide (a1≤(gs.length:Int)-1))=false:=by rw [D0];intro h;simp at h;omega
  rw [hbi] at HI HO
  have HJ:=HI
  clear hin hbi
  refine aj (by kernel_rfl) (by kernel_rfl) ?_
  repeat (go_big_quiet_step ((first | (go_at_call 33;with_reducible exact HI.out _) | (go_at_call 33;with_reducible exact HJ.out _))))
  refine wpQuiet_nil ?_
  rintro _ ⟨⟨w5,hbN⟩,rfl⟩
  have HB5:=HB.trans (hbN.mono HB.size)
  clear HI HJ y0 y1 y2 hbN
  go_wp2
  go_ret
  exact ⟨by rw [HO.out];rfl,HB5⟩
end Go.Proofs.YtnkgbocdpngldaaGreatDoor
