/-
  Texts of this claim: RB6, Lme1.
-/
import Derived.Test.YtnkgbocdpngldaaGreatDoorYRun
import Derived.Test.YtnkgbocdpngldaaGreatDoorYRB4
import Derived.Test.YtnkgbocdpngldaaGreatDoorYA
set_option linter.unusedVariables false
set_option linter.unusedSimpArgs false
set_option maxRecDepth 100000
set_option maxHeartbeats 8000000

namespace Go.Proofs.YtnkgbocdpngldaaGreatDoor
open Go.RowKit Dc Dg
theorem yU (gs:List Gd) (p:Option Addr) (c:Nat) (a b:Int×Int) (w:World) (hP:fL w p c gs) :
  Calls Tryz.prog 14 #[.agg #[.slice p gs.length c],.agg #[.int .i64 a.1,.int .i64 a.2],.agg #[.int .i64 b.1,.int .i64 b.2]] w (fM w (cV gs a b)):=by
 obtain ⟨a1,a2⟩:=a
 obtain ⟨b1,b2⟩:=b
 simp only
 have hl:=ni w (.cells #[.slice p gs.length c] 24) (.cells #[.int .i64 a1,.int .i64 a2] 25) (.cells #[.int .i64 b1,.int .i64 b2] 25)
 have P1:=hP.below hl.below
 clear hP
 go_enter Tryz.func14,Tryz.ntmps14
 go_upto_region 1 with fail
 generalize ((w.alloc (.cells #[.slice p gs.length c] 24)).alloc (.cells #[.int .i64 a1,.int .i64 a2] 25)).alloc (.cells #[.int .i64 b1,.int .i64 b2] 25)=w1 at *
 have x0:=aa hl.s0 0
 go_wp2_with fail
 refine (oT gs p c w1 P1.G P1.X P1.F).mono ?_
 rintro e w2 ⟨rfl,hb2⟩
 have P2:=P1.below hb2
 have r0:=(hb2.block _ (ac hl.s0)).trans hl.s0
 have r1:=(hb2.block _ (ac hl.s1)).trans hl.s1
 have r2:=(hb2.block _ (ac hl.s2)).trans hl.s2
 have HB2:=hl.below.trans (hb2.mono hl.below.size)
 clear hl P1 hb2 x0
 obtain ⟨bs,hbs⟩:∃ b,b=a8 gs:=⟨_,rfl⟩
 rw [←hbs]
 have HBS:=CX hbs
 clear hbs
 cases bs
 ·rw [if_neg Db]
  have HR:Hid (cV gs (a1,a2) (b1,b2)=([],40)):=by unfold Hid cV;rw [if_neg (by rw [←HBS.out];exact Db)]
  go_wp2
  go_ret2
  exact fM.none _ _ HR.out HB2
 ·rw [if_pos rfl]
  have HSy:Hid (a8 gs=true):=HBS.out.symm
  obtain ⟨hn1,hn3⟩:=bV HSy.out
  have GD:=CX (aW HSy.out)
  have x0:=aa r0 0
  have x1:=aa r1 0
  have x2:=aa r1 1
  have x3:=aa r2 0
  have x4:=aa r2 1
  go_wp2_with fail
  refine (pt gs p c (a1,a2) w2 P2.G HSy.out).mono ?_
  rintro e w3 ⟨rfl,hb3⟩
  have P3:=P2.below hb3
  have q0:=(hb3.block _ (ac r0)).trans r0
  have q1:=(hb3.block _ (ac r1)).trans r1
  have q2:=(hb3.block _ (ac r2)).trans r2
  have HB3:=HB2.trans (hb3.mono HB2.size)
  clear P2 hb3 r0 r1 r2 x0 x1 x2 x3 x4 HB2
  obtain ⟨ba,hba⟩:∃ b,b=bN gs (a1,a2):=⟨_,rfl⟩
  rw [←hba]
  have HBA:=CX hba
  clear hba
  cases ba
  ·have HNO:Hid (¬ ((bN gs (a1,a2)&&bN gs (b1,b2))=true∧¬ (a1,a2).1=(b1,b2).1)):=by unfold Hid;rw [←HBA.out];simp
   have HB2:=HB3
   have HR:Hid (cV gs (a1,a2) (b1,b2)=([],2)):=by unfold Hid cV;rw [if_pos HSy.out,if_neg HNO.out]
   go_wp2
   go_ret2
   exact fM.none _ _ HR.out HB2
  ·have x0:=aa q0 0
   have x3:=aa q2 0
   have x4:=aa q2 1
   go_wp2_with fail
   refine (pt gs p c (b1,b2) w3 P3.G HSy.out).mono ?_
   rintro e w2 ⟨rfl,hb2⟩
   have P2:=P3.below hb2
   have r0:=(hb2.block _ (ac q0)).trans q0
   have r1:=(hb2.block _ (ac q1)).trans q1
   have r2:=(hb2.block _ (ac q2)).trans q2
   have HB2:=HB3.trans (hb2.mono HB3.size)
   clear P3 hb2 q0 q1 q2 x0 x3 x4 HB3
   obtain ⟨bb,hbb⟩:∃ b,b=bN gs (b1,b2):=⟨_,rfl⟩
   rw [←hbb]
   have HBB:=CX hbb
   clear hbb
   cases bb
   ·have HNO:Hid (¬ ((bN gs (a1,a2)&&bN gs (b1,b2))=true∧¬ (a1,a2).1=(b1,b2).1)):=by unfold Hid;rw [←HBB.out];simp
    have HR:Hid (cV gs (a1,a2) (b1,b2)=([],2)):=by unfold Hid cV;rw [if_pos HSy.out,if_neg HNO.out]
    go_wp2
    go_ret2
    exact fM.none _ _ HR.out HB2
   ·have x1:=aa r1 0
    have x3:=aa r2 0
    by_cases hab:a1=b1
    ·have HNO:Hid (¬ ((bN gs (a1,a2)&&bN gs (b1,b2))=true∧¬ (a1,a2).1=(b1,b2).1)):=by unfold Hid;simp [hab]
     have hd:(a1 == b1)=true:=by simp [hab]
     clear hab
     have HR:Hid (cV gs (a1,a2) (b1,b2)=([],2)):=by unfold Hid cV;rw [if_pos HSy.out,if_neg HNO.out]
     go_wp2
     go_ret2
     exact fM.none _ _ HR.out HB2
    ·have HMG:Hid (cV gs (a1,a2) (b1,b2)=(match a7 (ai gs) St.zero xD (lp (a1.toNat,a2) (b1.toNat,b2)) with | (some y,R)=>(lD R y,0) | (none,_)=>([],4))):=by
      unfold Hid cV
      rw [if_pos HSy.out,if_pos ⟨by rw [←HBA.out,←HBB.out];rfl,hab⟩]
      rfl
     have hd:(a1 == b1)=false:=by simp [hab]
     have hpa:0≤a1∧a1<gs.length:=by
      have:=HBA.out.symm
      unfold bN at this
      simp only [C5,decide_eq_true_eq] at this
      omega
     have hpb:0≤b1∧b1<gs.length:=by
      have:=HBB.out.symm
      unfold bN at this
      simp only [C5,decide_eq_true_eq] at this
      omega
     clear hab
     go_upto_region 6 with fail
     clear x1 x3 hd
     obtain ⟨na,rfl⟩:∃ n:Nat,a1=(n:Int):=⟨a1.toNat,by omega⟩
     obtain ⟨nb,rfl⟩:∃ n:Nat,b1=(n:Int):=⟨b1.toNat,by omega⟩
     rw [Dm,Dm] at HMG
     have hS:Below w2.heap.size w2 w2.drew:=(Below.refl _ _).drew
     refine wp_mono (aw (Q:=aJ _) (fun wx:World=>Below w2.heap.size w2 wx) (fun i=>false) (by kernel_rfl) ?_) (fun _ _ _ h=>aK h)
     generalize w2.drew=wd at *
     refine am (i:=0) (v:=?vvA) rfl (by kernel_rfl) (fun _ _ _ h=>h) rfl hS ?hyA ?restA
     case hyA =>
      intro wy hy
      have e2:=aa ((hy.block _ (ac r0)).trans r0) 0
      clear hy
      go_simp
      try with_reducible rfl
     try simp only [Act.put,CY,CV,CW,CS,CU,CT]
     refine am (i:=1) (v:=?vvB) rfl (by kernel_rfl) (fun _ _ _ h=>h) rfl hS ?hyB ?restB
     case hyB =>
      intro wy hy
      have e2:=aa ((hy.block _ (ac r0)).trans r0) 0
      clear hy
      go_simp
      try with_reducible rfl
     try simp only [Act.put,CY,CV,CW,CS,CU,CT]
     refine ak (i:=2) rfl (by kernel_rfl) rfl (fun K hK=>?_)
     go_simp
     refine (oR gs p c wd hn3).mono ?_
     rintro e w4 ⟨u1,u2,rfl,hL,hb4⟩
     obtain ⟨ga,d1,rfl,hga,_⟩:=hL.a.some (by rw [fi hn3];omega)
     obtain ⟨gf,d2,rfl,hgf,_⟩:=hL.f.some (by rw [eB hn3];omega)
     rw [fi hn3] at hL ⊢
     rw [eB hn3] at hL ⊢
     have hS4:=hS.trans (hb4.mono hS.size)
     refine hK _ _ (fun _ _=>hS4) ?_
     clear hK K
     try simp only [Act.put,CY,CV,CW,CS,CU,CT]
     refine ak (i:=3) rfl (by kernel_rfl) rfl (fun K hK=>?_)
     go_simp
     refine (sV gs p c _ d1 _ d2 St.zero xD 2 w4 (P2.below hS4) hL.a.q hL.f.q HSy.out (aB.At.zero GD.out) pG).mono ?_
     rintro e w5 ⟨pv,cv,L,rfl,hRL,hQ,hl32,hb5⟩
     have hS5:=hS4.trans (hb5.mono hS4.size)
     refine hK _ _ (fun _ _=>hS5) ?_
     clear hK K hS hS4 hb4 hb5 hL hga hgf
     try simp only [Act.put,CY,CV,CW,CS,CU,CT]
     refine ae (i:=4) (v:=?vv1) rfl (by kernel_rfl) (fun _ _ _ h=>h) rfl ?hy1 ?rest1
     case hy1=>(intro wy;go_simp;try with_reducible rfl)
     try simp only [Act.put,CY,CV,CW,CS,CU,CT]
     try simp only [Act.put,CY,CV,CW,CS,CU,CT]
     refine aA (by kernel_rfl) ?_ _
     simp only [aJ]
     have HRL:=CX hRL
     have HAT:=CX (uY HSy.out (aB.At.zero GD.out) HRL.out)
     have HAL:=CX (show ∀ z,(atL gs.length z).length=gs.length from fun z=>fi hn3 z)
     have r1:=(hS5.block _ (ac r1)).trans r1
     have r2:=(hS5.block _ (ac r2)).trans r2
     have HB5:=HB2.trans (hS5.mono HB2.size)
     have HQ:=CX hQ
     clear r0 HB2 hRL hQ hS5 P2
     go_wp2_with fail
     go_loopw [10] (fun s10 wx=>∃ i:Nat,s10=.int .i64 i∧i≤L.length∧Below w5.heap.size w5 wx∧Hid (∀ j (h:j<L.length),j<i→lp (na,a2) (nb,b2) L[j].1=false)) (fun s10 _=>L.length-(intOf s10).toNat)
     case atStart=>exact ⟨0,rfl,by omega,Below.refl _ _,fun j h h2=>by omega⟩
     case round =>
      obtain ⟨i,rfl,hi,hbw,hx⟩:=hrel
      by_cases hil:i<L.length
      ·obtain ⟨bk,o,u1,u2,rfl,hbw5,q0,-,-,-,-,hq1,-⟩:=HQ.out.get hil
       obtain ⟨x,hxe⟩:∃ x,x=L[i].1:=⟨_,rfl⟩
       rw [←hxe] at hq1
       have HX:=CX hxe
       obtain ⟨ka,oa,cn,rfl⟩:=hq1.form (HAL.out x) (by omega)
       have q0:=(hbw.cell (p:=⟨bk,_,none⟩) hbw5).trans q0
       have hqa:=hq1.below hbw
       obtain ⟨ka',oa',e',-,-,-,hca⟩:=hqa.at? (j9 hn3 x (show na<gs.length by omega))
       obtain ⟨rfl,rfl⟩:ka=ka'∧oa=oa':=by simpa using e'
       obtain ⟨ka',oa',e2,-,-,-,hcb⟩:=hqa.at? (j9 hn3 x (show nb<gs.length by omega))
       obtain ⟨rfl,rfl⟩:ka=ka'∧oa=oa':=by simpa using e2
       have k1:=(hbw.block _ (ac r1)).trans r1
       have k2:=(hbw.block _ (ac r2)).trans r2
       have x1:=aa k1 0
       have x2:=aa k1 1
       have x3:=aa k2 0
       have x4:=aa k2 1
       have hiI:(i:Int)<(L.length:Int):=by omega
       have hnI:(na:Int)<(gs.length:Int):=by omega
       have hmI:(nb:Int)<(gs.length:Int):=by omega
       have HMS:Hid (lp (na,a2) (nb,b2) x=(decide (x.a na=a2)&&decide (x.a nb=b2))):=rfl
       obtain ⟨va,hva⟩:∃ v,v=x.a na:=⟨_,rfl⟩
       obtain ⟨vb,hvb⟩:∃ v,v=x.a nb:=⟨_,rfl⟩
       rw [←hva] at hca HMS
       rw [←hvb] at hcb HMS
       clear hxe hq1 hqa e' e2 k1 k2 hbw5 hva hvb
       go_wp2_with fail
       by_cases h1:va=a2
       ·have hd1:(va == a2)=true:=by simp [h1]
        have D1:=decide_eq_true h1
        by_cases h2:vb=b2
        ·have hd2:(vb == b2)=true:=by simp [h2]
         have HM1:Hid (lp (na,a2) (nb,b2) x=true):=by unfold Hid;rw [HMS.out,D1,decide_eq_true h2];rfl
         clear h1 h2 D1
         go_quiet (fail)
         have hbd:=hbw.trans ((below_drewN (Below.refl wr.heap.size wr) nq).mono hbw.size)
         go_wp2_with fail
         refine (Bg gs.length _ cv L.length L rfl hl32 HRL.out.srcs i hil (i+1) (by omega) (by omega) _ (HQ.out.below hbd)).mono ?_
         rintro e w8 ⟨v,rfl,hE,hb8⟩
         have hB8:=HB5.trans (hbd.mono HB5.size)
         have HR:=CX (HMG.out.trans (qD GD.out (aB.At.zero GD.out) HRL.out hil (by rw [←HX.out];exact HM1.out) hx.out))
         clear q0 x1 x2 x3 x4 hca hcb
         go_wp2
         go_ret2
         refine ⟨v,?_,?_,hB8.trans (hb8.mono hB8.size)⟩
         ·rw [HR.out];rfl
         ·rw [HR.out];exact eV hE hB8.size
        ·have hd2:(vb == b2)=false:=by simp [h2]
         have HM1:Hid (lp (na,a2) (nb,b2) x=false):=by unfold Hid;rw [HMS.out,decide_eq_false h2,Ep]
         clear h1 h2 D1
         go_quiet (fail)
         have hbd:=hbw.trans ((below_drewN (Below.refl wr.heap.size wr) nq).mono hbw.size)
         go_wp2
         go_roundw
         case rel=>exact ⟨i+1,by go_num,by omega,hbd,fun j h h3=>by
          by_cases hj:j=i
          ·subst hj;rw [←HX.out];exact HM1.out
          ·exact hx.out j h (by omega)⟩
         case measure=>simp [intOf];omega
       ·have hd1:(va == a2)=false:=by simp [h1]
        have HM1:Hid (lp (na,a2) (nb,b2) x=false):=by unfold Hid;rw [HMS.out,decide_eq_false h1,Bool.false_and]
        clear h1
        go_quiet (fail)
        have hbd:=hbw.trans ((below_drewN (Below.refl wr.heap.size wr) nq).mono hbw.size)
        go_wp2
        go_roundw
        case rel=>exact ⟨i+1,by go_num,by omega,hbd,fun j h h3=>by
         by_cases hj:j=i
         ·subst hj;rw [←HX.out];exact HM1.out
         ·exact hx.out j h (by omega)⟩
        case measure=>simp [intOf];omega
      ·obtain rfl:i=L.length:=by omega
       have HR:=CX (HMG.out.trans (sD GD.out (aB.At.zero GD.out) HRL.out (fun j h=>hx.out j h h)))
       have hB8:=HB5.trans (hbw.mono HB5.size)
       clear hil hi hx
       go_wp2
       go_ret2
       exact fM.none _ _ HR.out hB8
end Go.Proofs.YtnkgbocdpngldaaGreatDoor

namespace Go.Proofs.YtnkgbocdpngldaaGreatDoor
open Go.RowKit Dc Dg
theorem oP (R:List (St×aD)):∀ m x,(dF R m x).length≤m
 | 0,_=>CZ _
 | m+1,x=>by
  rw [dF]
  split
  ·exact Di _
  ·split
   ·exact Di _
   ·rw [De];have:=oP R m;rename_i s _ _;have:=this s.src;omega
theorem uc {M:aB} (G:M.Good) {al:Ev→Bool} {fd:St→Bool} {x:St} (hx:M.At x):(match a7 M x al fd with | (some y,R)=>(lD R y,(0:Int)) | (none,_)=>([],4)).1.length≤1000000:=by
 have h:=fT G (al:=al) (fd:=fd) hx
 revert h
 generalize a7 M x al fd=res
 obtain ⟨r,R⟩:=res
 cases r with
 | none=>intro _;exact Di _
 | some y =>
  intro h
  obtain ⟨i,s,hI,_⟩:=h.ex
  have h1:=dC G hI
  have h2:=oP R R.length y
  show (lD R y).length≤_
  unfold lD
  rw [List.length_reverse]
  omega
theorem ws (gs:List Gd) (a b:Int×Int):(cV gs a b).1.length≤1000000:=by
 unfold cV
 split
 ·rename_i hS
  split
  ·exact uc (aW hS) (aB.At.zero (aW hS))
  ·exact Di _
 ·exact Di _
def Cr (w:World) (e:Ending) (w':World):Prop:=e=.returned (.bool true)∧Below w.heap.size w w'
theorem tN (gs:List Gd) (p:Option Addr) (c:Nat) (a1 a2 b1 b2:Int) (w:World) (hP:fL w p c gs) :
  Calls Tryz.prog 3 #[.agg #[.slice p gs.length c],.agg #[.int .i64 a1,.int .i64 a2],.agg #[.int .i64 b1,.int .i64 b2]] w (Cr w):=by
 have hl:=ni w (.cells #[.slice p gs.length c] 24) (.cells #[.int .i64 a1,.int .i64 a2] 25) (.cells #[.int .i64 b1,.int .i64 b2] 25)
 have P1:=hP.below hl.below
 clear hP
 go_enter Tryz.func3,Tryz.ntmps3
 go_upto_region 1 with fail
 generalize ((w.alloc (.cells #[.slice p gs.length c] 24)).alloc (.cells #[.int .i64 a1,.int .i64 a2] 25)).alloc (.cells #[.int .i64 b1,.int .i64 b2] 25)=w1 at *
 have x0:=aa hl.s0 0
 go_wp2_with fail
 refine (xX gs p c w1 P1).mono ?_
 rintro e w2 ⟨rfl,hb2⟩
 have P2:=P1.below hb2
 have r0:=(hb2.block _ (ac hl.s0)).trans hl.s0
 have r1:=(hb2.block _ (ac hl.s1)).trans hl.s1
 have r2:=(hb2.block _ (ac hl.s2)).trans hl.s2
 have HB2:=hl.below.trans (hb2.mono hl.below.size)
 clear hl P1 hb2 x0
 have x0:=aa r0 0
 obtain ⟨en,hen⟩:∃ en:Int,en=(if a8 gs then 0 else 40):=⟨_,rfl⟩
 rw [←hen]
 have HEN:=CX hen
 clear hen
 go_wp2_with fail
 refine (vI gs p c w2 P2).mono ?_
 rintro e w3 ⟨rfl,hb3⟩
 rw [←HEN.out]
 have P3:=P2.below hb3
 have q0:=(hb3.block _ (ac r0)).trans r0
 have q1:=(hb3.block _ (ac r1)).trans r1
 have q2:=(hb3.block _ (ac r2)).trans r2
 have HB3:=HB2.trans (hb3.mono HB2.size)
 clear P2 hb3 r0 r1 r2 x0 HB2
 have x0:=aa q0 0
 have x1:=aa q1 0
 have x2:=aa q1 1
 have x3:=aa q2 0
 have x4:=aa q2 1
 have HML:=CX (ws gs (a1,a2) (b1,b2))
 go_wp2_with fail
 refine (Br gs p c (a1,a2) (b1,b2) w3 P3).mono ?_
 rintro e w4 ⟨v4,rfl,hE4,hb4⟩
 have P4:=P3.below hb4
 have r0:=(hb4.block _ (ac q0)).trans q0
 have r1:=(hb4.block _ (ac q1)).trans q1
 have r2:=(hb4.block _ (ac q2)).trans q2
 have HB4:=HB3.trans (hb4.mono HB3.size)
 have HE4:=CX hE4
 clear P3 hb4 q0 q1 q2 x0 x1 x2 x3 x4 HB3 hE4
 have x0:=aa r0 0
 have x1:=aa r1 0
 have x2:=aa r1 1
 have x3:=aa r2 0
 have x4:=aa r2 1
 obtain ⟨mn,hmn⟩:∃ mn:Int,mn=(cV gs (a1,a2) (b1,b2)).2:=⟨_,rfl⟩
 rw [←hmn]
 have HMN:=CX hmn
 clear hmn
 go_wp2_with fail
 refine (yU gs p c (a1,a2) (b1,b2) w4 P4).mono ?_
 rintro e w5 ⟨v5,rfl,hE5,hb5⟩
 rw [←HMN.out]
 have X5:=(P4.below hb5).X
 have HE4:=CX ((HE4.out.below hb5).q)
 have HE5:=CX hE5.q
 have HB5:=HB4.trans (hb5.mono HB4.size)
 clear P4 hb5 r0 r1 r2 x0 x1 x2 x3 x4 HB4 hE5
 go_wp2_with fail
 refine (lX v4 v5 _ _ w5 HE4.out HE5.out HML.out HML.out).mono ?_
 rintro e w6 ⟨rfl,hb6⟩
 rw [show decide ((cV gs (a1,a2) (b1,b2)).1=(cV gs (a1,a2) (b1,b2)).1)=true from by simp]
 have HB6:=HB5.trans (hb6.mono HB5.size)
 go_wp2_with fail
 refine (Ce w6 (X5.below hb6)).mono ?_
 rintro e w7 ⟨rfl,hb7⟩
 go_wp2
 go_ret
 exact ⟨rfl,HB6.trans (hb7.mono HB6.size)⟩
end Go.Proofs.YtnkgbocdpngldaaGreatDoor
