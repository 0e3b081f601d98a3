/- Lemmas of this claim. -/
import Derived.Test.YtnkgbocdpngldaaGreatDoorWSta3
import Derived.Test.YtnkgbocdpngldaaGreatDoorWMachW
import Derived.Test.YtnkgbocdpngldaaGreatDoorWRB3
set_option linter.all false
set_option maxRecDepth 100000
set_option maxHeartbeats 8000000
namespace Go.Proofs.YtnkgbocdpngldaaGreatDoor
open Go.RowKit Dc Dg
theorem xQ (gs:List Gd) (p:Option Addr) (c:Nat) (g bad:Int) (w:World) (hP:fm w p c gs) :
  Calls Tryz.prog 25 #[.agg #[.slice p gs.length c],.int .i64 g,.int .i64 bad] w (fp w (d7 gs g bad)):=by
 have hl:=bj w (.cells #[.slice p gs.length c] 24)
 have P1:=hP.below hl.below
 clear hP
 go_enter Tryz.func25,Tryz.ntmps25
 go_upto_region 1 with fail
 generalize w.alloc (.cells #[.slice p gs.length c] 24)=w1 at *
 have x0:=aa hl.s0 0
 go_wp2_with fail
 refine (pH gs p c w1 P1.G P1.X P1.F).mono ?_
 rintro e w2 ⟨rfl,hb2⟩
 have P2:=P1.below hb2
 have r0:=(hb2.block _ (ac hl.s0)).trans hl.s0
 have HB2:=hl.below.trans (hb2.mono hl.below.size)
 clear hl P1 hb2 x0
 obtain⟨bs,hbs⟩:∃ b,b=a8 gs:=⟨_,rfl⟩
 rw[←hbs]
 have HBS:=Do hbs
 clear hbs
 cases bs
 ·rw[if_neg DB]
  have HR:Hid (d7 gs g bad=(0,40)):=by unfold Hid d7;rw[if_neg (by rw[←HBS.out];exact DB)]
  go_wp2
  go_ret2
  exact fp.is HR.out HB2
 ·rw[if_pos rfl]
  have HSy:Hid (a8 gs=true):=HBS.out.symm
  obtain⟨hn1,hn3⟩:=bN HSy.out
  have x0:=aa r0 0
  go_wp2_with fail
  refine (jc g 0 ((gs.length:Int)-1) w2).mono ?_
  rintro e w3 ⟨rfl,rfl⟩
  obtain⟨b1,hb1⟩:∃ b,b=(decide (0≤g)&&decide (g≤(gs.length:Int)-1)):=⟨_,rfl⟩
  rw[←hb1]
  have HB1:=Do hb1
  clear hb1
  cases b1
  ·have HR:Hid (d7 gs g bad=(0,2)):=by
    unfold Hid d7
    have:=HB1.out
    rw[if_pos HSy.out,if_neg (fun h=>by rw[decide_eq_true h.1,decide_eq_true h.2] at this;cases this)]
   go_wp2
   go_ret2
   exact fp.is HR.out HB2
  ·have hg:0≤g∧g≤(gs.length:Int)-1:=by
    have:=HB1.out.symm
    simpa[Dv,decide_eq_true_eq] using this
   have HG:=Do hg
   clear hg
   go_wp2_with fail
   refine (jc bad 0 8 _).mono ?_
   rintro e w3 ⟨rfl,rfl⟩
   obtain⟨b2,hb2⟩:∃ b,b=(decide (0≤bad)&&decide (bad≤8)):=⟨_,rfl⟩
   rw[←hb2]
   have HB3:=Do hb2
   clear hb2
   cases b2
   ·have HR:Hid (d7 gs g bad=(0,8)):=by
     unfold Hid d7
     have:=HB3.out
     rw[if_pos HSy.out,if_pos HG.out,if_neg (fun h=>by rw[decide_eq_true h.1,decide_eq_true h.2] at this;cases this)]
    go_wp2
    go_ret2
    exact fp.is HR.out HB2
   ·have hb:0≤bad∧bad≤8:=by
     have:=HB3.out.symm
     simpa[Dv,decide_eq_true_eq] using this
    obtain⟨ng,rfl⟩:∃ n:Nat,g=(n:Int):=⟨g.toNat,by have:=HG.out;omega⟩
    obtain⟨nb,rfl⟩:∃ n:Nat,bad=(n:Int):=⟨bad.toNat,by omega⟩
    have hgl:ng<gs.length:=by have:=HG.out;omega
    have hgI:(ng:Int)<(gs.length:Int):=by omega
    obtain⟨bg,og,rfl,hbg,hcg⟩:=P2.G.at_ (by omega)
    obtain⟨q,cq,e0,e1,hR⟩:=hcg ng hgl
    have hra:ag gs ng=gs[ng].rungs:=by unfold ag;rw[Dq hgl]
    rw[←hra] at e1 hR
    obtain⟨nm,hnm⟩:∃ nm,nm=gs[ng].name:=⟨_,rfl⟩
    rw[←hnm] at e0
    clear hcg hra hnm
    have l3:=bj w3 (.cells #[.string nm,.slice q (ag gs ng).length cq,.slice none 0 0] 123)
    have x0:=aa r0 0
    go_upto_region 9 with fail
    have B3:=l3.below
    have s3:=l3.s0
    clear l3 x0 e0 e1 hbg r0
    have hlt3:w3.heap.size<(w3.alloc (.cells #[.string nm,.slice q (ag gs ng).length cq,.slice none 0 0] 123)).heap.size:=ac s3
    generalize w3.alloc (.cells #[.string nm,.slice q (ag gs ng).length cq,.slice none 0 0] 123)=w4 at *
    go_wp2_with fail
    go_loopw [10] (fun s10 wx=>∃ (i:Nat) (v:Value),s10=.int .i64 i∧i≤288∧Below w3.heap.size w3 wx∧wx.heap[w3.heap.size]?=some (.cells #[.string nm,.slice q (ag gs ng).length cq,v] 123 (0,0))∧aR (w3.heap.size+1) wx v (List.replicate i (-1))) (fun s10 _=>288-(intOf s10).toNat)
    case atStart=>exact⟨0,.slice none 0 0,rfl,by omega,B3,s3,⟨rfl,Or.inl ⟨rfl,rfl⟩⟩⟩
    case round =>
     obtain⟨i,v,rfl,hi,hb3,hs3,hv⟩:=hrel
     by_cases hil:i<288
     ·have hd:decide (i<288)=true:=decide_eq_true hil
      have hiI:(i:Int)<288:=by omega
      have x2:=aa hs3 2
      go_upto_region 12 with fail
      have l6:=bj wr (.cells #[.int .i64 (-1)] 3)
      have HV6:=Do (hv.below l6.below)
      have y6:=aa l6.s0 0
      have s6:=(l6.below.block _ (ac hs3)).trans hs3
      have HLE:=Do (show w3.heap.size+1≤(wr.alloc (.cells #[.int .i64 (-1)] 3)).heap.size by have:=ac s6;omega)
      have HLN:Hid ((List.replicate i (-1:Int)).length≤1000000):=by unfold Hid;simp;omega
      have hb6:=hb3.trans (l6.below.mono hb3.size)
      have HS6:=Do s6
      go_wp2_with (at_builtin;refine wpList_plain rfl (fun K hK=>?_);refine mV _ _ rfl (w3.heap.size+1) v (List.replicate i (-1)) rfl HV6.out HLN.out HLE.out wr.heap.size (-1) rfl y6 ?_;intro v' w' hv' hg' hown hsl;obtain⟨gn,cn,rfl⟩:=hsl;have hs7:=(hg'.block _ (ac HS6.out) (fun e=>by have:=(av HV6.out e.symm).1;omega)).trans HS6.out;have f7:=frozen_of_row w' w3.heap.size 2 _ _ hs7;have x7:=aa hs7 2;refine hK _ _ ?_;clear hK K)
      have hl1:(List.replicate i (-1:Int)++[-1]).length=i+1:=by simp
      have hs8:=heap_setCell_same w' w3.heap.size 2 _ _ (.slice (some ⟨gn,0,none⟩) (i+1) cn) hs7
      have hv8:=hv'.setOld (b:=w3.heap.size) (i:=2) (.slice (some ⟨gn,0,none⟩) (i+1) cn) (Nat.lt_succ_self _)
      have hb8:=(hb6.grown hg' hb6.size (fun k hk=>Nat.le_of_succ_le (av HV6.out hk).1)).setCell (p:=⟨w3.heap.size,2,none⟩) (Dp _) (.slice (some ⟨gn,0,none⟩) (i+1) cn)
      rw[hl1] at hv8
      exact⟨⟨i+1,.slice (some ⟨gn,0,none⟩) (i+1) cn,by first | rfl | go_num,by omega,hb8,hs8,by rw[List.replicate_succ'];exact hv8⟩,by simp[intOf];omega⟩
     ·obtain rfl:i=288:=by omega
      obtain⟨gk,ck,rfl,hgk,hgl2⟩:=hv.some (by simp)
      rw[Fb] at hs3 hv
      have hE:iH w3 wr gs ng q cq w3.heap.size gk ck nm:=by
       refine⟨hb3,hs3,Dp _,by omega,by omega,?_⟩
       rcases hv.2 with ⟨e,_⟩ | ⟨g',cap',cur,e,hb',hg',hnc,hcm,hcs,htk⟩
       ·cases e
       ·simp only[Value.slice.injEq,Option.some.injEq,Addr.mk.injEq,and_true] at e
        obtain⟨rfl,-,rfl⟩:=e
        refine⟨cur,hg',fun k f l hk hf hl=>⟨-1,?_,Or.inl rfl⟩⟩
        have hx:(k*4+f)*9+l<288:=by omega
        have h1:(cur.toList.take ((List.replicate 288 (-1:Int)).length*1))[(k*4+f)*9+l]?=some (.int .i64 (-1)):=by
         rw[htk,DN,Fh,if_pos hx]
         rfl
        rw[Fy] at h1
        split at h1
        ·rw[←Fo];exact h1
        ·cases h1
      have GD:=aV HSy.out
      have hr1:=(cT (bC HSy.out hgl)).1
      have ht1:=GD.tries ng 0 hgl (show 0<(ah gs).rungs ng by show 0<(ag gs ng).length;omega)
      have HC:Hid (Calls Tryz.prog 65 #[.pointer (some ⟨w3.heap.size,0,none⟩),.int .i64 0,.int .i64 0,.int .i64 nb] wr (WRQ gs ng 0 0 nb gk wr)):=uN gs HSy.out ng hgl w3 q cq _ gk ck nm hR _ 0 0 nb (by omega) (by show (0:Int)<_;omega) (by omega) rfl wr hE
      have HR:Hid (d7 gs ng nb=(aI (ah gs) ng 0 0 nb,0)):=by
       unfold Hid d7
       rw[if_pos HSy.out,if_pos HG.out,if_pos hb]
       simp only[DC]
      clear hE GD hr1 ht1 hv hil hi hs3
      go_wp2_with fail
      refine HC.out.mono ?_
      rintro e w9 ⟨rfl,hg9,-⟩
      have hb9:=hb3.grown hg9 hb3.size (fun k e=>by cases e;omega)
      go_wp2
      go_ret2
      exact fp.is HR.out (HB2.trans (hb9.mono HB2.size))
theorem xI:pD lY 0:=by
 refine⟨by omega,fun n M now s=>?_,fun n v hv=>?_,fun n v hv ha=>?_⟩
 ·unfold evs fZ
  refine pM _ _ _ (fun g a=>?_) _ _
  have h1:∀ (b:List (St×aD)×List St) (k:Int),k≠0→eJ M lY now b ⟨g,k⟩=b:=fun b k hk=>by
   unfold eJ
   rw[show lY ⟨(g:Int),k⟩=false from by unfold lY;simp[hk]]
   simp
  simp only[Fw,List.foldl_nil]
  rw[h1 _ 1 (by decide),h1 _ 2 (by decide)]
  rfl
 ·unfold fZ at hv
  obtain⟨g,_,hv⟩:=FH.1 hv
  obtain⟨k,hk,rfl⟩:=DY.1 hv
  have hk:=DG.1 hk
  obtain rfl:k=0:=by omega
  rfl
 ·obtain⟨h1,h2,h3,h4⟩:=vu.1 hv
  unfold lY at ha
  have h5:=of_decide_eq_true ha
  unfold fZ
  refine FH.2 ⟨v.g.toNat,DG.2 (by omega),DY.2 ⟨0,DG.2 (by omega),?_⟩⟩
  obtain⟨g,k⟩:=v
  simp only at h1 h5 ⊢
  rw[h5,Fg h1]
  rfl
theorem vZ (gs:List Gd) (p:Option Addr) (c:Nat) (pa:Option Addr) (na ca:Nat) (pf:Option Addr) (nf cf:Nat) (al fl:List Int) (w:World) (hP:fm w p c gs) (hA:aU w (.slice pa na ca) al) (hF:aU w (.slice pf nf cf) fl) :
  Calls Tryz.prog 23 #[.agg #[.slice p gs.length c],.agg #[.slice pa na ca,.slice pf nf cf]] w (mZ gs al fl w):=by
 have S0:=SB.new hP hA hF
 clear hP hA hF
 go_enter Tryz.func23,Tryz.ntmps23
 go_upto_region 1 with fail
 generalize (w.alloc (.cells #[.slice p gs.length c] 24)).alloc (.cells #[.slice pa na ca,.slice pf nf cf] 41)=w1 at *
 have x0:=S0.c0;have x1:=S0.c1;have x2:=S0.c2
 go_wp2_with fail
 refine (mO gs p c pa na ca pf nf cf al fl w1 S0.P S0.ia S0.jf).mono ?_
 rintro e w2 ⟨n,rfl,hn,hb2⟩
 have S2:=S0.below hb2
 clear S0 hb2 x0 x1 x2
 rcases hn with ⟨hn,hbe⟩ | ⟨rfl,hsy,y,hy⟩
 ·have hd:(n != 0)=true:=by simp[hn]
  have HN:=Do hn
  clear hn
  go_wp2
  go_ret2
  exact⟨S2.bl,Or.inl ⟨n,HN.out,hbe,rfl⟩⟩
 ·obtain⟨hn1,hn3⟩:=bN hsy
  have hna:na=gs.length:=by
   obtain⟨p',c',e,_⟩:=S2.ia.at_
   simp only[Value.slice.injEq] at e
   rw[e.2.1,hy.a,ij hn3]
  have hnf:nf=gs.length:=by
   obtain⟨p',c',e,_⟩:=S2.jf.at_
   simp only[Value.slice.injEq] at e
   rw[e.2.1,hy.f,fK hn3]
  subst hna
  have HNF:=Do hnf
  clear hnf
  have GD:=Do (aV hsy)
  have HSy:=Do hsy
  have HY:=Do hy
  have hA2:=S2.ia
  have hF2:=S2.jf
  rw[hy.a] at hA2
  rw[hy.f,HNF.out] at hF2
  have HA2:=Do hA2
  have HF2:=Do hF2
  clear hsy hy hA2 hF2
  have x0:=S2.c0;have x1:=S2.c1;have x2:=S2.c2
  go_wp2_with fail
  rw[HNF.out]
  refine (AI gs p c _ ca _ cf y lY 0 w2 S2.P HA2.out HF2.out HSy.out HY.out.at_ xI).mono ?_
  rintro e w5 ⟨pv,cv,L,rfl,hRL,hQ,hl32,hb5⟩
  have S5:=S2.below hb5
  have HRL:=Do hRL
  have HAT:=Do (Bq HSy.out HY.out.at_ HRL.out)
  have HQ:=Do hQ
  have HCG:Hid (lD gs y=(match aY (ah gs) y lY (fB (ah gs)) with | (some z,R)=>(gW R z,0) | (none,_)=>([],4))):=rfl
  clear x0 x1 x2 hRL hQ hb5 HA2 HF2 S2
  go_wp2_with fail
  go_loopw [8] (fun s8 wx=>∃ i:Nat,s8=.int .i64 i∧i≤L.length∧Below w5.heap.size w5 wx∧Hid (∀ j (h:j<L.length),j<i→fB (ah gs) L[j].1=false)) (fun s8 _=>L.length-(intOf s8).toNat)
  case atStart=>exact⟨0,rfl,by omega,Below.refl _ _,fun j h h2=>by omega⟩
  case round =>
   obtain⟨i,rfl,hi,hbw,hx⟩:=hrel
   by_cases hil:i<L.length
   ·obtain⟨bk,o,u1,u2,rfl,hbw5,q0,q1,-,-,-,hq1,hq2⟩:=HQ.out.get hil
    obtain⟨x,hxe⟩:∃ x,x=L[i].1:=⟨_,rfl⟩
    rw[←hxe] at hq1 hq2
    have HX:=Do hxe
    have hxa:(ah gs).At x:=by rw[hxe];exact HAT.out i hil
    obtain⟨ka,oa,cn,rfl⟩:=hq1.form (ij hn3 x) (by omega)
    obtain⟨kf,of,cm,rfl⟩:=hq2.form (fK hn3 x) (by omega)
    have hbr:=Dr hbw5 hbw.size
    have q0:=(hbw.cell (p:=⟨bk,_,none⟩) hbw5).trans q0
    have q1:=(hbw.cell (p:=⟨bk,_,none⟩) hbw5).trans q1
    have SR:=S5.below hbw
    have hqa:=hq1.below hbw
    have y0:∀ z:ax wr,z.w.cell? ⟨w.heap.size,0,none⟩=some (.slice p gs.length c):=fun z=>(SR.below z.h).c0
    have y1:∀ z:ax wr,z.w.cell? ⟨bk,o+i*5,none⟩=_:=fun z=>(z.cell (p:=⟨bk,_,none⟩) hbr).trans q0
    have y2:∀ z:ax wr,z.w.cell? ⟨bk,o+i*5+1,none⟩=_:=fun z=>(z.cell (p:=⟨bk,_,none⟩) hbr).trans q1
    obtain⟨bo,hbo⟩:∃ b,b=fB (ah gs) x:=⟨_,rfl⟩
    have HI:Hid (∀ z:ax wr,Calls Tryz.prog 63 #[.agg #[.slice p gs.length c],.agg #[.slice (some ⟨ka,oa,none⟩) gs.length cn,.slice (some ⟨kf,of,none⟩) gs.length cm]] z.w fun e w''=>e=.returned (.bool bo)∧∃ z':ax wr,w''=z'.w):=fun z=>ax.calls (by rw[hbo];exact wL gs p c _ cn _ gs.length cm x z.w (SR.P.below z.h) (hqa.below z.h) HSy.out hxa)
    have HBO:=Do hbo
    have hiI:(i:Int)<(L.length:Int):=by omega
    clear hxe hq1 hq2 hbw5 q0 q1 hbo hqa hxa
    go_wp2_with fail
    refine ai (by kernel_rfl) (by kernel_rfl) ?_
    repeat (go_big_quiet_step ((go_at_call 63;with_reducible exact HI.out _)))
    refine wpQuiet_nil ?_
    rintro w6 ⟨⟨_,hbN⟩,rfl⟩
    have hbd:=hbw.trans (hbN.mono hbw.size)
    have S6:=SR.below hbN
    clear HI y0 y1 y2 hbw hbN SR hbr
    cases bo
    ·go_wp2_with fail
     exact⟨⟨i+1,by first | rfl | go_num,by omega,hbd,fun j h h3=>by
      by_cases hj:j=i
      ·subst hj;rw[←HX.out];exact HBO.out.symm
      ·exact hx.out j h (by omega)⟩,by simp[intOf];omega⟩
    ·go_wp2_with fail
     refine (BE gs.length _ cv L.length L rfl hl32 HRL.out.srcs i hil (i+1) (by omega) (by omega) _ (HQ.out.below hbd)).mono ?_
     rintro e w8 ⟨v,rfl,hE,hb8⟩
     have S8:=S6.below hb8
     have HR:=Do (HCG.out.trans (rc GD.out HY.out.at_ HRL.out hil (by rw[←HX.out];exact HBO.out.symm) hx.out))
     have hz:=S6.bl.size
     go_wp2
     go_ret2
     refine⟨S8.bl,Or.inr ⟨y,v,HSy.out,HY.out,?_,?_⟩⟩
     ·rw[HR.out];rfl
     ·rw[HR.out];exact eD hE hz
   ·obtain rfl:i=L.length:=by omega
    have HR:=Do (HCG.out.trans (tg GD.out HY.out.at_ HRL.out (fun j h=>hx.out j h h)))
    have S8:=S5.below hbw
    clear hil hi hx
    go_wp2
    go_ret2
    refine⟨S8.bl,Or.inr ⟨y,.slice none 0 0,HSy.out,HY.out,?_,?_⟩⟩
    ·rw[HR.out];rfl
    ·rw[HR.out];exact⟨rfl,Or.inl ⟨rfl,rfl⟩⟩
def vQ (gs:List Gd) (al fl:List Int) (l:List Ev) (n:Int):Prop:=(n≠0∧oX gs al fl n∧l=[])∨(∃ y,a8 gs=true∧dC gs al fl y∧n=(lD gs y).2∧l=(lD gs y).1)
theorem oX.uniq {gs:List Gd}{al fl:List Int}{n m:Int} (h:oX gs al fl n) (h2:oX gs al fl m):n=m:=by
 rcases h with ⟨a,rfl⟩ | ⟨a,rfl,_⟩<;>rcases h2 with ⟨b,rfl⟩ | ⟨b,rfl,_⟩
 ·rfl
 ·rw[a] at b;cases b
 ·rw[a] at b;cases b
 ·rfl
theorem oX.ok {gs:List Gd}{al fl:List Int}{n:Int} (h:oX gs al fl n) (hS:a8 gs=true) {y:St} (hy:dC gs al fl y):False:=by
 rcases h with ⟨a,_⟩ | ⟨_,_,h⟩
 ·rw[a] at hS;cases hS
 ·exact h y hy
theorem vQ.uniq {gs:List Gd}{al fl:List Int}{l l2:List Ev}{n n2:Int} (h:vQ gs al fl l n) (h2:vQ gs al fl l2 n2):l=l2∧n=n2:=by
 rcases h with ⟨_,hb,rfl⟩ | ⟨y,hS,hk,rfl,rfl⟩<;>rcases h2 with ⟨_,hb2,rfl⟩ | ⟨z,hS2,hk2,rfl,rfl⟩
 ·exact⟨rfl,hb.uniq hb2⟩
 ·exact (hb.ok hS2 hk2).elim
 ·exact (hb2.ok hS hk).elim
 ·have e:=hk.uniq (bN hS).2 hk2
  subst e
  exact⟨rfl,rfl⟩
theorem vQ.len {gs:List Gd}{al fl:List Int}{l:List Ev}{n:Int} (h:vQ gs al fl l n):l.length≤1000000:=by
 rcases h with ⟨_,_,rfl⟩ | ⟨y,hS,hk,rfl,rfl⟩
 ·exact DM _
 ·exact uD (aV hS) hk.at_
theorem mZ.read {gs:List Gd}{al fl:List Int}{w w':World}{e:Ending} (h:mZ gs al fl w e w') :
  ∃ l n v,e=.returned (.tuple #[v,.int .i64 n])∧qw w' v l∧vQ gs al fl l n∧Below w.heap.size w w':=by
 obtain⟨hb,⟨n,hn,hB,rfl⟩ | ⟨y,v,hS,hk,rfl,hE⟩⟩:=h
 ·exact⟨[],n,_,rfl,EvR.q (n:=0) ⟨rfl,Or.inl ⟨rfl,rfl⟩⟩,Or.inl ⟨hn,hB,rfl⟩,hb⟩
 ·exact⟨_,_,v,rfl,hE.q,Or.inr ⟨y,hS,hk,rfl,rfl⟩,hb⟩
theorem sI (gs:List Gd) (p:Option Addr) (c:Nat) (v:Value) (al fl:List Int) (n1 n2:Int) (w:World) (hP:fm w p c gs) (hQ:l_ w v al fl) :
  Calls Tryz.prog 6 #[.agg #[.slice p gs.length c],v,.agg #[.int .i64 n1,.int .i64 n2]] w (CQ w):=by
 obtain⟨u1,u2,rfl,hI1,hI2⟩:=hQ.at_
 obtain⟨p1,c1,rfl,-⟩:=hI1.at_
 obtain⟨p2,c2,rfl,-⟩:=hI2.at_
 have hl:=pQ w (.cells #[.slice p gs.length c] 24) (.cells #[.slice p1 al.length c1,.slice p2 fl.length c2] 41) (.cells #[.int .i64 n1,.int .i64 n2] 25)
 have P1:=hP.below hl.below
 have J1:=Do (hI1.below hl.below)
 have J2:=Do (hI2.below hl.below)
 clear hP hQ hI1 hI2
 go_enter Tryz.func6,Tryz.ntmps6
 go_upto_region 1 with fail
 generalize ((w.alloc (.cells #[.slice p gs.length c] 24)).alloc (.cells #[.slice p1 al.length c1,.slice p2 fl.length c2] 41)).alloc (.cells #[.int .i64 n1,.int .i64 n2] 25)=w1 at *
 have x0:=aa hl.s0 0
 have x1:=aa hl.s1 0
 have x2:=aa hl.s1 1
 go_wp2_with fail
 refine (Cc gs p c w1 _ al fl P1 ⟨_,_,rfl,J1.out,J2.out⟩).mono ?_
 intro e w2 hq
 obtain⟨l2,m2,v2,rfl,E2,C2,hb2⟩:=hq.read
 clear hq
 have P2:=P1.below hb2
 have J1:=Do (J1.out.below hb2)
 have J2:=Do (J2.out.below hb2)
 have r0:=(hb2.block _ (ac hl.s0)).trans hl.s0
 have r1:=(hb2.block _ (ac hl.s1)).trans hl.s1
 have r2:=(hb2.block _ (ac hl.s2)).trans hl.s2
 have HB2:=hl.below.trans (hb2.mono hl.below.size)
 have HL:=Do C2.len
 have E2:=Do E2
 have C2:=Do C2
 clear hl P1 hb2 x0 x1 x2
 have x0:=aa r0 0
 have x1:=aa r1 0
 have x2:=aa r1 1
 go_wp2_with fail
 refine (vZ gs p c _ _ _ _ _ _ al fl w2 P2 J1.out J2.out).mono ?_
 intro e w3 hq
 obtain⟨l3,m3,v3,rfl,E3,C3,hb3⟩:=hq.read
 obtain⟨e1,e2⟩:=C2.out.uniq C3
 subst e1 e2
 clear hq C2 C3 J1 J2
 have P3:=P2.below hb3
 have q0:=(hb3.block _ (ac r0)).trans r0
 have q2:=(hb3.block _ (ac r2)).trans r2
 have E2:=Do (E2.out.below hb3)
 have E3:=Do E3
 have HB3:=HB2.trans (hb3.mono HB2.size)
 clear P2 hb3 r0 r1 r2 x0 x1 x2 HB2
 go_wp2_with fail
 refine (mE v2 v3 _ _ w3 E2.out E3.out HL.out HL.out).mono ?_
 rintro e w4 ⟨rfl,hb4⟩
 rw[show decide (l2=l2)=true from by simp]
 have P4:=P3.below hb4
 have r0:=(hb4.block _ (ac q0)).trans q0
 have r2:=(hb4.block _ (ac q2)).trans q2
 have HB4:=HB3.trans (hb4.mono HB3.size)
 have hd1:(m2 != m2)=false:=by simp
 clear P3 hb4 q0 q2 HB3 E2 E3 HL
 have x0:=aa r0 0
 have x3:=aa r2 0
 have x4:=aa r2 1
 go_wp2_with fail
 refine (AK gs p c n1 n2 w4 P4).mono ?_
 rintro e w5 ⟨rfl,hb5⟩
 have P5:=P4.below hb5
 have q0:=(hb5.block _ (ac r0)).trans r0
 have q2:=(hb5.block _ (ac r2)).trans r2
 have HB5:=HB4.trans (hb5.mono HB4.size)
 obtain⟨wg,hwg⟩:∃ wg,wg=d7 gs n1 n2:=⟨_,rfl⟩
 rw[←hwg]
 have HWG:=Do hwg
 clear P4 hb5 r0 r2 HB4 hwg x0 x3 x4
 obtain⟨wa,wb⟩:=wg
 have x0:=aa q0 0
 have x3:=aa q2 0
 have x4:=aa q2 1
 go_wp2_with fail
 refine (xQ gs p c n1 n2 w5 P5).mono ?_
 rintro e w6 ⟨rfl,hb6⟩
 rw[←HWG.out]
 have X6:=(P5.below hb6).X
 have HB6:=HB5.trans (hb6.mono HB5.size)
 clear P5 hb6 q0 q2 x0 x3 x4 HB5
 have hd3:(wa == wa)=true:=by simp
 have hd4:(wb == wb)=true:=by simp
 go_wp2_with fail
 refine (CC w6 X6).mono ?_
 rintro e w7 ⟨rfl,hb7⟩
 go_wp2
 go_ret
 exact⟨rfl,HB6.trans (hb7.mono HB6.size)⟩
end Go.Proofs.YtnkgbocdpngldaaGreatDoor
