/- Lemmas of this claim. -/
import Derived.IntWalk
import Derived.Test.YtnkgbocdpngldaaGreatDoorXMach
import Derived.Test.YtnkgbocdpngldaaGreatDoorXMade2
import Derived.Test.YtnkgbocdpngldaaGreatDoorXRev
import Derived.Test.YtnkgbocdpngldaaGreatDoorXCnt
import Derived.Test.YtnkgbocdpngldaaGreatDoorXMeet
import Derived.Test.YtnkgbocdpngldaaGreatDoorXRun
import Derived.Test.YtnkgbocdpngldaaGreatDoorXSta3
import Derived.Test.YtnkgbocdpngldaaGreatDoorXHel1
import Derived.Test.YtnkgbocdpngldaaGreatDoorXRA13
set_option linter.all false
set_option maxRecDepth 100000
set_option maxHeartbeats 8000000
namespace Go.Proofs.YtnkgbocdpngldaaGreatDoor
open Go.RowKit Dc Dg
def Bu (w:World) (b N:Nat) (f:Nat→Bool):Prop:=w.ownsRow b 4 1 (.slice (some ⟨b,0,none⟩) N N) N ((List.range N).map fun c=>Value.bool (f c))
theorem Bu.blk {w:World}{b N:Nat}{f:Nat→Bool} (h:Bu w b N f):b<w.heap.size∧∃ cur,w.heap[b]?=some (.cells cur 4 (0,0)):=by
 obtain⟨_,h2,cur,h3⟩:=av h (k:=b) rfl
 exact⟨h2,cur,h3⟩
theorem wk (gs:List Gd) (p:Option Addr) (c:Nat) (pa:Option Addr) (ca:Nat) (pf:Option Addr) (nf cf:Nat) (y:St) (w:World) (hP:d8 w p c gs) (hA:aN w (.slice pa gs.length ca) (atL gs.length y)) (hS:aX gs=true) (hy:(ah gs).At y) :
  Calls Tryz.prog 63 #[.agg #[.slice p gs.length c],.agg #[.slice pa gs.length ca,.slice pf nf cf]] w fun e w'=>e=.returned (.bool (iR (ah gs) y))∧Below w.heap.size w w':=by
 have hl:=fS w (.cells #[.slice p gs.length c] 24) (.cells #[.slice pa gs.length ca,.slice pf nf cf] 41)
 have HP:=C5 (hP.below hl.below)
 have HA:=C5 (hA.below hl.below)
 have HSy:=C5 hS
 have HY:=C5 hy
 obtain⟨hn1,hn3⟩:=a_ hS
 clear hP hA hS hy
 go_enter Tryz.func63,Tryz.ntmps63
 go_upto_region 1 with fail
 generalize (w.alloc (.cells #[.slice p gs.length c] 24)).alloc (.cells #[.slice pa gs.length ca,.slice pf nf cf] 41)=w1 at *
 have r0:=hl.s0
 have r1:=hl.s1
 have HB1:=hl.below
 clear hl
 go_wp2_with fail
 go_loopw [5] (fun s5 wx=>∃ i:Nat,s5=.int .i64 i∧i≤gs.length∧Below w1.heap.size w1 wx∧Hid (∀ j,j<i→(ah gs).next j (y.a j).toNat<0)) (fun s5 _=>gs.length-(intOf s5).toNat)
 case atStart=>exact⟨0,rfl,by omega,Below.refl _ _,fun j hj=>by omega⟩
 case round =>
  obtain⟨i,rfl,hi,hb,hnx⟩:=hrel
  have k0:=(hb.block _ (ae r0)).trans r0
  have k1:=(hb.block _ (ae r1)).trans r1
  have x0:=aa k0 0
  have x1:=aa k1 0
  have x2:=aa k1 1
  by_cases hil:i<gs.length
  ·have hiI:(i:Int)<(gs.length:Int):=by omega
   obtain⟨qa,da,qb,db,_,_,HC⟩:=lk (pf:=pf) (nf:=nf) (cf:=cf) (c:=c) (HP.out.below hb).G (HA.out.below hb) HSy.out HY.out hil
   have hkr:(y.a i).toNat<(ag gs i).length:=(kE HSy.out HY.out hil).2
   have HNI:=C5 (si HSy.out hil hkr)
   obtain⟨r,hr⟩:∃ r,r=aK gs i (y.a i).toNat:=⟨_,rfl⟩
   rw[←hr] at HC HNI
   clear hr hkr
   have hfd:=fun wx:World=>vX wx r.name r.next r.back r.tries r.minutes qa r.needs.length da qb r.loops.length db
   clear k0 k1
   go_wp2_with fail
   refine (HC _ (Below.refl _ _)).mono ?_
   rintro e w3 ⟨rfl,hb3⟩
   have hb:=hb.trans (hb3.mono hb.size)
   clear HC x0 x1 x2 hb3
   by_cases hne:r.next.data.toList=[]
   ·have z1:(r.next.toList == [])=true:=by rw[aj];simpa using hne
    have z2:(r.next.toList != [])=false:=by rw[aj];simpa using hne
    have HNN:=C5 (HNI.out.1 hne)
    clear hne
    go_wp2_with fail
    exact⟨⟨i+1,by first | rfl | go_num,by omega,hb,fun j hj=>by
     by_cases h:j=i
     ·subst h;exact HNN.out
     ·exact hnx.out j (by omega)⟩,by simp[intOf];omega⟩
   ·have z1:(r.next.toList == [])=false:=by rw[aj];simpa using hne
    have z2:(r.next.toList != [])=true:=by rw[aj];simpa using hne
    have HNN:=C5 (show iR (ah gs) y=false from rz hil (fun h=>hne (HNI.out.2 h)))
    clear hne
    go_wp2_with fail
    go_ret
    exact⟨by rw[HNN.out];rfl,HB1.trans (hb.mono HB1.size)⟩
  ·obtain rfl:i=gs.length:=by omega
   have HNN:=C5 (show iR (ah gs) y=true from o_ hnx.out)
   clear hil hi k0 k1 hnx
   go_wp2
   go_ret
   exact⟨by rw[HNN.out];rfl,HB1.trans (hb.mono HB1.size)⟩
theorem n7 {gs:List Gd}{al fl:List Int}{y:St}{w:World}{pa pf:Option Addr}{na ca nf cf:Nat} (hS:aX gs=true) (hy:cU gs al fl y) (hA:aN w (.slice pa na ca) al) (hF:aN w (.slice pf nf cf) fl):na=gs.length∧nf=gs.length:=by
 obtain⟨hn1,hn3⟩:=a_ hS
 obtain⟨p',c',e,_⟩:=hA.at_
 obtain⟨p2,c2,e2,_⟩:=hF.at_
 simp only[Value.slice.injEq] at e e2
 exact⟨by rw[e.2.1,hy.a,kD hn3],by rw[e2.2.1,hy.f,jr hn3]⟩
theorem Bd (gs:List Gd) (p:Option Addr) (c:Nat) (pa:Option Addr) (na ca:Nat) (pf:Option Addr) (nf cf:Nat) (al fl:List Int) (ev:Ev) (w:World) (hP:d8 w p c gs) (hA:aN w (.slice pa na ca) al) (hF:aN w (.slice pf nf cf) fl) (hqa:pa=none→ca=0) (hqf:pf=none→cf=0) :
  Calls Tryz.prog 38 #[.agg #[.slice p gs.length c],.agg #[.slice pa na ca,.slice pf nf cf],.agg #[.int .i64 ev.g,.int .i64 ev.k]] w (oQ gs al fl ev w):=by
 obtain⟨eg,ek⟩:=ev
 have hl:=By w (.cells #[.slice p gs.length c] 24) (.cells #[.slice pa na ca,.slice pf nf cf] 41) (.cells #[.int .i64 eg,.int .i64 ek] 53) (.cells #[.slice none 0 0,.slice none 0 0] 41)
 have S0:SB w _ w.heap.size gs p c pa na ca pf nf cf al fl:=⟨hl.s0,hl.s1,hP.below hl.below,hA.below hl.below,hF.below hl.below,hl.below⟩
 have r2:=hl.s2
 have r3:=hl.s3
 have HQ:=C5 (And.intro hqa hqf)
 clear hP hA hF hl hqa hqf
 go_enter Tryz.func38,Tryz.ntmps38
 go_upto_region 1 with fail
 generalize (((w.alloc (.cells #[.slice p gs.length c] 24)).alloc (.cells #[.slice pa na ca,.slice pf nf cf] 41)).alloc (.cells #[.int .i64 eg,.int .i64 ek] 53)).alloc (.cells #[.slice none 0 0,.slice none 0 0] 41)=w1 at *
 have x0:=S0.c0;have x1:=S0.c1;have x2:=S0.c2
 go_wp2_with fail
 refine (dP gs p c pa na ca pf nf cf al fl w1 S0.P S0.ia S0.jf).mono ?_
 rintro e w2 ⟨n,rfl,hn,hb2⟩
 have S2:=S0.below hb2
 have q2:=(hb2.block _ (ae r2)).trans r2
 have q3:=(hb2.block _ (ae r3)).trans r3
 clear S0 hb2 x0 x1 x2 r2 r3
 rcases hn with ⟨hn,hbe⟩ | ⟨rfl,hsy,y,hy⟩
 ·have hd:(n != 0)=true:=by simp[hn]
  have HN:=C5 hn
  clear hn
  have u0:=aa q3 0
  have u1:=aa q3 1
  have f0:=frozen_of_row w2 (w.heap.size+1+1+1) 0 _ _ q3
  have f1:=frozen_of_row w2 (w.heap.size+1+1+1) 1 _ _ q3
  have hP:dR w2 (bB w2 (w.heap.size+1+1+1) (.slice none 0 0) (.slice none 0 0)) (w.heap.size+1+1+1) _ #[(.slice none 0 0),(.slice none 0 0)]:=aO q3
  have hB:=S2.bl.trans (hP.below w.heap.size (by omega))
  go_wp2_with fail
  all_goals
   change bodyPost _ _ _ _ _ (bB w2 (w.heap.size+1+1+1) (.slice none 0 0) (.slice none 0 0))
   clear u0 u1 f0 f1
   have r0:=aa hP.row 0
   have r1:=aa hP.row 1
   generalize bB w2 (w.heap.size+1+1+1) (.slice none 0 0) (.slice none 0 0)=W at *
   refine bodyPost_ret (v:=.tuple #[.agg #[(.slice none 0 0),(.slice none 0 0)],.int .i64 n]) (by simp[results,Tryz.results38,go_sem,r0,r1]) rfl ?_
   exact⟨hB,Or.inl ⟨n,HN.out,hbe,rfl⟩⟩
 ·obtain⟨hn1,hn3⟩:=a_ hsy
  obtain⟨hna,hnf⟩:=n7 hsy hy S2.ia S2.jf
  have HSy:=C5 hsy
  have HY:=C5 hy
  have x0:=S2.c0
  have y0:=aa q2 0;have y1:=aa q2 1
  clear hsy hy
  go_wp2_with fail
  refine (vU gs p c ⟨eg,ek⟩ w2 (by omega)).mono ?_
  rintro e w3 ⟨rfl,hb3⟩
  have S3:=S2.below hb3
  have r2:=(hb3.block _ (ae q2)).trans q2
  have r3:=(hb3.block _ (ae q3)).trans q3
  clear S2 hb3 x0 y0 y1 q2 q3
  cases hok2:dG (ah gs) ⟨eg,ek⟩
  ·have HO:=C5 hok2
   clear hok2
   have u0:=aa r3 0
   have u1:=aa r3 1
   have f0:=frozen_of_row w3 (w.heap.size+1+1+1) 0 _ _ r3
   have f1:=frozen_of_row w3 (w.heap.size+1+1+1) 1 _ _ r3
   have hP:dR w3 (bB w3 (w.heap.size+1+1+1) (.slice none 0 0) (.slice none 0 0)) (w.heap.size+1+1+1) _ #[(.slice none 0 0),(.slice none 0 0)]:=aO r3
   have hB:=S3.bl.trans (hP.below w.heap.size (by omega))
   go_wp2_with fail
   all_goals
    change bodyPost _ _ _ _ _ (bB w3 (w.heap.size+1+1+1) (.slice none 0 0) (.slice none 0 0))
    clear u0 u1 f0 f1
    have r0:=aa hP.row 0
    have r1:=aa hP.row 1
    generalize bB w3 (w.heap.size+1+1+1) (.slice none 0 0) (.slice none 0 0)=W at *
    refine bodyPost_ret (v:=.tuple #[.agg #[(.slice none 0 0),(.slice none 0 0)],.int .i64 42]) (by simp[results,Tryz.results38,go_sem,r0,r1]) rfl ?_
    exact⟨hB,Or.inr ⟨y,HSy.out,HY.out,Or.inl ⟨HO.out,rfl⟩⟩⟩
  ·obtain⟨g1,g2,g3,g4⟩:=gG.1 hok2
   simp only at g1 g2 g3 g4
   obtain⟨g,rfl⟩:∃ g:Nat,eg=(g:Int):=⟨eg.toNat,by omega⟩
   have hMn:(ah gs).n=gs.length:=rfl
   have hg:g<gs.length:=by omega
   have HO:=C5 hok2
   have hA2:=S3.ia
   have hF2:=S3.jf
   have x0:=S3.c0;have x1:=S3.c1;have x2:=S3.c2
   have y0:=aa r2 0;have y1:=aa r2 1
   rw[hna] at hA2 x1
   rw[hnf] at hF2 x2
   rw[HY.out.a] at hA2
   rw[HY.out.f] at hF2
   have HA2:=C5 hA2
   have HF2:=C5 hF2
   have HNA:=C5 hna
   have HNF:=C5 hnf
   clear hok2 hMn hA2 hF2 hna hnf
   go_wp2_with fail
   refine (zg gs p c pa ca pf cf y g ek w3 S3.P HA2.out HF2.out HSy.out HY.out.at_ hg g3 g4 HQ.out.1 HQ.out.2).mono ?_
   rintro e w4 ⟨p1,c1,p2,c2,rfl,hL,hb4⟩
   have hz:=S3.bl.size
   have S4:=S3.below hb4
   have q3:=(hb4.block _ (ae r3)).trans r3
   clear S3 hb4 x0 x1 x2 y0 y1 r2 r3 HA2 HF2
   have u0:=aa q3 0
   have u1:=aa q3 1
   have f0:=frozen_of_row w4 (w.heap.size+1+1+1) 0 _ _ q3
   have f1:=frozen_of_row w4 (w.heap.size+1+1+1) 1 _ _ q3
   have hP:dR w4 (bB w4 (w.heap.size+1+1+1) (.slice (some ⟨p1,0,none⟩) gs.length c1) (.slice (some ⟨p2,0,none⟩) gs.length c2)) (w.heap.size+1+1+1) _ #[(.slice (some ⟨p1,0,none⟩) gs.length c1),(.slice (some ⟨p2,0,none⟩) gs.length c2)]:=aO q3
   have hL3:=hL.put (u1:=.slice (some ⟨p1,0,none⟩) gs.length c1) (u2:=.slice (some ⟨p2,0,none⟩) gs.length c2) q3 (by decide)
   have hB:=S4.bl.trans (hP.below w.heap.size (by omega))
   clear hL
   go_wp2_with fail
   change bodyPost _ _ _ _ _ (bB w4 (w.heap.size+1+1+1) (.slice (some ⟨p1,0,none⟩) gs.length c1) (.slice (some ⟨p2,0,none⟩) gs.length c2))
   clear u0 u1 f0 f1
   have r0:=aa hP.row 0
   have r1:=aa hP.row 1
   generalize bB w4 (w.heap.size+1+1+1) (.slice (some ⟨p1,0,none⟩) gs.length c1) (.slice (some ⟨p2,0,none⟩) gs.length c2)=W at *
   refine bodyPost_ret (v:=.tuple #[.agg #[(.slice (some ⟨p1,0,none⟩) gs.length c1),(.slice (some ⟨p2,0,none⟩) gs.length c2)],.int .i64 0]) (by simp[results,Tryz.results38,go_sem,r0,r1]) rfl ?_
   exact⟨hB,Or.inr ⟨y,HSy.out,HY.out,Or.inr ⟨HO.out,_,rfl,(hL3.base hz).r⟩⟩⟩
theorem zH (gs:List Gd) (p:Option Addr) (c:Nat) (pa:Option Addr) (na ca:Nat) (pf:Option Addr) (nf cf:Nat) (al fl:List Int) (w:World) (hP:d8 w p c gs) (hA:aN w (.slice pa na ca) al) (hF:aN w (.slice pf nf cf) fl) :
  Calls Tryz.prog 39 #[.agg #[.slice p gs.length c],.agg #[.slice pa na ca,.slice pf nf cf]] w (lh gs al fl w):=by
 have S0:=SB.new hP hA hF
 clear hP hA hF
 go_enter Tryz.func39,Tryz.ntmps39
 go_upto_region 1 with fail
 generalize (w.alloc (.cells #[.slice p gs.length c] 24)).alloc (.cells #[.slice pa na ca,.slice pf nf cf] 41)=w1 at *
 have x0:=S0.c0;have x1:=S0.c1;have x2:=S0.c2
 go_wp2_with fail
 refine (dP gs p c pa na ca pf nf cf al fl w1 S0.P S0.ia S0.jf).mono ?_
 rintro e w2 ⟨n,rfl,hn,hb2⟩
 have S2:=S0.below hb2
 clear S0 hb2 x0 x1 x2
 rcases hn with ⟨hn,hbe⟩ | ⟨rfl,hsy,y,hy⟩
 ·have hd:(n != 0)=true:=by simp[hn]
  have HN:=C5 hn
  clear hn
  go_wp2
  go_ret2
  exact⟨S2.bl,Or.inl ⟨n,HN.out,hbe,rfl⟩⟩
 ·obtain⟨hna,hnf⟩:=n7 hsy hy S2.ia S2.jf
  subst hna
  have HSy:=C5 hsy
  have HY:=C5 hy
  have hA2:=S2.ia
  rw[hy.a] at hA2
  have HA2:=C5 hA2
  have x0:=S2.c0;have x1:=S2.c1;have x2:=S2.c2
  clear hsy hy hA2 hnf
  go_wp2_with fail
  refine (wk gs p c pa ca pf nf cf y w2 S2.P HA2.out HSy.out HY.out.at_).mono ?_
  rintro e w3 ⟨rfl,hb3⟩
  have HB3:=S2.bl.trans (hb3.mono S2.bl.size)
  go_wp2
  go_ret2
  exact⟨HB3,Or.inr ⟨y,HSy.out,HY.out,rfl⟩⟩
def ed (x:Cl):List Value:=[.int .i64 x.loop,.string x.gain]
def ClR (n:Nat) (w:World) (v:Value) (l:List Cl):Prop:=w.ownsRow n 136 2 v l.length (l.flatMap ed)
theorem pY:∀ (L:List Cl) (i:Nat) (h:i<L.length),(L.flatMap ed)[i*2]?=some (.int .i64 L[i].loop)∧(L.flatMap ed)[i*2+1]?=some (.string L[i].gain)
 | [],i,h=>by simp at h
 | x :: L,0,h=>by simp[ed]
 | x :: L,i+1,h=>by
  have:=pY L i (by simpa using h)
  rw[DN,show (i+1)*2=(i*2)+1+1 from by omega]
  simpa[ed] using this
theorem tl (L:List Cl):(L.flatMap ed).length=L.length*2:=by
 induction L with
 | nil=>rfl
 | cons x L ih=>rw[DN,Dd,ih];simp[ed];omega
theorem BP (L:List Cl):∀ u∈L.flatMap ed,u.oneCell'=true:=by
 intro u hu
 obtain⟨x,_,hx⟩:=List.mem_flatMap.1 hu
 simp only[ed,Dk,Dm,or_false] at hx
 rcases hx with rfl | rfl<;>rfl
theorem xY {w:World}{b o:Nat}{L:List Cl} (h:∀ i (hi:i<L.length),w.cell? ⟨b,o+i*2,none⟩=some (.int .i64 L[i].loop)∧w.cell? ⟨b,o+i*2+1,none⟩=some (.string L[i].gain)):∀ j u,(L.flatMap ed)[j]?=some u→w.cell? ⟨b,o+j,none⟩=some u:=by
 intro j u hu
 have hj:=(De.1 hu).1
 rw[tl] at hj
 obtain⟨k,hk⟩:∃ k,k=j / 2:=⟨_,rfl⟩
 have hi:k<L.length:=by omega
 obtain⟨h1,h2⟩:=h _ hi
 obtain⟨f1,f2⟩:=pY L _ hi
 rcases Nat.mod_two_eq_zero_or_one j with hm | hm
 ·obtain rfl:j=k*2:=by omega
  rw[f1] at hu
  rw[h1,←Option.some.inj hu]
 ·obtain rfl:j=k*2+1:=by omega
  rw[f2] at hu
  rw[←DS,h2,←Option.some.inj hu]
theorem ClR.below {n:Nat}{w w':World}{v:Value}{l:List Cl} (h:ClR n w v l) (hb:Below w.heap.size w w'):ClR n w' v l:=cI h (fun k hk=>hb.block k (av h hk).2.1)
theorem ClR.q {n:Nat}{w:World}{v:Value}{l:List Cl} (h:ClR n w v l):∃ p c,v=.slice p l.length c∧e_ w p l:=by
 rcases h.2 with ⟨rfl,hn⟩ | ⟨g,cap,cur,rfl,hb,hg,h3⟩
 ·exact⟨none,0,by rw[hn],⟨fun hl=>by omega⟩⟩
 ·refine⟨some ⟨g,0,none⟩,cap,rfl,⟨fun hl=>⟨g,0,rfl,(C_.1 hg).1,fun i hi=>?_⟩⟩⟩
  obtain⟨f1,f2⟩:=pY l i hi
  have c1:=World.ownsRow.cells h (g:=g) rfl _ _ f1
  have c2:=World.ownsRow.cells h (g:=g) rfl _ _ f2
  rw[ec] at c1 c2
  exact⟨c1,c2⟩
theorem ClR.slice {n:Nat}{w:World}{v:Value}{l:List Cl} (h:ClR n w v l):∃ p c,v=.slice p l.length c:=by
 obtain⟨p,c,e,_⟩:=h.q
 exact⟨p,c,e⟩
theorem ClR.nil (n:Nat) (w:World):ClR n w (.slice none 0 0) []:=World.ownsRow_nil _ _ _ _
theorem CG:(Tryz.prog.info? 136).map (fun i=>(i.zero,i.size,i.bytes))=some (some (.agg #[.int .i64 0,.string ⟨#[]⟩]),2,24):=by kernel_rfl
theorem undC:Tryz.prog.underlying 57=some (.slice 136):=by kernel_rfl
theorem qX {P:Program}{w:World} (base:Nat) (t ty e:TypeId) (i:TypeInfo) (size:Nat) (ht:P.underlying t=some (.slice e)) (hi:P.info? e=some i)
  (v:Value) (n:Nat) (xs:List Value) (hown:w.ownsRow base e size v n xs) (c:Nat) :
  (Builtin.append_ #[t,t] ty #[v,.slice none 0 c]).run P w=.ok v w:=by
 rcases hown.2 with ⟨rfl,rfl⟩ | ⟨g,cap,cur,rfl,_,_,hnc,_⟩
 ·simp[Builtin.append_,run_underlying ht,sizeOf,typeInfo,hi,Builtin.lenOf,Builtin.firstCells]
 ·simp[Builtin.append_,run_underlying ht,sizeOf,typeInfo,hi,Builtin.lenOf,Builtin.firstCells,hnc,storeCells]
theorem uC {w:World}{o:Oper}{a:Act}{K:Act→World→Prop}{Q:Exit→Act→World→Prop} (s x:Operand) (ho:o.op=.call { callee:=.builtin .append,args:=#[s,x],argTypes:=#[57,57] })
  (n:Nat) (v:Value) (l:List Cl) (hs:a.eval s=v) (hr:ClR n w v l) (hn:n≤w.heap.size) (q:Option Addr) (m c:Nat) (l2:List Cl) (hm:m=l2.length) (hx:a.eval x=.slice q m c) (hL:e_ w q l2) (hlen:l.length+l2.length≤1000000)
  (h:∀ v' w',ClR n w' v' (l++l2)→w.grownBy w' v.ownBlock→K (a.put o.dst v') w'):o.wp Tryz.prog a w K Q:=by
 subst hm
 obtain⟨i0,hi,hz0,hz1,hz2⟩:=info_parts CG
 cases q with
 | none =>
  have h0:l2=[]:=by
   rcases DQ l2.length with h | h
   ·exact Du h
   ·obtain⟨b,o,h2,_⟩:=hL.at_ h
    cases h2
  subst h0
  have hrun:=qX (P:=Tryz.prog) (w:=w) n 57 o.type 136 i0 2 undC hi v l.length _ hr c
  have h3:=h v w (by rw[DR];exact hr) ⟨rfl,rfl,rfl,C6 _,fun _ _ _=>rfl⟩
  unfold Oper.wp execOp
  simp only[ho,resolve,invoke,builtin,Sem.run_bind,Sem.run_pure,Result.andThen_ok,List.map_toArray,List.map_cons,List.map_nil,hs,hx,DW,hrun]
  exact h3
 | some ad =>
  refine wp_append_own w s x 57 ho n 136 i0 _ 2 24 undC hi hz0 hz1 hz2 rfl (by decide) v l.length _ hs hr ad l2.length c (l2.flatMap ed) hx (tl l2) (fun j u hj=>?_) (BP l2) (by unfold maxLen;omega) (by omega) hn (fun v' w' h1 h2 _=>?_)
  ·have hjl:=(De.1 hj).1
   rw[tl] at hjl
   obtain⟨b,o2,e,hb,hc⟩:=hL.at_ (by omega)
   obtain rfl:=Option.some.inj e
   rw[gp]
   exact xY hc j u hj
  ·refine h v' w' ?_ h2
   unfold ClR
   rw[Dd,En]
   exact h1
theorem y7 {l:List Cl} (h:eJ l=true):∀ j (hj:j<l.length),(j:Int)≤l[j].loop∧l[j].loop≤7:=by
 intro j
 induction j with
 | zero =>
  intro hj
  have h1:=Dq.1 h 0 (Dv.2 hj)
  rw[fT (C7 hj)] at h1
  simp only[Da,decide_eq_true_eq] at h1
  exact h1.1
 | succ j ih =>
  intro hj
  have h1:=Dq.1 h (j+1) (Dv.2 hj)
  rw[dA (C7 hj) (C7 (by omega))] at h1
  simp only[Da,EP,decide_eq_true_eq,decide_eq_false_iff_not] at h1
  have:=ih (by omega)
  exact⟨by push_cast;omega,h1.1.1.2⟩
theorem lE {gs:List Gd} (hS:aX gs=true) {g k:Nat} (hg:g<gs.length) (hk:k<(ag gs g).length):(aK gs g k).loops.length≤8:=by
 have h:=dT (bC hS hg) hk
 unfold bN at h
 simp only[Da] at h
 have hup:=y7 h.2
 rcases DP 8 (aK gs g k).loops.length with h9 | h9
 ·have:=hup 8 h9
  omega
 ·exact h9
def iv (gs:List Gd) (y:St) (i:Nat):List Cl:=(List.range i).flatMap fun g=>(aK gs g (y.a g).toNat).loops
theorem ke (gs:List Gd) (y:St) (i:Nat):iv gs y (i+1)=iv gs y i++(aK gs i (y.a i).toNat).loops:=by
 unfold iv
 rw[Ew,En]
 simp
theorem jm {gs:List Gd}{y:St} (hS:aX gs=true) (hy:(ah gs).At y):∀ i,i≤gs.length→(iv gs y i).length≤8*i
 | 0,_=>C6 _
 | i+1,h=>by
  have h1:=jm hS hy i (by omega)
  have h2:=lE hS (show i<gs.length by omega) (kE hS hy (show i<gs.length by omega)).2
  rw[ke,Dd]
  omega
def qP (gs:List Gd) (al fl:List Int) (w:World) (e:Ending) (w':World):Prop :=
 Below w.heap.size w w'∧((∃ n,n≠0∧iD gs al fl n∧e=.returned (.tuple #[.slice none 0 0,.int .i64 n])) ∨
  (∃ y v,aX gs=true∧cU gs al fl y∧e=.returned (.tuple #[v,.int .i64 0])∧ClR w.heap.size w' v (iv gs y gs.length)))
def BK (n:Nat) (w:World) (v:Value) (ss:List St):Prop:=∃ p c,v=.slice p ss.length c∧ss.length≤c∧(0<ss.length→∃ b o,p=some ⟨b,o,none⟩∧b<w.heap.size ∧
 ∀ i (h:i<ss.length),∃ u1 u2,w.cell? ⟨b,o+i*2,none⟩=some u1∧w.cell? ⟨b,o+i*2+1,none⟩=some u2∧aN w u1 (atL n ss[i])∧aN w u2 (aG n ss[i]))
theorem cp.v {B n:Nat}{w:World}{v:Value}{L:List (St×Value×Value)}{ss:List St} (h:cp B n w v L) (hm:L.map (·.1)=ss):BK n w v ss:=by
 subst hm
 obtain⟨p,c,e⟩:=h.slice
 have hcap:L.length≤c:=by
  rcases h.row.2 with ⟨e1,hn⟩ | ⟨g,cap,cur,e1,hb,hg,h3⟩
  ·omega
  ·rw[e] at e1
   cases e1
   exact h3.1
 refine⟨p,c,by simpa using e,by simpa using hcap,fun hl=>?_⟩
 obtain⟨g,cap,e1,hgl,_,_,_,_⟩:=h.get (i:=0) (by simpa using hl)
 rw[e] at e1
 cases e1
 refine⟨g,0,rfl,hgl,fun i hi=>?_⟩
 obtain⟨g2,cap2,e1,_,s1,s2,i1,i2⟩:=h.get (i:=i) (by simpa using hi)
 rw[e] at e1
 cases e1
 exact⟨_,_,s1,s2,by simpa using i1.q,by simpa using i2.q⟩
theorem mj (u1 u2 v1 v2:Value) (a1 a2 b1 b2:List Int) (w:World) (h1:aN w u1 a1) (h2:aN w u2 a2) (h3:aN w v1 b1) (h4:aN w v2 b2) (l1:a1.length≤1000000) (l2:a2.length≤1000000) (l3:b1.length≤1000000) (l4:b2.length≤1000000) :
  Calls Tryz.prog 19 #[.agg #[u1,u2],.agg #[v1,v2]] w fun e w'=>e=.returned (.bool (decide (a1=b1)&&decide (a2=b2)))∧Below w.heap.size w w':=by
 have hl:=fS w (.cells #[u1,u2] 41) (.cells #[v1,v2] 41)
 have i1:=h1.below hl.below;have i2:=h2.below hl.below;have i3:=h3.below hl.below;have i4:=h4.below hl.below
 obtain⟨q1,c1,e1,_⟩:=h1.at_
 obtain⟨q2,c2,e2,_⟩:=h2.at_
 obtain⟨q3,c3,e3,_⟩:=h3.at_
 obtain⟨q4,c4,e4,_⟩:=h4.at_
 generalize hn1:a1.length=n1 at e1
 generalize hn2:a2.length=n2 at e2
 generalize hn3:b1.length=n3 at e3
 generalize hn4:b2.length=n4 at e4
 clear hn1 hn2 hn3 hn4
 subst e1 e2 e3 e4
 clear h1 h2 h3 h4
 go_enter Tryz.func19,Tryz.ntmps19
 go_upto_region 1 with fail
 generalize (w.alloc (.cells #[.slice q1 n1 c1,.slice q2 n2 c2] 41)).alloc (.cells #[.slice q3 n3 c3,.slice q4 n4 c4] 41)=w1 at *
 have x0:=aa hl.s0 0;have x1:=aa hl.s0 1;have x2:=aa hl.s1 0;have x3:=aa hl.s1 1
 go_wp2_with fail
 refine (jC _ _ a1 b1 w1 i1 i3 l1 l3).mono ?_
 rintro e w2 ⟨rfl,hb2⟩
 have HB2:=hl.below.trans (hb2.mono hl.below.size)
 have r0:=(hb2.block _ (ae hl.s0)).trans hl.s0
 have r1:=(hb2.block _ (ae hl.s1)).trans hl.s1
 have j2:=i2.below hb2;have j4:=i4.below hb2
 clear x0 x1 x2 x3 i1 i2 i3 i4 hb2 hl
 have x1:=aa r0 1;have x3:=aa r1 1
 obtain⟨b,hb⟩:∃ b,b=decide (a1=b1):=⟨_,rfl⟩
 rw[←hb]
 have HBB:=C5 hb
 clear hb
 clear r0 r1
 cases b
 ·go_wp2_with fail
  go_ret
  exact⟨by rw[←HBB.out];rfl,HB2⟩
 ·go_wp2_with fail
  refine (jC _ _ a2 b2 w2 j2 j4 l2 l4).mono ?_
  rintro e w3 ⟨rfl,hb3⟩
  have HB3:=HB2.trans (hb3.mono HB2.size)
  clear j2 j4 hb3 x1 x3
  go_wp2_with fail
  go_ret
  exact⟨by rw[←HBB.out];rfl,HB3⟩
theorem pE (va vb:Value) (la lb:List Int) (w:World) (ha:aN w va la) (hb:aN w vb lb) (hn:la.length≤140737488351232) (hm:lb.length≤140737488351232) :
  Calls Tryz.prog 55 #[va,vb] w fun e w'=>e=.returned (.bool (decide (la=lb)))∧Below w.heap.size w w':=by
 obtain⟨p,c,rfl,hc⟩:=ha.at_
 obtain⟨q,d,rfl,hd⟩:=hb.at_
 have HA:=C5 hc
 have HB:=C5 hd
 clear ha hb hc hd
 go_enter Tryz.func55,Tryz.ntmps55
 by_cases hl:la.length=lb.length
 ·have hd:(((la.length:Nat):Int) == ((lb.length:Nat):Int))=true:=by simp[hl]
  have HL:=C5 hl
  obtain⟨n,hna⟩:∃ n,n=la.length:=⟨_,rfl⟩
  obtain⟨m,hmb⟩:∃ m,m=lb.length:=⟨_,rfl⟩
  rw[←hna,←hmb] at hd
  rw[←hna] at hn
  rw[←hmb] at hm
  rw[←hna,←hmb]
  have HN:=C5 hna
  have HM:=C5 hmb
  clear hna hmb hl
  go_wp2_with fail
  go_loopw [5] (fun s5 wr=>∃ i:Nat,s5=.int .i64 i∧i≤n∧Below w.heap.size w wr∧Hid (la.take i=lb.take i)) (fun s5 _=>n-(intOf s5).toNat)
  case atStart=>exact⟨0,rfl,by omega,Below.refl _ _,rfl⟩
  case round =>
   obtain⟨i,rfl,hi,hbl,hx⟩:=hrel
   by_cases hil:i<n
   ·have hia:i<la.length:=by have:=HN.out;omega
    have hib:i<lb.length:=by have:=HL.out;omega
    obtain⟨b,o,rfl,hbw,hcs⟩:=HA.out (by omega)
    obtain⟨b2,o2,rfl,hbw2,hcs2⟩:=HB.out (by omega)
    have e0:=(hbl.cell (p:=⟨b,_,none⟩) hbw).trans (hcs i hia)
    have e1:=(hbl.cell (p:=⟨b2,_,none⟩) hbw2).trans (hcs2 i hib)
    obtain⟨x,hx1⟩:∃ x,x=la[i]:=⟨_,rfl⟩
    obtain⟨y,hy1⟩:∃ y,y=lb[i]:=⟨_,rfl⟩
    rw[←hx1] at e0
    rw[←hy1] at e1
    have HX:=C5 hx1
    have HY:=C5 hy1
    have him:i<m:=by have:=HM.out;have:=HL.out;have:=HN.out;omega
    clear hx1 hy1 hcs hcs2
    by_cases hxy:x=y
    ·have hd2:(x == y)=true:=by simp[hxy]
     have HXY:=C5 hxy
     clear hxy
     go_wp2_with fail
     go_quiet (fail)
     go_wp2_with fail
     go_roundw
     case rel=>exact⟨i+1,by go_num,by omega,below_drewN hbl _,lK hia hib hx.out (by rw[←HX.out,←HY.out];exact HXY.out)⟩
     case measure=>simp[intOf];omega
    ·have hd2:(x == y)=false:=by simp[hxy]
     have HXY:=C5 hxy
     clear hxy
     go_wp2_with fail
     go_quiet (fail)
     go_wp2_with fail
     go_ret
     have hne:¬ la=lb:=fun e=>HXY.out (by rw[HX.out,HY.out];simp[e])
     exact⟨by simp[hne],below_drewN hbl _⟩
   ·have hie:i=n:=by omega
    subst hie
    clear hil hi
    go_wp2_with fail
    go_ret
    have he:la=lb:=by
     have h1:=hx.out
     rw[Db (by have:=HN.out;omega),Db (by have:=HN.out;have:=HL.out;omega)] at h1
     exact h1
    exact⟨by simp[he],hbl⟩
 ·have hd:(((la.length:Nat):Int) == ((lb.length:Nat):Int))=false:=by simp;omega
  go_wp2_with fail
  go_ret
  have hne:¬ la=lb:=fun e=>hl (by rw[e])
  exact⟨by simp[hne],Below.refl _ _⟩
theorem sC (u1 u2 v1 v2:Value) (a1 a2 b1 b2:List Int) (w:World) (h1:aN w u1 a1) (h2:aN w u2 a2) (h3:aN w v1 b1) (h4:aN w v2 b2) (l1:a1.length≤140737488351232) (l2:a2.length≤140737488351232) (l3:b1.length≤140737488351232) (l4:b2.length≤140737488351232) :
  Calls Tryz.prog 19 #[.agg #[u1,u2],.agg #[v1,v2]] w fun e w'=>e=.returned (.bool (decide (a1=b1)&&decide (a2=b2)))∧Below w.heap.size w w':=by
 have hl:=fS w (.cells #[u1,u2] 41) (.cells #[v1,v2] 41)
 have i1:=h1.below hl.below;have i2:=h2.below hl.below;have i3:=h3.below hl.below;have i4:=h4.below hl.below
 obtain⟨q1,c1,e1,_⟩:=h1.at_
 obtain⟨q2,c2,e2,_⟩:=h2.at_
 obtain⟨q3,c3,e3,_⟩:=h3.at_
 obtain⟨q4,c4,e4,_⟩:=h4.at_
 generalize hn1:a1.length=n1 at e1
 generalize hn2:a2.length=n2 at e2
 generalize hn3:b1.length=n3 at e3
 generalize hn4:b2.length=n4 at e4
 clear hn1 hn2 hn3 hn4
 subst e1 e2 e3 e4
 clear h1 h2 h3 h4
 go_enter Tryz.func19,Tryz.ntmps19
 go_upto_region 1 with fail
 generalize (w.alloc (.cells #[.slice q1 n1 c1,.slice q2 n2 c2] 41)).alloc (.cells #[.slice q3 n3 c3,.slice q4 n4 c4] 41)=w1 at *
 have x0:=aa hl.s0 0;have x1:=aa hl.s0 1;have x2:=aa hl.s1 0;have x3:=aa hl.s1 1
 go_wp2_with fail
 refine (pE _ _ a1 b1 w1 i1 i3 l1 l3).mono ?_
 rintro e w2 ⟨rfl,hb2⟩
 have HB2:=hl.below.trans (hb2.mono hl.below.size)
 have r0:=(hb2.block _ (ae hl.s0)).trans hl.s0
 have r1:=(hb2.block _ (ae hl.s1)).trans hl.s1
 have j2:=i2.below hb2;have j4:=i4.below hb2
 clear x0 x1 x2 x3 i1 i2 i3 i4 hb2 hl
 have x1:=aa r0 1;have x3:=aa r1 1
 obtain⟨b,hb⟩:∃ b,b=decide (a1=b1):=⟨_,rfl⟩
 rw[←hb]
 have HBB:=C5 hb
 clear hb
 clear r0 r1
 cases b
 ·go_wp2_with fail
  go_ret
  exact⟨by rw[←HBB.out];rfl,HB2⟩
 ·go_wp2_with fail
  refine (pE _ _ a2 b2 w2 j2 j4 l2 l4).mono ?_
  rintro e w3 ⟨rfl,hb3⟩
  have HB3:=HB2.trans (hb3.mono HB2.size)
  clear j2 j4 hb3 x1 x3
  go_wp2_with fail
  go_ret
  exact⟨by rw[←HBB.out];rfl,HB3⟩
structure tc (w:World) (v:Value) (l:List Cl):Prop where
 at_:∃ p c,v=.slice p l.length c∧(0<l.length→∃ b o,p=some ⟨b,o,none⟩∧b<w.heap.size∧∀ i (h:i<l.length),w.cell? ⟨b,o+i*2,none⟩=some (.int .i64 l[i].loop)∧w.cell? ⟨b,o+i*2+1,none⟩=some (.string l[i].gain))
theorem tc.below {w w':World}{v:Value}{l:List Cl} (h:tc w v l) (hb:Below w.heap.size w w'):tc w' v l:=by
 obtain⟨p,c,e,hc⟩:=h.at_
 refine⟨p,c,e,fun hl=>?_⟩
 obtain⟨b,o,e2,hlt,hi⟩:=hc hl
 exact⟨b,o,e2,C8 hlt hb.size,fun i hi2=>⟨(hb.cell (p:=⟨b,_,none⟩) hlt).trans (hi i hi2).1,(hb.cell (p:=⟨b,_,none⟩) hlt).trans (hi i hi2).2⟩⟩
theorem ClR.qs {n:Nat}{w:World}{v:Value}{l:List Cl} (h:ClR n w v l):tc w v l:=by
 obtain⟨p,c,e,hL⟩:=h.q
 exact⟨p,c,e,hL.at_⟩
theorem zO (w:World) (n:Nat) (a:Int) (b:ByteArray):(Op.equalIn (n+1+1) 136 (.agg #[.int .i64 a,.string b]) (.agg #[.int .i64 a,.string b])).run Tryz.prog w=.ok true w:=by
 have hs:Tryz.prog.stoodInHeld 136=false:=by kernel_rfl
 have c3:Tryz.prog.cellsOf 3=1:=mS
 have hu:=Tryz.underlying136
 have h3:=lN
 rw[run_equalIn_struct w _ _ _ _ (by simp[Program.fieldsOf,hu]) hs]
 simp[go_sem,Program.fieldsOf,hu,Op.eqFields]
theorem AZ:Tryz.prog.eqGuardType Tryz.prog.depth 136=false:=by kernel_rfl
theorem xa (w:World) (a:Int) (b:ByteArray):(Op.equalIn 10000 136 (.agg #[.int .i64 a,.string b]) (.agg #[.int .i64 a,.string b])).run Tryz.prog w=.ok true w:=zO w _ a b
theorem oJ (va vb:Value) (l:List Cl) (w:World) (ha:tc w va l) (hb:tc w vb l) (hn:l.length≤1000000) :
  Calls Tryz.prog 42 #[va,vb] w fun e w'=>e=.returned (.bool true)∧Below w.heap.size w w':=by
 obtain⟨p,c,rfl,hc⟩:=ha.at_
 obtain⟨q,d,rfl,hd⟩:=hb.at_
 have HA:=C5 hc
 have HB:=C5 hd
 clear ha hb hc hd
 go_enter Tryz.func42,Tryz.ntmps42
 obtain⟨n,hna⟩:∃ n,n=l.length:=⟨_,rfl⟩
 rw[←hna] at hn ⊢
 have hd:((n:Int) == (n:Int))=true:=by simp
 have HN:=C5 hna
 clear hna
 go_wp2_with fail
 go_loopw [5] (fun s5 wr=>∃ i:Nat,s5=.int .i64 i∧i≤n∧Below w.heap.size w wr) (fun s5 _=>n-(intOf s5).toNat)
 case atStart=>exact⟨0,rfl,by omega,Below.refl _ _⟩
 case round =>
  obtain⟨i,rfl,hi,hbl⟩:=hrel
  by_cases hil:i<n
  ·have hia:i<l.length:=by have:=HN.out;omega
   obtain⟨b,o,rfl,hbw,hcs⟩:=HA.out (by omega)
   obtain⟨b2,o2,rfl,hbw2,hcs2⟩:=HB.out (by omega)
   have e0:=(hbl.cell (p:=⟨b,_,none⟩) hbw).trans (hcs i hia).1
   have e1:=(hbl.cell (p:=⟨b2,_,none⟩) hbw2).trans (hcs2 i hia).1
   have e2:=(hbl.cell (p:=⟨b,_,none⟩) hbw).trans (hcs i hia).2
   have e3:=(hbl.cell (p:=⟨b2,_,none⟩) hbw2).trans (hcs2 i hia).2
   obtain⟨x,hx1⟩:∃ x,x=l[i]:=⟨_,rfl⟩
   rw[←hx1] at e0 e1 e2 e3
   clear hx1 hcs hcs2
   obtain⟨xg,xk⟩:=x
   simp only at e0 e1 e2 e3
   have heq:=fun w=>xa w xg xk
   have hgd:=AZ
   go_wp2_with fail
   go_quiet (fail)
   go_wp2_with fail
   go_roundw
   case rel=>exact⟨i+1,by go_num,by omega,below_drewN hbl _⟩
   case measure=>simp[intOf];omega
  ·have hie:i=n:=by omega
   subst hie
   clear hil hi
   go_wp2_with fail
   go_ret
   exact⟨rfl,hbl⟩
theorem yD (w:World) (a:Addr) (u:Value):w.grownBy (w.setCell a u) (some a.block) :=
 ⟨rfl,rfl,rfl,by simp[World.setCell],fun k _ hk=>heap_setCell_other _ _ _ _ (fun e=>hk (by rw[e]))⟩
def Cz (w:World) (e:Ending) (w':World):Prop:=e=.returned (.bool true)∧Below w.heap.size w w'
theorem iD.uniq {gs:List Gd}{al fl:List Int}{n m:Int} (h:iD gs al fl n) (h2:iD gs al fl m):n=m:=by
 rcases h with ⟨a,rfl⟩ | ⟨a,rfl,_⟩<;>rcases h2 with ⟨b,rfl⟩ | ⟨b,rfl,_⟩
 ·rfl
 ·rw[a] at b;cases b
 ·rw[a] at b;cases b
 ·rfl
theorem iD.ok {gs:List Gd}{al fl:List Int}{n:Int} (h:iD gs al fl n) (hS:aX gs=true) {y:St} (hy:cU gs al fl y):False:=by
 rcases h with ⟨a,_⟩ | ⟨_,_,h⟩
 ·rw[a] at hS;cases hS
 ·exact h y hy
end Go.Proofs.YtnkgbocdpngldaaGreatDoor
