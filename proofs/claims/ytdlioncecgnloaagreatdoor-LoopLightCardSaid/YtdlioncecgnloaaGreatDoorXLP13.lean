/- Lemmas of this claim. -/
import Derived.Test.YtdlioncecgnloaaGreatDoorXReg
import Derived.Test.YtdlioncecgnloaaGreatDoorXNC7
import Derived.Test.YtdlioncecgnloaaGreatDoorXNC8
import Derived.Test.YtdlioncecgnloaaGreatDoorXPL6
import Derived.Test.YtdlioncecgnloaaGreatDoorXLP10
set_option linter.all false
set_option maxRecDepth 100000
set_option maxHeartbeats 8000000
namespace Go.Proofs.YtdlioncecgnloaaGreatDoor
open Go.RowKit Dg
def du (a b:List ByteArray):(List ByteArray×List ByteArray)×Int:=aB a b a b (ci a a b)
def fQ (a b:List ByteArray):(List ByteArray×List ByteArray)×Int:=aB a b a b (ci b a b)
theorem xz (w:World) (a b:List ByteArray) (v:Value) (hP:g9 w v a b a b ⟨#[]⟩ 0) (hG:Gx w):Calls Tryz.prog 117 #[.func (.func 123) #[] #[],v] w (dJ (du a b) w):=by
 refine jM 123 v a b a b ⟨#[]⟩ 0 _ w hP ⟨aP Tryz.func123 rfl (by kernel_rfl),fun v' w' hw' hP' hc hc2=>?_⟩ hG
 obtain⟨ob1,ob7,oa1,oa7,-⟩:=aD hc
 exact zS v' a b a b ⟨#[]⟩ 0 w' hP' oa1 (by omega) (by omega) (hG.below hw').g
theorem Bb (w:World) (a b:List ByteArray) (v:Value) (hP:g9 w v a b a b ⟨#[]⟩ 0) (hG:Gx w):Calls Tryz.prog 117 #[.func (.func 125) #[] #[],v] w (dJ (fQ a b) w):=by
 refine jM 125 v a b a b ⟨#[]⟩ 0 _ w hP ⟨aP Tryz.func125 rfl (by kernel_rfl),fun v' w' hw' hP' hc hc2=>?_⟩ hG
 obtain⟨ob1,ob7,oa1,oa7,-⟩:=aD hc
 exact BJ v' a b a b ⟨#[]⟩ 0 w' hP' oa1 (by omega) (by omega) (hG.below hw').g
theorem tD (v:Value) (a b:List ByteArray) (w:World) (hF:IsF w v a b) (hG:Gx w) :
  Calls Tryz.prog 47 #[v] w (dJ (du a b) w):=by
 obtain⟨p,c,q,d,rfl,hfa,hfb⟩:=id hF.ex
 go_enter Tryz.func47,Tryz.ntmps47
 go_upto_region 1 with fail
 have cc:=ap w (.slice p a.length c) (.slice q b.length d)
 have m1:=ae w (.cells #[.slice p a.length c,.slice q b.length d] 28)
 have z1:=size_alloc w (.cells #[.slice p a.length c,.slice q b.length d] 28)
 generalize w.alloc (.cells #[.slice p a.length c,.slice q b.length d] 28)=w1 at *
 have q2:(w1.alloc (.cells #[.slice none 0 0,.slice none 0 0] 28)).heap[w1.heap.size]?=some (.cells #[.slice none 0 0,.slice none 0 0] 28 (0,0)):=heap_alloc_new w1 _
 have m2:=ae w1 (.cells #[.slice none 0 0,.slice none 0 0] 28)
 have z2:=size_alloc w1 (.cells #[.slice none 0 0,.slice none 0 0] 28)
 have c0:=aa m2 (show w.heap.size<w1.heap.size by omega) cc.1
 have c1:=aa m2 (show w.heap.size<w1.heap.size by omega) cc.2
 generalize w1.alloc (.cells #[.slice none 0 0,.slice none 0 0] 28)=w2 at *
 rw[z1] at q2
 have M2:=BZ (m1.trans (m2.mono m1.size))
 have hz2:w.heap.size+2=w2.heap.size:=by omega
 have hP:g9 w2 (.agg #[.slice p a.length c,.slice q b.length d,.slice p a.length c,.slice q b.length d,.string ⟨#[]⟩,.int .i64 0]) a b a b ⟨#[]⟩ 0 :=
  ⟨⟨p,c,q,d,p,c,q,d,rfl,hfa.below M2.out,hfb.below M2.out,hfa.below M2.out,hfb.below M2.out⟩⟩
 have HC:=BZ (xz w2 a b _ hP (hG.below M2.out))
 clear m1 z1 m2 z2 cc hfa hfb hG hF hP
 go_wp2_with fail
 refine HC.out.mono ?_
 rintro e w3 ⟨u,rfl,hu,hb3⟩
 obtain⟨r,hr⟩:∃ r,r=du a b:=⟨_,rfl⟩
 rw[show du a b=r from hr.symm] at hu ⊢
 obtain⟨⟨L1,L2⟩,er⟩:=r
 have HR:=BZ hr
 simp only at hu ⊢
 obtain⟨p1,c1',p2,c2,rfl,g1,g2,o1,o2⟩:=hu.ex
 have hn1:Value.ownBlock (.slice p1 L1.length c1')≠some (w.heap.size+1):=fun e=>by have:=o1 _ e;omega
 have hn2:Value.ownBlock (.slice p2 L2.length c2)≠some (w.heap.size+1):=fun e=>by have:=o2 _ e;omega
 have q3:=(hb3.block (w.heap.size+1) (by omega)).trans q2
 have k0:=ah q3 0
 have k1:=ah q3 1
 have f0:=ay q3 0
 have f1:=ay q3 1
 have R1:=BZ ((g1.other hn1 0 (.slice p1 L1.length c1')).other hn1 1 (.slice p2 L2.length c2))
 have R2:=BZ ((g2.other hn2 0 (.slice p1 L1.length c1')).other hn2 1 (.slice p2 L2.length c2))
 have O1:=BZ (show ∀ g,Value.ownBlock (.slice p1 L1.length c1')=some g→w.heap.size≤g from fun g e=>by have:=o1 _ e;omega)
 have O2:=BZ (show ∀ g,Value.ownBlock (.slice p2 L2.length c2)=some g→w.heap.size≤g from fun g e=>by have:=o2 _ e;omega)
 have M7:=BZ (((M2.out.trans (hb3.mono M2.out.size)).setCell (p:=⟨w.heap.size+1,0,none⟩) (CI _) (.slice p1 L1.length c1')).setCell (p:=⟨w.heap.size+1,1,none⟩) (CI _) (.slice p2 L2.length c2))
 have g0:=bJ q3 (.slice p1 L1.length c1') (.slice p2 L2.length c2)
 have x0:=ah g0 0
 have x1:=ah g0 1
 clear hn1 hn2 g1 g2 o1 o2 q2 q3 hb3 HC hu hr
 go_wp2
 refine bodyPost_ret (v:=.tuple #[.agg #[.slice p1 L1.length c1',.slice p2 L2.length c2],.int .i64 er]) (by simp at x0 x1;simp[results,Tryz.results47,go_sem,x0,x1]) rfl ⟨_,by rw[←HR.out],?_,M7.out⟩
 rw[←HR.out]
 exact⟨⟨p1,c1',p2,c2,rfl,R1.out,R2.out,O1.out,O2.out⟩⟩
theorem AB (v:Value) (a b:List ByteArray) (w:World) (hF:IsF w v a b) (hG:Gx w) :
  Calls Tryz.prog 49 #[v] w (dJ (fQ a b) w):=by
 obtain⟨p,c,q,d,rfl,hfa,hfb⟩:=id hF.ex
 go_enter Tryz.func49,Tryz.ntmps49
 go_upto_region 1 with fail
 have cc:=ap w (.slice p a.length c) (.slice q b.length d)
 have m1:=ae w (.cells #[.slice p a.length c,.slice q b.length d] 28)
 have z1:=size_alloc w (.cells #[.slice p a.length c,.slice q b.length d] 28)
 generalize w.alloc (.cells #[.slice p a.length c,.slice q b.length d] 28)=w1 at *
 have q2:(w1.alloc (.cells #[.slice none 0 0,.slice none 0 0] 28)).heap[w1.heap.size]?=some (.cells #[.slice none 0 0,.slice none 0 0] 28 (0,0)):=heap_alloc_new w1 _
 have m2:=ae w1 (.cells #[.slice none 0 0,.slice none 0 0] 28)
 have z2:=size_alloc w1 (.cells #[.slice none 0 0,.slice none 0 0] 28)
 have c0:=aa m2 (show w.heap.size<w1.heap.size by omega) cc.1
 have c1:=aa m2 (show w.heap.size<w1.heap.size by omega) cc.2
 generalize w1.alloc (.cells #[.slice none 0 0,.slice none 0 0] 28)=w2 at *
 rw[z1] at q2
 have M2:=BZ (m1.trans (m2.mono m1.size))
 have hz2:w.heap.size+2=w2.heap.size:=by omega
 have hP:g9 w2 (.agg #[.slice p a.length c,.slice q b.length d,.slice p a.length c,.slice q b.length d,.string ⟨#[]⟩,.int .i64 0]) a b a b ⟨#[]⟩ 0 :=
  ⟨⟨p,c,q,d,p,c,q,d,rfl,hfa.below M2.out,hfb.below M2.out,hfa.below M2.out,hfb.below M2.out⟩⟩
 have HC:=BZ (Bb w2 a b _ hP (hG.below M2.out))
 clear m1 z1 m2 z2 cc hfa hfb hG hF hP
 go_wp2_with fail
 refine HC.out.mono ?_
 rintro e w3 ⟨u,rfl,hu,hb3⟩
 obtain⟨r,hr⟩:∃ r,r=fQ a b:=⟨_,rfl⟩
 rw[show fQ a b=r from hr.symm] at hu ⊢
 obtain⟨⟨L1,L2⟩,er⟩:=r
 have HR:=BZ hr
 simp only at hu ⊢
 obtain⟨p1,c1',p2,c2,rfl,g1,g2,o1,o2⟩:=hu.ex
 have hn1:Value.ownBlock (.slice p1 L1.length c1')≠some (w.heap.size+1):=fun e=>by have:=o1 _ e;omega
 have hn2:Value.ownBlock (.slice p2 L2.length c2)≠some (w.heap.size+1):=fun e=>by have:=o2 _ e;omega
 have q3:=(hb3.block (w.heap.size+1) (by omega)).trans q2
 have k0:=ah q3 0
 have k1:=ah q3 1
 have f0:=ay q3 0
 have f1:=ay q3 1
 have R1:=BZ ((g1.other hn1 0 (.slice p1 L1.length c1')).other hn1 1 (.slice p2 L2.length c2))
 have R2:=BZ ((g2.other hn2 0 (.slice p1 L1.length c1')).other hn2 1 (.slice p2 L2.length c2))
 have O1:=BZ (show ∀ g,Value.ownBlock (.slice p1 L1.length c1')=some g→w.heap.size≤g from fun g e=>by have:=o1 _ e;omega)
 have O2:=BZ (show ∀ g,Value.ownBlock (.slice p2 L2.length c2)=some g→w.heap.size≤g from fun g e=>by have:=o2 _ e;omega)
 have M7:=BZ (((M2.out.trans (hb3.mono M2.out.size)).setCell (p:=⟨w.heap.size+1,0,none⟩) (CI _) (.slice p1 L1.length c1')).setCell (p:=⟨w.heap.size+1,1,none⟩) (CI _) (.slice p2 L2.length c2))
 have g0:=bJ q3 (.slice p1 L1.length c1') (.slice p2 L2.length c2)
 have x0:=ah g0 0
 have x1:=ah g0 1
 clear hn1 hn2 g1 g2 o1 o2 q2 q3 hb3 HC hu hr
 go_wp2
 refine bodyPost_ret (v:=.tuple #[.agg #[.slice p1 L1.length c1',.slice p2 L2.length c2],.int .i64 er]) (by simp at x0 x1;simp[results,Tryz.results49,go_sem,x0,x1]) rfl ⟨_,by rw[←HR.out],?_,M7.out⟩
 rw[←HR.out]
 exact⟨⟨p1,c1',p2,c2,rfl,R1.out,R2.out,O1.out,O2.out⟩⟩
theorem wj (q:Rat):(cA (CQ.real q)).1.size<100000:=by
 unfold cA
 cases h:dI (CQ.real q)
 ·simp only[CA,if_false]
  have h1:df (rt q)=false:=by unfold dI CQ.real at h;simp only[Dy] at h;exact h.1
  have e:cJ (ct (CQ.real q))=aN (rt q):=cw (z:=ct (CQ.real q)) (by show (rt 0).n=0;rw[eu])
  have hr:=mC ((yV (aN (rt q))).1.2 ⟨_,lA q,h1,rfl⟩)
  unfold txt
  rw[e]
  show (aN (rt q)).toArray.size<100000
  simp;omega
 ·simp only[if_true];decide
theorem qZ (X:CQ→Rat) (s:ByteArray):(ofC (fun z=>CQ.real (X z)) s).1.size<100000:=by
 unfold ofC
 split
 ·exact wj _
 ·decide
theorem Bp (s:ByteArray) (w:World) (hG:Gx w) :
  Calls Tryz.prog 104 #[.string s] w fun e w'=>e=.returned (.bool (kD s))∧Below w.heap.size w w':=by
 have HG:=BZ hG
 obtain⟨x,hx⟩:∃ x,x=(ofC (fun z=>CQ.real z.re) s).1:=⟨_,rfl⟩
 obtain⟨d,hd⟩:∃ d,d=(ofC (fun z=>CQ.real z.re) s).2:=⟨_,rfl⟩
 obtain⟨y,hy⟩:∃ y,y=(ofC (fun z=>CQ.real z.im) s).1:=⟨_,rfl⟩
 obtain⟨e,he⟩:∃ e,e=(ofC (fun z=>CQ.real z.im) s).2:=⟨_,rfl⟩
 have hxs:x.size<100000:=hx ▸ qZ _ s
 have hys:y.size<100000:=hy ▸ qZ _ s
 have H1:=BZ (BQ s w hG.g)
 have H2:=BZ (fun wx (hw:Below w.heap.size w wx)=>BO s wx (hG.g.below hw))
 rw[←hx,←hd] at H1
 rw[←hy,←he] at H2
 have HS:=BZ (show kD s=(decide (d=0)&&decide (e=0)&&fN x.data.toList&&fN y.data.toList) by unfold kD;rw[hx,hd,hy,he])
 clear hx hd hy he hG
 go_enter Tryz.func104,Tryz.ntmps104
 go_wp2_with fail
 refine H1.out.mono ?_
 rintro r w1 ⟨rfl,hb1⟩
 go_wp2_with fail
 refine (H2.out w1 hb1).mono ?_
 rintro r w2 ⟨rfl,hb2⟩
 have hB2:=hb1.trans (hb2.mono hb1.size)
 clear hb1 hb2 H1 H2
 by_cases h1:d=0
 ·subst h1
  by_cases h2:e=0
  ·subst h2
   go_wp2_with fail
   refine (tj x w2 hxs (HG.out.below hB2)).mono ?_
   rintro r w3 ⟨b,rfl,hb,hb3⟩
   have hB3:=hB2.trans (hb3.mono hB2.size)
   clear hb3 hB2
   cases b
   ·have HB:=BZ hb.out
    clear hb
    go_wp2
    go_ret
    exact⟨by rw[HS.out,HB.out];simp,hB3⟩
   ·have HB:=BZ hb.out
    clear hb
    go_wp2_with fail
    refine (tj y w3 hys (HG.out.below hB3)).mono ?_
    rintro r w4 ⟨b,rfl,hb,hb4⟩
    have HB2:=BZ hb.out
    clear hb
    go_wp2
    go_ret
    exact⟨by rw[HS.out,HB.out,HB2.out];simp,hB3.trans (hb4.mono hB3.size)⟩
  ·have hde:decide (e=0)=false:=decide_eq_false h2
   go_wp2
   go_ret
   exact⟨by rw[HS.out];simp[h2],hB2⟩
 ·have hdd:decide (d=0)=false:=decide_eq_false h1
  go_wp2
  go_ret
  exact⟨by rw[HS.out];simp[h1],hB2⟩
def mG (out:List ByteArray) (x:ByteArray) (b:List ByteArray) (i:Nat):Nat→List ByteArray
 | 0=>out
 | k+1=>(mG out x b i k).set (i+k) (dV (aq (mG out x b i k) (i+k)) (bu x (aq b k)))
def eT (a b:List ByteArray):Nat→List ByteArray
 | 0=>List.replicate (a.length+b.length-1) ⟨#[48]⟩
 | i+1=>mG (eT a b i) (aq a i) b i b.length
def bU (a b:List ByteArray):List ByteArray:=eT a b a.length
theorem mH (out:List ByteArray) (x:ByteArray) (b:List ByteArray) (i:Nat):∀ k,(mG out x b i k).length=out.length
 | 0=>rfl
 | k+1=>by rw[mG,Di,mH out x b i k]
theorem iU (a b:List ByteArray):∀ i,(eT a b i).length=a.length+b.length-1
 | 0=>by simp[eT]
 | i+1=>by rw[eT,mH,iU a b i]
def jd (n i:Nat):List ByteArray:=List.replicate i ⟨#[48]⟩++List.replicate (n-i) ⟨#[]⟩
theorem vz {n i:Nat} (h:i≤n):(jd n i).length=n:=by simp[jd];omega
theorem vA {n i:Nat} (h:i<n):(jd n i).set i ⟨#[48]⟩=jd n (i+1):=by
 unfold jd
 rw[Er _ _ (by simp),DG,DV,show n-i=(n-(i+1))+1 from by omega,Df,Cb,Ec,CV]
 rfl
theorem vw (n:Nat):jd n n=List.replicate n ⟨#[48]⟩:=by simp[jd]
theorem iy (va vb:Value) (a b:List ByteArray) (w:World) (ha:IsS w va a) (hb:IsS w vb b) (h0:0<a.length) (h1:0<b.length) (ha1:a.length<1000) (hb1:b.length<1000) (hG:Gw w) :
  Calls Tryz.prog 192 #[va,vb,.string ⟨#[48]⟩,.func (.func 68) #[] #[],.func (.func 70) #[] #[]] w fun e w'=>∃ u,e=.returned u∧aZ w' w.heap.size u (bU a b)∧Below w.heap.size w w':=by
 obtain⟨pa,ca,rfl,-⟩:=id ha.form
 obtain⟨pb,cb,rfl,-⟩:=id hb.form
 have ENA:=aP Tryz.func68 rfl (by kernel_rfl)
 have ENM:=aP Tryz.func70 rfl (by kernel_rfl)
 have HA:=BZ ha
 have HB:=BZ hb
 have HG:=BZ hG
 clear ha hb hG
 obtain⟨n,hn⟩:∃ n,n=a.length+b.length-1:=⟨_,rfl⟩
 have hnI:((a.length:Int)+(b.length:Int))-1=(n:Int):=by omega
 have HN:=BZ hn
 have hn1:n<2000:=by omega
 clear hn
 go_enter Tryz.func192,Tryz.ntmps192
 go_wp2_with (refine bH 26 Tryz.underlying26 rfl (.tmp 22) (.tmp 22) rfl _ _ n rfl rfl (by go_num) (by go_num) (by omega) ?_)
 intro w2 hr2 hb2 hs2
 have M2:=hb2 _ _ (Below.refl w.heap.size w) (Cd _)
 have HR2:=BZ (show bV w2 w.heap.size n (jd n 0) from by rw[show jd n 0=List.replicate n ⟨#[]⟩ from rfl];exact hr2)
 clear hr2 hb2 hs2
 go_wp2
 go_loopw [12,26] (fun _ s26 wr=>∃ i:Nat,s26=.int .i64 i∧i≤n∧bV wr w.heap.size n (jd n i)∧Below w.heap.size w wr) (fun _ s26 _=>n-(intOf s26).toNat)
 case atStart=>exact⟨0,rfl,Cp _,HR2.out,M2⟩
 case round =>
  obtain⟨i,rfl,hin,hrow,hbr⟩:=hrel
  by_cases hi:i<n
  ·have c0:=hrow.cell (j:=i) (by rw[vz hin];exact hi)
   have f0:=hrow.free i
   have hs:=hrow.set i ⟨#[48]⟩
   rw[vA hi] at hs
   have HS:=BZ hs
   have HB2:=BZ (hbr.setCell (p:=⟨w.heap.size,i,none⟩) (Cd _) (.string ⟨#[48]⟩))
   clear hrow hbr hs
   go_wp2
   go_roundw
   case rel=>exact⟨i+1,by go_num,by omega,HS.out,HB2.out⟩
   case measure=>(first | (simp[intOf];done) | (simp[intOf];omega))
  ·obtain rfl:i=n:=by omega
   have hrow:=BZ (show bV wr w.heap.size i (eT a b 0) from by
    rw[vw] at hrow
    rw[show eT a b 0=List.replicate i ⟨#[48]⟩ from by rw[eT,HN.out]]
    exact hrow)
   clear hi hin M2 HR2
   rename World=>w3
   go_wp2
   go_loopw [13,14,15,16,36] (fun _ _ _ _ s36 wr=>∃ j:Nat,s36=.int .i64 j∧j≤a.length∧bV wr w.heap.size i (eT a b j)∧Below w.heap.size w wr) (fun _ _ _ _ s36 _=>a.length-(intOf s36).toNat)
   case atStart=>exact⟨0,rfl,Cp _,hrow.out,hbr⟩
   case round =>
    clear hrow hbr
    obtain⟨j,rfl,hjn,hrow,hbr⟩:=hrel
    by_cases hj:j<a.length
    ·obtain⟨ba,oa,rfl,hal,hca⟩:=(HA.out.below hbr).all h0
     have ca0:=hca j hj
     rename World=>wo
     go_wp2
     go_loopw [15,16,43] (fun _ _ s43 wr=>∃ k:Nat,s43=.int .i64 k∧k≤b.length∧bV wr w.heap.size i (mG (eT a b j) (aq a j) b j k)∧Below w.heap.size w wr) (fun _ _ s43 _=>b.length-(intOf s43).toNat)
     case atStart=>exact⟨0,rfl,Cp _,hrow,hbr⟩
     case round =>
      clear hrow hbr ca0 hca hal
      obtain⟨k,rfl,hkn,hrow,hbr⟩:=hrel
      by_cases hk:k<b.length
      ·obtain⟨bb,ob,rfl,hbl,hcb⟩:=(HB.out.below hbr).all h1
       have cb0:=hcb k hk
       obtain⟨L,hL⟩:∃ L,L=mG (eT a b j) (aq a j) b j k:=⟨_,rfl⟩
       rw[←hL] at hrow
       have HLL:=BZ (show L.length=i by rw[hL,mH,iU,HN.out])
       have HNX:=BZ (show mG (eT a b j) (aq a j) b j (k+1)=L.set (j+k) (dV (aq L (j+k)) (bu (aq a j) (aq b k))) by rw[mG,←hL])
       clear hL hcb
       have hjk:j+k<i:=by have:=HN.out;omega
       have hin2:=IntWalk.i64_in ((j:Int)+(k:Int)) (by omega)
       have hix:0≤(j:Int)+(k:Int):=by omega
       have hix2:(j:Int)+(k:Int)<(i:Int):=by omega
       have hta:(((j:Int)+(k:Int))).toNat=j+k:=by omega
       go_upto_region 13 with fail
       have hBd:Below wr.heap.size wr wr.drew:=(Below.refl _ _).drew
       refine aF (fun wx:World=>Below wr.drew.heap.size wr.drew wx) (fun t=>t == 17) (by kernel_rfl) ?_
       have hrowd:=hrow.below hBd
       have hbd:=hbr.trans (hBd.mono hbr.size)
       generalize wr.drew=wd at *
       have hS:Below wd.heap.size wd wd:=Below.refl _ _
       have HRW:=BZ hrowd
       have hj2:j+k<L.length:=by rw[HLL.out];exact hjk
       have HJ2:=BZ hj2
       clear hrowd hrow hbr cb0 hbl hj2
       refine ai (i:=0) (v:=?vv0) rfl (by kernel_rfl) (fun _ _ _ h=>h) rfl ?hy0 ?rest0
       case hy0=>(intro wy;go_simp;try with_reducible rfl)
       try simp only[Act.put,Ca,B_,B9,B4,Cb,Cc]
       refine ai (i:=1) (v:=?vv1) rfl (by kernel_rfl) (fun _ _ _ h=>h) rfl ?hy1 ?rest1
       case hy1=>(intro wy;go_simp;try with_reducible rfl)
       try simp only[Act.put,Ca,B_,B9,B4,Cb,Cc]
       refine ai (i:=2) (v:=?vv2) rfl (by kernel_rfl) (fun _ _ _ h=>h) rfl ?hy2 ?rest2
       case hy2=>(intro wy;go_simp;try with_reducible rfl)
       try simp only[Act.put,Ca,B_,B9,B4,Cb,Cc]
       refine ai (i:=3) (v:=?vv3) rfl (by kernel_rfl) (fun _ _ _ h=>h) rfl ?hy3 ?rest3
       case hy3=>(intro wy;go_simp;try with_reducible rfl)
       try simp only[Act.put,Ca,B_,B9,B4,Cb,Cc]
       refine ai (i:=4) (v:=?vv4) rfl (by kernel_rfl) (fun _ _ _ h=>h) rfl ?hy4 ?rest4
       case hy4=>(intro wy;go_simp;try with_reducible rfl)
       try simp only[Act.put,Ca,B_,B9,B4,Cb,Cc]
       refine ai (i:=5) (v:=?vv5) rfl (by kernel_rfl) (fun _ _ _ h=>h) rfl ?hy5 ?rest5
       case hy5=>(intro wy;go_simp;try with_reducible rfl)
       try simp only[Act.put,Ca,B_,B9,B4,Cb,Cc]
       refine ai (i:=6) (v:=?vv6) rfl (by kernel_rfl) (fun _ _ _ h=>h) rfl ?hy6 ?rest6
       case hy6=>(intro wy;go_simp;try with_reducible rfl)
       try simp only[Act.put,Ca,B_,B9,B4,Cb,Cc]
       refine ai (i:=7) (v:=?vv7) rfl (by kernel_rfl) (fun _ _ _ h=>h) rfl ?hy7 ?rest7
       case hy7=>(intro wy;go_simp;try with_reducible rfl)
       try simp only[Act.put,Ca,B_,B9,B4,Cb,Cc]
       refine ai (i:=8) (v:=?vv8) rfl (by kernel_rfl) (fun _ _ _ h=>h) rfl ?hy8 ?rest8
       case hy8=>(intro wy;go_simp;try with_reducible rfl)
       try simp only[Act.put,Ca,B_,B9,B4,Cb,Cc]
       refine ai (i:=9) (v:=?vv9) rfl (by kernel_rfl) (fun _ _ _ h=>h) rfl ?hy9 ?rest9
       case hy9=>(intro wy;go_simp;try with_reducible rfl)
       try simp only[Act.put,Ca,B_,B9,B4,Cb,Cc]
       refine aC (i:=10) (v:=?vv10) rfl (by kernel_rfl) (fun _ _ _ h=>h) rfl hS ?hy10 ?rest10
       case hy10 =>
        intro wy hy
        have c0:=(HRW.out.below hy).cell (j:=j+k) HJ2.out
        rw[cO] at c0
        clear hy
        go_simp
        try with_reducible rfl
       try simp only[Act.put,Ca,B_,B9,B4,Cb,Cc]
       refine ai (i:=11) (v:=?vv11) rfl (by kernel_rfl) (fun _ _ _ h=>h) rfl ?hy11 ?rest11
       case hy11=>(intro wy;go_simp;try with_reducible rfl)
       try simp only[Act.put,Ca,B_,B9,B4,Cb,Cc]
       refine ai (i:=12) (v:=?vv12) rfl (by kernel_rfl) (fun _ _ _ h=>h) rfl ?hy12 ?rest12
       case hy12=>(intro wy;go_simp;try with_reducible rfl)
       try simp only[Act.put,Ca,B_,B9,B4,Cb,Cc]
       refine ai (i:=13) (v:=?vv13) rfl (by kernel_rfl) (fun _ _ _ h=>h) rfl ?hy13 ?rest13
       case hy13=>(intro wy;go_simp;try with_reducible rfl)
       try simp only[Act.put,Ca,B_,B9,B4,Cb,Cc]
       refine ax (i:=14) rfl (by kernel_rfl) rfl (fun K hK=>?_)
       go_simp
       refine (dP _ _ wd (HG.out.below hbd)).mono ?_
       rintro e w5 ⟨rfl,hb5⟩
       refine hK _ _ (fun _ _=>hb5) ?_
       clear hK K
       try simp only[Act.put,Ca,B_,B9,B4,Cb,Cc]
       refine ax (i:=15) rfl (by kernel_rfl) rfl (fun K hK=>?_)
       go_simp
       refine (iO _ _ w5 (HG.out.below (hbd.trans (hb5.mono hbd.size)))).mono ?_
       rintro e w6 ⟨rfl,hb6⟩
       have hB6:=hb5.trans (hb6.mono hb5.size)
       refine hK _ _ (fun _ _=>hB6) ?_
       clear hK K
       try simp only[Act.put,Ca,B_,B9,B4,Cb,Cc]
       refine ai (i:=16) (v:=?vv16) rfl (by kernel_rfl) (fun _ _ _ h=>h) rfl ?hy16 ?rest16
       case hy16=>(intro wy;go_simp;try with_reducible rfl)
       try simp only[Act.put,Ca,B_,B9,B4,Cb,Cc]
       have hr6:=HRW.out.below hB6
       have c0:=hr6.cell (j:=j+k) HJ2.out
       have f0:=hr6.free (j+k)
       have hs:=hr6.set (j+k) (dV (aq L (j+k)) (bu (aq a j) (aq b k)))
       rw[←HNX.out] at hs
       have HS:=BZ hs
       have HBF:=BZ ((hbd.trans (hB6.mono hbd.size)).setCell (p:=⟨w.heap.size,j+k,none⟩) (Cd _) (.string (dV (aq L (j+k)) (bu (aq a j) (aq b k)))))
       clear hr6 hs hB6 hb6 hb5 hbd hS HRW
       refine ax (i:=17) rfl (by kernel_rfl) rfl (fun K hK=>?_)
       go_simp
       refine hK _ _ (fun h=>by cases h) ?_
       clear hK K
       try simp only[Act.put,Ca,B_,B9,B4,Cb,Cc]
       refine aS (by kernel_rfl) ?_ _
       clear c0 f0
       go_wp2
       go_roundw
       case rel=>exact⟨k+1,by go_num,by omega,HS.out,HBF.out⟩
       case measure=>(first | (simp[intOf];done) | (simp[intOf];omega))
      ·obtain rfl:k=b.length:=by omega
       have HR:=BZ (show bV wr w.heap.size i (eT a b (j+1)) from hrow)
       clear hk hkn hrow
       go_wp2
       go_roundw
       case rel=>exact⟨j+1,by go_num,by omega,HR.out,hbr⟩
       case measure=>(first | (simp[intOf];done) | (simp[intOf];omega))
    ·obtain rfl:j=a.length:=by omega
     have HO:=BZ (show aZ wr w.heap.size (.slice (some ⟨w.heap.size,0,none⟩) i i) (bU a b) from by
      have h:=hrow.own (Cd w.heap.size)
      rw[iU,←HN.out] at h
      exact h)
     clear hj hjn hrow
     go_wp2
     go_ret
     exact⟨_,rfl,HO.out,hbr⟩
end Go.Proofs.YtdlioncecgnloaaGreatDoor
