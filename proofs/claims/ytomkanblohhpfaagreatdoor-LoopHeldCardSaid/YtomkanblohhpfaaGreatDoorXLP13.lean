/- Lemmas of this claim. -/
import Derived.Test.YtomkanblohhpfaaGreatDoorXReg
import Derived.Test.YtomkanblohhpfaaGreatDoorXNC7
import Derived.Test.YtomkanblohhpfaaGreatDoorXNC8
import Derived.Test.YtomkanblohhpfaaGreatDoorXPM2
import Derived.Test.YtomkanblohhpfaaGreatDoorXLP10
set_option linter.all false
set_option maxRecDepth 100000
set_option maxHeartbeats 8000000
namespace Go.Proofs.YtomkanblohhpfaaGreatDoor
open Go.RowKit Dg
def ce (a b:List ByteArray):(List ByteArray×List ByteArray)×Int:=aE a b a b (cf a a b)
def d_ (a b:List ByteArray):(List ByteArray×List ByteArray)×Int:=aE a b a b (cf b a b)
theorem tQ (w:World) (a b:List ByteArray) (v:Value) (hP:gj w v a b a b ⟨#[]⟩ 0) (hG:Gx w):Calls Tryz.prog 53 #[.func (.func 62) #[] #[],v] w (dh (ce a b) w):=by
 refine iT 62 v a b a b ⟨#[]⟩ 0 _ w hP ⟨aJ Tryz.func62 rfl (by kernel_rfl),fun v' w' hw' hP' hc hc2=>?_⟩ hG
 obtain⟨ob1,ob7,oa1,oa7,-⟩:=aC hc
 exact wF v' a b a b ⟨#[]⟩ 0 w' hP' oa1 (by omega) (by omega) (hG.below hw').g
theorem yg (w:World) (a b:List ByteArray) (v:Value) (hP:gj w v a b a b ⟨#[]⟩ 0) (hG:Gx w):Calls Tryz.prog 53 #[.func (.func 54) #[] #[],v] w (dh (d_ a b) w):=by
 refine iT 54 v a b a b ⟨#[]⟩ 0 _ w hP ⟨aJ Tryz.func54 rfl (by kernel_rfl),fun v' w' hw' hP' hc hc2=>?_⟩ hG
 obtain⟨ob1,ob7,oa1,oa7,-⟩:=aC hc
 exact yN v' a b a b ⟨#[]⟩ 0 w' hP' oa1 (by omega) (by omega) (hG.below hw').g
theorem qv (v:Value) (a b:List ByteArray) (w:World) (hF:IsF w v a b) (hG:Gx w) :
  Calls Tryz.prog 21 #[v] w (dh (ce a b) w):=by
 obtain⟨p,c,q,d,rfl,hfa,hfb⟩:=id hF.ex
 go_enter Tryz.func21,Tryz.ntmps21
 go_upto_region 1 with fail
 have cc:=am w (.slice p a.length c) (.slice q b.length d)
 have m1:=ae w (.cells #[.slice p a.length c,.slice q b.length d] 24)
 have z1:=size_alloc w (.cells #[.slice p a.length c,.slice q b.length d] 24)
 generalize w.alloc (.cells #[.slice p a.length c,.slice q b.length d] 24)=w1 at *
 have q2:(w1.alloc (.cells #[.slice none 0 0,.slice none 0 0] 24)).heap[w1.heap.size]?=some (.cells #[.slice none 0 0,.slice none 0 0] 24 (0,0)):=heap_alloc_new w1 _
 have m2:=ae w1 (.cells #[.slice none 0 0,.slice none 0 0] 24)
 have z2:=size_alloc w1 (.cells #[.slice none 0 0,.slice none 0 0] 24)
 have c0:=aa m2 (show w.heap.size<w1.heap.size by omega) cc.1
 have c1:=aa m2 (show w.heap.size<w1.heap.size by omega) cc.2
 generalize w1.alloc (.cells #[.slice none 0 0,.slice none 0 0] 24)=w2 at *
 rw[z1] at q2
 have M2:=yX (m1.trans (m2.mono m1.size))
 have hz2:w.heap.size+2=w2.heap.size:=by omega
 have hP:gj w2 (.agg #[.slice p a.length c,.slice q b.length d,.slice p a.length c,.slice q b.length d,.string ⟨#[]⟩,.int .i64 0]) a b a b ⟨#[]⟩ 0 :=
  ⟨⟨p,c,q,d,p,c,q,d,rfl,hfa.below M2.out,hfb.below M2.out,hfa.below M2.out,hfb.below M2.out⟩⟩
 have HC:=yX (tQ w2 a b _ hP (hG.below M2.out))
 clear m1 z1 m2 z2 cc hfa hfb hG hF hP
 go_wp2_with fail
 refine HC.out.mono ?_
 rintro e w3 ⟨u,rfl,hu,hb3⟩
 obtain⟨r,hr⟩:∃ r,r=ce a b:=⟨_,rfl⟩
 rw[show ce a b=r from hr.symm] at hu ⊢
 obtain⟨⟨L1,L2⟩,er⟩:=r
 have HR:=yX hr
 simp only at hu ⊢
 obtain⟨p1,c1',p2,c2,rfl,g1,g2,o1,o2⟩:=hu.ex
 have hn1:Value.ownBlock (.slice p1 L1.length c1')≠some (w.heap.size+1):=fun e=>by have:=o1 _ e;omega
 have hn2:Value.ownBlock (.slice p2 L2.length c2)≠some (w.heap.size+1):=fun e=>by have:=o2 _ e;omega
 have q3:=(hb3.block (w.heap.size+1) (by omega)).trans q2
 have k0:=ah q3 0
 have k1:=ah q3 1
 have f0:=av q3 0
 have f1:=av q3 1
 have R1:=yX ((g1.other hn1 0 (.slice p1 L1.length c1')).other hn1 1 (.slice p2 L2.length c2))
 have R2:=yX ((g2.other hn2 0 (.slice p1 L1.length c1')).other hn2 1 (.slice p2 L2.length c2))
 have O1:=yX (show ∀ g,Value.ownBlock (.slice p1 L1.length c1')=some g→w.heap.size≤g from fun g e=>by have:=o1 _ e;omega)
 have O2:=yX (show ∀ g,Value.ownBlock (.slice p2 L2.length c2)=some g→w.heap.size≤g from fun g e=>by have:=o2 _ e;omega)
 have M7:=yX (((M2.out.trans (hb3.mono M2.out.size)).setCell (p:=⟨w.heap.size+1,0,none⟩) (zP _) (.slice p1 L1.length c1')).setCell (p:=⟨w.heap.size+1,1,none⟩) (zP _) (.slice p2 L2.length c2))
 have g0:=bv q3 (.slice p1 L1.length c1') (.slice p2 L2.length c2)
 have x0:=ah g0 0
 have x1:=ah g0 1
 clear hn1 hn2 g1 g2 o1 o2 q2 q3 hb3 HC hu hr
 go_wp2
 refine bodyPost_ret (v:=.tuple #[.agg #[.slice p1 L1.length c1',.slice p2 L2.length c2],.int .i64 er]) (by simp at x0 x1;simp[results,Tryz.results21,go_sem,x0,x1]) rfl ⟨_,by rw[←HR.out],?_,M7.out⟩
 rw[←HR.out]
 exact⟨⟨p1,c1',p2,c2,rfl,R1.out,R2.out,O1.out,O2.out⟩⟩
theorem xy (v:Value) (a b:List ByteArray) (w:World) (hF:IsF w v a b) (hG:Gx w) :
  Calls Tryz.prog 17 #[v] w (dh (d_ a b) w):=by
 obtain⟨p,c,q,d,rfl,hfa,hfb⟩:=id hF.ex
 go_enter Tryz.func17,Tryz.ntmps17
 go_upto_region 1 with fail
 have cc:=am w (.slice p a.length c) (.slice q b.length d)
 have m1:=ae w (.cells #[.slice p a.length c,.slice q b.length d] 24)
 have z1:=size_alloc w (.cells #[.slice p a.length c,.slice q b.length d] 24)
 generalize w.alloc (.cells #[.slice p a.length c,.slice q b.length d] 24)=w1 at *
 have q2:(w1.alloc (.cells #[.slice none 0 0,.slice none 0 0] 24)).heap[w1.heap.size]?=some (.cells #[.slice none 0 0,.slice none 0 0] 24 (0,0)):=heap_alloc_new w1 _
 have m2:=ae w1 (.cells #[.slice none 0 0,.slice none 0 0] 24)
 have z2:=size_alloc w1 (.cells #[.slice none 0 0,.slice none 0 0] 24)
 have c0:=aa m2 (show w.heap.size<w1.heap.size by omega) cc.1
 have c1:=aa m2 (show w.heap.size<w1.heap.size by omega) cc.2
 generalize w1.alloc (.cells #[.slice none 0 0,.slice none 0 0] 24)=w2 at *
 rw[z1] at q2
 have M2:=yX (m1.trans (m2.mono m1.size))
 have hz2:w.heap.size+2=w2.heap.size:=by omega
 have hP:gj w2 (.agg #[.slice p a.length c,.slice q b.length d,.slice p a.length c,.slice q b.length d,.string ⟨#[]⟩,.int .i64 0]) a b a b ⟨#[]⟩ 0 :=
  ⟨⟨p,c,q,d,p,c,q,d,rfl,hfa.below M2.out,hfb.below M2.out,hfa.below M2.out,hfb.below M2.out⟩⟩
 have HC:=yX (yg w2 a b _ hP (hG.below M2.out))
 clear m1 z1 m2 z2 cc hfa hfb hG hF hP
 go_wp2_with fail
 refine HC.out.mono ?_
 rintro e w3 ⟨u,rfl,hu,hb3⟩
 obtain⟨r,hr⟩:∃ r,r=d_ a b:=⟨_,rfl⟩
 rw[show d_ a b=r from hr.symm] at hu ⊢
 obtain⟨⟨L1,L2⟩,er⟩:=r
 have HR:=yX hr
 simp only at hu ⊢
 obtain⟨p1,c1',p2,c2,rfl,g1,g2,o1,o2⟩:=hu.ex
 have hn1:Value.ownBlock (.slice p1 L1.length c1')≠some (w.heap.size+1):=fun e=>by have:=o1 _ e;omega
 have hn2:Value.ownBlock (.slice p2 L2.length c2)≠some (w.heap.size+1):=fun e=>by have:=o2 _ e;omega
 have q3:=(hb3.block (w.heap.size+1) (by omega)).trans q2
 have k0:=ah q3 0
 have k1:=ah q3 1
 have f0:=av q3 0
 have f1:=av q3 1
 have R1:=yX ((g1.other hn1 0 (.slice p1 L1.length c1')).other hn1 1 (.slice p2 L2.length c2))
 have R2:=yX ((g2.other hn2 0 (.slice p1 L1.length c1')).other hn2 1 (.slice p2 L2.length c2))
 have O1:=yX (show ∀ g,Value.ownBlock (.slice p1 L1.length c1')=some g→w.heap.size≤g from fun g e=>by have:=o1 _ e;omega)
 have O2:=yX (show ∀ g,Value.ownBlock (.slice p2 L2.length c2)=some g→w.heap.size≤g from fun g e=>by have:=o2 _ e;omega)
 have M7:=yX (((M2.out.trans (hb3.mono M2.out.size)).setCell (p:=⟨w.heap.size+1,0,none⟩) (zP _) (.slice p1 L1.length c1')).setCell (p:=⟨w.heap.size+1,1,none⟩) (zP _) (.slice p2 L2.length c2))
 have g0:=bv q3 (.slice p1 L1.length c1') (.slice p2 L2.length c2)
 have x0:=ah g0 0
 have x1:=ah g0 1
 clear hn1 hn2 g1 g2 o1 o2 q2 q3 hb3 HC hu hr
 go_wp2
 refine bodyPost_ret (v:=.tuple #[.agg #[.slice p1 L1.length c1',.slice p2 L2.length c2],.int .i64 er]) (by simp at x0 x1;simp[results,Tryz.results17,go_sem,x0,x1]) rfl ⟨_,by rw[←HR.out],?_,M7.out⟩
 rw[←HR.out]
 exact⟨⟨p1,c1',p2,c2,rfl,R1.out,R2.out,O1.out,O2.out⟩⟩
theorem sQ (q:Rat):(ck (CQ.real q)).1.size<100000:=by
 unfold ck
 cases h:cF (CQ.real q)
 ·simp only[zu,if_false]
  have h1:cM (rt q)=false:=by unfold cF CQ.real at h;simp only[Aj] at h;exact h.1
  have e:b_ (ct (CQ.real q))=aI (rt q):=cr (z:=ct (CQ.real q)) (by show (rt 0).n=0;rw[fe])
  have hr:=ld ((vi (aI (rt q))).1.2 ⟨_,j_ q,h1,rfl⟩)
  unfold txt
  rw[e]
  show (aI (rt q)).toArray.size<100000
  simp;omega
 ·simp only[if_true];decide
theorem ol (X:CQ→Rat) (s:ByteArray):(ofC (fun z=>CQ.real (X z)) s).1.size<100000:=by
 unfold ofC
 split
 ·exact sQ _
 ·decide
theorem yz (s:ByteArray) (w:World) (hG:Gx w) :
  Calls Tryz.prog 56 #[.string s] w fun e w'=>e=.returned (.bool (eU s))∧Below w.heap.size w w':=by
 have HG:=yX hG
 obtain⟨x,hx⟩:∃ x,x=(ofC (fun z=>CQ.real z.re) s).1:=⟨_,rfl⟩
 obtain⟨d,hd⟩:∃ d,d=(ofC (fun z=>CQ.real z.re) s).2:=⟨_,rfl⟩
 obtain⟨y,hy⟩:∃ y,y=(ofC (fun z=>CQ.real z.im) s).1:=⟨_,rfl⟩
 obtain⟨e,he⟩:∃ e,e=(ofC (fun z=>CQ.real z.im) s).2:=⟨_,rfl⟩
 have hxs:x.size<100000:=hx ▸ ol _ s
 have hys:y.size<100000:=hy ▸ ol _ s
 have H1:=yX (yS s w hG.g)
 have H2:=yX (fun wx (hw:Below w.heap.size w wx)=>yQ s wx (hG.g.below hw))
 rw[←hx,←hd] at H1
 rw[←hy,←he] at H2
 have HS:=yX (show eU s=(decide (d=0)&&decide (e=0)&&dZ x.data.toList&&dZ y.data.toList) by unfold eU;rw[hx,hd,hy,he])
 clear hx hd hy he hG
 go_enter Tryz.func56,Tryz.ntmps56
 go_wp2_with fail
 refine H1.out.mono ?_
 rintro r w1 ⟨rfl,hb1⟩
 go_wp2_with fail
 refine (H2.out w1 hb1).mono ?_
 rintro r w2 ⟨rfl,hb2⟩
 have hB2:=hb1.trans (hb2.mono hb1.size)
 clear hb1 hb2 H1 H2
 by_cases h1:d=0
 ·subst h1
  by_cases h2:e=0
  ·subst h2
   go_wp2_with fail
   refine (qh x w2 hxs (HG.out.below hB2)).mono ?_
   rintro r w3 ⟨b,rfl,hb,hb3⟩
   have hB3:=hB2.trans (hb3.mono hB2.size)
   clear hb3 hB2
   cases b
   ·have HB:=yX hb.out
    clear hb
    go_wp2
    go_ret
    exact⟨by rw[HS.out,HB.out];simp,hB3⟩
   ·have HB:=yX hb.out
    clear hb
    go_wp2_with fail
    refine (qh y w3 hys (HG.out.below hB3)).mono ?_
    rintro r w4 ⟨b,rfl,hb,hb4⟩
    have HB2:=yX hb.out
    clear hb
    go_wp2
    go_ret
    exact⟨by rw[HS.out,HB.out,HB2.out];simp,hB3.trans (hb4.mono hB3.size)⟩
  ·have hde:decide (e=0)=false:=decide_eq_false h2
   go_wp2
   go_ret
   exact⟨by rw[HS.out];simp[h2],hB2⟩
 ·have hdd:decide (d=0)=false:=decide_eq_false h1
  go_wp2
  go_ret
  exact⟨by rw[HS.out];simp[h1],hB2⟩
def le (out:List ByteArray) (x:ByteArray) (b:List ByteArray) (i:Nat):Nat→List ByteArray
 | 0=>out
 | k+1=>(le out x b i k).set (i+k) (ef (aq (le out x b i k) (i+k)) (cj x (aq b k)))
def ed (a b:List ByteArray):Nat→List ByteArray
 | 0=>List.replicate (a.length+b.length-1) ⟨#[48]⟩
 | i+1=>le (ed a b i) (aq a i) b i b.length
def b9 (a b:List ByteArray):List ByteArray:=ed a b a.length
theorem lf (out:List ByteArray) (x:ByteArray) (b:List ByteArray) (i:Nat):∀ k,(le out x b i k).length=out.length
 | 0=>rfl
 | k+1=>by rw[le,Au,lf out x b i k]
theorem ii (a b:List ByteArray):∀ i,(ed a b i).length=a.length+b.length-1
 | 0=>by simp[ed]
 | i+1=>by rw[ed,lf,ii a b i]
def iu (n i:Nat):List ByteArray:=List.replicate i ⟨#[48]⟩++List.replicate (n-i) ⟨#[]⟩
theorem si {n i:Nat} (h:i≤n):(iu n i).length=n:=by simp[iu];omega
theorem sj {n i:Nat} (h:i<n):(iu n i).set i ⟨#[48]⟩=iu n (i+1):=by
 unfold iu
 rw[Bf _ _ (by simp),Az,A8,show n-i=(n-(i+1))+1 from by omega,Am,y7,A2,zS]
 rfl
theorem sh (n:Nat):iu n n=List.replicate n ⟨#[48]⟩:=by simp[iu]
theorem gO (va vb:Value) (a b:List ByteArray) (w:World) (ha:IsS w va a) (hb:IsS w vb b) (h0:0<a.length) (h1:0<b.length) (ha1:a.length<1000) (hb1:b.length<1000) (hG:Gw w) :
  Calls Tryz.prog 92 #[va,vb,.string ⟨#[48]⟩,.func (.func 79) #[] #[],.func (.func 80) #[] #[]] w fun e w'=>∃ u,e=.returned u∧bj w' w.heap.size u (b9 a b)∧Below w.heap.size w w':=by
 obtain⟨pa,ca,rfl,-⟩:=id ha.form
 obtain⟨pb,cb,rfl,-⟩:=id hb.form
 have ENA:=aJ Tryz.func79 rfl (by kernel_rfl)
 have ENM:=aJ Tryz.func80 rfl (by kernel_rfl)
 have HA:=yX ha
 have HB:=yX hb
 have HG:=yX hG
 clear ha hb hG
 obtain⟨n,hn⟩:∃ n,n=a.length+b.length-1:=⟨_,rfl⟩
 have hnI:((a.length:Int)+(b.length:Int))-1=(n:Int):=by omega
 have HN:=yX hn
 have hn1:n<2000:=by omega
 clear hn
 go_enter Tryz.func92,Tryz.ntmps92
 go_wp2_with (refine bf 22 Tryz.underlying22 rfl (.tmp 22) (.tmp 22) rfl _ _ n rfl rfl (by go_num) (by go_num) (by omega) ?_)
 intro w2 hr2 hb2 hs2
 have M2:=hb2 _ _ (Below.refl w.heap.size w) (y9 _)
 have HR2:=yX (show bG w2 w.heap.size n (iu n 0) from by rw[show iu n 0=List.replicate n ⟨#[]⟩ from rfl];exact hr2)
 clear hr2 hb2 hs2
 go_wp2
 go_loopw [12,26] (fun _ s26 wr=>∃ i:Nat,s26=.int .i64 i∧i≤n∧bG wr w.heap.size n (iu n i)∧Below w.heap.size w wr) (fun _ s26 _=>n-(intOf s26).toNat)
 case atStart=>exact⟨0,rfl,zj _,HR2.out,M2⟩
 case round =>
  obtain⟨i,rfl,hin,hrow,hbr⟩:=hrel
  by_cases hi:i<n
  ·have c0:=hrow.cell (j:=i) (by rw[si hin];exact hi)
   have f0:=hrow.free i
   have hs:=hrow.set i ⟨#[48]⟩
   rw[sj hi] at hs
   have HS:=yX hs
   have HB2:=yX (hbr.setCell (p:=⟨w.heap.size,i,none⟩) (y9 _) (.string ⟨#[48]⟩))
   clear hrow hbr hs
   go_wp2
   go_roundw
   case rel=>exact⟨i+1,by go_num,by omega,HS.out,HB2.out⟩
   case measure=>(first | (simp[intOf];done) | (simp[intOf];omega))
  ·obtain rfl:i=n:=by omega
   have hrow:=yX (show bG wr w.heap.size i (ed a b 0) from by
    rw[sh] at hrow
    rw[show ed a b 0=List.replicate i ⟨#[48]⟩ from by rw[ed,HN.out]]
    exact hrow)
   clear hi hin M2 HR2
   rename World=>w3
   go_wp2
   go_loopw [13,14,15,16,36] (fun _ _ _ _ s36 wr=>∃ j:Nat,s36=.int .i64 j∧j≤a.length∧bG wr w.heap.size i (ed a b j)∧Below w.heap.size w wr) (fun _ _ _ _ s36 _=>a.length-(intOf s36).toNat)
   case atStart=>exact⟨0,rfl,zj _,hrow.out,hbr⟩
   case round =>
    clear hrow hbr
    obtain⟨j,rfl,hjn,hrow,hbr⟩:=hrel
    by_cases hj:j<a.length
    ·obtain⟨ba,oa,rfl,hal,hca⟩:=(HA.out.below hbr).all h0
     have ca0:=hca j hj
     rename World=>wo
     go_wp2
     go_loopw [15,16,43] (fun _ _ s43 wr=>∃ k:Nat,s43=.int .i64 k∧k≤b.length∧bG wr w.heap.size i (le (ed a b j) (aq a j) b j k)∧Below w.heap.size w wr) (fun _ _ s43 _=>b.length-(intOf s43).toNat)
     case atStart=>exact⟨0,rfl,zj _,hrow,hbr⟩
     case round =>
      clear hrow hbr ca0 hca hal
      obtain⟨k,rfl,hkn,hrow,hbr⟩:=hrel
      by_cases hk:k<b.length
      ·obtain⟨bb,ob,rfl,hbl,hcb⟩:=(HB.out.below hbr).all h1
       have cb0:=hcb k hk
       obtain⟨L,hL⟩:∃ L,L=le (ed a b j) (aq a j) b j k:=⟨_,rfl⟩
       rw[←hL] at hrow
       have HLL:=yX (show L.length=i by rw[hL,lf,ii,HN.out])
       have HNX:=yX (show le (ed a b j) (aq a j) b j (k+1)=L.set (j+k) (ef (aq L (j+k)) (cj (aq a j) (aq b k))) by rw[le,←hL])
       clear hL hcb
       have hjk:j+k<i:=by have:=HN.out;omega
       have hin2:=IntWalk.i64_in ((j:Int)+(k:Int)) (by omega)
       have hix:0≤(j:Int)+(k:Int):=by omega
       have hix2:(j:Int)+(k:Int)<(i:Int):=by omega
       have hta:(((j:Int)+(k:Int))).toNat=j+k:=by omega
       go_upto_region 13 with fail
       have hBd:Below wr.heap.size wr wr.drew:=(Below.refl _ _).drew
       refine aH (fun wx:World=>Below wr.drew.heap.size wr.drew wx) (fun t=>t == 17) (by kernel_rfl) ?_
       have hrowd:=hrow.below hBd
       have hbd:=hbr.trans (hBd.mono hbr.size)
       generalize wr.drew=wd at *
       have hS:Below wd.heap.size wd wd:=Below.refl _ _
       have HRW:=yX hrowd
       have hj2:j+k<L.length:=by rw[HLL.out];exact hjk
       have HJ2:=yX hj2
       clear hrowd hrow hbr cb0 hbl hj2
       refine aj (i:=0) (v:=?vv0) rfl (by kernel_rfl) (fun _ _ _ h=>h) rfl ?hy0 ?rest0
       case hy0=>(intro wy;go_simp;try with_reducible rfl)
       try simp only[Act.put,y6,y5,yZ,yY,y7,y8]
       refine aj (i:=1) (v:=?vv1) rfl (by kernel_rfl) (fun _ _ _ h=>h) rfl ?hy1 ?rest1
       case hy1=>(intro wy;go_simp;try with_reducible rfl)
       try simp only[Act.put,y6,y5,yZ,yY,y7,y8]
       refine aj (i:=2) (v:=?vv2) rfl (by kernel_rfl) (fun _ _ _ h=>h) rfl ?hy2 ?rest2
       case hy2=>(intro wy;go_simp;try with_reducible rfl)
       try simp only[Act.put,y6,y5,yZ,yY,y7,y8]
       refine aj (i:=3) (v:=?vv3) rfl (by kernel_rfl) (fun _ _ _ h=>h) rfl ?hy3 ?rest3
       case hy3=>(intro wy;go_simp;try with_reducible rfl)
       try simp only[Act.put,y6,y5,yZ,yY,y7,y8]
       refine aj (i:=4) (v:=?vv4) rfl (by kernel_rfl) (fun _ _ _ h=>h) rfl ?hy4 ?rest4
       case hy4=>(intro wy;go_simp;try with_reducible rfl)
       try simp only[Act.put,y6,y5,yZ,yY,y7,y8]
       refine aj (i:=5) (v:=?vv5) rfl (by kernel_rfl) (fun _ _ _ h=>h) rfl ?hy5 ?rest5
       case hy5=>(intro wy;go_simp;try with_reducible rfl)
       try simp only[Act.put,y6,y5,yZ,yY,y7,y8]
       refine aj (i:=6) (v:=?vv6) rfl (by kernel_rfl) (fun _ _ _ h=>h) rfl ?hy6 ?rest6
       case hy6=>(intro wy;go_simp;try with_reducible rfl)
       try simp only[Act.put,y6,y5,yZ,yY,y7,y8]
       refine aj (i:=7) (v:=?vv7) rfl (by kernel_rfl) (fun _ _ _ h=>h) rfl ?hy7 ?rest7
       case hy7=>(intro wy;go_simp;try with_reducible rfl)
       try simp only[Act.put,y6,y5,yZ,yY,y7,y8]
       refine aj (i:=8) (v:=?vv8) rfl (by kernel_rfl) (fun _ _ _ h=>h) rfl ?hy8 ?rest8
       case hy8=>(intro wy;go_simp;try with_reducible rfl)
       try simp only[Act.put,y6,y5,yZ,yY,y7,y8]
       refine aj (i:=9) (v:=?vv9) rfl (by kernel_rfl) (fun _ _ _ h=>h) rfl ?hy9 ?rest9
       case hy9=>(intro wy;go_simp;try with_reducible rfl)
       try simp only[Act.put,y6,y5,yZ,yY,y7,y8]
       refine aB (i:=10) (v:=?vv10) rfl (by kernel_rfl) (fun _ _ _ h=>h) rfl hS ?hy10 ?rest10
       case hy10 =>
        intro wy hy
        have c0:=(HRW.out.below hy).cell (j:=j+k) HJ2.out
        rw[eo] at c0
        clear hy
        go_simp
        try with_reducible rfl
       try simp only[Act.put,y6,y5,yZ,yY,y7,y8]
       refine aj (i:=11) (v:=?vv11) rfl (by kernel_rfl) (fun _ _ _ h=>h) rfl ?hy11 ?rest11
       case hy11=>(intro wy;go_simp;try with_reducible rfl)
       try simp only[Act.put,y6,y5,yZ,yY,y7,y8]
       refine aj (i:=12) (v:=?vv12) rfl (by kernel_rfl) (fun _ _ _ h=>h) rfl ?hy12 ?rest12
       case hy12=>(intro wy;go_simp;try with_reducible rfl)
       try simp only[Act.put,y6,y5,yZ,yY,y7,y8]
       refine aj (i:=13) (v:=?vv13) rfl (by kernel_rfl) (fun _ _ _ h=>h) rfl ?hy13 ?rest13
       case hy13=>(intro wy;go_simp;try with_reducible rfl)
       try simp only[Act.put,y6,y5,yZ,yY,y7,y8]
       refine aA (i:=14) rfl (by kernel_rfl) rfl (fun K hK=>?_)
       go_simp
       refine (dq _ _ wd (HG.out.below hbd)).mono ?_
       rintro e w5 ⟨rfl,hb5⟩
       refine hK _ _ (fun _ _=>hb5) ?_
       clear hK K
       try simp only[Act.put,y6,y5,yZ,yY,y7,y8]
       refine aA (i:=15) rfl (by kernel_rfl) rfl (fun K hK=>?_)
       go_simp
       refine (h_ _ _ w5 (HG.out.below (hbd.trans (hb5.mono hbd.size)))).mono ?_
       rintro e w6 ⟨rfl,hb6⟩
       have hB6:=hb5.trans (hb6.mono hb5.size)
       refine hK _ _ (fun _ _=>hB6) ?_
       clear hK K
       try simp only[Act.put,y6,y5,yZ,yY,y7,y8]
       refine aj (i:=16) (v:=?vv16) rfl (by kernel_rfl) (fun _ _ _ h=>h) rfl ?hy16 ?rest16
       case hy16=>(intro wy;go_simp;try with_reducible rfl)
       try simp only[Act.put,y6,y5,yZ,yY,y7,y8]
       have hr6:=HRW.out.below hB6
       have c0:=hr6.cell (j:=j+k) HJ2.out
       have f0:=hr6.free (j+k)
       have hs:=hr6.set (j+k) (ef (aq L (j+k)) (cj (aq a j) (aq b k)))
       rw[←HNX.out] at hs
       have HS:=yX hs
       have HBF:=yX ((hbd.trans (hB6.mono hbd.size)).setCell (p:=⟨w.heap.size,j+k,none⟩) (y9 _) (.string (ef (aq L (j+k)) (cj (aq a j) (aq b k)))))
       clear hr6 hs hB6 hb6 hb5 hbd hS HRW
       refine aA (i:=17) rfl (by kernel_rfl) rfl (fun K hK=>?_)
       go_simp
       refine hK _ _ (fun h=>by cases h) ?_
       clear hK K
       try simp only[Act.put,y6,y5,yZ,yY,y7,y8]
       refine bD (by kernel_rfl) ?_ _
       clear c0 f0
       go_wp2
       go_roundw
       case rel=>exact⟨k+1,by go_num,by omega,HS.out,HBF.out⟩
       case measure=>(first | (simp[intOf];done) | (simp[intOf];omega))
      ·obtain rfl:k=b.length:=by omega
       have HR:=yX (show bG wr w.heap.size i (ed a b (j+1)) from hrow)
       clear hk hkn hrow
       go_wp2
       go_roundw
       case rel=>exact⟨j+1,by go_num,by omega,HR.out,hbr⟩
       case measure=>(first | (simp[intOf];done) | (simp[intOf];omega))
    ·obtain rfl:j=a.length:=by omega
     have HO:=yX (show bj wr w.heap.size (.slice (some ⟨w.heap.size,0,none⟩) i i) (b9 a b) from by
      have h:=hrow.own (y9 w.heap.size)
      rw[ii,←HN.out] at h
      exact h)
     clear hj hjn hrow
     go_wp2
     go_ret
     exact⟨_,rfl,HO.out,hbr⟩
end Go.Proofs.YtomkanblohhpfaaGreatDoor
