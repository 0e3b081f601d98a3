/- Lemmas of this claim. -/
import Derived.Test.YtdlioncecgnloaaGreatDoorYLP13
import Derived.Test.YtdlioncecgnloaaGreatDoorYPM2
import Derived.Test.YtdlioncecgnloaaGreatDoorYLH1
import Derived.Test.YtdlioncecgnloaaGreatDoorYWK1
import Derived.Test.YtdlioncecgnloaaGreatDoorYPS2
import Derived.Test.YtdlioncecgnloaaGreatDoorYPV2
import Derived.Test.YtdlioncecgnloaaGreatDoorYLcs1
set_option linter.all false
set_option maxRecDepth 100000
set_option maxHeartbeats 8000000
namespace Go.Proofs.YtdlioncecgnloaaGreatDoor
open Go.RowKit Dg
theorem modN (n many:Int) (h1:1≤many) (h2:many≤1000000000) (w:World):Calls Tryz.prog 41 #[.int .i64 n,.int .i64 many] w fun e w'=>e=.returned (.int .i64 (n % many))∧w'=w:=by
 have hd1:decide (many<1)=false:=by simp;omega
 have hz:(many == 0)=false:=by simp;omega
 have hne:many≠0:=by omega
 have ht:n.tmod many=n % many∨(n.tmod many<0∧n.tmod many+many=n % many∧0<n % many):=by
  have e:=Int.tmod_eq_emod (a:=n) (b:=many)
  have h3:=BH n hne
  have h4:=Bw n (show 0<many by omega)
  have h5:(many.natAbs:Int)=many:=by omega
  by_cases hc:0≤n∨many ∣ n
  ·rw[if_pos hc] at e;left;omega
  ·have h6:n % many≠0:=fun h=>hc (Or.inr (Int.dvd_of_emod_eq_zero h))
   rw[if_neg hc,h5] at e;right;omega
 have hlo:-many<n.tmod many∧n.tmod many<many:=by
  have h3:=BH n hne
  have h4:=Bw n (show 0<many by omega)
  omega
 have h3:=BH n hne
 have h4:=Bw n (show 0<many by omega)
 go_enter Tryz.func41,Tryz.ntmps41
 go_wp2_with fail
 ·have h0:n.tmod many<0:=by assumption
  go_ret
  have h7:n.tmod many+many=n % many:=by omega
  exact⟨by rw[h7];rfl,by rfl⟩
 ·have h0:0≤n.tmod many:=by assumption
  go_ret
  have h7:n.tmod many=n % many:=by omega
  exact⟨by rw[h7];rfl,by rfl⟩
theorem xf {w:World}{B:Nat}{v:Value}{l:List ByteArray} (h:bf w B v l) (h0:0<l.length):∃ g cap,v=.slice (some ⟨g,0,none⟩) l.length cap∧bJ w g cap l∧B≤g:=by
 rcases h.2 with ⟨rfl,he⟩ | ⟨g,cap,cur,rfl,hbg,hg,rest⟩
 ·omega
 ·exact⟨g,cap,rfl,⟨h.1,Or.inr ⟨g,cap,cur,rfl,zn _,hg,rest⟩⟩,hbg⟩
theorem pV (v:Value) (fa fb:List ByteArray) (which:Int) (w:World) (hF:IsF w v fa fb) (hG:Gx w) :
  Calls Tryz.prog 7 #[v,.int .i64 which] w fun e w'=>e=.returned (.bool true)∧Below w.heap.size w w':=by
 obtain⟨p,c,q,d,rfl,hfa,hfb⟩:=id hF.ex
 go_enter Tryz.func7,Tryz.ntmps7
 go_upto_region 1 with fail
 have cc:=ar w (.slice p fa.length c) (.slice q fb.length d)
 have m1:=ae w (.cells #[.slice p fa.length c,.slice q fb.length d] 28)
 have z1:=size_alloc w (.cells #[.slice p fa.length c,.slice q fb.length d] 28)
 generalize w.alloc (.cells #[.slice p fa.length c,.slice q fb.length d] 28)=w2 at *
 have k0:=cc.1
 have k1:=cc.2
 have KL:w.heap.size<w2.heap.size:=by omega
 have HB:=zf m1
 have HF:=zf (hF.below HB.out)
 have HG:=zf (hG.below HB.out)
 clear hfa hfb cc z1 m1 hF hG
 go_wp2_with fail
 refine (pC _ fa fb w2 HF.out HG.out).mono ?_
 rintro e w3 ⟨v1,er,rfl,hcase,hb⟩
 have HF:=zf (HF.out.below hb)
 have HG:=zf (HG.out.below hb)
 have HB:=zf (HB.out.trans ((hb).mono HB.out.size))
 have k0:=aa hb KL k0
 have k1:=aa hb KL k1
 have KL:=zq KL ((hb).size)
 try have HP:=zf (HP.out.below hb)
 clear hb
 rcases hcase with ⟨pf,hck,hpt,rfl,hpf,hpl⟩ | ⟨-,-,rfl,rfl⟩ | ⟨-,rfl,rfl⟩
 ·obtain⟨P,hP0,hPn,hlen,hlast,hPl,hPs,hcmp,hbent⟩:=pE hck hpt
  have HLB:=zf hlast
  have HPS:=zf hPs
  have HPL:=zf hPl
  have HCM:=zf hcmp
  have HBT:=zf hbent
  have HPN:=zf (And.intro hP0 hPn)
  obtain⟨n,hn⟩:∃ n,n=pf.length:=⟨_,rfl⟩
  have hbl:fb.length=n+1:=by omega
  have HCK:=zf hck
  have hn7:n<7:=by have:=(aG hck).2.1;omega
  obtain⟨p1,c1,rfl,-⟩:=id hpf.form
  rw[←hn] at hpf HPS HPL HCM HBT HPN ⊢
  have HP:=zf hpf
  have HNP:=zf (And.intro hn.symm hbl)
  have hpv:=show bU fa fb pf=(true,0) by unfold bU;rw[if_pos hck,if_pos (by omega),hlast];simp
  rw[hbl] at k1 HF ⊢
  have HPV:=zf (fun (wx:World) (hF:IsF wx (.agg #[.slice p fa.length c,.slice q (n+1) d]) fa fb) (hl:IsS wx (.slice p1 n c1) pf) (hG:Gx wx)=>by have h:=jU _ (.slice p1 n c1) fa fb pf wx hF hl hG;rw[hpv] at h;exact h)
  clear hlast hPs hPl hcmp hbent hP0 hPn hck hpt hpl hlen hpf hpv hn hbl
  go_wp2_with fail
  refine (HPV.out _ HF.out HP.out HG.out).mono ?_
  rintro e w4 ⟨rfl,hb⟩
  clear HPV
  have HF:=zf (HF.out.below hb)
  have HG:=zf (HG.out.below hb)
  have HB:=zf (HB.out.trans ((hb).mono HB.out.size))
  have k0:=aa hb KL k0
  have k1:=aa hb KL k1
  have KL:=zq KL ((hb).size)
  try have HP:=zf (HP.out.below hb)
  clear hb
  go_upto_region 8 with fail
  have m5:=ae w4 (.cells #[.string ⟨#[49]⟩] 22)
  have i5:=iG w4 ⟨#[49]⟩
  generalize w4.alloc (.cells #[.string ⟨#[49]⟩] 22)=w5 at *
  have HF:=zf (HF.out.below m5)
  have HG:=zf (HG.out.below m5)
  have HB:=zf (HB.out.trans ((m5).mono HB.out.size))
  have k0:=aa m5 KL k0
  have k1:=aa m5 KL k1
  have KL:=zq KL ((m5).size)
  try have HP:=zf (HP.out.below m5)
  clear m5
  go_wp2
  go_loopw [8,9] (fun s8 s9 wr=>∃ j:Nat,s9=.int .i64 j∧j≤n∧IsS wr s8 (P j)∧Below w5.heap.size w5 wr) (fun _ s9 _=>n-(intOf s9).toNat)
  case atStart=>exact⟨0,rfl,zD _,by rw[HPN.out.1];exact i5,Below.refl _ _⟩
  case round =>
   clear i5
   obtain⟨j,rfl,hjn,hpj,hbr⟩:=hrel
   by_cases hj:j<n
   ·obtain⟨bq,oq,rfl,hlq,hcq⟩:=(HP.out.below hbr).all (by rw[HNP.out.1];omega)
    have c0:=hcq j (by rw[HNP.out.1];exact hj)
    have HCJ:=zf (HCM.out j hj)
    have HSJ:=zf (HPS.out j hj)
    have HLJ:=zf (And.intro (HPL.out j (by omega)) (HPL.out (j+1) (by omega)))
    obtain⟨z,hz⟩:∃ z,z=ap pf j:=⟨_,rfl⟩
    rw[←hz] at c0 HCJ HSJ
    clear hcq hz
    have HGr:=zf (HG.out.below hbr)
    have HPJ:=zf hpj
    have HBr:=zf hbr
    have hc1:=p_ z ⟨#[49]⟩ wr HGr.out.g
    rw[HCJ.out.1] at hc1
    have HC1:=zf hc1
    clear hc1 hpj hbr
    go_wp2_with fail
    refine HC1.out.mono ?_
    rintro e w6 ⟨rfl,hb⟩
    have c0:=aa hb hlq c0
    have hlq:=zq hlq hb.size
    have HGr:=zf (HGr.out.below hb)
    have HPJ:=zf (HPJ.out.below hb)
    have HBr:=zf (HBr.out.trans (hb.mono HBr.out.size))
    have hc2:=p_ z ⟨#[45,49]⟩ w6 HGr.out.g
    rw[HCJ.out.2] at hc2
    have HC2:=zf hc2
    clear hc2 hb HC1
    go_wp2_with fail
    refine HC2.out.mono ?_
    rintro e w7 ⟨rfl,hb⟩
    have c0:=aa hb hlq c0
    have HGr:=zf (HGr.out.below hb)
    have HPJ:=zf (HPJ.out.below hb)
    have HBr:=zf (HBr.out.trans (hb.mono HBr.out.size))
    have HBU:=zf (x_ _ (P j) z (P (j+1)) w7 HPJ.out (by rw[HLJ.out.1];omega) (by rw[HLJ.out.1];omega) (by rw[HLJ.out.1,HLJ.out.2]) HSJ.out HGr.out)
    clear hb hlq HC2
    go_wp2_with fail
    refine HBU.out.mono ?_
    rintro e w8 ⟨u,rfl,hu,hb⟩
    have HBr:=zf (HBr.out.trans (hb.mono HBr.out.size))
    have HU:=zf hu
    clear hu hb HBU c0
    go_wp2_with fail
    go_roundw
    case rel=>exact⟨j+1,by go_num,by omega,HU.out,HBr.out⟩
    case measure=>(first | (simp[intOf];done) | (simp[intOf];omega))
   ·obtain rfl:j=n:=by omega
    rw[HPN.out.2] at hpj
    have HF:=zf (HF.out.below hbr)
    have HG:=zf (HG.out.below hbr)
    have HB:=zf (HB.out.trans ((hbr).mono HB.out.size))
    have k0:=aa hbr KL k0
    have k1:=aa hbr KL k1
    have KL:=zq KL ((hbr).size)
    try have HP:=zf (HP.out.below hbr)
    clear hbr
    have HPJ:=zf hpj
    clear hpj hj hjn
    have HFB:=zf (show IsS wr (.slice q (j+1) d) fb from by
     obtain⟨p',c',q',d',e,-,h⟩:=HF.out.ex
     obtain⟨rfl,rfl,rfl,rfl⟩:p=p'∧c=c'∧q=q'∧d=d':=by
      have e2:(#[Value.slice p fa.length c,Value.slice q (j+1) d]:Array Value)=#[Value.slice p' fa.length c',Value.slice q' fb.length d']:=by simpa using e
      simp at e2
      exact⟨e2.1.1,e2.1.2,e2.2.1,e2.2.2.2⟩
     rw[HNP.out.2] at h
     exact h)
    have HSN:=zf (fy _ _ fb fb wr HPJ.out HFB.out (by rw[HNP.out.2];omega) (by rw[HNP.out.2];omega))
    rw[decide_eq_true (rfl:fb=fb)] at HSN
    go_wp2_with fail
    refine HSN.out.mono ?_
    rintro e w9 ⟨rfl,hb⟩
    clear HSN HPJ HFB
    have HF:=zf (HF.out.below hb)
    have HG:=zf (HG.out.below hb)
    have HB:=zf (HB.out.trans ((hb).mono HB.out.size))
    have k0:=aa hb KL k0
    have k1:=aa hb KL k1
    have KL:=zq KL ((hb).size)
    try have HP:=zf (HP.out.below hb)
    clear hb
    by_cases hj0:j=0
    ·subst hj0
     go_wp2_with fail
     refine (ld _ HG.out).mono ?_
     rintro e wz ⟨rfl,hz⟩
     have HB:=HB.out.trans (hz.mono HB.out.size)
     clear hz
     go_wp2
     go_ret
     exact⟨rfl,HB⟩
    ·have hj1:((j:Int) == 0)=false:=by simpa using hj0
     go_upto_region 21 with fail
     obtain⟨bl,ol,rfl,hll,hcl⟩:=HP.out.all (by rw[HNP.out.1];omega)
     refine wp_region_lit ?_
     refine wpList_plain rfl (fun K hK=>?_)
     go_simp
     refine hK _ _ ?_
     clear hK K
     have m1:=ae w9 (.cells #[] 22)
     have o1:=ji w9 w9.heap.size (zn _)
     have hP1:=HP.out.below m1
     generalize w9.alloc (.cells #[] 22)=w10 at *
     refine wpList_plain rfl (fun K hK=>?_)
     go_simp
     refine hK _ _ ?_
     clear hK K
     refine b8 26 Tryz.underlying26 rfl (.tmp 114) (.tmp 115) rfl w9.heap.size _ [] pf bl ol c1 rfl o1 (by rw[HNP.out.1];rfl) (by rw[HNP.out.1];exact hP1) (by rw[HNP.out.1];simp;omega) m1.size ?_
     intro v2 w11 o2 hb2
     have M2:=hb2 _ _ m1 (zn _)
     rw[zN] at o2
     clear hb2 m1 hP1 o1
     try simp only[Act.put,zj,zi,zh,zg,zl,zm]
     refine wpList_plain rfl (fun K hK=>?_)
     go_simp
     refine hK _ _ ?_
     clear hK K
     refine wpList_nil ?_
     have hm1:=modN which (j:Int) (by omega) (by omega) w11
     obtain⟨k,hk⟩:∃ k:Nat,which % (j:Int)=k:=⟨(which % (j:Int)).toNat,by have:=BH which (show (j:Int)≠0 by omega);omega⟩
     have hkj:k<j:=by have:=Bw which (show 0<(j:Int) by omega);omega
     rw[hk] at hm1
     have HM:=zf hm1
     have HO:=zf o2
     have HB9:=zf M2
     clear hm1 hk o2 M2 hcl
     go_wp2_with fail
     refine HM.out.mono ?_
     rintro e w12 ⟨rfl,hww⟩
     subst hww
     clear HM
     obtain⟨g,cap,rfl,hrow,hgB⟩:=xf HO.out (by rw[HNP.out.1];omega)
     rw[HNP.out.1]
     obtain⟨nn,hmul,hno⟩:=HBT.out k hkj
     have z0:=hrow.cell (j:=k) (by rw[HNP.out.1];exact hkj)
     rw[ee (by rw[HNP.out.1];exact hkj)] at z0
     obtain⟨z,hz⟩:∃ z,z=ap pf k:=⟨_,rfl⟩
     rw[←hz] at z0 hmul hno
     have HROW:=zf hrow
     have HNO:=zf hno
     have hmu:=fun (wx:World) (h:Gw wx)=>y5 z ⟨#[49,47,50]⟩ nn wx hmul h
     have HMU:=zf hmu
     have hgl:=hrow.lt
     clear hz hrow hmul hno hmu HO
     have HB10:=zf HB9.out
     have HGm:=zf (HG.out.below HB9.out)
     go_wp2_with fail
     refine (HMU.out _ HGm.out.g).mono ?_
     rintro e w13 ⟨rfl,hb⟩
     have z0:=aa hb hgl z0
     have HROW:=zf (HROW.out.below hb)
     have HB10:=zf (HB10.out.trans (hb.mono HB10.out.size))
     clear hb HMU HGm
     have f0:=HROW.out.free k
     by_cases hz0:z=⟨#[48]⟩
     ·subst hz0
      have HR2:=zf (HROW.out.set k ⟨#[49,47,50]⟩)
      have HB11:=zf (HB10.out.setCell (p:=⟨g,k,none⟩) hgB (.string ⟨#[49,47,50]⟩))
      have hlz:=HNO.out
      rw[if_pos rfl] at hlz
      have hpb:=show bU fa fb (pf.set k ⟨#[49,47,50]⟩)=(false,0) by unfold bU;rw[if_pos HCK.out,if_pos (by rw[z7,HNP.out.1,HNP.out.2]),decide_eq_false hlz]
      have HPB:=zf (fun (wx:World) (hF:IsF wx (.agg #[.slice p fa.length c,.slice q (j+1) d]) fa fb) (hl:IsS wx (.slice (some ⟨g,0,none⟩) j cap) (pf.set k ⟨#[49,47,50]⟩)) (hG:Gx wx)=>by have h:=jU _ (.slice (some ⟨g,0,none⟩) j cap) fa fb (pf.set k ⟨#[49,47,50]⟩) wx hF hl hG;rw[hpb] at h;exact h)
      have HIS:=zf (show IsS (w13.setCell ⟨g,k,none⟩ (.string ⟨#[49,47,50]⟩)) (.slice (some ⟨g,0,none⟩) j cap) (pf.set k ⟨#[49,47,50]⟩) by have h:=HR2.out.isS;rw[z7,HNP.out.1] at h;exact h)
      clear hlz hpb HNO
      go_upto_region 27 with fail
      generalize w13.setCell ⟨g,k,none⟩ (.string ⟨#[49,47,50]⟩)=w14 at *
      have hbm:=HB11.out
      clear z0 f0 HROW HR2 HB10 hgB hgl
      have HF:=zf (HF.out.below hbm)
      have HG:=zf (HG.out.below hbm)
      have HB:=zf (HB.out.trans ((hbm).mono HB.out.size))
      have k0:=aa hbm KL k0
      have k1:=aa hbm KL k1
      have KL:=zq KL ((hbm).size)
      try have HP:=zf (HP.out.below hbm)
      clear hbm
      go_wp2_with fail
      refine (HPB.out _ HF.out HIS.out HG.out).mono ?_
      rintro e w15 ⟨rfl,hb⟩
      clear HPB HIS
      have HF:=zf (HF.out.below hb)
      have HG:=zf (HG.out.below hb)
      have HB:=zf (HB.out.trans ((hb).mono HB.out.size))
      have k0:=aa hb KL k0
      have k1:=aa hb KL k1
      have KL:=zq KL ((hb).size)
      try have HP:=zf (HP.out.below hb)
      clear hb
      go_wp2_with fail
      refine (ld _ HG.out).mono ?_
      rintro e wz ⟨rfl,hz⟩
      have HB:=HB.out.trans (hz.mono HB.out.size)
      clear hz
      go_wp2
      go_ret
      exact⟨rfl,HB⟩
     ·have hzd:=uh hz0
      have HR2:=zf (HROW.out.set k nn)
      have HB11:=zf (HB10.out.setCell (p:=⟨g,k,none⟩) hgB (.string nn))
      have hlz:=HNO.out
      rw[if_neg hz0] at hlz
      have hpb:=show bU fa fb (pf.set k nn)=(false,0) by unfold bU;rw[if_pos HCK.out,if_pos (by rw[z7,HNP.out.1,HNP.out.2]),decide_eq_false hlz]
      have HPB:=zf (fun (wx:World) (hF:IsF wx (.agg #[.slice p fa.length c,.slice q (j+1) d]) fa fb) (hl:IsS wx (.slice (some ⟨g,0,none⟩) j cap) (pf.set k nn)) (hG:Gx wx)=>by have h:=jU _ (.slice (some ⟨g,0,none⟩) j cap) fa fb (pf.set k nn) wx hF hl hG;rw[hpb] at h;exact h)
      have HIS:=zf (show IsS (w13.setCell ⟨g,k,none⟩ (.string nn)) (.slice (some ⟨g,0,none⟩) j cap) (pf.set k nn) by have h:=HR2.out.isS;rw[z7,HNP.out.1] at h;exact h)
      clear hlz hpb HNO
      go_upto_region 27 with fail
      generalize w13.setCell ⟨g,k,none⟩ (.string nn)=w14 at *
      have hbm:=HB11.out
      clear z0 f0 HROW HR2 HB10 hgB hgl
      have HF:=zf (HF.out.below hbm)
      have HG:=zf (HG.out.below hbm)
      have HB:=zf (HB.out.trans ((hbm).mono HB.out.size))
      have k0:=aa hbm KL k0
      have k1:=aa hbm KL k1
      have KL:=zq KL ((hbm).size)
      try have HP:=zf (HP.out.below hbm)
      clear hbm
      go_wp2_with fail
      refine (HPB.out _ HF.out HIS.out HG.out).mono ?_
      rintro e w15 ⟨rfl,hb⟩
      clear HPB HIS
      have HF:=zf (HF.out.below hb)
      have HG:=zf (HG.out.below hb)
      have HB:=zf (HB.out.trans ((hb).mono HB.out.size))
      have k0:=aa hb KL k0
      have k1:=aa hb KL k1
      have KL:=zq KL ((hb).size)
      try have HP:=zf (HP.out.below hb)
      clear hb
      go_wp2_with fail
      refine (ld _ HG.out).mono ?_
      rintro e wz ⟨rfl,hz⟩
      have HB:=HB.out.trans (hz.mono HB.out.size)
      clear hz
      go_wp2
      go_ret
      exact⟨rfl,HB⟩
 ·go_wp2_with fail
  refine (ld _ HG.out).mono ?_
  rintro e wz ⟨rfl,hz⟩
  have HB:=HB.out.trans (hz.mono HB.out.size)
  clear hz
  go_wp2
  go_ret
  exact⟨rfl,HB⟩
 ·go_wp2_with fail
  refine (ld _ HG.out).mono ?_
  rintro e wz ⟨rfl,hz⟩
  have HB:=HB.out.trans (hz.mono HB.out.size)
  clear hz
  go_wp2
  go_ret
  exact⟨rfl,HB⟩
end Go.Proofs.YtdlioncecgnloaaGreatDoor
