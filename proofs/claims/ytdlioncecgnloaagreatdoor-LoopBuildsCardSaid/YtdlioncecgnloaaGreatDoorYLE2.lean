/- Lemmas of this claim. -/
import Derived.Test.YtdlioncecgnloaaGreatDoorYLP13
import Derived.Test.YtdlioncecgnloaaGreatDoorYLH1
set_option linter.all false
set_option maxRecDepth 100000
set_option maxHeartbeats 8000000
namespace Go.Proofs.YtdlioncecgnloaaGreatDoor
open Go.RowKit Dg
theorem rO {a b:List ByteArray}{i:Nat} (h:a.take i=b.take i) (hi:i<a.length) (hib:i<b.length) (he:a[i]=b[i]):a.take (i+1)=b.take (i+1):=by
 rw[←zB hi,←zB hib,h,he]
theorem yo (va vb:Value) (a b:List ByteArray) (w:World) (ha:IsS w va a) (hb:IsS w vb b) (hal:a.length<1000000) (hbl:b.length<1000000) :
  Calls Tryz.prog 86 #[va,vb] w fun e w'=>e=.returned (.bool (decide (a=b)))∧Below w.heap.size w w':=by
 obtain⟨pa,ca,rfl,-⟩:=id ha.form
 obtain⟨pb,cb,rfl,-⟩:=id hb.form
 have HA:=zf ha
 have HB:=zf hb
 clear ha hb
 go_enter Tryz.func86,Tryz.ntmps86
 by_cases hle:a.length=b.length
 ·have hd:((a.length:Int) != (b.length:Int))=false:=by simp[hle]
  have HL:=zf hle
  clear hle
  go_wp2
  go_loopw [13] (fun s13 wr=>∃ i:Nat,s13=.int .i64 i∧i≤a.length∧Below w.heap.size w wr∧Hid (a.take i=b.take i)) (fun s13 _=>a.length-(intOf s13).toNat)
  case atStart=>exact⟨0,rfl,zD _,Below.refl _ _,rfl⟩
  case round =>
   obtain⟨i,rfl,hin,hbr,heq⟩:=hrel
   by_cases hi:i<a.length
   ·have hib:i<b.length:=by rw[←HL.out];exact hi
    obtain⟨ba,oa,rfl,hba,hca⟩:=(HA.out.below hbr).get hi
    obtain⟨bb,ob,rfl,hbb,hcb⟩:=(HB.out.below hbr).get hib
    have HT:=zf (fun h:a[i]=b[i]=>rO heq.out hi hib h)
    have HN:=zf (fun (h:a[i]≠b[i]) (hab:a=b)=>h (by subst hab;rfl))
    generalize a[i]=x at *
    generalize b[i]=y at *
    by_cases hxy:x=y
    ·subst hxy
     have HT:=zf (HT.out rfl)
     clear HN heq
     go_upto_region 6 with fail
     have m4:Below wr.heap.size wr wr.drew:=(Below.refl _ _).drew
     refine ak (fun w'=>∃ x:aA wr.heap.size wr.drew,w'=x.w) (fun _=>false) (by kernel_rfl) (by kernel_rfl) ⟨⟨_,Below.refl _ _⟩,rfl⟩ ?_
     have hbw:=hbr.trans (m4.mono hbr.size)
     have c0:=fun x:aA wr.heap.size wr.drew=>aa (m4.trans x.h) hba hca
     have c1:=fun x:aA wr.heap.size wr.drew=>aa (m4.trans x.h) hbb hcb
     clear hca hcb m4 hbr
     generalize wr.drew=wd at *
     refine af 9 0 _ _ _ (by kernel_rfl) ?_
     simp only[zo,zu,zp,zt]
     repeat (go_big_quiet_step (fail))
     refine wpQuiet_nil ?_
     refine aw ?_
     clear c0 c1
     go_wp2
     go_roundw
     case rel=>exact⟨i+1,by go_num,by omega,hbw,HT.out⟩
     case measure=>(first | (simp[intOf];done) | (simp[intOf];omega))
    ·have hd3:(x.toList == y.toList)=false:=by
      refine Ae.2 fun hb=>hxy ?_
      have e:x.toList=y.toList:=by simpa using hb
      rw[am,am] at e
      exact (fF e).trans (fF rfl).symm
     have HF:=zf (show decide (a=b)=false from decide_eq_false (HN.out hxy))
     clear HN HT heq hxy
     go_upto_region 6 with fail
     have m4:Below wr.heap.size wr wr.drew:=(Below.refl _ _).drew
     refine ak (fun w'=>∃ x:aA wr.heap.size wr.drew,w'=x.w) (fun _=>false) (by kernel_rfl) (by kernel_rfl) ⟨⟨_,Below.refl _ _⟩,rfl⟩ ?_
     have hbw:=hbr.trans (m4.mono hbr.size)
     have c0:=fun x:aA wr.heap.size wr.drew=>aa (m4.trans x.h) hba hca
     have c1:=fun x:aA wr.heap.size wr.drew=>aa (m4.trans x.h) hbb hcb
     clear hca hcb m4 hbr
     generalize wr.drew=wd at *
     refine af 9 0 _ _ _ (by kernel_rfl) ?_
     simp only[zo,zu,zp,zt]
     repeat (go_big_quiet_step (fail))
     refine wpQuiet_nil ?_
     refine aw ?_
     clear c0 c1
     go_wp2
     go_ret
     exact⟨by rw[HF.out];rfl,hbw⟩
   ·have hin':i=a.length:=by omega
    subst hin'
    have HF:=zf (show decide (a=b)=true from decide_eq_true (by have h:=heq.out;rw[zO,HL.out,zO] at h;exact h))
    clear hi heq
    go_wp2
    go_ret
    exact⟨by rw[HF.out];rfl,hbr⟩
 ·have hd:((a.length:Int) != (b.length:Int))=true:=by simp;omega
  have HF:=zf (show decide (a=b)=false from decide_eq_false (fun h=>hle (by rw[h])))
  clear hle
  go_wp2
  go_ret
  exact⟨by rw[HF.out];rfl,Below.refl _ _⟩
theorem fy (va vb:Value) (a b:List ByteArray) (w:World) (ha:IsS w va a) (hb:IsS w vb b) (hal:a.length<1000000) (hbl:b.length<1000000) :
  Calls Tryz.prog 40 #[va,vb] w fun e w'=>e=.returned (.bool (decide (a=b)))∧Below w.heap.size w w':=by
 obtain⟨pa,ca,rfl,-⟩:=id ha.form
 obtain⟨pb,cb,rfl,-⟩:=id hb.form
 have HA:=zf ha
 have HB:=zf hb
 clear ha hb
 go_enter Tryz.func40,Tryz.ntmps40
 by_cases hle:a.length=b.length
 ·have hd:((a.length:Int) != (b.length:Int))=false:=by simp[hle]
  have HL:=zf hle
  clear hle
  go_wp2
  go_loopw [5] (fun s5 wr=>∃ i:Nat,s5=.int .i64 i∧i≤a.length∧Below w.heap.size w wr∧Hid (a.take i=b.take i)) (fun s5 _=>a.length-(intOf s5).toNat)
  case atStart=>exact⟨0,rfl,zD _,Below.refl _ _,rfl⟩
  case round =>
   obtain⟨i,rfl,hin,hbr,heq⟩:=hrel
   by_cases hi:i<a.length
   ·have hib:i<b.length:=by rw[←HL.out];exact hi
    obtain⟨ba,oa,rfl,hba,hca⟩:=(HA.out.below hbr).get hi
    obtain⟨bb,ob,rfl,hbb,hcb⟩:=(HB.out.below hbr).get hib
    have HT:=zf (fun h:a[i]=b[i]=>rO heq.out hi hib h)
    have HN:=zf (fun (h:a[i]≠b[i]) (hab:a=b)=>h (by subst hab;rfl))
    generalize a[i]=x at *
    generalize b[i]=y at *
    by_cases hxy:x=y
    ·subst hxy
     have HT:=zf (HT.out rfl)
     clear HN heq
     go_upto_region 6 with fail
     have m4:Below wr.heap.size wr wr.drew:=(Below.refl _ _).drew
     refine ak (fun w'=>∃ x:aA wr.heap.size wr.drew,w'=x.w) (fun _=>false) (by kernel_rfl) (by kernel_rfl) ⟨⟨_,Below.refl _ _⟩,rfl⟩ ?_
     have hbw:=hbr.trans (m4.mono hbr.size)
     have c0:=fun x:aA wr.heap.size wr.drew=>aa (m4.trans x.h) hba hca
     have c1:=fun x:aA wr.heap.size wr.drew=>aa (m4.trans x.h) hbb hcb
     clear hca hcb m4 hbr
     generalize wr.drew=wd at *
     refine af 9 0 _ _ _ (by kernel_rfl) ?_
     simp only[zo,zu,zp,zt]
     repeat (go_big_quiet_step (fail))
     refine wpQuiet_nil ?_
     refine aw ?_
     clear c0 c1
     go_wp2
     go_roundw
     case rel=>exact⟨i+1,by go_num,by omega,hbw,HT.out⟩
     case measure=>(first | (simp[intOf];done) | (simp[intOf];omega))
    ·have hd3:(x.toList == y.toList)=false:=by
      refine Ae.2 fun hb=>hxy ?_
      have e:x.toList=y.toList:=by simpa using hb
      rw[am,am] at e
      exact (fF e).trans (fF rfl).symm
     have HF:=zf (show decide (a=b)=false from decide_eq_false (HN.out hxy))
     clear HN HT heq hxy
     go_upto_region 6 with fail
     have m4:Below wr.heap.size wr wr.drew:=(Below.refl _ _).drew
     refine ak (fun w'=>∃ x:aA wr.heap.size wr.drew,w'=x.w) (fun _=>false) (by kernel_rfl) (by kernel_rfl) ⟨⟨_,Below.refl _ _⟩,rfl⟩ ?_
     have hbw:=hbr.trans (m4.mono hbr.size)
     have c0:=fun x:aA wr.heap.size wr.drew=>aa (m4.trans x.h) hba hca
     have c1:=fun x:aA wr.heap.size wr.drew=>aa (m4.trans x.h) hbb hcb
     clear hca hcb m4 hbr
     generalize wr.drew=wd at *
     refine af 9 0 _ _ _ (by kernel_rfl) ?_
     simp only[zo,zu,zp,zt]
     repeat (go_big_quiet_step (fail))
     refine wpQuiet_nil ?_
     refine aw ?_
     clear c0 c1
     go_wp2
     go_ret
     exact⟨by rw[HF.out];rfl,hbw⟩
   ·have hin':i=a.length:=by omega
    subst hin'
    have HF:=zf (show decide (a=b)=true from decide_eq_true (by have h:=heq.out;rw[zO,HL.out,zO] at h;exact h))
    clear hi heq
    go_wp2
    go_ret
    exact⟨by rw[HF.out];rfl,hbr⟩
 ·have hd:((a.length:Int) != (b.length:Int))=true:=by simp;omega
  have HF:=zf (show decide (a=b)=false from decide_eq_false (fun h=>hle (by rw[h])))
  clear hle
  go_wp2
  go_ret
  exact⟨by rw[HF.out];rfl,Below.refl _ _⟩
theorem xR (va vb:Value) (a b c d:List ByteArray) (w:World) (ha:IsF w va a b) (hb:IsF w vb c d) (h1:a.length<1000000) (h2:b.length<1000000) (h3:c.length<1000000) (h4:d.length<1000000) :
  Calls Tryz.prog 62 #[va,vb] w fun e w'=>e=.returned (.bool (decide (a=c)&&decide (b=d)))∧Below w.heap.size w w':=by
 obtain⟨p,x,q,y,rfl,hfa,hfb⟩:=id ha.ex
 obtain⟨p',x',q',y',rfl,hfc,hfd⟩:=id hb.ex
 go_enter Tryz.func62,Tryz.ntmps62
 go_upto_region 1 with fail
 have cc:=ar w (.slice p a.length x) (.slice q b.length y)
 have m1:=ae w (.cells #[.slice p a.length x,.slice q b.length y] 28)
 have z1:=size_alloc w (.cells #[.slice p a.length x,.slice q b.length y] 28)
 generalize w.alloc (.cells #[.slice p a.length x,.slice q b.length y] 28)=w1 at *
 have dd:=ar w1 (.slice p' c.length x') (.slice q' d.length y')
 have m2:=ae w1 (.cells #[.slice p' c.length x',.slice q' d.length y'] 28)
 have z2:=size_alloc w1 (.cells #[.slice p' c.length x',.slice q' d.length y'] 28)
 have b0:=aa m2 (show w.heap.size<w1.heap.size by omega) cc.1
 have b1:=aa m2 (show w.heap.size<w1.heap.size by omega) cc.2
 generalize w1.alloc (.cells #[.slice p' c.length x',.slice q' d.length y'] 28)=w2 at *
 rw[z1] at dd
 have d0:=dd.1
 have d1:=dd.2
 have M2:=zf (m1.trans (m2.mono m1.size))
 have H1:=zf (fy _ _ a c w2 (hfa.below M2.out) (hfc.below M2.out) h1 h3)
 have H2:=zf (fun wx (h:Below w2.heap.size w2 wx)=>fy _ _ b d wx ((hfb.below M2.out).below h) ((hfd.below M2.out).below h) h2 h4)
 have hl1:w.heap.size<w2.heap.size:=by omega
 have hl2:w.heap.size+1<w2.heap.size:=by omega
 clear cc dd m1 m2 z1 z2 hfa hfb hfc hfd ha hb
 by_cases h:a=c
 ·have hd:decide (a=c)=true:=decide_eq_true h
  obtain⟨bb,hbb⟩:∃ bb,bb=decide (b=d):=⟨_,rfl⟩
  have HE:=zf (show (decide (a=c)&&decide (b=d))=bb by rw[hd,hbb];rfl)
  rw[hd] at H1
  rw[←hbb] at H2
  clear h hd hbb
  go_wp2_with fail
  refine H1.out.mono ?_
  rintro e w3 ⟨rfl,hb3⟩
  have e0:=aa hb3 hl1 b0
  have e1:=aa hb3 hl1 b1
  have g0:=aa hb3 hl2 d0
  have g1:=aa hb3 hl2 d1
  clear b0 b1 d0 d1
  go_wp2_with fail
  refine (H2.out w3 hb3).mono ?_
  rintro e w4 ⟨rfl,hb4⟩
  go_wp2
  go_ret
  exact⟨by rw[HE.out];rfl,M2.out.trans ((hb3.trans (hb4.mono hb3.size)).mono M2.out.size)⟩
 ·have hd:decide (a=c)=false:=decide_eq_false h
  have HE:=zf (show (decide (a=c)&&decide (b=d))=false by rw[hd];rfl)
  rw[hd] at H1
  clear h hd
  go_wp2_with fail
  refine H1.out.mono ?_
  rintro e w3 ⟨rfl,hb3⟩
  go_wp2
  go_ret
  exact⟨by rw[HE.out];rfl,M2.out.trans (hb3.mono M2.out.size)⟩
def aC:List ByteArray:=[⟨#[48]⟩,⟨#[49,47,50]⟩]
def aD:List ByteArray:=[⟨#[49]⟩,⟨#[45,49,47,50]⟩]
theorem rj (w:World) (s t:ByteArray):IsS (w.alloc (.cells #[.string s,.string t] 22)) (.slice (some ⟨w.heap.size,0,none⟩) 2 2) [s,t] :=
 bf.isS (base:=0) (World.ownsRow_lit w #[.string s,.string t] 2 (zD _) (by simp[maxLen]) rfl)
theorem yW (w:World):Calls Tryz.prog 61 #[] w fun e w'=>∃ v,e=.returned v∧IsF w' v aC aD∧Below w.heap.size w w':=by
 go_enter Tryz.func61,Tryz.ntmps61
 go_upto_region 1 with fail
 have q1:=heap_alloc_new w (.cells #[.slice none 0 0,.slice none 0 0] 28)
 have m1:=ae w (.cells #[.slice none 0 0,.slice none 0 0] 28)
 have z1:=size_alloc w (.cells #[.slice none 0 0,.slice none 0 0] 28)
 generalize w.alloc (.cells #[.slice none 0 0,.slice none 0 0] 28)=w1 at *
 have i2:=rj w1 ⟨#[48]⟩ ⟨#[49,47,50]⟩
 have m2:=ae w1 (.cells #[.string ⟨#[48]⟩,.string ⟨#[49,47,50]⟩] 22)
 have z2:=size_alloc w1 (.cells #[.string ⟨#[48]⟩,.string ⟨#[49,47,50]⟩] 22)
 have i3:=rj (w1.alloc (.cells #[.string ⟨#[48]⟩,.string ⟨#[49,47,50]⟩] 22)) ⟨#[49]⟩ ⟨#[45,49,47,50]⟩
 have m3:=ae (w1.alloc (.cells #[.string ⟨#[48]⟩,.string ⟨#[49,47,50]⟩] 22)) (.cells #[.string ⟨#[49]⟩,.string ⟨#[45,49,47,50]⟩] 22)
 have q2:=(m2.block w.heap.size (by omega)).trans q1
 have q3:=(m3.block w.heap.size (by omega)).trans q2
 have c0:=ai q3 0
 have c1:=ai q3 1
 have f0:=aB q3 0
 have f1:=aB q3 1
 have i2:=i2.below m3
 have M2:=m1.trans (m2.mono m1.size)
 have M3:=M2.trans (m3.mono M2.size)
 rw[z1] at i2
 rw[z2,z1] at i3
 have n1:Value.ownBlock (.slice (some ⟨w.heap.size+1,0,none⟩) 2 2)≠some w.heap.size:=fun e=>by simp[Value.ownBlock] at e
 have n2:Value.ownBlock (.slice (some ⟨w.heap.size+1+1,0,none⟩) 2 2)≠some w.heap.size:=fun e=>by simp[Value.ownBlock] at e;omega
 clear m1 m2 m3 q1 q2 z2 M2
 refine wp_region_lit ?_
 refine wpList_plain rfl (fun K hK=>?_)
 go_simp
 refine hK _ _ ?_
 clear hK K
 try simp only[Act.put,zj,zi,zh,zg,zl,zm]
 refine wpList_plain rfl (fun K hK=>?_)
 go_simp
 refine hK _ _ ?_
 clear hK K
 try simp only[Act.put,zj,zi,zh,zg,zl,zm]
 try rw[z1]
 generalize (w1.alloc (.cells #[.string ⟨#[48]⟩,.string ⟨#[49,47,50]⟩] 22)).alloc (.cells #[.string ⟨#[49]⟩,.string ⟨#[45,49,47,50]⟩] 22)=w3 at *
 clear z1
 have I2:=zf ((i2.other n1 0 (.slice (some ⟨w.heap.size+1,0,none⟩) 2 2)).other n1 1 (.slice (some ⟨w.heap.size+1+1,0,none⟩) 2 2))
 have I3:=zf ((i3.other n2 0 (.slice (some ⟨w.heap.size+1,0,none⟩) 2 2)).other n2 1 (.slice (some ⟨w.heap.size+1+1,0,none⟩) 2 2))
 have BB:=zf ((M3.setCell (p:=⟨w.heap.size,0,none⟩) (zn _) (.slice (some ⟨w.heap.size+1,0,none⟩) 2 2)).setCell (p:=⟨w.heap.size,1,none⟩) (zn _) (.slice (some ⟨w.heap.size+1+1,0,none⟩) 2 2))
 have q4:=ci q3 (.slice (some ⟨w.heap.size+1,0,none⟩) 2 2) (.slice (some ⟨w.heap.size+1+1,0,none⟩) 2 2)
 have s0:_=some (Value.slice (some ⟨w.heap.size+1,0,none⟩) 2 2):=ai q4 0
 have s1:_=some (Value.slice (some ⟨w.heap.size+1+1,0,none⟩) 2 2):=ai q4 1
 have r0:=zf s0
 have r1:=zf s1
 clear i2 i3 M3 q3 q4 n1 n2 s0 s1
 go_wp2
 have s0:=r0.out
 have s1:=r1.out
 refine bodyPost_ret (v:=.agg #[(.slice (some ⟨w.heap.size+1,0,none⟩) 2 2),(.slice (some ⟨w.heap.size+1+1,0,none⟩) 2 2)]) (by simp[results,Tryz.results61,go_sem,s0,s1]) rfl ⟨_,rfl,⟨⟨_,_,_,_,rfl,I2.out,I3.out⟩⟩,BB.out⟩
def dx (l:List ByteArray) (n:Nat):List ByteArray:=l++List.replicate (n-l.length) ⟨#[48]⟩
theorem fq (l:List ByteArray) (n:Nat):(dx l n).length=max l.length n:=by unfold dx;simp;omega
def xK:Value→Nat
 | .slice _ n _=>n
 | _=>0
theorem j3 (v:Value) (l:List ByteArray) (n:Nat) (w:World) (hl:IsS w v l) (hpos:0<l.length) (hlen:l.length<1000000) (hn:n<1000000) :
  Calls Tryz.prog 67 #[v,.int .i64 n] w fun e w'=>∃ u,e=.returned u∧bf w' w.heap.size u (dx l n)∧Below w.heap.size w w':=by
 have HC:=zf (pH v l w hl hpos (by omega))
 clear hl
 go_enter Tryz.func67,Tryz.ntmps67
 go_wp2_with fail
 refine HC.out.mono ?_
 rintro e w1 ⟨u,rfl,hu,hb1⟩
 have HU:=zf hu
 have HB1:=zf hb1
 clear hu hb1 HC
 go_wp2_with fail
 go_loopw [5] (fun s5 wr=>∃ i:Nat,bf wr w.heap.size s5 (dx l i)∧(i=0∨i≤n)∧Below w.heap.size w wr) (fun s5 _=>n-xK s5)
 case atStart=>exact⟨0,by unfold dx;simpa using HU.out,Or.inl rfl,HB1.out⟩
 case round =>
  obtain⟨i,hown,hi,hbr⟩:=hrel
  have hpl:=fq l i
  obtain⟨p,c,rfl,hcc,-⟩:=hown.isS.form
  obtain⟨m,hm⟩:∃ m,m=(dx l i).length:=⟨_,rfl⟩
  rw[←hm] at hpl hcc hown ⊢
  by_cases hlt:m<n
  ·have hi2:i≤n:=by omega
   obtain⟨j,hj⟩:∃ j,j=m:=⟨_,rfl⟩
   have hpj:dx l (m+1)=dx l i++[⟨#[48]⟩]:=by
    unfold dx
    rw[Af]
    congr 1
    have e:m+1-l.length=(i-l.length)+1:=by omega
    rw[e,BL]
   have hd:decide ((m:Int)<(n:Int))=true:=by simp;omega
   have hd2:decide (m<n)=true:=decide_eq_true hlt
   have HT:=zf hpj
   have HM:=zf (And.intro hm (And.intro hlt hpl))
   have hzl:(dx l i).length<1000000000:=by omega
   have hbs:=hbr.size
   clear hpj hm hpl hi hi2 hj hlt hcc j
   go_upto_region 3 with fail
   generalize Value.slice p m c=sv at hown ⊢
   go_wp2_with (at_builtin;refine aH 26 Tryz.underlying26 rfl (.tmp 12) (.tmp 13) rfl w.heap.size _ _ _ rfl hown rfl hzl hbs ?_)
   intro v' w2 hw2 hb2
   have hB2:=hb2 _ _ hbr (zn _)
   rw[←HT.out] at hw2
   obtain⟨p',c',rfl,-⟩:=hw2.isS.form
   clear hown hb2 hbr
   go_wp2
   go_roundw
   case rel=>exact⟨m+1,hw2,Or.inr HM.out.2.1,hB2⟩
   case measure =>
    have h1:=HM.out.2.1
    have h2:=HM.out.2.2
    have h3:=fq l (m+1)
    simp only[xK]
    omega
  ·have hd:decide ((m:Int)<(n:Int))=false:=by simp;omega
   have hd2:decide (m<n)=false:=decide_eq_false hlt
   have HE:=zf (show dx l i=dx l n by
    unfold dx;congr 2;omega)
   have HO:=zf hown
   have HM:=zf hm
   clear hpl hi hlt hcc hown hm
   go_wp2
   go_ret
   exact⟨_,rfl,by have h:=HO.out;rw[HE.out] at h;exact h,hbr⟩
def ff (a l:List ByteArray) (k:Nat):List ByteArray:=(List.range k).map fun i=>eX (ap l i) (ck (bL (ap l k) (ap a 0)) (ap a (k-i)))
theorem iZ (a l:List ByteArray) (k:Nat):(ff a l k).length=k:=by simp[ff]
theorem sy (a l:List ByteArray) {k i:Nat} (h:i<(ff a l k).length):(ff a l k)[i]=eX (ap l i) (ck (bL (ap l k) (ap a 0)) (ap a (k-i))):=by simp[ff]
theorem ko (a l:List ByteArray) {k i:Nat} (h:i<k):(aT (ff a l k) i).set i (eX (ap l i) (ck (bL (ap l k) (ap a 0)) (ap a (k-i))))=aT (ff a l k) (i+1):=by
 have hl:i<(ff a l k).length:=by rw[iZ];exact h
 have:=fi (ff a l k) hl
 rw[sy a l hl] at this
 exact this
def gK:Nat→List ByteArray→List ByteArray→ByteArray→ByteArray
 | 0,_,_,e=>e
 | k+1,a,b,e=>gK k (ff a a k) (ff a b k) (fd e (bL (ck (ap b k) (ap b k)) (ap a 0)))
def cH (fa fb:List ByteArray):ByteArray×Int :=
 if au fa fb=true then if (aQ fb).isSome=true then (gK (max fa.length fb.length) (dx fb (max fa.length fb.length)) (dx fa (max fa.length fb.length)) ⟨#[48]⟩,0) else (⟨#[]⟩,31) else (⟨#[]⟩,30)
set_option maxRecDepth 100000 in
example : cH aC aD = (⟨#[49, 47, 51]⟩, 0) := by decide +kernel
end Go.Proofs.YtdlioncecgnloaaGreatDoor
