/- Lemmas of this claim. -/
import Derived.Test.YtdlioncecgnloaaGreatDoorXLP13
import Derived.Test.YtdlioncecgnloaaGreatDoorXLH1
import Derived.Test.YtdlioncecgnloaaGreatDoorXPS5
set_option linter.all false
set_option maxRecDepth 100000
set_option maxHeartbeats 8000000
namespace Go.Proofs.YtdlioncecgnloaaGreatDoor
open Go.RowKit Dg
theorem uL {a b:List ByteArray}{i:Nat} (h:a.take i=b.take i) (hi:i<a.length) (hib:i<b.length) (he:a[i]=b[i]):a.take (i+1)=b.take (i+1):=by
 rw[←Cl hi,←Cl hib,h,he]
theorem A6 (va vb:Value) (a b:List ByteArray) (w:World) (ha:IsS w va a) (hb:IsS w vb b) (hal:a.length<1000000) (hbl:b.length<1000000) :
  Calls Tryz.prog 86 #[va,vb] w fun e w'=>e=.returned (.bool (decide (a=b)))∧Below w.heap.size w w':=by
 obtain⟨pa,ca,rfl,-⟩:=id ha.form
 obtain⟨pb,cb,rfl,-⟩:=id hb.form
 have HA:=BZ ha
 have HB:=BZ hb
 clear ha hb
 go_enter Tryz.func86,Tryz.ntmps86
 by_cases hle:a.length=b.length
 ·have hd:((a.length:Int) != (b.length:Int))=false:=by simp[hle]
  have HL:=BZ hle
  clear hle
  go_wp2
  go_loopw [13] (fun s13 wr=>∃ i:Nat,s13=.int .i64 i∧i≤a.length∧Below w.heap.size w wr∧Hid (a.take i=b.take i)) (fun s13 _=>a.length-(intOf s13).toNat)
  case atStart=>exact⟨0,rfl,Cp _,Below.refl _ _,rfl⟩
  case round =>
   obtain⟨i,rfl,hin,hbr,heq⟩:=hrel
   by_cases hi:i<a.length
   ·have hib:i<b.length:=by rw[←HL.out];exact hi
    obtain⟨ba,oa,rfl,hba,hca⟩:=(HA.out.below hbr).get hi
    obtain⟨bb,ob,rfl,hbb,hcb⟩:=(HB.out.below hbr).get hib
    have HT:=BZ (fun h:a[i]=b[i]=>uL heq.out hi hib h)
    have HN:=BZ (fun (h:a[i]≠b[i]) (hab:a=b)=>h (by subst hab;rfl))
    generalize a[i]=x at *
    generalize b[i]=y at *
    by_cases hxy:x=y
    ·subst hxy
     have HT:=BZ (HT.out rfl)
     clear HN heq
     go_upto_region 6 with fail
     have m4:Below wr.heap.size wr wr.drew:=(Below.refl _ _).drew
     refine ak (fun w'=>∃ x:aw wr.heap.size wr.drew,w'=x.w) (fun _=>false) (by kernel_rfl) (by kernel_rfl) ⟨⟨_,Below.refl _ _⟩,rfl⟩ ?_
     have hbw:=hbr.trans (m4.mono hbr.size)
     have c0:=fun x:aw wr.heap.size wr.drew=>aa (m4.trans x.h) hba hca
     have c1:=fun x:aw wr.heap.size wr.drew=>aa (m4.trans x.h) hbb hcb
     clear hca hcb m4 hbr
     generalize wr.drew=wd at *
     refine af 9 0 _ _ _ (by kernel_rfl) ?_
     simp only[Cf,Ch,Ce,Ci]
     repeat (go_big_quiet_step (fail))
     refine wpQuiet_nil ?_
     refine av ?_
     clear c0 c1
     go_wp2
     go_roundw
     case rel=>exact⟨i+1,by go_num,by omega,hbw,HT.out⟩
     case measure=>(first | (simp[intOf];done) | (simp[intOf];omega))
    ·have hd3:(x.toList == y.toList)=false:=by
      refine C8.2 fun hb=>hxy ?_
      have e:x.toList=y.toList:=by simpa using hb
      rw[au,au] at e
      exact (gF e).trans (gF rfl).symm
     have HF:=BZ (show decide (a=b)=false from decide_eq_false (HN.out hxy))
     clear HN HT heq hxy
     go_upto_region 6 with fail
     have m4:Below wr.heap.size wr wr.drew:=(Below.refl _ _).drew
     refine ak (fun w'=>∃ x:aw wr.heap.size wr.drew,w'=x.w) (fun _=>false) (by kernel_rfl) (by kernel_rfl) ⟨⟨_,Below.refl _ _⟩,rfl⟩ ?_
     have hbw:=hbr.trans (m4.mono hbr.size)
     have c0:=fun x:aw wr.heap.size wr.drew=>aa (m4.trans x.h) hba hca
     have c1:=fun x:aw wr.heap.size wr.drew=>aa (m4.trans x.h) hbb hcb
     clear hca hcb m4 hbr
     generalize wr.drew=wd at *
     refine af 9 0 _ _ _ (by kernel_rfl) ?_
     simp only[Cf,Ch,Ce,Ci]
     repeat (go_big_quiet_step (fail))
     refine wpQuiet_nil ?_
     refine av ?_
     clear c0 c1
     go_wp2
     go_ret
     exact⟨by rw[HF.out];rfl,hbw⟩
   ·have hin':i=a.length:=by omega
    subst hin'
    have HF:=BZ (show decide (a=b)=true from decide_eq_true (by have h:=heq.out;rw[Cv,HL.out,Cv] at h;exact h))
    clear hi heq
    go_wp2
    go_ret
    exact⟨by rw[HF.out];rfl,hbr⟩
 ·have hd:((a.length:Int) != (b.length:Int))=true:=by simp;omega
  have HF:=BZ (show decide (a=b)=false from decide_eq_false (fun h=>hle (by rw[h])))
  clear hle
  go_wp2
  go_ret
  exact⟨by rw[HF.out];rfl,Below.refl _ _⟩
theorem fe (va vb:Value) (a b:List ByteArray) (w:World) (ha:IsS w va a) (hb:IsS w vb b) (hal:a.length<1000000) (hbl:b.length<1000000) :
  Calls Tryz.prog 40 #[va,vb] w fun e w'=>e=.returned (.bool (decide (a=b)))∧Below w.heap.size w w':=by
 obtain⟨pa,ca,rfl,-⟩:=id ha.form
 obtain⟨pb,cb,rfl,-⟩:=id hb.form
 have HA:=BZ ha
 have HB:=BZ hb
 clear ha hb
 go_enter Tryz.func40,Tryz.ntmps40
 by_cases hle:a.length=b.length
 ·have hd:((a.length:Int) != (b.length:Int))=false:=by simp[hle]
  have HL:=BZ hle
  clear hle
  go_wp2
  go_loopw [5] (fun s5 wr=>∃ i:Nat,s5=.int .i64 i∧i≤a.length∧Below w.heap.size w wr∧Hid (a.take i=b.take i)) (fun s5 _=>a.length-(intOf s5).toNat)
  case atStart=>exact⟨0,rfl,Cp _,Below.refl _ _,rfl⟩
  case round =>
   obtain⟨i,rfl,hin,hbr,heq⟩:=hrel
   by_cases hi:i<a.length
   ·have hib:i<b.length:=by rw[←HL.out];exact hi
    obtain⟨ba,oa,rfl,hba,hca⟩:=(HA.out.below hbr).get hi
    obtain⟨bb,ob,rfl,hbb,hcb⟩:=(HB.out.below hbr).get hib
    have HT:=BZ (fun h:a[i]=b[i]=>uL heq.out hi hib h)
    have HN:=BZ (fun (h:a[i]≠b[i]) (hab:a=b)=>h (by subst hab;rfl))
    generalize a[i]=x at *
    generalize b[i]=y at *
    by_cases hxy:x=y
    ·subst hxy
     have HT:=BZ (HT.out rfl)
     clear HN heq
     go_upto_region 6 with fail
     have m4:Below wr.heap.size wr wr.drew:=(Below.refl _ _).drew
     refine ak (fun w'=>∃ x:aw wr.heap.size wr.drew,w'=x.w) (fun _=>false) (by kernel_rfl) (by kernel_rfl) ⟨⟨_,Below.refl _ _⟩,rfl⟩ ?_
     have hbw:=hbr.trans (m4.mono hbr.size)
     have c0:=fun x:aw wr.heap.size wr.drew=>aa (m4.trans x.h) hba hca
     have c1:=fun x:aw wr.heap.size wr.drew=>aa (m4.trans x.h) hbb hcb
     clear hca hcb m4 hbr
     generalize wr.drew=wd at *
     refine af 9 0 _ _ _ (by kernel_rfl) ?_
     simp only[Cf,Ch,Ce,Ci]
     repeat (go_big_quiet_step (fail))
     refine wpQuiet_nil ?_
     refine av ?_
     clear c0 c1
     go_wp2
     go_roundw
     case rel=>exact⟨i+1,by go_num,by omega,hbw,HT.out⟩
     case measure=>(first | (simp[intOf];done) | (simp[intOf];omega))
    ·have hd3:(x.toList == y.toList)=false:=by
      refine C8.2 fun hb=>hxy ?_
      have e:x.toList=y.toList:=by simpa using hb
      rw[au,au] at e
      exact (gF e).trans (gF rfl).symm
     have HF:=BZ (show decide (a=b)=false from decide_eq_false (HN.out hxy))
     clear HN HT heq hxy
     go_upto_region 6 with fail
     have m4:Below wr.heap.size wr wr.drew:=(Below.refl _ _).drew
     refine ak (fun w'=>∃ x:aw wr.heap.size wr.drew,w'=x.w) (fun _=>false) (by kernel_rfl) (by kernel_rfl) ⟨⟨_,Below.refl _ _⟩,rfl⟩ ?_
     have hbw:=hbr.trans (m4.mono hbr.size)
     have c0:=fun x:aw wr.heap.size wr.drew=>aa (m4.trans x.h) hba hca
     have c1:=fun x:aw wr.heap.size wr.drew=>aa (m4.trans x.h) hbb hcb
     clear hca hcb m4 hbr
     generalize wr.drew=wd at *
     refine af 9 0 _ _ _ (by kernel_rfl) ?_
     simp only[Cf,Ch,Ce,Ci]
     repeat (go_big_quiet_step (fail))
     refine wpQuiet_nil ?_
     refine av ?_
     clear c0 c1
     go_wp2
     go_ret
     exact⟨by rw[HF.out];rfl,hbw⟩
   ·have hin':i=a.length:=by omega
    subst hin'
    have HF:=BZ (show decide (a=b)=true from decide_eq_true (by have h:=heq.out;rw[Cv,HL.out,Cv] at h;exact h))
    clear hi heq
    go_wp2
    go_ret
    exact⟨by rw[HF.out];rfl,hbr⟩
 ·have hd:((a.length:Int) != (b.length:Int))=true:=by simp;omega
  have HF:=BZ (show decide (a=b)=false from decide_eq_false (fun h=>hle (by rw[h])))
  clear hle
  go_wp2
  go_ret
  exact⟨by rw[HF.out];rfl,Below.refl _ _⟩
theorem AQ (va vb:Value) (a b c d:List ByteArray) (w:World) (ha:IsF w va a b) (hb:IsF w vb c d) (h1:a.length<1000000) (h2:b.length<1000000) (h3:c.length<1000000) (h4:d.length<1000000) :
  Calls Tryz.prog 62 #[va,vb] w fun e w'=>e=.returned (.bool (decide (a=c)&&decide (b=d)))∧Below w.heap.size w w':=by
 obtain⟨p,x,q,y,rfl,hfa,hfb⟩:=id ha.ex
 obtain⟨p',x',q',y',rfl,hfc,hfd⟩:=id hb.ex
 go_enter Tryz.func62,Tryz.ntmps62
 go_upto_region 1 with fail
 have cc:=ap w (.slice p a.length x) (.slice q b.length y)
 have m1:=ae w (.cells #[.slice p a.length x,.slice q b.length y] 28)
 have z1:=size_alloc w (.cells #[.slice p a.length x,.slice q b.length y] 28)
 generalize w.alloc (.cells #[.slice p a.length x,.slice q b.length y] 28)=w1 at *
 have dd:=ap w1 (.slice p' c.length x') (.slice q' d.length y')
 have m2:=ae w1 (.cells #[.slice p' c.length x',.slice q' d.length y'] 28)
 have z2:=size_alloc w1 (.cells #[.slice p' c.length x',.slice q' d.length y'] 28)
 have b0:=aa m2 (show w.heap.size<w1.heap.size by omega) cc.1
 have b1:=aa m2 (show w.heap.size<w1.heap.size by omega) cc.2
 generalize w1.alloc (.cells #[.slice p' c.length x',.slice q' d.length y'] 28)=w2 at *
 rw[z1] at dd
 have d0:=dd.1
 have d1:=dd.2
 have M2:=BZ (m1.trans (m2.mono m1.size))
 have H1:=BZ (fe _ _ a c w2 (hfa.below M2.out) (hfc.below M2.out) h1 h3)
 have H2:=BZ (fun wx (h:Below w2.heap.size w2 wx)=>fe _ _ b d wx ((hfb.below M2.out).below h) ((hfd.below M2.out).below h) h2 h4)
 have hl1:w.heap.size<w2.heap.size:=by omega
 have hl2:w.heap.size+1<w2.heap.size:=by omega
 clear cc dd m1 m2 z1 z2 hfa hfb hfc hfd ha hb
 by_cases h:a=c
 ·have hd:decide (a=c)=true:=decide_eq_true h
  obtain⟨bb,hbb⟩:∃ bb,bb=decide (b=d):=⟨_,rfl⟩
  have HE:=BZ (show (decide (a=c)&&decide (b=d))=bb by rw[hd,hbb];rfl)
  rw[hd] at H1
  rw[←hbb] at H2
  clear h hd hbb
  go_wp2_with fail
  refine H1.out.mono ?_
  rintro e w3 ⟨rfl,hb3⟩
  have e0:=aa hb3 hl1 b0
  have e1:=aa hb3 hl1 b1
  have g0:=aa hb3 hl2 d0
  have g1:=aa hb3 hl2 d1
  clear b0 b1 d0 d1
  go_wp2_with fail
  refine (H2.out w3 hb3).mono ?_
  rintro e w4 ⟨rfl,hb4⟩
  go_wp2
  go_ret
  exact⟨by rw[HE.out];rfl,M2.out.trans ((hb3.trans (hb4.mono hb3.size)).mono M2.out.size)⟩
 ·have hd:decide (a=c)=false:=decide_eq_false h
  have HE:=BZ (show (decide (a=c)&&decide (b=d))=false by rw[hd];rfl)
  rw[hd] at H1
  clear h hd
  go_wp2_with fail
  refine H1.out.mono ?_
  rintro e w3 ⟨rfl,hb3⟩
  go_wp2
  go_ret
  exact⟨by rw[HE.out];rfl,M2.out.trans (hb3.mono M2.out.size)⟩
def aI:List ByteArray:=[⟨#[48]⟩,⟨#[49,47,50]⟩]
def aK:List ByteArray:=[⟨#[49]⟩,⟨#[45,49,47,50]⟩]
theorem uf (w:World) (s t:ByteArray):IsS (w.alloc (.cells #[.string s,.string t] 22)) (.slice (some ⟨w.heap.size,0,none⟩) 2 2) [s,t] :=
 aZ.isS (base:=0) (World.ownsRow_lit w #[.string s,.string t] 2 (Cp _) (by simp[maxLen]) rfl)
theorem BG (w:World):Calls Tryz.prog 61 #[] w fun e w'=>∃ v,e=.returned v∧IsF w' v aI aK∧Below w.heap.size w w':=by
 go_enter Tryz.func61,Tryz.ntmps61
 go_upto_region 1 with fail
 have q1:=heap_alloc_new w (.cells #[.slice none 0 0,.slice none 0 0] 28)
 have m1:=ae w (.cells #[.slice none 0 0,.slice none 0 0] 28)
 have z1:=size_alloc w (.cells #[.slice none 0 0,.slice none 0 0] 28)
 generalize w.alloc (.cells #[.slice none 0 0,.slice none 0 0] 28)=w1 at *
 have i2:=uf w1 ⟨#[48]⟩ ⟨#[49,47,50]⟩
 have m2:=ae w1 (.cells #[.string ⟨#[48]⟩,.string ⟨#[49,47,50]⟩] 22)
 have z2:=size_alloc w1 (.cells #[.string ⟨#[48]⟩,.string ⟨#[49,47,50]⟩] 22)
 have i3:=uf (w1.alloc (.cells #[.string ⟨#[48]⟩,.string ⟨#[49,47,50]⟩] 22)) ⟨#[49]⟩ ⟨#[45,49,47,50]⟩
 have m3:=ae (w1.alloc (.cells #[.string ⟨#[48]⟩,.string ⟨#[49,47,50]⟩] 22)) (.cells #[.string ⟨#[49]⟩,.string ⟨#[45,49,47,50]⟩] 22)
 have q2:=(m2.block w.heap.size (by omega)).trans q1
 have q3:=(m3.block w.heap.size (by omega)).trans q2
 have c0:=ah q3 0
 have c1:=ah q3 1
 have f0:=ay q3 0
 have f1:=ay q3 1
 have i2:=i2.below m3
 have M2:=m1.trans (m2.mono m1.size)
 have M3:=M2.trans (m3.mono M2.size)
 rw[z1] at i2
 rw[z2,z1] at i3
 have n1:Value.ownBlock (.slice (some ⟨w.heap.size+1,0,none⟩) 2 2)≠some w.heap.size:=fun e=>by simp[Value.ownBlock] at e
 have n2:Value.ownBlock (.slice (some ⟨w.heap.size+1+1,0,none⟩) 2 2)≠some w.heap.size:=fun e=>by simp[Value.ownBlock] at e;omega
 clear m1 m2 m3 q1 q2 z2 M2
 refine wp_region_lit ?_
 refine wpList_plain rfl (fun K hK=>?_)
 go_simp
 refine hK _ _ ?_
 clear hK K
 try simp only[Act.put,Ca,B_,B9,B4,Cb,Cc]
 refine wpList_plain rfl (fun K hK=>?_)
 go_simp
 refine hK _ _ ?_
 clear hK K
 try simp only[Act.put,Ca,B_,B9,B4,Cb,Cc]
 try rw[z1]
 generalize (w1.alloc (.cells #[.string ⟨#[48]⟩,.string ⟨#[49,47,50]⟩] 22)).alloc (.cells #[.string ⟨#[49]⟩,.string ⟨#[45,49,47,50]⟩] 22)=w3 at *
 clear z1
 have I2:=BZ ((i2.other n1 0 (.slice (some ⟨w.heap.size+1,0,none⟩) 2 2)).other n1 1 (.slice (some ⟨w.heap.size+1+1,0,none⟩) 2 2))
 have I3:=BZ ((i3.other n2 0 (.slice (some ⟨w.heap.size+1,0,none⟩) 2 2)).other n2 1 (.slice (some ⟨w.heap.size+1+1,0,none⟩) 2 2))
 have BB:=BZ ((M3.setCell (p:=⟨w.heap.size,0,none⟩) (Cd _) (.slice (some ⟨w.heap.size+1,0,none⟩) 2 2)).setCell (p:=⟨w.heap.size,1,none⟩) (Cd _) (.slice (some ⟨w.heap.size+1+1,0,none⟩) 2 2))
 have q4:=bJ q3 (.slice (some ⟨w.heap.size+1,0,none⟩) 2 2) (.slice (some ⟨w.heap.size+1+1,0,none⟩) 2 2)
 have s0:_=some (Value.slice (some ⟨w.heap.size+1,0,none⟩) 2 2):=ah q4 0
 have s1:_=some (Value.slice (some ⟨w.heap.size+1+1,0,none⟩) 2 2):=ah q4 1
 have r0:=BZ s0
 have r1:=BZ s1
 clear i2 i3 M3 q3 q4 n1 n2 s0 s1
 go_wp2
 have s0:=r0.out
 have s1:=r1.out
 refine bodyPost_ret (v:=.agg #[(.slice (some ⟨w.heap.size+1,0,none⟩) 2 2),(.slice (some ⟨w.heap.size+1+1,0,none⟩) 2 2)]) (by simp[results,Tryz.results61,go_sem,s0,s1]) rfl ⟨_,rfl,⟨⟨_,_,_,_,rfl,I2.out,I3.out⟩⟩,BB.out⟩
def cY (l:List ByteArray) (n:Nat):List ByteArray:=l++List.replicate (n-l.length) ⟨#[48]⟩
theorem gg (l:List ByteArray) (n:Nat):(cY l n).length=max l.length n:=by unfold cY;simp;omega
def AI:Value→Nat
 | .slice _ n _=>n
 | _=>0
theorem lD (v:Value) (l:List ByteArray) (n:Nat) (w:World) (hl:IsS w v l) (hpos:0<l.length) (hlen:l.length<1000000) (hn:n<1000000) :
  Calls Tryz.prog 67 #[v,.int .i64 n] w fun e w'=>∃ u,e=.returned u∧aZ w' w.heap.size u (cY l n)∧Below w.heap.size w w':=by
 have HC:=BZ (sj v l w hl hpos (by omega))
 clear hl
 go_enter Tryz.func67,Tryz.ntmps67
 go_wp2_with fail
 refine HC.out.mono ?_
 rintro e w1 ⟨u,rfl,hu,hb1⟩
 have HU:=BZ hu
 have HB1:=BZ hb1
 clear hu hb1 HC
 go_wp2_with fail
 go_loopw [5] (fun s5 wr=>∃ i:Nat,aZ wr w.heap.size s5 (cY l i)∧(i=0∨i≤n)∧Below w.heap.size w wr) (fun s5 _=>n-AI s5)
 case atStart=>exact⟨0,by unfold cY;simpa using HU.out,Or.inl rfl,HB1.out⟩
 case round =>
  obtain⟨i,hown,hi,hbr⟩:=hrel
  have hpl:=gg l i
  obtain⟨p,c,rfl,hcc,-⟩:=hown.isS.form
  obtain⟨m,hm⟩:∃ m,m=(cY l i).length:=⟨_,rfl⟩
  rw[←hm] at hpl hcc hown ⊢
  by_cases hlt:m<n
  ·have hi2:i≤n:=by omega
   obtain⟨j,hj⟩:∃ j,j=m:=⟨_,rfl⟩
   have hpj:cY l (m+1)=cY l i++[⟨#[48]⟩]:=by
    unfold cY
    rw[CV]
    congr 1
    have e:m+1-l.length=(i-l.length)+1:=by omega
    rw[e,Ec]
   have hd:decide ((m:Int)<(n:Int))=true:=by simp;omega
   have hd2:decide (m<n)=true:=decide_eq_true hlt
   have HT:=BZ hpj
   have HM:=BZ (And.intro hm (And.intro hlt hpl))
   have hzl:(cY l i).length<1000000000:=by omega
   have hbs:=hbr.size
   clear hpj hm hpl hi hi2 hj hlt hcc j
   go_upto_region 3 with fail
   generalize Value.slice p m c=sv at hown ⊢
   go_wp2_with (at_builtin;refine aO 26 Tryz.underlying26 rfl (.tmp 12) (.tmp 13) rfl w.heap.size _ _ _ rfl hown rfl hzl hbs ?_)
   intro v' w2 hw2 hb2
   have hB2:=hb2 _ _ hbr (Cd _)
   rw[←HT.out] at hw2
   obtain⟨p',c',rfl,-⟩:=hw2.isS.form
   clear hown hb2 hbr
   go_wp2
   go_roundw
   case rel=>exact⟨m+1,hw2,Or.inr HM.out.2.1,hB2⟩
   case measure =>
    have h1:=HM.out.2.1
    have h2:=HM.out.2.2
    have h3:=gg l (m+1)
    simp only[AI]
    omega
  ·have hd:decide ((m:Int)<(n:Int))=false:=by simp;omega
   have hd2:decide (m<n)=false:=decide_eq_false hlt
   have HE:=BZ (show cY l i=cY l n by
    unfold cY;congr 2;omega)
   have HO:=BZ hown
   have HM:=BZ hm
   clear hpl hi hlt hcc hown hm
   go_wp2
   go_ret
   exact⟨_,rfl,by have h:=HO.out;rw[HE.out] at h;exact h,hbr⟩
def eB (a l:List ByteArray) (k:Nat):List ByteArray:=(List.range k).map fun i=>dh (aq l i) (bu (aR (aq l k) (aq a 0)) (aq a (k-i)))
theorem kg (a l:List ByteArray) (k:Nat):(eB a l k).length=k:=by simp[eB]
theorem vu (a l:List ByteArray) {k i:Nat} (h:i<(eB a l k).length):(eB a l k)[i]=dh (aq l i) (bu (aR (aq l k) (aq a 0)) (aq a (k-i))):=by simp[eB]
theorem lW (a l:List ByteArray) {k i:Nat} (h:i<k):(bm (eB a l k) i).set i (dh (aq l i) (bu (aR (aq l k) (aq a 0)) (aq a (k-i))))=bm (eB a l k) (i+1):=by
 have hl:i<(eB a l k).length:=by rw[kg];exact h
 have:=fW (eB a l k) hl
 rw[vu a l hl] at this
 exact this
def dz:Nat→List ByteArray→List ByteArray→ByteArray→ByteArray
 | 0,_,_,e=>e
 | k+1,a,b,e=>dz k (eB a a k) (eB a b k) (dV e (aR (bu (aq b k) (aq b k)) (aq a 0)))
def b_ (fa fb:List ByteArray):ByteArray×Int :=
 if ar fa fb=true then if (bd fb).isSome=true then (dz (max fa.length fb.length) (cY fb (max fa.length fb.length)) (cY fa (max fa.length fb.length)) ⟨#[48]⟩,0) else (⟨#[]⟩,31) else (⟨#[]⟩,30)
set_option maxRecDepth 100000 in
example : b_ aI aK = (⟨#[49, 47, 51]⟩, 0) := by decide +kernel
open Go.RowKit Dg Dc
def jp (a b:List CQ):Nat→CQ
 | 0=>CQ.real 0
 | i+1=>(jp a b i).add ((a.getD i ⟨0,0⟩).mul (b.getD i ⟨0,0⟩))
def jP (a b:List ByteArray):ByteArray×Int :=
 match dB a,dB b with
 | some x,some y=>cA (jp x y x.length)
 | _,_=>(⟨#[]⟩,10)
def qz (a b:List Rat):Nat→Rat
 | 0=>0
 | i+1=>qz a b i+a.getD i 0*b.getD i 0
theorem nB (a:List Rat) (i:Nat):(a.map CQ.real).getD i ⟨0,0⟩=CQ.real (a.getD i 0):=by
 rw[Cm,Cm,DL]
 cases a[i]?<;>rfl
theorem qA (a b:List Rat):∀ i,jp (a.map CQ.real) (b.map CQ.real) i=CQ.real (qz a b i)
 | 0=>rfl
 | i+1=>by rw[jp,qz,qA a b i,nB,nB,mE,mD]
theorem xQ {a b:List Rat} (ha:∀ q∈a,okQ q) (hb:∀ q∈b,okQ q) (h:okQ (qz a b a.length)):jP (a.map tq) (b.map tq)=(tq (qz a b a.length),0):=by
 unfold jP
 rw[oG a ha,oG b hb]
 show cA (jp _ _ _)=_
 rw[Ct,qA]
 exact fy h
def eG (l:List ByteArray) (t m:Nat):List ByteArray:=(List.range m).map fun k=>aq l (t-k)
def rB (l:List Rat) (t m:Nat):List Rat:=(List.range m).map fun k=>l.getD (t-k) 0
theorem uE {l:List Rat}{t m:Nat} (h:t<l.length):eG (l.map tq) t m=(rB l t m).map tq:=by
 unfold eG rB
 rw[List.map_map]
 exact EA fun k _=>db (by omega)
theorem tO (a x:List Rat) (t m:Nat) (hm:m≤t+1):∀ i,i≤m→qz (a.take m) (rB x t m) i=inQ a x t i
 | 0,_=>rfl
 | i+1,hi=>by
  rw[qz,inQ,tO a x t m hm i (by omega),if_pos (by omega)]
  have e1:(a.take m).getD i 0=a.getD i 0:=by
   rw[Cm,Cm,Eg,if_pos (by omega)]
  have e2:(rB x t m).getD i 0=x.getD (t-i) 0:=by
   unfold rB
   rw[Cm,DL,List.getElem?_range (by omega)]
   rfl
  rw[e1,e2]
theorem t8 (a x:List Rat) (t:Nat):∀ k,t+1≤k→inQ a x t k=inQ a x t (t+1)
 | 0,h=>by omega
 | k+1,h=>by
  by_cases e:k=t
  ·rw[e]
  ·rw[inQ,if_neg (by omega),t8 a x t k (by omega)]
theorem oS (a x:List Rat) (t:Nat):qz (a.take (min a.length (t+1))) (rB x t (min a.length (t+1))) (a.take (min a.length (t+1))).length=opS a (aL x) t:=by
 have hl:(a.take (min a.length (t+1))).length=min a.length (t+1):=by rw[Cw];omega
 have h2:=tZ a x t a.length (Cd _)
 rw[Cv] at h2
 rw[hl,tO a x t _ (by omega) _ (Cd _),←h2]
 by_cases h:a.length≤t+1
 ·rw[CP h]
 ·rw[Nat.min_eq_right (by omega),t8 a x t a.length (by omega)]
theorem AE {D E M:Nat}{a z:List Rat}{t:Nat} (hD:0<D) (hE:0<E) (ha:∀ q∈a,Ov D (2 ^ 96) q) (hz:∀ s,s≤t→Ov E M (z.getD s 0)):∀ k,k≤a.length→Ov (D*E) (k*(2 ^ 96*M)) (inQ a z t k)
 | 0,_=>(Ov.zero _).mono (Cp _)
 | k+1,hk=>by
  have ih:=AE (t:=t) hD hE ha hz k (by omega)
  rw[inQ]
  by_cases h:k≤t
  ·rw[if_pos h]
   have o:=(ha _ (eC (show k<a.length by omega))).mul (hz (t-k) (by omega)) hD hE
   have o2:=ih.add o
   rw[CS,DC]
   exact o2
  ·rw[if_neg h]
   exact ih.mono (Ck _ (by omega))
theorem zE {W G s t:Nat}{q:Rat} (hW:0<W) (hG:0<G) (hGl:G≤2 ^ 84) (hs:s≤t) (h:Ov (W*G ^ s) (2 ^ (306+190*s)) q):Ov (W*G ^ t) (2 ^ (306+190*t)) q:=by
 have h1:=h.wide (G ^ (t-s)) (CJ hW (C9 hG)) (C9 hG)
 have e:W*G ^ s*G ^ (t-s)=W*G ^ t:=by rw[DX,←CY];congr 2;omega
 rw[e] at h1
 refine h1.mono ?_
 have h3:G ^ (t-s)≤2 ^ (84*(t-s)):=by rw[De];exact Dh hGl _
 have h4:2 ^ (306+190*s)*G ^ (t-s)≤2 ^ (306+190*s+84*(t-s)):=uh (y:=G ^ (t-s)) (a:=306+190*s) (b:=84*(t-s)) h3 rfl
 exact Cr h4 (iF (by omega))
theorem mj (c:Rat) (s:Nat→Rat):∀ (qs:List Rat) (n:Nat),opS (qs.map (fun q=>q / c)) s n=opS qs s n / c
 | [],n=>by rw[D6,fw];grind
 | q :: qs,n=>by
  rw[C3,aW,aW]
  have e:shS 1 (opS (qs.map fun q=>q / c) s) n=shS 1 (fun m=>(fun _=>(0:Rat)) m+(1 / c)*opS qs s m) n:=cH n fun m _=>by rw[mj c s qs m];grind
  have e0:shS 1 (fun _=>(0:Rat)) n=0:=by unfold shS;split<;>rfl
  rw[e,jy,e0]
  grind
theorem xN {a b c:Rat} (hc:c≠0) (h:a / c=b / c):a=b:=by grind
theorem zg (a b:Rat):a+b+-1*a=b:=by grind
theorem jK {fa fb K1 K2 L1 L2:List ByteArray} (hk:du fa fb=((K1,K2),0)) (hl:fQ fa fb=((L1,L2),0)) :
  ∃ (qa qb qs:List Rat) (c:Rat),eS fa qa∧eS fb qb∧eS L1 (qb.map (fun q=>q / c))∧eS L2 (qs.map (fun q=>q / c))∧eS K1 (qa.map (fun q=>q / c))∧eS K2 (qs.map (fun q=>q / c))∧c≠0∧ar L1 L2=true∧ar K1 K2=true ∧
   ∀ s n,opS qs s n=opS qa s n+opS qb s n:=by
 obtain⟨hc,hs0,eL,cL⟩:=kb (l:=fb) (fa:=fa) (fb:=fb) (by rw[show aB fa fb fa fb (ci fb fa fb)=fQ fa fb from rfl,hl])
 obtain⟨-,-,eK,cK⟩:=kb (l:=fa) (fa:=fa) (fb:=fb) (by rw[show aB fa fb fa fb (ci fa fa fb)=du fa fb from rfl,hk])
 rw[show aB fa fb fa fb (ci fb fa fb)=fQ fa fb from rfl,hl] at eL
 rw[show aB fa fb fa fb (ci fa fa fb)=du fa fb from rfl,hk] at eK
 obtain⟨eL,-⟩:=Prod.mk.inj eL
 obtain⟨rfl,rfl⟩:=Prod.mk.inj eL
 obtain⟨eK,-⟩:=Prod.mk.inj eK
 obtain⟨rfl,rfl⟩:=Prod.mk.inj eK
 clear eL eK hk hl
 obtain⟨qa,qb,pa,pb,la,lb⟩:=fx hc
 obtain⟨D,hD,hDl,oa⟩:=pa.ov
 obtain⟨E,hE,hEl,ob⟩:=pb.ov
 have h198:(2:Nat) ^ 96≤2 ^ 198:=iF (by decide)
 have h168:(2:Nat) ^ 84≤2 ^ 168:=iF (by decide)
 obtain⟨qs,es,ks,vs⟩:=zl pa.e pb.e hD hE (Cr hDl h168) (Cr hEl h168) (fun q hq=>⟨(oa q hq).mono h198,pa.ok q hq⟩) (fun q hq=>⟨(ob q hq).mono h198,pb.ok q hq⟩)
 have hsl:0<qs.length:=by
  have h1:=congrArg List.length es
  rw[j8,Ct,pa.e,Ct] at h1
  omega
 have e0:aq (cT fa fb) 0=tq (qs.getD 0 0):=by rw[es,db hsl]
 have hq0:okQ (qs.getD 0 0):=ks _ (eC hsl)
 have hne0:qs.getD 0 0≠0:=fun e=>hs0 (by rw[e0,e];exact mO)
 rw[e0] at cL cK ⊢
 refine⟨qa,qb,qs,qs.getD 0 0,pa,pb,?_⟩
 rw[es] at cL cK ⊢
 rw[pb.e] at cL ⊢
 rw[pa.e] at cK ⊢
 obtain⟨-,-,-,-,c1,c2,-⟩:=aD cL
 obtain⟨-,-,-,-,c3,-⟩:=aD cK
 obtain⟨t1,k1⟩:=jO hq0 hne0 qb pb.ok c1
 obtain⟨t2,k2⟩:=jO hq0 hne0 qs ks c2
 obtain⟨t3,k3⟩:=jO hq0 hne0 qa pa.ok c3
 rw[t1,t2] at cL ⊢
 rw[t3,t2] at cK
 rw[t3]
 obtain⟨x1,x2,p1,p2,-,-⟩:=fx cL
 obtain⟨x3,x4,p3,p4,-,-⟩:=fx cK
 obtain rfl:x1=qb.map (fun q=>q / qs.getD 0 0):=gU p1.ok k1 p1.e.symm
 obtain rfl:x2=qs.map (fun q=>q / qs.getD 0 0):=gU p2.ok k2 p2.e.symm
 obtain rfl:x3=qa.map (fun q=>q / qs.getD 0 0):=gU p3.ok k3 p3.e.symm
 exact⟨p1,p2,p3,p2,hne0,cL,cK,vs⟩
theorem sn {fa fb K1 K2 L1 L2 x:List ByteArray}{N:Nat} (hk:du fa fb=((K1,K2),0)) (hl:fQ fa fb=((L1,L2),0)) (hx:∀ s∈x,bj s.data.toList=true) (hN:N≤16) (hxl:x.length=N) :
  (∀ i,i<N→aM (bE CQ.sub) (aq x i) (aq (aH K1 K2 x N) i)=(aq (aH L1 L2 x N) i,0)) ∧
  (∀ t,t<N→∃ s,jP (fa.take (min fa.length (t+1))) (eG (aH L1 L2 x N) t (min fa.length (t+1)))=(s,0)∧jP (fb.take (min fb.length (t+1))) (eG (aH K1 K2 x N) t (min fb.length (t+1)))=(s,0)):=by
 obtain⟨xs,vx⟩:=rE (by omega) hx
 have hxs:xs.length=N:=by rw[←hxl,vx.e,Ct]
 obtain⟨qa,qb,qs,c,pa,pb,p1,p2,p3,p4,hc,cL,cK,vs⟩:=jK hk hl
 obtain⟨bs,hbs⟩:=jR cL p2
 obtain⟨W1,G1,a1,a2,a3,a4,o1⟩:=f9 p3 p4 vx
 obtain⟨W2,G2,b1,b2,b3,b4,o2⟩:=f9 p1 p2 vx
 obtain⟨t1,u1⟩:=o1 N hN (by omega)
 obtain⟨t2,u2⟩:=o2 N hN (by omega)
 have vd:=fun s n=>mj c s qs n
 rw[hbs] at t1 t2 u1 u2 vd
 have e1:=fun n (hn:n<N)=>f8 (qa.map (fun q=>q / c)) bs xs N n hn
 have e2:=fun n (hn:n<N)=>f8 (qb.map (fun q=>q / c)) bs xs N n hn
 have n1:=fun i (hi:i<N)=>mo (N:=N) a1 a2 a3 a4 (by omega) (u1 i hi)
 have n2:=fun i (hi:i<N)=>mo (N:=N) b1 b2 b3 b4 (by omega) (u2 i hi)
 have l1:=bv (qa.map (fun q=>q / c)) (1 :: bs) xs N
 have l2:=bv (qb.map (fun q=>q / c)) (1 :: bs) xs N
 have key:∀ n,n<N→aL (aA (qb.map (fun q=>q / c)) (1 :: bs) xs N) n=aL xs n+(-1)*aL (aA (qa.map (fun q=>q / c)) (1 :: bs) xs N) n:=by
  refine nR (b:=bs) (z:=fun n=>aL xs n+(-1)*aL (aA (qa.map (fun q=>q / c)) (1 :: bs) xs N) n) fun n hn=>?_
  rw[e2 n hn,jv,e1 n hn,mj,mj,vd,vs]
  grind
 refine⟨fun i hi=>?_,fun t ht=>?_⟩
 ·rw[t1,t2,vx.e,iX (by omega),iX (by omega),iX (by omega)]
  have ek:=key i hi
  have n0:okQ (aL xs i):=vx.ok _ (eC (by omega))
  have ek2:aL xs i-aL (aA (qa.map (fun q=>q / c)) (1 :: bs) xs N) i=aL (aA (qb.map (fun q=>q / c)) (1 :: bs) xs N) i:=by rw[ek];grind
  unfold aM bE
  rw[show dM (tq (aL xs i))=_ from b8 n0,show dM (tq (aL (aA (qa.map (fun q=>q / c)) (1 :: bs) xs N) i))=_ from b8 (n1 i hi)]
  simp only[if_true]
  rw[mF,ek2]
  exact fy (n2 i hi)
 ·have ea:fa.length=qa.length:=by rw[pa.e,Ct]
  have eb:fb.length=qb.length:=by rw[pb.e,Ct]
  obtain⟨D,hD,hDl,oa⟩:=pa.ov
  have hWG:0<W2*G2 ^ t:=CJ b1 (C9 b2)
  have ov:=AE (a:=qa) (z:=aA (qb.map (fun q=>q / c)) (1 :: bs) xs N) (t:=t) hD hWG oa (fun s hs=>zE b1 b2 b4 hs (u2 s (by omega))) qa.length (Cd _)
  have hio:=tZ qa (aA (qb.map (fun q=>q / c)) (1 :: bs) xs N) t qa.length (Cd _)
  rw[Cv] at hio
  rw[hio] at ov
  have hok:okQ (opS qa (aL (aA (qb.map (fun q=>q / c)) (1 :: bs) xs N)) t):=by
   have h1:G2 ^ t≤2 ^ (84*t):=by rw[De];exact Dh b4 _
   have h2:W2*G2 ^ t≤2 ^ (276+84*t):=dZ (x:=W2) (y:=G2 ^ t) (a:=276) (b:=84*t) (c:=276+84*t) b3 h1 rfl
   have h3:D*(W2*G2 ^ t)≤2 ^ (84+(276+84*t)):=dZ (x:=D) (y:=W2*G2 ^ t) (a:=84) (b:=276+84*t) hDl h2 rfl
   have h4:qa.length≤2 ^ 3:=by have:=pa.len;omega
   have h5:(2:Nat) ^ 96*2 ^ (306+190*t)≤2 ^ (96+(306+190*t)):=dZ (Cd _) (Cd _) rfl
   have h6:qa.length*(2 ^ 96*2 ^ (306+190*t))≤2 ^ (3+(96+(306+190*t))):=dZ (x:=qa.length) (a:=3) h4 h5 rfl
   exact ov.ok (CJ hD hWG) (cX h3 (by omega)) (cX h6 (by omega))
  have same:opS qa (aL (aA (qb.map (fun q=>q / c)) (1 :: bs) xs N)) t=opS qb (aL (aA (qa.map (fun q=>q / c)) (1 :: bs) xs N)) t:=by
   have k1:opS qa (aL (aA (qb.map (fun q=>q / c)) (1 :: bs) xs N)) t=opS qa (fun n=>aL xs n+(-1)*aL (aA (qa.map (fun q=>q / c)) (1 :: bs) xs N) n) t:=dS qa t fun m hm=>key m (by omega)
   rw[k1,jv]
   have k2:=e1 t ht
   rw[vd,vs,mj] at k2
   rw[←xN hc k2]
   exact zg _ _
  have take_ok:∀ (l:List Rat) (m:Nat),(∀ q∈l,okQ q)→∀ q∈l.take m,okQ q:=fun l m h q hq=>h q (DO hq)
  have rev_ok:∀ (l:List Rat) (m:Nat),l.length=N→(∀ i,i<N→okQ (aL l i))→∀ q∈rB l t m,okQ q:=fun l m hl h q hq=>by
   unfold rB at hq
   obtain⟨k,-,rfl⟩:=Eu.1 hq
   exact h (t-k) (by omega)
  refine⟨tq (opS qa (aL (aA (qb.map (fun q=>q / c)) (1 :: bs) xs N)) t),?_,?_⟩
  ·rw[t2,ea,pa.e,←List.map_take,uE (by omega),xQ (take_ok _ _ pa.ok) (rev_ok _ _ l2 n2) (by rw[oS];exact hok),oS]
  ·rw[t1,eb,pb.e,←List.map_take,uE (by omega),xQ (take_ok _ _ pb.ok) (rev_ok _ _ l1 n1) (by rw[oS,←same];exact hok),oS,same]
theorem BW (n:Nat) (h:n≠0):(2:Nat) ^ (33*n)<10 ^ (10*n):=by
 rw[De,De];exact Nat.pow_lt_pow_left (by decide) h
theorem BK {x k n t:Nat} (h:x≤2 ^ k) (hk:k≤33*n) (ht:10*n=t) (hn:n≠0):x<10 ^ t:=by
 subst ht;exact Cu (Cr h (iF hk)) (BW n hn)
theorem iP {x k:Nat} (h:x≤2 ^ k) (hk:k≤6600):x<10 ^ 2000:=BK (n:=200) (t:=2000) h (by omega) rfl (by decide)
def je (p:List Rat) (j:Nat) (k:Rat):List Rat:=(List.range j).map fun i=>(p.getD i 0-k*p.getD (j-i) 0) / (1-k*k)
def fM:Nat→List Rat→Option (List Rat)
 | 0,_=>some []
 | j+1,p=>if -1<p.getD (j+1) 0∧p.getD (j+1) 0<1 then (fM j (je p (j+1) (p.getD (j+1) 0))).map fun l=>l++[p.getD (j+1) 0] else none
theorem vV (p:List Rat) (j:Nat) (k:Rat):(je p j k).length=j:=by simp[je]
theorem vU (p:List Rat) (j:Nat) (k:Rat) (i:Nat) (h:i<j):(je p j k).getD i 0=(p.getD i 0-k*p.getD (j-i) 0) / (1-k*k):=by
 unfold je
 rw[Cm,DL,List.getElem?_range h]
 rfl
structure xf (e:Nat) (p:List Rat):Prop where
 one:p.getD 0 0=1
 ov:∃ D,0<D∧D≤2 ^ e∧∀ q∈p,Ov D (2 ^ e) q
theorem pL {k:Rat} (h1:-1<k) (h2:k<1):0<1-k*k:=by
 have e:1-k*k=(1-k)*(1+k):=by grind
 rw[e]
 exact Rat.mul_pos (by grind) (by grind)
theorem xx {D:Nat} (h:0<D):(0:Rat)<(D:Rat):=by
 have:=Rat.intCast_lt_intCast.2 (show (0:Int)<(D:Int) by omega)
 exact this
theorem qu {D M:Nat}{k:Rat} (hD:0<D) (hk:Ov D M k) (h1:-1<k) (h2:k<1):∃ F:Nat,0<F∧F≤D*D∧1-k*k=(F:Rat) / ((D:Rat)*(D:Rat)):=by
 obtain⟨K,e,-⟩:=hk
 have hDc:=c_ hD
 have hDp:=xx hD
 obtain⟨X,hX⟩:∃ X:Int,X=(D:Int)*D-K*K:=⟨_,rfl⟩
 have hXQ:(X:Rat)=(D:Rat)*(D:Rat)-(K:Rat)*(K:Rat):=by
  have:=congrArg (fun x:Int=>(x:Rat)) hX
  simp only[Rat.intCast_sub,Rat.intCast_mul] at this
  exact this
 have e1:1-k*k=(X:Rat) / ((D:Rat)*(D:Rat)):=by
  rw[hXQ,e]
  grind
 have hp:=pL h1 h2
 have e2:(X:Rat)=(1-k*k)*((D:Rat)*(D:Rat)):=by
  rw[e1]
  grind
 have hX0:(0:Rat)<(X:Rat):=by
  rw[e2]
  exact Rat.mul_pos hp (Rat.mul_pos hDp hDp)
 have hX1:0<X:=Rat.intCast_lt_intCast.1 hX0
 have hKK:0≤K*K:=by
  rw[←Int.natAbs_mul_self']
  exact Int.natCast_nonneg _
 obtain⟨F,hF⟩:∃ F:Nat,X=(F:Int):=⟨X.toNat,by omega⟩
 refine⟨F,by omega,?_,?_⟩
 ·have:(F:Int)≤((D*D:Nat):Int):=by rw[Et];omega
  omega
 ·rw[e1,hF]
  rfl
theorem yT {D F M:Nat}{x y:Rat} (hD:0<D) (hF:0<F) (hx:Ov (D*D) M x) (hy:y=(F:Rat) / ((D:Rat)*(D:Rat))):Ov F M (x / y):=by
 obtain⟨n,e,hn⟩:=hx
 have h1:=c_ hD
 have h2:=c_ hF
 refine⟨n,?_,hn⟩
 rw[e,hy,Rat.natCast_mul]
 show (n:Rat) / ((D:Rat)*(D:Rat)) / ((F:Rat) / ((D:Rat)*(D:Rat)))=(n:Rat) / (F:Rat)
 grind
theorem sC {e:Nat}:2 ^ e*2 ^ e+2 ^ e*2 ^ e≤2 ^ (2*e+1):=by
 rw[←CY,Cx,Nat.mul_two,show e+e=2*e from by omega]
 exact Cd _
theorem rO {e:Nat}:2 ^ e*2 ^ e≤2 ^ (2*e+1):=Cr (Ed _ _) sC
theorem Ad {p:List Rat}{e j:Nat} (hp:xf e p) (hl:p.length=j+2) (he:2*e+1≤6600) (h1:-1<p.getD (j+1) 0) (h2:p.getD (j+1) 0<1) :
  jZ (p.map tq) (j+1) (tq (p.getD (j+1) 0))=(je p (j+1) (p.getD (j+1) 0)).map tq∧xf (2*e+1) (je p (j+1) (p.getD (j+1) 0)):=by
 obtain⟨one,D,hD,hDl,ov⟩:=hp
 have hg:∀ i,i<j+2→Ov D (2 ^ e) (p.getD i 0):=fun i hi=>ov _ (eC (by omega))
 have hk:=hg (j+1) (by omega)
 obtain⟨k,hke⟩:∃ k,k=p.getD (j+1) 0:=⟨_,rfl⟩
 rw[←hke] at h1 h2 hk ⊢
 obtain⟨F,hF,hFl,hFe⟩:=qu hD hk h1 h2
 have hDD:D*D≤2 ^ (2*e+1):=Cr (CU hDl hDl) rO
 have hDp:=CJ hD hD
 have big:=fun (n:Nat) (h:n≤2 ^ (2*e+1))=>iP h he
 have small:2 ^ e≤2 ^ (2*e+1):=iF (by omega)
 have ok1:∀ i,i<j+2→okQ (p.getD i 0):=fun i hi=>(hg i hi).ok hD (big _ (Cr hDl small)) (big _ small)
 have okk:okQ k:=by rw[hke];exact ok1 _ (by omega)
 have m1:∀ i,i<j+2→Ov (D*D) (2 ^ e*2 ^ e) (k*p.getD i 0):=fun i hi=>hk.mul (hg i hi) hD hD
 have s1:∀ i,i<j+2→∀ l,l<j+2→Ov (D*D) (2 ^ (2*e+1)) (p.getD i 0-k*p.getD l 0):=fun i hi l hl' =>
  (((hg i hi).wide D hD hD).sub (m1 l hl')).mono (Cr (Nat.add_le_add_right (CD _ hDl) _) sC)
 have kk:Ov (D*D) (2 ^ e*2 ^ e) (k*k):=hk.mul hk hD hD
 have one1:Ov (D*D) (D*D) 1:=⟨((D*D:Nat):Int),by
  have:=c_ hDp
  show (1:Rat)=((D*D:Nat):Rat) / ((D*D:Nat):Rat)
  grind,Nat.le_of_eq (Int.natAbs_natCast _)⟩
 have s2:Ov (D*D) (2 ^ (2*e+1)) (1-k*k):=(one1.sub kk).mono (Cr (Nat.add_le_add_right (CU hDl hDl) _) sC)
 have hne:1-k*k≠0:=by have:=pL h1 h2;grind
 have q1:∀ i,i<j+2→∀ l,l<j+2→Ov F (2 ^ (2*e+1)) ((p.getD i 0-k*p.getD l 0) / (1-k*k)):=fun i hi l hl'=>yT hD hF (s1 i hi l hl') hFe
 have hFb:F≤2 ^ (2*e+1):=Cr hFl hDD
 have b0:=big _ (Cd _)
 have bD:=big _ hDD
 have bF:=big _ hFb
 refine⟨?_,?_,F,hF,hFb,?_⟩
 ·unfold jZ je
  rw[List.map_map]
  refine EA fun i hi=>?_
  have hi:=Do.1 hi
  show aR (dh (aq (p.map tq) i) (bu (tq k) (aq (p.map tq) (j+1-i)))) (dh ⟨#[49]⟩ (bu (tq k) (tq k)))=tq _
  rw[db (by omega),db (by omega),←iE]
  rw[eh okk (ok1 _ (by omega)) ((m1 _ (by omega)).ok hDp bD (big _ rO)),eh okk okk (kk.ok hDp bD (big _ rO)),
   j7 (ok1 _ (by omega)) ((m1 _ (by omega)).ok hDp bD (big _ rO)) ((s1 i (by omega) (j+1-i) (by omega)).ok hDp bD b0),
   j7 dR (kk.ok hDp bD (big _ rO)) (s2.ok hDp bD b0),
   iL ((s1 i (by omega) (j+1-i) (by omega)).ok hDp bD b0) (s2.ok hDp bD b0) hne ((q1 i (by omega) (j+1-i) (by omega)).ok hF bF b0)]
 ·rw[vU _ _ _ _ (by omega),Nat.sub_zero,←hke,one]
  grind
 ·intro q hq
  unfold je at hq
  obtain⟨i,hi,rfl⟩:=Eu.1 hq
  have hi:=Do.1 hi
  exact q1 i (by omega) _ (by omega)
theorem Bt {e:Nat}{p:List Rat} (hp:xf e p) (he:e≤6600):∀ q∈p,okQ q:=by
 obtain⟨-,D,hD,hDl,ov⟩:=hp
 exact fun q hq=>(ov q hq).ok hD (iP hDl he) (iP (Cd _) he)
theorem sX (j:Nat):1≤2 ^ j:=C9 (by decide)
theorem grow {e j:Nat} (h:(e+1)*2 ^ (j+1)≤6600):2*e+1≤6600∧(2*e+1+1)*2 ^ j≤6600:=by
 have h1:(2*e+1+1)*2 ^ j=(e+1)*2 ^ (j+1):=by
  rw[Cx,show 2*e+1+1=(e+1)*2 from by omega,DX,CG 2]
 have h2:=CD (2*e+1+1) (sX j)
 omega
theorem nV:∀ (j:Nat) (p:List Rat) (e:Nat) (pf:List ByteArray),p.length=j+1→xf e p→(e+1)*2 ^ j≤6600→j≤pf.length→iz j (p.map tq) pf=(fM j p).map fun l=>l.map tq++pf.drop j
 | 0,_,_,_,_,_,_,_=>rfl
 | j+1,p,e,pf,hl,hp,he,hpf=>by
  obtain⟨g1,g2⟩:=grow he
  have okk:okQ (p.getD (j+1) 0):=Bt hp (by omega) _ (eC (by omega))
  rw[iz,fM,db (by omega),sG okk]
  by_cases h:-1<p.getD (j+1) 0∧p.getD (j+1) 0<1
  ·obtain⟨n1,n2⟩:=Ad hp hl g1 h.1 h.2
   rw[if_pos h,if_pos (by rw[decide_eq_true h.1,decide_eq_true h.2];rfl),n1,nV j _ (2*e+1) _ (vV ..) n2 g2 (by rw[Di];omega)]
   rw[Option.map_map]
   congr 1
   funext l
   have hd:(pf.set j (tq (p.getD (j+1) 0))).drop j=tq (p.getD (j+1) 0) :: pf.drop (j+1):=by
    rw[Db (by rw[Di];omega),D5,List.drop_set_of_lt (by omega)]
   show l.map tq++(pf.set j _).drop j=(l++[p.getD (j+1) 0]).map tq++pf.drop (j+1)
   rw[hd,DH,CV]
   rfl
  ·rw[if_neg h,if_neg (by simp only[CC,decide_eq_true_eq];exact h)]
   rfl
theorem zc {b:List ByteArray}{qb:List Rat} (h:eS b qb) (h1:qb.getD 0 0=1):xf 96 qb:=by
 obtain⟨D,hD,hDl,ov⟩:=h.ov
 exact⟨h1,D,hD,Cr hDl (iF (by decide)),ov⟩
theorem wG {j:Nat} (h:j≤6):(96+1)*2 ^ j≤6600:=by
 have:2 ^ j≤2 ^ 6:=iF h
 omega
theorem yQ {b:List ByteArray}{qb:List Rat} (h:eS b qb) (h1:qb.getD 0 0=1) (hl:0<qb.length):bd b=(fM (qb.length-1) qb).map fun l=>l.map tq:=by
 obtain⟨n,hn⟩:∃ n,qb.length=n+1:=⟨qb.length-1,by omega⟩
 have h7:=h.len
 unfold bd
 rw[h.e,Ct,hn,Dl,nV n qb 96 _ hn (zc h h1) (wG (by omega)) (by simp)]
 congr 1
 funext l
 rw[List.drop_of_length_le (by simp),C2]
theorem qS {q:Rat} (h:okQ q):bu (tq 0) (tq q)=tq 0:=by
 rw[eh dq h (by rw[Rat.zero_mul];exact dq),Rat.zero_mul]
theorem Bg {q:Rat} (h:okQ q):bu (tq q) (tq 0)=tq 0:=by
 rw[eh h dq (by rw[Rat.mul_zero];exact dq),Rat.mul_zero]
theorem xi {q:Rat} (h:okQ q):dV (tq 0) (tq q)=tq q:=by
 rw[lr dq h (by rw[Rat.zero_add];exact h),Rat.zero_add]
theorem rP {q:Rat} (h:okQ q):dh (tq q) (tq 0)=tq q:=by
 have e:q-0=q:=by grind
 rw[j7 h dq (by rw[e];exact h),e]
theorem xP {q:Rat} (h:okQ q) (hne:q≠0):aR (tq 0) (tq q)=tq 0:=by
 have e:0 / q=0:=by grind
 rw[iL dq h hne (by rw[e];exact dq),e]
theorem qy {q:Rat} (h:okQ q):aR (tq q) (tq 1)=tq q:=by
 have e:q / 1=q:=by grind
 rw[iL h dR (by decide) (by rw[e];exact h),e]
theorem Ov.quo {D E F M:Nat}{x c:Rat} (hx:Ov D M x) (hD:0<D) (hE:0<E) (hF:0<F) (hc:c=(F:Rat) / (E:Rat)):Ov (D*F) (M*E) (x / c):=by
 obtain⟨n,e,hn⟩:=hx
 have h1:=c_ hD
 have h2:=c_ hE
 have h3:=c_ hF
 refine⟨n*E,?_,by rw[Ej];exact Ck _ hn⟩
 rw[e,hc,Rat.intCast_mul,Rat.natCast_mul]
 show (n:Rat) / (D:Rat) / ((F:Rat) / (E:Rat))=(n:Rat)*((E:Nat):Rat) / ((D:Rat)*(F:Rat))
 grind
def r_ (t n:ByteArray):Prop :=
 b_ [t] [⟨#[49]⟩,⟨#[48]⟩,n]=(⟨#[]⟩,31) ∨
 ∃ e f s l,b_ [t] [⟨#[49]⟩,⟨#[48]⟩,n]=(e,0)∧ofC (fun z=>CQ.real z.norm) t=(f,0)∧ofC (fun z=>CQ.real z.norm) n=(s,0)∧aM (bE CQ.sub) ⟨#[49]⟩ s=(l,0)∧aM (bE CQ.mul) e l=(f,0)
theorem uv {q:Rat} (h:okQ q) (h2:okQ (q*q)):ofC (fun z=>CQ.real z.norm) (tq q)=(tq (q*q),0):=by
 unfold ofC
 rw[b8 h]
 show cA (CQ.real (CQ.real q).norm)=_
 have e:(CQ.real q).norm=q*q:=by
  show q*q+0*0=q*q
  grind
 rw[e]
 exact fy h2
theorem vQ {t n:ByteArray} (hc:ar [t] [⟨#[49]⟩,⟨#[48]⟩,n]=true):r_ t n:=by
 obtain⟨-,-,-,-,ca,cb,-⟩:=aD hc
 obtain⟨qt,rfl,okt,tn,td⟩:=jm (ca t (DE.2 rfl))
 obtain⟨qn,rfl,okn,nn,nd⟩:=jm (cb n (by simp))
 have eb:[(⟨#[49]⟩:ByteArray),⟨#[48]⟩,tq qn]=[1,0,qn].map tq:=by
  rw[C3,C3,C3,D6,iE,pO]
 obtain⟨qa,qb,pa,pb,-,lb⟩:=fx hc
 obtain rfl:qb=[1,0,qn]:=gU pb.ok (fun q hq=>by
  rcases CW.1 hq with rfl | hq
  ·exact dR
  ·rcases CW.1 hq with rfl | hq
   ·exact dq
   ·rw[DE.1 hq];exact okn) (by rw[←pb.e,eb])
 have hp:=yQ pb rfl lb
 have hden:=qn.den_pos
 have htd:=qt.den_pos
 have on:Ov qn.den 4096 qn:=(Ov.of qn).mono nn
 have ot:Ov qt.den 4096 qt:=(Ov.of qt).mono tn
 have e16:(4096:Nat)*4096=2 ^ 24:=by decide
 have dnn:qn.den*qn.den≤2 ^ 24:=by rw[←e16];exact CU nd nd
 have dtt:qt.den*qt.den≤2 ^ 24:=by rw[←e16];exact CU td td
 have pnn:=CJ hden hden
 have ptt:=CJ htd htd
 have b24:(2:Nat) ^ 24<10 ^ 2000:=iP (Cd _) (by decide)
 have onn:=on.mul on hden hden
 have ott:=ot.mul ot htd htd
 rw[e16] at onn ott
 have oknn:okQ (qn*qn):=onn.ok pnn (Cu dnn b24) b24
 have oktt:okQ (qt*qt):=ott.ok ptt (Cu dtt b24) b24
 unfold r_
 rw[show b_ [tq qt] [⟨#[49]⟩,⟨#[48]⟩,tq qn]=if (bd [⟨#[49]⟩,⟨#[48]⟩,tq qn]).isSome=true then (dz 3 (cY [⟨#[49]⟩,⟨#[48]⟩,tq qn] 3) (cY [tq qt] 3) ⟨#[48]⟩,0) else (⟨#[]⟩,31) from by unfold b_;rw[if_pos hc];rfl]
 by_cases hin:-1<qn∧qn<1
 ·refine Or.inr ?_
  have hsome:(bd [⟨#[49]⟩,⟨#[48]⟩,tq qn]).isSome=true:=by
   rw[hp]
   have hd:=pL hin.1 hin.2
   have en:je [1,0,qn] 2 qn=[1,0]:=by
    show [(1-qn*qn) / (1-qn*qn),(0-qn*0) / (1-qn*qn)]=[1,0]
    have e1:(1-qn*qn) / (1-qn*qn)=1:=by grind
    have e2:(0-qn*0) / (1-qn*qn)=0:=by grind
    rw[e1,e2]
   show ((fM 2 [1,0,qn]).map _).isSome=true
   rw[fM,if_pos (show -1 < [1,0,qn].getD 2 0∧[1,0,qn].getD 2 0<1 from hin),show [1,0,qn].getD 2 0=qn from rfl,en,fM,if_pos (by decide),fM]
   rfl
  rw[if_pos hsome]
  obtain⟨F,hF,hFl,hFe⟩:=qu hden on hin.1 hin.2
  obtain⟨c,hce⟩:∃ c,c=1-qn*qn:=⟨_,rfl⟩
  have hc0:c≠0:=by have:=pL hin.1 hin.2;grind
  rw[←hce] at hFe
  have oF:Ov (qn.den*qn.den) F c:=⟨F,by rw[hFe,Rat.natCast_mul];rfl,by simp⟩
  have hF24:F<10 ^ 2000:=Cu (Cr hFl dnn) b24
  have okc:okQ c:=oF.ok pnn (Cu dnn b24) hF24
  have oe:Ov (qt.den*qt.den*F) (2 ^ 24*(qn.den*qn.den)) (qt*qt / c):=ott.quo ptt pnn hF (by rw[hFe,Rat.natCast_mul])
  have oke:okQ (qt*qt / c):=oe.ok (CJ ptt hF) (iP (dZ dtt (Cr hFl dnn) rfl) (by decide)) (iP (dZ (Cd _) dnn rfl) (by decide))
  have ea:cY [⟨#[49]⟩,⟨#[48]⟩,tq qn] 3=[tq 1,tq 0,tq qn]:=by rw[eb];rfl
  have et:cY [tq qt] 3=[tq qt,tq 0,tq 0]:=by rw[pO];rfl
  have okz:=dq
  have oko:=dR
  have s1:dh (tq 1) (bu (aR (tq qn) (tq 1)) (tq qn))=tq c:=by
   rw[qy okn,eh okn okn oknn,j7 oko oknn (by rw[←hce];exact okc),hce]
  have s2:dh (tq 0) (bu (aR (tq qn) (tq 1)) (tq 0))=tq 0:=by rw[qy okn,Bg okn,rP okz]
  have s3:dh (tq qt) (bu (aR (tq 0) (tq 1)) (tq qn))=tq qt:=by rw[qy okz,qS okn,rP okt]
  have s4:dh (tq 0) (bu (aR (tq 0) (tq 1)) (tq 0))=tq 0:=by rw[qy okz,qS okz,rP okz]
  have s5:dh (tq c) (bu (aR (tq 0) (tq c)) (tq 0))=tq c:=by rw[xP okc hc0,qS okz,rP okc]
  have s6:dh (tq qt) (bu (aR (tq 0) (tq c)) (tq 0))=tq qt:=by rw[xP okc hc0,qS okz,rP okt]
  have d1:eB [tq 1,tq 0,tq qn] [tq 1,tq 0,tq qn] 2=[tq c,tq 0]:=by
   show [dh (tq 1) (bu (aR (tq qn) (tq 1)) (tq qn)),dh (tq 0) (bu (aR (tq qn) (tq 1)) (tq 0))]=_
   rw[s1,s2]
  have d2:eB [tq 1,tq 0,tq qn] [tq qt,tq 0,tq 0] 2=[tq qt,tq 0]:=by
   show [dh (tq qt) (bu (aR (tq 0) (tq 1)) (tq qn)),dh (tq 0) (bu (aR (tq 0) (tq 1)) (tq 0))]=_
   rw[s3,s4]
  have d3:eB [tq c,tq 0] [tq c,tq 0] 1=[tq c]:=by
   show [dh (tq c) (bu (aR (tq 0) (tq c)) (tq 0))]=_
   rw[s5]
  have d4:eB [tq c,tq 0] [tq qt,tq 0] 1=[tq qt]:=by
   show [dh (tq qt) (bu (aR (tq 0) (tq c)) (tq 0))]=_
   rw[s6]
  have e3:dz 3 (cY [⟨#[49]⟩,⟨#[48]⟩,tq qn] 3) (cY [tq qt] 3) ⟨#[48]⟩=tq (qt*qt / c):=by
   rw[ea,et,←pO,dz,d1,d2,dz,d3,d4,dz,dz]
   show dV (dV (dV (tq 0) (aR (bu (tq 0) (tq 0)) (tq 1))) (aR (bu (tq 0) (tq 0)) (tq c))) (aR (bu (tq qt) (tq qt)) (tq c))=_
   rw[qS okz,qy okz,xi okz,xP okc hc0,xi okz,eh okt okt oktt,iL oktt okc hc0 oke,xi oke]
  rw[e3]
  refine⟨_,tq (qt*qt),tq (qn*qn),tq c,rfl,uv okt oktt,uv okn oknn,?_,?_⟩
  ·unfold aM bE
   rw[←iE,b8 oko,b8 oknn]
   simp only[if_true]
   rw[mF,←hce]
   exact fy okc
  ·have em:qt*qt / c*c=qt*qt:=by grind
   unfold aM bE
   rw[b8 oke,b8 okc]
   simp only[if_true]
   rw[mE,em]
   exact fy oktt
 ·refine Or.inl ?_
  rw[hp]
  show (if ((fM 2 [1,0,qn]).map _).isSome=true then _ else _)=_
  rw[fM,if_neg (show ¬ (-1 < [1,0,qn].getD 2 0∧[1,0,qn].getD 2 0<1) from hin)]
  rfl
end Go.Proofs.YtdlioncecgnloaaGreatDoor
