/- Lemmas of this claim. -/
import Derived.Test.YtomkanblohhpfaaGreatDoorYNC9
import Derived.Test.YtomkanblohhpfaaGreatDoorYLH1
set_option linter.all false
set_option maxRecDepth 100000
set_option maxHeartbeats 8000000
namespace Go.Proofs.YtomkanblohhpfaaGreatDoor
open Go.RowKit Dg
theorem oR {a b:List ByteArray}{i:Nat} (h:a.take i=b.take i) (hi:i<a.length) (hib:i<b.length) (he:a[i]=b[i]):a.take (i+1)=b.take (i+1):=by
 rw[←wg hi,←wg hib,h,he]
theorem uO (va vb:Value) (a b:List ByteArray) (w:World) (ha:IsS w va a) (hb:IsS w vb b) (hal:a.length<1000000) (hbl:b.length<1000000) :
  Calls Tryz.prog 66 #[va,vb] w fun e w'=>e=.returned (.bool (decide (a=b)))∧Below w.heap.size w w':=by
 obtain⟨pa,ca,rfl,-⟩:=id ha.form
 obtain⟨pb,cb,rfl,-⟩:=id hb.form
 have HA:=vL ha
 have HB:=vL hb
 clear ha hb
 go_enter Tryz.func66,Tryz.ntmps66
 by_cases hle:a.length=b.length
 ·have hd:((a.length:Int) != (b.length:Int))=false:=by simp[hle]
  have HL:=vL hle
  clear hle
  go_wp2
  go_loopw [13] (fun s13 wr=>∃ i:Nat,s13=.int .i64 i∧i≤a.length∧Below w.heap.size w wr∧Hid (a.take i=b.take i)) (fun s13 _=>a.length-(intOf s13).toNat)
  case atStart=>exact⟨0,rfl,wj _,Below.refl _ _,rfl⟩
  case round =>
   obtain⟨i,rfl,hin,hbr,heq⟩:=hrel
   by_cases hi:i<a.length
   ·have hib:i<b.length:=by rw[←HL.out];exact hi
    obtain⟨ba,oa,rfl,hba,hca⟩:=(HA.out.below hbr).get hi
    obtain⟨bb,ob,rfl,hbb,hcb⟩:=(HB.out.below hbr).get hib
    have HT:=vL (fun h:a[i]=b[i]=>oR heq.out hi hib h)
    have HN:=vL (fun (h:a[i]≠b[i]) (hab:a=b)=>h (by subst hab;rfl))
    generalize a[i]=x at *
    generalize b[i]=y at *
    by_cases hxy:x=y
    ·subst hxy
     have HT:=vL (HT.out rfl)
     clear HN heq
     go_upto_region 6 with fail
     have m4:Below wr.heap.size wr wr.drew:=(Below.refl _ _).drew
     refine ai (fun w'=>∃ x:ax wr.heap.size wr.drew,w'=x.w) (fun _=>false) (by kernel_rfl) (by kernel_rfl) ⟨⟨_,Below.refl _ _⟩,rfl⟩ ?_
     have hbw:=hbr.trans (m4.mono hbr.size)
     have c0:=fun x:ax wr.heap.size wr.drew=>aa (m4.trans x.h) hba hca
     have c1:=fun x:ax wr.heap.size wr.drew=>aa (m4.trans x.h) hbb hcb
     clear hca hcb m4 hbr
     generalize wr.drew=wd at *
     refine ae 9 0 _ _ _ (by kernel_rfl) ?_
     simp only[vU,vY,vT,vX]
     repeat (go_big_quiet_step (fail))
     refine wpQuiet_nil ?_
     refine av ?_
     clear c0 c1
     go_wp2
     go_roundw
     case rel=>exact⟨i+1,by go_num,by omega,hbw,HT.out⟩
     case measure=>(first | (simp[intOf];done) | (simp[intOf];omega))
    ·have hd3:(x.toList == y.toList)=false:=by
      refine wS.2 fun hb=>hxy ?_
      have e:x.toList=y.toList:=by simpa using hb
      rw[aj,aj] at e
      exact (fv e).trans (fv rfl).symm
     have HF:=vL (show decide (a=b)=false from decide_eq_false (HN.out hxy))
     clear HN HT heq hxy
     go_upto_region 6 with fail
     have m4:Below wr.heap.size wr wr.drew:=(Below.refl _ _).drew
     refine ai (fun w'=>∃ x:ax wr.heap.size wr.drew,w'=x.w) (fun _=>false) (by kernel_rfl) (by kernel_rfl) ⟨⟨_,Below.refl _ _⟩,rfl⟩ ?_
     have hbw:=hbr.trans (m4.mono hbr.size)
     have c0:=fun x:ax wr.heap.size wr.drew=>aa (m4.trans x.h) hba hca
     have c1:=fun x:ax wr.heap.size wr.drew=>aa (m4.trans x.h) hbb hcb
     clear hca hcb m4 hbr
     generalize wr.drew=wd at *
     refine ae 9 0 _ _ _ (by kernel_rfl) ?_
     simp only[vU,vY,vT,vX]
     repeat (go_big_quiet_step (fail))
     refine wpQuiet_nil ?_
     refine av ?_
     clear c0 c1
     go_wp2
     go_ret
     exact⟨by rw[HF.out];rfl,hbw⟩
   ·have hin':i=a.length:=by omega
    subst hin'
    have HF:=vL (show decide (a=b)=true from decide_eq_true (by have h:=heq.out;rw[wA,HL.out,wA] at h;exact h))
    clear hi heq
    go_wp2
    go_ret
    exact⟨by rw[HF.out];rfl,hbr⟩
 ·have hd:((a.length:Int) != (b.length:Int))=true:=by simp;omega
  have HF:=vL (show decide (a=b)=false from decide_eq_false (fun h=>hle (by rw[h])))
  clear hle
  go_wp2
  go_ret
  exact⟨by rw[HF.out];rfl,Below.refl _ _⟩
theorem gg (va vb:Value) (a b:List ByteArray) (w:World) (ha:IsS w va a) (hb:IsS w vb b) (hal:a.length<1000000) (hbl:b.length<1000000) :
  Calls Tryz.prog 23 #[va,vb] w fun e w'=>e=.returned (.bool (decide (a=b)))∧Below w.heap.size w w':=by
 obtain⟨pa,ca,rfl,-⟩:=id ha.form
 obtain⟨pb,cb,rfl,-⟩:=id hb.form
 have HA:=vL ha
 have HB:=vL hb
 clear ha hb
 go_enter Tryz.func23,Tryz.ntmps23
 by_cases hle:a.length=b.length
 ·have hd:((a.length:Int) != (b.length:Int))=false:=by simp[hle]
  have HL:=vL hle
  clear hle
  go_wp2
  go_loopw [5] (fun s5 wr=>∃ i:Nat,s5=.int .i64 i∧i≤a.length∧Below w.heap.size w wr∧Hid (a.take i=b.take i)) (fun s5 _=>a.length-(intOf s5).toNat)
  case atStart=>exact⟨0,rfl,wj _,Below.refl _ _,rfl⟩
  case round =>
   obtain⟨i,rfl,hin,hbr,heq⟩:=hrel
   by_cases hi:i<a.length
   ·have hib:i<b.length:=by rw[←HL.out];exact hi
    obtain⟨ba,oa,rfl,hba,hca⟩:=(HA.out.below hbr).get hi
    obtain⟨bb,ob,rfl,hbb,hcb⟩:=(HB.out.below hbr).get hib
    have HT:=vL (fun h:a[i]=b[i]=>oR heq.out hi hib h)
    have HN:=vL (fun (h:a[i]≠b[i]) (hab:a=b)=>h (by subst hab;rfl))
    generalize a[i]=x at *
    generalize b[i]=y at *
    by_cases hxy:x=y
    ·subst hxy
     have HT:=vL (HT.out rfl)
     clear HN heq
     go_upto_region 6 with fail
     have m4:Below wr.heap.size wr wr.drew:=(Below.refl _ _).drew
     refine ai (fun w'=>∃ x:ax wr.heap.size wr.drew,w'=x.w) (fun _=>false) (by kernel_rfl) (by kernel_rfl) ⟨⟨_,Below.refl _ _⟩,rfl⟩ ?_
     have hbw:=hbr.trans (m4.mono hbr.size)
     have c0:=fun x:ax wr.heap.size wr.drew=>aa (m4.trans x.h) hba hca
     have c1:=fun x:ax wr.heap.size wr.drew=>aa (m4.trans x.h) hbb hcb
     clear hca hcb m4 hbr
     generalize wr.drew=wd at *
     refine ae 9 0 _ _ _ (by kernel_rfl) ?_
     simp only[vU,vY,vT,vX]
     repeat (go_big_quiet_step (fail))
     refine wpQuiet_nil ?_
     refine av ?_
     clear c0 c1
     go_wp2
     go_roundw
     case rel=>exact⟨i+1,by go_num,by omega,hbw,HT.out⟩
     case measure=>(first | (simp[intOf];done) | (simp[intOf];omega))
    ·have hd3:(x.toList == y.toList)=false:=by
      refine wS.2 fun hb=>hxy ?_
      have e:x.toList=y.toList:=by simpa using hb
      rw[aj,aj] at e
      exact (fv e).trans (fv rfl).symm
     have HF:=vL (show decide (a=b)=false from decide_eq_false (HN.out hxy))
     clear HN HT heq hxy
     go_upto_region 6 with fail
     have m4:Below wr.heap.size wr wr.drew:=(Below.refl _ _).drew
     refine ai (fun w'=>∃ x:ax wr.heap.size wr.drew,w'=x.w) (fun _=>false) (by kernel_rfl) (by kernel_rfl) ⟨⟨_,Below.refl _ _⟩,rfl⟩ ?_
     have hbw:=hbr.trans (m4.mono hbr.size)
     have c0:=fun x:ax wr.heap.size wr.drew=>aa (m4.trans x.h) hba hca
     have c1:=fun x:ax wr.heap.size wr.drew=>aa (m4.trans x.h) hbb hcb
     clear hca hcb m4 hbr
     generalize wr.drew=wd at *
     refine ae 9 0 _ _ _ (by kernel_rfl) ?_
     simp only[vU,vY,vT,vX]
     repeat (go_big_quiet_step (fail))
     refine wpQuiet_nil ?_
     refine av ?_
     clear c0 c1
     go_wp2
     go_ret
     exact⟨by rw[HF.out];rfl,hbw⟩
   ·have hin':i=a.length:=by omega
    subst hin'
    have HF:=vL (show decide (a=b)=true from decide_eq_true (by have h:=heq.out;rw[wA,HL.out,wA] at h;exact h))
    clear hi heq
    go_wp2
    go_ret
    exact⟨by rw[HF.out];rfl,hbr⟩
 ·have hd:((a.length:Int) != (b.length:Int))=true:=by simp;omega
  have HF:=vL (show decide (a=b)=false from decide_eq_false (fun h=>hle (by rw[h])))
  clear hle
  go_wp2
  go_ret
  exact⟨by rw[HF.out];rfl,Below.refl _ _⟩
theorem uy (va vb:Value) (a b c d:List ByteArray) (w:World) (ha:IsF w va a b) (hb:IsF w vb c d) (h1:a.length<1000000) (h2:b.length<1000000) (h3:c.length<1000000) (h4:d.length<1000000) :
  Calls Tryz.prog 45 #[va,vb] w fun e w'=>e=.returned (.bool (decide (a=c)&&decide (b=d)))∧Below w.heap.size w w':=by
 obtain⟨p,x,q,y,rfl,hfa,hfb⟩:=id ha.ex
 obtain⟨p',x',q',y',rfl,hfc,hfd⟩:=id hb.ex
 go_enter Tryz.func45,Tryz.ntmps45
 go_upto_region 1 with fail
 have cc:=aq w (.slice p a.length x) (.slice q b.length y)
 have m1:=ac w (.cells #[.slice p a.length x,.slice q b.length y] 24)
 have z1:=size_alloc w (.cells #[.slice p a.length x,.slice q b.length y] 24)
 generalize w.alloc (.cells #[.slice p a.length x,.slice q b.length y] 24)=w1 at *
 have dd:=aq w1 (.slice p' c.length x') (.slice q' d.length y')
 have m2:=ac w1 (.cells #[.slice p' c.length x',.slice q' d.length y'] 24)
 have z2:=size_alloc w1 (.cells #[.slice p' c.length x',.slice q' d.length y'] 24)
 have b0:=aa m2 (show w.heap.size<w1.heap.size by omega) cc.1
 have b1:=aa m2 (show w.heap.size<w1.heap.size by omega) cc.2
 generalize w1.alloc (.cells #[.slice p' c.length x',.slice q' d.length y'] 24)=w2 at *
 rw[z1] at dd
 have d0:=dd.1
 have d1:=dd.2
 have M2:=vL (m1.trans (m2.mono m1.size))
 have H1:=vL (gg _ _ a c w2 (hfa.below M2.out) (hfc.below M2.out) h1 h3)
 have H2:=vL (fun wx (h:Below w2.heap.size w2 wx)=>gg _ _ b d wx ((hfb.below M2.out).below h) ((hfd.below M2.out).below h) h2 h4)
 have hl1:w.heap.size<w2.heap.size:=by omega
 have hl2:w.heap.size+1<w2.heap.size:=by omega
 clear cc dd m1 m2 z1 z2 hfa hfb hfc hfd ha hb
 by_cases h:a=c
 ·have hd:decide (a=c)=true:=decide_eq_true h
  obtain⟨bb,hbb⟩:∃ bb,bb=decide (b=d):=⟨_,rfl⟩
  have HE:=vL (show (decide (a=c)&&decide (b=d))=bb by rw[hd,hbb];rfl)
  rw[hd] at H1
  rw[←hbb] at H2
  clear h hd hbb
  go_wp2_with fail
  refine H1.out.mono ?_
  rintro e w3 ⟨rfl,hb3⟩
  have e0:=aa hb3 hl1 b0
  have e1:=aa hb3 hl1 b1
  have g0:=aa hb3 hl2 d0
  have g1:=aa hb3 hl2 d1
  clear b0 b1 d0 d1
  go_wp2_with fail
  refine (H2.out w3 hb3).mono ?_
  rintro e w4 ⟨rfl,hb4⟩
  go_wp2
  go_ret
  exact⟨by rw[HE.out];rfl,M2.out.trans ((hb3.trans (hb4.mono hb3.size)).mono M2.out.size)⟩
 ·have hd:decide (a=c)=false:=decide_eq_false h
  have HE:=vL (show (decide (a=c)&&decide (b=d))=false by rw[hd];rfl)
  rw[hd] at H1
  clear h hd
  go_wp2_with fail
  refine H1.out.mono ?_
  rintro e w3 ⟨rfl,hb3⟩
  go_wp2
  go_ret
  exact⟨by rw[HE.out];rfl,M2.out.trans (hb3.mono M2.out.size)⟩
def aB:List ByteArray:=[⟨#[48]⟩,⟨#[49,47,50]⟩]
def aC:List ByteArray:=[⟨#[49]⟩,⟨#[45,49,47,50]⟩]
theorem oC (w:World) (s t:ByteArray):IsS (w.alloc (.cells #[.string s,.string t] 31)) (.slice (some ⟨w.heap.size,0,none⟩) 2 2) [s,t] :=
 bB.isS (base:=0) (World.ownsRow_lit w #[.string s,.string t] 2 (wj _) (by simp[maxLen]) rfl)
theorem vB (w:World):Calls Tryz.prog 43 #[] w fun e w'=>∃ v,e=.returned v∧IsF w' v aB aC∧Below w.heap.size w w':=by
 go_enter Tryz.func43,Tryz.ntmps43
 go_upto_region 1 with fail
 have q1:=heap_alloc_new w (.cells #[.slice none 0 0,.slice none 0 0] 24)
 have m1:=ac w (.cells #[.slice none 0 0,.slice none 0 0] 24)
 have z1:=size_alloc w (.cells #[.slice none 0 0,.slice none 0 0] 24)
 generalize w.alloc (.cells #[.slice none 0 0,.slice none 0 0] 24)=w1 at *
 have i2:=oC w1 ⟨#[48]⟩ ⟨#[49,47,50]⟩
 have m2:=ac w1 (.cells #[.string ⟨#[48]⟩,.string ⟨#[49,47,50]⟩] 31)
 have z2:=size_alloc w1 (.cells #[.string ⟨#[48]⟩,.string ⟨#[49,47,50]⟩] 31)
 have i3:=oC (w1.alloc (.cells #[.string ⟨#[48]⟩,.string ⟨#[49,47,50]⟩] 31)) ⟨#[49]⟩ ⟨#[45,49,47,50]⟩
 have m3:=ac (w1.alloc (.cells #[.string ⟨#[48]⟩,.string ⟨#[49,47,50]⟩] 31)) (.cells #[.string ⟨#[49]⟩,.string ⟨#[45,49,47,50]⟩] 31)
 have q2:=(m2.block w.heap.size (by omega)).trans q1
 have q3:=(m3.block w.heap.size (by omega)).trans q2
 have c0:=ah q3 0
 have c1:=ah q3 1
 have f0:=ay q3 0
 have f1:=ay q3 1
 have i2:=i2.below m3
 have M2:=m1.trans (m2.mono m1.size)
 have M3:=M2.trans (m3.mono M2.size)
 rw[z1] at i2
 rw[z2,z1] at i3
 have n1:Value.ownBlock (.slice (some ⟨w.heap.size+1,0,none⟩) 2 2)≠some w.heap.size:=fun e=>by simp[Value.ownBlock] at e
 have n2:Value.ownBlock (.slice (some ⟨w.heap.size+1+1,0,none⟩) 2 2)≠some w.heap.size:=fun e=>by simp[Value.ownBlock] at e;omega
 clear m1 m2 m3 q1 q2 z2 M2
 refine wp_region_lit ?_
 refine wpList_plain rfl (fun K hK=>?_)
 go_simp
 refine hK _ _ ?_
 clear hK K
 try simp only[Act.put,vP,vO,vN,vM,vQ,vR]
 refine wpList_plain rfl (fun K hK=>?_)
 go_simp
 refine hK _ _ ?_
 clear hK K
 try simp only[Act.put,vP,vO,vN,vM,vQ,vR]
 try rw[z1]
 generalize (w1.alloc (.cells #[.string ⟨#[48]⟩,.string ⟨#[49,47,50]⟩] 31)).alloc (.cells #[.string ⟨#[49]⟩,.string ⟨#[45,49,47,50]⟩] 31)=w3 at *
 clear z1
 have I2:=vL ((i2.other n1 0 (.slice (some ⟨w.heap.size+1,0,none⟩) 2 2)).other n1 1 (.slice (some ⟨w.heap.size+1+1,0,none⟩) 2 2))
 have I3:=vL ((i3.other n2 0 (.slice (some ⟨w.heap.size+1,0,none⟩) 2 2)).other n2 1 (.slice (some ⟨w.heap.size+1+1,0,none⟩) 2 2))
 have BB:=vL ((M3.setCell (p:=⟨w.heap.size,0,none⟩) (vS _) (.slice (some ⟨w.heap.size+1,0,none⟩) 2 2)).setCell (p:=⟨w.heap.size,1,none⟩) (vS _) (.slice (some ⟨w.heap.size+1+1,0,none⟩) 2 2))
 have q4:=bT q3 (.slice (some ⟨w.heap.size+1,0,none⟩) 2 2) (.slice (some ⟨w.heap.size+1+1,0,none⟩) 2 2)
 have s0:_=some (Value.slice (some ⟨w.heap.size+1,0,none⟩) 2 2):=ah q4 0
 have s1:_=some (Value.slice (some ⟨w.heap.size+1+1,0,none⟩) 2 2):=ah q4 1
 have r0:=vL s0
 have r1:=vL s1
 clear i2 i3 M3 q3 q4 n1 n2 s0 s1
 go_wp2
 have s0:=r0.out
 have s1:=r1.out
 refine bodyPost_ret (v:=.agg #[(.slice (some ⟨w.heap.size+1,0,none⟩) 2 2),(.slice (some ⟨w.heap.size+1+1,0,none⟩) 2 2)]) (by simp[results,Tryz.results43,go_sem,s0,s1]) rfl ⟨_,rfl,⟨⟨_,_,_,_,rfl,I2.out,I3.out⟩⟩,BB.out⟩
def cQ (l:List ByteArray) (n:Nat):List ByteArray:=l++List.replicate (n-l.length) ⟨#[48]⟩
theorem eF (l:List ByteArray) (n:Nat):(cQ l n).length=max l.length n:=by unfold cQ;simp;omega
def uj:Value→Nat
 | .slice _ n _=>n
 | _=>0
theorem i8 (v:Value) (l:List ByteArray) (n:Nat) (w:World) (hl:IsS w v l) (hpos:0<l.length) (hlen:l.length<1000000) (hn:n<1000000) :
  Calls Tryz.prog 78 #[v,.int .i64 n] w fun e w'=>∃ u,e=.returned u∧bB w' w.heap.size u (cQ l n)∧Below w.heap.size w w':=by
 have HC:=vL (m8 v l w hl hpos (by omega))
 clear hl
 go_enter Tryz.func78,Tryz.ntmps78
 go_wp2_with fail
 refine HC.out.mono ?_
 rintro e w1 ⟨u,rfl,hu,hb1⟩
 have HU:=vL hu
 have HB1:=vL hb1
 clear hu hb1 HC
 go_wp2_with fail
 go_loopw [5] (fun s5 wr=>∃ i:Nat,bB wr w.heap.size s5 (cQ l i)∧(i=0∨i≤n)∧Below w.heap.size w wr) (fun s5 _=>n-uj s5)
 case atStart=>exact⟨0,by unfold cQ;simpa using HU.out,Or.inl rfl,HB1.out⟩
 case round =>
  obtain⟨i,hown,hi,hbr⟩:=hrel
  have hpl:=eF l i
  obtain⟨p,c,rfl,hcc,-⟩:=hown.isS.form
  obtain⟨m,hm⟩:∃ m,m=(cQ l i).length:=⟨_,rfl⟩
  rw[←hm] at hpl hcc hown ⊢
  by_cases hlt:m<n
  ·have hi2:i≤n:=by omega
   obtain⟨j,hj⟩:∃ j,j=m:=⟨_,rfl⟩
   have hpj:cQ l (m+1)=cQ l i++[⟨#[48]⟩]:=by
    unfold cQ
    rw[wZ]
    congr 1
    have e:m+1-l.length=(i-l.length)+1:=by omega
    rw[e,yF]
   have hd:decide ((m:Int)<(n:Int))=true:=by simp;omega
   have hd2:decide (m<n)=true:=decide_eq_true hlt
   have HT:=vL hpj
   have HM:=vL (And.intro hm (And.intro hlt hpl))
   have hzl:(cQ l i).length<1000000000:=by omega
   have hbs:=hbr.size
   clear hpj hm hpl hi hi2 hj hlt hcc j
   go_upto_region 3 with fail
   generalize Value.slice p m c=sv at hown ⊢
   go_wp2_with (at_builtin;refine aI 22 Tryz.underlying22 rfl (.tmp 12) (.tmp 13) rfl w.heap.size _ _ _ rfl hown rfl hzl hbs ?_)
   intro v' w2 hw2 hb2
   have hB2:=hb2 _ _ hbr (vS _)
   rw[←HT.out] at hw2
   obtain⟨p',c',rfl,-⟩:=hw2.isS.form
   clear hown hb2 hbr
   go_wp2
   go_roundw
   case rel=>exact⟨m+1,hw2,Or.inr HM.out.2.1,hB2⟩
   case measure =>
    have h1:=HM.out.2.1
    have h2:=HM.out.2.2
    have h3:=eF l (m+1)
    simp only[uj]
    omega
  ·have hd:decide ((m:Int)<(n:Int))=false:=by simp;omega
   have hd2:decide (m<n)=false:=decide_eq_false hlt
   have HE:=vL (show cQ l i=cQ l n by
    unfold cQ;congr 2;omega)
   have HO:=vL hown
   have HM:=vL hm
   clear hpl hi hlt hcc hown hm
   go_wp2
   go_ret
   exact⟨_,rfl,by have h:=HO.out;rw[HE.out] at h;exact h,hbr⟩
def eu (a l:List ByteArray) (k:Nat):List ByteArray:=(List.range k).map fun i=>fK (au l i) (bZ (bE (au l k) (au a 0)) (au a (k-i)))
theorem ie (a l:List ByteArray) (k:Nat):(eu a l k).length=k:=by simp[eu]
theorem pD (a l:List ByteArray) {k i:Nat} (h:i<(eu a l k).length):(eu a l k)[i]=fK (au l i) (bZ (bE (au l k) (au a 0)) (au a (k-i))):=by simp[eu]
theorem jo (a l:List ByteArray) {k i:Nat} (h:i<k):(aN (eu a l k) i).set i (fK (au l i) (bZ (bE (au l k) (au a 0)) (au a (k-i))))=aN (eu a l k) (i+1):=by
 have hl:i<(eu a l k).length:=by rw[ie];exact h
 have:=eA (eu a l k) hl
 rw[pD a l hl] at this
 exact this
def fS:Nat→List ByteArray→List ByteArray→ByteArray→ByteArray
 | 0,_,_,e=>e
 | k+1,a,b,e=>fS k (eu a a k) (eu a b k) (ft e (bE (bZ (au b k) (au b k)) (au a 0)))
def b9 (fa fb:List ByteArray):ByteArray×Int :=
 if ar fa fb=true then if (aP fb).isSome=true then (fS (max fa.length fb.length) (cQ fb (max fa.length fb.length)) (cQ fa (max fa.length fb.length)) ⟨#[48]⟩,0) else (⟨#[]⟩,31) else (⟨#[]⟩,30)
set_option maxRecDepth 100000 in
example : b9 aB aC = (⟨#[49, 47, 51]⟩, 0) := by decide +kernel
end Go.Proofs.YtomkanblohhpfaaGreatDoor
