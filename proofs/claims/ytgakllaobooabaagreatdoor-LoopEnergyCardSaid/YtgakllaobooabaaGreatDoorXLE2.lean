/- L -/
import Derived.Test.YtgakllaobooabaaGreatDoorXLP13
import Derived.Test.YtgakllaobooabaaGreatDoorXLD1
import Derived.Test.YtgakllaobooabaaGreatDoorXB
set_option linter.all false
set_option maxRecDepth 100000
set_option maxHeartbeats 8000000
namespace Go.Proofs.YtgakllaobooabaaGreatDoor
open Go.RowKit Dg
theorem sG {a b:List ByteArray}{i:Nat} (h:a.take i=b.take i) (hi:i<a.length) (hib:i<b.length) (he:a[i]=b[i]):a.take (i+1)=b.take (i+1):=by
 rw[<-AM hi,<-AM hib,h,he]
theorem zo (va vb:Value) (a b:List ByteArray) (w:World) (ha:IsS w va a) (hb:IsS w vb b) (hal:a.length<1000000) (hbl:b.length<1000000) :
  Calls Tryz.prog 44 #[va,vb] w fun e w'=>e=.returned (.bool (decide (a=b)))/\Below w.heap.size w w':=by
 obtain⟨pa,ca,rfl,-⟩:=id ha.form;obtain⟨pb,cb,rfl,-⟩:=id hb.form;have HA:=At ha;have HB:=At hb;clear ha hb;go_enter Tryz.func44,Tryz.ntmps44;by_cases hle:a.length=b.length
 ·have hd:((a.length:Int) != (b.length:Int))=false:=by simp[hle]
  have HL:=At hle;clear hle;go_wp2;go_loopw [13] (fun s13 wr=>∃ i:Nat,s13=.int .i64 i/\i<=a.length/\Below w.heap.size w wr/\Hid (a.take i=b.take i)) (fun s13 _=>a.length-(intOf s13).toNat)
  case atStart=>exact⟨0,rfl,AI _,Dv _ _,rfl⟩
  case round =>
   obtain⟨i,rfl,hin,hbr,heq⟩:=hrel;by_cases hi:i<a.length
   ·have hib:i<b.length:=by rw[<-HL.out];exact hi
    obtain⟨ba,oa,rfl,hba,hca⟩:=(HA.out.below hbr).get hi;obtain⟨bb,ob,rfl,hbb,hcb⟩:=(HB.out.below hbr).get hib;have HT:=At (fun h:a[i]=b[i]=>sG heq.out hi hib h);have HN:=At (fun (h:a[i]≠b[i]) (hab:a=b)=>h (by subst hab;rfl));generalize a[i]=x at *
    generalize b[i]=y at *
    by_cases hxy:x=y
    ·subst hxy;have HT:=At (HT.out rfl);clear HN heq;go_upto_region 6 with fail
     have m4:Below wr.heap.size wr wr.drew:=(Dv _ _).drew;refine ai (fun w'=>∃ x:ax wr.heap.size wr.drew,w'=x.w) (fun _=>false) (by kernel_rfl) (by kernel_rfl) ⟨⟨_,Dv _ _⟩,rfl⟩ ?_;have hbw:=hbr.trans (m4.mono hbr.size);have c0:=fun x:ax wr.heap.size wr.drew=>aa (m4.trans x.h) hba hca;have c1:=fun x:ax wr.heap.size wr.drew=>aa (m4.trans x.h) hbb hcb;clear hca hcb m4 hbr;generalize wr.drew=wd at *
     refine ae 9 0 _ _ _ (by kernel_rfl) ?_;simp only[AC,AG,AB,AF];repeat (go_big_quiet_step (fail))
     refine wpQuiet_nil ?_;refine av ?_;clear c0 c1;go_wp2;go_roundw;case rel=>exact⟨i+1,by go_num,by omega,hbw,HT.out⟩
     case measure=>simp[intOf]<;>omega
    ·have hd3:(x.toList == y.toList)=false:=by
      refine Bk.2 fun hb=>hxy ?_;have e:x.toList=y.toList:=by simpa using hb
      rw[ak,ak] at e;exact (fT e).trans (fT rfl).symm
     have HF:=At (show decide (a=b)=false from decide_eq_false (HN.out hxy));clear HN HT heq hxy;go_upto_region 6 with fail
     have m4:Below wr.heap.size wr wr.drew:=(Dv _ _).drew;refine ai (fun w'=>∃ x:ax wr.heap.size wr.drew,w'=x.w) (fun _=>false) (by kernel_rfl) (by kernel_rfl) ⟨⟨_,Dv _ _⟩,rfl⟩ ?_;have hbw:=hbr.trans (m4.mono hbr.size);have c0:=fun x:ax wr.heap.size wr.drew=>aa (m4.trans x.h) hba hca;have c1:=fun x:ax wr.heap.size wr.drew=>aa (m4.trans x.h) hbb hcb;clear hca hcb m4 hbr;generalize wr.drew=wd at *
     refine ae 9 0 _ _ _ (by kernel_rfl) ?_;simp only[AC,AG,AB,AF];repeat (go_big_quiet_step (fail))
     refine wpQuiet_nil ?_;refine av ?_;clear c0 c1;go_wp2;go_ret;exact⟨by rw[HF.out];rfl,hbw⟩
   ·have hin':i=a.length:=by omega
    subst hin';have HF:=At (show decide (a=b)=true from decide_eq_true (by have h:=heq.out;rw[AX,HL.out,AX] at h;exact h));clear hi heq;go_wp2;go_ret;exact⟨by rw[HF.out];rfl,hbr⟩
 ·have hd:((a.length:Int) != (b.length:Int))=true:=by simp;omega
  have HF:=At (show decide (a=b)=false from decide_eq_false (fun h=>hle (by rw[h])));clear hle;go_wp2;go_ret;exact⟨by rw[HF.out];rfl,Dv _ _⟩
theorem io (va vb:Value) (a b:List ByteArray) (w:World) (ha:IsS w va a) (hb:IsS w vb b) (hal:a.length<1000000) (hbl:b.length<1000000) :
  Calls Tryz.prog 20 #[va,vb] w fun e w'=>e=.returned (.bool (decide (a=b)))/\Below w.heap.size w w':=by
 obtain⟨pa,ca,rfl,-⟩:=id ha.form;obtain⟨pb,cb,rfl,-⟩:=id hb.form;have HA:=At ha;have HB:=At hb;clear ha hb;go_enter Tryz.func20,Tryz.ntmps20;by_cases hle:a.length=b.length
 ·have hd:((a.length:Int) != (b.length:Int))=false:=by simp[hle]
  have HL:=At hle;clear hle;go_wp2;go_loopw [5] (fun s5 wr=>∃ i:Nat,s5=.int .i64 i/\i<=a.length/\Below w.heap.size w wr/\Hid (a.take i=b.take i)) (fun s5 _=>a.length-(intOf s5).toNat)
  case atStart=>exact⟨0,rfl,AI _,Dv _ _,rfl⟩
  case round =>
   obtain⟨i,rfl,hin,hbr,heq⟩:=hrel;by_cases hi:i<a.length
   ·have hib:i<b.length:=by rw[<-HL.out];exact hi
    obtain⟨ba,oa,rfl,hba,hca⟩:=(HA.out.below hbr).get hi;obtain⟨bb,ob,rfl,hbb,hcb⟩:=(HB.out.below hbr).get hib;have HT:=At (fun h:a[i]=b[i]=>sG heq.out hi hib h);have HN:=At (fun (h:a[i]≠b[i]) (hab:a=b)=>h (by subst hab;rfl));generalize a[i]=x at *
    generalize b[i]=y at *
    by_cases hxy:x=y
    ·subst hxy;have HT:=At (HT.out rfl);clear HN heq;go_upto_region 6 with fail
     have m4:Below wr.heap.size wr wr.drew:=(Dv _ _).drew;refine ai (fun w'=>∃ x:ax wr.heap.size wr.drew,w'=x.w) (fun _=>false) (by kernel_rfl) (by kernel_rfl) ⟨⟨_,Dv _ _⟩,rfl⟩ ?_;have hbw:=hbr.trans (m4.mono hbr.size);have c0:=fun x:ax wr.heap.size wr.drew=>aa (m4.trans x.h) hba hca;have c1:=fun x:ax wr.heap.size wr.drew=>aa (m4.trans x.h) hbb hcb;clear hca hcb m4 hbr;generalize wr.drew=wd at *
     refine ae 9 0 _ _ _ (by kernel_rfl) ?_;simp only[AC,AG,AB,AF];repeat (go_big_quiet_step (fail))
     refine wpQuiet_nil ?_;refine av ?_;clear c0 c1;go_wp2;go_roundw;case rel=>exact⟨i+1,by go_num,by omega,hbw,HT.out⟩
     case measure=>simp[intOf]<;>omega
    ·have hd3:(x.toList == y.toList)=false:=by
      refine Bk.2 fun hb=>hxy ?_;have e:x.toList=y.toList:=by simpa using hb
      rw[ak,ak] at e;exact (fT e).trans (fT rfl).symm
     have HF:=At (show decide (a=b)=false from decide_eq_false (HN.out hxy));clear HN HT heq hxy;go_upto_region 6 with fail
     have m4:Below wr.heap.size wr wr.drew:=(Dv _ _).drew;refine ai (fun w'=>∃ x:ax wr.heap.size wr.drew,w'=x.w) (fun _=>false) (by kernel_rfl) (by kernel_rfl) ⟨⟨_,Dv _ _⟩,rfl⟩ ?_;have hbw:=hbr.trans (m4.mono hbr.size);have c0:=fun x:ax wr.heap.size wr.drew=>aa (m4.trans x.h) hba hca;have c1:=fun x:ax wr.heap.size wr.drew=>aa (m4.trans x.h) hbb hcb;clear hca hcb m4 hbr;generalize wr.drew=wd at *
     refine ae 9 0 _ _ _ (by kernel_rfl) ?_;simp only[AC,AG,AB,AF];repeat (go_big_quiet_step (fail))
     refine wpQuiet_nil ?_;refine av ?_;clear c0 c1;go_wp2;go_ret;exact⟨by rw[HF.out];rfl,hbw⟩
   ·have hin':i=a.length:=by omega
    subst hin';have HF:=At (show decide (a=b)=true from decide_eq_true (by have h:=heq.out;rw[AX,HL.out,AX] at h;exact h));clear hi heq;go_wp2;go_ret;exact⟨by rw[HF.out];rfl,hbr⟩
 ·have hd:((a.length:Int) != (b.length:Int))=true:=by simp;omega
  have HF:=At (show decide (a=b)=false from decide_eq_false (fun h=>hle (by rw[h])));clear hle;go_wp2;go_ret;exact⟨by rw[HF.out];rfl,Dv _ _⟩
theorem y5 (va vb:Value) (a b c d:List ByteArray) (w:World) (ha:IsF w va a b) (hb:IsF w vb c d) (h1:a.length<1000000) (h2:b.length<1000000) (h3:c.length<1000000) (h4:d.length<1000000) :
  Calls Tryz.prog 25 #[va,vb] w fun e w'=>e=.returned (.bool (decide (a=c)&&decide (b=d)))/\Below w.heap.size w w':=by
 obtain⟨p,x,q,y,rfl,hfa,hfb⟩:=id ha.ex;obtain⟨p',x',q',y',rfl,hfc,hfd⟩:=id hb.ex;go_enter Tryz.func25,Tryz.ntmps25;go_upto_region 1 with fail
 have cc:=ar w (.slice p a.length x) (.slice q b.length y);have m1:=ac w (.cells #[.slice p a.length x,.slice q b.length y] 24);have z1:=size_alloc w (.cells #[.slice p a.length x,.slice q b.length y] 24);generalize w.alloc (.cells #[.slice p a.length x,.slice q b.length y] 24)=w1 at *
 have dd:=ar w1 (.slice p' c.length x') (.slice q' d.length y');have m2:=ac w1 (.cells #[.slice p' c.length x',.slice q' d.length y'] 24);have z2:=size_alloc w1 (.cells #[.slice p' c.length x',.slice q' d.length y'] 24);have b0:=aa m2 (show w.heap.size<w1.heap.size by omega) cc.1;have b1:=aa m2 (show w.heap.size<w1.heap.size by omega) cc.2;generalize w1.alloc (.cells #[.slice p' c.length x',.slice q' d.length y'] 24)=w2 at *
 rw[z1] at dd;have d0:=dd.1;have d1:=dd.2;have M2:=At (m1.trans (m2.mono m1.size));have H1:=At (io _ _ a c w2 (hfa.below M2.out) (hfc.below M2.out) h1 h3);have H2:=At (fun wx (h:Below w2.heap.size w2 wx)=>io _ _ b d wx ((hfb.below M2.out).below h) ((hfd.below M2.out).below h) h2 h4);have hl1:w.heap.size<w2.heap.size:=by omega
 have hl2:w.heap.size+1<w2.heap.size:=by omega
 clear cc dd m1 m2 z1 z2 hfa hfb hfc hfd ha hb;by_cases h:a=c
 ·have hd:decide (a=c)=true:=decide_eq_true h;obtain⟨bb,hbb⟩:∃ bb,bb=decide (b=d):=⟨_,rfl⟩;have HE:=At (show (decide (a=c)&&decide (b=d))=bb by rw[hd,hbb];rfl);rw[hd] at H1;rw[<-hbb] at H2;clear h hd hbb;go_wp2_with fail
  refine H1.out.mono ?_;rintro e w3 ⟨rfl,hb3⟩;have e0:=aa hb3 hl1 b0;have e1:=aa hb3 hl1 b1;have g0:=aa hb3 hl2 d0;have g1:=aa hb3 hl2 d1;clear b0 b1 d0 d1;go_wp2_with fail
  refine (H2.out w3 hb3).mono ?_;rintro e w4 ⟨rfl,hb4⟩;go_wp2;go_ret;exact⟨by rw[HE.out];rfl,M2.out.trans ((hb3.trans (hb4.mono hb3.size)).mono M2.out.size)⟩
 ·have hd:decide (a=c)=false:=decide_eq_false h;have HE:=At (show (decide (a=c)&&decide (b=d))=false by rw[hd];rfl);rw[hd] at H1;clear h hd;go_wp2_with fail
  refine H1.out.mono ?_;rintro e w3 ⟨rfl,hb3⟩;go_wp2;go_ret;exact⟨by rw[HE.out];rfl,M2.out.trans (hb3.mono M2.out.size)⟩
def aD:List ByteArray:=[⟨#[48]⟩,⟨#[49,47,50]⟩]
def aE:List ByteArray:=[⟨#[49]⟩,⟨#[45,49,47,50]⟩]
theorem sa (w:World) (s t:ByteArray):IsS (w.alloc (.cells #[.string s,.string t] 25)) (.slice (some ⟨w.heap.size,0,none⟩) 2 2) [s,t] :=
 bU.isS (base:=0) (World.ownsRow_lit w #[.string s,.string t] 2 (AI _) (by simp[maxLen]) rfl)
theorem Ab (w:World):Calls Tryz.prog 17 #[] w fun e w'=>∃ v,e=.returned v/\IsF w' v aD aE/\Below w.heap.size w w':=by
 go_enter Tryz.func17,Tryz.ntmps17;go_upto_region 1 with fail
 have q1:=heap_alloc_new w (.cells #[.slice none 0 0,.slice none 0 0] 24);have m1:=ac w (.cells #[.slice none 0 0,.slice none 0 0] 24);have z1:=size_alloc w (.cells #[.slice none 0 0,.slice none 0 0] 24);generalize w.alloc (.cells #[.slice none 0 0,.slice none 0 0] 24)=w1 at *
 have i2:=sa w1 ⟨#[48]⟩ ⟨#[49,47,50]⟩;have m2:=ac w1 (.cells #[.string ⟨#[48]⟩,.string ⟨#[49,47,50]⟩] 25);have z2:=size_alloc w1 (.cells #[.string ⟨#[48]⟩,.string ⟨#[49,47,50]⟩] 25);have i3:=sa (w1.alloc (.cells #[.string ⟨#[48]⟩,.string ⟨#[49,47,50]⟩] 25)) ⟨#[49]⟩ ⟨#[45,49,47,50]⟩;have m3:=ac (w1.alloc (.cells #[.string ⟨#[48]⟩,.string ⟨#[49,47,50]⟩] 25)) (.cells #[.string ⟨#[49]⟩,.string ⟨#[45,49,47,50]⟩] 25);have q2:=(m2.block w.heap.size (by omega)).trans q1;have q3:=(m3.block w.heap.size (by omega)).trans q2;have c0:=ah q3 0;have c1:=ah q3 1;have f0:=ay q3 0;have f1:=ay q3 1;have i2:=i2.below m3;have M2:=m1.trans (m2.mono m1.size);have M3:=M2.trans (m3.mono M2.size);rw[z1] at i2;rw[z2,z1] at i3;have n1:Value.ownBlock (.slice (some ⟨w.heap.size+1,0,none⟩) 2 2)≠some w.heap.size:=fun e=>by simp[Value.ownBlock] at e
 have n2:Value.ownBlock (.slice (some ⟨w.heap.size+1+1,0,none⟩) 2 2)≠some w.heap.size:=fun e=>by simp[Value.ownBlock] at e;omega
 clear m1 m2 m3 q1 q2 z2 M2;refine wp_region_lit ?_;refine wpList_plain rfl (fun K hK=>?_);go_simp;refine hK _ _ ?_;clear hK K;try simp only[Act.put,Ax,Aw,Av,Au,Ay,Az]
 refine wpList_plain rfl (fun K hK=>?_);go_simp;refine hK _ _ ?_;clear hK K;try simp only[Act.put,Ax,Aw,Av,Au,Ay,Az]
 try rw[z1]
 generalize (w1.alloc (.cells #[.string ⟨#[48]⟩,.string ⟨#[49,47,50]⟩] 25)).alloc (.cells #[.string ⟨#[49]⟩,.string ⟨#[45,49,47,50]⟩] 25)=w3 at *
 clear z1;have I2:=At ((i2.other n1 0 (.slice (some ⟨w.heap.size+1,0,none⟩) 2 2)).other n1 1 (.slice (some ⟨w.heap.size+1+1,0,none⟩) 2 2));have I3:=At ((i3.other n2 0 (.slice (some ⟨w.heap.size+1,0,none⟩) 2 2)).other n2 1 (.slice (some ⟨w.heap.size+1+1,0,none⟩) 2 2));have BB:=At ((M3.setCell (p:=⟨w.heap.size,0,none⟩) (AA _) (.slice (some ⟨w.heap.size+1,0,none⟩) 2 2)).setCell (p:=⟨w.heap.size,1,none⟩) (AA _) (.slice (some ⟨w.heap.size+1+1,0,none⟩) 2 2));have q4:=cD q3 (.slice (some ⟨w.heap.size+1,0,none⟩) 2 2) (.slice (some ⟨w.heap.size+1+1,0,none⟩) 2 2);have s0:_=some (Value.slice (some ⟨w.heap.size+1,0,none⟩) 2 2):=ah q4 0;have s1:_=some (Value.slice (some ⟨w.heap.size+1+1,0,none⟩) 2 2):=ah q4 1;have r0:=At s0;have r1:=At s1;clear i2 i3 M3 q3 q4 n1 n2 s0 s1;go_wp2;have s0:=r0.out;have s1:=r1.out;refine Du (v:=.agg #[(.slice (some ⟨w.heap.size+1,0,none⟩) 2 2),(.slice (some ⟨w.heap.size+1+1,0,none⟩) 2 2)]) (by simp[results,Tryz.results17,go_sem,s0,s1]) rfl ⟨_,rfl,⟨⟨_,_,_,_,rfl,I2.out,I3.out⟩⟩,BB.out⟩
def cS (l:List ByteArray) (n:Nat):List ByteArray:=l++List.replicate (n-l.length) ⟨#[48]⟩
theorem fG (l:List ByteArray) (n:Nat):(cS l n).length=max l.length n:=by unfold cS;simp;omega
def yU:Value->Nat
 | .slice _ n _=>n
 | _=>0
theorem kw (v:Value) (l:List ByteArray) (n:Nat) (w:World) (hl:IsS w v l) (hpos:0<l.length) (hlen:l.length<1000000) (hn:n<1000000) :
  Calls Tryz.prog 12 #[v,.int .i64 n] w fun e w'=>∃ u,e=.returned u/\bU w' w.heap.size u (cS l n)/\Below w.heap.size w w':=by
 have HC:=At (qu v l w hl hpos (by omega));clear hl;go_enter Tryz.func12,Tryz.ntmps12;go_wp2_with fail
 refine HC.out.mono ?_;rintro e w1 ⟨u,rfl,hu,hb1⟩;have HU:=At hu;have HB1:=At hb1;clear hu hb1 HC;go_wp2_with fail
 go_loopw [5] (fun s5 wr=>∃ i:Nat,bU wr w.heap.size s5 (cS l i)/\(i=0\/i<=n)/\Below w.heap.size w wr) (fun s5 _=>n-yU s5)
 case atStart=>exact⟨0,by unfold cS;simpa using HU.out,Or.inl rfl,HB1.out⟩
 case round =>
  obtain⟨i,hown,hi,hbr⟩:=hrel;have hpl:=fG l i;obtain⟨p,c,rfl,hcc,-⟩:=hown.isS.form;obtain⟨m,hm⟩:∃ m,m=(cS l i).length:=⟨_,rfl⟩;rw[<-hm] at hpl hcc hown |-;by_cases hlt:m<n
  ·have hi2:i<=n:=by omega
   obtain⟨j,hj⟩:∃ j,j=m:=⟨_,rfl⟩
   have hpj:cS l (m+1)=cS l i++[⟨#[48]⟩]:=by
    unfold cS;rw[Bl];congr 1;have e:m+1-l.length=(i-l.length)+1:=by omega
    rw[e,CW]
   have hd:decide ((m:Int)<(n:Int))=true:=by simp;omega
   have hd2:decide (m<n)=true:=decide_eq_true hlt;have HT:=At hpj;have HM:=At (And.intro hm (And.intro hlt hpl));have hzl:(cS l i).length<1000000000:=by omega
   have hbs:=hbr.size;clear hpj hm hpl hi hi2 hj hlt hcc j;go_upto_region 3 with fail
   generalize Value.slice p m c=sv at hown |-;go_wp2_with (at_builtin;refine aT 22 Tryz.underlying22 rfl (.tmp 12) (.tmp 13) rfl w.heap.size _ _ _ rfl hown rfl hzl hbs ?_)
   intro v' w2 hw2 hb2;have hB2:=hb2 _ _ hbr (AA _);rw[<-HT.out] at hw2;obtain⟨p',c',rfl,-⟩:=hw2.isS.form;clear hown hb2 hbr;go_wp2;go_roundw;case rel=>exact⟨m+1,hw2,Or.inr HM.out.2.1,hB2⟩
   case measure =>
    have h1:=HM.out.2.1;have h2:=HM.out.2.2;have h3:=fG l (m+1);simp only[yU];omega
  ·have hd:decide ((m:Int)<(n:Int))=false:=by simp;omega
   have hd2:decide (m<n)=false:=decide_eq_false hlt
   have HE:=At (show cS l i=cS l n by
    unfold cS;congr 2;omega)
   have HO:=At hown;have HM:=At hm;clear hpl hi hlt hcc hown hm;go_wp2;go_ret;exact⟨_,rfl,by have h:=HO.out;rw[HE.out] at h;exact h,hbr⟩
def cI (a l:List ByteArray) (k:Nat):List ByteArray:=(List.range k).map fun i=>fj (am l i) (cw (bE (am l k) (am a 0)) (am a (k-i)))
theorem h_ (a l:List ByteArray) (k:Nat):(cI a l k).length=k:=by simp[cI]
theorem l_ (a l:List ByteArray) {k i:Nat} (h:i<(cI a l k).length):(cI a l k)[i]=fj (am l i) (cw (bE (am l k) (am a 0)) (am a (k-i))):=by simp[cI]
theorem kP (a l:List ByteArray) {k i:Nat} (h:i<k):(aX (cI a l k) i).set i (fj (am l i) (cw (bE (am l k) (am a 0)) (am a (k-i))))=aX (cI a l k) (i+1):=by
 have hl:i<(cI a l k).length:=by rw[h_];exact h
 have:=fy (cI a l k) hl;rw[l_ a l hl] at this;exact this
def dM:Nat->List ByteArray->List ByteArray->ByteArray->ByteArray
 | 0,_,_,e=>e
 | k+1,a,b,e=>dM k (cI a a k) (cI a b k) (eX e (bE (cw (am b k) (am b k)) (am a 0)))
def bG (fa fb:List ByteArray):ByteArray×Int :=
 if aq fa fb=true then if (aK fb).isSome=true then (dM (max fa.length fb.length) (cS fb (max fa.length fb.length)) (cS fa (max fa.length fb.length)) ⟨#[48]⟩,0) else (⟨#[]⟩,31) else (⟨#[]⟩,30)
set_option maxRecDepth 100000 in
example : bG aD aE = (⟨#[49, 47, 51]⟩, 0) := by decide +kernel
end Go.Proofs.YtgakllaobooabaaGreatDoor
