/- Lemmas of this claim. -/
import Derived.Test.YtbnkpcfjechfiaaGreatDoorYVec2
import Derived.Test.YtbnkpcfjechfiaaGreatDoorYLP2
import Derived.Test.YtbnkpcfjechfiaaGreatDoorYPM2
import Derived.Test.YtbnkpcfjechfiaaGreatDoorYRS6
import Derived.Test.YtbnkpcfjechfiaaGreatDoorYLH1
import Derived.Test.YtbnkpcfjechfiaaGreatDoorYLPr2
import Derived.Test.YtbnkpcfjechfiaaGreatDoorYLB4
set_option linter.all false
set_option maxRecDepth 100000
set_option maxHeartbeats 8000000
namespace Go.Proofs.YtbnkpcfjechfiaaGreatDoor
open Go.RowKit Dg
theorem fq (v:Value) (qs:List Rat) (w:World) (hl:IsS w v (qs.map tq)) (hq:∀ q∈qs,okQ q) (hlen:qs.length<1000000) :
  Calls Tryz.prog 38 #[v] w fun e w'=>∃ v',e=.returned v'∧d7 w' w.heap.size v' qs∧Below w.heap.size w w':=by
 obtain⟨p,c,rfl,hc1,hc2⟩:=hl.form;rw[FJ] at hc1 hl ⊢;have HL:=Fi hl;have HN:=Fi hlen;clear hl;go_enter Tryz.func38,Tryz.ntmps38;go_wp2;go_loopw [3,4] (fun s3 s4 wr=>∃ (i:Nat),s4=.int .i64 i∧i≤qs.length∧d7 wr w.heap.size s3 (qs.take i)∧Below w.heap.size w wr) (fun _ s4 _=>qs.length-(intOf s4).toNat)
 case atStart=>exact⟨0,rfl,Fz _,d7.nil _ _,Below.refl _ _⟩
 case round =>
  obtain⟨i,rfl,hin,hown,hbr⟩:=hrel;by_cases hi:i<qs.length
  ·obtain⟨b,o,rfl,hlt,hcell⟩:=IsS.get (HL.out.below hbr) (i:=i) (by simpa using hi);rw[Gu] at hcell;have HO:=Fi (hq qs[i] (FG hi));have HT:=Fi (FD hi).symm;obtain⟨q,hqe⟩:∃ q,q=qs[i]:=⟨_,rfl⟩;rw[←hqe] at hcell HO HT;clear hqe;generalize htx:tq q=s at hcell;have HS:=Fi htx;clear htx;go_wp2_with fail
   have hCC:=Dk q wr HO.out;rw[HS.out] at hCC;refine hCC.mono ?_;rintro e w2 ⟨v2,rfl,hv2,hb2⟩;obtain⟨m,a,N,d,a',N',d',rfl⟩:=hv2.forms;have hB2:=hbr.trans (hb2.mono hbr.size);have hw2:=hown.below hb2;clear hCC hb2 hown hcell hbr;have m1:=aq w2 (.cells #[.bool m,.slice a N d,.bool false,.slice a' N' d'] 78);have hcx:=heap_alloc_new w2 (.cells #[.bool m,.slice a N d,.bool false,.slice a' N' d'] 78);have hu3:=hv2.below m1;have hw3:=hw2.below m1;have hB3:=hB2.trans (m1.mono hB2.size);have hbs:=hB3.size;have hzl:(qs.take i).length<1000000000:=by have:=HN.out;simp;omega
   clear hv2 hw2 hB2 m1;go_wp2_with (at_builtin;refine fN 51 Tryz.underlying51 rfl (.tmp 11) (.tmp 17) rfl w.heap.size _ _ m a N d a' N' d' q rfl hw3 _ rfl hcx hu3 hzl hbs ?_)
   intro v' w4 hap;have hB4:=hap.below hw3 hB3 (Fq _) hbs;have hw4:=hap.own;rw[←HT.out] at hw4;clear hap hw3 hu3 hcx hB3 hbs hzl;go_wp2;go_roundw;case rel=>exact⟨i+1,by go_num,by omega,hw4,hB4⟩
   case measure=>simp[intOf];omega
  ·have hin':i=qs.length:=by omega
   subst hin';clear hi;rw[FQ] at hown;go_wp2;refine bodyPost_ret (v:=_) (by simp[results,Tryz.results38,go_sem]) rfl ⟨_,rfl,hown,hbr⟩
theorem ni (v:Value) (qs:List Rat) (w:World) (hl:jc w v qs) (hq:∀ q∈qs,okQ q) (hlen:qs.length<1000000) :
  Calls Tryz.prog 41 #[v] w fun e w'=>∃ v',e=.returned v'∧IsS w' v' (qs.map tq)∧Below w.heap.size w w':=by
 obtain⟨p,c,rfl,hc1,hc2⟩:=hl.form;have HL:=Fi hl;have HN:=Fi hlen;clear hl;go_enter Tryz.func41,Tryz.ntmps41;go_wp2;go_loopw [3,4] (fun s3 s4 wr=>∃ (i:Nat),s4=.int .i64 i∧i≤qs.length∧bW wr w.heap.size s3 ((qs.map tq).take i)∧Below w.heap.size w wr) (fun _ s4 _=>qs.length-(intOf s4).toNat)
 case atStart=>exact⟨0,rfl,Fz _,bW.nil _ _,Below.refl _ _⟩
 case round =>
  obtain⟨i,rfl,hin,hown,hbr⟩:=hrel;by_cases hi:i<qs.length
  ·obtain⟨b,o,rfl,hlt,m,a,N,d,a',N',d',hk,c0,c1,c2,c3⟩:=(HL.out.below hbr).get hi;have HO:=Fi (hq qs[i] (FG hi))
   have HT:=Fi (show (qs.map tq).take (i+1)=(qs.map tq).take i++[tq qs[i]] by
    rw[show (qs.map tq).take (i+1)=(qs.map tq).take i++[(qs.map tq)[i]'(by simpa using hi)] from (FD _).symm,Gu])
   obtain⟨q,hqe⟩:∃ q,q=qs[i]:=⟨_,rfl⟩;rw[←hqe] at hk HO HT;clear hqe;go_wp2_with fail
   refine (Dl _ q wr hk HO.out).mono ?_;rintro e w2 ⟨rfl,hb2⟩;have hB2:=hbr.trans (hb2.mono hbr.size);have hw2:=hown.below hb2;have hbs:=hB2.size;have hzl:((qs.map tq).take i).length<1000000000:=by have:=HN.out;simp;omega
   generalize tq q=s at HT ⊢;clear hb2 hown hbr hk c0 c1 c2 c3;go_wp2_with (at_builtin;refine bo 22 Tryz.underlying22 rfl (.tmp 11) (.tmp 17) rfl w.heap.size _ _ s rfl hw2 rfl hzl hbs ?_)
   intro v' w3 hw3 hb3;have hB3:=hb3 _ _ hB2 (Fq _);rw[←HT.out] at hw3;clear hb3 hB2 hw2 hbs hzl;go_wp2;go_roundw;case rel=>exact⟨i+1,by go_num,by omega,hw3,hB3⟩
   case measure=>simp[intOf];omega
  ·have hin':i=qs.length:=by omega
   subst hin';clear hi;rw[Fx (by simp)] at hown;have hs:=bW.isS hown;go_wp2;refine bodyPost_ret (v:=_) (by simp[results,Tryz.results41,go_sem]) rfl ⟨_,rfl,hs,hbr⟩
theorem lp (v:Value) (x:List ByteArray) (w:World) (hl:IsS w v x) (hlen:x.length<1000000000) :
  Calls Tryz.prog 54 #[v] w fun e w'=>e=.returned (.bool (cE x))∧Below w.heap.size w w':=by
 obtain⟨p,c,rfl,hc1,hc2⟩:=hl.form;have HL:=Fi hl;clear hl;go_enter Tryz.func54,Tryz.ntmps54;go_wp2;go_loopw [3] (fun s3 wr=>∃ (i:Nat),s3=.int .i64 i∧i≤x.length∧Below w.heap.size w wr∧Hid (cE (x.take i)=true)) (fun s3 _=>x.length-(intOf s3).toNat)
 case atStart=>exact⟨0,rfl,Fz _,Below.refl _ _,Fi rfl⟩
 case round =>
  obtain⟨i,rfl,hin,hbr,hall⟩:=hrel;by_cases hi:i<x.length
  ·obtain⟨b,o,rfl,hlt,hcell⟩:=IsS.get (HL.out.below hbr) (i:=i) hi;rw[ek hi] at hcell;have hst:=Fi (uH hi);have hbd:=Fi (fun h=>xX hi h);generalize aF x i=s at hcell hst hbd;go_wp2_with fail
   refine (Ah s wr).mono ?_;rintro e w2 ⟨rfl,hb2⟩;have hB2:=hbr.trans (hb2.mono hbr.size);obtain⟨ok,hok⟩:∃ ok,ok=bU s.data.toList:=⟨_,rfl⟩;rw[←hok] at hst hbd ⊢;clear hok hb2 hbr hcell
   cases ok with
   | false =>
    have hf:=hbd.out rfl;have HF:=Fi hf;clear hf;go_wp2;refine bodyPost_ret (v:=.bool false) (by simp[results,Tryz.results54,go_sem]) rfl ⟨by rw[HF.out],hB2⟩
   | true =>
    have hn:cE (x.take (i+1))=true:=by rw[hst.out,hall.out];rfl
    have HN:=Fi hn;clear hn;go_wp2;go_roundw;case rel=>exact⟨i+1,by go_num,by omega,hB2,HN⟩
    case measure=>first | (simp[intOf];done) | (simp[intOf];omega)
  ·have hin':i=x.length:=by omega
   subst hin';clear hi;have hh:=hall.out;rw[FQ] at hh;have HH:=Fi hh;clear hh;go_wp2;refine bodyPost_ret (v:=.bool true) (by simp[results,Tryz.results54,go_sem]) rfl ⟨by rw[HH.out],hbr⟩
theorem inRq (n low high:Int) (w:World) :
  Calls Tryz.prog 56 #[.int .i64 n,.int .i64 low,.int .i64 high] w fun e w'=>e=.returned (.bool (decide (low≤n)&&decide (n≤high)))∧w'=w:=by
 by_cases h:low≤n
 ·have hd:decide (low≤n)=true:=by simp;omega
  go_enter Tryz.func56,Tryz.ntmps56;go_wp2;go_ret;exact⟨by simp[hd],rfl⟩
 ·have hd:decide (low≤n)=false:=by simp;omega
  go_enter Tryz.func56,Tryz.ntmps56;go_wp2;go_ret;exact⟨by simp[hd],rfl⟩
theorem su (a b:List ByteArray):aC a b=((decide ((1:Int)≤(a.length:Int))&&decide ((a.length:Int)≤7))&&(decide ((1:Int)≤(b.length:Int))&&decide ((b.length:Int)≤7))&&cE a&&cE b&&decide (jo b=some [49])):=by
 unfold aC fA cE
 rw[show decide ((1:Int)≤(a.length:Int))=decide (1≤a.length) from decide_eq_decide.2 (by omega),show decide ((a.length:Int)≤7)=decide (a.length≤7) from decide_eq_decide.2 (by omega),
  show decide ((1:Int)≤(b.length:Int))=decide (1≤b.length) from decide_eq_decide.2 (by omega),show decide ((b.length:Int)≤7)=decide (b.length≤7) from decide_eq_decide.2 (by omega)]
 generalize decide (1≤a.length)=x1;generalize decide (a.length≤7)=x2;generalize decide (1≤b.length)=x3;generalize decide (b.length≤7)=x4;generalize a.all _=x5;generalize b.all _=x6;generalize decide (jo b=some [49])=x7
 cases x1<;>cases x2<;>cases x3<;>cases x4<;>cases x5<;>cases x6<;>cases x7<;>rfl
theorem oD (v:Value) (a b:List ByteArray) (w:World) (hF:IsF w v a b) :
  Calls Tryz.prog 31 #[v] w fun e w'=>e=.returned (.int .i64 (aB a b))∧Below w.heap.size w w':=by
 obtain⟨p,c,q,d,rfl,hfa,hfb⟩:=id hF.ex;go_enter Tryz.func31,Tryz.ntmps31;go_upto_region 1 with fail
 have hl:=aY w (.cells #[.slice p a.length c,.slice q b.length d] 24);have HA:=hfa.below hl.below;have HB':=hfb.below hl.below;have HB:=hl.below;have s0:=hl.s0;have CHK:=Fi (su a b);clear hF hfa hfb hl;generalize w.alloc (.cells #[.slice p a.length c,.slice q b.length d] 24)=w1 at *
 have q0:=af s0 0;have q1:=af s0 1;go_wp2_with fail
 refine (inRq a.length 1 7 w1).mono ?_;rintro e w2 ⟨rfl,rfl⟩;rename World=>w2;have HI1:=Fi (show (decide ((1:Int)≤(a.length:Int))&&decide ((a.length:Int)≤7))=true→a.length<1000000000 from fun h=>by simp at h;omega);generalize (decide ((1:Int)≤(a.length:Int))&&decide ((a.length:Int)≤7))=i1 at *
 cases i1 with
 | false =>
  have he:aB a b=30:=by unfold aB;rw[CHK.out];simp
  have HE:=Fi he;clear he;go_wp2;refine bodyPost_ret (v:=.int .i64 30) (by simp[results,Tryz.results31,go_sem]) rfl ⟨by rw[HE.out],HB⟩
 | true =>
  go_wp2_with fail
  refine (inRq b.length 1 7 w2).mono ?_;rintro e w3 ⟨rfl,rfl⟩;rename World=>w3;have HI2:=Fi (show (decide ((1:Int)≤(b.length:Int))&&decide ((b.length:Int)≤7))=true→0<b.length∧b.length<1000000000 from fun h=>by simp at h;omega);generalize (decide ((1:Int)≤(b.length:Int))&&decide ((b.length:Int)≤7))=i2 at *
  cases i2 with
  | false =>
   have he:aB a b=30:=by unfold aB;rw[CHK.out];simp
   have HE:=Fi he;clear he;go_wp2;refine bodyPost_ret (v:=.int .i64 30) (by simp[results,Tryz.results31,go_sem]) rfl ⟨by rw[HE.out],HB⟩
  | true =>
   obtain⟨hb0,hb7⟩:=HI2.out (by first | trivial | rfl);have ha7:=HI1.out (by first | trivial | rfl);go_wp2_with fail
   refine (lp _ a w3 HA ha7).mono ?_;rintro e w4 ⟨rfl,hb4⟩;replace HB':=HB'.below hb4;replace HB:=HB.trans (hb4.mono HB.size);replace s0:=(hb4.block _ (ai s0)).trans s0;clear q0 q1 hb4 HA;have q0:=af s0 0;have q1:=af s0 1;generalize cE a=i3 at *
   cases i3 with
   | false =>
    have he:aB a b=30:=by unfold aB;rw[CHK.out];simp
    have HE:=Fi he;clear he;go_wp2;refine bodyPost_ret (v:=.int .i64 30) (by simp[results,Tryz.results31,go_sem]) rfl ⟨by rw[HE.out],HB⟩
   | true =>
    go_wp2_with fail
    refine (lp _ b w4 HB' hb7).mono ?_;rintro e w5 ⟨rfl,hb5⟩;replace HB':=HB'.below hb5;replace HB:=HB.trans (hb5.mono HB.size);replace s0:=(hb5.block _ (ai s0)).trans s0;clear q0 q1 hb5;have q0:=af s0 0;have q1:=af s0 1;generalize cE b=i4 at *
    cases i4 with
    | false =>
     have he:aB a b=30:=by unfold aB;rw[CHK.out];simp
     have HE:=Fi he;clear he;go_wp2;refine bodyPost_ret (v:=.int .i64 30) (by simp[results,Tryz.results31,go_sem]) rfl ⟨by rw[HE.out],HB⟩
    | true =>
     obtain⟨bb,ob,rfl,hlt,hcell⟩:=HB'.get (i:=0) hb0;have hcell:w5.cell? ⟨bb,ob,none⟩=some (.string b[0]):=by simpa using hcell
     have HH:=Fi (rb hb0);generalize b[0]=s at hcell HH;by_cases hs:s.data.toList=[49]
     ·have hd:(s.toList == [49])=true:=by rw[ax,hs];rfl
      have he:aB a b=0:=by unfold aB;rw[CHK.out,HH.out,decide_eq_true hs];rfl
      have HE:=Fi he;clear he hs;go_wp2;refine bodyPost_ret (v:=.int .i64 0) (by simp[results,Tryz.results31,go_sem]) rfl ⟨by rw[HE.out],HB⟩
     ·have hd:(s.toList == [49])=false:=by rw[ax];exact beq_eq_false_iff_ne.2 hs
      have he:aB a b=30:=by unfold aB;rw[CHK.out,HH.out,decide_eq_false hs];rfl
      have HE:=Fi he;clear he hs;go_wp2;refine bodyPost_ret (v:=.int .i64 30) (by simp[results,Tryz.results31,go_sem]) rfl ⟨by rw[HE.out],HB⟩
open Go.RowKit Dg Dc
structure kb (l:List ByteArray) (qs:List Rat):Prop where
 e:l=qs.map tq
 ov:∃ D,0<D∧D≤2 ^ 84∧∀ q∈qs,Ov D (2 ^ 96) q
 ok:∀ q∈qs,okQ q
 len:qs.length≤7
theorem tH {l:List ByteArray} (hl:l.length≤7) (h:∀ s∈l,bU s.data.toList=true):∃ qs,kb l qs:=by
 obtain⟨qs,D,e,hD,hDl,hall⟩:=nG l h;have h7:(4096:Nat) ^ l.length≤4096 ^ 7:=FI (by decide) hl;have e7:(4096:Nat) ^ 7=2 ^ 84:=by decide
 refine⟨qs,e,⟨D,hD,by omega,fun q hq=>(hall q hq).1.mono ?_⟩,fun q hq=>(hall q hq).2,by rw[e,FJ] at hl;exact hl⟩;have:4096*4096 ^ l.length≤4096*4096 ^ 7:=FU _ h7;rw[e7] at this;exact FB this (by decide)
theorem Dd {a b:Nat} (h:a+1=b):(2:Nat) ^ b=2 ^ a+2 ^ a:=by rw[←h,FH,Nat.mul_two]
theorem EH {a b:Nat} (h:a≤b):(2:Nat) ^ a≤2 ^ b:=FI (by decide) h
theorem Ei {x a b c:Nat} (h:x≤2 ^ a*2 ^ b) (hc:a+b=c):x≤2 ^ c:=by rw[←hc,G_];exact h
theorem AW {x y a b c:Nat} (h1:x≤2 ^ a) (h2:y≤2 ^ b) (hc:a+b=c):x*y≤2 ^ c:=Ei (Gs h1 h2) hc
theorem Dy {D E a b c d:Nat} (hD:D≤2 ^ b) (hE:E≤2 ^ b) (hc:a+b=c) (hd:c+1=d):2 ^ a*E+2 ^ a*D≤2 ^ d:=by
 rw[Dd hd,←hc,G_];exact Nat.add_le_add (FU _ hE) (FU _ hD)
theorem EI (n:Nat):(2:Nat) ^ (3*n)<10 ^ (n+1):=by
 rw[G3];have h1:((2:Nat) ^ 3) ^ n≤10 ^ n:=Nat.pow_le_pow_left (by decide) n;have h2:(10:Nat) ^ n<10 ^ (n+1):=Nat.pow_lt_pow_right (by decide) (Nat.lt_succ_self n);exact FO h1 h2
theorem El {n k m t:Nat} (h:n≤2 ^ k) (hk:k≤3*m) (ht:m+1=t):n<10 ^ t:=by
 subst ht;exact FO (FB h (FI (by decide) hk)) (EI m)
theorem n9 {n k:Nat} (h:n≤2 ^ k) (hk:k≤5997):n<10 ^ 2000:=El (m:=1999) (t:=2000) h (by omega) (by omega)
theorem EG {a b:Rat} (ha:okQ a) (hb:okQ b) (h:tq a=tq b):a=b:=congrArg CQ.re (Dz ha hb h)
theorem fD {a b:List ByteArray} (h:aC a b=true):∃ qa qb,kb a qa∧kb b qb∧0<qa.length∧0<qb.length:=by
 obtain⟨b1,b7,a1,a7,ac,bc,-⟩:=aZ h;obtain⟨qa,ha⟩:=tH a7 ac;obtain⟨qb,hb⟩:=tH b7 bc;refine⟨qa,qb,ha,hb,?_,?_⟩
 ·rw[ha.e,FJ] at a1;omega
 ·rw[hb.e,FJ] at b1;omega
def ku:List Rat→List Rat→List Rat
 | [],_=>[]
 | a :: l,[]=>a :: ku l []
 | a :: l,b :: m=>(a+b) :: ku l m
theorem mW:∀ l:List Rat,ku l []=l
 | []=>rfl
 | a :: l=>by rw[ku,mW l]
theorem zp (x y:ByteArray) (l m:List ByteArray):dK (x :: l) (y :: m)=fQ x y :: dK l m:=by
 unfold dK;rw[show (x :: l).length=l.length+1 from rfl,show (y :: m).length=m.length+1 from rfl,List.range_succ_eq_map,GR,List.map_map];congr 1;refine List.map_congr_left fun i _=>?_;simp only[Function.comp,Nat.succ_eq_add_one,Nat.add_lt_add_iff_right];rfl
theorem B4 (l:List ByteArray):dK l []=l:=by
 refine IN (by simp[dK]) fun i h1 h2=>?_;simp only[dK,Gu,ID,Gj,Nat.not_lt_zero,if_false];exact (ek h2).symm
theorem vN:∀ l m:List Rat,m.length≤l.length→(∀ q∈l,okQ q)→(∀ q∈m,okQ q)→(∀ a∈l,∀ b∈m,okQ (a+b))→dK (l.map tq) (m.map tq)=(ku l m).map tq
 | l,[],_,_,_,_=>by rw[Iq,B4,mW]
 | [],_ :: _,h,_,_,_=>by simp at h
 | a :: l,b :: m,h,h1,h2,h3=>by
  rw[GR,GR,zp,ku,GR,vW (h1 a (FW ..)) (h2 b (FW ..)) (h3 a (FW ..) b (FW ..)),
   vN l m (by simpa using h) (fun q hq=>h1 q (FZ _ hq)) (fun q hq=>h2 q (FZ _ hq)) (fun a ha b hb=>h3 a (FZ _ ha) b (FZ _ hb))]
theorem uw:∀ l m:List Rat,(∀ q∈l,okQ q)→(∀ a∈l,∀ b∈m,okQ (a+b))→∀ q∈ku l m,okQ q
 | [],_,_,_,q,h=>by cases h
 | a :: l,[],h1,_,q,h=>by rw[mW] at h;exact h1 q h
 | a :: l,b :: m,h1,h2,q,h=>by
  rw[ku] at h;rcases Gy.1 h with rfl | h
  ·exact h2 a (FW ..) b (FW ..)
  ·exact uw l m (fun q hq=>h1 q (FZ _ hq)) (fun a ha b hb=>h2 a (FZ _ ha) b (FZ _ hb)) q h
theorem Bd {a b:Rat}{D E:Nat} (ha:Ov D (2 ^ 198) a) (hb:Ov E (2 ^ 198) b) (hD:0<D) (hE:0<E) (hDl:D≤2 ^ 168) (hEl:E≤2 ^ 168):okQ (a+b):=by
 have h2:=hb.wide D hE hD;rw[FL E D] at h2;have h:=(ha.wide E hD hE).add h2;have b1:D*E≤2 ^ 336:=AW (x:=D) (y:=E) (a:=168) (b:=168) (c:=336) hDl hEl rfl;have b2:2 ^ 198*E+2 ^ 198*D≤2 ^ 367:=Dy (D:=D) (E:=E) (a:=198) (b:=168) (c:=366) (d:=367) hDl hEl rfl rfl;exact h.ok (GJ hD hE) (n9 b1 (by decide)) (n9 b2 (by decide))
theorem kW {l:List Rat}{k:Nat} (h:k<l.length):l.getD k 0∈l:=by rw[FF,FC h];exact FG h
theorem kY {a b:List ByteArray}{qb:List Rat} (h:aC a b=true) (hb:kb b qb):∃ b',qb=1 :: b':=by
 obtain⟨b1,-,-,-,-,bc,hh⟩:=aZ h
 have hl:=hb.e
 subst hl
 match qb,hb,b1,hh with
 | q :: b',hb,_,hh =>
  have e:(tq q).data.toList=[49]:=by
   unfold jo at hh
   simpa using hh
  have:tq q=tq 1:=by
   rw[oS]
   exact iH e
  exact⟨b',by rw[EG (hb.ok q (FW ..)) jZ this]⟩
theorem Ff (n:Nat) (h:n≠0):(2:Nat) ^ (33*n)<10 ^ (10*n):=by
 rw[G3,G3];exact Nat.pow_lt_pow_left (by decide) h
theorem E7 {x k n t:Nat} (h:x≤2 ^ k) (hk:k≤33*n) (ht:10*n=t) (hn:n≠0):x<10 ^ t:=by
 subst ht;exact FO (FB h (EH hk)) (Ff n hn)
theorem wQ {x k:Nat} (h:x≤2 ^ k) (hk:k≤6600):x<10 ^ 2000:=E7 (n:=200) (t:=2000) h (by omega) rfl (by decide)
structure SizP (e:Nat) (p:List Rat):Prop where
 one:p.getD 0 0=1
 ov:∃ D,0<D∧D≤2 ^ e∧∀ q∈p,Ov D (2 ^ e) q
theorem EC {e:Nat}{p:List Rat} (hp:SizP e p) (he:e≤6600):∀ q∈p,okQ q:=by
 obtain⟨-,D,hD,hDl,ov⟩:=hp;exact fun q hq=>(ov q hq).ok hD (wQ hDl he) (wQ (Fq _) he)
theorem Bb {q:Rat} (h:okQ q):Sz 2000 (rt q):=⟨(qu9 h).1,dF _,(qu9 h).2⟩
def DE (p:List Rat) (j:Nat):Prop:=∃ e,SizP e p∧(e+1)*2 ^ j≤6600
theorem DE.ok {p:List Rat}{j:Nat} (h:DE p j):∀ q∈p,okQ q:=by
 obtain⟨e,h1,h2⟩:=h;have:=Ig (e+1) (Nat.two_pow_pos j);exact EC h1 (by omega)
theorem zS {a b:Rat}{k l:Nat} (ha:Sz k (rt a)) (hb:Sz l (rt b)):Sz (k+l) (rt (a*b)):=by
 rw[←gQ];exact ha.mul hb
theorem xg (v:Value) (qs:List Rat) (i:Nat) (w:World) (hl:jc w v qs) (hi:i<1000000) :
  Calls Tryz.prog 138 #[v,.int .i64 i] w fun e w'=>∃ v',e=.returned v'∧dl w' v' (qs.getD i 0)∧Below w.heap.size w w':=by
 obtain⟨p,c,rfl,hc1,hc2⟩:=hl.form;have h1:=aY w (.cells #[.bool false,.slice none 0 0,.bool false,.slice none 0 0] 78);have hl1:=hl.below h1.below;have M1:=Fi h1.below;have s1:=h1.s0;clear hl h1;by_cases hin:i<qs.length
 ·have hd:decide ((i:Int)<(qs.length:Int))=true:=decide_eq_true (by omega);obtain⟨b,o,rfl,hlt,m,a,N,d,a',N',d',hq,c0,c1,c2,c3⟩:=hl1.get hin;have hp:=Fi (show qs[i]=qs.getD i 0 by simp[FF,FC hin]);rw[hp.out] at hq;go_enter Tryz.func138,Tryz.ntmps138;go_upto_region 1 with fail
  clear hl1;generalize w.alloc (.cells #[.bool false,.slice none 0 0,.bool false,.slice none 0 0] 78)=w1 at *
  have hP:=bg (u0:=.bool m) (u1:=.slice a N d) (u2:=.bool false) (u3:=.slice a' N' d') s1;have hZ:=Fi (dr.puts hq hP s1 bL);have hBF:=Fi (M1.out.trans (hP.below w.heap.size (Fq _)));have q0:=af s1 0;have q1:=af s1 1;have q2:=af s1 2;have q3:=af s1 3;have f0:=frozen_of_row _ w.heap.size 0 _ _ s1;have f1:=frozen_of_row _ w.heap.size 1 _ _ s1;have f2:=frozen_of_row _ w.heap.size 2 _ _ s1;have f3:=frozen_of_row _ w.heap.size 3 _ _ s1;clear s1 hq hp;go_wp2_with fail
  (try simp only[Exit.inBlock,Exit.then])
  change bodyPost _ _ _ _ _ (d9 w1 w.heap.size (.bool m) (.slice a N d) (.bool false) (.slice a' N' d'));refine bodyPost_ret (results_cell_row rfl _ _ w.heap.size _ _ (0,0) _ rfl hP.row Tryz.underlying78 rfl (by kernel_rfl)) rfl ?_;exact⟨_,rfl,hZ.out,hBF.out⟩
 ·have hd:decide ((i:Int)<(qs.length:Int))=false:=decide_eq_false (by omega);have hd':decide (i<qs.length)=false:=decide_eq_false (by omega);have hp:=Fi (show (0:Rat)=qs.getD i 0 by simp[FF,GM (Nat.le_of_not_lt hin)]);go_enter Tryz.func138,Tryz.ntmps138;go_upto_region 1 with fail
  clear hl1 hin;generalize w.alloc (.cells #[.bool false,.slice none 0 0,.bool false,.slice none 0 0] 78)=w1 at *
  go_wp2_with fail
  refine (DQ w1).mono ?_;rintro e w2 ⟨v2,rfl,hv2,hb2⟩;obtain⟨m,a,N,d,a',N',d',rfl⟩:=hv2.forms;rw[hp.out] at hv2;have s2:=(hb2.block _ (ai s1)).trans s1;have M2:=M1.out.trans (hb2.mono M1.out.size);have hP:=bg (u0:=.bool m) (u1:=.slice a N d) (u2:=.bool false) (u3:=.slice a' N' d') s2;have hZ:=Fi (dr.puts hv2 hP s2 bL);have hBF:=Fi (M2.trans (hP.below w.heap.size (Fq _)));have q0:=af s2 0;have q1:=af s2 1;have q2:=af s2 2;have q3:=af s2 3;have f0:=frozen_of_row _ w.heap.size 0 _ _ s2;have f1:=frozen_of_row _ w.heap.size 1 _ _ s2;have f2:=frozen_of_row _ w.heap.size 2 _ _ s2;have f3:=frozen_of_row _ w.heap.size 3 _ _ s2;clear s1 s2 hv2 hp M2 hb2;go_wp2_with fail
  (try simp only[Exit.inBlock,Exit.then])
  change bodyPost _ _ _ _ _ (d9 w2 w.heap.size (.bool m) (.slice a N d) (.bool false) (.slice a' N' d'));refine bodyPost_ret (results_cell_row rfl _ _ w.heap.size _ _ (0,0) _ rfl hP.row Tryz.underlying78 rfl (by kernel_rfl)) rfl ?_;exact⟨_,rfl,hZ.out,hBF.out⟩
theorem kX {l:List Rat}{i:Nat} (h:l.length≤i):l.getD i 0=0:=by
 rw[FF,GM h];rfl
def fX (a b:List Rat):List Rat:=(List.range (max a.length b.length)).map fun i=>a.getD i 0+b.getD i 0
theorem eU (a b:List Rat):(fX a b).length=max a.length b.length:=by simp[fX]
theorem zr (a b:List Rat) {i:Nat} (h:i<max a.length b.length):(fX a b).take (i+1)=(fX a b).take i++[a.getD i 0+b.getD i 0]:=by
 have hl:i<(fX a b).length:=by rw[eU];exact h
 rw[show (fX a b).take (i+1)=(fX a b).take i++[(fX a b)[i]] from (FD hl).symm];simp[fX]
theorem xu {l:List Rat}{n:Nat} (h:∀ q∈l,Sz n (rt q)) (hn:1≤n) (i:Nat):Sz n (rt (l.getD i 0)):=by
 by_cases hi:i<l.length
 ·exact h _ (kW hi)
 ·rw[kX (by omega),dN];exact Sz.zero hn
theorem EA (va vb:Value) (a b:List Rat) (n m:Nat) (w:World) (ha:jc w va a) (hb:jc w vb b) (hs:∀ q∈a,Sz n (rt q)) (ht:∀ q∈b,Sz m (rt q)) (h1:1≤n) (h2:1≤m) (hnm:n+m+1≤390000) (hla:a.length<100000) (hlb:b.length<100000) :
  Calls Tryz.prog 87 #[va,vb] w fun e w'=>∃ v',e=.returned v'∧d7 w' w.heap.size v' (fX a b)∧Below w.heap.size w w':=by
 obtain⟨pa,ca,rfl,-,-⟩:=id ha.form;obtain⟨pb,cb,rfl,-,-⟩:=id hb.form;have HA:=Fi ha;have HB:=Fi hb;have HS:=Fi (fun i=>xu hs h1 i);have HT:=Fi (fun i=>xu ht h2 i);have HN:=Fi hnm;clear ha hb hs ht h1 h2 hnm;go_enter Tryz.func87,Tryz.ntmps87;go_wp2;go_loopw [5,6] (fun s5 s6 wr=>∃ i:Nat,s6=.int .i64 i∧i≤max a.length b.length∧d7 wr w.heap.size s5 ((fX a b).take i)∧Below w.heap.size w wr) (fun _ s6 _=>max a.length b.length-(intOf s6).toNat)
 case atStart=>exact⟨0,rfl,Fz _,d7.nil _ _,Below.refl _ _⟩
 case round =>
  obtain⟨i,rfl,hin,hown,hbr⟩:=hrel;by_cases hi:i<max a.length b.length
  ·have HTK:=Fi (zr a b hi);have hi2:i<1000000:=by omega
   have hxa:=Fi (xg _ a i wr (HA.out.below hbr) hi2);have hxb:=Fi (fun w2 (h:Below w.heap.size w w2)=>xg _ b i w2 (HB.out.below h) hi2);have HX:=Fi (HS.out i);have HY:=Fi (HT.out i);have hor:i<a.length∨i<b.length:=by omega
   generalize a.getD i 0=x at hxa HX HTK;generalize b.getD i 0=y at hxb HY HTK;rcases GD i a.length with h | h
   ·have hd:decide ((i:Int)<(a.length:Int))=true:=decide_eq_true (by omega);go_wp2_with fail
    refine hxa.out.mono ?_;rintro e w2 ⟨v2,rfl,hv2,hb2⟩;obtain⟨xm,xa,xN,xd,xb,xM,xe,rfl⟩:=hv2.forms;have hB2:=hbr.trans (hb2.mono hbr.size);have hw2:=hown.below hb2;clear hb2 hbr hown;go_wp2_with fail
    refine (hxb.out w2 hB2).mono ?_;rintro e w3 ⟨v3,rfl,hv3,hb3⟩;obtain⟨ym,ya,yN,yd,yb,yM,ye,rfl⟩:=hv3.forms;have hv2:=hv2.below hb3;have hB3:=hB2.trans (hb3.mono hB2.size);have hw3:=hw2.below hb3;clear hb3 hB2 hw2;go_wp2_with fail
    refine (oz _ _ x y n m w3 hv2 hv3 HX.out HY.out HN.out).mono ?_;rintro e w4 ⟨v4,rfl,hv4,hb4⟩;obtain⟨zm,za,zN,zd,zb,zM,ze,rfl⟩:=hv4.forms;have hB4:=hB3.trans (hb4.mono hB3.size);have hw4:=hw3.below hb4;have m1:=aq w4 (.cells #[.bool zm,.slice za zN zd,.bool false,.slice zb zM ze] 78);have hcx:=heap_alloc_new w4 (.cells #[.bool zm,.slice za zN zd,.bool false,.slice zb zM ze] 78);have hu5:=hv4.below m1;have hw5:=hw4.below m1;have hB5:=hB4.trans (m1.mono hB4.size);have hbs:=hB5.size;have hzl:((fX a b).take i).length<1000000000:=by rw[FM,eU];omega
    clear hb4 hB3 hw3 hv2 hv3 hv4 hB4 hw4 m1 h;go_wp2_with (at_builtin;refine fN 51 Tryz.underlying51 rfl (.tmp 19) (.tmp 27) rfl w.heap.size _ _ zm za zN zd zb zM ze _ rfl hw5 _ rfl hcx hu5 hzl hbs ?_)
    intro v' w6 hap;have hB6:=hap.below hw5 hB5 (Fq _) hbs;have hw6:=hap.own;rw[←HTK.out] at hw6;clear hap hw5 hu5 hcx hB5 hbs hzl;go_wp2;go_roundw;case rel=>exact⟨i+1,by go_num,by omega,hw6,hB6⟩
    case measure=>first | (simp[intOf];done) | (simp[intOf];omega)
   ·have hd:decide ((i:Int)<(a.length:Int))=false:=decide_eq_false (by omega);have hd':decide (i<a.length)=false:=decide_eq_false (by omega);have he:decide ((i:Int)<(b.length:Int))=true:=decide_eq_true (by omega);go_wp2_with fail
    refine hxa.out.mono ?_;rintro e w2 ⟨v2,rfl,hv2,hb2⟩;obtain⟨xm,xa,xN,xd,xb,xM,xe,rfl⟩:=hv2.forms;have hB2:=hbr.trans (hb2.mono hbr.size);have hw2:=hown.below hb2;clear hb2 hbr hown;go_wp2_with fail
    refine (hxb.out w2 hB2).mono ?_;rintro e w3 ⟨v3,rfl,hv3,hb3⟩;obtain⟨ym,ya,yN,yd,yb,yM,ye,rfl⟩:=hv3.forms;have hv2:=hv2.below hb3;have hB3:=hB2.trans (hb3.mono hB2.size);have hw3:=hw2.below hb3;clear hb3 hB2 hw2;go_wp2_with fail
    refine (oz _ _ x y n m w3 hv2 hv3 HX.out HY.out HN.out).mono ?_;rintro e w4 ⟨v4,rfl,hv4,hb4⟩;obtain⟨zm,za,zN,zd,zb,zM,ze,rfl⟩:=hv4.forms;have hB4:=hB3.trans (hb4.mono hB3.size);have hw4:=hw3.below hb4;have m1:=aq w4 (.cells #[.bool zm,.slice za zN zd,.bool false,.slice zb zM ze] 78);have hcx:=heap_alloc_new w4 (.cells #[.bool zm,.slice za zN zd,.bool false,.slice zb zM ze] 78);have hu5:=hv4.below m1;have hw5:=hw4.below m1;have hB5:=hB4.trans (m1.mono hB4.size);have hbs:=hB5.size;have hzl:((fX a b).take i).length<1000000000:=by rw[FM,eU];omega
    clear hb4 hB3 hw3 hv2 hv3 hv4 hB4 hw4 m1 h;go_wp2_with (at_builtin;refine fN 51 Tryz.underlying51 rfl (.tmp 19) (.tmp 27) rfl w.heap.size _ _ zm za zN zd zb zM ze _ rfl hw5 _ rfl hcx hu5 hzl hbs ?_)
    intro v' w6 hap;have hB6:=hap.below hw5 hB5 (Fq _) hbs;have hw6:=hap.own;rw[←HTK.out] at hw6;clear hap hw5 hu5 hcx hB5 hbs hzl;go_wp2;go_roundw;case rel=>exact⟨i+1,by go_num,by omega,hw6,hB6⟩
    case measure=>first | (simp[intOf];done) | (simp[intOf];omega)
  ·have hin':i=max a.length b.length:=by omega
   rw[Fx (by rw[eU];omega)] at hown;have hd:decide ((i:Int)<(a.length:Int))=false:=decide_eq_false (by omega);have hd':decide (i<a.length)=false:=decide_eq_false (by omega);have he:decide ((i:Int)<(b.length:Int))=false:=decide_eq_false (by omega);have he':decide (i<b.length)=false:=decide_eq_false (by omega);clear hin' hin hi;go_wp2;refine bodyPost_ret (v:=_) (by simp[results,Tryz.results87,go_sem]) rfl ⟨_,rfl,hown,hbr⟩
def ck (a b:List Rat):List Rat:=dy a b a.length
theorem dz (a b:List Rat):(ck a b).length=a.length+b.length-1:=iq a b _
theorem dW {a b:List ByteArray}{qa qb:List Rat} (ha:kb a qa) (hb:kb b qb) (hb0:0<qb.length) :
  dB a b=(ck qa qb).map tq∧∃ D,0<D∧D≤2 ^ 168∧∀ q∈ck qa qb,Ov D (2 ^ 198) q∧okQ q:=by
 obtain⟨D,hD,hDl,oa⟩:=ha.ov;obtain⟨E,hE,hEl,ob⟩:=hb.ov;have hDE:D*E≤2 ^ 168:=AW (x:=D) (y:=E) (a:=84) (b:=84) (c:=168) hDl hEl rfl;have hll:qa.length*qb.length≤7*7:=Gs ha.len hb.len
 have hs:(qa.length*qb.length+1)*(2 ^ 96*2 ^ 96)≤2 ^ 198:=by
  have:=Fy (2 ^ 96*2 ^ 96) (show qa.length*qb.length+1≤2 ^ 6 by omega);exact FB this (by decide)
 have hDE2:=n9 hDE (by decide);obtain⟨h1,h2⟩:=wZ hD hE (fun q hq=>⟨oa q hq,ha.ok q hq⟩) (fun q hq=>⟨ob q hq,hb.ok q hq⟩) hb0 hDE2 (n9 hs (by decide)) qa.length (Fq _);have h3:∀ q∈dy qa qb qa.length,Ov (D*E) (2 ^ 198) q:=fun q hq=>(h2 q hq).mono (FB (Fy _ (FS _)) hs);refine⟨?_,D*E,GJ hD hE,hDE,fun q hq=>⟨h3 q hq,(h3 q hq).ok (GJ hD hE) hDE2 (n9 (Fq _) (by decide))⟩⟩;unfold dB;rw[ha.e,hb.e,FJ,h1];rfl
theorem lI:∀ l:List Rat,evQ ⟨0,0⟩ l=CQ.real (l.getD 0 0)
 | []=>rfl
 | q :: l=>by
  rw[gP];generalize evQ ⟨0,0⟩ l=e;obtain⟨x,y⟩:=e;simp only[CQ.add,CQ.mul,CQ.real,CQ.mk.injEq,List.getD_cons_zero];constructor<;>grind
theorem ow {a b:List Rat} (hb:0<b.length):(ck a b).getD 0 0=a.getD 0 0*b.getD 0 0:=by
 have h:=wt ⟨0,0⟩ a b hb a.length (Fq _);rw[FQ,lI,lI,lI] at h;have h2:=congrArg CQ.re h;simp only[CQ.mul,CQ.real] at h2;unfold ck;rw[h2];grind
theorem nz:∀ l m:List Rat,(ku l m).length=l.length
 | [],_=>rfl
 | a :: l,[]=>by rw[ku,FK,nz l []];rfl
 | a :: l,b :: m=>by rw[ku,FK,nz l m];rfl
theorem sf:∀ (l m:List Rat),m.length≤l.length→∀ i,(ku l m).getD i 0=l.getD i 0+m.getD i 0
 | [],[],_,i=>by simp[ku];grind
 | [],_ :: _,h,_=>by simp at h
 | a :: l,[],_,i=>by rw[mW];simp;grind
 | a :: l,b :: m,_,0=>rfl
 | a :: l,b :: m,h,i+1=>by
  rw[ku];simp only[List.getD_cons_succ];exact sf l m (by simpa using h) i
theorem qq {l m:List Rat} (hl:l.length=m.length) (h:∀ i,l.getD i 0=m.getD i 0):l=m:=by
 refine IN hl fun i h1 h2=>?_;have:=h i;rw[FF,FF,FC h1,FC h2] at this;exact this
theorem oO (a b:List Rat) (i:Nat):(fX a b).getD i 0=a.getD i 0+b.getD i 0:=by
 by_cases h:i<max a.length b.length
 ·unfold fX;rw[FF,Hs,List.getElem?_range h];rfl
 ·rw[kX (by rw[eU];omega),kX (l:=a) (by omega),kX (l:=b) (by omega)];grind
theorem sh {l m:List Rat} (h:m.length≤l.length):ku l m=fX l m :=
 qq (by rw[nz,eU];omega) fun i=>by rw[sf l m h,oO]
theorem zq (l m:List Rat):fX l m=fX m l :=
 qq (by rw[eU,eU];omega) fun i=>by rw[oO,oO];grind
theorem B9 {a b:List ByteArray}{qa qb:List Rat}{D E:Nat} (ea:a=qa.map tq) (eb:b=qb.map tq) (hD:0<D) (hE:0<E) (hDl:D≤2 ^ 168) (hEl:E≤2 ^ 168) (oa:∀ q∈qa,Ov D (2 ^ 198) q∧okQ q) (ob:∀ q∈qb,Ov E (2 ^ 198) q∧okQ q) :
  gF a b=(fX qa qb).map tq∧∀ q∈fX qa qb,okQ q:=by
 unfold gF;rw[ea,eb,FJ,FJ];by_cases h:qa.length<qb.length
 ·rw[if_pos h];have hok:∀ x∈qb,∀ y∈qa,okQ (x+y):=fun x hx y hy=>Bd (ob x hx).1 (oa y hy).1 hE hD hEl hDl;rw[zq qa qb,←sh (by omega)];exact⟨vN qb qa (by omega) (fun q hq=>(ob q hq).2) (fun q hq=>(oa q hq).2) hok,uw qb qa (fun q hq=>(ob q hq).2) hok⟩
 ·rw[if_neg h];have hok:∀ x∈qa,∀ y∈qb,okQ (x+y):=fun x hx y hy=>Bd (oa x hx).1 (ob y hy).1 hD hE hDl hEl;rw[←sh (by omega)];exact⟨vN qa qb (by omega) (fun q hq=>(oa q hq).2) (fun q hq=>(ob q hq).2) hok,uw qa qb (fun q hq=>(oa q hq).2) hok⟩
def iX (l1 l2:List ByteArray):(List ByteArray×List ByteArray)×Int:=if (cE l1&&cE l2)=true then ((l1,l2),0) else (([],[]),8)
def mN (l1 l2:List ByteArray):(List ByteArray×List ByteArray)×Int:=if 7<l1.length∨7<l2.length then (([],[]),3) else iX l1 l2
theorem uA {l1 l2:List ByteArray} (h1:1≤l1.length) (h2:l1.length≤7) (h3:1≤l2.length) (h4:l2.length≤7) (hh:jo l2=some [49]):aC l1 l2=(cE l1&&cE l2):=by
 unfold aC fA cE;rw[decide_eq_true h1,decide_eq_true h2,decide_eq_true h3,decide_eq_true h4,decide_eq_true hh,Bool.and_true];simp
theorem ts {l1 l2:List ByteArray} (h1:1≤l1.length) (h3:1≤l2.length) (hh:jo l2=some [49]):A1 (.ok (l1,l2))=mN l1 l2:=by
 show (if 7<l1.length∨7<l2.length then (([],[]),3) else if aC l1 l2=false then (([],[]),8) else ((l1,l2),0):(List ByteArray×List ByteArray)×Int)=_
 unfold mN iX;by_cases h:7<l1.length∨7<l2.length
 ·rw[if_pos h,if_pos h]
 ·rw[if_neg h,if_neg h,uA h1 (by omega) h3 (by omega) hh];generalize (cE l1&&cE l2)=b
  cases b<;>rfl
theorem sY {l:List Rat} (h:0<l.length) (h1:l.getD 0 0=1):jo (l.map tq)=some [49]:=by
 match l,h,h1 with
 | q :: l,_,h1 =>
  have e:q=1:=h1
  subst e
  unfold jo
  rw[GR,oS]
  rfl
theorem vG {fa fb ga gb:List ByteArray} (c1:aC fa fb=true) (c2:aC ga gb=true):d_ fa fb ga gb=mN (dB fa ga) (dB fb gb):=by
 unfold d_ a6;rw[if_neg (by rw[c1];decide),if_neg (by rw[c2];decide)];obtain⟨qfa,qfb,p1,p2,l1,l2⟩:=fD c1;obtain⟨qga,qgb,p3,p4,l3,l4⟩:=fD c2;obtain⟨b1,e1⟩:=kY c1 p2;obtain⟨b2,e2⟩:=kY c2 p4;have h1:=(dW p1 p3 l3).1;have h2:=(dW p2 p4 l4).1;refine ts ?_ ?_ ?_
 ·rw[h1,FJ,dz];omega
 ·rw[h2,FJ,dz];omega
 ·rw[h2];refine sY (by rw[dz];omega) ?_;rw[ow l4,e1,e2]
  show (1:Rat)*1=1
  grind
theorem rG {fa fb ga gb:List ByteArray} (c1:aC fa fb=true) (c2:aC ga gb=true):cZ fa fb ga gb=mN (gF (dB fa gb) (dB ga fb)) (dB fb gb):=by
 unfold cZ a6;rw[if_neg (by rw[c1];decide),if_neg (by rw[c2];decide)];obtain⟨qfa,qfb,p1,p2,l1,l2⟩:=fD c1;obtain⟨qga,qgb,p3,p4,l3,l4⟩:=fD c2;obtain⟨b1,e1⟩:=kY c1 p2;obtain⟨b2,e2⟩:=kY c2 p4;have h1:=(dW p1 p4 l4).1;have h2:=(dW p2 p4 l4).1;refine ts ?_ ?_ ?_
 ·rw[ly,h1,FJ,dz];omega
 ·rw[h2,FJ,dz];omega
 ·rw[h2];refine sY (by rw[dz];omega) ?_;rw[ow l4,e1,e2]
  show (1:Rat)*1=1
  grind
theorem DY {a b:Rat}{k l:Nat} (ha:Sz k (rt a)) (hb:Sz l (rt b)):Sz (k+l+1) (rt (a+b)):=by rw[←gC];exact ha.plus hb
theorem Db {l:List ByteArray}{qs:List Rat} (h:kb l qs):∀ q∈qs,Sz 29 (rt q):=fun q hq=>by
 obtain⟨D,hD,hDl,oa⟩:=h.ov;obtain⟨b1,b2⟩:=(oa q hq).bound hD;exact⟨FO b1 (by decide),q.den_pos,FO (FB b2 hDl) (by decide)⟩
theorem l9 {a b ga gb:List ByteArray}{r:Except Int (List ByteArray×List ByteArray)} (c:aC a b=false):a6 a b ga gb r=(([],[]),30):=by
 unfold a6;rw[if_pos c]
theorem kS {a b ga gb:List ByteArray}{r:Except Int (List ByteArray×List ByteArray)} (c:aC a b=true) (c2:aC ga gb=false):a6 a b ga gb r=(([],[]),30):=by
 unfold a6;rw[if_neg (by rw[c];decide),if_pos c2]
end Go.Proofs.YtbnkpcfjechfiaaGreatDoor
