/- L -/
import Derived.Test.YtmakbmhlemhgeaaGreatDoorQLP13
import Derived.Test.YtmakbmhlemhgeaaGreatDoorQTR1
import Derived.Test.YtmakbmhlemhgeaaGreatDoorQTR2
import Derived.Test.YtmakbmhlemhgeaaGreatDoorQB
set_option linter.all false
set_option maxRecDepth 100000
set_option maxHeartbeats 8000000
namespace Go.Proofs.YtmakbmhlemhgeaaGreatDoor
open Go.RowKit Dg
def bA (x:List Int):Int:=if x.any du then 55 else 0
def aZ (taps x:List Int):List Int:=(List.range x.length).map fun t=>inZ taps x t taps.length
theorem jC:(Tryz.prog.info? 46).map (fun i=>(i.zero,i.size,i.bytes))=some (some (two 0),2,16):=by kernel_rfl
theorem eh (taps x:List Int):(aZ taps x).length=x.length:=by simp[aZ]
theorem fD (taps x:List Int) {t:Nat} (h:t<x.length):(aZ taps x).take (t+1)=(aZ taps x).take t++[inZ taps x t taps.length]:=by
 have hl:t<(aZ taps x).length:=by rw[eh];exact h
 have e:(aZ taps x)[t]=inZ taps x t taps.length:=by
  have:(aZ taps x)[t]?=some (inZ taps x t taps.length):=by unfold aZ;rw[sD,tj h];rfl
  rw[ry hl] at this;exact Option.some.inj this
 rw[<-rL hl,e]
theorem gt (a x:List Int) (t:Nat):∀ k,t+1<=k->inZ a x t k=inZ a x t (t+1)
 | 0,h=>by omega
 | k+1,h=>by
  by_cases e:k=t
  ·rw[e]
  ·rw[inZ,if_neg (by omega),gt a x t k (by omega)]
theorem iU {x:List Int} (h:¬x.any du=true) (i:Nat):-8388608<=x.getD i 0/\x.getD i 0<=8388608:=by
 rw[rs];by_cases hi:i<x.length
 ·rw[ry hi];have h1:¬du x[i]=true:=fun e=>h (List.any_eq_true.2 ⟨_,rU hi,e⟩);unfold du at h1;simp at h1;exact h1
 ·rw[sb (by omega)];exact⟨by decide,by decide⟩
theorem lE {a b:Int} (h1:a.natAbs<=3) (h2:-8388608<=b/\b<=8388608):-25165824<=a*b/\a*b<=25165824:=by
 have h3:=sg h1 (show b.natAbs<=8388608 by omega);rw[<-tf] at h3;omega
theorem dP {a x:List Int}{t:Nat} (h1:∀ k,(a.getD k 0).natAbs<=3) (h2:∀ k,-8388608<=x.getD k 0/\x.getD k 0<=8388608):∀ k:Nat,-(25165824*(k:Int))<=inZ a x t k/\inZ a x t k<=25165824*(k:Int)
 | 0=>by unfold inZ;omega
 | k+1=>by
  have ih:=dP h1 h2 (t:=t) k;have hm:=lE (h1 k) (h2 (t-k));rw[inZ]
  split<;>omega
theorem kX (vt vx:Value) (taps x:List Int) (w:World) (ht:d9 w vt taps) (hx:IsZ w vx x) (h1:1<=taps.length) (h16:taps.length<=16) (h3:∀ z∈taps,z.natAbs<=3) (hxl:x.length<=4096) :
  Calls Tryz.prog 11 #[.agg #[vt,.int .i64 0],vx] w fun e w'=>∃ u,e=.returned (.tuple #[u,.int .i64 (bA x)])/\(bA x=0->d9 w' u (aZ taps x))/\(bA x≠0->u=.slice none 0 0)/\Below w.heap.size w w':=by
 obtain⟨p,c,rfl,-⟩:=id ht.form;obtain⟨q,d,rfl,-⟩:=id hx.form;have m1:=ae w (.cells #[.slice p taps.length c,.int .i64 0] 27);have k0:(w.alloc (.cells #[.slice p taps.length c,.int .i64 0] 27)).cell? ⟨w.heap.size,0,none⟩=some (.slice p taps.length c):=ah w _ _ 0 _ rfl;have k1:(w.alloc (.cells #[.slice p taps.length c,.int .i64 0] 27)).cell? ⟨w.heap.size,1,none⟩=some (.int .i64 0):=ah w _ _ 1 _ rfl;have hsz:=af w (.cells #[.slice p taps.length c,.int .i64 0] 27);go_enter Tryz.func11,Tryz.ntmps11;go_upto_region 1 with fail
 generalize w.alloc (.cells #[.slice p taps.length c,.int .i64 0] 27)=w1 at *
 have HT:=ri (ht.below m1);have HX:=ri (hx.below m1);have HB:=ri m1;have KL:w.heap.size<w1.heap.size:=by omega
 have HM:=ri (jm _ taps w1 (ht.below m1) h1 h16 h3);have H3:=ri h3;have HL:=ri (And.intro h1 (And.intro h16 hxl));clear ht hx m1 hsz h3 h1 h16 hxl;go_wp2_with fail
 refine HM.out.mono ?_;rintro e w2 ⟨rfl,hb⟩;have HT:=ri (HT.out.below hb);have HX:=ri (HX.out.below hb);have HB:=ri (HB.out.trans (hb.mono HB.out.size));have k0:=ac hb KL k0;have k1:=ac hb KL k1;have KL:=rA KL hb.size;clear hb HM;by_cases hf:x.any du=true
 ·have HC:=ri (ew _ x w2 HX.out HL.out.2.2);rw[if_pos hf] at HC;have HF:=ri hf;clear hf;go_wp2_with fail
  refine HC.out.mono ?_;rintro e w3 ⟨rfl,rfl⟩;go_wp2;refine t8 (v:=.tuple #[.slice none 0 0,.int .i64 55]) (by simp[results,Tryz.results11,go_sem]) rfl ⟨_,by unfold bA;rw[if_pos HF.out],fun h=>?_,fun _=>rfl,HB.out⟩;unfold bA at h;rw[if_pos HF.out] at h
  cases h
 ·have HC:=ri (ew _ x w2 HX.out HL.out.2.2);rw[if_neg hf] at HC;have HF:=ri hf;clear hf;go_wp2_with fail
  refine HC.out.mono ?_;rintro e w3 ⟨rfl,rfl⟩;go_wp2;go_loopw [8,28] (fun s8 s28 wr=>∃ t:Nat,s28=.int .i64 t/\t<=x.length/\cH 46 wr w3.heap.size s8 ((aZ taps x).take t)/\Below w3.heap.size w3 wr) (fun _ s28 _=>x.length-(intOf s28).toNat)
  case atStart=>exact⟨0,rfl,rH _,cH.nil _ _ _,t_ _ _⟩
  case round =>
   obtain⟨t,rfl,htl,hown,hbr⟩:=hrel;have k0:=ac hbr KL k0;have k1:=ac hbr KL k1;have hT:=HT.out.below hbr;have hX:=HX.out.below hbr;by_cases hlt:t<x.length
   ·obtain⟨bt,ot,rfl,hbt,hct⟩:=hT.all (by have:=HL.out.1;omega);obtain⟨bx,ox,rfl,hbx,hcx⟩:=hX.all (by omega);have HCT:=ri hct;have HCX:=ri hcx;have HOWN:=ri hown;have HBR:=ri hbr;have k1o:=ri k1;clear hct hcx hT hX hown hbr;rename World=>wo;go_upto_region 13 with fail
    go_loopw [10,11,34] (fun s10 s11 s34 wr=>∃ k:Nat,s34=.int .i64 k/\k<=taps.length/\Hid (k<=t+1)/\s10=.int .i64 (inZ taps x t k)/\s11=.int .i64 (inZ taps x t k)/\Below wo.heap.size wo wr) (fun _ _ s34 _=>taps.length-(intOf s34).toNat)
    case atStart=>exact⟨0,rfl,rH _,rH _,rfl,rfl,t_ _ _⟩
    case round =>
     obtain⟨k,rfl,hkl,hkt,rfl,rfl,hbk⟩:=hrel;have k0:=ac hbk (rA KL HBR.out.size) k0;have k1:=ac hbk (rA KL HBR.out.size) k1;by_cases hk:k<taps.length
     ·by_cases hkt2:k<=t
      ·obtain⟨e0,e1⟩:=HCT.out k hk;have e0:=ac hbk hbt e0;have e1:=ac hbk hbt e1;have e2:=ac hbk hbx (HCX.out (t-k) (by omega));obtain⟨z,hz⟩:∃ z,z=taps.getD k 0:=⟨_,rfl⟩;obtain⟨j,hj⟩:∃ j,j=t-k:=⟨_,rfl⟩;obtain⟨y,hy⟩:∃ y,y=x.getD j 0:=⟨_,rfl⟩;rw[<-hz] at e0 e1;rw[<-hj,<-hy] at e2;have hjl:j<x.length:=by omega
       have hx64:=HL.out.2.2;have hk64:=HL.out.2.1;have hjt:(t:Int)-(k:Int)=(j:Int):=by omega
       have hs:=dP (a:=taps) (x:=x) (t:=t) (fun i=>df (P:=fun n=>n.natAbs<=3) (by decide) H3.out i) (iU HF.out) k;have hm:-25165824<=z*y/\z*y<=25165824:=by rw[hz,hy];exact lE (df (P:=fun n=>n.natAbs<=3) (by decide) H3.out k) (iU HF.out j)
       have HS:=ri (show inZ taps x t (k+1)=inZ taps x t k+z*y by rw[inZ,if_pos hkt2,hz,hy,hj]);generalize inZ taps x t k=s at *
       clear hz hy hj;go_upto_region 16 with fail
       have m4:=ae wr (.cells #[.int .i64 z,.int .i64 z] 24);have g0:(wr.alloc (.cells #[.int .i64 z,.int .i64 z] 24)).cell? ⟨wr.heap.size,0,none⟩=some (.int .i64 z):=ah wr _ _ 0 _ rfl;have g1:(wr.alloc (.cells #[.int .i64 z,.int .i64 z] 24)).cell? ⟨wr.heap.size,1,none⟩=some (.int .i64 z):=ah wr _ _ 1 _ rfl;have z4:=af wr (.cells #[.int .i64 z,.int .i64 z] 24);generalize wr.alloc (.cells #[.int .i64 z,.int .i64 z] 24)=w4 at *
       have g2:=ac m4 (rA hbx hbk.size) e2;have HB4:=ri (hbk.trans (m4.mono hbk.size));have hlt0:wr.heap.size<w4.heap.size:=by omega
       have hlt1:bx<w4.heap.size:=by have:=hbk.size;omega
       clear e0 e1 e2 m4 z4 hbk;have m5:Below w4.heap.size w4 w4.drew:=(t_ _ _).drew;refine aq (fun w'=>∃ x:bG w4.heap.size w4.drew,w'=x.w) (fun _=>false) (by kernel_rfl) (by kernel_rfl) ⟨⟨_,t_ _ _⟩,rfl⟩ ?_;have f0:=fun x:bG w4.heap.size w4.drew=>ac (m5.trans x.h) hlt0 g0;have f1:=fun x:bG w4.heap.size w4.drew=>ac (m5.trans x.h) hlt0 g1;have f2:=fun x:bG w4.heap.size w4.drew=>ac (m5.trans x.h) hlt1 g2;have HB5:=ri (HB4.out.trans (m5.mono HB4.out.size));clear g0 g1 g2 m5 k0 k1;generalize w4.drew=wd at *
       refine aj 20 0 _ _ _ (by kernel_rfl) ?_;simp only[rC,rG,rB,rF];repeat (go_big_quiet_step (fail))
       refine wpQuiet_nil ?_;refine aP ?_;clear f0 f1 f2;go_wp2;go_roundw;case rel=>exact⟨k+1,by go_num,by omega,by unfold Hid;omega,by rw[HS.out],by rw[HS.out],HB5.out⟩
       case measure=>simp[intOf];omega
      ·have hkt3:t<k:=by omega
       obtain⟨e0,e1⟩:=HCT.out k hk;have e0:=ac hbk hbt e0;have e1:=ac hbk hbt e1;obtain⟨z,hz⟩:∃ z,z=taps.getD k 0:=⟨_,rfl⟩;rw[<-hz] at e0 e1;have hs:=dP (a:=taps) (x:=x) (t:=t) (fun i=>df (P:=fun n=>n.natAbs<=3) (by decide) H3.out i) (iU HF.out) k
       have HSE:=ri (show inZ taps x t k=inZ taps x t taps.length by
        have hk1:=hkt.out
        rw[gt taps x t k (by omega),gt taps x t taps.length (by omega)])
       generalize inZ taps x t k=s at *
       clear hz;go_upto_region 20 with fail
       have HB4:=ri (hbk.trans ((ae wr (.cells #[.int .i64 z,.int .i64 z] 24)).mono hbk.size));generalize wr.alloc (.cells #[.int .i64 z,.int .i64 z] 24)=w4 at *
       clear e0 e1 hbk k0 k1;have k1w:World.cell? w4 ⟨w.heap.size,1,none⟩=some (.int .i64 0):=ac HB4.out (rA KL HBR.out.size) k1o.out;have hown:=HOWN.out.below HB4.out;have hB3:Below w3.heap.size w3 w4:=HBR.out.trans ((HB4.out).mono HBR.out.size);have m5:Below w3.heap.size w4 w4.drew:=(t_ _ _).drew;have hown:=hown.below ((t_ w4.heap.size w4).drew);have hB3:=hB3.trans m5;refine aq (fun w'=>∃ x:bG w3.heap.size w4.drew,w'=x.w) (fun i=>i == 12||i == 13) (by kernel_rfl) (by kernel_rfl) ⟨⟨_,t_ _ _⟩,rfl⟩ ?_;have f1:=fun x:bG w3.heap.size w4.drew=>ac (m5.trans x.h) KL k1w;have hk64:=HL.out.2.1;have hx64:=HL.out.2.2;clear m5 k1w;generalize w4.drew=wd at *
       refine aj 12 0 _ _ _ (by kernel_rfl) ?_;simp only[rC,rG,rB,rF];repeat (go_big_quiet_step (fail))
       refine wpQuiet_nil ?_;refine ai rfl rfl (fun K hK=>?_);go_simp;refine hK _ _ ⟨⟨_,(t_ _ _).alloc hB3.size _⟩,rfl⟩ ?_;clear hK K;try simp only[Act.put,rm,rl,rk,rj,rr,rq]
       refine ai rfl rfl (fun K hK=>?_);refine gT rfl ?_;refine bO 42 46 Tryz.underlying42 jC rfl (.tmp 71) (.tmp 83) rfl w3.heap.size _ _ _ rfl hown rfl (by rw[rV];omega) hB3.size ?_;intro v6 w6 hown6 hg6 hb6;have hB6:=hb6 _ _ hB3 (rp _);refine⟨rfl,hK _ _ ⟨⟨_,hb6 _ _ (t_ _ _) (rp _)⟩,rfl⟩ ?_⟩;clear hK K;try simp only[Act.put,rm,rl,rk,rj,rr,rq]
       refine aj 1 14 _ _ _ (by kernel_rfl) ?_;simp only[rC,rG,rB,rF];repeat (go_big_quiet_step (fail))
       refine wpQuiet_nil ?_;refine aP ?_;have HOWN6:=ri hown6;have HB6:=ri hB6;clear hown6 hg6 hb6 hB6 hown hB3 f1;go_wp2;go_roundw;case rel=>exact⟨t+1,by go_num,by omega,by rw[fD taps x hlt,<-HSE.out];exact HOWN6.out,HB6.out⟩
       case measure=>simp[intOf];omega
     ·have hs:=dP (a:=taps) (x:=x) (t:=t) (fun i=>df (P:=fun n=>n.natAbs<=3) (by decide) H3.out i) (iU HF.out) k;have HSE:=ri (show inZ taps x t k=inZ taps x t taps.length by rw[show k=taps.length by omega]);generalize inZ taps x t k=s at *
      have hke:(k:Int)=taps.length:=by omega
      go_upto_region 20 with fail
      have HB4:=ri hbk;clear hbk k0 k1 hke;have k1w:World.cell? wr ⟨w.heap.size,1,none⟩=some (.int .i64 0):=ac HB4.out (rA KL HBR.out.size) k1o.out;have hown:=HOWN.out.below HB4.out;have hB3:Below w3.heap.size w3 wr:=HBR.out.trans ((HB4.out).mono HBR.out.size);have m5:Below w3.heap.size wr wr.drew:=(t_ _ _).drew;have hown:=hown.below ((t_ wr.heap.size wr).drew);have hB3:=hB3.trans m5;refine aq (fun w'=>∃ x:bG w3.heap.size wr.drew,w'=x.w) (fun i=>i == 12||i == 13) (by kernel_rfl) (by kernel_rfl) ⟨⟨_,t_ _ _⟩,rfl⟩ ?_;have f1:=fun x:bG w3.heap.size wr.drew=>ac (m5.trans x.h) KL k1w;have hk64:=HL.out.2.1;have hx64:=HL.out.2.2;clear m5 k1w;generalize wr.drew=wd at *
      refine aj 12 0 _ _ _ (by kernel_rfl) ?_;simp only[rC,rG,rB,rF];repeat (go_big_quiet_step (fail))
      refine wpQuiet_nil ?_;refine ai rfl rfl (fun K hK=>?_);go_simp;refine hK _ _ ⟨⟨_,(t_ _ _).alloc hB3.size _⟩,rfl⟩ ?_;clear hK K;try simp only[Act.put,rm,rl,rk,rj,rr,rq]
      refine ai rfl rfl (fun K hK=>?_);refine gT rfl ?_;refine bO 42 46 Tryz.underlying42 jC rfl (.tmp 71) (.tmp 83) rfl w3.heap.size _ _ _ rfl hown rfl (by rw[rV];omega) hB3.size ?_;intro v6 w6 hown6 hg6 hb6;have hB6:=hb6 _ _ hB3 (rp _);refine⟨rfl,hK _ _ ⟨⟨_,hb6 _ _ (t_ _ _) (rp _)⟩,rfl⟩ ?_⟩;clear hK K;try simp only[Act.put,rm,rl,rk,rj,rr,rq]
      refine aj 1 14 _ _ _ (by kernel_rfl) ?_;simp only[rC,rG,rB,rF];repeat (go_big_quiet_step (fail))
      refine wpQuiet_nil ?_;refine aP ?_;have HOWN6:=ri hown6;have HB6:=ri hB6;clear hown6 hg6 hb6 hB6 hown hB3 f1;go_wp2;go_roundw;case rel=>exact⟨t+1,by go_num,by omega,by rw[fD taps x hlt,<-HSE.out];exact HOWN6.out,HB6.out⟩
      case measure=>simp[intOf];omega
   ·have ht:t=x.length:=by omega
    have hX2:(aZ taps x).take t=aZ taps x:=by rw[ht];exact rz (by rw[eh];exact rp _)
    rw[hX2] at hown;have HOWN:=ri hown;have HBR:=ri hbr;clear hown hbr hX2 hT hX;subst ht;go_wp2;refine t8 (v:=.tuple #[u8,.int .i64 0]) (by simp[results,Tryz.results11,go_sem]) rfl ⟨_,by unfold bA;rw[if_neg HF.out],fun _=>HOWN.out.isZZ,fun h=>?_,HB.out.trans (HBR.out.mono HB.out.size)⟩;unfold bA at h;rw[if_neg HF.out] at h;exact absurd rfl h
end Go.Proofs.YtmakbmhlemhgeaaGreatDoor
