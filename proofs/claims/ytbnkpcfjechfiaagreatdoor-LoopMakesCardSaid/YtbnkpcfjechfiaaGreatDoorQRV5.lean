/- Lemmas of this claim. -/
import Derived.Test.YtbnkpcfjechfiaaGreatDoorQNC7
import Derived.Test.YtbnkpcfjechfiaaGreatDoorQLP2
import Derived.Test.YtbnkpcfjechfiaaGreatDoorQLD1
import Derived.Test.YtbnkpcfjechfiaaGreatDoorQLSc1
import Derived.Test.YtbnkpcfjechfiaaGreatDoorQLB5
set_option linter.all false
set_option maxRecDepth 100000
set_option maxHeartbeats 8000000
namespace Go.Proofs.YtbnkpcfjechfiaaGreatDoor
open Go.RowKit Dg
theorem kW (v:Value) (x:List ByteArray) (w:World) (hl:IsS w v x) (hlen:x.length<1000000000) :
  Calls Tryz.prog 54 #[v] w fun e w'=>e=.returned (.bool (b_ x))∧Below w.heap.size w w':=by
 obtain⟨p,c,rfl,hc1,hc2⟩:=hl.form;have HL:=E5 hl;clear hl;go_enter Tryz.func54,Tryz.ntmps54;go_wp2;go_loopw [3] (fun s3 wr=>∃ (i:Nat),s3=.int .i64 i∧i≤x.length∧Below w.heap.size w wr∧Hid (b_ (x.take i)=true)) (fun s3 _=>x.length-(intOf s3).toNat)
 case atStart=>exact⟨0,rfl,Fk _,Below.refl _ _,E5 rfl⟩
 case round =>
  obtain⟨i,rfl,hin,hbr,hall⟩:=hrel;by_cases hi:i<x.length
  ·obtain⟨b,o,rfl,hlt,hcell⟩:=IsS.get (HL.out.below hbr) (i:=i) hi;rw[eK hi] at hcell;have hst:=E5 (uu hi);have hbd:=E5 (fun h=>xG hi h);generalize aH x i=s at hcell hst hbd;go_wp2_with fail
   refine (rZ s wr).mono ?_;rintro e w2 ⟨rfl,hb2⟩;have hB2:=hbr.trans (hb2.mono hbr.size);obtain⟨ok,hok⟩:∃ ok,ok=bu s.data.toList:=⟨_,rfl⟩;rw[←hok] at hst hbd ⊢;clear hok hb2 hbr hcell
   cases ok with
   | false =>
    have hf:=hbd.out rfl;have HF:=E5 hf;clear hf;go_wp2;refine bodyPost_ret (v:=.bool false) (by simp[results,Tryz.results54,go_sem]) rfl ⟨by rw[HF.out],hB2⟩
   | true =>
    have hn:b_ (x.take (i+1))=true:=by rw[hst.out,hall.out];rfl
    have HN:=E5 hn;clear hn;go_wp2;go_roundw;case rel=>exact⟨i+1,by go_num,by omega,hB2,HN⟩
    case measure=>first | (simp[intOf];done) | (simp[intOf];omega)
  ·have hin':i=x.length:=by omega
   subst hin';clear hi;have hh:=hall.out;rw[FD] at hh;have HH:=E5 hh;clear hh;go_wp2;refine bodyPost_ret (v:=.bool true) (by simp[results,Tryz.results54,go_sem]) rfl ⟨by rw[HH.out],hbr⟩
theorem DV (n low high:Int) (w:World) :
  Calls Tryz.prog 56 #[.int .i64 n,.int .i64 low,.int .i64 high] w fun e w'=>e=.returned (.bool (decide (low≤n)&&decide (n≤high)))∧w'=w:=by
 by_cases h:low≤n
 ·have hd:decide (low≤n)=true:=by simp;omega
  go_enter Tryz.func56,Tryz.ntmps56;go_wp2;go_ret;exact⟨by simp[hd],rfl⟩
 ·have hd:decide (low≤n)=false:=by simp;omega
  go_enter Tryz.func56,Tryz.ntmps56;go_wp2;go_ret;exact⟨by simp[hd],rfl⟩
theorem rU (a b:List ByteArray):az a b=((decide ((1:Int)≤(a.length:Int))&&decide ((a.length:Int)≤7))&&(decide ((1:Int)≤(b.length:Int))&&decide ((b.length:Int)≤7))&&b_ a&&b_ b&&decide (jg b=some [49])):=by
 unfold az eR b_
 rw[show decide ((1:Int)≤(a.length:Int))=decide (1≤a.length) from decide_eq_decide.2 (by omega),show decide ((a.length:Int)≤7)=decide (a.length≤7) from decide_eq_decide.2 (by omega),
  show decide ((1:Int)≤(b.length:Int))=decide (1≤b.length) from decide_eq_decide.2 (by omega),show decide ((b.length:Int)≤7)=decide (b.length≤7) from decide_eq_decide.2 (by omega)]
 generalize decide (1≤a.length)=x1;generalize decide (a.length≤7)=x2;generalize decide (1≤b.length)=x3;generalize decide (b.length≤7)=x4;generalize a.all _=x5;generalize b.all _=x6;generalize decide (jg b=some [49])=x7
 cases x1<;>cases x2<;>cases x3<;>cases x4<;>cases x5<;>cases x6<;>cases x7<;>rfl
theorem nZ (v:Value) (a b:List ByteArray) (w:World) (hF:IsF w v a b) :
  Calls Tryz.prog 31 #[v] w fun e w'=>e=.returned (.int .i64 (ay a b))∧Below w.heap.size w w':=by
 obtain⟨p,c,q,d,rfl,hfa,hfb⟩:=id hF.ex;go_enter Tryz.func31,Tryz.ntmps31;go_upto_region 1 with fail
 have hl:=aT w (.cells #[.slice p a.length c,.slice q b.length d] 24);have HA:=hfa.below hl.below;have HB':=hfb.below hl.below;have HB:=hl.below;have s0:=hl.s0;have CHK:=E5 (rU a b);clear hF hfa hfb hl;generalize w.alloc (.cells #[.slice p a.length c,.slice q b.length d] 24)=w1 at *
 have q0:=aa s0 0;have q1:=aa s0 1;go_wp2_with fail
 refine (DV a.length 1 7 w1).mono ?_;rintro e w2 ⟨rfl,rfl⟩;rename World=>w2;have HI1:=E5 (show (decide ((1:Int)≤(a.length:Int))&&decide ((a.length:Int)≤7))=true→a.length<1000000000 from fun h=>by simp at h;omega);generalize (decide ((1:Int)≤(a.length:Int))&&decide ((a.length:Int)≤7))=i1 at *
 cases i1 with
 | false =>
  have he:ay a b=30:=by unfold ay;rw[CHK.out];simp
  have HE:=E5 he;clear he;go_wp2;refine bodyPost_ret (v:=.int .i64 30) (by simp[results,Tryz.results31,go_sem]) rfl ⟨by rw[HE.out],HB⟩
 | true =>
  go_wp2_with fail
  refine (DV b.length 1 7 w2).mono ?_;rintro e w3 ⟨rfl,rfl⟩;rename World=>w3;have HI2:=E5 (show (decide ((1:Int)≤(b.length:Int))&&decide ((b.length:Int)≤7))=true→0<b.length∧b.length<1000000000 from fun h=>by simp at h;omega);generalize (decide ((1:Int)≤(b.length:Int))&&decide ((b.length:Int)≤7))=i2 at *
  cases i2 with
  | false =>
   have he:ay a b=30:=by unfold ay;rw[CHK.out];simp
   have HE:=E5 he;clear he;go_wp2;refine bodyPost_ret (v:=.int .i64 30) (by simp[results,Tryz.results31,go_sem]) rfl ⟨by rw[HE.out],HB⟩
  | true =>
   obtain⟨hb0,hb7⟩:=HI2.out (by first | trivial | rfl);have ha7:=HI1.out (by first | trivial | rfl);go_wp2_with fail
   refine (kW _ a w3 HA ha7).mono ?_;rintro e w4 ⟨rfl,hb4⟩;replace HB':=HB'.below hb4;replace HB:=HB.trans (hb4.mono HB.size);replace s0:=(hb4.block _ (ag s0)).trans s0;clear q0 q1 hb4 HA;have q0:=aa s0 0;have q1:=aa s0 1;generalize b_ a=i3 at *
   cases i3 with
   | false =>
    have he:ay a b=30:=by unfold ay;rw[CHK.out];simp
    have HE:=E5 he;clear he;go_wp2;refine bodyPost_ret (v:=.int .i64 30) (by simp[results,Tryz.results31,go_sem]) rfl ⟨by rw[HE.out],HB⟩
   | true =>
    go_wp2_with fail
    refine (kW _ b w4 HB' hb7).mono ?_;rintro e w5 ⟨rfl,hb5⟩;replace HB':=HB'.below hb5;replace HB:=HB.trans (hb5.mono HB.size);replace s0:=(hb5.block _ (ag s0)).trans s0;clear q0 q1 hb5;have q0:=aa s0 0;have q1:=aa s0 1;generalize b_ b=i4 at *
    cases i4 with
    | false =>
     have he:ay a b=30:=by unfold ay;rw[CHK.out];simp
     have HE:=E5 he;clear he;go_wp2;refine bodyPost_ret (v:=.int .i64 30) (by simp[results,Tryz.results31,go_sem]) rfl ⟨by rw[HE.out],HB⟩
    | true =>
     obtain⟨bb,ob,rfl,hlt,hcell⟩:=HB'.get (i:=0) hb0;have hcell:w5.cell? ⟨bb,ob,none⟩=some (.string b[0]):=by simpa using hcell
     have HH:=E5 (qJ hb0);generalize b[0]=s at hcell HH;by_cases hs:s.data.toList=[49]
     ·have hd:(s.toList == [49])=true:=by rw[ar,hs];rfl
      have he:ay a b=0:=by unfold ay;rw[CHK.out,HH.out,decide_eq_true hs];rfl
      have HE:=E5 he;clear he hs;go_wp2;refine bodyPost_ret (v:=.int .i64 0) (by simp[results,Tryz.results31,go_sem]) rfl ⟨by rw[HE.out],HB⟩
     ·have hd:(s.toList == [49])=false:=by rw[ar];exact beq_eq_false_iff_ne.2 hs
      have he:ay a b=30:=by unfold ay;rw[CHK.out,HH.out,decide_eq_false hs];rfl
      have HE:=E5 he;clear he hs;go_wp2;refine bodyPost_ret (v:=.int .i64 30) (by simp[results,Tryz.results31,go_sem]) rfl ⟨by rw[HE.out],HB⟩
theorem du.lower {w:World}{base base':Nat}{v:Value}{qs:List Rat} (h:du w base v qs) (hb:base'≤base):du w base' v qs:=by
 obtain⟨es,h1,⟨hlen,h2⟩,h3⟩:=h.ex;refine⟨⟨es,h1,⟨hlen,?_⟩,h3⟩,h.nx⟩;rcases h2 with h2 | ⟨g,cap,cur,rfl,hg,r⟩
 ·exact Or.inl h2
 ·exact Or.inr ⟨g,cap,cur,rfl,Fj hb hg,r⟩
theorem wO (v:Value) (qs:List Rat) (i:Nat) (w:World) (hl:j8 w v qs) (hi:i<1000000) :
  Calls Tryz.prog 138 #[v,.int .i64 i] w fun e w'=>∃ v',e=.returned v'∧cV w' v' (qs.getD i 0)∧Below w.heap.size w w':=by
 obtain⟨p,c,rfl,hc1,hc2⟩:=hl.form;have h1:=aT w (.cells #[.bool false,.slice none 0 0,.bool false,.slice none 0 0] 78);have hl1:=hl.below h1.below;have M1:=E5 h1.below;have s1:=h1.s0;clear hl h1;by_cases hin:i<qs.length
 ·have hd:decide ((i:Int)<(qs.length:Int))=true:=decide_eq_true (by omega);obtain⟨b,o,rfl,hlt,m,a,N,d,a',N',d',hq,c0,c1,c2,c3⟩:=hl1.get hin;have hp:=E5 (show qs[i]=qs.getD i 0 by simp[FG,Fr hin]);rw[hp.out] at hq;go_enter Tryz.func138,Tryz.ntmps138;go_upto_region 1 with fail
  clear hl1;generalize w.alloc (.cells #[.bool false,.slice none 0 0,.bool false,.slice none 0 0] 78)=w1 at *
  have hP:=aY (u0:=.bool m) (u1:=.slice a N d) (u2:=.bool false) (u3:=.slice a' N' d') s1;have hZ:=E5 (dq.puts hq hP s1 bF);have hBF:=E5 (M1.out.trans (hP.below w.heap.size (Fb _)));have q0:=aa s1 0;have q1:=aa s1 1;have q2:=aa s1 2;have q3:=aa s1 3;have f0:=frozen_of_row _ w.heap.size 0 _ _ s1;have f1:=frozen_of_row _ w.heap.size 1 _ _ s1;have f2:=frozen_of_row _ w.heap.size 2 _ _ s1;have f3:=frozen_of_row _ w.heap.size 3 _ _ s1;clear s1 hq hp;go_wp2_with fail
  (try simp only[Exit.inBlock,Exit.then])
  change bodyPost _ _ _ _ _ (dX w1 w.heap.size (.bool m) (.slice a N d) (.bool false) (.slice a' N' d'));refine bodyPost_ret (results_cell_row rfl _ _ w.heap.size _ _ (0,0) _ rfl hP.row Tryz.underlying78 rfl (by kernel_rfl)) rfl ?_;exact⟨_,rfl,hZ.out,hBF.out⟩
 ·have hd:decide ((i:Int)<(qs.length:Int))=false:=decide_eq_false (by omega);have hd':decide (i<qs.length)=false:=decide_eq_false (by omega);have hp:=E5 (show (0:Rat)=qs.getD i 0 by simp[FG,GV (Nat.le_of_not_lt hin)]);go_enter Tryz.func138,Tryz.ntmps138;go_upto_region 1 with fail
  clear hl1 hin;generalize w.alloc (.cells #[.bool false,.slice none 0 0,.bool false,.slice none 0 0] 78)=w1 at *
  go_wp2_with fail
  refine (Dw w1).mono ?_;rintro e w2 ⟨v2,rfl,hv2,hb2⟩;obtain⟨m,a,N,d,a',N',d',rfl⟩:=hv2.forms;rw[hp.out] at hv2;have s2:=(hb2.block _ (ag s1)).trans s1;have M2:=M1.out.trans (hb2.mono M1.out.size);have hP:=aY (u0:=.bool m) (u1:=.slice a N d) (u2:=.bool false) (u3:=.slice a' N' d') s2;have hZ:=E5 (dq.puts hv2 hP s2 bF);have hBF:=E5 (M2.trans (hP.below w.heap.size (Fb _)));have q0:=aa s2 0;have q1:=aa s2 1;have q2:=aa s2 2;have q3:=aa s2 3;have f0:=frozen_of_row _ w.heap.size 0 _ _ s2;have f1:=frozen_of_row _ w.heap.size 1 _ _ s2;have f2:=frozen_of_row _ w.heap.size 2 _ _ s2;have f3:=frozen_of_row _ w.heap.size 3 _ _ s2;clear s1 s2 hv2 hp M2 hb2;go_wp2_with fail
  (try simp only[Exit.inBlock,Exit.then])
  change bodyPost _ _ _ _ _ (dX w2 w.heap.size (.bool m) (.slice a N d) (.bool false) (.slice a' N' d'));refine bodyPost_ret (results_cell_row rfl _ _ w.heap.size _ _ (0,0) _ rfl hP.row Tryz.underlying78 rfl (by kernel_rfl)) rfl ?_;exact⟨_,rfl,hZ.out,hBF.out⟩
theorem jR (v vk:Value) (qs:List Rat) (k:Rat) (n m:Nat) (w:World) (hl:j8 w v qs) (hk:cV w vk k) (hs:∀ q∈qs,Sz n (rt q)) (hsk:Sz m (rt k)) (hnm:n+m≤390000) (hlen:qs.length<1000000) :
  Calls Tryz.prog 75 #[v,vk] w fun e w'=>∃ v',e=.returned v'∧du w' w.heap.size v' (qs.map (·*k))∧Below w.heap.size w w':=by
 obtain⟨p,c,rfl,hc1,hc2⟩:=hl.form;obtain⟨km,ka,kN,kd,kb,kM,ke,rfl⟩:=hk.forms;have h1:=aT w (.cells #[.bool km,.slice ka kN kd,.bool false,.slice kb kM ke] 78);have hl1:=hl.below h1.below;have HK:=E5 (hk.below h1.below);have HS:=E5 hs;have HSK:=E5 hsk;have HN:=E5 (And.intro hnm hlen);have M1:=E5 h1.below;have s1:=h1.s0;clear hl hk hs hsk hnm h1;go_enter Tryz.func75,Tryz.ntmps75;go_upto_region 1 with fail
 generalize w.alloc (.cells #[.bool km,.slice ka kN kd,.bool false,.slice kb kM ke] 78)=w1 at *
 go_wp2;go_loopw [5,6] (fun s5 s6 wr=>∃ i:Nat,s6=.int .i64 i∧i≤qs.length∧du wr w1.heap.size s5 ((qs.map (·*k)).take i)∧Below w1.heap.size w1 wr) (fun _ s6 _=>qs.length-(intOf s6).toNat)
 case atStart=>exact⟨0,rfl,Fk _,du.nil _ _,Below.refl _ _⟩
 case round =>
  obtain⟨i,rfl,hin,hown,hbr⟩:=hrel;by_cases hi:i<qs.length
  ·obtain⟨b,o,rfl,hlt,xm,xa,xN,xd,xb,xM,xe,hx,x0,x1,x2,x3⟩:=hl1.get hi
   have HT:=E5 (show (qs.map (·*k)).take (i+1)=(qs.map (·*k)).take i++[qs[i]*k] by
    rw[show (qs.map (·*k)).take (i+1)=(qs.map (·*k)).take i++[(qs.map (·*k))[i]'(by simpa using hi)] from (Fm _).symm,Gb])
   have HSX:=E5 (HS.out qs[i] (Fu hi));generalize qs[i]=x at hx HT HSX;have hdI:decide ((i:Int)<(qs.length:Int))=true:=decide_eq_true (by omega);go_upto_region 5 with fail
   clear hdI;have hBw:Below w1.heap.size w1 wr.drew:=hbr.trans ((Below.refl _ _).drew.mono hbr.size);have hon:=hown.below (below_drewN (Below.refl _ _) 1);refine aq (fun w'=>∃ z:aC w1.heap.size w1,w'=z.w) (fun i=>i == 6||i == 7||i == 8) (by kernel_rfl) (by kernel_rfl) ⟨⟨_,hBw⟩,rfl⟩ ?_;change du wr.drew _ _ _ at hon;generalize wr.drew=wd at *
   have k0:=jN s1 0 rfl;have k1:=jN s1 1 rfl;have k2:=jN s1 2 rfl;have k3:=jN s1 3 rfl;have r0:=mF x0 hlt;have r1:=mF x1 hlt;have r2:=mF x2 hlt;have r3:=mF x3 hlt;have HON:=E5 hon;have HBW:=E5 hBw;have HXI:=E5 hx;clear x0 x1 x2 x3 hon hBw hown hbr hx;refine ah 6 0 _ _ _ (by kernel_rfl) ?_;simp only[Fc,Fg,Fd,Ff];repeat (go_big_quiet_step (fail))
   refine wpQuiet_nil ?_;clear k0 k1 k2 k3 r0 r1 r2 r3;refine aj rfl rfl (fun K hK=>?_);go_simp;refine (A_ _ _ x k n m wd (HXI.out.below HBW.out) (HK.out.below HBW.out) HSX.out HSK.out HN.out.1).mono ?_;rintro e w8 ⟨v8,rfl,hv8,hb8⟩;obtain⟨cm,cax,cN,cd,cb,cM,ce,rfl⟩:=hv8.forms;have hB8:=HBW.out.trans (hb8.mono HBW.out.size);have hon8:=HON.out.below hb8;clear hb8;refine hK _ _ ⟨⟨_,hB8⟩,rfl⟩ ?_;clear hK K;try simp only[Act.put,E9,E8,E7,E6,Fa,E_]
   have m9:=ak w8 (.cells #[.bool cm,.slice cax cN cd,.bool false,.slice cb cM ce] 78);have hcx:=heap_alloc_new w8 (.cells #[.bool cm,.slice cax cN cd,.bool false,.slice cb cM ce] 78);have hv9:=hv8.below m9;have hon9:=hon8.below m9;have hB9:=hB8.trans (m9.mono hB8.size);have hbs:=hB9.size;have hzl:((qs.map (·*k)).take i).length<1000000000:=by have:=HN.out.2;rw[FA,Fp];omega
   clear m9;refine aj rfl rfl (fun K hK=>?_);go_simp;refine hK _ _ ⟨⟨_,hB9⟩,rfl⟩ ?_;clear hK K;try simp only[Act.put,E9,E8,E7,E6,Fa,E_]
   refine aj rfl rfl (fun K hK=>?_);refine dl rfl ?_;refine ee 51 Tryz.underlying51 rfl (.tmp 13) (.tmp 20) rfl w1.heap.size _ _ cm cax cN cd cb cM ce _ rfl hon9 _ rfl hcx hv9 hzl hbs ?_;intro v' w10 hap;have hB10:=hap.below hon9 hB9 (Fb _) hbs;have hw10:=hap.own;refine⟨rfl,hK _ _ ⟨⟨_,hB10⟩,rfl⟩ ?_⟩;clear hK K;try simp only[Act.put,E9,E8,E7,E6,Fa,E_]
   rw[←HT.out] at hw10;have HW10:=E5 hw10;clear hap hw10 hv9 hv8 hon8 hon9 hB8 hB9 hbs hcx hzl;refine ah 1 9 _ _ _ (by kernel_rfl) ?_;simp only[Fc,Fg,Fd,Ff];repeat (go_big_quiet_step (fail))
   refine wpQuiet_nil ?_;refine aB ?_;go_wp2;go_roundw;case rel=>exact⟨i+1,by go_num,by omega,HW10.out,hB10⟩
   case measure=>first | (simp[intOf];done) | (simp[intOf];omega)
  ·have hin':i=qs.length:=by omega
   subst hin';clear hi;rw[Fi (by rw[Fp];exact Fb _)] at hown;have HO:=E5 (hown.lower M1.out.size);have HB:=E5 (M1.out.trans (hbr.mono M1.out.size));clear hbr hown;go_wp2;refine bodyPost_ret (v:=_) (by simp[results,Tryz.results75,go_sem]) rfl ⟨_,rfl,HO.out,HB.out⟩
def cW (a b:List Rat):List Rat:=(List.range (max a.length b.length)).map fun i=>a.getD i 0+b.getD i 0
theorem dO (a b:List Rat):(cW a b).length=max a.length b.length:=by simp[cW]
theorem y5 (a b:List Rat) {i:Nat} (h:i<max a.length b.length):(cW a b).take (i+1)=(cW a b).take i++[a.getD i 0+b.getD i 0]:=by
 have hl:i<(cW a b).length:=by rw[dO];exact h
 rw[show (cW a b).take (i+1)=(cW a b).take i++[(cW a b)[i]] from (Fm hl).symm];simp[cW]
theorem mJ {l:List Rat}{n:Nat} (h:∀ q∈l,Sz n (rt q)) (hn:1≤n) (i:Nat):Sz n (rt (l.getD i 0)):=by
 by_cases hi:i<l.length
 ·exact h _ (kE hi)
 ·rw[kF (by omega),dK];exact Sz.zero hn
theorem Ej (va vb:Value) (a b:List Rat) (n m:Nat) (w:World) (ha:j8 w va a) (hb:j8 w vb b) (hs:∀ q∈a,Sz n (rt q)) (ht:∀ q∈b,Sz m (rt q)) (h1:1≤n) (h2:1≤m) (hnm:n+m+1≤390000) (hla:a.length<100000) (hlb:b.length<100000) :
  Calls Tryz.prog 87 #[va,vb] w fun e w'=>∃ v',e=.returned v'∧du w' w.heap.size v' (cW a b)∧Below w.heap.size w w':=by
 obtain⟨pa,ca,rfl,-,-⟩:=id ha.form;obtain⟨pb,cb,rfl,-,-⟩:=id hb.form;have HA:=E5 ha;have HB:=E5 hb;have HS:=E5 (fun i=>mJ hs h1 i);have HT:=E5 (fun i=>mJ ht h2 i);have HN:=E5 hnm;clear ha hb hs ht h1 h2 hnm;go_enter Tryz.func87,Tryz.ntmps87;go_wp2;go_loopw [5,6] (fun s5 s6 wr=>∃ i:Nat,s6=.int .i64 i∧i≤max a.length b.length∧du wr w.heap.size s5 ((cW a b).take i)∧Below w.heap.size w wr) (fun _ s6 _=>max a.length b.length-(intOf s6).toNat)
 case atStart=>exact⟨0,rfl,Fk _,du.nil _ _,Below.refl _ _⟩
 case round =>
  obtain⟨i,rfl,hin,hown,hbr⟩:=hrel;by_cases hi:i<max a.length b.length
  ·have HTK:=E5 (y5 a b hi);have hi2:i<1000000:=by omega
   have hxa:=E5 (wO _ a i wr (HA.out.below hbr) hi2);have hxb:=E5 (fun w2 (h:Below w.heap.size w w2)=>wO _ b i w2 (HB.out.below h) hi2);have HX:=E5 (HS.out i);have HY:=E5 (HT.out i);have hor:i<a.length∨i<b.length:=by omega
   generalize a.getD i 0=x at hxa HX HTK;generalize b.getD i 0=y at hxb HY HTK;rcases Gj i a.length with h | h
   ·have hd:decide ((i:Int)<(a.length:Int))=true:=decide_eq_true (by omega);go_wp2_with fail
    refine hxa.out.mono ?_;rintro e w2 ⟨v2,rfl,hv2,hb2⟩;obtain⟨xm,xa,xN,xd,xb,xM,xe,rfl⟩:=hv2.forms;have hB2:=hbr.trans (hb2.mono hbr.size);have hw2:=hown.below hb2;clear hb2 hbr hown;go_wp2_with fail
    refine (hxb.out w2 hB2).mono ?_;rintro e w3 ⟨v3,rfl,hv3,hb3⟩;obtain⟨ym,ya,yN,yd,yb,yM,ye,rfl⟩:=hv3.forms;have hv2:=hv2.below hb3;have hB3:=hB2.trans (hb3.mono hB2.size);have hw3:=hw2.below hb3;clear hb3 hB2 hw2;go_wp2_with fail
    refine (tr _ _ x y n m w3 hv2 hv3 HX.out HY.out HN.out).mono ?_;rintro e w4 ⟨v4,rfl,hv4,hb4⟩;obtain⟨zm,za,zN,zd,zb,zM,ze,rfl⟩:=hv4.forms;have hB4:=hB3.trans (hb4.mono hB3.size);have hw4:=hw3.below hb4;have m1:=ak w4 (.cells #[.bool zm,.slice za zN zd,.bool false,.slice zb zM ze] 78);have hcx:=heap_alloc_new w4 (.cells #[.bool zm,.slice za zN zd,.bool false,.slice zb zM ze] 78);have hu5:=hv4.below m1;have hw5:=hw4.below m1;have hB5:=hB4.trans (m1.mono hB4.size);have hbs:=hB5.size;have hzl:((cW a b).take i).length<1000000000:=by rw[FA,dO];omega
    clear hb4 hB3 hw3 hv2 hv3 hv4 hB4 hw4 m1 h;go_wp2_with (at_builtin;refine ee 51 Tryz.underlying51 rfl (.tmp 19) (.tmp 27) rfl w.heap.size _ _ zm za zN zd zb zM ze _ rfl hw5 _ rfl hcx hu5 hzl hbs ?_)
    intro v' w6 hap;have hB6:=hap.below hw5 hB5 (Fb _) hbs;have hw6:=hap.own;rw[←HTK.out] at hw6;clear hap hw5 hu5 hcx hB5 hbs hzl;go_wp2;go_roundw;case rel=>exact⟨i+1,by go_num,by omega,hw6,hB6⟩
    case measure=>first | (simp[intOf];done) | (simp[intOf];omega)
   ·have hd:decide ((i:Int)<(a.length:Int))=false:=decide_eq_false (by omega);have hd':decide (i<a.length)=false:=decide_eq_false (by omega);have he:decide ((i:Int)<(b.length:Int))=true:=decide_eq_true (by omega);go_wp2_with fail
    refine hxa.out.mono ?_;rintro e w2 ⟨v2,rfl,hv2,hb2⟩;obtain⟨xm,xa,xN,xd,xb,xM,xe,rfl⟩:=hv2.forms;have hB2:=hbr.trans (hb2.mono hbr.size);have hw2:=hown.below hb2;clear hb2 hbr hown;go_wp2_with fail
    refine (hxb.out w2 hB2).mono ?_;rintro e w3 ⟨v3,rfl,hv3,hb3⟩;obtain⟨ym,ya,yN,yd,yb,yM,ye,rfl⟩:=hv3.forms;have hv2:=hv2.below hb3;have hB3:=hB2.trans (hb3.mono hB2.size);have hw3:=hw2.below hb3;clear hb3 hB2 hw2;go_wp2_with fail
    refine (tr _ _ x y n m w3 hv2 hv3 HX.out HY.out HN.out).mono ?_;rintro e w4 ⟨v4,rfl,hv4,hb4⟩;obtain⟨zm,za,zN,zd,zb,zM,ze,rfl⟩:=hv4.forms;have hB4:=hB3.trans (hb4.mono hB3.size);have hw4:=hw3.below hb4;have m1:=ak w4 (.cells #[.bool zm,.slice za zN zd,.bool false,.slice zb zM ze] 78);have hcx:=heap_alloc_new w4 (.cells #[.bool zm,.slice za zN zd,.bool false,.slice zb zM ze] 78);have hu5:=hv4.below m1;have hw5:=hw4.below m1;have hB5:=hB4.trans (m1.mono hB4.size);have hbs:=hB5.size;have hzl:((cW a b).take i).length<1000000000:=by rw[FA,dO];omega
    clear hb4 hB3 hw3 hv2 hv3 hv4 hB4 hw4 m1 h;go_wp2_with (at_builtin;refine ee 51 Tryz.underlying51 rfl (.tmp 19) (.tmp 27) rfl w.heap.size _ _ zm za zN zd zb zM ze _ rfl hw5 _ rfl hcx hu5 hzl hbs ?_)
    intro v' w6 hap;have hB6:=hap.below hw5 hB5 (Fb _) hbs;have hw6:=hap.own;rw[←HTK.out] at hw6;clear hap hw5 hu5 hcx hB5 hbs hzl;go_wp2;go_roundw;case rel=>exact⟨i+1,by go_num,by omega,hw6,hB6⟩
    case measure=>first | (simp[intOf];done) | (simp[intOf];omega)
  ·have hin':i=max a.length b.length:=by omega
   rw[Fi (by rw[dO];omega)] at hown;have hd:decide ((i:Int)<(a.length:Int))=false:=decide_eq_false (by omega);have hd':decide (i<a.length)=false:=decide_eq_false (by omega);have he:decide ((i:Int)<(b.length:Int))=false:=decide_eq_false (by omega);have he':decide (i<b.length)=false:=decide_eq_false (by omega);clear hin' hin hi;go_wp2;refine bodyPost_ret (v:=_) (by simp[results,Tryz.results87,go_sem]) rfl ⟨_,rfl,hown,hbr⟩
theorem xX {e:Value}{u0 u1 u2 u3:Value} (he:cellsOf e=[u0,u1,u2,u3]):∀ (es:List Value) (i:Nat),(∀ x∈es,(cellsOf x).length=4)→i<es.length →
  ((((cY es).set (i*4) u0).set (i*4+1) u1).set (i*4+2) u2).set (i*4+3) u3=cY (es.set i e)
 | [],i,_,h=>by simp at h
 | x :: es,0,hl,_=>by
  have h4:=hl x (FL ..)
  match hx:cellsOf x,h4 with
  | [a,b,c,d],_=>simp[cY,hx,he]
 | x :: es,i+1,hl,h=>by
  have h4:=hl x (FL ..)
  have ih:=xX he es i (fun y hy=>hl y (FN _ hy)) (by simpa using h)
  match hx:cellsOf x,h4 with
  | [a,b,c,d],_ =>
   have e1:cY (x :: es)=a :: b :: c :: d :: cY es:=by simp[cY,hx]
   have e2:cY ((x :: es).set (i+1) e)=a :: b :: c :: d :: cY (es.set i e):=by simp[cY,hx]
   rw[e1,e2,←ih,show (i+1)*4=i*4+4 from by omega]
   simp[E_]
theorem pi:∀ (es:List Value) (i j:Nat) (h:i<es.length),(∀ x∈es,(cellsOf x).length=4)→j<4→(cY es)[i*4+j]?=(cellsOf es[i])[j]?
 | [],i,_,h,_,_=>by simp at h
 | x :: es,0,j,_,hl,hj=>by
  have h4:=hl x (FL ..);have e:cY (x :: es)=cellsOf x++cY es:=by simp[cY]
  rw[e,Hk (by omega),Gk,F8];rfl
 | x :: es,i+1,j,h,hl,hj=>by
  have h4:=hl x (FL ..);have ih:=pi es i j (by simpa using h) (fun y hy=>hl y (FN _ hy)) hj;have e:cY (x :: es)=cellsOf x++cY es:=by simp[cY]
  rw[e,GX (by omega),show (i+1)*4+j-(cellsOf x).length=i*4+j from by omega,ih];rfl
def Dz:Value:=.agg #[.bool false,.slice none 0 0,.bool false,.slice none 0 0]
def QO (w:World) (v:Value):Option Rat→Prop
 | some q=>cV w v q
 | none=>v=Dz
theorem QO.len {w:World}{v:Value}{o:Option Rat} (h:QO w v o):(cellsOf v).length=4:=by
 cases o with
 | some q=>exact cV.len h
 | none=>rw[show v=Dz from h];rfl
structure Cd (w:World) (g n:Nat) (os:List (Option Rat)):Prop where
 ex:∃ es:List Value,es.length=n∧w.ownsRow g 78 4 (.slice (some ⟨g,0,none⟩) n n) n (cY es)∧∀ i (h:i<es.length) (h':i<os.length),QO w es[i] os[i]
 ln:os.length=n
 nx:NoX gx w (.slice (some ⟨g,0,none⟩) n n)
theorem Cd.four {w:World}{es:List Value}{os:List (Option Rat)} (hl:es.length=os.length) (h:∀ i (h:i<es.length) (h':i<os.length),QO w es[i] os[i]):∀ e∈es,(cellsOf e).length=4:=by
 intro e he;obtain⟨i,hi,rfl⟩:=FV he;exact (h i hi (by omega)).len
theorem Cd.cells {w:World}{g n:Nat}{os:List (Option Rat)} (h:Cd w g n os) {i:Nat} (hi:i<n):∃ u0 u1 u2 u3,w.cell? ⟨g,i*4,none⟩=some u0∧w.cell? ⟨g,i*4+1,none⟩=some u1∧w.cell? ⟨g,i*4+2,none⟩=some u2∧w.cell? ⟨g,i*4+3,none⟩=some u3:=by
 obtain⟨es,h1,h2,h3⟩:=h.ex
 have h4:=Cd.four (by rw[h1,h.ln]) h3
 have hx:=h4 _ (Fu (show i<es.length by omega))
 have key:∀ j,j<4→w.cell? ⟨g,i*4+j,none⟩=(cellsOf (es[i]'(by omega)))[j]?:=fun j hj=>by
  rw[World.ownsRow.cellAt h2 (i*4+j) (by omega),pi es i j (by omega) h4 hj]
 match hc:cellsOf (es[i]'(by omega)),hx with
 | [a,b,c,d],_ =>
  refine⟨a,b,c,d,?_,?_,?_,?_⟩
  ·rw[show i*4=i*4+0 from rfl,key 0 (by decide),hc];rfl
  ·rw[key 1 (by decide),hc];rfl
  ·rw[key 2 (by decide),hc];rfl
  ·rw[key 3 (by decide),hc];rfl
open Go.RowKit Dg Dc
theorem mS:∀ l m:List Rat,(j_ l m).length=l.length
 | [],_=>rfl
 | a :: l,[]=>by rw[j_,Fv,mS l []];rfl
 | a :: l,b :: m=>by rw[j_,Fv,mS l m];rfl
theorem rN:∀ (l m:List Rat),m.length≤l.length→∀ i,(j_ l m).getD i 0=l.getD i 0+m.getD i 0
 | [],[],_,i=>by simp[j_];grind
 | [],_ :: _,h,_=>by simp at h
 | a :: l,[],_,i=>by rw[mr];simp;grind
 | a :: l,b :: m,_,0=>rfl
 | a :: l,b :: m,h,i+1=>by
  rw[j_];simp only[List.getD_cons_succ];exact rN l m (by simpa using h) i
theorem pS {l m:List Rat} (hl:l.length=m.length) (h:∀ i,l.getD i 0=m.getD i 0):l=m:=by
 refine IA hl fun i h1 h2=>?_;have:=h i;rw[FG,FG,Fr h1,Fr h2] at this;exact this
theorem ot (a b:List Rat) (i:Nat):(cW a b).getD i 0=a.getD i 0+b.getD i 0:=by
 by_cases h:i<max a.length b.length
 ·unfold cW;rw[FG,Hu,List.getElem?_range h];rfl
 ·rw[kF (by rw[dO];omega),kF (l:=a) (by omega),kF (l:=b) (by omega)];grind
theorem rO {l m:List Rat} (h:m.length≤l.length):j_ l m=cW l m :=
 pS (by rw[mS,dO];omega) fun i=>by rw[rN l m h,ot]
theorem y4 (l m:List Rat):cW l m=cW m l :=
 pS (by rw[dO,dO];omega) fun i=>by rw[ot,ot];grind
theorem BH {a b:List ByteArray}{qa qb:List Rat}{D E:Nat} (ea:a=qa.map tq) (eb:b=qb.map tq) (hD:0<D) (hE:0<E) (hDl:D≤2 ^ 168) (hEl:E≤2 ^ 168) (oa:∀ q∈qa,Ov D (2 ^ 198) q∧okQ q) (ob:∀ q∈qb,Ov E (2 ^ 198) q∧okQ q) :
  gP a b=(cW qa qb).map tq∧∀ q∈cW qa qb,okQ q:=by
 unfold gP;rw[ea,eb,Fp,Fp];by_cases h:qa.length<qb.length
 ·rw[if_pos h];have hok:∀ x∈qb,∀ y∈qa,okQ (x+y):=fun x hx y hy=>AT (ob x hx).1 (oa y hy).1 hE hD hEl hDl;rw[y4 qa qb,←rO (by omega)];exact⟨vC qb qa (by omega) (fun q hq=>(ob q hq).2) (fun q hq=>(oa q hq).2) hok,ub qb qa (fun q hq=>(ob q hq).2) hok⟩
 ·rw[if_neg h];have hok:∀ x∈qa,∀ y∈qb,okQ (x+y):=fun x hx y hy=>AT (oa x hx).1 (ob y hy).1 hD hE hDl hEl;rw[←rO (by omega)];exact⟨vC qa qb (by omega) (fun q hq=>(oa q hq).2) (fun q hq=>(ob q hq).2) hok,ub qa qb (fun q hq=>(oa q hq).2) hok⟩
def gE (l1 l2:List ByteArray):(List ByteArray×List ByteArray)×Int:=if (b_ l1&&b_ l2)=true then ((l1,l2),0) else (([],[]),8)
def CG (l1 l2:List ByteArray):(List ByteArray×List ByteArray)×Int:=if 7<l1.length∨7<l2.length then (([],[]),3) else gE l1 l2
theorem uh {l1 l2:List ByteArray} (h1:1≤l1.length) (h2:l1.length≤7) (h3:1≤l2.length) (h4:l2.length≤7) (hh:jg l2=some [49]):az l1 l2=(b_ l1&&b_ l2):=by
 unfold az eR b_;rw[decide_eq_true h1,decide_eq_true h2,decide_eq_true h3,decide_eq_true h4,decide_eq_true hh,Bool.and_true];simp
theorem sS {l1 l2:List ByteArray} (h1:1≤l1.length) (h3:1≤l2.length) (hh:jg l2=some [49]):sR (.ok (l1,l2))=CG l1 l2:=by
 show (if 7<l1.length∨7<l2.length then (([],[]),3) else if az l1 l2=false then (([],[]),8) else ((l1,l2),0):(List ByteArray×List ByteArray)×Int)=_
 unfold CG gE;by_cases h:7<l1.length∨7<l2.length
 ·rw[if_pos h,if_pos h]
 ·rw[if_neg h,if_neg h,uh h1 (by omega) h3 (by omega) hh];generalize (b_ l1&&b_ l2)=b
  cases b<;>rfl
theorem An {l:List Rat} (h:0<l.length) (h1:l.getD 0 0=1):jg (l.map tq)=some [49]:=by
 match l,h,h1 with
 | q :: l,_,h1 =>
  have e:q=1:=h1
  subst e
  unfold jg
  rw[Gv,rC]
  rfl
theorem DG {a b:Rat}{k l:Nat} (ha:Sz k (rt a)) (hb:Sz l (rt b)):Sz (k+l+1) (rt (a+b)):=by rw[←gj];exact ha.plus hb
theorem lO {q:Rat}{k:Nat} (h:Sz k (rt q)) (hk:k≤2000):okQ q:=qU (h.mono hk).n (h.mono hk).d
theorem gG {l:List ByteArray}{qs:List Rat} (h:fU l qs):∀ q∈qs,Sz 29 (rt q):=fun q hq=>by
 obtain⟨D,hD,hDl,oa⟩:=h.ov;obtain⟨b1,b2⟩:=(oa q hq).bound hD;exact⟨FE b1 (by decide),q.den_pos,FE (Fj b2 hDl) (by decide)⟩
theorem Ep {a b:List Rat}{k l:Nat} (ha:∀ q∈a,Sz k (rt q)) (hb:∀ q∈b,Sz l (rt q)) (h1:1≤k) (h2:1≤l):∀ q∈cW a b,Sz (k+l+1) (rt q):=fun q hq=>by
 unfold cW at hq;obtain⟨i,-,rfl⟩:=G3.1 hq;exact DG (mJ ha h1 i) (mJ hb h2 i)
theorem tL {a b:List ByteArray}{qa qb:List Rat} (ha:fU a qa) (hb:fU b qb):gP a b=(cW qa qb).map tq∧(∀ q∈cW qa qb,okQ q)∧∀ q∈cW qa qb,Sz 59 (rt q):=by
 obtain⟨D,hD,hDl,oa⟩:=ha.ov;obtain⟨E,hE,hEl,ob⟩:=hb.ov;have h198:(2:Nat) ^ 96≤2 ^ 198:=Fs (by decide) (by decide);have h168:(2:Nat) ^ 84≤2 ^ 168:=Fs (by decide) (by decide);obtain⟨e,k⟩:=BH ha.e hb.e hD hE (Fj hDl h168) (Fj hEl h168) (fun q hq=>⟨(oa q hq).mono h198,ha.ok q hq⟩) (fun q hq=>⟨(ob q hq).mono h198,hb.ok q hq⟩);exact⟨e,k,Ep (gG ha) (gG hb) (by decide) (by decide)⟩
theorem yv {l:List Rat}{k:Rat}{n m:Nat} (hl:∀ q∈l,Sz n (rt q)) (hk:Sz m (rt k)) (hnm:n+m≤2000):(l.map tq).map (fun a=>dz a (tq k))=(l.map (·*k)).map tq∧∀ q∈l.map (·*k),okQ q:=by
 refine⟨?_,fun q hq=>?_⟩
 ·rw[Ib,Ib];refine Ij fun q hq=>?_;exact wF (lO (hl q hq) (by omega)) (lO hk (by omega)) (lO (mR (hl q hq) hk) (by omega))
 ·obtain⟨x,hx,rfl⟩:=G3.1 hq;exact lO (mR (hl x hx) hk) (by omega)
theorem sT {l:List Rat}{k:Rat}{n m:Nat} (hl:∀ q∈l,Sz n (rt q)) (hk:Sz m (rt k)) (h0:k≠0) (hnm:n+m≤2000):(l.map tq).map (fun a=>cX a (tq k))=(l.map (·*k⁻¹)).map tq∧∀ q∈l.map (·*k⁻¹),okQ q:=by
 have hi:=zv hk h0;refine⟨?_,fun q hq=>?_⟩
 ·rw[Ib,Ib];refine Ij fun q hq=>?_;have e:q*k⁻¹=q / k:=(Rat.div_def _ _).symm
  show cX (tq q) (tq k)=tq (q*k⁻¹)
  rw[e];exact vU (lO (hl q hq) (by omega)) (lO hk (by omega)) h0 (by rw[←e];exact lO (mR (hl q hq) hi) (by omega))
 ·obtain⟨x,hx,rfl⟩:=G3.1 hq;exact lO (mR (hl x hx) hi) (by omega)
theorem sQ {l1 l2:List ByteArray} (h1:l1.length≤7) (h2:l2.length≤7):CG l1 l2=gE l1 l2:=by
 unfold CG;rw[if_neg (by omega)]
theorem CC {a b:List ByteArray} (c:az a b=true):jg b=some [49]:=(aM c).2.2.2.2.2.2
theorem tD {a b:List ByteArray}{k:ByteArray} (c:az a b=true) (hk:bu k.data.toList=true):dS a b k=gE (a.map (fun x=>dz x k)) b:=by
 obtain⟨b1,b7,a1,a7,-⟩:=aM c;unfold dS aO;rw[if_neg (by rw[c];decide),if_neg (by rw[c];decide)];unfold fJ;rw[if_pos hk,sS (by rw[Fp];exact a1) b1 (CC c),sQ (by rw[Fp];exact a7) b7]
theorem vh {a b:List ByteArray}{k:ByteArray} (c:az a b=true) (hk:bu k.data.toList=false):dS a b k=(([],[]),2):=by
 unfold dS aO;rw[if_neg (by rw[c];decide),if_neg (by rw[c];decide)];unfold fJ;rw[if_neg (by rw[hk];decide)];rfl
theorem jb {a b ga gb:List ByteArray}{r:Except Int (List ByteArray×List ByteArray)} (c:az a b=false):aO a b ga gb r=(([],[]),30):=by
 unfold aO;rw[if_pos c]
theorem oR {a b:List ByteArray}{n:Int} (c:az a b=true) (h:n<0∨6<n):cR a b n=(([],[]),8):=by
 unfold cR aO;rw[if_neg (by rw[c];decide),if_neg (by rw[c];decide)];unfold gM;rw[if_pos h];rfl
theorem oQ {a b:List ByteArray}{i:Nat} (c:az a b=true) (h6:i≤6) (h:7<i+a.length):cR a b i=(([],[]),3):=by
 unfold cR aO;rw[if_neg (by rw[c];decide),if_neg (by rw[c];decide)];unfold gM;rw[if_neg (by omega)]
 show sR (.ok (aJ a i,b))=_
 show (if 7<(aJ a i).length∨7<b.length then _ else _)=_
 rw[if_pos (Or.inl (by rw[dL];omega))]
theorem rW {l a b:List ByteArray}{qa qb ql:List Rat} (c:az a b=true) (pa:fU a qa) (pb:fU b qb) (pl:fU l ql) (l0:0<ql.length) :
  ((cW qa qb).getD 0 0=0→aO a b a b (dh l a b)=(([],[]),33)) ∧
  ((cW qa qb).getD 0 0≠0→aO a b a b (dh l a b)=gE ((ql.map (·*((cW qa qb).getD 0 0)⁻¹)).map tq) (((cW qa qb).map (·*((cW qa qb).getD 0 0)⁻¹)).map tq) ∧
   (∀ q∈ql.map (·*((cW qa qb).getD 0 0)⁻¹),okQ q)∧∀ q∈(cW qa qb).map (·*((cW qa qb).getD 0 0)⁻¹),okQ q):=by
 obtain⟨b1,b7,a1,a7,-⟩:=aM c
 obtain⟨es,ks,ss⟩:=tL pa pb
 have la:a.length=qa.length:=by rw[pa.e,Fp]
 have lb:b.length=qb.length:=by rw[pb.e,Fp]
 have hsl:0<(cW qa qb).length:=by rw[dO];omega
 have hs7:(cW qa qb).length≤7:=by rw[dO];omega
 have e0:aH (gP a b) 0=tq ((cW qa qb).getD 0 0):=by rw[es,CI hsl]
 have k0:=ks _ (kE hsl)
 have s0:=ss _ (kE hsl)
 generalize hx:(cW qa qb).getD 0 0=x at *
 refine⟨fun h=>?_,fun h=>?_⟩
 ·unfold aO
  rw[if_neg (by rw[c];decide),if_neg (by rw[c];decide)]
  unfold dh
  rw[if_pos (by rw[e0,h];exact tR)]
  rfl
 ·have hne:¬ aH (gP a b) 0=⟨#[48]⟩:=fun e=>h (Er k0 AS (by rw[←e0,e];exact tR.symm))
  obtain⟨t1,u1⟩:=sT (gG pl) s0 h (by decide)
  obtain⟨t2,u2⟩:=sT ss s0 h (by decide)
  refine⟨?_,u1,u2⟩
  unfold aO
  rw[if_neg (by rw[c];decide),if_neg (by rw[c];decide)]
  unfold dh
  rw[if_neg hne,e0,es,pl.e,t1,t2]
  have ll:=pl.len
  rw[sS (by rw[Fp,Fp];omega) (by rw[Fp,Fp];omega),sQ (by rw[Fp,Fp];omega) (by rw[Fp,Fp];omega)]
  refine An (by rw[Fp];exact hsl) ?_
  have e1:((cW qa qb).map (·*x⁻¹)).getD 0 0=(cW qa qb).getD 0 0*x⁻¹:=by
   match cW qa qb,hsl with
   | q :: r,_=>rfl
  rw[e1,hx]
  exact Rat.mul_inv_cancel _ h
end Go.Proofs.YtbnkpcfjechfiaaGreatDoor
