/- L -/
import Derived.Test.YtgakllaobooabaaGreatDoorXOver
import Derived.Test.YtgakllaobooabaaGreatDoorXB
set_option linter.all false
set_option maxRecDepth 100000
set_option maxHeartbeats 8000000
namespace Go.Proofs.YtgakllaobooabaaGreatDoor
open Go.RowKit Dg
theorem pJ {m:List Nat} (hm:CB m) (hne:m≠[]):1<=1000000000 / (nth m (m.length-1)+1)/\1000000000 / (nth m (m.length-1)+1)<BB /\
  1000000000 / (nth m (m.length-1)+1)*(nth m (m.length-1)+1)<=BB/\nth m (m.length-1)<1000000000:=by
 have hpos:0<m.length:=A3.2 hne;have h1:=nlt hm.1 (j:=m.length-1) (by omega)
 have h2:nth m (m.length-1)≠0:=by
  have:=hm.2 hne;rw[dY m _ (by omega)]
  rwa [List.getLast_eq_getElem] at this
 refine⟨?_,?_,?_,h1⟩
 ·rw[Nat.le_div_iff_mul_le (by omega)];omega
 ·simp only[BB];rw[Ca (by omega)];omega
 ·exact Nat.div_mul_le_self _ _
theorem mT (va vb:Value) (l:List Nat) (s:Nat) (w:World) (ha:IsU w va l) (hb:IsU w vb [s]) (hl:∀ x∈l,x<BB) (hs:s<BB) (hll:l.length<1000000) :
  Calls Tryz.prog 105 #[va,vb] w fun e w'=>∃ g,e=.returned (.slice (some ⟨g,0,none⟩) (ag BB (val BB l*s)).length (l.length+1)) /\
   w.heap.size<=g/\bu w' g (l.length+1) (ag BB (val BB l*s))/\Below w.heap.size w w':=by
 have h:=mS va vb l [s] w ha hb hl (by intro x hx;simp at hx;subst hx;exact hs) hll (by simp);refine h.mono ?_;rintro e w' ⟨g,cap,rfl,hg,rfl,hr,hbl⟩;have e1:val BB [s]=s:=by simp
 rw[e1] at hr |-;exact⟨g,rfl,hg,hr,hbl⟩
theorem u_ (a b c:Nat):((a:Int)*1000000000+(b:Int)) / (c:Int)=((a*BB+b) / c:Nat):=by simp[BB]
theorem tG (a b c:Nat):((a:Int)*1000000000+(b:Int)) % (c:Int)=((a*BB+b) % c:Nat):=by simp[BB]
theorem tb {a b c:Nat} (ha:a<1000000000) (hb:b<1000000000):(a*BB+b) / c<=1000000000000000000:=by
 have:=CI (a*BB+b) c;simp only[BB] at *
 omega
theorem tQ (va vb:Value) (l m:List Nat) (w:World) (ha:IsU w va l) (hb:IsU w vb m) (hl:CB l) (hm:CB m) (hll:l.length<100000) (hlm:m.length<100000) (h2:2<=m.length) (hge:val BB m<=val BB l) :
  Calls Tryz.prog 114 #[va,vb] w fun e w'=>∃ vq vr,e=.returned (.tuple #[vq,vr])/\IsU w' vq (ag BB (val BB l / val BB m))/\IsU w' vr (ag BB (val BB l % val BB m))/\Below w.heap.size w w':=by
 have hc:¬ eH (val BB l) (val BB m)<0:=by simp only[eH];split<;>(try split)<;>omega
 have hml:=iA hl hm hge;have HGE:=At hge;clear hge;have hne:m≠[]:=by intro e;subst e;simp at h2
 obtain⟨hs1,hs2,hs3,ht⟩:=pJ hm hne;have ha':=ha;have hb':=hb;obtain⟨p,cap,rfl,hlc,hcm,hcell⟩:=hb;obtain⟨pa,capa,rfl,hlca,hcma,hcella⟩:=ha;clear hcella;unfold maxLen at hcm hcma;obtain⟨b,o,rfl,hbw,hcl⟩:=hcell (by omega);have hc0:=hcl (m.length-1) (by omega);have h1':((m.length:Int) == 1)=false:=by simp;omega
 clear hcl hcell;obtain⟨s,hs⟩:∃ s,s=1000000000 / (nth m (m.length-1)+1):=⟨_,rfl⟩;rw[<-hs] at hs1 hs2 hs3;have hsi:(1000000000:Int) / ((nth m (m.length-1):Int)+1)=s:=by rw[hs];simp
 have HS:=At hs;have HS3:=At hs3;clear hs hs3;have hs2':s<1000000000:=hs2;clear hs2;go_enter Tryz.func114,Tryz.ntmps114;go_wp2_with (first | (go_at_call 138;refine (e_ _ _ l m _ ha' hb' hl hm).mono ?_;rintro e w' ⟨rfl,n,rfl⟩) | fail)
 have hb1:Below w.heap.size w ((w.drewN n).alloc (.cells #[.int .u64 s] 134)):=(below_drewN (Dv _ _) n).alloc (AA _) _;have hbx:=IsU.box (w.drewN n) s s rfl;have hsc:((w.drewN n).alloc (.cells #[.int .u64 s] 134)).cell? ⟨w.heap.size,0,none⟩=some (.int .u64 s):=dK (w.drewN n) s 0 _ rfl;have hsz1:((w.drewN n).alloc (.cells #[.int .u64 s] 134)).heap.size=w.heap.size+1:=by simp
 have HB1:=At hb1;have HBX:=At hbx;have HSC:=At hsc;have HSZ1:=At hsz1;have HA1:=At (ha'.below hb1);have HBB1:=At (hb'.below hb1);clear hb1 hbx hsc hsz1 hc0;generalize (w.drewN n).alloc (.cells #[.int .u64 s] 134)=w1 at HB1 HBX HSC HSZ1 HA1 HBB1 |-;refine (mT _ _ l s w1 HA1.out HBX.out hl.1 hs2' (by omega)).mono ?_;rintro e wu ⟨gu,rfl,hgu,hru,hbu⟩;have HBU:=At hbu;have HRU:=At hru;rw[HSZ1.out] at hgu;clear hbu hru;go_wp2_with fail
 refine (mT _ _ m s wu (HBB1.out.below HBU.out) (HBX.out.below HBU.out) hm.1 hs2' (by omega)).mono ?_;rintro e wv ⟨gv,rfl,hgv,hrv,hbv⟩;have hgv':gu<gv:=by have:=HRU.out.lt;omega
 have HV:=At (lU hm hne hs1 HS3.out);rw[HV.out];have hlu:=wS hl (s:=s) hs2';have HRV:=At hrv;have HBV:=At hbv;have HRU2:=At (HRU.out.below hbv);have HBL:=At (HB1.out.trans ((HBU.out.mono HB1.out.size).trans (hbv.mono (AP HB1.out.size HBU.out.size))))
 have HSC2:Hid (wv.cell? ⟨w.heap.size,0,none⟩=some (.int .u64 s)):=by
  unfold Hid;rw[hbv.cell (p:=⟨w.heap.size,0,none⟩) (by show w.heap.size<_;have:=HBU.out.size;have:=HSZ1.out;omega),HBU.out.cell (p:=⟨w.heap.size,0,none⟩) (by show w.heap.size<_;have:=HSZ1.out;omega)];exact HSC.out
 clear hrv hbv hgv HBU HRU HB1 HBX HSC HSZ1 HA1 HBB1;go_wp2
 go_loopw [9] (fun s9 wr=>∃ lu:List Nat,lu.length<=l.length+1/\s9=.slice (some ⟨gu,0,none⟩) lu.length (l.length+1)/\Hid (kF (val BB l*s) lu)/\Hid (bu wr gu (l.length+1) lu)/\Hid (bu wr gv (m.length+1) (ag BB (val BB m*s))) /\
   Hid (wr.cell? ⟨w.heap.size,0,none⟩=some (.int .u64 s))/\Below w.heap.size w wr) (fun s9 _=>match s9 with | .slice _ n _=>l.length+1-n | _=>0)
 case atStart=>exact⟨_,hlu,rfl,nH _,HRU2,HRV,HSC2,HBL.out⟩
 case round =>
  obtain⟨lu,hlul,rfl,hpad,hru,hrv,hsc,hbl⟩:=hrel;clear HSC2 HBV HRV HRU2 HBL hlu;have hgvs:=hrv.out.lt;have hbls:=hbl.size;by_cases h0:lu.length<=l.length
  ·go_wp2_with (at_builtin;refine iS 61 Tryz.underlying61 rfl (.tmp 67) (.tmp 68) rfl gu _ _ lu 0 0 rfl rfl rfl hru.out rfl (by omega) ?_)
   intro w' hr1 hb1 hk1 hs1';have hb2:=hb1 _ _ hbl (by omega);have hr2:bu w' gv (m.length+1) (ag BB (val BB m*s)):=hrv.out.kept (hk1 gv 0 hgvs (by omega)).1;have hsc2:w'.cell? ⟨w.heap.size,0,none⟩=some (.int .u64 s):=by rw[(hk1 _ _ (by omega) (by omega)).2];exact hsc.out
   clear hb1 hk1;have HR1:=At hr1;have HR2:=At hr2;have HS2:=At hsc2;clear hr1 hr2 hsc2;go_wp2;go_roundw;case rel=>exact⟨lu++[0],by simp;omega,by simp,pB hpad.out,HR1,HR2,HS2,hb2⟩
   case measure=>simp;omega
  ·have hlen:lu.length=l.length+1:=by omega
   go_wp2_with (at_make;refine dR 61 Tryz.underlying61 rfl (.tmp 73) (.tmp 73) rfl _ _ (l.length+1-m.length) rfl rfl (by omega) (by omega) (by omega) ?_)
   intro w0 hro hb0 hs0;have hg:Below wr.heap.size wr w0:=hb0 _ _ (Dv _ _) (AA _)
   have hmem:Hid (Mem w w0 w.heap.size gu gv wr.heap.size s (l.length+1) (m.length+1) (l.length+1-m.length) lu (ag BB (val BB m*s)) (List.replicate (l.length+1-m.length) 0)):=by
    have hslt:w.heap.size<wr.heap.size:=by omega
    exact⟨AA _,by omega,hgv',hgvs,(hg.cell (p:=⟨w.heap.size,0,none⟩) hslt).trans hsc.out,hru.out.below hg,hrv.out.below hg,hro,hb0 _ _ hbl hbls⟩
   have hdiv:=At (tf hl hm hne hs1 HGE.out HV.out hpad.out hlen);have HLEN:=At hlen;have hval:=At hpad.out.1;clear hro hb0 hs0 hg hru hrv hsc hpad hbl hbls;obtain⟨lv,hlv⟩:∃ lv,lv=ag BB (val BB m*s):=⟨_,rfl⟩;rw[<-hlv] at hmem hdiv HV;have hcv:Hid (CB lv/\val BB lv=val BB m*s):=by unfold Hid;rw[hlv];exact⟨bd _,aV aw _⟩
   clear hlv;obtain⟨go,hgo⟩:∃ go,go=wr.heap.size:=⟨_,rfl⟩;rw[<-hgo] at hmem |-;clear hgo;have hv1:=hcv.out.1.1;have hvlen:=At HV.out;clear HS HS3 HV hsi hgv' hgu h0 hlul;go_wp2;go_loopw [13] (fun s13 wr=>∃ (k:Nat) (lu1 lo:List Nat),k<=l.length+1-m.length/\s13=.int .i64 ((k:Int)-1)/\Hid (gA lu lv k lu1 lo)/\Hid (Mem w wr w.heap.size gu gv go s (l.length+1) (m.length+1) (l.length+1-m.length) lu1 lv lo)) (fun s13 _=>(intOf s13+1).toNat)
   case atStart=>exact⟨l.length+1-m.length,lu,_,AA _,by go_num,hdiv,hmem⟩
   case round =>
    obtain⟨k,lu1,lo,hk,rfl,hrel1,hm1⟩:=hrel;clear hdiv hmem;by_cases h0:k=0
    ·subst h0;have h00:((0:Nat):Int)-1=-1:=rfl;rw[h00];clear h00;have hde:=At (xW hrel1.out hval.out hcv.out.2 hs1);have hsc:=hm1.out.sc;have hmd:=fun (n:Nat)=>hm1.out.drewN n;have hle:=At hm1.out.ru.isU;have hll1:=hrel1.out.len;rw[hll1,HLEN.out] at hle;have hsh:=At (hm1.out.ru.lean.isU);have hlo1:=hrel1.out.leno;rw[hvlen.out,HLEN.out] at hlo1;have hole:=At hm1.out.ro.isU;rw[show lo.length=l.length+1-m.length by omega] at hole;have hlel:=cK lu1;rw[hll1,HLEN.out] at hlel;have hdig:=(o7 hrel1.out.dig).1;have HMD:=At hmd;have hvs:Hid (val BB (Dg.lean lu1) / s=val BB l % val BB m):=by unfold Hid;rw[qe,hde.out.2,Nat.mul_div_cancel _ hs1]
     clear hmd hll1 hlo1;go_wp2_with fail
     go_region_with (first | (go_at_call 134;refine (fC _ _ _ lu1 _ (by exact hle.out)).mono ?_;rintro e w' ⟨rfl,rfl⟩) | (go_at_call 143;refine (mM _ (Dg.lean lu1) s _ (by exact hsh.out) hdig (by omega) hs1 (by omega)).mono ?_;rintro e w1 ⟨g,cap1,rfl,hg,hr,hb1⟩))
     all_goals
      go_wp2_with fail
      have hole2:=IsU.below (IsU.drew hole.out) hb1;refine (fC _ _ _ lo _ hole2).mono ?_;rintro e w2 ⟨rfl,rfl⟩;go_wp2
      go_ret2
      refine⟨_,_,rfl,?_,?_,?_⟩
      ·rw[<-hde.out.1,<-ew aw hrel1.out.digo];exact IsU.below (IsU.drew hm1.out.ro.lean.isU) hb1
      ·rw[<-hvs.out];exact hr.isU
      ·exact hm1.out.bl.drew.trans (hb1.mono hm1.out.bl.size)
    ·obtain⟨i,rfl⟩:∃ i,k=i+1:=⟨k-1,by omega⟩;have ei:((i+1:Nat):Int)-1=i:=by omega
     rw[ei];clear ei h0;have hlu1:=At hrel1.out.len;have hview:=At (vf hrel1.out hv1 (by rw[hvlen.out];exact h2) (by rw[hvlen.out,hlu1.out,HLEN.out];omega));rw[hvlen.out] at hview;have c0:=hm1.out.ru.cell (j:=i+m.length) (by rw[hlu1.out,HLEN.out];omega);have c1:=hm1.out.ru.cell (j:=i+m.length-1) (by rw[hlu1.out,HLEN.out];omega);have c2:=hm1.out.ru.cell (j:=i+m.length-2) (by rw[hlu1.out,HLEN.out];omega);have d1:=hm1.out.rv.cell (j:=m.length-1) (by rw[hvlen.out];omega);have d2:=hm1.out.rv.cell (j:=m.length-2) (by rw[hvlen.out];omega);have b0:=nlt hrel1.out.dig (j:=i+m.length) (by rw[hlu1.out,HLEN.out];omega);have b1:=nlt hrel1.out.dig (j:=i+m.length-1) (by rw[hlu1.out,HLEN.out];omega);have b2:=nlt hrel1.out.dig (j:=i+m.length-2) (by rw[hlu1.out,HLEN.out];omega);have e1:=nlt hv1 (j:=m.length-1) (by rw[hvlen.out];omega);have e2:=nlt hv1 (j:=m.length-2) (by rw[hvlen.out];omega)
     have hvt:1<=nth lv (m.length-1):=by
      have hne':lv≠[]:=by intro e;have:=hvlen.out;rw[e] at this;simp at this;omega
      have:=hcv.out.1.2 hne';rw[List.getLast_eq_getElem] at this;rw[<-hvlen.out,dY lv _ (by rw[hvlen.out];omega)];omega
     go_wp2_with fail
     go_quiet (fail)
     go_wp2_with fail
     go_quiet (fail)
     go_upto_block 4 with fail
     go_cut [15,16] from 113 to 145 (fun s15 s16 wx=>∃ (q r n':Nat),s15=.int .u64 q/\s16=.int .u64 r/\Hid (kj (val BB (lu1.drop i)) (val BB lv) q)/\wx=wr.drewN n')
     case first =>
      go_wp2_with fail
      go_loopg [15,16] ((nth lu1 (i+m.length)*BB+nth lu1 (i+m.length-1)) / nth lv (m.length-1)) (fun g s15 s16 wq=>∃ (r n':Nat),s15=.int .u64 g/\s16=.int .u64 r/\Hid (nW (val BB (lu1.drop i)) (val BB lv) (nth lu1 (i+m.length)*BB+nth lu1 (i+m.length-1)) (nth lv (m.length-1)) g r)/\r<1000000000/\g<=1000000000000000000/\wq=wr.drewN n')
      case atStart=>exact⟨_,_,congrArg (Value.int .u64) (u_ _ _ _),congrArg (Value.int .u64) (tG _ _ _),oP hview.out hvt b2,Nat.lt_trans (BN _ hvt) e1,tb b0 b1,by first | rfl | rw[World.drewN_drewN]⟩
      case round =>
       obtain⟨r,n',rfl,rfl,hG,hr,hq,rfl⟩:=hrel;obtain⟨q,hqe⟩:∃ q,q=gk:=⟨_,rfl⟩;subst hqe;by_cases hbig:1000000000<=q
       ·have hd:decide ((1000000000:Int)<=(q:Int))=true:=by simp;omega
        obtain⟨hq1,hG'⟩:=mh hview.out hG.out (Or.inl hbig);have HG':=At hG';clear hG' hbig;rcases (by omega:(1000000000:Int)<=(r:Int)+(nth lv (m.length-1):Int)\/(r:Int)+(nth lv (m.length-1):Int)<1000000000) with hr2 | hr2
        ·go_wp2_with fail
         go_quiet (fail)
         go_wp2;go_meet;exact⟨q-1,r+nth lv (m.length-1),_,by go_num,by go_num,jA hview.out HG'.out hvt e2 b1 (Or.inr (by simp only[BB];omega)),by first | rfl | rw[World.drewN_drewN]⟩
        ·have hr2d:decide ((1000000000:Int)<=(r:Int)+(nth lv (m.length-1):Int))=false:=by simp;omega
         go_wp2_with fail
         go_quiet (fail)
         go_wp2
         go_roundg (q-1)
         case rel=>exact⟨r+nth lv (m.length-1),_,by go_num,by go_num,HG',by omega,by omega,by first | rfl | rw[World.drewN_drewN]⟩
         case measure=>omega
       ·have hqv:q*nth lv (m.length-2)<=999999999*999999999:=Be (by omega) (by omega);have hqv0:0<=(q:Int)*(nth lv (m.length-2):Int):=by omega
        have hd:decide ((1000000000:Int)<=(q:Int))=false:=by simp;omega
        have hqI:(q:Int)<1000000000:=by omega
        by_cases hc2:r*1000000000+nth lu1 (i+m.length-2)<q*nth lv (m.length-2)
        ·have hd2:decide ((r:Int)*1000000000+(nth lu1 (i+m.length-2):Int)<(q:Int)*(nth lv (m.length-2):Int))=true:=by simp;omega
         obtain⟨hq1,hG'⟩:=mh hview.out hG.out (Or.inr hc2);have HG':=At hG';clear hG' hc2 hbig;rcases (by omega:(1000000000:Int)<=(r:Int)+(nth lv (m.length-1):Int)\/(r:Int)+(nth lv (m.length-1):Int)<1000000000) with hr2 | hr2
         ·go_wp2_with fail
          go_quiet (fail)
          go_wp2;go_meet;exact⟨q-1,r+nth lv (m.length-1),_,by go_num,by go_num,jA hview.out HG'.out hvt e2 b1 (Or.inr (by simp only[BB];omega)),by first | rfl | rw[World.drewN_drewN]⟩
         ·have hr2d:decide ((1000000000:Int)<=(r:Int)+(nth lv (m.length-1):Int))=false:=by simp;omega
          go_wp2_with fail
          go_quiet (fail)
          go_wp2
          go_roundg (q-1)
          case rel=>exact⟨r+nth lv (m.length-1),_,by go_num,by go_num,HG',by omega,by omega,by first | rfl | rw[World.drewN_drewN]⟩
          case measure=>omega
        ·have hd2:decide ((r:Int)*1000000000+(nth lu1 (i+m.length-2):Int)<(q:Int)*(nth lv (m.length-2):Int))=false:=by simp;omega
         have hbig2:(q:Int)<1000000000:=by omega
         have HC2:=At hc2;clear hc2 hbig;go_wp2_with fail
         go_quiet (fail)
         go_wp2;go_meet;have hc2:=HC2.out;exact⟨q,r,_,rfl,rfl,jA hview.out hG.out hvt e2 b1 (Or.inl ⟨by simp only[BB];omega,by simp only[BB];omega⟩),by first | rfl | rw[World.drewN_drewN]⟩
     case rest =>
      obtain⟨q,r,n',rfl,rfl,hG,rfl⟩:=hcut;have hmn:=At (hm1.out.drewN n');clear hm1 c0 c1 c2 d1 d2 b0 b1 b2 e1 e2 hvt;have hq1:q<1000000000:=hG.out.small;have hgk:i+m.length<l.length+1:=by omega
      go_wp2;go_loopw [17,148] (fun s17 s148 wq=>∃ (kk bw:Nat) (lu2:List Nat),kk<=m.length/\s17=.int .u64 bw/\s148=.int .i64 kk/\Hid (Sub lu1 lv i q kk bw lu2)/\Hid (Mem w wq w.heap.size gu gv go s (l.length+1) (m.length+1) (l.length+1-m.length) lu2 lv lo)) (fun _ s148 _=>m.length-(intOf s148).toNat)
      case atStart=>exact⟨0,0,lu1,AI _,rfl,rfl,ue lu1 lv i q hrel1.out.dig,hmn⟩
      case round =>
       obtain⟨kk,bw,lu2,hkk,rfl,rfl,hsub,hm2⟩:=hrel;clear hmn;have hl2:=At hsub.out.len;have hbw1:bw<=1000000000:=hsub.out.bor;by_cases hk2:kk<m.length
       ·have dv:=hm2.out.rv.cell (j:=kk) (by rw[hvlen.out];exact hk2);have cu:=hm2.out.ru.cell (j:=i+kk) (by rw[hl2.out,hlu1.out,HLEN.out];omega);have fu:=hm2.out.ru.free (i+kk);have hy:=nlt hv1 (j:=kk) (by rw[hvlen.out];exact hk2);have hu:=nlt hsub.out.dig (j:=i+kk) (by rw[hl2.out,hlu1.out,HLEN.out];omega);have hS:=sE hsub.out.bor hG.out.small (cf hv1 (by rw[hvlen.out];exact hk2));have hS0:0<=(q:Int)*(nth lv kk:Int):=by have:=Int.natCast_nonneg (q*nth lv kk);rw[Cm] at this;exact this
        have hstep:=fun c d hd hc he=>xf (c:=c) (d:=d) hsub.out (by rw[hvlen.out];exact hk2) (by rw[hlu1.out,HLEN.out];omega) hG.out.small hv1 hd hc he;have HST:=At hstep;clear hstep;by_cases hlow:(nth lu2 (i+kk):Int)<((bw:Int)+(q:Int)*(nth lv kk:Int)) % 1000000000
        ·go_wp2;go_roundw
         case rel =>
          have hst:=HST.out 1 (nth lu2 (i+kk)+1000000000-(bw+q*nth lv kk) % BB) (by simp only[BB];omega) (AA _) (by simp only[BB];omega);refine⟨kk+1,_,_,by omega,?_,by go_num,hst,?_⟩
          ·simp only[BB];go_num
          ·have h1:=(hm2.out.setU (i+kk) (nth lu2 (i+kk)+1000000000) _ (by go_num)).setU (i+kk) (nth lu2 (i+kk)+1000000000-(bw+q*nth lv kk) % BB) ((nth lu2 (i+kk):Int)+1000000000-((bw:Int)+(q:Int)*(nth lv kk:Int)) % 1000000000) (by simp only[BB];omega);rw[List.set_set] at h1;exact h1
         case measure=>simp[intOf];omega
        ·go_wp2;go_roundw
         case rel =>
          have hst:=HST.out 0 (nth lu2 (i+kk)-(bw+q*nth lv kk) % BB) (by simp only[BB];omega) (AI _) (by simp only[BB];omega);refine⟨kk+1,_,_,by omega,?_,by go_num,hst,hm2.out.setU (i+kk) _ _ (by simp only[BB];omega)⟩;simp only[BB,Bb];go_num
         case measure=>simp[intOf];omega
       ·have hkm:kk=m.length:=by omega
        subst hkm;clear hk2 hkk;have cu:=hm2.out.ru.cell (j:=i+m.length) (by rw[hl2.out,hlu1.out,HLEN.out];omega);have fu:=hm2.out.ru.free (i+m.length);have hlo:=At hrel1.out.leno;have co:=hm2.out.ro.cell (j:=i) (by have:=hlo.out;rw[hvlen.out,HLEN.out] at this;omega);have fo:=hm2.out.ro.free i;have hu:=nlt hsub.out.dig (j:=i+m.length) (by rw[hl2.out,hlu1.out,HLEN.out];omega);have hgo:go≠gu:=by have:=hm2.out.o3;have:=hm2.out.o4;omega
        have hlenu:i+m.length<lu2.length:=by rw[hl2.out,hlu1.out,HLEN.out];omega
        by_cases hfit:(bw:Int)<=(nth lu2 (i+m.length):Int)
        ·have hdiv:=ve hrel1.out hview.out hv1 (by rw[hvlen.out,HLEN.out];omega) hG.out (by rw[hvlen.out];exact hsub.out) (by rw[hvlen.out];omega);rw[hvlen.out] at hdiv;have HD:=At hdiv;clear hdiv;go_wp2;go_roundw;case rel=>exact⟨i,_,_,by omega,by go_num,HD,(hm2.out.setU (i+m.length) _ _ (by go_num)).setO i q _ rfl⟩
         case measure=>simp[intOf]
        ·have fu2:((wr.setCell ⟨gu,i+m.length,none⟩ (.int .u64 ((nth lu2 (i+m.length):Int)+1000000000-bw)))).frozen? ⟨go,i,none⟩=false:=by rw[World.frozen?_setCell];exact fo
         have hlt2:nth lu2 (i+m.length)+BB-bw<BB:=by simp only[BB];omega
         have HM3:=At (hm2.out.setU (i+m.length) (nth lu2 (i+m.length)+BB-bw) ((nth lu2 (i+m.length):Int)+1000000000-bw) (by simp only[BB];omega));have HA0:=At (sT (lu2.set (i+m.length) (nth lu2 (i+m.length)+BB-bw)) lv i (cA hsub.out.dig hlt2));clear fo co;go_wp2;go_loopw [21,227] (fun s21 s227 wq=>∃ (kk c:Nat) (lu3:List Nat),kk<=m.length/\s21=.int .u64 c/\s227=.int .i64 kk/\Hid (Add (lu2.set (i+m.length) (nth lu2 (i+m.length)+BB-bw)) lv i kk c lu3)/\Hid (Mem w wq w.heap.size gu gv go s (l.length+1) (m.length+1) (l.length+1-m.length) lu3 lv lo)) (fun _ s227 _=>m.length-(intOf s227).toNat)
         case atStart=>exact⟨0,0,_,AI _,rfl,rfl,HA0,HM3⟩
         case round =>
          obtain⟨kk,c,lu3,hkk,rfl,rfl,hadd,hm3⟩:=hrel;clear HM3 HA0 cu fu fu2;have hl3:Hid (lu3.length=l.length+1):=by unfold Hid;rw[hadd.out.len,BO,hl2.out,hlu1.out,HLEN.out]
          have hc1:c<=1:=hadd.out.car;by_cases hk3:kk<m.length
          ·have dv:=hm3.out.rv.cell (j:=kk) (by rw[hvlen.out];exact hk3);have cu:=hm3.out.ru.cell (j:=i+kk) (by rw[hl3.out];omega);have fu:=hm3.out.ru.free (i+kk);have hy:=nlt hv1 (j:=kk) (by rw[hvlen.out];exact hk3);have hu3:=nlt hadd.out.dig (j:=i+kk) (by rw[hl3.out];omega);go_wp2;go_roundw;case rel=>exact⟨kk+1,_,_,by omega,by go_num,by go_num,uJ hadd.out (by rw[hvlen.out];exact hk3) (by rw[BO];omega) hv1,hm3.out.setU (i+kk) _ _ (by go_num)⟩
           case measure=>simp[intOf];omega
          ·have hkm:kk=m.length:=by omega
           subst hkm;clear hk3 hkk;have cu:=hm3.out.ru.cell (j:=i+m.length) (by rw[hl3.out];omega);have fu:=hm3.out.ru.free (i+m.length);have hlo:=At hrel1.out.leno;have co:=hm3.out.ro.cell (j:=i) (by have:=hlo.out;rw[hvlen.out,HLEN.out] at this;omega);have fo:=hm3.out.ro.free i;have hu3:=nlt hadd.out.dig (j:=i+m.length) (by rw[hl3.out];omega);have hdiv:=qu9 hrel1.out hview.out hv1 (by rw[hvlen.out,HLEN.out];omega) hG.out (by rw[hvlen.out];exact hsub.out) (by rw[hvlen.out];omega) (by rw[hvlen.out];exact hadd.out);rw[hvlen.out] at hdiv;have hq0:=hdiv.1;have HD:=At hdiv.2;clear hdiv;go_wp2;go_roundw;case rel=>exact⟨i,_,_,by omega,by go_num,HD,(hm3.out.setU (i+m.length) _ _ (by go_num)).setO i (q-1) _ (by go_num)⟩
           case measure=>simp[intOf]
end Go.Proofs.YtgakllaobooabaaGreatDoor
