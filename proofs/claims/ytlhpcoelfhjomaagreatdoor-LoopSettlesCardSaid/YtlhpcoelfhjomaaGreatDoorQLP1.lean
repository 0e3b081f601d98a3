/- L -/
import Derived.Test.YtlhpcoelfhjomaaGreatDoorQCoef
import Derived.Test.YtlhpcoelfhjomaaGreatDoorQNC4
import Derived.Test.YtlhpcoelfhjomaaGreatDoorQRQ5
set_option linter.all false
set_option maxRecDepth 100000
set_option maxHeartbeats 8000000
namespace Go.Proofs.YtlhpcoelfhjomaaGreatDoor
open Go.RowKit Dg
def aD (l:List ByteArray) (i:Nat):ByteArray:=l.getD i ⟨#[]⟩
theorem fG {l:List ByteArray}{i:Nat} (h:i<l.length):l[i]=aD l i:=by simp[aD,h]
def cj (L:List ByteArray) (i:Nat):List ByteArray:=L.take i++List.replicate (L.length-i) ⟨#[]⟩
theorem jd (L:List ByteArray) {i:Nat} (h:i<=L.length):(cj L i).length=L.length:=by simp[cj];omega
theorem je (L:List ByteArray) {i:Nat} (h:i<L.length):(cj L i).set i L[i]=cj L (i+1):=by
 have e:L.length-i=(L.length-(i+1))+1:=by omega
 have hl:(L.take i).length=i:=by simp;omega
 unfold cj;rw[e,Kj,List.set_append_right i _ (by omega),hl,JJ,Iu,<-IL h,I_];rfl
theorem iw (L:List ByteArray):cj L 0=List.replicate L.length ⟨#[]⟩:=by simp[cj]
theorem iu (L:List ByteArray):cj L L.length=L:=by simp[cj]
def mD (p:List ByteArray) (j:Nat) (k:ByteArray):List ByteArray:=(List.range j).map fun i=>dw (iY (aD p i) (d_ k (aD p (j-i)))) (iY ⟨#[49]⟩ (d_ k k))
theorem Bo (p:List ByteArray) (j:Nat) (k:ByteArray):(mD p j k).length=j:=by simp[mD]
def iC:Nat->List ByteArray->List ByteArray->Option (List ByteArray)
 | 0,_,pf=>some pf
 | j+1,p,pf=>if fD (aD p (j+1))=true then iC j (mD p (j+1) (aD p (j+1))) (pf.set j (aD p (j+1))) else none
def bA (l:List ByteArray):Option (List ByteArray):=iC (l.length-1) l (List.replicate (l.length-1) ⟨#[]⟩)
structure Two (w:World) (v:Value) (p:List ByteArray) (g n:Nat) (pf:List ByteArray):Prop where
 p:IsS w v p
 row:dO w g n pf
 ne:v.ownBlock≠some g
def AE (l:List ByteArray) (w:World) (e:Ending) (w':World):Prop :=
 ∃ v ok,e=.returned (.tuple #[v,.bool ok])/\((∃ pf,bA l=some pf/\ok=true/\IsS w' v pf/\pf.length=l.length-1)\/(bA l=none/\ok=false/\v=.slice none 0 0))/\Below w.heap.size w w'
theorem D6 (v:Value) (l:List ByteArray) (w:World) (hl:IsS w v l) (hpos:0<l.length) (hlen:l.length<1000000) (hG:Gw w) :
  Calls Tryz.prog 59 #[v] w (AE l w):=by
 obtain⟨p0,c0,rfl,hcl,hcm⟩:=id hl.form;have HC:=Ip (xK _ l w hl hpos (by omega));go_enter Tryz.func59,Tryz.ntmps59;go_wp2_with fail
 refine HC.out.mono ?_;rintro e w1 ⟨v1,rfl,hv1,hb1⟩;obtain⟨p1,c1,rfl,-⟩:=id hv1.isS.form;obtain⟨n,hn⟩:∃ n,l.length=n+1:=⟨l.length-1,by omega⟩;have hG1:=hG.below hb1;clear hl HC;go_wp2_with (at_make;refine dz 22 Tryz.underlying22 rfl (.tmp 15) (.tmp 15) rfl _ _ n rfl rfl (by go_num) (by go_num) (by omega) ?_)
 intro w2 hrow hbm hs;have hb2:=hbm _ _ hb1 hb1.size;have hb12:=hbm _ _ (LN _ _) (Iw _)
 have hne:Value.ownBlock (.slice p1 (n+1) c1)≠some w1.heap.size:=fun e=>by
  have:=(World.ownsRow.lt hv1 _ (by rw[hn];exact e)).2;omega
 have hT:Two w2 (.slice p1 (n+1) c1) l w1.heap.size n (List.replicate n ⟨#[]⟩):=⟨by rw[<-hn];exact hv1.isS.below hb12,hrow,hne⟩;have hg0:=hb1.size;have HR:=Ip (show iC n l (List.replicate n ⟨#[]⟩)=bA l by unfold bA;rw[hn];rfl);have HN:=Ip hn;have hnb:n<1000000:=by omega
 obtain⟨g0,hge⟩:∃ g,g=w1.heap.size:=⟨_,rfl⟩;rw[<-hge] at hT hg0 |-;have hG2:=hG1.below hb12;clear hrow hbm hs hv1 hne hb1 hb12 hge hG1;go_wp2;go_loopw [4,6] (fun s4 s6 wr=>∃ (j:Nat) (p pf:List ByteArray),s6=.int .i64 j/\j<=n/\p.length=j+1/\Two wr s4 p g0 n pf/\pf.length=n/\Below w.heap.size w wr/\Hid (iC j p pf=bA l)) (fun _ s6 _=>(intOf s6).toNat)
 case atStart=>exact⟨n,l,_,by go_num,Iw _,HN.out,hT,by simp,hb2,HR.out⟩
 case round =>
  clear hT hb2 HR hG2 hn hpos hlen;obtain⟨j,p,pf,rfl,hjn,hpl,hT,hpfl,hbr,hR⟩:=hrel;have hGr:=hG.below hbr;by_cases hj:0<j
  ·obtain⟨pp,cp,rfl,-⟩:=id hT.p.form;obtain⟨b,o,rfl,hbl,hcell⟩:=hT.p.get (i:=j) (by omega);obtain⟨k,hk⟩:∃ k,k=p[j]'(by omega):=⟨_,rfl⟩;rw[<-hk] at hcell;rw[fG] at hk;have HPL:=Ip hpl;obtain⟨m,rfl⟩:∃ m,j=m+1:=⟨j-1,by omega⟩;have HI:=Ip (zO k wr hGr);have HK:=Ip hk;have hdj:decide ((0:Int)<((m+1:Nat):Int))=true:=by simp
   have hR':bA l=if fD k=true then iC m (mD p (m+1) k) (pf.set m k) else none:=by rw[<-hR.out,hk];rfl
   have HR:=Ip hR';clear hR hR' hk;rw[hpl] at hT |-;by_cases hin:fD k=true
   ·rw[hin] at HI;have HR2:=Ip (show iC m (mD p (m+1) k) (pf.set m k)=bA l by rw[HR.out,if_pos hin]);clear hin HR hpl;go_wp2_with fail
    refine HI.out.mono ?_;rintro e w3 ⟨rfl,hb3⟩;have hml:m<pf.length:=by omega
    have r0:=hT.row.below hb3;have rc:=r0.cell hml;have rf:=r0.free m;have hT4:Two (w3.setCell ⟨g0,m,none⟩ (.string k)) (.slice (some ⟨b,o,none⟩) (m+1+1) cp) p g0 n (pf.set m k):=⟨(hT.p.below hb3).other hT.ne m _,r0.set m k,hT.ne⟩;have hB4:Below w.heap.size w (w3.setCell ⟨g0,m,none⟩ (.string k)):=(LK hbr hb3).setCell (p:=⟨g0,m,none⟩) hg0 _;have hG4:=hG.below hB4;go_upto_region 10 with fail
    generalize w3.setCell ⟨g0,m,none⟩ (.string k)=w4 at *
    have HB4:=Ip hB4;have HT4:=Ip hT4;have HG4:=Ip hG4;clear hT hT4 r0 rc rf hb3 hbr hGr HI hcell hbl hB4 hG4;go_wp2_with fail
    refine (gp k k w4 HG4.out).mono ?_;rintro e w5 ⟨rfl,hb5⟩;go_wp2_with fail
    refine (mC _ _ w5 (HG4.out.below hb5)).mono ?_;rintro e w6 ⟨rfl,hb6⟩;have hb6':=LK hb5 hb6;obtain⟨sc,hsc⟩:∃ t,t=iY ⟨#[49]⟩ (d_ k k):=⟨_,rfl⟩;rw[<-hsc];have HSC:=Ip hsc;clear hsc hb5 hb6;go_wp2_with (at_make;refine dz 22 Tryz.underlying22 rfl (.tmp 40) (.tmp 40) rfl _ _ (m+1) rfl rfl (by go_num) (by go_num) (by omega) ?_)
    intro w7 hrow7 hb7 hs7;have hb67:=hb7 _ _ (LN _ _) (Iw _);have hb47:=hb7 _ _ hb6' hb6'.size;obtain⟨L,hL⟩:∃ L,L=mD p (m+1) k:=⟨_,rfl⟩;have hLl:L.length=m+1:=by rw[hL,Bo]
    have hr7:dO w7 w6.heap.size (m+1) (cj L 0):=by rw[iw,hLl];exact hrow7
    have hle:=hb6'.size;obtain⟨g1,hg1⟩:∃ g,g=w6.heap.size:=⟨_,rfl⟩;rw[<-hg1] at hr7 hb67 hle |-;obtain⟨b',o',e,hbl,hc0⟩:=HT4.out.p.get (i:=0) (by rw[HPL.out];omega);obtain⟨rfl,rfl⟩:b=b'/\o=o':=by simpa using e
    have hcells:∀ i,i<m+2->w4.cell? ⟨b,o+i,none⟩=some (.string (aD p i)):=fun i hi=>by
     obtain⟨b',o',e,-,hc⟩:=HT4.out.p.get (i:=i) (by rw[HPL.out];omega);obtain⟨rfl,rfl⟩:b=b'/\o=o':=by simpa using e
     rw[hc,fG]
    have HCS:=Ip hcells;have hg04:=HT4.out.row.lt;have HB47:=Ip hb47;have HL:=Ip hL;have hml2:m+1<1000000:=by omega
    have hbm:Below g1 w7 w7:=LN _ _;clear e hc0 hcells hb7 hs7 hrow7 hb6' hb47 hL hg1 hb67 hml HK;go_wp2;go_loopw [44] (fun s44 w8=>∃ i:Nat,s44=.int .i64 i/\i<=m+1/\dO w8 g1 (m+1) (cj L i)/\Below g1 w7 w8) (fun s44 _=>m+1-(intOf s44).toNat)
    case atStart=>exact⟨0,rfl,IF _,hr7,hbm⟩
    case round =>
     clear hr7 hbm;obtain⟨i,rfl,him,hr8,hb8⟩:=hrel;have hB8:=HB47.out.trans (hb8.mono hle);by_cases hi:i<m+1
     ·have hdi:decide ((i:Int)<(m:Int)+1)=true:=by simp;omega
      have e1:((m+1:Nat):Int)-(i:Int)=((m+1-i:Nat):Int):=by omega
      go_upto_region 15 with fail
      have hx:=HCS.out i (by omega);have hy:=HCS.out (m+1-i) (by omega);have m4:Below wr.heap.size wr wr.drew:=(LN _ _).drew;have HBd:=Ip (LK hB8 m4);have hgr:=hr8.lt;have hG9:=HG4.out.below HBd.out;have hr9:=hr8.below m4;have hbd:=hb8.trans (m4.mono (by omega));refine av (fun w'=>∃ x:az g1 wr.drew,w'=x.w) (fun i=>i == 13||i == 14||i == 16||i == 18) (by kernel_rfl) (by kernel_rfl) ⟨⟨_,LN _ _⟩,rfl⟩ ?_;have hz:g1<=wr.drew.heap.size:=by have:=m4.size;omega
      generalize wr.drew=wd at *
      have c0:=fun x:az g1 wd=>ag (HBd.out.trans (x.h.mono hle)) hbl hx;have c1:=fun x:az g1 wd=>ag (HBd.out.trans (x.h.mono hle)) hbl hy;clear hx hy m4 hB8 hr8 hb8 hgr;refine ak 13 0 _ _ _ (by kernel_rfl) ?_;simp only[Ix,IC,Iy,IA];repeat (go_big_quiet_step (fail))
      refine wpQuiet_nil ?_;clear e1 c0 c1;refine ap rfl rfl (fun K hK=>?_);go_simp;refine (gp k _ wd hG9).mono ?_;rintro e wa ⟨rfl,hba⟩;refine hK _ _ ⟨⟨_,hba.mono hz⟩,rfl⟩ ?_;clear hK K;try simp only[Act.put,It,Is,Ir,Iq,Iu,Iv]
      refine ap rfl rfl (fun K hK=>?_);go_simp;refine (mC _ _ wa (hG9.below hba)).mono ?_;rintro e wb ⟨rfl,hbb⟩;have hBb:=LK hba hbb;refine hK _ _ ⟨⟨_,hBb.mono hz⟩,rfl⟩ ?_;clear hK K;try simp only[Act.put,It,Is,Ir,Iq,Iu,Iv]
      refine ak 1 15 _ _ _ (by kernel_rfl) ?_;simp only[Ix,IC,Iy,IA];repeat (go_big_quiet_step (fail))
      refine wpQuiet_nil ?_;refine ap rfl rfl (fun K hK=>?_);go_simp;refine (gT _ _ wb (hG9.below hBb)).mono ?_;rintro e wc ⟨rfl,hbc⟩;have hBc:=LK hBb hbc;refine hK _ _ ⟨⟨_,hBc.mono hz⟩,rfl⟩ ?_;clear hK K;try simp only[Act.put,It,Is,Ir,Iq,Iu,Iv]
      refine ak 1 17 _ _ _ (by kernel_rfl) ?_;simp only[Ix,IC,Iy,IA];repeat (go_big_quiet_step (fail))
      refine wpQuiet_nil ?_;have hfl:i<(cj L i).length:=by rw[jd L (by omega)];omega
      have rc:=hr9.below hBc;have rd:=rc.cell hfl;have re:=rc.free i
      have hset:dO (wc.setCell ⟨g1,i,none⟩ (.string (dw (iY (aD p i) (d_ k (aD p (m+1-i)))) sc))) g1 (m+1) (cj L (i+1)):=by
       have h1:=rc.set i (dw (iY (aD p i) (d_ k (aD p (m+1-i)))) sc);have h2:=je L (i:=i) (by omega)
       have h3:L[i]'(by omega)=dw (iY (aD p i) (d_ k (aD p (m+1-i)))) sc:=by
        have:=HL.out;simp only[this,mD,JT,List.getElem_range,<-HSC.out]
       rw[h3] at h2;rw[<-h2];exact h1
      have hP:Below g1 wd (wc.setCell ⟨g1,i,none⟩ (.string (dw (iY (aD p i) (d_ k (aD p (m+1-i)))) sc))):=(hBc.mono hz).setCell (p:=⟨g1,i,none⟩) (Iw _) _;refine ap rfl rfl (fun K hK=>?_);go_simp;refine hK undef _ ⟨⟨_,hP⟩,rfl⟩ ?_;clear hK K;try simp only[Act.put,It,Is,Ir,Iq,Iu,Iv]
      refine aE ?_;have hBn:=hbd.trans hP;clear rc rd re hP hbc hbb hba hBb hBc hr9 hG9;generalize wc.setCell ⟨g1,i,none⟩ (.string (dw (iY (aD p i) (d_ k (aD p (m+1-i)))) sc))=we at *
      go_wp2;go_roundw;case rel=>exact⟨i+1,by go_num,by omega,hset,hBn⟩
      case measure=>simp[intOf]<;>omega
     ·have hi':i=m+1:=by omega
      subst hi';have hfull:cj L (m+1)=L:=by rw[<-hLl];exact iu L
      rw[hfull] at hr8;have hT8:Two wr (.slice (some ⟨g1,0,none⟩) (m+1) (m+1)) L g0 n (pf.set m k):=⟨by have:=hr8.isS;rwa [hLl] at this,HT4.out.row.past hB8 hg04,fun e=>by simp[Value.ownBlock] at e;omega⟩;have hBw:=LK HB4.out hB8;clear hfull hi hr8 hb8 hB8;go_wp2;go_roundw;case rel=>exact⟨m,L,pf.set m k,by go_num,by omega,hLl,hT8,by simp[hpfl],hBw,by rw[HL.out];exact HR2.out⟩
      case measure=>simp[intOf]<;>omega
   ·have hin':fD k=false:=by simpa using hin
    rw[hin'] at HI;have HR2:=Ip (show bA l=none by rw[HR.out,if_neg hin]);clear hin hin' HR hpl;go_wp2_with fail
    refine HI.out.mono ?_;rintro e w3 ⟨rfl,hb3⟩;go_wp2;refine LM (v:=.tuple #[.slice none 0 0,.bool false]) (by simp[results,Tryz.results59,go_sem]) rfl ⟨_,_,rfl,Or.inr ⟨HR2.out,rfl,rfl⟩,LK hbr hb3⟩
  ·have hj0:j=0:=by omega
   subst hj0;have hend:bA l=some pf:=hR.out.symm;have hrow:=hT.row.isS;rw[hpfl] at hrow;have HE:=Ip hend;clear hR hend hj;go_wp2;refine LM (v:=.tuple #[.slice (some ⟨g0,0,none⟩) n n,.bool true]) (by simp[results,Tryz.results59,go_sem]) rfl ⟨_,_,rfl,Or.inl ⟨pf,HE.out,rfl,hrow,by rw[hpfl,HN.out];rfl⟩,hbr⟩
theorem ur (z:Int):rt (z:Rat)=⟨decide (z<0),z.natAbs,1⟩:=by
 unfold rt;rw[Rat.num_intCast,Rat.den_intCast]
theorem zD {n:Nat} (h:n<18446744073709551616):Few n:=pL (k:=20) (by omega) (by decide)
theorem kJ (z:Int) (w:World) (h1:-9223372036854775808<=z) (h2:z<=9223372036854775807) :
  Calls Tryz.prog 60 #[.int .i64 z] w fun e w'=>∃ v,e=.returned v/\IsR w' v (rt (z:Rat))/\Below w.heap.size w w':=by
 rw[ur];go_enter Tryz.func60,Tryz.ntmps60;go_upto_region 1 with fail
 have q3:=cJ.new w (.bool false) (.slice none 0 0) (.slice none 0 0) nofun nofun nofun;have m3:=aj w (.cells #[.bool false,.slice none 0 0,.slice none 0 0] 89);generalize w.alloc (.cells #[.bool false,.slice none 0 0,.slice none 0 0] 89)=w3 at *
 have B3:=Ip q3;have MD:=Ip m3;clear q3 m3;by_cases hz:z<0
 ·have hd:decide (z<0)=true:=decide_eq_true hz;obtain⟨n,rfl⟩:∃ n:Nat,z=-(n:Int)-1:=⟨(-z-1).toNat,by omega⟩;have e1:(-(n:Int)-1)+1=-(n:Int):=by omega
  go_wp2_with fail
  have hp:=kw (n+1) w3 (by omega);try rw[show ((n+1:Nat):Int)=(n:Int)+1 from by omega] at hp
  refine hp.mono ?_;clear hp;rintro e w4 ⟨v4,rfl,hv4,hb4⟩;go_wp2_with fail
  refine (mF w4).mono ?_;rintro e w5 ⟨v5,rfl,hv5,hb5⟩;have hn:=(hv4.isU).below hb5;have hB5:=LK hb4 hb5;obtain⟨pn,cn,rfl,-⟩:=id hn;obtain⟨pd,cd,rfl,-⟩:=id hv5;have hR:IsR w5 (.agg #[.bool true,.slice pn _ cn,.slice pd _ cd]) ⟨true,n+1,1⟩:=⟨_,_,rfl,hn,hv5,zD (n:=n+1) (by omega),zD (n:=1) (by decide)⟩;have B8:=B3.out.below hB5;have k0:=B8.c0;have k1:=B8.c1;have k2:=B8.c2;have f0:=B8.fr 0;have f1:=B8.fr 1;have f2:=B8.fr 2;have P:=Ip (B8.putR hR);have M8:=Ip (P.out.2.2 _ w (LK MD.out hB5) (Iw _));have HE:=Ip (show (⟨true,n+1,1⟩:Rt)=⟨decide ((-(n:Int)-1)<0),((-(n:Int)-1)).natAbs,1⟩ from by congr 1<;>(first | omega | (simp;done) | (simp;omega)));clear hR hn hv4 hv5 B8 hb4 hb5 hB5;go_wp2_with fail
  have q0:=P.out.1.c0;have q1:=P.out.1.c1;have q2:=P.out.1.c2;refine LM (v:=.agg #[.bool true,.slice pn (aq BB (n+1)).length cn,.slice pd (aq BB 1).length cd]) (by simp[wU] at q0 q1 q2 |-;simp[results,Tryz.results60,go_sem,q0,q1,q2]) rfl ⟨_,rfl,by rw[<-HE.out];exact P.out.2.1,M8.out⟩
 ·have hd:decide (z<0)=false:=decide_eq_false hz;obtain⟨n,rfl⟩:∃ n:Nat,z=n:=⟨z.toNat,by omega⟩;go_wp2_with fail
  have hp:=kw (n) w3 (by omega);try rw[show ((n+1:Nat):Int)=(n:Int)+1 from by omega] at hp
  refine hp.mono ?_;clear hp;rintro e w4 ⟨v4,rfl,hv4,hb4⟩;go_wp2_with fail
  refine (mF w4).mono ?_;rintro e w5 ⟨v5,rfl,hv5,hb5⟩;have hn:=(hv4.isU).below hb5;have hB5:=LK hb4 hb5;obtain⟨pn,cn,rfl,-⟩:=id hn;obtain⟨pd,cd,rfl,-⟩:=id hv5;have hR:IsR w5 (.agg #[.bool false,.slice pn _ cn,.slice pd _ cd]) ⟨false,n,1⟩:=⟨_,_,rfl,hn,hv5,zD (n:=n) (by omega),zD (n:=1) (by decide)⟩;have B8:=B3.out.below hB5;have k0:=B8.c0;have k1:=B8.c1;have k2:=B8.c2;have f0:=B8.fr 0;have f1:=B8.fr 1;have f2:=B8.fr 2;have P:=Ip (B8.putR hR);have M8:=Ip (P.out.2.2 _ w (LK MD.out hB5) (Iw _));have HE:=Ip (show (⟨false,n,1⟩:Rt)=⟨decide ((n:Int)<0),((n:Int)).natAbs,1⟩ from by congr 1<;>(first | omega | (simp;done) | (simp;omega)));clear hR hn hv4 hv5 B8 hb4 hb5 hB5;go_wp2_with fail
  have q0:=P.out.1.c0;have q1:=P.out.1.c1;have q2:=P.out.1.c2;refine LM (v:=.agg #[.bool false,.slice pn (aq BB (n)).length cn,.slice pd (aq BB 1).length cd]) (by simp[wU] at q0 q1 q2 |-;simp[results,Tryz.results60,go_sem,q0,q1,q2]) rfl ⟨_,rfl,by rw[<-HE.out];exact P.out.2.1,M8.out⟩
theorem FV (z:Int):sgz (decide (z<0) != false) z.natAbs=z:=by
 unfold sgz;by_cases h:z<0
 ·simp[h];omega
 ·simp[h];omega
theorem Ii (z:Int) (d:Nat) (w:World) (h1:-9223372036854775808<=z) (h2:z<=9223372036854775807) (hd:0<d) (hd2:d<=9223372036854775807) (hG:Gw w) :
  Calls Tryz.prog 24 #[.int .i64 z,.int .i64 d] w fun e w'=>e=.returned (.tuple #[.string (eB (CQ.real (mkRat z d))).1,.int .i64 (eB (CQ.real (mkRat z d))).2])/\Below w.heap.size w w':=by
 have hq:dP (decide (z<0) != false) z.natAbs d=rt (mkRat z d):=by rw[mR _ _ _ hd,FV]
 have hdd:((d:Int) == 0)=false:=by simp;omega
 have hr2:rt ((d:Int):Rat)=⟨false,d,1⟩:=by rw[ur];congr 1<;>simp
 have hr1:=ur z;have HQ:=Ip hq;have HR1:=Ip hr1;have HR2:=Ip hr2;have HD:=Ip hd;clear hq hr1 hr2 hd;go_enter Tryz.func24,Tryz.ntmps24;go_wp2_with fail
 refine (kJ z w h1 h2).mono ?_;rintro e w1 ⟨v1,rfl,hv1,hb1⟩;rw[HR1.out] at hv1;go_wp2_with fail
 refine (kJ d w1 (by omega) (by omega)).mono ?_;rintro e w2 ⟨v2,rfl,hv2,hb2⟩;rw[HR2.out] at hv2;have hv1:=hv1.below hb2;have hB2:=LK hb1 hb2;obtain⟨xm,xp,xl,xc,xq,xk,xd,rfl⟩:=hv1.form;obtain⟨ym,yp,yl,yc,yq,yk,yd,rfl⟩:=hv2.form;clear hb1 hb2;go_upto_region 4 with fail
 have q1:=cJ.new w2 (.bool xm) (.slice xp xl xc) (.slice xq xk xd) nofun nofun nofun;have m1:=aj w2 (.cells #[.bool xm,.slice xp xl xc,.slice xq xk xd] 89);have z1:=size_alloc w2 (.cells #[.bool xm,.slice xp xl xc,.slice xq xk xd] 89);generalize w2.alloc (.cells #[.bool xm,.slice xp xl xc,.slice xq xk xd] 89)=w3 at *
 have q2:=cJ.new w3 (.bool ym) (.slice yp yl yc) (.slice yq yk yd) nofun nofun nofun;have m2:=aj w3 (.cells #[.bool ym,.slice yp yl yc,.slice yq yk yd] 89);generalize w3.alloc (.cells #[.bool ym,.slice yp yl yc,.slice yq yk yd] 89)=w4 at *
 rw[z1] at q2;have q1:=q1.below m2;have hb4:=LK m1 m2;have hB4:=LK hB2 hb4;obtain⟨xn',xd',hxe,hxn,hxd,f1,f2⟩:=hv1.below hb4;obtain⟨yn',yd',hye,hyn,hyd,g1,g2⟩:=hv2.below hb4;simp only at hxn hxd hyn hyd f1 f2 g1 g2;obtain⟨rfl,rfl,rfl⟩:xm=decide (z<0)/\(.slice xp xl xc)=xn'/\(.slice xq xk xd)=xd':=by simpa using hxe
 obtain⟨rfl,rfl,rfl⟩:ym=false/\(.slice yp yl yc)=yn'/\(.slice yq yk yd)=yd':=by simpa using hye
 have HRED:=Ip (gG (decide (z<0) != false) _ _ _ _ w4 hxn hyn f1 g1 HD.out);rw[HQ.out] at HRED;have hG4:=hG.below hB4;have a0:=q1.c0;have a1:=q1.c1;have a2:=q1.c2;have b0:=q2.c0;have b1:=q2.c1;have b2:=q2.c2;clear q1 q2 m1 m2 z1 hb4 hB2 hv1 hv2 hxe hye hxn hxd hyn hyd f1 f2 g1 g2;have hbn:(decide (z<0) != false)=decide (z<0):=by simp
 rw[hbn] at HRED;go_wp2_with fail
 refine HRED.out.mono ?_;rintro e w5 ⟨v5,rfl,hv5,hb5⟩;go_wp2_with fail
 refine (fI _ _ _ hv5).mono ?_;rintro e w6 ⟨v6,rfl,hv6,hb6⟩;rw[dX] at hv6;have hB6:=LK hb5 hb6;go_wp2_with fail
 refine (D7 _ _ w6 hv6 (hG4.below hB6)).mono ?_;rintro e w7 ⟨rfl,hb7⟩;have hB7:=LK hB6 hb7;go_wp2;refine LM (v:=.tuple #[.string (eB (CQ.real (mkRat z d))).1,.int .i64 (eB (CQ.real (mkRat z d))).2]) (by simp[results,Tryz.results24,go_sem]) rfl ⟨rfl,LK hB4 hB7⟩
theorem oZ (v:Value) (l:List ByteArray) (w:World) (hl:IsS w v l) (hpos:0<l.length) (hlen:l.length<1000000) (hG:Gw w) :
  Calls Tryz.prog 23 #[v] w fun e w'=>e=.returned (.bool (bA l).isSome)/\Below w.heap.size w w':=by
 have HP:=Ip (D6 v l w hl hpos hlen hG);obtain⟨p,c,rfl,-⟩:=hl.form;go_enter Tryz.func23,Tryz.ntmps23;go_wp2_with fail
 refine HP.out.mono ?_;rintro e w1 ⟨v1,ok,rfl,hcase,hb1⟩;rcases hcase with ⟨pf,hq,rfl,hp,-⟩ | ⟨hq,rfl,rfl⟩
 ·have HQ:=Ip hq;obtain⟨p1,c1,rfl,-⟩:=hp.form;clear hq hp;go_wp2;go_ret;exact⟨by rw[HQ.out];rfl,hb1⟩
 ·have HQ:=Ip hq;clear hq;go_wp2;go_ret;exact⟨by rw[HQ.out];rfl,hb1⟩
structure IsF (w:World) (v:Value) (a b:List ByteArray):Prop where
 ex:∃ p c q d,v=.agg #[.slice p a.length c,.slice q b.length d]/\IsS w (.slice p a.length c) a/\IsS w (.slice q b.length d) b
theorem IsF.below {w w':World}{v:Value}{a b:List ByteArray} (h:IsF w v a b) (hb:Below w.heap.size w w'):IsF w' v a b:=by
 obtain⟨p,c,q,d,e,h1,h2⟩:=h.ex;exact⟨p,c,q,d,e,h1.below hb,h2.below hb⟩
theorem IsS.words {w:World}{p:Option Addr}{n c:Nat}{l:List ByteArray} (h:IsS w (.slice p n c) l):gI w p l:=by
 refine⟨fun hl=>?_⟩;obtain⟨b,o,rfl,hlt,-⟩:=h.get hl;refine⟨b,o,rfl,hlt,fun i hi=>?_⟩;obtain⟨b',o',e,-,hc⟩:=h.get hi;obtain⟨rfl,rfl⟩:b=b'/\o=o':=by simpa using e
 exact hc
def aB (a b:List ByteArray):Int:=if aC a b=true then 0 else 30
theorem fP (v:Value) (a b:List ByteArray) (w:World) (h:IsF w v a b) (hG:Gx w) :
  Calls Tryz.prog 11 #[v] w fun e w'=>e=.returned (.int .i64 (aB a b))/\Below w.heap.size w w':=by
 obtain⟨p,c,q,d,rfl,h1,h2⟩:=h.ex;refine (GG p q c d a b w h1.words h2.words hG).mono ?_;rintro e w' ⟨n,rfl,hn,hb⟩;refine⟨?_,hb⟩;rcases hn with ⟨rfl,hc⟩ | ⟨rfl,hc⟩
 ·unfold aB;rw[hc.out];rfl
 ·unfold aB;rw[hc.out];rfl
theorem bv {a b:List ByteArray} (h:aC a b=true):1<=b.length/\b.length<=7/\1<=a.length/\a.length<=7/\(∀ s∈a,bU s.data.toList=true)/\(∀ s∈b,bU s.data.toList=true)/\pU b=some [49]:=by
 unfold aC gQ at h;simp only[IR,decide_eq_true_eq,I5] at h;exact⟨h.1.2.1.1,h.1.2.1.2,h.1.1.1.1,h.1.1.1.2,h.1.1.2,h.1.2.2,h.2⟩
theorem aG (w:World) (x y:Value):(w.alloc (.cells #[x,y] 24)).cell? ⟨w.heap.size,0,none⟩=some x/\(w.alloc (.cells #[x,y] 24)).cell? ⟨w.heap.size,1,none⟩=some y :=
 ⟨aI w _ _ 0 _ rfl,aI w _ _ 1 _ rfl⟩
def kE (r:ByteArray):Nat->ByteArray
 | 0=>⟨#[49]⟩
 | i+1=>d_ (kE r i) r
def dH (out:List ByteArray) (r:ByteArray):List ByteArray:=(List.range out.length).map fun i=>dw (aD out i) (kE r i)
theorem uF (out:List ByteArray) (r:ByteArray) {i:Nat} (h:i<out.length):(dH out r).take (i+1)=(dH out r).take i++[dw (aD out i) (kE r i)]:=by
 have hl:i<(dH out r).length:=by simp[dH,h]
 rw[show (dH out r).take (i+1)=(dH out r).take i++[(dH out r)[i]] from (IL hl).symm];simp[dH]
def cU (out:List ByteArray) (r:ByteArray):Bool:=(bA (dH out r)).isSome
theorem Au (v:Value) (l:List ByteArray) (r:ByteArray) (w:World) (hl:IsS w v l) (hpos:0<l.length) (hlen:l.length<1000000) (hG:Gw w) :
  Calls Tryz.prog 14 #[v,.string r] w fun e w'=>e=.returned (.bool (cU l r))/\Below w.heap.size w w':=by
 obtain⟨p,c,rfl,-⟩:=id hl.form;have HL:=Ip hl;have HG:=Ip hG;clear hl hG;go_enter Tryz.func14,Tryz.ntmps14;go_wp2;go_loopw [5,6,11] (fun s5 s6 s11 wr=>∃ i:Nat,s5=.string (kE r i)/\s11=.int .i64 i/\i<=l.length/\dh wr w.heap.size s6 ((dH l r).take i)/\Below w.heap.size w wr) (fun _ _ s11 _=>l.length-(intOf s11).toNat)
 case atStart=>exact⟨0,rfl,rfl,IF _,dh.nil _ _,LN _ _⟩
 case round =>
  obtain⟨i,rfl,rfl,hin,hown,hbr⟩:=hrel;by_cases hi:i<l.length
  ·obtain⟨b,o,rfl,hbl,hcell⟩:=(HL.out.below hbr).get hi;rw[fG] at hcell;have HT:=Ip (uF l r hi);go_wp2_with fail
   refine (gT _ _ wr (HG.out.below hbr)).mono ?_;rintro e w1 ⟨rfl,hb1⟩;have hB1:=LK hbr hb1;have hw1:=hown.below hb1;have hbs:=hB1.size;have hzl:((dH l r).take i).length<1000000000:=by simp;omega
   clear hb1 hbr hown hcell;go_wp2_with (at_builtin;refine bR 22 Tryz.underlying22 rfl (.tmp 15) (.tmp 19) rfl w.heap.size _ _ _ rfl hw1 rfl hzl hbs ?_)
   intro v' w2 hw2 hb2;have hB2:=hb2 _ _ hB1 (Iw _);rw[<-HT.out] at hw2;clear hw1 hb2 hB1;go_wp2_with fail
   refine (gp _ _ w2 (HG.out.below hB2)).mono ?_;rintro e w3 ⟨rfl,hb3⟩;have hB3:=LK hB2 hb3;have hw3:=hw2.below hb3;clear hb3 hB2 hw2;go_wp2;go_roundw;case rel=>exact⟨i+1,rfl,by go_num,by omega,hw3,hB3⟩
   case measure=>simp[intOf]<;>omega
  ·have hin':i=l.length:=by omega
   subst hin';have hlw:(dH l r).length=l.length:=by simp[dH]
   rw[<-hlw,IZ] at hown;have hs:=hown.isS;have HS:=Ip (oZ _ _ wr hs (by omega) (by omega) (HG.out.below hbr));obtain⟨q,d,rfl,-⟩:=hs.form;clear hown hs hi hlw;go_wp2_with fail
   refine HS.out.mono ?_;rintro e w1 ⟨rfl,hb1⟩;go_wp2;go_ret;exact⟨rfl,LK hbr hb1⟩
theorem cX {n k:Nat} (h:n<10 ^ k) (hk:k<=390000):bu n:=by
 unfold bu;refine Jb (aZ (k:=k / 4+1) aH (Iz h ?_)) (by omega);have e:RR ^ (k / 4+1)=10 ^ (4*(k / 4+1)):=by rw[JP];rfl
 rw[e];exact IQ (by decide) (by omega)
def b9 (w:World) (v:Value) (q:Rat):Prop:=cW w v (rt q)
theorem b9.below {w w':World}{v:Value}{q:Rat} (h:b9 w v q) (hb:Below w.heap.size w w'):b9 w' v q:=cW.below h hb
theorem dF {n:Nat} (h:bu n):(aq RR n).length<1000000:=Iz h (by decide)
theorem b9.open {w:World}{v:Value}{q:Rat} (h:b9 w v q):∃ m p N c p' N' c',v=.agg #[.bool m,.slice p N c,.bool false,.slice p' N' c']/\IsZ w (.agg #[.bool m,.slice p N c]) q.num/\IsZ w (.agg #[.bool false,.slice p' N' c']) (q.den:Int):=by
 obtain⟨p,N,c,p',N',c',e,-,-,-,-,-,-,h1,h2⟩:=h.parts;refine⟨_,p,N,c,p',N',c',e,⟨_,rfl,h1⟩,jF h2⟩
theorem gD (q:Rat):(q.num:Rat) / (q.den:Rat)=q:=by rw[<-Rat.mkRat_eq_div,Rat.mkRat_self]
theorem ip {D:Nat} (h:0<D):(D:Rat)≠0:=by
 intro e;have e2:((D:Int):Rat)=((0:Int):Rat):=e;have:=Rat.intCast_inj.1 e2;omega
theorem eY (va vb:Value) (a b:Rat) (k l:Nat) (w:World) (ha:b9 w va a) (hb:b9 w vb b) (hk:Sz k (rt a)) (hl:Sz l (rt b)) (hkl:k+l<=390000) :
  Calls Tryz.prog 58 #[va,vb] w fun e w'=>∃ v,e=.returned v/\b9 w' v (a*b)/\Below w.heap.size w w':=by
 obtain⟨m,p,N,c,p',N',c',rfl,hn,hd⟩:=ha.open;obtain⟨m2,q,M,d,q',M',d',rfl,hn2,hd2⟩:=hb.open;have hl3:=nZ w (.cells #[.bool m,.slice p N c,.bool false,.slice p' N' c'] 44) (.cells #[.bool m2,.slice q M d,.bool false,.slice q' M' d'] 44) (.cells #[.bool false,.slice none 0 0,.bool false,.slice none 0 0] 44);have an:a.num.natAbs<10 ^ k:=hk.n;have ad:a.den<10 ^ k:=hk.d;have bn:b.num.natAbs<10 ^ l:=hl.n;have bd:b.den<10 ^ l:=hl.d;have f1:=Ip (cX an (by omega));have f2:=Ip (cX ad (by omega));have f3:=Ip (cX bn (by omega));have f4:=Ip (cX bd (by omega));have f5:=Ip (show bu (a.num*b.num).natAbs by rw[Jx];exact cX (dK an bn) hkl);have f6:=Ip (show bu ((a.den:Int)*(b.den:Int)).natAbs by rw[Jx];exact cX (dK ad bd) hkl);have ha0:=a.den_pos;have hb0:=b.den_pos;have hne:(a.den:Int)*(b.den:Int)≠0:=Int.mul_ne_zero (by omega) (by omega)
 have HE:=Ip (show ((a.num*b.num:Int):Rat) / (((a.den:Int)*(b.den:Int):Int):Rat)=a*b from by
  have e1:=gD a;have e2:=gD b;have n1:=ip ha0;have n2:=ip hb0;rw[Rat.intCast_mul,Rat.intCast_mul]
  show ((a.num:Rat)*(b.num:Rat)) / ((a.den:Rat)*(b.den:Rat))=a*b
  generalize (a.den:Rat)=x at *
  generalize (b.den:Rat)=y at *
  generalize (a.num:Rat)=s at *
  generalize (b.num:Rat)=t at *
  rw[<-e1,<-e2]
  grind)
 clear an ad bn bd ha0 hb0;go_enter Tryz.func58,Tryz.ntmps58;go_upto_region 1 with fail
 generalize ((w.alloc (.cells #[.bool m,.slice p N c,.bool false,.slice p' N' c'] 44)).alloc (.cells #[.bool m2,.slice q M d,.bool false,.slice q' M' d'] 44)).alloc (.cells #[.bool false,.slice none 0 0,.bool false,.slice none 0 0] 44)=w1 at *
 refine av (fun w'=>∃ x:az (w.heap.size+1+1) w1.drew,w'=x.w) (fun j=>j == 4||j == 9||j == 10||j == 11) (by kernel_rfl) (by kernel_rfl) ⟨⟨_,LN _ _⟩,rfl⟩ ?_;have hBd:Below w1.heap.size w1 w1.drew:=(LN _ _).drew;have s0:=(hBd.block _ (ah hl3.s0)).trans hl3.s0;have s1:=(hBd.block _ (ah hl3.s1)).trans hl3.s1;have s2:=(hBd.block _ (ah hl3.s2)).trans hl3.s2;have M1:=Ip (hl3.below.trans (hBd.mono hl3.below.size));have hBz:=hl3.below.trans (hBd.mono hl3.below.size);have HN:=Ip (hn.below hBz);have HD:=Ip (hd.below hBz);have HN2:=Ip (hn2.below hBz);have HD2:=Ip (hd2.below hBz);have HLT:=Ip (ah s2);clear hl3 hBd hBz hn hd hn2 hd2 ha hb;generalize w1.drew=wd at *
 have hB0:Below (w.heap.size+1+1) wd wd:=LN _ _;have e0:=af s0 0;have e1:=af s0 1;have e2:=af s0 2;have e3:=af s0 3;have g0:=af s1 0;have g1:=af s1 1;have g2:=af s1 2;have g3:=af s1 3;have d0:=fun x:az (w.heap.size+1+1) wd=>(x.h.cell (p:=⟨w.heap.size,0,none⟩) (by show w.heap.size<_;omega)).trans e0;have d1:=fun x:az (w.heap.size+1+1) wd=>(x.h.cell (p:=⟨w.heap.size,1,none⟩) (by show w.heap.size<_;omega)).trans e1;have d2:=fun x:az (w.heap.size+1+1) wd=>(x.h.cell (p:=⟨w.heap.size,2,none⟩) (by show w.heap.size<_;omega)).trans e2;have d3:=fun x:az (w.heap.size+1+1) wd=>(x.h.cell (p:=⟨w.heap.size,3,none⟩) (by show w.heap.size<_;omega)).trans e3;have b0:=fun x:az (w.heap.size+1+1) wd=>(x.h.cell (p:=⟨w.heap.size+1,0,none⟩) (by show w.heap.size+1<_;omega)).trans g0;have b1:=fun x:az (w.heap.size+1+1) wd=>(x.h.cell (p:=⟨w.heap.size+1,1,none⟩) (by show w.heap.size+1<_;omega)).trans g1;have b2:=fun x:az (w.heap.size+1+1) wd=>(x.h.cell (p:=⟨w.heap.size+1,2,none⟩) (by show w.heap.size+1<_;omega)).trans g2;have b3:=fun x:az (w.heap.size+1+1) wd=>(x.h.cell (p:=⟨w.heap.size+1,3,none⟩) (by show w.heap.size+1<_;omega)).trans g3;clear e0 e1 e2 e3 g0 g1 g2 g3 s0 s1;have hle:w.heap.size+1+1<=wd.heap.size:=JI HLT.out;refine ak 4 0 _ _ _ (by kernel_rfl) ?_;simp only[Ix,IC,Iy,IA];repeat (go_big_quiet_step (fail))
 refine wpQuiet_nil ?_;refine ap rfl rfl (fun K hK=>?_);go_simp;refine (gH _ _ _ _ wd HN.out HN2.out (dF f1.out) (dF f3.out)).mono ?_;rintro e w2 ⟨v2,rfl,hz2,hb2⟩;obtain⟨z1,Z1,z2,rfl,-⟩:=hz2.parts;refine hK _ _ ⟨⟨_,hb2.mono hle⟩,rfl⟩ ?_;clear hK K;try simp only[Act.put,It,Is,Ir,Iq,Iu,Iv]
 refine ak 4 5 _ _ _ (by kernel_rfl) ?_;simp only[Ix,IC,Iy,IA];repeat (go_big_quiet_step (fail))
 refine wpQuiet_nil ?_;refine ap rfl rfl (fun K hK=>?_);go_simp;refine (gH _ _ _ _ w2 (HD.out.below hb2) (HD2.out.below hb2) (dF f2.out) (dF f4.out)).mono ?_;rintro e w3 ⟨v3,rfl,hz3,hb3⟩;have hB3:=LK hb2 hb3;refine hK _ _ ⟨⟨_,hB3.mono hle⟩,rfl⟩ ?_;clear hK K;try simp only[Act.put,It,Is,Ir,Iq,Iu,Iv]
 refine ap rfl rfl (fun K hK=>?_);go_simp;refine (qK _ _ _ _ w3 (hz2.below hb3) hz3 hne f5.out f6.out).mono ?_;rintro e w4 ⟨v4,rfl,hv4,hb4⟩;have hB4:=LK hB3 hb4;rw[HE.out] at hv4;refine hK _ _ ⟨⟨_,hB4.mono hle⟩,rfl⟩ ?_;clear hK K;try simp only[Act.put,It,Is,Ir,Iq,Iu,Iv]
 have hv4:b9 w4 v4 (a*b):=hv4;clear hz2 hz3 hb2 hb3 hb4 hB3;obtain⟨mo,po,No,co,po',No',co',rfl,ho,ho'⟩:=hv4.open;have u2:=(hB4.block _ HLT.out).trans s2;have hP:=aR (u0:=.bool mo) (u1:=.slice po No co) (u2:=.bool false) (u3:=.slice po' No' co') u2;have hZ:=Ip (cW.puts (hv4) hP u2 bf);have hBF:=Ip ((M1.out.trans (hB4.mono (IB (I1 _) (IB (I1 _) hle)))).trans (hP.below w.heap.size (by omega)));have hBG:=(hB4.mono hle).trans (hP.below (w.heap.size+1+1) (Iw _));have q0:=af u2 0;have q1:=af u2 1;have q2:=af u2 2;have q3:=af u2 3;have f0:=LL w4 (w.heap.size+1+1) 0 _ _ u2;have f1:=LL w4 (w.heap.size+1+1) 1 _ _ u2;have f2:=LL w4 (w.heap.size+1+1) 2 _ _ u2;have f3:=LL w4 (w.heap.size+1+1) 3 _ _ u2;refine ap rfl rfl (fun K hK=>?_);go_simp;change K _ (dL w4 (w.heap.size+1+1) (.bool mo) (.slice po No co) (.bool false) (.slice po' No' co'));refine hK undef _ ⟨⟨_,hBG⟩,rfl⟩ ?_;clear hK K d0 d1 d2 d3 b0 b1 b2 b3 q0 q1 q2 q3 f0 f1 f2 f3 hBG;try simp only[Act.put,It,Is,Ir,Iq,Iu,Iv]
 refine aE ?_;go_wp2_with fail
 (try simp only[Exit.inBlock,Exit.then])
 refine LM (results_cell_row rfl _ _ (w.heap.size+1+1) _ _ (0,0) _ rfl hP.row Tryz.underlying44 rfl (by kernel_rfl)) rfl ?_;exact⟨_,rfl,hZ.out,hBF.out⟩
theorem E6 {x y:Int}{k:Nat} (h1:x.natAbs<10 ^ k) (h2:y.natAbs<10 ^ k):(x+y).natAbs<10 ^ (k+1):=by
 have:=IN (n:=10) (m:=k);omega
theorem wH (va vb:Value) (a b:Rat) (k l:Nat) (w:World) (ha:b9 w va a) (hb:b9 w vb b) (hk:Sz k (rt a)) (hl:Sz l (rt b)) (hkl:k+l+1<=390000) :
  Calls Tryz.prog 74 #[va,vb] w fun e w'=>∃ v,e=.returned v/\b9 w' v (a+b)/\Below w.heap.size w w':=by
 obtain⟨m,p,N,c,p',N',c',rfl,hn,hd⟩:=ha.open;obtain⟨m2,q,M,d,q',M',d',rfl,hn2,hd2⟩:=hb.open;have hl3:=nZ w (.cells #[.bool m,.slice p N c,.bool false,.slice p' N' c'] 44) (.cells #[.bool m2,.slice q M d,.bool false,.slice q' M' d'] 44) (.cells #[.bool false,.slice none 0 0,.bool false,.slice none 0 0] 44);have an:a.num.natAbs<10 ^ k:=hk.n;have ad:a.den<10 ^ k:=hk.d;have bn:b.num.natAbs<10 ^ l:=hl.n;have bd:b.den<10 ^ l:=hl.d;have f1:=Ip (cX an (by omega));have f2:=Ip (cX ad (by omega));have f3:=Ip (cX bn (by omega));have f4:=Ip (cX bd (by omega));have h5:(a.num*(b.den:Int)).natAbs<10 ^ (k+l):=by rw[Jx];exact dK an bd
 have h7:(b.num*(a.den:Int)).natAbs<10 ^ (k+l):=by rw[Jx,KQ k l];exact dK bn ad
 have f5:=Ip (cX h5 (by omega));have f7:=Ip (cX h7 (by omega));have f8:=Ip (cX (E6 h5 h7) hkl);have f6:=Ip (show bu ((a.den:Int)*(b.den:Int)).natAbs by rw[Jx];exact cX (dK ad bd) (by omega));have ha0:=a.den_pos;have hb0:=b.den_pos;have hne:(a.den:Int)*(b.den:Int)≠0:=Int.mul_ne_zero (by omega) (by omega)
 have HE:=Ip (show ((a.num*(b.den:Int)+b.num*(a.den:Int):Int):Rat) / (((a.den:Int)*(b.den:Int):Int):Rat)=a+b from by
  have e1:=gD a;have e2:=gD b;have n1:=ip ha0;have n2:=ip hb0;rw[Rat.intCast_add,Rat.intCast_mul,Rat.intCast_mul,Rat.intCast_mul]
  show ((a.num:Rat)*(b.den:Rat)+(b.num:Rat)*(a.den:Rat)) / ((a.den:Rat)*(b.den:Rat))=a+b
  generalize (a.den:Rat)=x at *
  generalize (b.den:Rat)=y at *
  generalize (a.num:Rat)=s at *
  generalize (b.num:Rat)=t at *
  rw[<-e1,<-e2]
  grind)
 clear an ad bn bd ha0 hb0 h5 h7;go_enter Tryz.func74,Tryz.ntmps74;go_upto_region 1 with fail
 generalize ((w.alloc (.cells #[.bool m,.slice p N c,.bool false,.slice p' N' c'] 44)).alloc (.cells #[.bool m2,.slice q M d,.bool false,.slice q' M' d'] 44)).alloc (.cells #[.bool false,.slice none 0 0,.bool false,.slice none 0 0] 44)=w1 at *
 refine av (fun w'=>∃ x:az (w.heap.size+1+1) w1.drew,w'=x.w) (fun j=>j == 4||j == 9||j == 10||j == 15||j == 16||j == 17) (by kernel_rfl) (by kernel_rfl) ⟨⟨_,LN _ _⟩,rfl⟩ ?_;have hBd:Below w1.heap.size w1 w1.drew:=(LN _ _).drew;have s0:=(hBd.block _ (ah hl3.s0)).trans hl3.s0;have s1:=(hBd.block _ (ah hl3.s1)).trans hl3.s1;have s2:=(hBd.block _ (ah hl3.s2)).trans hl3.s2;have M1:=Ip (hl3.below.trans (hBd.mono hl3.below.size));have hBz:=hl3.below.trans (hBd.mono hl3.below.size);have HN:=Ip (hn.below hBz);have HD:=Ip (hd.below hBz);have HN2:=Ip (hn2.below hBz);have HD2:=Ip (hd2.below hBz);have HLT:=Ip (ah s2);clear hl3 hBd hBz hn hd hn2 hd2 ha hb;generalize w1.drew=wd at *
 have hB0:Below (w.heap.size+1+1) wd wd:=LN _ _;have e0:=af s0 0;have e1:=af s0 1;have e2:=af s0 2;have e3:=af s0 3;have g0:=af s1 0;have g1:=af s1 1;have g2:=af s1 2;have g3:=af s1 3;have d0:=fun x:az (w.heap.size+1+1) wd=>(x.h.cell (p:=⟨w.heap.size,0,none⟩) (by show w.heap.size<_;omega)).trans e0;have d1:=fun x:az (w.heap.size+1+1) wd=>(x.h.cell (p:=⟨w.heap.size,1,none⟩) (by show w.heap.size<_;omega)).trans e1;have d2:=fun x:az (w.heap.size+1+1) wd=>(x.h.cell (p:=⟨w.heap.size,2,none⟩) (by show w.heap.size<_;omega)).trans e2;have d3:=fun x:az (w.heap.size+1+1) wd=>(x.h.cell (p:=⟨w.heap.size,3,none⟩) (by show w.heap.size<_;omega)).trans e3;have b0:=fun x:az (w.heap.size+1+1) wd=>(x.h.cell (p:=⟨w.heap.size+1,0,none⟩) (by show w.heap.size+1<_;omega)).trans g0;have b1:=fun x:az (w.heap.size+1+1) wd=>(x.h.cell (p:=⟨w.heap.size+1,1,none⟩) (by show w.heap.size+1<_;omega)).trans g1;have b2:=fun x:az (w.heap.size+1+1) wd=>(x.h.cell (p:=⟨w.heap.size+1,2,none⟩) (by show w.heap.size+1<_;omega)).trans g2;have b3:=fun x:az (w.heap.size+1+1) wd=>(x.h.cell (p:=⟨w.heap.size+1,3,none⟩) (by show w.heap.size+1<_;omega)).trans g3;clear e0 e1 e2 e3 g0 g1 g2 g3 s0 s1;have hle:w.heap.size+1+1<=wd.heap.size:=JI HLT.out;refine ak 4 0 _ _ _ (by kernel_rfl) ?_;simp only[Ix,IC,Iy,IA];repeat (go_big_quiet_step (fail))
 refine wpQuiet_nil ?_;refine ap rfl rfl (fun K hK=>?_);go_simp;refine (gH _ _ _ _ wd HN.out HD2.out (dF f1.out) (dF f4.out)).mono ?_;rintro e w2 ⟨v2,rfl,hz2,hb2⟩;obtain⟨z1,Z1,z2,rfl,-⟩:=hz2.parts;refine hK _ _ ⟨⟨_,hb2.mono hle⟩,rfl⟩ ?_;clear hK K;try simp only[Act.put,It,Is,Ir,Iq,Iu,Iv]
 refine ak 4 5 _ _ _ (by kernel_rfl) ?_;simp only[Ix,IC,Iy,IA];repeat (go_big_quiet_step (fail))
 refine wpQuiet_nil ?_;refine ap rfl rfl (fun K hK=>?_);go_simp;refine (gH _ _ _ _ w2 (HN2.out.below hb2) (HD.out.below hb2) (dF f3.out) (dF f2.out)).mono ?_;rintro e w3 ⟨v3,rfl,hz3,hb3⟩;have hB3:=LK hb2 hb3;obtain⟨y1,Y1,y2,rfl,-⟩:=hz3.parts;refine hK _ _ ⟨⟨_,hB3.mono hle⟩,rfl⟩ ?_;clear hK K;try simp only[Act.put,It,Is,Ir,Iq,Iu,Iv]
 refine ap rfl rfl (fun K hK=>?_);go_simp;refine (m_ _ _ _ _ w3 (hz2.below hb3) hz3 (dF f5.out) (dF f7.out)).mono ?_;rintro e w4 ⟨v4,rfl,hz4,hb4⟩;have hB4:=LK hB3 hb4;obtain⟨x1,X1,x2,rfl,-⟩:=hz4.parts;refine hK _ _ ⟨⟨_,hB4.mono hle⟩,rfl⟩ ?_;clear hK K;try simp only[Act.put,It,Is,Ir,Iq,Iu,Iv]
 refine ak 4 11 _ _ _ (by kernel_rfl) ?_;simp only[Ix,IC,Iy,IA];repeat (go_big_quiet_step (fail))
 refine wpQuiet_nil ?_;refine ap rfl rfl (fun K hK=>?_);go_simp;refine (gH _ _ _ _ w4 (HD.out.below hB4) (HD2.out.below hB4) (dF f2.out) (dF f4.out)).mono ?_;rintro e w5 ⟨v5,rfl,hz5,hb5⟩;have hB5:=LK hB4 hb5;obtain⟨t1,T1,t2,rfl,-⟩:=hz5.parts;refine hK _ _ ⟨⟨_,hB5.mono hle⟩,rfl⟩ ?_;clear hK K;try simp only[Act.put,It,Is,Ir,Iq,Iu,Iv]
 refine ap rfl rfl (fun K hK=>?_);go_simp;refine (qK _ _ _ _ w5 (hz4.below hb5) hz5 hne f8.out f6.out).mono ?_;rintro e w6 ⟨v6,rfl,hv6,hb6⟩;have hB6:=LK hB5 hb6;rw[HE.out] at hv6;refine hK _ _ ⟨⟨_,hB6.mono hle⟩,rfl⟩ ?_;clear hK K;try simp only[Act.put,It,Is,Ir,Iq,Iu,Iv]
 have hv6:b9 w6 v6 (a+b):=hv6;clear hz2 hz3 hz4 hz5 hb2 hb3 hb4 hb5 hb6 hB3 hB4 hB5;obtain⟨mo,po,No,co,po',No',co',rfl,ho,ho'⟩:=hv6.open;have u2:=(hB6.block _ HLT.out).trans s2;have hP:=aR (u0:=.bool mo) (u1:=.slice po No co) (u2:=.bool false) (u3:=.slice po' No' co') u2;have hZ:=Ip (cW.puts (hv6) hP u2 bf);have hBF:=Ip ((M1.out.trans (hB6.mono (IB (I1 _) (IB (I1 _) hle)))).trans (hP.below w.heap.size (by omega)));have hBG:=(hB6.mono hle).trans (hP.below (w.heap.size+1+1) (Iw _));have q0:=af u2 0;have q1:=af u2 1;have q2:=af u2 2;have q3:=af u2 3;have f0:=LL w6 (w.heap.size+1+1) 0 _ _ u2;have f1:=LL w6 (w.heap.size+1+1) 1 _ _ u2;have f2:=LL w6 (w.heap.size+1+1) 2 _ _ u2;have f3:=LL w6 (w.heap.size+1+1) 3 _ _ u2;refine ap rfl rfl (fun K hK=>?_);go_simp;change K _ (dL w6 (w.heap.size+1+1) (.bool mo) (.slice po No co) (.bool false) (.slice po' No' co'));refine hK undef _ ⟨⟨_,hBG⟩,rfl⟩ ?_;clear hK K d0 d1 d2 d3 b0 b1 b2 b3 q0 q1 q2 q3 f0 f1 f2 f3 hBG;try simp only[Act.put,It,Is,Ir,Iq,Iu,Iv]
 refine aE ?_;go_wp2_with fail
 (try simp only[Exit.inBlock,Exit.then])
 refine LM (results_cell_row rfl _ _ (w.heap.size+1+1) _ _ (0,0) _ rfl hP.row Tryz.underlying44 rfl (by kernel_rfl)) rfl ?_;exact⟨_,rfl,hZ.out,hBF.out⟩
theorem Hq (a b:Rat):eh (a.num*(b.den:Int)) (b.num*(a.den:Int))=eL a b:=by
 have hlt:a<b↔a.num*(b.den:Int)<b.num*(a.den:Int):=Rat.lt_iff a b
 have heq:a=b↔a.num*(b.den:Int)=b.num*(a.den:Int):=by
  constructor
  ·intro h;rw[h]
  ·intro h;have e1:=gD a;have e2:=gD b;have n1:=ip a.den_pos;have n2:=ip b.den_pos;have h2:=congrArg (fun z:Int=>(z:Rat)) h;simp only[Rat.intCast_mul] at h2;replace h2:(a.num:Rat)*(b.den:Rat)=(b.num:Rat)*(a.den:Rat):=h2;generalize hx:(a.den:Rat)=x at *
   generalize hy:(b.den:Rat)=y at *
   generalize hs:(a.num:Rat)=s at *
   generalize ht:(b.num:Rat)=t at *
   rw[<-e1,<-e2];grind
 unfold eh eL;by_cases h1:a=b
 ·rw[if_pos h1,if_pos (by have:=heq.1 h1;omega)]
 ·have h2:a.num*(b.den:Int)-b.num*(a.den:Int)≠0:=fun e=>h1 (heq.2 (by omega));rw[if_neg h1,if_neg h2];by_cases h3:a<b
  ·rw[if_pos h3,if_pos (by have:=hlt.1 h3;omega)]
  ·rw[if_neg h3,if_neg (fun e=>h3 (hlt.2 (by omega)))]
theorem mK (va vb:Value) (a b:Rat) (k l:Nat) (w:World) (ha:b9 w va a) (hb:b9 w vb b) (hk:Sz k (rt a)) (hl:Sz l (rt b)) (hkl:k+l+1<=390000) :
  Calls Tryz.prog 17 #[va,vb] w fun e w'=>e=.returned (.int .i64 (eL a b))/\Below w.heap.size w w':=by
 obtain⟨m,p,N,c,p',N',c',rfl,hn,hd⟩:=ha.open;obtain⟨m2,q,M,d,q',M',d',rfl,hn2,hd2⟩:=hb.open;have hl3:=mq w (.cells #[.bool m,.slice p N c,.bool false,.slice p' N' c'] 44) (.cells #[.bool m2,.slice q M d,.bool false,.slice q' M' d'] 44);have an:a.num.natAbs<10 ^ k:=hk.n;have ad:a.den<10 ^ k:=hk.d;have bn:b.num.natAbs<10 ^ l:=hl.n;have bd:b.den<10 ^ l:=hl.d;have f1:=Ip (cX an (by omega));have f2:=Ip (cX ad (by omega));have f3:=Ip (cX bn (by omega));have f4:=Ip (cX bd (by omega));have h5:(a.num*(b.den:Int)).natAbs<10 ^ (k+l):=by rw[Jx];exact dK an bd
 have h7:(b.num*(a.den:Int)).natAbs<10 ^ (k+l):=by rw[Jx,KQ k l];exact dK bn ad
 have f5:=Ip (cX h5 (by omega));have f7:=Ip (cX h7 (by omega));clear an ad bn bd h5 h7;go_enter Tryz.func17,Tryz.ntmps17;go_upto_region 1 with fail
 generalize (w.alloc (.cells #[.bool m,.slice p N c,.bool false,.slice p' N' c'] 44)).alloc (.cells #[.bool m2,.slice q M d,.bool false,.slice q' M' d'] 44)=w1 at *
 have HN:=Ip (hn.below hl3.below);have HD:=Ip (hd.below hl3.below);have HN2:=Ip (hn2.below hl3.below);have HD2:=Ip (hd2.below hl3.below);have M1:=Ip hl3.below;have s0:=hl3.s0;have s1:=hl3.s1;clear hl3 hn hd hn2 hd2 ha hb;have e0:=af s0 0;have e1:=af s0 1;have e2:=af s0 2;have e3:=af s0 3;have g0:=af s1 0;have g1:=af s1 1;have g2:=af s1 2;have g3:=af s1 3;have hBd:Below w1.heap.size w1 w1.drew:=(LN _ _).drew;refine av (fun w'=>∃ x:az w1.drew.heap.size w1.drew,w'=x.w) (fun j=>j == 4||j == 9||j == 10) (by kernel_rfl) (by kernel_rfl) ⟨⟨_,LN _ _⟩,rfl⟩ ?_;have l0:w.heap.size<w1.drew.heap.size:=Iz (ah s0) hBd.size;have l1:w.heap.size+1<w1.drew.heap.size:=Iz (ah s1) hBd.size;have e0:=ag hBd (ah s0) e0;have e1:=ag hBd (ah s0) e1;have e2:=ag hBd (ah s0) e2;have e3:=ag hBd (ah s0) e3;have g0:=ag hBd (ah s1) g0;have g1:=ag hBd (ah s1) g1;have g2:=ag hBd (ah s1) g2;have g3:=ag hBd (ah s1) g3;have HN:=Ip (HN.out.below hBd);have HD:=Ip (HD.out.below hBd);have HN2:=Ip (HN2.out.below hBd);have HD2:=Ip (HD2.out.below hBd);have M1:=Ip (LK M1.out hBd);clear hBd s0 s1;generalize w1.drew=wd at *
 have hB0:Below wd.heap.size wd wd:=LN _ _;have d0:=fun x:az wd.heap.size wd=>ag x.h l0 e0;have d1:=fun x:az wd.heap.size wd=>ag x.h l0 e1;have d2:=fun x:az wd.heap.size wd=>ag x.h l0 e2;have d3:=fun x:az wd.heap.size wd=>ag x.h l0 e3;have b0:=fun x:az wd.heap.size wd=>ag x.h l1 g0;have b1:=fun x:az wd.heap.size wd=>ag x.h l1 g1;have b2:=fun x:az wd.heap.size wd=>ag x.h l1 g2;have b3:=fun x:az wd.heap.size wd=>ag x.h l1 g3;clear e0 e1 e2 e3 g0 g1 g2 g3;refine ak 4 0 _ _ _ (by kernel_rfl) ?_;simp only[Ix,IC,Iy,IA];repeat (go_big_quiet_step (fail))
 refine wpQuiet_nil ?_;refine ap rfl rfl (fun K hK=>?_);go_simp;refine (gH _ _ _ _ wd HN.out HD2.out (dF f1.out) (dF f4.out)).mono ?_;rintro e w2 ⟨v2,rfl,hz2,hb2⟩;obtain⟨z1,Z1,z2,rfl,-⟩:=hz2.parts;refine hK _ _ ⟨⟨_,hb2⟩,rfl⟩ ?_;clear hK K;try simp only[Act.put,It,Is,Ir,Iq,Iu,Iv]
 refine ak 4 5 _ _ _ (by kernel_rfl) ?_;simp only[Ix,IC,Iy,IA];repeat (go_big_quiet_step (fail))
 refine wpQuiet_nil ?_;refine ap rfl rfl (fun K hK=>?_);go_simp;refine (gH _ _ _ _ w2 (HN2.out.below hb2) (HD.out.below hb2) (dF f3.out) (dF f2.out)).mono ?_;rintro e w3 ⟨v3,rfl,hz3,hb3⟩;have hB3:=LK hb2 hb3;obtain⟨y1,Y1,y2,rfl,-⟩:=hz3.parts;refine hK _ _ ⟨⟨_,hB3⟩,rfl⟩ ?_;clear hK K;try simp only[Act.put,It,Is,Ir,Iq,Iu,Iv]
 refine ap rfl rfl (fun K hK=>?_);go_simp;refine (ng _ _ _ _ w3 (hz2.below hb3) hz3 (dF f5.out) (dF f7.out)).mono ?_;rintro e w4 ⟨rfl,hb4⟩;rw[Hq];have hB4:=LK hB3 hb4;refine hK _ _ ⟨⟨_,hB4⟩,rfl⟩ ?_;clear hK K;try simp only[Act.put,It,Is,Ir,Iq,Iu,Iv]
 refine ak 1 11 _ _ _ (by kernel_rfl) ?_;simp only[Ix,IC,Iy,IA];repeat (go_big_quiet_step (fail))
 refine wpQuiet_nil ?_;refine aE ?_;clear d0 d1 d2 d3 b0 b1 b2 b3;go_wp2;refine LM (v:=.int .i64 (eL a b)) (by simp[results,Tryz.results17,go_sem]) rfl ⟨rfl,LK M1.out hB4⟩
theorem mP (va:Value) (a:Rat) (k:Nat) (w:World) (ha:b9 w va a) (h0:a≠0) (hk:Sz k (rt a)) (hkl:k<=390000) :
  Calls Tryz.prog 57 #[va] w fun e w'=>∃ v,e=.returned v/\b9 w' v (a⁻¹)/\Below w.heap.size w w':=by
 obtain⟨m,p,N,c,p',N',c',rfl,hn,hd⟩:=ha.open;have hl3:=mq w (.cells #[.bool m,.slice p N c,.bool false,.slice p' N' c'] 44) (.cells #[.bool false,.slice none 0 0,.bool false,.slice none 0 0] 44);have an:a.num.natAbs<10 ^ k:=hk.n;have ad:a.den<10 ^ k:=hk.d;have f1:=Ip (cX an (by omega));have f2:=Ip (show bu (a.den:Int).natAbs from cX ad (by omega))
 have hne:a.num≠0:=fun e=>h0 (by
  have e1:=gD a;rw[e] at e1;rw[<-e1]
  show ((0:Int):Rat) / _=0
  rw[show ((0:Int):Rat)=0 from rfl]
  grind)
 have HE:=Ip (show (((a.den:Int):Int):Rat) / (a.num:Rat)=a⁻¹ from by
  have e1:=gD a;have n1:=ip a.den_pos;have n2:(a.num:Rat)≠0:=fun e=>hne (Rat.intCast_inj.1 e)
  show (a.den:Rat) / (a.num:Rat)=a⁻¹
  generalize (a.den:Rat)=x at *
  generalize (a.num:Rat)=s at *
  rw[<-e1]
  grind)
 clear an ad h0;go_enter Tryz.func57,Tryz.ntmps57;go_upto_region 1 with fail
 generalize (w.alloc (.cells #[.bool m,.slice p N c,.bool false,.slice p' N' c'] 44)).alloc (.cells #[.bool false,.slice none 0 0,.bool false,.slice none 0 0] 44)=w1 at *
 have HN:=Ip (hn.below hl3.below);have HD:=Ip (hd.below hl3.below);have M1:=Ip hl3.below;have e0:=af hl3.s0 0;have e1:=af hl3.s0 1;have e2:=af hl3.s0 2;have e3:=af hl3.s0 3;have s1:=hl3.s1;clear hl3 hn hd ha;go_wp2_with fail
 refine (qK _ _ _ _ w1 HD.out HN.out hne f2.out f1.out).mono ?_;rintro e w6 ⟨v6,rfl,hv6,hb6⟩;rw[HE.out] at hv6;have hv6:b9 w6 v6 (a⁻¹):=hv6;obtain⟨mo,po,No,co,po',No',co',rfl,ho,ho'⟩:=hv6.open;have u2:=(hb6.block _ (ah s1)).trans s1;have hP:=aR (u0:=.bool mo) (u1:=.slice po No co) (u2:=.bool false) (u3:=.slice po' No' co') u2;have hZ:=Ip (cW.puts hv6 hP u2 bf);have hBF:=Ip ((LK M1.out hb6).trans (hP.below w.heap.size (by omega)));have q0:=af u2 0;have q1:=af u2 1;have q2:=af u2 2;have q3:=af u2 3;have f0:=LL w6 (w.heap.size+1) 0 _ _ u2;have f1:=LL w6 (w.heap.size+1) 1 _ _ u2;have f2:=LL w6 (w.heap.size+1) 2 _ _ u2;have f3:=LL w6 (w.heap.size+1) 3 _ _ u2;clear hv6 ho ho' hb6 s1 e0 e1 e2 e3;go_wp2_with fail
 (try simp only[Exit.inBlock,Exit.then])
 change bodyPost _ _ _ _ _ (dL w6 (w.heap.size+1) (.bool mo) (.slice po No co) (.bool false) (.slice po' No' co'));refine LM (results_cell_row rfl _ _ (w.heap.size+1) _ _ (0,0) _ rfl hP.row Tryz.underlying44 rfl (by kernel_rfl)) rfl ?_;exact⟨_,rfl,hZ.out,hBF.out⟩
end Go.Proofs.YtlhpcoelfhjomaaGreatDoor
