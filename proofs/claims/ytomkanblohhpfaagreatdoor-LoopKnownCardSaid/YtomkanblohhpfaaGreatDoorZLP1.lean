/- Lemmas of this claim. -/
import Derived.Test.YtomkanblohhpfaaGreatDoorZCoef
import Derived.Test.YtomkanblohhpfaaGreatDoorZNC5
set_option linter.all false
set_option maxRecDepth 100000
set_option maxHeartbeats 8000000
namespace Go.Proofs.YtomkanblohhpfaaGreatDoor
open Go.RowKit Dg
def ax (l:List ByteArray) (i:Nat):ByteArray:=l.getD i ⟨#[]⟩
theorem gz {l:List ByteArray}{i:Nat} (h:i<l.length):l[i]=ax l i:=by simp[ax,h]
def aS (L:List ByteArray) (i:Nat):List ByteArray:=L.take i++List.replicate (L.length-i) ⟨#[]⟩
theorem eL (L:List ByteArray) {i:Nat} (h:i≤L.length):(aS L i).length=L.length:=by simp[aS];omega
theorem eM (L:List ByteArray) {i:Nat} (h:i<L.length):(aS L i).set i L[i]=aS L (i+1):=by
 have e:L.length-i=(L.length-(i+1))+1:=by omega
 have hl:(L.take i).length=i:=by simp;omega
 unfold aS
 rw[e,y5,List.set_append_right i _ (by omega),hl,z_,xw,←xG h,yt]
 rfl
theorem d9 (L:List ByteArray):aS L 0=List.replicate L.length ⟨#[]⟩:=by simp[aS]
theorem d8 (L:List ByteArray):aS L L.length=L:=by simp[aS]
def j3 (p:List ByteArray) (j:Nat) (k:ByteArray):List ByteArray:=(List.range j).map fun i=>bJ (fW (ax p i) (bX k (ax p (j-i)))) (fW ⟨#[49]⟩ (bX k k))
theorem qV (p:List ByteArray) (j:Nat) (k:ByteArray):(j3 p j k).length=j:=by simp[j3]
def iS:Nat→List ByteArray→List ByteArray→Option (List ByteArray)
 | 0,_,pf=>some pf
 | j+1,p,pf=>if dL (ax p (j+1))=true then iS j (j3 p (j+1) (ax p (j+1))) (pf.set j (ax p (j+1))) else none
def aU (l:List ByteArray):Option (List ByteArray):=iS (l.length-1) l (List.replicate (l.length-1) ⟨#[]⟩)
structure Two (w:World) (v:Value) (p:List ByteArray) (g n:Nat) (pf:List ByteArray):Prop where
 p:IsS w v p
 row:bH w g n pf
 ne:v.ownBlock≠some g
def qh (l:List ByteArray) (w:World) (e:Ending) (w':World):Prop :=
 ∃ v ok,e=.returned (.tuple #[v,.bool ok])∧((∃ pf,aU l=some pf∧ok=true∧IsS w' v pf∧pf.length=l.length-1)∨(aU l=none∧ok=false∧v=.slice none 0 0))∧Below w.heap.size w w'
theorem tn (v:Value) (l:List ByteArray) (w:World) (hl:IsS w v l) (hpos:0<l.length) (hlen:l.length<1000000) (hG:Gw w) :
  Calls Tryz.prog 64 #[v] w (qh l w):=by
 obtain⟨p0,c0,rfl,hcl,hcm⟩:=id hl.form
 have HC:=xo (nP _ l w hl hpos (by omega))
 go_enter Tryz.func64,Tryz.ntmps64
 go_wp2_with fail
 refine HC.out.mono ?_
 rintro e w1 ⟨v1,rfl,hv1,hb1⟩
 obtain⟨p1,c1,rfl,-⟩:=id hv1.isS.form
 obtain⟨n,hn⟩:∃ n,l.length=n+1:=⟨l.length-1,by omega⟩
 have hG1:=hG.below hb1
 clear hl HC
 go_wp2_with (at_make;refine a_ 22 Tryz.underlying22 rfl (.tmp 15) (.tmp 15) rfl _ _ n rfl rfl (by go_num) (by go_num) (by omega) ?_)
 intro w2 hrow hbm hs
 have hb2:=hbm _ _ hb1 hb1.size
 have hb12:=hbm _ _ (Below.refl _ _) (xy _)
 have hne:Value.ownBlock (.slice p1 (n+1) c1)≠some w1.heap.size:=fun e=>by
  have:=(World.ownsRow.lt hv1 _ (by rw[hn];exact e)).2
  omega
 have hT:Two w2 (.slice p1 (n+1) c1) l w1.heap.size n (List.replicate n ⟨#[]⟩):=⟨by rw[←hn];exact hv1.isS.below hb12,hrow,hne⟩
 have hg0:=hb1.size
 have HR:=xo (show iS n l (List.replicate n ⟨#[]⟩)=aU l by unfold aU;rw[hn];rfl)
 have HN:=xo hn
 have hnb:n<1000000:=by omega
 obtain⟨g0,hge⟩:∃ g,g=w1.heap.size:=⟨_,rfl⟩
 rw[←hge] at hT hg0 ⊢
 have hG2:=hG1.below hb12
 clear hrow hbm hs hv1 hne hb1 hb12 hge hG1
 go_wp2
 go_loopw [4,6] (fun s4 s6 wr=>∃ (j:Nat) (p pf:List ByteArray),s6=.int .i64 j∧j≤n∧p.length=j+1∧Two wr s4 p g0 n pf∧pf.length=n∧Below w.heap.size w wr∧Hid (iS j p pf=aU l)) (fun _ s6 _=>(intOf s6).toNat)
 case atStart=>exact⟨n,l,_,by go_num,xy _,HN.out,hT,by simp,hb2,HR.out⟩
 case round =>
  clear hT hb2 HR hG2 hn hpos hlen
  obtain⟨j,p,pf,rfl,hjn,hpl,hT,hpfl,hbr,hR⟩:=hrel
  have hGr:=hG.below hbr
  by_cases hj:0<j
  ·obtain⟨pp,cp,rfl,-⟩:=id hT.p.form
   obtain⟨b,o,rfl,hbl,hcell⟩:=hT.p.get (i:=j) (by omega)
   obtain⟨k,hk⟩:∃ k,k=p[j]'(by omega):=⟨_,rfl⟩
   rw[←hk] at hcell
   rw[gz] at hk
   have HPL:=xo hpl
   obtain⟨m,rfl⟩:∃ m,j=m+1:=⟨j-1,by omega⟩
   have HI:=xo (pB k wr hGr)
   have HK:=xo hk
   have hdj:decide ((0:Int)<((m+1:Nat):Int))=true:=by simp
   have hR':aU l=if dL k=true then iS m (j3 p (m+1) k) (pf.set m k) else none:=by rw[←hR.out,hk];rfl
   have HR:=xo hR'
   clear hR hR' hk
   rw[hpl] at hT ⊢
   by_cases hin:dL k=true
   ·rw[hin] at HI
    have HR2:=xo (show iS m (j3 p (m+1) k) (pf.set m k)=aU l by rw[HR.out,if_pos hin])
    clear hin HR hpl
    go_wp2_with fail
    refine HI.out.mono ?_
    rintro e w3 ⟨rfl,hb3⟩
    have hml:m<pf.length:=by omega
    have r0:=hT.row.below hb3
    have rc:=r0.cell hml
    have rf:=r0.free m
    have hT4:Two (w3.setCell ⟨g0,m,none⟩ (.string k)) (.slice (some ⟨b,o,none⟩) (m+1+1) cp) p g0 n (pf.set m k):=⟨(hT.p.below hb3).other hT.ne m _,r0.set m k,hT.ne⟩
    have hB4:Below w.heap.size w (w3.setCell ⟨g0,m,none⟩ (.string k)):=(hbr.trans (hb3.mono hbr.size)).setCell (p:=⟨g0,m,none⟩) hg0 _
    have hG4:=hG.below hB4
    go_upto_region 10 with fail
    generalize w3.setCell ⟨g0,m,none⟩ (.string k)=w4 at *
    have HB4:=xo hB4
    have HT4:=xo hT4
    have HG4:=xo hG4
    clear hT hT4 r0 rc rf hb3 hbr hGr HI hcell hbl hB4 hG4
    go_wp2_with fail
    refine (cW k k w4 HG4.out).mono ?_
    rintro e w5 ⟨rfl,hb5⟩
    go_wp2_with fail
    refine (ir _ _ w5 (HG4.out.below hb5)).mono ?_
    rintro e w6 ⟨rfl,hb6⟩
    have hb6':=hb5.trans (hb6.mono hb5.size)
    obtain⟨sc,hsc⟩:∃ t,t=fW ⟨#[49]⟩ (bX k k):=⟨_,rfl⟩
    rw[←hsc]
    have HSC:=xo hsc
    clear hsc hb5 hb6
    go_wp2_with (at_make;refine a_ 22 Tryz.underlying22 rfl (.tmp 40) (.tmp 40) rfl _ _ (m+1) rfl rfl (by go_num) (by go_num) (by omega) ?_)
    intro w7 hrow7 hb7 hs7
    have hb67:=hb7 _ _ (Below.refl _ _) (xy _)
    have hb47:=hb7 _ _ hb6' hb6'.size
    obtain⟨L,hL⟩:∃ L,L=j3 p (m+1) k:=⟨_,rfl⟩
    have hLl:L.length=m+1:=by rw[hL,qV]
    have hr7:bH w7 w6.heap.size (m+1) (aS L 0):=by rw[d9,hLl];exact hrow7
    have hle:=hb6'.size
    obtain⟨g1,hg1⟩:∃ g,g=w6.heap.size:=⟨_,rfl⟩
    rw[←hg1] at hr7 hb67 hle ⊢
    obtain⟨b',o',e,hbl,hc0⟩:=HT4.out.p.get (i:=0) (by rw[HPL.out];omega)
    obtain⟨rfl,rfl⟩:b=b'∧o=o':=by simpa using e
    have hcells:∀ i,i<m+2→w4.cell? ⟨b,o+i,none⟩=some (.string (ax p i)):=fun i hi=>by
     obtain⟨b',o',e,-,hc⟩:=HT4.out.p.get (i:=i) (by rw[HPL.out];omega)
     obtain⟨rfl,rfl⟩:b=b'∧o=o':=by simpa using e
     rw[hc,gz]
    have HCS:=xo hcells
    have hg04:=HT4.out.row.lt
    have HB47:=xo hb47
    have HL:=xo hL
    have hml2:m+1<1000000:=by omega
    have hbm:Below g1 w7 w7:=Below.refl _ _
    clear e hc0 hcells hb7 hs7 hrow7 hb6' hb47 hL hg1 hb67 hml HK
    go_wp2
    go_loopw [44] (fun s44 w8=>∃ i:Nat,s44=.int .i64 i∧i≤m+1∧bH w8 g1 (m+1) (aS L i)∧Below g1 w7 w8) (fun s44 _=>m+1-(intOf s44).toNat)
    case atStart=>exact⟨0,rfl,xJ _,hr7,hbm⟩
    case round =>
     clear hr7 hbm
     obtain⟨i,rfl,him,hr8,hb8⟩:=hrel
     have hB8:=HB47.out.trans (hb8.mono hle)
     by_cases hi:i<m+1
     ·have hdi:decide ((i:Int)<(m:Int)+1)=true:=by simp;omega
      have e1:((m+1:Nat):Int)-(i:Int)=((m+1-i:Nat):Int):=by omega
      go_upto_region 15 with fail
      have hx:=HCS.out i (by omega)
      have hy:=HCS.out (m+1-i) (by omega)
      have m4:Below wr.heap.size wr wr.drew:=(Below.refl _ _).drew
      have HBd:=xo (hB8.trans (m4.mono hB8.size))
      have hgr:=hr8.lt
      have hG9:=HG4.out.below HBd.out
      have hr9:=hr8.below m4
      have hbd:=hb8.trans (m4.mono (by omega))
      refine aj (fun w'=>∃ x:aA g1 wr.drew,w'=x.w) (fun i=>i == 13||i == 14||i == 16||i == 18) (by kernel_rfl) (by kernel_rfl) ⟨⟨_,Below.refl _ _⟩,rfl⟩ ?_
      have hz:g1≤wr.drew.heap.size:=by have:=m4.size;omega
      generalize wr.drew=wd at *
      have c0:=fun x:aA g1 wd=>aa (HBd.out.trans (x.h.mono hle)) hbl hx
      have c1:=fun x:aA g1 wd=>aa (HBd.out.trans (x.h.mono hle)) hbl hy
      clear hx hy m4 hB8 hr8 hb8 hgr
      refine ae 13 0 _ _ _ (by kernel_rfl) ?_
      simp only[xA,xE,xz,xD]
      repeat (go_big_quiet_step (fail))
      refine wpQuiet_nil ?_
      clear e1 c0 c1
      refine ag rfl rfl (fun K hK=>?_)
      go_simp
      refine (cW k _ wd hG9).mono ?_
      rintro e wa ⟨rfl,hba⟩
      refine hK _ _ ⟨⟨_,(hba).mono hz⟩,rfl⟩ ?_
      clear hK K
      try simp only[Act.put,xv,xu,xt,xr,xw,xx]
      refine ag rfl rfl (fun K hK=>?_)
      go_simp
      refine (ir _ _ wa (hG9.below hba)).mono ?_
      rintro e wb ⟨rfl,hbb⟩
      have hBb:=hba.trans (hbb.mono hba.size)
      refine hK _ _ ⟨⟨_,(hBb).mono hz⟩,rfl⟩ ?_
      clear hK K
      try simp only[Act.put,xv,xu,xt,xr,xw,xx]
      refine ae 1 15 _ _ _ (by kernel_rfl) ?_
      simp only[xA,xE,xz,xD]
      repeat (go_big_quiet_step (fail))
      refine wpQuiet_nil ?_
      refine ag rfl rfl (fun K hK=>?_)
      go_simp
      refine (dM _ _ wb (hG9.below hBb)).mono ?_
      rintro e wc ⟨rfl,hbc⟩
      have hBc:=hBb.trans (hbc.mono hBb.size)
      refine hK _ _ ⟨⟨_,(hBc).mono hz⟩,rfl⟩ ?_
      clear hK K
      try simp only[Act.put,xv,xu,xt,xr,xw,xx]
      refine ae 1 17 _ _ _ (by kernel_rfl) ?_
      simp only[xA,xE,xz,xD]
      repeat (go_big_quiet_step (fail))
      refine wpQuiet_nil ?_
      have hfl:i<(aS L i).length:=by rw[eL L (by omega)];omega
      have rc:=hr9.below hBc
      have rd:=rc.cell hfl
      have re:=rc.free i
      have hset:bH (wc.setCell ⟨g1,i,none⟩ (.string (bJ (fW (ax p i) (bX k (ax p (m+1-i)))) sc))) g1 (m+1) (aS L (i+1)):=by
       have h1:=rc.set i (bJ (fW (ax p i) (bX k (ax p (m+1-i)))) sc)
       have h2:=eM L (i:=i) (by omega)
       have h3:L[i]'(by omega)=bJ (fW (ax p i) (bX k (ax p (m+1-i)))) sc:=by
        have:=HL.out
        simp only[this,j3,yG,List.getElem_range,←HSC.out]
       rw[h3] at h2
       rw[←h2];exact h1
      have hP:Below g1 wd (wc.setCell ⟨g1,i,none⟩ (.string (bJ (fW (ax p i) (bX k (ax p (m+1-i)))) sc))):=(hBc.mono hz).setCell (p:=⟨g1,i,none⟩) (xy _) _
      refine ag rfl rfl (fun K hK=>?_)
      go_simp
      refine hK undef _ ⟨⟨_,hP⟩,rfl⟩ ?_
      clear hK K
      try simp only[Act.put,xv,xu,xt,xr,xw,xx]
      refine aw ?_
      have hBn:=hbd.trans hP
      clear rc rd re hP hbc hbb hba hBb hBc hr9 hG9
      generalize wc.setCell ⟨g1,i,none⟩ (.string (bJ (fW (ax p i) (bX k (ax p (m+1-i)))) sc))=we at *
      go_wp2
      go_roundw
      case rel=>exact⟨i+1,by go_num,by omega,hset,hBn⟩
      case measure=>(first | (simp[intOf];done) | (simp[intOf];omega))
     ·have hi':i=m+1:=by omega
      subst hi'
      have hfull:aS L (m+1)=L:=by rw[←hLl];exact d8 L
      rw[hfull] at hr8
      have hT8:Two wr (.slice (some ⟨g1,0,none⟩) (m+1) (m+1)) L g0 n (pf.set m k):=⟨by have:=hr8.isS;rwa [hLl] at this,HT4.out.row.past hB8 hg04,fun e=>by simp[Value.ownBlock] at e;omega⟩
      have hBw:=HB4.out.trans (hB8.mono HB4.out.size)
      clear hfull hi hr8 hb8 hB8
      go_wp2
      go_roundw
      case rel=>exact⟨m,L,pf.set m k,by go_num,by omega,hLl,hT8,by simp[hpfl],hBw,by rw[HL.out];exact HR2.out⟩
      case measure=>(first | (simp[intOf];done) | (simp[intOf];omega))
   ·have hin':dL k=false:=by simpa using hin
    rw[hin'] at HI
    have HR2:=xo (show aU l=none by rw[HR.out,if_neg hin])
    clear hin hin' HR hpl
    go_wp2_with fail
    refine HI.out.mono ?_
    rintro e w3 ⟨rfl,hb3⟩
    go_wp2
    refine bodyPost_ret (v:=.tuple #[.slice none 0 0,.bool false]) (by simp[results,Tryz.results64,go_sem]) rfl ⟨_,_,rfl,Or.inr ⟨HR2.out,rfl,rfl⟩,hbr.trans (hb3.mono hbr.size)⟩
  ·have hj0:j=0:=by omega
   subst hj0
   have hend:aU l=some pf:=hR.out.symm
   have hrow:=hT.row.isS
   rw[hpfl] at hrow
   have HE:=xo hend
   clear hR hend hj
   go_wp2
   refine bodyPost_ret (v:=.tuple #[.slice (some ⟨g0,0,none⟩) n n,.bool true]) (by simp[results,Tryz.results64,go_sem]) rfl ⟨_,_,rfl,Or.inl ⟨pf,HE.out,rfl,hrow,by rw[hpfl,HN.out];rfl⟩,hbr⟩
theorem oD (z:Int):rt (z:Rat)=⟨decide (z<0),z.natAbs,1⟩:=by
 unfold rt
 rw[Rat.num_intCast,Rat.den_intCast]
theorem o_ {n:Nat} (h:n<18446744073709551616):Few n:=jQ (k:=20) (by omega) (by decide)
theorem fZ (z:Int) (w:World) (h1:-9223372036854775808≤z) (h2:z≤9223372036854775807) :
  Calls Tryz.prog 47 #[.int .i64 z] w fun e w'=>∃ v,e=.returned v∧IsR w' v (rt (z:Rat))∧Below w.heap.size w w':=by
 rw[oD]
 go_enter Tryz.func47,Tryz.ntmps47
 go_upto_region 1 with fail
 have q3:=aY.new w (.bool false) (.slice none 0 0) (.slice none 0 0) (by intro z e;cases e) (by intro z e;cases e) (by intro z e;cases e)
 have m3:=ac w (.cells #[.bool false,.slice none 0 0,.slice none 0 0] 79)
 generalize w.alloc (.cells #[.bool false,.slice none 0 0,.slice none 0 0] 79)=w3 at *
 have B3:=xo q3
 have MD:=xo m3
 clear q3 m3
 by_cases hz:z<0
 ·have hd:decide (z<0)=true:=decide_eq_true hz
  obtain⟨n,rfl⟩:∃ n:Nat,z=-(n:Int)-1:=⟨(-z-1).toNat,by omega⟩
  have e1:(-(n:Int)-1)+1=-(n:Int):=by omega
  go_wp2_with fail
  have hp:=fO (n+1) w3 (by omega)
  try rw[show ((n+1:Nat):Int)=(n:Int)+1 from by omega] at hp
  refine hp.mono ?_
  clear hp
  rintro e w4 ⟨v4,rfl,hv4,hb4⟩
  go_wp2_with fail
  refine (iw w4).mono ?_
  rintro e w5 ⟨v5,rfl,hv5,hb5⟩
  have hn:=(hv4.isU).below hb5
  have hB5:=hb4.trans (hb5.mono hb4.size)
  obtain⟨pn,cn,rfl,-⟩:=id hn
  obtain⟨pd,cd,rfl,-⟩:=id hv5
  have hR:IsR w5 (.agg #[.bool true,.slice pn _ cn,.slice pd _ cd]) ⟨true,n+1,1⟩:=⟨_,_,rfl,hn,hv5,o_ (n:=n+1) (by omega),o_ (n:=1) (by decide)⟩
  have B8:=B3.out.below hB5
  have k0:=B8.c0;have k1:=B8.c1;have k2:=B8.c2
  have f0:=B8.fr 0;have f1:=B8.fr 1;have f2:=B8.fr 2
  have P:=xo (B8.putR hR)
  have M8:=xo (P.out.2.2 _ w (MD.out.trans (hB5.mono MD.out.size)) (xy _))
  have HE:=xo (show (⟨true,n+1,1⟩:Rt)=⟨decide ((-(n:Int)-1)<0),((-(n:Int)-1)).natAbs,1⟩ from by congr 1<;>(first | omega | (simp;done) | (simp;omega)))
  clear hR hn hv4 hv5 B8 hb4 hb5 hB5
  go_wp2_with fail
  have q0:=P.out.1.c0;have q1:=P.out.1.c1;have q2:=P.out.1.c2
  refine bodyPost_ret (v:=.agg #[.bool true,.slice pn (ah BB (n+1)).length cn,.slice pd (ah BB 1).length cd]) (by simp[nn] at q0 q1 q2 ⊢;simp[results,Tryz.results47,go_sem,q0,q1,q2]) rfl ⟨_,rfl,by rw[←HE.out];exact P.out.2.1,M8.out⟩
 ·have hd:decide (z<0)=false:=decide_eq_false hz
  obtain⟨n,rfl⟩:∃ n:Nat,z=n:=⟨z.toNat,by omega⟩
  go_wp2_with fail
  have hp:=fO (n) w3 (by omega)
  try rw[show ((n+1:Nat):Int)=(n:Int)+1 from by omega] at hp
  refine hp.mono ?_
  clear hp
  rintro e w4 ⟨v4,rfl,hv4,hb4⟩
  go_wp2_with fail
  refine (iw w4).mono ?_
  rintro e w5 ⟨v5,rfl,hv5,hb5⟩
  have hn:=(hv4.isU).below hb5
  have hB5:=hb4.trans (hb5.mono hb4.size)
  obtain⟨pn,cn,rfl,-⟩:=id hn
  obtain⟨pd,cd,rfl,-⟩:=id hv5
  have hR:IsR w5 (.agg #[.bool false,.slice pn _ cn,.slice pd _ cd]) ⟨false,n,1⟩:=⟨_,_,rfl,hn,hv5,o_ (n:=n) (by omega),o_ (n:=1) (by decide)⟩
  have B8:=B3.out.below hB5
  have k0:=B8.c0;have k1:=B8.c1;have k2:=B8.c2
  have f0:=B8.fr 0;have f1:=B8.fr 1;have f2:=B8.fr 2
  have P:=xo (B8.putR hR)
  have M8:=xo (P.out.2.2 _ w (MD.out.trans (hB5.mono MD.out.size)) (xy _))
  have HE:=xo (show (⟨false,n,1⟩:Rt)=⟨decide ((n:Int)<0),((n:Int)).natAbs,1⟩ from by congr 1<;>(first | omega | (simp;done) | (simp;omega)))
  clear hR hn hv4 hv5 B8 hb4 hb5 hB5
  go_wp2_with fail
  have q0:=P.out.1.c0;have q1:=P.out.1.c1;have q2:=P.out.1.c2
  refine bodyPost_ret (v:=.agg #[.bool false,.slice pn (ah BB (n)).length cn,.slice pd (ah BB 1).length cd]) (by simp[nn] at q0 q1 q2 ⊢;simp[results,Tryz.results47,go_sem,q0,q1,q2]) rfl ⟨_,rfl,by rw[←HE.out];exact P.out.2.1,M8.out⟩
theorem uX (z:Int):sgz (decide (z<0) != false) z.natAbs=z:=by
 unfold sgz
 by_cases h:z<0
 ·simp[h];omega
 ·simp[h];omega
theorem xe (z:Int) (d:Nat) (w:World) (h1:-9223372036854775808≤z) (h2:z≤9223372036854775807) (hd:0<d) (hd2:d≤9223372036854775807) (hG:Gw w) :
  Calls Tryz.prog 14 #[.int .i64 z,.int .i64 d] w fun e w'=>e=.returned (.tuple #[.string (ci (CQ.real (mkRat z d))).1,.int .i64 (ci (CQ.real (mkRat z d))).2])∧Below w.heap.size w w':=by
 have hq:cD (decide (z<0) != false) z.natAbs d=rt (mkRat z d):=by rw[jz _ _ _ hd,uX]
 have hdd:((d:Int) == 0)=false:=by simp;omega
 have hr2:rt ((d:Int):Rat)=⟨false,d,1⟩:=by rw[oD];congr 1<;>simp
 have hr1:=oD z
 have HQ:=xo hq
 have HR1:=xo hr1
 have HR2:=xo hr2
 have HD:=xo hd
 clear hq hr1 hr2 hd
 go_enter Tryz.func14,Tryz.ntmps14
 go_wp2_with fail
 refine (fZ z w h1 h2).mono ?_
 rintro e w1 ⟨v1,rfl,hv1,hb1⟩
 rw[HR1.out] at hv1
 go_wp2_with fail
 refine (fZ d w1 (by omega) (by omega)).mono ?_
 rintro e w2 ⟨v2,rfl,hv2,hb2⟩
 rw[HR2.out] at hv2
 have hv1:=hv1.below hb2
 have hB2:=hb1.trans (hb2.mono hb1.size)
 obtain⟨xm,xp,xl,xc,xq,xk,xd,rfl⟩:=hv1.form
 obtain⟨ym,yp,yl,yc,yq,yk,yd,rfl⟩:=hv2.form
 clear hb1 hb2
 go_upto_region 4 with fail
 have q1:=aY.new w2 (.bool xm) (.slice xp xl xc) (.slice xq xk xd) (by intro z e;cases e) (by intro z e;cases e) (by intro z e;cases e)
 have m1:=ac w2 (.cells #[.bool xm,.slice xp xl xc,.slice xq xk xd] 79)
 have z1:=size_alloc w2 (.cells #[.bool xm,.slice xp xl xc,.slice xq xk xd] 79)
 generalize w2.alloc (.cells #[.bool xm,.slice xp xl xc,.slice xq xk xd] 79)=w3 at *
 have q2:=aY.new w3 (.bool ym) (.slice yp yl yc) (.slice yq yk yd) (by intro z e;cases e) (by intro z e;cases e) (by intro z e;cases e)
 have m2:=ac w3 (.cells #[.bool ym,.slice yp yl yc,.slice yq yk yd] 79)
 generalize w3.alloc (.cells #[.bool ym,.slice yp yl yc,.slice yq yk yd] 79)=w4 at *
 rw[z1] at q2
 have q1:=q1.below m2
 have hb4:=m1.trans (m2.mono m1.size)
 have hB4:=hB2.trans (hb4.mono hB2.size)
 obtain⟨xn',xd',hxe,hxn,hxd,f1,f2⟩:=hv1.below hb4
 obtain⟨yn',yd',hye,hyn,hyd,g1,g2⟩:=hv2.below hb4
 simp only at hxn hxd hyn hyd f1 f2 g1 g2
 obtain⟨rfl,rfl,rfl⟩:xm=decide (z<0)∧(.slice xp xl xc)=xn'∧(.slice xq xk xd)=xd':=by simpa using hxe
 obtain⟨rfl,rfl,rfl⟩:ym=false∧(.slice yp yl yc)=yn'∧(.slice yq yk yd)=yd':=by simpa using hye
 have HRED:=xo (dz (decide (z<0) != false) _ _ _ _ w4 hxn hyn f1 g1 HD.out)
 rw[HQ.out] at HRED
 have hG4:=hG.below hB4
 have a0:=q1.c0;have a1:=q1.c1;have a2:=q1.c2
 have b0:=q2.c0;have b1:=q2.c1;have b2:=q2.c2
 clear q1 q2 m1 m2 z1 hb4 hB2 hv1 hv2 hxe hye hxn hxd hyn hyd f1 f2 g1 g2
 have hbn:(decide (z<0) != false)=decide (z<0):=by simp
 rw[hbn] at HRED
 go_wp2_with fail
 refine HRED.out.mono ?_
 rintro e w5 ⟨v5,rfl,hv5,hb5⟩
 go_wp2_with fail
 refine (c_ _ _ _ hv5).mono ?_
 rintro e w6 ⟨v6,rfl,hv6,hb6⟩
 rw[bS] at hv6
 have hB6:=hb5.trans (hb6.mono hb5.size)
 go_wp2_with fail
 refine (tr _ _ w6 hv6 (hG4.below hB6)).mono ?_
 rintro e w7 ⟨rfl,hb7⟩
 have hB7:=hB6.trans (hb7.mono hB6.size)
 go_wp2
 refine bodyPost_ret (v:=.tuple #[.string (ci (CQ.real (mkRat z d))).1,.int .i64 (ci (CQ.real (mkRat z d))).2]) (by simp[results,Tryz.results14,go_sem]) rfl ⟨rfl,hB4.trans (hB7.mono hB4.size)⟩
theorem iB (v:Value) (l:List ByteArray) (w:World) (hl:IsS w v l) (hpos:0<l.length) (hlen:l.length<1000000) (hG:Gw w) :
  Calls Tryz.prog 41 #[v] w fun e w'=>e=.returned (.bool (aU l).isSome)∧Below w.heap.size w w':=by
 have HP:=xo (tn v l w hl hpos hlen hG)
 obtain⟨p,c,rfl,-⟩:=hl.form
 go_enter Tryz.func41,Tryz.ntmps41
 go_wp2_with fail
 refine HP.out.mono ?_
 rintro e w1 ⟨v1,ok,rfl,hcase,hb1⟩
 rcases hcase with ⟨pf,hq,rfl,hp,-⟩ | ⟨hq,rfl,rfl⟩
 ·have HQ:=xo hq
  obtain⟨p1,c1,rfl,-⟩:=hp.form
  clear hq hp
  go_wp2
  go_ret
  exact⟨by rw[HQ.out];rfl,hb1⟩
 ·have HQ:=xo hq
  clear hq
  go_wp2
  go_ret
  exact⟨by rw[HQ.out];rfl,hb1⟩
structure IsF (w:World) (v:Value) (a b:List ByteArray):Prop where
 ex:∃ p c q d,v=.agg #[.slice p a.length c,.slice q b.length d]∧IsS w (.slice p a.length c) a∧IsS w (.slice q b.length d) b
theorem IsF.below {w w':World}{v:Value}{a b:List ByteArray} (h:IsF w v a b) (hb:Below w.heap.size w w'):IsF w' v a b:=by
 obtain⟨p,c,q,d,e,h1,h2⟩:=h.ex
 exact⟨p,c,q,d,e,h1.below hb,h2.below hb⟩
theorem IsS.words {w:World}{p:Option Addr}{n c:Nat}{l:List ByteArray} (h:IsS w (.slice p n c) l):dA w p l:=by
 refine⟨fun hl=>?_⟩
 obtain⟨b,o,rfl,hlt,-⟩:=h.get hl
 refine⟨b,o,rfl,hlt,fun i hi=>?_⟩
 obtain⟨b',o',e,-,hc⟩:=h.get hi
 obtain⟨rfl,rfl⟩:b=b'∧o=o':=by simpa using e
 exact hc
def av (a b:List ByteArray):Int:=if au a b=true then 0 else 30
theorem cJ (v:Value) (a b:List ByteArray) (w:World) (h:IsF w v a b) (hG:Gx w) :
  Calls Tryz.prog 37 #[v] w fun e w'=>e=.returned (.int .i64 (av a b))∧Below w.heap.size w w':=by
 obtain⟨p,c,q,d,rfl,h1,h2⟩:=h.ex
 refine (vR p q c d a b w h1.words h2.words hG).mono ?_
 rintro e w' ⟨n,rfl,hn,hb⟩
 refine⟨?_,hb⟩
 rcases hn with ⟨rfl,hc⟩ | ⟨rfl,hc⟩
 ·unfold av;rw[hc.out];rfl
 ·unfold av;rw[hc.out];rfl
theorem aB {a b:List ByteArray} (h:au a b=true):1≤b.length∧b.length≤7∧1≤a.length∧a.length≤7∧(∀ s∈a,bt s.data.toList=true)∧(∀ s∈b,bt s.data.toList=true)∧pz b=some [49]:=by
 unfold au dJ at h
 simp only[xN,decide_eq_true_eq,xV] at h
 exact⟨h.1.2.1.1,h.1.2.1.2,h.1.1.1.1,h.1.1.1.2,h.1.1.2,h.1.2.2,h.2⟩
theorem ar (w:World) (x y:Value):(w.alloc (.cells #[x,y] 24)).cell? ⟨w.heap.size,0,none⟩=some x∧(w.alloc (.cells #[x,y] 24)).cell? ⟨w.heap.size,1,none⟩=some y :=
 ⟨ap w _ _ 0 _ rfl,ap w _ _ 1 _ rfl⟩
def iU (r:ByteArray):Nat→ByteArray
 | 0=>⟨#[49]⟩
 | i+1=>bX (iU r i) r
def bP (out:List ByteArray) (r:ByteArray):List ByteArray:=(List.range out.length).map fun i=>bJ (ax out i) (iU r i)
theorem l6 (out:List ByteArray) (r:ByteArray) {i:Nat} (h:i<out.length):(bP out r).take (i+1)=(bP out r).take i++[bJ (ax out i) (iU r i)]:=by
 have hl:i<(bP out r).length:=by simp[bP,h]
 rw[show (bP out r).take (i+1)=(bP out r).take i++[(bP out r)[i]] from (xG hl).symm]
 simp[bP]
def bY (out:List ByteArray) (r:ByteArray):Bool:=(aU (bP out r)).isSome
theorem pY (v:Value) (l:List ByteArray) (r:ByteArray) (w:World) (hl:IsS w v l) (hpos:0<l.length) (hlen:l.length<1000000) (hG:Gw w) :
  Calls Tryz.prog 42 #[v,.string r] w fun e w'=>e=.returned (.bool (bY l r))∧Below w.heap.size w w':=by
 obtain⟨p,c,rfl,-⟩:=id hl.form
 have HL:=xo hl
 have HG:=xo hG
 clear hl hG
 go_enter Tryz.func42,Tryz.ntmps42
 go_wp2
 go_loopw [5,6,11] (fun s5 s6 s11 wr=>∃ i:Nat,s5=.string (iU r i)∧s11=.int .i64 i∧i≤l.length∧bj wr w.heap.size s6 ((bP l r).take i)∧Below w.heap.size w wr) (fun _ _ s11 _=>l.length-(intOf s11).toNat)
 case atStart=>exact⟨0,rfl,rfl,xJ _,bj.nil _ _,Below.refl _ _⟩
 case round =>
  obtain⟨i,rfl,rfl,hin,hown,hbr⟩:=hrel
  by_cases hi:i<l.length
  ·obtain⟨b,o,rfl,hbl,hcell⟩:=(HL.out.below hbr).get hi
   rw[gz] at hcell
   have HT:=xo (l6 l r hi)
   go_wp2_with fail
   refine (dM _ _ wr (HG.out.below hbr)).mono ?_
   rintro e w1 ⟨rfl,hb1⟩
   have hB1:=hbr.trans (hb1.mono hbr.size)
   have hw1:=hown.below hb1
   have hbs:=hB1.size
   have hzl:((bP l r).take i).length<1000000000:=by simp;omega
   clear hb1 hbr hown hcell
   go_wp2_with (at_builtin;refine aI 22 Tryz.underlying22 rfl (.tmp 15) (.tmp 19) rfl w.heap.size _ _ _ rfl hw1 rfl hzl hbs ?_)
   intro v' w2 hw2 hb2
   have hB2:=hb2 _ _ hB1 (xy _)
   rw[←HT.out] at hw2
   clear hw1 hb2 hB1
   go_wp2_with fail
   refine (cW _ _ w2 (HG.out.below hB2)).mono ?_
   rintro e w3 ⟨rfl,hb3⟩
   have hB3:=hB2.trans (hb3.mono hB2.size)
   have hw3:=hw2.below hb3
   clear hb3 hB2 hw2
   go_wp2
   go_roundw
   case rel=>exact⟨i+1,rfl,by go_num,by omega,hw3,hB3⟩
   case measure=>(first | (simp[intOf];done) | (simp[intOf];omega))
  ·have hin':i=l.length:=by omega
   subst hin'
   have hlw:(bP l r).length=l.length:=by simp[bP]
   rw[←hlw,xP] at hown
   have hs:=hown.isS
   have HS:=xo (iB _ _ wr hs (by omega) (by omega) (HG.out.below hbr))
   obtain⟨q,d,rfl,-⟩:=hs.form
   clear hown hs hi hlw
   go_wp2_with fail
   refine HS.out.mono ?_
   rintro e w1 ⟨rfl,hb1⟩
   go_wp2
   go_ret
   exact⟨rfl,hbr.trans (hb1.mono hbr.size)⟩
end Go.Proofs.YtomkanblohhpfaaGreatDoor
