/- Lemmas of this claim. -/
import Derived.Test.YtomkanblohhpfaaGreatDoorYNC7
set_option linter.all false
set_option maxRecDepth 100000
set_option maxHeartbeats 8000000
namespace Go.Proofs.YtomkanblohhpfaaGreatDoor
open Go.RowKit Dg
def au (l:List ByteArray) (i:Nat):ByteArray:=l.getD i ⟨#[]⟩
theorem fY {l:List ByteArray}{i:Nat} (h:i<l.length):l[i]=au l i:=by simp[au,h]
def aN (L:List ByteArray) (i:Nat):List ByteArray:=L.take i++List.replicate (L.length-i) ⟨#[]⟩
theorem ez (L:List ByteArray) {i:Nat} (h:i≤L.length):(aN L i).length=L.length:=by simp[aN];omega
theorem eA (L:List ByteArray) {i:Nat} (h:i<L.length):(aN L i).set i L[i]=aN L (i+1):=by
 have e:L.length-i=(L.length-(i+1))+1:=by omega
 have hl:(L.take i).length=i:=by simp;omega
 unfold aN
 rw[e,xQ,List.set_append_right i _ (by omega),hl,yX,vQ,←wg h,wZ]
 rfl
theorem dS (L:List ByteArray):aN L 0=List.replicate L.length ⟨#[]⟩:=by simp[aN]
theorem dR (L:List ByteArray):aN L L.length=L:=by simp[aN]
def jB (p:List ByteArray) (j:Nat) (k:ByteArray):List ByteArray:=(List.range j).map fun i=>bE (fK (au p i) (bZ k (au p (j-i)))) (fK ⟨#[49]⟩ (bZ k k))
theorem pX (p:List ByteArray) (j:Nat) (k:ByteArray):(jB p j k).length=j:=by simp[jB]
def iu:Nat→List ByteArray→List ByteArray→Option (List ByteArray)
 | 0,_,pf=>some pf
 | j+1,p,pf=>if dD (au p (j+1))=true then iu j (jB p (j+1) (au p (j+1))) (pf.set j (au p (j+1))) else none
def aP (l:List ByteArray):Option (List ByteArray):=iu (l.length-1) l (List.replicate (l.length-1) ⟨#[]⟩)
structure Two (w:World) (v:Value) (p:List ByteArray) (g n:Nat) (pf:List ByteArray):Prop where
 p:IsS w v p
 row:bC w g n pf
 ne:v.ownBlock≠some g
def o8 (l:List ByteArray) (w:World) (e:Ending) (w':World):Prop :=
 ∃ v ok,e=.returned (.tuple #[v,.bool ok])∧((∃ pf,aP l=some pf∧ok=true∧IsS w' v pf∧pf.length=l.length-1)∨(aP l=none∧ok=false∧v=.slice none 0 0))∧Below w.heap.size w w'
theorem sb (v:Value) (l:List ByteArray) (w:World) (hl:IsS w v l) (hpos:0<l.length) (hlen:l.length<1000000) (hG:Gw w) :
  Calls Tryz.prog 64 #[v] w (o8 l w):=by
 obtain⟨p0,c0,rfl,hcl,hcm⟩:=id hl.form
 have HC:=vL (m8 _ l w hl hpos (by omega))
 go_enter Tryz.func64,Tryz.ntmps64
 go_wp2_with fail
 refine HC.out.mono ?_
 rintro e w1 ⟨v1,rfl,hv1,hb1⟩
 obtain⟨p1,c1,rfl,-⟩:=id hv1.isS.form
 obtain⟨n,hn⟩:∃ n,l.length=n+1:=⟨l.length-1,by omega⟩
 have hG1:=hG.below hb1
 clear hl HC
 go_wp2_with (at_make;refine bj 22 Tryz.underlying22 rfl (.tmp 15) (.tmp 15) rfl _ _ n rfl rfl (by go_num) (by go_num) (by omega) ?_)
 intro w2 hrow hbm hs
 have hb2:=hbm _ _ hb1 hb1.size
 have hb12:=hbm _ _ (Below.refl _ _) (vS _)
 have hne:Value.ownBlock (.slice p1 (n+1) c1)≠some w1.heap.size:=fun e=>by
  have:=(World.ownsRow.lt hv1 _ (by rw[hn];exact e)).2
  omega
 have hT:Two w2 (.slice p1 (n+1) c1) l w1.heap.size n (List.replicate n ⟨#[]⟩):=⟨by rw[←hn];exact hv1.isS.below hb12,hrow,hne⟩
 have hg0:=hb1.size
 have HR:=vL (show iu n l (List.replicate n ⟨#[]⟩)=aP l by unfold aP;rw[hn];rfl)
 have HN:=vL hn
 have hnb:n<1000000:=by omega
 obtain⟨g0,hge⟩:∃ g,g=w1.heap.size:=⟨_,rfl⟩
 rw[←hge] at hT hg0 ⊢
 have hG2:=hG1.below hb12
 clear hrow hbm hs hv1 hne hb1 hb12 hge hG1
 go_wp2
 go_loopw [4,6] (fun s4 s6 wr=>∃ (j:Nat) (p pf:List ByteArray),s6=.int .i64 j∧j≤n∧p.length=j+1∧Two wr s4 p g0 n pf∧pf.length=n∧Below w.heap.size w wr∧Hid (iu j p pf=aP l)) (fun _ s6 _=>(intOf s6).toNat)
 case atStart=>exact⟨n,l,_,by go_num,vS _,HN.out,hT,by simp,hb2,HR.out⟩
 case round =>
  clear hT hb2 HR hG2 hn hpos hlen
  obtain⟨j,p,pf,rfl,hjn,hpl,hT,hpfl,hbr,hR⟩:=hrel
  have hGr:=hG.below hbr
  by_cases hj:0<j
  ·obtain⟨pp,cp,rfl,-⟩:=id hT.p.form
   obtain⟨b,o,rfl,hbl,hcell⟩:=hT.p.get (i:=j) (by omega)
   obtain⟨k,hk⟩:∃ k,k=p[j]'(by omega):=⟨_,rfl⟩
   rw[←hk] at hcell
   rw[fY] at hk
   have HPL:=vL hpl
   obtain⟨m,rfl⟩:∃ m,j=m+1:=⟨j-1,by omega⟩
   have HI:=vL (oA k wr hGr)
   have HK:=vL hk
   have hdj:decide ((0:Int)<((m+1:Nat):Int))=true:=by simp
   have hR':aP l=if dD k=true then iu m (jB p (m+1) k) (pf.set m k) else none:=by rw[←hR.out,hk];rfl
   have HR:=vL hR'
   clear hR hR' hk
   rw[hpl] at hT ⊢
   by_cases hin:dD k=true
   ·rw[hin] at HI
    have HR2:=vL (show iu m (jB p (m+1) k) (pf.set m k)=aP l by rw[HR.out,if_pos hin])
    clear hin HR hpl
    go_wp2_with fail
    refine HI.out.mono ?_
    rintro e w3 ⟨rfl,hb3⟩
    have hml:m<pf.length:=by omega
    have r0:=hT.row.below hb3
    have rc:=r0.cell hml
    have rf:=r0.free m
    have hT4:Two (w3.setCell ⟨g0,m,none⟩ (.string k)) (.slice (some ⟨b,o,none⟩) (m+1+1) cp) p g0 n (pf.set m k):=⟨(hT.p.below hb3).other hT.ne m _,r0.set m k,hT.ne⟩
    have hB4:Below w.heap.size w (w3.setCell ⟨g0,m,none⟩ (.string k)):=(hbr.trans (hb3.mono hbr.size)).setCell (p:=⟨g0,m,none⟩) hg0 _
    have hG4:=hG.below hB4
    go_upto_region 10 with fail
    generalize w3.setCell ⟨g0,m,none⟩ (.string k)=w4 at *
    have HB4:=vL hB4
    have HT4:=vL hT4
    have HG4:=vL hG4
    clear hT hT4 r0 rc rf hb3 hbr hGr HI hcell hbl hB4 hG4
    go_wp2_with fail
    refine (de k k w4 HG4.out).mono ?_
    rintro e w5 ⟨rfl,hb5⟩
    go_wp2_with fail
    refine (gW _ _ w5 (HG4.out.below hb5)).mono ?_
    rintro e w6 ⟨rfl,hb6⟩
    have hb6':=hb5.trans (hb6.mono hb5.size)
    obtain⟨sc,hsc⟩:∃ t,t=fK ⟨#[49]⟩ (bZ k k):=⟨_,rfl⟩
    rw[←hsc]
    have HSC:=vL hsc
    clear hsc hb5 hb6
    go_wp2_with (at_make;refine bj 22 Tryz.underlying22 rfl (.tmp 40) (.tmp 40) rfl _ _ (m+1) rfl rfl (by go_num) (by go_num) (by omega) ?_)
    intro w7 hrow7 hb7 hs7
    have hb67:=hb7 _ _ (Below.refl _ _) (vS _)
    have hb47:=hb7 _ _ hb6' hb6'.size
    obtain⟨L,hL⟩:∃ L,L=jB p (m+1) k:=⟨_,rfl⟩
    have hLl:L.length=m+1:=by rw[hL,pX]
    have hr7:bC w7 w6.heap.size (m+1) (aN L 0):=by rw[dS,hLl];exact hrow7
    have hle:=hb6'.size
    obtain⟨g1,hg1⟩:∃ g,g=w6.heap.size:=⟨_,rfl⟩
    rw[←hg1] at hr7 hb67 hle ⊢
    obtain⟨b',o',e,hbl,hc0⟩:=HT4.out.p.get (i:=0) (by rw[HPL.out];omega)
    obtain⟨rfl,rfl⟩:b=b'∧o=o':=by simpa using e
    have hcells:∀ i,i<m+2→w4.cell? ⟨b,o+i,none⟩=some (.string (au p i)):=fun i hi=>by
     obtain⟨b',o',e,-,hc⟩:=HT4.out.p.get (i:=i) (by rw[HPL.out];omega)
     obtain⟨rfl,rfl⟩:b=b'∧o=o':=by simpa using e
     rw[hc,fY]
    have HCS:=vL hcells
    have hg04:=HT4.out.row.lt
    have HB47:=vL hb47
    have HL:=vL hL
    have hml2:m+1<1000000:=by omega
    have hbm:Below g1 w7 w7:=Below.refl _ _
    clear e hc0 hcells hb7 hs7 hrow7 hb6' hb47 hL hg1 hb67 hml HK
    go_wp2
    go_loopw [44] (fun s44 w8=>∃ i:Nat,s44=.int .i64 i∧i≤m+1∧bC w8 g1 (m+1) (aN L i)∧Below g1 w7 w8) (fun s44 _=>m+1-(intOf s44).toNat)
    case atStart=>exact⟨0,rfl,wj _,hr7,hbm⟩
    case round =>
     clear hr7 hbm
     obtain⟨i,rfl,him,hr8,hb8⟩:=hrel
     have hB8:=HB47.out.trans (hb8.mono hle)
     by_cases hi:i<m+1
     ·have hdi:decide ((i:Int)<(m:Int)+1)=true:=by simp;omega
      have e1:((m+1:Nat):Int)-(i:Int)=((m+1-i:Nat):Int):=by omega
      go_upto_region 15 with fail
      have hx:=HCS.out i (by omega)
      have hy:=HCS.out (m+1-i) (by omega)
      have m4:Below wr.heap.size wr wr.drew:=(Below.refl _ _).drew
      have HBd:=vL (hB8.trans (m4.mono hB8.size))
      have hgr:=hr8.lt
      have hG9:=HG4.out.below HBd.out
      have hr9:=hr8.below m4
      have hbd:=hb8.trans (m4.mono (by omega))
      refine ai (fun w'=>∃ x:ax g1 wr.drew,w'=x.w) (fun i=>i == 13||i == 14||i == 16||i == 18) (by kernel_rfl) (by kernel_rfl) ⟨⟨_,Below.refl _ _⟩,rfl⟩ ?_
      have hz:g1≤wr.drew.heap.size:=by have:=m4.size;omega
      generalize wr.drew=wd at *
      have c0:=fun x:ax g1 wd=>aa (HBd.out.trans (x.h.mono hle)) hbl hx
      have c1:=fun x:ax g1 wd=>aa (HBd.out.trans (x.h.mono hle)) hbl hy
      clear hx hy m4 hB8 hr8 hb8 hgr
      refine ae 13 0 _ _ _ (by kernel_rfl) ?_
      simp only[vU,vY,vT,vX]
      repeat (go_big_quiet_step (fail))
      refine wpQuiet_nil ?_
      clear e1 c0 c1
      refine af rfl rfl (fun K hK=>?_)
      go_simp
      refine (de k _ wd hG9).mono ?_
      rintro e wa ⟨rfl,hba⟩
      refine hK _ _ ⟨⟨_,(hba).mono hz⟩,rfl⟩ ?_
      clear hK K
      try simp only[Act.put,vP,vO,vN,vM,vQ,vR]
      refine af rfl rfl (fun K hK=>?_)
      go_simp
      refine (gW _ _ wa (hG9.below hba)).mono ?_
      rintro e wb ⟨rfl,hbb⟩
      have hBb:=hba.trans (hbb.mono hba.size)
      refine hK _ _ ⟨⟨_,(hBb).mono hz⟩,rfl⟩ ?_
      clear hK K
      try simp only[Act.put,vP,vO,vN,vM,vQ,vR]
      refine ae 1 15 _ _ _ (by kernel_rfl) ?_
      simp only[vU,vY,vT,vX]
      repeat (go_big_quiet_step (fail))
      refine wpQuiet_nil ?_
      refine af rfl rfl (fun K hK=>?_)
      go_simp
      refine (dE _ _ wb (hG9.below hBb)).mono ?_
      rintro e wc ⟨rfl,hbc⟩
      have hBc:=hBb.trans (hbc.mono hBb.size)
      refine hK _ _ ⟨⟨_,(hBc).mono hz⟩,rfl⟩ ?_
      clear hK K
      try simp only[Act.put,vP,vO,vN,vM,vQ,vR]
      refine ae 1 17 _ _ _ (by kernel_rfl) ?_
      simp only[vU,vY,vT,vX]
      repeat (go_big_quiet_step (fail))
      refine wpQuiet_nil ?_
      have hfl:i<(aN L i).length:=by rw[ez L (by omega)];omega
      have rc:=hr9.below hBc
      have rd:=rc.cell hfl
      have re:=rc.free i
      have hset:bC (wc.setCell ⟨g1,i,none⟩ (.string (bE (fK (au p i) (bZ k (au p (m+1-i)))) sc))) g1 (m+1) (aN L (i+1)):=by
       have h1:=rc.set i (bE (fK (au p i) (bZ k (au p (m+1-i)))) sc)
       have h2:=eA L (i:=i) (by omega)
       have h3:L[i]'(by omega)=bE (fK (au p i) (bZ k (au p (m+1-i)))) sc:=by
        have:=HL.out
        simp only[this,jB,xA,List.getElem_range,←HSC.out]
       rw[h3] at h2
       rw[←h2];exact h1
      have hP:Below g1 wd (wc.setCell ⟨g1,i,none⟩ (.string (bE (fK (au p i) (bZ k (au p (m+1-i)))) sc))):=(hBc.mono hz).setCell (p:=⟨g1,i,none⟩) (vS _) _
      refine af rfl rfl (fun K hK=>?_)
      go_simp
      refine hK undef _ ⟨⟨_,hP⟩,rfl⟩ ?_
      clear hK K
      try simp only[Act.put,vP,vO,vN,vM,vQ,vR]
      refine av ?_
      have hBn:=hbd.trans hP
      clear rc rd re hP hbc hbb hba hBb hBc hr9 hG9
      generalize wc.setCell ⟨g1,i,none⟩ (.string (bE (fK (au p i) (bZ k (au p (m+1-i)))) sc))=we at *
      go_wp2
      go_roundw
      case rel=>exact⟨i+1,by go_num,by omega,hset,hBn⟩
      case measure=>(first | (simp[intOf];done) | (simp[intOf];omega))
     ·have hi':i=m+1:=by omega
      subst hi'
      have hfull:aN L (m+1)=L:=by rw[←hLl];exact dR L
      rw[hfull] at hr8
      have hT8:Two wr (.slice (some ⟨g1,0,none⟩) (m+1) (m+1)) L g0 n (pf.set m k):=⟨by have:=hr8.isS;rwa [hLl] at this,HT4.out.row.past hB8 hg04,fun e=>by simp[Value.ownBlock] at e;omega⟩
      have hBw:=HB4.out.trans (hB8.mono HB4.out.size)
      clear hfull hi hr8 hb8 hB8
      go_wp2
      go_roundw
      case rel=>exact⟨m,L,pf.set m k,by go_num,by omega,hLl,hT8,by simp[hpfl],hBw,by rw[HL.out];exact HR2.out⟩
      case measure=>(first | (simp[intOf];done) | (simp[intOf];omega))
   ·have hin':dD k=false:=by simpa using hin
    rw[hin'] at HI
    have HR2:=vL (show aP l=none by rw[HR.out,if_neg hin])
    clear hin hin' HR hpl
    go_wp2_with fail
    refine HI.out.mono ?_
    rintro e w3 ⟨rfl,hb3⟩
    go_wp2
    refine bodyPost_ret (v:=.tuple #[.slice none 0 0,.bool false]) (by simp[results,Tryz.results64,go_sem]) rfl ⟨_,_,rfl,Or.inr ⟨HR2.out,rfl,rfl⟩,hbr.trans (hb3.mono hbr.size)⟩
  ·have hj0:j=0:=by omega
   subst hj0
   have hend:aP l=some pf:=hR.out.symm
   have hrow:=hT.row.isS
   rw[hpfl] at hrow
   have HE:=vL hend
   clear hR hend hj
   go_wp2
   refine bodyPost_ret (v:=.tuple #[.slice (some ⟨g0,0,none⟩) n n,.bool true]) (by simp[results,Tryz.results64,go_sem]) rfl ⟨_,_,rfl,Or.inl ⟨pf,HE.out,rfl,hrow,by rw[hpfl,HN.out];rfl⟩,hbr⟩
end Go.Proofs.YtomkanblohhpfaaGreatDoor
