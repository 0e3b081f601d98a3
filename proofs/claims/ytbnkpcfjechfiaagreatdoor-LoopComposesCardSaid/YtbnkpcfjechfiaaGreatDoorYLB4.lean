/- Lemmas of this claim. -/
import Derived.Sort.CutIn
import Derived.Test.YtbnkpcfjechfiaaGreatDoorYLE2
set_option linter.all false
set_option maxRecDepth 100000
set_option maxHeartbeats 8000000
namespace Go.Proofs.YtbnkpcfjechfiaaGreatDoor
open Go.RowKit Go.Shelf Dg
def iw (k:ByteArray) (p:List ByteArray):List ByteArray:=(List.range (p.length+1)).map fun i=>fQ (aF (p++[⟨#[48]⟩]) i) (dD k (aF (p++[⟨#[48]⟩]) (p.length-i)))
theorem lX (k:ByteArray) (p:List ByteArray):(iw k p).length=p.length+1:=by simp[iw]
theorem zj (k:ByteArray) (p:List ByteArray) {i:Nat} (h:i<(iw k p).length):(iw k p)[i]=fQ (aF (p++[⟨#[48]⟩]) i) (dD k (aF (p++[⟨#[48]⟩]) (p.length-i))):=by simp[iw]
def fk:List ByteArray→List ByteArray→List (List ByteArray)
 | [],_=>[]
 | k :: ks,p=>if gR k.data.toList=true∧fS k=true then iw k p :: fk ks (iw k p) else []
def bE (l:List ByteArray):List (List ByteArray):=fk l [⟨#[49]⟩]
def zB (l:List ByteArray) (i:Nat) (W:World) (vs:Array Value):Prop:=∃ v p,vs=#[v]∧(bE l)[i]?=some p∧IsS W v p
attribute [local go_sem] Oper.semAt_some
theorem qN (n:Nat) (hn:3≤n) (g:Nat) (v:Value) (l:List ByteArray) (w:World) (Sb:Nat→Prop) (hbox:w.heap[g]?=some (.cells #[v] 22 (0,0))) (hl:IsS w v l) (hlen:l.length<1000) (hsb:¬ Sb g) :
  ur Fence.wide n Tryz.prog 97 #[] #[.pointer (some ⟨g,0,none⟩)] (zB l) (bE l).length Sb (fun _=>False) (fun W=>r_ Sb Co W∧Gw W) w:=by
 intro y J W hW hJ hOk hY h0;have hgl:g<w.heap.size:=(Fw.1 hbox).1;have hb0:=(hW.block g hgl).trans hbox;have hlW:=hl.below hW;have HY:=Fi hY;have HJ:=Fi hJ;have HOK:=Fi hOk;obtain⟨p,c,rfl,-⟩:=id hlW.form;have HL:=Fi hlW;have hgW:=(Fw.1 hb0).1;have m1:=aq W (.cells #[.string ⟨#[49]⟩] 34);have c0:=ag m1 hgW (dI hb0).1;have hp0:=m7 W ⟨#[49]⟩;have hl0:=hlW.below m1;have hj0:=hJ _ _ _ h0 (cG.of_below m1);clear hW hY hJ hOk hbox hl hlW hb0 m1 h0 HL;refine callsIn_of_wp Tryz.func97 rfl trivial ?_ rfl;simp only[Tryz.ntmps97,Ij,FK,Gj,Nat.reduceAdd,Nat.reduceSub,Hx,Hy,Ii,H_,F6,Gc]
 gi_wp2_with fail
 generalize W.alloc (.cells #[.string ⟨#[49]⟩] 34)=W0 at *
 gi_loopw [3,12] (fun s3 s12 wr=>∃ (i:Nat) (ps:List ByteArray),s12=.int .i64 i∧i≤l.length∧i≤(bE l).length∧IsS wr s3 ps∧ps.length=i+1∧IsS wr (.slice p l.length c) l∧J i wr∧Hid (fk (l.drop i) ps=(bE l).drop i)) (fun _ s12 _=>l.length-(intOf s12).toNat)
 case atStart=>exact⟨0,_,rfl,by omega,by omega,hp0,rfl,hl0,hj0,rfl⟩
 case round =>
  clear hp0 hl0 hj0 c0;obtain⟨i,ps,rfl,hil,hib,hp,hpl,hl,hJi,hbd⟩:=hrel;by_cases hi:i<l.length
  ·obtain⟨b,o,rfl,hlt,hc⟩:=hl.get hi;obtain⟨pp,cp,rfl,-⟩:=id hp.form;have HBD:=Fi (show (if gR l[i].data.toList=true∧fS l[i]=true then iw l[i] ps :: fk (l.drop (i+1)) (iw l[i] ps) else [])=(bE l).drop i by rw[←hbd.out,GL hi];rfl);generalize l[i]=k at hc HBD;have hG:=(HOK.out _ _ hJi).2;have HIR:=Fi (wJ k wr hG);have HP:=Fi hp;have HL:=Fi hl;have HJi:=Fi hJi;rw[hpl] at HP ⊢;clear hbd hp hl hJi hG
   gi_wp2_with fail
   refine⟨trivial,fun _=>by omega,(callsIn_wide.2 HIR.out).mono ?_⟩;rintro e w2 ⟨br,rfl,hbr,hb2⟩;have HJi:=Fi (HJ.out _ _ _ HJi.out (cG.of_below hb2));have HP:=Fi (HP.out.below hb2);have HL:=Fi (HL.out.below hb2);clear HIR hc hb2
   cases br with
   | false =>
    have hlen:(bE l).length=i:=by
     have h:=HBD.out;rw[if_neg (fun h=>by rw[hbr.out] at h;cases h.1)] at h;have:=congrArg List.length h;simp at this;omega
    gi_wp2
    refine⟨trivial,?_⟩
    gi_wp2
    refine bodyPost_ret (v:=.tuple #[]) (by simp[results,Tryz.results97,go_sem]) rfl ⟨⟨_,rfl⟩,by rw[hlen];exact HJi.out⟩
   | true =>
    have HIN:=Fi (wI k w2 (HOK.out _ _ HJi.out).2);obtain⟨bi,hbi⟩:∃ b,b=fS k:=⟨_,rfl⟩;rw[←hbi] at HIN
    gi_wp2_with fail
    refine⟨trivial,fun _=>by omega,(callsIn_wide.2 HIN.out).mono ?_⟩;rintro e w3 ⟨rfl,hb3⟩;have HJi:=Fi (HJ.out _ _ _ HJi.out (cG.of_below hb3));have HP:=Fi (HP.out.below hb3);have HL:=Fi (HL.out.below hb3);clear HIN hb3
    cases bi with
    | false =>
     have hlen:(bE l).length=i:=by
      have h:=HBD.out;rw[if_neg (fun h=>by rw[←hbi] at h;cases h.2)] at h;have:=congrArg List.length h;simp at this;omega
     gi_wp2
     refine bodyPost_ret (v:=.tuple #[]) (by simp[results,Tryz.results97,go_sem]) rfl ⟨⟨_,rfl⟩,by rw[hlen];exact HJi.out⟩
    | true =>
     have HBD:=Fi (show iw k ps :: fk (l.drop (i+1)) (iw k ps)=(bE l).drop i by
      have h:=HBD.out
      rwa [if_pos ⟨hbr.out,hbi.symm⟩] at h)
     clear hbr hbi
     gi_upto_region 5 with fail
     rw[wpIn_wide];go_wp2_with fail
     refine (uB _ ps w3 HP.out (by omega) (by omega)).mono ?_;rintro e w4 ⟨v4,rfl,hv4,hb4⟩;have hm5:=aq w4 (.cells #[.string ⟨#[48]⟩] 34);have hv5:=hv4.below hm5;have hx5:=m7 w4 ⟨#[48]⟩;have hB5:=hb4.trans (hm5.mono hb4.size);have hpb:ps.length+[(⟨#[48]⟩:ByteArray)].length<1000000000:=by rw[hpl];simp;omega
     have hlt3:w3.heap.size≤(w4.alloc (.cells #[.string ⟨#[48]⟩] 34)).heap.size:=hB5.size;clear hb4 hm5 hv4;go_wp2_with (at_builtin;refine fi 22 Tryz.underlying22 rfl (.tmp 25) (.tmp 26) rfl w3.heap.size _ ps [⟨#[48]⟩] w4.heap.size 0 1 rfl hv5 rfl hx5 hpb hlt3 ?_)
     intro v6 w6 hw6 hb6;have hB6:=hb6 _ _ hB5 (Fq _);obtain⟨p6,c6,rfl,-⟩:=id hw6.isS.form;obtain⟨q,hq⟩:∃ q,q=ps++[(⟨#[48]⟩:ByteArray)]:=⟨_,rfl⟩;have hql:q.length=i+2:=by rw[hq];simp[hpl]
     have hqs:=hw6.isS;rw[←hq,hql] at hqs;rw[show (ps++[(⟨#[48]⟩:ByteArray)]).length=i+2 by rw[←hq];exact hql];have HQ:=Fi hqs;have HQE:=Fi hq;have HJi:=Fi (HJ.out _ _ _ HJi.out (cG.of_below hB6));have HL:=Fi (HL.out.below hB6);clear hw6 hb6 hv5 hx5 hB5 hpb hlt3 hB6 hq hqs HP;go_wp2
     gi_upto_region 6 with fail
     rw[wpIn_wide];have hi2:((i+2:Nat):Int)=(i:Int)+2:=rfl;go_wp2_with (at_make;refine cD 22 Tryz.underlying22 rfl (.tmp 29) (.tmp 29) rfl _ _ (i+2) rfl rfl (by go_num) (by go_num) (by omega) ?_)
     intro w7 hr7 hb7 hs7;have hB7:=hb7 _ _ (Below.refl _ _) (Fq _);obtain⟨L,hL⟩:∃ L,L=iw k ps:=⟨_,rfl⟩;have hLl:L.length=i+2:=by rw[hL,lX,hpl]
     have hr0:cR w7 w6.heap.size (i+2) (bK L 0):=by rw[gw,hLl];exact hr7
     obtain⟨g7,hg7⟩:∃ g,g=w6.heap.size:=⟨_,rfl⟩;rw[←hg7] at hr0 hB7 ⊢;have HB67:=Fi hB7;have HGE:=Fi hg7;have HG6:=Fi (HOK.out _ _ HJi.out).2;have HLE:=Fi hL;obtain⟨bq,oq,rfl,hlq,hcq⟩:=HQ.out.all (by omega);rw[hql] at hcq;have HCQ:=Fi (fun j (h:j<i+2)=>ag hB7 (by rw[hg7];exact hlq) (hcq j h));have hlq7:bq<g7:=by rw[hg7];exact hlq
     have hB77:Below g7 w7 w7:=Below.refl _ _;have hnb:i+2<1000000:=by omega
     clear hb7 hs7 hr7 hL hg7 hB7 hcq hlq HQ hi2;go_wp2
     gi_wp2
     gi_loopw [33] (fun s33 w8=>∃ j:Nat,s33=.int .i64 j∧j≤i+2∧cR w8 g7 (i+2) (bK L j)∧Below g7 w7 w8) (fun s33 _=>i+2-(intOf s33).toNat)
     case atStart=>exact⟨0,rfl,Fz _,hr0,hB77⟩
     case round =>
      clear hr0 hB77;obtain⟨j,rfl,hji,hr8,hb8⟩:=hrel;by_cases hj:j<i+2
      ·have hjI:(j:Int)<(i:Int)+2:=by omega
       have e1:(i:Int)+2-1-(j:Int)=((i+1-j:Nat):Int):=by omega
       have e2:(i:Int)+1-(j:Int)=((i+1-j:Nat):Int):=by omega
       gi_upto_region 10 with fail
       rw[wpIn_wide];have hx:=HCQ.out j hj;have hy:=HCQ.out (i+1-j) (by omega);have m4:Below wr.heap.size wr wr.drew:=(Below.refl _ _).drew;have hgr:=hr8.lt;have HBd:=Fi (hb8.trans (m4.mono (by omega)));have HR9:=Fi (hr8.below m4);refine aw (fun w'=>∃ x:aK g7 wr.drew,w'=x.w) (fun i=>i == 15||i == 16||i == 18) (by kernel_rfl) (by kernel_rfl) ⟨⟨_,Below.refl _ _⟩,rfl⟩ ?_;have hz:g7≤wr.drew.heap.size:=by have:=m4.size;omega
       generalize wr.drew=wd at *
       have c0:=fun x:aK g7 wd=>ag (HBd.out.trans x.h) hlq7 hx;have c1:=fun x:aK g7 wd=>ag (HBd.out.trans x.h) hlq7 hy;have HG9:=Fi (HG6.out.below (by have h:=HB67.out.trans HBd.out;rw[HGE.out] at h;exact h));clear hx hy m4 hr8 hb8 hgr;refine ak 15 0 _ _ _ (by kernel_rfl) ?_;simp only[Fr,Fv,Fs,Fu];repeat (go_big_quiet_step (fail))
       refine wpQuiet_nil ?_;clear c0 c1 e1 e2;refine ap rfl rfl (fun K hK=>?_);go_simp;refine (eM k _ wd HG9.out).mono ?_;rintro e wa ⟨rfl,hba⟩;refine hK _ _ ⟨⟨_,hba.mono hz⟩,rfl⟩ ?_;clear hK K;try simp only[Act.put,Fm,Fl,Fk,Fj,Fo,Fp]
       refine ap rfl rfl (fun K hK=>?_);go_simp;refine (jW _ _ wa (HG9.out.below hba)).mono ?_;rintro e wb ⟨rfl,hbb⟩;have hBb:=hba.trans (hbb.mono hba.size);refine hK _ _ ⟨⟨_,hBb.mono hz⟩,rfl⟩ ?_;clear hK K;try simp only[Act.put,Fm,Fl,Fk,Fj,Fo,Fp]
       refine ak 1 17 _ _ _ (by kernel_rfl) ?_;simp only[Fr,Fv,Fs,Fu];repeat (go_big_quiet_step (fail))
       refine wpQuiet_nil ?_;have hfl:j<(bK L j).length:=by rw[ie L (by omega)];omega
       have rc:=HR9.out.below hBb;have rd:=rc.cell hfl;have re:=rc.free j
       have hset:cR (wb.setCell ⟨g7,j,none⟩ (.string (fQ (aF q j) (dD k (aF q (i+1-j)))))) g7 (i+2) (bK L (j+1)):=by
        have h1:=rc.set j (fQ (aF q j) (dD k (aF q (i+1-j))));have h2:=ig L (i:=j) (by omega)
        have h3:L[j]'(by omega)=fQ (aF q j) (dD k (aF q (i+1-j))):=by
         have hE:=HLE.out;subst hE;rw[zj,HQE.out,hpl]
        rw[h3] at h2;rw[←h2];exact h1
       have hP:Below g7 wd (wb.setCell ⟨g7,j,none⟩ (.string (fQ (aF q j) (dD k (aF q (i+1-j)))))):=(hBb.mono hz).setCell (p:=⟨g7,j,none⟩) (Fq _) _;refine ap rfl rfl (fun K hK=>?_);go_simp;refine hK undef _ ⟨⟨_,hP⟩,rfl⟩ ?_;clear hK K;try simp only[Act.put,Fm,Fl,Fk,Fj,Fo,Fp]
       refine aD ?_;have hBn:=HBd.out.trans hP;clear rc rd re hP hbb hba hBb HR9 HG9 HBd hz;generalize wb.setCell ⟨g7,j,none⟩ (.string (fQ (aF q j) (dD k (aF q (i+1-j)))))=we at *
       go_wp2
       gi_wp2
       go_roundw;case rel=>exact⟨j+1,by go_num,by omega,hset,hBn⟩
       case measure=>(first | (simp[intOf];done) | (simp[intOf];omega))
      ·obtain rfl:j=i+2:=by omega
       have hfull:bK L (i+2)=L:=by rw[←hLl];exact gr L
       rw[hfull] at hr8;have hB6:=HB67.out.trans hb8;have hB6':Below w6.heap.size w6 wr:=by have h:=hB6;rw[HGE.out] at h;exact h
       have HJr:=Fi (HJ.out _ _ _ HJi.out (cG.of_below hB6'));have HLr:=Fi (HL.out.below hB6')
       have hil:i<(bE l).length:=by
        have:=congrArg List.length HBD.out;simp at this;omega
       have hget:(bE l)[i]?=some L:=by
        have h:=GV (xs:=bE l) (i:=i) (j:=0);rw[←HBD.out] at h;rw[HLE.out];simpa using h.symm
       have HD2:=Fi (show fk (l.drop (i+1)) L=(bE l).drop (i+1) by
        have h:=congrArg (List.drop 1) HBD.out;rw[List.drop_drop] at h;rw[HLE.out]
        exact h)
       have hLS:=hr8.isS;obtain⟨fn,tmps,assign,body,hy,hR⟩:=HY.out i hil wr #[.slice (some ⟨g7,0,none⟩) L.length (i+2)] HJr.out ⟨_,L,rfl,hget,hLS⟩;have hsafe:=(HOK.out _ _ HJr.out).1;rw[hLl] at hy hLS;have HLS:=Fi hLS;clear hb8 hr8 hfull hB6 hB6' hget hLS hj hji hib
       gi_wp2
       refine⟨fun _=>by omega,hR.mono ?_⟩;rintro e W' ⟨rfl,hJ',hT⟩;have hkeep:=jd.of_turns hT hsafe;have hls:=HLS.out.keep hkeep;have hll:=HLr.out.keep hkeep;clear hR hy hT hsafe hkeep HLS HLr HJr
       gi_wp2
       go_roundw;case rel=>exact⟨i+1,L,by go_num,by omega,by omega,hls,hLl,hll,hJ',HD2.out⟩
       case measure=>(first | (simp[intOf];done) | (simp[intOf];omega))
  ·obtain rfl:i=l.length:=by omega
   have hlen:(bE l).length=l.length:=by
    have h:=hbd.out;rw[IM] at h;have:=congrArg List.length h;simp[fk] at this;omega
   clear hbd hp hl hpl hib hil
   gi_wp2
   go_end0
   exact⟨⟨_,rfl⟩,by rw[hlen];exact hJi⟩
def nV (ls:List (List ByteArray)):Nat→List ByteArray
 | 0=>[⟨#[49]⟩]
 | i+1=>ls.getD i []
def pW (l:List ByteArray):List ByteArray:=nV (bE l) (bE l).length
def fp (a b l:List ByteArray):Bool×Int:=if aC a b=true then if l.length+1=b.length then (decide (pW l=b),0) else (false,0) else (false,30)
theorem l8:∀ (l p q:List ByteArray),q∈fk l p→q.length≤p.length+l.length
 | [],_,_,h=>by simp[fk] at h
 | k :: ks,p,q,h=>by
  unfold fk at h
  split at h
  ·rcases Gy.1 h with rfl | h
   ·rw[lX];simp
   ·have:=l8 ks (iw k p) q h;rw[lX] at this;simp;omega
  ·cases h
theorem yC (l:List ByteArray):(pW l).length≤l.length+1:=by
 unfold pW
 cases h:(bE l).length with
 | zero=>simp[nV]
 | succ i =>
  show ((bE l).getD i []).length≤_
  have hi:i<(bE l).length:=by omega
  rw[FF,FC hi];have:=l8 l [⟨#[49]⟩] _ (FG hi);simp at this ⊢;omega
structure DX (w:World) (g b7:Nat) (x y:Value) (l:List ByteArray) (i:Nat) (W:World):Prop where
 box:∃ v,W.heap[b7]?=some (.cells #[v] 22 (0,0))∧IsS W v (nV (bE l) i)
 fil:W.heap[g]?=some (.cells #[x,y] 24 (0,0))
 bel:Below w.heap.size w W
theorem wg {w:World}{g:Nat}{v:Value}{T:TypeId} (h:w.heap[g]?=some (.cells #[v] T (0,0))) (hv:∀ s,v≠.string s):r_ (fun k=>k=g) Co w:=by
 rintro k rfl j u hc;rw[World.cell?,h] at hc;simp only[Gn,FR,if_false] at hc
 have hj:j=0:=by
  have:=(Fw.1 hc).1;simpa using this
 subst hj;simp at hc;subst hc;rintro⟨s,e⟩;exact hv s e
theorem CE (v:Value) (l:List ByteArray) (w:World) (hl:IsS w v l) :
  Calls Tryz.prog 43 #[v] w fun e w'=>e=.returned (.func (.func 97) #[] #[.pointer (some ⟨w.heap.size,0,none⟩)])∧w'.heap[w.heap.size]?=some (.cells #[v] 22 (0,0))∧w.heap.size<w'.heap.size∧IsS w' v l∧Below w.heap.size w w':=by
 obtain⟨p,c,rfl,-⟩:=id hl.form;have c0:=heap_alloc_new w (.cells #[.slice p l.length c] 22 (0,0));have m1:=aq w (.cells #[.slice p l.length c] 22);have z1:=size_alloc w (.cells #[.slice p l.length c] 22);have HL:=Fi (hl.below m1);have H0:=Fi (And.intro c0 (And.intro (show w.heap.size<(w.alloc (.cells #[.slice p l.length c] 22)).heap.size by omega) m1));clear c0 m1 z1 hl;go_enter Tryz.func43,Tryz.ntmps43;go_wp2;go_ret;exact⟨rfl,H0.out.1,H0.out.2.1,HL.out,H0.out.2.2⟩
attribute [local go_sem] Oper.semAt_some
theorem Cu (v vl:Value) (a b l:List ByteArray) (w:World) (hF:IsF w v a b) (hl:IsS w vl l) (hG:Gx w) :
  Calls Tryz.prog 12 #[v,vl] w fun e w'=>e=.returned (.tuple #[.bool (fp a b l).1,.int .i64 (fp a b l).2])∧Below w.heap.size w w':=by
 obtain⟨p,c,q,d,rfl,hfa,hfb⟩:=id hF.ex;obtain⟨pl,cl,rfl,-⟩:=id hl.form;have HG0:=Fi hG;have HB0:=Fi hfb;refine (callsIn_wide (n:=9)).1 ?_;refine callsIn_of_wp_marks Tryz.func12 rfl trivial ?_ rfl;simp only[Tryz.ntmps12,Ij,FK,Gj,Nat.reduceAdd,Nat.reduceSub,Hx,Hy,Ii,H_,F6,Gc]
 gi_upto_region 1 with fail
 have cc:=aG w (.slice p a.length c) (.slice q b.length d);have m1:=aq w (.cells #[.slice p a.length c,.slice q b.length d] 24);have zz:=size_alloc w (.cells #[.slice p a.length c,.slice q b.length d] 24);have rr:=heap_alloc_new w (.cells #[.slice p a.length c,.slice q b.length d] 24 (0,0));generalize w.alloc (.cells #[.slice p a.length c,.slice q b.length d] 24)=w1 at *
 obtain⟨g,hg⟩:∃ g,g=w.heap.size:=⟨_,rfl⟩;rw[←hg] at cc rr ⊢;have HCK:=Fi (eH _ a b w1 (hF.below m1) (hG.below m1));have HB:=Fi (hfb.below m1);have HL:=Fi (hl.below m1);have c0:=cc.1;have c1:=cc.2;have hlt:g<w1.heap.size:=by omega
 have M1:=Fi m1;have HGE:=Fi hg;clear hfa hfb cc zz m1 hF hG hl hg;by_cases hck:aC a b=true
 ·have HT:=Fi (show fp a b l=if l.length+1=b.length then (decide (pW l=b),0) else (false,0) by unfold fp;rw[if_pos hck]);have hce:aB a b=0:=by unfold aB;rw[if_pos hck]
  rw[hce] at HCK;obtain⟨ob1,ob7,-⟩:=aZ hck;clear hce hck
  gi_wp2_with fail
  refine⟨trivial,(callsIn_wide.2 HCK.out).mono ?_⟩;rintro e w2 ⟨rfl,hb2⟩;have d0:=ag hb2 hlt c0;have d1:=ag hb2 hlt c1;have rr2:=(hb2.block g hlt).trans rr;have HB2:=Fi (HB.out.below hb2);have HL2:=Fi (HL.out.below hb2);have M2:=Fi (M1.out.trans (hb2.mono M1.out.size));have hlt2:g<w2.heap.size:=Ft hlt hb2.size;clear c0 c1 rr HB HL HCK M1 hb2 hlt;by_cases hlen:l.length+1=b.length
  ·have hbI:((b.length:Nat):Int)-1=(l.length:Int):=by omega
   have HT:=Fi (show fp a b l=(decide (pW l=b),0) by rw[HT.out,if_pos hlen]);have HLN:=Fi hlen;clear hlen
   gi_wp2_with fail
   have m3:=aq w2 (.cells #[.string ⟨#[49]⟩] 34);have z3:=size_alloc w2 (.cells #[.string ⟨#[49]⟩] 34);have h3:=m7 w2 ⟨#[49]⟩;generalize w2.alloc (.cells #[.string ⟨#[49]⟩] 34)=w3 at *
   have m4:=aq w3 (.cells #[.slice (some ⟨w2.heap.size,0,none⟩) 1 1] 22);have r4:=heap_alloc_new w3 (.cells #[.slice (some ⟨w2.heap.size,0,none⟩) 1 1] 22 (0,0));generalize w3.alloc (.cells #[.slice (some ⟨w2.heap.size,0,none⟩) 1 1] 22)=w4 at *
   have hB4:=m3.trans (m4.mono m3.size);have h4:=h3.below m4;rw[z3] at r4;have hl4:=HL2.out.below hB4;have rr4:=(hB4.block g hlt2).trans rr2;obtain⟨b7,hb7⟩:∃ b,b=w2.heap.size+1:=⟨_,rfl⟩;rw[←hb7] at r4 ⊢;have hM4:=M2.out.trans (hB4.mono M2.out.size);have hbw:w.heap.size≤b7:=by have:=M2.out.size;omega
   have hgb:g≠b7:=by omega
   clear d0 d1 rr2 HL2 m3 z3 h3 m4 hB4 M2 hlt2 hb7;refine⟨trivial,(callsIn_wide.2 (CE _ l w4 hl4)).mono ?_⟩;rintro e w5 ⟨rfl,rb5,hlt5,hl5,hb5⟩;obtain⟨gb,hgb5⟩:∃ g,g=w4.heap.size:=⟨_,rfl⟩;have h5:=h4.below hb5;have r5:=(hb5.block b7 (Fw.1 r4).1).trans r4;have rr5:=(hb5.block g (Fw.1 rr4).1).trans rr4;have hM5:=hM4.trans (hb5.mono hM4.size);have hne5:gb≠b7:=by have:=(Fw.1 r4).1;omega
   have hlt7:b7<w5.heap.size:=(Fw.1 r5).1;rw[←hgb5] at rb5 hlt5 ⊢;have hll:l.length<1000:=by have:=HLN.out;omega
   clear h4 r4 rr4 hl4 hb5 hgb5 hM4
   gi_wp2
   refine mJ (gf:=97) (bnd:=#[]) (lb:=#[.pointer (some ⟨gb,0,none⟩)]) (E:=zB l) (len:=(bE l).length) (Sb:=fun k=>k=b7) (Si:=fun _=>False) (Ok:=fun W=>r_ (fun k=>k=b7) Co W∧Gw W) rfl (by omega) rfl trivial ?eg ?hSb ?hSi (qN 8 (by omega) gb _ l w5 _ rb5 hl5 hll hne5) ?hps
    (DX w g b7 (.slice p a.length c) (.slice q b.length d) l) ?hI ?hOk ?h0
    (fun i a1 W=>∃ v ps,a1={ tmps:=#[.agg #[.slice p a.length c,.slice q b.length d],.slice pl l.length cl,.pointer (some ⟨g,0,none⟩),undef,.bool false,.int .i64 0,.int .i64 0,.pointer (some ⟨b7,0,none⟩),v,.agg #[.slice p a.length c,.slice q b.length d],.int .i64 0,.int .i64 0,.bool false,undef,.slice pl l.length cl,.int .i64 l.length,.pointer (some ⟨g,1,none⟩),.slice q b.length d,.int .i64 b.length,.int .i64 l.length,.bool false,.slice (some ⟨w2.heap.size,0,none⟩) 1 1,.slice pl l.length cl,.func (.func 97) #[] #[.pointer (some ⟨gb,0,none⟩)],v,undef,undef,undef,undef,undef],defers:=[] }∧(bE l)[i]?=some ps∧IsS W v ps∧DX w g b7 (.slice p a.length c) (.slice q b.length d) l i W) ?hI1 ?hassign ?hbody ?hdone
   case eg=>exact bj Tryz.func97 rfl (by kernel_rfl)
   case hSb=>rintro k rfl;exact hlt7
   case hSi=>rintro k hk;exact hk.elim
   case hps=>rintro i W vs ⟨v,ps,rfl,-,-⟩;rfl
   case hI =>
    rintro i W W' ⟨⟨v,h1,h2⟩,h3,h4⟩ hB;exact⟨⟨v,hB.cells h1 id,h2.keep (jd.of_bes hB (fun k hk=>hk.elim))⟩,hB.cells h3 id,hB.below h4 hM5.size h4.size (fun k e=>e.elim)⟩
   case hOk =>
    rintro i W ⟨⟨v,h1,h2⟩,h3,h4⟩;obtain⟨pv,cv,rfl,-⟩:=id h2.form;exact⟨wg h1 (by intro s e;cases e),(HG0.out.below h4).g⟩
   case h0=>exact⟨⟨_,r5,h5⟩,rr5,hM5⟩
   case hI1 =>
    rintro i a1 W W' ⟨v,ps,e,hv,hs,⟨v',h1,h2⟩,h3,h4⟩ hB;exact⟨v,ps,e,hv,hs.keep (jd.of_bes hB (fun k hk=>hk.elim)),⟨v',hB.cells h1 id,h2.keep (jd.of_bes hB (fun k hk=>hk.elim))⟩,hB.cells h3 id,hB.below h4 hM5.size h4.size (fun k e=>e.elim)⟩
   case hassign =>
    rintro y i hi W vs hI ⟨v,ps,rfl,hv,hs⟩;rw[uj];simp only[Fj,Fo,Fp]
    gi_wp2
    exact⟨cG.refl _ _,v,ps,rfl,hv,hs,hI⟩
   case hbody =>
    rintro y i hi a1 W ⟨v,ps,rfl,hv,hs,⟨v',h1,h2⟩,h3,h4⟩;obtain⟨pv,cv,rfl,-⟩:=id hs.form;obtain⟨pv',cv',rfl,-⟩:=id h2.form;obtain⟨k7,f7⟩:=dI h1;have hT:=cG.set (S:=fun k=>k=b7) (w:=W) rfl 0 (.slice pv ps.length cv);have hS:=(hs.keep (jd.of_turns hT (wg h1 (by intro s e;cases e))))
    have hL:nV (bE l) (i+1)=ps:=by
     show (bE l).getD i []=ps
     rw[FF,hv];rfl
    have HRes:=Fi (show cG (fun k=>k=b7) W (W.setCell ⟨b7,0,none⟩ (.slice pv ps.length cv))∧DX w g b7 (.slice p a.length c) (.slice q b.length d) l (i+1) (W.setCell ⟨b7,0,none⟩ (.slice pv ps.length cv)) from
     ⟨hT,⟨_,heap_setCell_same W b7 0 _ _ _ h1,by rw[hL];exact hS⟩,(Below.heap_setCell W ⟨b7,0,none⟩ _ g hgb).trans h3,h4.setCell (p:=⟨b7,0,none⟩) hbw _⟩)
    clear h1 h2 h3 h4 hT hS hs hv hL r5 h5 rr5
    gi_wp2
    exact HRes.out
   case hdone =>
    rintro D W hD ⟨⟨v,h1,h2⟩,h3,h4⟩ hK;have hLB:=yC l;have hz:=hM5.size;obtain⟨lb,hlb⟩:∃ x,x=pW l:=⟨_,rfl⟩;rw[show nV (bE l) (bE l).length=lb from hlb.symm] at h2;have HTL:=Fi (show fp a b l=(decide (lb=b),0) by rw[HT.out,←hlb]);rw[←hlb] at hLB;obtain⟨pv,cv,rfl,-⟩:=id h2.form;have k7:=(dI h1).1;have c0:=ah h3 0;have c1:=ah h3 1;have HEQ:=Fi (Ed _ _ lb b W h2 (HB0.out.below h4) (by omega) (by omega));obtain⟨bq,hbq⟩:∃ x,x=decide (lb=b):=⟨_,rfl⟩;rw[←hbq] at HEQ HTL;have HM:=Fi h4;have HK:=Fi hK;have HD:=Fi (show w.heap.size≤D by omega);simp only[Im,Id,Hm] at c0 c1;clear h1 h2 h3 h4 hK hlb hbq rb5 hl5 h5 r5 rr5 hM5 hLB hz
    gi_wp2_with fail
    refine⟨trivial,(callsIn_wide.2 HEQ.out).mono ?_⟩;rintro e W2 ⟨rfl,hb2⟩;have HK2:=Fi ((hb2.block D (Fw.1 HK.out).1).trans HK.out);have HM2:=Fi (HM.out.trans (hb2.mono HM.out.size));clear hb2 HEQ k7 c0 c1
    gi_wp2
    refine⟨by simp,.inl ⟨_,_,rfl,run_takeDeferred HK2.out,?_⟩⟩;refine⟨.tuple #[.bool bq,.int .i64 0],by simp[results,Tryz.results12,go_sem],by rw[HTL.out],HM2.out.trans ⟨rfl,rfl,rfl,by simp,fun k hk=>World.putObj_heap_other (by have:=HD.out;omega)⟩⟩
  ·have hne:((l.length:Int) != (b.length:Int)-1)=true:=by simp;omega
   have HE:=Fi (show fp a b l=(false,0) by rw[HT.out,if_neg hlen]);clear hlen
   gi_wp2
   refine⟨.tuple #[.bool false,.int .i64 0],by simp[results,Tryz.results12,go_sem],by rw[HE.out],M2.out⟩
 ·have HE:=Fi (show fp a b l=(false,30) by unfold fp;rw[if_neg hck]);have hce:aB a b=30:=by unfold aB;rw[if_neg hck]
  rw[hce] at HCK;clear hce
  gi_wp2_with fail
  refine⟨trivial,(callsIn_wide.2 HCK.out).mono ?_⟩;rintro e w2 ⟨rfl,hb2⟩
  gi_wp2
  refine⟨.tuple #[.bool false,.int .i64 30],by simp[results,Tryz.results12,go_sem],by rw[HE.out],M1.out.trans (hb2.mono M1.out.size)⟩
end Go.Proofs.YtbnkpcfjechfiaaGreatDoor
