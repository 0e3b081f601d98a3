/- L -/
import Derived.Sort.CutIn
import Derived.Test.YtgakllaobooabaaGreatDoorXLP2
import Derived.Test.YtgakllaobooabaaGreatDoorXLE2
import Derived.Test.YtgakllaobooabaaGreatDoorXPM8
import Derived.Test.YtgakllaobooabaaGreatDoorXLC3
import Derived.Test.YtgakllaobooabaaGreatDoorXLE5
import Derived.Test.YtgakllaobooabaaGreatDoorXB
set_option linter.all false
set_option maxRecDepth 100000
set_option maxHeartbeats 8000000
namespace Go.Proofs.YtgakllaobooabaaGreatDoor
open Go.RowKit Go.Shelf Dg
def fM (k:ByteArray) (p:List ByteArray):List ByteArray:=(List.range (p.length+1)).map fun i=>eX (am (p++[⟨#[48]⟩]) i) (cw k (am (p++[⟨#[48]⟩]) (p.length-i)))
theorem jQ (k:ByteArray) (p:List ByteArray):(fM k p).length=p.length+1:=by simp[fM]
theorem ua (k:ByteArray) (p:List ByteArray) {i:Nat} (h:i<(fM k p).length):(fM k p)[i]=eX (am (p++[⟨#[48]⟩]) i) (cw k (am (p++[⟨#[48]⟩]) (p.length-i))):=by simp[fM]
def dJ:List ByteArray->List ByteArray->List (List ByteArray)
 | [],_=>[]
 | k :: ks,p=>if fL k.data.toList=true/\dx k=true then fM k p :: dJ ks (fM k p) else []
def aR (l:List ByteArray):List (List ByteArray):=dJ l [⟨#[49]⟩]
def ut (l:List ByteArray) (i:Nat) (W:World) (vs:Array Value):Prop:=∃ v p,vs=#[v]/\(aR l)[i]?=some p/\IsS W v p
attribute [local go_sem] Oper.semAt_some
theorem ng (n:Nat) (hn:3<=n) (g:Nat) (v:Value) (l:List ByteArray) (w:World) (Sb:Nat->Prop) (hbox:w.heap[g]?=some (.cells #[v] 22 (0,0))) (hl:IsS w v l) (hlen:l.length<1000) (hsb:¬ Sb g) :
  qk Fence.wide n Tryz.prog 80 #[] #[.pointer (some ⟨g,0,none⟩)] (ut l) (aR l).length Sb (fun _=>False) (fun W=>n8 Sb xD W/\Gw W) w:=by
 intro y J W hW hJ hOk hY h0;have hgl:g<w.heap.size:=(AE.1 hbox).1;have hb0:=(hW.block g hgl).trans hbox;have hlW:=hl.below hW;have HY:=At hY;have HJ:=At hJ;have HOK:=At hOk;obtain⟨p,c,rfl,-⟩:=id hlW.form;have HL:=At hlW;have hgW:=(AE.1 hb0).1;have m1:=ac W (.cells #[.string ⟨#[49]⟩] 25);have c0:=aa m1 hgW (cE hb0).1;have hp0:=ku W ⟨#[49]⟩;have hl0:=hlW.below m1;have hj0:=hJ _ _ _ h0 (bf.of_below m1);clear hW hY hJ hOk hbox hl hlW hb0 m1 h0 HL;refine callsIn_of_wp Tryz.func80 rfl trivial ?_ rfl;simp only[Tryz.ntmps80,CN,A2,Bw,Nat.reduceAdd,Nat.reduceSub,CA,CC,CM,CH,A1,A9]
 gi_wp2_with fail
 generalize W.alloc (.cells #[.string ⟨#[49]⟩] 25)=W0 at *
 gi_loopw [3,12] (fun s3 s12 wr=>∃ (i:Nat) (ps:List ByteArray),s12=.int .i64 i/\i<=l.length/\i<=(aR l).length/\IsS wr s3 ps/\ps.length=i+1/\IsS wr (.slice p l.length c) l/\J i wr/\Hid (dJ (l.drop i) ps=(aR l).drop i)) (fun _ s12 _=>l.length-(intOf s12).toNat)
 case atStart=>exact⟨0,_,rfl,by omega,by omega,hp0,rfl,hl0,hj0,rfl⟩
 case round =>
  clear hp0 hl0 hj0 c0;obtain⟨i,ps,rfl,hil,hib,hp,hpl,hl,hJi,hbd⟩:=hrel;by_cases hi:i<l.length
  ·obtain⟨b,o,rfl,hlt,hc⟩:=hl.get hi;obtain⟨pp,cp,rfl,-⟩:=id hp.form;have HBD:=At (show (if fL l[i].data.toList=true/\dx l[i]=true then fM l[i] ps :: dJ (l.drop (i+1)) (fM l[i] ps) else [])=(aR l).drop i by rw[<-hbd.out,Bi hi];rfl);generalize l[i]=k at hc HBD;have hG:=(HOK.out _ _ hJi).2;have HIR:=At (r_ k wr hG);have HP:=At hp;have HL:=At hl;have HJi:=At hJi;rw[hpl] at HP |-;clear hbd hp hl hJi hG
   gi_wp2_with fail
   refine⟨trivial,fun _=>by omega,(callsIn_wide.2 HIR.out).mono ?_⟩;rintro e w2 ⟨br,rfl,hbr,hb2⟩;have HJi:=At (HJ.out _ _ _ HJi.out (bf.of_below hb2));have HP:=At (HP.out.below hb2);have HL:=At (HL.out.below hb2);clear HIR hc hb2
   cases br with
   | false =>
    have hlen:(aR l).length=i:=by
     have h:=HBD.out;rw[if_neg (fun h=>by rw[hbr.out] at h;cases h.1)] at h;have:=congrArg List.length h;simp at this;omega
    gi_wp2
    refine⟨trivial,?_⟩
    gi_wp2
    refine Du (v:=.tuple #[]) (by simp[results,Tryz.results80,go_sem]) rfl ⟨⟨_,rfl⟩,by rw[hlen];exact HJi.out⟩
   | true =>
    have HIN:=At (r9 k w2 (HOK.out _ _ HJi.out).2);obtain⟨bi,hbi⟩:∃ b,b=dx k:=⟨_,rfl⟩;rw[<-hbi] at HIN
    gi_wp2_with fail
    refine⟨trivial,fun _=>by omega,(callsIn_wide.2 HIN.out).mono ?_⟩;rintro e w3 ⟨rfl,hb3⟩;have HJi:=At (HJ.out _ _ _ HJi.out (bf.of_below hb3));have HP:=At (HP.out.below hb3);have HL:=At (HL.out.below hb3);clear HIN hb3
    cases bi with
    | false =>
     have hlen:(aR l).length=i:=by
      have h:=HBD.out;rw[if_neg (fun h=>by rw[<-hbi] at h;cases h.2)] at h;have:=congrArg List.length h;simp at this;omega
     gi_wp2
     refine Du (v:=.tuple #[]) (by simp[results,Tryz.results80,go_sem]) rfl ⟨⟨_,rfl⟩,by rw[hlen];exact HJi.out⟩
    | true =>
     have HBD:=At (show fM k ps :: dJ (l.drop (i+1)) (fM k ps)=(aR l).drop i by
      have h:=HBD.out
      rwa [if_pos ⟨hbr.out,hbi.symm⟩] at h)
     clear hbr hbi
     gi_upto_region 5 with fail
     rw[wpIn_wide];go_wp2_with fail
     refine (qu _ ps w3 HP.out (by omega) (by omega)).mono ?_;rintro e w4 ⟨v4,rfl,hv4,hb4⟩;have hm5:=ac w4 (.cells #[.string ⟨#[48]⟩] 25);have hv5:=hv4.below hm5;have hx5:=ku w4 ⟨#[48]⟩;have hB5:=hb4.trans (hm5.mono hb4.size);have hpb:ps.length+[(⟨#[48]⟩:ByteArray)].length<1000000000:=by rw[hpl];simp;omega
     have hlt3:w3.heap.size<=(w4.alloc (.cells #[.string ⟨#[48]⟩] 25)).heap.size:=hB5.size;clear hb4 hm5 hv4;go_wp2_with (at_builtin;refine dH 22 Tryz.underlying22 rfl (.tmp 25) (.tmp 26) rfl w3.heap.size _ ps [⟨#[48]⟩] w4.heap.size 0 1 rfl hv5 rfl hx5 hpb hlt3 ?_)
     intro v6 w6 hw6 hb6;have hB6:=hb6 _ _ hB5 (AA _);obtain⟨p6,c6,rfl,-⟩:=id hw6.isS.form;obtain⟨q,hq⟩:∃ q,q=ps++[(⟨#[48]⟩:ByteArray)]:=⟨_,rfl⟩;have hql:q.length=i+2:=by rw[hq];simp[hpl]
     have hqs:=hw6.isS;rw[<-hq,hql] at hqs;rw[show (ps++[(⟨#[48]⟩:ByteArray)]).length=i+2 by rw[<-hq];exact hql];have HQ:=At hqs;have HQE:=At hq;have HJi:=At (HJ.out _ _ _ HJi.out (bf.of_below hB6));have HL:=At (HL.out.below hB6);clear hw6 hb6 hv5 hx5 hB5 hpb hlt3 hB6 hq hqs HP;go_wp2
     gi_upto_region 6 with fail
     rw[wpIn_wide];have hi2:((i+2:Nat):Int)=(i:Int)+2:=rfl;go_wp2_with (at_make;refine bI 22 Tryz.underlying22 rfl (.tmp 29) (.tmp 29) rfl _ _ (i+2) rfl rfl (by go_num) (by go_num) (by omega) ?_)
     intro w7 hr7 hb7 hs7;have hB7:=hb7 _ _ (Dv _ _) (AA _);obtain⟨L,hL⟩:∃ L,L=fM k ps:=⟨_,rfl⟩;have hLl:L.length=i+2:=by rw[hL,jQ,hpl]
     have hr0:bV w7 w6.heap.size (i+2) (aX L 0):=by rw[eL,hLl];exact hr7
     obtain⟨g7,hg7⟩:∃ g,g=w6.heap.size:=⟨_,rfl⟩;rw[<-hg7] at hr0 hB7 |-;have HB67:=At hB7;have HGE:=At hg7;have HG6:=At (HOK.out _ _ HJi.out).2;have HLE:=At hL;obtain⟨bq,oq,rfl,hlq,hcq⟩:=HQ.out.all (by omega);rw[hql] at hcq;have HCQ:=At (fun j (h:j<i+2)=>aa hB7 (by rw[hg7];exact hlq) (hcq j h));have hlq7:bq<g7:=by rw[hg7];exact hlq
     have hB77:Below g7 w7 w7:=Dv _ _;have hnb:i+2<1000000:=by omega
     clear hb7 hs7 hr7 hL hg7 hB7 hcq hlq HQ hi2;go_wp2
     gi_wp2
     gi_loopw [33] (fun s33 w8=>∃ j:Nat,s33=.int .i64 j/\j<=i+2/\bV w8 g7 (i+2) (aX L j)/\Below g7 w7 w8) (fun s33 _=>i+2-(intOf s33).toNat)
     case atStart=>exact⟨0,rfl,AI _,hr0,hB77⟩
     case round =>
      clear hr0 hB77;obtain⟨j,rfl,hji,hr8,hb8⟩:=hrel;by_cases hj:j<i+2
      ·have hjI:(j:Int)<(i:Int)+2:=by omega
       have e1:(i:Int)+2-1-(j:Int)=((i+1-j:Nat):Int):=by omega
       have e2:(i:Int)+1-(j:Int)=((i+1-j:Nat):Int):=by omega
       gi_upto_region 10 with fail
       rw[wpIn_wide];have hx:=HCQ.out j hj;have hy:=HCQ.out (i+1-j) (by omega);have m4:Below wr.heap.size wr wr.drew:=(Dv _ _).drew;have hgr:=hr8.lt;have HBd:=At (hb8.trans (m4.mono (by omega)));have HR9:=At (hr8.below m4);refine ai (fun w'=>∃ x:ax g7 wr.drew,w'=x.w) (fun i=>i == 15||i == 16||i == 18) (by kernel_rfl) (by kernel_rfl) ⟨⟨_,Dv _ _⟩,rfl⟩ ?_;have hz:g7<=wr.drew.heap.size:=by have:=m4.size;omega
       generalize wr.drew=wd at *
       have c0:=fun x:ax g7 wd=>aa (HBd.out.trans x.h) hlq7 hx;have c1:=fun x:ax g7 wd=>aa (HBd.out.trans x.h) hlq7 hy;have HG9:=At (HG6.out.below (by have h:=HB67.out.trans HBd.out;rw[HGE.out] at h;exact h));clear hx hy m4 hr8 hb8 hgr;refine ae 15 0 _ _ _ (by kernel_rfl) ?_;simp only[AC,AG,AB,AF];repeat (go_big_quiet_step (fail))
       refine wpQuiet_nil ?_;clear c0 c1 e1 e2;refine af rfl rfl (fun K hK=>?_);go_simp;refine (dN k _ wd HG9.out).mono ?_;rintro e wa ⟨rfl,hba⟩;refine hK _ _ ⟨⟨_,hba.mono hz⟩,rfl⟩ ?_;clear hK K;try simp only[Act.put,Ax,Aw,Av,Au,Ay,Az]
       refine af rfl rfl (fun K hK=>?_);go_simp;refine (ji _ _ wa (HG9.out.below hba)).mono ?_;rintro e wb ⟨rfl,hbb⟩;have hBb:=hba.trans (hbb.mono hba.size);refine hK _ _ ⟨⟨_,hBb.mono hz⟩,rfl⟩ ?_;clear hK K;try simp only[Act.put,Ax,Aw,Av,Au,Ay,Az]
       refine ae 1 17 _ _ _ (by kernel_rfl) ?_;simp only[AC,AG,AB,AF];repeat (go_big_quiet_step (fail))
       refine wpQuiet_nil ?_;have hfl:j<(aX L j).length:=by rw[fx L (by omega)];omega
       have rc:=HR9.out.below hBb;have rd:=rc.cell hfl;have re:=rc.free j
       have hset:bV (wb.setCell ⟨g7,j,none⟩ (.string (eX (am q j) (cw k (am q (i+1-j)))))) g7 (i+2) (aX L (j+1)):=by
        have h1:=rc.set j (eX (am q j) (cw k (am q (i+1-j))));have h2:=fy L (i:=j) (by omega)
        have h3:L[j]'(by omega)=eX (am q j) (cw k (am q (i+1-j))):=by
         have hE:=HLE.out;subst hE;rw[ua,HQE.out,hpl]
        rw[h3] at h2;rw[<-h2];exact h1
       have hP:Below g7 wd (wb.setCell ⟨g7,j,none⟩ (.string (eX (am q j) (cw k (am q (i+1-j)))))):=(hBb.mono hz).setCell (p:=⟨g7,j,none⟩) (AA _) _;refine af rfl rfl (fun K hK=>?_);go_simp;refine hK undef _ ⟨⟨_,hP⟩,rfl⟩ ?_;clear hK K;try simp only[Act.put,Ax,Aw,Av,Au,Ay,Az]
       refine av ?_;have hBn:=HBd.out.trans hP;clear rc rd re hP hbb hba hBb HR9 HG9 HBd hz;generalize wb.setCell ⟨g7,j,none⟩ (.string (eX (am q j) (cw k (am q (i+1-j)))))=we at *
       go_wp2
       gi_wp2
       go_roundw;case rel=>exact⟨j+1,by go_num,by omega,hset,hBn⟩
       case measure=>simp[intOf]<;>omega
      ·obtain rfl:j=i+2:=by omega
       have hfull:aX L (i+2)=L:=by rw[<-hLl];exact eK L
       rw[hfull] at hr8;have hB6:=HB67.out.trans hb8;have hB6':Below w6.heap.size w6 wr:=by have h:=hB6;rw[HGE.out] at h;exact h
       have HJr:=At (HJ.out _ _ _ HJi.out (bf.of_below hB6'));have HLr:=At (HL.out.below hB6')
       have hil:i<(aR l).length:=by
        have:=congrArg List.length HBD.out;simp at this;omega
       have hget:(aR l)[i]?=some L:=by
        have h:=Cn (xs:=aR l) (i:=i) (j:=0);rw[<-HBD.out] at h;rw[HLE.out];simpa using h.symm
       have HD2:=At (show dJ (l.drop (i+1)) L=(aR l).drop (i+1) by
        have h:=congrArg (List.drop 1) HBD.out;rw[List.drop_drop] at h;rw[HLE.out]
        exact h)
       have hLS:=hr8.isS;obtain⟨fn,tmps,assign,body,hy,hR⟩:=HY.out i hil wr #[.slice (some ⟨g7,0,none⟩) L.length (i+2)] HJr.out ⟨_,L,rfl,hget,hLS⟩;have hsafe:=(HOK.out _ _ HJr.out).1;rw[hLl] at hy hLS;have HLS:=At hLS;clear hb8 hr8 hfull hB6 hB6' hget hLS hj hji hib
       gi_wp2
       refine⟨fun _=>by omega,hR.mono ?_⟩;rintro e W' ⟨rfl,hJ',hT⟩;have hkeep:=gC.of_turns hT hsafe;have hls:=HLS.out.keep hkeep;have hll:=HLr.out.keep hkeep;clear hR hy hT hsafe hkeep HLS HLr HJr
       gi_wp2
       go_roundw;case rel=>exact⟨i+1,L,by go_num,by omega,by omega,hls,hLl,hll,hJ',HD2.out⟩
       case measure=>simp[intOf]<;>omega
  ·obtain rfl:i=l.length:=by omega
   have hlen:(aR l).length=l.length:=by
    have h:=hbd.out;rw[List.drop_length] at h;have:=congrArg List.length h;simp[dJ] at this;omega
   clear hbd hp hl hpl hib hil
   gi_wp2
   go_end0
   exact⟨⟨_,rfl⟩,by rw[hlen];exact hJi⟩
def kZ (ls:List (List ByteArray)):Nat->List ByteArray
 | 0=>[⟨#[49]⟩]
 | i+1=>ls.getD i []
def mo (l:List ByteArray):List ByteArray:=kZ (aR l) (aR l).length
def dP (a b l:List ByteArray):Bool×Int:=if aq a b=true then if l.length+1=b.length then (decide (mo l=b),0) else (false,0) else (false,30)
theorem jT:∀ (l p q:List ByteArray),q∈dJ l p->q.length<=p.length+l.length
 | [],_,_,h=>by simp[dJ] at h
 | k :: ks,p,q,h=>by
  unfold dJ at h
  split at h
  ·rcases Bm.1 h with rfl | h
   ·rw[jQ];simp
   ·have:=jT ks (fM k p) q h;rw[jQ] at this;simp;omega
  ·cases h
theorem tw (l:List ByteArray):(mo l).length<=l.length+1:=by
 unfold mo
 cases h:(aR l).length with
 | zero=>simp[kZ]
 | succ i =>
  show ((aR l).getD i []).length<=_
  have hi:i<(aR l).length:=by omega
  rw[AH,AL hi];have:=jT l [⟨#[49]⟩] _ (AR hi);simp at this |-;omega
structure zc (w:World) (g b7:Nat) (x y:Value) (l:List ByteArray) (i:Nat) (W:World):Prop where
 box:∃ v,W.heap[b7]?=some (.cells #[v] 22 (0,0))/\IsS W v (kZ (aR l) i)
 fil:W.heap[g]?=some (.cells #[x,y] 24 (0,0))
 bel:Below w.heap.size w W
theorem rL {w:World}{g:Nat}{v:Value}{T:TypeId} (h:w.heap[g]?=some (.cells #[v] T (0,0))) (hv:∀ s,v≠.string s):n8 (fun k=>k=g) xD w:=by
 rintro k rfl j u hc;rw[World.cell?,h] at hc;simp only[Bj,AU,if_false] at hc
 have hj:j=0:=by
  have:=(AE.1 hc).1;simpa using this
 subst hj;simp at hc;subst hc;rintro⟨s,e⟩;exact hv s e
theorem xP (v:Value) (l:List ByteArray) (w:World) (hl:IsS w v l) :
  Calls Tryz.prog 43 #[v] w fun e w'=>e=.returned (.func (.func 80) #[] #[.pointer (some ⟨w.heap.size,0,none⟩)])/\w'.heap[w.heap.size]?=some (.cells #[v] 22 (0,0))/\w.heap.size<w'.heap.size/\IsS w' v l/\Below w.heap.size w w':=by
 obtain⟨p,c,rfl,-⟩:=id hl.form;have c0:=heap_alloc_new w (.cells #[.slice p l.length c] 22 (0,0));have m1:=ac w (.cells #[.slice p l.length c] 22);have z1:=size_alloc w (.cells #[.slice p l.length c] 22);have HL:=At (hl.below m1);have H0:=At (And.intro c0 (And.intro (show w.heap.size<(w.alloc (.cells #[.slice p l.length c] 22)).heap.size by omega) m1));clear c0 m1 z1 hl;go_enter Tryz.func43,Tryz.ntmps43;go_wp2;go_ret;exact⟨rfl,H0.out.1,H0.out.2.1,HL.out,H0.out.2.2⟩
attribute [local go_sem] Oper.semAt_some
theorem xI (v vl:Value) (a b l:List ByteArray) (w:World) (hF:IsF w v a b) (hl:IsS w vl l) (hG:Gx w) :
  Calls Tryz.prog 19 #[v,vl] w fun e w'=>e=.returned (.tuple #[.bool (dP a b l).1,.int .i64 (dP a b l).2])/\Below w.heap.size w w':=by
 obtain⟨p,c,q,d,rfl,hfa,hfb⟩:=id hF.ex;obtain⟨pl,cl,rfl,-⟩:=id hl.form;have HG0:=At hG;have HB0:=At hfb;refine (callsIn_wide (n:=9)).1 ?_;refine callsIn_of_wp_marks Tryz.func19 rfl trivial ?_ rfl;simp only[Tryz.ntmps19,CN,A2,Bw,Nat.reduceAdd,Nat.reduceSub,CA,CC,CM,CH,A1,A9]
 gi_upto_region 1 with fail
 have cc:=ar w (.slice p a.length c) (.slice q b.length d);have m1:=ac w (.cells #[.slice p a.length c,.slice q b.length d] 24);have zz:=size_alloc w (.cells #[.slice p a.length c,.slice q b.length d] 24);have rr:=heap_alloc_new w (.cells #[.slice p a.length c,.slice q b.length d] 24 (0,0));generalize w.alloc (.cells #[.slice p a.length c,.slice q b.length d] 24)=w1 at *
 obtain⟨g,hg⟩:∃ g,g=w.heap.size:=⟨_,rfl⟩;rw[<-hg] at cc rr |-;have HCK:=At (dC _ a b w1 (hF.below m1) (hG.below m1));have HB:=At (hfb.below m1);have HL:=At (hl.below m1);have c0:=cc.1;have c1:=cc.2;have hlt:g<w1.heap.size:=by omega
 have M1:=At m1;have HGE:=At hg;clear hfa hfb cc zz m1 hF hG hl hg;by_cases hck:aq a b=true
 ·have HT:=At (show dP a b l=if l.length+1=b.length then (decide (mo l=b),0) else (false,0) by unfold dP;rw[if_pos hck]);have hce:au a b=0:=by unfold au;rw[if_pos hck]
  rw[hce] at HCK;obtain⟨ob1,ob7,-⟩:=aN hck;clear hce hck
  gi_wp2_with fail
  refine⟨trivial,(callsIn_wide.2 HCK.out).mono ?_⟩;rintro e w2 ⟨rfl,hb2⟩;have d0:=aa hb2 hlt c0;have d1:=aa hb2 hlt c1;have rr2:=(hb2.block g hlt).trans rr;have HB2:=At (HB.out.below hb2);have HL2:=At (HL.out.below hb2);have M2:=At (M1.out.trans (hb2.mono M1.out.size));have hlt2:g<w2.heap.size:=AD hlt hb2.size;clear c0 c1 rr HB HL HCK M1 hb2 hlt;by_cases hlen:l.length+1=b.length
  ·have hbI:((b.length:Nat):Int)-1=(l.length:Int):=by omega
   have HT:=At (show dP a b l=(decide (mo l=b),0) by rw[HT.out,if_pos hlen]);have HLN:=At hlen;clear hlen
   gi_wp2_with fail
   have m3:=ac w2 (.cells #[.string ⟨#[49]⟩] 25);have z3:=size_alloc w2 (.cells #[.string ⟨#[49]⟩] 25);have h3:=ku w2 ⟨#[49]⟩;generalize w2.alloc (.cells #[.string ⟨#[49]⟩] 25)=w3 at *
   have m4:=ac w3 (.cells #[.slice (some ⟨w2.heap.size,0,none⟩) 1 1] 22);have r4:=heap_alloc_new w3 (.cells #[.slice (some ⟨w2.heap.size,0,none⟩) 1 1] 22 (0,0));generalize w3.alloc (.cells #[.slice (some ⟨w2.heap.size,0,none⟩) 1 1] 22)=w4 at *
   have hB4:=m3.trans (m4.mono m3.size);have h4:=h3.below m4;rw[z3] at r4;have hl4:=HL2.out.below hB4;have rr4:=(hB4.block g hlt2).trans rr2;obtain⟨b7,hb7⟩:∃ b,b=w2.heap.size+1:=⟨_,rfl⟩;rw[<-hb7] at r4 |-;have hM4:=M2.out.trans (hB4.mono M2.out.size);have hbw:w.heap.size<=b7:=by have:=M2.out.size;omega
   have hgb:g≠b7:=by omega
   clear d0 d1 rr2 HL2 m3 z3 h3 m4 hB4 M2 hlt2 hb7;refine⟨trivial,(callsIn_wide.2 (xP _ l w4 hl4)).mono ?_⟩;rintro e w5 ⟨rfl,rb5,hlt5,hl5,hb5⟩;obtain⟨gb,hgb5⟩:∃ g,g=w4.heap.size:=⟨_,rfl⟩;have h5:=h4.below hb5;have r5:=(hb5.block b7 (AE.1 r4).1).trans r4;have rr5:=(hb5.block g (AE.1 rr4).1).trans rr4;have hM5:=hM4.trans (hb5.mono hM4.size);have hne5:gb≠b7:=by have:=(AE.1 r4).1;omega
   have hlt7:b7<w5.heap.size:=(AE.1 r5).1;rw[<-hgb5] at rb5 hlt5 |-;have hll:l.length<1000:=by have:=HLN.out;omega
   clear h4 r4 rr4 hl4 hb5 hgb5 hM4
   gi_wp2
   refine j9 (gf:=80) (bnd:=#[]) (lb:=#[.pointer (some ⟨gb,0,none⟩)]) (E:=ut l) (len:=(aR l).length) (Sb:=fun k=>k=b7) (Si:=fun _=>False) (Ok:=fun W=>n8 (fun k=>k=b7) xD W/\Gw W) rfl (by omega) rfl trivial ?eg ?hSb ?hSi (ng 8 (by omega) gb _ l w5 _ rb5 hl5 hll hne5) ?hps
    (zc w g b7 (.slice p a.length c) (.slice q b.length d) l) ?hI ?hOk ?h0
    (fun i a1 W=>∃ v ps,a1={ tmps:=#[.agg #[.slice p a.length c,.slice q b.length d],.slice pl l.length cl,.pointer (some ⟨g,0,none⟩),undef,.bool false,.int .i64 0,.int .i64 0,.pointer (some ⟨b7,0,none⟩),v,.agg #[.slice p a.length c,.slice q b.length d],.int .i64 0,.int .i64 0,.bool false,undef,.slice pl l.length cl,.int .i64 l.length,.pointer (some ⟨g,1,none⟩),.slice q b.length d,.int .i64 b.length,.int .i64 l.length,.bool false,.slice (some ⟨w2.heap.size,0,none⟩) 1 1,.slice pl l.length cl,.func (.func 80) #[] #[.pointer (some ⟨gb,0,none⟩)],v,undef,undef,undef,undef,undef],defers:=[] }/\(aR l)[i]?=some ps/\IsS W v ps/\zc w g b7 (.slice p a.length c) (.slice q b.length d) l i W) ?hI1 ?hassign ?hbody ?hdone
   case eg=>exact aZ Tryz.func80 rfl (by kernel_rfl)
   case hSb=>rintro k rfl;exact hlt7
   case hSi=>rintro k hk;exact hk.elim
   case hps=>rintro i W vs ⟨v,ps,rfl,-,-⟩;rfl
   case hI =>
    rintro i W W' ⟨⟨v,h1,h2⟩,h3,h4⟩ hB;exact⟨⟨v,hB.cells h1 id,h2.keep (gC.of_bes hB (fun k hk=>hk.elim))⟩,hB.cells h3 id,hB.below h4 hM5.size h4.size (fun k e=>e.elim)⟩
   case hOk =>
    rintro i W ⟨⟨v,h1,h2⟩,h3,h4⟩;obtain⟨pv,cv,rfl,-⟩:=id h2.form;exact⟨rL h1 (by intro s e;cases e),(HG0.out.below h4).g⟩
   case h0=>exact⟨⟨_,r5,h5⟩,rr5,hM5⟩
   case hI1 =>
    rintro i a1 W W' ⟨v,ps,e,hv,hs,⟨v',h1,h2⟩,h3,h4⟩ hB;exact⟨v,ps,e,hv,hs.keep (gC.of_bes hB (fun k hk=>hk.elim)),⟨v',hB.cells h1 id,h2.keep (gC.of_bes hB (fun k hk=>hk.elim))⟩,hB.cells h3 id,hB.below h4 hM5.size h4.size (fun k e=>e.elim)⟩
   case hassign =>
    rintro y i hi W vs hI ⟨v,ps,rfl,hv,hs⟩;rw[qi];simp only[Au,Ay,Az]
    gi_wp2
    exact⟨bf.refl _ _,v,ps,rfl,hv,hs,hI⟩
   case hbody =>
    rintro y i hi a1 W ⟨v,ps,rfl,hv,hs,⟨v',h1,h2⟩,h3,h4⟩;obtain⟨pv,cv,rfl,-⟩:=id hs.form;obtain⟨pv',cv',rfl,-⟩:=id h2.form;obtain⟨k7,f7⟩:=cE h1;have hT:=bf.set (S:=fun k=>k=b7) (w:=W) rfl 0 (.slice pv ps.length cv);have hS:=(hs.keep (gC.of_turns hT (rL h1 (by intro s e;cases e))))
    have hL:kZ (aR l) (i+1)=ps:=by
     show (aR l).getD i []=ps
     rw[AH,hv];rfl
    have HRes:=At (show bf (fun k=>k=b7) W (W.setCell ⟨b7,0,none⟩ (.slice pv ps.length cv))/\zc w g b7 (.slice p a.length c) (.slice q b.length d) l (i+1) (W.setCell ⟨b7,0,none⟩ (.slice pv ps.length cv)) from
     ⟨hT,⟨_,heap_setCell_same W b7 0 _ _ _ h1,by rw[hL];exact hS⟩,(Below.heap_setCell W ⟨b7,0,none⟩ _ g hgb).trans h3,h4.setCell (p:=⟨b7,0,none⟩) hbw _⟩)
    clear h1 h2 h3 h4 hT hS hs hv hL r5 h5 rr5
    gi_wp2
    exact HRes.out
   case hdone =>
    rintro D W hD ⟨⟨v,h1,h2⟩,h3,h4⟩ hK;have hLB:=tw l;have hz:=hM5.size;obtain⟨lb,hlb⟩:∃ x,x=mo l:=⟨_,rfl⟩;rw[show kZ (aR l) (aR l).length=lb from hlb.symm] at h2;have HTL:=At (show dP a b l=(decide (lb=b),0) by rw[HT.out,<-hlb]);rw[<-hlb] at hLB;obtain⟨pv,cv,rfl,-⟩:=id h2.form;have k7:=(cE h1).1;have c0:=ah h3 0;have c1:=ah h3 1;have HEQ:=At (zo _ _ lb b W h2 (HB0.out.below h4) (by omega) (by omega));obtain⟨bq,hbq⟩:∃ x,x=decide (lb=b):=⟨_,rfl⟩;rw[<-hbq] at HEQ HTL;have HM:=At h4;have HK:=At hK;have HD:=At (show w.heap.size<=D by omega);simp only[CR,CL,Cl] at c0 c1;clear h1 h2 h3 h4 hK hlb hbq rb5 hl5 h5 r5 rr5 hM5 hLB hz
    gi_wp2_with fail
    refine⟨trivial,(callsIn_wide.2 HEQ.out).mono ?_⟩;rintro e W2 ⟨rfl,hb2⟩;have HK2:=At ((hb2.block D (AE.1 HK.out).1).trans HK.out);have HM2:=At (HM.out.trans (hb2.mono HM.out.size));clear hb2 HEQ k7 c0 c1
    gi_wp2
    refine⟨by simp,.inl ⟨_,_,rfl,run_takeDeferred HK2.out,?_⟩⟩;refine⟨.tuple #[.bool bq,.int .i64 0],by simp[results,Tryz.results19,go_sem],by rw[HTL.out],HM2.out.trans ⟨rfl,rfl,rfl,by simp,fun k hk=>World.putObj_heap_other (by have:=HD.out;omega)⟩⟩
  ·have hne:((l.length:Int) != (b.length:Int)-1)=true:=by simp;omega
   have HE:=At (show dP a b l=(false,0) by rw[HT.out,if_neg hlen]);clear hlen
   gi_wp2
   refine⟨.tuple #[.bool false,.int .i64 0],by simp[results,Tryz.results19,go_sem],by rw[HE.out],M2.out⟩
 ·have HE:=At (show dP a b l=(false,30) by unfold dP;rw[if_neg hck]);have hce:au a b=30:=by unfold au;rw[if_neg hck]
  rw[hce] at HCK;clear hce
  gi_wp2_with fail
  refine⟨trivial,(callsIn_wide.2 HCK.out).mono ?_⟩;rintro e w2 ⟨rfl,hb2⟩
  gi_wp2
  refine⟨.tuple #[.bool false,.int .i64 30],by simp[results,Tryz.results19,go_sem],by rw[HE.out],M1.out.trans (hb2.mono M1.out.size)⟩
open Go.RowKit Dg
structure sO (w:World) (g:Nat) (p:Option Addr) (c:Nat) (q:Option Addr) (d:Nat):Prop where
 f0:w.cell? ⟨g,0,none⟩=some (.slice p 2 c)
 f1:w.cell? ⟨g,1,none⟩=some (.slice q 2 d)
 la:IsS w (.slice p 2 c) aD
 lb:IsS w (.slice q 2 d) aE
 G:Gx w
 lt:g<w.heap.size
theorem sO.below {w w':World}{g:Nat}{p:Option Addr}{c:Nat}{q:Option Addr}{d:Nat} (h:sO w g p c q d) (hb:Below w.heap.size w w'):sO w' g p c q d :=
 ⟨aa hb h.lt h.f0,aa hb h.lt h.f1,h.la.below hb,h.lb.below hb,h.G.below hb,AD h.lt hb.size⟩
theorem sO.F {w:World}{g:Nat}{p:Option Addr}{c:Nat}{q:Option Addr}{d:Nat} (h:sO w g p c q d):IsF w (.agg #[.slice p 2 c,.slice q 2 d]) aD aE:=⟨⟨p,c,q,d,rfl,h.la,h.lb⟩⟩
theorem jB:gq aD aE 4=0/\bR aD aE (du 4) 4=[⟨#[48]⟩,⟨#[49,47,50]⟩,⟨#[49,47,52]⟩,⟨#[49,47,56]⟩]:=by decide +kernel
theorem eO:aK aE=some [⟨#[45,49,47,50]⟩]/\aq aD [⟨#[49]⟩,⟨#[45,50]⟩]=true/\aK [⟨#[49]⟩,⟨#[45,50]⟩]=none:=by decide +kernel
theorem oQ:dP aD [⟨#[49]⟩,⟨#[49,47,52]⟩,⟨#[45,49,47,50]⟩] [⟨#[49,47,50]⟩,⟨#[45,49,47,50]⟩]=(true,0):=by decide +kernel
theorem oR:dA aE (ofT 33)=true/\∀ m,m<33->1<=m->dA aE (ofT m)=false:=by decide +kernel
theorem eB:bG aD aE=(⟨#[49,47,51]⟩,0)/\d7 aD aE ⟨#[45,49]⟩=(⟨#[45,49,47,51]⟩,0)/\d7 aD aE ⟨#[49,47,50]⟩=(⟨#[]⟩,32)/\dt aD aE=(5,0)/\iT aD aE=((aD,[⟨#[49]⟩,⟨#[48]⟩]),0)/\nY aD aE=((aE,[⟨#[49]⟩,⟨#[48]⟩]),0):=by decide +kernel
theorem jh (w:World) (l:List ByteArray) (h:l.length<1000):IsS (w.alloc (.cells (l.map Value.string).toArray 25)) (.slice (some ⟨w.heap.size,0,none⟩) l.length l.length) l :=
 bU.isS (base:=w.heap.size) (by
  refine⟨by simp,Or.inr ⟨w.heap.size,l.length,_,rfl,AA _,heap_alloc_new w _,AA _,by unfold maxLen;omega,by simp,by simp[AK]⟩⟩)
theorem xA (w:World) (hG:Gx w):Calls Tryz.prog 5 #[] w fun e w'=>e=.returned (.bool true)/\Below w.heap.size w w':=by
 go_enter Tryz.func5,Tryz.ntmps5;go_wp2_with fail
 refine (Ab w).mono ?_;rintro e w1 ⟨v1,rfl,hF,hb1⟩;obtain⟨p,c,q,d,rfl,hA,hB⟩:=id hF.ex;rw[show aD.length=2 from rfl] at hA |-;rw[show aE.length=2 from rfl] at hB |-;have cc:=ar w1 (.slice p 2 c) (.slice q 2 d);have m2:=ac w1 (.cells #[.slice p 2 c,.slice q 2 d] 24);have z2:=size_alloc w1 (.cells #[.slice p 2 c,.slice q 2 d] 24);go_upto_region 2 with fail
 generalize w1.alloc (.cells #[.slice p 2 c,.slice q 2 d] 24)=w2 at *
 obtain⟨g,hg⟩:∃ g,g=w1.heap.size:=⟨_,rfl⟩;rw[<-hg] at cc |-;have HP:=At (show sO w2 g p c q d from⟨cc.1,cc.2,hA.below m2,hB.below m2,(hG.below hb1).below m2,by omega⟩);have HB:=At (hb1.trans (m2.mono hb1.size));have k0:=HP.out.f0;have k1:=HP.out.f1;clear cc m2 z2 hA hB hF hb1 hG hg;go_wp2_with fail
 refine (lX _ aD aE 4 w2 HP.out.F HP.out.G).mono ?_;rintro e w3 ⟨vr,rfl,hvr,-,hb⟩;have HR:=At (hvr jB.1);rw[show (4:Int).toNat=4 from rfl,jB.2] at HR;rw[jB.1];clear hvr;have HP:=At (HP.out.below hb);have HB:=At (HB.out.trans (hb.mono HB.out.size));clear hb k0 k1;have k0:=HP.out.f0;have k1:=HP.out.f1;go_wp2_with fail
 refine (uF _ aD aE w3 HP.out.F HP.out.G).mono ?_;rintro e w4 ⟨vp,er,rfl,hcase,hb⟩
 have HPR:er=0/\Hid (IsS w4 vp [⟨#[45,49,47,50]⟩]):=by
  rcases hcase with ⟨pf,-,h1,rfl,h2,-⟩ | ⟨-,h1,-⟩ | ⟨h1,-⟩
  ·rw[eO.1] at h1
   cases h1
   exact⟨rfl,h2⟩
  ·rw[eO.1] at h1;cases h1
  ·rw[dD] at h1;cases h1
 obtain⟨rfl,HPR⟩:=HPR;have HR:=At (HR.out.below hb);clear hcase;have HP:=At (HP.out.below hb);have HB:=At (HB.out.trans (hb.mono HB.out.size));clear hb k0 k1;have k0:=HP.out.f0;have k1:=HP.out.f1;have hm:=ac w4 (.cells #[.string ⟨#[49]⟩,.string ⟨#[45,50]⟩] 25);have HU:=At (uF _ aD [⟨#[49]⟩,⟨#[45,50]⟩] _ ⟨⟨p,c,_,_,rfl,HP.out.la.below hm,IsS.two w4 ⟨#[49]⟩ ⟨#[45,50]⟩⟩⟩ (HP.out.G.below hm));have HM:=At hm;clear hm;go_wp2_with fail
 refine HU.out.mono ?_;rintro e w5 ⟨vx,er,rfl,hcase,hb⟩
 obtain rfl:er=31:=by
  rcases hcase with ⟨pf,-,h1,-⟩ | ⟨-,-,h,-⟩ | ⟨h1,-⟩
  ·rw[eO.2.2] at h1;cases h1
  ·exact h
  ·rw[eO.2.1] at h1;cases h1
 have hb:=HM.out.trans (hb.mono HM.out.size);have HR:=At (HR.out.below hb);have HPR:=At (HPR.out.below hb);clear hcase HU HM;have HP:=At (HP.out.below hb);have HB:=At (HB.out.trans (hb.mono HB.out.size));clear hb k0 k1;have k0:=HP.out.f0;have k1:=HP.out.f1;have hm:=ac w5 (.cells #[.string ⟨#[49]⟩,.string ⟨#[49,47,52]⟩,.string ⟨#[45,49,47,50]⟩] 25);have hl:=jh w5 [⟨#[49]⟩,⟨#[49,47,52]⟩,⟨#[45,49,47,50]⟩] (by decide);have hm2:=ac (w5.alloc (.cells #[.string ⟨#[49]⟩,.string ⟨#[49,47,52]⟩,.string ⟨#[45,49,47,50]⟩] 25)) (.cells #[.string ⟨#[49,47,50]⟩,.string ⟨#[45,49,47,50]⟩] 25);have hl2:=IsS.two (w5.alloc (.cells #[.string ⟨#[49]⟩,.string ⟨#[49,47,52]⟩,.string ⟨#[45,49,47,50]⟩] 25)) ⟨#[49,47,50]⟩ ⟨#[45,49,47,50]⟩;have hM:=hm.trans (hm2.mono hm.size);have HU:=At (xI _ _ aD [⟨#[49]⟩,⟨#[49,47,52]⟩,⟨#[45,49,47,50]⟩] [⟨#[49,47,50]⟩,⟨#[45,49,47,50]⟩] _ ⟨⟨p,c,_,_,rfl,HP.out.la.below hM,hl.below hm2⟩⟩ hl2 (HP.out.G.below hM));rw[oQ] at HU;have HM:=At hM;rw[size_alloc] at HU;clear hm hm2 hl hl2 hM;go_wp2_with fail
 refine HU.out.mono ?_;rintro e w6 ⟨rfl,hb⟩;have hb:=HM.out.trans (hb.mono HM.out.size);have HR:=At (HR.out.below hb);have HPR:=At (HPR.out.below hb);clear HU HM;have HP:=At (HP.out.below hb);have HB:=At (HB.out.trans (hb.mono HB.out.size));clear hb k0 k1;have k0:=HP.out.f0;have k1:=HP.out.f1;have hm:=ac w6 (.cells #[.string ⟨#[48]⟩,.string ⟨#[49,47,50]⟩,.string ⟨#[49,47,52]⟩,.string ⟨#[49,47,56]⟩] 25);have HU:=At (io _ _ _ _ _ (HR.out.below hm) (jh w6 [⟨#[48]⟩,⟨#[49,47,50]⟩,⟨#[49,47,52]⟩,⟨#[49,47,56]⟩] (by decide)) (by decide) (by decide));rw[decide_eq_true (rfl:[(⟨#[48]⟩:ByteArray),⟨#[49,47,50]⟩,⟨#[49,47,52]⟩,⟨#[49,47,56]⟩]=_)] at HU;have HM:=At hm;clear hm;go_wp2_with fail
 refine HU.out.mono ?_;rintro e w7 ⟨rfl,hb⟩;have hb:=HM.out.trans (hb.mono HM.out.size);have HPR:=At (HPR.out.below hb);clear HU HM HR;have HP:=At (HP.out.below hb);have HB:=At (HB.out.trans (hb.mono HB.out.size));clear hb k0 k1;have k0:=HP.out.f0;have k1:=HP.out.f1;have hm:=ac w7 (.cells #[.string ⟨#[45,49,47,50]⟩] 25);have HU:=At (io _ _ _ _ _ (HPR.out.below hm) (jh w7 [⟨#[45,49,47,50]⟩] (by decide)) (by decide) (by decide));rw[decide_eq_true (rfl:[(⟨#[45,49,47,50]⟩:ByteArray)]=_)] at HU;have HM:=At hm;clear hm;go_wp2_with fail
 refine HU.out.mono ?_;rintro e w8 ⟨rfl,hb⟩;have hb:=HM.out.trans (hb.mono HM.out.size);clear HU HM HPR;have HP:=At (HP.out.below hb);have HB:=At (HB.out.trans (hb.mono HB.out.size));clear hb k0 k1;have k0:=HP.out.f0;have k1:=HP.out.f1;go_wp2_with fail
 refine (xL _ aD aE w8 HP.out.F HP.out.G).mono ?_;rintro e w9 ⟨nr,er,rfl,hcase,hb⟩
 obtain⟨rfl,rfl⟩:er=0/\nr=33:=by
  rcases hcase with ⟨-,-,rfl,k,rfl,k1,k64,hk,hlt⟩ | ⟨-,h,-⟩ | ⟨h,-⟩
  ·refine⟨rfl,?_⟩;rcases Nat.lt_trichotomy k 33 with h | h | h
   ·have:=oR.2 k h k1;rw[hk] at this;cases this
   ·rw[h];rfl
   ·have:=hlt 33 (by decide) h;rw[oR.1] at this;cases this
  ·rw[eO.1] at h;cases h
  ·rw[dD] at h;cases h
 clear hcase;have HP:=At (HP.out.below hb);have HB:=At (HB.out.trans (hb.mono HB.out.size));clear hb k0 k1;have k0:=HP.out.f0;have k1:=HP.out.f1;go_wp2_with fail
 refine (rG _ aD aE w9 HP.out.F HP.out.G).mono ?_;rintro e w10 ⟨rfl,hb⟩;rw[eB.1];have HP:=At (HP.out.below hb);have HB:=At (HB.out.trans (hb.mono HB.out.size));clear hb k0 k1;have k0:=HP.out.f0;have k1:=HP.out.f1;go_wp2_with fail
 refine (lZ _ aD aE _ w10 HP.out.F HP.out.G).mono ?_;rintro e w11 ⟨rfl,hb⟩;rw[eB.2.1];have HP:=At (HP.out.below hb);have HB:=At (HB.out.trans (hb.mono HB.out.size));clear hb k0 k1;have k0:=HP.out.f0;have k1:=HP.out.f1;go_wp2_with fail
 refine (lZ _ aD aE _ w11 HP.out.F HP.out.G).mono ?_;rintro e w12 ⟨rfl,hb⟩;rw[eB.2.2.1];have HP:=At (HP.out.below hb);have HB:=At (HB.out.trans (hb.mono HB.out.size));clear hb k0 k1;have k0:=HP.out.f0;have k1:=HP.out.f1;go_wp2_with fail
 refine (xE _ aD aE w12 HP.out.F HP.out.G).mono ?_;rintro e w13 ⟨vc,rfl,hfc,hb⟩;rw[eB.2.2.2.2.1] at hfc |-;have HP:=At (HP.out.below hb);have HB:=At (HB.out.trans (hb.mono HB.out.size));clear hb k0 k1;have k0:=HP.out.f0;have k1:=HP.out.f1;obtain⟨pc,cc,qc,dc,e,hca,hcb,-,-⟩:=hfc.ex;replace e:vc=.agg #[.slice pc 2 cc,.slice qc 2 dc]:=e;replace hca:IsS w13 (.slice pc 2 cc) aD:=hca;replace hcb:IsS w13 (.slice qc 2 dc) [⟨#[49]⟩,⟨#[48]⟩]:=hcb;subst e;clear hfc;go_upto_region 15 with fail
 have kk:=ar w13 (.slice pc 2 cc) (.slice qc 2 dc);have hb:=ac w13 (.cells #[.slice pc 2 cc,.slice qc 2 dc] 24);have zz:=size_alloc w13 (.cells #[.slice pc 2 cc,.slice qc 2 dc] 24);generalize w13.alloc (.cells #[.slice pc 2 cc,.slice qc 2 dc] 24)=w14 at *
 obtain⟨gc,hgc⟩:∃ x,x=w13.heap.size:=⟨_,rfl⟩;rw[<-hgc] at kk |-;have HC:=At (And.intro (show gc<w14.heap.size by omega) (And.intro kk.1 (And.intro kk.2 (And.intro (hca.below hb) (hcb.below hb)))));clear hca hcb kk zz hgc;have HP:=At (HP.out.below hb);have HB:=At (HB.out.trans (hb.mono HB.out.size));clear hb k0 k1;have k0:=HP.out.f0;have k1:=HP.out.f1;go_wp2_with fail
 refine (zY _ aD aE w14 HP.out.F HP.out.G).mono ?_;rintro e w15 ⟨vd,rfl,hfc,hb⟩;rw[eB.2.2.2.2.2] at hfc |-;obtain⟨pd,cd,qd,dd,e,hda,hdb,-,-⟩:=hfc.ex;replace e:vd=.agg #[.slice pd 2 cd,.slice qd 2 dd]:=e;replace hda:IsS w15 (.slice pd 2 cd) aE:=hda;replace hdb:IsS w15 (.slice qd 2 dd) [⟨#[49]⟩,⟨#[48]⟩]:=hdb;subst e;have hc:=HC.out;have HC:=At (And.intro (AD hc.1 hb.size) (And.intro (aa hb hc.1 hc.2.1) (And.intro (aa hb hc.1 hc.2.2.1) (And.intro (hc.2.2.2.1.below hb) (hc.2.2.2.2.below hb)))));clear hfc hc;have HP:=At (HP.out.below hb);have HB:=At (HB.out.trans (hb.mono HB.out.size));clear hb k0 k1;have k0:=HP.out.f0;have k1:=HP.out.f1;go_upto_region 16 with fail
 have kk:=ar w15 (.slice pd 2 cd) (.slice qd 2 dd);have hb:=ac w15 (.cells #[.slice pd 2 cd,.slice qd 2 dd] 24);have zz:=size_alloc w15 (.cells #[.slice pd 2 cd,.slice qd 2 dd] 24);generalize w15.alloc (.cells #[.slice pd 2 cd,.slice qd 2 dd] 24)=w16 at *
 obtain⟨gd,hgd⟩:∃ x,x=w15.heap.size:=⟨_,rfl⟩;rw[<-hgd] at kk |-;have HD:=At (And.intro (show gd<w16.heap.size by omega) (And.intro kk.1 (And.intro kk.2 (And.intro (hda.below hb) (hdb.below hb)))));have hc:=HC.out;have HC:=At (And.intro (AD hc.1 hb.size) (And.intro (aa hb hc.1 hc.2.1) (And.intro (aa hb hc.1 hc.2.2.1) (And.intro (hc.2.2.2.1.below hb) (hc.2.2.2.2.below hb)))));clear hda hdb kk zz hgd hc;have HP:=At (HP.out.below hb);have HB:=At (HB.out.trans (hb.mono HB.out.size));clear hb k0 k1;have k0:=HP.out.f0;have k1:=HP.out.f1;have hm:=ac w16 (.cells #[.string ⟨#[49]⟩,.string ⟨#[48]⟩] 25);have HU:=At (y5 (.agg #[.slice pc 2 cc,.slice qc 2 dc]) (.agg #[.slice p 2 c,.slice (some ⟨w16.heap.size,0,none⟩) 2 2]) aD [⟨#[49]⟩,⟨#[48]⟩] aD [⟨#[49]⟩,⟨#[48]⟩] _ ⟨⟨_,_,_,_,rfl,HC.out.2.2.2.1.below hm,HC.out.2.2.2.2.below hm⟩⟩ ⟨⟨_,_,_,_,rfl,HP.out.la.below hm,IsS.two w16 ⟨#[49]⟩ ⟨#[48]⟩⟩⟩ (by decide) (by decide) (by decide) (by decide));rw[show (decide (aD=aD)&&decide ([(⟨#[49]⟩:ByteArray),⟨#[48]⟩]=[⟨#[49]⟩,⟨#[48]⟩]))=true from by decide] at HU;have HM:=At hm;have x0:=HC.out.2.1;have x1:=HC.out.2.2.1;clear hm;go_wp2_with fail
 refine HU.out.mono ?_;rintro e w17 ⟨rfl,hb⟩;have hb:=HM.out.trans (hb.mono HM.out.size);have hc:=HD.out;have HD:=At (And.intro (AD hc.1 hb.size) (And.intro (aa hb hc.1 hc.2.1) (And.intro (aa hb hc.1 hc.2.2.1) (And.intro (hc.2.2.2.1.below hb) (hc.2.2.2.2.below hb)))));clear HU HM hc HC x0 x1;have HP:=At (HP.out.below hb);have HB:=At (HB.out.trans (hb.mono HB.out.size));clear hb k0 k1;have k0:=HP.out.f0;have k1:=HP.out.f1;have hm:=ac w17 (.cells #[.string ⟨#[49]⟩,.string ⟨#[48]⟩] 25);have HU:=At (y5 (.agg #[.slice pd 2 cd,.slice qd 2 dd]) (.agg #[.slice q 2 d,.slice (some ⟨w17.heap.size,0,none⟩) 2 2]) aE [⟨#[49]⟩,⟨#[48]⟩] aE [⟨#[49]⟩,⟨#[48]⟩] _ ⟨⟨_,_,_,_,rfl,HD.out.2.2.2.1.below hm,HD.out.2.2.2.2.below hm⟩⟩ ⟨⟨_,_,_,_,rfl,HP.out.lb.below hm,IsS.two w17 ⟨#[49]⟩ ⟨#[48]⟩⟩⟩ (by decide) (by decide) (by decide) (by decide));rw[show (decide (aE=aE)&&decide ([(⟨#[49]⟩:ByteArray),⟨#[48]⟩]=[⟨#[49]⟩,⟨#[48]⟩]))=true from by decide] at HU;have HM:=At hm;have x0:=HD.out.2.1;have x1:=HD.out.2.2.1;clear hm;go_wp2_with fail
 refine HU.out.mono ?_;rintro e w18 ⟨rfl,hb⟩;have hb:=HM.out.trans (hb.mono HM.out.size);clear HU HM HD x0 x1;have HP:=At (HP.out.below hb);have HB:=At (HB.out.trans (hb.mono HB.out.size));clear hb k0 k1;have k0:=HP.out.f0;have k1:=HP.out.f1;go_wp2_with fail
 refine (nV _ aD aE ⟨#[45,49,47,50]⟩ ⟨#[50]⟩ 1 w18 HP.out.F HP.out.G rfl (by decide) rV.1).mono ?_;rintro e w19 ⟨rfl,hb⟩;rw[rV.2];have HP:=At (HP.out.below hb);have HB:=At (HB.out.trans (hb.mono HB.out.size));clear hb k0 k1;have k0:=HP.out.f0;have k1:=HP.out.f1;go_wp2_with fail
 refine (nV _ aD aE ⟨#[48]⟩ ⟨#[51]⟩ 1 w19 HP.out.F HP.out.G rfl (by decide) rW.1).mono ?_;rintro e w20 ⟨rfl,hb⟩;rw[rW.2];have HP:=At (HP.out.below hb);have HB:=At (HB.out.trans (hb.mono HB.out.size));clear hb k0 k1;have k0:=HP.out.f0;have k1:=HP.out.f1;have hm:=ac w20 (.cells #[.string ⟨#[45,50]⟩,.string ⟨#[45,49]⟩,.string ⟨#[48]⟩,.string ⟨#[49]⟩,.string ⟨#[50]⟩,.string ⟨#[51]⟩] 25);have HU:=At (rE (.agg #[.slice p 2 c,.slice q 2 d]) (.slice (some ⟨w20.heap.size,0,none⟩) 6 6) _ (HP.out.F.below hm) (jh w20 fz (by decide)) (HP.out.G.below hm));have HM:=At hm;clear hm;go_wp2_with fail
 refine HU.out.mono ?_;rintro e w21 ⟨rfl,hb⟩;have hb:=HM.out.trans (hb.mono HM.out.size);clear HU HM;have HP:=At (HP.out.below hb);have HB:=At (HB.out.trans (hb.mono HB.out.size));clear hb k0 k1;have k0:=HP.out.f0;have k1:=HP.out.f1;go_upto_region 21 with fail
 have r2:=heap_alloc_new w21 (.cells #[.string ⟨#[48]⟩,.string ⟨#[50]⟩] 53 (0,0));have hb:=ac w21 (.cells #[.string ⟨#[48]⟩,.string ⟨#[50]⟩] 53);have zz:=size_alloc w21 (.cells #[.string ⟨#[48]⟩,.string ⟨#[50]⟩] 53);generalize w21.alloc (.cells #[.string ⟨#[48]⟩,.string ⟨#[50]⟩] 53)=w22 at *
 obtain⟨gm,hgm⟩:∃ x,x=w21.heap.size:=⟨_,rfl⟩;rw[<-hgm] at r2 |-;clear zz hgm;have HP:=At (HP.out.below hb);have HB:=At (HB.out.trans (hb.mono HB.out.size));clear hb k0 k1;have k0:=HP.out.f0;have k1:=HP.out.f1;go_wp2_with fail
 refine (xF _ aD aE w22 HP.out.F HP.out.G).mono ?_;rintro e w23 ⟨rfl,hb⟩;rw[eB.2.2.2.1];have r2:=(hb.block gm (AE.1 r2).1).trans r2;have y0:=ah r2 0;have y1:=ah r2 1;simp only[CR,CL,Cl] at y0 y1;clear r2;have HP:=At (HP.out.below hb);have HB:=At (HB.out.trans (hb.mono HB.out.size));clear hb k0 k1;have k0:=HP.out.f0;have k1:=HP.out.f1;go_wp2;go_ret;exact⟨rfl,HB.out⟩
end Go.Proofs.YtgakllaobooabaaGreatDoor
