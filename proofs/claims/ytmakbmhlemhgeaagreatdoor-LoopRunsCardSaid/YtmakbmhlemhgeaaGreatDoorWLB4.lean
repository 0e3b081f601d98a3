/- L -/
import Derived.Sort.CutIn
import Derived.Test.YtmakbmhlemhgeaaGreatDoorWNT2
import Derived.Test.YtmakbmhlemhgeaaGreatDoorWLE2
import Derived.Test.YtmakbmhlemhgeaaGreatDoorWLB3
import Derived.Test.YtmakbmhlemhgeaaGreatDoorWLE5
import Derived.Test.YtmakbmhlemhgeaaGreatDoorWB
set_option linter.all false
set_option maxRecDepth 100000
set_option maxHeartbeats 8000000
namespace Go.Proofs.YtmakbmhlemhgeaaGreatDoor
open Go.RowKit Go.Shelf Dg
def i6 (k:ByteArray) (p:List ByteArray):List ByteArray:=(List.range (p.length+1)).map fun i=>jk (aT (p++[⟨#[48]⟩]) i) (ek k (aT (p++[⟨#[48]⟩]) (p.length-i)))
theorem mq (k:ByteArray) (p:List ByteArray):(i6 k p).length=p.length+1:=by simp[i6]
theorem Ad (k:ByteArray) (p:List ByteArray) {i:Nat} (h:i<(i6 k p).length):(i6 k p)[i]=jk (aT (p++[⟨#[48]⟩]) i) (ek k (aT (p++[⟨#[48]⟩]) (p.length-i))):=by simp[i6]
def fN:List ByteArray->List ByteArray->List (List ByteArray)
 | [],_=>[]
 | k :: ks,p=>if it k.data.toList=true/\gr k=true then i6 k p :: fN ks (i6 k p) else []
def bW (l:List ByteArray):List (List ByteArray):=fN l [⟨#[49]⟩]
def Am (l:List ByteArray) (i:Nat) (W:World) (vs:Array Value):Prop:=∃ v p,vs=#[v]/\(bW l)[i]?=some p/\IsS W v p
attribute [local go_sem] Oper.semAt_some
theorem ry (n:Nat) (hn:3<=n) (g:Nat) (v:Value) (l:List ByteArray) (w:World) (Sb:Nat->Prop) (hbox:w.heap[g]?=some (.cells #[v] 29 (0,0))) (hl:IsS w v l) (hlen:l.length<1000) (hsb:¬ Sb g) :
  uX Fence.wide n Tryz.prog 137 #[] #[.pointer (some ⟨g,0,none⟩)] (Am l) (bW l).length Sb (fun _=>False) (fun W=>sG Sb Do W/\Gw W) w:=by
 intro y J W hW hJ hOk hY h0;have hgl:g<w.heap.size:=(GT.1 hbox).1;have hb0:=(hW.block g hgl).trans hbox;have hlW:=hl.below hW;have HY:=GF hY;have HJ:=GF hJ;have HOK:=GF hOk;obtain⟨p,c,rfl,-⟩:=id hlW.form;have HL:=GF hlW;have hgW:=(GT.1 hb0).1;have m1:=au W (.cells #[.string ⟨#[49]⟩] 32);have c0:=aj m1 hgW (dX hb0).1;have hp0:=nk W ⟨#[49]⟩;have hl0:=hlW.below m1;have hj0:=hJ _ _ _ h0 (cT.of_below m1);clear hW hY hJ hOk hbox hl hlW hb0 m1 h0 HL;refine callsIn_of_wp Tryz.func137 rfl trivial ?_ rfl;simp only[Tryz.ntmps137,JB,G_,Id,Nat.reduceAdd,Nat.reduceSub,Jj,Jk,JA,Jq,Hh,Hn]
 gi_wp2_with fail
 generalize W.alloc (.cells #[.string ⟨#[49]⟩] 32)=W0 at *
 gi_loopw [3,12] (fun s3 s12 wr=>∃ (i:Nat) (ps:List ByteArray),s12=.int .i64 i/\i<=l.length/\i<=(bW l).length/\IsS wr s3 ps/\ps.length=i+1/\IsS wr (.slice p l.length c) l/\J i wr/\Hid (fN (l.drop i) ps=(bW l).drop i)) (fun _ s12 _=>l.length-(intOf s12).toNat)
 case atStart=>exact⟨0,_,rfl,by omega,by omega,hp0,rfl,hl0,hj0,rfl⟩
 case round =>
  clear hp0 hl0 hj0 c0;obtain⟨i,ps,rfl,hil,hib,hp,hpl,hl,hJi,hbd⟩:=hrel;by_cases hi:i<l.length
  ·obtain⟨b,o,rfl,hlt,hc⟩:=hl.get hi;obtain⟨pp,cp,rfl,-⟩:=id hp.form;have HBD:=GF (show (if it l[i].data.toList=true/\gr l[i]=true then i6 l[i] ps :: fN (l.drop (i+1)) (i6 l[i] ps) else [])=(bW l).drop i by rw[<-hbd.out,Iq hi];rfl);generalize l[i]=k at hc HBD;have hG:=(HOK.out _ _ hJi).2;have HIR:=GF (xF k wr hG);have HP:=GF hp;have HL:=GF hl;have HJi:=GF hJi;rw[hpl] at HP |-;clear hbd hp hl hJi hG
   gi_wp2_with fail
   refine⟨trivial,fun _=>by omega,(callsIn_wide.2 HIR.out).mono ?_⟩;rintro e w2 ⟨br,rfl,hbr,hb2⟩;have HJi:=GF (HJ.out _ _ _ HJi.out (cT.of_below hb2));have HP:=GF (HP.out.below hb2);have HL:=GF (HL.out.below hb2);clear HIR hc hb2
   cases br with
   | false =>
    have hlen:(bW l).length=i:=by
     have h:=HBD.out;rw[if_neg (fun h=>by rw[hbr.out] at h;cases h.1)] at h;have:=congrArg List.length h;simp at this;omega
    gi_wp2
    refine⟨trivial,?_⟩
    gi_wp2
    refine Kh (v:=.tuple #[]) (by simp[results,Tryz.results137,go_sem]) rfl ⟨⟨_,rfl⟩,by rw[hlen];exact HJi.out⟩
   | true =>
    have HIN:=GF (xD k w2 (HOK.out _ _ HJi.out).2);obtain⟨bi,hbi⟩:∃ b,b=gr k:=⟨_,rfl⟩;rw[<-hbi] at HIN
    gi_wp2_with fail
    refine⟨trivial,fun _=>by omega,(callsIn_wide.2 HIN.out).mono ?_⟩;rintro e w3 ⟨rfl,hb3⟩;have HJi:=GF (HJ.out _ _ _ HJi.out (cT.of_below hb3));have HP:=GF (HP.out.below hb3);have HL:=GF (HL.out.below hb3);clear HIN hb3
    cases bi with
    | false =>
     have hlen:(bW l).length=i:=by
      have h:=HBD.out;rw[if_neg (fun h=>by rw[<-hbi] at h;cases h.2)] at h;have:=congrArg List.length h;simp at this;omega
     gi_wp2
     refine Kh (v:=.tuple #[]) (by simp[results,Tryz.results137,go_sem]) rfl ⟨⟨_,rfl⟩,by rw[hlen];exact HJi.out⟩
    | true =>
     have HBD:=GF (show i6 k ps :: fN (l.drop (i+1)) (i6 k ps)=(bW l).drop i by
      have h:=HBD.out
      rwa [if_pos ⟨hbr.out,hbi.symm⟩] at h)
     clear hbr hbi
     gi_upto_region 5 with fail
     rw[wpIn_wide];go_wp2_with fail
     refine (vh _ ps w3 HP.out (by omega) (by omega)).mono ?_;rintro e w4 ⟨v4,rfl,hv4,hb4⟩;have hm5:=au w4 (.cells #[.string ⟨#[48]⟩] 32);have hv5:=hv4.below hm5;have hx5:=nk w4 ⟨#[48]⟩;have hB5:=hb4.trans (hm5.mono hb4.size);have hpb:ps.length+[(⟨#[48]⟩:ByteArray)].length<1000000000:=by rw[hpl];simp;omega
     have hlt3:w3.heap.size<=(w4.alloc (.cells #[.string ⟨#[48]⟩] 32)).heap.size:=hB5.size;clear hb4 hm5 hv4;go_wp2_with (at_builtin;refine fL 29 Tryz.underlying29 rfl (.tmp 25) (.tmp 26) rfl w3.heap.size _ ps [⟨#[48]⟩] w4.heap.size 0 1 rfl hv5 rfl hx5 hpb hlt3 ?_)
     intro v6 w6 hw6 hb6;have hB6:=hb6 _ _ hB5 (GM _);obtain⟨p6,c6,rfl,-⟩:=id hw6.isS.form;obtain⟨q,hq⟩:∃ q,q=ps++[(⟨#[48]⟩:ByteArray)]:=⟨_,rfl⟩;have hql:q.length=i+2:=by rw[hq];simp[hpl]
     have hqs:=hw6.isS;rw[<-hq,hql] at hqs;rw[show (ps++[(⟨#[48]⟩:ByteArray)]).length=i+2 by rw[<-hq];exact hql];have HQ:=GF hqs;have HQE:=GF hq;have HJi:=GF (HJ.out _ _ _ HJi.out (cT.of_below hB6));have HL:=GF (HL.out.below hB6);clear hw6 hb6 hv5 hx5 hB5 hpb hlt3 hB6 hq hqs HP;go_wp2
     gi_upto_region 6 with fail
     rw[wpIn_wide];have hi2:((i+2:Nat):Int)=(i:Int)+2:=rfl;go_wp2_with (at_make;refine dt 29 Tryz.underlying29 rfl (.tmp 29) (.tmp 29) rfl _ _ (i+2) rfl rfl (by go_num) (by go_num) (by omega) ?_)
     intro w7 hr7 hb7 hs7;have hB7:=hb7 _ _ (Ki _ _) (GM _);obtain⟨L,hL⟩:∃ L,L=i6 k ps:=⟨_,rfl⟩;have hLl:L.length=i+2:=by rw[hL,mq,hpl]
     have hr0:dD w7 w6.heap.size (i+2) (ci L 0):=by rw[gS,hLl];exact hr7
     obtain⟨g7,hg7⟩:∃ g,g=w6.heap.size:=⟨_,rfl⟩;rw[<-hg7] at hr0 hB7 |-;have HB67:=GF hB7;have HGE:=GF hg7;have HG6:=GF (HOK.out _ _ HJi.out).2;have HLE:=GF hL;obtain⟨bq,oq,rfl,hlq,hcq⟩:=HQ.out.all (by omega);rw[hql] at hcq;have HCQ:=GF (fun j (h:j<i+2)=>aj hB7 (by rw[hg7];exact hlq) (hcq j h));have hlq7:bq<g7:=by rw[hg7];exact hlq
     have hB77:Below g7 w7 w7:=Ki _ _;have hnb:i+2<1000000:=by omega
     clear hb7 hs7 hr7 hL hg7 hB7 hcq hlq HQ hi2;go_wp2
     gi_wp2
     gi_loopw [33] (fun s33 w8=>∃ j:Nat,s33=.int .i64 j/\j<=i+2/\dD w8 g7 (i+2) (ci L j)/\Below g7 w7 w8) (fun s33 _=>i+2-(intOf s33).toNat)
     case atStart=>exact⟨0,rfl,GY _,hr0,hB77⟩
     case round =>
      clear hr0 hB77;obtain⟨j,rfl,hji,hr8,hb8⟩:=hrel;by_cases hj:j<i+2
      ·have hjI:(j:Int)<(i:Int)+2:=by omega
       have e1:(i:Int)+2-1-(j:Int)=((i+1-j:Nat):Int):=by omega
       have e2:(i:Int)+1-(j:Int)=((i+1-j:Nat):Int):=by omega
       gi_upto_region 10 with fail
       rw[wpIn_wide];have hx:=HCQ.out j hj;have hy:=HCQ.out (i+1-j) (by omega);have m4:Below wr.heap.size wr wr.drew:=(Ki _ _).drew;have hgr:=hr8.lt;have HBd:=GF (hb8.trans (m4.mono (by omega)));have HR9:=GF (hr8.below m4);refine aB (fun w'=>∃ x:aL g7 wr.drew,w'=x.w) (fun i=>i == 15||i == 16||i == 18) (by kernel_rfl) (by kernel_rfl) ⟨⟨_,Ki _ _⟩,rfl⟩ ?_;have hz:g7<=wr.drew.heap.size:=by have:=m4.size;omega
       generalize wr.drew=wd at *
       have c0:=fun x:aL g7 wd=>aj (HBd.out.trans x.h) hlq7 hx;have c1:=fun x:aL g7 wd=>aj (HBd.out.trans x.h) hlq7 hy;have HG9:=GF (HG6.out.below (by have h:=HB67.out.trans HBd.out;rw[HGE.out] at h;exact h));clear hx hy m4 hr8 hb8 hgr;refine aq 15 0 _ _ _ (by kernel_rfl) ?_;simp only[GP,GS,GQ,GR];repeat (go_big_quiet_step (fail))
       refine wpQuiet_nil ?_;clear c0 c1 e1 e2;refine ar rfl rfl (fun K hK=>?_);go_simp;refine (fP k _ wd HG9.out).mono ?_;rintro e wa ⟨rfl,hba⟩;refine hK _ _ ⟨⟨_,hba.mono hz⟩,rfl⟩ ?_;clear hK K;try simp only[Act.put,GJ,GI,GH,GG,GL,GK]
       refine ar rfl rfl (fun K hK=>?_);go_simp;refine (lG _ _ wa (HG9.out.below hba)).mono ?_;rintro e wb ⟨rfl,hbb⟩;have hBb:=hba.trans (hbb.mono hba.size);refine hK _ _ ⟨⟨_,hBb.mono hz⟩,rfl⟩ ?_;clear hK K;try simp only[Act.put,GJ,GI,GH,GG,GL,GK]
       refine aq 1 17 _ _ _ (by kernel_rfl) ?_;simp only[GP,GS,GQ,GR];repeat (go_big_quiet_step (fail))
       refine wpQuiet_nil ?_;have hfl:j<(ci L j).length:=by rw[iH L (by omega)];omega
       have rc:=HR9.out.below hBb;have rd:=rc.cell hfl;have re:=rc.free j
       have hset:dD (wb.setCell ⟨g7,j,none⟩ (.string (jk (aT q j) (ek k (aT q (i+1-j)))))) g7 (i+2) (ci L (j+1)):=by
        have h1:=rc.set j (jk (aT q j) (ek k (aT q (i+1-j))));have h2:=iI L (i:=j) (by omega)
        have h3:L[j]'(by omega)=jk (aT q j) (ek k (aT q (i+1-j))):=by
         have hE:=HLE.out;subst hE;rw[Ad,HQE.out,hpl]
        rw[h3] at h2;rw[<-h2];exact h1
       have hP:Below g7 wd (wb.setCell ⟨g7,j,none⟩ (.string (jk (aT q j) (ek k (aT q (i+1-j)))))):=(hBb.mono hz).setCell (p:=⟨g7,j,none⟩) (GM _) _;refine ar rfl rfl (fun K hK=>?_);go_simp;refine hK undef _ ⟨⟨_,hP⟩,rfl⟩ ?_;clear hK K;try simp only[Act.put,GJ,GI,GH,GG,GL,GK]
       refine aH ?_;have hBn:=HBd.out.trans hP;clear rc rd re hP hbb hba hBb HR9 HG9 HBd hz;generalize wb.setCell ⟨g7,j,none⟩ (.string (jk (aT q j) (ek k (aT q (i+1-j)))))=we at *
       go_wp2
       gi_wp2
       go_roundw;case rel=>exact⟨j+1,by go_num,by omega,hset,hBn⟩
       case measure=>simp[intOf]<;>omega
      ·obtain rfl:j=i+2:=by omega
       have hfull:ci L (i+2)=L:=by rw[<-hLl];exact gR L
       rw[hfull] at hr8;have hB6:=HB67.out.trans hb8;have hB6':Below w6.heap.size w6 wr:=by have h:=hB6;rw[HGE.out] at h;exact h
       have HJr:=GF (HJ.out _ _ _ HJi.out (cT.of_below hB6'));have HLr:=GF (HL.out.below hB6')
       have hil:i<(bW l).length:=by
        have:=congrArg List.length HBD.out;simp at this;omega
       have hget:(bW l)[i]?=some L:=by
        have h:=IL (xs:=bW l) (i:=i) (j:=0);rw[<-HBD.out] at h;rw[HLE.out];simpa using h.symm
       have HD2:=GF (show fN (l.drop (i+1)) L=(bW l).drop (i+1) by
        have h:=congrArg (List.drop 1) HBD.out;rw[List.drop_drop] at h;rw[HLE.out]
        exact h)
       have hLS:=hr8.isS;obtain⟨fn,tmps,assign,body,hy,hR⟩:=HY.out i hil wr #[.slice (some ⟨g7,0,none⟩) L.length (i+2)] HJr.out ⟨_,L,rfl,hget,hLS⟩;have hsafe:=(HOK.out _ _ HJr.out).1;rw[hLl] at hy hLS;have HLS:=GF hLS;clear hb8 hr8 hfull hB6 hB6' hget hLS hj hji hib
       gi_wp2
       refine⟨fun _=>by omega,hR.mono ?_⟩;rintro e W' ⟨rfl,hJ',hT⟩;have hkeep:=jN.of_turns hT hsafe;have hls:=HLS.out.keep hkeep;have hll:=HLr.out.keep hkeep;clear hR hy hT hsafe hkeep HLS HLr HJr
       gi_wp2
       go_roundw;case rel=>exact⟨i+1,L,by go_num,by omega,by omega,hls,hLl,hll,hJ',HD2.out⟩
       case measure=>simp[intOf]<;>omega
  ·obtain rfl:i=l.length:=by omega
   have hlen:(bW l).length=l.length:=by
    have h:=hbd.out;rw[JE] at h;have:=congrArg List.length h;simp[fN] at this;omega
   clear hbd hp hl hpl hib hil
   gi_wp2
   go_end0
   exact⟨⟨_,rfl⟩,by rw[hlen];exact hJi⟩
def ol (ls:List (List ByteArray)):Nat->List ByteArray
 | 0=>[⟨#[49]⟩]
 | i+1=>ls.getD i []
def qt (l:List ByteArray):List ByteArray:=ol (bW l) (bW l).length
def fR (a b l:List ByteArray):Bool×Int:=if aI a b=true then if l.length+1=b.length then (decide (qt l=b),0) else (false,0) else (false,30)
theorem mB:∀ (l p q:List ByteArray),q∈fN l p->q.length<=p.length+l.length
 | [],_,_,h=>by simp[fN] at h
 | k :: ks,p,q,h=>by
  unfold fN at h
  split at h
  ·rcases Ir.1 h with rfl | h
   ·rw[mq];simp
   ·have:=mB ks (i6 k p) q h;rw[mq] at this;simp;omega
  ·cases h
theorem zr (l:List ByteArray):(qt l).length<=l.length+1:=by
 unfold qt
 cases h:(bW l).length with
 | zero=>simp[ol]
 | succ i =>
  show ((bW l).getD i []).length<=_
  have hi:i<(bW l).length:=by omega
  rw[Hb,G4 hi];have:=mB l [⟨#[49]⟩] _ (G7 hi);simp at this |-;omega
structure E8 (w:World) (g b7:Nat) (x y:Value) (l:List ByteArray) (i:Nat) (W:World):Prop where
 box:∃ v,W.heap[b7]?=some (.cells #[v] 29 (0,0))/\IsS W v (ol (bW l) i)
 fil:W.heap[g]?=some (.cells #[x,y] 34 (0,0))
 bel:Below w.heap.size w W
theorem xg {w:World}{g:Nat}{v:Value}{T:TypeId} (h:w.heap[g]?=some (.cells #[v] T (0,0))) (hv:∀ s,v≠.string s):sG (fun k=>k=g) Do w:=by
 rintro k rfl j u hc;rw[World.cell?,h] at hc;simp only[Hz,G8,if_false] at hc
 have hj:j=0:=by
  have:=(GT.1 hc).1;simpa using this
 subst hj;simp at hc;subst hc;rintro⟨s,e⟩;exact hv s e
theorem DG (v:Value) (l:List ByteArray) (w:World) (hl:IsS w v l) :
  Calls Tryz.prog 79 #[v] w fun e w'=>e=.returned (.func (.func 137) #[] #[.pointer (some ⟨w.heap.size,0,none⟩)])/\w'.heap[w.heap.size]?=some (.cells #[v] 29 (0,0))/\w.heap.size<w'.heap.size/\IsS w' v l/\Below w.heap.size w w':=by
 obtain⟨p,c,rfl,-⟩:=id hl.form;have c0:=heap_alloc_new w (.cells #[.slice p l.length c] 29 (0,0));have m1:=au w (.cells #[.slice p l.length c] 29);have z1:=size_alloc w (.cells #[.slice p l.length c] 29);have HL:=GF (hl.below m1);have H0:=GF (And.intro c0 (And.intro (show w.heap.size<(w.alloc (.cells #[.slice p l.length c] 29)).heap.size by omega) m1));clear c0 m1 z1 hl;go_enter Tryz.func79,Tryz.ntmps79;go_wp2;go_ret;exact⟨rfl,H0.out.1,H0.out.2.1,HL.out,H0.out.2.2⟩
attribute [local go_sem] Oper.semAt_some
theorem Du (v vl:Value) (a b l:List ByteArray) (w:World) (hF:IsF w v a b) (hl:IsS w vl l) (hG:Gx w) :
  Calls Tryz.prog 32 #[v,vl] w fun e w'=>e=.returned (.tuple #[.bool (fR a b l).1,.int .i64 (fR a b l).2])/\Below w.heap.size w w':=by
 obtain⟨p,c,q,d,rfl,hfa,hfb⟩:=id hF.ex;obtain⟨pl,cl,rfl,-⟩:=id hl.form;have HG0:=GF hG;have HB0:=GF hfb;refine (callsIn_wide (n:=9)).1 ?_;refine callsIn_of_wp_marks Tryz.func32 rfl trivial ?_ rfl;simp only[Tryz.ntmps32,JB,G_,Id,Nat.reduceAdd,Nat.reduceSub,Jj,Jk,JA,Jq,Hh,Hn]
 gi_upto_region 1 with fail
 have cc:=aU w (.slice p a.length c) (.slice q b.length d);have m1:=au w (.cells #[.slice p a.length c,.slice q b.length d] 34);have zz:=size_alloc w (.cells #[.slice p a.length c,.slice q b.length d] 34);have rr:=heap_alloc_new w (.cells #[.slice p a.length c,.slice q b.length d] 34 (0,0));generalize w.alloc (.cells #[.slice p a.length c,.slice q b.length d] 34)=w1 at *
 obtain⟨g,hg⟩:∃ g,g=w.heap.size:=⟨_,rfl⟩;rw[<-hg] at cc rr |-;have HCK:=GF (fD _ a b w1 (hF.below m1) (hG.below m1));have HB:=GF (hfb.below m1);have HL:=GF (hl.below m1);have c0:=cc.1;have c1:=cc.2;have hlt:g<w1.heap.size:=by omega
 have M1:=GF m1;have HGE:=GF hg;clear hfa hfb cc zz m1 hF hG hl hg;by_cases hck:aI a b=true
 ·have HT:=GF (show fR a b l=if l.length+1=b.length then (decide (qt l=b),0) else (false,0) by unfold fR;rw[if_pos hck]);have hce:aG a b=0:=by unfold aG;rw[if_pos hck]
  rw[hce] at HCK;obtain⟨ob1,ob7,-⟩:=bv hck;clear hce hck
  gi_wp2_with fail
  refine⟨trivial,(callsIn_wide.2 HCK.out).mono ?_⟩;rintro e w2 ⟨rfl,hb2⟩;have d0:=aj hb2 hlt c0;have d1:=aj hb2 hlt c1;have rr2:=(hb2.block g hlt).trans rr;have HB2:=GF (HB.out.below hb2);have HL2:=GF (HL.out.below hb2);have M2:=GF (M1.out.trans (hb2.mono M1.out.size));have hlt2:g<w2.heap.size:=GN hlt hb2.size;clear c0 c1 rr HB HL HCK M1 hb2 hlt;by_cases hlen:l.length+1=b.length
  ·have hbI:((b.length:Nat):Int)-1=(l.length:Int):=by omega
   have HT:=GF (show fR a b l=(decide (qt l=b),0) by rw[HT.out,if_pos hlen]);have HLN:=GF hlen;clear hlen
   gi_wp2_with fail
   have m3:=au w2 (.cells #[.string ⟨#[49]⟩] 32);have z3:=size_alloc w2 (.cells #[.string ⟨#[49]⟩] 32);have h3:=nk w2 ⟨#[49]⟩;generalize w2.alloc (.cells #[.string ⟨#[49]⟩] 32)=w3 at *
   have m4:=au w3 (.cells #[.slice (some ⟨w2.heap.size,0,none⟩) 1 1] 29);have r4:=heap_alloc_new w3 (.cells #[.slice (some ⟨w2.heap.size,0,none⟩) 1 1] 29 (0,0));generalize w3.alloc (.cells #[.slice (some ⟨w2.heap.size,0,none⟩) 1 1] 29)=w4 at *
   have hB4:=m3.trans (m4.mono m3.size);have h4:=h3.below m4;rw[z3] at r4;have hl4:=HL2.out.below hB4;have rr4:=(hB4.block g hlt2).trans rr2;obtain⟨b7,hb7⟩:∃ b,b=w2.heap.size+1:=⟨_,rfl⟩;rw[<-hb7] at r4 |-;have hM4:=M2.out.trans (hB4.mono M2.out.size);have hbw:w.heap.size<=b7:=by have:=M2.out.size;omega
   have hgb:g≠b7:=by omega
   clear d0 d1 rr2 HL2 m3 z3 h3 m4 hB4 M2 hlt2 hb7;refine⟨trivial,(callsIn_wide.2 (DG _ l w4 hl4)).mono ?_⟩;rintro e w5 ⟨rfl,rb5,hlt5,hl5,hb5⟩;obtain⟨gb,hgb5⟩:∃ g,g=w4.heap.size:=⟨_,rfl⟩;have h5:=h4.below hb5;have r5:=(hb5.block b7 (GT.1 r4).1).trans r4;have rr5:=(hb5.block g (GT.1 rr4).1).trans rr4;have hM5:=hM4.trans (hb5.mono hM4.size);have hne5:gb≠b7:=by have:=(GT.1 r4).1;omega
   have hlt7:b7<w5.heap.size:=(GT.1 r5).1;rw[<-hgb5] at rb5 hlt5 |-;have hll:l.length<1000:=by have:=HLN.out;omega
   clear h4 r4 rr4 hl4 hb5 hgb5 hM4
   gi_wp2
   refine mT (gf:=137) (bnd:=#[]) (lb:=#[.pointer (some ⟨gb,0,none⟩)]) (E:=Am l) (len:=(bW l).length) (Sb:=fun k=>k=b7) (Si:=fun _=>False) (Ok:=fun W=>sG (fun k=>k=b7) Do W/\Gw W) rfl (by omega) rfl trivial ?eg ?hSb ?hSi (ry 8 (by omega) gb _ l w5 _ rb5 hl5 hll hne5) ?hps
    (E8 w g b7 (.slice p a.length c) (.slice q b.length d) l) ?hI ?hOk ?h0
    (fun i a1 W=>∃ v ps,a1={ tmps:=#[.agg #[.slice p a.length c,.slice q b.length d],.slice pl l.length cl,.pointer (some ⟨g,0,none⟩),undef,.bool false,.int .i64 0,.int .i64 0,.pointer (some ⟨b7,0,none⟩),v,.agg #[.slice p a.length c,.slice q b.length d],.int .i64 0,.int .i64 0,.bool false,undef,.slice pl l.length cl,.int .i64 l.length,.pointer (some ⟨g,1,none⟩),.slice q b.length d,.int .i64 b.length,.int .i64 l.length,.bool false,.slice (some ⟨w2.heap.size,0,none⟩) 1 1,.slice pl l.length cl,.func (.func 137) #[] #[.pointer (some ⟨gb,0,none⟩)],v,undef,undef,undef,undef,undef],defers:=[] }/\(bW l)[i]?=some ps/\IsS W v ps/\E8 w g b7 (.slice p a.length c) (.slice q b.length d) l i W) ?hI1 ?hassign ?hbody ?hdone
   case eg=>exact cD Tryz.func137 rfl (by kernel_rfl)
   case hSb=>rintro k rfl;exact hlt7
   case hSi=>rintro k hk;exact hk.elim
   case hps=>rintro i W vs ⟨v,ps,rfl,-,-⟩;rfl
   case hI =>
    rintro i W W' ⟨⟨v,h1,h2⟩,h3,h4⟩ hB;exact⟨⟨v,hB.cells h1 id,h2.keep (jN.of_bes hB (fun k hk=>hk.elim))⟩,hB.cells h3 id,hB.below h4 hM5.size h4.size (fun k e=>e.elim)⟩
   case hOk =>
    rintro i W ⟨⟨v,h1,h2⟩,h3,h4⟩;obtain⟨pv,cv,rfl,-⟩:=id h2.form;exact⟨xg h1 (by intro s e;cases e),(HG0.out.below h4).g⟩
   case h0=>exact⟨⟨_,r5,h5⟩,rr5,hM5⟩
   case hI1 =>
    rintro i a1 W W' ⟨v,ps,e,hv,hs,⟨v',h1,h2⟩,h3,h4⟩ hB;exact⟨v,ps,e,hv,hs.keep (jN.of_bes hB (fun k hk=>hk.elim)),⟨v',hB.cells h1 id,h2.keep (jN.of_bes hB (fun k hk=>hk.elim))⟩,hB.cells h3 id,hB.below h4 hM5.size h4.size (fun k e=>e.elim)⟩
   case hassign =>
    rintro y i hi W vs hI ⟨v,ps,rfl,hv,hs⟩;rw[uV];simp only[GG,GL,GK]
    gi_wp2
    exact⟨cT.refl _ _,v,ps,rfl,hv,hs,hI⟩
   case hbody =>
    rintro y i hi a1 W ⟨v,ps,rfl,hv,hs,⟨v',h1,h2⟩,h3,h4⟩;obtain⟨pv,cv,rfl,-⟩:=id hs.form;obtain⟨pv',cv',rfl,-⟩:=id h2.form;obtain⟨k7,f7⟩:=dX h1;have hT:=cT.set (S:=fun k=>k=b7) (w:=W) rfl 0 (.slice pv ps.length cv);have hS:=(hs.keep (jN.of_turns hT (xg h1 (by intro s e;cases e))))
    have hL:ol (bW l) (i+1)=ps:=by
     show (bW l).getD i []=ps
     rw[Hb,hv];rfl
    have HRes:=GF (show cT (fun k=>k=b7) W (W.setCell ⟨b7,0,none⟩ (.slice pv ps.length cv))/\E8 w g b7 (.slice p a.length c) (.slice q b.length d) l (i+1) (W.setCell ⟨b7,0,none⟩ (.slice pv ps.length cv)) from
     ⟨hT,⟨_,heap_setCell_same W b7 0 _ _ _ h1,by rw[hL];exact hS⟩,(Below.heap_setCell W ⟨b7,0,none⟩ _ g hgb).trans h3,h4.setCell (p:=⟨b7,0,none⟩) hbw _⟩)
    clear h1 h2 h3 h4 hT hS hs hv hL r5 h5 rr5
    gi_wp2
    exact HRes.out
   case hdone =>
    rintro D W hD ⟨⟨v,h1,h2⟩,h3,h4⟩ hK;have hLB:=zr l;have hz:=hM5.size;obtain⟨lb,hlb⟩:∃ x,x=qt l:=⟨_,rfl⟩;rw[show ol (bW l) (bW l).length=lb from hlb.symm] at h2;have HTL:=GF (show fR a b l=(decide (lb=b),0) by rw[HT.out,<-hlb]);rw[<-hlb] at hLB;obtain⟨pv,cv,rfl,-⟩:=id h2.form;have k7:=(dX h1).1;have c0:=az h3 0;have c1:=az h3 1;have HEQ:=GF (Fk _ _ lb b W h2 (HB0.out.below h4) (by omega) (by omega));obtain⟨bq,hbq⟩:∃ x,x=decide (lb=b):=⟨_,rfl⟩;rw[<-hbq] at HEQ HTL;have HM:=GF h4;have HK:=GF hK;have HD:=GF (show w.heap.size<=D by omega);simp only[JH,Jv,I9] at c0 c1;clear h1 h2 h3 h4 hK hlb hbq rb5 hl5 h5 r5 rr5 hM5 hLB hz
    gi_wp2_with fail
    refine⟨trivial,(callsIn_wide.2 HEQ.out).mono ?_⟩;rintro e W2 ⟨rfl,hb2⟩;have HK2:=GF ((hb2.block D (GT.1 HK.out).1).trans HK.out);have HM2:=GF (HM.out.trans (hb2.mono HM.out.size));clear hb2 HEQ k7 c0 c1
    gi_wp2
    refine⟨by simp,.inl ⟨_,_,rfl,run_takeDeferred HK2.out,?_⟩⟩;refine⟨.tuple #[.bool bq,.int .i64 0],by simp[results,Tryz.results32,go_sem],by rw[HTL.out],HM2.out.trans ⟨rfl,rfl,rfl,by simp,fun k hk=>World.putObj_heap_other (by have:=HD.out;omega)⟩⟩
  ·have hne:((l.length:Int) != (b.length:Int)-1)=true:=by simp;omega
   have HE:=GF (show fR a b l=(false,0) by rw[HT.out,if_neg hlen]);clear hlen
   gi_wp2
   refine⟨.tuple #[.bool false,.int .i64 0],by simp[results,Tryz.results32,go_sem],by rw[HE.out],M2.out⟩
 ·have HE:=GF (show fR a b l=(false,30) by unfold fR;rw[if_neg hck]);have hce:aG a b=30:=by unfold aG;rw[if_neg hck]
  rw[hce] at HCK;clear hce
  gi_wp2_with fail
  refine⟨trivial,(callsIn_wide.2 HCK.out).mono ?_⟩;rintro e w2 ⟨rfl,hb2⟩
  gi_wp2
  refine⟨.tuple #[.bool false,.int .i64 30],by simp[results,Tryz.results32,go_sem],by rw[HE.out],M1.out.trans (hb2.mono M1.out.size)⟩
open Go.RowKit Dg
structure yF (w:World) (g:Nat) (p:Option Addr) (c:Nat) (q:Option Addr) (d:Nat):Prop where
 f0:w.cell? ⟨g,0,none⟩=some (.slice p 2 c)
 f1:w.cell? ⟨g,1,none⟩=some (.slice q 2 d)
 la:IsS w (.slice p 2 c) bg
 lb:IsS w (.slice q 2 d) bh
 G:Gx w
 lt:g<w.heap.size
theorem yF.below {w w':World}{g:Nat}{p:Option Addr}{c:Nat}{q:Option Addr}{d:Nat} (h:yF w g p c q d) (hb:Below w.heap.size w w'):yF w' g p c q d :=
 ⟨aj hb h.lt h.f0,aj hb h.lt h.f1,h.la.below hb,h.lb.below hb,h.G.below hb,GN h.lt hb.size⟩
theorem yF.F {w:World}{g:Nat}{p:Option Addr}{c:Nat}{q:Option Addr}{d:Nat} (h:yF w g p c q d):IsF w (.agg #[.slice p 2 c,.slice q 2 d]) bg bh:=⟨⟨p,c,q,d,rfl,h.la,h.lb⟩⟩
theorem l6:eH bg bh 4=0/\cj bg bh (fg 4) 4=[⟨#[48]⟩,⟨#[49,47,50]⟩,⟨#[49,47,52]⟩,⟨#[49,47,56]⟩]:=by decide +kernel
theorem gX:da bh=some [⟨#[45,49,47,50]⟩]/\aI bg [⟨#[49]⟩,⟨#[45,50]⟩]=true/\da [⟨#[49]⟩,⟨#[45,50]⟩]=none:=by decide +kernel
theorem tv:fR bg [⟨#[49]⟩,⟨#[49,47,52]⟩,⟨#[45,49,47,50]⟩] [⟨#[49,47,50]⟩,⟨#[45,49,47,50]⟩]=(true,0):=by decide +kernel
theorem tw:fy bh (ofT 33)=true/\∀ m,m<33->1<=m->fy bh (ofT m)=false:=by decide +kernel
theorem gL:ez bg bh=(⟨#[49,47,51]⟩,0)/\cM bg bh ⟨#[45,49]⟩=(⟨#[45,49,47,51]⟩,0)/\cM bg bh ⟨#[49,47,50]⟩=(⟨#[]⟩,32)/\fm bg bh=(5,0)/\lh bg bh=((bg,[⟨#[49]⟩,⟨#[48]⟩]),0)/\sC bg bh=((bh,[⟨#[49]⟩,⟨#[48]⟩]),0):=by decide +kernel
theorem lE (w:World) (l:List ByteArray) (h:l.length<1000):IsS (w.alloc (.cells (l.map Value.string).toArray 32)) (.slice (some ⟨w.heap.size,0,none⟩) l.length l.length) l :=
 cR.isS (base:=w.heap.size) (by
  refine⟨by simp,Or.inr ⟨w.heap.size,l.length,_,rfl,GM _,heap_alloc_new w _,GM _,by unfold maxLen;omega,by simp,by simp[GU]⟩⟩)
theorem Dl (w:World) (hG:Gx w):Calls Tryz.prog 13 #[] w fun e w'=>e=.returned (.bool true)/\Below w.heap.size w w':=by
 go_enter Tryz.func13,Tryz.ntmps13;go_wp2_with fail
 refine (Gk w).mono ?_;rintro e w1 ⟨v1,rfl,hF,hb1⟩;obtain⟨p,c,q,d,rfl,hA,hB⟩:=id hF.ex;rw[show bg.length=2 from rfl] at hA |-;rw[show bh.length=2 from rfl] at hB |-;have cc:=aU w1 (.slice p 2 c) (.slice q 2 d);have m2:=au w1 (.cells #[.slice p 2 c,.slice q 2 d] 34);have z2:=size_alloc w1 (.cells #[.slice p 2 c,.slice q 2 d] 34);go_upto_region 2 with fail
 generalize w1.alloc (.cells #[.slice p 2 c,.slice q 2 d] 34)=w2 at *
 obtain⟨g,hg⟩:∃ g,g=w1.heap.size:=⟨_,rfl⟩;rw[<-hg] at cc |-;have HP:=GF (show yF w2 g p c q d from⟨cc.1,cc.2,hA.below m2,hB.below m2,(hG.below hb1).below m2,by omega⟩);have HB:=GF (hb1.trans (m2.mono hb1.size));have k0:=HP.out.f0;have k1:=HP.out.f1;clear cc m2 z2 hA hB hF hb1 hG hg;go_wp2_with fail
 refine (pW _ bg bh 4 w2 HP.out.F HP.out.G).mono ?_;rintro e w3 ⟨vr,rfl,hvr,-,hb⟩;have HR:=GF (hvr l6.1);rw[show (4:Int).toNat=4 from rfl,l6.2] at HR;rw[l6.1];clear hvr;have HP:=GF (HP.out.below hb);have HB:=GF (HB.out.trans (hb.mono HB.out.size));clear hb k0 k1;have k0:=HP.out.f0;have k1:=HP.out.f1;go_wp2_with fail
 refine (Ax _ bg bh w3 HP.out.F HP.out.G).mono ?_;rintro e w4 ⟨vp,er,rfl,hcase,hb⟩
 have HPR:er=0/\Hid (IsS w4 vp [⟨#[45,49,47,50]⟩]):=by
  rcases hcase with ⟨pf,-,h1,rfl,h2,-⟩ | ⟨-,h1,-⟩ | ⟨h1,-⟩
  ·rw[gX.1] at h1
   cases h1
   exact⟨rfl,h2⟩
  ·rw[gX.1] at h1;cases h1
  ·rw[fE] at h1;cases h1
 obtain⟨rfl,HPR⟩:=HPR;have HR:=GF (HR.out.below hb);clear hcase;have HP:=GF (HP.out.below hb);have HB:=GF (HB.out.trans (hb.mono HB.out.size));clear hb k0 k1;have k0:=HP.out.f0;have k1:=HP.out.f1;have hm:=au w4 (.cells #[.string ⟨#[49]⟩,.string ⟨#[45,50]⟩] 32);have HU:=GF (Ax _ bg [⟨#[49]⟩,⟨#[45,50]⟩] _ ⟨⟨p,c,_,_,rfl,HP.out.la.below hm,IsS.two w4 ⟨#[49]⟩ ⟨#[45,50]⟩⟩⟩ (HP.out.G.below hm));have HM:=GF hm;clear hm;go_wp2_with fail
 refine HU.out.mono ?_;rintro e w5 ⟨vx,er,rfl,hcase,hb⟩
 obtain rfl:er=31:=by
  rcases hcase with ⟨pf,-,h1,-⟩ | ⟨-,-,h,-⟩ | ⟨h1,-⟩
  ·rw[gX.2.2] at h1;cases h1
  ·exact h
  ·rw[gX.2.1] at h1;cases h1
 have hb:=HM.out.trans (hb.mono HM.out.size);have HR:=GF (HR.out.below hb);have HPR:=GF (HPR.out.below hb);clear hcase HU HM;have HP:=GF (HP.out.below hb);have HB:=GF (HB.out.trans (hb.mono HB.out.size));clear hb k0 k1;have k0:=HP.out.f0;have k1:=HP.out.f1;have hm:=au w5 (.cells #[.string ⟨#[49]⟩,.string ⟨#[49,47,52]⟩,.string ⟨#[45,49,47,50]⟩] 32);have hl:=lE w5 [⟨#[49]⟩,⟨#[49,47,52]⟩,⟨#[45,49,47,50]⟩] (by decide);have hm2:=au (w5.alloc (.cells #[.string ⟨#[49]⟩,.string ⟨#[49,47,52]⟩,.string ⟨#[45,49,47,50]⟩] 32)) (.cells #[.string ⟨#[49,47,50]⟩,.string ⟨#[45,49,47,50]⟩] 32);have hl2:=IsS.two (w5.alloc (.cells #[.string ⟨#[49]⟩,.string ⟨#[49,47,52]⟩,.string ⟨#[45,49,47,50]⟩] 32)) ⟨#[49,47,50]⟩ ⟨#[45,49,47,50]⟩;have hM:=hm.trans (hm2.mono hm.size);have HU:=GF (Du _ _ bg [⟨#[49]⟩,⟨#[49,47,52]⟩,⟨#[45,49,47,50]⟩] [⟨#[49,47,50]⟩,⟨#[45,49,47,50]⟩] _ ⟨⟨p,c,_,_,rfl,HP.out.la.below hM,hl.below hm2⟩⟩ hl2 (HP.out.G.below hM));rw[tv] at HU;have HM:=GF hM;rw[size_alloc] at HU;clear hm hm2 hl hl2 hM;go_wp2_with fail
 refine HU.out.mono ?_;rintro e w6 ⟨rfl,hb⟩;have hb:=HM.out.trans (hb.mono HM.out.size);have HR:=GF (HR.out.below hb);have HPR:=GF (HPR.out.below hb);clear HU HM;have HP:=GF (HP.out.below hb);have HB:=GF (HB.out.trans (hb.mono HB.out.size));clear hb k0 k1;have k0:=HP.out.f0;have k1:=HP.out.f1;have hm:=au w6 (.cells #[.string ⟨#[48]⟩,.string ⟨#[49,47,50]⟩,.string ⟨#[49,47,52]⟩,.string ⟨#[49,47,56]⟩] 32);have HU:=GF (iZ _ _ _ _ _ (HR.out.below hm) (lE w6 [⟨#[48]⟩,⟨#[49,47,50]⟩,⟨#[49,47,52]⟩,⟨#[49,47,56]⟩] (by decide)) (by decide) (by decide));rw[decide_eq_true (rfl:[(⟨#[48]⟩:ByteArray),⟨#[49,47,50]⟩,⟨#[49,47,52]⟩,⟨#[49,47,56]⟩]=_)] at HU;have HM:=GF hm;clear hm;go_wp2_with fail
 refine HU.out.mono ?_;rintro e w7 ⟨rfl,hb⟩;have hb:=HM.out.trans (hb.mono HM.out.size);have HPR:=GF (HPR.out.below hb);clear HU HM HR;have HP:=GF (HP.out.below hb);have HB:=GF (HB.out.trans (hb.mono HB.out.size));clear hb k0 k1;have k0:=HP.out.f0;have k1:=HP.out.f1;have hm:=au w7 (.cells #[.string ⟨#[45,49,47,50]⟩] 32);have HU:=GF (iZ _ _ _ _ _ (HPR.out.below hm) (lE w7 [⟨#[45,49,47,50]⟩] (by decide)) (by decide) (by decide));rw[decide_eq_true (rfl:[(⟨#[45,49,47,50]⟩:ByteArray)]=_)] at HU;have HM:=GF hm;clear hm;go_wp2_with fail
 refine HU.out.mono ?_;rintro e w8 ⟨rfl,hb⟩;have hb:=HM.out.trans (hb.mono HM.out.size);clear HU HM HPR;have HP:=GF (HP.out.below hb);have HB:=GF (HB.out.trans (hb.mono HB.out.size));clear hb k0 k1;have k0:=HP.out.f0;have k1:=HP.out.f1;go_wp2_with fail
 refine (Dy _ bg bh w8 HP.out.F HP.out.G).mono ?_;rintro e w9 ⟨nr,er,rfl,hcase,hb⟩
 obtain⟨rfl,rfl⟩:er=0/\nr=33:=by
  rcases hcase with ⟨-,-,rfl,k,rfl,k1,k64,hk,hlt⟩ | ⟨-,h,-⟩ | ⟨h,-⟩
  ·refine⟨rfl,?_⟩;rcases J6 k 33 with h | h | h
   ·have:=tw.2 k h k1;rw[hk] at this;cases this
   ·rw[h];rfl
   ·have:=hlt 33 (by decide) h;rw[tw.1] at this;cases this
  ·rw[gX.1] at h;cases h
  ·rw[fE] at h;cases h
 clear hcase;have HP:=GF (HP.out.below hb);have HB:=GF (HB.out.trans (hb.mono HB.out.size));clear hb k0 k1;have k0:=HP.out.f0;have k1:=HP.out.f1;go_wp2_with fail
 refine (Dr _ bg bh w9 HP.out.F HP.out.G).mono ?_;rintro e w10 ⟨rfl,hb⟩;rw[gL.1];have HP:=GF (HP.out.below hb);have HB:=GF (HB.out.trans (hb.mono HB.out.size));clear hb k0 k1;have k0:=HP.out.f0;have k1:=HP.out.f1;go_wp2_with fail
 refine (lX _ bg bh _ w10 HP.out.F HP.out.G).mono ?_;rintro e w11 ⟨rfl,hb⟩;rw[gL.2.1];have HP:=GF (HP.out.below hb);have HB:=GF (HB.out.trans (hb.mono HB.out.size));clear hb k0 k1;have k0:=HP.out.f0;have k1:=HP.out.f1;go_wp2_with fail
 refine (lX _ bg bh _ w11 HP.out.F HP.out.G).mono ?_;rintro e w12 ⟨rfl,hb⟩;rw[gL.2.2.1];have HP:=GF (HP.out.below hb);have HB:=GF (HB.out.trans (hb.mono HB.out.size));clear hb k0 k1;have k0:=HP.out.f0;have k1:=HP.out.f1;go_wp2_with fail
 refine (Dp _ bg bh w12 HP.out.F HP.out.G).mono ?_;rintro e w13 ⟨vc,rfl,hfc,hb⟩;rw[gL.2.2.2.2.1] at hfc |-;have HP:=GF (HP.out.below hb);have HB:=GF (HB.out.trans (hb.mono HB.out.size));clear hb k0 k1;have k0:=HP.out.f0;have k1:=HP.out.f1;obtain⟨pc,cc,qc,dc,e,hca,hcb,-,-⟩:=hfc.ex;replace e:vc=.agg #[.slice pc 2 cc,.slice qc 2 dc]:=e;replace hca:IsS w13 (.slice pc 2 cc) bg:=hca;replace hcb:IsS w13 (.slice qc 2 dc) [⟨#[49]⟩,⟨#[48]⟩]:=hcb;subst e;clear hfc;go_upto_region 15 with fail
 have kk:=aU w13 (.slice pc 2 cc) (.slice qc 2 dc);have hb:=au w13 (.cells #[.slice pc 2 cc,.slice qc 2 dc] 34);have zz:=size_alloc w13 (.cells #[.slice pc 2 cc,.slice qc 2 dc] 34);generalize w13.alloc (.cells #[.slice pc 2 cc,.slice qc 2 dc] 34)=w14 at *
 obtain⟨gc,hgc⟩:∃ x,x=w13.heap.size:=⟨_,rfl⟩;rw[<-hgc] at kk |-;have HC:=GF (And.intro (show gc<w14.heap.size by omega) (And.intro kk.1 (And.intro kk.2 (And.intro (hca.below hb) (hcb.below hb)))));clear hca hcb kk zz hgc;have HP:=GF (HP.out.below hb);have HB:=GF (HB.out.trans (hb.mono HB.out.size));clear hb k0 k1;have k0:=HP.out.f0;have k1:=HP.out.f1;go_wp2_with fail
 refine (Gc _ bg bh w14 HP.out.F HP.out.G).mono ?_;rintro e w15 ⟨vd,rfl,hfc,hb⟩;rw[gL.2.2.2.2.2] at hfc |-;obtain⟨pd,cd,qd,dd,e,hda,hdb,-,-⟩:=hfc.ex;replace e:vd=.agg #[.slice pd 2 cd,.slice qd 2 dd]:=e;replace hda:IsS w15 (.slice pd 2 cd) bh:=hda;replace hdb:IsS w15 (.slice qd 2 dd) [⟨#[49]⟩,⟨#[48]⟩]:=hdb;subst e;have hc:=HC.out;have HC:=GF (And.intro (GN hc.1 hb.size) (And.intro (aj hb hc.1 hc.2.1) (And.intro (aj hb hc.1 hc.2.2.1) (And.intro (hc.2.2.2.1.below hb) (hc.2.2.2.2.below hb)))));clear hfc hc;have HP:=GF (HP.out.below hb);have HB:=GF (HB.out.trans (hb.mono HB.out.size));clear hb k0 k1;have k0:=HP.out.f0;have k1:=HP.out.f1;go_upto_region 16 with fail
 have kk:=aU w15 (.slice pd 2 cd) (.slice qd 2 dd);have hb:=au w15 (.cells #[.slice pd 2 cd,.slice qd 2 dd] 34);have zz:=size_alloc w15 (.cells #[.slice pd 2 cd,.slice qd 2 dd] 34);generalize w15.alloc (.cells #[.slice pd 2 cd,.slice qd 2 dd] 34)=w16 at *
 obtain⟨gd,hgd⟩:∃ x,x=w15.heap.size:=⟨_,rfl⟩;rw[<-hgd] at kk |-;have HD:=GF (And.intro (show gd<w16.heap.size by omega) (And.intro kk.1 (And.intro kk.2 (And.intro (hda.below hb) (hdb.below hb)))));have hc:=HC.out;have HC:=GF (And.intro (GN hc.1 hb.size) (And.intro (aj hb hc.1 hc.2.1) (And.intro (aj hb hc.1 hc.2.2.1) (And.intro (hc.2.2.2.1.below hb) (hc.2.2.2.2.below hb)))));clear hda hdb kk zz hgd hc;have HP:=GF (HP.out.below hb);have HB:=GF (HB.out.trans (hb.mono HB.out.size));clear hb k0 k1;have k0:=HP.out.f0;have k1:=HP.out.f1;have hm:=au w16 (.cells #[.string ⟨#[49]⟩,.string ⟨#[48]⟩] 32);have HU:=GF (EU (.agg #[.slice pc 2 cc,.slice qc 2 dc]) (.agg #[.slice p 2 c,.slice (some ⟨w16.heap.size,0,none⟩) 2 2]) bg [⟨#[49]⟩,⟨#[48]⟩] bg [⟨#[49]⟩,⟨#[48]⟩] _ ⟨⟨_,_,_,_,rfl,HC.out.2.2.2.1.below hm,HC.out.2.2.2.2.below hm⟩⟩ ⟨⟨_,_,_,_,rfl,HP.out.la.below hm,IsS.two w16 ⟨#[49]⟩ ⟨#[48]⟩⟩⟩ (by decide) (by decide) (by decide) (by decide));rw[show (decide (bg=bg)&&decide ([(⟨#[49]⟩:ByteArray),⟨#[48]⟩]=[⟨#[49]⟩,⟨#[48]⟩]))=true from by decide] at HU;have HM:=GF hm;have x0:=HC.out.2.1;have x1:=HC.out.2.2.1;clear hm;go_wp2_with fail
 refine HU.out.mono ?_;rintro e w17 ⟨rfl,hb⟩;have hb:=HM.out.trans (hb.mono HM.out.size);have hc:=HD.out;have HD:=GF (And.intro (GN hc.1 hb.size) (And.intro (aj hb hc.1 hc.2.1) (And.intro (aj hb hc.1 hc.2.2.1) (And.intro (hc.2.2.2.1.below hb) (hc.2.2.2.2.below hb)))));clear HU HM hc HC x0 x1;have HP:=GF (HP.out.below hb);have HB:=GF (HB.out.trans (hb.mono HB.out.size));clear hb k0 k1;have k0:=HP.out.f0;have k1:=HP.out.f1;have hm:=au w17 (.cells #[.string ⟨#[49]⟩,.string ⟨#[48]⟩] 32);have HU:=GF (EU (.agg #[.slice pd 2 cd,.slice qd 2 dd]) (.agg #[.slice q 2 d,.slice (some ⟨w17.heap.size,0,none⟩) 2 2]) bh [⟨#[49]⟩,⟨#[48]⟩] bh [⟨#[49]⟩,⟨#[48]⟩] _ ⟨⟨_,_,_,_,rfl,HD.out.2.2.2.1.below hm,HD.out.2.2.2.2.below hm⟩⟩ ⟨⟨_,_,_,_,rfl,HP.out.lb.below hm,IsS.two w17 ⟨#[49]⟩ ⟨#[48]⟩⟩⟩ (by decide) (by decide) (by decide) (by decide));rw[show (decide (bh=bh)&&decide ([(⟨#[49]⟩:ByteArray),⟨#[48]⟩]=[⟨#[49]⟩,⟨#[48]⟩]))=true from by decide] at HU;have HM:=GF hm;have x0:=HD.out.2.1;have x1:=HD.out.2.2.1;clear hm;go_wp2_with fail
 refine HU.out.mono ?_;rintro e w18 ⟨rfl,hb⟩;have hb:=HM.out.trans (hb.mono HM.out.size);clear HU HM HD x0 x1;have HP:=GF (HP.out.below hb);have HB:=GF (HB.out.trans (hb.mono HB.out.size));clear hb k0 k1;have k0:=HP.out.f0;have k1:=HP.out.f1;go_wp2_with fail
 refine (sy _ bg bh ⟨#[45,49,47,50]⟩ ⟨#[50]⟩ 1 w18 HP.out.F HP.out.G rfl (by decide) xw.1).mono ?_;rintro e w19 ⟨rfl,hb⟩;rw[xw.2];have HP:=GF (HP.out.below hb);have HB:=GF (HB.out.trans (hb.mono HB.out.size));clear hb k0 k1;have k0:=HP.out.f0;have k1:=HP.out.f1;go_wp2_with fail
 refine (sy _ bg bh ⟨#[48]⟩ ⟨#[51]⟩ 1 w19 HP.out.F HP.out.G rfl (by decide) xx.1).mono ?_;rintro e w20 ⟨rfl,hb⟩;rw[xx.2];have HP:=GF (HP.out.below hb);have HB:=GF (HB.out.trans (hb.mono HB.out.size));clear hb k0 k1;have k0:=HP.out.f0;have k1:=HP.out.f1;have hm:=au w20 (.cells #[.string ⟨#[45,50]⟩,.string ⟨#[45,49]⟩,.string ⟨#[48]⟩,.string ⟨#[49]⟩,.string ⟨#[50]⟩,.string ⟨#[51]⟩] 32);have HU:=GF (wT (.agg #[.slice p 2 c,.slice q 2 d]) (.slice (some ⟨w20.heap.size,0,none⟩) 6 6) _ (HP.out.F.below hm) (lE w20 iK (by decide)) (HP.out.G.below hm));have HM:=GF hm;clear hm;go_wp2_with fail
 refine HU.out.mono ?_;rintro e w21 ⟨rfl,hb⟩;have hb:=HM.out.trans (hb.mono HM.out.size);clear HU HM;have HP:=GF (HP.out.below hb);have HB:=GF (HB.out.trans (hb.mono HB.out.size));clear hb k0 k1;have k0:=HP.out.f0;have k1:=HP.out.f1;go_upto_region 21 with fail
 have r2:=heap_alloc_new w21 (.cells #[.string ⟨#[48]⟩,.string ⟨#[50]⟩] 75 (0,0));have hb:=au w21 (.cells #[.string ⟨#[48]⟩,.string ⟨#[50]⟩] 75);have zz:=size_alloc w21 (.cells #[.string ⟨#[48]⟩,.string ⟨#[50]⟩] 75);generalize w21.alloc (.cells #[.string ⟨#[48]⟩,.string ⟨#[50]⟩] 75)=w22 at *
 obtain⟨gm,hgm⟩:∃ x,x=w21.heap.size:=⟨_,rfl⟩;rw[<-hgm] at r2 |-;clear zz hgm;have HP:=GF (HP.out.below hb);have HB:=GF (HB.out.trans (hb.mono HB.out.size));clear hb k0 k1;have k0:=HP.out.f0;have k1:=HP.out.f1;go_wp2_with fail
 refine (Dq _ bg bh w22 HP.out.F HP.out.G).mono ?_;rintro e w23 ⟨rfl,hb⟩;rw[gL.2.2.2.1];have r2:=(hb.block gm (GT.1 r2).1).trans r2;have y0:=az r2 0;have y1:=az r2 1;simp only[JH,Jv,I9] at y0 y1;clear r2;have HP:=GF (HP.out.below hb);have HB:=GF (HB.out.trans (hb.mono HB.out.size));clear hb k0 k1;have k0:=HP.out.f0;have k1:=HP.out.f1;go_wp2;go_ret;exact⟨rfl,HB.out⟩
end Go.Proofs.YtmakbmhlemhgeaaGreatDoor
