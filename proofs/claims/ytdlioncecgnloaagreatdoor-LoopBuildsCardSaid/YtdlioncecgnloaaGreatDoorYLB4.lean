/- Lemmas of this claim. -/
import Derived.Sort.CutIn
import Derived.Test.YtdlioncecgnloaaGreatDoorYLE2
import Derived.Test.YtdlioncecgnloaaGreatDoorYPM8
set_option linter.all false
set_option maxRecDepth 100000
set_option maxHeartbeats 8000000
namespace Go.Proofs.YtdlioncecgnloaaGreatDoor
open Go.RowKit Go.Shelf Dg
def eK (k:ByteArray) (p:List ByteArray):List ByteArray:=(List.range (p.length+1)).map fun i=>fd (ap (p++[⟨#[48]⟩]) i) (ck k (ap (p++[⟨#[48]⟩]) (p.length-i)))
theorem jn (k:ByteArray) (p:List ByteArray):(eK k p).length=p.length+1:=by simp[eK]
theorem ti (k:ByteArray) (p:List ByteArray) {i:Nat} (h:i<(eK k p).length):(eK k p)[i]=fd (ap (p++[⟨#[48]⟩]) i) (ck k (ap (p++[⟨#[48]⟩]) (p.length-i))):=by simp[eK]
def cU:List ByteArray→List ByteArray→List (List ByteArray)
 | [],_=>[]
 | k :: ks,p=>if eI k.data.toList=true∧dt k=true then eK k p :: cU ks (eK k p) else []
def aK (l:List ByteArray):List (List ByteArray):=cU l [⟨#[49]⟩]
def tz (l:List ByteArray) (i:Nat) (W:World) (vs:Array Value):Prop:=∃ v p,vs=#[v]∧(aK l)[i]?=some p∧IsS W v p
attribute [local go_sem] Oper.semAt_some
theorem mG (n:Nat) (hn:3≤n) (g:Nat) (v:Value) (l:List ByteArray) (w:World) (Sb:Nat→Prop) (hbox:w.heap[g]?=some (.cells #[v] 26 (0,0))) (hl:IsS w v l) (hlen:l.length<1000) (hsb:¬ Sb g) :
  pA Fence.wide n Tryz.prog 157 #[] #[.pointer (some ⟨g,0,none⟩)] (tz l) (aK l).length Sb (fun _=>False) (fun W=>ny Sb v_ W∧Gw W) w:=by
 intro y J W hW hJ hOk hY h0
 have hgl:g<w.heap.size:=(zr.1 hbox).1
 have hb0:=(hW.block g hgl).trans hbox
 have hlW:=hl.below hW
 have HY:=zf hY
 have HJ:=zf hJ
 have HOK:=zf hOk
 obtain⟨p,c,rfl,-⟩:=id hlW.form
 have HL:=zf hlW
 have hgW:=(zr.1 hb0).1
 have m1:=ae W (.cells #[.string ⟨#[49]⟩] 22)
 have c0:=aa m1 hgW (cj hb0).1
 have hp0:=iG W ⟨#[49]⟩
 have hl0:=hlW.below m1
 have hj0:=hJ _ _ _ h0 (bg.of_below m1)
 clear hW hY hJ hOk hbox hl hlW hb0 m1 h0 HL
 refine callsIn_of_wp Tryz.func157 rfl trivial ?_ rfl
 simp only[Tryz.ntmps157,BC,zU,As,Nat.reduceAdd,Nat.reduceSub,Bk,Bl,BA,Bu,zN,zT]
 gi_wp2_with fail
 generalize W.alloc (.cells #[.string ⟨#[49]⟩] 22)=W0 at *
 gi_loopw [3,12] (fun s3 s12 wr=>∃ (i:Nat) (ps:List ByteArray),s12=.int .i64 i∧i≤l.length∧i≤(aK l).length∧IsS wr s3 ps∧ps.length=i+1∧IsS wr (.slice p l.length c) l∧J i wr∧Hid (cU (l.drop i) ps=(aK l).drop i)) (fun _ s12 _=>l.length-(intOf s12).toNat)
 case atStart=>exact⟨0,_,rfl,by omega,by omega,hp0,rfl,hl0,hj0,rfl⟩
 case round =>
  clear hp0 hl0 hj0 c0
  obtain⟨i,ps,rfl,hil,hib,hp,hpl,hl,hJi,hbd⟩:=hrel
  by_cases hi:i<l.length
  ·obtain⟨b,o,rfl,hlt,hc⟩:=hl.get hi
   obtain⟨pp,cp,rfl,-⟩:=id hp.form
   have HBD:=zf (show (if eI l[i].data.toList=true∧dt l[i]=true then eK l[i] ps :: cU (l.drop (i+1)) (eK l[i] ps) else [])=(aK l).drop i by rw[←hbd.out,Al hi];rfl)
   generalize l[i]=k at hc HBD
   have hG:=(HOK.out _ _ hJi).2
   have HIR:=zf (ri k wr hG)
   have HP:=zf hp
   have HL:=zf hl
   have HJi:=zf hJi
   rw[hpl] at HP ⊢
   clear hbd hp hl hJi hG
   gi_wp2_with fail
   refine⟨trivial,fun _=>by omega,(callsIn_wide.2 HIR.out).mono ?_⟩
   rintro e w2 ⟨br,rfl,hbr,hb2⟩
   have HJi:=zf (HJ.out _ _ _ HJi.out (bg.of_below hb2))
   have HP:=zf (HP.out.below hb2)
   have HL:=zf (HL.out.below hb2)
   clear HIR hc hb2
   cases br with
   | false =>
    have hlen:(aK l).length=i:=by
     have h:=HBD.out
     rw[if_neg (fun h=>by rw[hbr.out] at h;cases h.1)] at h
     have:=congrArg List.length h
     simp at this;omega
    gi_wp2
    refine⟨trivial,?_⟩
    gi_wp2
    refine bodyPost_ret (v:=.tuple #[]) (by simp[results,Tryz.results157,go_sem]) rfl ⟨⟨_,rfl⟩,by rw[hlen];exact HJi.out⟩
   | true =>
    have HIN:=zf (rh k w2 (HOK.out _ _ HJi.out).2)
    obtain⟨bi,hbi⟩:∃ b,b=dt k:=⟨_,rfl⟩
    rw[←hbi] at HIN
    gi_wp2_with fail
    refine⟨trivial,fun _=>by omega,(callsIn_wide.2 HIN.out).mono ?_⟩
    rintro e w3 ⟨rfl,hb3⟩
    have HJi:=zf (HJ.out _ _ _ HJi.out (bg.of_below hb3))
    have HP:=zf (HP.out.below hb3)
    have HL:=zf (HL.out.below hb3)
    clear HIN hb3
    cases bi with
    | false =>
     have hlen:(aK l).length=i:=by
      have h:=HBD.out
      rw[if_neg (fun h=>by rw[←hbi] at h;cases h.2)] at h
      have:=congrArg List.length h
      simp at this;omega
     gi_wp2
     refine bodyPost_ret (v:=.tuple #[]) (by simp[results,Tryz.results157,go_sem]) rfl ⟨⟨_,rfl⟩,by rw[hlen];exact HJi.out⟩
    | true =>
     have HBD:=zf (show eK k ps :: cU (l.drop (i+1)) (eK k ps)=(aK l).drop i by
      have h:=HBD.out
      rwa [if_pos ⟨hbr.out,hbi.symm⟩] at h)
     clear hbr hbi
     gi_upto_region 5 with fail
     rw[wpIn_wide]
     go_wp2_with fail
     refine (pH _ ps w3 HP.out (by omega) (by omega)).mono ?_
     rintro e w4 ⟨v4,rfl,hv4,hb4⟩
     have hm5:=ae w4 (.cells #[.string ⟨#[48]⟩] 22)
     have hv5:=hv4.below hm5
     have hx5:=iG w4 ⟨#[48]⟩
     have hB5:=hb4.trans (hm5.mono hb4.size)
     have hpb:ps.length+[(⟨#[48]⟩:ByteArray)].length<1000000000:=by rw[hpl];simp;omega
     have hlt3:w3.heap.size≤(w4.alloc (.cells #[.string ⟨#[48]⟩] 22)).heap.size:=hB5.size
     clear hb4 hm5 hv4
     go_wp2_with (at_builtin;refine b8 26 Tryz.underlying26 rfl (.tmp 25) (.tmp 26) rfl w3.heap.size _ ps [⟨#[48]⟩] w4.heap.size 0 1 rfl hv5 rfl hx5 hpb hlt3 ?_)
     intro v6 w6 hw6 hb6
     have hB6:=hb6 _ _ hB5 (zn _)
     obtain⟨p6,c6,rfl,-⟩:=id hw6.isS.form
     obtain⟨q,hq⟩:∃ q,q=ps++[(⟨#[48]⟩:ByteArray)]:=⟨_,rfl⟩
     have hql:q.length=i+2:=by rw[hq];simp[hpl]
     have hqs:=hw6.isS
     rw[←hq,hql] at hqs
     rw[show (ps++[(⟨#[48]⟩:ByteArray)]).length=i+2 by rw[←hq];exact hql]
     have HQ:=zf hqs
     have HQE:=zf hq
     have HJi:=zf (HJ.out _ _ _ HJi.out (bg.of_below hB6))
     have HL:=zf (HL.out.below hB6)
     clear hw6 hb6 hv5 hx5 hB5 hpb hlt3 hB6 hq hqs HP
     go_wp2
     gi_upto_region 6 with fail
     rw[wpIn_wide]
     have hi2:((i+2:Nat):Int)=(i:Int)+2:=rfl
     go_wp2_with (at_make;refine bv 26 Tryz.underlying26 rfl (.tmp 29) (.tmp 29) rfl _ _ (i+2) rfl rfl (by go_num) (by go_num) (by omega) ?_)
     intro w7 hr7 hb7 hs7
     have hB7:=hb7 _ _ (Below.refl _ _) (zn _)
     obtain⟨L,hL⟩:∃ L,L=eK k ps:=⟨_,rfl⟩
     have hLl:L.length=i+2:=by rw[hL,jn,hpl]
     have hr0:bJ w7 w6.heap.size (i+2) (aT L 0):=by rw[eD,hLl];exact hr7
     obtain⟨g7,hg7⟩:∃ g,g=w6.heap.size:=⟨_,rfl⟩
     rw[←hg7] at hr0 hB7 ⊢
     have HB67:=zf hB7
     have HGE:=zf hg7
     have HG6:=zf (HOK.out _ _ HJi.out).2
     have HLE:=zf hL
     obtain⟨bq,oq,rfl,hlq,hcq⟩:=HQ.out.all (by omega)
     rw[hql] at hcq
     have HCQ:=zf (fun j (h:j<i+2)=>aa hB7 (by rw[hg7];exact hlq) (hcq j h))
     have hlq7:bq<g7:=by rw[hg7];exact hlq
     have hB77:Below g7 w7 w7:=Below.refl _ _
     have hnb:i+2<1000000:=by omega
     clear hb7 hs7 hr7 hL hg7 hB7 hcq hlq HQ hi2
     go_wp2
     gi_wp2
     gi_loopw [33] (fun s33 w8=>∃ j:Nat,s33=.int .i64 j∧j≤i+2∧bJ w8 g7 (i+2) (aT L j)∧Below g7 w7 w8) (fun s33 _=>i+2-(intOf s33).toNat)
     case atStart=>exact⟨0,rfl,zD _,hr0,hB77⟩
     case round =>
      clear hr0 hB77
      obtain⟨j,rfl,hji,hr8,hb8⟩:=hrel
      by_cases hj:j<i+2
      ·have hjI:(j:Int)<(i:Int)+2:=by omega
       have e1:(i:Int)+2-1-(j:Int)=((i+1-j:Nat):Int):=by omega
       have e2:(i:Int)+1-(j:Int)=((i+1-j:Nat):Int):=by omega
       gi_upto_region 10 with fail
       rw[wpIn_wide]
       have hx:=HCQ.out j hj
       have hy:=HCQ.out (i+1-j) (by omega)
       have m4:Below wr.heap.size wr wr.drew:=(Below.refl _ _).drew
       have hgr:=hr8.lt
       have HBd:=zf (hb8.trans (m4.mono (by omega)))
       have HR9:=zf (hr8.below m4)
       refine ak (fun w'=>∃ x:aA g7 wr.drew,w'=x.w) (fun i=>i == 15||i == 16||i == 18) (by kernel_rfl) (by kernel_rfl) ⟨⟨_,Below.refl _ _⟩,rfl⟩ ?_
       have hz:g7≤wr.drew.heap.size:=by have:=m4.size;omega
       generalize wr.drew=wd at *
       have c0:=fun x:aA g7 wd=>aa (HBd.out.trans x.h) hlq7 hx
       have c1:=fun x:aA g7 wd=>aa (HBd.out.trans x.h) hlq7 hy
       have HG9:=zf (HG6.out.below (by have h:=HB67.out.trans HBd.out;rw[HGE.out] at h;exact h))
       clear hx hy m4 hr8 hb8 hgr
       refine af 15 0 _ _ _ (by kernel_rfl) ?_
       simp only[zo,zu,zp,zt]
       repeat (go_big_quiet_step (fail))
       refine wpQuiet_nil ?_
       clear c0 c1 e1 e2
       refine ag rfl rfl (fun K hK=>?_)
       go_simp
       refine (dN k _ wd HG9.out).mono ?_
       rintro e wa ⟨rfl,hba⟩
       refine hK _ _ ⟨⟨_,(hba).mono hz⟩,rfl⟩ ?_
       clear hK K
       try simp only[Act.put,zj,zi,zh,zg,zl,zm]
       refine ag rfl rfl (fun K hK=>?_)
       go_simp
       refine (iH _ _ wa (HG9.out.below hba)).mono ?_
       rintro e wb ⟨rfl,hbb⟩
       have hBb:=hba.trans (hbb.mono hba.size)
       refine hK _ _ ⟨⟨_,(hBb).mono hz⟩,rfl⟩ ?_
       clear hK K
       try simp only[Act.put,zj,zi,zh,zg,zl,zm]
       refine af 1 17 _ _ _ (by kernel_rfl) ?_
       simp only[zo,zu,zp,zt]
       repeat (go_big_quiet_step (fail))
       refine wpQuiet_nil ?_
       have hfl:j<(aT L j).length:=by rw[fh L (by omega)];omega
       have rc:=HR9.out.below hBb
       have rd:=rc.cell hfl
       have re:=rc.free j
       have hset:bJ (wb.setCell ⟨g7,j,none⟩ (.string (fd (ap q j) (ck k (ap q (i+1-j)))))) g7 (i+2) (aT L (j+1)):=by
        have h1:=rc.set j (fd (ap q j) (ck k (ap q (i+1-j))))
        have h2:=fi L (i:=j) (by omega)
        have h3:L[j]'(by omega)=fd (ap q j) (ck k (ap q (i+1-j))):=by
         have hE:=HLE.out
         subst hE
         rw[ti,HQE.out,hpl]
        rw[h3] at h2
        rw[←h2];exact h1
       have hP:Below g7 wd (wb.setCell ⟨g7,j,none⟩ (.string (fd (ap q j) (ck k (ap q (i+1-j)))))):=(hBb.mono hz).setCell (p:=⟨g7,j,none⟩) (zn _) _
       refine ag rfl rfl (fun K hK=>?_)
       go_simp
       refine hK undef _ ⟨⟨_,hP⟩,rfl⟩ ?_
       clear hK K
       try simp only[Act.put,zj,zi,zh,zg,zl,zm]
       refine aw ?_
       have hBn:=HBd.out.trans hP
       clear rc rd re hP hbb hba hBb HR9 HG9 HBd hz
       generalize wb.setCell ⟨g7,j,none⟩ (.string (fd (ap q j) (ck k (ap q (i+1-j)))))=we at *
       go_wp2
       gi_wp2
       go_roundw
       case rel=>exact⟨j+1,by go_num,by omega,hset,hBn⟩
       case measure=>(first | (simp[intOf];done) | (simp[intOf];omega))
      ·obtain rfl:j=i+2:=by omega
       have hfull:aT L (i+2)=L:=by rw[←hLl];exact eC L
       rw[hfull] at hr8
       have hB6:=HB67.out.trans hb8
       have hB6':Below w6.heap.size w6 wr:=by have h:=hB6;rw[HGE.out] at h;exact h
       have HJr:=zf (HJ.out _ _ _ HJi.out (bg.of_below hB6'))
       have HLr:=zf (HL.out.below hB6')
       have hil:i<(aK l).length:=by
        have:=congrArg List.length HBD.out
        simp at this;omega
       have hget:(aK l)[i]?=some L:=by
        have h:=A9 (xs:=aK l) (i:=i) (j:=0)
        rw[←HBD.out] at h
        rw[HLE.out]
        simpa using h.symm
       have HD2:=zf (show cU (l.drop (i+1)) L=(aK l).drop (i+1) by
        have h:=congrArg (List.drop 1) HBD.out
        rw[List.drop_drop] at h
        rw[HLE.out]
        exact h)
       have hLS:=hr8.isS
       obtain⟨fn,tmps,assign,body,hy,hR⟩:=HY.out i hil wr #[.slice (some ⟨g7,0,none⟩) L.length (i+2)] HJr.out ⟨_,L,rfl,hget,hLS⟩
       have hsafe:=(HOK.out _ _ HJr.out).1
       rw[hLl] at hy hLS
       have HLS:=zf hLS
       clear hb8 hr8 hfull hB6 hB6' hget hLS hj hji hib
       gi_wp2
       refine⟨fun _=>by omega,hR.mono ?_⟩
       rintro e W' ⟨rfl,hJ',hT⟩
       have hkeep:=f8.of_turns hT hsafe
       have hls:=HLS.out.keep hkeep
       have hll:=HLr.out.keep hkeep
       clear hR hy hT hsafe hkeep HLS HLr HJr
       gi_wp2
       go_roundw
       case rel=>exact⟨i+1,L,by go_num,by omega,by omega,hls,hLl,hll,hJ',HD2.out⟩
       case measure=>(first | (simp[intOf];done) | (simp[intOf];omega))
  ·obtain rfl:i=l.length:=by omega
   have hlen:(aK l).length=l.length:=by
    have h:=hbd.out
    rw[List.drop_length] at h
    have:=congrArg List.length h
    simp[cU] at this
    omega
   clear hbd hp hl hpl hib hil
   gi_wp2
   go_end0
   exact⟨⟨_,rfl⟩,by rw[hlen];exact hJi⟩
def ja (ls:List (List ByteArray)):Nat→List ByteArray
 | 0=>[⟨#[49]⟩]
 | i+1=>ls.getD i []
def gl (l:List ByteArray):List ByteArray:=ja (aK l) (aK l).length
def bU (a b l:List ByteArray):Bool×Int:=if au a b=true then if l.length+1=b.length then (decide (gl l=b),0) else (false,0) else (false,30)
theorem js:∀ (l p q:List ByteArray),q∈cU l p→q.length≤p.length+l.length
 | [],_,_,h=>by simp[cU] at h
 | k :: ks,p,q,h=>by
  unfold cU at h
  split at h
  ·rcases Ac.1 h with rfl | h
   ·rw[jn];simp
   ·have:=js ks (eK k p) q h
    rw[jn] at this
    simp;omega
  ·cases h
theorem sI (l:List ByteArray):(gl l).length≤l.length+1:=by
 unfold gl
 cases h:(aK l).length with
 | zero=>simp[ja]
 | succ i =>
  show ((aK l).getD i []).length≤_
  have hi:i<(aK l).length:=by omega
  rw[zC,zE hi]
  have:=js l [⟨#[49]⟩] _ (zG hi)
  simp at this ⊢
  omega
structure xZ (w:World) (g b7:Nat) (x y:Value) (l:List ByteArray) (i:Nat) (W:World):Prop where
 box:∃ v,W.heap[b7]?=some (.cells #[v] 26 (0,0))∧IsS W v (ja (aK l) i)
 fil:W.heap[g]?=some (.cells #[x,y] 28 (0,0))
 bel:Below w.heap.size w W
theorem qL {w:World}{g:Nat}{v:Value}{T:TypeId} (h:w.heap[g]?=some (.cells #[v] T (0,0))) (hv:∀ s,v≠.string s):ny (fun k=>k=g) v_ w:=by
 rintro k rfl j u hc
 rw[World.cell?,h] at hc
 simp only[Ab,zI,if_false] at hc
 have hj:j=0:=by
  have:=(zr.1 hc).1
  simpa using this
 subst hj
 simp at hc
 subst hc
 rintro⟨s,e⟩
 exact hv s e
theorem wF (v:Value) (l:List ByteArray) (w:World) (hl:IsS w v l) :
  Calls Tryz.prog 85 #[v] w fun e w'=>e=.returned (.func (.func 157) #[] #[.pointer (some ⟨w.heap.size,0,none⟩)])∧w'.heap[w.heap.size]?=some (.cells #[v] 26 (0,0))∧w.heap.size<w'.heap.size∧IsS w' v l∧Below w.heap.size w w':=by
 obtain⟨p,c,rfl,-⟩:=id hl.form
 have c0:=heap_alloc_new w (.cells #[.slice p l.length c] 26 (0,0))
 have m1:=ae w (.cells #[.slice p l.length c] 26)
 have z1:=size_alloc w (.cells #[.slice p l.length c] 26)
 have HL:=zf (hl.below m1)
 have H0:=zf (And.intro c0 (And.intro (show w.heap.size<(w.alloc (.cells #[.slice p l.length c] 26)).heap.size by omega) m1))
 clear c0 m1 z1 hl
 go_enter Tryz.func85,Tryz.ntmps85
 go_wp2
 go_ret
 exact⟨rfl,H0.out.1,H0.out.2.1,HL.out,H0.out.2.2⟩
attribute [local go_sem] Oper.semAt_some
theorem jU (v vl:Value) (a b l:List ByteArray) (w:World) (hF:IsF w v a b) (hl:IsS w vl l) (hG:Gx w) :
  Calls Tryz.prog 25 #[v,vl] w fun e w'=>e=.returned (.tuple #[.bool (bU a b l).1,.int .i64 (bU a b l).2])∧Below w.heap.size w w':=by
 obtain⟨p,c,q,d,rfl,hfa,hfb⟩:=id hF.ex
 obtain⟨pl,cl,rfl,-⟩:=id hl.form
 have HG0:=zf hG
 have HB0:=zf hfb
 refine (callsIn_wide (n:=9)).1 ?_
 refine callsIn_of_wp_marks Tryz.func25 rfl trivial ?_ rfl
 simp only[Tryz.ntmps25,BC,zU,As,Nat.reduceAdd,Nat.reduceSub,Bk,Bl,BA,Bu,zN,zT]
 gi_upto_region 1 with fail
 have cc:=ar w (.slice p a.length c) (.slice q b.length d)
 have m1:=ae w (.cells #[.slice p a.length c,.slice q b.length d] 28)
 have zz:=size_alloc w (.cells #[.slice p a.length c,.slice q b.length d] 28)
 have rr:=heap_alloc_new w (.cells #[.slice p a.length c,.slice q b.length d] 28 (0,0))
 generalize w.alloc (.cells #[.slice p a.length c,.slice q b.length d] 28)=w1 at *
 obtain⟨g,hg⟩:∃ g,g=w.heap.size:=⟨_,rfl⟩
 rw[←hg] at cc rr ⊢
 have HCK:=zf (dD _ a b w1 (hF.below m1) (hG.below m1))
 have HB:=zf (hfb.below m1)
 have HL:=zf (hl.below m1)
 have c0:=cc.1
 have c1:=cc.2
 have hlt:g<w1.heap.size:=by omega
 have M1:=zf m1
 have HGE:=zf hg
 clear hfa hfb cc zz m1 hF hG hl hg
 by_cases hck:au a b=true
 ·have HT:=zf (show bU a b l=if l.length+1=b.length then (decide (gl l=b),0) else (false,0) by unfold bU;rw[if_pos hck])
  have hce:av a b=0:=by unfold av;rw[if_pos hck]
  rw[hce] at HCK
  obtain⟨ob1,ob7,-⟩:=aG hck
  clear hce hck
  gi_wp2_with fail
  refine⟨trivial,(callsIn_wide.2 HCK.out).mono ?_⟩
  rintro e w2 ⟨rfl,hb2⟩
  have d0:=aa hb2 hlt c0
  have d1:=aa hb2 hlt c1
  have rr2:=(hb2.block g hlt).trans rr
  have HB2:=zf (HB.out.below hb2)
  have HL2:=zf (HL.out.below hb2)
  have M2:=zf (M1.out.trans (hb2.mono M1.out.size))
  have hlt2:g<w2.heap.size:=zq hlt hb2.size
  clear c0 c1 rr HB HL HCK M1 hb2 hlt
  by_cases hlen:l.length+1=b.length
  ·have hbI:((b.length:Nat):Int)-1=(l.length:Int):=by omega
   have HT:=zf (show bU a b l=(decide (gl l=b),0) by rw[HT.out,if_pos hlen])
   have HLN:=zf hlen
   clear hlen
   gi_wp2_with fail
   have m3:=ae w2 (.cells #[.string ⟨#[49]⟩] 22)
   have z3:=size_alloc w2 (.cells #[.string ⟨#[49]⟩] 22)
   have h3:=iG w2 ⟨#[49]⟩
   generalize w2.alloc (.cells #[.string ⟨#[49]⟩] 22)=w3 at *
   have m4:=ae w3 (.cells #[.slice (some ⟨w2.heap.size,0,none⟩) 1 1] 26)
   have r4:=heap_alloc_new w3 (.cells #[.slice (some ⟨w2.heap.size,0,none⟩) 1 1] 26 (0,0))
   generalize w3.alloc (.cells #[.slice (some ⟨w2.heap.size,0,none⟩) 1 1] 26)=w4 at *
   have hB4:=m3.trans (m4.mono m3.size)
   have h4:=h3.below m4
   rw[z3] at r4
   have hl4:=HL2.out.below hB4
   have rr4:=(hB4.block g hlt2).trans rr2
   obtain⟨b7,hb7⟩:∃ b,b=w2.heap.size+1:=⟨_,rfl⟩
   rw[←hb7] at r4 ⊢
   have hM4:=M2.out.trans (hB4.mono M2.out.size)
   have hbw:w.heap.size≤b7:=by have:=M2.out.size;omega
   have hgb:g≠b7:=by omega
   clear d0 d1 rr2 HL2 m3 z3 h3 m4 hB4 M2 hlt2 hb7
   refine⟨trivial,(callsIn_wide.2 (wF _ l w4 hl4)).mono ?_⟩
   rintro e w5 ⟨rfl,rb5,hlt5,hl5,hb5⟩
   obtain⟨gb,hgb5⟩:∃ g,g=w4.heap.size:=⟨_,rfl⟩
   have h5:=h4.below hb5
   have r5:=(hb5.block b7 (zr.1 r4).1).trans r4
   have rr5:=(hb5.block g (zr.1 rr4).1).trans rr4
   have hM5:=hM4.trans (hb5.mono hM4.size)
   have hne5:gb≠b7:=by have:=(zr.1 r4).1;omega
   have hlt7:b7<w5.heap.size:=(zr.1 r5).1
   rw[←hgb5] at rb5 hlt5 ⊢
   have hll:l.length<1000:=by have:=HLN.out;omega
   clear h4 r4 rr4 hl4 hb5 hgb5 hM4
   gi_wp2
   refine jK (gf:=157) (bnd:=#[]) (lb:=#[.pointer (some ⟨gb,0,none⟩)]) (E:=tz l) (len:=(aK l).length) (Sb:=fun k=>k=b7) (Si:=fun _=>False) (Ok:=fun W=>ny (fun k=>k=b7) v_ W∧Gw W) rfl (by omega) rfl trivial ?eg ?hSb ?hSi (mG 8 (by omega) gb _ l w5 _ rb5 hl5 hll hne5) ?hps
    (xZ w g b7 (.slice p a.length c) (.slice q b.length d) l) ?hI ?hOk ?h0
    (fun i a1 W=>∃ v ps,a1={ tmps:=#[.agg #[.slice p a.length c,.slice q b.length d],.slice pl l.length cl,.pointer (some ⟨g,0,none⟩),undef,.bool false,.int .i64 0,.int .i64 0,.pointer (some ⟨b7,0,none⟩),v,.agg #[.slice p a.length c,.slice q b.length d],.int .i64 0,.int .i64 0,.bool false,undef,.slice pl l.length cl,.int .i64 l.length,.pointer (some ⟨g,1,none⟩),.slice q b.length d,.int .i64 b.length,.int .i64 l.length,.bool false,.slice (some ⟨w2.heap.size,0,none⟩) 1 1,.slice pl l.length cl,.func (.func 157) #[] #[.pointer (some ⟨gb,0,none⟩)],v,undef,undef,undef,undef,undef],defers:=[] }∧(aK l)[i]?=some ps∧IsS W v ps∧xZ w g b7 (.slice p a.length c) (.slice q b.length d) l i W) ?hI1 ?hassign ?hbody ?hdone
   case eg=>exact aV Tryz.func157 rfl (by kernel_rfl)
   case hSb=>rintro k rfl;exact hlt7
   case hSi=>rintro k hk;exact hk.elim
   case hps=>rintro i W vs ⟨v,ps,rfl,-,-⟩;rfl
   case hI =>
    rintro i W W' ⟨⟨v,h1,h2⟩,h3,h4⟩ hB
    exact⟨⟨v,hB.cells h1 id,h2.keep (f8.of_bes hB (fun k hk=>hk.elim))⟩,hB.cells h3 id,hB.below h4 hM5.size h4.size (fun k e=>e.elim)⟩
   case hOk =>
    rintro i W ⟨⟨v,h1,h2⟩,h3,h4⟩
    obtain⟨pv,cv,rfl,-⟩:=id h2.form
    exact⟨qL h1 (by intro s e;cases e),(HG0.out.below h4).g⟩
   case h0=>exact⟨⟨_,r5,h5⟩,rr5,hM5⟩
   case hI1 =>
    rintro i a1 W W' ⟨v,ps,e,hv,hs,⟨v',h1,h2⟩,h3,h4⟩ hB
    exact⟨v,ps,e,hv,hs.keep (f8.of_bes hB (fun k hk=>hk.elim)),⟨v',hB.cells h1 id,h2.keep (f8.of_bes hB (fun k hk=>hk.elim))⟩,hB.cells h3 id,hB.below h4 hM5.size h4.size (fun k e=>e.elim)⟩
   case hassign =>
    rintro y i hi W vs hI ⟨v,ps,rfl,hv,hs⟩
    rw[pw]
    simp only[zg,zl,zm]
    gi_wp2
    exact⟨bg.refl _ _,v,ps,rfl,hv,hs,hI⟩
   case hbody =>
    rintro y i hi a1 W ⟨v,ps,rfl,hv,hs,⟨v',h1,h2⟩,h3,h4⟩
    obtain⟨pv,cv,rfl,-⟩:=id hs.form
    obtain⟨pv',cv',rfl,-⟩:=id h2.form
    obtain⟨k7,f7⟩:=cj h1
    have hT:=bg.set (S:=fun k=>k=b7) (w:=W) rfl 0 (.slice pv ps.length cv)
    have hS:=(hs.keep (f8.of_turns hT (qL h1 (by intro s e;cases e))))
    have hL:ja (aK l) (i+1)=ps:=by
     show (aK l).getD i []=ps
     rw[zC,hv];rfl
    have HRes:=zf (show bg (fun k=>k=b7) W (W.setCell ⟨b7,0,none⟩ (.slice pv ps.length cv))∧xZ w g b7 (.slice p a.length c) (.slice q b.length d) l (i+1) (W.setCell ⟨b7,0,none⟩ (.slice pv ps.length cv)) from
     ⟨hT,⟨_,heap_setCell_same W b7 0 _ _ _ h1,by rw[hL];exact hS⟩,(Below.heap_setCell W ⟨b7,0,none⟩ _ g hgb).trans h3,h4.setCell (p:=⟨b7,0,none⟩) hbw _⟩)
    clear h1 h2 h3 h4 hT hS hs hv hL r5 h5 rr5
    gi_wp2
    exact HRes.out
   case hdone =>
    rintro D W hD ⟨⟨v,h1,h2⟩,h3,h4⟩ hK
    have hLB:=sI l
    have hz:=hM5.size
    obtain⟨lb,hlb⟩:∃ x,x=gl l:=⟨_,rfl⟩
    rw[show ja (aK l) (aK l).length=lb from hlb.symm] at h2
    have HTL:=zf (show bU a b l=(decide (lb=b),0) by rw[HT.out,←hlb])
    rw[←hlb] at hLB
    obtain⟨pv,cv,rfl,-⟩:=id h2.form
    have k7:=(cj h1).1
    have c0:=ai h3 0
    have c1:=ai h3 1
    have HEQ:=zf (yo _ _ lb b W h2 (HB0.out.below h4) (by omega) (by omega))
    obtain⟨bq,hbq⟩:∃ x,x=decide (lb=b):=⟨_,rfl⟩
    rw[←hbq] at HEQ HTL
    have HM:=zf h4
    have HK:=zf hK
    have HD:=zf (show w.heap.size≤D by omega)
    simp only[BF,Bz,A7] at c0 c1
    clear h1 h2 h3 h4 hK hlb hbq rb5 hl5 h5 r5 rr5 hM5 hLB hz
    gi_wp2_with fail
    refine⟨trivial,(callsIn_wide.2 HEQ.out).mono ?_⟩
    rintro e W2 ⟨rfl,hb2⟩
    have HK2:=zf ((hb2.block D (zr.1 HK.out).1).trans HK.out)
    have HM2:=zf (HM.out.trans (hb2.mono HM.out.size))
    clear hb2 HEQ k7 c0 c1
    gi_wp2
    refine⟨by simp,.inl ⟨_,_,rfl,run_takeDeferred HK2.out,?_⟩⟩
    refine⟨.tuple #[.bool bq,.int .i64 0],by simp[results,Tryz.results25,go_sem],by rw[HTL.out],HM2.out.trans ⟨rfl,rfl,rfl,by simp,fun k hk=>World.putObj_heap_other (by have:=HD.out;omega)⟩⟩
  ·have hne:((l.length:Int) != (b.length:Int)-1)=true:=by simp;omega
   have HE:=zf (show bU a b l=(false,0) by rw[HT.out,if_neg hlen])
   clear hlen
   gi_wp2
   refine⟨.tuple #[.bool false,.int .i64 0],by simp[results,Tryz.results25,go_sem],by rw[HE.out],M2.out⟩
 ·have HE:=zf (show bU a b l=(false,30) by unfold bU;rw[if_neg hck])
  have hce:av a b=30:=by unfold av;rw[if_neg hck]
  rw[hce] at HCK
  clear hce
  gi_wp2_with fail
  refine⟨trivial,(callsIn_wide.2 HCK.out).mono ?_⟩
  rintro e w2 ⟨rfl,hb2⟩
  gi_wp2
  refine⟨.tuple #[.bool false,.int .i64 30],by simp[results,Tryz.results25,go_sem],by rw[HE.out],M1.out.trans (hb2.mono M1.out.size)⟩
end Go.Proofs.YtdlioncecgnloaaGreatDoor
