/- Lemmas of this claim. -/
import Derived.Sort.CutIn
import Derived.Test.YtdlioncecgnloaaGreatDoorXNT2
import Derived.Test.YtdlioncecgnloaaGreatDoorXPS12
import Derived.Test.YtdlioncecgnloaaGreatDoorXPM8
import Derived.Test.YtdlioncecgnloaaGreatDoorXLC3
import Derived.Test.YtdlioncecgnloaaGreatDoorXLE5
set_option linter.all false
set_option maxRecDepth 100000
set_option maxHeartbeats 8000000
namespace Go.Proofs.YtdlioncecgnloaaGreatDoor
open Go.RowKit Go.Shelf Dg
def gw (k:ByteArray) (p:List ByteArray):List ByteArray:=(List.range (p.length+1)).map fun i=>dV (aq (p++[⟨#[48]⟩]) i) (bu k (aq (p++[⟨#[48]⟩]) (p.length-i)))
theorem kE (k:ByteArray) (p:List ByteArray):(gw k p).length=p.length+1:=by simp[gw]
theorem wH (k:ByteArray) (p:List ByteArray) {i:Nat} (h:i<(gw k p).length):(gw k p)[i]=dV (aq (p++[⟨#[48]⟩]) i) (bu k (aq (p++[⟨#[48]⟩]) (p.length-i))):=by simp[gw]
def ed:List ByteArray→List ByteArray→List (List ByteArray)
 | [],_=>[]
 | k :: ks,p=>if gq k.data.toList=true∧dO k=true then gw k p :: ed ks (gw k p) else []
def a6 (l:List ByteArray):List (List ByteArray):=ed l [⟨#[49]⟩]
def wT (l:List ByteArray) (i:Nat) (W:World) (vs:Array Value):Prop:=∃ v p,vs=#[v]∧(a6 l)[i]?=some p∧IsS W v p
attribute [local go_sem] Oper.semAt_some
theorem oK (n:Nat) (hn:3≤n) (g:Nat) (v:Value) (l:List ByteArray) (w:World) (Sb:Nat→Prop) (hbox:w.heap[g]?=some (.cells #[v] 26 (0,0))) (hl:IsS w v l) (hlen:l.length<1000) (hsb:¬ Sb g) :
  r9 Fence.wide n Tryz.prog 157 #[] #[.pointer (some ⟨g,0,none⟩)] (wT l) (a6 l).length Sb (fun _=>False) (fun W=>pX Sb zH W∧Gw W) w:=by
 intro y J W hW hJ hOk hY h0
 have hgl:g<w.heap.size:=(Cj.1 hbox).1
 have hb0:=(hW.block g hgl).trans hbox
 have hlW:=hl.below hW
 have HY:=BZ hY
 have HJ:=BZ hJ
 have HOK:=BZ hOk
 obtain⟨p,c,rfl,-⟩:=id hlW.form
 have HL:=BZ hlW
 have hgW:=(Cj.1 hb0).1
 have m1:=ae W (.cells #[.string ⟨#[49]⟩] 22)
 have c0:=aa m1 hgW (cQ hb0).1
 have hp0:=jU W ⟨#[49]⟩
 have hl0:=hlW.below m1
 have hj0:=hJ _ _ _ h0 (bM.of_below m1)
 clear hW hY hJ hOk hbox hl hlW hb0 m1 h0 HL
 refine callsIn_of_wp Tryz.func157 rfl trivial ?_ rfl
 simp only[Tryz.ntmps157,En,CK,C_,Nat.reduceAdd,Nat.reduceSub,D8,D9,Em,Ee,CH,CN]
 gi_wp2_with fail
 generalize W.alloc (.cells #[.string ⟨#[49]⟩] 22)=W0 at *
 gi_loopw [3,12] (fun s3 s12 wr=>∃ (i:Nat) (ps:List ByteArray),s12=.int .i64 i∧i≤l.length∧i≤(a6 l).length∧IsS wr s3 ps∧ps.length=i+1∧IsS wr (.slice p l.length c) l∧J i wr∧Hid (ed (l.drop i) ps=(a6 l).drop i)) (fun _ s12 _=>l.length-(intOf s12).toNat)
 case atStart=>exact⟨0,_,rfl,by omega,by omega,hp0,rfl,hl0,hj0,rfl⟩
 case round =>
  clear hp0 hl0 hj0 c0
  obtain⟨i,ps,rfl,hil,hib,hp,hpl,hl,hJi,hbd⟩:=hrel
  by_cases hi:i<l.length
  ·obtain⟨b,o,rfl,hlt,hc⟩:=hl.get hi
   obtain⟨pp,cp,rfl,-⟩:=id hp.form
   have HBD:=BZ (show (if gq l[i].data.toList=true∧dO l[i]=true then gw l[i] ps :: ed (l.drop (i+1)) (gw l[i] ps) else [])=(a6 l).drop i by rw[←hbd.out,Db hi];rfl)
   generalize l[i]=k at hc HBD
   have hG:=(HOK.out _ _ hJi).2
   have HIR:=BZ (ue k wr hG)
   have HP:=BZ hp
   have HL:=BZ hl
   have HJi:=BZ hJi
   rw[hpl] at HP ⊢
   clear hbd hp hl hJi hG
   gi_wp2_with fail
   refine⟨trivial,fun _=>by omega,(callsIn_wide.2 HIR.out).mono ?_⟩
   rintro e w2 ⟨br,rfl,hbr,hb2⟩
   have HJi:=BZ (HJ.out _ _ _ HJi.out (bM.of_below hb2))
   have HP:=BZ (HP.out.below hb2)
   have HL:=BZ (HL.out.below hb2)
   clear HIR hc hb2
   cases br with
   | false =>
    have hlen:(a6 l).length=i:=by
     have h:=HBD.out
     rw[if_neg (fun h=>by rw[hbr.out] at h;cases h.1)] at h
     have:=congrArg List.length h
     simp at this;omega
    gi_wp2
    refine⟨trivial,?_⟩
    gi_wp2
    refine bodyPost_ret (v:=.tuple #[]) (by simp[results,Tryz.results157,go_sem]) rfl ⟨⟨_,rfl⟩,by rw[hlen];exact HJi.out⟩
   | true =>
    have HIN:=BZ (ub k w2 (HOK.out _ _ HJi.out).2)
    obtain⟨bi,hbi⟩:∃ b,b=dO k:=⟨_,rfl⟩
    rw[←hbi] at HIN
    gi_wp2_with fail
    refine⟨trivial,fun _=>by omega,(callsIn_wide.2 HIN.out).mono ?_⟩
    rintro e w3 ⟨rfl,hb3⟩
    have HJi:=BZ (HJ.out _ _ _ HJi.out (bM.of_below hb3))
    have HP:=BZ (HP.out.below hb3)
    have HL:=BZ (HL.out.below hb3)
    clear HIN hb3
    cases bi with
    | false =>
     have hlen:(a6 l).length=i:=by
      have h:=HBD.out
      rw[if_neg (fun h=>by rw[←hbi] at h;cases h.2)] at h
      have:=congrArg List.length h
      simp at this;omega
     gi_wp2
     refine bodyPost_ret (v:=.tuple #[]) (by simp[results,Tryz.results157,go_sem]) rfl ⟨⟨_,rfl⟩,by rw[hlen];exact HJi.out⟩
    | true =>
     have HBD:=BZ (show gw k ps :: ed (l.drop (i+1)) (gw k ps)=(a6 l).drop i by
      have h:=HBD.out
      rwa [if_pos ⟨hbr.out,hbi.symm⟩] at h)
     clear hbr hbi
     gi_upto_region 5 with fail
     rw[wpIn_wide]
     go_wp2_with fail
     refine (sj _ ps w3 HP.out (by omega) (by omega)).mono ?_
     rintro e w4 ⟨v4,rfl,hv4,hb4⟩
     have hm5:=ae w4 (.cells #[.string ⟨#[48]⟩] 22)
     have hv5:=hv4.below hm5
     have hx5:=jU w4 ⟨#[48]⟩
     have hB5:=hb4.trans (hm5.mono hb4.size)
     have hpb:ps.length+[(⟨#[48]⟩:ByteArray)].length<1000000000:=by rw[hpl];simp;omega
     have hlt3:w3.heap.size≤(w4.alloc (.cells #[.string ⟨#[48]⟩] 22)).heap.size:=hB5.size
     clear hb4 hm5 hv4
     go_wp2_with (at_builtin;refine ec 26 Tryz.underlying26 rfl (.tmp 25) (.tmp 26) rfl w3.heap.size _ ps [⟨#[48]⟩] w4.heap.size 0 1 rfl hv5 rfl hx5 hpb hlt3 ?_)
     intro v6 w6 hw6 hb6
     have hB6:=hb6 _ _ hB5 (Cd _)
     obtain⟨p6,c6,rfl,-⟩:=id hw6.isS.form
     obtain⟨q,hq⟩:∃ q,q=ps++[(⟨#[48]⟩:ByteArray)]:=⟨_,rfl⟩
     have hql:q.length=i+2:=by rw[hq];simp[hpl]
     have hqs:=hw6.isS
     rw[←hq,hql] at hqs
     rw[show (ps++[(⟨#[48]⟩:ByteArray)]).length=i+2 by rw[←hq];exact hql]
     have HQ:=BZ hqs
     have HQE:=BZ hq
     have HJi:=BZ (HJ.out _ _ _ HJi.out (bM.of_below hB6))
     have HL:=BZ (HL.out.below hB6)
     clear hw6 hb6 hv5 hx5 hB5 hpb hlt3 hB6 hq hqs HP
     go_wp2
     gi_upto_region 6 with fail
     rw[wpIn_wide]
     have hi2:((i+2:Nat):Int)=(i:Int)+2:=rfl
     go_wp2_with (at_make;refine bH 26 Tryz.underlying26 rfl (.tmp 29) (.tmp 29) rfl _ _ (i+2) rfl rfl (by go_num) (by go_num) (by omega) ?_)
     intro w7 hr7 hb7 hs7
     have hB7:=hb7 _ _ (Below.refl _ _) (Cd _)
     obtain⟨L,hL⟩:∃ L,L=gw k ps:=⟨_,rfl⟩
     have hLl:L.length=i+2:=by rw[hL,kE,hpl]
     have hr0:bV w7 w6.heap.size (i+2) (bm L 0):=by rw[fk,hLl];exact hr7
     obtain⟨g7,hg7⟩:∃ g,g=w6.heap.size:=⟨_,rfl⟩
     rw[←hg7] at hr0 hB7 ⊢
     have HB67:=BZ hB7
     have HGE:=BZ hg7
     have HG6:=BZ (HOK.out _ _ HJi.out).2
     have HLE:=BZ hL
     obtain⟨bq,oq,rfl,hlq,hcq⟩:=HQ.out.all (by omega)
     rw[hql] at hcq
     have HCQ:=BZ (fun j (h:j<i+2)=>aa hB7 (by rw[hg7];exact hlq) (hcq j h))
     have hlq7:bq<g7:=by rw[hg7];exact hlq
     have hB77:Below g7 w7 w7:=Below.refl _ _
     have hnb:i+2<1000000:=by omega
     clear hb7 hs7 hr7 hL hg7 hB7 hcq hlq HQ hi2
     go_wp2
     gi_wp2
     gi_loopw [33] (fun s33 w8=>∃ j:Nat,s33=.int .i64 j∧j≤i+2∧bV w8 g7 (i+2) (bm L j)∧Below g7 w7 w8) (fun s33 _=>i+2-(intOf s33).toNat)
     case atStart=>exact⟨0,rfl,Cp _,hr0,hB77⟩
     case round =>
      clear hr0 hB77
      obtain⟨j,rfl,hji,hr8,hb8⟩:=hrel
      by_cases hj:j<i+2
      ·have hjI:(j:Int)<(i:Int)+2:=by omega
       have e1:(i:Int)+2-1-(j:Int)=((i+1-j:Nat):Int):=by omega
       have e2:(i:Int)+1-(j:Int)=((i+1-j:Nat):Int):=by omega
       gi_upto_region 10 with fail
       rw[wpIn_wide]
       have hx:=HCQ.out j hj
       have hy:=HCQ.out (i+1-j) (by omega)
       have m4:Below wr.heap.size wr wr.drew:=(Below.refl _ _).drew
       have hgr:=hr8.lt
       have HBd:=BZ (hb8.trans (m4.mono (by omega)))
       have HR9:=BZ (hr8.below m4)
       refine ak (fun w'=>∃ x:aw g7 wr.drew,w'=x.w) (fun i=>i == 15||i == 16||i == 18) (by kernel_rfl) (by kernel_rfl) ⟨⟨_,Below.refl _ _⟩,rfl⟩ ?_
       have hz:g7≤wr.drew.heap.size:=by have:=m4.size;omega
       generalize wr.drew=wd at *
       have c0:=fun x:aw g7 wd=>aa (HBd.out.trans x.h) hlq7 hx
       have c1:=fun x:aw g7 wd=>aa (HBd.out.trans x.h) hlq7 hy
       have HG9:=BZ (HG6.out.below (by have h:=HB67.out.trans HBd.out;rw[HGE.out] at h;exact h))
       clear hx hy m4 hr8 hb8 hgr
       refine af 15 0 _ _ _ (by kernel_rfl) ?_
       simp only[Cf,Ch,Ce,Ci]
       repeat (go_big_quiet_step (fail))
       refine wpQuiet_nil ?_
       clear c0 c1 e1 e2
       refine ag rfl rfl (fun K hK=>?_)
       go_simp
       refine (dP k _ wd HG9.out).mono ?_
       rintro e wa ⟨rfl,hba⟩
       refine hK _ _ ⟨⟨_,(hba).mono hz⟩,rfl⟩ ?_
       clear hK K
       try simp only[Act.put,Ca,B_,B9,B4,Cb,Cc]
       refine ag rfl rfl (fun K hK=>?_)
       go_simp
       refine (iO _ _ wa (HG9.out.below hba)).mono ?_
       rintro e wb ⟨rfl,hbb⟩
       have hBb:=hba.trans (hbb.mono hba.size)
       refine hK _ _ ⟨⟨_,(hBb).mono hz⟩,rfl⟩ ?_
       clear hK K
       try simp only[Act.put,Ca,B_,B9,B4,Cb,Cc]
       refine af 1 17 _ _ _ (by kernel_rfl) ?_
       simp only[Cf,Ch,Ce,Ci]
       repeat (go_big_quiet_step (fail))
       refine wpQuiet_nil ?_
       have hfl:j<(bm L j).length:=by rw[fV L (by omega)];omega
       have rc:=HR9.out.below hBb
       have rd:=rc.cell hfl
       have re:=rc.free j
       have hset:bV (wb.setCell ⟨g7,j,none⟩ (.string (dV (aq q j) (bu k (aq q (i+1-j)))))) g7 (i+2) (bm L (j+1)):=by
        have h1:=rc.set j (dV (aq q j) (bu k (aq q (i+1-j))))
        have h2:=fW L (i:=j) (by omega)
        have h3:L[j]'(by omega)=dV (aq q j) (bu k (aq q (i+1-j))):=by
         have hE:=HLE.out
         subst hE
         rw[wH,HQE.out,hpl]
        rw[h3] at h2
        rw[←h2];exact h1
       have hP:Below g7 wd (wb.setCell ⟨g7,j,none⟩ (.string (dV (aq q j) (bu k (aq q (i+1-j)))))):=(hBb.mono hz).setCell (p:=⟨g7,j,none⟩) (Cd _) _
       refine ag rfl rfl (fun K hK=>?_)
       go_simp
       refine hK undef _ ⟨⟨_,hP⟩,rfl⟩ ?_
       clear hK K
       try simp only[Act.put,Ca,B_,B9,B4,Cb,Cc]
       refine av ?_
       have hBn:=HBd.out.trans hP
       clear rc rd re hP hbb hba hBb HR9 HG9 HBd hz
       generalize wb.setCell ⟨g7,j,none⟩ (.string (dV (aq q j) (bu k (aq q (i+1-j)))))=we at *
       go_wp2
       gi_wp2
       go_roundw
       case rel=>exact⟨j+1,by go_num,by omega,hset,hBn⟩
       case measure=>(first | (simp[intOf];done) | (simp[intOf];omega))
      ·obtain rfl:j=i+2:=by omega
       have hfull:bm L (i+2)=L:=by rw[←hLl];exact fj L
       rw[hfull] at hr8
       have hB6:=HB67.out.trans hb8
       have hB6':Below w6.heap.size w6 wr:=by have h:=hB6;rw[HGE.out] at h;exact h
       have HJr:=BZ (HJ.out _ _ _ HJi.out (bM.of_below hB6'))
       have HLr:=BZ (HL.out.below hB6')
       have hil:i<(a6 l).length:=by
        have:=congrArg List.length HBD.out
        simp at this;omega
       have hget:(a6 l)[i]?=some L:=by
        have h:=DY (xs:=a6 l) (i:=i) (j:=0)
        rw[←HBD.out] at h
        rw[HLE.out]
        simpa using h.symm
       have HD2:=BZ (show ed (l.drop (i+1)) L=(a6 l).drop (i+1) by
        have h:=congrArg (List.drop 1) HBD.out
        rw[List.drop_drop] at h
        rw[HLE.out]
        exact h)
       have hLS:=hr8.isS
       obtain⟨fn,tmps,assign,body,hy,hR⟩:=HY.out i hil wr #[.slice (some ⟨g7,0,none⟩) L.length (i+2)] HJr.out ⟨_,L,rfl,hget,hLS⟩
       have hsafe:=(HOK.out _ _ HJr.out).1
       rw[hLl] at hy hLS
       have HLS:=BZ hLS
       clear hb8 hr8 hfull hB6 hB6' hget hLS hj hji hib
       gi_wp2
       refine⟨fun _=>by omega,hR.mono ?_⟩
       rintro e W' ⟨rfl,hJ',hT⟩
       have hkeep:=hZ.of_turns hT hsafe
       have hls:=HLS.out.keep hkeep
       have hll:=HLr.out.keep hkeep
       clear hR hy hT hsafe hkeep HLS HLr HJr
       gi_wp2
       go_roundw
       case rel=>exact⟨i+1,L,by go_num,by omega,by omega,hls,hLl,hll,hJ',HD2.out⟩
       case measure=>(first | (simp[intOf];done) | (simp[intOf];omega))
  ·obtain rfl:i=l.length:=by omega
   have hlen:(a6 l).length=l.length:=by
    have h:=hbd.out
    rw[List.drop_length] at h
    have:=congrArg List.length h
    simp[ed] at this
    omega
   clear hbd hp hl hpl hib hil
   gi_wp2
   go_end0
   exact⟨⟨_,rfl⟩,by rw[hlen];exact hJi⟩
def l7 (ls:List (List ByteArray)):Nat→List ByteArray
 | 0=>[⟨#[49]⟩]
 | i+1=>ls.getD i []
def nF (l:List ByteArray):List ByteArray:=l7 (a6 l) (a6 l).length
def eo (a b l:List ByteArray):Bool×Int:=if ar a b=true then if l.length+1=b.length then (decide (nF l=b),0) else (false,0) else (false,30)
theorem kH:∀ (l p q:List ByteArray),q∈ed l p→q.length≤p.length+l.length
 | [],_,_,h=>by simp[ed] at h
 | k :: ks,p,q,h=>by
  unfold ed at h
  split at h
  ·rcases CW.1 h with rfl | h
   ·rw[kE];simp
   ·have:=kH ks (gw k p) q h
    rw[kE] at this
    simp;omega
  ·cases h
theorem vH (l:List ByteArray):(nF l).length≤l.length+1:=by
 unfold nF
 cases h:(a6 l).length with
 | zero=>simp[l7]
 | succ i =>
  show ((a6 l).getD i []).length≤_
  have hi:i<(a6 l).length:=by omega
  rw[Cm,Co hi]
  have:=kH l [⟨#[49]⟩] _ (Cs hi)
  simp at this ⊢
  omega
structure AW (w:World) (g b7:Nat) (x y:Value) (l:List ByteArray) (i:Nat) (W:World):Prop where
 box:∃ v,W.heap[b7]?=some (.cells #[v] 26 (0,0))∧IsS W v (l7 (a6 l) i)
 fil:W.heap[g]?=some (.cells #[x,y] 28 (0,0))
 bel:Below w.heap.size w W
theorem tJ {w:World}{g:Nat}{v:Value}{T:TypeId} (h:w.heap[g]?=some (.cells #[v] T (0,0))) (hv:∀ s,v≠.string s):pX (fun k=>k=g) zH w:=by
 rintro k rfl j u hc
 rw[World.cell?,h] at hc
 simp only[C4,CA,if_false] at hc
 have hj:j=0:=by
  have:=(Cj.1 hc).1
  simpa using this
 subst hj
 simp at hc
 subst hc
 rintro⟨s,e⟩
 exact hv s e
theorem zR (v:Value) (l:List ByteArray) (w:World) (hl:IsS w v l) :
  Calls Tryz.prog 85 #[v] w fun e w'=>e=.returned (.func (.func 157) #[] #[.pointer (some ⟨w.heap.size,0,none⟩)])∧w'.heap[w.heap.size]?=some (.cells #[v] 26 (0,0))∧w.heap.size<w'.heap.size∧IsS w' v l∧Below w.heap.size w w':=by
 obtain⟨p,c,rfl,-⟩:=id hl.form
 have c0:=heap_alloc_new w (.cells #[.slice p l.length c] 26 (0,0))
 have m1:=ae w (.cells #[.slice p l.length c] 26)
 have z1:=size_alloc w (.cells #[.slice p l.length c] 26)
 have HL:=BZ (hl.below m1)
 have H0:=BZ (And.intro c0 (And.intro (show w.heap.size<(w.alloc (.cells #[.slice p l.length c] 26)).heap.size by omega) m1))
 clear c0 m1 z1 hl
 go_enter Tryz.func85,Tryz.ntmps85
 go_wp2
 go_ret
 exact⟨rfl,H0.out.1,H0.out.2.1,HL.out,H0.out.2.2⟩
attribute [local go_sem] Oper.semAt_some
theorem zM (v vl:Value) (a b l:List ByteArray) (w:World) (hF:IsF w v a b) (hl:IsS w vl l) (hG:Gx w) :
  Calls Tryz.prog 25 #[v,vl] w fun e w'=>e=.returned (.tuple #[.bool (eo a b l).1,.int .i64 (eo a b l).2])∧Below w.heap.size w w':=by
 obtain⟨p,c,q,d,rfl,hfa,hfb⟩:=id hF.ex
 obtain⟨pl,cl,rfl,-⟩:=id hl.form
 have HG0:=BZ hG
 have HB0:=BZ hfb
 refine (callsIn_wide (n:=9)).1 ?_
 refine callsIn_of_wp_marks Tryz.func25 rfl trivial ?_ rfl
 simp only[Tryz.ntmps25,En,CK,C_,Nat.reduceAdd,Nat.reduceSub,D8,D9,Em,Ee,CH,CN]
 gi_upto_region 1 with fail
 have cc:=ap w (.slice p a.length c) (.slice q b.length d)
 have m1:=ae w (.cells #[.slice p a.length c,.slice q b.length d] 28)
 have zz:=size_alloc w (.cells #[.slice p a.length c,.slice q b.length d] 28)
 have rr:=heap_alloc_new w (.cells #[.slice p a.length c,.slice q b.length d] 28 (0,0))
 generalize w.alloc (.cells #[.slice p a.length c,.slice q b.length d] 28)=w1 at *
 obtain⟨g,hg⟩:∃ g,g=w.heap.size:=⟨_,rfl⟩
 rw[←hg] at cc rr ⊢
 have HCK:=BZ (dC _ a b w1 (hF.below m1) (hG.below m1))
 have HB:=BZ (hfb.below m1)
 have HL:=BZ (hl.below m1)
 have c0:=cc.1
 have c1:=cc.2
 have hlt:g<w1.heap.size:=by omega
 have M1:=BZ m1
 have HGE:=BZ hg
 clear hfa hfb cc zz m1 hF hG hl hg
 by_cases hck:ar a b=true
 ·have HT:=BZ (show eo a b l=if l.length+1=b.length then (decide (nF l=b),0) else (false,0) by unfold eo;rw[if_pos hck])
  have hce:az a b=0:=by unfold az;rw[if_pos hck]
  rw[hce] at HCK
  obtain⟨ob1,ob7,-⟩:=aD hck
  clear hce hck
  gi_wp2_with fail
  refine⟨trivial,(callsIn_wide.2 HCK.out).mono ?_⟩
  rintro e w2 ⟨rfl,hb2⟩
  have d0:=aa hb2 hlt c0
  have d1:=aa hb2 hlt c1
  have rr2:=(hb2.block g hlt).trans rr
  have HB2:=BZ (HB.out.below hb2)
  have HL2:=BZ (HL.out.below hb2)
  have M2:=BZ (M1.out.trans (hb2.mono M1.out.size))
  have hlt2:g<w2.heap.size:=Cg hlt hb2.size
  clear c0 c1 rr HB HL HCK M1 hb2 hlt
  by_cases hlen:l.length+1=b.length
  ·have hbI:((b.length:Nat):Int)-1=(l.length:Int):=by omega
   have HT:=BZ (show eo a b l=(decide (nF l=b),0) by rw[HT.out,if_pos hlen])
   have HLN:=BZ hlen
   clear hlen
   gi_wp2_with fail
   have m3:=ae w2 (.cells #[.string ⟨#[49]⟩] 22)
   have z3:=size_alloc w2 (.cells #[.string ⟨#[49]⟩] 22)
   have h3:=jU w2 ⟨#[49]⟩
   generalize w2.alloc (.cells #[.string ⟨#[49]⟩] 22)=w3 at *
   have m4:=ae w3 (.cells #[.slice (some ⟨w2.heap.size,0,none⟩) 1 1] 26)
   have r4:=heap_alloc_new w3 (.cells #[.slice (some ⟨w2.heap.size,0,none⟩) 1 1] 26 (0,0))
   generalize w3.alloc (.cells #[.slice (some ⟨w2.heap.size,0,none⟩) 1 1] 26)=w4 at *
   have hB4:=m3.trans (m4.mono m3.size)
   have h4:=h3.below m4
   rw[z3] at r4
   have hl4:=HL2.out.below hB4
   have rr4:=(hB4.block g hlt2).trans rr2
   obtain⟨b7,hb7⟩:∃ b,b=w2.heap.size+1:=⟨_,rfl⟩
   rw[←hb7] at r4 ⊢
   have hM4:=M2.out.trans (hB4.mono M2.out.size)
   have hbw:w.heap.size≤b7:=by have:=M2.out.size;omega
   have hgb:g≠b7:=by omega
   clear d0 d1 rr2 HL2 m3 z3 h3 m4 hB4 M2 hlt2 hb7
   refine⟨trivial,(callsIn_wide.2 (zR _ l w4 hl4)).mono ?_⟩
   rintro e w5 ⟨rfl,rb5,hlt5,hl5,hb5⟩
   obtain⟨gb,hgb5⟩:∃ g,g=w4.heap.size:=⟨_,rfl⟩
   have h5:=h4.below hb5
   have r5:=(hb5.block b7 (Cj.1 r4).1).trans r4
   have rr5:=(hb5.block g (Cj.1 rr4).1).trans rr4
   have hM5:=hM4.trans (hb5.mono hM4.size)
   have hne5:gb≠b7:=by have:=(Cj.1 r4).1;omega
   have hlt7:b7<w5.heap.size:=(Cj.1 r5).1
   rw[←hgb5] at rb5 hlt5 ⊢
   have hll:l.length<1000:=by have:=HLN.out;omega
   clear h4 r4 rr4 hl4 hb5 hgb5 hM4
   gi_wp2
   refine kY (gf:=157) (bnd:=#[]) (lb:=#[.pointer (some ⟨gb,0,none⟩)]) (E:=wT l) (len:=(a6 l).length) (Sb:=fun k=>k=b7) (Si:=fun _=>False) (Ok:=fun W=>pX (fun k=>k=b7) zH W∧Gw W) rfl (by omega) rfl trivial ?eg ?hSb ?hSi (oK 8 (by omega) gb _ l w5 _ rb5 hl5 hll hne5) ?hps
    (AW w g b7 (.slice p a.length c) (.slice q b.length d) l) ?hI ?hOk ?h0
    (fun i a1 W=>∃ v ps,a1={ tmps:=#[.agg #[.slice p a.length c,.slice q b.length d],.slice pl l.length cl,.pointer (some ⟨g,0,none⟩),undef,.bool false,.int .i64 0,.int .i64 0,.pointer (some ⟨b7,0,none⟩),v,.agg #[.slice p a.length c,.slice q b.length d],.int .i64 0,.int .i64 0,.bool false,undef,.slice pl l.length cl,.int .i64 l.length,.pointer (some ⟨g,1,none⟩),.slice q b.length d,.int .i64 b.length,.int .i64 l.length,.bool false,.slice (some ⟨w2.heap.size,0,none⟩) 1 1,.slice pl l.length cl,.func (.func 157) #[] #[.pointer (some ⟨gb,0,none⟩)],v,undef,undef,undef,undef,undef],defers:=[] }∧(a6 l)[i]?=some ps∧IsS W v ps∧AW w g b7 (.slice p a.length c) (.slice q b.length d) l i W) ?hI1 ?hassign ?hbody ?hdone
   case eg=>exact aP Tryz.func157 rfl (by kernel_rfl)
   case hSb=>rintro k rfl;exact hlt7
   case hSi=>rintro k hk;exact hk.elim
   case hps=>rintro i W vs ⟨v,ps,rfl,-,-⟩;rfl
   case hI =>
    rintro i W W' ⟨⟨v,h1,h2⟩,h3,h4⟩ hB
    exact⟨⟨v,hB.cells h1 id,h2.keep (hZ.of_bes hB (fun k hk=>hk.elim))⟩,hB.cells h3 id,hB.below h4 hM5.size h4.size (fun k e=>e.elim)⟩
   case hOk =>
    rintro i W ⟨⟨v,h1,h2⟩,h3,h4⟩
    obtain⟨pv,cv,rfl,-⟩:=id h2.form
    exact⟨tJ h1 (by intro s e;cases e),(HG0.out.below h4).g⟩
   case h0=>exact⟨⟨_,r5,h5⟩,rr5,hM5⟩
   case hI1 =>
    rintro i a1 W W' ⟨v,ps,e,hv,hs,⟨v',h1,h2⟩,h3,h4⟩ hB
    exact⟨v,ps,e,hv,hs.keep (hZ.of_bes hB (fun k hk=>hk.elim)),⟨v',hB.cells h1 id,h2.keep (hZ.of_bes hB (fun k hk=>hk.elim))⟩,hB.cells h3 id,hB.below h4 hM5.size h4.size (fun k e=>e.elim)⟩
   case hassign =>
    rintro y i hi W vs hI ⟨v,ps,rfl,hv,hs⟩
    rw[r7]
    simp only[B4,Cb,Cc]
    gi_wp2
    exact⟨bM.refl _ _,v,ps,rfl,hv,hs,hI⟩
   case hbody =>
    rintro y i hi a1 W ⟨v,ps,rfl,hv,hs,⟨v',h1,h2⟩,h3,h4⟩
    obtain⟨pv,cv,rfl,-⟩:=id hs.form
    obtain⟨pv',cv',rfl,-⟩:=id h2.form
    obtain⟨k7,f7⟩:=cQ h1
    have hT:=bM.set (S:=fun k=>k=b7) (w:=W) rfl 0 (.slice pv ps.length cv)
    have hS:=(hs.keep (hZ.of_turns hT (tJ h1 (by intro s e;cases e))))
    have hL:l7 (a6 l) (i+1)=ps:=by
     show (a6 l).getD i []=ps
     rw[Cm,hv];rfl
    have HRes:=BZ (show bM (fun k=>k=b7) W (W.setCell ⟨b7,0,none⟩ (.slice pv ps.length cv))∧AW w g b7 (.slice p a.length c) (.slice q b.length d) l (i+1) (W.setCell ⟨b7,0,none⟩ (.slice pv ps.length cv)) from
     ⟨hT,⟨_,heap_setCell_same W b7 0 _ _ _ h1,by rw[hL];exact hS⟩,(Below.heap_setCell W ⟨b7,0,none⟩ _ g hgb).trans h3,h4.setCell (p:=⟨b7,0,none⟩) hbw _⟩)
    clear h1 h2 h3 h4 hT hS hs hv hL r5 h5 rr5
    gi_wp2
    exact HRes.out
   case hdone =>
    rintro D W hD ⟨⟨v,h1,h2⟩,h3,h4⟩ hK
    have hLB:=vH l
    have hz:=hM5.size
    obtain⟨lb,hlb⟩:∃ x,x=nF l:=⟨_,rfl⟩
    rw[show l7 (a6 l) (a6 l).length=lb from hlb.symm] at h2
    have HTL:=BZ (show eo a b l=(decide (lb=b),0) by rw[HT.out,←hlb])
    rw[←hlb] at hLB
    obtain⟨pv,cv,rfl,-⟩:=id h2.form
    have k7:=(cQ h1).1
    have c0:=ah h3 0
    have c1:=ah h3 1
    have HEQ:=BZ (A6 _ _ lb b W h2 (HB0.out.below h4) (by omega) (by omega))
    obtain⟨bq,hbq⟩:∃ x,x=decide (lb=b):=⟨_,rfl⟩
    rw[←hbq] at HEQ HTL
    have HM:=BZ h4
    have HK:=BZ hK
    have HD:=BZ (show w.heap.size≤D by omega)
    simp only[Eq,Ek,DW] at c0 c1
    clear h1 h2 h3 h4 hK hlb hbq rb5 hl5 h5 r5 rr5 hM5 hLB hz
    gi_wp2_with fail
    refine⟨trivial,(callsIn_wide.2 HEQ.out).mono ?_⟩
    rintro e W2 ⟨rfl,hb2⟩
    have HK2:=BZ ((hb2.block D (Cj.1 HK.out).1).trans HK.out)
    have HM2:=BZ (HM.out.trans (hb2.mono HM.out.size))
    clear hb2 HEQ k7 c0 c1
    gi_wp2
    refine⟨by simp,.inl ⟨_,_,rfl,run_takeDeferred HK2.out,?_⟩⟩
    refine⟨.tuple #[.bool bq,.int .i64 0],by simp[results,Tryz.results25,go_sem],by rw[HTL.out],HM2.out.trans ⟨rfl,rfl,rfl,by simp,fun k hk=>World.putObj_heap_other (by have:=HD.out;omega)⟩⟩
  ·have hne:((l.length:Int) != (b.length:Int)-1)=true:=by simp;omega
   have HE:=BZ (show eo a b l=(false,0) by rw[HT.out,if_neg hlen])
   clear hlen
   gi_wp2
   refine⟨.tuple #[.bool false,.int .i64 0],by simp[results,Tryz.results25,go_sem],by rw[HE.out],M2.out⟩
 ·have HE:=BZ (show eo a b l=(false,30) by unfold eo;rw[if_neg hck])
  have hce:az a b=30:=by unfold az;rw[if_neg hck]
  rw[hce] at HCK
  clear hce
  gi_wp2_with fail
  refine⟨trivial,(callsIn_wide.2 HCK.out).mono ?_⟩
  rintro e w2 ⟨rfl,hb2⟩
  gi_wp2
  refine⟨.tuple #[.bool false,.int .i64 30],by simp[results,Tryz.results25,go_sem],by rw[HE.out],M1.out.trans (hb2.mono M1.out.size)⟩
open Go.RowKit Dg
structure uT (w:World) (g:Nat) (p:Option Addr) (c:Nat) (q:Option Addr) (d:Nat):Prop where
 f0:w.cell? ⟨g,0,none⟩=some (.slice p 2 c)
 f1:w.cell? ⟨g,1,none⟩=some (.slice q 2 d)
 la:IsS w (.slice p 2 c) aI
 lb:IsS w (.slice q 2 d) aK
 G:Gx w
 lt:g<w.heap.size
theorem uT.below {w w':World}{g:Nat}{p:Option Addr}{c:Nat}{q:Option Addr}{d:Nat} (h:uT w g p c q d) (hb:Below w.heap.size w w'):uT w' g p c q d :=
 ⟨aa hb h.lt h.f0,aa hb h.lt h.f1,h.la.below hb,h.lb.below hb,h.G.below hb,Cg h.lt hb.size⟩
theorem uT.F {w:World}{g:Nat}{p:Option Addr}{c:Nat}{q:Option Addr}{d:Nat} (h:uT w g p c q d):IsF w (.agg #[.slice p 2 c,.slice q 2 d]) aI aK:=⟨⟨p,c,q,d,rfl,h.la,h.lb⟩⟩
theorem kl:jh aI aK 4=0∧aH aI aK (fE 4) 4=[⟨#[48]⟩,⟨#[49,47,50]⟩,⟨#[49,47,52]⟩,⟨#[49,47,56]⟩]:=by decide +kernel
theorem fp:bd aK=some [⟨#[45,49,47,50]⟩]∧ar aI [⟨#[49]⟩,⟨#[45,50]⟩]=true∧bd [⟨#[49]⟩,⟨#[45,50]⟩]=none:=by decide +kernel
theorem qG:eo aI [⟨#[49]⟩,⟨#[49,47,52]⟩,⟨#[45,49,47,50]⟩] [⟨#[49,47,50]⟩,⟨#[45,49,47,50]⟩]=(true,0):=by decide +kernel
theorem qH:dU aK (ofT 33)=true∧∀ m,m<33→1≤m→dU aK (ofT m)=false:=by decide +kernel
theorem fc:b_ aI aK=(⟨#[49,47,51]⟩,0)∧eO aI aK ⟨#[45,49]⟩=(⟨#[45,49,47,51]⟩,0)∧eO aI aK ⟨#[49,47,50]⟩=(⟨#[]⟩,32)∧dL aI aK=(5,0)∧du aI aK=((aI,[⟨#[49]⟩,⟨#[48]⟩]),0)∧fQ aI aK=((aK,[⟨#[49]⟩,⟨#[48]⟩]),0):=by decide +kernel
theorem jT (w:World) (l:List ByteArray) (h:l.length<1000):IsS (w.alloc (.cells (l.map Value.string).toArray 22)) (.slice (some ⟨w.heap.size,0,none⟩) l.length l.length) l :=
 aZ.isS (base:=w.heap.size) (by
  refine⟨by simp,Or.inr ⟨w.heap.size,l.length,_,rfl,Cd _,heap_alloc_new w _,Cd _,by unfold maxLen;omega,by simp,by simp[Cn]⟩⟩)
theorem fB (w:World) (hG:Gx w):Calls Tryz.prog 15 #[] w fun e w'=>e=.returned (.bool true)∧Below w.heap.size w w':=by
 go_enter Tryz.func15,Tryz.ntmps15
 go_wp2_with fail
 refine (BG w).mono ?_
 rintro e w1 ⟨v1,rfl,hF,hb1⟩
 obtain⟨p,c,q,d,rfl,hA,hB⟩:=id hF.ex
 rw[show aI.length=2 from rfl] at hA ⊢
 rw[show aK.length=2 from rfl] at hB ⊢
 have cc:=ap w1 (.slice p 2 c) (.slice q 2 d)
 have m2:=ae w1 (.cells #[.slice p 2 c,.slice q 2 d] 28)
 have z2:=size_alloc w1 (.cells #[.slice p 2 c,.slice q 2 d] 28)
 go_upto_region 2 with fail
 generalize w1.alloc (.cells #[.slice p 2 c,.slice q 2 d] 28)=w2 at *
 obtain⟨g,hg⟩:∃ g,g=w1.heap.size:=⟨_,rfl⟩
 rw[←hg] at cc ⊢
 have HP:=BZ (show uT w2 g p c q d from⟨cc.1,cc.2,hA.below m2,hB.below m2,(hG.below hb1).below m2,by omega⟩)
 have HB:=BZ (hb1.trans (m2.mono hb1.size))
 have k0:=HP.out.f0
 have k1:=HP.out.f1
 clear cc m2 z2 hA hB hF hb1 hG hg
 go_wp2_with fail
 refine (uX _ aI aK 4 w2 HP.out.F HP.out.G).mono ?_
 rintro e w3 ⟨vr,rfl,hvr,-,hb⟩
 have HR:=BZ (hvr kl.1)
 rw[show (4:Int).toNat=4 from rfl,kl.2] at HR
 rw[kl.1]
 clear hvr
 have HP:=BZ (HP.out.below hb)
 have HB:=BZ (HB.out.trans ((hb).mono HB.out.size))
 clear hb k0 k1
 have k0:=HP.out.f0
 have k1:=HP.out.f1
 go_wp2_with fail
 refine (xe _ aI aK w3 HP.out.F HP.out.G).mono ?_
 rintro e w4 ⟨vp,er,rfl,hcase,hb⟩
 have HPR:er=0∧Hid (IsS w4 vp [⟨#[45,49,47,50]⟩]):=by
  rcases hcase with ⟨pf,-,h1,rfl,h2,-⟩ | ⟨-,h1,-⟩ | ⟨h1,-⟩
  ·rw[fp.1] at h1
   cases h1
   exact⟨rfl,h2⟩
  ·rw[fp.1] at h1;cases h1
  ·rw[dY] at h1;cases h1
 obtain⟨rfl,HPR⟩:=HPR
 have HR:=BZ (HR.out.below hb)
 clear hcase
 have HP:=BZ (HP.out.below hb)
 have HB:=BZ (HB.out.trans ((hb).mono HB.out.size))
 clear hb k0 k1
 have k0:=HP.out.f0
 have k1:=HP.out.f1
 have hm:=ae w4 (.cells #[.string ⟨#[49]⟩,.string ⟨#[45,50]⟩] 22)
 have HU:=BZ (xe _ aI [⟨#[49]⟩,⟨#[45,50]⟩] _ ⟨⟨p,c,_,_,rfl,HP.out.la.below hm,IsS.two w4 ⟨#[49]⟩ ⟨#[45,50]⟩⟩⟩ (HP.out.G.below hm))
 have HM:=BZ hm
 clear hm
 go_wp2_with fail
 refine HU.out.mono ?_
 rintro e w5 ⟨vx,er,rfl,hcase,hb⟩
 obtain rfl:er=31:=by
  rcases hcase with ⟨pf,-,h1,-⟩ | ⟨-,-,h,-⟩ | ⟨h1,-⟩
  ·rw[fp.2.2] at h1;cases h1
  ·exact h
  ·rw[fp.2.1] at h1;cases h1
 have hb:=HM.out.trans (hb.mono HM.out.size)
 have HR:=BZ (HR.out.below hb)
 have HPR:=BZ (HPR.out.below hb)
 clear hcase HU HM
 have HP:=BZ (HP.out.below hb)
 have HB:=BZ (HB.out.trans ((hb).mono HB.out.size))
 clear hb k0 k1
 have k0:=HP.out.f0
 have k1:=HP.out.f1
 have hm:=ae w5 (.cells #[.string ⟨#[49]⟩,.string ⟨#[49,47,52]⟩,.string ⟨#[45,49,47,50]⟩] 22)
 have hl:=jT w5 [⟨#[49]⟩,⟨#[49,47,52]⟩,⟨#[45,49,47,50]⟩] (by decide)
 have hm2:=ae (w5.alloc (.cells #[.string ⟨#[49]⟩,.string ⟨#[49,47,52]⟩,.string ⟨#[45,49,47,50]⟩] 22)) (.cells #[.string ⟨#[49,47,50]⟩,.string ⟨#[45,49,47,50]⟩] 22)
 have hl2:=IsS.two (w5.alloc (.cells #[.string ⟨#[49]⟩,.string ⟨#[49,47,52]⟩,.string ⟨#[45,49,47,50]⟩] 22)) ⟨#[49,47,50]⟩ ⟨#[45,49,47,50]⟩
 have hM:=hm.trans (hm2.mono hm.size)
 have HU:=BZ (zM _ _ aI [⟨#[49]⟩,⟨#[49,47,52]⟩,⟨#[45,49,47,50]⟩] [⟨#[49,47,50]⟩,⟨#[45,49,47,50]⟩] _ ⟨⟨p,c,_,_,rfl,HP.out.la.below hM,hl.below hm2⟩⟩ hl2 (HP.out.G.below hM))
 rw[qG] at HU
 have HM:=BZ hM
 rw[size_alloc] at HU
 clear hm hm2 hl hl2 hM
 go_wp2_with fail
 refine HU.out.mono ?_
 rintro e w6 ⟨rfl,hb⟩
 have hb:=HM.out.trans (hb.mono HM.out.size)
 have HR:=BZ (HR.out.below hb)
 have HPR:=BZ (HPR.out.below hb)
 clear HU HM
 have HP:=BZ (HP.out.below hb)
 have HB:=BZ (HB.out.trans ((hb).mono HB.out.size))
 clear hb k0 k1
 have k0:=HP.out.f0
 have k1:=HP.out.f1
 have hm:=ae w6 (.cells #[.string ⟨#[48]⟩,.string ⟨#[49,47,50]⟩,.string ⟨#[49,47,52]⟩,.string ⟨#[49,47,56]⟩] 22)
 have HU:=BZ (fe _ _ _ _ _ (HR.out.below hm) (jT w6 [⟨#[48]⟩,⟨#[49,47,50]⟩,⟨#[49,47,52]⟩,⟨#[49,47,56]⟩] (by decide)) (by decide) (by decide))
 rw[decide_eq_true (rfl:[(⟨#[48]⟩:ByteArray),⟨#[49,47,50]⟩,⟨#[49,47,52]⟩,⟨#[49,47,56]⟩]=_)] at HU
 have HM:=BZ hm
 clear hm
 go_wp2_with fail
 refine HU.out.mono ?_
 rintro e w7 ⟨rfl,hb⟩
 have hb:=HM.out.trans (hb.mono HM.out.size)
 have HPR:=BZ (HPR.out.below hb)
 clear HU HM HR
 have HP:=BZ (HP.out.below hb)
 have HB:=BZ (HB.out.trans ((hb).mono HB.out.size))
 clear hb k0 k1
 have k0:=HP.out.f0
 have k1:=HP.out.f1
 have hm:=ae w7 (.cells #[.string ⟨#[45,49,47,50]⟩] 22)
 have HU:=BZ (fe _ _ _ _ _ (HPR.out.below hm) (jT w7 [⟨#[45,49,47,50]⟩] (by decide)) (by decide) (by decide))
 rw[decide_eq_true (rfl:[(⟨#[45,49,47,50]⟩:ByteArray)]=_)] at HU
 have HM:=BZ hm
 clear hm
 go_wp2_with fail
 refine HU.out.mono ?_
 rintro e w8 ⟨rfl,hb⟩
 have hb:=HM.out.trans (hb.mono HM.out.size)
 clear HU HM HPR
 have HP:=BZ (HP.out.below hb)
 have HB:=BZ (HB.out.trans ((hb).mono HB.out.size))
 clear hb k0 k1
 have k0:=HP.out.f0
 have k1:=HP.out.f1
 go_wp2_with fail
 refine (zP _ aI aK w8 HP.out.F HP.out.G).mono ?_
 rintro e w9 ⟨nr,er,rfl,hcase,hb⟩
 obtain⟨rfl,rfl⟩:er=0∧nr=33:=by
  rcases hcase with ⟨-,-,rfl,k,rfl,k1,k64,hk,hlt⟩ | ⟨-,h,-⟩ | ⟨h,-⟩
  ·refine⟨rfl,?_⟩
   rcases Nat.lt_trichotomy k 33 with h | h | h
   ·have:=qH.2 k h k1
    rw[hk] at this;cases this
   ·rw[h];rfl
   ·have:=hlt 33 (by decide) h
    rw[qH.1] at this;cases this
  ·rw[fp.1] at h;cases h
  ·rw[dY] at h;cases h
 clear hcase
 have HP:=BZ (HP.out.below hb)
 have HB:=BZ (HB.out.trans ((hb).mono HB.out.size))
 clear hb k0 k1
 have k0:=HP.out.f0
 have k1:=HP.out.f1
 go_wp2_with fail
 refine (ow _ aI aK w9 HP.out.F HP.out.G).mono ?_
 rintro e w10 ⟨rfl,hb⟩
 rw[fc.1]
 have HP:=BZ (HP.out.below hb)
 have HB:=BZ (HB.out.trans ((hb).mono HB.out.size))
 clear hb k0 k1
 have k0:=HP.out.f0
 have k1:=HP.out.f1
 go_wp2_with fail
 refine (nl _ aI aK _ w10 HP.out.F HP.out.G).mono ?_
 rintro e w11 ⟨rfl,hb⟩
 rw[fc.2.1]
 have HP:=BZ (HP.out.below hb)
 have HB:=BZ (HB.out.trans ((hb).mono HB.out.size))
 clear hb k0 k1
 have k0:=HP.out.f0
 have k1:=HP.out.f1
 go_wp2_with fail
 refine (nl _ aI aK _ w11 HP.out.F HP.out.G).mono ?_
 rintro e w12 ⟨rfl,hb⟩
 rw[fc.2.2.1]
 have HP:=BZ (HP.out.below hb)
 have HB:=BZ (HB.out.trans ((hb).mono HB.out.size))
 clear hb k0 k1
 have k0:=HP.out.f0
 have k1:=HP.out.f1
 go_wp2_with fail
 refine (tD _ aI aK w12 HP.out.F HP.out.G).mono ?_
 rintro e w13 ⟨vc,rfl,hfc,hb⟩
 rw[fc.2.2.2.2.1] at hfc ⊢
 have HP:=BZ (HP.out.below hb)
 have HB:=BZ (HB.out.trans ((hb).mono HB.out.size))
 clear hb k0 k1
 have k0:=HP.out.f0
 have k1:=HP.out.f1
 obtain⟨pc,cc,qc,dc,e,hca,hcb,-,-⟩:=hfc.ex
 replace e:vc=.agg #[.slice pc 2 cc,.slice qc 2 dc]:=e
 replace hca:IsS w13 (.slice pc 2 cc) aI:=hca
 replace hcb:IsS w13 (.slice qc 2 dc) [⟨#[49]⟩,⟨#[48]⟩]:=hcb
 subst e
 clear hfc
 go_upto_region 15 with fail
 have kk:=ap w13 (.slice pc 2 cc) (.slice qc 2 dc)
 have hb:=ae w13 (.cells #[.slice pc 2 cc,.slice qc 2 dc] 28)
 have zz:=size_alloc w13 (.cells #[.slice pc 2 cc,.slice qc 2 dc] 28)
 generalize w13.alloc (.cells #[.slice pc 2 cc,.slice qc 2 dc] 28)=w14 at *
 obtain⟨gc,hgc⟩:∃ x,x=w13.heap.size:=⟨_,rfl⟩
 rw[←hgc] at kk ⊢
 have HC:=BZ (And.intro (show gc<w14.heap.size by omega) (And.intro kk.1 (And.intro kk.2 (And.intro (hca.below hb) (hcb.below hb)))))
 clear hca hcb kk zz hgc
 have HP:=BZ (HP.out.below hb)
 have HB:=BZ (HB.out.trans ((hb).mono HB.out.size))
 clear hb k0 k1
 have k0:=HP.out.f0
 have k1:=HP.out.f1
 go_wp2_with fail
 refine (AB _ aI aK w14 HP.out.F HP.out.G).mono ?_
 rintro e w15 ⟨vd,rfl,hfc,hb⟩
 rw[fc.2.2.2.2.2] at hfc ⊢
 obtain⟨pd,cd,qd,dd,e,hda,hdb,-,-⟩:=hfc.ex
 replace e:vd=.agg #[.slice pd 2 cd,.slice qd 2 dd]:=e
 replace hda:IsS w15 (.slice pd 2 cd) aK:=hda
 replace hdb:IsS w15 (.slice qd 2 dd) [⟨#[49]⟩,⟨#[48]⟩]:=hdb
 subst e
 have hc:=HC.out
 have HC:=BZ (And.intro (Cg hc.1 hb.size) (And.intro (aa hb hc.1 hc.2.1) (And.intro (aa hb hc.1 hc.2.2.1) (And.intro (hc.2.2.2.1.below hb) (hc.2.2.2.2.below hb)))))
 clear hfc hc
 have HP:=BZ (HP.out.below hb)
 have HB:=BZ (HB.out.trans ((hb).mono HB.out.size))
 clear hb k0 k1
 have k0:=HP.out.f0
 have k1:=HP.out.f1
 go_upto_region 16 with fail
 have kk:=ap w15 (.slice pd 2 cd) (.slice qd 2 dd)
 have hb:=ae w15 (.cells #[.slice pd 2 cd,.slice qd 2 dd] 28)
 have zz:=size_alloc w15 (.cells #[.slice pd 2 cd,.slice qd 2 dd] 28)
 generalize w15.alloc (.cells #[.slice pd 2 cd,.slice qd 2 dd] 28)=w16 at *
 obtain⟨gd,hgd⟩:∃ x,x=w15.heap.size:=⟨_,rfl⟩
 rw[←hgd] at kk ⊢
 have HD:=BZ (And.intro (show gd<w16.heap.size by omega) (And.intro kk.1 (And.intro kk.2 (And.intro (hda.below hb) (hdb.below hb)))))
 have hc:=HC.out
 have HC:=BZ (And.intro (Cg hc.1 hb.size) (And.intro (aa hb hc.1 hc.2.1) (And.intro (aa hb hc.1 hc.2.2.1) (And.intro (hc.2.2.2.1.below hb) (hc.2.2.2.2.below hb)))))
 clear hda hdb kk zz hgd hc
 have HP:=BZ (HP.out.below hb)
 have HB:=BZ (HB.out.trans ((hb).mono HB.out.size))
 clear hb k0 k1
 have k0:=HP.out.f0
 have k1:=HP.out.f1
 have hm:=ae w16 (.cells #[.string ⟨#[49]⟩,.string ⟨#[48]⟩] 22)
 have HU:=BZ (AQ (.agg #[.slice pc 2 cc,.slice qc 2 dc]) (.agg #[.slice p 2 c,.slice (some ⟨w16.heap.size,0,none⟩) 2 2]) aI [⟨#[49]⟩,⟨#[48]⟩] aI [⟨#[49]⟩,⟨#[48]⟩] _ ⟨⟨_,_,_,_,rfl,HC.out.2.2.2.1.below hm,HC.out.2.2.2.2.below hm⟩⟩ ⟨⟨_,_,_,_,rfl,HP.out.la.below hm,IsS.two w16 ⟨#[49]⟩ ⟨#[48]⟩⟩⟩ (by decide) (by decide) (by decide) (by decide))
 rw[show (decide (aI=aI)&&decide ([(⟨#[49]⟩:ByteArray),⟨#[48]⟩]=[⟨#[49]⟩,⟨#[48]⟩]))=true from by decide] at HU
 have HM:=BZ hm
 have x0:=HC.out.2.1
 have x1:=HC.out.2.2.1
 clear hm
 go_wp2_with fail
 refine HU.out.mono ?_
 rintro e w17 ⟨rfl,hb⟩
 have hb:=HM.out.trans (hb.mono HM.out.size)
 have hc:=HD.out
 have HD:=BZ (And.intro (Cg hc.1 hb.size) (And.intro (aa hb hc.1 hc.2.1) (And.intro (aa hb hc.1 hc.2.2.1) (And.intro (hc.2.2.2.1.below hb) (hc.2.2.2.2.below hb)))))
 clear HU HM hc HC x0 x1
 have HP:=BZ (HP.out.below hb)
 have HB:=BZ (HB.out.trans ((hb).mono HB.out.size))
 clear hb k0 k1
 have k0:=HP.out.f0
 have k1:=HP.out.f1
 have hm:=ae w17 (.cells #[.string ⟨#[49]⟩,.string ⟨#[48]⟩] 22)
 have HU:=BZ (AQ (.agg #[.slice pd 2 cd,.slice qd 2 dd]) (.agg #[.slice q 2 d,.slice (some ⟨w17.heap.size,0,none⟩) 2 2]) aK [⟨#[49]⟩,⟨#[48]⟩] aK [⟨#[49]⟩,⟨#[48]⟩] _ ⟨⟨_,_,_,_,rfl,HD.out.2.2.2.1.below hm,HD.out.2.2.2.2.below hm⟩⟩ ⟨⟨_,_,_,_,rfl,HP.out.lb.below hm,IsS.two w17 ⟨#[49]⟩ ⟨#[48]⟩⟩⟩ (by decide) (by decide) (by decide) (by decide))
 rw[show (decide (aK=aK)&&decide ([(⟨#[49]⟩:ByteArray),⟨#[48]⟩]=[⟨#[49]⟩,⟨#[48]⟩]))=true from by decide] at HU
 have HM:=BZ hm
 have x0:=HD.out.2.1
 have x1:=HD.out.2.2.1
 clear hm
 go_wp2_with fail
 refine HU.out.mono ?_
 rintro e w18 ⟨rfl,hb⟩
 have hb:=HM.out.trans (hb.mono HM.out.size)
 clear HU HM HD x0 x1
 have HP:=BZ (HP.out.below hb)
 have HB:=BZ (HB.out.trans ((hb).mono HB.out.size))
 clear hb k0 k1
 have k0:=HP.out.f0
 have k1:=HP.out.f1
 go_wp2_with fail
 refine (pR _ aI aK ⟨#[45,49,47,50]⟩ ⟨#[50]⟩ 1 w18 HP.out.F HP.out.G rfl (by decide) tS.1).mono ?_
 rintro e w19 ⟨rfl,hb⟩
 rw[tS.2]
 have HP:=BZ (HP.out.below hb)
 have HB:=BZ (HB.out.trans ((hb).mono HB.out.size))
 clear hb k0 k1
 have k0:=HP.out.f0
 have k1:=HP.out.f1
 go_wp2_with fail
 refine (pR _ aI aK ⟨#[48]⟩ ⟨#[51]⟩ 1 w19 HP.out.F HP.out.G rfl (by decide) tT.1).mono ?_
 rintro e w20 ⟨rfl,hb⟩
 rw[tT.2]
 have HP:=BZ (HP.out.below hb)
 have HB:=BZ (HB.out.trans ((hb).mono HB.out.size))
 clear hb k0 k1
 have k0:=HP.out.f0
 have k1:=HP.out.f1
 have hm:=ae w20 (.cells #[.string ⟨#[45,50]⟩,.string ⟨#[45,49]⟩,.string ⟨#[48]⟩,.string ⟨#[49]⟩,.string ⟨#[50]⟩,.string ⟨#[51]⟩] 22)
 have HU:=BZ (tB (.agg #[.slice p 2 c,.slice q 2 d]) (.slice (some ⟨w20.heap.size,0,none⟩) 6 6) _ (HP.out.F.below hm) (jT w20 fX (by decide)) (HP.out.G.below hm))
 have HM:=BZ hm
 clear hm
 go_wp2_with fail
 refine HU.out.mono ?_
 rintro e w21 ⟨rfl,hb⟩
 have hb:=HM.out.trans (hb.mono HM.out.size)
 clear HU HM
 have HP:=BZ (HP.out.below hb)
 have HB:=BZ (HB.out.trans ((hb).mono HB.out.size))
 clear hb k0 k1
 have k0:=HP.out.f0
 have k1:=HP.out.f1
 go_upto_region 21 with fail
 have r2:=heap_alloc_new w21 (.cells #[.string ⟨#[48]⟩,.string ⟨#[50]⟩] 79 (0,0))
 have hb:=ae w21 (.cells #[.string ⟨#[48]⟩,.string ⟨#[50]⟩] 79)
 have zz:=size_alloc w21 (.cells #[.string ⟨#[48]⟩,.string ⟨#[50]⟩] 79)
 generalize w21.alloc (.cells #[.string ⟨#[48]⟩,.string ⟨#[50]⟩] 79)=w22 at *
 obtain⟨gm,hgm⟩:∃ x,x=w21.heap.size:=⟨_,rfl⟩
 rw[←hgm] at r2 ⊢
 clear zz hgm
 have HP:=BZ (HP.out.below hb)
 have HB:=BZ (HB.out.trans ((hb).mono HB.out.size))
 clear hb k0 k1
 have k0:=HP.out.f0
 have k1:=HP.out.f1
 go_wp2_with fail
 refine (zI _ aI aK w22 HP.out.F HP.out.G).mono ?_
 rintro e w23 ⟨rfl,hb⟩
 rw[fc.2.2.2.1]
 have r2:=(hb.block gm (Cj.1 r2).1).trans r2
 have y0:=ah r2 0
 have y1:=ah r2 1
 simp only[Eq,Ek,DW] at y0 y1
 clear r2
 have HP:=BZ (HP.out.below hb)
 have HB:=BZ (HB.out.trans ((hb).mono HB.out.size))
 clear hb k0 k1
 have k0:=HP.out.f0
 have k1:=HP.out.f1
 go_wp2
 go_ret
 exact⟨rfl,HB.out⟩
end Go.Proofs.YtdlioncecgnloaaGreatDoor
