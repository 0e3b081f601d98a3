/- Lemmas of this claim. -/
import Derived.Test.YtbnkpcfjechfiaaGreatDoorZLP2
import Derived.Test.YtbnkpcfjechfiaaGreatDoorZPD1
import Derived.Test.YtbnkpcfjechfiaaGreatDoorZPM8
import Derived.Test.YtbnkpcfjechfiaaGreatDoorZLB3
import Derived.Test.YtbnkpcfjechfiaaGreatDoorZLE5
set_option linter.all false
set_option maxRecDepth 100000
set_option maxHeartbeats 8000000
namespace Go.Proofs.YtbnkpcfjechfiaaGreatDoor
open Go.RowKit Go.Shelf Dg
def lB (ls:List (List ByteArray)):Nat→List ByteArray
 | 0=>[⟨#[49]⟩]
 | i+1=>ls.getD i []
def gZ (l:List ByteArray):List ByteArray:=lB (bo l) (bo l).length
def dR (a b l:List ByteArray):Bool×Int:=if aB a b=true then if l.length+1=b.length then (decide (gZ l=b),0) else (false,0) else (false,30)
theorem lW:∀ (l p q:List ByteArray),q∈bE l p→q.length≤p.length+l.length
 | [],_,_,h=>by simp[bE] at h
 | k :: ks,p,q,h=>by
  unfold bE at h
  split at h
  ·rcases Gp.1 h with rfl | h
   ·rw[d8];simp
   ·have:=lW ks (dS k p) q h
    rw[d8] at this
    simp;omega
  ·cases h
theorem yJ (l:List ByteArray):(gZ l).length≤l.length+1:=by
 unfold gZ
 cases h:(bo l).length with
 | zero=>simp[lB]
 | succ i =>
  show ((bo l).getD i []).length≤_
  have hi:i<(bo l).length:=by omega
  rw[FA,FB hi]
  have:=lW l [⟨#[49]⟩] _ (FJ hi)
  simp at this ⊢
  omega
structure DS (w:World) (g b7:Nat) (x y:Value) (l:List ByteArray) (i:Nat) (W:World):Prop where
 box:∃ v,W.heap[b7]?=some (.cells #[v] 22 (0,0))∧IsS W v (lB (bo l) i)
 fil:W.heap[g]?=some (.cells #[x,y] 24 (0,0))
 bel:Below w.heap.size w W
theorem wC {w:World}{g:Nat}{v:Value}{T:TypeId} (h:w.heap[g]?=some (.cells #[v] T (0,0))) (hv:∀ s,v≠.string s):rS (fun k=>k=g) Cl w:=by
 rintro k rfl j u hc
 rw[World.cell?,h] at hc
 simp only[Ga,FL,if_false] at hc
 have hj:j=0:=by
  have:=(Fs.1 hc).1
  simpa using this
 subst hj
 simp at hc
 subst hc
 rintro⟨s,e⟩
 exact hv s e
theorem Cz (v:Value) (l:List ByteArray) (w:World) (hl:IsS w v l) :
  Calls Tryz.prog 43 #[v] w fun e w'=>e=.returned (.func (.func 97) #[] #[.pointer (some ⟨w.heap.size,0,none⟩)])∧w'.heap[w.heap.size]?=some (.cells #[v] 22 (0,0))∧w.heap.size<w'.heap.size∧IsS w' v l∧Below w.heap.size w w':=by
 obtain⟨p,c,rfl,-⟩:=id hl.form
 have c0:=heap_alloc_new w (.cells #[.slice p l.length c] 22 (0,0))
 have m1:=aj w (.cells #[.slice p l.length c] 22)
 have z1:=size_alloc w (.cells #[.slice p l.length c] 22)
 have HL:=Ff (hl.below m1)
 have H0:=Ff (And.intro c0 (And.intro (show w.heap.size<(w.alloc (.cells #[.slice p l.length c] 22)).heap.size by omega) m1))
 clear c0 m1 z1 hl
 go_enter Tryz.func43,Tryz.ntmps43
 go_wp2
 go_ret
 exact⟨rfl,H0.out.1,H0.out.2.1,HL.out,H0.out.2.2⟩
attribute [local go_sem] Oper.semAt_some
theorem wh (v vl:Value) (a b l:List ByteArray) (w:World) (hF:IsF w v a b) (hl:IsS w vl l) (hG:Gx w) :
  Calls Tryz.prog 12 #[v,vl] w fun e w'=>e=.returned (.tuple #[.bool (dR a b l).1,.int .i64 (dR a b l).2])∧Below w.heap.size w w':=by
 obtain⟨p,c,q,d,rfl,hfa,hfb⟩:=id hF.ex
 obtain⟨pl,cl,rfl,-⟩:=id hl.form
 have HG0:=Ff hG
 have HB0:=Ff hfb
 refine (callsIn_wide (n:=9)).1 ?_
 refine callsIn_of_wp_marks Tryz.func12 rfl trivial ?_ rfl
 simp only[Tryz.ntmps12,Ik,FH,Gc,Nat.reduceAdd,Nat.reduceSub,Hu,Hv,Ij,H4,FS,FX]
 gi_upto_region 1 with fail
 have cc:=aE w (.slice p a.length c) (.slice q b.length d)
 have m1:=aj w (.cells #[.slice p a.length c,.slice q b.length d] 24)
 have zz:=size_alloc w (.cells #[.slice p a.length c,.slice q b.length d] 24)
 have rr:=heap_alloc_new w (.cells #[.slice p a.length c,.slice q b.length d] 24 (0,0))
 generalize w.alloc (.cells #[.slice p a.length c,.slice q b.length d] 24)=w1 at *
 obtain⟨g,hg⟩:∃ g,g=w.heap.size:=⟨_,rfl⟩
 rw[←hg] at cc rr ⊢
 have HCK:=Ff (fm _ a b w1 (hF.below m1) (hG.below m1))
 have HB:=Ff (hfb.below m1)
 have HL:=Ff (hl.below m1)
 have c0:=cc.1
 have c1:=cc.2
 have hlt:g<w1.heap.size:=by omega
 have M1:=Ff m1
 have HGE:=Ff hg
 clear hfa hfb cc zz m1 hF hG hl hg
 by_cases hck:aB a b=true
 ·have HT:=Ff (show dR a b l=if l.length+1=b.length then (decide (gZ l=b),0) else (false,0) by unfold dR;rw[if_pos hck])
  have hce:aA a b=0:=by unfold aA;rw[if_pos hck]
  rw[hce] at HCK
  obtain⟨ob1,ob7,-⟩:=bf hck
  clear hce hck
  gi_wp2_with fail
  refine⟨trivial,(callsIn_wide.2 HCK.out).mono ?_⟩
  rintro e w2 ⟨rfl,hb2⟩
  have d0:=ag hb2 hlt c0
  have d1:=ag hb2 hlt c1
  have rr2:=(hb2.block g hlt).trans rr
  have HB2:=Ff (HB.out.below hb2)
  have HL2:=Ff (HL.out.below hb2)
  have M2:=Ff (M1.out.trans (hb2.mono M1.out.size))
  have hlt2:g<w2.heap.size:=Fo hlt hb2.size
  clear c0 c1 rr HB HL HCK M1 hb2 hlt
  by_cases hlen:l.length+1=b.length
  ·have hbI:((b.length:Nat):Int)-1=(l.length:Int):=by omega
   have HT:=Ff (show dR a b l=(decide (gZ l=b),0) by rw[HT.out,if_pos hlen])
   have HLN:=Ff hlen
   clear hlen
   gi_wp2_with fail
   have m3:=aj w2 (.cells #[.string ⟨#[49]⟩] 34)
   have z3:=size_alloc w2 (.cells #[.string ⟨#[49]⟩] 34)
   have h3:=mH w2 ⟨#[49]⟩
   generalize w2.alloc (.cells #[.string ⟨#[49]⟩] 34)=w3 at *
   have m4:=aj w3 (.cells #[.slice (some ⟨w2.heap.size,0,none⟩) 1 1] 22)
   have r4:=heap_alloc_new w3 (.cells #[.slice (some ⟨w2.heap.size,0,none⟩) 1 1] 22 (0,0))
   generalize w3.alloc (.cells #[.slice (some ⟨w2.heap.size,0,none⟩) 1 1] 22)=w4 at *
   have hB4:=m3.trans (m4.mono m3.size)
   have h4:=h3.below m4
   rw[z3] at r4
   have hl4:=HL2.out.below hB4
   have rr4:=(hB4.block g hlt2).trans rr2
   obtain⟨b7,hb7⟩:∃ b,b=w2.heap.size+1:=⟨_,rfl⟩
   rw[←hb7] at r4 ⊢
   have hM4:=M2.out.trans (hB4.mono M2.out.size)
   have hbw:w.heap.size≤b7:=by have:=M2.out.size;omega
   have hgb:g≠b7:=by omega
   clear d0 d1 rr2 HL2 m3 z3 h3 m4 hB4 M2 hlt2 hb7
   refine⟨trivial,(callsIn_wide.2 (Cz _ l w4 hl4)).mono ?_⟩
   rintro e w5 ⟨rfl,rb5,hlt5,hl5,hb5⟩
   obtain⟨gb,hgb5⟩:∃ g,g=w4.heap.size:=⟨_,rfl⟩
   have h5:=h4.below hb5
   have r5:=(hb5.block b7 (Fs.1 r4).1).trans r4
   have rr5:=(hb5.block g (Fs.1 rr4).1).trans rr4
   have hM5:=hM4.trans (hb5.mono hM4.size)
   have hne5:gb≠b7:=by have:=(Fs.1 r4).1;omega
   have hlt7:b7<w5.heap.size:=(Fs.1 r5).1
   rw[←hgb5] at rb5 hlt5 ⊢
   have hll:l.length<1000:=by have:=HLN.out;omega
   clear h4 r4 rr4 hl4 hb5 hgb5 hM4
   gi_wp2
   refine mt (gf:=97) (bnd:=#[]) (lb:=#[.pointer (some ⟨gb,0,none⟩)]) (E:=zF l) (len:=(bo l).length) (Sb:=fun k=>k=b7) (Si:=fun _=>False) (Ok:=fun W=>rS (fun k=>k=b7) Cl W∧Gw W) rfl (by omega) rfl trivial ?eg ?hSb ?hSi (qE 8 (by omega) gb _ l w5 _ rb5 hl5 hll hne5) ?hps
    (DS w g b7 (.slice p a.length c) (.slice q b.length d) l) ?hI ?hOk ?h0
    (fun i a1 W=>∃ v ps,a1={ tmps:=#[.agg #[.slice p a.length c,.slice q b.length d],.slice pl l.length cl,.pointer (some ⟨g,0,none⟩),undef,.bool false,.int .i64 0,.int .i64 0,.pointer (some ⟨b7,0,none⟩),v,.agg #[.slice p a.length c,.slice q b.length d],.int .i64 0,.int .i64 0,.bool false,undef,.slice pl l.length cl,.int .i64 l.length,.pointer (some ⟨g,1,none⟩),.slice q b.length d,.int .i64 b.length,.int .i64 l.length,.bool false,.slice (some ⟨w2.heap.size,0,none⟩) 1 1,.slice pl l.length cl,.func (.func 97) #[] #[.pointer (some ⟨gb,0,none⟩)],v,undef,undef,undef,undef,undef],defers:=[] }∧(bo l)[i]?=some ps∧IsS W v ps∧DS w g b7 (.slice p a.length c) (.slice q b.length d) l i W) ?hI1 ?hassign ?hbody ?hdone
   case eg=>exact bV Tryz.func97 rfl (by kernel_rfl)
   case hSb=>rintro k rfl;exact hlt7
   case hSi=>rintro k hk;exact hk.elim
   case hps=>rintro i W vs ⟨v,ps,rfl,-,-⟩;rfl
   case hI =>
    rintro i W W' ⟨⟨v,h1,h2⟩,h3,h4⟩ hB
    exact⟨⟨v,hB.cells h1 id,h2.keep (jg.of_bes hB (fun k hk=>hk.elim))⟩,hB.cells h3 id,hB.below h4 hM5.size h4.size (fun k e=>e.elim)⟩
   case hOk =>
    rintro i W ⟨⟨v,h1,h2⟩,h3,h4⟩
    obtain⟨pv,cv,rfl,-⟩:=id h2.form
    exact⟨wC h1 (by intro s e;cases e),(HG0.out.below h4).g⟩
   case h0=>exact⟨⟨_,r5,h5⟩,rr5,hM5⟩
   case hI1 =>
    rintro i a1 W W' ⟨v,ps,e,hv,hs,⟨v',h1,h2⟩,h3,h4⟩ hB
    exact⟨v,ps,e,hv,hs.keep (jg.of_bes hB (fun k hk=>hk.elim)),⟨v',hB.cells h1 id,h2.keep (jg.of_bes hB (fun k hk=>hk.elim))⟩,hB.cells h3 id,hB.below h4 hM5.size h4.size (fun k e=>e.elim)⟩
   case hassign =>
    rintro y i hi W vs hI ⟨v,ps,rfl,hv,hs⟩
    rw[ug]
    simp only[Fg,Fk,Fl]
    gi_wp2
    exact⟨cF.refl _ _,v,ps,rfl,hv,hs,hI⟩
   case hbody =>
    rintro y i hi a1 W ⟨v,ps,rfl,hv,hs,⟨v',h1,h2⟩,h3,h4⟩
    obtain⟨pv,cv,rfl,-⟩:=id hs.form
    obtain⟨pv',cv',rfl,-⟩:=id h2.form
    obtain⟨k7,f7⟩:=dM h1
    have hT:=cF.set (S:=fun k=>k=b7) (w:=W) rfl 0 (.slice pv ps.length cv)
    have hS:=(hs.keep (jg.of_turns hT (wC h1 (by intro s e;cases e))))
    have hL:lB (bo l) (i+1)=ps:=by
     show (bo l).getD i []=ps
     rw[FA,hv];rfl
    have HRes:=Ff (show cF (fun k=>k=b7) W (W.setCell ⟨b7,0,none⟩ (.slice pv ps.length cv))∧DS w g b7 (.slice p a.length c) (.slice q b.length d) l (i+1) (W.setCell ⟨b7,0,none⟩ (.slice pv ps.length cv)) from
     ⟨hT,⟨_,heap_setCell_same W b7 0 _ _ _ h1,by rw[hL];exact hS⟩,(Below.heap_setCell W ⟨b7,0,none⟩ _ g hgb).trans h3,h4.setCell (p:=⟨b7,0,none⟩) hbw _⟩)
    clear h1 h2 h3 h4 hT hS hs hv hL r5 h5 rr5
    gi_wp2
    exact HRes.out
   case hdone =>
    rintro D W hD ⟨⟨v,h1,h2⟩,h3,h4⟩ hK
    have hLB:=yJ l
    have hz:=hM5.size
    obtain⟨lb,hlb⟩:∃ x,x=gZ l:=⟨_,rfl⟩
    rw[show lB (bo l) (bo l).length=lb from hlb.symm] at h2
    have HTL:=Ff (show dR a b l=(decide (lb=b),0) by rw[HT.out,←hlb])
    rw[←hlb] at hLB
    obtain⟨pv,cv,rfl,-⟩:=id h2.form
    have k7:=(dM h1).1
    have c0:=ar h3 0
    have c1:=ar h3 1
    have HEQ:=Ff (D9 _ _ lb b W h2 (HB0.out.below h4) (by omega) (by omega))
    obtain⟨bq,hbq⟩:∃ x,x=decide (lb=b):=⟨_,rfl⟩
    rw[←hbq] at HEQ HTL
    have HM:=Ff h4
    have HK:=Ff hK
    have HD:=Ff (show w.heap.size≤D by omega)
    simp only[Iq,If,Hi] at c0 c1
    clear h1 h2 h3 h4 hK hlb hbq rb5 hl5 h5 r5 rr5 hM5 hLB hz
    gi_wp2_with fail
    refine⟨trivial,(callsIn_wide.2 HEQ.out).mono ?_⟩
    rintro e W2 ⟨rfl,hb2⟩
    have HK2:=Ff ((hb2.block D (Fs.1 HK.out).1).trans HK.out)
    have HM2:=Ff (HM.out.trans (hb2.mono HM.out.size))
    clear hb2 HEQ k7 c0 c1
    gi_wp2
    refine⟨by simp,.inl ⟨_,_,rfl,run_takeDeferred HK2.out,?_⟩⟩
    refine⟨.tuple #[.bool bq,.int .i64 0],by simp[results,Tryz.results12,go_sem],by rw[HTL.out],HM2.out.trans ⟨rfl,rfl,rfl,by simp,fun k hk=>World.putObj_heap_other (by have:=HD.out;omega)⟩⟩
  ·have hne:((l.length:Int) != (b.length:Int)-1)=true:=by simp;omega
   have HE:=Ff (show dR a b l=(false,0) by rw[HT.out,if_neg hlen])
   clear hlen
   gi_wp2
   refine⟨.tuple #[.bool false,.int .i64 0],by simp[results,Tryz.results12,go_sem],by rw[HE.out],M2.out⟩
 ·have HE:=Ff (show dR a b l=(false,30) by unfold dR;rw[if_neg hck])
  have hce:aA a b=30:=by unfold aA;rw[if_neg hck]
  rw[hce] at HCK
  clear hce
  gi_wp2_with fail
  refine⟨trivial,(callsIn_wide.2 HCK.out).mono ?_⟩
  rintro e w2 ⟨rfl,hb2⟩
  gi_wp2
  refine⟨.tuple #[.bool false,.int .i64 30],by simp[results,Tryz.results12,go_sem],by rw[HE.out],M1.out.trans (hb2.mono M1.out.size)⟩
open Go.RowKit Dg
structure xT (w:World) (g:Nat) (p:Option Addr) (c:Nat) (q:Option Addr) (d:Nat):Prop where
 f0:w.cell? ⟨g,0,none⟩=some (.slice p 2 c)
 f1:w.cell? ⟨g,1,none⟩=some (.slice q 2 d)
 la:IsS w (.slice p 2 c) aW
 lb:IsS w (.slice q 2 d) aX
 G:Gx w
 lt:g<w.heap.size
theorem xT.below {w w':World}{g:Nat}{p:Option Addr}{c:Nat}{q:Option Addr}{d:Nat} (h:xT w g p c q d) (hb:Below w.heap.size w w'):xT w' g p c q d :=
 ⟨ag hb h.lt h.f0,ag hb h.lt h.f1,h.la.below hb,h.lb.below hb,h.G.below hb,Fo h.lt hb.size⟩
theorem xT.F {w:World}{g:Nat}{p:Option Addr}{c:Nat}{q:Option Addr}{d:Nat} (h:xT w g p c q d):IsF w (.agg #[.slice p 2 c,.slice q 2 d]) aW aX:=⟨⟨p,c,q,d,rfl,h.la,h.lb⟩⟩
theorem lz:kc aW aX 4=0∧eY aW aX (gT 4) 4=[⟨#[48]⟩,⟨#[49,47,50]⟩,⟨#[49,47,52]⟩,⟨#[49,47,56]⟩]:=by decide +kernel
theorem gM:aY aX=some [⟨#[45,49,47,50]⟩]∧aB aW [⟨#[49]⟩,⟨#[45,50]⟩]=true∧aY [⟨#[49]⟩,⟨#[45,50]⟩]=none:=by decide +kernel
theorem sJ:dR aW [⟨#[49]⟩,⟨#[49,47,52]⟩,⟨#[45,49,47,50]⟩] [⟨#[49,47,50]⟩,⟨#[45,49,47,50]⟩]=(true,0):=by decide +kernel
theorem sK:fe aX (ofT 33)=true∧∀ m,m<33→1≤m→fe aX (ofT m)=false:=by decide +kernel
theorem gz:dY aW aX=(⟨#[49,47,51]⟩,0)∧fW aW aX ⟨#[45,49]⟩=(⟨#[45,49,47,51]⟩,0)∧fW aW aX ⟨#[49,47,50]⟩=(⟨#[]⟩,32)∧eT aW aX=(5,0)∧ky aW aX=((aW,[⟨#[49]⟩,⟨#[48]⟩]),0)∧rP aW aX=((aX,[⟨#[49]⟩,⟨#[48]⟩]),0):=by decide +kernel
theorem kP (w:World) (l:List ByteArray) (h:l.length<1000):IsS (w.alloc (.cells (l.map Value.string).toArray 34)) (.slice (some ⟨w.heap.size,0,none⟩) l.length l.length) l :=
 cL.isS (base:=w.heap.size) (by
  refine⟨by simp,Or.inr ⟨w.heap.size,l.length,_,rfl,Fm _,heap_alloc_new w _,Fm _,by unfold maxLen;omega,by simp,by simp[Fu]⟩⟩)
theorem EF (w:World) (hG:Gx w):Calls Tryz.prog 14 #[] w fun e w'=>e=.returned (.bool true)∧Below w.heap.size w w':=by
 go_enter Tryz.func14,Tryz.ntmps14
 go_wp2_with fail
 refine (EZ w).mono ?_
 rintro e w1 ⟨v1,rfl,hF,hb1⟩
 obtain⟨p,c,q,d,rfl,hA,hB⟩:=id hF.ex
 rw[show aW.length=2 from rfl] at hA ⊢
 rw[show aX.length=2 from rfl] at hB ⊢
 have cc:=aE w1 (.slice p 2 c) (.slice q 2 d)
 have m2:=aj w1 (.cells #[.slice p 2 c,.slice q 2 d] 24)
 have z2:=size_alloc w1 (.cells #[.slice p 2 c,.slice q 2 d] 24)
 go_upto_region 2 with fail
 generalize w1.alloc (.cells #[.slice p 2 c,.slice q 2 d] 24)=w2 at *
 obtain⟨g,hg⟩:∃ g,g=w1.heap.size:=⟨_,rfl⟩
 rw[←hg] at cc ⊢
 have HP:=Ff (show xT w2 g p c q d from⟨cc.1,cc.2,hA.below m2,hB.below m2,(hG.below hb1).below m2,by omega⟩)
 have HB:=Ff (hb1.trans (m2.mono hb1.size))
 have k0:=HP.out.f0
 have k1:=HP.out.f1
 clear cc m2 z2 hA hB hF hb1 hG hg
 go_wp2_with fail
 refine (xW _ aW aX 4 w2 HP.out.F HP.out.G).mono ?_
 rintro e w3 ⟨vr,rfl,hvr,-,hb⟩
 have HR:=Ff (hvr lz.1)
 rw[show (4:Int).toNat=4 from rfl,lz.2] at HR
 rw[lz.1]
 clear hvr
 have HP:=Ff (HP.out.below hb)
 have HB:=Ff (HB.out.trans ((hb).mono HB.out.size))
 clear hb k0 k1
 have k0:=HP.out.f0
 have k1:=HP.out.f1
 go_wp2_with fail
 refine (ut _ aW aX w3 HP.out.F HP.out.G).mono ?_
 rintro e w4 ⟨vp,er,rfl,hcase,hb⟩
 have HPR:er=0∧Hid (IsS w4 vp [⟨#[45,49,47,50]⟩]):=by
  rcases hcase with ⟨pf,-,h1,rfl,h2,-⟩ | ⟨-,h1,-⟩ | ⟨h1,-⟩
  ·rw[gM.1] at h1
   cases h1
   exact⟨rfl,h2⟩
  ·rw[gM.1] at h1;cases h1
  ·rw[fq] at h1;cases h1
 obtain⟨rfl,HPR⟩:=HPR
 have HR:=Ff (HR.out.below hb)
 clear hcase
 have HP:=Ff (HP.out.below hb)
 have HB:=Ff (HB.out.trans ((hb).mono HB.out.size))
 clear hb k0 k1
 have k0:=HP.out.f0
 have k1:=HP.out.f1
 have hm:=aj w4 (.cells #[.string ⟨#[49]⟩,.string ⟨#[45,50]⟩] 34)
 have HU:=Ff (ut _ aW [⟨#[49]⟩,⟨#[45,50]⟩] _ ⟨⟨p,c,_,_,rfl,HP.out.la.below hm,IsS.two w4 ⟨#[49]⟩ ⟨#[45,50]⟩⟩⟩ (HP.out.G.below hm))
 have HM:=Ff hm
 clear hm
 go_wp2_with fail
 refine HU.out.mono ?_
 rintro e w5 ⟨vx,er,rfl,hcase,hb⟩
 obtain rfl:er=31:=by
  rcases hcase with ⟨pf,-,h1,-⟩ | ⟨-,-,h,-⟩ | ⟨h1,-⟩
  ·rw[gM.2.2] at h1;cases h1
  ·exact h
  ·rw[gM.2.1] at h1;cases h1
 have hb:=HM.out.trans (hb.mono HM.out.size)
 have HR:=Ff (HR.out.below hb)
 have HPR:=Ff (HPR.out.below hb)
 clear hcase HU HM
 have HP:=Ff (HP.out.below hb)
 have HB:=Ff (HB.out.trans ((hb).mono HB.out.size))
 clear hb k0 k1
 have k0:=HP.out.f0
 have k1:=HP.out.f1
 have hm:=aj w5 (.cells #[.string ⟨#[49]⟩,.string ⟨#[49,47,52]⟩,.string ⟨#[45,49,47,50]⟩] 34)
 have hl:=kP w5 [⟨#[49]⟩,⟨#[49,47,52]⟩,⟨#[45,49,47,50]⟩] (by decide)
 have hm2:=aj (w5.alloc (.cells #[.string ⟨#[49]⟩,.string ⟨#[49,47,52]⟩,.string ⟨#[45,49,47,50]⟩] 34)) (.cells #[.string ⟨#[49,47,50]⟩,.string ⟨#[45,49,47,50]⟩] 34)
 have hl2:=IsS.two (w5.alloc (.cells #[.string ⟨#[49]⟩,.string ⟨#[49,47,52]⟩,.string ⟨#[45,49,47,50]⟩] 34)) ⟨#[49,47,50]⟩ ⟨#[45,49,47,50]⟩
 have hM:=hm.trans (hm2.mono hm.size)
 have HU:=Ff (wh _ _ aW [⟨#[49]⟩,⟨#[49,47,52]⟩,⟨#[45,49,47,50]⟩] [⟨#[49,47,50]⟩,⟨#[45,49,47,50]⟩] _ ⟨⟨p,c,_,_,rfl,HP.out.la.below hM,hl.below hm2⟩⟩ hl2 (HP.out.G.below hM))
 rw[sJ] at HU
 have HM:=Ff hM
 rw[size_alloc] at HU
 clear hm hm2 hl hl2 hM
 go_wp2_with fail
 refine HU.out.mono ?_
 rintro e w6 ⟨rfl,hb⟩
 have hb:=HM.out.trans (hb.mono HM.out.size)
 have HR:=Ff (HR.out.below hb)
 have HPR:=Ff (HPR.out.below hb)
 clear HU HM
 have HP:=Ff (HP.out.below hb)
 have HB:=Ff (HB.out.trans ((hb).mono HB.out.size))
 clear hb k0 k1
 have k0:=HP.out.f0
 have k1:=HP.out.f1
 have hm:=aj w6 (.cells #[.string ⟨#[48]⟩,.string ⟨#[49,47,50]⟩,.string ⟨#[49,47,52]⟩,.string ⟨#[49,47,56]⟩] 34)
 have HU:=Ff (gD _ _ _ _ _ (HR.out.below hm) (kP w6 [⟨#[48]⟩,⟨#[49,47,50]⟩,⟨#[49,47,52]⟩,⟨#[49,47,56]⟩] (by decide)) (by decide) (by decide))
 rw[decide_eq_true (rfl:[(⟨#[48]⟩:ByteArray),⟨#[49,47,50]⟩,⟨#[49,47,52]⟩,⟨#[49,47,56]⟩]=_)] at HU
 have HM:=Ff hm
 clear hm
 go_wp2_with fail
 refine HU.out.mono ?_
 rintro e w7 ⟨rfl,hb⟩
 have hb:=HM.out.trans (hb.mono HM.out.size)
 have HPR:=Ff (HPR.out.below hb)
 clear HU HM HR
 have HP:=Ff (HP.out.below hb)
 have HB:=Ff (HB.out.trans ((hb).mono HB.out.size))
 clear hb k0 k1
 have k0:=HP.out.f0
 have k1:=HP.out.f1
 have hm:=aj w7 (.cells #[.string ⟨#[45,49,47,50]⟩] 34)
 have HU:=Ff (gD _ _ _ _ _ (HPR.out.below hm) (kP w7 [⟨#[45,49,47,50]⟩] (by decide)) (by decide) (by decide))
 rw[decide_eq_true (rfl:[(⟨#[45,49,47,50]⟩:ByteArray)]=_)] at HU
 have HM:=Ff hm
 clear hm
 go_wp2_with fail
 refine HU.out.mono ?_
 rintro e w8 ⟨rfl,hb⟩
 have hb:=HM.out.trans (hb.mono HM.out.size)
 clear HU HM HPR
 have HP:=Ff (HP.out.below hb)
 have HB:=Ff (HB.out.trans ((hb).mono HB.out.size))
 clear hb k0 k1
 have k0:=HP.out.f0
 have k1:=HP.out.f1
 go_wp2_with fail
 refine (Ct _ aW aX w8 HP.out.F HP.out.G).mono ?_
 rintro e w9 ⟨nr,er,rfl,hcase,hb⟩
 obtain⟨rfl,rfl⟩:er=0∧nr=33:=by
  rcases hcase with ⟨-,-,rfl,k,rfl,k1,k64,hk,hlt⟩ | ⟨-,h,-⟩ | ⟨h,-⟩
  ·refine⟨rfl,?_⟩
   rcases IK k 33 with h | h | h
   ·have:=sK.2 k h k1
    rw[hk] at this;cases this
   ·rw[h];rfl
   ·have:=hlt 33 (by decide) h
    rw[sK.1] at this;cases this
  ·rw[gM.1] at h;cases h
  ·rw[fq] at h;cases h
 clear hcase
 have HP:=Ff (HP.out.below hb)
 have HB:=Ff (HB.out.trans ((hb).mono HB.out.size))
 clear hb k0 k1
 have k0:=HP.out.f0
 have k1:=HP.out.f1
 go_wp2_with fail
 refine (Co _ aW aX w9 HP.out.F HP.out.G).mono ?_
 rintro e w10 ⟨rfl,hb⟩
 rw[gz.1]
 have HP:=Ff (HP.out.below hb)
 have HB:=Ff (HB.out.trans ((hb).mono HB.out.size))
 clear hb k0 k1
 have k0:=HP.out.f0
 have k1:=HP.out.f1
 go_wp2_with fail
 refine (pt _ aW aX _ w10 HP.out.F HP.out.G).mono ?_
 rintro e w11 ⟨rfl,hb⟩
 rw[gz.2.1]
 have HP:=Ff (HP.out.below hb)
 have HB:=Ff (HB.out.trans ((hb).mono HB.out.size))
 clear hb k0 k1
 have k0:=HP.out.f0
 have k1:=HP.out.f1
 go_wp2_with fail
 refine (pt _ aW aX _ w11 HP.out.F HP.out.G).mono ?_
 rintro e w12 ⟨rfl,hb⟩
 rw[gz.2.2.1]
 have HP:=Ff (HP.out.below hb)
 have HB:=Ff (HB.out.trans ((hb).mono HB.out.size))
 clear hb k0 k1
 have k0:=HP.out.f0
 have k1:=HP.out.f1
 go_wp2_with fail
 refine (Cm _ aW aX w12 HP.out.F HP.out.G).mono ?_
 rintro e w13 ⟨vc,rfl,hfc,hb⟩
 rw[gz.2.2.2.2.1] at hfc ⊢
 have HP:=Ff (HP.out.below hb)
 have HB:=Ff (HB.out.trans ((hb).mono HB.out.size))
 clear hb k0 k1
 have k0:=HP.out.f0
 have k1:=HP.out.f1
 obtain⟨pc,cc,qc,dc,e,hca,hcb,-,-⟩:=hfc.ex
 replace e:vc=.agg #[.slice pc 2 cc,.slice qc 2 dc]:=e
 replace hca:IsS w13 (.slice pc 2 cc) aW:=hca
 replace hcb:IsS w13 (.slice qc 2 dc) [⟨#[49]⟩,⟨#[48]⟩]:=hcb
 subst e
 clear hfc
 go_upto_region 15 with fail
 have kk:=aE w13 (.slice pc 2 cc) (.slice qc 2 dc)
 have hb:=aj w13 (.cells #[.slice pc 2 cc,.slice qc 2 dc] 24)
 have zz:=size_alloc w13 (.cells #[.slice pc 2 cc,.slice qc 2 dc] 24)
 generalize w13.alloc (.cells #[.slice pc 2 cc,.slice qc 2 dc] 24)=w14 at *
 obtain⟨gc,hgc⟩:∃ x,x=w13.heap.size:=⟨_,rfl⟩
 rw[←hgc] at kk ⊢
 have HC:=Ff (And.intro (show gc<w14.heap.size by omega) (And.intro kk.1 (And.intro kk.2 (And.intro (hca.below hb) (hcb.below hb)))))
 clear hca hcb kk zz hgc
 have HP:=Ff (HP.out.below hb)
 have HB:=Ff (HB.out.trans ((hb).mono HB.out.size))
 clear hb k0 k1
 have k0:=HP.out.f0
 have k1:=HP.out.f1
 go_wp2_with fail
 refine (EP _ aW aX w14 HP.out.F HP.out.G).mono ?_
 rintro e w15 ⟨vd,rfl,hfc,hb⟩
 rw[gz.2.2.2.2.2] at hfc ⊢
 obtain⟨pd,cd,qd,dd,e,hda,hdb,-,-⟩:=hfc.ex
 replace e:vd=.agg #[.slice pd 2 cd,.slice qd 2 dd]:=e
 replace hda:IsS w15 (.slice pd 2 cd) aX:=hda
 replace hdb:IsS w15 (.slice qd 2 dd) [⟨#[49]⟩,⟨#[48]⟩]:=hdb
 subst e
 have hc:=HC.out
 have HC:=Ff (And.intro (Fo hc.1 hb.size) (And.intro (ag hb hc.1 hc.2.1) (And.intro (ag hb hc.1 hc.2.2.1) (And.intro (hc.2.2.2.1.below hb) (hc.2.2.2.2.below hb)))))
 clear hfc hc
 have HP:=Ff (HP.out.below hb)
 have HB:=Ff (HB.out.trans ((hb).mono HB.out.size))
 clear hb k0 k1
 have k0:=HP.out.f0
 have k1:=HP.out.f1
 go_upto_region 16 with fail
 have kk:=aE w15 (.slice pd 2 cd) (.slice qd 2 dd)
 have hb:=aj w15 (.cells #[.slice pd 2 cd,.slice qd 2 dd] 24)
 have zz:=size_alloc w15 (.cells #[.slice pd 2 cd,.slice qd 2 dd] 24)
 generalize w15.alloc (.cells #[.slice pd 2 cd,.slice qd 2 dd] 24)=w16 at *
 obtain⟨gd,hgd⟩:∃ x,x=w15.heap.size:=⟨_,rfl⟩
 rw[←hgd] at kk ⊢
 have HD:=Ff (And.intro (show gd<w16.heap.size by omega) (And.intro kk.1 (And.intro kk.2 (And.intro (hda.below hb) (hdb.below hb)))))
 have hc:=HC.out
 have HC:=Ff (And.intro (Fo hc.1 hb.size) (And.intro (ag hb hc.1 hc.2.1) (And.intro (ag hb hc.1 hc.2.2.1) (And.intro (hc.2.2.2.1.below hb) (hc.2.2.2.2.below hb)))))
 clear hda hdb kk zz hgd hc
 have HP:=Ff (HP.out.below hb)
 have HB:=Ff (HB.out.trans ((hb).mono HB.out.size))
 clear hb k0 k1
 have k0:=HP.out.f0
 have k1:=HP.out.f1
 have hm:=aj w16 (.cells #[.string ⟨#[49]⟩,.string ⟨#[48]⟩] 34)
 have HU:=Ff (DM (.agg #[.slice pc 2 cc,.slice qc 2 dc]) (.agg #[.slice p 2 c,.slice (some ⟨w16.heap.size,0,none⟩) 2 2]) aW [⟨#[49]⟩,⟨#[48]⟩] aW [⟨#[49]⟩,⟨#[48]⟩] _ ⟨⟨_,_,_,_,rfl,HC.out.2.2.2.1.below hm,HC.out.2.2.2.2.below hm⟩⟩ ⟨⟨_,_,_,_,rfl,HP.out.la.below hm,IsS.two w16 ⟨#[49]⟩ ⟨#[48]⟩⟩⟩ (by decide) (by decide) (by decide) (by decide))
 rw[show (decide (aW=aW)&&decide ([(⟨#[49]⟩:ByteArray),⟨#[48]⟩]=[⟨#[49]⟩,⟨#[48]⟩]))=true from by decide] at HU
 have HM:=Ff hm
 have x0:=HC.out.2.1
 have x1:=HC.out.2.2.1
 clear hm
 go_wp2_with fail
 refine HU.out.mono ?_
 rintro e w17 ⟨rfl,hb⟩
 have hb:=HM.out.trans (hb.mono HM.out.size)
 have hc:=HD.out
 have HD:=Ff (And.intro (Fo hc.1 hb.size) (And.intro (ag hb hc.1 hc.2.1) (And.intro (ag hb hc.1 hc.2.2.1) (And.intro (hc.2.2.2.1.below hb) (hc.2.2.2.2.below hb)))))
 clear HU HM hc HC x0 x1
 have HP:=Ff (HP.out.below hb)
 have HB:=Ff (HB.out.trans ((hb).mono HB.out.size))
 clear hb k0 k1
 have k0:=HP.out.f0
 have k1:=HP.out.f1
 have hm:=aj w17 (.cells #[.string ⟨#[49]⟩,.string ⟨#[48]⟩] 34)
 have HU:=Ff (DM (.agg #[.slice pd 2 cd,.slice qd 2 dd]) (.agg #[.slice q 2 d,.slice (some ⟨w17.heap.size,0,none⟩) 2 2]) aX [⟨#[49]⟩,⟨#[48]⟩] aX [⟨#[49]⟩,⟨#[48]⟩] _ ⟨⟨_,_,_,_,rfl,HD.out.2.2.2.1.below hm,HD.out.2.2.2.2.below hm⟩⟩ ⟨⟨_,_,_,_,rfl,HP.out.lb.below hm,IsS.two w17 ⟨#[49]⟩ ⟨#[48]⟩⟩⟩ (by decide) (by decide) (by decide) (by decide))
 rw[show (decide (aX=aX)&&decide ([(⟨#[49]⟩:ByteArray),⟨#[48]⟩]=[⟨#[49]⟩,⟨#[48]⟩]))=true from by decide] at HU
 have HM:=Ff hm
 have x0:=HD.out.2.1
 have x1:=HD.out.2.2.1
 clear hm
 go_wp2_with fail
 refine HU.out.mono ?_
 rintro e w18 ⟨rfl,hb⟩
 have hb:=HM.out.trans (hb.mono HM.out.size)
 clear HU HM HD x0 x1
 have HP:=Ff (HP.out.below hb)
 have HB:=Ff (HB.out.trans ((hb).mono HB.out.size))
 clear hb k0 k1
 have k0:=HP.out.f0
 have k1:=HP.out.f1
 go_wp2_with fail
 refine (rM _ aW aX ⟨#[45,49,47,50]⟩ ⟨#[50]⟩ 1 w18 HP.out.F HP.out.G rfl (by decide) wO.1).mono ?_
 rintro e w19 ⟨rfl,hb⟩
 rw[wO.2]
 have HP:=Ff (HP.out.below hb)
 have HB:=Ff (HB.out.trans ((hb).mono HB.out.size))
 clear hb k0 k1
 have k0:=HP.out.f0
 have k1:=HP.out.f1
 go_wp2_with fail
 refine (rM _ aW aX ⟨#[48]⟩ ⟨#[51]⟩ 1 w19 HP.out.F HP.out.G rfl (by decide) wP.1).mono ?_
 rintro e w20 ⟨rfl,hb⟩
 rw[wP.2]
 have HP:=Ff (HP.out.below hb)
 have HB:=Ff (HB.out.trans ((hb).mono HB.out.size))
 clear hb k0 k1
 have k0:=HP.out.f0
 have k1:=HP.out.f1
 have hm:=aj w20 (.cells #[.string ⟨#[45,50]⟩,.string ⟨#[45,49]⟩,.string ⟨#[48]⟩,.string ⟨#[49]⟩,.string ⟨#[50]⟩,.string ⟨#[51]⟩] 34)
 have HU:=Ff (v_ (.agg #[.slice p 2 c,.slice q 2 d]) (.slice (some ⟨w20.heap.size,0,none⟩) 6 6) _ (HP.out.F.below hm) (kP w20 it (by decide)) (HP.out.G.below hm))
 have HM:=Ff hm
 clear hm
 go_wp2_with fail
 refine HU.out.mono ?_
 rintro e w21 ⟨rfl,hb⟩
 have hb:=HM.out.trans (hb.mono HM.out.size)
 clear HU HM
 have HP:=Ff (HP.out.below hb)
 have HB:=Ff (HB.out.trans ((hb).mono HB.out.size))
 clear hb k0 k1
 have k0:=HP.out.f0
 have k1:=HP.out.f1
 go_upto_region 21 with fail
 have r2:=heap_alloc_new w21 (.cells #[.string ⟨#[48]⟩,.string ⟨#[50]⟩] 67 (0,0))
 have hb:=aj w21 (.cells #[.string ⟨#[48]⟩,.string ⟨#[50]⟩] 67)
 have zz:=size_alloc w21 (.cells #[.string ⟨#[48]⟩,.string ⟨#[50]⟩] 67)
 generalize w21.alloc (.cells #[.string ⟨#[48]⟩,.string ⟨#[50]⟩] 67)=w22 at *
 obtain⟨gm,hgm⟩:∃ x,x=w21.heap.size:=⟨_,rfl⟩
 rw[←hgm] at r2 ⊢
 clear zz hgm
 have HP:=Ff (HP.out.below hb)
 have HB:=Ff (HB.out.trans ((hb).mono HB.out.size))
 clear hb k0 k1
 have k0:=HP.out.f0
 have k1:=HP.out.f1
 go_wp2_with fail
 refine (Cn _ aW aX w22 HP.out.F HP.out.G).mono ?_
 rintro e w23 ⟨rfl,hb⟩
 rw[gz.2.2.2.1]
 have r2:=(hb.block gm (Fs.1 r2).1).trans r2
 have y0:=ar r2 0
 have y1:=ar r2 1
 simp only[Iq,If,Hi] at y0 y1
 clear r2
 have HP:=Ff (HP.out.below hb)
 have HB:=Ff (HB.out.trans ((hb).mono HB.out.size))
 clear hb k0 k1
 have k0:=HP.out.f0
 have k1:=HP.out.f1
 go_wp2
 go_ret
 exact⟨rfl,HB.out⟩
open Go.RowKit Dg Dc
def inK (k:Rat):Prop:=-1<k∧k<1
theorem Bz {q:Rat} (h:okQ q):fP (tq q).data.toList=true:=by
 have h1:=dT h
 unfold dy at h1
 unfold fP
 cases hg:gg (tq q).data.toList with
 | none=>rw[hg] at h1;cases h1
 | some z =>
  obtain⟨c,rfl,hc,-,-,-⟩:=gY hg
  have h2:dy (tq q)=some (CQ.real q):=dT h
  rw[h2] at hc
  obtain rfl:=Option.some.inj hc
  exact decide_eq_true (show (rt (0:Rat)).n=0 by rw[dz])
def eM (k:Rat) (p:List Rat):List Rat:=(List.range (p.length+1)).map fun i=>p.getD i 0+k*p.getD (p.length-i) 0
def upQ:List Rat→List Rat→List Rat
 | [],p=>p
 | k :: ks,p=>upQ ks (eM k p)
theorem lP (k:Rat) (p:List Rat):(eM k p).length=p.length+1:=by simp[eM]
theorem iC (k:Rat) (p:List Rat) (i:Nat) (h:i≤p.length):(eM k p).getD i 0=p.getD i 0+k*p.getD (p.length-i) 0:=by
 unfold eM
 rw[FA,Ho,List.getElem?_range (by omega)]
 rfl
theorem kN {l:List Rat}{i:Nat} (h:l.length≤i):l.getD i 0=0:=by
 rw[FA,GM h];rfl
theorem sT {l m:List Rat} (hl:l.length=m.length) (h:∀ i,i<l.length→l.getD i 0=m.getD i 0):l=m:=by
 refine IM hl fun i h1 h2=>?_
 have:=h i h1
 rw[FA,FA,FB h1,FB h2] at this
 exact this
theorem DC {k:Rat} (h:inK k):1-k*k≠0:=by have:=rE h.1 h.2;grind
theorem Dv {p:List Rat}{j:Nat}{k:Rat} (hl:p.length=j+2) (h0:p.getD 0 0=1) (hk:p.getD (j+1) 0=k) (hd:1-k*k≠0):eM k (dh p (j+1) k)=p:=by
 refine sT (by rw[lP,ci,hl]) fun i hi=>?_
 rw[lP,ci] at hi
 rw[iC _ _ _ (by rw[ci];omega),ci]
 by_cases i0:i=0
 ·subst i0
  rw[eK _ _ _ _ (by omega),Ie,pS _ _ _ _ (Fm _),h0,hk]
  grind
 ·by_cases i1:i=j+1
  ·subst i1
   rw[pS _ _ _ _ (Fm _),G8,eK _ _ _ _ (by omega),Ie,h0,hk]
   grind
  ·rw[eK _ _ _ _ (by omega),eK _ _ _ _ (by omega),show j+1-(j+1-i)=i from by omega]
   grind
theorem CY {p:List Rat}{j:Nat}{k:Rat} (hl:p.length=j+1) (h0:p.getD 0 0=1) (hd:1-k*k≠0):(eM k p).getD (j+1) 0=k∧(eM k p).getD 0 0=1∧dh (eM k p) (j+1) k=p:=by
 refine⟨?_,?_,sT (by rw[ci,hl]) fun i hi=>?_⟩
 ·rw[iC _ _ _ (by omega),kN (by omega),hl,G8,h0]
  grind
 ·rw[iC _ _ _ (by omega),h0,Ie,kN (Fm _)]
  grind
 ·rw[ci] at hi
  rw[eK _ _ _ _ hi,iC _ _ _ (by omega),iC _ _ _ (by omega),hl,show j+1-(j+1-i)=i from by omega]
  grind
theorem oK (k:Rat):∀ (l p:List Rat),upQ (l++[k]) p=eM k (upQ l p)
 | [],_=>rfl
 | _ :: l,p=>by rw[FX,upQ,upQ,oK k l]
theorem ts:∀ (j:Nat) (p l:List Rat),p.length=j+1→p.getD 0 0=1→aZ j p=some l→upQ l [1]=p∧∀ k∈l,inK k
 | 0,p,l,hl,h0,h=>by
  cases h
  refine⟨?_,fun k hk=>by cases hk⟩
  match p,hl,h0 with
  | [x],_,h0 =>
   have:x=1:=h0
   rw[this];rfl
 | j+1,p,l,hl,h0,h=>by
  rw[aZ] at h
  split at h
  ·rename_i hin
   have hd:=DC hin
   have n0:(dh p (j+1) (p.getD (j+1) 0)).getD 0 0=1:=by
    rw[eK _ _ _ _ (by omega),Ie,h0]
    grind
   cases hq:aZ j (dh p (j+1) (p.getD (j+1) 0)) with
   | none=>rw[hq] at h;cases h
   | some l' =>
    rw[hq] at h
    cases h
    obtain⟨e1,e2⟩:=ts j _ l' (ci ..) n0 hq
    refine⟨?_,fun k hk=>?_⟩
    ·rw[oK,e1,Dv hl h0 rfl hd]
    ·rcases F8.1 hk with hk | hk
     ·exact e2 k hk
     ·rw[FZ.1 hk];exact hin
  ·cases h
theorem oL:∀ (j:Nat) (l:List Rat),l.length=j→(∀ k∈l,inK k)→aZ j (upQ l [1])=some l∧(upQ l [1]).length=j+1∧(upQ l [1]).getD 0 0=1
 | 0,l,hl,_=>by
  obtain rfl:=List.length_eq_zero_iff.1 hl
  exact⟨rfl,rfl,rfl⟩
 | j+1,l,hl,h=>by
  obtain⟨l',k,rfl⟩:∃ l' k,l=l'++[k]:=by
   rcases List.eq_nil_or_concat l with e | ⟨l',k,e⟩
   ·rw[e] at hl;cases hl
   ·exact⟨l',k,by rw[e,List.concat_eq_append]⟩
  rw[Fv,Gu] at hl
  obtain⟨e1,e2,e3⟩:=oL j l' (by omega) fun k hk=>h k (It _ hk)
  have hin:=h k (List.mem_append_right _ (FZ.2 rfl))
  obtain⟨u1,u2,u3⟩:=CY e2 e3 (DC hin)
  rw[oK]
  refine⟨?_,by rw[lP,e2],u2⟩
  rw[aZ,u1,if_pos (show -1<k∧k<1 from hin),u3,e1]
  rfl
def szL (l:List Rat):Nat:=l.foldr (fun k n=>2*k.den*n) 1
theorem lh (k:Rat) (l:List Rat):szL (k :: l)=2*k.den*szL l:=rfl
theorem tW (k:Rat):∀ l:List Rat,szL (l++[k])=szL l*(2*k.den)
 | []=>by show 2*k.den*1=1*_;rw[GA,Hk]
 | a :: l=>by rw[FX,lh,lh,tW k l,Hb (2*a.den)]
theorem tr:∀ (j:Nat) (p:List Rat) (e:Nat) (l:List Rat),p.length=j+1→uu e p→(e+1)*2 ^ j≤6600→aZ j p=some l→szL l≤2 ^ ((e+1)*(2 ^ j-1))
 | 0,_,_,l,_,_,_,h=>by cases h;exact GS (by decide)
 | j+1,p,e,l,hl,hp,he,h=>by
  obtain⟨g1,g2⟩:=Ea he
  rw[aZ] at h
  split at h
  ·rename_i hin
   obtain⟨n1,n2⟩:=qV hp hl g1 hin.1 hin.2
   cases hq:aZ j (dh p (j+1) (p.getD (j+1) 0)) with
   | none=>rw[hq] at h;cases h
   | some l' =>
    rw[hq] at h
    cases h
    have h1:=tr j _ _ l' (ci ..) n2 g2 hq
    obtain⟨-,D,hD,hDl,ov⟩:=hp
    have h2:(p.getD (j+1) 0).den≤2 ^ e:=Fx ((ov _ (eh (by omega))).bound hD).2 hDl
    have h3:2*(p.getD (j+1) 0).den≤2 ^ (e+1):=by rw[FD,FE];exact Fw _ h2
    rw[tW]
    refine Eg h1 h3 ?_
    have h4:=n_ j
    obtain⟨n,hn⟩:∃ n,2 ^ j=n+1:=⟨2 ^ j-1,by omega⟩
    rw[FD,hn,show (n+1)*2-1=2*n+1 from by omega,show n+1-1=n from by omega,show 2*e+1+1=(e+1)*2 from by omega,Hb,Im (e+1),GA]
  ·cases h
theorem Bn {b:List ByteArray}{qb l:List Rat} (h:lV b qb) (h1:qb.getD 0 0=1) (hl:0<qb.length) (hp:aZ (qb.length-1) qb=some l):∃ s,s≤6111∧szL l≤2 ^ s:=by
 obtain⟨n,hn⟩:∃ n,qb.length=n+1:=⟨qb.length-1,by omega⟩
 have h7:=h.len
 rw[hn,Gs] at hp
 refine⟨_,?_,tr n qb 96 l hn (oE h h1) (lO (by omega)) hp⟩
 have:2 ^ n≤2 ^ 6:=oJ (show n≤6 by omega)
 omega
theorem xF:∀ l:List Rat,1≤szL l
 | []=>Fm _
 | k :: l=>by
  rw[lh]
  exact GB (GB (by decide) k.den_pos) (xF l)
theorem Ec {k:Rat} (h:inK k):k.num.natAbs≤k.den:=by
 have hd:=rV k.den_pos
 have e:=qY k
 have e2:(k.num:Rat)=k*(k.den:Rat):=by
  have:=eR k.den_pos
  grind
 have b1:k.num<(k.den:Int):=by
  apply Rat.intCast_lt_intCast.1
  rw[e2]
  have:k*(k.den:Rat)<1*(k.den:Rat):=Rat.mul_lt_mul_of_pos_right h.2 hd
  rw[Rat.one_mul] at this
  exact this
 have b2:-(k.den:Int)<k.num:=by
  apply Rat.intCast_lt_intCast.1
  rw[e2,Rat.intCast_neg]
  have:(-1)*(k.den:Rat)<k*(k.den:Rat):=Rat.mul_lt_mul_of_pos_right h.1 hd
  rw[Rat.neg_mul,Rat.one_mul] at this
  exact this
 omega
theorem uS {k:Rat} (h:inK k):Ov k.den k.den k:=(Ov.of k).mono (Ec h)
theorem Dp {k:Rat}{p:List Rat}{E M:Nat} (hE:0<E) (hk:inK k) (hp:∀ q∈p,Ov E M q) (h1:E*(2*k.den)<10 ^ 2000) (h2:M*(2*k.den)<10 ^ 2000) :
  dS (tq k) (p.map tq)=(eM k p).map tq∧∀ q∈eM k p,Ov (E*k.den) (M*(2*k.den)) q:=by
 have hkd:=k.den_pos
 have e1:E*(2*k.den)=E*k.den*2:=by rw[Nat.mul_left_comm,FE]
 have e2:M*(2*k.den)=M*k.den+M*k.den:=by rw[Nat.mul_left_comm,Nat.two_mul]
 have hEk:=GB hE hkd
 have hg:∀ i,Ov E M (p.getD i 0):=fun i=>by
  by_cases hi:i<p.length
  ·exact hp _ (eh hi)
  ·rw[kN (by omega)];exact (Ov.zero E).mono (Fy _)
 have hE1:E≤E*k.den:=GC _ hkd
 have hM1:M≤M*k.den:=GC _ hkd
 have okp:∀ i,okQ (p.getD i 0):=fun i=>(hg i).ok hE (by omega) (by omega)
 have hk1:k.den≤E*k.den:=Il _ hE
 have okk:okQ k:=(uS hk).ok hkd (by omega) (by omega)
 have mm:∀ i,Ov (E*k.den) (M*k.den) (k*p.getD i 0):=fun i=>by
  have:=(uS hk).mul (hg i) hkd hE
  rw[FE k.den E,FE k.den M] at this
  exact this
 have ss:∀ i l,Ov (E*k.den) (M*(2*k.den)) (p.getD i 0+k*p.getD l 0):=fun i l=>by
  rw[e2]
  exact ((hg i).wide _ hE hkd).add (mm l)
 refine⟨?_,fun q hq=>?_⟩
 ·have ez:p.map tq++[(⟨#[48]⟩:ByteArray)]=(p++[0]).map tq:=by rw[H7,GH,Hg,xK]
  have eg:∀ i,(p++[0]).getD i 0=p.getD i 0:=fun i=>by
   rw[FA,FA]
   by_cases hi:i<p.length
   ·rw[Hc hi]
   ·rw[GT (by omega),GM (l:=p) (by omega)]
    cases hh:i-p.length with
    | zero=>rfl
    | succ n=>rfl
  unfold dS eM
  rw[List.map_map,FF,ez]
  refine List.map_congr_left fun i hi=>?_
  have hi:=Gv.1 hi
  show fT (aD ((p++[0]).map tq) i) (dj (tq k) (aD ((p++[0]).map tq) (p.length-i)))=tq _
  rw[g9 (by rw[Fv,Gu];omega),g9 (by rw[Fv,Gu];omega),eg,eg,
   kU okk (okp _) ((mm _).ok hEk (by omega) (by omega)),wm (okp _) ((mm _).ok hEk (by omega) (by omega)) ((ss _ _).ok hEk (by omega) (by omega))]
 ·unfold eM at hq
  obtain⟨i,-,rfl⟩:=Hs.1 hq
  exact ss _ _
theorem pJ (ls:List (List ByteArray)):lB ls ls.length=ls.getLastD [⟨#[49]⟩]:=by
 cases ls with
 | nil=>rfl
 | cons a t =>
  show (a :: t).getD t.length []=_
  rw[List.getLastD_eq_getLast?,List.getLast?_eq_getElem?,FA]
  simp
theorem Ev {k:Rat} (h:inK k) (h2:2*k.den<10 ^ 2000):okQ k:=(uS h).ok k.den_pos (by omega) (by omega)
theorem Cf:∀ (ks p:List Rat) (E M:Nat),0<E→(∀ q∈p,Ov E M q)→E*szL ks<10 ^ 2000→M*szL ks<10 ^ 2000→(∀ k∈ks,inK k) →
  (bE (ks.map tq) (p.map tq)).getLastD (p.map tq)=(upQ ks p).map tq∧(∀ q∈upQ ks p,okQ q)
 | [],p,E,M,hE,hp,h1,h2,_=>⟨rfl,fun q hq=>(hp q hq).ok hE (by rw[show szL []=1 from rfl,GA] at h1;exact h1) (by rw[show szL []=1 from rfl,GA] at h2;exact h2)⟩
 | k :: ks,p,E,M,hE,hp,h1,h2,hk=>by
  have hin:=hk k (Gq ..)
  have hs:=xF ks
  have hkd:=k.den_pos
  rw[lh] at h1 h2
  rw[←Hb] at h1 h2
  have l1:E*(2*k.den)≤E*(2*k.den)*szL ks:=GC _ hs
  have l2:M*(2*k.den)≤M*(2*k.den)*szL ks:=GC _ hs
  have l3:2*k.den≤E*(2*k.den):=Il _ hE
  have l4:E*k.den≤E*(2*k.den):=FM _ (by omega)
  obtain⟨s1,s2⟩:=Dp hE hin hp (by omega) (by omega)
  have okk:okQ k:=Ev hin (by omega)
  obtain⟨u1,u2⟩:=Cf ks (eM k p) (E*k.den) (M*(2*k.den)) (GB hE hkd) s2 (F7 (Fw _ l4) h1) h2 (fun x hx=>hk x (GE _ hx))
  refine⟨?_,u2⟩
  rw[GH,bE,if_pos ⟨Bz okk,by rw[kq okk,decide_eq_true hin.1,decide_eq_true hin.2];rfl⟩,Ib,s1,u1]
  rfl
theorem Ew:∀ q∈([1]:List Rat),Ov 1 1 q:=fun q hq=>by
 rw[FZ.1 hq]
 exact⟨1,by show (1:Rat)=(1:Rat) / (1:Rat);grind,by decide⟩
theorem wY {ks:List Rat} (h:szL ks<10 ^ 2000) (hk:∀ k∈ks,inK k):gZ (ks.map tq)=(upQ ks [1]).map tq∧∀ q∈upQ ks [1],okQ q:=by
 obtain⟨h1,h2⟩:=Cf ks [1] 1 1 (by decide) Ew (by rw[Hk];exact h) (by rw[Hk];exact h) hk
 refine⟨?_,h2⟩
 unfold gZ
 rw[pJ]
 unfold bo
 rw[←h1,GH,Hg,jG]
theorem zd {a b:List ByteArray}{pf:List ByteArray} (hc:aB a b=true) (hp:aY b=some pf) :
  ∃ ks qb:List Rat,lV b qb∧qb.getD 0 0=1∧pf=ks.map tq∧ks.length+1=b.length∧(∃ s,s≤6111∧szL ks≤2 ^ s)∧(∀ k∈ks,inK k)∧upQ ks [1]=qb ∧
   ∀ ls:List Rat,ls.length=ks.length→(∀ k∈ls,inK k)→ls≠ks→szL ls<10 ^ 2000→gZ (ls.map tq)≠b:=by
 obtain⟨qa,qb,pa,pb,la,lb⟩:=n9 hc
 obtain⟨b',hb'⟩:=nG hc pb
 have h1:qb.getD 0 0=1:=by rw[hb'];rfl
 obtain⟨n,hn⟩:∃ n,qb.length=n+1:=⟨qb.length-1,by omega⟩
 rw[od pb h1 lb] at hp
 cases hq:aZ (qb.length-1) qb with
 | none=>rw[hq] at hp;cases hp
 | some ks =>
  rw[hq] at hp
  cases hp
  have hsz:=Bn pb h1 lb hq
  rw[hn,Gs] at hq
  obtain⟨u1,u2⟩:=ts n qb ks hn h1 hq
  have hkl:=kt n qb ks hq
  refine⟨ks,qb,pb,h1,rfl,by rw[pb.e,FF];omega,hsz,u2,u1,fun ls hl hin hne hs he=>hne ?_⟩
  obtain⟨e1,e2⟩:=wY hs hin
  obtain⟨v1,-,-⟩:=oL n ls (by omega) hin
  have e3:upQ ls [1]=qb:=rH e2 pb.ok (by rw[←e1,he,pb.e])
  rw[e3,hq] at v1
  exact (Option.some.inj v1).symm
end Go.Proofs.YtbnkpcfjechfiaaGreatDoor
