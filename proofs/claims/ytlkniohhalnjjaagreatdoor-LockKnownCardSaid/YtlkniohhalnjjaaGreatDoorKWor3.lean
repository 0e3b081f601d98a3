/- Lemmas of this claim. -/
import Derived.Laws.EntriesVeiled
import Derived.Test.YtlkniohhalnjjaaGreatDoorKWor2
import Derived.Test.YtlkniohhalnjjaaGreatDoorKMeet
set_option linter.all false
set_option maxRecDepth 100000
set_option maxHeartbeats 8000000
namespace Go.Proofs.YtlkniohhalnjjaaGreatDoor
open Go.RowKit Dc Dg
theorem gU:∀ (l:List Rg) (s:List UInt8) (k:Nat),(∀ r∈l,¬ r.name.data.toList=s)→bS l s k=-1
 | [],_,_,_=>rfl
 | r :: l,s,k,h=>by
  rw[bS,if_neg (h r (uU ..))]
  exact gU l s (k+1) (fun x hx=>h x (vc _ hx))
theorem nA {gs:List Gd} (hS:aS gs=true) {g k:Nat} (hg:g<gs.length) (hk:k<(ac gs g).length):eN (ac gs g) k (aP gs g k)=true∧aY (ac gs g) k (aP gs g k)=true:=by
 have:=gm (aX hS hg) hk
 unfold bd at this
 simp only[uz] at this
 exact⟨this.1.1.1,this.1.1.2⟩
theorem o_ {gs:List Gd} (hS:aS gs=true) {g k:Nat} (hg:g<gs.length) (hk:k<(ac gs g).length):¬ (ac gs g)[k].name.data.toList=[]:=by
 have h:=(nA hS hg hk).1
 have hr:aP gs g k=(ac gs g)[k]:=by unfold aP;rw[uu hk]
 rw[hr] at h
 intro e
 unfold eN cF at h
 rw[e] at h
 simp at h
theorem qo {gs:List Gd} (hS:aS gs=true) {g:Nat} (hg:g<gs.length):∀ (m k:Nat),k<(ac gs g).length→fT (ac gs g) m k=true→dD (ad gs) g m k=true
 | 0,_,_,h=>by cases h
 | m+1,k,hk,h=>by
  rw[gl hk] at h
  rw[dD]
  have hr:aP gs g k=(ac gs g)[k]:=by unfold aP;rw[uu hk]
  have hnx:(ad gs).next g k=aD (ac gs g) (ac gs g)[k].next.data.toList:=by rw[←hr];rfl
  rw[hnx]
  split
  ·rfl
  ·rename_i hge
   have hne:¬ (ac gs g)[k].next.data.toList=[]:=fun e=>hge (by
    rw[e]
    have:=gU (ac gs g) [] 0 (fun r hr=>by
     obtain⟨j,hj,rfl⟩:=vU.1 hr
     exact o_ hS hg hj)
    unfold aD
    rw[this];decide)
   rw[if_neg hne] at h
   have hrg:=cw (ac gs g) (ac gs g)[k].next.data.toList
   exact qo hS hg m _ (by omega) h
theorem qK {gs:List Gd} (hS:aS gs=true) {g:Nat} (hg:g<gs.length):cV (ad gs) g:=by
 refine⟨aI hS,hg,fun k hk=>?_⟩
 have h:=aX hS hg
 unfold bh at h
 simp only[uz] at h
 have h2:=uM.1 h.2 k (uL.2 hk)
 exact qo hS hg _ k hk h2
def gE (gs:List Gd) (g bad:Int):Int×Int :=
 if aS gs=true then
  if 0≤g∧g≤(gs.length:Int)-1 then
   if 0≤bad∧bad≤8 then (aC (ad gs) g.toNat 0 0 bad.toNat,0) else (0,8)
  else (0,2)
 else (0,40)
def gh (w:World) (r:Int×Int) (e:Ending) (w':World):Prop:=e=.returned (.tuple #[.int .i64 r.1,.int .i64 r.2])∧Below w.heap.size w w'
theorem gh.is {w w':World}{r:Int×Int}{a b:Int} (h:r=(a,b)) (hb:Below w.heap.size w w'):gh w r (.returned (.tuple #[.int .i64 a,.int .i64 b])) w':=by
 subst h
 exact⟨rfl,hb⟩
theorem nI (gs:List Gd) (p:Option Addr) (c:Nat) (g bad:Int) (w:World) (hP:dM w p c gs) :
  Calls Tryz.prog 10 #[.agg #[.slice p gs.length c],.int .i64 g,.int .i64 bad] w (gh w (gE gs g bad)):=by
 have hb1:Below w.heap.size w ((w.alloc (.cells #[.slice p gs.length c] 28)).alloc (.cells #[.int .i64 g] 3)):=((Below.refl _ _).alloc (uo _) _).alloc (by simp) _
 have s0:((w.alloc (.cells #[.slice p gs.length c] 28)).alloc (.cells #[.int .i64 g] 3)).heap[w.heap.size]?=some (.cells #[.slice p gs.length c] 28 (0,0)):=(heap_alloc_old _ _ (by simp)).trans (heap_alloc_new _ _)
 have s1:((w.alloc (.cells #[.slice p gs.length c] 28)).alloc (.cells #[.int .i64 g] 3)).heap[w.heap.size+1]?=some (.cells #[.int .i64 g] 3 (0,0)):=by
  have:=heap_alloc_new (w.alloc (.cells #[.slice p gs.length c] 28)) (.cells #[.int .i64 g] 3)
  simpa using this
 have P1:=hP.below hb1
 have c0:=aa s0 0
 have hmm:=@run_makeMap Tryz.prog
 go_enter Tryz.func10,Tryz.ntmps10
 go_upto_region 1 with fail
 generalize (w.alloc (.cells #[.slice p gs.length c] 28)).alloc (.cells #[.int .i64 g] 3)=w1 at *
 go_wp2_with fail
 refine P1.check.mono ?_
 rintro e w2 ⟨rfl,hb2⟩
 have P2:=P1.below hb2
 have t0:=(hb2.block _ (ag s0)).trans s0
 have t1:=(hb2.block _ (ag s1)).trans s1
 have HB2:=hb1.trans (hb2.mono hb1.size)
 clear s0 s1 hb2 hb1 P1 c0
 cases hS:aS gs
 ·simp only[u_,if_false]
  go_wp2_with fail
  all_goals go_ret2
  all_goals exact gh.is (by unfold gE;rw[if_neg (by rw[hS];exact uC)]) HB2
 ·simp only[if_true]
  obtain⟨hl1,hl3⟩:=bf hS
  have e0:=aa t0 0
  have e1:=aa t1 0
  have hwg:gE gs g bad=if 0≤g∧g≤(gs.length:Int)-1 then (if 0≤bad∧bad≤8 then (aC (ad gs) g.toNat 0 0 bad.toNat,0) else (0,8)) else (0,2):=by unfold gE;rw[if_pos hS]
  have HWG:=uk hwg
  clear hwg
  by_cases hg:0≤g∧g≤(gs.length:Int)-1
  ·have hT:=uk (dK hg.1 hg.2)
   have HG:=uk hg
   obtain⟨gn,rfl⟩:∃ gn:Nat,g=gn:=⟨g.toNat,by omega⟩
   have hgn:gn<gs.length:=by omega
   clear hg
   by_cases hbd:0≤bad∧bad≤8
   ·have hT2:=uk (dK hbd.1 hbd.2)
    have HBD:=uk hbd
    obtain⟨bn,rfl⟩:∃ bn:Nat,bad=bn:=⟨bad.toNat,by omega⟩
    have hbn:bn≤8:=by omega
    clear hbd
    go_wp2_with fail
    refine (hT.out _).mono ?_
    rintro e w3 ⟨rfl,rfl⟩
    go_wp2_with fail
    refine (hT2.out _).mono ?_
    rintro e w3 ⟨rfl,rfl⟩
    go_wp2_with fail
    refine (ki gs p c w3 P2.G hS).mono ?_
    rintro e w4 ⟨mB,vn,vb,mb,Nm,sm,f,rfl,hM,hb3⟩
    have hk0:0<(ac gs gn).length:=by have:=(aI hS).r0 gn hgn;exact this
    obtain⟨bg,og,bn1,on1,cn1,bu,ou,cu,bb,ob,cb,bv,ov,cv,br,orr,cr,rfl,hgr,hWB⟩:=ui hM hgn hk0
    have e0':=(hb3.cell (block_lt_of_cell e0)).trans e0
    have e1':=(hb3.cell (block_lt_of_cell e1)).trans e1
    have hgl:=block_lt_of_cell hgr
    have u0:=(hb3.block _ (ag t0)).trans t0
    have u1:=(hb3.block _ (ag t1)).trans t1
    have l0:w.heap.size<w4.heap.size:=ag u0
    have l1:w.heap.size+1<w4.heap.size:=ag u1
    clear e0 e1 t0 t1
    go_upto_region 12 with fail
    obtain⟨v1,hv1⟩:∃ v1,v1=w4.alloc (.cells #[.pointer (some ⟨mB,0,none⟩)] 64):=⟨_,rfl⟩
    have z1:v1.heap.size=w4.heap.size+1:=by rw[hv1];simp
    have n1:v1.heap[w4.heap.size]?=some (.cells #[.pointer (some ⟨mB,0,none⟩)] 64 (0,0)):=by rw[hv1];exact heap_alloc_new _ _
    have d1:Below w4.heap.size w4 v1:=by rw[hv1];exact (Below.refl _ _).alloc (uo _) _
    obtain⟨v2,hv2⟩:∃ v2,v2=v1.alloc (.cells #[.slice (some ⟨br,orr,none⟩) (ac gs gn).length cr] 59):=⟨_,rfl⟩
    have z2:v2.heap.size=w4.heap.size+1+1:=by rw[hv2];simp[z1]
    have n2:v2.heap[w4.heap.size+1]?=some (.cells #[.slice (some ⟨br,orr,none⟩) (ac gs gn).length cr] 59 (0,0)):=by rw[hv2,←z1];exact heap_alloc_new _ _
    have d2:Below v1.heap.size v1 v2:=by rw[hv2];exact (Below.refl _ _).alloc (uo _) _
    obtain⟨v3,hv3⟩:∃ v3,v3=v2.alloc (.map #[] 0):=⟨_,rfl⟩
    have z3:v3.heap.size=w4.heap.size+1+1+1:=by rw[hv3];simp[z2]
    have mp:=bj.made v2 Tryz.prog 68 gO tA
    rw[←hv3,z2] at mp
    have d3:Below v2.heap.size v2 v3:=by rw[hv3];exact (Below.refl _ _).alloc (uo _) _
    obtain⟨v4,hv4⟩:∃ v4,v4=v3.alloc (.cells #[.map (some (w4.heap.size+1+1))] 89):=⟨_,rfl⟩
    have z4:v4.heap.size=w4.heap.size+1+1+1+1:=by rw[hv4];simp[z3]
    have n4:v4.heap[w4.heap.size+1+1+1]?=some (.cells #[.map (some (w4.heap.size+1+1))] 89 (0,0)):=by rw[hv4,←z3];exact heap_alloc_new _ _
    have d4:Below v3.heap.size v3 v4:=by rw[hv4];exact (Below.refl _ _).alloc (uo _) _
    obtain⟨v5,hv5⟩:∃ v5,v5=v4.alloc (.cells #[.nilFunc] 90):=⟨_,rfl⟩
    have z5:v5.heap.size=w4.heap.size+1+1+1+1+1:=by rw[hv5];simp[z4]
    have n5:v5.heap[w4.heap.size+1+1+1+1]?=some (.cells #[.nilFunc] 90 (0,0)):=by rw[hv5,←z4];exact heap_alloc_new _ _
    have d5:Below v4.heap.size v4 v5:=by rw[hv5];exact (Below.refl _ _).alloc (uo _) _
    rw[←hv1,←hv2,←hv3,←hv4,←hv5]
    clear hv1 hv2 hv3 hv4 hv5
    have x9:v5.heap[w4.heap.size]?=some (.cells #[.pointer (some ⟨mB,0,none⟩)] 64 (0,0)):=(d5.block _ (by omega)).trans ((d4.block _ (by omega)).trans ((d3.block _ (by omega)).trans ((d2.block _ (by omega)).trans n1)))
    have x10:v5.heap[w4.heap.size+1]?=some (.cells #[.slice (some ⟨br,orr,none⟩) (ac gs gn).length cr] 59 (0,0)):=(d5.block _ (by omega)).trans ((d4.block _ (by omega)).trans ((d3.block _ (by omega)).trans n2))
    have xm:=(mp.same (d4.block _ (by omega))).same (d5.block _ (by omega))
    have x11:v5.heap[w4.heap.size+1+1+1]?=some (.cells #[.map (some (w4.heap.size+1+1))] 89 (0,0)):=(d5.block _ (by omega)).trans n4
    have x4:v5.heap[w.heap.size+1]?=some (.cells #[.int .i64 gn] 3 (0,0)):=(d5.block _ (by omega)).trans ((d4.block _ (by omega)).trans ((d3.block _ (by omega)).trans ((d2.block _ (by omega)).trans ((d1.block _ l1).trans u1))))
    have hbv:Below w4.heap.size w4 v5:=(((d1.trans (d2.mono (by omega))).trans (d3.mono (by omega))).trans (d4.mono (by omega))).trans (d5.mono (by omega))
    have q12:=aa n5 0
    have f12:=frozen_of_row v5 (w4.heap.size+1+1+1+1) 0 _ _ n5
    have E6:ld w4 (v5.setCell ⟨w4.heap.size+1+1+1+1,0,none⟩ (.func (.func 30) #[] #[.pointer (some ⟨w4.heap.size,0,none⟩),.pointer (some ⟨w.heap.size+1,0,none⟩),.pointer (some ⟨w4.heap.size+1+1+1,0,none⟩),.pointer (some ⟨w4.heap.size+1+1+1+1,0,none⟩),.pointer (some ⟨w4.heap.size+1,0,none⟩)])) gs gn mB (w4.heap.size+1+1) (w.heap.size+1) w4.heap.size (w4.heap.size+1) (w4.heap.size+1+1+1) (w4.heap.size+1+1+1+1) br orr cr:=by
     refine⟨hbv.setCell (p:=⟨w4.heap.size+1+1+1+1,0,none⟩) (by show w4.heap.size≤w4.heap.size+1+1+1+1;omega) _,by omega,(heap_setCell_other _ _ _ _ (by show w4.heap.size≠w4.heap.size+1+1+1+1;omega)).trans x9,(heap_setCell_other _ _ _ _ (by show w.heap.size+1≠w4.heap.size+1+1+1+1;omega)).trans x4,(heap_setCell_other _ _ _ _ (by show w4.heap.size+1+1+1≠w4.heap.size+1+1+1+1;omega)).trans x11,?_,(heap_setCell_other _ _ _ _ (by show w4.heap.size+1≠w4.heap.size+1+1+1+1;omega)).trans x10⟩
     rw[heap_setCell_same _ _ _ _ _ _ n5];rfl
    have M6:cW (ad gs) gn (v5.setCell ⟨w4.heap.size+1+1+1+1,0,none⟩ (.func (.func 30) #[] #[.pointer (some ⟨w4.heap.size,0,none⟩),.pointer (some ⟨w.heap.size+1,0,none⟩),.pointer (some ⟨w4.heap.size+1+1+1,0,none⟩),.pointer (some ⟨w4.heap.size+1+1+1+1,0,none⟩),.pointer (some ⟨w4.heap.size+1,0,none⟩)])) (w4.heap.size+1+1) []:=by
     have hm:iR (ad gs) gn []=fun _=>none:=by funext z;unfold iR;simp
     exact⟨by rw[hm];exact xm.same (heap_setCell_other _ _ _ _ (by show w4.heap.size+1+1≠w4.heap.size+1+1+1+1;omega)),wK,fun z hz=>by cases hz⟩
    go_upto_region 13 with fail
    generalize v5.setCell ⟨w4.heap.size+1+1+1+1,0,none⟩ (.func (.func 30) #[] #[.pointer (some ⟨w4.heap.size,0,none⟩),.pointer (some ⟨w.heap.size+1,0,none⟩),.pointer (some ⟨w4.heap.size+1+1+1,0,none⟩),.pointer (some ⟨w4.heap.size+1+1+1+1,0,none⟩),.pointer (some ⟨w4.heap.size+1,0,none⟩)])=v6 at *
    have c12:=aa E6.h12 0
    have htr:((0:Nat):Int)<(ad gs).tries gn 0:=by have:=(aI hS).tries gn 0 hgn hk0;omega
    go_wp2_with fail
    refine (sL gs hS gn hgn (qK hS hgn) w4 mB (w4.heap.size+1+1) (w.heap.size+1) w4.heap.size (w4.heap.size+1) (w4.heap.size+1+1+1) (w4.heap.size+1+1+1+1) bn1 on1 cn1 bu ou cu bb ob cb bv ov cv br orr cr hWB _ 0 0 bn _ _ _ rfl rfl rfl hk0 htr hbn rfl v6 [] E6 M6).mono ?_
    rintro e v7 ⟨rfl,hg7,L7,M7,_,_⟩
    have hB7:Below w.heap.size w v7:=((HB2.trans (hb3.mono HB2.size)).trans (E6.bl.mono (by omega))).grown hg7 (by have:=E6.bl.size;omega) (fun k hk=>by cases hk;omega)
    go_wp2_with fail
    go_ret2
    exact gh.is (by rw[HWG.out,if_pos HG.out,if_pos HBD.out];simp only[uP]) hB7
   ·have hT2:=uk (dJ hbd)
    have HBD:=uk hbd
    clear hbd
    go_wp2_with fail
    refine (hT.out _).mono ?_
    rintro e w3 ⟨rfl,rfl⟩
    go_wp2_with fail
    refine (hT2.out _).mono ?_
    rintro e w3 ⟨rfl,rfl⟩
    go_wp2_with fail
    go_ret2
    exact gh.is (by rw[HWG.out,if_pos HG.out,if_neg HBD.out]) HB2
  ·have hT:=uk (dJ hg)
   have HG:=uk hg
   clear hg
   go_wp2_with fail
   refine (hT.out _).mono ?_
   rintro e w3 ⟨rfl,rfl⟩
   go_wp2_with fail
   go_ret2
   exact gh.is (by rw[HWG.out,if_neg HG.out]) HB2
end Go.Proofs.YtlkniohhalnjjaaGreatDoor
