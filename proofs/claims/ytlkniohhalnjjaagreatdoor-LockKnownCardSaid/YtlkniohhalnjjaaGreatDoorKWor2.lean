/- Lemmas of this claim. -/
import Derived.Test.YtlkniohhalnjjaaGreatDoorKReg
import Derived.Test.YtlkniohhalnjjaaGreatDoorKWor1
set_option linter.all false
set_option maxRecDepth 100000
set_option maxHeartbeats 8000000
namespace Go.Proofs.YtlkniohhalnjjaaGreatDoor
open Go.RowKit Dc Dg
def WorQ (gs:List Gd) (g mt k f left:Nat) (w:World) (L:List fN) (e:Ending) (w':World):Prop :=
 e=.returned (.int .i64 (aC (ad gs) g k f left))∧w.grownBy w' (some mt)∧∃ L',cW (ad gs) g w' mt L'∧(∀ y∈L,y∈L')∧∀ y∈L',y∈L∨fW (ad gs) g y≤fW (ad gs) g (k,f,left)
theorem nJ {M:ar}{g k f left:Nat} (L:cV M g) (hk:k<M.rungs g) (h:0≤M.next g k) (h0:left=0):aC M g k f left=aC M g (M.next g k).toNat 0 left+M.mins g k:=by
 subst h0
 exact dL L hk h
theorem nK {M:ar}{g k f left l:Nat} (L:cV M g) (hk:k<M.rungs g) (h:0≤M.next g k) (h1:left=l+1) (hf:(f:Int)=M.tries g k-1):aC M g k f left=max (max (aC M g (M.next g k).toNat 0 left) (aC M g 0 0 l)) (aC M g (M.back g k).toNat 0 l)+M.mins g k:=by
 subst h1
 have:=dL L hk (f:=f) (left:=l+1) h
 simp only at this
 rw[if_pos hf] at this
 exact this
theorem nM {M:ar}{g k f left l:Nat} (L:cV M g) (hk:k<M.rungs g) (h:0≤M.next g k) (h1:left=l+1) (hf:¬ (f:Int)=M.tries g k-1):aC M g k f left=max (max (aC M g (M.next g k).toNat 0 left) (aC M g 0 0 l)) (aC M g k (f+1) l)+M.mins g k:=by
 subst h1
 have:=dL L hk (f:=f) (left:=l+1) h
 simp only at this
 rw[if_neg hf] at this
 exact this
theorem fE {w w':World}{row:Option Nat} (h:Below w.heap.size w w'):w.grownBy w' row:=⟨h.os,h.tape,h.output,h.size,fun k hk _=>h.block k hk⟩
theorem ld.below {w0 w w':World}{gs:List Gd}{g m mt b4 b9 b10 b11 b12 br orr cr:Nat} (h:ld w0 w gs g m mt b4 b9 b10 b11 b12 br orr cr) (hb:Below w.heap.size w w'):ld w0 w' gs g m mt b4 b9 b10 b11 b12 br orr cr :=
 ⟨h.bl.trans (hb.mono h.bl.size),h.lt,(hb.block _ (ag h.h9)).trans h.h9,(hb.block _ (ag h.h4)).trans h.h4,(hb.block _ (ag h.h11)).trans h.h11,(hb.block _ (ag h.h12)).trans h.h12,(hb.block _ (ag h.h10)).trans h.h10⟩
theorem cW.below {M:ar}{g:Nat}{w w':World}{mt:Nat}{L:List fN} (h:cW M g w mt L) (hb:Below w.heap.size w w'):cW M g w' mt L:=h.kept (hb.block _ h.map.lt)
theorem tS {M:ar} (G:M.Good) {g:Nat} (hg:g<M.n) {k:Nat} (hk:k<M.rungs g):0≤M.back g k∧M.back g k<M.rungs g:=⟨(nQ G hg hk).1,(nQ G hg hk).2.2⟩
theorem sL (gs:List Gd) (hS0:aS gs=true) (g:Nat) (hg:g<gs.length) (Ld:cV (ad gs) g) (w0:World) (m mt b4 b9 b10 b11 b12 bn on cn bu ou cu bb ob cb bv ov cv br orr cr:Nat) (hW:WB w0 gs g m bn on cn bu ou cu bb ob cb bv ov cv br orr cr) :
  ∀ (n:Nat) (k f left:Nat) (kI fI lI:Int),kI=k→fI=f→lI=left→k<(ac gs g).length→(f:Int)<(ad gs).tries g k→left≤8→fW (ad gs) g (k,f,left)=n→∀ (w:World) (L:List fN),ld w0 w gs g m mt b4 b9 b10 b11 b12 br orr cr→cW (ad gs) g w mt L →
   Calls Tryz.prog 30 #[.int .i64 kI,.int .i64 fI,.int .i64 lI,.pointer (some ⟨b9,0,none⟩),.pointer (some ⟨b4,0,none⟩),.pointer (some ⟨b11,0,none⟩),.pointer (some ⟨b12,0,none⟩),.pointer (some ⟨b10,0,none⟩)] w (WorQ gs g mt k f left w L):=by
 intro n
 induction n using Nat.strongRecOn with
 | ind n IH =>
 intro k f left kI fI lI ek ef el hk hf hl hn w L E HM
 subst ek
 subst ef
 subst el
 have IH':=uk IH
 have HW:=uk hW
 have G:=aI hS0
 have hkr:k<(ad gs).rungs g:=hk
 have hk8:k<8:=by have:=G.r8 g hg;omega
 have htr:=G.tries g k hg hkr
 have hmr:=G.mins g k hg hkr
 have hnr:=G.next g k hg hkr
 have hbr:=tS G hg hkr
 have hr0:=G.r0 g hg
 have hrl:(ad gs).rungs g=(ac gs g).length:=rfl
 rw[hrl] at hnr hbr hr0
 have hf4:f<4:=by omega
 have HWS:=uk (fun h=>dL Ld hkr (f:=f) (left:=left) h)
 have HWG:=uk (fun h=>my (M:=ad gs) (g:=g) (k:=k) (f:=f) (left:=left) h)
 obtain⟨nx,hnx⟩:∃ nx,nx=(ad gs).next g k:=⟨_,rfl⟩
 obtain⟨bx,hbx⟩:∃ bx,bx=(ad gs).back g k:=⟨_,rfl⟩
 obtain⟨tx,htx⟩:∃ tx,tx=(ad gs).tries g k:=⟨_,rfl⟩
 obtain⟨mx,hmx⟩:∃ mx,mx=(ad gs).mins g k:=⟨_,rfl⟩
 have NX:=uk hnx
 have BX:=uk hbx
 have TX:=uk htx
 have MX:=uk hmx
 have HN:=uk hn
 clear hn IH
 have c9:=aa E.h9 0
 have c4:=aa E.h4 0
 have c11:=aa E.h11 0
 have c12:=aa E.h12 0
 have c10:=aa E.h10 0
 have n0:=(hW.below E.bl).n0
 have n1:=(hW.below E.bl).n1
 have n2:=(hW.below E.bl).n2 k hk
 have o0:=(hW.below E.bl).b0
 have o1:=(hW.below E.bl).b1
 have o2:=(hW.below E.bl).b2 k hk
 have t1:=(hW.below E.bl).t1 k hk
 have t2:=(hW.below E.bl).t2 k hk
 rw[←hnx] at n2 hnr
 rw[←hbx] at o2 hbr
 rw[←htx] at t1 htr hf
 rw[←hmx] at t2 hmr
 clear hnx hbx htx hmx hW
 go_enter Tryz.func30,Tryz.ntmps30
 by_cases hneg:nx<0
 ·have hd:decide (nx<0)=true:=by simpa using hneg
  have HNG:=uk hneg
  clear hneg
  go_wp2_with fail
  go_quiet (fail)
  go_wp2_with fail
  go_ret
  have hbd:=below_drewN (Below.refl w.heap.size w) nq
  exact⟨by rw[HWG.out (by rw[←NX.out];exact HNG.out)];rfl,fE hbd,L,HM.below hbd,fun y hy=>hy,fun y hy=>Or.inl hy⟩
 ·have hd:decide (nx<0)=false:=by simpa using hneg
  obtain⟨nk,rfl⟩:∃ nk:Nat,nx=nk:=⟨nx.toNat,by omega⟩
  have HNG:=uk hneg
  have hnk:nk<(ac gs g).length:=by omega
  clear hneg
  go_wp2_with fail
  go_quiet (fail)
  have hbd:=below_drewN (Below.refl w.heap.size w) nq
  generalize w.drewN nq=wq at *
  have hbA:Below w.heap.size w (wq.alloc (.cells #[.int .i64 k,.int .i64 f,.int .i64 left] 68)):=hbd.alloc hbd.size _
  have EA:=E.below hbA
  have MA:=HM.below hbA
  have y0:=heap_alloc_new wq (.cells #[.int .i64 k,.int .i64 f,.int .i64 left] 68)
  clear c9 c4 c11 c12 c10 n0 n1 n2 o0 o1 o2 t1 t2
  go_upto_region 4 with fail
  generalize wq.alloc (.cells #[.int .i64 k,.int .i64 f,.int .i64 left] 68)=wa at *
  generalize wq.heap.size=kb at *
  have hlk:=MA.map.look_ok encT of (sM wa) (k:=(k,f,left)) ⟨by show k<1000;omega,by show f<1000;omega,by show left<1000;omega⟩
  simp only[gO] at hlk
  have c11:=aa EA.h11 0
  have z0:=aa y0 0
  have z1:=aa y0 1
  have z2:=aa y0 2
  by_cases hin:(k,f,left)∈L
  ·have hmf:iR (ad gs) g L (k,f,left)=some (.int .i64 (aC (ad gs) g k f left)):=by unfold iR;rw[if_pos hin]
   rw[hmf] at hlk
   simp only[Option.getD_some,wm] at hlk
   go_wp2_with fail
   go_ret
   exact⟨by rfl,fE hbA,L,MA,fun y hy=>hy,fun y hy=>Or.inl hy⟩
  ·have hmf:iR (ad gs) g L (k,f,left)=none:=by unfold iR;rw[if_neg hin]
   rw[hmf] at hlk
   simp only[Option.getD_none,wl] at hlk
   have HIN:=uk hin
   clear hin hmf
   go_upto_region 7 with fail
   clear hlk c11 z0 z1 z2
   have hbE:Below wa.heap.size wa wa.drew:=(Below.refl _ _).drew
   have hbD:=hbA.trans (hbE.mono hbA.size)
   have ED:=EA.below hbE
   have MD:=MA.below hbE
   have y1:=(hbE.block _ (ag y0)).trans y0
   clear EA MA y0 hbA hbE hbd
   obtain⟨wd,hwd⟩:∃ wd,wd=wa.drew:=⟨_,rfl⟩
   rw[←hwd] at hbD ED MD y1
   have c9:=aa ED.h9 0
   have c4:=aa ED.h4 0
   have c11:=aa ED.h11 0
   have c12:=aa ED.h12 0
   have c10:=aa ED.h10 0
   have n0:=(HW.out.below ED.bl).n0
   have n1:=(HW.out.below ED.bl).n1
   have n2:=(HW.out.below ED.bl).n2 k hk
   have o0:=(HW.out.below ED.bl).b0
   have o1:=(HW.out.below ED.bl).b1
   have o2:=(HW.out.below ED.bl).b2 k hk
   have t1:=(HW.out.below ED.bl).t1 k hk
   have t2:=(HW.out.below ED.bl).t2 k hk
   rw[←NX.out] at n2
   have hS:(fun wy:World=>wy.cell? ⟨b12,0,none⟩=some (.func (.func 30) #[] #[.pointer (some ⟨b9,0,none⟩),.pointer (some ⟨b4,0,none⟩),.pointer (some ⟨b11,0,none⟩),.pointer (some ⟨b12,0,none⟩),.pointer (some ⟨b10,0,none⟩)])∧wy.cell? ⟨b9,0,none⟩=some (.pointer (some ⟨m,0,none⟩))∧wy.cell? ⟨m,1,none⟩=some (.slice (some ⟨bn,on,none⟩) gs.length cn)∧wy.cell? ⟨b4,0,none⟩=some (.int .i64 g)∧wy.cell? ⟨bn,on+g,none⟩=some (.slice (some ⟨bu,ou,none⟩) (ac gs g).length cu)∧wy.cell? ⟨bu,ou+k,none⟩=some (.int .i64 nk)) wd:=⟨c12,c9,n0,c4,n1,n2⟩
   clear c9 c4 c11 c12 c10 n0 n1 n2 o0 o1 o2 t1 t2
   refine wp_mono (ax (Q:=eL _) (fun wy:World=>wy.cell? ⟨b12,0,none⟩=some (.func (.func 30) #[] #[.pointer (some ⟨b9,0,none⟩),.pointer (some ⟨b4,0,none⟩),.pointer (some ⟨b11,0,none⟩),.pointer (some ⟨b12,0,none⟩),.pointer (some ⟨b10,0,none⟩)])∧wy.cell? ⟨b9,0,none⟩=some (.pointer (some ⟨m,0,none⟩))∧wy.cell? ⟨m,1,none⟩=some (.slice (some ⟨bn,on,none⟩) gs.length cn)∧wy.cell? ⟨b4,0,none⟩=some (.int .i64 g)∧wy.cell? ⟨bn,on+g,none⟩=some (.slice (some ⟨bu,ou,none⟩) (ac gs g).length cu)∧wy.cell? ⟨bu,ou+k,none⟩=some (.int .i64 nk)) (fun _=>false) (by kernel_rfl) ?_) (fun _ _ _ h=>fi h)
   rw[←hwd]
   clear hwd
   refine ak (i:=0) (v:=?vv1) rfl (by kernel_rfl) (fun _ _ _ h=>h) rfl hS ?hy1 ?rest1
   case hy1=>(intro wy hy;(try dsimp only at hy);go_simp;try with_reducible rfl)
   try simp only[Act.put,ut,uq,ur,uj,um,ul]
   refine ak (i:=1) (v:=?vv2) rfl (by kernel_rfl) (fun _ _ _ h=>h) rfl hS ?hy2 ?rest2
   case hy2=>(intro wy hy;(try dsimp only at hy);go_simp;try with_reducible rfl)
   try simp only[Act.put,ut,uq,ur,uj,um,ul]
   refine ae (i:=2) (v:=?vv3) rfl (by kernel_rfl) (fun _ _ _ h=>h) rfl ?hy3 ?rest3
   case hy3=>(intro wy;go_simp;  try with_reducible rfl)
   try simp only[Act.put,ut,uq,ur,uj,um,ul]
   refine ae (i:=3) (v:=?vv4) rfl (by kernel_rfl) (fun _ _ _ h=>h) rfl ?hy4 ?rest4
   case hy4=>(intro wy;go_simp;  try with_reducible rfl)
   try simp only[Act.put,ut,uq,ur,uj,um,ul]
   refine ak (i:=4) (v:=?vv5) rfl (by kernel_rfl) (fun _ _ _ h=>h) rfl hS ?hy5 ?rest5
   case hy5=>(intro wy hy;(try dsimp only at hy);go_simp;try with_reducible rfl)
   try simp only[Act.put,ut,uq,ur,uj,um,ul]
   refine ak (i:=5) (v:=?vv6) rfl (by kernel_rfl) (fun _ _ _ h=>h) rfl hS ?hy6 ?rest6
   case hy6=>(intro wy hy;(try dsimp only at hy);go_simp;try with_reducible rfl)
   try simp only[Act.put,ut,uq,ur,uj,um,ul]
   refine ae (i:=6) (v:=?vv7) rfl (by kernel_rfl) (fun _ _ _ h=>h) rfl ?hy7 ?rest7
   case hy7=>(intro wy;go_simp;  try with_reducible rfl)
   try simp only[Act.put,ut,uq,ur,uj,um,ul]
   refine ak (i:=7) (v:=?vv8) rfl (by kernel_rfl) (fun _ _ _ h=>h) rfl hS ?hy8 ?rest8
   case hy8=>(intro wy hy;(try dsimp only at hy);go_simp;try with_reducible rfl)
   try simp only[Act.put,ut,uq,ur,uj,um,ul]
   refine ae (i:=8) (v:=?vv9) rfl (by kernel_rfl) (fun _ _ _ h=>h) rfl ?hy9 ?rest9
   case hy9=>(intro wy;go_simp;  try with_reducible rfl)
   try simp only[Act.put,ut,uq,ur,uj,um,ul]
   refine ae (i:=9) (v:=?vv10) rfl (by kernel_rfl) (fun _ _ _ h=>h) rfl ?hy10 ?rest10
   case hy10=>(intro wy;go_simp;  try with_reducible rfl)
   try simp only[Act.put,ut,uq,ur,uj,um,ul]
   refine ak (i:=10) (v:=?vv11) rfl (by kernel_rfl) (fun _ _ _ h=>h) rfl hS ?hy11 ?rest11
   case hy11=>(intro wy hy;(try dsimp only at hy);go_simp;try with_reducible rfl)
   try simp only[Act.put,ut,uq,ur,uj,um,ul]
   refine ae (i:=11) (v:=?vv12) rfl (by kernel_rfl) (fun _ _ _ h=>h) rfl ?hy12 ?rest12
   case hy12=>(intro wy;go_simp;  try with_reducible rfl)
   try simp only[Act.put,ut,uq,ur,uj,um,ul]
   have hnx1:(ad gs).next g k=nk:=NX.out.symm
   have hst:=mm Ld hkr (by rw[hnx1];omega)
   rw[hnx1,uP] at hst
   have hlt1:fW (ad gs) g (nk,0,left)<n:=by rw[←HN.out];unfold fW;simp only;omega
   have htn:((0:Nat):Int)<(ad gs).tries g nk:=by have:=G.tries g nk hg hnk;omega
   have HST:=uk hst
   have HLT:=uk hlt1
   have HTN:=uk htn
   clear hst hlt1 htn hnx1
   refine an (i:=12) rfl (by kernel_rfl) rfl (fun K hK=>?_)
   go_simp
   refine (IH'.out _ HLT.out nk 0 left _ _ _ rfl rfl rfl hnk HTN.out hl rfl wd L ED MD).mono ?_
   rintro e we ⟨rfl,hgwe,L1,M1,hswe,hnwe⟩
   have E1:=ED.kept MD hgwe
   obtain⟨A,hA⟩:∃ A,A=aC (ad gs) g nk 0 left:=⟨_,rfl⟩
   rw[←hA]
   have rA:0≤A∧A≤5000:=by rw[hA];exact dq Ld hnk hl
   have HA:=uk hA
   clear hA
   have y2:=(hgwe.block _ (ag y1) (fun e=>MD.ne y1 (Option.some.inj e))).trans y1
   have c9:=aa E1.h9 0
   have c4:=aa E1.h4 0
   have c11:=aa E1.h11 0
   have c12:=aa E1.h12 0
   have c10:=aa E1.h10 0
   have n0:=(HW.out.below E1.bl).n0
   have n1:=(HW.out.below E1.bl).n1
   have n2:=(HW.out.below E1.bl).n2 k hk
   have o0:=(HW.out.below E1.bl).b0
   have o1:=(HW.out.below E1.bl).b1
   have o2:=(HW.out.below E1.bl).b2 k hk
   have t1:=(HW.out.below E1.bl).t1 k hk
   have t2:=(HW.out.below E1.bl).t2 k hk
   rw[←NX.out] at n2
   refine hK _ _ (fun _ _=>⟨c12,c9,n0,c4,n1,n2⟩) ?_
   clear hK K hS c9 c4 c11 c12 c10 n0 n1 n2 o0 o1 o2 t1 t2
   try simp only[Act.put,ut,uq,ur,uj,um,ul]
   refine ae (i:=13) (v:=?vv13) rfl (by kernel_rfl) (fun _ _ _ h=>h) rfl ?hy13 ?rest13
   case hy13=>(intro wy;go_simp;  try with_reducible rfl)
   try simp only[Act.put,ut,uq,ur,uj,um,ul]
   refine aW (by kernel_rfl) ?_ _
   simp only[eL]
   clear hd
   by_cases hl0:left=0
   ·have hd:(0<left)=False:=eq_false (by omega)
    have HL0:=uk hl0
    clear hl0
    have hgw:w.grownBy we (some mt):=(fE hbD).trans hgwe
    have hsw:∀ y∈L,y∈L1:=hswe
    have hnw:∀ y∈L1,y∈L∨fW (ad gs) g y<n:=fun y hy=>(hnwe y hy).imp id (fun h=>vo h HLT.out)
    have hval:A+mx=aC (ad gs) g k f left:=by rw[nJ Ld hkr (by rw[←NX.out];omega) HL0.out,←NX.out,←MX.out,uP,←HA.out]
    have hz:(k,f,left)∉L1:=fun hm=>by rcases hnw _ hm with h | h;exact HIN.out h;rw[HN.out] at h;exact Nat.lt_irrefl _ h
    obtain⟨wz,hrun,MZ,hgz⟩:=M1.put hz ⟨hk8,hf4,hl⟩
    simp only[gO] at hrun
    rw[←hval] at hrun
    have c10:=aa E1.h10 0
    have c11:=aa E1.h11 0
    have t2:=(HW.out.below E1.bl).t2 k hk
    rw[←MX.out] at t2
    have z0:=aa y2 0
    have z1:=aa y2 1
    have z2:=aa y2 2
    have HV:=uk hval
    have HGW:=uk hgw
    have HSW:=uk hsw
    have HNW:=uk hnw
    clear hval hgw hsw hnw hz
    go_wp2_with fail
    go_ret
    exact⟨by rw[←HV.out];rfl,HGW.out.trans hgz,L1++[(k,f,left)],MZ,fun y hy=>vE _ (HSW.out y hy),fun y hy=>by
     rcases uV.1 hy with hy | hy
     ·exact (HNW.out y hy).imp id (fun h=>by rw[HN.out];exact uK h)
     ·simp at hy;subst hy;exact Or.inr (uo _)⟩
   ·obtain⟨l,hl1⟩:∃ l,left=l+1:=⟨left-1,by omega⟩
    have hd:(0<left)=True:=eq_true (by omega)
    have HL1:=uk hl1
    clear hl1 hl0
    have c12:=aa E1.h12 0
    have hlt2:∀ z:fN,z.2.2=l→fW (ad gs) g z<n:=fun z hz=>by rw[←HN.out];unfold fW;rw[hz];simp only;have:=@pA (ad gs) g z.1;have:=@nD (ad gs) g k;have:=HL1.out;omega
    have HL2:=uk hlt2
    clear hlt2
    have ht0:((0:Nat):Int)<(ad gs).tries g 0:=by have:=G.tries g 0 hg hr0;omega
    have HT0:=uk ht0
    clear ht0
    go_wp2_with fail
    refine (IH'.out _ (HL2.out _ rfl) 0 0 l _ _ _ rfl rfl (by have:=HL1.out;omega) hr0 HT0.out (by have:=HL1.out;omega) rfl we L1 E1 M1).mono ?_
    rintro e wf ⟨rfl,hgwf,L2,M2,hswf,hnwf⟩
    have E2:=E1.kept M1 hgwf
    obtain⟨B,hB⟩:∃ B,B=aC (ad gs) g 0 0 l:=⟨_,rfl⟩
    rw[←hB]
    have rB:0≤B∧B≤5000:=by rw[hB];exact dq Ld hr0 (by have:=HL1.out;omega)
    have HB:=uk hB
    clear hB
    have y3:=(hgwf.block _ (ag y2) (fun e=>M1.ne y2 (Option.some.inj e))).trans y2
    clear c12
    go_upto_region 10 with fail
    obtain⟨C,hC⟩:∃ C,C=max A B:=⟨_,rfl⟩
    rw[←hC]
    have rC:0≤C∧C≤5000:=by rw[hC];omega
    have HC:=uk hC
    clear hC rA rB
    have c10:=aa E2.h10 0
    have t1:=(HW.out.below E2.bl).t1 k hk
    rw[←TX.out] at t1
    by_cases hft:(f:Int)=tx-1
    ·have hdt:(((f:Nat):Int) == tx-1)=true:=by simp[hft]
     have HFT:=uk hft
     clear hft
     obtain⟨bk,rfl⟩:∃ bk:Nat,bx=bk:=⟨bx.toNat,by omega⟩
     have hbk:bk<(ac gs g).length:=by omega
     have htb:((0:Nat):Int)<(ad gs).tries g bk:=by have:=G.tries g bk hg hbk;omega
     have HTB:=uk htb
     clear htb
     have hwl:IntKind.i64.wrap ((left:Int)-1)=(l:Int):=by rw[IntKind.wrap_i64];have:=HL1.out;omega
     go_upto_region 11 with fail
     clear c10 t1
     have hbG:Below wf.heap.size wf wf.drew:=(Below.refl _ _).drew
     have EG:=E2.below hbG
     have MG:=M2.below hbG
     have y4:=(hbG.block _ (ag y3)).trans y3
     obtain⟨wg,hwg⟩:∃ wg,wg=wf.drew:=⟨_,rfl⟩
     rw[←hwg] at hbG EG MG y4
     have c9:=aa EG.h9 0
     have c4:=aa EG.h4 0
     have c11:=aa EG.h11 0
     have c12:=aa EG.h12 0
     have c10:=aa EG.h10 0
     have n0:=(HW.out.below EG.bl).n0
     have n1:=(HW.out.below EG.bl).n1
     have n2:=(HW.out.below EG.bl).n2 k hk
     have o0:=(HW.out.below EG.bl).b0
     have o1:=(HW.out.below EG.bl).b1
     have o2:=(HW.out.below EG.bl).b2 k hk
     have t1:=(HW.out.below EG.bl).t1 k hk
     have t2:=(HW.out.below EG.bl).t2 k hk
     rw[←BX.out] at o2
     have hS:(fun wy:World=>wy.cell? ⟨b12,0,none⟩=some (.func (.func 30) #[] #[.pointer (some ⟨b9,0,none⟩),.pointer (some ⟨b4,0,none⟩),.pointer (some ⟨b11,0,none⟩),.pointer (some ⟨b12,0,none⟩),.pointer (some ⟨b10,0,none⟩)])∧wy.cell? ⟨b9,0,none⟩=some (.pointer (some ⟨m,0,none⟩))∧wy.cell? ⟨m,2,none⟩=some (.slice (some ⟨bb,ob,none⟩) gs.length cb)∧wy.cell? ⟨b4,0,none⟩=some (.int .i64 g)∧wy.cell? ⟨bb,ob+g,none⟩=some (.slice (some ⟨bv,ov,none⟩) (ac gs g).length cv)∧wy.cell? ⟨bv,ov+k,none⟩=some (.int .i64 bk)) wg:=⟨c12,c9,o0,c4,o1,o2⟩
     clear c9 c4 c11 c12 c10 n0 n1 n2 o0 o1 o2 t1 t2
     refine wp_mono (ax (Q:=eL _) (fun wy:World=>wy.cell? ⟨b12,0,none⟩=some (.func (.func 30) #[] #[.pointer (some ⟨b9,0,none⟩),.pointer (some ⟨b4,0,none⟩),.pointer (some ⟨b11,0,none⟩),.pointer (some ⟨b12,0,none⟩),.pointer (some ⟨b10,0,none⟩)])∧wy.cell? ⟨b9,0,none⟩=some (.pointer (some ⟨m,0,none⟩))∧wy.cell? ⟨m,2,none⟩=some (.slice (some ⟨bb,ob,none⟩) gs.length cb)∧wy.cell? ⟨b4,0,none⟩=some (.int .i64 g)∧wy.cell? ⟨bb,ob+g,none⟩=some (.slice (some ⟨bv,ov,none⟩) (ac gs g).length cv)∧wy.cell? ⟨bv,ov+k,none⟩=some (.int .i64 bk)) (fun _=>false) (by kernel_rfl) ?_) (fun _ _ _ h=>fi h)
     rw[←hwg]
     clear hwg
     refine ae (i:=0) (v:=?vv14) rfl (by kernel_rfl) (fun _ _ _ h=>h) rfl ?hy14 ?rest14
     case hy14=>(intro wy;go_simp;  try with_reducible rfl)
     try simp only[Act.put,ut,uq,ur,uj,um,ul]
     refine ak (i:=1) (v:=?vv15) rfl (by kernel_rfl) (fun _ _ _ h=>h) rfl hS ?hy15 ?rest15
     case hy15=>(intro wy hy;(try dsimp only at hy);go_simp;try with_reducible rfl)
     try simp only[Act.put,ut,uq,ur,uj,um,ul]
     refine ak (i:=2) (v:=?vv16) rfl (by kernel_rfl) (fun _ _ _ h=>h) rfl hS ?hy16 ?rest16
     case hy16=>(intro wy hy;(try dsimp only at hy);go_simp;try with_reducible rfl)
     try simp only[Act.put,ut,uq,ur,uj,um,ul]
     refine ae (i:=3) (v:=?vv17) rfl (by kernel_rfl) (fun _ _ _ h=>h) rfl ?hy17 ?rest17
     case hy17=>(intro wy;go_simp;  try with_reducible rfl)
     try simp only[Act.put,ut,uq,ur,uj,um,ul]
     refine ae (i:=4) (v:=?vv18) rfl (by kernel_rfl) (fun _ _ _ h=>h) rfl ?hy18 ?rest18
     case hy18=>(intro wy;go_simp;  try with_reducible rfl)
     try simp only[Act.put,ut,uq,ur,uj,um,ul]
     refine ak (i:=5) (v:=?vv19) rfl (by kernel_rfl) (fun _ _ _ h=>h) rfl hS ?hy19 ?rest19
     case hy19=>(intro wy hy;(try dsimp only at hy);go_simp;try with_reducible rfl)
     try simp only[Act.put,ut,uq,ur,uj,um,ul]
     refine ak (i:=6) (v:=?vv20) rfl (by kernel_rfl) (fun _ _ _ h=>h) rfl hS ?hy20 ?rest20
     case hy20=>(intro wy hy;(try dsimp only at hy);go_simp;try with_reducible rfl)
     try simp only[Act.put,ut,uq,ur,uj,um,ul]
     refine ae (i:=7) (v:=?vv21) rfl (by kernel_rfl) (fun _ _ _ h=>h) rfl ?hy21 ?rest21
     case hy21=>(intro wy;go_simp;  try with_reducible rfl)
     try simp only[Act.put,ut,uq,ur,uj,um,ul]
     refine ak (i:=8) (v:=?vv22) rfl (by kernel_rfl) (fun _ _ _ h=>h) rfl hS ?hy22 ?rest22
     case hy22=>(intro wy hy;(try dsimp only at hy);go_simp;try with_reducible rfl)
     try simp only[Act.put,ut,uq,ur,uj,um,ul]
     refine ae (i:=9) (v:=?vv23) rfl (by kernel_rfl) (fun _ _ _ h=>h) rfl ?hy23 ?rest23
     case hy23=>(intro wy;go_simp;  try with_reducible rfl)
     try simp only[Act.put,ut,uq,ur,uj,um,ul]
     refine ae (i:=10) (v:=?vv24) rfl (by kernel_rfl) (fun _ _ _ h=>h) rfl ?hy24 ?rest24
     case hy24=>(intro wy;go_simp;  try with_reducible rfl)
     try simp only[Act.put,ut,uq,ur,uj,um,ul]
     refine ak (i:=11) (v:=?vv25) rfl (by kernel_rfl) (fun _ _ _ h=>h) rfl hS ?hy25 ?rest25
     case hy25=>(intro wy hy;(try dsimp only at hy);go_simp;try with_reducible rfl)
     try simp only[Act.put,ut,uq,ur,uj,um,ul]
     refine ae (i:=12) (v:=?vv26) rfl (by kernel_rfl) (fun _ _ _ h=>h) rfl ?hy26 ?rest26
     case hy26=>(intro wy;go_simp;  try with_reducible rfl)
     try simp only[Act.put,ut,uq,ur,uj,um,ul]
     refine ae (i:=13) (v:=?vv27) rfl (by kernel_rfl) (fun _ _ _ h=>h) rfl ?hy27 ?rest27
     case hy27=>(intro wy;go_simp;(try simp only[hwl]);try with_reducible rfl)
     try simp only[Act.put,ut,uq,ur,uj,um,ul]
     refine an (i:=14) rfl (by kernel_rfl) rfl (fun K hK=>?_)
     go_simp
     refine (IH'.out _ (HL2.out _ rfl) bk 0 l _ _ _ rfl rfl rfl hbk HTB.out (by have:=HL1.out;omega) rfl wg L2 EG MG).mono ?_
     rintro e wh ⟨rfl,hgwh,L3,M3,hswh,hnwh⟩
     have E3:=EG.kept MG hgwh
     obtain⟨Z,hZ⟩:∃ Z,Z=aC (ad gs) g bk 0 l:=⟨_,rfl⟩
     rw[←hZ]
     have rZ:0≤Z∧Z≤5000:=by rw[hZ];exact dq Ld hbk (by have:=HL1.out;omega)
     have HZ:=uk hZ
     clear hZ
     have y5:=(hgwh.block _ (ag y4) (fun e=>MG.ne y4 (Option.some.inj e))).trans y4
     have c9:=aa E3.h9 0
     have c4:=aa E3.h4 0
     have c11:=aa E3.h11 0
     have c12:=aa E3.h12 0
     have c10:=aa E3.h10 0
     have n0:=(HW.out.below E3.bl).n0
     have n1:=(HW.out.below E3.bl).n1
     have n2:=(HW.out.below E3.bl).n2 k hk
     have o0:=(HW.out.below E3.bl).b0
     have o1:=(HW.out.below E3.bl).b1
     have o2:=(HW.out.below E3.bl).b2 k hk
     have t1:=(HW.out.below E3.bl).t1 k hk
     have t2:=(HW.out.below E3.bl).t2 k hk
     rw[←BX.out] at o2
     refine hK _ _ (fun _ _=>⟨c12,c9,o0,c4,o1,o2⟩) ?_
     clear hK K
     try simp only[Act.put,ut,uq,ur,uj,um,ul]
     refine an (i:=15) rfl (by kernel_rfl) rfl (fun K hK=>?_)
     go_simp
     refine hK _ _ (fun _ _=>⟨c12,c9,o0,c4,o1,o2⟩) ?_
     clear hK K hS c9 c4 c11 c12 c10 n0 n1 n2 o0 o1 o2 t1 t2
     try simp only[Act.put,ut,uq,ur,uj,um,ul]
     refine ae (i:=16) (v:=?vv28) rfl (by kernel_rfl) (fun _ _ _ h=>h) rfl ?hy28 ?rest28
     case hy28=>(intro wy;go_simp;  try with_reducible rfl)
     try simp only[Act.put,ut,uq,ur,uj,um,ul]
     refine aW (by kernel_rfl) ?_ _
     simp only[eL]
     obtain⟨D,hD⟩:∃ D,D=max C Z:=⟨_,rfl⟩
     rw[←hD]
     have rD:0≤D∧D≤5000:=by rw[hD];omega
     have HD:=uk hD
     clear hD rC rZ
     have hgw:w.grownBy wh (some mt):=((((fE hbD).trans hgwe).trans hgwf).trans (fE hbG)).trans hgwh
     have hsw:∀ y∈L,y∈L3:=fun y hy=>hswh y (hswf y (hswe y hy))
     have hnw:∀ y∈L3,y∈L∨fW (ad gs) g y<n:=fun y hy=>(hnwh y hy).elim (fun h=>(hnwf y h).elim (fun h=>(hnwe y h).imp id (fun h=>vo h HLT.out)) (fun h=>Or.inr (vo h (HL2.out _ rfl)))) (fun h=>Or.inr (vo h (HL2.out _ rfl)))
     have hval:D+mx=aC (ad gs) g k f left:=by rw[nK Ld hkr (by rw[←NX.out];omega) HL1.out (by rw[←TX.out];exact HFT.out),←NX.out,←BX.out,←MX.out,uP,uP,←HA.out,←HB.out,←HZ.out,HD.out,HC.out]
     have hz:(k,f,left)∉L3:=fun hm=>by rcases hnw _ hm with h | h;exact HIN.out h;rw[HN.out] at h;exact Nat.lt_irrefl _ h
     obtain⟨wz,hrun,MZ,hgz⟩:=M3.put hz ⟨hk8,hf4,hl⟩
     simp only[gO] at hrun
     rw[←hval] at hrun
     have c10:=aa E3.h10 0
     have c11:=aa E3.h11 0
     have t2:=(HW.out.below E3.bl).t2 k hk
     rw[←MX.out] at t2
     have z0:=aa y5 0
     have z1:=aa y5 1
     have z2:=aa y5 2
     have HV:=uk hval
     have HGW:=uk hgw
     have HSW:=uk hsw
     have HNW:=uk hnw
     clear hval hgw hsw hnw hz
     go_wp2_with fail
     go_ret
     exact⟨by rw[←HV.out];rfl,HGW.out.trans hgz,L3++[(k,f,left)],MZ,fun y hy=>vE _ (HSW.out y hy),fun y hy=>by
      rcases uV.1 hy with hy | hy
      ·exact (HNW.out y hy).imp id (fun h=>by rw[HN.out];exact uK h)
      ·simp at hy;subst hy;exact Or.inr (uo _)⟩
    ·have hdt:(((f:Nat):Int) == tx-1)=false:=by simp;omega
     have HFT:=uk hft
     have htf:((f+1:Nat):Int)<(ad gs).tries g k:=by rw[←TX.out];omega
     have HTF:=uk htf
     clear hft htf
     have c12:=aa E2.h12 0
     go_wp2_with fail
     refine (IH'.out _ (HL2.out _ rfl) k (f+1) l _ _ _ rfl (by omega) (by have:=HL1.out;omega) hk HTF.out (by have:=HL1.out;omega) rfl wf L2 E2 M2).mono ?_
     rintro e wh ⟨rfl,hgwh,L3,M3,hswh,hnwh⟩
     have E3:=E2.kept M2 hgwh
     obtain⟨Z,hZ⟩:∃ Z,Z=aC (ad gs) g k (f+1) l:=⟨_,rfl⟩
     rw[←hZ]
     have rZ:0≤Z∧Z≤5000:=by rw[hZ];exact dq Ld hk (by have:=HL1.out;omega)
     have HZ:=uk hZ
     clear hZ
     have y5:=(hgwh.block _ (ag y3) (fun e=>M2.ne y3 (Option.some.inj e))).trans y3
     clear c12 c10 t1
     go_upto_region 13 with fail
     obtain⟨D,hD⟩:∃ D,D=max C Z:=⟨_,rfl⟩
     rw[←hD]
     have rD:0≤D∧D≤5000:=by rw[hD];omega
     have HD:=uk hD
     clear hD rC rZ
     have hgw:w.grownBy wh (some mt):=(((fE hbD).trans hgwe).trans hgwf).trans hgwh
     have hsw:∀ y∈L,y∈L3:=fun y hy=>hswh y (hswf y (hswe y hy))
     have hnw:∀ y∈L3,y∈L∨fW (ad gs) g y<n:=fun y hy=>(hnwh y hy).elim (fun h=>(hnwf y h).elim (fun h=>(hnwe y h).imp id (fun h=>vo h HLT.out)) (fun h=>Or.inr (vo h (HL2.out _ rfl)))) (fun h=>Or.inr (vo h (HL2.out _ rfl)))
     have hval:D+mx=aC (ad gs) g k f left:=by rw[nM Ld hkr (by rw[←NX.out];omega) HL1.out (by rw[←TX.out];exact HFT.out),←NX.out,←MX.out,uP,←HA.out,←HB.out,←HZ.out,HD.out,HC.out]
     have hz:(k,f,left)∉L3:=fun hm=>by rcases hnw _ hm with h | h;exact HIN.out h;rw[HN.out] at h;exact Nat.lt_irrefl _ h
     obtain⟨wz,hrun,MZ,hgz⟩:=M3.put hz ⟨hk8,hf4,hl⟩
     simp only[gO] at hrun
     rw[←hval] at hrun
     have c10:=aa E3.h10 0
     have c11:=aa E3.h11 0
     have t2:=(HW.out.below E3.bl).t2 k hk
     rw[←MX.out] at t2
     have z0:=aa y5 0
     have z1:=aa y5 1
     have z2:=aa y5 2
     have HV:=uk hval
     have HGW:=uk hgw
     have HSW:=uk hsw
     have HNW:=uk hnw
     clear hval hgw hsw hnw hz
     go_wp2_with fail
     go_ret
     exact⟨by rw[←HV.out];rfl,HGW.out.trans hgz,L3++[(k,f,left)],MZ,fun y hy=>vE _ (HSW.out y hy),fun y hy=>by
      rcases uV.1 hy with hy | hy
      ·exact (HNW.out y hy).imp id (fun h=>by rw[HN.out];exact uK h)
      ·simp at hy;subst hy;exact Or.inr (uo _)⟩
end Go.Proofs.YtlkniohhalnjjaaGreatDoor
