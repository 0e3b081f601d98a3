/- Lemmas of this claim. -/
import Derived.Test.YtlkniohhalnjjaaGreatDoorKSmall2
import Derived.Test.YtlkniohhalnjjaaGreatDoorKStat
set_option linter.all false
set_option maxRecDepth 100000
set_option maxHeartbeats 8000000
namespace Go.Proofs.YtlkniohhalnjjaaGreatDoor
open Go.RowKit Dc Dg
def fU (gs:List Gd) (l:List Ev):Bool:=l.all (cx (ad gs))
def bI (gs:List Gd) (l:List Ev):Int:=if aS gs=true then (if 256<l.length then 3 else if fU gs l=true then 0 else 42) else 40
def jV (w:World) (gs:List Gd) (p:Option Addr) (c:Nat) (l:List Ev) (e:Ending) (w':World):Prop :=
 Below w.heap.size w w'∧((bI gs l≠0∧e=.returned (.tuple #[.pointer none,.slice none 0 0,.int .i64 (bI gs l)])) ∨
  (bI gs l=0∧∃ (mB:Nat) (vn vb:Value) (mb N s:Nat) (f:Nat×Nat→Option Value) (qv:Value),e=.returned (.tuple #[.pointer (some ⟨mB,0,none⟩),qv,.int .i64 0])∧bZ w' mB gs p c vn vb mb N s f∧bG w.heap.size w' qv (aR (ad gs) St.zero l)))
theorem jV.bad {w w':World}{gs:List Gd}{p:Option Addr}{c:Nat}{l:List Ev}{n:Int} (h:bI gs l=n) (hn:n≠0) (hb:Below w.heap.size w w'):jV w gs p c l (.returned (.tuple #[.pointer none,.slice none 0 0,.int .i64 n])) w' :=
 ⟨hb,Or.inl ⟨by rw[h];exact hn,by rw[h]⟩⟩
theorem bG.base {B B':Nat}{w:World}{v:Value}{q:List St} (h:bG B w v q) (hb:B'≤B):bG B' w v q:=by
 obtain⟨ao,cap,e,h1,h2,h3⟩:=h
 exact⟨ao,cap,e,h1,h2,fun hc=>by obtain⟨g,off,cur,e2,hB,r⟩:=h3 hc;exact⟨g,off,cur,e2,uB hb hB,r⟩⟩
theorem mT {gs:List Gd}{l:List Ev}{i:Nat} (hi:i<l.length) (h:fU gs (l.take i)=true) (h2:cx (ad gs) l[i]=true):fU gs (l.take (i+1))=true:=by
 unfold fU at *
 rw[uO,uu hi,vO,h]
 simp[h2]
theorem oK {gs:List Gd}{l:List Ev}{i:Nat} (hi:i<l.length) (h2:cx (ad gs) l[i]=false):fU gs l=false:=by
 unfold fU
 rw[vF]
 exact⟨_,uH hi,by rw[h2];exact uC⟩
structure nO (w3 wr:World) (gs:List Gd) (l:List Ev) (i:Nat) (qv:Value):Prop where
 below:Below w3.heap.size w3 wr
 q:bG w3.heap.size wr qv (aR (ad gs) St.zero (l.take i))
 ok:fU gs (l.take i)=true
theorem mj (M:ar) (l:List Ev) (x:St):∃ h:l.length<(aR M x l).length,(aR M x l)[l.length]=gt M x l:=by
 have hl:=bN M l x
 refine⟨by omega,?_⟩
 have:=gw M l x l.length (uo _)
 rw[uu (by omega),uX] at this
 exact Option.some.inj this
theorem oa (gs:List Gd) (p:Option Addr) (c:Nat) (v:Value) (l:List Ev) (w:World) (hP:dM w p c gs) (hE:iN w v l) (hlen:(l.length:Int)≤9223372036854775807) :
  Calls Tryz.prog 19 #[.agg #[.slice p gs.length c],v] w (jV w gs p c l):=by
 obtain⟨pe,ce,rfl,hEv⟩:=hE.at_
 have HEV:=uk hEv
 have HE:=uk hE
 clear hEv hE
 have hb1:Below w.heap.size w (w.alloc (.cells #[.slice p gs.length c] 28)):=(Below.refl _ _).alloc (uo _) _
 have s0:=heap_alloc_new w (.cells #[.slice p gs.length c] 28)
 have P1:=hP.below hb1
 have c0:=aa s0 0
 go_enter Tryz.func19,Tryz.ntmps19
 go_upto_region 1 with fail
 generalize w.alloc (.cells #[.slice p gs.length c] 28)=w1 at *
 go_wp2_with fail
 refine P1.check.mono ?_
 rintro e w2 ⟨rfl,hb2⟩
 have P2:=P1.below hb2
 have t0:=(hb2.block _ (ag s0)).trans s0
 have HB2:=hb1.trans (hb2.mono hb1.size)
 clear s0 hb2 hb1 P1 c0
 cases hS:aS gs
 ·simp only[u_,if_false]
  have hpe:bI gs l=40:=by unfold bI;rw[if_neg (by rw[hS];exact uC)]
  go_wp2_with fail
  all_goals go_ret3
  all_goals exact jV.bad hpe (by decide) HB2
 ·simp only[if_true]
  obtain⟨n,hnl⟩:∃ n,n=l.length:=⟨_,rfl⟩
  rw[←hnl] at hlen ⊢
  have HNL:=uk hnl
  clear hnl
  obtain⟨hl1,hl3⟩:=bf hS
  have e0:=aa t0 0
  by_cases hbig:(256:Int)<n
  ·have hd:decide ((256:Int)<n)=true:=by simpa using hbig
   have hpe:bI gs l=3:=by unfold bI;rw[if_pos hS,if_pos (by have:=HNL.out;omega)]
   go_wp2_with fail
   go_ret3
   exact jV.bad hpe (by decide) HB2
  ·have hd:decide ((256:Int)<n)=false:=by simpa using hbig
   have hpe:bI gs l=if fU gs l=true then 0 else 42:=by unfold bI;rw[if_pos hS,if_neg (by have:=HNL.out;omega)]
   have HPE:=uk hpe
   clear hpe
   go_wp2_with fail
   refine (ki gs p c w2 P2.G hS).mono ?_
   rintro e w3 ⟨mB,vn,vb,mb,Nm,sm,f,rfl,hM,hb3⟩
   have hb4:Below w3.heap.size w3 (w3.alloc (.cells #[.int .i64 0,.int .i64 0,.int .i64 0,.int .i64 0,.int .i64 0,.int .i64 0] 71)):=(Below.refl _ _).alloc (uo _) _
   have HB4:=(HB2.trans (hb3.mono HB2.size)).trans (hb4.mono (uB HB2.size hb3.size))
   have hM4:=hM.below hb4
   have hQ4:bG w.heap.size (w3.alloc (.cells #[.int .i64 0,.int .i64 0,.int .i64 0,.int .i64 0,.int .i64 0,.int .i64 0] 71)) (.slice (some ⟨w3.heap.size,0,none⟩) 1 1) [St.zero]:=bG.start (StP.new w3 St.zero) (uB HB2.size hb3.size)
   go_wp2_with fail
   have hE3:=HE.out.below ((HB2.trans (hb3.mono HB2.size)).mono (uo _) |> fun h=>(show Below w.heap.size w w3 from h))
   obtain⟨pe',ce',he',hev3⟩:=hE3.at_
   have hR0:nO w3 (w3.alloc (.cells #[.int .i64 0,.int .i64 0,.int .i64 0,.int .i64 0,.int .i64 0,.int .i64 0] 71)) gs l 0 (.slice (some ⟨w3.heap.size,0,none⟩) 1 1):=⟨hb4,bG.start (StP.new w3 St.zero) (uo _),by simp[fU]⟩
   have hB3:=HB2.trans (hb3.mono HB2.size)
   have HEV3:=uk hev3
   have hz3:w.heap.size<w3.heap.size:=uv (ag t0) hb3.size
   have hn256:n≤256:=by omega
   clear hev3 hQ4 hM4 HB4 hb4 HEV hd e0 t0 P2 hb3 hbig HB2
   go_loopw [26,9] (fun s26 s9 wr=>∃ i:Nat,s26=.int .i64 i∧i≤n∧nO w3 wr gs l i s9) (fun s26 _ _=>n-(intOf s26).toNat)
   case atStart=>exact⟨0,rfl,by omega,hR0⟩
   case round =>
    clear hR0
    obtain⟨i,rfl,hi,hR⟩:=hrel
    by_cases hin:i<n
    ·have hil:i<l.length:=by have:=HNL.out;omega
     obtain⟨b,o,hpe,hbw,hcs⟩:=HEV3.out (by omega)
     have hpp:pe=some ⟨b,o,none⟩:=by
      have:=he'
      cases this
      exact hpe
     subst hpp
     obtain⟨ev,hev⟩:∃ ev,ev=l[i]:=⟨_,rfl⟩
     obtain⟨e0,e1⟩:=hcs i hil
     rw[←hev] at e0 e1
     have HV:=uk hev
     clear hev hcs hpe
     obtain⟨eg,ek⟩:=ev
     simp only at e0 e1
     have x0:=(hR.below.cell (p:=⟨b,_,none⟩) hbw).trans e0
     have x1:=(hR.below.cell (p:=⟨b,_,none⟩) hbw).trans e1
     have hbA:Below w3.heap.size w3 (wr.alloc (.cells #[.int .i64 eg,.int .i64 ek] 31)):=hR.below.alloc hR.below.size _
     have y0:=heap_alloc_new wr (.cells #[.int .i64 eg,.int .i64 ek] 31)
     have hQA:=hR.q.below ((Below.refl wr.heap.size wr).alloc (uo _) (.cells #[.int .i64 eg,.int .i64 ek] 31))
     have HOK:=uk hR.ok
     clear e0 e1 he'
     go_upto_region 11 with fail
     generalize wr.alloc (.cells #[.int .i64 eg,.int .i64 ek] 31)=wa at *
     generalize wr.heap.size=be at *
     have z0:=aa y0 0
     have z1:=aa y0 1
     have hMA:=hM.below hbA
     clear x0 x1 hR
     go_wp2_with fail
     refine (lp gs p c mB ⟨eg,ek⟩ wa hMA.m0 hl3).mono ?_
     rintro e wb ⟨rfl,hbB⟩
     have HBB:=hbA.trans (hbB.mono hbA.size)
     cases hok:cx (ad gs) ⟨eg,ek⟩
     ·have hpe:bI gs l=42:=by
       rw[HPE.out,if_neg]
       rw[oK hil (by rw[←HV.out];exact hok)]
       exact uC
      go_wp2_with fail
      go_ret3
      exact jV.bad hpe (by decide) (hB3.trans (HBB.mono hB3.size))
     ·have hoks:=dZ.1 hok
      obtain⟨gn,rfl⟩:∃ gn:Nat,eg=gn:=⟨eg.toNat,by have:=hoks.1;simp only at this;omega⟩
      have hgn:gn<gs.length:=by have:=hoks.2.1;simp only[ad] at this;omega
      have hk0:=hoks.2.2.1
      have hk2:=hoks.2.2.2
      simp only at hk0 hk2
      have HST:=uk (mT hil HOK.out (by rw[←HV.out];exact hok))
      have hQB:=hQA.below hbB
      have hMB:=hM.below HBB
      have y1:=(hbB.block _ (ag y0)).trans y0
      have z0:=aa y1 0
      have z1:=aa y1 1
      clear hok hoks y0 hMA hbA hbB
      obtain⟨hsl,hse⟩:=mj (ad gs) (l.take i) St.zero
      have hqi:=hQB.get hsl
      rw[hse] at hqi
      have hln:(aR (ad gs) St.zero (l.take i)).length=i+1:=by rw[bN,uW];omega
      have hli:(l.take i).length=i:=by rw[uW];omega
      have hxat:(ad gs).At (gt (ad gs) St.zero (l.take i)):=nz (aI hS) _ _ (ar.At.zero (aI hS)) (fun u hu=>uM.1 HOK.out u hu)
      obtain⟨x,hx⟩:∃ x,x=gt (ad gs) St.zero (l.take i):=⟨_,rfl⟩
      rw[←hx] at hqi hxat
      rw[hln,hli] at hqi
      obtain⟨g,off,cap,rfl,hgl,q0,q1,q2,q3,q4,q5⟩:=hqi
      have HX:=uk hx
      have HLN:=uk hln
      clear hx hln hli hse hsl z0 z1
      have z0:=aa y1 0
      have z1:=aa y1 1
      go_upto_region 13 with fail
      have hbd:Below wb.heap.size wb wb.drew:=(Below.refl _ _).drew
      have a0:=(hbd.cell (p:=⟨g,_,none⟩) hgl).trans q0
      have a1:=(hbd.cell (p:=⟨g,_,none⟩) hgl).trans q1
      have a2:=(hbd.cell (p:=⟨g,_,none⟩) hgl).trans q2
      have a3:=(hbd.cell (p:=⟨g,_,none⟩) hgl).trans q3
      have a4:=(hbd.cell (p:=⟨g,_,none⟩) hgl).trans q4
      have a5:=(hbd.cell (p:=⟨g,_,none⟩) hgl).trans q5
      have y2:=(hbd.block _ (ag y1)).trans y1
      have b0:=aa y2 0
      have b1:=aa y2 1
      have hQD:=hQB.below hbd
      have hMD:=hMB.below hbd
      have HBD:=HBB.trans (hbd.mono HBB.size)
      have hoffc:i+1≤257:=by omega
      have hil1:((i:Nat):Int)<(i:Int)+1:=by omega
      have hwi:IntKind.i64.wrap ((i:Nat):Int)=i:=by rw[IntKind.wrap_i64];omega
      clear q0 q1 q2 q3 q4 q5 z0 z1 y1 hQB hMB HBB hQA hgl
      refine wp_mono (ax (Q:=eL _) (fun _=>True) (fun _=>false) (by kernel_rfl) ?_) (fun _ _ _ h=>fi h)
      generalize wb.drew=wd at *
      refine ae (i:=0) (v:=?vv0) rfl (by kernel_rfl) (fun _ _ _ h=>h) rfl ?hy0 ?rest0
      case hy0=>(intro wy;go_simp;try with_reducible rfl)
      try simp only[Act.put,uj,um,ul]
      refine ae (i:=1) (v:=?vv1) rfl (by kernel_rfl) (fun _ _ _ h=>h) rfl ?hy1 ?rest1
      case hy1=>(intro wy;go_simp;try with_reducible rfl)
      try simp only[Act.put,uj,um,ul]
      refine ae (i:=2) (v:=?vv2) rfl (by kernel_rfl) (fun _ _ _ h=>h) rfl ?hy2 ?rest2
      case hy2=>(intro wy;go_simp;try with_reducible rfl)
      try simp only[Act.put,uj,um,ul]
      refine ae (i:=3) (v:=?vv3) rfl (by kernel_rfl) (fun _ _ _ h=>h) rfl ?hy3 ?rest3
      case hy3=>(intro wy;go_simp;try with_reducible rfl)
      try simp only[Act.put,uj,um,ul]
      refine ae (i:=4) (v:=?vv4) rfl (by kernel_rfl) (fun _ _ _ h=>h) rfl ?hy4 ?rest4
      case hy4=>(intro wy;go_simp;try with_reducible rfl)
      try simp only[Act.put,uj,um,ul]
      refine ae (i:=5) (v:=?vv5) rfl (by kernel_rfl) (fun _ _ _ h=>h) rfl ?hy5 ?rest5
      case hy5=>(intro wy;go_simp;(try simp only[hwi]);try with_reducible rfl)
      try simp only[Act.put,uj,um,ul]
      refine ae (i:=6) (v:=?vv6) rfl (by kernel_rfl) (fun _ _ _ h=>h) rfl ?hy6 ?rest6
      case hy6=>(intro wy;go_simp;(try rw[if_pos hil1]);try with_reducible rfl)
      try simp only[Act.put,uj,um,ul]
      refine kV (i:=7) (i':=8) rfl rfl (by kernel_rfl) rfl rfl (fun K hK=>?_) (fun K hK=>?_)
      ·go_simp
       refine hK _ _ (fun _ _=>trivial) ?_
       clear hK K
       try simp only[Act.put,uj,um,ul]
       refine an (i:=8) rfl (by kernel_rfl) rfl (fun K hK=>?_)
       go_simp
       refine hK _ _ (fun _ _=>trivial) ?_
       clear hK K
       try simp only[Act.put,uj,um,ul]
       clear a0 a1 a2 a3 a4 a5 b0 b1
       refine an (i:=9) rfl (by kernel_rfl) rfl (fun K hK=>?_)
       go_simp
       refine (n6 gs p c vn vb mb Nm sm f wd mB x gn ek hMD (eo hS) hS hxat hgn hk0 hk2).mono ?_
       rintro e we ⟨y,rfl,HY,hbe⟩
       refine hK _ _ (fun _ _=>trivial) ?_
       clear hK K
       try simp only[Act.put,uj,um,ul]
       refine an (i:=10) rfl (by kernel_rfl) rfl (fun K hK=>?_)
       go_simp
       refine hK _ _ (fun _ _=>trivial) ?_
       clear hK K
       try simp only[Act.put,uj,um,ul]
       have hbf:Below we.heap.size we (we.alloc (.cells #[.int .i64 y.a0,.int .i64 y.a1,.int .i64 y.a2,.int .i64 y.f0,.int .i64 y.f1,.int .i64 y.f2] 71)):=(Below.refl _ _).alloc (uo _) _
       have HBF:=(HBD.trans (hbe.mono HBD.size)).trans (hbf.mono (uB HBD.size hbe.size))
       obtain⟨qv',wg,hrun,hQg,hgg,_⟩:=ik (we.alloc (.cells #[.int .i64 y.a0,.int .i64 y.a1,.int .i64 y.a2,.int .i64 y.f0,.int .i64 y.f1,.int .i64 y.f2] 71)) 65 ((hQD.below hbe).below hbf) HBF.size (by rw[HLN.out];omega) (StP.new we y)
       obtain⟨gq,cq,eq1,eq2,_⟩:=((hQD.below hbe).below hbf).block (by intro e;have:=HLN.out;rw[e] at this;simp at this)
       have HBG:Below w3.heap.size w3 wg:=HBF.grown hgg HBF.size (fun k hk=>by rw[eq1] at hk;cases hk;exact eq2)
       have hRg:nO w3 wg gs l (i+1) qv':=by
        refine⟨HBG,?_,HST.out⟩
        rw[uO,uu hil]
        show bG _ _ _ (aR _ _ (l.take i++[l[i]]))
        rw[fp,←HX.out,←HV.out,HY.out]
        exact hQg
       refine an (i:=11) rfl (by kernel_rfl) rfl (fun K hK=>?_)
       refine eM _ _ _ rfl rfl rfl hrun ?_
       refine hK _ _ (fun _ _=>trivial) ?_
       clear hK K hrun hQg hgg HBF hbf eq1 eq2 HBG hQD hbe
       try simp only[Act.put,uj,um,ul]
       refine ae (i:=12) (v:=?vv12) rfl (by kernel_rfl) (fun _ _ _ h=>h) rfl ?hy12 ?rest12
       case hy12=>(intro wy;go_simp;try with_reducible rfl)
       try simp only[Act.put,uj,um,ul]
       try simp only[Act.put,ut,uq,ur,uj,um,ul]
       refine aW (by kernel_rfl) ?_ _
       simp only[eL]
       go_wp2_with fail
       go_roundw
       case rel=>exact⟨i+1,by go_num,by omega,hRg⟩
       case measure=>simp[intOf];omega
      ·go_simp
       refine hK _ _ (fun _ _=>trivial) ?_
       clear hK K
       try simp only[Act.put,uj,um,ul]
       refine an (i:=7) rfl (by kernel_rfl) rfl (fun K hK=>?_)
       go_simp
       refine hK _ _ (fun _ _=>trivial) ?_
       clear hK K
       try simp only[Act.put,uj,um,ul]
       clear a0 a1 a2 a3 a4 a5 b0 b1
       refine an (i:=9) rfl (by kernel_rfl) rfl (fun K hK=>?_)
       go_simp
       refine (n6 gs p c vn vb mb Nm sm f wd mB x gn ek hMD (eo hS) hS hxat hgn hk0 hk2).mono ?_
       rintro e we ⟨y,rfl,HY,hbe⟩
       refine hK _ _ (fun _ _=>trivial) ?_
       clear hK K
       try simp only[Act.put,uj,um,ul]
       refine an (i:=10) rfl (by kernel_rfl) rfl (fun K hK=>?_)
       go_simp
       refine hK _ _ (fun _ _=>trivial) ?_
       clear hK K
       try simp only[Act.put,uj,um,ul]
       have hbf:Below we.heap.size we (we.alloc (.cells #[.int .i64 y.a0,.int .i64 y.a1,.int .i64 y.a2,.int .i64 y.f0,.int .i64 y.f1,.int .i64 y.f2] 71)):=(Below.refl _ _).alloc (uo _) _
       have HBF:=(HBD.trans (hbe.mono HBD.size)).trans (hbf.mono (uB HBD.size hbe.size))
       obtain⟨qv',wg,hrun,hQg,hgg,_⟩:=ik (we.alloc (.cells #[.int .i64 y.a0,.int .i64 y.a1,.int .i64 y.a2,.int .i64 y.f0,.int .i64 y.f1,.int .i64 y.f2] 71)) 65 ((hQD.below hbe).below hbf) HBF.size (by rw[HLN.out];omega) (StP.new we y)
       obtain⟨gq,cq,eq1,eq2,_⟩:=((hQD.below hbe).below hbf).block (by intro e;have:=HLN.out;rw[e] at this;simp at this)
       have HBG:Below w3.heap.size w3 wg:=HBF.grown hgg HBF.size (fun k hk=>by rw[eq1] at hk;cases hk;exact eq2)
       have hRg:nO w3 wg gs l (i+1) qv':=by
        refine⟨HBG,?_,HST.out⟩
        rw[uO,uu hil]
        show bG _ _ _ (aR _ _ (l.take i++[l[i]]))
        rw[fp,←HX.out,←HV.out,HY.out]
        exact hQg
       refine an (i:=11) rfl (by kernel_rfl) rfl (fun K hK=>?_)
       refine eM _ _ _ rfl rfl rfl hrun ?_
       refine hK _ _ (fun _ _=>trivial) ?_
       clear hK K hrun hQg hgg HBF hbf eq1 eq2 HBG hQD hbe
       try simp only[Act.put,uj,um,ul]
       refine ae (i:=12) (v:=?vv13) rfl (by kernel_rfl) (fun _ _ _ h=>h) rfl ?hy13 ?rest13
       case hy13=>(intro wy;go_simp;try with_reducible rfl)
       try simp only[Act.put,uj,um,ul]
       try simp only[Act.put,ut,uq,ur,uj,um,ul]
       refine aW (by kernel_rfl) ?_ _
       simp only[eL]
       go_wp2_with fail
       go_roundw
       case rel=>exact⟨i+1,by go_num,by omega,hRg⟩
       case measure=>simp[intOf];omega
    ·have hie:i=n:=by omega
     subst hie
     clear hin hi
     have hpe:bI gs l=0:=by
      rw[HPE.out,if_pos]
      have:=hR.ok
      rw[uE (by have:=HNL.out;omega)] at this
      exact this
     have hq:=hR.q
     rw[uE (by have:=HNL.out;omega)] at hq
     have hMr:=hM.below hR.below
     go_wp2_with fail
     go_ret3
     exact⟨hB3.trans (hR.below.mono hB3.size),Or.inr ⟨hpe,mB,vn,vb,mb,Nm,sm,f,_,rfl,hMr,hq.base hB3.size⟩⟩
end Go.Proofs.YtlkniohhalnjjaaGreatDoor
