/- Lemmas of this claim. -/
import Derived.Test.YtlkniohhalnjjaaGreatDoorKSys
import Derived.Test.YtlkniohhalnjjaaGreatDoorKKeys
set_option linter.all false
set_option maxRecDepth 100000
set_option maxHeartbeats 8000000
namespace Go.Proofs.YtlkniohhalnjjaaGreatDoor
open Go.RowKit Dc Dg
structure bL (w:World) (v:Value) (l:List Int):Prop where
 at_:∃ p c,v=.slice p l.length c∧(0<l.length→∃ b o,p=some ⟨b,o,none⟩∧b<w.heap.size∧∀ i (h:i<l.length),w.cell? ⟨b,o+i,none⟩=some (.int .i64 l[i]))
theorem bL.below {w w':World}{v:Value}{l:List Int} (h:bL w v l) (hb:Below w.heap.size w w'):bL w' v l:=by
 obtain⟨p,c,e,hc⟩:=h.at_
 refine⟨p,c,e,fun hl=>?_⟩
 obtain⟨b,o,e2,hlt,hi⟩:=hc hl
 exact⟨b,o,e2,uv hlt hb.size,fun i hi2=>(hb.cell (p:=⟨b,_,none⟩) hlt).trans (hi i hi2)⟩
structure eR (w:World) (v:Value) (l:List (Nat×List Int)):Prop where
 at_:∃ p c,v=.slice p l.length c∧(0<l.length→∃ b o,p=some ⟨b,o,none⟩∧b<w.heap.size∧∀ i (h:i<l.length),∃ u,w.cell? ⟨b,o+i*2,none⟩=some (.int .i64 l[i].1)∧w.cell? ⟨b,o+i*2+1,none⟩=some u∧bL w u l[i].2)
theorem eR.below {w w':World}{v:Value}{l:List (Nat×List Int)} (h:eR w v l) (hb:Below w.heap.size w w'):eR w' v l:=by
 obtain⟨p,c,e,hc⟩:=h.at_
 refine⟨p,c,e,fun hl=>?_⟩
 obtain⟨b,o,e2,hlt,hi⟩:=hc hl
 refine⟨b,o,e2,uv hlt hb.size,fun i hi2=>?_⟩
 obtain⟨u,h1,h2,h3⟩:=hi i hi2
 exact⟨u,(hb.cell (p:=⟨b,_,none⟩) hlt).trans h1,(hb.cell (p:=⟨b,_,none⟩) hlt).trans h2,h3.below hb⟩
structure jW (w:World) (v:Value) (n:Nat) (f:Nat→List Int):Prop where
 at_:∃ p c,v=.slice p n c∧(0<n→∃ b o,p=some ⟨b,o,none⟩∧b<w.heap.size∧∀ i,i<n→∃ u,w.cell? ⟨b,o+i,none⟩=some u∧bL w u (f i))
theorem jW.below {w w':World}{v:Value}{n:Nat}{f:Nat→List Int} (h:jW w v n f) (hb:Below w.heap.size w w'):jW w' v n f:=by
 obtain⟨p,c,e,hc⟩:=h.at_
 refine⟨p,c,e,fun hl=>?_⟩
 obtain⟨b,o,e2,hlt,hi⟩:=hc hl
 refine⟨b,o,e2,uv hlt hb.size,fun i hi2=>?_⟩
 obtain⟨u,h1,h2⟩:=hi i hi2
 exact⟨u,(hb.cell (p:=⟨b,_,none⟩) hlt).trans h1,h2.below hb⟩
def eK (gs:List Gd) (g:Nat):List Int:=(List.range (ac gs g).length).map ((ad gs).next g)
def eI (gs:List Gd) (g:Nat):List Int:=(List.range (ac gs g).length).map ((ad gs).back g)
structure bZ (w:World) (m:Nat) (gs:List Gd) (p:Option Addr) (c:Nat) (vn vb:Value) (mb N s:Nat) (f:Nat×Nat→Option Value):Prop where
 m0:w.cell? ⟨m,0,none⟩=some (.slice p gs.length c)
 m1:w.cell? ⟨m,1,none⟩=some vn
 m2:w.cell? ⟨m,2,none⟩=some vb
 m3:w.cell? ⟨m,3,none⟩=some (.map (some mb))
 lt:m<w.heap.size
 G:aQ w p gs
 n:jW w vn gs.length (eK gs)
 b:jW w vb gs.length (eI gs)
 map:bj Tryz.prog 42 gM pf w mb N s f
 needs:∀ g k,g<gs.length→k<(ac gs g).length→∃ v,f (g,k)=some v∧eR w v ((ad gs).needs g k)
theorem bZ.below {w w':World}{m:Nat}{gs:List Gd}{p:Option Addr}{c:Nat}{vn vb:Value}{mb N s:Nat}{f:Nat×Nat→Option Value} (h:bZ w m gs p c vn vb mb N s f) (hb:Below w.heap.size w w'):bZ w' m gs p c vn vb mb N s f :=
 ⟨(hb.cell (p:=⟨m,0,none⟩) h.lt).trans h.m0,(hb.cell (p:=⟨m,1,none⟩) h.lt).trans h.m1,(hb.cell (p:=⟨m,2,none⟩) h.lt).trans h.m2,(hb.cell (p:=⟨m,3,none⟩) h.lt).trans h.m3,uv h.lt hb.size,h.G.below hb,h.n.below hb,h.b.below hb,
  h.map.same (hb.block mb h.map.lt),fun g k hg hk=>by obtain⟨v,e,hv⟩:=h.needs g k hg hk;exact⟨v,e,hv.below hb⟩⟩
theorem jK {l:List Int}{i:Nat}{x:Int} (h:i<l.length) (h1:(l.take i).contains x=false) (h2:¬ x=l[i]):(l.take (i+1)).contains x=false:=by
 rw[uO,uu h]
 rw[List.contains_eq_any_beq] at h1 ⊢
 rw[wS,h1]
 simp[h2]
theorem qz (p:Option Addr) (c:Nat) (l:List Int) (x:Int) (w:World) (hl:0<l.length→∃ b o,p=some ⟨b,o,none⟩∧b<w.heap.size∧∀ i (h:i<l.length),w.cell? ⟨b,o+i,none⟩=some (.int .i64 l[i])) (hn:l.length≤1000000) :
  Calls Tryz.prog 74 #[.slice p l.length c,.int .i64 x] w fun e w'=>∃ z:Int,e=.returned (.int .i64 z)∧Hid (l.contains x=decide (0≤z))∧w'=w:=by
 have HL:=uk hl
 clear hl
 go_enter Tryz.func74,Tryz.ntmps74
 go_wp2_with fail
 go_loopw [8] (fun s8 wr=>∃ i:Nat,s8=.int .i64 i∧i≤l.length∧wr=w∧Hid ((l.take i).contains x=false)) (fun s8 _=>l.length-(intOf s8).toNat)
 case atStart=>exact⟨0,rfl,by omega,rfl,rfl⟩
 case round =>
  obtain⟨i,rfl,hi,rfl,hx⟩:=hrel
  by_cases hil:i<l.length
  ·obtain⟨b,o,rfl,hbw,hcs⟩:=HL.out (by omega)
   have e0:=hcs i hil
   obtain⟨y,hy⟩:∃ y,y=l[i]:=⟨_,rfl⟩
   rw[←hy] at e0
   have HY:=uk hy
   clear hy hcs
   by_cases hxy:x=y
   ·have hd:(x == y)=true:=by simp[hxy]
    have HXY:=uk hxy
    clear hxy
    go_wp2
    go_ret
    refine⟨_,rfl,?_,by trivial⟩
    unfold Hid
    have h1:x∈l:=by rw[HXY.out,HY.out];exact uH hil
    simp[h1]
   ·have hd:(x == y)=false:=by simp[hxy]
    have HXY:=uk hxy
    clear hxy
    go_wp2
    go_roundw
    case rel =>
     refine⟨i+1,by go_num,by omega,by trivial,?_⟩
     have h2:=HXY.out
     rw[HY.out] at h2
     exact jK hil hx.out h2
    case measure=>simp[intOf];omega
  ·have hie:i=l.length:=by omega
   subst hie
   clear hil hi
   go_wp2
   go_ret
   exact⟨-1,rfl,by unfold Hid;have:=hx.out;rw[uX] at this;rw[this];rfl,rfl⟩
theorem eW (v:Value) (l:List Int) (x:Int) (w:World) (hl:bL w v l) (hn:l.length≤1000000) :
  Calls Tryz.prog 62 #[v,.int .i64 x] w fun e w'=>e=.returned (.bool (l.contains x))∧w'=w:=by
 obtain⟨p,c,rfl,hc⟩:=hl.at_
 clear hl
 go_enter Tryz.func62,Tryz.ntmps62
 go_wp2_with fail
 refine (qz p c l x w hc hn).mono ?_
 rintro e w2 ⟨z,rfl,hz,rfl⟩
 go_wp2
 go_ret
 exact⟨by rw[hz.out];rfl,by trivial⟩
theorem tv (j:Nat) (u:Value) (l:List Int) (x:St) (k:Nat) (w:World) (hj:j<3) (hl:bL w u l) (hn:l.length≤1000000) (hk:k<w.heap.size)
  (h0:w.cell? ⟨k,0,none⟩=some (.int .i64 x.a0)) (h1:w.cell? ⟨k,1,none⟩=some (.int .i64 x.a1)) (h2:w.cell? ⟨k,2,none⟩=some (.int .i64 x.a2)) :
  Calls Tryz.prog 61 #[.agg #[.int .i64 j,u],.pointer (some ⟨k,0,none⟩)] w (dT (!l.contains (x.a j)) w):=by
 have HL:=uk hl
 obtain⟨p,c,rfl,hc⟩:=hl.at_
 clear hc hl
 have hbA:Below w.heap.size w (w.alloc (.cells #[.int .i64 j,.slice p l.length c] 117)):=(Below.refl _ _).alloc (uo _) _
 have t0:=af w #[.int .i64 j,.slice p l.length c] 117 0 _ rfl
 have t1:=af w #[.int .i64 j,.slice p l.length c] 117 1 _ rfl
 have hta:w.heap.size<(w.alloc (.cells #[.int .i64 j,.slice p l.length c] 117)).heap.size:=by simp
 rcases lt3 hj with rfl | rfl | rfl
 ·show Calls Tryz.prog 61 _ w (dT (!l.contains x.a0) w)
  go_enter Tryz.func61,Tryz.ntmps61
  go_wp2_with fail
  generalize hwa:w.alloc (.cells #[.int .i64 ((0:Nat):Int),.slice p l.length c] 117)=wa at hbA t0 t1 hta ⊢
  clear hwa
  have y0:=am hta t0
  have y1:=am hta t1
  have y2:=am (uv hk hbA.size) (((hbA.cell (p:=⟨k,0,none⟩) hk).trans h0))
  have HN:=uk (show aM wa 62 #[.slice p l.length c,.int .i64 x.a0] ((.bool (l.contains x.a0))) from fun y=>(eW _ l x.a0 y.w ((HL.out.below hbA).below y.h) hn).mono (fun e w' h=>⟨h.1,y,h.2⟩))
  clear t0 t1
  refine ai (by kernel_rfl) (by kernel_rfl) ?_
  repeat (go_big_quiet_step ((go_at_call 62;exact HN.out _)))
  refine wpQuiet_nil ?_
  rintro _ ⟨⟨w2,hbN⟩,rfl⟩
  clear HN y0 y1 y2
  go_wp2
  go_ret
  exact⟨_,rfl,by unfold Hid;simp,hbA.trans (hbN.mono hbA.size)⟩
 ·show Calls Tryz.prog 61 _ w (dT (!l.contains x.a1) w)
  go_enter Tryz.func61,Tryz.ntmps61
  go_wp2_with fail
  generalize hwa:w.alloc (.cells #[.int .i64 ((1:Nat):Int),.slice p l.length c] 117)=wa at hbA t0 t1 hta ⊢
  clear hwa
  have y0:=am hta t0
  have y1:=am hta t1
  have y2:=am (uv hk hbA.size) (((hbA.cell (p:=⟨k,1,none⟩) hk).trans h1))
  have HN:=uk (show aM wa 62 #[.slice p l.length c,.int .i64 x.a1] ((.bool (l.contains x.a1))) from fun y=>(eW _ l x.a1 y.w ((HL.out.below hbA).below y.h) hn).mono (fun e w' h=>⟨h.1,y,h.2⟩))
  clear t0 t1
  refine ai (by kernel_rfl) (by kernel_rfl) ?_
  repeat (go_big_quiet_step ((go_at_call 62;exact HN.out _)))
  refine wpQuiet_nil ?_
  rintro _ ⟨⟨w2,hbN⟩,rfl⟩
  clear HN y0 y1 y2
  go_wp2
  go_ret
  exact⟨_,rfl,by unfold Hid;simp,hbA.trans (hbN.mono hbA.size)⟩
 ·show Calls Tryz.prog 61 _ w (dT (!l.contains x.a2) w)
  go_enter Tryz.func61,Tryz.ntmps61
  go_wp2_with fail
  generalize hwa:w.alloc (.cells #[.int .i64 ((2:Nat):Int),.slice p l.length c] 117)=wa at hbA t0 t1 hta ⊢
  clear hwa
  have y0:=am hta t0
  have y1:=am hta t1
  have y2:=am (uv hk hbA.size) (((hbA.cell (p:=⟨k,2,none⟩) hk).trans h2))
  have HN:=uk (show aM wa 62 #[.slice p l.length c,.int .i64 x.a2] ((.bool (l.contains x.a2))) from fun y=>(eW _ l x.a2 y.w ((HL.out.below hbA).below y.h) hn).mono (fun e w' h=>⟨h.1,y,h.2⟩))
  clear t0 t1
  refine ai (by kernel_rfl) (by kernel_rfl) ?_
  repeat (go_big_quiet_step ((go_at_call 62;exact HN.out _)))
  refine wpQuiet_nil ?_
  rintro _ ⟨⟨w2,hbN⟩,rfl⟩
  clear HN y0 y1 y2
  go_wp2
  go_ret
  exact⟨_,rfl,by unfold Hid;simp,hbA.trans (hbN.mono hbA.size)⟩
def dF (l:List (Nat×List Int)) (x:St):Bool:=l.any (fun n=>!n.2.contains (x.a n.1))
theorem o8 {l:List (Nat×List Int)}{x:St}{i:Nat} (hi:i<l.length) (h:(!l[i].2.contains (x.a l[i].1))=true):dF l x=true:=by
 unfold dF
 rw[List.any_eq_true]
 exact⟨l[i],uH hi,h⟩
theorem nj {l:List (Nat×List Int)}{x:St}{i:Nat} (hi:i<l.length) (h1:dF (l.take i) x=false) (h:(!l[i].2.contains (x.a l[i].1))=false):dF (l.take (i+1)) x=false:=by
 unfold dF at h1 ⊢
 rw[uO,uu hi,wS,h1]
 simp only[Option.toList_some,List.any_cons,List.any_nil,h,Bool.or_false]
structure cK (w:World) (k:Nat) (x:St):Prop where
 lt:k<w.heap.size
 h0:w.cell? ⟨k,0,none⟩=some (.int .i64 x.a0)
 h1:w.cell? ⟨k,1,none⟩=some (.int .i64 x.a1)
 h2:w.cell? ⟨k,2,none⟩=some (.int .i64 x.a2)
theorem cK.below {w w':World}{k:Nat}{x:St} (h:cK w k x) (hb:Below w.heap.size w w'):cK w' k x :=
 ⟨uv h.lt hb.size,(hb.cell (p:=⟨k,0,none⟩) h.lt).trans h.h0,(hb.cell (p:=⟨k,1,none⟩) h.lt).trans h.h1,(hb.cell (p:=⟨k,2,none⟩) h.lt).trans h.h2⟩
theorem oP (p:Option Addr) (c:Nat) (l:List (Nat×List Int)) (x:St) (k:Nat) (w:World) (hl:eR w (.slice p l.length c) l) (hn:l.length≤1000000) (hg:∀ n∈l,n.1<3∧n.2.length≤1000000) (hk:cK w k x) :
  Calls Tryz.prog 73 #[.slice p l.length c,.func (.func 61) #[] #[.pointer (some ⟨k,0,none⟩)]] w fun e w'=>∃ z:Int,e=.returned (.int .i64 z)∧Hid (dF l x=decide (0≤z))∧Below w.heap.size w w':=by
 have HG:=uk hg
 clear hg
 go_enter Tryz.func73,Tryz.ntmps73
 go_wp2_with fail
 go_loopw [8] (fun s8 wr=>∃ i:Nat,s8=.int .i64 i∧i≤l.length∧eR wr (.slice p l.length c) l∧cK wr k x∧Below w.heap.size w wr∧Hid (dF (l.take i) x=false)) (fun s8 _=>l.length-(intOf s8).toNat)
 case atStart=>exact⟨0,rfl,by omega,hl,hk,Below.refl _ _,rfl⟩
 case round =>
  clear hl hk
  obtain⟨i,rfl,hi,hl,hk,hb,hx⟩:=hrel
  by_cases hil:i<l.length
  ·obtain⟨p',c',e,hcs0⟩:=hl.at_
   obtain⟨b,o,rfl,hbw,hcs⟩:=hcs0 (by omega)
   clear hcs0
   simp only[Value.slice.injEq] at e
   obtain⟨rfl,-,rfl⟩:=e
   obtain⟨u,e0,e1,hu⟩:=hcs i hil
   obtain⟨j,ns,hjn⟩:∃ j ns,l[i]=(j,ns):=⟨_,_,rfl⟩
   rw[hjn] at e0 hu
   have hgi:=HG.out l[i] (uH hil)
   rw[hjn] at hgi
   have HJ:=uk hjn
   obtain⟨hg1,hg2⟩:=hgi
   simp only at e0 hu hg1 hg2
   obtain⟨pu,cu,rfl,-⟩:=hu.at_
   clear hjn hcs
   have HU:=uk hu
   clear hu
   go_wp2_with fail
   refine (tv j _ ns x k wr hg1 HU.out hg2 hk.lt hk.h0 hk.h1 hk.h2).mono ?_
   rintro e w2 ⟨bb,rfl,hbb,hb2⟩
   have hb3:=hb.trans (hb2.mono hb.size)
   have hl2:=hl.below hb2
   have hk2:=hk.below hb2
   clear hl hk hb2 e0 e1
   cases bb
   ·go_wp2
    go_roundw
    case rel=>exact⟨i+1,by go_num,by omega,hl2,hk2,hb3,nj hil hx.out (by rw[HJ.out];exact hbb.out)⟩
    case measure=>simp[intOf];omega
   ·go_wp2
    go_ret
    exact⟨_,rfl,by unfold Hid;rw[o8 hil (by rw[HJ.out];exact hbb.out)];simp,hb3⟩
  ·have hie:i=l.length:=by omega
   subst hie
   clear hil hi
   go_wp2
   go_ret
   exact⟨-1,rfl,by unfold Hid;have:=hx.out;rw[uX] at this;rw[this];rfl,hb⟩
theorem kC (p:Option Addr) (c:Nat) (l:List (Nat×List Int)) (x:St) (k:Nat) (w:World) (hl:eR w (.slice p l.length c) l) (hn:l.length≤1000000) (hg:∀ n∈l,n.1<3∧n.2.length≤1000000) (hk:cK w k x) :
  Calls Tryz.prog 60 #[.slice p l.length c,.func (.func 61) #[] #[.pointer (some ⟨k,0,none⟩)]] w fun e w'=>e=.returned (.bool (dF l x))∧Below w.heap.size w w':=by
 have HI:=uk (oP p c l x k w hl hn hg hk)
 clear hl hn hg hk
 go_enter Tryz.func60,Tryz.ntmps60
 go_wp2_with fail
 refine HI.out.mono ?_
 rintro e w2 ⟨z,rfl,hz,hb⟩
 go_wp2
 go_ret
 exact⟨by rw[hz.out];rfl,hb⟩
theorem oO (M:ar) (x:St) (g:Nat):cY M x g=!dF (M.needs g (x.a g).toNat) x:=by
 unfold cY dF
 rw[List.not_any_eq_all_not]
 simp
theorem pI (w:World):(zeroValue 115).run Tryz.prog w=.ok (.slice none 0 0) w:=by kernel_rfl
theorem mu:Tryz.prog.underlying 93=some (.map 42 115):=by kernel_rfl
structure oo (gs:List Gd):Prop where
 needs:∀ g k,g<gs.length→k<(ac gs g).length→((ad gs).needs g k).length≤1000000∧∀ n∈(ad gs).needs g k,n.1<3∧n.2.length≤1000000
structure tL (gs:List Gd) (x:St) (g:Nat) (w:World) (m mb k:Nat) (a:Int):Prop where
 ex:∃ q c,∀ y:World,Below w.heap.size w y→y.cell? ⟨m,3,none⟩=some (.map (some mb))∧y.cell? ⟨k,g,none⟩=some (.int .i64 a) ∧
  (Instr.lookup 93 (.map (some mb)) (.agg #[.int .i64 g,.int .i64 a]) false).run Tryz.prog y=.ok (.slice q ((ad gs).needs g (x.a g).toNat).length c) y ∧
  Calls Tryz.prog 60 #[.slice q ((ad gs).needs g (x.a g).toNat).length c,.func (.func 61) #[] #[.pointer (some ⟨k,0,none⟩)]] y fun e w'=>e=.returned (.bool (dF ((ad gs).needs g (x.a g).toNat) x))∧Below y.heap.size y w'
theorem qy {gs:List Gd}{p:Option Addr}{c:Nat}{vn vb:Value}{mb N s:Nat}{f:Nat×Nat→Option Value}{w:World}{m k g:Nat}{x:St} (hP:bZ w m gs p c vn vb mb N s f) (hF:oo gs) (hS:aS gs=true) (hx:(ad gs).At x) (hg:g<gs.length) (hk:cK w k x):tL gs x g w m mb k (x.a g):=by
 have hn3:=(bf hS).2
 have ha:=hx.a g hg
 have ha8:=(aI hS).r8 g hg
 have hak:(x.a g).toNat<(ac gs g).length:=by have:(ad gs).rungs g=(ac gs g).length:=rfl;omega
 obtain⟨v,hf,hv⟩:=hP.needs g (x.a g).toNat hg hak
 obtain⟨q,cq,e,hc⟩:=hv.at_
 obtain⟨f1,f2⟩:=hF.needs g (x.a g).toNat hg hak
 refine⟨q,cq,fun y hy=>?_⟩
 have hPy:=hP.below hy
 have hky:=hk.below hy
 refine⟨hPy.m3,?_,?_,kC q cq _ x k y (by rw[←e];exact hv.below hy) f1 f2 hky⟩
 ·rcases lt3 (show g<3 by omega) with rfl | rfl | rfl
  ·exact hky.h0
  ·exact hky.h1
  ·exact hky.h2
 ·have:=hPy.map.look encP mu (pI y) (k:=(g,(x.a g).toNat)) ⟨by show g<1000;omega,by show (x.a g).toNat<1000;have:(ad gs).rungs g=(ac gs g).length:=rfl;omega⟩
  rw[hf,e] at this
  have e2:gM (g,(x.a g).toNat)=.agg #[.int .i64 g,.int .i64 (x.a g)]:=by
   unfold gM
   simp only
   rw[show (((x.a g).toNat:Nat):Int)=x.a g from Int.toNat_of_nonneg ha.1]
  rw[e2] at this
  exact this
theorem sR (gs:List Gd) (p:Option Addr) (c:Nat) (vn vb:Value) (mb N s:Nat) (f:Nat×Nat→Option Value) (w:World) (m:Nat) (x:St) (g:Nat)
  (hP:bZ w m gs p c vn vb mb N s f) (hF:oo gs) (hS:aS gs=true) (hx:(ad gs).At x) (hg:g<gs.length) :
  Calls Tryz.prog 48 #[.pointer (some ⟨m,0,none⟩),.agg #[.int .i64 x.a0,.int .i64 x.a1,.int .i64 x.a2],.int .i64 g] w (fun e w'=>e=.returned (.bool (cY (ad gs) x g))∧Below w.heap.size w w'):=by
 have hbA:Below w.heap.size w (w.alloc (.cells #[.int .i64 x.a0,.int .i64 x.a1,.int .i64 x.a2] 69)):=(Below.refl _ _).alloc (uo _) _
 have hPl:cK (w.alloc (.cells #[.int .i64 x.a0,.int .i64 x.a1,.int .i64 x.a2] 69)) w.heap.size x:=⟨by simp,af w _ _ 0 _ rfl,af w _ _ 1 _ rfl,af w _ _ 2 _ rfl⟩
 have hH:=qy (hP.below hbA) hF hS hx hg hPl
 have hn3:=(bf hS).2
 rw[oO]
 clear hP hPl hF hS hx
 obtain⟨q,cq,hy⟩:=hH.ex
 clear hH
 rcases lt3 (show g<3 by omega) with rfl | rfl | rfl
 ·have HY:=uk hy
  clear hy hg
  simp only[St.a] at HY ⊢
  generalize dF ((ad gs).needs 0 x.a0.toNat) x=ms at HY ⊢
  generalize ((ad gs).needs 0 x.a0.toNat).length=nl at HY ⊢
  go_enter Tryz.func48,Tryz.ntmps48
  go_wp2_with fail
  generalize w.alloc (.cells #[.int .i64 x.a0,.int .i64 x.a1,.int .i64 x.a2] 69)=wa at hbA HY ⊢
  have y0:∀ y:ay wa,y.w.cell? ⟨m,3,none⟩=some (.map (some mb)):=fun y=>(HY.out y.w y.h).1
  have y1:∀ y:ay wa,y.w.cell? ⟨w.heap.size,0,none⟩=some (.int .i64 x.a0):=fun y=>(HY.out y.w y.h).2.1
  have y2:∀ y:ay wa,(Instr.lookup 93 (.map (some mb)) (.agg #[.int .i64 0,.int .i64 x.a0]) false).run Tryz.prog y.w=.ok (.slice q nl cq) y.w:=fun y=>(HY.out y.w y.h).2.2.1
  have HN:=uk (show aM wa 60 #[.slice q nl cq,.func (.func 61) #[] #[.pointer (some ⟨w.heap.size,0,none⟩)]] ((.bool ms)) from fun y=>ay.calls (HY.out y.w y.h).2.2.2)
  refine ai (by kernel_rfl) (by kernel_rfl) ?_
  repeat (go_big_quiet_step ((go_at_call 60;exact HN.out _)))
  refine wpQuiet_nil ?_
  rintro _ ⟨⟨w2,hbN⟩,rfl⟩
  clear HN y0 y1 y2 HY
  go_wp2
  go_ret
  exact⟨by rfl,hbA.trans (hbN.mono hbA.size)⟩
 ·have HY:=uk hy
  clear hy hg
  simp only[St.a] at HY ⊢
  generalize dF ((ad gs).needs 1 x.a1.toNat) x=ms at HY ⊢
  generalize ((ad gs).needs 1 x.a1.toNat).length=nl at HY ⊢
  go_enter Tryz.func48,Tryz.ntmps48
  go_wp2_with fail
  generalize w.alloc (.cells #[.int .i64 x.a0,.int .i64 x.a1,.int .i64 x.a2] 69)=wa at hbA HY ⊢
  have y0:∀ y:ay wa,y.w.cell? ⟨m,3,none⟩=some (.map (some mb)):=fun y=>(HY.out y.w y.h).1
  have y1:∀ y:ay wa,y.w.cell? ⟨w.heap.size,1,none⟩=some (.int .i64 x.a1):=fun y=>(HY.out y.w y.h).2.1
  have y2:∀ y:ay wa,(Instr.lookup 93 (.map (some mb)) (.agg #[.int .i64 1,.int .i64 x.a1]) false).run Tryz.prog y.w=.ok (.slice q nl cq) y.w:=fun y=>(HY.out y.w y.h).2.2.1
  have HN:=uk (show aM wa 60 #[.slice q nl cq,.func (.func 61) #[] #[.pointer (some ⟨w.heap.size,0,none⟩)]] ((.bool ms)) from fun y=>ay.calls (HY.out y.w y.h).2.2.2)
  refine ai (by kernel_rfl) (by kernel_rfl) ?_
  repeat (go_big_quiet_step ((go_at_call 60;exact HN.out _)))
  refine wpQuiet_nil ?_
  rintro _ ⟨⟨w2,hbN⟩,rfl⟩
  clear HN y0 y1 y2 HY
  go_wp2
  go_ret
  exact⟨by rfl,hbA.trans (hbN.mono hbA.size)⟩
 ·have HY:=uk hy
  clear hy hg
  simp only[St.a] at HY ⊢
  generalize dF ((ad gs).needs 2 x.a2.toNat) x=ms at HY ⊢
  generalize ((ad gs).needs 2 x.a2.toNat).length=nl at HY ⊢
  go_enter Tryz.func48,Tryz.ntmps48
  go_wp2_with fail
  generalize w.alloc (.cells #[.int .i64 x.a0,.int .i64 x.a1,.int .i64 x.a2] 69)=wa at hbA HY ⊢
  have y0:∀ y:ay wa,y.w.cell? ⟨m,3,none⟩=some (.map (some mb)):=fun y=>(HY.out y.w y.h).1
  have y1:∀ y:ay wa,y.w.cell? ⟨w.heap.size,2,none⟩=some (.int .i64 x.a2):=fun y=>(HY.out y.w y.h).2.1
  have y2:∀ y:ay wa,(Instr.lookup 93 (.map (some mb)) (.agg #[.int .i64 2,.int .i64 x.a2]) false).run Tryz.prog y.w=.ok (.slice q nl cq) y.w:=fun y=>(HY.out y.w y.h).2.2.1
  have HN:=uk (show aM wa 60 #[.slice q nl cq,.func (.func 61) #[] #[.pointer (some ⟨w.heap.size,0,none⟩)]] ((.bool ms)) from fun y=>ay.calls (HY.out y.w y.h).2.2.2)
  refine ai (by kernel_rfl) (by kernel_rfl) ?_
  repeat (go_big_quiet_step ((go_at_call 60;exact HN.out _)))
  refine wpQuiet_nil ?_
  rintro _ ⟨⟨w2,hbN⟩,rfl⟩
  clear HN y0 y1 y2 HY
  go_wp2
  go_ret
  exact⟨by rfl,hbA.trans (hbN.mono hbA.size)⟩
def StP (w:World) (b:Nat) (x:St):Prop:=w.heap[b]?=some (.cells #[.int .i64 x.a0,.int .i64 x.a1,.int .i64 x.a2,.int .i64 x.f0,.int .i64 x.f1,.int .i64 x.f2] 71 (0,0))
theorem StP.lt {w:World}{b:Nat}{x:St} (h:StP w b x):b<w.heap.size:=(uw.1 h).1
theorem StP.cell {w:World}{b:Nat}{x:St} (h:StP w b x) (j:Nat):w.cell? ⟨b,j,none⟩=#[Value.int .i64 x.a0,.int .i64 x.a1,.int .i64 x.a2,.int .i64 x.f0,.int .i64 x.f1,.int .i64 x.f2][j]?:=by rw[World.cell?,h];rfl
theorem StP.fr {w:World}{b:Nat}{x:St} (h:StP w b x) (j:Nat):w.frozen? ⟨b,j,none⟩=false:=by
 rw[World.frozen?,h];simp
theorem StP.below {w w':World}{b:Nat}{x:St} (h:StP w b x) (hb:Below w.heap.size w w'):StP w' b x:=by
 unfold StP;rw[hb.block b h.lt];exact h
theorem StP.new (w:World) (x:St):StP (w.alloc (.cells #[.int .i64 x.a0,.int .i64 x.a1,.int .i64 x.a2,.int .i64 x.f0,.int .i64 x.f1,.int .i64 x.f2] 71)) w.heap.size x:=heap_alloc_new w _
def goW (w:World) (b g:Nat) (k:Int):World:=(w.setCell ⟨b,g,none⟩ (.int .i64 k)).setCell ⟨b,3+g,none⟩ (.int .i64 0)
theorem StP.go {w:World}{b g:Nat}{x:St} (h:StP w b x) (hg:g<3) (k:Int):StP (goW w b g k) b (x.go g k):=by
 unfold goW
 rcases lt3 hg with rfl | rfl | rfl
 ·have h1:StP (w.setCell ⟨b,0,none⟩ (.int .i64 k)) b ⟨k,x.a1,x.a2,x.f0,x.f1,x.f2⟩:=by unfold StP;rw[heap_setCell_same w b 0 _ _ (.int .i64 k) h];rfl
  unfold StP;rw[heap_setCell_same _ b (3+0) _ _ (.int .i64 0) h1];rfl
 ·have h1:StP (w.setCell ⟨b,1,none⟩ (.int .i64 k)) b ⟨x.a0,k,x.a2,x.f0,x.f1,x.f2⟩:=by unfold StP;rw[heap_setCell_same w b 1 _ _ (.int .i64 k) h];rfl
  unfold StP;rw[heap_setCell_same _ b (3+1) _ _ (.int .i64 0) h1];rfl
 ·have h1:StP (w.setCell ⟨b,2,none⟩ (.int .i64 k)) b ⟨x.a0,x.a1,k,x.f0,x.f1,x.f2⟩:=by unfold StP;rw[heap_setCell_same w b 2 _ _ (.int .i64 k) h];rfl
  unfold StP;rw[heap_setCell_same _ b (3+2) _ _ (.int .i64 0) h1];rfl
theorem oM {w:World}{n b g:Nat}{k:Int} (hb:n≤b):Below n w (goW w b g k):=(((Below.refl n w).setCell (p:=⟨b,g,none⟩) hb _).setCell (p:=⟨b,3+g,none⟩) hb _)
theorem ig {w:World}{b g:Nat}{k:Int}{i:Nat} (h:i≠b):(goW w b g k).heap[i]?=w.heap[i]?:=by
 unfold goW
 rw[Below.heap_setCell _ _ _ _ h,Below.heap_setCell _ _ _ _ h]
def aJ (w:World) (b:Nat) (z:St):World:=(((((w.setCell ⟨b,0,none⟩ (.int .i64 z.a0)).setCell ⟨b,1,none⟩ (.int .i64 z.a1)).setCell ⟨b,2,none⟩ (.int .i64 z.a2)).setCell ⟨b,3,none⟩ (.int .i64 z.f0)).setCell ⟨b,4,none⟩ (.int .i64 z.f1)).setCell ⟨b,5,none⟩ (.int .i64 z.f2)
theorem StP.put {w:World}{b:Nat}{x:St} (h:StP w b x) (z:St):StP (aJ w b z) b z:=by
 have h1:StP (w.setCell ⟨b,0,none⟩ (.int .i64 z.a0)) b ⟨z.a0,x.a1,x.a2,x.f0,x.f1,x.f2⟩:=by unfold StP;rw[heap_setCell_same w b 0 _ _ _ h];rfl
 have h2:StP ((w.setCell ⟨b,0,none⟩ (.int .i64 z.a0)).setCell ⟨b,1,none⟩ (.int .i64 z.a1)) b ⟨z.a0,z.a1,x.a2,x.f0,x.f1,x.f2⟩:=by unfold StP;rw[heap_setCell_same _ b 1 _ _ _ h1];rfl
 have h3:StP (((w.setCell ⟨b,0,none⟩ (.int .i64 z.a0)).setCell ⟨b,1,none⟩ (.int .i64 z.a1)).setCell ⟨b,2,none⟩ (.int .i64 z.a2)) b ⟨z.a0,z.a1,z.a2,x.f0,x.f1,x.f2⟩:=by unfold StP;rw[heap_setCell_same _ b 2 _ _ _ h2];rfl
 have h4:StP ((((w.setCell ⟨b,0,none⟩ (.int .i64 z.a0)).setCell ⟨b,1,none⟩ (.int .i64 z.a1)).setCell ⟨b,2,none⟩ (.int .i64 z.a2)).setCell ⟨b,3,none⟩ (.int .i64 z.f0)) b ⟨z.a0,z.a1,z.a2,z.f0,x.f1,x.f2⟩:=by unfold StP;rw[heap_setCell_same _ b 3 _ _ _ h3];rfl
 have h5:StP (((((w.setCell ⟨b,0,none⟩ (.int .i64 z.a0)).setCell ⟨b,1,none⟩ (.int .i64 z.a1)).setCell ⟨b,2,none⟩ (.int .i64 z.a2)).setCell ⟨b,3,none⟩ (.int .i64 z.f0)).setCell ⟨b,4,none⟩ (.int .i64 z.f1)) b ⟨z.a0,z.a1,z.a2,z.f0,z.f1,x.f2⟩:=by unfold StP;rw[heap_setCell_same _ b 4 _ _ _ h4];rfl
 unfold aJ StP;rw[heap_setCell_same _ b 5 _ _ _ h5];rfl
theorem aO {w:World}{n b:Nat}{z:St} (hb:n≤b):Below n w (aJ w b z) :=
 ((((((Below.refl n w).setCell (p:=⟨b,0,none⟩) hb _).setCell (p:=⟨b,1,none⟩) hb _).setCell (p:=⟨b,2,none⟩) hb _).setCell (p:=⟨b,3,none⟩) hb _).setCell (p:=⟨b,4,none⟩) hb _).setCell (p:=⟨b,5,none⟩) hb _
theorem iD {w:World}{b i:Nat}{z:St} (h:i≠b):(aJ w b z).heap[i]?=w.heap[i]?:=by
 unfold aJ
 rw[Below.heap_setCell _ _ _ _ h,Below.heap_setCell _ _ _ _ h,Below.heap_setCell _ _ _ _ h,Below.heap_setCell _ _ _ _ h,Below.heap_setCell _ _ _ _ h,Below.heap_setCell _ _ _ _ h]
theorem toN (w:World) (b g:Nat) (x:St) (k:Int) (hg:g<3) (h:StP w b x) :
  Calls Tryz.prog 47 #[.int .i64 g,.int .i64 k,.pointer (some ⟨b,0,none⟩)] w (fun e w'=>e=.returned (.tuple #[])∧w'=goW w b g k):=by
 rcases lt3 hg with rfl | rfl | rfl
 ·have c0:=h.cell 0;have c3:=h.cell 3;have f0:=h.fr 0;have f3:=h.fr 3
  go_enter Tryz.func47,Tryz.ntmps47
  go_wp2
  go_end0
  exact⟨by rfl,by rfl⟩
 ·have c0:=h.cell 1;have c3:=h.cell 4;have f0:=h.fr 1;have f3:=h.fr 4
  go_enter Tryz.func47,Tryz.ntmps47
  go_wp2
  go_end0
  exact⟨by rfl,by rfl⟩
 ·have c0:=h.cell 2;have c3:=h.cell 5;have f0:=h.fr 2;have f3:=h.fr 5
  go_enter Tryz.func47,Tryz.ntmps47
  go_wp2
  go_end0
  exact⟨by rfl,by rfl⟩
end Go.Proofs.YtlkniohhalnjjaaGreatDoor
