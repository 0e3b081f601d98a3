/- Lemmas of this claim. -/
import Derived.Test.YtlkniohhalnjjaaGreatDoorKReg
import Derived.Test.YtlkniohhalnjjaaGreatDoorKCnt
set_option linter.all false
set_option maxRecDepth 100000
set_option maxHeartbeats 8000000
namespace Go.Proofs.YtlkniohhalnjjaaGreatDoor
open Go.RowKit Dc Dg
def atL (n:Nat) (x:St):List Int:=[x.a0,x.a1,x.a2].take n
def aN (n:Nat) (x:St):List Int:=[x.f0,x.f1,x.f2].take n
def lc (B n:Nat) (w:World) (v:Value) (x:St):Prop:=∃ u1 u2,v=.agg #[u1,u2]∧aG B w u1 (atL n x)∧aG B w u2 (aN n x)
theorem aG.setOld {n:Nat}{w:World}{v:Value}{l:List Int} (h:aG n w v l) {b i:Nat} (u:Value) (hb:b<n):aG n (w.setCell ⟨b,i,none⟩ u) v l :=
 h.same (fun k hk=>by have:=(ap h hk).1;exact heap_setCell_other _ _ _ _ (by show k≠b;omega))
theorem aG.below {n:Nat}{w w':World}{v:Value}{l:List Int} (h:aG n w v l) (hb:Below w.heap.size w w'):aG n w' v l :=
 h.same (fun k hk=>hb.block k (ap h hk).2.1)
theorem aG.slice {n:Nat}{w:World}{v:Value}{l:List Int} (h:aG n w v l):∃ a c,v=.slice a l.length c:=by
 rcases h.2 with ⟨rfl,hn⟩ | ⟨g,cap,cur,rfl,_⟩
 ·exact⟨none,0,by rw[hn]⟩
 ·exact⟨_,_,rfl⟩
theorem rX {w:World}{b:Nat}{x:St} (hS:StP w b x) (n:Nat) (hn:n≤3):Calls Tryz.prog 41 #[.slice (some ⟨b,0,none⟩) n 3] w fun e w'=>∃ v',e=.returned v'∧aG w.heap.size w' v' (atL n x)∧Below w.heap.size w w':=by
 refine (Tryz.slices_Clone_int b 0 n 3 [x.a0,x.a1,x.a2] w (by simp;omega) (by omega) (fun j hj=>?_)).mono ?_
 ·rw[hS.cell,vh]
  simp at hj
  match j,hj with
  | 0,_=>rfl
  | 1,_=>rfl
  | 2,_=>rfl
 ·rintro e w' ⟨v',rfl,h1,_,h3⟩
  refine⟨v',rfl,?_,h3⟩
  have:(atL n x).length=n:=by unfold atL;simp;omega
  unfold aG
  rw[this]
  exact h1
theorem oD {w:World}{b:Nat}{x:St} (hS:StP w b x) (n:Nat) (hn:n≤3):Calls Tryz.prog 41 #[.slice (some ⟨b,3,none⟩) n 3] w fun e w'=>∃ v',e=.returned v'∧aG w.heap.size w' v' (aN n x)∧Below w.heap.size w w':=by
 refine (Tryz.slices_Clone_int b 3 n 3 [x.f0,x.f1,x.f2] w (by simp;omega) (by omega) (fun j hj=>?_)).mono ?_
 ·rw[hS.cell]
  simp at hj
  match j,hj with
  | 0,_=>rfl
  | 1,_=>rfl
  | 2,_=>rfl
 ·rintro e w' ⟨v',rfl,h1,_,h3⟩
  refine⟨v',rfl,?_,h3⟩
  have:(aN n x).length=n:=by unfold aN;simp;omega
  unfold aG
  rw[this]
  exact h1
theorem qk:Tryz.prog.elem 69=3:=by kernel_rfl
theorem qL:Tryz.prog.arrayLen 69=3:=by kernel_rfl
theorem sG (w:World):(sizeOf 3).run Tryz.prog w=.ok 1 w:=by kernel_rfl
theorem l9 (b o n:Nat) (hn:n≤3) (w:World):(Instr.sliceAt 69 (.pointer (some ⟨b,o,none⟩)) none (some (.int .i64 n)) none).run Tryz.prog w=.ok (.slice (some ⟨b,o,none⟩) n 3) w:=by
 rw[run_sliceAt_array_h w 69 ⟨b,o,none⟩ (by rw[qk,qL];exact rJ) .i64 n (by omega) (by rw[qL];omega),qk,qL,sG]
 unfold slicedAt
 simp[Addr.add]
theorem kN (gs:List Gd) (p:Option Addr) (c:Nat) (m:Nat) (x:St) (w:World) (hm:w.cell? ⟨m,0,none⟩=some (.slice p gs.length c)) (hn:gs.length≤3) :
  Calls Tryz.prog 20 #[.pointer (some ⟨m,0,none⟩),.agg #[.int .i64 x.a0,.int .i64 x.a1,.int .i64 x.a2,.int .i64 x.f0,.int .i64 x.f1,.int .i64 x.f2]] w (fun e w'=>∃ v,e=.returned v∧lc w.heap.size gs.length w' v x∧Below w.heap.size w w'):=by
 have hml:m<w.heap.size:=block_lt_of_cell hm
 have k0:StP ((w.alloc (.cells #[.int .i64 x.a0,.int .i64 x.a1,.int .i64 x.a2,.int .i64 x.f0,.int .i64 x.f1,.int .i64 x.f2] 71)).alloc (.cells #[.slice none 0 0,.slice none 0 0] 36)) w.heap.size x:=(StP.new w x).below ((Below.refl _ _).alloc (uo _) _)
 have k1:((w.alloc (.cells #[.int .i64 x.a0,.int .i64 x.a1,.int .i64 x.a2,.int .i64 x.f0,.int .i64 x.f1,.int .i64 x.f2] 71)).alloc (.cells #[.slice none 0 0,.slice none 0 0] 36)).heap[w.heap.size+1]?=some (.cells #[.slice none 0 0,.slice none 0 0] 36 (0,0)):=by
  have:=heap_alloc_new (w.alloc (.cells #[.int .i64 x.a0,.int .i64 x.a1,.int .i64 x.a2,.int .i64 x.f0,.int .i64 x.f1,.int .i64 x.f2] 71)) (.cells #[.slice none 0 0,.slice none 0 0] 36)
  simpa using this
 have hbl:Below w.heap.size w ((w.alloc (.cells #[.int .i64 x.a0,.int .i64 x.a1,.int .i64 x.a2,.int .i64 x.f0,.int .i64 x.f1,.int .i64 x.f2] 71)).alloc (.cells #[.slice none 0 0,.slice none 0 0] 36)):=((Below.refl _ _).alloc (uo _) _).alloc (by simp) _
 have hm2:=(hbl.cell (p:=⟨m,0,none⟩) hml).trans hm
 go_enter Tryz.func20,Tryz.ntmps20
 go_upto_region 1 with fail
 generalize (w.alloc (.cells #[.int .i64 x.a0,.int .i64 x.a1,.int .i64 x.a2,.int .i64 x.f0,.int .i64 x.f1,.int .i64 x.f2] 71)).alloc (.cells #[.slice none 0 0,.slice none 0 0] 36)=w1 at *
 go_upto_region 2 with fail
 obtain⟨n,hgn⟩:∃ n,n=gs.length:=⟨_,rfl⟩
 rw[←hgn] at hn hm2 ⊢
 have HGN:=uk hgn
 clear hgn
 have hbd:Below w1.heap.size w1 w1.drew:=(Below.refl _ _).drew
 have d0:=k0.below hbd
 have d1:=(hbd.block _ (ag k1)).trans k1
 have hb2:=hbl.trans (hbd.mono hbl.size)
 have hsl:=fun o=>l9 w.heap.size o n hn
 refine wp_mono (ax (Q:=eL _) (fun _=>True) (fun _=>false) (by kernel_rfl) ?_) (fun _ _ _ h=>fi h)
 generalize w1.drew=w2 at *
 refine ae (i:=0) (v:=?vv0) rfl (by kernel_rfl) (fun _ _ _ h=>h) rfl ?hy0 ?rest0
 case hy0=>(intro wy;go_simp;try with_reducible rfl)
 try simp only[Act.put,uj,um,ul]
 refine ae (i:=1) (v:=?vv1) rfl (by kernel_rfl) (fun _ _ _ h=>h) rfl ?hy1 ?rest1
 case hy1=>(intro wy;go_simp;try with_reducible rfl)
 try simp only[Act.put,uj,um,ul]
 refine ae (i:=2) (v:=?vv2) rfl (by kernel_rfl) (fun _ _ _ h=>h) rfl ?hy2 ?rest2
 case hy2=>(intro wy;go_simp;try with_reducible rfl)
 try simp only[Act.put,uj,um,ul]
 refine ae (i:=4) (v:=?vv3) rfl (by kernel_rfl) (fun _ _ _ h=>h) rfl ?hy3 ?rest3
 case hy3=>(intro wy;go_simp;try with_reducible rfl)
 try simp only[Act.put,uj,um,ul]
 refine ae (i:=5) (v:=?vv4) rfl (by kernel_rfl) (fun _ _ _ h=>h) rfl ?hy4 ?rest4
 case hy4=>(intro wy;go_simp;try with_reducible rfl)
 try simp only[Act.put,uj,um,ul]
 refine ae (i:=6) (v:=?vv5) rfl (by kernel_rfl) (fun _ _ _ h=>h) rfl ?hy5 ?rest5
 case hy5=>(intro wy;go_simp;try with_reducible rfl)
 try simp only[Act.put,uj,um,ul]
 refine an (i:=3) rfl (by kernel_rfl) rfl (fun K hK=>?_)
 go_simp
 refine (rX d0 n hn).mono ?_
 rintro e w3 ⟨u1,rfl,hu1,hb3⟩
 obtain⟨p1,c1,rfl⟩:=hu1.slice
 refine hK _ _ (fun _ _=>trivial) ?_
 clear hK K
 try simp only[Act.put,uj,um,ul]
 refine an (i:=7) rfl (by kernel_rfl) rfl (fun K hK=>?_)
 go_simp
 refine (oD (d0.below hb3) n hn).mono ?_
 rintro e w4 ⟨u2,rfl,hu2,hb4⟩
 obtain⟨p2,c2,rfl⟩:=hu2.slice
 refine hK _ _ (fun _ _=>trivial) ?_
 clear hK K
 try simp only[Act.put,uj,um,ul]
 refine ae (i:=8) (v:=?vv8) rfl (by kernel_rfl) (fun _ _ _ h=>h) rfl ?hy8 ?rest8
 case hy8=>(intro wy;go_simp;try with_reducible rfl)
 try simp only[Act.put,uj,um,ul]
 have d1':=(hb4.block _ (ag ((hb3.block _ (ag d1)).trans d1))).trans ((hb3.block _ (ag d1)).trans d1)
 have q0:=aa d1' 0
 have q1:=aa d1' 1
 have r0:=frozen_of_row w4 (w.heap.size+1) 0 _ _ d1'
 have r1:=frozen_of_row w4 (w.heap.size+1) 1 _ _ d1'
 refine an (i:=9) rfl (by kernel_rfl) rfl (fun K hK=>?_)
 go_simp
 refine hK _ _ (fun _ _=>trivial) ?_
 clear hK K
 have hz:w.heap.size+1<w2.heap.size:=ag d1
 have e1:=heap_setCell_same w4 (w.heap.size+1) 0 _ _ (Value.slice p1 (atL n x).length c1) d1'
 have e2:=heap_setCell_same _ (w.heap.size+1) 1 _ _ (Value.slice p2 (aN n x).length c2) e1
 have t0:=aa e2 0
 have t1:=aa e2 1
 have hw4:w2.heap.size≤w3.heap.size:=hb3.size
 have hI1:aG w.heap.size ((w4.setCell ⟨w.heap.size+1,0,none⟩ (.slice p1 (atL n x).length c1)).setCell ⟨w.heap.size+1,1,none⟩ (.slice p2 (aN n x).length c2)) (.slice p1 (atL n x).length c1) (atL n x):=(((hu1.below hb4).setOld _ (by omega)).setOld _ (by omega)).base (by omega)
 have hI2:aG w.heap.size ((w4.setCell ⟨w.heap.size+1,0,none⟩ (.slice p1 (atL n x).length c1)).setCell ⟨w.heap.size+1,1,none⟩ (.slice p2 (aN n x).length c2)) (.slice p2 (aN n x).length c2) (aN n x):=((hu2.setOld _ (by omega)).setOld _ (by omega)).base (by omega)
 have hB:Below w.heap.size w ((w4.setCell ⟨w.heap.size+1,0,none⟩ (.slice p1 (atL n x).length c1)).setCell ⟨w.heap.size+1,1,none⟩ (.slice p2 (aN n x).length c2)):=(((hb2.trans (hb3.mono hb2.size)).trans (hb4.mono (uB hb2.size hb3.size))).setCell (p:=⟨w.heap.size+1,0,none⟩) (by show w.heap.size≤w.heap.size+1;omega) _).setCell (p:=⟨w.heap.size+1,1,none⟩) (by show w.heap.size≤w.heap.size+1;omega) _
 generalize (w4.setCell ⟨w.heap.size+1,0,none⟩ (.slice p1 (atL n x).length c1)).setCell ⟨w.heap.size+1,1,none⟩ (.slice p2 (aN n x).length c2)=w5 at *
 try simp only[Act.put,ut,uq,ur,uj,um,ul]
 refine aW (by kernel_rfl) ?_ _
 simp only[eL]
 go_wp2_with fail
 try simp only[Exit.inBlock,Exit.then]
 have t0':w5.cell? ⟨w.heap.size+1,0,none⟩=some (Value.slice p1 (atL n x).length c1):=t0
 have t1':w5.cell? ⟨w.heap.size+1,1,none⟩=some (Value.slice p2 (aN n x).length c2):=t1
 refine bodyPost_ret (v:=.agg #[.slice p1 (atL n x).length c1,.slice p2 (aN n x).length c2]) (by simp[results,Tryz.results20,go_sem,t0',t1']) rfl ?_
 rw[←HGN.out]
 exact⟨_,rfl,⟨_,_,rfl,hI1,hI2⟩,hB⟩
end Go.Proofs.YtlkniohhalnjjaaGreatDoor
