/- Lemmas of this claim. -/
import Derived.Test.YtnkgbocdpngldaaGreatDoorXRA9
import Derived.Test.YtnkgbocdpngldaaGreatDoorXRA7
set_option linter.all false
set_option maxRecDepth 100000
set_option maxHeartbeats 8000000
namespace Go.Proofs.YtnkgbocdpngldaaGreatDoor
open Go.RowKit Dc Dg
structure H4 (w:World) (b0 b1 b2 b3:Nat) (o0 o1 o2 o3:Array Value×TypeId):Prop where
 h0:w.heap[b0]?=some (.cells o0.1 o0.2 (0,0))
 h1:w.heap[b1]?=some (.cells o1.1 o1.2 (0,0))
 h2:w.heap[b2]?=some (.cells o2.1 o2.2 (0,0))
 h3:w.heap[b3]?=some (.cells o3.1 o3.2 (0,0))
theorem H4.below {w w':World}{b0 b1 b2 b3:Nat}{o0 o1 o2 o3:Array Value×TypeId} (h:H4 w b0 b1 b2 b3 o0 o1 o2 o3) (hb:Below w.heap.size w w'):H4 w' b0 b1 b2 b3 o0 o1 o2 o3 :=
 ⟨(hb.block _ (ae h.h0)).trans h.h0,(hb.block _ (ae h.h1)).trans h.h1,(hb.block _ (ae h.h2)).trans h.h2,(hb.block _ (ae h.h3)).trans h.h3⟩
structure MvR (w0 w:World) (gs:List Gd) (p:Option Addr) (c:Nat) (z:St) (g:Nat) (kd:Int) (p1 c1 p2 c2:Nat):Prop where
 s0:w.heap[w0.heap.size]?=some (.cells #[.slice p gs.length c] 24 (0,0))
 sx:w.heap[w0.heap.size+1]?=some (.cells #[.slice (some ⟨p1,0,none⟩) gs.length c1,.slice (some ⟨p2,0,none⟩) gs.length c2] 41 (0,0))
 se:w.heap[w0.heap.size+1+1]?=some (.cells #[.int .i64 g,.int .i64 kd] 53 (0,0))
 sr:w.heap[w0.heap.size+1+1+1]?=some (.cells #[.slice none 0 0,.slice none 0 0] 41 (0,0))
 L:cZ (w0.heap.size+1+1+1+1) w (.slice (some ⟨p1,0,none⟩) gs.length c1) (.slice (some ⟨p2,0,none⟩) gs.length c2) (atL gs.length z) (aG gs.length z)
 bl:Below w0.heap.size w0 w
theorem MvR.below {w0 w w':World}{gs:List Gd}{p:Option Addr}{c:Nat}{z:St}{g:Nat}{kd:Int}{p1 c1 p2 c2:Nat} (h:MvR w0 w gs p c z g kd p1 c1 p2 c2) (hb:Below w.heap.size w w'):MvR w0 w' gs p c z g kd p1 c1 p2 c2 :=
 ⟨(hb.block _ (ae h.s0)).trans h.s0,(hb.block _ (ae h.sx)).trans h.sx,(hb.block _ (ae h.se)).trans h.se,(hb.block _ (ae h.sr)).trans h.sr,h.L.below hb,h.bl.trans (hb.mono h.bl.size)⟩
theorem MvR.sz {w0 w:World}{gs:List Gd}{p:Option Addr}{c:Nat}{z:St}{g:Nat}{kd:Int}{p1 c1 p2 c2:Nat} (h:MvR w0 w gs p c z g kd p1 c1 p2 c2):w0.heap.size+1+1+1+1≤w.heap.size:=ae h.sr
theorem MvR.put {w0 w:World}{gs:List Gd}{p:Option Addr}{c:Nat}{z z':St}{g:Nat}{kd:Int}{p1 c1 p2 c2 p3 c3 p4 c4:Nat} (h:MvR w0 w gs p c z g kd p1 c1 p2 c2) (hL:cZ (w0.heap.size+1+1+1+1) w (.slice (some ⟨p3,0,none⟩) gs.length c3) (.slice (some ⟨p4,0,none⟩) gs.length c4) (atL gs.length z') (aG gs.length z')) :
  MvR w0 (bB w (w0.heap.size+1) (.slice (some ⟨p3,0,none⟩) gs.length c3) (.slice (some ⟨p4,0,none⟩) gs.length c4)) gs p c z' g kd p3 c3 p4 c4:=by
 have HP:dR w (bB w (w0.heap.size+1) (.slice (some ⟨p3,0,none⟩) gs.length c3) (.slice (some ⟨p4,0,none⟩) gs.length c4)) (w0.heap.size+1) _ #[.slice (some ⟨p3,0,none⟩) gs.length c3,.slice (some ⟨p4,0,none⟩) gs.length c4]:=aO h.sx
 exact⟨(HP.other _ (by omega)).trans h.s0,HP.row,(HP.other _ (by omega)).trans h.se,(HP.other _ (by omega)).trans h.sr,hL.put h.sx (by decide),h.bl.trans (HP.below _ (by omega))⟩
def stB (w:World) (b i:Nat):Nat:=match w.cell? ⟨b,0,none⟩ with | some (.slice (some a) _ _)=>stA w a.block i | _=>0
theorem z8 {w0 w:World}{gs:List Gd}{p:Option Addr}{c:Nat}{z:St}{g:Nat}{kd:Int}{p1 c1 p2 c2:Nat} (h:MvR w0 w gs p c z g kd p1 c1 p2 c2) (hn:gs.length≤3) {i:Nat} (hi:i<gs.length):stB w (w0.heap.size+1) i=(z.a i).toNat:=by
 unfold stB
 rw[aa h.sx 0]
 show stA w p1 i=_
 unfold stA
 rw[h.L.a.cellAt (lj hn z hi)]
structure MvG (w:World) (k0 kg kr:Nat) (gs:List Gd) (g:Nat) (kd:Int) (p1 c1 p2 c2:Nat) (gname:ByteArray) (q:Option Addr) (cq:Nat) (r:Rg) (q1:Option Addr) (d1:Nat) (q2:Option Addr) (d2:Nat):Prop where
 h4:H4 w (k0+1) (k0+1+1) kg kr (#[.slice (some ⟨p1,0,none⟩) gs.length c1,.slice (some ⟨p2,0,none⟩) gs.length c2],41) (#[.int .i64 g,.int .i64 kd],53) (#[.string gname,.slice q (ag gs g).length cq],62)
  (#[.string r.name,.string r.next,.string r.back,.int .i64 r.tries,.int .i64 r.minutes,.slice q1 r.needs.length d1,.slice q2 r.loops.length d2],59)
structure InS (w:World) (b0 b1 bg og:Nat) (o0 o1:Array Value×TypeId) (u0 u1:Value):Prop where
 h0:w.heap[b0]?=some (.cells o0.1 o0.2 (0,0))
 h1:w.heap[b1]?=some (.cells o1.1 o1.2 (0,0))
 lt:bg<w.heap.size
 c0:w.cell? ⟨bg,og,none⟩=some u0
 c1:w.cell? ⟨bg,og+1,none⟩=some u1
theorem InS.below {w w':World}{b0 b1 bg og:Nat}{o0 o1:Array Value×TypeId}{u0 u1:Value} (h:InS w b0 b1 bg og o0 o1 u0 u1) (hb:Below w.heap.size w w'):InS w' b0 b1 bg og o0 o1 u0 u1 :=
 ⟨(hb.block _ (ae h.h0)).trans h.h0,(hb.block _ (ae h.h1)).trans h.h1,C8 h.lt hb.size,(hb.cell (p:=⟨bg,_,none⟩) h.lt).trans h.c0,(hb.cell (p:=⟨bg,_,none⟩) h.lt).trans h.c1⟩
theorem uJ {g:Nat} (hg:g<3) (y:St) (k:Int):(y.fail g).go g k=y.go g k:=by
 rcases lt3 hg with rfl | rfl | rfl<;>rfl
structure Cw (w w':World) (o0 o1 o2 o3:Obj):Prop where
 s0:w'.heap[w.heap.size]?=some o0
 s1:w'.heap[w.heap.size+1]?=some o1
 s2:w'.heap[w.heap.size+1+1]?=some o2
 s3:w'.heap[w.heap.size+1+1+1]?=some o3
 size:w'.heap.size=w.heap.size+1+1+1+1
 below:Below w.heap.size w w'
theorem By (w:World) (o0 o1 o2 o3:Obj):Cw w ((((w.alloc o0).alloc o1).alloc o2).alloc o3) o0 o1 o2 o3:=by
 have h:=pp w o0 o1 o2
 refine⟨(heap_alloc_old _ _ (by simp;try omega)).trans h.s0,(heap_alloc_old _ _ (by simp;try omega)).trans h.s1,(heap_alloc_old _ _ (by simp;try omega)).trans h.s2,?_,by simp,h.below.alloc (by simp;try omega) _⟩
 have:=heap_alloc_new (((w.alloc o0).alloc o1).alloc o2) o3
 simpa using this
theorem zg (gs:List Gd) (p:Option Addr) (c:Nat) (pa:Option Addr) (ca:Nat) (pf:Option Addr) (cf:Nat) (y:St) (g:Nat) (kd:Int) (w:World) (hP:d8 w p c gs) (hA:aN w (.slice pa gs.length ca) (atL gs.length y)) (hF:aN w (.slice pf gs.length cf) (aG gs.length y)) (hS:aX gs=true) (hy:(ah gs).At y) (hg:g<gs.length) (hk0:0≤kd) (hk2:kd≤2) (hqa:pa=none→ca=0) (hqf:pf=none→cf=0) :
  Calls Tryz.prog 78 #[.agg #[.slice p gs.length c],.agg #[.slice pa gs.length ca,.slice pf gs.length cf],.agg #[.int .i64 g,.int .i64 kd]] w fun e w'=>∃ p1 c1 p2 c2,e=.returned (.agg #[.slice (some ⟨p1,0,none⟩) gs.length c1,.slice (some ⟨p2,0,none⟩) gs.length c2])∧cZ w.heap.size w' (.slice (some ⟨p1,0,none⟩) gs.length c1) (.slice (some ⟨p2,0,none⟩) gs.length c2) (atL gs.length (cE (ah gs) y ⟨g,kd⟩)) (aG gs.length (cE (ah gs) y ⟨g,kd⟩))∧Below w.heap.size w w':=by
 obtain⟨hn1,hn3⟩:=a_ hS
 have GD:=C5 (bD hS)
 have HSy:=C5 hS
 have HLA:=C5 (show ∀ z,(atL gs.length z).length=gs.length from fun z=>kD hn3 z)
 have HLF:=C5 (show ∀ z,(aG gs.length z).length=gs.length from fun z=>jr hn3 z)
 have hl:=By w (.cells #[.slice p gs.length c] 24) (.cells #[.slice pa gs.length ca,.slice pf gs.length cf] 41) (.cells #[.int .i64 g,.int .i64 kd] 53) (.cells #[.slice none 0 0,.slice none 0 0] 41)
 obtain⟨bg,og,rfl,hbg,hcg⟩:=hP.G.at_ (by omega)
 obtain⟨q,cq,e0,e1,hR⟩:=hcg g hg
 have hra:ag gs g=gs[g].rungs:=by unfold ag;rw[C7 hg]
 rw[←hra] at e1 hR
 obtain⟨gname,hgn⟩:∃ b,b=gs[g].name:=⟨_,rfl⟩
 rw[←hgn] at e0
 have hr8:=(dc (bC hS hg)).2
 have u0:=(hl.below.cell (p:=⟨bg,_,none⟩) hbg).trans e0
 have u1:=(hl.below.cell (p:=⟨bg,_,none⟩) hbg).trans e1
 have HRQ:=C5 hR
 have HP:=C5 hP
 have HX:=C5 hy
 have ha:=hy.a g hg
 have hM:(ah gs).rungs g=(ag gs g).length:=rfl
 obtain⟨k,hk⟩:∃ k:Nat,k=(y.a g).toNat:=⟨_,rfl⟩
 have hkr:k<(ag gs g).length:=by omega
 have HKE:=C5 hk
 obtain⟨q1,d1,q2,d2,_,_,HC⟩:=lk (pf:=pf) (nf:=gs.length) (cf:=cf) (c:=c) (hP.below hl.below).G (hA.below hl.below) hS hy hg
 rw[←hk] at HC
 have HA:=C5 (hA.below hl.below)
 have HF:=C5 (hF.below hl.below)
 have HC:=C5 HC
 obtain⟨r,hr⟩:∃ r,r=aK gs g k:=⟨_,rfl⟩
 rw[←hr] at HC
 have HR:=C5 hr
 have hgI:(g:Int)<(gs.length:Int):=by omega
 clear hr hk hP hA hF hS hy e0 e1 hR hra hgn hcg
 go_enter Tryz.func78,Tryz.ntmps78
 go_upto_region 1 with fail
 generalize (((w.alloc (.cells #[.slice (some ⟨bg,og,none⟩) gs.length c] 24)).alloc (.cells #[.slice pa gs.length ca,.slice pf gs.length cf] 41)).alloc (.cells #[.int .i64 g,.int .i64 kd] 53)).alloc (.cells #[.slice none 0 0,.slice none 0 0] 41)=w1 at *
 have x0:w1.cell? ⟨w.heap.size,0,none⟩=some (.slice (some ⟨bg,og,none⟩) gs.length c):=aa hl.s0 0
 have x1:w1.cell? ⟨w.heap.size+1,0,none⟩=some (.slice pa gs.length ca):=aa hl.s1 0
 have x2:w1.cell? ⟨w.heap.size+1,1,none⟩=some (.slice pf gs.length cf):=aa hl.s1 1
 have x3:w1.cell? ⟨w.heap.size+1+1,0,none⟩=some (.int .i64 g):=aa hl.s2 0
 have l2:=bL w1 (.cells #[.string gname,.slice q (ag gs g).length cq] 62)
 go_upto_region 2 with fail
 clear x0 x1 x2 x3 u0 u1
 generalize w1.alloc (.cells #[.string gname,.slice q (ag gs g).length cq] 62)=w2 at *
 have k0:=(l2.below.block _ (ae hl.s0)).trans hl.s0
 have k1:=(l2.below.block _ (ae hl.s1)).trans hl.s1
 have k2:=(l2.below.block _ (ae hl.s2)).trans hl.s2
 have k3:=(l2.below.block _ (ae hl.s3)).trans hl.s3
 have kg:=l2.s0
 have x0:w2.cell? ⟨w.heap.size,0,none⟩=some (.slice (some ⟨bg,og,none⟩) gs.length c):=aa k0 0
 have x1:w2.cell? ⟨w.heap.size+1,0,none⟩=some (.slice pa gs.length ca):=aa k1 0
 have x2:w2.cell? ⟨w.heap.size+1,1,none⟩=some (.slice pf gs.length cf):=aa k1 1
 have x3:w2.cell? ⟨w.heap.size+1+1,0,none⟩=some (.int .i64 g):=aa k2 0
 go_wp2_with fail
 refine (HC.out w2 l2.below).mono ?_
 rintro e w3 ⟨rfl,hb3⟩
 have HB2:=hl.below.trans (l2.below.mono hl.below.size)
 have HB3:=HB2.trans (hb3.mono HB2.size)
 have l4:=bL w3 (.cells #[.string r.name,.string r.next,.string r.back,.int .i64 r.tries,.int .i64 r.minutes,.slice q1 r.needs.length d1,.slice q2 r.loops.length d2] 59)
 go_upto_region 3 with fail
 clear x0 x1 x2 x3
 generalize w3.alloc (.cells #[.string r.name,.string r.next,.string r.back,.int .i64 r.tries,.int .i64 r.minutes,.slice q1 r.needs.length d1,.slice q2 r.loops.length d2] 59)=w4 at *
 have b34:=l4.below
 have b24:=hb3.trans (b34.mono hb3.size)
 have m0:=(b24.block _ (ae k0)).trans k0
 have m1:=(b24.block _ (ae k1)).trans k1
 have m2:=(b24.block _ (ae k2)).trans k2
 have m3:=(b24.block _ (ae k3)).trans k3
 have mg:=(b24.block _ (ae kg)).trans kg
 have mr:=l4.s0
 have HB4:=HB3.trans (b34.mono HB3.size)
 have HA4:=C5 (HA.out.below (l2.below.trans (b24.mono l2.below.size)))
 have HF4:=C5 (HF.out.below (l2.below.trans (b24.mono l2.below.size)))
 have hz4:w.heap.size+1+1+1+1≤w4.heap.size:=ae m3
 have hkg:w.heap.size+1+1+1+1≤w1.heap.size:=by have:=hl.size;omega
 have hkr2:w.heap.size+1+1+1+1<w3.heap.size:=by have:=hb3.size;have:=l2.size;omega
 clear k0 k1 k2 k3 kg HB2 HB3 hb3 l4 b34 b24 HA HF HC l2 hl
 generalize w3.heap.size=kr at *
 generalize w1.heap.size=kg at *
 have x1:w4.cell? ⟨w.heap.size+1,0,none⟩=some (.slice pa gs.length ca):=aa m1 0
 have x2:w4.cell? ⟨w.heap.size+1,1,none⟩=some (.slice pf gs.length cf):=aa m1 1
 have f1:=frozen_of_row w4 (w.heap.size+1) 0 _ _ m1
 have f2:=frozen_of_row w4 (w.heap.size+1) 1 _ _ m1
 go_wp2_with fail
 refine (qC pa gs.length ca pf gs.length cf (atL gs.length y) (aG gs.length y) w4 HA4.out HF4.out hqa hqf (by rw[HLA.out];omega) (by rw[HLF.out];omega)).mono ?_
 rintro e w5 ⟨u1,u2,rfl,hL,hb5⟩
 obtain⟨p1,c1,rfl,hge1,_⟩:=hL.a.some (by rw[HLA.out];omega)
 obtain⟨p2,c2,rfl,hge2,_⟩:=hL.f.some (by rw[HLF.out];omega)
 rw[HLA.out] at hL ⊢
 rw[HLF.out] at hL ⊢
 have n0:=(hb5.block _ (ae m0)).trans m0
 have n1:=(hb5.block _ (ae m1)).trans m1
 have n2:=(hb5.block _ (ae m2)).trans m2
 have n3:=(hb5.block _ (ae m3)).trans m3
 have ng:=(hb5.block _ (ae mg)).trans mg
 have nr:=(hb5.block _ (ae mr)).trans mr
 have HB5:=HB4.trans (hb5.mono HB4.size)
 clear m0 m1 m2 m3 mg mr HB4 hb5 x1 x2 f1 f2 HA4 HF4
 have x1:w5.cell? ⟨w.heap.size+1,0,none⟩=some (.slice pa gs.length ca):=aa n1 0
 have x2:w5.cell? ⟨w.heap.size+1,1,none⟩=some (.slice pf gs.length cf):=aa n1 1
 have f1:=frozen_of_row w5 (w.heap.size+1) 0 _ _ n1
 have f2:=frozen_of_row w5 (w.heap.size+1) 1 _ _ n1
 have HP5:dR w5 (bB w5 (w.heap.size+1) (.slice (some ⟨p1,0,none⟩) gs.length c1) (.slice (some ⟨p2,0,none⟩) gs.length c2)) (w.heap.size+1) _ #[.slice (some ⟨p1,0,none⟩) gs.length c1,.slice (some ⟨p2,0,none⟩) gs.length c2]:=aO n1
 have S1:MvR w (bB w5 (w.heap.size+1) (.slice (some ⟨p1,0,none⟩) gs.length c1) (.slice (some ⟨p2,0,none⟩) gs.length c2)) gs (some ⟨bg,og,none⟩) c y g kd p1 c1 p2 c2:=⟨(HP5.other _ (by omega)).trans n0,HP5.row,(HP5.other _ (by omega)).trans n2,(HP5.other _ (by omega)).trans n3,(hL.base hz4).put n1 (by decide),HB5.trans (HP5.below _ (by omega))⟩
 have G1:MvG (bB w5 (w.heap.size+1) (.slice (some ⟨p1,0,none⟩) gs.length c1) (.slice (some ⟨p2,0,none⟩) gs.length c2)) w.heap.size kg kr gs g kd p1 c1 p2 c2 gname q cq r q1 d1 q2 d2:=⟨⟨HP5.row,(HP5.other _ (by omega)).trans n2,(HP5.other _ (by omega)).trans ng,(HP5.other _ (by omega)).trans nr⟩⟩
 clear n0 n1 n2 n3 ng nr HB5 HP5 hL hge1 hge2
 go_upto_region 4 with fail
 change Code.wp _ _ _ _ (bB w5 (w.heap.size+1) (.slice (some ⟨p1,0,none⟩) gs.length c1) (.slice (some ⟨p2,0,none⟩) gs.length c2))
 clear x1 x2 f1 f2
 generalize bB w5 (w.heap.size+1) (.slice (some ⟨p1,0,none⟩) gs.length c1) (.slice (some ⟨p2,0,none⟩) gs.length c2)=w6 at S1 G1 ⊢
 have v0:=aa G1.h4.h1 1
 go_upto_block 0 with fail
 clear v0
 go_cut [9] from 26 to 69 (fun s9 wx=>∃ z p1 c1 p2 c2,Hid (jQ (ah gs) y ⟨g,kd⟩=z)∧(ah gs).At z∧MvR w wx gs (some ⟨bg,og,none⟩) c z g kd p1 c1 p2 c2)
 case first =>
  have hact:=uB (ah gs) y g kd
  rw[←HKE.out] at hact
  have HACT:=C5 hact
  have hnr:=GD.out.next g k hg hkr
  have hbr:=(show 0≤(ah gs).back g k∧(ah gs).back g k<(ag gs g).length by
   refine⟨GD.out.back0 g k hg hkr,?_⟩
   rcases DQ k with h | h
   ·have:=GD.out.backz g hg;rw[h,this];omega
   ·have:=GD.out.back g k hg hkr h;omega)
  have htr:=GD.out.tries g k hg hkr
  have hfr:=HX.out.f g hg
  rw[←HKE.out] at hfr
  have HNX:=C5 (show aE (ag gs g) r.next.data.toList=(ah gs).next g k by rw[HR.out];rfl)
  have HBK:=C5 (show aE (ag gs g) r.back.data.toList=(ah gs).back g k by rw[HR.out];rfl)
  have HTT:=C5 (show (ah gs).tries g k=r.tries by rw[HR.out];rfl)
  have HNI:=C5 (show r.next.data.toList=[]↔(ah gs).next g k<0 by rw[HR.out];exact si HSy.out hg hkr)
  obtain⟨nx,hnx⟩:∃ nx,Hid ((ah gs).next g k=nx):=⟨_,rfl⟩
  obtain⟨bk,hbk⟩:∃ bk,Hid ((ah gs).back g k=bk):=⟨_,rfl⟩
  rw[hnx.out] at hnr HNX HNI HACT
  rw[hbk.out] at hbr HBK HACT
  rw[HTT.out] at htr hfr HACT
  have hfy:=hfr.1
  have hfy2:=hfr.2
  clear hact hnx hbk
  rcases (by omega:kd=0∨kd=1∨kd=2) with rfl | rfl | rfl
  ·have r1:=aa G1.h4.h3 1
   by_cases hge:0≤nx
   ·have HA:Hid (jQ (ah gs) y ⟨g,0⟩=y.go g nx):=by unfold Hid;rw[HACT.out];simp;omega
    have hne:¬ r.next.data.toList=[]:=fun h=>by have:=HNI.out.1 h;omega
    have z1:(r.next.toList == [])=false:=by rw[aj];simpa using hne
    have z2:(r.next.toList != [])=true:=by rw[aj];simpa using hne
    clear hne
    have HAX:Hid ((atL gs.length y).set g nx=atL gs.length (y.go g nx)):=pT hn3 hg y nx
    have HFX:Hid ((aG gs.length y).set g 0=aG gs.length (y.go g nx)):=kK hn3 hg y nx
    have HAt:=C5 (HX.out.go GD.out hg hge hnr.2)
    go_upto_region 8 with fail
    have hS:=G1.h4.below (below_drewN (Below.refl _ _) 1)
    have M1:=S1.below (below_drewN (Below.refl _ _) 1)
    refine wp_mono (au (Q:=aL _) (fun wx:World=>H4 wx (w.heap.size+1) (w.heap.size+1+1) kg kr (#[.slice (some ⟨p1,0,none⟩) gs.length c1,.slice (some ⟨p2,0,none⟩) gs.length c2],41) (#[.int .i64 g,.int .i64 0],53) (#[.string gname,.slice q (ag gs g).length cq],62) (#[.string r.name,.string r.next,.string r.back,.int .i64 r.tries,.int .i64 r.minutes,.slice q1 r.needs.length d1,.slice q2 r.loops.length d2],59)) (fun i=>i == 8) (by kernel_rfl) ?_) (fun _ _ _ h=>aV h)
    change H4 w6.drew _ _ _ _ _ _ _ _ at hS
    change MvR w w6.drew _ _ _ _ _ _ _ _ _ _ at M1
    generalize w6.drew=wd at *
    refine af (i:=1) (v:=?vv1) rfl (by kernel_rfl) (fun _ _ _ h=>h) rfl ?hy1 ?rest1
    case hy1=>(intro wy;go_simp;try with_reducible rfl)
    try simp only[Act.put,C4,C2,C3,CY,C1,CZ]
    refine af (i:=4) (v:=?vv2) rfl (by kernel_rfl) (fun _ _ _ h=>h) rfl ?hy2 ?rest2
    case hy2=>(intro wy;go_simp;try with_reducible rfl)
    try simp only[Act.put,C4,C2,C3,CY,C1,CZ]
    refine ak (i:=0) (v:=?vvAa) rfl (by kernel_rfl) (fun _ _ _ h=>h) rfl hS ?hyAa ?restAa
    case hyAa =>
     intro wy hy
     have e0:=aa hy.h0 0;have e1:=aa hy.h0 1
     have e2:=aa hy.h1 0;have e3:=aa hy.h1 1
     have e4:=aa hy.h2 0;have e5:=aa hy.h2 1
     have e6:=aa hy.h3 0;have e7:=aa hy.h3 1;have e8:=aa hy.h3 2;have e9:=aa hy.h3 3;have e10:=aa hy.h3 4;have e11:=aa hy.h3 5;have e12:=aa hy.h3 6
     clear hy
     go_simp
     try with_reducible rfl
    try simp only[Act.put,C4,C2,C3,CY,C1,CZ]
    refine ak (i:=2) (v:=?vvBa) rfl (by kernel_rfl) (fun _ _ _ h=>h) rfl hS ?hyBa ?restBa
    case hyBa =>
     intro wy hy
     have e0:=aa hy.h0 0;have e1:=aa hy.h0 1
     have e2:=aa hy.h1 0;have e3:=aa hy.h1 1
     have e4:=aa hy.h2 0;have e5:=aa hy.h2 1
     have e6:=aa hy.h3 0;have e7:=aa hy.h3 1;have e8:=aa hy.h3 2;have e9:=aa hy.h3 3;have e10:=aa hy.h3 4;have e11:=aa hy.h3 5;have e12:=aa hy.h3 6
     clear hy
     go_simp
     try with_reducible rfl
    try simp only[Act.put,C4,C2,C3,CY,C1,CZ]
    refine ak (i:=3) (v:=?vvCa) rfl (by kernel_rfl) (fun _ _ _ h=>h) rfl hS ?hyCa ?restCa
    case hyCa =>
     intro wy hy
     have e0:=aa hy.h0 0;have e1:=aa hy.h0 1
     have e2:=aa hy.h1 0;have e3:=aa hy.h1 1
     have e4:=aa hy.h2 0;have e5:=aa hy.h2 1
     have e6:=aa hy.h3 0;have e7:=aa hy.h3 1;have e8:=aa hy.h3 2;have e9:=aa hy.h3 3;have e10:=aa hy.h3 4;have e11:=aa hy.h3 5;have e12:=aa hy.h3 6
     clear hy
     go_simp
     try with_reducible rfl
    try simp only[Act.put,C4,C2,C3,CY,C1,CZ]
    refine ak (i:=5) (v:=?vvDa) rfl (by kernel_rfl) (fun _ _ _ h=>h) rfl hS ?hyDa ?restDa
    case hyDa =>
     intro wy hy
     have e0:=aa hy.h0 0;have e1:=aa hy.h0 1
     have e2:=aa hy.h1 0;have e3:=aa hy.h1 1
     have e4:=aa hy.h2 0;have e5:=aa hy.h2 1
     have e6:=aa hy.h3 0;have e7:=aa hy.h3 1;have e8:=aa hy.h3 2;have e9:=aa hy.h3 3;have e10:=aa hy.h3 4;have e11:=aa hy.h3 5;have e12:=aa hy.h3 6
     clear hy
     go_simp
     try with_reducible rfl
    try simp only[Act.put,C4,C2,C3,CY,C1,CZ]
    clear hS G1 S1
    refine am (i:=6) rfl (by kernel_rfl) rfl (fun K hK=>?_)
    go_simp
    refine (fG gname q cq (ag gs g) _ wd (HRQ.out.below M1.bl) (by omega)).mono ?_
    rintro e w7 ⟨rfl,hb7⟩
    have M7:=M1.below hb7
    refine hK _ _ (fun _ h=>h.below hb7) ?_
    clear hK K M1 hb7
    rw[HNX.out]
    try simp only[Act.put,C4,C2,C3,CY,C1,CZ]
    refine am (i:=7) rfl (by kernel_rfl) rfl (fun K hK=>?_)
    go_simp
    refine (kP _ _ _ _ _ _ (atL gs.length y) (aG gs.length y) g _ w7 M7.L.a.q M7.L.f.q (fun h=>by cases h) (fun h=>by cases h) (by rw[HLA.out];omega) (by rw[HLF.out];omega) (by rw[HLA.out];omega) (by rw[HLF.out];omega)).mono ?_
    rintro e w8 ⟨u1,u2,rfl,hL,hb8⟩
    have M8:=M7.below hb8
    have hzz:=M7.sz
    rw[HAX.out,HFX.out] at hL
    obtain⟨p3,c3,rfl,hge3,_⟩:=hL.a.some (by rw[HLA.out];omega)
    obtain⟨p4,c4,rfl,hge4,_⟩:=hL.f.some (by rw[HLF.out];omega)
    rw[HLA.out] at hL ⊢
    rw[HLF.out] at hL ⊢
    refine hK _ _ (fun _ h=>h.below hb8) ?_
    clear hK K M7 hb8
    try simp only[Act.put,C4,C2,C3,CY,C1,CZ]
    have hL2:=hL.base hzz
    have c0:=aa M8.sx 0
    have c1':=aa M8.sx 1
    have f0:=frozen_of_row w8 (w.heap.size+1) 0 _ _ M8.sx
    have f1:=frozen_of_row w8 (w.heap.size+1) 1 _ _ M8.sx
    have MZ:=M8.put hL2
    clear M8 hL hL2
    refine am (i:=8) rfl (by kernel_rfl) rfl (fun K hK=>?_)
    go_simp
    change K _ (bB w8 (w.heap.size+1) (.slice (some ⟨p3,0,none⟩) gs.length c3) (.slice (some ⟨p4,0,none⟩) gs.length c4))
    refine hK _ _ (fun h=>by cases h) ?_
    clear hK K c0 c1' f0 f1
    try simp only[Act.put,C4,C2,C3,CY,C1,CZ]
    refine aA (by kernel_rfl) ?_ _
    simp only[aL]
    generalize bB w8 (w.heap.size+1) (.slice (some ⟨p3,0,none⟩) gs.length c3) (.slice (some ⟨p4,0,none⟩) gs.length c4)=w9 at *
    go_wp2
    go_meet
    exact⟨y.go g nx,p3,c3,p4,c4,HA,HAt.out,MZ⟩
   ·have HA:Hid (jQ (ah gs) y ⟨g,0⟩=y):=by unfold Hid;rw[HACT.out];simp;omega
    have hne:r.next.data.toList=[]:=HNI.out.2 (by omega)
    have z1:(r.next.toList == [])=true:=by rw[aj];simpa using hne
    have z2:(r.next.toList != [])=false:=by rw[aj];simpa using hne
    clear hne
    go_wp2
    go_meet
    exact⟨y,p1,c1,p2,c2,HA,HX.out,S1⟩
  ·have x1:=aa S1.sx 1
   have x2:=aa S1.se 0
   have x3:=S1.L.f.cellAt (o8 hn3 hg y)
   have x4:=S1.L.f.frozenAt g
   have hp2:w.heap.size+1+1+1+1≤p2:=(av S1.L.f rfl).1
   have hp4:=G1.h4
   have HF9:=C5 (tE hn3 hg y)
   have HA9:=C5 (xR hn3 hg y)
   have S7:MvR w (w6.setCell ⟨p2,g,none⟩ (.int .i64 (y.f g+1))) gs (some ⟨bg,og,none⟩) c (y.fail g) g 1 p1 c1 p2 c2:=by
    have hL2:=S1.L.setF g (y.f g+1)
    rw[HF9.out,HA9.out] at hL2
    exact⟨(heap_setCell_other _ _ _ _ (by show w.heap.size≠p2;omega)).trans S1.s0,(heap_setCell_other _ _ _ _ (by show w.heap.size+1≠p2;omega)).trans S1.sx,(heap_setCell_other _ _ _ _ (by show w.heap.size+1+1≠p2;omega)).trans S1.se,(heap_setCell_other _ _ _ _ (by show w.heap.size+1+1+1≠p2;omega)).trans S1.sr,hL2,S1.bl.setCell (p:=⟨p2,g,none⟩) (by show w.heap.size≤p2;omega) _⟩
   have hne2:∀ (b:Nat) (t:TypeId) (cs:Array Value),w6.heap[b]?=some (Obj.cells cs t (0,0))→t≠3→(w6.setCell ⟨p2,g,none⟩ (.int .i64 (y.f g+1))).heap[b]?=some (Obj.cells cs t (0,0)):=fun b t cs hb ht=>by
    rw[heap_setCell_other _ _ _ _ (show b≠p2 from fun e=>by
     obtain⟨_,_,cur,h2⟩:=av S1.L.f (k:=p2) rfl
     rw[←e,hb] at h2
     cases h2
     exact ht rfl)]
    exact hb
   have G7:MvG (w6.setCell ⟨p2,g,none⟩ (.int .i64 (y.f g+1))) w.heap.size kg kr gs g 1 p1 c1 p2 c2 gname q cq r q1 d1 q2 d2:=⟨⟨hne2 _ _ _ hp4.h0 (show (41:TypeId)≠3 by decide),hne2 _ _ _ hp4.h1 (show (53:TypeId)≠3 by decide),hne2 _ _ _ hp4.h2 (show (62:TypeId)≠3 by decide),hne2 _ _ _ hp4.h3 (show (59:TypeId)≠3 by decide)⟩⟩
   clear hne2 hp4
   go_upto_region 12 with fail
   clear x1 x2 x3 x4 S1 G1
   generalize w6.setCell ⟨p2,g,none⟩ (.int .i64 (y.f g+1))=w7 at *
   have x2:=aa S7.se 0
   have x3:=S7.L.f.cellAt (o8 hn3 hg (y.fail g))
   rw[St.f_fail _ (by omega) (by omega),if_pos rfl] at x3
   have x5:=aa G7.h4.h3 3
   by_cases hge:y.f g+1=r.tries
   ·have hd:(y.f g+1 == r.tries)=true:=by simp[hge]
    have HA:Hid (jQ (ah gs) y ⟨g,1⟩=y.go g bk):=by unfold Hid;rw[HACT.out];simp;omega
    have HAX:Hid ((atL gs.length (y.fail g)).set g bk=atL gs.length (y.go g bk)):=by unfold Hid;rw[pT hn3 hg,uJ (by omega)]
    have HFX:Hid ((aG gs.length (y.fail g)).set g 0=aG gs.length (y.go g bk)):=by unfold Hid;rw[kK hn3 hg _ bk,uJ (by omega)]
    have HAt:=C5 (HX.out.go GD.out hg hbr.1 hbr.2)
    clear hge
    go_quiet (fail)
    go_upto_region 13 with fail
    have S1:=S7.below (below_drewN (Below.refl w7.heap.size w7) nq)
    have G1:MvG (w7.drewN nq) w.heap.size kg kr gs g 1 p1 c1 p2 c2 gname q cq r q1 d1 q2 d2:=⟨G7.h4.below (below_drewN (Below.refl w7.heap.size w7) nq)⟩
    clear x2 x3 x5 S7 G7
    generalize w7.drewN nq=w6 at *
    have hS:=G1.h4.below (below_drewN (Below.refl _ _) 1)
    have M1:=S1.below (below_drewN (Below.refl _ _) 1)
    refine wp_mono (au (Q:=aL _) (fun wx:World=>H4 wx (w.heap.size+1) (w.heap.size+1+1) kg kr (#[.slice (some ⟨p1,0,none⟩) gs.length c1,.slice (some ⟨p2,0,none⟩) gs.length c2],41) (#[.int .i64 g,.int .i64 1],53) (#[.string gname,.slice q (ag gs g).length cq],62) (#[.string r.name,.string r.next,.string r.back,.int .i64 r.tries,.int .i64 r.minutes,.slice q1 r.needs.length d1,.slice q2 r.loops.length d2],59)) (fun i=>i == 8) (by kernel_rfl) ?_) (fun _ _ _ h=>aV h)
    change H4 w6.drew _ _ _ _ _ _ _ _ at hS
    change MvR w w6.drew _ _ _ _ _ _ _ _ _ _ at M1
    generalize w6.drew=wd at *
    refine af (i:=1) (v:=?vv3) rfl (by kernel_rfl) (fun _ _ _ h=>h) rfl ?hy3 ?rest3
    case hy3=>(intro wy;go_simp;try with_reducible rfl)
    try simp only[Act.put,C4,C2,C3,CY,C1,CZ]
    refine af (i:=4) (v:=?vv4) rfl (by kernel_rfl) (fun _ _ _ h=>h) rfl ?hy4 ?rest4
    case hy4=>(intro wy;go_simp;try with_reducible rfl)
    try simp only[Act.put,C4,C2,C3,CY,C1,CZ]
    refine ak (i:=0) (v:=?vvAb) rfl (by kernel_rfl) (fun _ _ _ h=>h) rfl hS ?hyAb ?restAb
    case hyAb =>
     intro wy hy
     have e0:=aa hy.h0 0;have e1:=aa hy.h0 1
     have e2:=aa hy.h1 0;have e3:=aa hy.h1 1
     have e4:=aa hy.h2 0;have e5:=aa hy.h2 1
     have e6:=aa hy.h3 0;have e7:=aa hy.h3 1;have e8:=aa hy.h3 2;have e9:=aa hy.h3 3;have e10:=aa hy.h3 4;have e11:=aa hy.h3 5;have e12:=aa hy.h3 6
     clear hy
     go_simp
     try with_reducible rfl
    try simp only[Act.put,C4,C2,C3,CY,C1,CZ]
    refine ak (i:=2) (v:=?vvBb) rfl (by kernel_rfl) (fun _ _ _ h=>h) rfl hS ?hyBb ?restBb
    case hyBb =>
     intro wy hy
     have e0:=aa hy.h0 0;have e1:=aa hy.h0 1
     have e2:=aa hy.h1 0;have e3:=aa hy.h1 1
     have e4:=aa hy.h2 0;have e5:=aa hy.h2 1
     have e6:=aa hy.h3 0;have e7:=aa hy.h3 1;have e8:=aa hy.h3 2;have e9:=aa hy.h3 3;have e10:=aa hy.h3 4;have e11:=aa hy.h3 5;have e12:=aa hy.h3 6
     clear hy
     go_simp
     try with_reducible rfl
    try simp only[Act.put,C4,C2,C3,CY,C1,CZ]
    refine ak (i:=3) (v:=?vvCb) rfl (by kernel_rfl) (fun _ _ _ h=>h) rfl hS ?hyCb ?restCb
    case hyCb =>
     intro wy hy
     have e0:=aa hy.h0 0;have e1:=aa hy.h0 1
     have e2:=aa hy.h1 0;have e3:=aa hy.h1 1
     have e4:=aa hy.h2 0;have e5:=aa hy.h2 1
     have e6:=aa hy.h3 0;have e7:=aa hy.h3 1;have e8:=aa hy.h3 2;have e9:=aa hy.h3 3;have e10:=aa hy.h3 4;have e11:=aa hy.h3 5;have e12:=aa hy.h3 6
     clear hy
     go_simp
     try with_reducible rfl
    try simp only[Act.put,C4,C2,C3,CY,C1,CZ]
    refine ak (i:=5) (v:=?vvDb) rfl (by kernel_rfl) (fun _ _ _ h=>h) rfl hS ?hyDb ?restDb
    case hyDb =>
     intro wy hy
     have e0:=aa hy.h0 0;have e1:=aa hy.h0 1
     have e2:=aa hy.h1 0;have e3:=aa hy.h1 1
     have e4:=aa hy.h2 0;have e5:=aa hy.h2 1
     have e6:=aa hy.h3 0;have e7:=aa hy.h3 1;have e8:=aa hy.h3 2;have e9:=aa hy.h3 3;have e10:=aa hy.h3 4;have e11:=aa hy.h3 5;have e12:=aa hy.h3 6
     clear hy
     go_simp
     try with_reducible rfl
    try simp only[Act.put,C4,C2,C3,CY,C1,CZ]
    clear hS G1 S1
    refine am (i:=6) rfl (by kernel_rfl) rfl (fun K hK=>?_)
    go_simp
    refine (fG gname q cq (ag gs g) _ wd (HRQ.out.below M1.bl) (by omega)).mono ?_
    rintro e w7 ⟨rfl,hb7⟩
    have M7:=M1.below hb7
    refine hK _ _ (fun _ h=>h.below hb7) ?_
    clear hK K M1 hb7
    rw[HBK.out]
    try simp only[Act.put,C4,C2,C3,CY,C1,CZ]
    refine am (i:=7) rfl (by kernel_rfl) rfl (fun K hK=>?_)
    go_simp
    refine (kP _ _ _ _ _ _ (atL gs.length (y.fail g)) (aG gs.length (y.fail g)) g _ w7 M7.L.a.q M7.L.f.q (fun h=>by cases h) (fun h=>by cases h) (by rw[HLA.out];omega) (by rw[HLF.out];omega) (by rw[HLA.out];omega) (by rw[HLF.out];omega)).mono ?_
    rintro e w8 ⟨u1,u2,rfl,hL,hb8⟩
    have M8:=M7.below hb8
    have hzz:=M7.sz
    rw[HAX.out,HFX.out] at hL
    obtain⟨p3,c3,rfl,hge3,_⟩:=hL.a.some (by rw[HLA.out];omega)
    obtain⟨p4,c4,rfl,hge4,_⟩:=hL.f.some (by rw[HLF.out];omega)
    rw[HLA.out] at hL ⊢
    rw[HLF.out] at hL ⊢
    refine hK _ _ (fun _ h=>h.below hb8) ?_
    clear hK K M7 hb8
    try simp only[Act.put,C4,C2,C3,CY,C1,CZ]
    have hL2:=hL.base hzz
    have c0:=aa M8.sx 0
    have c1':=aa M8.sx 1
    have f0:=frozen_of_row w8 (w.heap.size+1) 0 _ _ M8.sx
    have f1:=frozen_of_row w8 (w.heap.size+1) 1 _ _ M8.sx
    have MZ:=M8.put hL2
    clear M8 hL hL2
    refine am (i:=8) rfl (by kernel_rfl) rfl (fun K hK=>?_)
    go_simp
    change K _ (bB w8 (w.heap.size+1) (.slice (some ⟨p3,0,none⟩) gs.length c3) (.slice (some ⟨p4,0,none⟩) gs.length c4))
    refine hK _ _ (fun h=>by cases h) ?_
    clear hK K c0 c1' f0 f1
    try simp only[Act.put,C4,C2,C3,CY,C1,CZ]
    refine aA (by kernel_rfl) ?_ _
    simp only[aL]
    generalize bB w8 (w.heap.size+1) (.slice (some ⟨p3,0,none⟩) gs.length c3) (.slice (some ⟨p4,0,none⟩) gs.length c4)=w9 at *
    go_wp2
    go_meet
    exact⟨y.go g bk,p3,c3,p4,c4,HA,HAt.out,MZ⟩
   ·have hd:(y.f g+1 == r.tries)=false:=by simpa using hge
    have HA:Hid (jQ (ah gs) y ⟨g,1⟩=y.fail g):=by unfold Hid;rw[HACT.out];simp;omega
    have HAt:=C5 (uI HX.out GD.out hg (by rw[←HKE.out,HTT.out];omega))
    clear hge
    go_quiet (fail)
    go_wp2
    go_meet
    exact⟨y.fail g,p1,c1,p2,c2,HA,HAt.out,S7.below (below_drewN (Below.refl w7.heap.size w7) _)⟩
  ·have HA:Hid (jQ (ah gs) y ⟨g,2⟩=y.go g 0):=by unfold Hid;rw[HACT.out];simp
   have HAX:Hid ((atL gs.length y).set g 0=atL gs.length (y.go g 0)):=pT hn3 hg y 0
   have HFX:Hid ((aG gs.length y).set g 0=aG gs.length (y.go g 0)):=kK hn3 hg y 0
   have HAt:=C5 (HX.out.go GD.out hg (FR 0) (by have:=GD.out.r0 g hg;omega))
   have x1:=aa S1.sx 0
   have x2:=aa S1.sx 1
   have x3:=aa S1.se 0
   go_wp2_with fail
   refine (kP _ _ _ _ _ _ (atL gs.length y) (aG gs.length y) g 0 w6 S1.L.a.q S1.L.f.q (fun h=>by cases h) (fun h=>by cases h) (by rw[HLA.out];omega) (by rw[HLF.out];omega) (by rw[HLA.out];omega) (by rw[HLF.out];omega)).mono ?_
   rintro e w8 ⟨u1,u2,rfl,hL,hb8⟩
   have M8:=S1.below hb8
   have hzz:=S1.sz
   rw[HAX.out,HFX.out] at hL
   obtain⟨p3,c3,rfl,hge3,_⟩:=hL.a.some (by rw[HLA.out];omega)
   obtain⟨p4,c4,rfl,hge4,_⟩:=hL.f.some (by rw[HLF.out];omega)
   rw[HLA.out] at hL ⊢
   rw[HLF.out] at hL ⊢
   have hL2:=hL.base hzz
   have MZ:=M8.put hL2
   have c0:=aa M8.sx 0
   have c1':=aa M8.sx 1
   have f0:=frozen_of_row w8 (w.heap.size+1) 0 _ _ M8.sx
   have f1:=frozen_of_row w8 (w.heap.size+1) 1 _ _ M8.sx
   clear M8 hL hL2 S1 G1 x1 x2 x3
   go_wp2
   go_meet
   exact⟨y.go g 0,p3,c3,p4,c4,HA,HAt.out,MZ⟩
 case rest =>
  obtain⟨z,p3,c3,p4,c4,hact,hz,S7⟩:=hcut
  clear S1 G1 hkr hgI
  go_wp2_with fail
  go_loopw [10] (fun s10 wx=>∃ (i:Nat) (z:St) (p1 c1 p2 c2:Nat),s10=.int .i64 i∧i≤gs.length∧(ah gs).At z∧MvR w wx gs (some ⟨bg,og,none⟩) c z g kd p1 c1 p2 c2∧Hid (cE (ah gs) y ⟨g,kd⟩=lW (ah gs) (gs.length-i) i z)) (fun s10 _=>gs.length-(intOf s10).toNat)
  case atStart=>exact⟨0,z,p3,c3,p4,c4,rfl,by omega,hz,S7,by unfold Hid cE;rw[hact.out];rfl⟩
  case round =>
   clear S7 hact hz
   obtain⟨i,z,p3,c3,p4,c4,rfl,hi,hz,S,hx2⟩:=hrel
   have x0:=aa S.s0 0
   by_cases hil:i<gs.length
   ·go_wp2_with fail
    clear x0
    go_loopw [81] (fun _ wx=>∃ (u:St) (p1 c1 p2 c2:Nat),(ah gs).At u∧MvR w wx gs (some ⟨bg,og,none⟩) c u g kd p1 c1 p2 c2∧Hid (iP (ah gs) i z=iP (ah gs) i u)) (fun _ wx=>stB wx (w.heap.size+1) i)
    case atStart=>exact⟨z,p3,c3,p4,c4,hz,S,rfl⟩
    case round =>
     clear S
     obtain⟨u,p1,c1,p2,c2,hu,S2,hfu⟩:=hrel
     have x0:=aa S2.s0 0
     have x1:=aa S2.sx 0
     have x2:=aa S2.sx 1
     go_wp2_with fail
     refine (rI gs (some ⟨bg,og,none⟩) c (some ⟨p1,0,none⟩) gs.length c1 (some ⟨p2,0,none⟩) gs.length c2 u (aG gs.length u) i _ (HP.out.below S2.bl) S2.L.a.q S2.L.f.q HSy.out hu hil).mono ?_
     rintro e w5 ⟨rfl,hb5⟩
     have S3:=S2.below hb5
     have HM0:=C5 (z8 S2 hn3 hil)
     clear S2 hb5 x0 x1 x2
     cases hh:dK (ah gs) u i
     ·obtain⟨f1,f2,f3,f4⟩:=m7 GD.out hil hu hh
      have HF4:=C5 f4
      clear hh f4
      have hur:=hu.a i hil
      have hrr:(ah gs).rungs i=(ag gs i).length:=rfl
      have hr8i:=(dc (bC HSy.out hil)).2
      have PR:=HP.out.below S3.bl
      obtain⟨b',o',e',hbg',hcg⟩:=PR.G.at_ (by omega)
      obtain⟨rfl,rfl⟩:bg=b'∧og=o':=by simpa using e'
      obtain⟨qi,ci,e0,e1,hRi⟩:=hcg i hil
      have hrai:ag gs i=gs[i].rungs:=by unfold ag;rw[C7 hil]
      rw[←hrai] at e1 hRi
      obtain⟨gn,hgn⟩:∃ b,b=gs[i].name:=⟨_,rfl⟩
      rw[←hgn] at e0
      obtain⟨qa,da,qb,db,_,_,HC⟩:=lk (pf:=some ⟨p2,0,none⟩) (nf:=gs.length) (cf:=c2) (c:=c) PR.G S3.L.a.q HSy.out hu hil
      obtain⟨bk,hbk⟩:∃ bk,Hid ((ah gs).back i (u.a i).toNat=bk):=⟨_,rfl⟩
      have HBK:=C5 (show aE (ag gs i) (aK gs i (u.a i).toNat).back.data.toList=bk from hbk.out)
      rw[hbk.out] at f2 f3
      obtain⟨r,hr⟩:∃ r,r=aK gs i (u.a i).toNat:=⟨_,rfl⟩
      rw[←hr] at HC HBK
      have HC:=C5 HC
      have HRI:=C5 hRi
      have hilI:(i:Int)<(gs.length:Int):=by omega
      have G3:InS w5 w.heap.size (w.heap.size+1) bg (og+i*2) (#[.slice (some ⟨bg,og,none⟩) gs.length c],24) (#[.slice (some ⟨p1,0,none⟩) gs.length c1,.slice (some ⟨p2,0,none⟩) gs.length c2],41) (.string gn) (.slice qi (ag gs i).length ci):=⟨S3.s0,S3.sx,hbg',e0,e1⟩
      have HAX:Hid ((atL gs.length u).set i bk=atL gs.length (u.go i bk)):=pT hn3 hil u bk
      have HFX:Hid ((aG gs.length u).set i 0=aG gs.length (u.go i bk)):=kK hn3 hil u bk
      have hlow:=hur.2
      clear hr hRi hcg e' e0 e1 hrai hgn PR
      go_wp2_with fail
      have hS:=G3.below (below_drewN (Below.refl _ _) 1)
      have M1:=S3.below (below_drewN (Below.refl _ _) 1)
      have hBd:Below w5.heap.size w5 w5.drew:=(Below.refl _ _).drew
      refine wp_mono (au (Q:=aL _) (fun wx:World=>InS wx w.heap.size (w.heap.size+1) bg (og+i*2) (#[.slice (some ⟨bg,og,none⟩) gs.length c],24) (#[.slice (some ⟨p1,0,none⟩) gs.length c1,.slice (some ⟨p2,0,none⟩) gs.length c2],41) (.string gn) (.slice qi (ag gs i).length ci)) (fun i=>i == 14) (by kernel_rfl) ?_) (fun _ _ _ h=>aV h)
      change InS w5.drew _ _ _ _ _ _ _ _ at hS
      change MvR w w5.drew _ _ _ _ _ _ _ _ _ _ at M1
      clear S3 G3
      generalize w5.drew=wd at *
      refine af (i:=1) (v:=?vv5) rfl (by kernel_rfl) (fun _ _ _ h=>h) rfl ?hy5 ?rest5
      case hy5=>(intro wy;go_simp;try with_reducible rfl)
      try simp only[Act.put,C4,C2,C3,CY,C1,CZ]
      refine af (i:=2) (v:=?vv6) rfl (by kernel_rfl) (fun _ _ _ h=>h) rfl ?hy6 ?rest6
      case hy6=>(intro wy;go_simp;try with_reducible rfl)
      try simp only[Act.put,C4,C2,C3,CY,C1,CZ]
      refine af (i:=4) (v:=?vv7) rfl (by kernel_rfl) (fun _ _ _ h=>h) rfl ?hy7 ?rest7
      case hy7=>(intro wy;go_simp;try with_reducible rfl)
      try simp only[Act.put,C4,C2,C3,CY,C1,CZ]
      refine af (i:=9) (v:=?vv8) rfl (by kernel_rfl) (fun _ _ _ h=>h) rfl ?hy8 ?rest8
      case hy8=>(intro wy;go_simp;try with_reducible rfl)
      try simp only[Act.put,C4,C2,C3,CY,C1,CZ]
      refine ak (i:=0) (v:=?vvIa) rfl (by kernel_rfl) (fun _ _ _ h=>h) rfl hS ?hyIa ?restIa
      case hyIa =>
       intro wy hy
       have e0:=aa hy.h0 0
       have e2:=aa hy.h1 0;have e3:=aa hy.h1 1
       have e4:=hy.c0;have e5:=hy.c1
       clear hy
       go_simp
       try with_reducible rfl
      try simp only[Act.put,C4,C2,C3,CY,C1,CZ]
      refine ak (i:=3) (v:=?vvIb) rfl (by kernel_rfl) (fun _ _ _ h=>h) rfl hS ?hyIb ?restIb
      case hyIb =>
       intro wy hy
       have e0:=aa hy.h0 0
       have e2:=aa hy.h1 0;have e3:=aa hy.h1 1
       have e4:=hy.c0;have e5:=hy.c1
       clear hy
       go_simp
       try with_reducible rfl
      try simp only[Act.put,C4,C2,C3,CY,C1,CZ]
      refine af (i:=5) (v:=?vv9) rfl (by kernel_rfl) (fun _ _ _ h=>h) rfl ?hy9 ?rest9
      case hy9=>(intro wy;go_simp;try with_reducible rfl)
      try simp only[Act.put,C4,C2,C3,CY,C1,CZ]
      refine ak (i:=6) (v:=?vvIc) rfl (by kernel_rfl) (fun _ _ _ h=>h) rfl hS ?hyIc ?restIc
      case hyIc =>
       intro wy hy
       have e0:=aa hy.h0 0
       have e2:=aa hy.h1 0;have e3:=aa hy.h1 1
       have e4:=hy.c0;have e5:=hy.c1
       clear hy
       go_simp
       try with_reducible rfl
      try simp only[Act.put,C4,C2,C3,CY,C1,CZ]
      refine ak (i:=7) (v:=?vvId) rfl (by kernel_rfl) (fun _ _ _ h=>h) rfl hS ?hyId ?restId
      case hyId =>
       intro wy hy
       have e0:=aa hy.h0 0
       have e2:=aa hy.h1 0;have e3:=aa hy.h1 1
       have e4:=hy.c0;have e5:=hy.c1
       clear hy
       go_simp
       try with_reducible rfl
      try simp only[Act.put,C4,C2,C3,CY,C1,CZ]
      refine ak (i:=8) (v:=?vvIe) rfl (by kernel_rfl) (fun _ _ _ h=>h) rfl hS ?hyIe ?restIe
      case hyIe =>
       intro wy hy
       have e0:=aa hy.h0 0
       have e2:=aa hy.h1 0;have e3:=aa hy.h1 1
       have e4:=hy.c0;have e5:=hy.c1
       clear hy
       go_simp
       try with_reducible rfl
      try simp only[Act.put,C4,C2,C3,CY,C1,CZ]
      clear hS
      refine am (i:=10) rfl (by kernel_rfl) rfl (fun K hK=>?_)
      go_simp
      refine (HC.out wd hBd).mono ?_
      rintro e w6 ⟨rfl,hb6⟩
      have M6:=M1.below hb6
      have hB6:=hBd.trans (hb6.mono hBd.size)
      have hfd:=fun wx:World=>vY wx r.name r.next r.back r.tries r.minutes qa r.needs.length da qb r.loops.length db
      refine hK _ _ (fun _ h=>h.below hb6) ?_
      clear hK K M1 hb6 hBd
      try simp only[Act.put,C4,C2,C3,CY,C1,CZ]
      refine af (i:=11) (v:=?vv10) rfl (by kernel_rfl) (fun _ _ _ h=>h) rfl ?hy10 ?rest10
      case hy10=>(intro wy;go_simp;try with_reducible rfl)
      try simp only[Act.put,C4,C2,C3,CY,C1,CZ]
      clear hfd
      refine am (i:=12) rfl (by kernel_rfl) rfl (fun K hK=>?_)
      go_simp
      refine (fG gn qi ci (ag gs i) _ w6 (HRI.out.below hB6) (by omega)).mono ?_
      rintro e w7 ⟨rfl,hb7⟩
      have M7:=M6.below hb7
      refine hK _ _ (fun _ h=>h.below hb7) ?_
      clear hK K M6 hb7 hB6
      rw[HBK.out]
      try simp only[Act.put,C4,C2,C3,CY,C1,CZ]
      refine am (i:=13) rfl (by kernel_rfl) rfl (fun K hK=>?_)
      go_simp
      refine (kP _ _ _ _ _ _ (atL gs.length u) (aG gs.length u) i _ w7 M7.L.a.q M7.L.f.q (fun h=>by cases h) (fun h=>by cases h) (by rw[HLA.out];omega) (by rw[HLF.out];omega) (by rw[HLA.out];omega) (by rw[HLF.out];omega)).mono ?_
      rintro e w8 ⟨u1,u2,rfl,hL,hb8⟩
      have M8:=M7.below hb8
      have hzz:=M7.sz
      rw[HAX.out,HFX.out] at hL
      obtain⟨p5,c5,rfl,hge5,_⟩:=hL.a.some (by rw[HLA.out];omega)
      obtain⟨p6,c6,rfl,hge6,_⟩:=hL.f.some (by rw[HLF.out];omega)
      rw[HLA.out] at hL ⊢
      rw[HLF.out] at hL ⊢
      refine hK _ _ (fun _ h=>h.below hb8) ?_
      clear hK K M7 hb8
      try simp only[Act.put,C4,C2,C3,CY,C1,CZ]
      have hL2:=hL.base hzz
      have c0:=aa M8.sx 0
      have c1':=aa M8.sx 1
      have f0:=frozen_of_row w8 (w.heap.size+1) 0 _ _ M8.sx
      have f1':=frozen_of_row w8 (w.heap.size+1) 1 _ _ M8.sx
      have MZ:=M8.put hL2
      clear M8 hL hL2
      refine am (i:=14) rfl (by kernel_rfl) rfl (fun K hK=>?_)
      go_simp
      change K _ (bB w8 (w.heap.size+1) (.slice (some ⟨p5,0,none⟩) gs.length c5) (.slice (some ⟨p6,0,none⟩) gs.length c6))
      refine hK _ _ (fun h=>by cases h) ?_
      clear hK K c0 c1' f0 f1'
      try simp only[Act.put,C4,C2,C3,CY,C1,CZ]
      refine aA (by kernel_rfl) ?_ _
      simp only[aL]
      generalize bB w8 (w.heap.size+1) (.slice (some ⟨p5,0,none⟩) gs.length c5) (.slice (some ⟨p6,0,none⟩) gs.length c6)=w9 at *
      have HM1:=C5 (z8 MZ hn3 hil)
      go_wp2
      go_roundw
      case rel=>exact⟨u.go i bk,p5,c5,p6,c6,hu.go GD.out hil f2 (by omega),MZ,by unfold Hid;rw[hfu.out,HF4.out,hbk.out]⟩
      case measure=>rw[HM1.out,HM0.out,St.a_go _ (by omega) (by omega),if_pos rfl];omega
     ·have HH:=C5 hh
      clear hh
      go_wp2
      go_roundw
      case rel=>exact⟨i+1,u,p1,c1,p2,c2,by go_num,by omega,hu,S3,by unfold Hid;rw[hx2.out,m9 _ hil,hfu.out,mZ HH.out]⟩
      case measure=>simp[intOf];omega
   ·obtain rfl:i=gs.length:=by omega
    have HZ:Hid (cE (ah gs) y ⟨g,kd⟩=z):=by unfold Hid;rw[hx2.out,Fj];rfl
    clear hil hi hx2
    have x1:=aa S.sx 0
    have x2:=aa S.sx 1
    have c0:=aa S.sr 0
    have c1':=aa S.sr 1
    have f0:=frozen_of_row wr (w.heap.size+1+1+1) 0 _ _ S.sr
    have f1:=frozen_of_row wr (w.heap.size+1+1+1) 1 _ _ S.sr
    have hP:dR wr (bB wr (w.heap.size+1+1+1) (.slice (some ⟨p3,0,none⟩) gs.length c3) (.slice (some ⟨p4,0,none⟩) gs.length c4)) (w.heap.size+1+1+1) _ #[.slice (some ⟨p3,0,none⟩) gs.length c3,.slice (some ⟨p4,0,none⟩) gs.length c4]:=aO S.sr
    have HL:=C5 (S.L.put (u1:=.slice (some ⟨p3,0,none⟩) gs.length c3) (u2:=.slice (some ⟨p4,0,none⟩) gs.length c4) S.sr (by decide))
    have hB:=S.bl.trans (hP.below w.heap.size (by omega))
    clear S
    go_wp2_with fail
    (try simp only[Exit.inBlock,Exit.then])
    refine bodyPost_ret (results_cell_row rfl _ _ (w.heap.size+1+1+1) _ _ (0,0) _ rfl hP.row Tryz.underlying41 rfl (by kernel_rfl)) rfl ?_
    exact⟨p3,c3,p4,c4,rfl,by rw[HZ.out];exact HL.out.base (by omega),hB⟩
end Go.Proofs.YtnkgbocdpngldaaGreatDoor
