/- Lemmas of this claim. -/
import Derived.Test.YtnkgbocdpngldaaGreatDoorXSta3
import Derived.Test.YtnkgbocdpngldaaGreatDoorXHel1
set_option linter.all false
set_option maxRecDepth 100000
set_option maxHeartbeats 8000000
namespace Go.Proofs.YtnkgbocdpngldaaGreatDoor
open Go.RowKit Dc Dg
theorem vW (w:World) (a b d:ByteArray) (t m:Int) (q1:Option Addr) (n1 c1:Nat) (q2:Option Addr) (n2 c2:Nat):(Instr.field 59 (.agg #[.string a,.string b,.string d,.int .i64 t,.int .i64 m,.slice q1 n1 c1,.slice q2 n2 c2]) 0).run Tryz.prog w=.ok (.string a) w:=by kernel_rfl
theorem vX (w:World) (a b d:ByteArray) (t m:Int) (q1:Option Addr) (n1 c1:Nat) (q2:Option Addr) (n2 c2:Nat):(Instr.field 59 (.agg #[.string a,.string b,.string d,.int .i64 t,.int .i64 m,.slice q1 n1 c1,.slice q2 n2 c2]) 1).run Tryz.prog w=.ok (.string b) w:=by kernel_rfl
theorem vY (w:World) (a b d:ByteArray) (t m:Int) (q1:Option Addr) (n1 c1:Nat) (q2:Option Addr) (n2 c2:Nat):(Instr.field 59 (.agg #[.string a,.string b,.string d,.int .i64 t,.int .i64 m,.slice q1 n1 c1,.slice q2 n2 c2]) 2).run Tryz.prog w=.ok (.string d) w:=by kernel_rfl
theorem vZ (w:World) (a b d:ByteArray) (t m:Int) (q1:Option Addr) (n1 c1:Nat) (q2:Option Addr) (n2 c2:Nat):(Instr.field 59 (.agg #[.string a,.string b,.string d,.int .i64 t,.int .i64 m,.slice q1 n1 c1,.slice q2 n2 c2]) 3).run Tryz.prog w=.ok (.int .i64 t) w:=by kernel_rfl
theorem v_ (w:World) (a b d:ByteArray) (t m:Int) (q1:Option Addr) (n1 c1:Nat) (q2:Option Addr) (n2 c2:Nat):(Instr.field 59 (.agg #[.string a,.string b,.string d,.int .i64 t,.int .i64 m,.slice q1 n1 c1,.slice q2 n2 c2]) 6).run Tryz.prog w=.ok (.slice q2 n2 c2) w:=by kernel_rfl
def pB (gs:List Gd) (y:St) (n:Nd):Bool:=(gE gs n).2.contains (y.a (gE gs n).1)
theorem yH (gs:List Gd) (y:St) (g:Nat):dK (ah gs) y g=(aK gs g (y.a g).toNat).needs.all (pB gs y):=by
 show ((aK gs g (y.a g).toNat).needs.map (gE gs)).all _=_
 rw[List.all_map]
 rfl
theorem ud {gs:List Gd} (hS:aX gs=true) {g k:Nat} (hg:g<gs.length) (hk:k<(ag gs g).length):aE (ag gs g) (aK gs g k).name.data.toList=(k:Int):=by
 have h:=dT (bC hS hg) hk
 unfold bN cS at h
 simp only[Da,decide_eq_true_eq] at h
 exact h.1.1.1.1.1.2
theorem wM {gs:List Gd}{y:St}{g k:Nat} (hS:aX gs=true) (hy:(ah gs).At y) (hg:g<gs.length) (hk:k<(aK gs g (y.a g).toNat).needs.length) :
  ∃ q:Nat,(aK gs g (y.a g).toNat).needs[k].guard=(q:Int)∧q<gs.length∧(aK gs g (y.a g).toNat).needs[k].rungs.length≤8∧decide (dt (aK gs g (y.a g).toNat).needs[k].rungs (aK gs q (y.a q).toNat).name.data.toList 0<0)=!pB gs y (aK gs g (y.a g).toNat).needs[k]:=by
 have ha:=hy.a g hg
 have hM:(ah gs).rungs g=(ag gs g).length:=rfl
 obtain⟨_,hf⟩:=kT hS hg (show (y.a g).toNat<(ag gs g).length by omega)
 obtain⟨f1,f2,f3⟩:=hf k hk
 obtain⟨q,hq⟩:∃ q:Nat,(aK gs g (y.a g).toNat).needs[k].guard=(q:Int):=⟨(aK gs g (y.a g).toNat).needs[k].guard.toNat,by omega⟩
 have hqg:q<gs.length:=by omega
 have haq:=hy.a q hqg
 have hMq:(ah gs).rungs q=(ag gs q).length:=rfl
 refine⟨q,hq,hqg,f3,?_⟩
 rw[k9]
 congr 1
 obtain⟨j,hj⟩:∃ j:Nat,y.a q=(j:Int):=⟨(y.a q).toNat,by omega⟩
 have hself:=ud hS hqg (show j<(ag gs q).length by omega)
 unfold pB gE
 simp only[hq,Dr,hj]
 rw[D6,Fp,List.contains_iff_mem,DO]
 constructor
 ·rintro⟨s,hs,he⟩
  have he:=of_decide_eq_true he
  exact⟨s,hs,by rw[he,hself]⟩
 ·rintro⟨s,hs,he⟩
  obtain⟨h3,h4⟩:=nT he
  exact⟨s,hs,decide_eq_true (by rw[kW h3,h4])⟩
theorem Ad {α:Type}{l:List α}{f:α→Bool}{i:Nat} (hi:i<l.length) (h:(l.take i).all f=true) (h2:f l[i]=true):(l.take (i+1)).all f=true:=by
 rw[DH,C7 hi,Es,h]
 simpa using h2
theorem AE {α:Type}{l:List α}{f:α→Bool}{i:Nat} (hi:i<l.length) (h2:f l[i]=false):l.all f=false:=by
 rw[Ee]
 exact⟨l[i],Dt hi,by rw[h2];exact Dl⟩
structure SB (w0 w:World) (k0:Nat) (gs:List Gd) (p:Option Addr) (c:Nat) (pa:Option Addr) (na ca:Nat) (pf:Option Addr) (nf cf:Nat) (al fl:List Int):Prop where
 s0:w.heap[k0]?=some (.cells #[.slice p gs.length c] 24 (0,0))
 s1:w.heap[k0+1]?=some (.cells #[.slice pa na ca,.slice pf nf cf] 41 (0,0))
 P:d8 w p c gs
 ia:aN w (.slice pa na ca) al
 jf:aN w (.slice pf nf cf) fl
 bl:Below w0.heap.size w0 w
theorem SB.below {w0 w w':World}{k0:Nat}{gs:List Gd}{p:Option Addr}{c:Nat}{pa:Option Addr}{na ca:Nat}{pf:Option Addr}{nf cf:Nat}{al fl:List Int} (h:SB w0 w k0 gs p c pa na ca pf nf cf al fl) (hb:Below w.heap.size w w'):SB w0 w' k0 gs p c pa na ca pf nf cf al fl :=
 ⟨(hb.block _ (ae h.s0)).trans h.s0,(hb.block _ (ae h.s1)).trans h.s1,h.P.below hb,h.ia.below hb,h.jf.below hb,h.bl.trans (hb.mono h.bl.size)⟩
theorem SB.new {w:World}{gs:List Gd}{p:Option Addr}{c:Nat}{pa:Option Addr}{na ca:Nat}{pf:Option Addr}{nf cf:Nat}{al fl:List Int} (hP:d8 w p c gs) (hA:aN w (.slice pa na ca) al) (hF:aN w (.slice pf nf cf) fl) :
  SB w ((w.alloc (.cells #[.slice p gs.length c] 24)).alloc (.cells #[.slice pa na ca,.slice pf nf cf] 41)) w.heap.size gs p c pa na ca pf nf cf al fl:=by
 have h:=fS w (.cells #[.slice p gs.length c] 24) (.cells #[.slice pa na ca,.slice pf nf cf] 41)
 exact⟨h.s0,h.s1,hP.below h.below,hA.below h.below,hF.below h.below,h.below⟩
theorem SB.c0 {w0 w:World}{k0:Nat}{gs:List Gd}{p:Option Addr}{c:Nat}{pa:Option Addr}{na ca:Nat}{pf:Option Addr}{nf cf:Nat}{al fl:List Int} (h:SB w0 w k0 gs p c pa na ca pf nf cf al fl):w.cell? ⟨k0,0,none⟩=some (.slice p gs.length c):=aa h.s0 0
theorem SB.c1 {w0 w:World}{k0:Nat}{gs:List Gd}{p:Option Addr}{c:Nat}{pa:Option Addr}{na ca:Nat}{pf:Option Addr}{nf cf:Nat}{al fl:List Int} (h:SB w0 w k0 gs p c pa na ca pf nf cf al fl):w.cell? ⟨k0+1,0,none⟩=some (.slice pa na ca):=aa h.s1 0
theorem SB.c2 {w0 w:World}{k0:Nat}{gs:List Gd}{p:Option Addr}{c:Nat}{pa:Option Addr}{na ca:Nat}{pf:Option Addr}{nf cf:Nat}{al fl:List Int} (h:SB w0 w k0 gs p c pa na ca pf nf cf al fl):w.cell? ⟨k0+1,1,none⟩=some (.slice pf nf cf):=aa h.s1 1
structure SBr (w0 w:World) (k0:Nat) (gs:List Gd) (p:Option Addr) (c:Nat) (pa:Option Addr) (na ca:Nat) (pf:Option Addr) (nf cf:Nat) (al fl:List Int) (kr:Nat) (r:Rg) (q1:Option Addr) (c1:Nat) (q2:Option Addr) (c2:Nat):Prop where
 B:SB w0 w k0 gs p c pa na ca pf nf cf al fl
 rr:w.heap[kr]?=some (.cells #[.string r.name,.string r.next,.string r.back,.int .i64 r.tries,.int .i64 r.minutes,.slice q1 r.needs.length c1,.slice q2 r.loops.length c2] 59 (0,0))
 N:fb w q1 r.needs
theorem SBr.below {w0 w w':World}{k0:Nat}{gs:List Gd}{p:Option Addr}{c:Nat}{pa:Option Addr}{na ca:Nat}{pf:Option Addr}{nf cf:Nat}{al fl:List Int}{kr:Nat}{r:Rg}{q1:Option Addr}{c1:Nat}{q2:Option Addr}{c2:Nat} (h:SBr w0 w k0 gs p c pa na ca pf nf cf al fl kr r q1 c1 q2 c2) (hb:Below w.heap.size w w'):SBr w0 w' k0 gs p c pa na ca pf nf cf al fl kr r q1 c1 q2 c2 :=
 ⟨h.B.below hb,(hb.block _ (ae h.rr)).trans h.rr,h.N.below hb⟩
theorem rI (gs:List Gd) (p:Option Addr) (c:Nat) (pa:Option Addr) (na ca:Nat) (pf:Option Addr) (nf cf:Nat) (y:St) (fl:List Int) (g:Nat) (w:World) (hP:d8 w p c gs) (hA:aN w (.slice pa na ca) (atL gs.length y)) (hF:aN w (.slice pf nf cf) fl) (hS:aX gs=true) (hy:(ah gs).At y) (hg:g<gs.length) :
  Calls Tryz.prog 96 #[.agg #[.slice p gs.length c],.agg #[.slice pa na ca,.slice pf nf cf],.int .i64 g] w fun e w'=>e=.returned (.bool (dK (ah gs) y g))∧Below w.heap.size w w':=by
 have S0:=SB.new hP hA hF
 obtain⟨q1,c1,q2,c2,hN,_,HC⟩:=lk (pf:=pf) (nf:=nf) (cf:=cf) (c:=c) S0.P.G S0.ia hS hy hg
 have HA:=C5 (yH gs y g)
 have HW:=C5 (fun k hk=>wM (k:=k) hS hy hg hk)
 have HC:=C5 HC
 have HSy:=C5 (And.intro hS hy)
 obtain⟨n3,_⟩:=kT hS hg (show (y.a g).toNat<(ag gs g).length by have h1:=hy.a g hg;have h2:(ah gs).rungs g=(ag gs g).length:=rfl;omega)
 clear hP hA hF hS hy
 generalize aK gs g (y.a g).toNat=r at *
 go_enter Tryz.func96,Tryz.ntmps96
 go_upto_region 1 with fail
 generalize (w.alloc (.cells #[.slice p gs.length c] 24)).alloc (.cells #[.slice pa na ca,.slice pf nf cf] 41)=w1 at *
 have x0:=S0.c0;have x1:=S0.c1;have x2:=S0.c2
 go_wp2_with fail
 refine (HC.out w1 (Below.refl _ _)).mono ?_
 rintro e w2 ⟨rfl,hb2⟩
 have S2:=S0.below hb2
 have N2:=hN.below hb2
 have l3:=bL w2 (.cells #[.string r.name,.string r.next,.string r.back,.int .i64 r.tries,.int .i64 r.minutes,.slice q1 r.needs.length c1,.slice q2 r.loops.length c2] 59)
 have S3:SBr w (w2.alloc (.cells #[.string r.name,.string r.next,.string r.back,.int .i64 r.tries,.int .i64 r.minutes,.slice q1 r.needs.length c1,.slice q2 r.loops.length c2] 59)) w.heap.size gs p c pa na ca pf nf cf (atL gs.length y) fl w2.heap.size r q1 c1 q2 c2:=⟨S2.below l3.below,l3.s0,N2.below l3.below⟩
 clear S0 S2 hN N2 HC hb2 l3 x0 x1 x2
 go_upto_region 2 with fail
 generalize w2.alloc (.cells #[.string r.name,.string r.next,.string r.back,.int .i64 r.tries,.int .i64 r.minutes,.slice q1 r.needs.length c1,.slice q2 r.loops.length c2] 59)=w3 at *
 generalize w2.heap.size=kr at *
 go_wp2_with fail
 go_loopw [8] (fun s8 wx=>∃ j:Nat,s8=.int .i64 j∧j≤r.needs.length∧SBr w wx w.heap.size gs p c pa na ca pf nf cf (atL gs.length y) fl kr r q1 c1 q2 c2∧Hid ((r.needs.take j).all (pB gs y)=true)) (fun s8 _=>r.needs.length-(intOf s8).toNat)
 case atStart=>exact⟨0,rfl,by omega,S3,rfl⟩
 case round =>
  clear S3
  obtain⟨j,rfl,hj,S3,hx⟩:=hrel
  have r5:wr.cell? ⟨kr,5,none⟩=some (.slice q1 r.needs.length c1):=aa S3.rr 5
  by_cases hjl:j<r.needs.length
  ·obtain⟨nb,no,rfl,hnb,hnc⟩:=S3.N.at_ (by omega)
   obtain⟨qn,cn,m0,m1,hWn⟩:=hnc j hjl
   obtain⟨q,hq,hqg,h8,hwd⟩:=HW.out j hjl
   obtain⟨nd,hnd⟩:∃ nd,nd=r.needs[j]:=⟨_,rfl⟩
   rw[←hnd] at m0 m1 hWn hq h8 hwd
   rw[hq] at m0
   have HND:=C5 hnd
   clear hnd hnc
   have hl4:=bL wr (.cells #[.int .i64 q,.slice qn nd.rungs.length cn] 65)
   have S4:=S3.below hl4.below
   have HW4:=C5 (hWn.below hl4.below)
   have hrA:=hl4.s0
   obtain⟨q1',c1',q2',c2',_,_,HC⟩:=lk (pf:=pf) (nf:=nf) (cf:=cf) (c:=c) S4.B.P.G S4.B.ia HSy.out.1 HSy.out.2 hqg
   go_upto_region 6 with fail
   clear m0 m1 hWn hl4 S3 r5 hq
   generalize wr.alloc (.cells #[.int .i64 q,.slice qn nd.rungs.length cn] 65)=wa at *
   generalize wr.heap.size=gn at *
   have y0:∀ x:ax wa,x.w.cell? ⟨w.heap.size,0,none⟩=some (.slice p gs.length c):=fun x=>(x.cell (ae S4.B.s0)).trans S4.B.c0
   have y1:∀ x:ax wa,x.w.cell? ⟨w.heap.size+1,0,none⟩=some (.slice pa na ca):=fun x=>(x.cell (ae S4.B.s1)).trans S4.B.c1
   have y2:∀ x:ax wa,x.w.cell? ⟨w.heap.size+1,1,none⟩=some (.slice pf nf cf):=fun x=>(x.cell (ae S4.B.s1)).trans S4.B.c2
   have y3:∀ x:ax wa,x.w.cell? ⟨gn,0,none⟩=some (.int .i64 q):=fun x=>(x.cell (ae hrA)).trans (aa hrA 0)
   have y4:∀ x:ax wa,x.w.cell? ⟨gn,1,none⟩=some (.slice qn nd.rungs.length cn):=fun x=>(x.cell (ae hrA)).trans (aa hrA 1)
   generalize aK gs q (y.a q).toNat=rq at *
   have HI:Hid (aQ wa 79 #[.agg #[.slice p gs.length c],.agg #[.slice pa na ca,.slice pf nf cf],.int .i64 q] ((.agg #[.string rq.name,.string rq.next,.string rq.back,.int .i64 rq.tries,.int .i64 rq.minutes,.slice q1' rq.needs.length c1',.slice q2' rq.loops.length c2']))):=fun x=>ax.calls (HC x.w x.h)
   have HM:Hid (aQ wa 30 #[.slice qn nd.rungs.length cn,.string rq.name] ((.int .i64 (dt nd.rungs rq.name.data.toList 0)))):=fun x=>(qp qn cn nd.rungs rq.name x.w (HW4.out.below x.h) (by omega)).mono fun _ _ ⟨h,e⟩=>⟨h,x,e⟩
   obtain⟨z,hz⟩:∃ z,z=dt nd.rungs rq.name.data.toList 0:=⟨_,rfl⟩
   rw[←hz] at HM hwd
   have hfd:=fun wx:World=>vW wx rq.name rq.next rq.back rq.tries rq.minutes q1' rq.needs.length c1' q2' rq.loops.length c2'
   clear hz HC HW4 hrA
   cases hb:pB gs y nd
   ·have hd:decide (z<0)=true:=by rw[hwd,hb];rfl
    have HF:Hid (dK (ah gs) y g=false):=by unfold Hid;rw[HA.out];exact AE hjl (by rw[←HND.out];exact hb)
    clear hb hwd
    refine ai (by kernel_rfl) (by kernel_rfl) ?_
    repeat (go_big_quiet_step ((first | (go_at_call 79;with_reducible exact HI.out _) | (go_at_call 30;with_reducible exact HM.out _))))
    refine wpQuiet_nil ?_
    rintro _ ⟨⟨w5,hbN⟩,rfl⟩
    have S6:=S4.below hbN
    clear HM HI y0 y1 y2 y3 y4 S4 hbN hfd
    go_wp2
    go_ret
    exact⟨by rw[HF.out];rfl,S6.B.bl⟩
   ·have hd:decide (z<0)=false:=by rw[hwd,hb];rfl
    have HF:Hid ((r.needs.take (j+1)).all (pB gs y)=true):=Ad hjl hx.out (by rw[←HND.out];exact hb)
    clear hb hwd
    refine ai (by kernel_rfl) (by kernel_rfl) ?_
    repeat (go_big_quiet_step ((first | (go_at_call 79;with_reducible exact HI.out _) | (go_at_call 30;with_reducible exact HM.out _))))
    refine wpQuiet_nil ?_
    rintro _ ⟨⟨w5,hbN⟩,rfl⟩
    have S6:=S4.below hbN
    clear HM HI y0 y1 y2 y3 y4 S4 hbN hfd
    go_wp2
    go_roundw
    case rel=>exact⟨j+1,by go_num,by omega,S6,HF⟩
    case measure=>simp[intOf];omega
  ·obtain rfl:j=r.needs.length:=by omega
   have HF:Hid (dK (ah gs) y g=true):=by unfold Hid;rw[HA.out];have:=hx.out;rwa [DG] at this
   clear hjl hj hx
   go_wp2
   go_ret
   exact⟨by rw[HF.out];rfl,S3.B.bl⟩
def Cy (gs:List Gd) (al fl:List Int) (b:Bool):Prop:=(b=true∧∃ y,cU gs al fl y)∨(b=false∧∀ z,¬ cU gs al fl z)
def AB (gs:List Gd) (al fl:List Int) (w:World) (e:Ending) (w':World):Prop:=∃ b,e=.returned (.bool b)∧Cy gs al fl b∧Below w.heap.size w w'
theorem yz {gs:List Gd}{al fl:List Int} (hn:gs.length≤3) (hA:al.length=gs.length):al=atL gs.length (aZ al fl gs.length):=by
 refine kn (by rw[kD hn,hA]) (fun j hj=>?_)
 rw[lj hn _ (by omega),ki al fl (by omega) _ hn,if_pos (by omega),C7 hj]
 rfl
theorem wn {gs:List Gd}{al fl:List Int}{i:Nat} (h:rL gs al fl i) {a f:Int} (ha:al[i]?=some a) (hf:fl[i]?=some f) (h1:0≤a∧a<((ah gs).rungs i:Int)) (h2:0≤f∧f<(ah gs).tries i a.toNat):rL gs al fl (i+1):=by
 intro g hg
 by_cases hgi:g=i
 ·subst hgi
  rw[ha,hf]
  exact⟨h1.1,h1.2,h2.1,h2.2⟩
 ·exact h g (by omega)
theorem An {gs:List Gd}{al fl:List Int}{i:Nat} (hn:gs.length≤3) (hi:i<gs.length) {a f:Int} (ha:al[i]?=some a) (hf:fl[i]?=some f) (h:¬ (0≤a∧a<((ah gs).rungs i:Int)∧0≤f∧f<(ah gs).tries i a.toNat)):∀ z,¬ cU gs al fl z:=by
 intro z hz
 have:=hz.up hn i hi
 rw[ha,hf] at this
 exact h this
theorem yI {gs:List Gd}{al fl:List Int}{i:Nat} (hn:gs.length≤3) (hi:i<gs.length) (h:dK (ah gs) (aZ al fl gs.length) i=false):∀ z,¬ cU gs al fl z:=by
 intro z hz
 have:=hz.held i hi
 rw[hz.fill hn,h] at this
 cases this
theorem uQ {l:List Int}{i:Nat} (h:i<l.length):∃ a,l[i]?=some a:=⟨l[i],C7 h⟩
theorem uk (gs:List Gd) (p:Option Addr) (c:Nat) (pa:Option Addr) (na ca:Nat) (pf:Option Addr) (nf cf:Nat) (al fl:List Int) (w:World) (hP:d8 w p c gs) (hA:aN w (.slice pa na ca) al) (hF:aN w (.slice pf nf cf) fl) (hS:aX gs=true) :
  Calls Tryz.prog 75 #[.agg #[.slice p gs.length c],.agg #[.slice pa na ca,.slice pf nf cf]] w (AB gs al fl w):=by
 have S0:=SB.new hP hA hF
 obtain⟨hn1,hn3⟩:=a_ hS
 have HNA:=C5 hA.len
 have HNF:=C5 hF.len
 have HSy:=C5 hS
 clear hP hA hF hS
 go_enter Tryz.func75,Tryz.ntmps75
 go_upto_region 1 with fail
 generalize (w.alloc (.cells #[.slice p gs.length c] 24)).alloc (.cells #[.slice pa na ca,.slice pf nf cf] 41)=w1 at *
 have x0:=S0.c0;have x1:=S0.c1;have x2:=S0.c2
 by_cases hna:na=gs.length
 ·have hd1:((na:Int) != (gs.length:Int))=false:=by simp[hna]
  by_cases hnf:nf=gs.length
  ·have hd2:((nf:Int) != (gs.length:Int))=false:=by simp[hnf]
   have HLA:Hid (al.length=gs.length):=by unfold Hid;rw[←HNA.out,hna]
   have HLF:Hid (fl.length=gs.length):=by unfold Hid;rw[←HNF.out,hnf]
   have HA1:=C5 hna
   have HF1:=C5 hnf
   clear hna hnf
   go_wp2_with fail
   clear x0 x1 x2
   go_loopw [5] (fun s5 wx=>∃ i:Nat,s5=.int .i64 i∧i≤gs.length∧SB w wx w.heap.size gs p c pa na ca pf nf cf al fl∧Hid (rL gs al fl i)) (fun s5 _=>gs.length-(intOf s5).toNat)
   case atStart=>exact⟨0,rfl,by omega,S0,fun g hg=>by omega⟩
   case round =>
    clear S0
    obtain⟨i,rfl,hi,S4,hx⟩:=hrel
    by_cases hil:i<gs.length
    ·obtain⟨a,ha⟩:=uQ (l:=al) (i:=i) (by rw[HLA.out];exact hil)
     obtain⟨f,hf⟩:=uQ (l:=fl) (i:=i) (by rw[HLF.out];exact hil)
     obtain⟨ba,oa,rfl,-,hai,hba,hca⟩:=S4.ia.at? ha
     obtain⟨bf,of,rfl,-,hfi,hbf,hcf⟩:=S4.jf.at? hf
     obtain⟨bg,og,rfl,hbg,hcg⟩:=S4.P.G.at_ (by omega)
     obtain⟨q,cq,e0,e1,hR⟩:=hcg i hil
     have hra:ag gs i=gs[i].rungs:=by unfold ag;rw[C7 hil]
     have hr8:=(dc (bC HSy.out hil)).2
     rw[←hra] at e1
     have hM:(ah gs).rungs i=(ag gs i).length:=rfl
     have x0:=S4.c0;have x1:=S4.c1
     have y0:∀ x:ax wr,x.w.cell? ⟨w.heap.size,0,none⟩=some (.slice (some ⟨bg,og,none⟩) gs.length c):=fun x=>(x.cell (ae S4.s0)).trans S4.c0
     have y1:∀ x:ax wr,x.w.cell? ⟨w.heap.size+1,0,none⟩=some (.slice (some ⟨ba,oa,none⟩) na ca):=fun x=>(x.cell (ae S4.s1)).trans S4.c1
     have y2:∀ x:ax wr,x.w.cell? ⟨w.heap.size+1,1,none⟩=some (.slice (some ⟨bf,of,none⟩) nf cf):=fun x=>(x.cell (ae S4.s1)).trans S4.c2
     have y3:=ay hba hca
     have y4:=ay hbf hcf
     have y5:=ay hbg e1
     have hiI:(i:Int)<(gs.length:Int):=by omega
     have haI:(i:Int)<(na:Int):=by omega
     have hfI:(i:Int)<(nf:Int):=by omega
     have HI:Hid (aQ wr 33 #[.int .i64 a,.int .i64 0,.int .i64 (((ag gs i).length:Int)-1)] ((.bool (decide (0≤a)&&decide (a≤((ag gs i).length:Int)-1))))):=fun x=>ax.calls (kQ _ _ _ x.w)
     by_cases hin:0≤a∧a≤((ag gs i).length:Int)-1
     ·have hbi:(decide (0≤a)&&decide (a≤((ag gs i).length:Int)-1))=true:=by simp;omega
      rw[hbi] at HI
      obtain⟨k,hk⟩:∃ k:Nat,a=(k:Int):=⟨a.toNat,by omega⟩
      rw[hk] at ha
      obtain⟨q1,c1,q2,c2,_,_,HC⟩:=xT (pf:=some ⟨bf,of,none⟩) (nf:=nf) (cf:=cf) (c:=c) S4.P.G S4.ia hil ha (show k<(ag gs i).length by omega)
      have htr:1≤(aK gs i k).tries∧(aK gs i k).tries≤4:=(bD HSy.out).tries i k hil (show k<(ag gs i).length by omega)
      have HKT:Hid ((ah gs).tries i a.toNat=(aK gs i k).tries):=by unfold Hid;rw[hk,Dr];rfl
      generalize aK gs i k=r at *
      have HM:Hid (aQ wr 79 #[.agg #[.slice (some ⟨bg,og,none⟩) gs.length c],.agg #[.slice (some ⟨ba,oa,none⟩) na ca,.slice (some ⟨bf,of,none⟩) nf cf],.int .i64 i] ((.agg #[.string r.name,.string r.next,.string r.back,.int .i64 r.tries,.int .i64 r.minutes,.slice q1 r.needs.length c1,.slice q2 r.loops.length c2]))):=fun x=>ax.calls (HC x.w x.h)
      have HJ:Hid (aQ wr 33 #[.int .i64 f,.int .i64 0,.int .i64 (r.tries-1)] ((.bool (decide (0≤f)&&decide (f≤r.tries-1))))):=fun x=>ax.calls (kQ _ _ _ x.w)
      have hfd:=fun wx:World=>vZ wx r.name r.next r.back r.tries r.minutes q1 r.needs.length c1 q2 r.loops.length c2
      rw[←hk] at ha
      have HAF:=C5 (And.intro ha hf)
      have HIN:=C5 hin
      clear ha hf hk hin hbi HC hra hM hcg e0 e1 hR hca hcf
      by_cases hfn:0≤f∧f≤r.tries-1
      ·have hbf2:(decide (0≤f)&&decide (f≤r.tries-1))=true:=by simp;omega
       rw[hbf2] at HJ
       have HUP:Hid (rL gs al fl (i+1)):=wn hx.out HAF.out.1 HAF.out.2 (by have:=HIN.out;exact⟨this.1,by show a<((ag gs i).length:Int);omega⟩) (by rw[HKT.out];omega)
       clear hbf2 hfn
       go_wp2_with fail
       clear x0 x1
       refine ai (by kernel_rfl) (by kernel_rfl) ?_
       repeat (go_big_quiet_step ((first | (go_at_call 79;with_reducible exact HM.out _) | (go_at_call 33;with_reducible exact HI.out _) | (go_at_call 33;with_reducible exact HJ.out _))))
       refine wpQuiet_nil ?_
       rintro _ ⟨⟨w5,hbN⟩,rfl⟩
       have S6:=S4.below hbN
       clear HM HI HJ y0 y1 y2 y3 y4 y5 S4 hbN hfd
       go_wp2
       go_roundw
       case rel=>exact⟨i+1,by go_num,by omega,S6,HUP⟩
       case measure=>simp[intOf];omega
      ·have hbf2:(decide (0≤f)&&decide (f≤r.tries-1))=false:=by rw[DU];intro h;simp at h;omega
       rw[hbf2] at HJ
       have HNO:Hid (∀ z,¬ cU gs al fl z):=An hn3 hil HAF.out.1 HAF.out.2 (fun h=>by rw[HKT.out] at h;omega)
       clear hbf2 hfn
       go_wp2_with fail
       clear x0 x1
       refine ai (by kernel_rfl) (by kernel_rfl) ?_
       repeat (go_big_quiet_step ((first | (go_at_call 79;with_reducible exact HM.out _) | (go_at_call 33;with_reducible exact HI.out _) | (go_at_call 33;with_reducible exact HJ.out _))))
       refine wpQuiet_nil ?_
       rintro _ ⟨⟨w5,hbN⟩,rfl⟩
       have S6:=S4.below hbN
       clear HM HI HJ y0 y1 y2 y3 y4 y5 S4 hbN hfd
       go_wp2
       go_ret
       exact⟨false,rfl,Or.inr ⟨rfl,HNO.out⟩,S6.bl⟩
     ·have hbi:(decide (0≤a)&&decide (a≤((ag gs i).length:Int)-1))=false:=by rw[DU];intro h;simp at h;omega
      rw[hbi] at HI
      have HNO:Hid (∀ z,¬ cU gs al fl z):=An hn3 hil ha hf (fun h=>hin ⟨h.1,by have:=h.2.1;rw[hM] at this;omega⟩)
      have HM:=HI
      have HJ:=HI
      clear hbi hin hM hra ha hf hcg e0 e1 hR hca hcf
      go_wp2_with fail
      clear x0 x1
      refine ai (by kernel_rfl) (by kernel_rfl) ?_
      repeat (go_big_quiet_step ((first | (go_at_call 79;with_reducible exact HM.out _) | (go_at_call 33;with_reducible exact HI.out _) | (go_at_call 33;with_reducible exact HJ.out _))))
      refine wpQuiet_nil ?_
      rintro _ ⟨⟨w5,hbN⟩,rfl⟩
      have S6:=S4.below hbN
      clear HM HI HJ y0 y1 y2 y3 y4 y5 S4 hbN
      go_wp2
      go_ret
      exact⟨false,rfl,Or.inr ⟨rfl,HNO.out⟩,S6.bl⟩
    ·obtain rfl:i=gs.length:=by omega
     have HUP:=C5 hx.out
     have HAT:=C5 (qo hn3 hx.out)
     have HAL:=C5 (yz (fl:=fl) hn3 HLA.out)
     have x0:=S4.c0;have x1:=S4.c1;have x2:=S4.c2
     clear hil hi hx
     go_wp2_with fail
     clear x0 x1 x2
     go_loopw [6] (fun s6 wx=>∃ i:Nat,s6=.int .i64 i∧i≤gs.length∧SB w wx w.heap.size gs p c pa na ca pf nf cf al fl∧Hid (∀ g,g<i→dK (ah gs) (aZ al fl gs.length) g=true)) (fun s6 _=>gs.length-(intOf s6).toNat)
     case atStart=>exact⟨0,rfl,by omega,S4,fun g hg=>by omega⟩
     case round =>
      clear S4
      obtain⟨i,rfl,hi,S4,hx⟩:=hrel
      have x0:=S4.c0;have x1:=S4.c1;have x2:=S4.c2
      by_cases hil:i<gs.length
      ·have hA2:=S4.ia
       rw[HAL.out] at hA2
       go_wp2_with fail
       refine (rI gs p c pa na ca pf nf cf (aZ al fl gs.length) fl i _ S4.P hA2 S4.jf HSy.out HAT.out hil).mono ?_
       rintro e w4 ⟨rfl,hb4⟩
       have S6:=S4.below hb4
       clear S4 hb4 x0 x1 x2 hA2
       obtain⟨bb,hbb⟩:∃ b,b=dK (ah gs) (aZ al fl gs.length) i:=⟨_,rfl⟩
       rw[←hbb]
       have HBB:=C5 hbb
       clear hbb
       cases bb
       ·have HNO:Hid (∀ z,¬ cU gs al fl z):=yI hn3 hil HBB.out.symm
        go_wp2
        go_ret
        exact⟨false,rfl,Or.inr ⟨rfl,HNO.out⟩,S6.bl⟩
       ·have HST:Hid (∀ g,g<i+1→dK (ah gs) (aZ al fl gs.length) g=true):=by
         intro g hg
         by_cases hgi:g=i
         ·subst hgi;exact HBB.out.symm
         ·exact hx.out g (by omega)
        go_wp2
        go_roundw
        case rel=>exact⟨i+1,by go_num,by omega,S6,HST⟩
        case measure=>simp[intOf];omega
      ·obtain rfl:i=gs.length:=by omega
       have HOK:Hid (cU gs al fl (aZ al fl gs.length)):=uL hn3 HLA.out HLF.out HUP.out (fun g hg=>hx.out g hg)
       clear hil hi hx
       go_wp2
       go_ret
       exact⟨true,rfl,Or.inl ⟨rfl,_,HOK.out⟩,S4.bl⟩
  ·have hd2:((nf:Int) != (gs.length:Int))=true:=by simp;omega
   have HNO:Hid (∀ z,¬ cU gs al fl z):=fun z hz=>hnf (by rw[HNF.out];exact (hz.lens hn3).2)
   have S6:=S0
   clear hna hnf S0
   go_wp2
   go_ret
   exact⟨false,rfl,Or.inr ⟨rfl,HNO.out⟩,S6.bl⟩
 ·have hd1:((na:Int) != (gs.length:Int))=true:=by simp;omega
  have HNO:Hid (∀ z,¬ cU gs al fl z):=fun z hz=>hna (by rw[HNA.out];exact (hz.lens hn3).1)
  have S6:=S0
  clear hna S0
  go_wp2
  go_ret
  exact⟨false,rfl,Or.inr ⟨rfl,HNO.out⟩,S6.bl⟩
theorem dP (gs:List Gd) (p:Option Addr) (c:Nat) (pa:Option Addr) (na ca:Nat) (pf:Option Addr) (nf cf:Nat) (al fl:List Int) (w:World) (hP:d8 w p c gs) (hA:aN w (.slice pa na ca) al) (hF:aN w (.slice pf nf cf) fl) :
  Calls Tryz.prog 35 #[.agg #[.slice p gs.length c],.agg #[.slice pa na ca,.slice pf nf cf]] w (BG gs al fl w):=by
 have S0:=SB.new hP hA hF
 clear hP hA hF
 go_enter Tryz.func35,Tryz.ntmps35
 go_upto_region 1 with fail
 generalize (w.alloc (.cells #[.slice p gs.length c] 24)).alloc (.cells #[.slice pa na ca,.slice pf nf cf] 41)=w1 at *
 have x0:=S0.c0
 go_wp2_with fail
 refine (ls gs p c w1 S0.P.G S0.P.X S0.P.F).mono ?_
 rintro e w2 ⟨rfl,hb2⟩
 have S2:=S0.below hb2
 clear S0 hb2 x0
 obtain⟨bs,hbs⟩:∃ b,b=aX gs:=⟨_,rfl⟩
 rw[←hbs]
 have HBS:=C5 hbs
 clear hbs
 cases bs
 ·rw[if_neg Dl]
  go_wp2
  go_ret
  exact⟨40,rfl,Or.inl ⟨by decide,Or.inl ⟨HBS.out.symm,rfl⟩⟩,S2.bl⟩
 ·rw[if_pos rfl]
  have x0:=S2.c0;have x1:=S2.c1;have x2:=S2.c2
  go_wp2_with fail
  refine (uk gs p c pa na ca pf nf cf al fl w2 S2.P S2.ia S2.jf HBS.out.symm).mono ?_
  rintro e w3 ⟨b,rfl,hb,hb3⟩
  have S3:=S2.below hb3
  have HB:=C5 hb
  clear S2 hb hb3 x0 x1 x2
  cases b
  ·go_wp2
   go_ret
   refine⟨41,rfl,Or.inl ⟨by decide,Or.inr ⟨HBS.out.symm,rfl,?_⟩⟩,S3.bl⟩
   rcases HB.out with ⟨h,_⟩ | ⟨_,h⟩
   ·cases h
   ·exact h
  ·go_wp2
   go_ret
   refine⟨0,rfl,Or.inr ⟨rfl,HBS.out.symm,?_⟩,S3.bl⟩
   rcases HB.out with ⟨_,h⟩ | ⟨h,_⟩
   ·exact h
   ·cases h
end Go.Proofs.YtnkgbocdpngldaaGreatDoor
