/- Lemmas of this claim. -/
import Derived.Test.YtlkniohhalnjjaaGreatDoorKArm
import Derived.Test.YtlkniohhalnjjaaGreatDoorKHel1
import Derived.Test.YtlkniohhalnjjaaGreatDoorKGoa2
set_option linter.all false
set_option maxRecDepth 100000
set_option maxHeartbeats 8000000
namespace Go.Proofs.YtlkniohhalnjjaaGreatDoor
open Go.RowKit Dc Dg
theorem jv {w:World}{b:Nat}{o:Obj} (h:w.heap[b]?=some o):b<w.heap.size:=(uw.1 h).1
theorem aB {w:World}{b:Nat}{cs:Array Value}{t:TypeId} (h:w.heap[b]?=some (.cells cs t (0,0))) (j:Nat):w.cell? ⟨b,j,none⟩=cs[j]?:=by rw[World.cell?,h];rfl
structure tM (w w':World) (o0:Obj):Prop where
 s0:w'.heap[w.heap.size]?=some o0
 size:w'.heap.size=w.heap.size+1
 below:Below w.heap.size w w'
theorem iy (w:World) (o0:Obj):tM w (w.alloc o0) o0:=⟨heap_alloc_new _ _,by simp,(Below.refl _ _).alloc (uo _) _⟩
structure tN (w w':World) (o0 o1:Obj):Prop where
 s0:w'.heap[w.heap.size]?=some o0
 s1:w'.heap[w.heap.size+1]?=some o1
 size:w'.heap.size=w.heap.size+1+1
 below:Below w.heap.size w w'
theorem sS (w:World) (o0 o1:Obj):tN w ((w.alloc o0).alloc o1) o0 o1:=by
 refine⟨(heap_alloc_old _ _ (by simp)).trans (heap_alloc_new _ _),?_,by simp,((Below.refl _ _).alloc (uo _) _).alloc (by simp) _⟩
 have:=heap_alloc_new (w.alloc o0) o1
 simpa using this
def fc (M:ar):St→List Ev→Int
 | _,[]=>0
 | x,v :: l=>M.mins v.g.toNat (x.a v.g.toNat).toNat+fc M (bB M x v) l
theorem km (M:ar):∀ (l:List Ev) (x:St) (v:Ev),fc M x (l++[v])=fc M x l+M.mins v.g.toNat ((gt M x l).a v.g.toNat).toNat
 | [],x,v=>by simp[fc,gt]
 | u :: l,x,v=>by
  show M.mins _ _+fc M (bB M x u) (l++[v])=M.mins _ _+fc M (bB M x u) l+_
  rw[km M l,Int.add_assoc]
  rfl
theorem iN.getE {w:World}{p:Option Addr}{n c:Nat}{l:List Ev} (h:iN w (.slice p n c) l) {i:Nat} (hi:i<l.length):∃ b o,p=some ⟨b,o,none⟩∧b<w.heap.size∧w.cell? ⟨b,o+i*2,none⟩=some (.int .i64 l[i].g)∧w.cell? ⟨b,o+i*2+1,none⟩=some (.int .i64 l[i].k):=by
 obtain⟨p',c',e,hc⟩:=h.at_
 simp only[Value.slice.injEq] at e
 obtain⟨rfl,rfl,rfl⟩:=e
 obtain⟨b,o,rfl,hb,hc⟩:=hc (by omega)
 exact⟨b,o,rfl,hb,hc i hi⟩
def nZ (gs:List Gd) (l:List Ev):Int:=if bI gs l=0 then fc (ad gs) St.zero l else 0
def tO (w:World) (gs:List Gd) (l:List Ev) (e:Ending) (w':World):Prop :=
 Below w.heap.size w w'∧e=.returned (.tuple #[.int .i64 (nZ gs l),.int .i64 (bI gs l)])
theorem tf {w:World}{b o:Nat}{z:St}{g:Nat} (hg:g<3) (h0:w.cell? ⟨b,o,none⟩=some (.int .i64 z.a0)) (h1:w.cell? ⟨b,o+1,none⟩=some (.int .i64 z.a1)) (h2:w.cell? ⟨b,o+2,none⟩=some (.int .i64 z.a2)):w.cell? ⟨b,o+g,none⟩=some (.int .i64 (z.a g)):=by
 match g,hg with
 | 0,_=>exact h0
 | 1,_=>exact h1
 | 2,_=>exact h2
theorem ni {gs:List Gd}{p:Option Addr}{w:World} (hG:aQ w p gs) {g k:Nat} (hg:g<gs.length) (hk:k<(ac gs g).length) :
  ∃ bg og b o cq nr,p=some ⟨bg,og,none⟩∧bg<w.heap.size∧b<w.heap.size∧k<nr∧w.cell? ⟨bg,og+g*2+1,none⟩=some (.slice (some ⟨b,o,none⟩) nr cq)∧w.cell? ⟨b,o+k*7+4,none⟩=some (.int .i64 (aP gs g k).minutes):=by
 obtain⟨bg,og,rfl,hbg,hcg⟩:=hG.at_ (by omega)
 obtain⟨q,cq,e0,e1,hR⟩:=hcg g hg
 have hra:ac gs g=gs[g].rungs:=by unfold ac;rw[uu hg]
 rw[←hra] at e1 hR
 obtain⟨b,o,rfl,hb,hcs⟩:=hR.at_ (by omega)
 obtain⟨q1,c1,q2,c2,hr⟩:=hcs _ hk
 rw[←fj hk] at hr
 exact⟨bg,og,b,o,cq,_,rfl,hbg,hb,hk,e1,hr.d4⟩
theorem qQ (gs:List Gd) (p:Option Addr) (c:Nat) (pe:Option Addr) (ne ce:Nat) (l:List Ev) (w:World) (hP:dM w p c gs) (hE:iN w (.slice pe ne ce) l) (hne:ne=l.length) (hlen:(l.length:Int)≤9223372036854775807) :
  Calls Tryz.prog 11 #[.agg #[.slice p gs.length c],.slice pe ne ce] w (tO w gs l):=by
 have HNL:=uk hne
 clear hne
 have hl:=iy w (.cells #[.slice p gs.length c] 28)
 have P1:=hP.below hl.below
 have E1:=hE.below hl.below
 have HP:=uk hP
 have HE:=uk hE
 clear hP hE
 go_enter Tryz.func11,Tryz.ntmps11
 go_upto_region 1 with fail
 generalize w.alloc (.cells #[.slice p gs.length c] 28)=w1 at *
 have x0:=aB hl.s0 0
 go_wp2_with fail
 refine (oa gs p c _ l w1 P1 E1 hlen).mono ?_
 rintro e w2 ⟨hb2,hQ⟩
 have r0:=(hb2.block _ (jv hl.s0)).trans hl.s0
 have HB2:=hl.below.trans (hb2.mono hl.below.size)
 clear hl P1 E1 x0
 rcases hQ with ⟨hn,rfl⟩ | ⟨hpe,mB,vn,vb,mb,Nm,sm,f,qv,rfl,_,hq⟩
 ·obtain⟨n,hnn⟩:∃ n,n=bI gs l:=⟨_,rfl⟩
  rw[←hnn] at hn ⊢
  have hd:(n != 0)=true:=by simp[hn]
  have HN:=uk hnn
  have HNE:=uk hn
  clear hnn hn
  go_wp2_with fail
  go_ret2
  refine⟨HB2,?_⟩
  unfold nZ
  rw[←HN.out,if_neg HNE.out];rfl
 ·obtain⟨hsy,hl2,hok⟩:aS gs=true∧l.length≤256∧fU gs l=true:=by
   unfold bI at hpe
   split at hpe
   ·rename_i h1
    split at hpe
    ·cases hpe
    ·split at hpe
     ·rename_i h2 h3;exact⟨h1,by omega,h3⟩
     ·cases hpe
   ·cases hpe
  have GD:=uk (aI hsy)
  obtain⟨hn1,hn3⟩:=bf hsy
  have HPE:=uk hpe
  have HOK:=uk hok
  have HSQ:=uk hq
  have hne2:ne≤256:=by have:=HNL.out;omega
  have B0:Below w2.heap.size w2 w2:=Below.refl _ _
  obtain⟨aq,cq,eq⟩:=hq.len
  obtain⟨nq,hnq⟩:∃ nq,nq=(aR (ad gs) St.zero l).length:=⟨_,rfl⟩
  rw[←hnq] at eq
  have HNQ:Hid (nq=l.length+1):=by unfold Hid;rw[hnq,bN]
  have HNQ2:nq=ne+1:=by rw[HNQ.out,HNL.out]
  subst eq
  clear hpe hok hsy hl2 hq hnq
  have HNQ3:=uk HNQ2
  clear HNQ2
  go_wp2_with fail
  go_loopw [9,24] (fun s9 s24 wx=>∃ (i:Nat) (sm:Int),s24=.int .i64 i∧s9=.int .i64 sm∧i≤ne∧0≤sm∧sm≤60*i∧Hid (sm=fc (ad gs) St.zero (l.take i))∧Below w2.heap.size w2 wx) (fun _ s24 _=>ne-(intOf s24).toNat)
  case atStart=>exact⟨0,0,rfl,rfl,by omega,by omega,by omega,by rw[List.take_zero];rfl,B0⟩
  case round =>
   obtain⟨i,sm,rfl,rfl,hi,hs0,hs1,HSM,hb⟩:=hrel
   by_cases hil:i<ne
   ·have hil2:i<l.length:=by have:=HNL.out;omega
    obtain⟨be,oe,rfl,hbe,q0,q1⟩:=HE.out.getE hil2
    obtain⟨t,ht⟩:∃ t:Ev,t=l[i]:=⟨_,rfl⟩
    rw[←ht] at q0 q1
    have HTK:Hid (l.take (i+1)=l.take i++[t]):=by unfold Hid;rw[uO,uu hil2,ht];rfl
    obtain⟨e1,e2,e3,e4⟩:=dZ.1 (show cx (ad gs) t=true by rw[ht];exact uM.1 HOK.out _ (uH hil2))
    have e2:t.g<gs.length:=e2
    obtain⟨g,hg⟩:∃ g:Nat,t.g=(g:Int):=⟨t.g.toNat,by omega⟩
    have HBW:=HB2.trans (hb.mono HB2.size)
    have q0:=(HBW.cell (p:=⟨be,_,none⟩) hbe).trans q0
    have q1:=(HBW.cell (p:=⟨be,_,none⟩) hbe).trans q1
    rw[hg] at q0 e2
    have hgl:g<gs.length:=by omega
    obtain⟨z,hz⟩:∃ z,z=gt (ad gs) St.zero (l.take i):=⟨_,rfl⟩
    have hza:(ad gs).At z:=by rw[hz];exact nz GD.out _ _ (ar.At.zero GD.out) (fun v hv=>uM.1 HOK.out v (wF hv))
    have hq:i<(aR (ad gs) St.zero l).length:=by rw[bN];omega
    have hzi:(aR (ad gs) St.zero l)[i]=z:=by
     have:=gw (ad gs) l St.zero i (by omega)
     rw[uu hq] at this
     rw[hz];exact Option.some.inj this
    obtain⟨gq,oq,cq2,eqq,hgq,s0,s1,s2,s3,s4,s5⟩:=HSQ.out.get hq
    rw[hzi] at s0 s1 s2
    simp only[Value.slice.injEq] at eqq
    obtain⟨rfl,hnn,rfl⟩:=eqq
    clear hnn s3 s4 s5
    have hs:=tf (g:=g) (by omega) s0 s1 s2
    obtain⟨k,hk⟩:∃ k:Nat,z.a g=(k:Int):=⟨(z.a g).toNat,by have:=(hza.a g hgl).1;omega⟩
    have hkl:k<(ac gs g).length:=by have:=hza.a g hgl;have h2:(ad gs).rungs g=(ac gs g).length:=rfl;omega
    obtain⟨bg,og,b,o,cr,nr,rfl,hbg,hbb,hkr,m1,m2⟩:=ni HP.out.G hgl hkl
    have hmn:=GD.out.mins g k hgl (by exact hkl)
    have HMN:Hid ((ad gs).mins t.g.toNat (z.a t.g.toNat).toNat=(aP gs g k).minutes):=by unfold Hid;rw[hg];show (ad gs).mins g (z.a g).toNat=_;rw[hk];rfl
    have hmn2:1≤(aP gs g k).minutes∧(aP gs g k).minutes≤60:=hmn
    obtain⟨m,hm⟩:∃ m,m=(aP gs g k).minutes:=⟨_,rfl⟩
    rw[←hm] at m2 HMN hmn2
    rw[hk] at hs
    have hs:=(hb.cell (p:=⟨gq,_,none⟩) hgq).trans hs
    have m1:=(HBW.cell (p:=⟨bg,_,none⟩) hbg).trans m1
    have m2:=(HBW.cell (p:=⟨b,_,none⟩) hbb).trans m2
    have r0:=(hb.cell (p:=⟨w.heap.size,_,none⟩) (jv r0)).trans (aB r0 0)
    have HZ:=uk hz
    have hrl:=uv (jv (by assumption:w2.heap[w.heap.size]?=_)) hb.size
    have hgq2:=uv hgq hb.size
    have hbe2:=uv hbe HBW.size
    have hbg2:=uv hbg HBW.size
    have hbb2:=uv hbb HBW.size
    clear hz hza hq hzi s0 s1 s2 hmn hm ht e1 e3 e4 hg hk hkl
    have l5:=iy wr (.cells #[.int .i64 g,.int .i64 t.k] 31)
    have hiI:(i:Int)<(ne:Int):=by omega
    go_upto_region 8 with fail
    have x0:=(l5.below.cell (p:=⟨w.heap.size,0,none⟩) hrl).trans r0
    have x1:=(l5.below.cell (p:=⟨bg,_,none⟩) hbg2).trans m1
    have x2:=(l5.below.cell (p:=⟨b,_,none⟩) hbb2).trans m2
    have x3:=(l5.below.cell (p:=⟨gq,_,none⟩) hgq2).trans hs
    have x4:=aB l5.s0 0
    have HB6:=hb.trans (l5.below.mono hb.size)
    clear q0 q1 r0 m1 m2 hs l5 HBW hb
    generalize wr.alloc (.cells #[.int .i64 g,.int .i64 t.k] 31)=wa at *
    generalize wr.heap.size=ba at *
    have hgI:(g:Int)<(gs.length:Int):=by omega
    have hg3:(g:Int)<3:=by omega
    have hkI:(k:Int)<(nr:Int):=by omega
    have hiq:(i:Int)<(nq:Int):=by have:=HNQ3.out;omega
    have hws:IntKind.i64.wrap (sm+m)=sm+m:=IntWalk.i64_in _ (by omega)
    have HBD:=uk (show 0≤sm+m∧sm+m≤60*(i+1:Nat) from⟨by omega,by omega⟩)
    go_quiet (fail)
    clear hws hgI hg3 hkI hiq x0 x1 x2 x3 x4
    go_wp2_with fail
    go_roundw
    case rel=>exact⟨i+1,sm+m,by first | rfl | go_num,rfl,by omega,HBD.out.1,HBD.out.2,by unfold Hid;rw[HTK.out,km,←HZ.out,HMN.out,←HSM.out],below_drewN HB6 _⟩
    case measure=>simp[intOf];omega
   ·obtain rfl:i=ne:=by omega
    have HTK:Hid (l.take i=l):=by unfold Hid;rw[HNL.out,uX]
    rw[HTK.out] at HSM
    clear hil hi
    go_wp2
    go_ret2
    refine⟨HB2.trans (hb.mono HB2.size),?_⟩
    unfold nZ
    rw[HPE.out,if_pos rfl,←HSM.out];rfl
end Go.Proofs.YtlkniohhalnjjaaGreatDoor
