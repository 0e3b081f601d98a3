/- L -/
import Derived.Test.YtgakllaobooabaaGreatDoorXGcd
import Derived.Test.YtgakllaobooabaaGreatDoorXNatText
import Derived.Test.YtgakllaobooabaaGreatDoorXB
set_option linter.all false
set_option maxRecDepth 100000
set_option maxHeartbeats 8000000
namespace Go.Proofs.YtgakllaobooabaaGreatDoor
open Go.RowKit Dc Dg
theorem IsN.one (w:World):IsN (w.alloc (.cells #[.int .u64 1] 134)) (.slice (some ⟨w.heap.size,0,none⟩) 1 1) 1:=by
 have h:=IsU.box w 1 1 rfl;unfold IsN;have:ag BB 1=[1]:=by rw[digs_pos aw (by omega)];simp[BB,bn]
 rw[this];exact h
theorem ez {n:Nat} (h:n<BB):Few n:=by
 have:=bh aw (n:=n) (k:=1) (by simpa using h);unfold Few;omega
theorem jn (w:World) :
  Calls Tryz.prog 99 #[] w fun e w'=>∃ v,e=.returned v/\IsN w' v 1/\Below w.heap.size w w':=by
 go_enter Tryz.func99,Tryz.ntmps99;go_wp2;go_ret;exact⟨_,rfl,IsN.one w,(Dv _ _).alloc (AA _) _⟩
def cT (mi:Bool) (n d:Nat):Rt:=if n=0 then ⟨false,0,1⟩ else ⟨mi,n / Nat.gcd n d,d / Nat.gcd n d⟩
theorem vK (w:World):IsN w (.slice none 0 0) 0:=by
 unfold IsN;rw[bn];exact⟨none,0,rfl,by simp,by simp[maxLen],fun h=>by simp at h⟩
structure a_ (w:World) (k:Nat) (a b c:Value):Prop where
 hp:w.heap[k]?=some (.cells #[a,b,c] 63 (0,0))
 na:∀ z,a≠.int .u64 z
 nb:∀ z,b≠.int .u64 z
 nc:∀ z,c≠.int .u64 z
theorem a_.lt {w:World}{k:Nat}{a b c:Value} (h:a_ w k a b c):k<w.heap.size:=(AE.1 h.hp).1
theorem a_.cell {w:World}{k:Nat}{a b c:Value} (h:a_ w k a b c) (j:Nat):w.cell? ⟨k,j,none⟩=#[a,b,c][j]?:=by rw[World.cell?,h.hp];rfl
theorem a_.c0 {w:World}{k:Nat}{a b c:Value} (h:a_ w k a b c):w.cell? ⟨k,0,none⟩=some a:=h.cell 0
theorem a_.c1 {w:World}{k:Nat}{a b c:Value} (h:a_ w k a b c):w.cell? ⟨k,1,none⟩=some b:=h.cell 1
theorem a_.c2 {w:World}{k:Nat}{a b c:Value} (h:a_ w k a b c):w.cell? ⟨k,2,none⟩=some c:=h.cell 2
theorem a_.fr {w:World}{k:Nat}{a b c:Value} (h:a_ w k a b c) (j:Nat):w.frozen? ⟨k,j,none⟩=false:=by
 rw[World.frozen?,h.hp];simp
theorem a_.below {w w':World}{k:Nat}{a b c:Value} (h:a_ w k a b c) (hb:Below w.heap.size w w'):a_ w' k a b c :=
 ⟨by rw[hb.block k h.lt];exact h.hp,h.na,h.nb,h.nc⟩
theorem a_.new (w:World) (a b c:Value) (na:∀ z,a≠.int .u64 z) (nb:∀ z,b≠.int .u64 z) (nc:∀ z,c≠.int .u64 z):a_ (w.alloc (.cells #[a,b,c] 63)) w.heap.size a b c :=
 ⟨heap_alloc_new w _,na,nb,nc⟩
theorem a_.other {w:World}{k:Nat}{a b c:Value} (h:a_ w k a b c) {v:Value}{l:List Nat} (hv:IsU w v l) (j:Nat) (u:Value):IsU (w.setCell ⟨k,j,none⟩ u) v l:=by
 obtain⟨p,cap,e,h1,h2,h3⟩:=hv
 refine⟨p,cap,e,h1,h2,fun hl=>?_⟩
 obtain⟨b',o,e2,hlt,hc⟩:=h3 hl
 have hne:b'≠k:=by
  intro e3
  subst e3
  have h0:=hc 0 hl
  rw[h.cell] at h0
  match o+0,h0 with
  | 0,h0=>simp at h0;exact h.na _ h0
  | 1,h0=>simp at h0;exact h.nb _ h0
  | 2,h0=>simp at h0;exact h.nc _ h0
  | n+3,h0=>simp at h0
 refine⟨b',o,e2,by simpa[World.setCell] using hlt,fun i hi=>?_⟩
 rw[World.cell?_setCell_other _ _ _ _ (by intro e3;exact hne (congrArg Addr.block e3).symm)]
 exact hc i hi
theorem a_.set0 {w:World}{k:Nat}{a b c:Value} (h:a_ w k a b c) (u:Value) (nu:∀ z,u≠.int .u64 z):a_ (w.setCell ⟨k,0,none⟩ u) k u b c :=
 ⟨by rw[heap_setCell_same w k 0 #[a,b,c] _ u h.hp];rfl,nu,h.nb,h.nc⟩
theorem a_.set1 {w:World}{k:Nat}{a b c:Value} (h:a_ w k a b c) (u:Value) (nu:∀ z,u≠.int .u64 z):a_ (w.setCell ⟨k,1,none⟩ u) k a u c :=
 ⟨by rw[heap_setCell_same w k 1 #[a,b,c] _ u h.hp];rfl,h.na,nu,h.nc⟩
theorem a_.set2 {w:World}{k:Nat}{a b c:Value} (h:a_ w k a b c) (u:Value) (nu:∀ z,u≠.int .u64 z):a_ (w.setCell ⟨k,2,none⟩ u) k a b u :=
 ⟨by rw[heap_setCell_same w k 2 #[a,b,c] _ u h.hp];rfl,h.na,h.nb,nu⟩
theorem a_.put {w:World}{k:Nat}{a b c a' b' c':Value} (h:a_ w k a b c) (na:∀ z,a'≠.int .u64 z) (nb:∀ z,b'≠.int .u64 z) (nc:∀ z,c'≠.int .u64 z) :
  a_ (((w.setCell ⟨k,0,none⟩ a').setCell ⟨k,1,none⟩ b').setCell ⟨k,2,none⟩ c') k a' b' c' /\
  (∀ v l,IsU w v l->IsU (((w.setCell ⟨k,0,none⟩ a').setCell ⟨k,1,none⟩ b').setCell ⟨k,2,none⟩ c') v l) /\
  ∀ w0,Below w0.heap.size w0 w->w0.heap.size<=k->Below w0.heap.size w0 (((w.setCell ⟨k,0,none⟩ a').setCell ⟨k,1,none⟩ b').setCell ⟨k,2,none⟩ c'):=by
 have h1:=h.set0 a' na;have h2:=h1.set1 b' nb;refine⟨h2.set2 c' nc,fun v l hv=>h2.other (h1.other (h.other hv 0 a') 1 b') 2 c',fun w0 hb hk=>?_⟩;exact ((hb.setCell (p:=⟨k,0,none⟩) hk _).setCell (p:=⟨k,1,none⟩) hk _).setCell (p:=⟨k,2,none⟩) hk _
theorem IsU.not_int {w:World}{v:Value}{l:List Nat} (h:IsU w v l):∀ z,v≠.int .u64 z:=by
 obtain⟨p,cap,rfl,_⟩:=h;intro z e;cases e
theorem dU (mi:Bool) (va vb:Value) (n d:Nat) (w:World) (ha:IsN w va n) (hb:IsN w vb d) (hfa:Few n) (hfb:Few d) (hd:0<d) :
  Calls Tryz.prog 81 #[.bool mi,va,vb] w fun e w'=>∃ v,e=.returned v/\IsR w' v (cT mi n d)/\Below w.heap.size w w':=by
 have ha':=ha;obtain⟨p,cap,rfl,hlc,hcm,hcell⟩:=ha';have hb0:Below w.heap.size w (w.alloc (.cells #[.bool false,.slice none 0 0,.slice none 0 0] 63)):=(Dv _ _).alloc (AA _) _;have B0:=a_.new w (.bool false) (.slice none 0 0) (.slice none 0 0) nofun nofun nofun;by_cases h0:n=0
 ·subst h0;have hl:(((ag BB 0).length:Int) == 0)=true:=by rw[bn];rfl
  go_enter Tryz.func81,Tryz.ntmps81;go_wp2_with fail
  generalize w.alloc (.cells #[.bool false,.slice none 0 0,.slice none 0 0] 63)=w0 at hb0 B0 |-;refine (jn w0).mono ?_;rintro e w1 ⟨v1,rfl,h1,hb1⟩;have h1':=h1;obtain⟨p1,cp1,rfl,_,_,_⟩:=h1';have B1:=B0.below hb1;have k0:=B1.c0;have k1:=B1.c1;have k2:=B1.c2;have f0:=B1.fr 0;have f1:=B1.fr 1;have f2:=B1.fr 2;have P:=B1.put (a':=.bool false) (b':=.slice none 0 0) (c':=.slice p1 (ag BB 1).length cp1) nofun nofun h1.not_int;have PH:=At P;have HBL:=At (hb0.trans (hb1.mono hb0.size));clear P B0 B1 hb0 hb1;have H1:=At h1;clear h1;go_wp2;have q0:=PH.out.1.c0;have q1:=PH.out.1.c1;have q2:=PH.out.1.c2;refine Du (v:=.agg #[.bool false,.slice none 0 0,.slice p1 (ag BB 1).length cp1]) (by simp[results,Tryz.results81,go_sem,q0,q1,q2]) rfl ⟨_,rfl,⟨_,_,rfl,PH.out.2.1 _ _ (vK w1),PH.out.2.1 _ _ H1.out,ez (show (0:Nat)<BB by decide),ez (show (1:Nat)<BB by decide)⟩,PH.out.2.2 w HBL.out (AA _)⟩
 ·have hl:(((ag BB n).length:Int) == 0)=false:=by
   have:0<(ag BB n).length:=A3.2 fun e=>h0 ((bP aw).1 e);simp;intro e;rw[e] at this;simp at this
  have hgpos:0<Nat.gcd n d:=Ci _ hd;have hgle:Nat.gcd n d<=d:=Di _ hd;have hfg:=Few.mono hfb hgle;have hg1:=vw hgpos
  have hne:(ag BB (Nat.gcd n d)).length≠0:=by
   intro e;have:=(bP aw (n:=Nat.gcd n d)).1 (BG e);omega
  have hred:cT mi n d=⟨mi,n / Nat.gcd n d,d / Nat.gcd n d⟩:=by unfold cT;rw[if_neg h0]
  have HR:=At hred;have hfn':=Few.mono hfa (CI n (Nat.gcd n d));have hfd':=Few.mono hfb (CI d (Nat.gcd n d));clear hred;go_enter Tryz.func81,Tryz.ntmps81;go_wp2_with fail
  generalize w.alloc (.cells #[.bool false,.slice none 0 0,.slice none 0 0] 63)=w0 at hb0 B0 |-;refine (qx _ _ n d w0 (ha.below hb0) (hb.below hb0) hfa hfb).mono ?_;rintro e w1 ⟨vg,rfl,h1,hb1⟩;have h1':=h1;obtain⟨pg,cg,rfl,hgc,hgm,hgcell⟩:=h1';have B1:=At (B0.below hb1);have HBL:=At (hb0.trans (hb1.mono hb0.size));have HA:=At (ha.below HBL.out);have HB:=At (hb.below HBL.out);have HG:=At h1;clear B0 hb0 hb1 ha hb h1 hcell;unfold maxLen at hgm hcm;by_cases hgt:1<Nat.gcd n d
  ·have hlen:=hg1.2 hgt;have HFN:=hfn';have HFD:=hfd';have HGP:=At hgpos;have go1:=fun (W:World) (vx:Value) (x:Nat) (hx:IsN W vx x) (hfx:Few x) (hW:IsN W (.slice pg (ag BB (Nat.gcd n d)).length cg) (Nat.gcd n d))=>pA vx _ x (Nat.gcd n d) W hx hW hfx hfg HGP.out;have GO:=At go1;clear go1 hg1 hgle hgpos;rcases hlen with hlen | ⟨hlen,hdig⟩
   ·have t1:decide ((1:Int)<((ag BB (Nat.gcd n d)).length:Int))=true:=by simp;omega
    clear hlen;go_wp2_with fail
    refine (GO.out _ _ n HA.out hfa HG.out).mono ?_;rintro e w2 ⟨vq,vr,rfl,hq,hr,hb2⟩;have B2:=At (B1.out.below hb2);have HBL2:=At (HBL.out.trans (hb2.mono HBL.out.size));have HB2:=At (HB.out.below hb2);have HG2:=At (HG.out.below hb2);have HQ:=At hq;clear hb2 hr hq;go_wp2_with fail
    refine (GO.out _ _ d HB2.out hfb HG2.out).mono ?_;rintro e w3 ⟨vq3,vr3,rfl,hq3,hr3,hb3⟩;have B3:=At (B2.out.below hb3);have HBL3:=At (HBL2.out.trans (hb3.mono HBL2.out.size));have HQ1:=At (IsN.below HQ.out hb3);have HQ3:=At hq3;have hqq:=HQ1.out;have hqq3:=hq3;obtain⟨pq,cq,rfl,_,_,_⟩:=hqq;obtain⟨pq3,cq3,rfl,_,_,_⟩:=hqq3;have k0:=B3.out.c0;have k1:=B3.out.c1;have k2:=B3.out.c2;have f0:=B3.out.fr 0;have f1:=B3.out.fr 1;have f2:=B3.out.fr 2;have PH:=At (B3.out.put (a':=.bool mi) (b':=.slice pq (ag BB (n / Nat.gcd n d)).length cq) (c':=.slice pq3 (ag BB (d / Nat.gcd n d)).length cq3) nofun nofun nofun);clear hb3 hr3 hq3;go_wp2;have q0:=PH.out.1.c0;have q1:=PH.out.1.c1;have q2:=PH.out.1.c2;refine Du (v:=.agg #[.bool mi,.slice pq (ag BB (n / Nat.gcd n d)).length cq,.slice pq3 (ag BB (d / Nat.gcd n d)).length cq3]) (by simp[results,Tryz.results81,go_sem,q0,q1,q2]) rfl ⟨_,rfl,?_,PH.out.2.2 w HBL3.out (AA _)⟩;rw[HR.out];exact⟨_,_,rfl,PH.out.2.1 _ _ HQ1.out,PH.out.2.1 _ _ HQ3.out,HFN,HFD⟩
   ·obtain⟨b,o,rfl,hbw,hc⟩:=hgcell (by omega);have hc0:w1.cell? ⟨b,o,none⟩=some (.int .u64 (nth (ag BB (Nat.gcd n d)) 0)):=hc 0 (by omega);have t1:decide ((1:Int)<((ag BB (Nat.gcd n d)).length:Int))=false:=by simp;omega
    have t2:decide ((1:Int)<((nth (ag BB (Nat.gcd n d)) 0):Int))=true:=by simp;omega
    have tp:(0:Int)<((ag BB (Nat.gcd n d)).length:Int):=by omega
    clear hlen hc hdig;go_wp2_with fail
    refine (GO.out _ _ n HA.out hfa HG.out).mono ?_;rintro e w2 ⟨vq,vr,rfl,hq,hr,hb2⟩;have B2:=At (B1.out.below hb2);have HBL2:=At (HBL.out.trans (hb2.mono HBL.out.size));have HB2:=At (HB.out.below hb2);have HG2:=At (HG.out.below hb2);have HQ:=At hq;clear hb2 hr hq;go_wp2_with fail
    refine (GO.out _ _ d HB2.out hfb HG2.out).mono ?_;rintro e w3 ⟨vq3,vr3,rfl,hq3,hr3,hb3⟩;have B3:=At (B2.out.below hb3);have HBL3:=At (HBL2.out.trans (hb3.mono HBL2.out.size));have HQ1:=At (IsN.below HQ.out hb3);have HQ3:=At hq3;have hqq:=HQ1.out;have hqq3:=hq3;obtain⟨pq,cq,rfl,_,_,_⟩:=hqq;obtain⟨pq3,cq3,rfl,_,_,_⟩:=hqq3;have k0:=B3.out.c0;have k1:=B3.out.c1;have k2:=B3.out.c2;have f0:=B3.out.fr 0;have f1:=B3.out.fr 1;have f2:=B3.out.fr 2;have PH:=At (B3.out.put (a':=.bool mi) (b':=.slice pq (ag BB (n / Nat.gcd n d)).length cq) (c':=.slice pq3 (ag BB (d / Nat.gcd n d)).length cq3) nofun nofun nofun);clear hb3 hr3 hq3;go_wp2;have q0:=PH.out.1.c0;have q1:=PH.out.1.c1;have q2:=PH.out.1.c2;refine Du (v:=.agg #[.bool mi,.slice pq (ag BB (n / Nat.gcd n d)).length cq,.slice pq3 (ag BB (d / Nat.gcd n d)).length cq3]) (by simp[results,Tryz.results81,go_sem,q0,q1,q2]) rfl ⟨_,rfl,?_,PH.out.2.2 w HBL3.out (AA _)⟩;rw[HR.out];exact⟨_,_,rfl,PH.out.2.1 _ _ HQ1.out,PH.out.2.1 _ _ HQ3.out,HFN,HFD⟩
  ·have hg1':Nat.gcd n d=1:=by omega
   have hnl:¬ (1<(ag BB (Nat.gcd n d)).length\/((ag BB (Nat.gcd n d)).length=1/\1<nth (ag BB (Nat.gcd n d)) 0)):=fun h=>hgt (hg1.1 h);obtain⟨b,o,rfl,hbw,hc⟩:=hgcell (by omega);have hc0:w1.cell? ⟨b,o,none⟩=some (.int .u64 (nth (ag BB (Nat.gcd n d)) 0)):=hc 0 (by omega);have t1:decide ((1:Int)<((ag BB (Nat.gcd n d)).length:Int))=false:=by simp;omega
   have t2:decide ((1:Int)<((nth (ag BB (Nat.gcd n d)) 0):Int))=false:=by simp;omega
   have tp:(0:Int)<((ag BB (Nat.gcd n d)).length:Int):=by omega
   have k0:=B1.out.c0;have k1:=B1.out.c1;have k2:=B1.out.c2;have f0:=B1.out.fr 0;have f1:=B1.out.fr 1;have f2:=B1.out.fr 2;have HB':=HB.out;obtain⟨pd,cd,rfl,_,_,_⟩:=HB';have PH:=At (B1.out.put (a':=.bool mi) (b':=.slice p (ag BB n).length cap) (c':=.slice pd (ag BB d).length cd) nofun nofun nofun);have HG1:=At hg1';clear hc hg1' hnl hg1 hgt hne hgle hgpos;go_wp2;have q0:=PH.out.1.c0;have q1:=PH.out.1.c1;have q2:=PH.out.1.c2;refine Du (v:=.agg #[.bool mi,.slice p (ag BB n).length cap,.slice pd (ag BB d).length cd]) (by simp[results,Tryz.results81,go_sem,q0,q1,q2]) rfl ⟨_,rfl,?_,PH.out.2.2 w HBL.out (AA _)⟩;rw[HR.out,HG1.out,Dp,Dp];exact⟨_,_,rfl,PH.out.2.1 _ _ HA.out,PH.out.2.1 _ _ HB.out,hfa,hfb⟩
theorem ie (l:List UInt8):(⟨l.toArray⟩:ByteArray).size=l.length:=by show l.toArray.size=_;simp
theorem aQ (s:ByteArray):s.data.toList.length=s.size:=by simp
theorem qy (s p:ByteArray) (w:World) :
  Calls Tryz.prog 96 #[.string s,.string p] w fun e w'=>∃ t:ByteArray,e=.returned (.tuple #[.string t,.bool (Lib.hasPrefix s.data.toList p.data.toList)])/\Hid (t.data.toList=Lib.trimPrefix s.data.toList p.data.toList)/\t.size<=s.size/\w=w':=by
 refine (Tryz.strings_CutPrefix s p w).mono ?_;rintro e w' ⟨rfl,rfl⟩;refine⟨_,rfl,rfl,?_,rfl⟩;rw[ie,<-aQ s];unfold Lib.trimPrefix
 split
 ·rw[Ba];omega
 ·exact AA _
theorem qA (s p:ByteArray) (w:World) (hs:s.size<=9223372036854775807) :
  Calls Tryz.prog 56 #[.string s,.string p] w fun e w'=>∃ t:ByteArray,e=.returned (.tuple #[.string t,.bool (Lib.hasSuffix s.data.toList p.data.toList)])/\Hid (t.data.toList=Lib.trimSuffix s.data.toList p.data.toList)/\t.size<=s.size/\w=w':=by
 refine (Tryz.strings_CutSuffix s p w hs).mono ?_;rintro e w' ⟨rfl,rfl⟩;refine⟨_,rfl,rfl,?_,rfl⟩;rw[ie,<-aQ s];unfold Lib.trimSuffix
 split
 ·rw[A6];omega
 ·exact AA _
theorem pY (s p:ByteArray) (w:World) :
  Calls Tryz.prog 57 #[.string s,.string p] w fun e w'=>∃ t:ByteArray,e=.returned (.string t)/\Hid (t.data.toList=Lib.trimPrefix s.data.toList p.data.toList)/\t.size<=s.size/\w=w':=by
 refine (Tryz.strings_TrimPrefix s p w).mono ?_;rintro e w' ⟨rfl,rfl⟩;refine⟨_,rfl,rfl,?_,rfl⟩;rw[ie,<-aQ s];unfold Lib.trimPrefix
 split
 ·rw[Ba];omega
 ·exact AA _
theorem cutS (s p:ByteArray) (w:World) (hG:Gw w) (hs:s.size<4294967281) :
  Calls Tryz.prog 97 #[.string s,.string p] w fun e w'=>∃ t u:ByteArray,e=.returned (.tuple #[.string t,.string u,.bool (Lib.cut s.data.toList p.data.toList).2.2]) /\
   Hid (t.data.toList=(Lib.cut s.data.toList p.data.toList).1)/\Hid (u.data.toList=(Lib.cut s.data.toList p.data.toList).2.1)/\t.size<=s.size/\u.size<=s.size/\∃ n,w'=w.drewN n:=by
 obtain⟨m,hm⟩:=hG.ml;refine (Tryz.strings_Cut s p m w hs hm).mono ?_;rintro e w' ⟨rfl,hn⟩;refine⟨_,_,rfl,rfl,rfl,?_,?_,hn⟩
 ·rw[ie,<-aQ s];unfold Lib.cut
  split
  ·simp only[A6];omega
  ·exact AA _
 ·rw[ie,<-aQ s];unfold Lib.cut
  split
  ·simp only[Ba];omega
  ·simp
def bH (s:List UInt8):Option Rt :=
 match bB (Lib.cut (Lib.trimPrefix s [45]) [47]).1 with
 | none=>none
 | some n =>
  if (Lib.cut (Lib.trimPrefix s [45]) [47]).2.2=true then
   match bB (Lib.cut (Lib.trimPrefix s [45]) [47]).2.1 with
   | none=>none
   | some d=>if d=0 then none else some (cT (Lib.hasPrefix s [45]) n d)
  else some (cT (Lib.hasPrefix s [45]) n 1)
theorem pj {s:List UInt8}{n:Nat} (h:bB s=some n) (hs:s.length<100000):Few n:=by
 unfold bB at h
 split at h
 ·rename_i hh
  have e:aJ s=n:=by simpa using h
  have h1:=jy s hh.2;rw[e] at h1;have hB:(10:Nat) ^ (9*(s.length / 9+1))=BB ^ (s.length / 9+1):=by rw[BW];rfl
  have h2:10 ^ s.length<=10 ^ (9*(s.length / 9+1)):=AW (by omega) (by omega);rw[hB] at h2;have:=bh aw (n:=n) (k:=s.length / 9+1) (by omega);unfold Few;omega
 ·simp at h
theorem ph (s:ByteArray) (w:World) (hs:s.size<100000) :
  Calls Tryz.prog 98 #[.string s] w fun e w'=>∃ v ok,e=.returned (.tuple #[v,.bool ok])/\Hid ((∃ n,bB s.data.toList=some n/\ok=true/\IsN w' v n/\Few n)\/(bB s.data.toList=none/\ok=false/\v=.slice none 0 0))/\Below w.heap.size w w':=by
 refine (pi s w hs).mono ?_;rintro e w' (⟨n,v,h1,rfl,h2,h3⟩ | ⟨h1,rfl,h3⟩)
 ·exact⟨v,true,rfl,Or.inl ⟨n,h1,rfl,dr.isU h2,pj h1 (by rw[aQ];exact hs)⟩,h3⟩
 ·exact⟨_,false,rfl,Or.inr ⟨h1,rfl,rfl⟩,h3⟩
def ql (s:List UInt8) (w:World) (e:Ending) (w':World):Prop :=
 ∃ v ok,e=.returned (.tuple #[v,.bool ok])/\((∃ r,bH s=some r/\ok=true/\IsR w' v r)\/(bH s=none/\ok=false/\v=.agg #[.bool false,.slice none 0 0,.slice none 0 0]))/\Below w.heap.size w w'
theorem lj (s:ByteArray) (w:World) (hs:s.size<100000) (hG:Gw w) :
  Calls Tryz.prog 58 #[.string s] w (ql s.data.toList w):=by
 have hb0:Below w.heap.size w (w.alloc (.cells #[.bool false,.slice none 0 0,.slice none 0 0] 63)):=(Dv _ _).alloc (AA _) _;have B0:=a_.new w (.bool false) (.slice none 0 0) (.slice none 0 0) nofun nofun nofun;go_enter Tryz.func58,Tryz.ntmps58;go_wp2_with fail
 generalize w.alloc (.cells #[.bool false,.slice none 0 0,.slice none 0 0] 63)=w0 at hb0 B0 |-;refine (qy _ _ w0).mono ?_;rintro e w1 ⟨t,rfl,ht,hts,rfl⟩;have HB:=At B0;have HBL:=At hb0;have HG:=At (hG.below hb0);clear B0 hb0;go_wp2_with fail
 refine (cutS _ _ _ HG.out (by omega)).mono ?_;rintro e w2 ⟨ab,be,rfl,hab,hbe,habs,hbes,n,rfl⟩;have HB2:=At (HB.out.below (below_drewN (Dv _ _) n));have HBL2:=At (below_drewN HBL.out n);clear HB HBL HG;go_wp2_with fail
 refine (ph _ _ (by omega)).mono ?_;rintro e w3 ⟨v3,ok3,rfl,h3,hb3⟩;have HB3:=At (HB2.out.below hb3);have HBL3:=At (HBL2.out.trans (hb3.mono HBL2.out.size));clear HB2 HBL2 hb3;rcases h3.out with ⟨m,hm,rfl,hv3,hfm⟩ | ⟨hm,rfl,rfl⟩
 ·have HM:=At hm;have HV3:=At hv3;have HFM:=At hfm;clear hm hv3 hfm h3;go_wp2_with fail
  refine (jn w3).mono ?_;rintro e w4 ⟨v4,rfl,h4,hb4⟩;have HB4:=At (HB3.out.below hb4);have HBL4:=At (HBL3.out.trans (hb4.mono HBL3.out.size));have HV4:=At (IsN.below HV3.out hb4);have HO4:=At h4;clear HB3 HBL3 HV3 hb4 h4
  cases hdv:(Lib.cut t.data.toList [47]).2.2
  ·-- no slash
   have HD:=At hdv;clear hdv;go_wp2_with fail
   refine (dU _ v3 v4 m 1 w4 HV4.out HO4.out HFM.out (ez (by decide)) (by omega)).mono ?_;rintro e w5 ⟨v5,rfl,h5,hb5⟩;have HB5:=At (HB4.out.below hb5);have HBL5:=At (HBL4.out.trans (hb5.mono HBL4.out.size));have H5:=At h5;obtain⟨vn,vd,rfl,hn5,hd5,hfn5,hfd5⟩:=h5;have hn5':=hn5;have hd5':=hd5;obtain⟨pn,cn,rfl,_,_,_⟩:=hn5';obtain⟨pd,cd,rfl,_,_,_⟩:=hd5';have HN5:=At hn5;have HD5:=At hd5;have k0:=HB5.out.c0;have k1:=HB5.out.c1;have k2:=HB5.out.c2;have f0:=HB5.out.fr 0;have f1:=HB5.out.fr 1;have f2:=HB5.out.fr 2;have PH:=At (HB5.out.put (a':=.bool (cT (Lib.hasPrefix s.data.toList [45]) m 1).minus) (b':=.slice pn (ag BB (cT (Lib.hasPrefix s.data.toList [45]) m 1).n).length cn) (c':=.slice pd (ag BB (cT (Lib.hasPrefix s.data.toList [45]) m 1).d).length cd) nofun nofun nofun);clear hb5 hn5 hd5;go_wp2;have q0:=PH.out.1.c0;have q1:=PH.out.1.c1;have q2:=PH.out.1.c2;refine Du (v:=.tuple #[.agg #[.bool (cT (Lib.hasPrefix s.data.toList [45]) m 1).minus,.slice pn (ag BB (cT (Lib.hasPrefix s.data.toList [45]) m 1).n).length cn,.slice pd (ag BB (cT (Lib.hasPrefix s.data.toList [45]) m 1).d).length cd],.bool true]) (by simp[results,Tryz.results58,go_sem,q0,q1,q2]) rfl ⟨_,_,rfl,Or.inl ⟨_,?_,rfl,⟨_,_,rfl,PH.out.2.1 _ _ HN5.out,PH.out.2.1 _ _ HD5.out,hfn5,hfd5⟩⟩,PH.out.2.2 w HBL5.out (AA _)⟩;unfold bH;have e1:=HD.out;rw[ht.out] at e1;rw[<-ht.out,<-hab.out,HM.out,ht.out]
   simp only[e1];rfl
  ·have HD:=At hdv;clear hdv;go_wp2_with fail
   refine (ph _ _ (by omega)).mono ?_;rintro e w6 ⟨v6,ok6,rfl,h6,hb6⟩;have HB6:=At (HB4.out.below hb6);have HBL6:=At (HBL4.out.trans (hb6.mono HBL4.out.size));have HV6:=At (IsN.below HV4.out hb6);clear hb6 HB4 HBL4 HV4 HO4;rcases h6.out with ⟨d,hd,rfl,hv6,hfd⟩ | ⟨hd,rfl,rfl⟩
   ·have HE:=At hd;have HS6:=At hv6;have HFD:=At hfd;have hu:=hv6;obtain⟨p6,c6,rfl,_,_,_⟩:=hu;clear hd hv6 hfd h6;by_cases hz:d=0
    ·have hl:(((ag BB d).length:Int) == 0)=true:=by rw[hz,bn];rfl
     have HZ:=At hz;clear hz;have k0:=HB6.out.c0;have k1:=HB6.out.c1;have k2:=HB6.out.c2;have f0:=HB6.out.fr 0;have f1:=HB6.out.fr 1;have f2:=HB6.out.fr 2;have PH:=At (HB6.out.put (a':=.bool false) (b':=.slice none 0 0) (c':=.slice none 0 0) nofun nofun nofun);go_wp2;have q0:=PH.out.1.c0;have q1:=PH.out.1.c1;have q2:=PH.out.1.c2;refine Du (v:=.tuple #[.agg #[.bool false,.slice none 0 0,.slice none 0 0],.bool false]) (by simp[results,Tryz.results58,go_sem,q0,q1,q2]) rfl ⟨_,_,rfl,Or.inr ⟨?_,rfl,rfl⟩,PH.out.2.2 w HBL6.out (AA _)⟩;unfold bH;rw[<-ht.out,<-hab.out,HM.out];simp only[HD.out,<-hbe.out,HE.out,HZ.out,if_true]
    ·have HDP:=At (Cp hz)
     have hl:(((ag BB d).length:Int) == 0)=false:=by
      have:0<(ag BB d).length:=A3.2 fun e=>hz ((bP aw).1 e);simp;intro e;rw[e] at this;simp at this
     have HZ:=At hz;clear hz;go_wp2_with fail
     refine (dU _ v3 (.slice p6 (ag BB d).length c6) m d w6 HV6.out HS6.out HFM.out HFD.out HDP.out).mono ?_;rintro e w5 ⟨v5,rfl,h5,hb5⟩;have HB5:=At (HB6.out.below hb5);have HBL5:=At (HBL6.out.trans (hb5.mono HBL6.out.size));have H5:=At h5;obtain⟨vn,vd,rfl,hn5,hd5,hfn5,hfd5⟩:=h5;have hn5':=hn5;have hd5':=hd5;obtain⟨pn,cn,rfl,_,_,_⟩:=hn5';obtain⟨pd,cd,rfl,_,_,_⟩:=hd5';have HN5:=At hn5;have HD5:=At hd5;have k0:=HB5.out.c0;have k1:=HB5.out.c1;have k2:=HB5.out.c2;have f0:=HB5.out.fr 0;have f1:=HB5.out.fr 1;have f2:=HB5.out.fr 2;have PH:=At (HB5.out.put (a':=.bool (cT (Lib.hasPrefix s.data.toList [45]) m d).minus) (b':=.slice pn (ag BB (cT (Lib.hasPrefix s.data.toList [45]) m d).n).length cn) (c':=.slice pd (ag BB (cT (Lib.hasPrefix s.data.toList [45]) m d).d).length cd) nofun nofun nofun);clear hb5 hn5 hd5;go_wp2;have q0:=PH.out.1.c0;have q1:=PH.out.1.c1;have q2:=PH.out.1.c2;refine Du (v:=.tuple #[.agg #[.bool (cT (Lib.hasPrefix s.data.toList [45]) m d).minus,.slice pn (ag BB (cT (Lib.hasPrefix s.data.toList [45]) m d).n).length cn,.slice pd (ag BB (cT (Lib.hasPrefix s.data.toList [45]) m d).d).length cd],.bool true]) (by simp[results,Tryz.results58,go_sem,q0,q1,q2]) rfl ⟨_,_,rfl,Or.inl ⟨_,?_,rfl,⟨_,_,rfl,PH.out.2.1 _ _ HN5.out,PH.out.2.1 _ _ HD5.out,hfn5,hfd5⟩⟩,PH.out.2.2 w HBL5.out (AA _)⟩;unfold bH;have e1:=HD.out;have e2:=HM.out;have e3:=HE.out
     rw[hab.out,ht.out] at e2;rw[hbe.out,ht.out] at e3;rw[ht.out] at e1;simp only[e1,e2,e3,if_true];rw[if_neg HZ.out]
   ·have HE:=At hd;clear hd h6;have k0:=HB6.out.c0;have k1:=HB6.out.c1;have k2:=HB6.out.c2;have f0:=HB6.out.fr 0;have f1:=HB6.out.fr 1;have f2:=HB6.out.fr 2;have PH:=At (HB6.out.put (a':=.bool false) (b':=.slice none 0 0) (c':=.slice none 0 0) nofun nofun nofun);go_wp2;have q0:=PH.out.1.c0;have q1:=PH.out.1.c1;have q2:=PH.out.1.c2;refine Du (v:=.tuple #[.agg #[.bool false,.slice none 0 0,.slice none 0 0],.bool false]) (by simp[results,Tryz.results58,go_sem,q0,q1,q2]) rfl ⟨_,_,rfl,Or.inr ⟨?_,rfl,rfl⟩,PH.out.2.2 w HBL6.out (AA _)⟩;unfold bH;rw[<-ht.out,<-hab.out,HM.out];simp only[HD.out,<-hbe.out,HE.out,if_true]
 ·have HM:=At hm;clear hm h3;have k0:=HB3.out.c0;have k1:=HB3.out.c1;have k2:=HB3.out.c2;have f0:=HB3.out.fr 0;have f1:=HB3.out.fr 1;have f2:=HB3.out.fr 2;have PH:=At (HB3.out.put (a':=.bool false) (b':=.slice none 0 0) (c':=.slice none 0 0) nofun nofun nofun);go_wp2;have q0:=PH.out.1.c0;have q1:=PH.out.1.c1;have q2:=PH.out.1.c2;refine Du (v:=.tuple #[.agg #[.bool false,.slice none 0 0,.slice none 0 0],.bool false]) (by simp[results,Tryz.results58,go_sem,q0,q1,q2]) rfl ⟨_,_,rfl,Or.inr ⟨?_,rfl,rfl⟩,PH.out.2.2 w HBL3.out (AA _)⟩;unfold bH;rw[<-ht.out,<-hab.out,HM.out]
end Go.Proofs.YtgakllaobooabaaGreatDoor
