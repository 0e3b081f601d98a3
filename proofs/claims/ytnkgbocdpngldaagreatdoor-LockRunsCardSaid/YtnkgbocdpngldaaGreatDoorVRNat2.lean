/-
  Texts of this claim: RNat2, RMul.
-/
import Derived.Test.YtnkgbocdpngldaaGreatDoorVRBase
import Derived.Test.YtnkgbocdpngldaaGreatDoorVA
set_option linter.unusedVariables false
set_option linter.unusedSimpArgs false
set_option maxRecDepth 100000
set_option maxHeartbeats 8000000

namespace Go.Proofs.YtnkgbocdpngldaaGreatDoor
open Go.RowKit Dg
theorem uH {l m:List Nat} (hl:CR l) (hm:CR m) (h:l.length<m.length):cY (val RR l) (val RR m)=-1:=by
 have:=cA aE hl hm h
 simp [cY,this]
theorem so {l m:List Nat} (hl:CR l) (hm:CR m) (h:m.length<l.length):cY (val RR l) (val RR m)=1:=by
 have:=cA aE hm hl h
 simp only [cY];rw [if_neg (by omega),if_neg (by omega)]
theorem wX {l m:List Nat} {k:Nat} (hl:CR l) (hlen:l.length=m.length) (h0:0<k) (hk:k≤l.length) (hd:l.drop k=m.drop k)
  (ht:nth l (k-1)<nth m (k-1)):cY (val RR l) (val RR m)=-1:=by
 rw [dx l _ (by omega),dx m _ (by omega)] at ht
 have:=eF (b:=RR) hl.1 hlen (k-1) (by omega) (by rw [show k-1+1=k by omega];exact hd) ht
 simp [cY,this]
theorem uI {l m:List Nat} {k:Nat} (hm:CR m) (hlen:l.length=m.length) (h0:0<k) (hk:k≤l.length) (hd:l.drop k=m.drop k)
  (ht:nth m (k-1)<nth l (k-1)):cY (val RR l) (val RR m)=1:=by
 rw [dx l _ (by omega),dx m _ (by omega)] at ht
 have:=eF (b:=RR) hm.1 hlen.symm (k-1) (by omega) (by rw [show k-1+1=k by omega];exact hd.symm) ht
 simp only [cY];rw [if_neg (by omega),if_neg (by omega)]
theorem dU (va vb:Value) (l m:List Nat) (w:World) (ha:IsI w va l) (hb:IsI w vb m) (hl:CR l) (hm:CR m) :
  Calls Tryz.prog 149 #[va,vb] w fun e w'=>e=.returned (.int .i64 (cY (val RR l) (val RR m)))∧∃ n,w'=w.drewN n:=by
 obtain ⟨p,cap,rfl,hlc,hcm,hcell⟩:=ha
 obtain ⟨p',cap',rfl,hlc',hcm',hcell'⟩:=hb
 unfold maxLen at hcm hcm'
 by_cases hlen:l.length=m.length
 ·have hne:(((l.length:Nat):Int) != ((m.length:Nat):Int))=false:=by simp [hlen]
  have HL:=B8 hlen
  clear hlen
  go_enter Tryz.func149,Tryz.ntmps149
  go_wp2
  go_loopw [5] (fun s5 wr=>∃ k n:Nat,k≤l.length∧s5=.int .i64 ((k:Int)-1)∧Hid (l.drop k=m.drop k)∧wr=w.drewN n) (fun s5 _=>(intOf s5+1).toNat)
  case atStart=>exact ⟨l.length,0,Ca _,rfl,by unfold Hid;rw [CE (Ca _),CE (by rw [HL.out];omega)],rfl⟩
  case round =>
   obtain ⟨k,n,hk,rfl,hd,rfl⟩:=hrel
   by_cases h0:k=0
   ·subst h0
    go_wp2
    go_ret
    refine ⟨?_,_,rfl⟩
    have:=hd.out
    simp only [Dk] at this
    subst this
    simp [cY]
   ·have hk2:k≤m.length:=by have:=HL.out;omega
    obtain ⟨b,o,rfl,_,hc⟩:=hcell (by omega)
    obtain ⟨b',o',rfl,_,hc'⟩:=hcell' (by omega)
    have hc1:=hc (k-1) (by omega)
    have hc1':=hc' (k-1) (by omega)
    have hx:=bK (j:=k-1) hl.1
    have hy:=bK (j:=k-1) hm.1
    rw [fD] at hx hy
    clear hc hcell hc' hcell'
    have h0':0<k:=by omega
    obtain ⟨x,hxe⟩:∃ x,x=nth l (k-1):=⟨_,rfl⟩
    obtain ⟨y,hye⟩:∃ y,y=nth m (k-1):=⟨_,rfl⟩
    rw [←hxe] at hc1 hx
    rw [←hye] at hc1' hy
    have HX:=B8 hxe
    have HY:=B8 hye
    clear hxe hye
    rcases Nat.lt_trichotomy x y with ht | ht | ht
    ·have hq:((x:Int) != (y:Int))=true:=by simp;omega
     go_wp2_with fail
     go_quiet (fail)
     go_wp2_with fail
     go_quiet (fail)
     go_wp2
     go_ret
     refine ⟨?_,_,by rw [World.drewN_drewN,World.drewN_drewN]⟩
     rw [wX hl HL.out h0' hk hd.out (by rw [←HX.out,←HY.out];exact ht)];rfl
    ·have hq:((x:Int) != (y:Int))=false:=by simp;omega
     have HT:=B8 ht
     clear ht
     go_wp2_with fail
     go_quiet (fail)
     go_wp2
     go_roundw
     case rel=>exact ⟨k-1,_,by omega,by go_num,or h0' hk hk2 hd (by rw [←HX.out,←HY.out];exact HT.out),rfl⟩
     case measure=>simp [intOf];omega
    ·have hq:((x:Int) != (y:Int))=true:=by simp;omega
     go_wp2_with fail
     go_quiet (fail)
     go_wp2_with fail
     go_quiet (fail)
     go_wp2
     go_ret
     refine ⟨?_,_,by rw [World.drewN_drewN,World.drewN_drewN]⟩
     rw [uI hm HL.out h0' hk hd.out (by rw [←HX.out,←HY.out];exact ht)];rfl
 ·by_cases hlt:l.length<m.length
  ·have hne:(((l.length:Nat):Int) != ((m.length:Nat):Int))=true:=by simp;omega
   go_enter Tryz.func149,Tryz.ntmps149
   go_wp2
   go_ret
   refine ⟨?_,0,rfl⟩
   rw [uH hl hm hlt]
   rfl
  ·have hne:(((l.length:Nat):Int) != ((m.length:Nat):Int))=true:=by simp;omega
   go_enter Tryz.func149,Tryz.ntmps149
   go_wp2
   go_ret
   refine ⟨?_,0,rfl⟩
   rw [so hl hm (by omega)]
   rfl
def SlB (B:Nat) (v:Value):Prop:=v=.slice none 0 0∨∃ b n c,v=.slice (some ⟨b,0,none⟩) n c∧B≤b
theorem dz.slb {w:World} {B:Nat} {p:Option Addr} {N c:Nat} {l:List Nat} (h:dz w B (.slice p N c) l) {m:Nat} (hm:m≤N):SlB B (.slice p m c):=by
 rcases h.2 with ⟨h1,_⟩ | ⟨g,cap,cur,h1,hb,_⟩
 ·obtain ⟨rfl,rfl,rfl⟩:p=none∧N=0∧c=0:=by simpa using h1
  obtain rfl:m=0:=by omega
  exact Or.inl rfl
 ·obtain ⟨rfl,_,rfl⟩:p=some ⟨g,0,none⟩∧N=l.length∧c=cap:=by simpa using h1
  exact Or.inr ⟨g,m,c,rfl,hb⟩
theorem SlB.base {B B':Nat} {v:Value} (h:SlB B v) (hb:B'≤B):SlB B' v:=by
 rcases h with h | ⟨b,n,c,h,h2⟩
 ·exact Or.inl h
 ·exact Or.inr ⟨b,n,c,h,Ci hb h2⟩
theorem mN (va vb:Value) (l m:List Nat) (w:World) (ha:IsI w va l) (hb:IsI w vb m) (hl:∀ d∈l,d<RR) (hm:∀ d∈m,d<RR) (hlb:m.length≤l.length) (hle:val RR m≤val RR l) (hfew:l.length<1000000) :
  Calls Tryz.prog 150 #[va,vb] w fun e w'=>∃ v,e=.returned v∧IsD w' v (val RR l-val RR m)∧SlB w.heap.size v∧Below w.heap.size w w':=by
 obtain ⟨p,cap,rfl,hlc,hcm,hcell⟩:=ha
 obtain ⟨p',cap',rfl,hlc',hcm',hcell'⟩:=hb
 unfold maxLen at hcm hcm'
 go_enter Tryz.func150,Tryz.ntmps150
 go_wp2
 go_loopw [5,6,7] (fun s5 s6 s7 wr=>∃ (i borrow:Nat) (out:List Nat),s6=.int .i64 borrow∧s7=.int .i64 i∧i≤l.length∧Hid (kH l m i borrow out)∧Hid (dz wr w.heap.size s5 out)∧Below w.heap.size w wr) (fun _ _ s7 _=>l.length-(intOf s7).toNat)
 case atStart=>exact ⟨0,0,[],rfl,rfl,Cw _,sP l m,World.ownsRow_nil _ _ _ _,Below.refl _ _⟩
 case round =>
  obtain ⟨i,borrow,out,rfl,rfl,hi,hst,hown,hbw⟩:=hrel
  have hsz:=hbw.size
  by_cases hil:i<l.length
  ·obtain ⟨b,o,rfl,hbb,hc⟩:=hcell (by omega)
   have hc1:=(hbw.cell (p:=⟨b,o+i,none⟩) hbb).trans (hc i hil)
   have hx:=bK (j:=i) hl
   have hy:=bK (j:=i) hm
   have hbor:=hst.out.bor
   have hol:=hst.out.len
   have hstep:=B8 (vm hl hm hst.out)
   rw [fD] at hx hy
   obtain ⟨x,hxe⟩:∃ x,x=nth l i:=⟨_,rfl⟩
   obtain ⟨y,hye⟩:∃ y,y=nth m i:=⟨_,rfl⟩
   rw [←hxe] at hc1 hx hstep
   rw [←hye] at hy hstep
   by_cases him:i<m.length
   ·obtain ⟨b',o',rfl,hbb',hc'⟩:=hcell' (by omega)
    have hc1':=(hbw.cell (p:=⟨b',o'+i,none⟩) hbb').trans (hc' i him)
    rw [←hye] at hc1'
    clear hc hcell hc' hcell' hst hxe hye hlb
    have himI:decide ((i:Int)<(m.length:Int))=true:=by simp;omega
    by_cases hge:y+borrow≤x
    ·have hd:decide ((x:Int)-borrow-y<0)=false:=by simp;omega
     go_wp2_with (at_builtin;refine a6 39 Tryz.underlying39 rfl (.tmp 35) (.tmp 37) rfl w.heap.size _ out _ (x-borrow-y) (by omega) rfl hown.out rfl (by omega) hsz ?_)
     intro v' w1 hown' hb'
     have hb1:=hb' _ _ hbw (Ca _)
     clear hown hbw hb'
     have HO:=B8 hown'
     clear hown'
     go_wp2
     go_roundw
     case rel=>exact ⟨i+1,0,_,by go_num,by go_num,by omega,hstep.out.1 hge,HO,hb1⟩
     case measure=>simp [intOf];omega
    ·have hd:decide ((x:Int)-borrow-y<0)=true:=by simp;omega
     go_wp2_with (at_builtin;refine a6 39 Tryz.underlying39 rfl (.tmp 35) (.tmp 37) rfl w.heap.size _ out _ (x+10000-borrow-y) (by omega) rfl hown.out rfl (by omega) hsz ?_)
     intro v' w1 hown' hb'
     have hb1:=hb' _ _ hbw (Ca _)
     clear hown hbw hb'
     have HO:=B8 hown'
     clear hown'
     go_wp2
     go_roundw
     case rel=>exact ⟨i+1,1,_,by go_num,by go_num,by omega,hstep.out.2 (by omega),HO,hb1⟩
     case measure=>simp [intOf];omega
   ·have hy0:y=0:=by rw [hye];exact eL (by omega)
    subst hy0
    clear hc hcell hcell' hst hxe hye hlb
    have himI:decide ((i:Int)<(m.length:Int))=false:=by simp;omega
    by_cases hge:0+borrow≤x
    ·have hd:decide ((x:Int)-borrow<0)=false:=by simp;omega
     go_wp2_with (at_builtin;refine a6 39 Tryz.underlying39 rfl (.tmp 35) (.tmp 37) rfl w.heap.size _ out _ (x-borrow) (by omega) rfl hown.out rfl (by omega) hsz ?_)
     intro v' w1 hown' hb'
     have hb1:=hb' _ _ hbw (Ca _)
     clear hown hbw hb'
     have HO:=B8 hown'
     clear hown'
     go_wp2
     go_roundw
     case rel=>exact ⟨i+1,0,_,by go_num,by go_num,by omega,hstep.out.1 hge,HO,hb1⟩
     case measure=>simp [intOf];omega
    ·have hd:decide ((x:Int)-borrow<0)=true:=by simp;omega
     go_wp2_with (at_builtin;refine a6 39 Tryz.underlying39 rfl (.tmp 35) (.tmp 37) rfl w.heap.size _ out _ (x+10000-borrow) (by omega) rfl hown.out rfl (by omega) hsz ?_)
     intro v' w1 hown' hb'
     have hb1:=hb' _ _ hbw (Ca _)
     clear hown hbw hb'
     have HO:=B8 hown'
     clear hown'
     go_wp2
     go_roundw
     case rel=>exact ⟨i+1,1,_,by go_num,by go_num,by omega,hstep.out.2 (by omega),HO,hb1⟩
     case measure=>simp [intOf];omega
  ·obtain rfl:i=l.length:=by omega
   have hend:=B8 (xZ hst.out hlb hle)
   obtain ⟨po,co,rfl,_,_⟩:=(dz.isU hown.out).slice
   have hoi:=B8 (dz.isU hown.out)
   have hol:=hst.out.len
   have hsb:=B8 (dz.slb hown.out (m:=(lean out).length) (bH out))
   have hoi2:Hid (IsI wr (.slice po l.length co) out):=by unfold Hid;rw [←hol];exact hoi.out
   clear hil hcell hcell' hst hown
   go_wp2_with fail
   refine (gw po l.length co out wr hoi2.out).mono ?_
   rintro e w' ⟨rfl,rfl⟩
   go_wp2_with fail
   go_ret
   refine ⟨_,rfl,?_,hsb.out,hbw⟩
   have:=hoi.out.lean
   unfold IsD
   rw [←hend.out];exact this
end Go.Proofs.YtnkgbocdpngldaaGreatDoor

namespace Go.Proofs.YtnkgbocdpngldaaGreatDoor
open Go.RowKit Dg
theorem ni (z:Int):sgn (decide (z<0)) z.natAbs=z:=by
 unfold sgn
 by_cases h:z<0
 ·simp [h];omega
 ·simp [h];omega
theorem Al (x y:Int):sgn (decide (x<0) != decide (y<0)) (x.natAbs*y.natAbs)=x*y:=by
 have hx:=ni x
 have hy:=ni y
 generalize decide (x<0)=a at *
 generalize decide (y<0)=b at *
 rw [←hx,←hy,jk,jk]
 unfold sgn
 cases a<;>cases b<;>simp [Int.neg_mul,Int.mul_neg]
def Bs (l m lo:List Nat) (i k c:Nat) (lo1:List Nat):Prop:=(k≤m.length∧RIn lo m (nth l i) i k c lo1)∨(k=m.length+1∧c=0∧oW l m (i+1) lo1)
theorem zz (va vb:Value) (x y:Int) (w:World) (ha:IsZ w va x) (hb:IsZ w vb y) (hla:(ar RR x.natAbs).length<1000000) (hlb:(ar RR y.natAbs).length<1000000) :
  Calls Tryz.prog 208 #[va,vb] w fun e w'=>∃ v,e=.returned v∧IsZ w' v (x*y)∧Below w.heap.size w w':=by
 obtain ⟨vd,rfl,hd⟩:=ha
 obtain ⟨ve,rfl,he⟩:=hb
 obtain ⟨l,hl⟩:∃ l,l=ar RR x.natAbs:=⟨_,rfl⟩
 obtain ⟨m,hm⟩:∃ m,m=ar RR y.natAbs:=⟨_,rfl⟩
 have hvl:val RR l=x.natAbs:=by rw [hl];exact az aE _
 have hvm:val RR m=y.natAbs:=by rw [hm];exact az aE _
 have hcl:∀ d∈l,d<RR:=by rw [hl];exact (aN _).1
 have hcm:∀ d∈m,d<RR:=by rw [hm];exact (aN _).1
 unfold IsD at hd he
 rw [←hl] at hd hla
 rw [←hm] at he hlb
 have HS:=B8 (Al x y)
 clear hl hm
 obtain ⟨ma,hma⟩:∃ ma,ma=decide (x<0):=⟨_,rfl⟩
 obtain ⟨mb,hmb⟩:∃ mb,mb=decide (y<0):=⟨_,rfl⟩
 rw [←hma,←hmb,←hvl,←hvm] at HS
 rw [←hma,←hmb]
 clear hma hmb hvl hvm
 obtain ⟨p,cap,rfl,hlc,hcp,hcell⟩:=hd
 obtain ⟨p',cap',rfl,hlc',hcp',hcell'⟩:=he
 unfold maxLen at hcp hcp'
 obtain ⟨w1,hw1⟩:∃ w1:World,w1=((w.alloc (.cells #[.bool ma,.slice p l.length cap] 171)).alloc (.cells #[.bool mb,.slice p' m.length cap'] 171)).alloc (.cells #[.bool false,.slice none 0 0] 171):=⟨_,rfl⟩
 have hb1:Below w.heap.size w w1:=by rw [hw1];exact (((Below.refl _ _).alloc (Ca _) _).alloc (by simp) _).alloc (by simp;omega) _
 have s0:w1.heap[w.heap.size]?=some (.cells #[.bool ma,.slice p l.length cap] 171 (0,0)):=by rw [hw1];exact (heap_alloc_old _ _ (by simp;omega)).trans ((heap_alloc_old _ _ (by simp)).trans (heap_alloc_new _ _))
 have s1:w1.heap[w.heap.size+1]?=some (.cells #[.bool mb,.slice p' m.length cap'] 171 (0,0)):=by
  rw [hw1]
  refine (heap_alloc_old _ _ (by simp)).trans ?_
  have:=heap_alloc_new (w.alloc (.cells #[.bool ma,.slice p l.length cap] 171)) (.cells #[.bool mb,.slice p' m.length cap'] 171)
  simpa using this
 have s2:w1.heap[w.heap.size+1+1]?=some (.cells #[.bool false,.slice none 0 0] 171 (0,0)):=by
  rw [hw1]
  have:=heap_alloc_new ((w.alloc (.cells #[.bool ma,.slice p l.length cap] 171)).alloc (.cells #[.bool mb,.slice p' m.length cap'] 171)) (.cells #[.bool false,.slice none 0 0] 171)
  simpa using this
 have hsz:w1.heap.size=w.heap.size+1+1+1:=by rw [hw1];simp
 have HSZ:=B8 hsz
 have x0:=aa s0 1
 have x1:=aa s1 1
 go_enter Tryz.func208,Tryz.ntmps208
 go_upto_region 1 with fail
 rw [←hw1]
 clear hw1 hsz
 go_wp2_with (at_make;refine jN 39 Tryz.underlying39 rfl (.tmp 16) (.tmp 16) rfl _ _ (l.length+m.length) rfl rfl (by simp) (by simp) ?c1 ?_)
 case c1=>omega
 intro w0 hrow hb0 hs0
 have hbz:=hb0 _ _ (Below.refl _ _) (Ca _)
 clear hb0 x0 x1
 have HB1:=B8 hb1
 clear hb1
 go_wp2
 go_loopw [6] (fun s6 wr=>∃ (i:Nat) (lo:List Nat),i≤l.length∧s6=.int .i64 i∧Hid (oW l m i lo)∧Hid (dR wr w1.heap.size (l.length+m.length) lo)∧Below w1.heap.size w1 wr) (fun s6 _=>l.length-(intOf s6).toNat)
 case atStart=>exact ⟨0,_,Cw _,rfl,ti l m,hrow,hbz⟩
 case round =>
  obtain ⟨i,lo,hi,rfl,hout,hro,hbw⟩:=hrel
  clear hrow hbz hs0
  have r0:=(hbw.block _ (by have:=HSZ.out;omega)).trans s0
  have r1:=(hbw.block _ (by have:=HSZ.out;omega)).trans s1
  have x0:=aa r0 1
  by_cases h0:i<l.length
  ·obtain ⟨b,o,rfl,hbb,hc⟩:=hcell (by omega)
   have hbb1:b<w1.heap.size:=Cc hbb HB1.out.size
   have hc0:=(HB1.out.cell (p:=⟨b,o+i,none⟩) hbb).trans (hc i h0)
   have hx:=de hcl h0
   rw [fD] at hx
   have hlen:=B8 hout.out.len
   clear hc hcell r0 r1
   go_wp2_with fail
   clear x0
   go_loopw [7,8] (fun s7 s8 wq=>∃ (k c:Nat) (lo1:List Nat),s7=.int .i64 c∧s8=.int .i64 k∧k≤m.length+1∧Bs l m lo i k c lo1∧Hid (dR wq w1.heap.size (l.length+m.length) lo1)∧Below w1.heap.size w1 wq) (fun _ s8 _=>m.length+1-(intOf s8).toNat)
   case atStart=>exact ⟨0,0,lo,rfl,rfl,Cw _,Or.inl ⟨Cw _,vQ lo m _ i hout.out.dig⟩,hro,hbw⟩
   case round =>
    obtain ⟨k,c,lo1,rfl,rfl,hk1,hmi,hro1,hbw1⟩:=hrel
    clear hbw hro
    have r0:=(hbw1.block _ (by have:=HSZ.out;omega)).trans s0
    have r1:=(hbw1.block _ (by have:=HSZ.out;omega)).trans s1
    have x0:=aa r0 1
    have x1:=aa r1 1
    clear r0 r1
    rcases hmi with ⟨hk,hin⟩ | ⟨rfl,rfl,hend⟩
    ·have hcar:c<10000:=hin.car
     have hlen1:lo1.length=l.length+m.length:=by rw [hin.len];exact hlen.out
     by_cases hk0:k<m.length
     ·obtain ⟨b',o',rfl,hbb',hc'⟩:=hcell' (by omega)
      have hc1':=((HB1.out.trans (hbw1.mono HB1.out.size)).cell (p:=⟨b',o'+k,none⟩) hbb').trans (hc' k hk0)
      have hc1:=(hbw1.cell (p:=⟨b,o+i,none⟩) hbb1).trans hc0
      have hik:i+k<lo1.length:=by omega
      have hy:=de hcm hk0
      have hoc:=de hin.dig hik
      rw [fD] at hy hoc
      have hxy:nth l i*nth m k≤9999*9999:=DF (by omega) (by omega)
      have hxy0:0≤(nth l i:Int)*(nth m k:Int):=by omega
      have hxy1:(nth l i:Int)*(nth m k:Int)≤99980001:=by omega
      have hkI:decide ((k:Int)<(m.length:Int))=true:=by simp;omega
      have ho:=hro1.out.cell hik
      have hf:=hro1.out.free (i+k)
      have hst:=B8 (yJ hin hk0 (by rw [hlen.out];omega) (by rw [fD];exact hx) hcm)
      simp only [fD] at hst
      clear hc' hcell' hin
      go_wp2_with fail
      go_quiet (fail)
      go_wp2_with fail
      go_roundw
      case rel=>exact ⟨k+1,_,_,by go_num,by go_num,by omega,Or.inl ⟨by omega,hst.out⟩,hro1.out.set (i+k) _ _ (by go_num),(below_drewN hbw1 _).setCell (p:=⟨w1.heap.size,i+k,none⟩) (Ca _) _⟩
      case measure=>simp [intOf]<;>omega
     ·obtain rfl:k=m.length:=by omega
      have hkI:decide ((m.length:Int)<(m.length:Int))=false:=by simp
      by_cases hc0':0<c
      ·have hcI:decide ((0:Int)<(c:Int))=true:=by simp;omega
       have hik:i+m.length<lo1.length:=by omega
       have hz:=vR hout.out hin
       have ho:=hro1.out.cell hik
       rw [hz] at ho
       have hf:=hro1.out.free (i+m.length)
       have hst:=B8 (th hout.out h0 hin)
       clear hin hz
       go_wp2_with fail
       go_roundw
       case rel=>exact ⟨m.length+1,0,_,by go_num,by go_num,by omega,Or.inr ⟨rfl,rfl,hst.out⟩,hro1.out.set (i+m.length) _ _ (by go_num),hbw1.setCell (p:=⟨w1.heap.size,i+m.length,none⟩) (Ca _) _⟩
       case measure=>simp [intOf]<;>omega
      ·obtain rfl:c=0:=by omega
       have hst:=B8 (tg hout.out h0 hin)
       clear hin
       go_wp2_with fail
       go_roundw
       case rel=>exact ⟨i+1,_,by omega,by go_num,hst.out,hro1,hbw1⟩
       case measure=>simp [intOf]<;>omega
    ·have hkI:decide (((m.length+1:Nat):Int)<(m.length:Int))=false:=by simp<;>omega
     have HE:=B8 hend
     clear hend
     go_wp2_with fail
     go_roundw
     case rel=>exact ⟨i+1,_,by omega,by go_num,HE.out,hro1,hbw1⟩
     case measure=>simp [intOf]<;>omega
  ·obtain rfl:i=l.length:=by omega
   have x1:=aa r1 1
   have y0:=aa r0 0
   have y1:=aa r1 0
   have hiI:decide ((l.length:Int)<(l.length:Int))=false:=by simp
   have hlen:=hout.out.len
   have hend:=B8 (yL hout.out)
   have hdig:=B8 hout.out.dig
   have r2:=(hbw.block _ (by have:=HSZ.out;omega)).trans s2
   have hib:Hid (IsI wr (.slice (some ⟨w1.heap.size,0,none⟩) (l.length+m.length) (l.length+m.length)) lo):=by
    have:=hro.out.isU
    rw [hlen] at this
    exact this
   clear h0 hcell hcell' hout hro r0 r1
   go_wp2_with fail
   refine (dZ (!(ma == mb)) _ lo wr hib.out hdig.out).mono ?_
   rintro e w5 ⟨v',rfl,hz,hb5⟩
   have hval:val RR lo=val RR l*val RR m:=by
    have:=congrArg (val RR) hend.out
    rw [nB,az aE] at this
    exact this
   rw [hval] at hz
   have hz2:IsZ w5 v' (x*y):=by rw [←HS.out];exact hz
   obtain ⟨vd,rfl,hd5⟩:=hz2
   obtain ⟨pd,cd,rfl,hcd,hcm⟩:=hd5.slice
   have r2':=(hb5.block _ (ac r2)).trans r2
   have hbB:=HB1.out.trans (hbw.mono HB1.out.size)
   have hbC:=hbB.trans (hb5.mono hbB.size)
   have hsz5:w.heap.size+1+1<w5.heap.size:=ac r2'
   have q0:=aa r2' 0
   have q1:=aa r2' 1
   have f0:=frozen_of_row w5 (w.heap.size+1+1) 0 _ _ r2'
   have f1:=frozen_of_row w5 (w.heap.size+1+1) 1 _ _ r2'
   generalize (ar RR (x*y).natAbs).length=N at hcd hd5 ⊢
   generalize hsg:decide (x*y<0)=sg at hz ⊢
   have hrow:Hid (((w5.setCell ⟨w.heap.size+1+1,0,none⟩ (.bool sg)).setCell ⟨w.heap.size+1+1,1,none⟩ (.slice pd N cd)).heap[w.heap.size+1+1]?=some (.cells #[.bool sg,.slice pd N cd] 171 (0,0))):=pP r2' _ _
   have hfin:Hid (Below w.heap.size w ((w5.setCell ⟨w.heap.size+1+1,0,none⟩ (.bool sg)).setCell ⟨w.heap.size+1+1,1,none⟩ (.slice pd N cd))):=(hbC.setCell (p:=⟨w.heap.size+1+1,0,none⟩) (by show w.heap.size≤w.heap.size+1+1;omega) _).setCell (p:=⟨w.heap.size+1+1,1,none⟩) (by show w.heap.size≤w.heap.size+1+1;omega) _
   have hend5:Hid (IsZ ((w5.setCell ⟨w.heap.size+1+1,0,none⟩ (.bool sg)).setCell ⟨w.heap.size+1+1,1,none⟩ (.slice pd N cd)) (.agg #[.bool sg,.slice pd N cd]) (x*y)) :=
    ⟨_,by rw [hsg],IsI.two r2' (fun z=>by simp) (fun z=>by simp) hd5 _ _⟩
   unfold maxLen at hcm
   clear r2 r2' hz hd5 hsg y0 y1 x0 x1 s0 s1 s2 hbC hbB
   go_wp2_with fail
   (try simp only [Exit.inBlock,Exit.then])
   refine bodyPost_ret (results_cell_row rfl _ _ (w.heap.size+1+1) _ _ (0,0) _ rfl hrow.out Tryz.underlying171 rfl (by kernel_rfl)) rfl ?_
   exact ⟨_,rfl,hend5.out,hfin.out⟩
end Go.Proofs.YtnkgbocdpngldaaGreatDoor
