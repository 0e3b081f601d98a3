/- Lemmas of this claim. -/
import Derived.Test.YtnkgbocdpngldaaGreatDoorXName
import Derived.Test.YtnkgbocdpngldaaGreatDoorXRS6
set_option linter.all false
set_option maxRecDepth 100000
set_option maxHeartbeats 8000000
namespace Go.Proofs.YtnkgbocdpngldaaGreatDoor
open Go.RowKit Dc Dg
theorem nz (s:ByteArray) (w:World) :
  Calls Tryz.prog 73 #[.string s] w fun e w'=>e=.returned (.bool (bF s.data.toList))∧w'=w:=by
 have hsl:Hid (s.data.toList.length=s.size):=by unfold Hid;simp
 by_cases h0:s.size<1
 ·have HS:Hid (bF s.data.toList=false):=by unfold Hid bF;rw[hsl.out,decide_eq_false (show ¬ 1≤s.size by omega),Ex,Bool.false_and]
  have hd:decide ((s.size:Int)<1)=true:=by simp;omega
  clear h0
  go_enter Tryz.func73,Tryz.ntmps73
  go_wp2
  go_ret
  exact⟨by rw[HS.out];rfl,rfl⟩
 ·have hd:decide ((s.size:Int)<1)=false:=by simp;omega
  by_cases h16:16<s.size
  ·have HS:Hid (bF s.data.toList=false):=by unfold Hid bF;rw[hsl.out,decide_eq_false (show ¬ s.size≤16 by omega),Ex]
   have hd2:decide ((16:Int)<(s.size:Int))=true:=by simp;omega
   clear h0 h16
   go_enter Tryz.func73,Tryz.ntmps73
   go_wp2
   go_ret
   exact⟨by rw[HS.out];rfl,rfl⟩
  ·have hd2:decide ((16:Int)<(s.size:Int))=false:=by simp;omega
   have hp:0<s.size:=by omega
   have hl0:0<s.data.toList.length:=by rw[hsl.out];exact hp
   have hstep:Hid (bZ s.data.toList 0=(az 0 s[0]&&bZ (s.data.toList.drop 1) 1)):=by
    have:=aF (i:=0) hl0
    rw[Ek] at this
    exact this
   rcases (by omega:(s[0].toNat:Int)<97∨(122:Int)<(s[0].toNat:Int)∨(97≤(s[0].toNat:Int)∧(s[0].toNat:Int)≤122)) with h | h | ⟨h,h'⟩
   ·have hA:decide ((s[0].toNat:Int)<97)=true:=by simp;omega
    have HS:Hid (bF s.data.toList=false):=by unfold Hid bF;rw[hstep.out,show az 0 s[0]=false by unfold az;exact decide_eq_false (by omega)];rfl
    clear h0 h16 h
    go_enter Tryz.func73,Tryz.ntmps73
    go_wp2
    go_ret
    exact⟨by rw[HS.out];rfl,rfl⟩
   ·have hA:decide ((s[0].toNat:Int)<97)=false:=by simp;omega
    have hB:decide ((122:Int)<(s[0].toNat:Int))=true:=by simp;omega
    have HS:Hid (bF s.data.toList=false):=by unfold Hid bF;rw[hstep.out,show az 0 s[0]=false by unfold az;exact decide_eq_false (by omega)];rfl
    clear h0 h16 h
    go_enter Tryz.func73,Tryz.ntmps73
    go_wp2
    go_ret
    exact⟨by rw[HS.out];rfl,rfl⟩
   ·have hA:decide ((s[0].toNat:Int)<97)=false:=by simp;omega
    have hB:decide ((122:Int)<(s[0].toNat:Int))=false:=by simp;omega
    have H1:=C5 h
    have H2:=C5 h'
    have hle16:s.size≤16:=by omega
    clear h0 h16 h h'
    go_enter Tryz.func73,Tryz.ntmps73
    go_wp2
    clear hA hB
    go_loopw [3] (fun s3 wr=>∃ i:Nat,s3=.int .i64 i∧i≤s.size∧(i=0∨0<i)∧Hid (bZ s.data.toList 0=bZ (s.data.toList.drop i) i)∧w=wr) (fun s3 _=>s.size-(intOf s3).toNat)
    case atStart=>exact⟨0,rfl,by omega,by omega,rfl,rfl⟩
    case round =>
     obtain⟨i,rfl,hi,hi0,hx,rfl⟩:=hrel
     by_cases hil:i<s.size
     ·have hl:i<s.data.toList.length:=by rw[hsl.out];exact hil
      have hbyte:Hid (s.data.toList[i]=s[i]):=rfl
      by_cases hlet:97≤(s[i].toNat:Int)∧(s[i].toNat:Int)≤122
      ·have h:=hlet
       clear hlet
       have hA:decide ((s[i].toNat:Int)<97)=false:=by simp;omega
       have hB:decide ((122:Int)<(s[i].toNat:Int))=false:=by simp;omega
       have hC:decide ((s[i].toNat:Int)<48)=false:=by simp;omega
       have hD:decide ((57:Int)<(s[i].toNat:Int))=true:=by simp;omega
       have hE:((s[i].toNat:Int) != 95)=true:=by simp;omega
       have hby:az i s[i]=true:=by unfold az;exact decide_eq_true (by omega)
       have HS:Hid (bZ s.data.toList 0=bZ (s.data.toList.drop (i+1)) (i+1)):=by unfold Hid;rw[hx.out,aF hl,hbyte.out,hby];rfl
       clear h hby hi0
       go_wp2
       go_roundw
       case rel=>exact⟨i+1,by go_num,by omega,by omega,HS,trivial⟩
       case measure=>simp[intOf];omega
      ·have hi1:0<i:=by
        rcases hi0 with h | h
        ·subst h;exact absurd ⟨H1.out,H2.out⟩ hlet
        ·exact h
       rcases (by omega:(s[i].toNat:Int)<48∨(48≤(s[i].toNat:Int)∧(s[i].toNat:Int)≤57)∨(57<(s[i].toNat:Int)∧(s[i].toNat:Int)<95)∨(s[i].toNat:Int)=95∨(s[i].toNat:Int)=96∨122<(s[i].toNat:Int)) with h | h | h | h | h | h
       ·clear hlet
        have hA:decide ((s[i].toNat:Int)<97)=true:=by simp;omega
        have hB:decide ((122:Int)<(s[i].toNat:Int))=false:=by simp;omega
        have hC:decide ((s[i].toNat:Int)<48)=true:=by simp;omega
        have hD:decide ((57:Int)<(s[i].toNat:Int))=false:=by simp;omega
        have hE:((s[i].toNat:Int) != 95)=true:=by simp;omega
        have hby:az i s[i]=false:=by unfold az;exact decide_eq_false (by omega)
        have HS:Hid (bF s.data.toList=false):=by unfold Hid bF;rw[hx.out,aF hl,hbyte.out,hby];rfl
        clear h hby hi0
        go_wp2
        go_ret
        exact⟨by rw[HS.out];rfl,rfl⟩
       ·clear hlet
        have hA:decide ((s[i].toNat:Int)<97)=true:=by simp;omega
        have hB:decide ((122:Int)<(s[i].toNat:Int))=false:=by simp;omega
        have hC:decide ((s[i].toNat:Int)<48)=false:=by simp;omega
        have hD:decide ((57:Int)<(s[i].toNat:Int))=false:=by simp;omega
        have hE:((s[i].toNat:Int) != 95)=true:=by simp;omega
        have hby:az i s[i]=true:=by unfold az;exact decide_eq_true (by omega)
        have HS:Hid (bZ s.data.toList 0=bZ (s.data.toList.drop (i+1)) (i+1)):=by unfold Hid;rw[hx.out,aF hl,hbyte.out,hby];rfl
        clear h hby hi0
        go_wp2
        go_roundw
        case rel=>exact⟨i+1,by go_num,by omega,by omega,HS,trivial⟩
        case measure=>simp[intOf];omega
       ·clear hlet
        have hA:decide ((s[i].toNat:Int)<97)=true:=by simp;omega
        have hB:decide ((122:Int)<(s[i].toNat:Int))=false:=by simp;omega
        have hC:decide ((s[i].toNat:Int)<48)=false:=by simp;omega
        have hD:decide ((57:Int)<(s[i].toNat:Int))=true:=by simp;omega
        have hE:((s[i].toNat:Int) != 95)=true:=by simp;omega
        have hby:az i s[i]=false:=by unfold az;exact decide_eq_false (by omega)
        have HS:Hid (bF s.data.toList=false):=by unfold Hid bF;rw[hx.out,aF hl,hbyte.out,hby];rfl
        clear h hby hi0
        go_wp2
        go_ret
        exact⟨by rw[HS.out];rfl,rfl⟩
       ·clear hlet
        have hA:decide ((s[i].toNat:Int)<97)=true:=by simp;omega
        have hB:decide ((122:Int)<(s[i].toNat:Int))=false:=by simp;omega
        have hC:decide ((s[i].toNat:Int)<48)=false:=by simp;omega
        have hD:decide ((57:Int)<(s[i].toNat:Int))=true:=by simp;omega
        have hE:((s[i].toNat:Int) != 95)=false:=by simp;omega
        have hby:az i s[i]=true:=by unfold az;exact decide_eq_true (by omega)
        have HS:Hid (bZ s.data.toList 0=bZ (s.data.toList.drop (i+1)) (i+1)):=by unfold Hid;rw[hx.out,aF hl,hbyte.out,hby];rfl
        clear h hby hi0
        go_wp2
        go_roundw
        case rel=>exact⟨i+1,by go_num,by omega,by omega,HS,trivial⟩
        case measure=>simp[intOf];omega
       ·clear hlet
        have hA:decide ((s[i].toNat:Int)<97)=true:=by simp;omega
        have hB:decide ((122:Int)<(s[i].toNat:Int))=false:=by simp;omega
        have hC:decide ((s[i].toNat:Int)<48)=false:=by simp;omega
        have hD:decide ((57:Int)<(s[i].toNat:Int))=true:=by simp;omega
        have hE:((s[i].toNat:Int) != 95)=true:=by simp;omega
        have hby:az i s[i]=false:=by unfold az;exact decide_eq_false (by omega)
        have HS:Hid (bF s.data.toList=false):=by unfold Hid bF;rw[hx.out,aF hl,hbyte.out,hby];rfl
        clear h hby hi0
        go_wp2
        go_ret
        exact⟨by rw[HS.out];rfl,rfl⟩
       ·clear hlet
        have hA:decide ((s[i].toNat:Int)<97)=false:=by simp;omega
        have hB:decide ((122:Int)<(s[i].toNat:Int))=true:=by simp;omega
        have hC:decide ((s[i].toNat:Int)<48)=false:=by simp;omega
        have hD:decide ((57:Int)<(s[i].toNat:Int))=true:=by simp;omega
        have hE:((s[i].toNat:Int) != 95)=true:=by simp;omega
        have hby:az i s[i]=false:=by unfold az;exact decide_eq_false (by omega)
        have HS:Hid (bF s.data.toList=false):=by unfold Hid bF;rw[hx.out,aF hl,hbyte.out,hby];rfl
        clear h hby hi0
        go_wp2
        go_ret
        exact⟨by rw[HS.out];rfl,rfl⟩
     ·obtain rfl:i=s.size:=by omega
      have HS:Hid (bF s.data.toList=true):=by
       unfold Hid bF
       rw[hx.out,hsl.out,Dz (by rw[hsl.out];omega),decide_eq_true (show 1≤s.size by omega),decide_eq_true hle16]
       rfl
      clear hil
      go_wp2
      go_ret
      exact⟨by rw[HS.out];rfl,rfl⟩
structure le (w:World) (k:Nat) (g:ByteArray) (p:Option Addr) (n c:Nat):Prop where
 row:w.heap[k]?=some (.cells #[.string g,.slice p n c] 62 (0,0))
theorem le.below {w w':World}{k:Nat}{g:ByteArray}{p:Option Addr}{n c:Nat} (h:le w k g p n c) (hb:Below w.heap.size w w'):le w' k g p n c:=⟨(hb.block _ (ae h.row)).trans h.row⟩
theorem le.new (w:World) (g:ByteArray) (p:Option Addr) (n c:Nat):le (w.alloc (.cells #[.string g,.slice p n c] 62)) w.heap.size g p n c:=⟨heap_alloc_new _ _⟩
theorem le.c0 {w:World}{k:Nat}{g:ByteArray}{p:Option Addr}{n c:Nat} (h:le w k g p n c):w.cell? ⟨k,0,none⟩=some (.string g):=aa h.row 0
theorem le.c1 {w:World}{k:Nat}{g:ByteArray}{p:Option Addr}{n c:Nat} (h:le w k g p n c):w.cell? ⟨k,1,none⟩=some (.slice p n c):=aa h.row 1
theorem yv (g:ByteArray) (p:Option Addr) (c:Nat) (l:List Rg) (k:Nat) (w:World) (hl:cT w p l) (hn:l.length<1000000) (hk:k<l.length) :
  Calls Tryz.prog 93 #[.agg #[.string g,.slice p l.length c],.int .i64 k] w fun e w'=>e=.returned (.bool (dx l l.length k))∧Below w.heap.size w w':=by
 have hl1:Below w.heap.size w (w.alloc (.cells #[.string g,.slice p l.length c] 62)):=(Below.refl _ _).alloc (C6 _) _
 have hgb:=le.new w g p l.length c
 have HL:=hl.below hl1
 clear hl
 go_enter Tryz.func93,Tryz.ntmps93
 go_upto_region 1 with fail
 generalize w.alloc (.cells #[.string g,.slice p l.length c] 62)=w1 at *
 go_wp2_with fail
 go_loopw [1,5] (fun s1 s5 wr=>∃ (j i:Nat),s1=.int .i64 j∧s5=.int .i64 i∧i≤l.length∧j<l.length∧cT wr p l∧le wr w.heap.size g p l.length c∧Below w.heap.size w wr∧Hid (dx l l.length k=dx l (l.length-i) j)) (fun _ s5 _=>l.length-(intOf s5).toNat)
 case atStart=>exact⟨k,0,rfl,rfl,by omega,hk,HL,hgb,hl1,rfl⟩
 case round =>
  clear HL hgb hl1 hk
  obtain⟨j,i,rfl,rfl,hi,hj,HL,hgb,HB,hx⟩:=hrel
  have x0:=hgb.c0
  have x1:=hgb.c1
  by_cases hil:i<l.length
  ·have hstep:=g9 (l:=l) (m:=l.length-i-1) hj
   rw[show l.length-i-1+1=l.length-i by omega] at hstep
   obtain⟨b,o,rfl,hbw,hcs⟩:=HL.at_ (by omega)
   obtain⟨q1,c1,q2,c2,hr⟩:=hcs j hj
   obtain⟨r,hre⟩:∃ r,r=l[j]:=⟨_,rfl⟩
   rw[←hre] at hr hstep
   have e1:=hr.d1
   have hjI:(j:Int)<((l.length:Nat):Int):=by omega
   clear hre hr hcs
   by_cases hne:r.next.data.toList=[]
   ·have z1:(r.next.toList == [])=true:=by rw[aj,hne];rfl
    rw[if_pos hne] at hstep
    have HS:=C5 (hx.out.trans hstep)
    clear hne hstep
    go_wp2
    go_ret
    exact⟨by rw[HS.out];rfl,HB⟩
   ·have z1:(r.next.toList == [])=false:=by rw[aj];simpa using hne
    rw[if_neg hne] at hstep
    have hzr:=bH l r.next.data.toList
    have HF:Hid (aQ wr 87 #[.agg #[.string g,.slice (some ⟨b,o,none⟩) l.length c],.string r.next] ((.int .i64 (aE l r.next.data.toList)))):=fun y=>ax.calls (fG g _ c l r.next y.w (HL.below y.h) hn)
    generalize aE l r.next.data.toList=z at *
    have HS:=C5 (hx.out.trans hstep)
    have HJ:=C5 hj
    clear hne hstep
    go_upto_region 6 with fail
    have y0:∀ y:ax wr,y.w.cell? ⟨w.heap.size,0,none⟩=some (.string g):=fun y=>(y.cell (ae hgb.row)).trans x0
    have y1:∀ y:ax wr,y.w.cell? ⟨w.heap.size,1,none⟩=some (.slice (some ⟨b,o,none⟩) l.length c):=fun y=>(y.cell (ae hgb.row)).trans x1
    have y2:∀ y:ax wr,y.w.cell? ⟨b,o+j*7+1,none⟩=some (.string r.next):=fun y=>(y.cell hbw).trans e1
    clear x0 x1 e1
    refine ai (by kernel_rfl) (by kernel_rfl) ?_
    repeat (go_big_quiet_step ((go_at_call 87;exact HF.out _)))
    refine wpQuiet_nil ?_
    rintro _ ⟨⟨w2,hbN⟩,rfl⟩
    have HL2:=HL.below hbN
    have hgb2:=hgb.below hbN
    have HB2:=HB.trans (hbN.mono HB.size)
    clear HF y0 y1 y2 HL hgb HB hbN
    by_cases hz:z<0
    ·have hz1:decide (z<0)=true:=by simp;omega
     have HS2:Hid (dx l l.length k=false):=by unfold Hid;rw[HS.out,if_pos hz]
     clear hz
     go_wp2
     go_ret
     exact⟨by rw[HS2.out];rfl,HB2⟩
    ·have hz1:decide (z<0)=false:=by simp;omega
     obtain⟨t,rfl⟩:∃ t:Nat,z=(t:Int):=⟨z.toNat,by omega⟩
     have HS2:Hid (dx l l.length k=dx l (l.length-(i+1)) t):=by unfold Hid;rw[HS.out,if_neg hz,Dr];congr 1
     clear hz
     go_wp2
     go_roundw
     case rel=>exact⟨t,i+1,rfl,by go_num,by omega,by omega,HL2,hgb2,HB2,HS2⟩
     case measure=>simp[intOf];omega
  ·obtain rfl:i=l.length:=by omega
   have HS2:Hid (dx l l.length k=false):=by unfold Hid;rw[hx.out,Fj];rfl
   clear hil
   go_wp2
   go_ret
   exact⟨by rw[HS2.out];rfl,HB⟩
def f9 (l:List Rg) (names:List ByteArray):Bool:=kR l names (-1)&&decide (0<names.length)
theorem wK (g:ByteArray) (p:Option Addr) (c:Nat) (l:List Rg) (q:Option Addr) (cq:Nat) (names:List ByteArray) (w:World) (hl:cT w p l) (hw:cV w q names) (hn:l.length<1000000) (hnl:names.length≤1000000000000000) :
  Calls Tryz.prog 94 #[.agg #[.string g,.slice p l.length c],.slice q names.length cq] w fun e w'=>e=.returned (.bool (f9 l names))∧Below w.heap.size w w':=by
 have hl1:Below w.heap.size w (w.alloc (.cells #[.string g,.slice p l.length c] 62)):=(Below.refl _ _).alloc (C6 _) _
 have hgb:=le.new w g p l.length c
 have HL:=hl.below hl1
 have HW:=hw.below hl1
 clear hl hw
 go_enter Tryz.func94,Tryz.ntmps94
 go_upto_region 1 with fail
 generalize w.alloc (.cells #[.string g,.slice p l.length c] 62)=w1 at *
 go_wp2_with fail
 go_loopw [5,6] (fun s5 s6 wr=>∃ (z:Int) (i:Nat),s5=.int .i64 z∧s6=.int .i64 i∧i≤names.length∧-1≤z∧z<1000000∧cT wr p l∧cV wr q names∧le wr w.heap.size g p l.length c∧Below w.heap.size w wr∧Hid (kR l names (-1)=kR l (names.drop i) z)) (fun _ s6 _=>names.length-(intOf s6).toNat)
 case atStart=>exact⟨-1,0,rfl,rfl,by omega,by omega,by omega,HL,HW,hgb,hl1,rfl⟩
 case round =>
  clear HL HW hgb hl1
  obtain⟨z,i,rfl,rfl,hi,hz1,hz2,HL,HW,hgb,HB,hx⟩:=hrel
  by_cases hil:i<names.length
  ·have hstep:=lB (l:=l) (z:=z) hil
   obtain⟨b,o,rfl,hbw,hcs⟩:=HW.at_ (by omega)
   have e1:=hcs i hil
   obtain⟨nm,hnm⟩:∃ nm,nm=names[i]:=⟨_,rfl⟩
   rw[←hnm] at e1 hstep
   have hzr:=bH l nm.data.toList
   have HF:Hid (aQ wr 87 #[.agg #[.string g,.slice p l.length c],.string nm] ((.int .i64 (aE l nm.data.toList)))):=fun y=>ax.calls (fG g _ c l nm y.w (HL.below y.h) hn)
   generalize aE l nm.data.toList=t at *
   have HS:=C5 (hx.out.trans hstep)
   clear hcs hnm hstep
   go_upto_region 5 with fail
   have y0:∀ y:ax wr,y.w.cell? ⟨w.heap.size,0,none⟩=some (.string g):=fun y=>(y.cell (ae hgb.row)).trans hgb.c0
   have y1:∀ y:ax wr,y.w.cell? ⟨w.heap.size,1,none⟩=some (.slice p l.length c):=fun y=>(y.cell (ae hgb.row)).trans hgb.c1
   have y2:∀ y:ax wr,y.w.cell? ⟨b,o+i,none⟩=some (.string nm):=fun y=>(y.cell hbw).trans e1
   clear e1
   refine ai (by kernel_rfl) (by kernel_rfl) ?_
   repeat (go_big_quiet_step ((go_at_call 87;exact HF.out _)))
   refine wpQuiet_nil ?_
   rintro _ ⟨⟨w2,hbN⟩,rfl⟩
   have HL2:=HL.below hbN
   have HW2:=HW.below hbN
   have hgb2:=hgb.below hbN
   have HB2:=HB.trans (hbN.mono HB.size)
   clear HF y0 y1 y2 HL HW hgb HB hbN
   by_cases hz:t≤z
   ·have hz3:decide (t≤z)=true:=by simp;omega
    have HS2:Hid (f9 l names=false):=by unfold Hid f9;rw[HS.out,if_pos hz];rfl
    clear hz
    go_wp2
    go_ret
    exact⟨by rw[HS2.out];rfl,HB2⟩
   ·have hz3:decide (t≤z)=false:=by simp;omega
    have HS2:Hid (kR l names (-1)=kR l (names.drop (i+1)) t):=by unfold Hid;rw[HS.out,if_neg hz]
    clear hz
    go_wp2
    go_roundw
    case rel=>exact⟨t,i+1,rfl,by go_num,by omega,by omega,by omega,HL2,HW2,hgb2,HB2,HS2⟩
    case measure=>simp[intOf];omega
  ·obtain rfl:i=names.length:=by omega
   have HS2:Hid (f9 l names=decide (0<names.length)):=by unfold Hid f9;rw[hx.out,Ey];rfl
   have hd:Hid (decide ((0:Int)<(names.length:Int))=decide (0<names.length)):=by unfold Hid;rw[decide_eq_decide];omega
   clear hil
   go_wp2
   go_ret
   exact⟨by rw[HS2.out,←hd.out];rfl,HB⟩
end Go.Proofs.YtnkgbocdpngldaaGreatDoor
