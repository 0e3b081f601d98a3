/- Lemmas of this claim. -/
import Derived.Test.YtnkgbocdpngldaaGreatDoorWName
import Derived.Test.YtnkgbocdpngldaaGreatDoorWRS6
set_option linter.all false
set_option maxRecDepth 100000
set_option maxHeartbeats 8000000
namespace Go.Proofs.YtnkgbocdpngldaaGreatDoor
open Go.RowKit Dc Dg
theorem nU (s:ByteArray) (w:World) :
  Calls Tryz.prog 73 #[.string s] w fun e w'=>e=.returned (.bool (bG s.data.toList))∧w'=w:=by
 have hsl:Hid (s.data.toList.length=s.size):=by unfold Hid;simp
 by_cases h0:s.size<1
 ·have HS:Hid (bG s.data.toList=false):=by unfold Hid bG;rw[hsl.out,decide_eq_false (show ¬ 1≤s.size by omega),EV,Bool.false_and]
  have hd:decide ((s.size:Int)<1)=true:=by simp;omega
  clear h0
  go_enter Tryz.func73,Tryz.ntmps73
  go_wp2
  go_ret
  exact⟨by rw[HS.out];rfl,rfl⟩
 ·have hd:decide ((s.size:Int)<1)=false:=by simp;omega
  by_cases h16:16<s.size
  ·have HS:Hid (bG s.data.toList=false):=by unfold Hid bG;rw[hsl.out,decide_eq_false (show ¬ s.size≤16 by omega),EV]
   have hd2:decide ((16:Int)<(s.size:Int))=true:=by simp;omega
   clear h0 h16
   go_enter Tryz.func73,Tryz.ntmps73
   go_wp2
   go_ret
   exact⟨by rw[HS.out];rfl,rfl⟩
  ·have hd2:decide ((16:Int)<(s.size:Int))=false:=by simp;omega
   have hp:0<s.size:=by omega
   have hl0:0<s.data.toList.length:=by rw[hsl.out];exact hp
   have hstep:Hid (b_ s.data.toList 0=(aC 0 s[0]&&b_ (s.data.toList.drop 1) 1)):=by
    have:=aJ (i:=0) hl0
    rw[EC] at this
    exact this
   rcases (by omega:(s[0].toNat:Int)<97∨(122:Int)<(s[0].toNat:Int)∨(97≤(s[0].toNat:Int)∧(s[0].toNat:Int)≤122)) with h | h | ⟨h,h'⟩
   ·have hA:decide ((s[0].toNat:Int)<97)=true:=by simp;omega
    have HS:Hid (bG s.data.toList=false):=by unfold Hid bG;rw[hstep.out,show aC 0 s[0]=false by unfold aC;exact decide_eq_false (by omega)];rfl
    clear h0 h16 h
    go_enter Tryz.func73,Tryz.ntmps73
    go_wp2
    go_ret
    exact⟨by rw[HS.out];rfl,rfl⟩
   ·have hA:decide ((s[0].toNat:Int)<97)=false:=by simp;omega
    have hB:decide ((122:Int)<(s[0].toNat:Int))=true:=by simp;omega
    have HS:Hid (bG s.data.toList=false):=by unfold Hid bG;rw[hstep.out,show aC 0 s[0]=false by unfold aC;exact decide_eq_false (by omega)];rfl
    clear h0 h16 h
    go_enter Tryz.func73,Tryz.ntmps73
    go_wp2
    go_ret
    exact⟨by rw[HS.out];rfl,rfl⟩
   ·have hA:decide ((s[0].toNat:Int)<97)=false:=by simp;omega
    have hB:decide ((122:Int)<(s[0].toNat:Int))=false:=by simp;omega
    have H1:=Do h
    have H2:=Do h'
    have hle16:s.size≤16:=by omega
    clear h0 h16 h h'
    go_enter Tryz.func73,Tryz.ntmps73
    go_wp2
    clear hA hB
    go_loopw [3] (fun s3 wr=>∃ i:Nat,s3=.int .i64 i∧i≤s.size∧(i=0∨0<i)∧Hid (b_ s.data.toList 0=b_ (s.data.toList.drop i) i)∧w=wr) (fun s3 _=>s.size-(intOf s3).toNat)
    case atStart=>exact⟨0,rfl,by omega,by omega,rfl,rfl⟩
    case round =>
     obtain⟨i,rfl,hi,hi0,hx,rfl⟩:=hrel
     by_cases hil:i<s.size
     ·have hl:i<s.data.toList.length:=by rw[hsl.out];exact hil
      have hbyte:Hid (s.data.toList[i]=s[i]):=rfl
      by_cases hlet:97≤(s[i].toNat:Int)∧(s[i].toNat:Int)≤122
      ·have h:=hlet
       clear hlet
       have hA:decide ((s[i].toNat:Int)<97)=false:=by simp;omega
       have hB:decide ((122:Int)<(s[i].toNat:Int))=false:=by simp;omega
       have hC:decide ((s[i].toNat:Int)<48)=false:=by simp;omega
       have hD:decide ((57:Int)<(s[i].toNat:Int))=true:=by simp;omega
       have hE:((s[i].toNat:Int) != 95)=true:=by simp;omega
       have hby:aC i s[i]=true:=by unfold aC;exact decide_eq_true (by omega)
       have HS:Hid (b_ s.data.toList 0=b_ (s.data.toList.drop (i+1)) (i+1)):=by unfold Hid;rw[hx.out,aJ hl,hbyte.out,hby];rfl
       clear h hby hi0
       go_wp2
       go_roundw
       case rel=>exact⟨i+1,by go_num,by omega,by omega,HS,trivial⟩
       case measure=>simp[intOf];omega
      ·have hi1:0<i:=by
        rcases hi0 with h | h
        ·subst h;exact absurd ⟨H1.out,H2.out⟩ hlet
        ·exact h
       rcases (by omega:(s[i].toNat:Int)<48∨(48≤(s[i].toNat:Int)∧(s[i].toNat:Int)≤57)∨(57<(s[i].toNat:Int)∧(s[i].toNat:Int)<95)∨(s[i].toNat:Int)=95∨(s[i].toNat:Int)=96∨122<(s[i].toNat:Int)) with h | h | h | h | h | h
       ·clear hlet
        have hA:decide ((s[i].toNat:Int)<97)=true:=by simp;omega
        have hB:decide ((122:Int)<(s[i].toNat:Int))=false:=by simp;omega
        have hC:decide ((s[i].toNat:Int)<48)=true:=by simp;omega
        have hD:decide ((57:Int)<(s[i].toNat:Int))=false:=by simp;omega
        have hE:((s[i].toNat:Int) != 95)=true:=by simp;omega
        have hby:aC i s[i]=false:=by unfold aC;exact decide_eq_false (by omega)
        have HS:Hid (bG s.data.toList=false):=by unfold Hid bG;rw[hx.out,aJ hl,hbyte.out,hby];rfl
        clear h hby hi0
        go_wp2
        go_ret
        exact⟨by rw[HS.out];rfl,rfl⟩
       ·clear hlet
        have hA:decide ((s[i].toNat:Int)<97)=true:=by simp;omega
        have hB:decide ((122:Int)<(s[i].toNat:Int))=false:=by simp;omega
        have hC:decide ((s[i].toNat:Int)<48)=false:=by simp;omega
        have hD:decide ((57:Int)<(s[i].toNat:Int))=false:=by simp;omega
        have hE:((s[i].toNat:Int) != 95)=true:=by simp;omega
        have hby:aC i s[i]=true:=by unfold aC;exact decide_eq_true (by omega)
        have HS:Hid (b_ s.data.toList 0=b_ (s.data.toList.drop (i+1)) (i+1)):=by unfold Hid;rw[hx.out,aJ hl,hbyte.out,hby];rfl
        clear h hby hi0
        go_wp2
        go_roundw
        case rel=>exact⟨i+1,by go_num,by omega,by omega,HS,trivial⟩
        case measure=>simp[intOf];omega
       ·clear hlet
        have hA:decide ((s[i].toNat:Int)<97)=true:=by simp;omega
        have hB:decide ((122:Int)<(s[i].toNat:Int))=false:=by simp;omega
        have hC:decide ((s[i].toNat:Int)<48)=false:=by simp;omega
        have hD:decide ((57:Int)<(s[i].toNat:Int))=true:=by simp;omega
        have hE:((s[i].toNat:Int) != 95)=true:=by simp;omega
        have hby:aC i s[i]=false:=by unfold aC;exact decide_eq_false (by omega)
        have HS:Hid (bG s.data.toList=false):=by unfold Hid bG;rw[hx.out,aJ hl,hbyte.out,hby];rfl
        clear h hby hi0
        go_wp2
        go_ret
        exact⟨by rw[HS.out];rfl,rfl⟩
       ·clear hlet
        have hA:decide ((s[i].toNat:Int)<97)=true:=by simp;omega
        have hB:decide ((122:Int)<(s[i].toNat:Int))=false:=by simp;omega
        have hC:decide ((s[i].toNat:Int)<48)=false:=by simp;omega
        have hD:decide ((57:Int)<(s[i].toNat:Int))=true:=by simp;omega
        have hE:((s[i].toNat:Int) != 95)=false:=by simp;omega
        have hby:aC i s[i]=true:=by unfold aC;exact decide_eq_true (by omega)
        have HS:Hid (b_ s.data.toList 0=b_ (s.data.toList.drop (i+1)) (i+1)):=by unfold Hid;rw[hx.out,aJ hl,hbyte.out,hby];rfl
        clear h hby hi0
        go_wp2
        go_roundw
        case rel=>exact⟨i+1,by go_num,by omega,by omega,HS,trivial⟩
        case measure=>simp[intOf];omega
       ·clear hlet
        have hA:decide ((s[i].toNat:Int)<97)=true:=by simp;omega
        have hB:decide ((122:Int)<(s[i].toNat:Int))=false:=by simp;omega
        have hC:decide ((s[i].toNat:Int)<48)=false:=by simp;omega
        have hD:decide ((57:Int)<(s[i].toNat:Int))=true:=by simp;omega
        have hE:((s[i].toNat:Int) != 95)=true:=by simp;omega
        have hby:aC i s[i]=false:=by unfold aC;exact decide_eq_false (by omega)
        have HS:Hid (bG s.data.toList=false):=by unfold Hid bG;rw[hx.out,aJ hl,hbyte.out,hby];rfl
        clear h hby hi0
        go_wp2
        go_ret
        exact⟨by rw[HS.out];rfl,rfl⟩
       ·clear hlet
        have hA:decide ((s[i].toNat:Int)<97)=false:=by simp;omega
        have hB:decide ((122:Int)<(s[i].toNat:Int))=true:=by simp;omega
        have hC:decide ((s[i].toNat:Int)<48)=false:=by simp;omega
        have hD:decide ((57:Int)<(s[i].toNat:Int))=true:=by simp;omega
        have hE:((s[i].toNat:Int) != 95)=true:=by simp;omega
        have hby:aC i s[i]=false:=by unfold aC;exact decide_eq_false (by omega)
        have HS:Hid (bG s.data.toList=false):=by unfold Hid bG;rw[hx.out,aJ hl,hbyte.out,hby];rfl
        clear h hby hi0
        go_wp2
        go_ret
        exact⟨by rw[HS.out];rfl,rfl⟩
     ·obtain rfl:i=s.size:=by omega
      have HS:Hid (bG s.data.toList=true):=by
       unfold Hid bG
       rw[hx.out,hsl.out,DP (by rw[hsl.out];omega),decide_eq_true (show 1≤s.size by omega),decide_eq_true hle16]
       rfl
      clear hil
      go_wp2
      go_ret
      exact⟨by rw[HS.out];rfl,rfl⟩
structure ly (w:World) (k:Nat) (g:ByteArray) (p:Option Addr) (n c:Nat):Prop where
 row:w.heap[k]?=some (.cells #[.string g,.slice p n c] 62 (0,0))
theorem ly.below {w w':World}{k:Nat}{g:ByteArray}{p:Option Addr}{n c:Nat} (h:ly w k g p n c) (hb:Below w.heap.size w w'):ly w' k g p n c:=⟨(hb.block _ (ac h.row)).trans h.row⟩
theorem ly.new (w:World) (g:ByteArray) (p:Option Addr) (n c:Nat):ly (w.alloc (.cells #[.string g,.slice p n c] 62)) w.heap.size g p n c:=⟨heap_alloc_new _ _⟩
theorem ly.c0 {w:World}{k:Nat}{g:ByteArray}{p:Option Addr}{n c:Nat} (h:ly w k g p n c):w.cell? ⟨k,0,none⟩=some (.string g):=aa h.row 0
theorem ly.c1 {w:World}{k:Nat}{g:ByteArray}{p:Option Addr}{n c:Nat} (h:ly w k g p n c):w.cell? ⟨k,1,none⟩=some (.slice p n c):=aa h.row 1
theorem yM (g:ByteArray) (p:Option Addr) (c:Nat) (l:List Rg) (k:Nat) (w:World) (hl:cQ w p l) (hn:l.length<1000000) (hk:k<l.length) :
  Calls Tryz.prog 93 #[.agg #[.string g,.slice p l.length c],.int .i64 k] w fun e w'=>e=.returned (.bool (dA l l.length k))∧Below w.heap.size w w':=by
 have hl1:Below w.heap.size w (w.alloc (.cells #[.string g,.slice p l.length c] 62)):=(Below.refl _ _).alloc (Dp _) _
 have hgb:=ly.new w g p l.length c
 have HL:=hl.below hl1
 clear hl
 go_enter Tryz.func93,Tryz.ntmps93
 go_upto_region 1 with fail
 generalize w.alloc (.cells #[.string g,.slice p l.length c] 62)=w1 at *
 go_wp2_with fail
 go_loopw [1,5] (fun s1 s5 wr=>∃ (j i:Nat),s1=.int .i64 j∧s5=.int .i64 i∧i≤l.length∧j<l.length∧cQ wr p l∧ly wr w.heap.size g p l.length c∧Below w.heap.size w wr∧Hid (dA l l.length k=dA l (l.length-i) j)) (fun _ s5 _=>l.length-(intOf s5).toNat)
 case atStart=>exact⟨k,0,rfl,rfl,by omega,hk,HL,hgb,hl1,rfl⟩
 case round =>
  clear HL hgb hl1 hk
  obtain⟨j,i,rfl,rfl,hi,hj,HL,hgb,HB,hx⟩:=hrel
  have x0:=hgb.c0
  have x1:=hgb.c1
  by_cases hil:i<l.length
  ·have hstep:=il (l:=l) (m:=l.length-i-1) hj
   rw[show l.length-i-1+1=l.length-i by omega] at hstep
   obtain⟨b,o,rfl,hbw,hcs⟩:=HL.at_ (by omega)
   obtain⟨q1,c1,q2,c2,hr⟩:=hcs j hj
   obtain⟨r,hre⟩:∃ r,r=l[j]:=⟨_,rfl⟩
   rw[←hre] at hr hstep
   have e1:=hr.d1
   have hjI:(j:Int)<((l.length:Nat):Int):=by omega
   clear hre hr hcs
   by_cases hne:r.next.data.toList=[]
   ·have z1:(r.next.toList == [])=true:=by rw[aj,hne];rfl
    rw[if_pos hne] at hstep
    have HS:=Do (hx.out.trans hstep)
    clear hne hstep
    go_wp2
    go_ret
    exact⟨by rw[HS.out];rfl,HB⟩
   ·have z1:(r.next.toList == [])=false:=by rw[aj];simpa using hne
    rw[if_neg hne] at hstep
    have hzr:=bI l r.next.data.toList
    have HF:Hid (aT wr 87 #[.agg #[.string g,.slice (some ⟨b,o,none⟩) l.length c],.string r.next] ((.int .i64 (aG l r.next.data.toList)))):=fun y=>ax.calls (ej g _ c l r.next y.w (HL.below y.h) hn)
    generalize aG l r.next.data.toList=z at *
    have HS:=Do (hx.out.trans hstep)
    have HJ:=Do hj
    clear hne hstep
    go_upto_region 6 with fail
    have y0:∀ y:ax wr,y.w.cell? ⟨w.heap.size,0,none⟩=some (.string g):=fun y=>(y.cell (ac hgb.row)).trans x0
    have y1:∀ y:ax wr,y.w.cell? ⟨w.heap.size,1,none⟩=some (.slice (some ⟨b,o,none⟩) l.length c):=fun y=>(y.cell (ac hgb.row)).trans x1
    have y2:∀ y:ax wr,y.w.cell? ⟨b,o+j*7+1,none⟩=some (.string r.next):=fun y=>(y.cell hbw).trans e1
    clear x0 x1 e1
    refine ai (by kernel_rfl) (by kernel_rfl) ?_
    repeat (go_big_quiet_step ((go_at_call 87;exact HF.out _)))
    refine wpQuiet_nil ?_
    rintro _ ⟨⟨w2,hbN⟩,rfl⟩
    have HL2:=HL.below hbN
    have hgb2:=hgb.below hbN
    have HB2:=HB.trans (hbN.mono HB.size)
    clear HF y0 y1 y2 HL hgb HB hbN
    by_cases hz:z<0
    ·have hz1:decide (z<0)=true:=by simp;omega
     have HS2:Hid (dA l l.length k=false):=by unfold Hid;rw[HS.out,if_pos hz]
     clear hz
     go_wp2
     go_ret
     exact⟨by rw[HS2.out];rfl,HB2⟩
    ·have hz1:decide (z<0)=false:=by simp;omega
     obtain⟨t,rfl⟩:∃ t:Nat,z=(t:Int):=⟨z.toNat,by omega⟩
     have HS2:Hid (dA l l.length k=dA l (l.length-(i+1)) t):=by unfold Hid;rw[HS.out,if_neg hz,DC];congr 1
     clear hz
     go_wp2
     go_roundw
     case rel=>exact⟨t,i+1,rfl,by go_num,by omega,by omega,HL2,hgb2,HB2,HS2⟩
     case measure=>simp[intOf];omega
  ·obtain rfl:i=l.length:=by omega
   have HS2:Hid (dA l l.length k=false):=by unfold Hid;rw[hx.out,Fe];rfl
   clear hil
   go_wp2
   go_ret
   exact⟨by rw[HS2.out];rfl,HB⟩
def gt (l:List Rg) (names:List ByteArray):Bool:=kX l names (-1)&&decide (0<names.length)
theorem w_ (g:ByteArray) (p:Option Addr) (c:Nat) (l:List Rg) (q:Option Addr) (cq:Nat) (names:List ByteArray) (w:World) (hl:cQ w p l) (hw:c_ w q names) (hn:l.length<1000000) (hnl:names.length≤1000000000000000) :
  Calls Tryz.prog 94 #[.agg #[.string g,.slice p l.length c],.slice q names.length cq] w fun e w'=>e=.returned (.bool (gt l names))∧Below w.heap.size w w':=by
 have hl1:Below w.heap.size w (w.alloc (.cells #[.string g,.slice p l.length c] 62)):=(Below.refl _ _).alloc (Dp _) _
 have hgb:=ly.new w g p l.length c
 have HL:=hl.below hl1
 have HW:=hw.below hl1
 clear hl hw
 go_enter Tryz.func94,Tryz.ntmps94
 go_upto_region 1 with fail
 generalize w.alloc (.cells #[.string g,.slice p l.length c] 62)=w1 at *
 go_wp2_with fail
 go_loopw [5,6] (fun s5 s6 wr=>∃ (z:Int) (i:Nat),s5=.int .i64 z∧s6=.int .i64 i∧i≤names.length∧-1≤z∧z<1000000∧cQ wr p l∧c_ wr q names∧ly wr w.heap.size g p l.length c∧Below w.heap.size w wr∧Hid (kX l names (-1)=kX l (names.drop i) z)) (fun _ s6 _=>names.length-(intOf s6).toNat)
 case atStart=>exact⟨-1,0,rfl,rfl,by omega,by omega,by omega,HL,HW,hgb,hl1,rfl⟩
 case round =>
  clear HL HW hgb hl1
  obtain⟨z,i,rfl,rfl,hi,hz1,hz2,HL,HW,hgb,HB,hx⟩:=hrel
  by_cases hil:i<names.length
  ·have hstep:=lJ (l:=l) (z:=z) hil
   obtain⟨b,o,rfl,hbw,hcs⟩:=HW.at_ (by omega)
   have e1:=hcs i hil
   obtain⟨nm,hnm⟩:∃ nm,nm=names[i]:=⟨_,rfl⟩
   rw[←hnm] at e1 hstep
   have hzr:=bI l nm.data.toList
   have HF:Hid (aT wr 87 #[.agg #[.string g,.slice p l.length c],.string nm] ((.int .i64 (aG l nm.data.toList)))):=fun y=>ax.calls (ej g _ c l nm y.w (HL.below y.h) hn)
   generalize aG l nm.data.toList=t at *
   have HS:=Do (hx.out.trans hstep)
   clear hcs hnm hstep
   go_upto_region 5 with fail
   have y0:∀ y:ax wr,y.w.cell? ⟨w.heap.size,0,none⟩=some (.string g):=fun y=>(y.cell (ac hgb.row)).trans hgb.c0
   have y1:∀ y:ax wr,y.w.cell? ⟨w.heap.size,1,none⟩=some (.slice p l.length c):=fun y=>(y.cell (ac hgb.row)).trans hgb.c1
   have y2:∀ y:ax wr,y.w.cell? ⟨b,o+i,none⟩=some (.string nm):=fun y=>(y.cell hbw).trans e1
   clear e1
   refine ai (by kernel_rfl) (by kernel_rfl) ?_
   repeat (go_big_quiet_step ((go_at_call 87;exact HF.out _)))
   refine wpQuiet_nil ?_
   rintro _ ⟨⟨w2,hbN⟩,rfl⟩
   have HL2:=HL.below hbN
   have HW2:=HW.below hbN
   have hgb2:=hgb.below hbN
   have HB2:=HB.trans (hbN.mono HB.size)
   clear HF y0 y1 y2 HL HW hgb HB hbN
   by_cases hz:t≤z
   ·have hz3:decide (t≤z)=true:=by simp;omega
    have HS2:Hid (gt l names=false):=by unfold Hid gt;rw[HS.out,if_pos hz];rfl
    clear hz
    go_wp2
    go_ret
    exact⟨by rw[HS2.out];rfl,HB2⟩
   ·have hz3:decide (t≤z)=false:=by simp;omega
    have HS2:Hid (kX l names (-1)=kX l (names.drop (i+1)) t):=by unfold Hid;rw[HS.out,if_neg hz]
    clear hz
    go_wp2
    go_roundw
    case rel=>exact⟨t,i+1,rfl,by go_num,by omega,by omega,by omega,HL2,HW2,hgb2,HB2,HS2⟩
    case measure=>simp[intOf];omega
  ·obtain rfl:i=names.length:=by omega
   have HS2:Hid (gt l names=decide (0<names.length)):=by unfold Hid gt;rw[hx.out,EW];rfl
   have hd:Hid (decide ((0:Int)<(names.length:Int))=decide (0<names.length)):=by unfold Hid;rw[decide_eq_decide];omega
   clear hil
   go_wp2
   go_ret
   exact⟨by rw[HS2.out,←hd.out];rfl,HB⟩
theorem kW (n low high:Int) (w:World) :
  Calls Tryz.prog 33 #[.int .i64 n,.int .i64 low,.int .i64 high] w fun e w'=>e=.returned (.bool (decide (low≤n)&&decide (n≤high)))∧Below w.heap.size w w' :=
 (jc n low high w).mono fun _ _ ⟨h,e⟩=>⟨h,by rw[e];exact Below.refl _ _⟩
theorem sP (gs:List Gd) (i:Nat) (n:Nd):d9 gs i n=((decide (0≤n.guard)&&decide (n.guard≤(i:Int)-1))&&gt (ag gs n.guard.toNat) n.rungs):=by
 unfold d9 gt
 generalize kX (ag gs n.guard.toNat) n.rungs (-1)=b
 generalize (decide (0≤n.guard)&&decide (n.guard≤(i:Int)-1))=d
 by_cases h:n.rungs.length=0
 ·simp[h]
 ·rw[decide_eq_false h,decide_eq_true (by omega:0<n.rungs.length)]
  simp
theorem Ab (gs:List Gd) (p:Option Addr) (c:Nat) (i k:Nat) (w:World)
  (hG:bE w p gs) (hX:Gx w) (hi:i<gs.length) (hk:k<(ag gs i).length) (hfew:gs.length≤1000) (hrs:∀ j,j≤i→(ag gs j).length<1000000) (hfit:∀ r∈ag gs i,m9 r) :
  Calls Tryz.prog 74 #[.agg #[.slice p gs.length c],.int .i64 i,.int .i64 k] w fun e w'=>e=.returned (.bool (fE gs i k))∧Below w.heap.size w w':=by
 obtain⟨bg,og,rfl,hbg,hcg⟩:=hG.at_ (by omega)
 obtain⟨q,cq,e0,e1,hR⟩:=hcg i hi
 obtain⟨g,hge⟩:∃ g,g=gs[i]:=⟨_,rfl⟩
 rw[←hge] at e0 e1 hR
 have hra:ag gs i=g.rungs:=by unfold ag;rw[Dq hi,hge]
 rw[hra] at hk hfit
 obtain⟨b,o,rfl,hbw,hcs⟩:=hR.at_ (by omega)
 obtain⟨q1,c1,q2,c2,hr⟩:=hcs k hk
 obtain⟨r,hre⟩:∃ r,r=g.rungs[k]:=⟨_,rfl⟩
 rw[←hre] at hr
 rw[show fE gs i k=dN gs i k g.rungs r by unfold fE;rw[hra,Dq hk,←hre]]
 have hgl:g.rungs.length<1000000:=by rw[←hra];exact hrs i (Dp _)
 have HRS:=Do hrs
 have HRA:=Do hra
 have HRE:=Do hre
 have HGE:=Do hge
 clear hrs hra hre hge hcg hcs
 have d0:=hr.d0;have d1:=hr.d1;have d2:=hr.d2;have d3:=hr.d3;have d4:=hr.d4;have d5:=hr.d5;have d6:=hr.d6
 have S0:=RSt.new w gs (some ⟨bg,og,none⟩) c g (some ⟨b,o,none⟩) cq r q1 c1 q2 c2 hG hR hr.n hr.l hX
 have hfr:m9 r:=hfit r (by rw[HRE.out];exact DH hk)
 have HFR:=Do hfr
 have HK:=Do hk
 clear hr hfit hfr hG hR hX
 go_enter Tryz.func74,Tryz.ntmps74
 go_upto_region 3 with fail
 generalize ((w.alloc (.cells #[.slice (some ⟨bg,og,none⟩) gs.length c] 24)).alloc (.cells #[.string g.name,.slice (some ⟨b,o,none⟩) g.rungs.length cq] 62)).alloc (.cells #[.string r.name,.string r.next,.string r.back,.int .i64 r.tries,.int .i64 r.minutes,.slice q1 r.needs.length c1,.slice q2 r.loops.length c2] 59)=w0 at S0 ⊢
 clear e0 e1 d0 d1 d2 d3 d4 d5 d6
 go_cut [53] from 24 to 53 (fun s53 wx=>∃ bw:Bool,s53=.bool bw∧Hid ((cY g.rungs k r&&dA g.rungs g.rungs.length k)=!bw)∧RSt w wx w.heap.size gs (some ⟨bg,og,none⟩) c g (some ⟨b,o,none⟩) cq r q1 c1 q2 c2)
 case first =>
  have r0:=S0.r0
  go_wp2_with fail
  refine (nU r.name w0).mono ?_
  rintro e w1 ⟨rfl,rfl⟩
  obtain⟨bn,hbn⟩:∃ b,b=bG r.name.data.toList:=⟨_,rfl⟩
  rw[←hbn]
  have HBN:=Do hbn
  clear hbn
  cases bn
  ·have HS:Hid ((cY g.rungs k r&&dA g.rungs g.rungs.length k)=false):=by unfold Hid cY;rw[←HBN.out];rfl
   go_wp2
   go_meet
   exact⟨true,rfl,HS.out,S0⟩
  ·have g0:=S0.g0;have g1:=S0.g1
   go_wp2_with fail
   refine (ej g.name _ cq g.rungs r.name _ S0.R hgl).mono ?_
   rintro e w2 ⟨rfl,hb2⟩
   have S1:=S0.below hb2
   clear S0 hb2 g0 g1 r0
   obtain⟨z1,hz1⟩:∃ z,z=aG g.rungs r.name.data.toList:=⟨_,rfl⟩
   rw[←hz1]
   have HZ1:=Do hz1
   clear hz1
   by_cases hzk:z1=(k:Int)
   ·have hd2:(z1 != (k:Int))=false:=by simp[hzk]
    have HZ:=Do hzk
    clear hzk
    have r3:=S1.r3
    go_wp2_with fail
    refine (jc r.tries 1 4 w2).mono ?_
    rintro e w3 ⟨rfl,hw3⟩
    obtain rfl:=hw3.symm
    obtain⟨bt,hbt⟩:∃ b,b=(decide (1≤r.tries)&&decide (r.tries≤4)):=⟨_,rfl⟩
    rw[←hbt]
    have HBT:=Do hbt
    clear hbt r3
    cases bt
    ·have HS:Hid ((cY g.rungs k r&&dA g.rungs g.rungs.length k)=false):=by unfold Hid cY;rw[←HBT.out];simp
     go_wp2
     go_meet
     exact⟨true,rfl,HS.out,S1⟩
    ·have r4:=S1.r4
     go_wp2_with fail
     refine (jc r.minutes 1 60 w2).mono ?_
     rintro e w4 ⟨rfl,hw4⟩
     obtain rfl:=hw4.symm
     obtain⟨bm,hbm⟩:∃ b,b=(decide (1≤r.minutes)&&decide (r.minutes≤60)):=⟨_,rfl⟩
     rw[←hbm]
     have HBM:=Do hbm
     clear hbm r4
     cases bm
     ·have HS:Hid ((cY g.rungs k r&&dA g.rungs g.rungs.length k)=false):=by unfold Hid cY;rw[←HBM.out];simp
      go_wp2
      go_meet
      exact⟨true,rfl,HS.out,S1⟩
     ·have g0:=S1.g0;have g1:=S1.g1
      go_wp2_with fail
      refine (yM g.name _ cq g.rungs k _ S1.R hgl HK.out).mono ?_
      rintro e w5 ⟨rfl,hb5⟩
      have S2:=S1.below hb5
      clear S1 hb5 g0 g1
      have HSELF:Hid (cY g.rungs k r=true):=by
       unfold Hid cY;rw[←HBN.out,←HBT.out,←HBM.out,←HZ1.out,decide_eq_true HZ.out];rfl
      obtain⟨be,hbe⟩:∃ b,b=dA g.rungs g.rungs.length k:=⟨_,rfl⟩
      rw[←hbe]
      have HBE:=Do hbe
      clear hbe
      cases be
      ·have HS:Hid ((cY g.rungs k r&&dA g.rungs g.rungs.length k)=false):=by unfold Hid;rw[←HBE.out,EV]
       go_wp2
       go_meet
       exact⟨true,rfl,HS.out,S2⟩
      ·have HS:Hid ((cY g.rungs k r&&dA g.rungs g.rungs.length k)=true):=by unfold Hid;rw[←HBE.out,HSELF.out];rfl
       go_wp2
       go_meet
       exact⟨false,rfl,HS.out,S2⟩
   ·have hd2:(z1 != (k:Int))=true:=by simpa using hzk
    have HZ:=Do hzk
    clear hzk
    have HS:Hid ((cY g.rungs k r&&dA g.rungs g.rungs.length k)=false):=by unfold Hid cY;rw[←HZ1.out,decide_eq_false HZ.out];simp
    go_wp2
    go_meet
    exact⟨true,rfl,HS.out,S1⟩
 case rest =>
  obtain⟨bw,rfl,hse,S1⟩:=hcut
  clear S0
  cases bw
  ·have HSE:Hid ((cY g.rungs k r&&dA g.rungs g.rungs.length k)=true):=hse
   clear hse
   have g0:=S1.g0;have g1:=S1.g1;have r2:=S1.r2
   go_wp2_with fail
   refine (ej g.name _ cq g.rungs r.back _ S1.R hgl).mono ?_
   rintro e w5 ⟨rfl,hb5⟩
   have S2:=S1.below hb5
   clear S1 hb5 g0 g1 r2
   obtain⟨zb,hzb⟩:∃ z,z=aG g.rungs r.back.data.toList:=⟨_,rfl⟩
   rw[←hzb]
   have HZB:=Do hzb
   have hzr:=bI g.rungs r.back.data.toList
   rw[←hzb] at hzr
   clear hzb
   go_upto_region 6 with fail
   go_cut [80] from 58 to 80 (fun s80 wx=>∃ bw:Bool,s80=.bool bw∧Hid (f_ g.rungs k r=!bw)∧RSt w wx w.heap.size gs (some ⟨bg,og,none⟩) c g (some ⟨b,o,none⟩) cq r q1 c1 q2 c2)
   case first =>
    by_cases hk0:k=0
    ·have hk1:((k:Int) == 0)=true:=by simp[hk0]
     have hk2:decide ((0:Int)<(k:Int))=false:=by simp;omega
     have D1:=decide_eq_true hk0
     have D2:decide (0<k)=false:=decide_eq_false (by omega)
     have hB:Hid (f_ g.rungs k r=!(!decide (zb=0)||decide (0<r.needs.length))):=by unfold Hid f_;rw[←HZB.out,D1,D2];simp
     have hk3:¬ 0<k:=by omega
     clear hk0 D1 D2
     by_cases hz0:zb=0
     ·have hz1:(zb != 0)=false:=by simp[hz0]
      have r5:=S2.r5
      by_cases hnl:0<r.needs.length
      ·have HB2:Hid (f_ g.rungs k r=false):=by unfold Hid;rw[hB.out,decide_eq_true hnl,Bool.or_true];rfl
       clear hz0
       go_wp2
       go_meet
       exact⟨true,rfl,HB2.out,S2⟩
      ·have HB2:Hid (f_ g.rungs k r=true):=by unfold Hid;rw[hB.out,decide_eq_false hnl,decide_eq_true hz0];rfl
       clear hz0
       go_wp2
       go_meet
       exact⟨false,rfl,HB2.out,S2⟩
     ·have hz1:(zb != 0)=true:=by simpa using hz0
      have HB2:Hid (f_ g.rungs k r=false):=by unfold Hid;rw[hB.out,decide_eq_false hz0];rfl
      clear hz0
      go_wp2
      go_meet
      exact⟨true,rfl,HB2.out,S2⟩
    ·have hk1:((k:Int) == 0)=false:=by simp;omega
     have hk2:decide ((0:Int)<(k:Int))=true:=by simp;omega
     have D1:=decide_eq_false hk0
     have D2:decide (0<k)=true:=decide_eq_true (by omega)
     have hB:Hid (f_ g.rungs k r=(decide (0≤zb)&&decide (zb≤(k:Int)-1))):=by unfold Hid f_;rw[←HZB.out,D1,D2];simp
     have hk3:0<k:=by omega
     clear hk0 D1 D2
     go_wp2_with fail
     refine (jc zb 0 ((k:Int)-1) w5).mono ?_
     rintro e w6 ⟨rfl,hw6⟩
     obtain rfl:=hw6.symm
     rw[←hB.out]
     obtain⟨bk,hbk⟩:∃ b,b=f_ g.rungs k r:=⟨_,rfl⟩
     rw[←hbk]
     have HB2:Hid (f_ g.rungs k r=bk):=hbk.symm
     clear hbk hB
     cases bk
     ·go_wp2
      go_meet
      exact⟨true,rfl,HB2.out,S2⟩
     ·go_wp2
      go_meet
      exact⟨false,rfl,HB2.out,S2⟩
   case rest =>
    obtain⟨bw,rfl,hbb,S3⟩:=hcut
    clear S2
    cases bw
    ·have HBB:Hid (f_ g.rungs k r=true):=hbb
     clear hbb
     have HRR:Hid (dN gs i k g.rungs r=(eA gs i r.needs&&ft r.loops)):=by unfold Hid dN;rw[HSE.out,HBB.out];rfl
     clear HSE HBB hzr HZB
     have r5:=S3.r5
     have hnl:((r.needs.length:Nat):Int)≤1000000000000000:=by have:=HFR.out.needs;omega
     have hll:((r.loops.length:Nat):Int)≤1000000000000000:=by have:=HFR.out.loops;omega
     go_wp2_with fail
     go_loopw [10] (fun s10 wx=>∃ j:Nat,s10=.int .i64 j∧j≤r.needs.length∧RSt w wx w.heap.size gs (some ⟨bg,og,none⟩) c g (some ⟨b,o,none⟩) cq r q1 c1 q2 c2∧Hid ((List.range j).all (dj gs i r.needs)=true)) (fun s10 _=>r.needs.length-(intOf s10).toNat)
     case atStart=>exact⟨0,rfl,by omega,S3,rfl⟩
     case round =>
      clear S3 r5
      obtain⟨j,rfl,hj,S3,hx⟩:=hrel
      have r5:=S3.r5
      by_cases hjl:j<r.needs.length
      ·obtain⟨nb,no,rfl,hnb,hnc⟩:=S3.N.at_ (by omega)
       obtain⟨qn,cn,m0,m1,hWn⟩:=hnc j hjl
       obtain⟨nd,hnd⟩:∃ nd,nd=r.needs[j]:=⟨_,rfl⟩
       rw[←hnd] at m0 m1 hWn
       have HND:=Do (show r.needs[j]?=some nd by rw[Dq hjl,hnd])
       have hnn:nd.rungs.length≤1000000000000000:=HFR.out.names nd (by rw[hnd];exact DH hjl)
       have HNC:=Do hnc
       clear hnd hnc
       obtain⟨ng,names⟩:=nd
       simp only at m0 m1 hWn hnn
       have hl4:=bj wr (.cells #[.int .i64 ng,.slice qn names.length cn] 65)
       have S4:=S3.below hl4.below
       have HW4:=Do (hWn.below hl4.below)
       have HPV:=Do (fun j' (hj':j'<r.needs.length)=>(hl4.below.cell (p:=⟨nb,no+j'*2,none⟩) hnb).trans (Exists.elim (HNC.out j' hj') (fun _ h=>Exists.elim h (fun _ h=>h.1))))
       have hnbA:nb<(wr.alloc (.cells #[.int .i64 ng,.slice qn names.length cn] 65)).heap.size:=Dr hnb hl4.below.size
       have hrA:=hl4.s0
       go_upto_region 12 with fail
       clear m0 m1 hWn hl4 S3 r5 HNC
       generalize wr.alloc (.cells #[.int .i64 ng,.slice qn names.length cn] 65)=wa at *
       generalize wr.heap.size=gn at *
       have y0:=ay (by have:=S4.lt;show w.heap.size<_;omega) S4.s0
       have y1:∀ y:ax wa,y.w.cell? ⟨gn,0,none⟩=some (.int .i64 ng):=fun y=>(y.cell (ac hrA)).trans (aa hrA 0)
       have y2:∀ y:ax wa,y.w.cell? ⟨gn,1,none⟩=some (.slice qn names.length cn):=fun y=>(y.cell (ac hrA)).trans (aa hrA 1)
       have y3:=ay S4.lt S4.r5
       have HI:Hid (aT wa 33 #[.int .i64 ng,.int .i64 0,.int .i64 ((i:Int)-1)] ((.bool (decide (0≤ng)&&decide (ng≤(i:Int)-1))))):=fun y=>ax.calls (kW _ _ _ y.w)
       by_cases hin:0≤ng∧ng≤(i:Int)-1
       ·have hbi:(decide (0≤ng)&&decide (ng≤(i:Int)-1))=true:=by simp;omega
        obtain⟨jg,rfl⟩:∃ jg:Nat,ng=(jg:Int):=⟨ng.toNat,by omega⟩
        have hjg:jg<gs.length:=by omega
        have HNS:Hid (d9 gs i ⟨jg,names⟩=gt (ag gs jg) names):=by unfold Hid;rw[sP];simp only[DC];rw[hbi];rfl
        rw[hbi] at HI
        have hjr:(ag gs jg).length<1000000:=HRS.out jg (by omega)
        obtain⟨b',o',e',hlt',hc'⟩:=S4.G.at_ (by omega)
        obtain⟨rfl,rfl⟩:bg=b'∧og=o':=by simpa using e'
        obtain⟨qj,cj,u0,u1,hRj⟩:=hc' jg hjg
        have hraj:ag gs jg=gs[jg].rungs:=by unfold ag;rw[Dq hjg]
        obtain⟨gj,hgj⟩:∃ gj,gj=gs[jg]:=⟨_,rfl⟩
        rw[←hgj] at u0 u1 hRj hraj
        rw[hraj] at HNS hjr
        have y5:=ay hlt' u0
        have y6:=ay hlt' u1
        have HM:Hid (aT wa 94 #[.agg #[.string gj.name,.slice qj gj.rungs.length cj],.slice qn names.length cn] ((.bool (gt gj.rungs names)))):=fun y=>ax.calls (w_ _ _ _ _ _ _ _ y.w (hRj.below y.h) (HW4.out.below y.h) hjr hnn)
        have hgjn:(jg:Int)<(gs.length:Int):=by omega
        have HIN:=Do hin
        clear u0 u1 hRj hc' e' hraj hgj hbi hin HW4
        obtain⟨bm,hbm⟩:∃ b,b=gt gj.rungs names:=⟨_,rfl⟩
        rw[←hbm] at HM HNS
        clear hbm
        by_cases hj0:0<j
        ·obtain⟨jp,rfl⟩:∃ jp,j=jp+1:=⟨j-1,by omega⟩
         have hjp:jp<r.needs.length:=by omega
         obtain⟨md,hmd⟩:∃ md,md=r.needs[jp]:=⟨_,rfl⟩
         have hpv:=HPV.out jp hjp
         rw[←hmd] at hpv
         have HMD:=Do (show r.needs[jp]?=some md by rw[Dq hjp,hmd])
         have y4:=ay hnbA hpv
         have hjpI:((jp+1:Nat):Int)-1=(jp:Int):=by omega
         clear hmd hpv HPV
         obtain⟨mg,mnames⟩:=md
         simp only at y4
         by_cases hle:(jg:Int)≤mg
         ·have HNA:Hid (eA gs i r.needs=false):=dq hjl (by rw[dE HND.out HMD.out];simp only;rw[decide_eq_true hle,Bool.and_comm];rfl)
          refine ai (by kernel_rfl) (by kernel_rfl) ?_
          repeat (go_big_quiet_step ((first | (go_at_call 33;with_reducible exact HI.out _) | (go_at_call 94;with_reducible exact HM.out _))))
          refine wpQuiet_nil ?_
          rintro _ ⟨⟨w2,hbN⟩,rfl⟩
          have S6:=S4.below hbN
          clear HM HI y0 y1 y2 y3 S4 hbN
          have HRF:Hid (dN gs i k g.rungs r=false):=by unfold Hid;rw[HRR.out,HNA.out];rfl
          go_wp2
          go_ret
          exact⟨by rw[HRF.out];rfl,S6.bl⟩
         ·cases bm
          ·have HNA:Hid (eA gs i r.needs=false):=dq hjl (fV HND.out HNS.out)
           refine ai (by kernel_rfl) (by kernel_rfl) ?_
           repeat (go_big_quiet_step ((first | (go_at_call 33;with_reducible exact HI.out _) | (go_at_call 94;with_reducible exact HM.out _))))
           refine wpQuiet_nil ?_
           rintro _ ⟨⟨w2,hbN⟩,rfl⟩
           have S6:=S4.below hbN
           clear HM HI y0 y1 y2 y3 S4 hbN
           have HRF:Hid (dN gs i k g.rungs r=false):=by unfold Hid;rw[HRR.out,HNA.out];rfl
           go_wp2
           go_ret
           exact⟨by rw[HRF.out];rfl,S6.bl⟩
          ·have HNA:Hid ((List.range (jp+1+1)).all (dj gs i r.needs)=true):=bH hx.out (by rw[dE HND.out HMD.out,HNS.out];simp only;rw[decide_eq_false hle];rfl)
           refine ai (by kernel_rfl) (by kernel_rfl) ?_
           repeat (go_big_quiet_step ((first | (go_at_call 33;with_reducible exact HI.out _) | (go_at_call 94;with_reducible exact HM.out _))))
           refine wpQuiet_nil ?_
           rintro _ ⟨⟨w2,hbN⟩,rfl⟩
           have S6:=S4.below hbN
           clear HM HI y0 y1 y2 y3 S4 hbN
           go_wp2
           go_roundw
           case rel=>exact⟨jp+1+1,by go_num,by omega,S6,HNA⟩
           case measure=>simp[intOf];omega
        ·obtain rfl:j=0:=by omega
         clear HPV
         cases bm
         ·have HNA:Hid (eA gs i r.needs=false):=dq hjl (fV HND.out HNS.out)
          refine ai (by kernel_rfl) (by kernel_rfl) ?_
          repeat (go_big_quiet_step ((first | (go_at_call 33;with_reducible exact HI.out _) | (go_at_call 94;with_reducible exact HM.out _))))
          refine wpQuiet_nil ?_
          rintro _ ⟨⟨w2,hbN⟩,rfl⟩
          have S6:=S4.below hbN
          clear HM HI y0 y1 y2 y3 S4 hbN
          have HRF:Hid (dN gs i k g.rungs r=false):=by unfold Hid;rw[HRR.out,HNA.out];rfl
          go_wp2
          go_ret
          exact⟨by rw[HRF.out];rfl,S6.bl⟩
         ·have HNA:Hid ((List.range (0+1)).all (dj gs i r.needs)=true):=bH hx.out (by rw[gh HND.out,HNS.out])
          refine ai (by kernel_rfl) (by kernel_rfl) ?_
          repeat (go_big_quiet_step ((first | (go_at_call 33;with_reducible exact HI.out _) | (go_at_call 94;with_reducible exact HM.out _))))
          refine wpQuiet_nil ?_
          rintro _ ⟨⟨w2,hbN⟩,rfl⟩
          have S6:=S4.below hbN
          clear HM HI y0 y1 y2 y3 S4 hbN
          go_wp2
          go_roundw
          case rel=>exact⟨0+1,by go_num,by omega,S6,HNA⟩
          case measure=>simp[intOf];omega
       ·have hbi:(decide (0≤ng)&&decide (ng≤(i:Int)-1))=false:=by rw[Eh];intro h;simp at h;exact hin h
        have HNS:Hid (d9 gs i ⟨ng,names⟩=false):=by unfold Hid;rw[sP];simp only;rw[hbi];rfl
        rw[hbi] at HI
        have HNA:Hid (eA gs i r.needs=false):=dq hjl (fV HND.out HNS.out)
        have HM:=HI
        clear hbi hin HPV HW4
        refine ai (by kernel_rfl) (by kernel_rfl) ?_
        repeat (go_big_quiet_step ((first | (go_at_call 33;with_reducible exact HI.out _) | (go_at_call 94;with_reducible exact HM.out _))))
        refine wpQuiet_nil ?_
        rintro _ ⟨⟨w2,hbN⟩,rfl⟩
        have S6:=S4.below hbN
        clear HM HI y0 y1 y2 y3 S4 hbN
        have HRF:Hid (dN gs i k g.rungs r=false):=by unfold Hid;rw[HRR.out,HNA.out];rfl
        go_wp2
        go_ret
        exact⟨by rw[HRF.out];rfl,S6.bl⟩
      ·obtain rfl:j=r.needs.length:=by omega
       have HNA:Hid (eA gs i r.needs=true):=hx.out
       have HRR2:Hid (dN gs i k g.rungs r=ft r.loops):=by unfold Hid;rw[HRR.out,HNA.out];rfl
       clear hx hjl hj
       have r6:=S3.r6
       go_wp2_with fail
       go_loopw [12] (fun s12 wx=>∃ j:Nat,s12=.int .i64 j∧j≤r.loops.length∧RSt w wx w.heap.size gs (some ⟨bg,og,none⟩) c g (some ⟨b,o,none⟩) cq r q1 c1 q2 c2∧Hid ((List.range j).all (dt r.loops)=true)) (fun s12 _=>r.loops.length-(intOf s12).toNat)
       case atStart=>exact⟨0,rfl,by omega,S3,rfl⟩
       case round =>
        clear S3 r5 r6
        obtain⟨j,rfl,hj,S3,hx⟩:=hrel
        have r6:=S3.r6
        by_cases hjl:j<r.loops.length
        ·obtain⟨nb,no,rfl,hnb,hnc⟩:=S3.L.at_ (by omega)
         obtain⟨m0,m1⟩:=hnc j hjl
         obtain⟨nd,hnd⟩:∃ nd,nd=r.loops[j]:=⟨_,rfl⟩
         rw[←hnd] at m0 m1
         have HND:=Do (show r.loops[j]?=some nd by rw[Dq hjl,hnd])
         have HNC:=Do hnc
         clear hnd hnc
         obtain⟨ng,gain⟩:=nd
         simp only at m0 m1
         have hl4:=bj wr (.cells #[.int .i64 ng,.string gain] 136)
         have S4:=S3.below hl4.below
         have HPV:=Do (fun j' (hj':j'<r.loops.length)=>(hl4.below.cell (p:=⟨nb,no+j'*2,none⟩) hnb).trans (HNC.out j' hj').1)
         have hnbA:nb<(wr.alloc (.cells #[.int .i64 ng,.string gain] 136)).heap.size:=Dr hnb hl4.below.size
         have hrA:=hl4.s0
         go_upto_region 18 with fail
         clear m0 m1 hl4 S3 r6 HNC
         generalize wr.alloc (.cells #[.int .i64 ng,.string gain] 136)=wa at *
         generalize wr.heap.size=gn at *
         have y1:∀ y:ax wa,y.w.cell? ⟨gn,0,none⟩=some (.int .i64 ng):=fun y=>(y.cell (ac hrA)).trans (aa hrA 0)
         have y2:∀ y:ax wa,y.w.cell? ⟨gn,1,none⟩=some (.string gain):=fun y=>(y.cell (ac hrA)).trans (aa hrA 1)
         have y3:=ay S4.lt S4.r6
         have HI:Hid (aT wa 33 #[.int .i64 ng,.int .i64 0,.int .i64 7] ((.bool (decide (0≤ng)&&decide (ng≤7))))):=fun y=>ax.calls (kW _ _ _ y.w)
         have HM:Hid (aT wa 95 #[.string gain] ((.bool (dD gain.data.toList)))):=fun y=>ax.calls (yw gain y.w)
         have HB0:=Do (rfl:(decide (0≤ng)&&decide (ng≤7))=(decide (0≤ng)&&decide (ng≤7)))
         obtain⟨bi,hbi⟩:∃ b,b=(decide (0≤ng)&&decide (ng≤7)):=⟨_,rfl⟩
         obtain⟨bm,hbm⟩:∃ b,b=dD gain.data.toList:=⟨_,rfl⟩
         rw[←hbi] at HI
         rw[←hbm] at HM
         have HBI:=Do hbi
         have HBM:=Do hbm
         clear hbi hbm HB0
         cases bi
         ·have HNA:Hid (ft r.loops=false):=cI hjl (dV HND.out (by simp only;rw[←HBI.out];rfl))
          clear HPV
          refine ai (by kernel_rfl) (by kernel_rfl) ?_
          repeat (go_big_quiet_step ((first | (go_at_call 33;with_reducible exact HI.out _) | (go_at_call 95;with_reducible exact HM.out _))))
          refine wpQuiet_nil ?_
          rintro _ ⟨⟨w2,hbN⟩,rfl⟩
          have S6:=S4.below hbN
          clear HM HI y1 y2 y3 S4 hbN
          have HRF:Hid (dN gs i k g.rungs r=false):=by unfold Hid;rw[HRR2.out,HNA.out]
          go_wp2
          go_ret
          exact⟨by rw[HRF.out];rfl,S6.bl⟩
         ·by_cases hj0:0<j
          ·obtain⟨jp,rfl⟩:∃ jp,j=jp+1:=⟨j-1,by omega⟩
           have hjp:jp<r.loops.length:=by omega
           obtain⟨md,hmd⟩:∃ md,md=r.loops[jp]:=⟨_,rfl⟩
           have hpv:=HPV.out jp hjp
           rw[←hmd] at hpv
           have HMD:=Do (show r.loops[jp]?=some md by rw[Dq hjp,hmd])
           have y4:=ay hnbA hpv
           have hjpI:((jp+1:Nat):Int)-1=(jp:Int):=by omega
           clear hmd hpv HPV
           obtain⟨mg,mgain⟩:=md
           simp only at y4
           by_cases hle:ng≤mg
           ·have HNA:Hid (ft r.loops=false):=cI hjl (by rw[d8 HND.out HMD.out];simp only;rw[decide_eq_true hle,Bool.and_comm];rfl)
            refine ai (by kernel_rfl) (by kernel_rfl) ?_
            repeat (go_big_quiet_step ((first | (go_at_call 33;with_reducible exact HI.out _) | (go_at_call 95;with_reducible exact HM.out _))))
            refine wpQuiet_nil ?_
            rintro _ ⟨⟨w2,hbN⟩,rfl⟩
            have S6:=S4.below hbN
            clear HM HI y1 y2 y3 S4 hbN
            have HRF:Hid (dN gs i k g.rungs r=false):=by unfold Hid;rw[HRR2.out,HNA.out]
            go_wp2
            go_ret
            exact⟨by rw[HRF.out];rfl,S6.bl⟩
           ·cases bm
            ·have HNA:Hid (ft r.loops=false):=cI hjl (dV HND.out (by simp only;rw[←HBI.out,←HBM.out];rfl))
             refine ai (by kernel_rfl) (by kernel_rfl) ?_
             repeat (go_big_quiet_step ((first | (go_at_call 33;with_reducible exact HI.out _) | (go_at_call 95;with_reducible exact HM.out _))))
             refine wpQuiet_nil ?_
             rintro _ ⟨⟨w2,hbN⟩,rfl⟩
             have S6:=S4.below hbN
             clear HM HI y1 y2 y3 S4 hbN
             have HRF:Hid (dN gs i k g.rungs r=false):=by unfold Hid;rw[HRR2.out,HNA.out]
             go_wp2
             go_ret
             exact⟨by rw[HRF.out];rfl,S6.bl⟩
            ·have HNA:Hid ((List.range (jp+1+1)).all (dt r.loops)=true):=bH hx.out (by rw[d8 HND.out HMD.out];simp only;rw[←HBI.out,←HBM.out,decide_eq_false hle];rfl)
             refine ai (by kernel_rfl) (by kernel_rfl) ?_
             repeat (go_big_quiet_step ((first | (go_at_call 33;with_reducible exact HI.out _) | (go_at_call 95;with_reducible exact HM.out _))))
             refine wpQuiet_nil ?_
             rintro _ ⟨⟨w2,hbN⟩,rfl⟩
             have S6:=S4.below hbN
             clear HM HI y1 y2 y3 S4 hbN
             go_wp2
             go_roundw
             case rel=>exact⟨jp+1+1,by go_num,by omega,S6,HNA⟩
             case measure=>simp[intOf];omega
          ·obtain rfl:j=0:=by omega
           clear HPV
           cases bm
           ·have HNA:Hid (ft r.loops=false):=cI hjl (dV HND.out (by simp only;rw[←HBI.out,←HBM.out];rfl))
            refine ai (by kernel_rfl) (by kernel_rfl) ?_
            repeat (go_big_quiet_step ((first | (go_at_call 33;with_reducible exact HI.out _) | (go_at_call 95;with_reducible exact HM.out _))))
            refine wpQuiet_nil ?_
            rintro _ ⟨⟨w2,hbN⟩,rfl⟩
            have S6:=S4.below hbN
            clear HM HI y1 y2 y3 S4 hbN
            have HRF:Hid (dN gs i k g.rungs r=false):=by unfold Hid;rw[HRR2.out,HNA.out]
            go_wp2
            go_ret
            exact⟨by rw[HRF.out];rfl,S6.bl⟩
           ·have HNA:Hid ((List.range (0+1)).all (dt r.loops)=true):=bH hx.out (by rw[ji HND.out];simp only;rw[←HBI.out,←HBM.out];rfl)
            refine ai (by kernel_rfl) (by kernel_rfl) ?_
            repeat (go_big_quiet_step ((first | (go_at_call 33;with_reducible exact HI.out _) | (go_at_call 95;with_reducible exact HM.out _))))
            refine wpQuiet_nil ?_
            rintro _ ⟨⟨w2,hbN⟩,rfl⟩
            have S6:=S4.below hbN
            clear HM HI y1 y2 y3 S4 hbN
            go_wp2
            go_roundw
            case rel=>exact⟨0+1,by go_num,by omega,S6,HNA⟩
            case measure=>simp[intOf];omega
        ·obtain rfl:j=r.loops.length:=by omega
         have HRT:Hid (dN gs i k g.rungs r=true):=by unfold Hid;rw[HRR2.out];exact hx.out
         clear hx hjl hj
         go_wp2
         go_ret
         exact⟨by rw[HRT.out];rfl,S3.bl⟩
    ·have HRR:Hid (dN gs i k g.rungs r=false):=by unfold Hid dN;rw[HSE.out,hbb.out];rfl
     clear hbb
     go_wp2
     go_ret
     exact⟨by rw[HRR.out];rfl,S3.bl⟩
  ·have HRR:Hid (dN gs i k g.rungs r=false):=by unfold Hid dN;rw[hse.out];rfl
   clear hse
   go_wp2
   go_ret
   exact⟨by rw[HRR.out];rfl,S1.bl⟩
end Go.Proofs.YtnkgbocdpngldaaGreatDoor
