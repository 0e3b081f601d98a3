/- Lemmas of this claim. -/
import Derived.Lib.SplitLaws
import Derived.Lib.SmallJoins
import Derived.Test.YtnkgbocdpngldaaGreatDoorXGet
set_option linter.all false
set_option maxRecDepth 100000
set_option maxHeartbeats 8000000
namespace Go.Proofs.YtnkgbocdpngldaaGreatDoor
open Go.RowKit Dc Dg
structure Gx (w:World):Prop where
 g:Gw w
 e0:∃ tp p,w.cell? ⟨0,0,none⟩=some (.iface tp p)
 e1:∃ tp p,w.cell? ⟨1,0,none⟩=some (.iface tp p)
theorem Gx.below {w w':World} (h:Gx w) (hb:Below w.heap.size w w'):Gx w':=by
 refine⟨h.g.below hb,?_,?_⟩
 ·obtain⟨tp,p,e⟩:=h.e0
  exact⟨tp,p,(hb.cell (C8 (by decide) h.g.sz)).trans e⟩
 ·obtain⟨tp,p,e⟩:=h.e1
  exact⟨tp,p,(hb.cell (C8 (by decide) h.g.sz)).trans e⟩
def iZ (s:List UInt8):Bool:=match iQ s with | some z=>decide (z.y.n=0) | none=>false
theorem A4 (s:ByteArray) (w:World) (hG:Gw w) :
  Calls Tryz.prog 112 #[.string s] w fun e w'=>∃ b:Bool,e=.returned (.bool b)∧Hid (iZ s.data.toList=b)∧Below w.heap.size w w':=by
 go_enter Tryz.func112,Tryz.ntmps112
 go_wp2_with fail
 refine (AX s w hG).mono ?_
 rintro e w1 ⟨v,ok,rfl,hcase,hb1⟩
 rcases hcase with ⟨z,hz,rfl,hv⟩ | ⟨hz,rfl,rfl⟩
 ·have HZ:=C5 hz
  have HB1:=C5 hb1
  clear hz
  have hv':=hv
  obtain⟨a,b,c,d,e,f,rfl,hx,hy⟩:=hv'
  obtain⟨xn,xd,ex,hxn,hxd,_,_⟩:=hx
  obtain⟨yn,yd,ey,hyn,hyd,_,_⟩:=hy
  simp only[Value.agg.injEq,Array.mk.injEq,List.cons.injEq,and_true] at ex ey
  obtain⟨rfl,rfl,rfl⟩:=ex
  obtain⟨rfl,rfl,rfl⟩:=ey
  obtain⟨p1,c1,rfl,_,_,_⟩:=hxn
  obtain⟨p2,c2,rfl,_,_,_⟩:=hxd
  obtain⟨p3,c3,rfl,_,_,_⟩:=hyn
  obtain⟨p4,c4,rfl,_,_,_⟩:=hyd
  have hb2:Below w1.heap.size w1 (w1.alloc (.cells #[.bool z.x.minus,.slice p1 (ar BB z.x.n).length c1,.slice p2 (ar BB z.x.d).length c2,.bool z.y.minus,.slice p3 (ar BB z.y.n).length c3,.slice p4 (ar BB z.y.d).length c4] 193)):=(Below.refl _ _).alloc (C6 _) _
  have HV:=C5 (hv.below hb2)
  have HB2:=C5 (hb1.trans (hb2.mono hb1.size))
  clear hv hb1 hb2
  go_wp2_with fail
  refine (ny _ z _ (by exact HV.out)).mono ?_
  rintro e w3 ⟨rfl,hb3⟩
  go_wp2
  go_ret
  exact⟨_,rfl,by unfold Hid iZ;rw[HZ.out],HB2.out.trans (hb3.mono HB2.out.size)⟩
 ·have HZ:=C5 hz
  clear hz
  unfold kU
  go_wp2
  go_ret
  exact⟨_,rfl,by unfold Hid iZ;rw[HZ.out],hb1.trans (((Below.refl _ _).alloc (C6 _) _).mono hb1.size)⟩
def gH (s:List UInt8):Bool:=match Lib.atoiAll s with | .ok v=>decide (v≤4096) | _=>false
theorem CA (s:ByteArray) (w:World) (hs:s.size<1000000) (hG:Gx w) :
  Calls Tryz.prog 127 #[.string s] w fun e w'=>∃ (v:Int) (ev:Value),e=.returned (.tuple #[.int .i64 v,ev]) ∧
   ((∃ a b,ev=.iface a b∧Hid (gH s.data.toList=false))∨(ev=.nilIface∧Hid (gH s.data.toList=decide (v≤4096))))∧Below w.heap.size w w':=by
 rcases h:Lib.atoiAll s.data.toList with v | _ | _
 ·refine (Tryz.strconv_Atoi_ok s (by omega) v h w).mono ?_
  rintro e w' ⟨rfl,hw⟩
  refine⟨_,_,rfl,Or.inr ⟨rfl,by unfold Hid gH;rw[h]⟩,?_⟩
  rcases hw with rfl | ⟨t,rfl⟩
  ·exact Below.refl _ _
  ·exact Joins.below_bytesWorld _ _ _ _ (C6 _)
 ·obtain⟨tp,p,hv⟩:=hG.e0
  refine (Any.strconv_Atoi_syntax Tryz.laysC172 s (by omega) h _ w hv (Or.inr ⟨_,_,rfl⟩)).mono ?_
  rintro e w' ⟨N,rfl,_,_,hb⟩
  exact⟨_,_,rfl,Or.inl ⟨_,_,rfl,by unfold Hid gH;rw[h]⟩,hb⟩
 ·obtain⟨tp,p,hv⟩:=hG.e1
  refine (Tryz.strconv_Atoi_range s (by omega) h _ w hv (Or.inr ⟨_,_,rfl⟩)).mono ?_
  rintro e w' ⟨N,rfl,_,_,hb⟩
  exact⟨_,_,rfl,Or.inl ⟨_,_,rfl,by unfold Hid gH;rw[h]⟩,hb⟩
def eM (t:ByteArray):List ByteArray:=Lib.splitB ⟨#[47]⟩ 0 (Lib.countB t ⟨#[47]⟩) t
def kq (s:List UInt8):Bool:=(eM ⟨(Lib.trimPrefix s [45]).toArray⟩).all fun p=>gH p.data.toList
theorem sI (sep:ByteArray):∀ (k:Nat) (s p:ByteArray),p∈Lib.splitB sep 0 k s→p.size≤s.size:=by
 intro k
 induction k with
 | zero=>intro s p h;simp[Lib.splitB] at h;subst h;exact C6 _
 | succ k ih =>
  intro s p h
  unfold Lib.splitB at h
  split at h
  ·simp at h;subst h;exact C6 _
  ·rcases Dk.1 h with rfl | h
   ·rw[ByteArray.size_extract];omega
   ·have:=ih _ _ h
    rw[ByteArray.size_extract] at this;omega
structure kC (w:World) (k:Nat) (l:List ByteArray):Prop where
 lt:k<w.heap.size
 at_:∀ i (h:i<l.length),w.cell? ⟨k,i,none⟩=some (.string l[i])
theorem kC.below {w w':World}{k:Nat}{l:List ByteArray} (h:kC w k l) (hb:Below w.heap.size w w'):kC w' k l :=
 ⟨C8 h.lt hb.size,fun i hi=>(hb.cell (p:=⟨k,i,none⟩) h.lt).trans (h.at_ i hi)⟩
theorem Ch (t:ByteArray) (w:World) (hs:t.size<1000000) (hG:Gx w) :
  Calls Tryz.prog 125 #[.string t,.string ⟨#[47]⟩] w fun e w'=>∃ (k n:Nat),e=.returned (.slice (some ⟨k,0,none⟩) n n)∧n=(eM t).length∧0<n∧n≤1000000∧kC w' k (eM t)∧Below w.heap.size w w':=by
 obtain⟨m,hm⟩:=hG.g.ml
 refine (Tryz.strings_Split t ⟨#[47]⟩ m w (by omega) hm (by decide)).mono ?_
 rintro e w' ⟨rfl,rfl⟩
 have hl:(eM t).length=Lib.countB t ⟨#[47]⟩+1:=Lib.splitB_all _ (by decide) _ _ _ rfl
 refine⟨_,_,rfl,hl.symm,by omega,?_,⟨by simp,fun i hi=>?_⟩,(Below.refl _ _).alloc (C6 _) _⟩
 ·have:=Lib.countB_le ⟨#[47]⟩ (by decide) t.size t (C6 _)
  omega
 ·exact an w _ 9 i _ (by rw[List.getElem?_toArray,Ef];show Option.map Value.string (eM t)[i]?=_;rw[C7 hi];rfl)
theorem mO {l:List ByteArray}{i:Nat} (h:i<l.length) (f:ByteArray→Bool):(l.take (i+1)).all f=((l.take i).all f&&f l[i]):=by
 have e:l.take (i+1)=l.take i++[l[i]]:=(List.take_append_getElem h).symm
 rw[e,Es];simp
theorem th {l:List ByteArray}{i:Nat} (h:i<l.length) (f:ByteArray→Bool) (hf:f l[i]=false):l.all f=false:=by
 rw[Ee]
 exact⟨l[i],Dt h,by rw[hf];exact Dl⟩
theorem Cg (s:ByteArray) (w:World) (hs:s.size<100000) (hG:Gx w) :
  Calls Tryz.prog 113 #[.string s] w fun e w'=>∃ b:Bool,e=.returned (.bool b)∧Hid (kq s.data.toList=b)∧Below w.heap.size w w':=by
 go_enter Tryz.func113,Tryz.ntmps113
 go_wp2_with fail
 refine (sR _ _ w).mono ?_
 rintro e w1 ⟨t,rfl,ht,hts,rfl⟩
 go_wp2_with fail
 refine (Ch t w (by omega) hG).mono ?_
 rintro e w1 ⟨k,n,rfl,hn,hn0,hn1,hW,hb1⟩
 have HN:=C5 hn
 have hG1:=hG.below hb1
 clear hn hG
 go_wp2_with fail
 go_loopw [11] (fun s11 wr=>∃ i:Nat,s11=.int .i64 i∧i≤n∧Gx wr∧kC wr k (eM t)∧Below w.heap.size w wr∧Hid (((eM t).take i).all (fun p=>gH p.data.toList)=true)) (fun s11 _=>n-(intOf s11).toNat)
 case atStart=>exact⟨0,rfl,by omega,hG1,hW,hb1,rfl⟩
 case round =>
  clear hG1 hW hb1
  obtain⟨i,rfl,hin,hGr,hWr,hbr,hall⟩:=hrel
  by_cases hi:i<n
  ·have hil:i<(eM t).length:=by rw[←HN.out];exact hi
   have hc:=hWr.at_ i hil
   have hps:(eM t)[i].size≤t.size:=sI _ _ _ _ (Dt hil)
   obtain⟨p,hp⟩:∃ p,p=(eM t)[i]:=⟨_,rfl⟩
   rw[←hp] at hc hps
   have HP:=C5 hp
   clear hp
   go_wp2_with fail
   refine (CA p wr (by omega) hGr).mono ?_
   rintro e w2 ⟨v,ev,rfl,hcase,hb2⟩
   have hb3:=hbr.trans (hb2.mono hbr.size)
   have hG2:=hGr.below hb2
   have hW2:=hWr.below hb2
   clear hb2 hGr hWr hbr hc
   rcases hcase with ⟨a,b,rfl,hpart⟩ | ⟨rfl,hpart⟩
   ·go_wp2
    go_ret
    exact⟨false,rfl,by unfold Hid kq;rw[←ht.out];exact th hil _ (by rw[←HP.out];exact hpart.out),hb3⟩
   ·by_cases hv:(4096:Int)<v
    ·have hd:decide ((4096:Int)<v)=true:=by simp;omega
     have HV:=C5 hv
     clear hv
     go_wp2
     go_ret
     exact⟨false,rfl,by unfold Hid kq;rw[←ht.out];exact th hil _ (by rw[←HP.out,hpart.out];simp;exact HV.out),hb3⟩
    ·have hd:decide ((4096:Int)<v)=false:=by simp;omega
     have HV:=C5 hv
     clear hv
     go_wp2
     go_roundw
     case rel=>exact⟨i+1,by go_num,by omega,hG2,hW2,hb3,by unfold Hid;rw[mO hil,hall.out,←HP.out,hpart.out];simp;have:=HV.out;omega⟩
     case measure=>simp[intOf];omega
  ·have hin':i=n:=by omega
   subst hin'
   clear hi
   go_wp2
   go_ret
   exact⟨true,rfl,by have h:=hall.out;rw[HN.out,DG] at h;unfold Hid kq;rw[←ht.out];exact h,hbr⟩
def dz (s:List UInt8):Bool:=iZ s&&kq s
theorem t_ {s:List UInt8} (h:iZ s=true):s.length≤8008:=by
 unfold iZ iQ at h
 by_cases hl:8008<s.length
 ·rw[if_pos hl] at h;exact absurd h Dl
 ·omega
theorem Bw (s:ByteArray) (w:World) (hG:Gx w) :
  Calls Tryz.prog 108 #[.string s] w fun e w'=>∃ b:Bool,e=.returned (.bool b)∧Hid (dz s.data.toList=b)∧Below w.heap.size w w':=by
 go_enter Tryz.func108,Tryz.ntmps108
 go_wp2_with fail
 refine (A4 s w hG.g).mono ?_
 rintro e w1 ⟨b,rfl,hb,hb1⟩
 have hG1:=hG.below hb1
 clear hG
 cases b
 ·have HB:=C5 hb.out
  clear hb
  go_wp2
  go_ret
  exact⟨_,rfl,by unfold Hid dz;rw[HB.out];rfl,hb1⟩
 ·have HB:=C5 hb.out
  have hsz:=t_ hb.out
  rw[aW] at hsz
  clear hb
  go_wp2_with fail
  refine (Cg s w1 (by omega) hG1).mono ?_
  rintro e w2 ⟨b,rfl,hb,hb2⟩
  go_wp2
  go_ret
  exact⟨b,rfl,by unfold Hid dz;rw[HB.out,hb.out];rfl,hb1.trans (hb2.mono hb1.size)⟩
structure cV (w:World) (p:Option Addr) (l:List ByteArray):Prop where
 at_:0<l.length→∃ b o,p=some ⟨b,o,none⟩∧b<w.heap.size∧∀ i (h:i<l.length),w.cell? ⟨b,o+i,none⟩=some (.string l[i])
theorem cV.below {w w':World}{p:Option Addr}{l:List ByteArray} (h:cV w p l) (hb:Below w.heap.size w w'):cV w' p l:=by
 refine⟨fun hl=>?_⟩
 obtain⟨b,o,e,hlt,hc⟩:=h.at_ hl
 exact⟨b,o,e,C8 hlt hb.size,fun i hi=>(hb.cell (p:=⟨b,o+i,none⟩) hlt).trans (hc i hi)⟩
def fJ (l:List ByteArray):Bool:=decide (1≤l.length)&&decide (l.length≤7)&&l.all fun s=>dz s.data.toList
def uO (l:List ByteArray):Option (List UInt8):=l.head?.map fun s=>s.data.toList
def fc (a b:List ByteArray):Bool:=fJ a&&fJ b&&decide (uO b=some [49])
theorem pz {l:List ByteArray} (h:l.length<1):fJ l=false:=by
 unfold fJ;rw[decide_eq_false (by omega)];rfl
theorem nG {l:List ByteArray} (h:7<l.length):fJ l=false:=by
 unfold fJ;rw[decide_eq_false (by omega:¬ l.length≤7),Ex];rfl
theorem pw {l:List ByteArray}{i:Nat} (h:i<l.length) (hf:dz l[i].data.toList=false):fJ l=false:=by
 unfold fJ;rw[th h _ hf,Ex]
theorem nF {l:List ByteArray} (h1:1≤l.length) (h2:l.length≤7) (hf:(l.take l.length).all (fun s=>dz s.data.toList)=true):fJ l=true:=by
 rw[DG] at hf
 unfold fJ;rw[decide_eq_true h1,decide_eq_true h2,hf];rfl
theorem wE {l:List ByteArray} (h:fJ l=true):0<l.length:=by
 unfold fJ at h
 simp only[Da,decide_eq_true_eq] at h
 omega
theorem uP {l:List ByteArray} (h:0<l.length):decide (uO l=some [49])=decide (l[0].data.toList=[49]):=by
 match l,h with
 | a :: r,_=>simp[uO]
theorem BO (p0 p1:Option Addr) (c0 c1:Nat) (l0 l1:List ByteArray) (w:World) (h0:cV w p0 l0) (h1:cV w p1 l1) (hG:Gx w) :
  Calls Tryz.prog 103 #[.agg #[.slice p0 l0.length c0,.slice p1 l1.length c1]] w fun e w'=>∃ n:Int,e=.returned (.int .i64 n)∧(n=0∧Hid (fc l0 l1=true)∨n=30∧Hid (fc l0 l1=false))∧Below w.heap.size w w':=by
 have hb0:Below w.heap.size w (w.alloc (.cells #[.slice p0 l0.length c0,.slice p1 l1.length c1] 166)):=(Below.refl _ _).alloc (C6 _) _
 have k0:=an w #[.slice p0 l0.length c0,.slice p1 l1.length c1] 166 0 _ rfl
 have k1:=an w #[.slice p0 l0.length c0,.slice p1 l1.length c1] 166 1 _ rfl
 have hlt:w.heap.size<(w.alloc (.cells #[.slice p0 l0.length c0,.slice p1 l1.length c1] 166)).heap.size:=by simp
 have W0:=h0.below hb0
 have W1:=h1.below hb0
 have G0:=hG.below hb0
 clear h0 h1 hG
 have i0:∀ w,(Instr.index 169 (.agg #[.slice p0 l0.length c0,.slice p1 l1.length c1]) (.int .i64 0)).run Tryz.prog w=.ok (.slice p0 l0.length c0) w:=fun _=>by kernel_rfl
 have i1:∀ w,(Instr.index 169 (.agg #[.slice p0 l0.length c0,.slice p1 l1.length c1]) (.int .i64 1)).run Tryz.prog w=.ok (.slice p1 l1.length c1) w:=fun _=>by kernel_rfl
 go_enter Tryz.func103,Tryz.ntmps103
 go_wp2_with fail
 generalize w.alloc (.cells #[.slice p0 l0.length c0,.slice p1 l1.length c1] 166)=w0 at *
 go_loopw [12] (fun s12 wr=>∃ j:Nat,s12=.int .i64 j∧j≤2∧Gx wr∧cV wr p0 l0∧cV wr p1 l1∧Below w.heap.size w wr∧Below w0.heap.size w0 wr∧Hid ((1≤j→fJ l0=true)∧(2≤j→fJ l1=true))) (fun s12 _=>2-(intOf s12).toNat)
 case atStart=>exact⟨0,rfl,by omega,G0,W0,W1,hb0,Below.refl _ _,fun h=>absurd h (by decide),fun h=>absurd h (by decide)⟩
 case round =>
  clear G0 W0 W1 hb0
  obtain⟨j,rfl,hj,hGr,hW0,hW1,hbr,hbr0,hdone⟩:=hrel
  rcases (by omega:j=0∨j=1∨j=2) with rfl | rfl | rfl
  ·by_cases hfew:l0.length<1
   ·have hd:decide (((l0.length:Nat):Int)<1)=true:=by simp;omega
    have HF:=C5 hfew
    clear hfew
    go_wp2
    go_ret
    exact⟨30,rfl,Or.inr ⟨rfl,by unfold Hid fc;rw[pz (l:=l0) HF.out];simp⟩,hbr⟩
   ·have hd:decide (((l0.length:Nat):Int)<1)=false:=by simp;omega
    have hpos:0<l0.length:=by omega
    clear hfew
    by_cases hmany:7<l0.length
    ·have hd2:decide ((7:Int)<((l0.length:Nat):Int))=true:=by simp;omega
     have HF:=C5 hmany
     clear hmany
     go_wp2
     go_ret
     exact⟨30,rfl,Or.inr ⟨rfl,by unfold Hid fc;rw[nG (l:=l0) HF.out];simp⟩,hbr⟩
    ·have hd2:decide ((7:Int)<((l0.length:Nat):Int))=false:=by simp;omega
     have hle:l0.length≤7:=by omega
     clear hmany
     go_wp2_with fail
     go_loopw [25] (fun s25 wq=>∃ i:Nat,s25=.int .i64 i∧i≤l0.length∧Gx wq∧cV wq p0 l0∧cV wq p1 l1∧Below w.heap.size w wq∧Below w0.heap.size w0 wq∧Hid ((l0.take i).all (fun s=>dz s.data.toList)=true)) (fun s25 _=>l0.length-(intOf s25).toNat)
     case atStart=>exact⟨0,rfl,by omega,hGr,hW0,hW1,hbr,hbr0,rfl⟩
     case round =>
      clear hGr hW0 hW1 hbr hbr0
      obtain⟨i,rfl,hi,hGr,hW0,hW1,hbr,hbr0,hall⟩:=hrel
      by_cases hil:i<l0.length
      ·obtain⟨b,o,rfl,hbw,hc⟩:=hW0.at_ hpos
       have hci:=hc i hil
       obtain⟨p,hp⟩:∃ p,p=l0[i]:=⟨_,rfl⟩
       rw[←hp] at hci
       have HP:=C5 hp
       clear hp hc
       go_wp2_with fail
       refine (Bw p _ hGr).mono ?_
       rintro e w2 ⟨b2,rfl,hb2,hbl2⟩
       have hb3:=hbr.trans (hbl2.mono hbr.size)
       cases b2
       ·go_wp2
        go_ret
        exact⟨30,rfl,Or.inr ⟨rfl,by unfold Hid fc;rw[pw (l:=l0) hil (by rw[←HP.out];exact hb2.out)];simp⟩,hb3⟩
       ·have hb4:=hbr0.trans (hbl2.mono hbr0.size)
        have hG2:=hGr.below hbl2
        have hV0:=hW0.below hbl2
        have hV1:=hW1.below hbl2
        clear hGr hW0 hW1 hbr hbr0 hbl2 hci
        go_wp2
        go_roundw
        case rel =>
         (repeat apply Exists.intro)
         exact⟨⟨i+1,by go_num,by omega,hG2,hV0,hV1,hb3,hb4,by unfold Hid;rw[mO hil,hall.out,←HP.out,hb2.out];rfl⟩,rfl⟩
        case measure=>simp[intOf];omega
      ·have hie:i=l0.length:=by omega
       subst hie
       have hgood:=nF (l:=l0) (by omega) (by omega) hall.out
       have HGOOD:=C5 hgood
       clear hil hi hgood
       go_wp2
       go_roundw
       case rel=>exact⟨1,by go_num,by omega,hGr,hW0,hW1,hbr,hbr0,⟨fun _=>HGOOD.out,fun h=>absurd h (by decide)⟩⟩
       case measure=>simp[intOf]
  ·by_cases hfew:l1.length<1
   ·have hd:decide (((l1.length:Nat):Int)<1)=true:=by simp;omega
    have HF:=C5 hfew
    clear hfew
    go_wp2
    go_ret
    exact⟨30,rfl,Or.inr ⟨rfl,by unfold Hid fc;rw[pz (l:=l1) HF.out];simp⟩,hbr⟩
   ·have hd:decide (((l1.length:Nat):Int)<1)=false:=by simp;omega
    have hpos:0<l1.length:=by omega
    clear hfew
    by_cases hmany:7<l1.length
    ·have hd2:decide ((7:Int)<((l1.length:Nat):Int))=true:=by simp;omega
     have HF:=C5 hmany
     clear hmany
     go_wp2
     go_ret
     exact⟨30,rfl,Or.inr ⟨rfl,by unfold Hid fc;rw[nG (l:=l1) HF.out];simp⟩,hbr⟩
    ·have hd2:decide ((7:Int)<((l1.length:Nat):Int))=false:=by simp;omega
     have hle:l1.length≤7:=by omega
     clear hmany
     go_wp2_with fail
     go_loopw [25] (fun s25 wq=>∃ i:Nat,s25=.int .i64 i∧i≤l1.length∧Gx wq∧cV wq p0 l0∧cV wq p1 l1∧Below w.heap.size w wq∧Below w0.heap.size w0 wq∧Hid ((l1.take i).all (fun s=>dz s.data.toList)=true)) (fun s25 _=>l1.length-(intOf s25).toNat)
     case atStart=>exact⟨0,rfl,by omega,hGr,hW0,hW1,hbr,hbr0,rfl⟩
     case round =>
      clear hGr hW0 hW1 hbr hbr0
      obtain⟨i,rfl,hi,hGr,hW0,hW1,hbr,hbr0,hall⟩:=hrel
      by_cases hil:i<l1.length
      ·obtain⟨b,o,rfl,hbw,hc⟩:=hW1.at_ hpos
       have hci:=hc i hil
       obtain⟨p,hp⟩:∃ p,p=l1[i]:=⟨_,rfl⟩
       rw[←hp] at hci
       have HP:=C5 hp
       clear hp hc
       go_wp2_with fail
       refine (Bw p _ hGr).mono ?_
       rintro e w2 ⟨b2,rfl,hb2,hbl2⟩
       have hb3:=hbr.trans (hbl2.mono hbr.size)
       cases b2
       ·go_wp2
        go_ret
        exact⟨30,rfl,Or.inr ⟨rfl,by unfold Hid fc;rw[pw (l:=l1) hil (by rw[←HP.out];exact hb2.out)];simp⟩,hb3⟩
       ·have hb4:=hbr0.trans (hbl2.mono hbr0.size)
        have hG2:=hGr.below hbl2
        have hV0:=hW0.below hbl2
        have hV1:=hW1.below hbl2
        clear hGr hW0 hW1 hbr hbr0 hbl2 hci
        go_wp2
        go_roundw
        case rel =>
         (repeat apply Exists.intro)
         exact⟨⟨i+1,by go_num,by omega,hG2,hV0,hV1,hb3,hb4,by unfold Hid;rw[mO hil,hall.out,←HP.out,hb2.out];rfl⟩,rfl⟩
        case measure=>simp[intOf];omega
      ·have hie:i=l1.length:=by omega
       subst hie
       have hgood:=nF (l:=l1) (by omega) (by omega) hall.out
       have HGOOD:=C5 hgood
       clear hil hi hgood
       go_wp2
       go_roundw
       case rel=>exact⟨2,by go_num,by omega,hGr,hW0,hW1,hbr,hbr0,⟨fun _=>hdone.out.1 (by decide),fun _=>HGOOD.out⟩⟩
       case measure=>simp[intOf]
  ·have g0:=hdone.out.1 (by decide)
   have g1:=hdone.out.2 (by decide)
   have hpos:=wE g1
   have H0:=C5 g0
   have H1:=C5 g1
   have k1':=(hbr0.cell (p:=⟨w.heap.size,1,none⟩) hlt).trans k1
   obtain⟨b,o,rfl,hbw,hc⟩:=hW1.at_ hpos
   have hci:wr.cell? ⟨b,o,none⟩=some (.string l1[0]):=hc 0 hpos
   obtain⟨p,hp⟩:∃ p,p=l1[0]:=⟨_,rfl⟩
   rw[←hp] at hci
   have HP:=C5 hp
   have hposI:(0:Int)<((l1.length:Nat):Int):=by omega
   clear hp hc g0 g1 hdone k0 k1 i0 i1
   by_cases heq:p.toList=[49]
   ·have z1:(p.toList == [49])=true:=by simp[heq]
    have z2:(p.toList != [49])=false:=by simp[heq]
    have z3:decide (p.toList=[49])=true:=by simp[heq]
    have HE:=C5 heq
    clear heq
    go_wp2
    go_ret
    exact⟨0,rfl,Or.inl ⟨rfl,by unfold Hid fc;rw[H0.out,H1.out,uP hpos,decide_eq_true (by rw[←HP.out,←aj];exact HE.out)];rfl⟩,hbr⟩
   ·have z1:(p.toList == [49])=false:=by simp[heq]
    have z2:(p.toList != [49])=true:=by simp[heq]
    have z3:decide (p.toList=[49])=false:=by simp[heq]
    have HE:=C5 heq
    clear heq
    go_wp2
    go_ret
    exact⟨30,rfl,Or.inr ⟨rfl,by unfold Hid fc;rw[H0.out,H1.out,uP hpos,decide_eq_false (by rw[←HP.out,←aj];exact HE.out)];rfl⟩,hbr⟩
theorem qf:dec 1=[49]:=by rw[dS (by decide)];rfl
theorem ye:dec 0=[48]:=by rw[dS (by decide)];rfl
theorem wU:fL [49]=([49],[48]):=by decide
theorem tV:cQ [49]=some ⟨false,1,1⟩:=by rfl
theorem me:cQ [48]=some ⟨false,0,1⟩:=by rfl
theorem wX:aT ⟨false,1,1⟩=[49]:=by
 unfold aT;simp[qf]
theorem zB:dI ⟨false,1,1⟩=false:=by unfold dI;simp[qf]
theorem jA:dI ⟨false,0,1⟩=false:=by unfold dI;simp[qf,ye]
theorem AY:iQ [49]=some ⟨⟨false,1,1⟩,⟨false,0,1⟩⟩:=by
 unfold iQ
 rw[if_neg (by decide),wU]
 simp only[tV,me]
 rw[if_pos ⟨by unfold cW;rw[if_pos rfl];exact wX,zB,jA⟩]
theorem xo:kq [49]=true:=by decide
theorem ya:dz [49]=true:=by
 unfold dz iZ;rw[AY,xo];rfl
theorem mT (s:ByteArray):fc [s] [⟨#[49]⟩]=dz s.data.toList:=by
 unfold fc fJ uO
 simp[ya]
theorem oo (w:World) (s:ByteArray) (T:TypeId):cV (w.alloc (.cells #[.string s] T)) (some ⟨w.heap.size,0,none⟩) [s] :=
 ⟨fun _=>⟨_,_,rfl,by simp,fun i hi=>by
  obtain rfl:i=0:=by simp at hi;exact hi
  exact an w _ T 0 _ rfl⟩⟩
theorem lT (s:ByteArray) (w:World) (hG:Gx w) :
  Calls Tryz.prog 92 #[.string s] w fun e w'=>∃ b:Bool,e=.returned (.bool b)∧Hid (dz s.data.toList=b)∧Below w.heap.size w w':=by
 have hb1:Below w.heap.size w (w.alloc (.cells #[.string s] 134)):=(Below.refl _ _).alloc (C6 _) _
 have hb2:Below (w.alloc (.cells #[.string s] 134)).heap.size (w.alloc (.cells #[.string s] 134)) ((w.alloc (.cells #[.string s] 134)).alloc (.cells #[.string ⟨#[49]⟩] 134)):=(Below.refl _ _).alloc (C6 _) _
 have W0:=C5 ((oo w s 134).below hb2)
 have W1:=C5 (oo (w.alloc (.cells #[.string s] 134)) ⟨#[49]⟩ 134)
 have HB:=C5 (hb1.trans (hb2.mono hb1.size))
 have HG:=C5 (hG.below HB.out)
 clear hb1 hb2 hG
 go_enter Tryz.func92,Tryz.ntmps92
 go_wp2_with fail
 refine (BO _ _ 1 1 [s] [⟨#[49]⟩] _ (by exact W0.out) (by have h:=W1.out;rw[show (w.alloc (.cells #[.string s] 134)).heap.size=w.heap.size+1 from by simp] at h;exact h) HG.out).mono ?_
 rintro e w2 ⟨n,rfl,hn,hb3⟩
 have hb4:=HB.out.trans (hb3.mono HB.out.size)
 rcases hn with ⟨rfl,hn⟩ | ⟨rfl,hn⟩
 ·go_wp2
  go_ret
  exact⟨_,rfl,by unfold Hid;rw[←mT];exact hn.out,hb4⟩
 ·go_wp2
  go_ret
  exact⟨_,rfl,by unfold Hid;rw[←mT];exact hn.out,hb4⟩
structure Nd where
 guard:Int
 rungs:List ByteArray
structure Cl where
 loop:Int
 gain:ByteArray
structure Rg where
 name:ByteArray
 next:ByteArray
 back:ByteArray
 tries:Int
 minutes:Int
 needs:List Nd
 loops:List Cl
structure Gd where
 name:ByteArray
 rungs:List Rg
structure fb (w:World) (p:Option Addr) (l:List Nd):Prop where
 at_:0<l.length→∃ b o,p=some ⟨b,o,none⟩∧b<w.heap.size∧∀ i (h:i<l.length),∃ q c,w.cell? ⟨b,o+i*2,none⟩=some (.int .i64 l[i].guard)∧w.cell? ⟨b,o+i*2+1,none⟩=some (.slice q l[i].rungs.length c)∧cV w q l[i].rungs
theorem fb.below {w w':World}{p:Option Addr}{l:List Nd} (h:fb w p l) (hb:Below w.heap.size w w'):fb w' p l:=by
 refine⟨fun hl=>?_⟩
 obtain⟨b,o,e,hlt,hc⟩:=h.at_ hl
 refine⟨b,o,e,C8 hlt hb.size,fun i hi=>?_⟩
 obtain⟨q,c,h1,h2,h3⟩:=hc i hi
 exact⟨q,c,(hb.cell (p:=⟨b,_,none⟩) hlt).trans h1,(hb.cell (p:=⟨b,_,none⟩) hlt).trans h2,h3.below hb⟩
structure e_ (w:World) (p:Option Addr) (l:List Cl):Prop where
 at_:0<l.length→∃ b o,p=some ⟨b,o,none⟩∧b<w.heap.size∧∀ i (h:i<l.length),w.cell? ⟨b,o+i*2,none⟩=some (.int .i64 l[i].loop)∧w.cell? ⟨b,o+i*2+1,none⟩=some (.string l[i].gain)
theorem e_.below {w w':World}{p:Option Addr}{l:List Cl} (h:e_ w p l) (hb:Below w.heap.size w w'):e_ w' p l:=by
 refine⟨fun hl=>?_⟩
 obtain⟨b,o,e,hlt,hc⟩:=h.at_ hl
 refine⟨b,o,e,C8 hlt hb.size,fun i hi=>?_⟩
 obtain⟨h1,h2⟩:=hc i hi
 exact⟨(hb.cell (p:=⟨b,_,none⟩) hlt).trans h1,(hb.cell (p:=⟨b,_,none⟩) hlt).trans h2⟩
structure j8 (w:World) (b o:Nat) (r:Rg) (q1:Option Addr) (c1:Nat) (q2:Option Addr) (c2:Nat):Prop where
 d0:w.cell? ⟨b,o,none⟩=some (.string r.name)
 d1:w.cell? ⟨b,o+1,none⟩=some (.string r.next)
 d2:w.cell? ⟨b,o+2,none⟩=some (.string r.back)
 d3:w.cell? ⟨b,o+3,none⟩=some (.int .i64 r.tries)
 d4:w.cell? ⟨b,o+4,none⟩=some (.int .i64 r.minutes)
 d5:w.cell? ⟨b,o+5,none⟩=some (.slice q1 r.needs.length c1)
 d6:w.cell? ⟨b,o+6,none⟩=some (.slice q2 r.loops.length c2)
 n:fb w q1 r.needs
 l:e_ w q2 r.loops
theorem j8.below {w w':World}{b o:Nat}{r:Rg}{q1 q2:Option Addr}{c1 c2:Nat} (h:j8 w b o r q1 c1 q2 c2) (hlt:b<w.heap.size) (hb:Below w.heap.size w w'):j8 w' b o r q1 c1 q2 c2 :=
 ⟨(hb.cell (p:=⟨b,_,none⟩) hlt).trans h.d0,(hb.cell (p:=⟨b,_,none⟩) hlt).trans h.d1,(hb.cell (p:=⟨b,_,none⟩) hlt).trans h.d2,(hb.cell (p:=⟨b,_,none⟩) hlt).trans h.d3,(hb.cell (p:=⟨b,_,none⟩) hlt).trans h.d4,(hb.cell (p:=⟨b,_,none⟩) hlt).trans h.d5,(hb.cell (p:=⟨b,_,none⟩) hlt).trans h.d6,h.n.below hb,h.l.below hb⟩
structure cT (w:World) (p:Option Addr) (l:List Rg):Prop where
 at_:0<l.length→∃ b o,p=some ⟨b,o,none⟩∧b<w.heap.size∧∀ i (h:i<l.length),∃ q1 c1 q2 c2,j8 w b (o+i*7) l[i] q1 c1 q2 c2
theorem cT.below {w w':World}{p:Option Addr}{l:List Rg} (h:cT w p l) (hb:Below w.heap.size w w'):cT w' p l:=by
 refine⟨fun hl=>?_⟩
 obtain⟨b,o,e,hlt,hc⟩:=h.at_ hl
 refine⟨b,o,e,C8 hlt hb.size,fun i hi=>?_⟩
 obtain⟨q1,c1,q2,c2,h1⟩:=hc i hi
 exact⟨q1,c1,q2,c2,h1.below hlt hb⟩
structure bE (w:World) (p:Option Addr) (l:List Gd):Prop where
 at_:0<l.length→∃ b o,p=some ⟨b,o,none⟩∧b<w.heap.size∧∀ i (h:i<l.length),∃ q c,w.cell? ⟨b,o+i*2,none⟩=some (.string l[i].name)∧w.cell? ⟨b,o+i*2+1,none⟩=some (.slice q l[i].rungs.length c)∧cT w q l[i].rungs
theorem bE.below {w w':World}{p:Option Addr}{l:List Gd} (h:bE w p l) (hb:Below w.heap.size w w'):bE w' p l:=by
 refine⟨fun hl=>?_⟩
 obtain⟨b,o,e,hlt,hc⟩:=h.at_ hl
 refine⟨b,o,e,C8 hlt hb.size,fun i hi=>?_⟩
 obtain⟨q,c,h1,h2,h3⟩:=hc i hi
 exact⟨q,c,(hb.cell (p:=⟨b,_,none⟩) hlt).trans h1,(hb.cell (p:=⟨b,_,none⟩) hlt).trans h2,h3.below hb⟩
theorem qL (n low high:Int) (w:World) :
  Calls Tryz.prog 49 #[.int .i64 n,.int .i64 low,.int .i64 high] w fun e w'=>e=.returned (.bool (decide (low≤n)&&decide (n≤high)))∧w'=w:=by
 by_cases h:low≤n
 ·have hd:decide (low≤n)=true:=by simp;omega
  go_enter Tryz.func49,Tryz.ntmps49
  go_wp2
  go_ret
  exact⟨by simp[hd],rfl⟩
 ·have hd:decide (low≤n)=false:=by simp;omega
  go_enter Tryz.func49,Tryz.ntmps49
  go_wp2
  go_ret
  exact⟨by simp[hd],rfl⟩
def cJ:List Rg→List UInt8→Nat→Int
 | [],_,_=>-1
 | r :: l,s,k=>if r.name.data.toList=s then (k:Int) else cJ l s (k+1)
def aE (l:List Rg) (s:List UInt8):Int:=cJ l s 0
theorem gd {l:List Rg}{s:List UInt8}{i:Nat} (h:i<l.length):cJ (l.drop i) s i=if l[i].name.data.toList=s then (i:Int) else cJ (l.drop (i+1)) s (i+1):=by
 rw[DD h];rfl
theorem Ce (r:Rg) (q1:Option Addr) (c1:Nat) (q2:Option Addr) (c2:Nat) (s:ByteArray) (k:Nat) (w:World) (hk:k<w.heap.size) (hc:w.cell? ⟨k,0,none⟩=some (.string s)) :
  Calls Tryz.prog 99 #[.agg #[.string r.name,.string r.next,.string r.back,.int .i64 r.tries,.int .i64 r.minutes,.slice q1 r.needs.length c1,.slice q2 r.loops.length c2],.pointer (some ⟨k,0,none⟩)] w fun e w'=>∃ b:Bool,e=.returned (.bool b)∧Hid (decide (r.name.data.toList=s.data.toList)=b)∧Below w.heap.size w w':=by
 go_enter Tryz.func99,Tryz.ntmps99
 go_wp2
 go_ret
 refine⟨_,rfl,?_,(Below.refl _ _).alloc (C6 _) _⟩
 unfold Hid
 rw[←aj,←aj,D6]
 simp
theorem wt (p:Option Addr) (c:Nat) (l:List Rg) (s:ByteArray) (k:Nat) (w:World) (hl:cT w p l) (hn:l.length<1000000) (hk:k<w.heap.size) (hc:w.cell? ⟨k,0,none⟩=some (.string s)) :
  Calls Tryz.prog 98 #[.slice p l.length c,.func (.func 99) #[] #[.pointer (some ⟨k,0,none⟩)]] w fun e w'=>∃ z:Int,e=.returned (.int .i64 z)∧Hid (aE l s.data.toList=z)∧Below w.heap.size w w':=by
 go_enter Tryz.func98,Tryz.ntmps98
 go_wp2_with fail
 go_loopw [8] (fun s8 wr=>∃ i:Nat,s8=.int .i64 i∧i≤l.length∧cT wr p l∧Below w.heap.size w wr∧Hid (aE l s.data.toList=cJ (l.drop i) s.data.toList i)) (fun s8 _=>l.length-(intOf s8).toNat)
 case atStart=>exact⟨0,rfl,by omega,hl,Below.refl _ _,rfl⟩
 case round =>
  clear hl
  obtain⟨i,rfl,hi,hl,hb,hx⟩:=hrel
  by_cases hil:i<l.length
  ·obtain⟨b,o,rfl,hbw,hcs⟩:=hl.at_ (by omega)
   obtain⟨q1,c1,q2,c2,hr⟩:=hcs i hil
   obtain⟨r,hre⟩:∃ r,r=l[i]:=⟨_,rfl⟩
   rw[←hre] at hr
   have HR:=C5 hre
   have e0:=hr.d0;have e1:=hr.d1;have e2:=hr.d2;have e3:=hr.d3;have e4:=hr.d4;have e5:=hr.d5;have e6:=hr.d6
   have hk2:=C8 hk hb.size
   have hc2:=(hb.cell (p:=⟨k,0,none⟩) hk).trans hc
   clear hre hcs hr
   go_wp2_with fail
   refine (Ce r q1 c1 q2 c2 s k wr hk2 hc2).mono ?_
   rintro e w2 ⟨bb,rfl,hbb,hb2⟩
   have hb3:=hb.trans (hb2.mono hb.size)
   have hl2:=hl.below hb2
   clear hl hb2 e0 e1 e2 e3 e4 e5 e6 hc2
   cases bb
   ·go_wp2
    go_roundw
    case rel=>exact⟨i+1,by go_num,by omega,hl2,hb3,by unfold Hid;rw[hx.out,gd hil,if_neg (by rw[←HR.out];exact of_decide_eq_false hbb.out)]⟩
    case measure=>simp[intOf];omega
   ·go_wp2
    go_ret
    exact⟨_,rfl,by unfold Hid;rw[hx.out,gd hil,if_pos (by rw[←HR.out];exact of_decide_eq_true hbb.out)],hb3⟩
  ·have hie:i=l.length:=by omega
   subst hie
   clear hil hi
   go_wp2
   go_ret
   exact⟨-1,rfl,by unfold Hid;rw[hx.out,Ey];rfl,hb⟩
theorem jZ (g:ByteArray) (p:Option Addr) (c:Nat) (l:List Rg) (s:ByteArray) (w:World) (hl:cT w p l) (hn:l.length<1000000) :
  Calls Tryz.prog 80 #[.agg #[.string g,.slice p l.length c],.string s] w fun e w'=>∃ z:Int,e=.returned (.int .i64 z)∧Hid (aE l s.data.toList=z)∧Below w.heap.size w w':=by
 have hb1:Below w.heap.size w (w.alloc (.cells #[.string g,.slice p l.length c] 62)):=(Below.refl _ _).alloc (C6 _) _
 have hb2:Below (w.alloc (.cells #[.string g,.slice p l.length c] 62)).heap.size (w.alloc (.cells #[.string g,.slice p l.length c] 62)) ((w.alloc (.cells #[.string g,.slice p l.length c] 62)).alloc (.cells #[.string s] 9)):=(Below.refl _ _).alloc (C6 _) _
 have hs1:(w.alloc (.cells #[.string g,.slice p l.length c] 62)).heap.size=w.heap.size+1:=by simp
 have hc:((w.alloc (.cells #[.string g,.slice p l.length c] 62)).alloc (.cells #[.string s] 9)).cell? ⟨w.heap.size+1,0,none⟩=some (.string s):=by
  rw[←hs1];exact an _ _ 9 0 _ rfl
 have hk:w.heap.size+1<((w.alloc (.cells #[.string g,.slice p l.length c] 62)).alloc (.cells #[.string s] 9)).heap.size:=by simp
 have HC:=C5 hc
 have HK:=C5 hk
 have HB:=C5 (hb1.trans (hb2.mono hb1.size))
 have HL:=C5 (hl.below HB.out)
 clear hb1 hb2 hs1 hc hk hl
 go_enter Tryz.func80,Tryz.ntmps80
 go_wp2_with fail
 refine (wt p c l s _ _ HL.out hn HK.out HC.out).mono ?_
 rintro e w2 ⟨z,rfl,hz,hb3⟩
 go_wp2
 go_ret
 exact⟨z,rfl,hz,HB.out.trans (hb3.mono HB.out.size)⟩
end Go.Proofs.YtnkgbocdpngldaaGreatDoor
