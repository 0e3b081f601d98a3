/- Lemmas of this claim. -/
import Derived.Lib.SplitLaws
import Derived.Lib.SmallJoins
import Derived.Test.YtlkniohhalnjjaaGreatDoorKGet
set_option linter.all false
set_option maxRecDepth 100000
set_option maxHeartbeats 8000000
namespace Go.Proofs.YtlkniohhalnjjaaGreatDoor
open Go.RowKit Dc Dg
structure Gx (w:World):Prop where
 g:Gw w
 e0:∃ tp p,w.cell? ⟨0,0,none⟩=some (.iface tp p)
 e1:∃ tp p,w.cell? ⟨1,0,none⟩=some (.iface tp p)
theorem Gx.below {w w':World} (h:Gx w) (hb:Below w.heap.size w w'):Gx w':=by
 refine⟨h.g.below hb,?_,?_⟩
 ·obtain⟨tp,p,e⟩:=h.e0
  exact⟨tp,p,(hb.cell (uv (by decide) h.g.sz)).trans e⟩
 ·obtain⟨tp,p,e⟩:=h.e1
  exact⟨tp,p,(hb.cell (uv (by decide) h.g.sz)).trans e⟩
def ju (s:List UInt8):Bool:=match ic s with | some z=>decide (z.y.n=0) | none=>false
theorem sr (s:ByteArray) (w:World) (hG:Gw w) :
  Calls Tryz.prog 63 #[.string s] w fun e w'=>∃ b:Bool,e=.returned (.bool b)∧Hid (ju s.data.toList=b)∧Below w.heap.size w w':=by
 go_enter Tryz.func63,Tryz.ntmps63
 go_wp2_with fail
 refine (si s w hG).mono ?_
 rintro e w1 ⟨v,ok,rfl,hcase,hb1⟩
 rcases hcase with ⟨z,hz,rfl,hv⟩ | ⟨hz,rfl,rfl⟩
 ·have HZ:=uk hz
  have HB1:=uk hb1
  clear hz
  have hv':=hv
  obtain⟨a,b,c,d,e,f,rfl,hx,hy⟩:=hv'
  obtain⟨xn,xd,ex,hxn,hxd,_,_⟩:=hx
  obtain⟨yn,yd,ey,hyn,hyd,_,_⟩:=hy
  simp only[Value.agg.injEq,Array.mk.injEq,List.cons.injEq,and_true] at ex ey
  obtain⟨rfl,rfl,rfl⟩:=ex
  obtain⟨rfl,rfl,rfl⟩:=ey
  obtain⟨p1,c1,rfl,_,_,_⟩:=hxn
  obtain⟨p2,c2,rfl,_,_,_⟩:=hxd
  obtain⟨p3,c3,rfl,_,_,_⟩:=hyn
  obtain⟨p4,c4,rfl,_,_,_⟩:=hyd
  have hb2:Below w1.heap.size w1 (w1.alloc (.cells #[.bool z.x.minus,.slice p1 (ah BB z.x.n).length c1,.slice p2 (ah BB z.x.d).length c2,.bool z.y.minus,.slice p3 (ah BB z.y.n).length c3,.slice p4 (ah BB z.y.d).length c4] 163)):=(Below.refl _ _).alloc (uo _) _
  have HV:=uk (hv.below hb2)
  have HB2:=uk (hb1.trans (hb2.mono hb1.size))
  clear hv hb1 hb2
  go_wp2_with fail
  refine (jf _ z _ (by exact HV.out)).mono ?_
  rintro e w3 ⟨rfl,hb3⟩
  go_wp2
  go_ret
  exact⟨_,rfl,by unfold Hid ju;rw[HZ.out],HB2.out.trans (hb3.mono HB2.out.size)⟩
 ·have HZ:=uk hz
  clear hz
  unfold gT
  go_wp2
  go_ret
  exact⟨_,rfl,by unfold Hid ju;rw[HZ.out],hb1.trans (((Below.refl _ _).alloc (uo _) _).mono hb1.size)⟩
def js (s:List UInt8):Bool:=match Lib.atoiAll s with | .ok v=>decide (v≤4096) | _=>false
theorem tR (s:ByteArray) (w:World) (hs:s.size<1000000) (hG:Gx w) :
  Calls Tryz.prog 79 #[.string s] w fun e w'=>∃ (v:Int) (ev:Value),e=.returned (.tuple #[.int .i64 v,ev]) ∧
   ((∃ a b,ev=.iface a b∧Hid (js s.data.toList=false))∨(ev=.nilIface∧Hid (js s.data.toList=decide (v≤4096))))∧Below w.heap.size w w':=by
 rcases h:Lib.atoiAll s.data.toList with v | _ | _
 ·refine (Tryz.strconv_Atoi_ok s (by omega) v h w).mono ?_
  rintro e w' ⟨rfl,hw⟩
  refine⟨_,_,rfl,Or.inr ⟨rfl,by unfold Hid js;rw[h]⟩,?_⟩
  rcases hw with rfl | ⟨t,rfl⟩
  ·exact Below.refl _ _
  ·exact Joins.below_bytesWorld _ _ _ _ (uo _)
 ·obtain⟨tp,p,hv⟩:=hG.e0
  refine (Any.strconv_Atoi_syntax Tryz.laysC172 s (by omega) h _ w hv (Or.inr ⟨_,_,rfl⟩)).mono ?_
  rintro e w' ⟨N,rfl,_,_,hb⟩
  exact⟨_,_,rfl,Or.inl ⟨_,_,rfl,by unfold Hid js;rw[h]⟩,hb⟩
 ·obtain⟨tp,p,hv⟩:=hG.e1
  refine (Tryz.strconv_Atoi_range s (by omega) h _ w hv (Or.inr ⟨_,_,rfl⟩)).mono ?_
  rintro e w' ⟨N,rfl,_,_,hb⟩
  exact⟨_,_,rfl,Or.inl ⟨_,_,rfl,by unfold Hid js;rw[h]⟩,hb⟩
def dP (t:ByteArray):List ByteArray:=Lib.splitB ⟨#[47]⟩ 0 (Lib.countB t ⟨#[47]⟩) t
def il (s:List UInt8):Bool:=(dP ⟨(Lib.trimPrefix s [45]).toArray⟩).all fun p=>js p.data.toList
theorem mg (sep:ByteArray):∀ (k:Nat) (s p:ByteArray),p∈Lib.splitB sep 0 k s→p.size≤s.size:=by
 intro k
 induction k with
 | zero=>intro s p h;simp[Lib.splitB] at h;subst h;exact uo _
 | succ k ih =>
  intro s p h
  unfold Lib.splitB at h
  split at h
  ·simp at h;subst h;exact uo _
  ·rcases uy.1 h with rfl | h
   ·rw[ByteArray.size_extract];omega
   ·have:=ih _ _ h
    rw[ByteArray.size_extract] at this;omega
structure gI (w:World) (k:Nat) (l:List ByteArray):Prop where
 lt:k<w.heap.size
 at_:∀ i (h:i<l.length),w.cell? ⟨k,i,none⟩=some (.string l[i])
theorem gI.below {w w':World}{k:Nat}{l:List ByteArray} (h:gI w k l) (hb:Below w.heap.size w w'):gI w' k l :=
 ⟨uv h.lt hb.size,fun i hi=>(hb.cell (p:=⟨k,i,none⟩) h.lt).trans (h.at_ i hi)⟩
theorem tE (t:ByteArray) (w:World) (hs:t.size<1000000) (hG:Gx w) :
  Calls Tryz.prog 77 #[.string t,.string ⟨#[47]⟩] w fun e w'=>∃ (k n:Nat),e=.returned (.slice (some ⟨k,0,none⟩) n n)∧n=(dP t).length∧0<n∧n≤1000000∧gI w' k (dP t)∧Below w.heap.size w w':=by
 obtain⟨m,hm⟩:=hG.g.ml
 refine (Tryz.strings_Split t ⟨#[47]⟩ m w (by omega) hm (by decide)).mono ?_
 rintro e w' ⟨rfl,rfl⟩
 have hl:(dP t).length=Lib.countB t ⟨#[47]⟩+1:=Lib.splitB_all _ (by decide) _ _ _ rfl
 refine⟨_,_,rfl,hl.symm,by omega,?_,⟨by simp,fun i hi=>?_⟩,(Below.refl _ _).alloc (uo _) _⟩
 ·have:=Lib.countB_le ⟨#[47]⟩ (by decide) t.size t (uo _)
  omega
 ·exact af w _ 9 i _ (by rw[List.getElem?_toArray,vQ];show Option.map Value.string (dP t)[i]?=_;rw[uu hi];rfl)
theorem iY {l:List ByteArray}{i:Nat} (h:i<l.length) (f:ByteArray→Bool):(l.take (i+1)).all f=((l.take i).all f&&f l[i]):=by
 have e:l.take (i+1)=l.take i++[l[i]]:=(List.take_append_getElem h).symm
 rw[e,vO];simp
theorem mI {l:List ByteArray}{i:Nat} (h:i<l.length) (f:ByteArray→Bool) (hf:f l[i]=false):l.all f=false:=by
 rw[vF]
 exact⟨l[i],uH h,by rw[hf];exact uC⟩
theorem tD (s:ByteArray) (w:World) (hs:s.size<100000) (hG:Gx w) :
  Calls Tryz.prog 64 #[.string s] w fun e w'=>∃ b:Bool,e=.returned (.bool b)∧Hid (il s.data.toList=b)∧Below w.heap.size w w':=by
 go_enter Tryz.func64,Tryz.ntmps64
 go_wp2_with fail
 refine (mq _ _ w).mono ?_
 rintro e w1 ⟨t,rfl,ht,hts,rfl⟩
 go_wp2_with fail
 refine (tE t w (by omega) hG).mono ?_
 rintro e w1 ⟨k,n,rfl,hn,hn0,hn1,hW,hb1⟩
 have HN:=uk hn
 have hG1:=hG.below hb1
 clear hn hG
 go_wp2_with fail
 go_loopw [11] (fun s11 wr=>∃ i:Nat,s11=.int .i64 i∧i≤n∧Gx wr∧gI wr k (dP t)∧Below w.heap.size w wr∧Hid (((dP t).take i).all (fun p=>js p.data.toList)=true)) (fun s11 _=>n-(intOf s11).toNat)
 case atStart=>exact⟨0,rfl,by omega,hG1,hW,hb1,rfl⟩
 case round =>
  clear hG1 hW hb1
  obtain⟨i,rfl,hin,hGr,hWr,hbr,hall⟩:=hrel
  by_cases hi:i<n
  ·have hil:i<(dP t).length:=by rw[←HN.out];exact hi
   have hc:=hWr.at_ i hil
   have hps:(dP t)[i].size≤t.size:=mg _ _ _ _ (uH hil)
   obtain⟨p,hp⟩:∃ p,p=(dP t)[i]:=⟨_,rfl⟩
   rw[←hp] at hc hps
   have HP:=uk hp
   clear hp
   go_wp2_with fail
   refine (tR p wr (by omega) hGr).mono ?_
   rintro e w2 ⟨v,ev,rfl,hcase,hb2⟩
   have hb3:=hbr.trans (hb2.mono hbr.size)
   have hG2:=hGr.below hb2
   have hW2:=hWr.below hb2
   clear hb2 hGr hWr hbr hc
   rcases hcase with ⟨a,b,rfl,hpart⟩ | ⟨rfl,hpart⟩
   ·go_wp2
    go_ret
    exact⟨false,rfl,by unfold Hid il;rw[←ht.out];exact mI hil _ (by rw[←HP.out];exact hpart.out),hb3⟩
   ·by_cases hv:(4096:Int)<v
    ·have hd:decide ((4096:Int)<v)=true:=by simp;omega
     have HV:=uk hv
     clear hv
     go_wp2
     go_ret
     exact⟨false,rfl,by unfold Hid il;rw[←ht.out];exact mI hil _ (by rw[←HP.out,hpart.out];simp;exact HV.out),hb3⟩
    ·have hd:decide ((4096:Int)<v)=false:=by simp;omega
     have HV:=uk hv
     clear hv
     go_wp2
     go_roundw
     case rel=>exact⟨i+1,by go_num,by omega,hG2,hW2,hb3,by unfold Hid;rw[iY hil,hall.out,←HP.out,hpart.out];simp;have:=HV.out;omega⟩
     case measure=>simp[intOf];omega
  ·have hin':i=n:=by omega
   subst hin'
   clear hi
   go_wp2
   go_ret
   exact⟨true,rfl,by have h:=hall.out;rw[HN.out,uX] at h;unfold Hid il;rw[←ht.out];exact h,hbr⟩
def cI (s:List UInt8):Bool:=ju s&&il s
theorem ny {s:List UInt8} (h:ju s=true):s.length≤8008:=by
 unfold ju ic at h
 by_cases hl:8008<s.length
 ·rw[if_pos hl] at h;exact absurd h uC
 ·omega
theorem sQ (s:ByteArray) (w:World) (hG:Gx w) :
  Calls Tryz.prog 49 #[.string s] w fun e w'=>∃ b:Bool,e=.returned (.bool b)∧Hid (cI s.data.toList=b)∧Below w.heap.size w w':=by
 go_enter Tryz.func49,Tryz.ntmps49
 go_wp2_with fail
 refine (sr s w hG.g).mono ?_
 rintro e w1 ⟨b,rfl,hb,hb1⟩
 have hG1:=hG.below hb1
 clear hG
 cases b
 ·have HB:=uk hb.out
  clear hb
  go_wp2
  go_ret
  exact⟨_,rfl,by unfold Hid cI;rw[HB.out];rfl,hb1⟩
 ·have HB:=uk hb.out
  have hsz:=ny hb.out
  rw[az] at hsz
  clear hb
  go_wp2_with fail
  refine (tD s w1 (by omega) hG1).mono ?_
  rintro e w2 ⟨b,rfl,hb,hb2⟩
  go_wp2
  go_ret
  exact⟨b,rfl,by unfold Hid cI;rw[HB.out,hb.out];rfl,hb1.trans (hb2.mono hb1.size)⟩
structure bQ (w:World) (p:Option Addr) (l:List ByteArray):Prop where
 at_:0<l.length→∃ b o,p=some ⟨b,o,none⟩∧b<w.heap.size∧∀ i (h:i<l.length),w.cell? ⟨b,o+i,none⟩=some (.string l[i])
theorem bQ.below {w w':World}{p:Option Addr}{l:List ByteArray} (h:bQ w p l) (hb:Below w.heap.size w w'):bQ w' p l:=by
 refine⟨fun hl=>?_⟩
 obtain⟨b,o,e,hlt,hc⟩:=h.at_ hl
 exact⟨b,o,e,uv hlt hb.size,fun i hi=>(hb.cell (p:=⟨b,o+i,none⟩) hlt).trans (hc i hi)⟩
def dy (l:List ByteArray):Bool:=decide (1≤l.length)&&decide (l.length≤7)&&l.all fun s=>cI s.data.toList
def nV (l:List ByteArray):Option (List UInt8):=l.head?.map fun s=>s.data.toList
def c_ (a b:List ByteArray):Bool:=dy a&&dy b&&decide (nV b=some [49])
theorem kh {l:List ByteArray} (h:l.length<1):dy l=false:=by
 unfold dy;rw[decide_eq_false (by omega)];rfl
theorem jl {l:List ByteArray} (h:7<l.length):dy l=false:=by
 unfold dy;rw[decide_eq_false (by omega:¬ l.length≤7),wJ];rfl
theorem kg {l:List ByteArray}{i:Nat} (h:i<l.length) (hf:cI l[i].data.toList=false):dy l=false:=by
 unfold dy;rw[mI h _ hf,wJ]
theorem jk {l:List ByteArray} (h1:1≤l.length) (h2:l.length≤7) (hf:(l.take l.length).all (fun s=>cI s.data.toList)=true):dy l=true:=by
 rw[uX] at hf
 unfold dy;rw[decide_eq_true h1,decide_eq_true h2,hf];rfl
theorem oY {l:List ByteArray} (h:dy l=true):0<l.length:=by
 unfold dy at h
 simp only[uz,decide_eq_true_eq] at h
 omega
theorem nW {l:List ByteArray} (h:0<l.length):decide (nV l=some [49])=decide (l[0].data.toList=[49]):=by
 match l,h with
 | a :: r,_=>simp[nV]
theorem tj (p0 p1:Option Addr) (c0 c1:Nat) (l0 l1:List ByteArray) (w:World) (h0:bQ w p0 l0) (h1:bQ w p1 l1) (hG:Gx w) :
  Calls Tryz.prog 33 #[.agg #[.slice p0 l0.length c0,.slice p1 l1.length c1]] w fun e w'=>∃ n:Int,e=.returned (.int .i64 n)∧(n=0∧Hid (c_ l0 l1=true)∨n=30∧Hid (c_ l0 l1=false))∧Below w.heap.size w w':=by
 have hb0:Below w.heap.size w (w.alloc (.cells #[.slice p0 l0.length c0,.slice p1 l1.length c1] 104)):=(Below.refl _ _).alloc (uo _) _
 have k0:=af w #[.slice p0 l0.length c0,.slice p1 l1.length c1] 104 0 _ rfl
 have k1:=af w #[.slice p0 l0.length c0,.slice p1 l1.length c1] 104 1 _ rfl
 have hlt:w.heap.size<(w.alloc (.cells #[.slice p0 l0.length c0,.slice p1 l1.length c1] 104)).heap.size:=by simp
 have W0:=h0.below hb0
 have W1:=h1.below hb0
 have G0:=hG.below hb0
 clear h0 h1 hG
 have i0:∀ w,(Instr.index 128 (.agg #[.slice p0 l0.length c0,.slice p1 l1.length c1]) (.int .i64 0)).run Tryz.prog w=.ok (.slice p0 l0.length c0) w:=fun _=>by kernel_rfl
 have i1:∀ w,(Instr.index 128 (.agg #[.slice p0 l0.length c0,.slice p1 l1.length c1]) (.int .i64 1)).run Tryz.prog w=.ok (.slice p1 l1.length c1) w:=fun _=>by kernel_rfl
 go_enter Tryz.func33,Tryz.ntmps33
 go_wp2_with fail
 generalize w.alloc (.cells #[.slice p0 l0.length c0,.slice p1 l1.length c1] 104)=w0 at *
 go_loopw [12] (fun s12 wr=>∃ j:Nat,s12=.int .i64 j∧j≤2∧Gx wr∧bQ wr p0 l0∧bQ wr p1 l1∧Below w.heap.size w wr∧Below w0.heap.size w0 wr∧Hid ((1≤j→dy l0=true)∧(2≤j→dy l1=true))) (fun s12 _=>2-(intOf s12).toNat)
 case atStart=>exact⟨0,rfl,by omega,G0,W0,W1,hb0,Below.refl _ _,fun h=>absurd h (by decide),fun h=>absurd h (by decide)⟩
 case round =>
  clear G0 W0 W1 hb0
  obtain⟨j,rfl,hj,hGr,hW0,hW1,hbr,hbr0,hdone⟩:=hrel
  rcases (by omega:j=0∨j=1∨j=2) with rfl | rfl | rfl
  ·by_cases hfew:l0.length<1
   ·have hd:decide (((l0.length:Nat):Int)<1)=true:=by simp;omega
    have HF:=uk hfew
    clear hfew
    go_wp2
    go_ret
    exact⟨30,rfl,Or.inr ⟨rfl,by unfold Hid c_;rw[kh (l:=l0) HF.out];simp⟩,hbr⟩
   ·have hd:decide (((l0.length:Nat):Int)<1)=false:=by simp;omega
    have hpos:0<l0.length:=by omega
    clear hfew
    by_cases hmany:7<l0.length
    ·have hd2:decide ((7:Int)<((l0.length:Nat):Int))=true:=by simp;omega
     have HF:=uk hmany
     clear hmany
     go_wp2
     go_ret
     exact⟨30,rfl,Or.inr ⟨rfl,by unfold Hid c_;rw[jl (l:=l0) HF.out];simp⟩,hbr⟩
    ·have hd2:decide ((7:Int)<((l0.length:Nat):Int))=false:=by simp;omega
     have hle:l0.length≤7:=by omega
     clear hmany
     go_wp2_with fail
     go_loopw [25] (fun s25 wq=>∃ i:Nat,s25=.int .i64 i∧i≤l0.length∧Gx wq∧bQ wq p0 l0∧bQ wq p1 l1∧Below w.heap.size w wq∧Below w0.heap.size w0 wq∧Hid ((l0.take i).all (fun s=>cI s.data.toList)=true)) (fun s25 _=>l0.length-(intOf s25).toNat)
     case atStart=>exact⟨0,rfl,by omega,hGr,hW0,hW1,hbr,hbr0,rfl⟩
     case round =>
      clear hGr hW0 hW1 hbr hbr0
      obtain⟨i,rfl,hi,hGr,hW0,hW1,hbr,hbr0,hall⟩:=hrel
      by_cases hil:i<l0.length
      ·obtain⟨b,o,rfl,hbw,hc⟩:=hW0.at_ hpos
       have hci:=hc i hil
       obtain⟨p,hp⟩:∃ p,p=l0[i]:=⟨_,rfl⟩
       rw[←hp] at hci
       have HP:=uk hp
       clear hp hc
       go_wp2_with fail
       refine (sQ p _ hGr).mono ?_
       rintro e w2 ⟨b2,rfl,hb2,hbl2⟩
       have hb3:=hbr.trans (hbl2.mono hbr.size)
       cases b2
       ·go_wp2
        go_ret
        exact⟨30,rfl,Or.inr ⟨rfl,by unfold Hid c_;rw[kg (l:=l0) hil (by rw[←HP.out];exact hb2.out)];simp⟩,hb3⟩
       ·have hb4:=hbr0.trans (hbl2.mono hbr0.size)
        have hG2:=hGr.below hbl2
        have hV0:=hW0.below hbl2
        have hV1:=hW1.below hbl2
        clear hGr hW0 hW1 hbr hbr0 hbl2 hci
        go_wp2
        go_roundw
        case rel =>
         (repeat apply Exists.intro)
         exact⟨⟨i+1,by go_num,by omega,hG2,hV0,hV1,hb3,hb4,by unfold Hid;rw[iY hil,hall.out,←HP.out,hb2.out];rfl⟩,rfl⟩
        case measure=>simp[intOf];omega
      ·have hie:i=l0.length:=by omega
       subst hie
       have hgood:=jk (l:=l0) (by omega) (by omega) hall.out
       have HGOOD:=uk hgood
       clear hil hi hgood
       go_wp2
       go_roundw
       case rel=>exact⟨1,by go_num,by omega,hGr,hW0,hW1,hbr,hbr0,⟨fun _=>HGOOD.out,fun h=>absurd h (by decide)⟩⟩
       case measure=>simp[intOf]
  ·by_cases hfew:l1.length<1
   ·have hd:decide (((l1.length:Nat):Int)<1)=true:=by simp;omega
    have HF:=uk hfew
    clear hfew
    go_wp2
    go_ret
    exact⟨30,rfl,Or.inr ⟨rfl,by unfold Hid c_;rw[kh (l:=l1) HF.out];simp⟩,hbr⟩
   ·have hd:decide (((l1.length:Nat):Int)<1)=false:=by simp;omega
    have hpos:0<l1.length:=by omega
    clear hfew
    by_cases hmany:7<l1.length
    ·have hd2:decide ((7:Int)<((l1.length:Nat):Int))=true:=by simp;omega
     have HF:=uk hmany
     clear hmany
     go_wp2
     go_ret
     exact⟨30,rfl,Or.inr ⟨rfl,by unfold Hid c_;rw[jl (l:=l1) HF.out];simp⟩,hbr⟩
    ·have hd2:decide ((7:Int)<((l1.length:Nat):Int))=false:=by simp;omega
     have hle:l1.length≤7:=by omega
     clear hmany
     go_wp2_with fail
     go_loopw [25] (fun s25 wq=>∃ i:Nat,s25=.int .i64 i∧i≤l1.length∧Gx wq∧bQ wq p0 l0∧bQ wq p1 l1∧Below w.heap.size w wq∧Below w0.heap.size w0 wq∧Hid ((l1.take i).all (fun s=>cI s.data.toList)=true)) (fun s25 _=>l1.length-(intOf s25).toNat)
     case atStart=>exact⟨0,rfl,by omega,hGr,hW0,hW1,hbr,hbr0,rfl⟩
     case round =>
      clear hGr hW0 hW1 hbr hbr0
      obtain⟨i,rfl,hi,hGr,hW0,hW1,hbr,hbr0,hall⟩:=hrel
      by_cases hil:i<l1.length
      ·obtain⟨b,o,rfl,hbw,hc⟩:=hW1.at_ hpos
       have hci:=hc i hil
       obtain⟨p,hp⟩:∃ p,p=l1[i]:=⟨_,rfl⟩
       rw[←hp] at hci
       have HP:=uk hp
       clear hp hc
       go_wp2_with fail
       refine (sQ p _ hGr).mono ?_
       rintro e w2 ⟨b2,rfl,hb2,hbl2⟩
       have hb3:=hbr.trans (hbl2.mono hbr.size)
       cases b2
       ·go_wp2
        go_ret
        exact⟨30,rfl,Or.inr ⟨rfl,by unfold Hid c_;rw[kg (l:=l1) hil (by rw[←HP.out];exact hb2.out)];simp⟩,hb3⟩
       ·have hb4:=hbr0.trans (hbl2.mono hbr0.size)
        have hG2:=hGr.below hbl2
        have hV0:=hW0.below hbl2
        have hV1:=hW1.below hbl2
        clear hGr hW0 hW1 hbr hbr0 hbl2 hci
        go_wp2
        go_roundw
        case rel =>
         (repeat apply Exists.intro)
         exact⟨⟨i+1,by go_num,by omega,hG2,hV0,hV1,hb3,hb4,by unfold Hid;rw[iY hil,hall.out,←HP.out,hb2.out];rfl⟩,rfl⟩
        case measure=>simp[intOf];omega
      ·have hie:i=l1.length:=by omega
       subst hie
       have hgood:=jk (l:=l1) (by omega) (by omega) hall.out
       have HGOOD:=uk hgood
       clear hil hi hgood
       go_wp2
       go_roundw
       case rel=>exact⟨2,by go_num,by omega,hGr,hW0,hW1,hbr,hbr0,⟨fun _=>hdone.out.1 (by decide),fun _=>HGOOD.out⟩⟩
       case measure=>simp[intOf]
  ·have g0:=hdone.out.1 (by decide)
   have g1:=hdone.out.2 (by decide)
   have hpos:=oY g1
   have H0:=uk g0
   have H1:=uk g1
   have k1':=(hbr0.cell (p:=⟨w.heap.size,1,none⟩) hlt).trans k1
   obtain⟨b,o,rfl,hbw,hc⟩:=hW1.at_ hpos
   have hci:wr.cell? ⟨b,o,none⟩=some (.string l1[0]):=hc 0 hpos
   obtain⟨p,hp⟩:∃ p,p=l1[0]:=⟨_,rfl⟩
   rw[←hp] at hci
   have HP:=uk hp
   have hposI:(0:Int)<((l1.length:Nat):Int):=by omega
   clear hp hc g0 g1 hdone k0 k1 i0 i1
   by_cases heq:p.toList=[49]
   ·have z1:(p.toList == [49])=true:=by simp[heq]
    have z2:(p.toList != [49])=false:=by simp[heq]
    have z3:decide (p.toList=[49])=true:=by simp[heq]
    have HE:=uk heq
    clear heq
    go_wp2
    go_ret
    exact⟨0,rfl,Or.inl ⟨rfl,by unfold Hid c_;rw[H0.out,H1.out,nW hpos,decide_eq_true (by rw[←HP.out,←aj];exact HE.out)];rfl⟩,hbr⟩
   ·have z1:(p.toList == [49])=false:=by simp[heq]
    have z2:(p.toList != [49])=true:=by simp[heq]
    have z3:decide (p.toList=[49])=false:=by simp[heq]
    have HE:=uk heq
    clear heq
    go_wp2
    go_ret
    exact⟨30,rfl,Or.inr ⟨rfl,by unfold Hid c_;rw[H0.out,H1.out,nW hpos,decide_eq_false (by rw[←HP.out,←aj];exact HE.out)];rfl⟩,hbr⟩
theorem kE:dec 1=[49]:=by rw[eY (by decide)];rfl
theorem qf:dec 0=[48]:=by rw[eY (by decide)];rfl
theorem po:eA [49]=([49],[48]):=by decide
theorem nv:bT [49]=some ⟨false,1,1⟩:=by rfl
theorem l3:bT [48]=some ⟨false,0,1⟩:=by rfl
theorem pw:dm ⟨false,1,1⟩=[49]:=by
 unfold dm;simp[kE]
theorem q_:jP ⟨false,1,1⟩=false:=by unfold jP;simp[kE]
theorem pt:jP ⟨false,0,1⟩=false:=by unfold jP;simp[kE,qf]
theorem sj:ic [49]=some ⟨⟨false,1,1⟩,⟨false,0,1⟩⟩:=by
 unfold ic
 rw[if_neg (by decide),po]
 simp only[nv,l3]
 rw[if_pos ⟨by unfold d_;rw[if_pos rfl];exact pw,q_,pt⟩]
theorem pz:il [49]=true:=by decide
theorem qe:cI [49]=true:=by
 unfold cI ju;rw[sj,pz];rfl
theorem i6 (s:ByteArray):c_ [s] [⟨#[49]⟩]=cI s.data.toList:=by
 unfold c_ dy nV
 simp[qe]
theorem jD (w:World) (s:ByteArray) (T:TypeId):bQ (w.alloc (.cells #[.string s] T)) (some ⟨w.heap.size,0,none⟩) [s] :=
 ⟨fun _=>⟨_,_,rfl,by simp,fun i hi=>by
  obtain rfl:i=0:=by simp at hi;exact hi
  exact af w _ T 0 _ rfl⟩⟩
theorem iw (s:ByteArray) (w:World) (hG:Gx w) :
  Calls Tryz.prog 56 #[.string s] w fun e w'=>∃ b:Bool,e=.returned (.bool b)∧Hid (cI s.data.toList=b)∧Below w.heap.size w w':=by
 have hb1:Below w.heap.size w (w.alloc (.cells #[.string s] 99)):=(Below.refl _ _).alloc (uo _) _
 have hb2:Below (w.alloc (.cells #[.string s] 99)).heap.size (w.alloc (.cells #[.string s] 99)) ((w.alloc (.cells #[.string s] 99)).alloc (.cells #[.string ⟨#[49]⟩] 99)):=(Below.refl _ _).alloc (uo _) _
 have W0:=uk ((jD w s 99).below hb2)
 have W1:=uk (jD (w.alloc (.cells #[.string s] 99)) ⟨#[49]⟩ 99)
 have HB:=uk (hb1.trans (hb2.mono hb1.size))
 have HG:=uk (hG.below HB.out)
 clear hb1 hb2 hG
 go_enter Tryz.func56,Tryz.ntmps56
 go_wp2_with fail
 refine (tj _ _ 1 1 [s] [⟨#[49]⟩] _ (by exact W0.out) (by have h:=W1.out;rw[show (w.alloc (.cells #[.string s] 99)).heap.size=w.heap.size+1 from by simp] at h;exact h) HG.out).mono ?_
 rintro e w2 ⟨n,rfl,hn,hb3⟩
 have hb4:=HB.out.trans (hb3.mono HB.out.size)
 rcases hn with ⟨rfl,hn⟩ | ⟨rfl,hn⟩
 ·go_wp2
  go_ret
  exact⟨_,rfl,by unfold Hid;rw[←i6];exact hn.out,hb4⟩
 ·go_wp2
  go_ret
  exact⟨_,rfl,by unfold Hid;rw[←i6];exact hn.out,hb4⟩
structure Nd where
 guard:Int
 rungs:List ByteArray
structure Cl where
 loop:Int
 gain:ByteArray
structure Rg where
 name:ByteArray
 next:ByteArray
 back:ByteArray
 tries:Int
 minutes:Int
 needs:List Nd
 loops:List Cl
structure Gd where
 name:ByteArray
 rungs:List Rg
structure ee (w:World) (p:Option Addr) (l:List Nd):Prop where
 at_:0<l.length→∃ b o,p=some ⟨b,o,none⟩∧b<w.heap.size∧∀ i (h:i<l.length),∃ q c,w.cell? ⟨b,o+i*2,none⟩=some (.int .i64 l[i].guard)∧w.cell? ⟨b,o+i*2+1,none⟩=some (.slice q l[i].rungs.length c)∧bQ w q l[i].rungs
theorem ee.below {w w':World}{p:Option Addr}{l:List Nd} (h:ee w p l) (hb:Below w.heap.size w w'):ee w' p l:=by
 refine⟨fun hl=>?_⟩
 obtain⟨b,o,e,hlt,hc⟩:=h.at_ hl
 refine⟨b,o,e,uv hlt hb.size,fun i hi=>?_⟩
 obtain⟨q,c,h1,h2,h3⟩:=hc i hi
 exact⟨q,c,(hb.cell (p:=⟨b,_,none⟩) hlt).trans h1,(hb.cell (p:=⟨b,_,none⟩) hlt).trans h2,h3.below hb⟩
structure gc (w:World) (p:Option Addr) (l:List Cl):Prop where
 at_:0<l.length→∃ b o,p=some ⟨b,o,none⟩∧b<w.heap.size∧∀ i (h:i<l.length),w.cell? ⟨b,o+i*2,none⟩=some (.int .i64 l[i].loop)∧w.cell? ⟨b,o+i*2+1,none⟩=some (.string l[i].gain)
theorem gc.below {w w':World}{p:Option Addr}{l:List Cl} (h:gc w p l) (hb:Below w.heap.size w w'):gc w' p l:=by
 refine⟨fun hl=>?_⟩
 obtain⟨b,o,e,hlt,hc⟩:=h.at_ hl
 refine⟨b,o,e,uv hlt hb.size,fun i hi=>?_⟩
 obtain⟨h1,h2⟩:=hc i hi
 exact⟨(hb.cell (p:=⟨b,_,none⟩) hlt).trans h1,(hb.cell (p:=⟨b,_,none⟩) hlt).trans h2⟩
structure g9 (w:World) (b o:Nat) (r:Rg) (q1:Option Addr) (c1:Nat) (q2:Option Addr) (c2:Nat):Prop where
 d0:w.cell? ⟨b,o,none⟩=some (.string r.name)
 d1:w.cell? ⟨b,o+1,none⟩=some (.string r.next)
 d2:w.cell? ⟨b,o+2,none⟩=some (.string r.back)
 d3:w.cell? ⟨b,o+3,none⟩=some (.int .i64 r.tries)
 d4:w.cell? ⟨b,o+4,none⟩=some (.int .i64 r.minutes)
 d5:w.cell? ⟨b,o+5,none⟩=some (.slice q1 r.needs.length c1)
 d6:w.cell? ⟨b,o+6,none⟩=some (.slice q2 r.loops.length c2)
 n:ee w q1 r.needs
 l:gc w q2 r.loops
theorem g9.below {w w':World}{b o:Nat}{r:Rg}{q1 q2:Option Addr}{c1 c2:Nat} (h:g9 w b o r q1 c1 q2 c2) (hlt:b<w.heap.size) (hb:Below w.heap.size w w'):g9 w' b o r q1 c1 q2 c2 :=
 ⟨(hb.cell (p:=⟨b,_,none⟩) hlt).trans h.d0,(hb.cell (p:=⟨b,_,none⟩) hlt).trans h.d1,(hb.cell (p:=⟨b,_,none⟩) hlt).trans h.d2,(hb.cell (p:=⟨b,_,none⟩) hlt).trans h.d3,(hb.cell (p:=⟨b,_,none⟩) hlt).trans h.d4,(hb.cell (p:=⟨b,_,none⟩) hlt).trans h.d5,(hb.cell (p:=⟨b,_,none⟩) hlt).trans h.d6,h.n.below hb,h.l.below hb⟩
structure bP (w:World) (p:Option Addr) (l:List Rg):Prop where
 at_:0<l.length→∃ b o,p=some ⟨b,o,none⟩∧b<w.heap.size∧∀ i (h:i<l.length),∃ q1 c1 q2 c2,g9 w b (o+i*7) l[i] q1 c1 q2 c2
theorem bP.below {w w':World}{p:Option Addr}{l:List Rg} (h:bP w p l) (hb:Below w.heap.size w w'):bP w' p l:=by
 refine⟨fun hl=>?_⟩
 obtain⟨b,o,e,hlt,hc⟩:=h.at_ hl
 refine⟨b,o,e,uv hlt hb.size,fun i hi=>?_⟩
 obtain⟨q1,c1,q2,c2,h1⟩:=hc i hi
 exact⟨q1,c1,q2,c2,h1.below hlt hb⟩
structure aQ (w:World) (p:Option Addr) (l:List Gd):Prop where
 at_:0<l.length→∃ b o,p=some ⟨b,o,none⟩∧b<w.heap.size∧∀ i (h:i<l.length),∃ q c,w.cell? ⟨b,o+i*2,none⟩=some (.string l[i].name)∧w.cell? ⟨b,o+i*2+1,none⟩=some (.slice q l[i].rungs.length c)∧bP w q l[i].rungs
theorem aQ.below {w w':World}{p:Option Addr}{l:List Gd} (h:aQ w p l) (hb:Below w.heap.size w w'):aQ w' p l:=by
 refine⟨fun hl=>?_⟩
 obtain⟨b,o,e,hlt,hc⟩:=h.at_ hl
 refine⟨b,o,e,uv hlt hb.size,fun i hi=>?_⟩
 obtain⟨q,c,h1,h2,h3⟩:=hc i hi
 exact⟨q,c,(hb.cell (p:=⟨b,_,none⟩) hlt).trans h1,(hb.cell (p:=⟨b,_,none⟩) hlt).trans h2,h3.below hb⟩
theorem kU (n low high:Int) (w:World) :
  Calls Tryz.prog 27 #[.int .i64 n,.int .i64 low,.int .i64 high] w fun e w'=>e=.returned (.bool (decide (low≤n)&&decide (n≤high)))∧w'=w:=by
 by_cases h:low≤n
 ·have hd:decide (low≤n)=true:=by simp;omega
  go_enter Tryz.func27,Tryz.ntmps27
  go_wp2
  go_ret
  exact⟨by simp[hd],rfl⟩
 ·have hd:decide (low≤n)=false:=by simp;omega
  go_enter Tryz.func27,Tryz.ntmps27
  go_wp2
  go_ret
  exact⟨by simp[hd],rfl⟩
def bS:List Rg→List UInt8→Nat→Int
 | [],_,_=>-1
 | r :: l,s,k=>if r.name.data.toList=s then (k:Int) else bS l s (k+1)
def aD (l:List Rg) (s:List UInt8):Int:=bS l s 0
theorem fX {l:List Rg}{s:List UInt8}{i:Nat} (h:i<l.length):bS (l.drop i) s i=if l[i].name.data.toList=s then (i:Int) else bS (l.drop (i+1)) s (i+1):=by
 rw[uR h];rfl
theorem tB (r:Rg) (q1:Option Addr) (c1:Nat) (q2:Option Addr) (c2:Nat) (s:ByteArray) (k:Nat) (w:World) (hk:k<w.heap.size) (hc:w.cell? ⟨k,0,none⟩=some (.string s)) :
  Calls Tryz.prog 59 #[.agg #[.string r.name,.string r.next,.string r.back,.int .i64 r.tries,.int .i64 r.minutes,.slice q1 r.needs.length c1,.slice q2 r.loops.length c2],.pointer (some ⟨k,0,none⟩)] w fun e w'=>∃ b:Bool,e=.returned (.bool b)∧Hid (decide (r.name.data.toList=s.data.toList)=b)∧Below w.heap.size w w':=by
 go_enter Tryz.func59,Tryz.ntmps59
 go_wp2
 go_ret
 refine⟨_,rfl,?_,(Below.refl _ _).alloc (uo _) _⟩
 unfold Hid
 rw[←aj,←aj,Bool.eq_iff_iff]
 simp
theorem oQ (p:Option Addr) (c:Nat) (l:List Rg) (s:ByteArray) (k:Nat) (w:World) (hl:bP w p l) (hn:l.length<1000000) (hk:k<w.heap.size) (hc:w.cell? ⟨k,0,none⟩=some (.string s)) :
  Calls Tryz.prog 58 #[.slice p l.length c,.func (.func 59) #[] #[.pointer (some ⟨k,0,none⟩)]] w fun e w'=>∃ z:Int,e=.returned (.int .i64 z)∧Hid (aD l s.data.toList=z)∧Below w.heap.size w w':=by
 go_enter Tryz.func58,Tryz.ntmps58
 go_wp2_with fail
 go_loopw [8] (fun s8 wr=>∃ i:Nat,s8=.int .i64 i∧i≤l.length∧bP wr p l∧Below w.heap.size w wr∧Hid (aD l s.data.toList=bS (l.drop i) s.data.toList i)) (fun s8 _=>l.length-(intOf s8).toNat)
 case atStart=>exact⟨0,rfl,by omega,hl,Below.refl _ _,rfl⟩
 case round =>
  clear hl
  obtain⟨i,rfl,hi,hl,hb,hx⟩:=hrel
  by_cases hil:i<l.length
  ·obtain⟨b,o,rfl,hbw,hcs⟩:=hl.at_ (by omega)
   obtain⟨q1,c1,q2,c2,hr⟩:=hcs i hil
   obtain⟨r,hre⟩:∃ r,r=l[i]:=⟨_,rfl⟩
   rw[←hre] at hr
   have HR:=uk hre
   have e0:=hr.d0;have e1:=hr.d1;have e2:=hr.d2;have e3:=hr.d3;have e4:=hr.d4;have e5:=hr.d5;have e6:=hr.d6
   have hk2:=uv hk hb.size
   have hc2:=(hb.cell (p:=⟨k,0,none⟩) hk).trans hc
   clear hre hcs hr
   go_wp2_with fail
   refine (tB r q1 c1 q2 c2 s k wr hk2 hc2).mono ?_
   rintro e w2 ⟨bb,rfl,hbb,hb2⟩
   have hb3:=hb.trans (hb2.mono hb.size)
   have hl2:=hl.below hb2
   clear hl hb2 e0 e1 e2 e3 e4 e5 e6 hc2
   cases bb
   ·go_wp2
    go_roundw
    case rel=>exact⟨i+1,by go_num,by omega,hl2,hb3,by unfold Hid;rw[hx.out,fX hil,if_neg (by rw[←HR.out];exact of_decide_eq_false hbb.out)]⟩
    case measure=>simp[intOf];omega
   ·go_wp2
    go_ret
    exact⟨_,rfl,by unfold Hid;rw[hx.out,fX hil,if_pos (by rw[←HR.out];exact of_decide_eq_true hbb.out)],hb3⟩
  ·have hie:i=l.length:=by omega
   subst hie
   clear hil hi
   go_wp2
   go_ret
   exact⟨-1,rfl,by unfold Hid;rw[hx.out,wR];rfl,hb⟩
theorem fY (g:ByteArray) (p:Option Addr) (c:Nat) (l:List Rg) (s:ByteArray) (w:World) (hl:bP w p l) (hn:l.length<1000000) :
  Calls Tryz.prog 42 #[.agg #[.string g,.slice p l.length c],.string s] w fun e w'=>∃ z:Int,e=.returned (.int .i64 z)∧Hid (aD l s.data.toList=z)∧Below w.heap.size w w':=by
 have hb1:Below w.heap.size w (w.alloc (.cells #[.string g,.slice p l.length c] 61)):=(Below.refl _ _).alloc (uo _) _
 have hb2:Below (w.alloc (.cells #[.string g,.slice p l.length c] 61)).heap.size (w.alloc (.cells #[.string g,.slice p l.length c] 61)) ((w.alloc (.cells #[.string g,.slice p l.length c] 61)).alloc (.cells #[.string s] 9)):=(Below.refl _ _).alloc (uo _) _
 have hs1:(w.alloc (.cells #[.string g,.slice p l.length c] 61)).heap.size=w.heap.size+1:=by simp
 have hc:((w.alloc (.cells #[.string g,.slice p l.length c] 61)).alloc (.cells #[.string s] 9)).cell? ⟨w.heap.size+1,0,none⟩=some (.string s):=by
  rw[←hs1];exact af _ _ 9 0 _ rfl
 have hk:w.heap.size+1<((w.alloc (.cells #[.string g,.slice p l.length c] 61)).alloc (.cells #[.string s] 9)).heap.size:=by simp
 have HC:=uk hc
 have HK:=uk hk
 have HB:=uk (hb1.trans (hb2.mono hb1.size))
 have HL:=uk (hl.below HB.out)
 clear hb1 hb2 hs1 hc hk hl
 go_enter Tryz.func42,Tryz.ntmps42
 go_wp2_with fail
 refine (oQ p c l s _ _ HL.out hn HK.out HC.out).mono ?_
 rintro e w2 ⟨z,rfl,hz,hb3⟩
 go_wp2
 go_ret
 exact⟨z,rfl,hz,HB.out.trans (hb3.mono HB.out.size)⟩
end Go.Proofs.YtlkniohhalnjjaaGreatDoor
