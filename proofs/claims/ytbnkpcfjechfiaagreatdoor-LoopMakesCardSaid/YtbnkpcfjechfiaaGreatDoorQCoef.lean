/- Lemmas of this claim. -/
import Derived.Lib.SplitLaws
import Derived.Lib.SmallJoins
import Derived.Test.YtbnkpcfjechfiaaGreatDoorQGet
import Derived.Test.YtbnkpcfjechfiaaGreatDoorQNQ
import Derived.Test.YtbnkpcfjechfiaaGreatDoorQRDiv
set_option linter.all false
set_option maxRecDepth 100000
set_option maxHeartbeats 8000000
namespace Go.Proofs.YtbnkpcfjechfiaaGreatDoor
open Go.RowKit Dc Dg
structure Gx (w:World):Prop where
 g:Gw w
 e0:∃ tp p,w.cell? ⟨0,0,none⟩=some (.iface tp p)
 e1:∃ tp p,w.cell? ⟨1,0,none⟩=some (.iface tp p)
theorem Gx.below {w w':World} (h:Gx w) (hb:Below w.heap.size w w'):Gx w':=by
 refine⟨h.g.below hb,?_,?_⟩
 ·obtain⟨tp,p,e⟩:=h.e0;exact⟨tp,p,(hb.cell (Fe (by decide) h.g.sz)).trans e⟩
 ·obtain⟨tp,p,e⟩:=h.e1;exact⟨tp,p,(hb.cell (Fe (by decide) h.g.sz)).trans e⟩
def gH (s:List UInt8):Bool:=match f_ s with | some z=>decide (z.y.n=0) | none=>false
theorem ws (s:ByteArray) (w:World) (hG:Gw w) :
  Calls Tryz.prog 98 #[.string s] w fun e w'=>∃ b:Bool,e=.returned (.bool b)∧Hid (gH s.data.toList=b)∧Below w.heap.size w w':=by
 go_enter Tryz.func98,Tryz.ntmps98;go_wp2_with fail
 refine (jH s w hG).mono ?_;rintro e w1 ⟨v,ok,rfl,hcase,hb1⟩;rcases hcase with ⟨z,hz,rfl,hv⟩ | ⟨hz,rfl,rfl⟩
 ·have HZ:=E5 hz;have HB1:=E5 hb1;clear hz;have hv':=hv;obtain⟨a,b,c,d,e,f,rfl,hx,hy⟩:=hv';obtain⟨xn,xd,ex,hxn,hxd,_,_⟩:=hx;obtain⟨yn,yd,ey,hyn,hyd,_,_⟩:=hy;simp only[Value.agg.injEq,Array.mk.injEq,List.cons.injEq,and_true] at ex ey;obtain⟨rfl,rfl,rfl⟩:=ex;obtain⟨rfl,rfl,rfl⟩:=ey;obtain⟨p1,c1,rfl,_,_,_⟩:=hxn;obtain⟨p2,c2,rfl,_,_,_⟩:=hxd;obtain⟨p3,c3,rfl,_,_,_⟩:=hyn;obtain⟨p4,c4,rfl,_,_,_⟩:=hyd;have hb2:Below w1.heap.size w1 (w1.alloc (.cells #[.bool z.x.minus,.slice p1 (am BB z.x.n).length c1,.slice p2 (am BB z.x.d).length c2,.bool z.y.minus,.slice p3 (am BB z.y.n).length c3,.slice p4 (am BB z.y.d).length c4] 153)):=(Below.refl _ _).alloc (Fb _) _;have HV:=E5 (hv.below hb2);have HB2:=E5 (hb1.trans (hb2.mono hb1.size));clear hv hb1 hb2;go_wp2_with fail
  refine (ek _ z _ (by exact HV.out)).mono ?_;rintro e w3 ⟨rfl,hb3⟩;go_wp2;go_ret;exact⟨_,rfl,by unfold Hid gH;rw[HZ.out],HB2.out.trans (hb3.mono HB2.out.size)⟩
 ·have HZ:=E5 hz;clear hz;unfold gO;go_wp2;go_ret;exact⟨_,rfl,by unfold Hid gH;rw[HZ.out],hb1.trans (((Below.refl _ _).alloc (Fb _) _).mono hb1.size)⟩
def ig (s:List UInt8):Bool:=match Lib.atoiAll s with | .ok v=>decide (v≤4096) | _=>false
theorem EE (s:ByteArray) (w:World) (hs:s.size<1000000) (hG:Gx w) :
  Calls Tryz.prog 158 #[.string s] w fun e w'=>∃ (v:Int) (ev:Value),e=.returned (.tuple #[.int .i64 v,ev]) ∧
   ((∃ a b,ev=.iface a b∧Hid (ig s.data.toList=false))∨(ev=.nilIface∧Hid (ig s.data.toList=decide (v≤4096))))∧Below w.heap.size w w':=by
 rcases h:Lib.atoiAll s.data.toList with v | _ | _
 ·refine (Tryz.strconv_Atoi_ok s (by omega) v h w).mono ?_;rintro e w' ⟨rfl,hw⟩;refine⟨_,_,rfl,Or.inr ⟨rfl,by unfold Hid ig;rw[h]⟩,?_⟩;rcases hw with rfl | ⟨t,rfl⟩
  ·exact Below.refl _ _
  ·exact Joins.below_bytesWorld _ _ _ _ (Fb _)
 ·obtain⟨tp,p,hv⟩:=hG.e0;refine (Any.strconv_Atoi_syntax Tryz.laysC172 s (by omega) h _ w hv (Or.inr ⟨_,_,rfl⟩)).mono ?_;rintro e w' ⟨N,rfl,_,_,hb⟩;exact⟨_,_,rfl,Or.inl ⟨_,_,rfl,by unfold Hid ig;rw[h]⟩,hb⟩
 ·obtain⟨tp,p,hv⟩:=hG.e1;refine (Tryz.strconv_Atoi_range s (by omega) h _ w hv (Or.inr ⟨_,_,rfl⟩)).mono ?_;rintro e w' ⟨N,rfl,_,_,hb⟩;exact⟨_,_,rfl,Or.inl ⟨_,_,rfl,by unfold Hid ig;rw[h]⟩,hb⟩
def eY (t:ByteArray):List ByteArray:=Lib.splitB ⟨#[47]⟩ 0 (Lib.countB t ⟨#[47]⟩) t
def gl (s:List UInt8):Bool:=(eY ⟨(Lib.trimPrefix s [45]).toArray⟩).all fun p=>ig p.data.toList
theorem tJ (sep:ByteArray):∀ (k:Nat) (s p:ByteArray),p∈Lib.splitB sep 0 k s→p.size≤s.size:=by
 intro k
 induction k with
 | zero=>intro s p h;simp[Lib.splitB] at h;subst h;exact Fb _
 | succ k ih =>
  intro s p h;unfold Lib.splitB at h
  split at h
  ·simp at h;subst h;exact Fb _
  ·rcases Ge.1 h with rfl | h
   ·rw[ByteArray.size_extract];omega
   ·have:=ih _ _ h;rw[ByteArray.size_extract] at this;omega
structure kt (w:World) (k:Nat) (l:List ByteArray):Prop where
 lt:k<w.heap.size
 at_:∀ i (h:i<l.length),w.cell? ⟨k,i,none⟩=some (.string l[i])
theorem kt.below {w w':World}{k:Nat}{l:List ByteArray} (h:kt w k l) (hb:Below w.heap.size w w'):kt w' k l :=
 ⟨Fe h.lt hb.size,fun i hi=>(hb.cell (p:=⟨k,i,none⟩) h.lt).trans (h.at_ i hi)⟩
theorem Eo (t:ByteArray) (w:World) (hs:t.size<1000000) (hG:Gx w) :
  Calls Tryz.prog 156 #[.string t,.string ⟨#[47]⟩] w fun e w'=>∃ (k n:Nat),e=.returned (.slice (some ⟨k,0,none⟩) n n)∧n=(eY t).length∧0<n∧n≤1000000∧kt w' k (eY t)∧Below w.heap.size w w':=by
 obtain⟨m,hm⟩:=hG.g.ml;refine (Tryz.strings_Split t ⟨#[47]⟩ m w (by omega) hm (by decide)).mono ?_;rintro e w' ⟨rfl,rfl⟩;have hl:(eY t).length=Lib.countB t ⟨#[47]⟩+1:=Lib.splitB_all _ (by decide) _ _ _ rfl;refine⟨_,_,rfl,hl.symm,by omega,?_,⟨by simp,fun i hi=>?_⟩,(Below.refl _ _).alloc (Fb _) _⟩
 ·have:=Lib.countB_le ⟨#[47]⟩ (by decide) t.size t (Fb _);omega
 ·exact aA w _ 9 i _ (by rw[H4,Hu];show Option.map Value.string (eY t)[i]?=_;rw[Fr hi];rfl)
theorem iZ {l:List ByteArray}{i:Nat} (h:i<l.length) (f:ByteArray→Bool):(l.take (i+1)).all f=((l.take i).all f&&f l[i]):=by
 have e:l.take (i+1)=l.take i++[l[i]]:=(Fm h).symm;rw[e,Gu];simp
theorem mU {l:List ByteArray}{i:Nat} (h:i<l.length) (f:ByteArray→Bool) (hf:f l[i]=false):l.all f=false:=by
 rw[G8];exact⟨l[i],Fu h,by rw[hf];exact GR⟩
theorem vy (s:ByteArray) (w:World) (hs:s.size<100000) (hG:Gx w) :
  Calls Tryz.prog 107 #[.string s] w fun e w'=>∃ b:Bool,e=.returned (.bool b)∧Hid (gl s.data.toList=b)∧Below w.heap.size w w':=by
 go_enter Tryz.func107,Tryz.ntmps107;go_wp2_with fail
 refine (tQ _ _ w).mono ?_;rintro e w1 ⟨t,rfl,ht,hts,rfl⟩;go_wp2_with fail
 refine (Eo t w (by omega) hG).mono ?_;rintro e w1 ⟨k,n,rfl,hn,hn0,hn1,hW,hb1⟩;have HN:=E5 hn;have hG1:=hG.below hb1;clear hn hG;go_wp2_with fail
 go_loopw [11] (fun s11 wr=>∃ i:Nat,s11=.int .i64 i∧i≤n∧Gx wr∧kt wr k (eY t)∧Below w.heap.size w wr∧Hid (((eY t).take i).all (fun p=>ig p.data.toList)=true)) (fun s11 _=>n-(intOf s11).toNat)
 case atStart=>exact⟨0,rfl,by omega,hG1,hW,hb1,rfl⟩
 case round =>
  clear hG1 hW hb1;obtain⟨i,rfl,hin,hGr,hWr,hbr,hall⟩:=hrel;by_cases hi:i<n
  ·have hil:i<(eY t).length:=by rw[←HN.out];exact hi
   have hc:=hWr.at_ i hil;have hps:(eY t)[i].size≤t.size:=tJ _ _ _ _ (Fu hil);obtain⟨p,hp⟩:∃ p,p=(eY t)[i]:=⟨_,rfl⟩;rw[←hp] at hc hps;have HP:=E5 hp;clear hp;go_wp2_with fail
   refine (EE p wr (by omega) hGr).mono ?_;rintro e w2 ⟨v,ev,rfl,hcase,hb2⟩;have hb3:=hbr.trans (hb2.mono hbr.size);have hG2:=hGr.below hb2;have hW2:=hWr.below hb2;clear hb2 hGr hWr hbr hc;rcases hcase with ⟨a,b,rfl,hpart⟩ | ⟨rfl,hpart⟩
   ·go_wp2;go_ret;exact⟨false,rfl,by unfold Hid gl;rw[←ht.out];exact mU hil _ (by rw[←HP.out];exact hpart.out),hb3⟩
   ·by_cases hv:(4096:Int)<v
    ·have hd:decide ((4096:Int)<v)=true:=by simp;omega
     have HV:=E5 hv;clear hv;go_wp2;go_ret;exact⟨false,rfl,by unfold Hid gl;rw[←ht.out];exact mU hil _ (by rw[←HP.out,hpart.out];simp;exact HV.out),hb3⟩
    ·have hd:decide ((4096:Int)<v)=false:=by simp;omega
     have HV:=E5 hv;clear hv;go_wp2;go_roundw;case rel=>exact⟨i+1,by go_num,by omega,hG2,hW2,hb3,by unfold Hid;rw[iZ hil,hall.out,←HP.out,hpart.out];simp;have:=HV.out;omega⟩
     case measure=>simp[intOf];omega
  ·have hin':i=n:=by omega
   subst hin';clear hi;go_wp2;go_ret;exact⟨true,rfl,by have h:=hall.out;rw[HN.out,FD] at h;unfold Hid gl;rw[←ht.out];exact h,hbr⟩
def bu (s:List UInt8):Bool:=gH s&&gl s
theorem nY {s:List UInt8} (h:gH s=true):s.length≤8008:=by
 unfold gH f_ at h;by_cases hl:8008<s.length
 ·rw[if_pos hl] at h;exact absurd h GR
 ·omega
theorem o8 (s:ByteArray) (w:World) (hG:Gx w) :
  Calls Tryz.prog 52 #[.string s] w fun e w'=>∃ b:Bool,e=.returned (.bool b)∧Hid (bu s.data.toList=b)∧Below w.heap.size w w':=by
 go_enter Tryz.func52,Tryz.ntmps52;go_wp2_with fail
 refine (ws s w hG.g).mono ?_;rintro e w1 ⟨b,rfl,hb,hb1⟩;have hG1:=hG.below hb1;clear hG
 cases b
 ·have HB:=E5 hb.out;clear hb;go_wp2;go_ret;exact⟨_,rfl,by unfold Hid bu;rw[HB.out];rfl,hb1⟩
 ·have HB:=E5 hb.out;have hsz:=nY hb.out;rw[bo] at hsz;clear hb;go_wp2_with fail
  refine (vy s w1 (by omega) hG1).mono ?_;rintro e w2 ⟨b,rfl,hb,hb2⟩;go_wp2;go_ret;exact⟨b,rfl,by unfold Hid bu;rw[HB.out,hb.out];rfl,hb1.trans (hb2.mono hb1.size)⟩
structure fw (w:World) (p:Option Addr) (l:List ByteArray):Prop where
 at_:0<l.length→∃ b o,p=some ⟨b,o,none⟩∧b<w.heap.size∧∀ i (h:i<l.length),w.cell? ⟨b,o+i,none⟩=some (.string l[i])
theorem fw.below {w w':World}{p:Option Addr}{l:List ByteArray} (h:fw w p l) (hb:Below w.heap.size w w'):fw w' p l:=by
 refine⟨fun hl=>?_⟩;obtain⟨b,o,e,hlt,hc⟩:=h.at_ hl;exact⟨b,o,e,Fe hlt hb.size,fun i hi=>(hb.cell (p:=⟨b,o+i,none⟩) hlt).trans (hc i hi)⟩
def eR (l:List ByteArray):Bool:=decide (1≤l.length)&&decide (l.length≤7)&&l.all fun s=>bu s.data.toList
def jg (l:List ByteArray):Option (List UInt8):=l.head?.map fun s=>s.data.toList
def az (a b:List ByteArray):Bool:=eR a&&eR b&&decide (jg b=some [49])
theorem pH {l:List ByteArray} (h:l.length<1):eR l=false:=by
 unfold eR;rw[decide_eq_false (by omega)];rfl
theorem nK {l:List ByteArray} (h:7<l.length):eR l=false:=by
 unfold eR;rw[decide_eq_false (by omega:¬ l.length≤7),Bool.and_false];rfl
theorem pG {l:List ByteArray}{i:Nat} (h:i<l.length) (hf:bu l[i].data.toList=false):eR l=false:=by
 unfold eR;rw[mU h _ hf,Bool.and_false]
theorem nJ {l:List ByteArray} (h1:1≤l.length) (h2:l.length≤7) (hf:(l.take l.length).all (fun s=>bu s.data.toList)=true):eR l=true:=by
 rw[FD] at hf;unfold eR;rw[decide_eq_true h1,decide_eq_true h2,hf];rfl
theorem yu {l:List ByteArray} (h:eR l=true):0<l.length:=by
 unfold eR at h;simp only[Fy,decide_eq_true_eq] at h;omega
theorem qJ {l:List ByteArray} (h:0<l.length):decide (jg l=some [49])=decide (l[0].data.toList=[49]):=by
 match l,h with
 | a :: r,_=>simp[jg]
theorem DL (p0 p1:Option Addr) (c0 c1:Nat) (l0 l1:List ByteArray) (w:World) (h0:fw w p0 l0) (h1:fw w p1 l1) (hG:Gx w) :
  Calls Tryz.prog 30 #[.agg #[.slice p0 l0.length c0,.slice p1 l1.length c1]] w fun e w'=>∃ n:Int,e=.returned (.int .i64 n)∧(n=0∧Hid (az l0 l1=true)∨n=30∧Hid (az l0 l1=false))∧Below w.heap.size w w':=by
 have hb0:Below w.heap.size w (w.alloc (.cells #[.slice p0 l0.length c0,.slice p1 l1.length c1] 24)):=(Below.refl _ _).alloc (Fb _) _;have k0:=aA w #[.slice p0 l0.length c0,.slice p1 l1.length c1] 24 0 _ rfl;have k1:=aA w #[.slice p0 l0.length c0,.slice p1 l1.length c1] 24 1 _ rfl;have hlt:w.heap.size<(w.alloc (.cells #[.slice p0 l0.length c0,.slice p1 l1.length c1] 24)).heap.size:=by simp
 have W0:=h0.below hb0;have W1:=h1.below hb0;have G0:=hG.below hb0;clear h0 h1 hG;have i0:∀ w,(Instr.index 105 (.agg #[.slice p0 l0.length c0,.slice p1 l1.length c1]) (.int .i64 0)).run Tryz.prog w=.ok (.slice p0 l0.length c0) w:=fun _=>by kernel_rfl
 have i1:∀ w,(Instr.index 105 (.agg #[.slice p0 l0.length c0,.slice p1 l1.length c1]) (.int .i64 1)).run Tryz.prog w=.ok (.slice p1 l1.length c1) w:=fun _=>by kernel_rfl
 go_enter Tryz.func30,Tryz.ntmps30;go_wp2_with fail
 generalize w.alloc (.cells #[.slice p0 l0.length c0,.slice p1 l1.length c1] 24)=w0 at *
 go_loopw [12] (fun s12 wr=>∃ j:Nat,s12=.int .i64 j∧j≤2∧Gx wr∧fw wr p0 l0∧fw wr p1 l1∧Below w.heap.size w wr∧Below w0.heap.size w0 wr∧Hid ((1≤j→eR l0=true)∧(2≤j→eR l1=true))) (fun s12 _=>2-(intOf s12).toNat)
 case atStart=>exact⟨0,rfl,by omega,G0,W0,W1,hb0,Below.refl _ _,fun h=>absurd h (by decide),fun h=>absurd h (by decide)⟩
 case round =>
  clear G0 W0 W1 hb0;obtain⟨j,rfl,hj,hGr,hW0,hW1,hbr,hbr0,hdone⟩:=hrel;rcases (by omega:j=0∨j=1∨j=2) with rfl | rfl | rfl
  ·by_cases hfew:l0.length<1
   ·have hd:decide (((l0.length:Nat):Int)<1)=true:=by simp;omega
    have HF:=E5 hfew;clear hfew;go_wp2;go_ret;exact⟨30,rfl,Or.inr ⟨rfl,by unfold Hid az;rw[pH (l:=l0) HF.out];simp⟩,hbr⟩
   ·have hd:decide (((l0.length:Nat):Int)<1)=false:=by simp;omega
    have hpos:0<l0.length:=by omega
    clear hfew;by_cases hmany:7<l0.length
    ·have hd2:decide ((7:Int)<((l0.length:Nat):Int))=true:=by simp;omega
     have HF:=E5 hmany;clear hmany;go_wp2;go_ret;exact⟨30,rfl,Or.inr ⟨rfl,by unfold Hid az;rw[nK (l:=l0) HF.out];simp⟩,hbr⟩
    ·have hd2:decide ((7:Int)<((l0.length:Nat):Int))=false:=by simp;omega
     have hle:l0.length≤7:=by omega
     clear hmany;go_wp2_with fail
     go_loopw [25] (fun s25 wq=>∃ i:Nat,s25=.int .i64 i∧i≤l0.length∧Gx wq∧fw wq p0 l0∧fw wq p1 l1∧Below w.heap.size w wq∧Below w0.heap.size w0 wq∧Hid ((l0.take i).all (fun s=>bu s.data.toList)=true)) (fun s25 _=>l0.length-(intOf s25).toNat)
     case atStart=>exact⟨0,rfl,by omega,hGr,hW0,hW1,hbr,hbr0,rfl⟩
     case round =>
      clear hGr hW0 hW1 hbr hbr0;obtain⟨i,rfl,hi,hGr,hW0,hW1,hbr,hbr0,hall⟩:=hrel;by_cases hil:i<l0.length
      ·obtain⟨b,o,rfl,hbw,hc⟩:=hW0.at_ hpos;have hci:=hc i hil;obtain⟨p,hp⟩:∃ p,p=l0[i]:=⟨_,rfl⟩;rw[←hp] at hci;have HP:=E5 hp;clear hp hc;go_wp2_with fail
       refine (o8 p _ hGr).mono ?_;rintro e w2 ⟨b2,rfl,hb2,hbl2⟩;have hb3:=hbr.trans (hbl2.mono hbr.size)
       cases b2
       ·go_wp2;go_ret;exact⟨30,rfl,Or.inr ⟨rfl,by unfold Hid az;rw[pG (l:=l0) hil (by rw[←HP.out];exact hb2.out)];simp⟩,hb3⟩
       ·have hb4:=hbr0.trans (hbl2.mono hbr0.size);have hG2:=hGr.below hbl2;have hV0:=hW0.below hbl2;have hV1:=hW1.below hbl2;clear hGr hW0 hW1 hbr hbr0 hbl2 hci;go_wp2;go_roundw
        case rel =>
         (repeat apply Exists.intro)
         exact⟨⟨i+1,by go_num,by omega,hG2,hV0,hV1,hb3,hb4,by unfold Hid;rw[iZ hil,hall.out,←HP.out,hb2.out];rfl⟩,rfl⟩
        case measure=>simp[intOf];omega
      ·have hie:i=l0.length:=by omega
       subst hie;have hgood:=nJ (l:=l0) (by omega) (by omega) hall.out;have HGOOD:=E5 hgood;clear hil hi hgood;go_wp2;go_roundw;case rel=>exact⟨1,by go_num,by omega,hGr,hW0,hW1,hbr,hbr0,⟨fun _=>HGOOD.out,fun h=>absurd h (by decide)⟩⟩
       case measure=>simp[intOf]
  ·by_cases hfew:l1.length<1
   ·have hd:decide (((l1.length:Nat):Int)<1)=true:=by simp;omega
    have HF:=E5 hfew;clear hfew;go_wp2;go_ret;exact⟨30,rfl,Or.inr ⟨rfl,by unfold Hid az;rw[pH (l:=l1) HF.out];simp⟩,hbr⟩
   ·have hd:decide (((l1.length:Nat):Int)<1)=false:=by simp;omega
    have hpos:0<l1.length:=by omega
    clear hfew;by_cases hmany:7<l1.length
    ·have hd2:decide ((7:Int)<((l1.length:Nat):Int))=true:=by simp;omega
     have HF:=E5 hmany;clear hmany;go_wp2;go_ret;exact⟨30,rfl,Or.inr ⟨rfl,by unfold Hid az;rw[nK (l:=l1) HF.out];simp⟩,hbr⟩
    ·have hd2:decide ((7:Int)<((l1.length:Nat):Int))=false:=by simp;omega
     have hle:l1.length≤7:=by omega
     clear hmany;go_wp2_with fail
     go_loopw [25] (fun s25 wq=>∃ i:Nat,s25=.int .i64 i∧i≤l1.length∧Gx wq∧fw wq p0 l0∧fw wq p1 l1∧Below w.heap.size w wq∧Below w0.heap.size w0 wq∧Hid ((l1.take i).all (fun s=>bu s.data.toList)=true)) (fun s25 _=>l1.length-(intOf s25).toNat)
     case atStart=>exact⟨0,rfl,by omega,hGr,hW0,hW1,hbr,hbr0,rfl⟩
     case round =>
      clear hGr hW0 hW1 hbr hbr0;obtain⟨i,rfl,hi,hGr,hW0,hW1,hbr,hbr0,hall⟩:=hrel;by_cases hil:i<l1.length
      ·obtain⟨b,o,rfl,hbw,hc⟩:=hW1.at_ hpos;have hci:=hc i hil;obtain⟨p,hp⟩:∃ p,p=l1[i]:=⟨_,rfl⟩;rw[←hp] at hci;have HP:=E5 hp;clear hp hc;go_wp2_with fail
       refine (o8 p _ hGr).mono ?_;rintro e w2 ⟨b2,rfl,hb2,hbl2⟩;have hb3:=hbr.trans (hbl2.mono hbr.size)
       cases b2
       ·go_wp2;go_ret;exact⟨30,rfl,Or.inr ⟨rfl,by unfold Hid az;rw[pG (l:=l1) hil (by rw[←HP.out];exact hb2.out)];simp⟩,hb3⟩
       ·have hb4:=hbr0.trans (hbl2.mono hbr0.size);have hG2:=hGr.below hbl2;have hV0:=hW0.below hbl2;have hV1:=hW1.below hbl2;clear hGr hW0 hW1 hbr hbr0 hbl2 hci;go_wp2;go_roundw
        case rel =>
         (repeat apply Exists.intro)
         exact⟨⟨i+1,by go_num,by omega,hG2,hV0,hV1,hb3,hb4,by unfold Hid;rw[iZ hil,hall.out,←HP.out,hb2.out];rfl⟩,rfl⟩
        case measure=>simp[intOf];omega
      ·have hie:i=l1.length:=by omega
       subst hie;have hgood:=nJ (l:=l1) (by omega) (by omega) hall.out;have HGOOD:=E5 hgood;clear hil hi hgood;go_wp2;go_roundw;case rel=>exact⟨2,by go_num,by omega,hGr,hW0,hW1,hbr,hbr0,⟨fun _=>hdone.out.1 (by decide),fun _=>HGOOD.out⟩⟩
       case measure=>simp[intOf]
  ·have g0:=hdone.out.1 (by decide);have g1:=hdone.out.2 (by decide);have hpos:=yu g1;have H0:=E5 g0;have H1:=E5 g1;have k1':=(hbr0.cell (p:=⟨w.heap.size,1,none⟩) hlt).trans k1;obtain⟨b,o,rfl,hbw,hc⟩:=hW1.at_ hpos;have hci:wr.cell? ⟨b,o,none⟩=some (.string l1[0]):=hc 0 hpos;obtain⟨p,hp⟩:∃ p,p=l1[0]:=⟨_,rfl⟩;rw[←hp] at hci;have HP:=E5 hp;have hposI:(0:Int)<((l1.length:Nat):Int):=by omega
   clear hp hc g0 g1 hdone k0 k1 i0 i1;by_cases heq:p.toList=[49]
   ·have z1:(p.toList == [49])=true:=by simp[heq]
    have z2:(p.toList != [49])=false:=by simp[heq]
    have z3:decide (p.toList=[49])=true:=by simp[heq]
    have HE:=E5 heq;clear heq;go_wp2;go_ret;exact⟨0,rfl,Or.inl ⟨rfl,by unfold Hid az;rw[H0.out,H1.out,qJ hpos,decide_eq_true (by rw[←HP.out,←ar];exact HE.out)];rfl⟩,hbr⟩
   ·have z1:(p.toList == [49])=false:=by simp[heq]
    have z2:(p.toList != [49])=true:=by simp[heq]
    have z3:decide (p.toList=[49])=false:=by simp[heq]
    have HE:=E5 heq;clear heq;go_wp2;go_ret;exact⟨30,rfl,Or.inr ⟨rfl,by unfold Hid az;rw[H0.out,H1.out,qJ hpos,decide_eq_false (by rw[←HP.out,←ar];exact HE.out)];rfl⟩,hbr⟩
theorem Ct:dec 1=[49]:=by rw[dW (by decide)];rfl
theorem zV:dec 0=[48]:=by rw[dW (by decide)];rfl
theorem lZ:cI [48]=some ⟨false,0,1⟩:=by rfl
theorem jQ:cL ⟨false,0,1⟩=false:=by unfold cL;simp[Ct,zV]
open Dg Dc
structure gK (r:Rt):Prop where
 pos:0<r.d
 gcd:Nat.gcd r.n r.d=1
 sign:r.minus=true→r.n≠0
theorem mY {mi:Bool}{n d:Nat} (h:0<d):gK (di mi n d):=by
 unfold di
 split
 ·exact⟨by decide,by decide,fun h=>by cases h⟩
 ·rename_i hn
  have hg:0<Nat.gcd n d:=Gm _ h;refine⟨In (IB _ h) hg,?_,fun _=>?_⟩
  ·rw[Nat.gcd_div (Hz ..) (Iw ..),Nat.div_self hg]
  have:0<n / Nat.gcd n d:=In (Hi (by omega) (Hz ..)) hg
  show n / Nat.gcd n d≠0
  omega
theorem mX (n:Nat):gK ⟨false,n,1⟩:=⟨Nat.one_pos,Nat.gcd_one_right n,fun h=>by cases h⟩
theorem zJ {r:Rt} (h:gK r):gK (ra r):=⟨h.pos,h.gcd,fun hm=>by unfold ra at hm;simp at hm;exact hm.2⟩
theorem lj (s:List UInt8):gK (bZ s).1:=by
 unfold bZ
 split
 ·exact mX 1
 ·split
  ·rename_i h;exact mY (by have:=h.2;omega)
  ·exact mX _
theorem jB (s:List UInt8):gK (bO s).1:=by
 unfold bO
 split
 ·exact zJ (lj _)
 ·split<;>exact lj _
theorem oZ:gK eS:=mX 0
theorem gU (s:List UInt8):gK (aQ s).x∧gK (aQ s).y:=by
 unfold aQ
 split
 ·exact⟨oZ,jB _⟩
 ·split
  ·exact⟨jB _,oZ⟩
  ·exact⟨jB _,jB _⟩
theorem fk {s:List UInt8}{r:Rt} (h:cI s=some r):gK r:=by
 unfold cI at h
 split at h
 ·cases h
 ·split at h
  ·split at h
   ·cases h
   ·split at h
    ·cases h
    ·rename_i h0;injection h with h;subst h;exact mY (by omega)
  ·injection h with h;subst h;exact mY (by decide)
theorem mH {r:Rt} (h:gK r):di r.minus r.n r.d=r:=by
 obtain⟨m,n,d⟩:=r;have h1:=h.pos;have h2:=h.gcd;have h3:=h.sign;simp only at h1 h2 h3 ⊢;unfold di;rw[h2,IF,IF]
 split
 ·rename_i h0
  subst h0;rw[G_] at h2
  cases m
  ·rw[h2]
  ·exact absurd rfl (h3 rfl)
 ·rfl
/-! ### texts of digits -/
theorem r_ (n:Nat):∃ c r,dec n=c :: r∧a6 c=true:=by
 cases h:dec n with
 | nil=>exact absurd h (fY n)
 | cons c r =>
  have:=d9 n;rw[h,Hh,Fy] at this;exact⟨c,r,rfl,this.1⟩
theorem jd {c:UInt8} (h:a6 c=true):c≠43∧c≠45∧c≠47∧c≠105:=by
 unfold a6 at h;simp only[Fy,decide_eq_true_eq] at h;refine⟨?_,?_,?_,?_⟩<;>(intro e;subst e;revert h;decide)
theorem rY:∀ (l t:List UInt8) (m:Nat),l.all a6=true→l.length≤m→(∀ c,t.head?=some c→a6 c=false)→dx (l++t) m=l.length
 | [],[],m,_,_,_=>by simp[dx]
 | [],c :: t,0,_,_,_=>by simp[dx]
 | [],c :: t,m+1,_,_,h=>by
  have:=h c rfl;simp[dx,this]
 | c :: l,t,0,_,h,_=>by simp at h
 | c :: l,t,m+1,ha,hl,h=>by
  rw[Hh,Fy] at ha;rw[FT,dx,if_pos ha.1,rY l t m ha.2 (by simpa using hl) h];rfl
theorem nX {n:Nat}{t:List UInt8} (hl:(dec n).length≤2001) (h:∀ c,t.head?=some c→a6 c=false):de (dec n++t)=(n,t)∧dx (dec n++t) 2001=(dec n).length:=by
 have e:=rY (dec n) t 2001 (d9 n) hl h;refine⟨?_,e⟩;unfold de;rw[e,Id,List.drop_left',kg]<;>rfl
def fi (r:Rt):List UInt8:=dec r.n++(if 1<r.d then 47 :: dec r.d else [])
theorem fS (r:Rt):aK r=(if r.minus then [45] else [])++fi r:=by unfold aK fi;rw[FO]
theorem mV {r:Rt} (h:cL r=false):(dec r.n).length≤2000∧(dec r.d).length≤2000:=by
 unfold cL at h;simp only[GH,decide_eq_false_iff_not] at h;omega
theorem ku (r:Rt):∃ c t,fi r=c :: t∧a6 c=true:=by
 obtain⟨c,t,h1,h2⟩:=r_ r.n;exact⟨c,t++_,by unfold fi;rw[h1];rfl,h2⟩
theorem yK {r:Rt} (h:gK r) (hb:cL r=false):bZ (fi r)=(⟨false,r.n,r.d⟩,[]):=by
 obtain⟨h1,h2⟩:=mV hb;have hp:=fX r.n;have hpos:=h.pos;unfold fi
 split
 ·rename_i hd
  obtain⟨e1,e2⟩:=nX (n:=r.n) (t:=47 :: dec r.d) (by omega) (fun c hc=>by simp at hc;subst hc;decide);obtain⟨e3,_⟩:=nX (n:=r.d) (t:=[]) (by omega) (fun c hc=>by cases hc);rw[Gf] at e3;unfold bZ;rw[e2,if_neg (by omega),e1];simp only[IC,List.drop_one,List.tail_cons];rw[e3,if_pos ⟨by simp,by show r.d≠0;omega⟩];have:=mH (r:=⟨false,r.n,r.d⟩) ⟨h.pos,h.gcd,fun h=>by cases h⟩;rw[this]
 ·rename_i hd
  obtain⟨e1,e2⟩:=nX (n:=r.n) (t:=[]) (by omega) (fun c hc=>by cases hc);rw[show r.d=1 by omega];unfold bZ;rw[e2,if_neg (by omega),e1];rfl
theorem uV {r:Rt} (h:gK r) (hb:cL r=false):bO (aK r)=(r,[]):=by
 rw[fS];have hp:=yK h hb;obtain⟨c,t,e1,e2⟩:=ku r;obtain⟨m,n,d⟩:=r
 cases m
 ·simp only[FB,if_false,FJ];obtain⟨n1,n2,_⟩:=jd e2;unfold bO;rw[e1] at hp ⊢;simp only[IC,Option.some.injEq];rw[if_neg n2,if_neg n1];exact hp
 ·simp only[if_true];have hs:=h.sign rfl;simp only at hs;unfold bO;simp only[FT,FJ,IC,if_true,List.drop_one,List.tail_cons];rw[hp];unfold ra;simp[hs]
theorem ko {r:Rt} (h:gK r) (hb:cL r=false):aQ (aK r)=⟨r,eS⟩:=by
 unfold aQ;rw[uV h hb];simp
theorem dD {z:Vl} (h:z.y.n=0):bL z=aK z.x:=by unfold bL;rw[if_pos h]
/-! ### the program's reading of such a text -/
theorem oS {l:List UInt8}{c d:UInt8} (h:c≠d):Lib.hasSuffix (l++[c]) [d]=false:=by
 unfold Lib.hasSuffix;rw[FY];intro he;rw[Is] at he;obtain⟨t,ht⟩:=he;have:=List.append_inj_right' ht rfl;simp at this;exact h this.symm
theorem sf (n:Nat):∃ l c,dec n=l++[c]∧a6 c=true:=by
 have hne:=fY n;have:=Il hne;exact⟨_,_,this.symm,FH.1 (d9 n) _ (List.getLast_mem hne)⟩
theorem y6 (r:Rt):∃ l c,aK r=l++[c]∧a6 c=true:=by
 rw[fS];unfold fi;by_cases hd:1<r.d
 all_goals first | rw[if_pos hd] | rw[if_neg hd]
 ·obtain⟨l,c,h1,h2⟩:=sf r.d;exact⟨(if r.minus then [45] else [])++(dec r.n++47 :: l),c,by rw[h1];simp only[FO,FT],h2⟩
 ·obtain⟨l,c,h1,h2⟩:=sf r.n;exact⟨(if r.minus then [45] else [])++l,c,by rw[h1];simp only[FO,Gf],h2⟩
theorem uR (r:Rt):fx (aK r)=(aK r,[48]):=by
 obtain⟨l,c,h1,h2⟩:=y6 r;have:Lib.hasSuffix (aK r) [105]=false:=by rw[h1];exact oS (jd h2).2.2.2
 unfold fx;rw[this];rfl
theorem iH (c d:UInt8) (l:List UInt8):Lib.hasPrefix (c :: l) [d]=decide (c=d):=by
 unfold Lib.hasPrefix;rw[GU,Ir];simp[List.cons_prefix_cons,eq_comm]
theorem lK (r:Rt):Lib.trimPrefix (aK r) [45]=fi r∧Lib.hasPrefix (aK r) [45]=r.minus:=by
 rw[fS];obtain⟨c,t,e1,e2⟩:=ku r;unfold Lib.trimPrefix
 cases r.minus
 ·simp only[FB,if_false,FJ];rw[e1,iH,decide_eq_false (jd e2).2.1];exact⟨rfl,rfl⟩
 ·simp only[if_true,FT,FJ];rw[iH,decide_eq_true rfl];exact⟨rfl,rfl⟩
theorem qT {s:List UInt8}{d:UInt8}{i:Nat}:Lib.occAt s [d] i=true↔s[i]?=some d:=by
 unfold Lib.occAt;rw[Ir];constructor
 ·rintro⟨t,ht⟩;have:(s.drop i)[0]?=some d:=by rw[←ht];rfl
  rw[GA] at this;simpa using this
 ·intro h;obtain⟨hi,e⟩:=F9.1 h;exact⟨s.drop (i+1),by rw[Gr hi,e];rfl⟩
theorem ki {s:List UInt8}{d:UInt8} (h:d∉s):Lib.index s [d]=-1:=by
 refine Lib.index_none (fun j _=>?_);rw[FY];intro he;exact h (GY (qT.1 he))
theorem pw {l t:List UInt8}{d:UInt8} (h:d∉l):Lib.index (l++d :: t) [d]=l.length:=by
 refine Lib.index_first (by simp) (qT.2 (by simp)) (fun j hj=>?_);rw[FY];intro he;have:=qT.1 he;rw[Hk hj] at this;exact h (GY this)
theorem jm {l:List UInt8} (h:l.all a6=true):(47:UInt8)∉l:=fun hm=>(jd (FH.1 h _ hm)).2.2.1 rfl
theorem jk (n:Nat):cG (dec n)=some n:=by
 unfold cG;rw[if_pos ⟨fY n,d9 n⟩,kg]
theorem jp {r:Rt} (h:gK r):cI (aK r)=some r:=by
 obtain⟨e1,e2⟩:=lK r;have hpos:=h.pos;unfold cI;rw[e1,e2];unfold fi Lib.cut;by_cases hd:1<r.d
 all_goals first | rw[if_pos hd] | rw[if_neg hd]
 ·rw[pw (jm (d9 r.n)),if_pos (by omega)];simp only[G7];rw[Id rfl,jk];simp only[if_true];have:(dec r.n++47 :: dec r.d).drop ((dec r.n).length+([47]:List UInt8).length)=dec r.d:=by simp[List.drop_append]
  rw[this,jk];simp only;rw[if_neg (by omega),mH h]
 ·rw[Gf,ki (jm (d9 r.n)),if_neg (by omega)];simp only;rw[jk];simp only[FB,if_false];have hd1:r.d=1:=by omega
  have:=mH h;rw[hd1] at this;rw[this]
theorem oz {r:Rt} (hb:cL r=false):(aK r).length≤4002:=by
 obtain⟨h1,h2⟩:=mV hb;rw[fS];unfold fi;rw[Fl,Fl]
 split<;>split<;>simp<;>omega
theorem sC {r:Rt} (h:gK r) (hb:cL r=false):f_ (aK r)=some ⟨r,eS⟩:=by
 have hl:=oz hb;unfold f_;rw[if_neg (by omega),uR,jp h];simp only;rw[lZ];simp only;rw[if_pos ⟨dD rfl,hb,jQ⟩];rfl
theorem tv (s:List UInt8):(gH s=true↔∃ r,gK r∧cL r=false∧s=aK r)∧(j3 s=true↔∃ r,gK r∧cL r=false∧s=aK r):=by
 refine⟨⟨fun h=>?_,?_⟩,⟨fun h=>?_,?_⟩⟩
 ·unfold gH at h
  cases hg:f_ s with
  | none=>rw[hg] at h;cases h
  | some z =>
   rw[hg] at h;have hy:=of_decide_eq_true h;unfold f_ at hg
   split at hg
   ·cases hg
   ·split at hg
    ·rename_i p q hp hq
     split at hg
     ·rename_i hc
      injection hg with hg
      subst hg;refine⟨p,fk hp,hc.2.1,?_⟩;rw[←hc.1];exact dD hy
     ·cases hg
    ·cases hg
 ·rintro⟨r,h1,h2,rfl⟩;unfold gH;rw[sC h1 h2];rfl
 ·unfold j3 rOK at h;simp only[Fy,decide_eq_true_eq,Bool.not_eq_true',GH] at h;exact⟨(aQ s).x,(gU s).1,h.1.2.1,by rw[←dD h.2];exact h.1.1.symm⟩
 ·rintro⟨r,h1,h2,rfl⟩;unfold j3 rOK;rw[ko h1 h2,dD rfl];simp[h2,jQ,show cL eS=false from jQ,show eS.n=0 from rfl]
/-! ### short parts -/
theorem r8 (c:UInt8) (l:List UInt8):aR (c :: l)=(c.toNat-48)*10 ^ l.length+aR l:=by
 have:=d6 [c] l;rw[Hb] at this;rw[this];simp[aR]
theorem nR:∀ (l:List UInt8) (acc:Nat),l.all a6=true→acc<18446744073709551616 →
  Lib.parseUint10 acc l=if acc*10 ^ l.length+aR l<18446744073709551616 then .ok (acc*10 ^ l.length+aR l) else .range
 | [],acc,_,h=>by simp[Lib.parseUint10,aR,h]
 | c :: l,acc,ha,h=>by
  rw[Hh,Fy] at ha;have hc:48≤c.toNat∧c.toNat≤57:=by have:=ha.1;unfold a6 at this;simpa using this
  have e:acc*10 ^ (c :: l).length+aR (c :: l)=(acc*10+(c.toNat-48))*10 ^ l.length+aR l:=by
   rw[r8,Fv,Ft];grind
  have hpow:0<10 ^ l.length:=GQ (by decide);have hge:acc*10+(c.toNat-48)≤(acc*10+(c.toNat-48))*10 ^ l.length:=Ht _ hpow;rw[Lib.parseUint10,if_pos hc,e]
  split
  ·rw[if_neg (by omega)]
  ·split
   ·rw[if_neg (by omega)]
   ·exact nR l _ ha.2 (by omega)
theorem th (n:Nat):ig (dec n)=decide (n≤4096):=by
 obtain⟨c,t,e1,e2⟩:=r_ n;have hc:48≤c.toNat∧c.toNat≤57:=by have:=e2;unfold a6 at this;simpa using this
 have hp:=nR (dec n) 0 (d9 n) (by decide);rw[kg,Gk,F8] at hp;unfold ig Lib.atoiAll;rw[e1];simp only;rw[if_neg (by omega),←e1];unfold Lib.parseMag;rw[if_neg (fY n),hp];by_cases h1:n<18446744073709551616
 ·rw[if_pos h1];simp only;have hn:¬ c.toNat=45:=by omega
  by_cases h2:9223372036854775808≤n
  ·simp[hn,h2];omega
  ·simp[hn,h2];omega
 ·rw[if_neg h1];simp;omega
theorem pW (r:Rt) (h:0<r.d):(eY ⟨(fi r).toArray⟩).all (fun p=>ig p.data.toList)=dZ r:=by
 have e:(eY ⟨(fi r).toArray⟩).all (fun p=>ig p.data.toList)=(Lib.splitK [47] 0 (Lib.count (fi r) [47]) (fi r)).all ig:=by
  have:=Lib.splitB_data ⟨#[47]⟩ 0 (Lib.countB ⟨(fi r).toArray⟩ ⟨#[47]⟩) ⟨(fi r).toArray⟩;have e2:Lib.countB ⟨(fi r).toArray⟩ ⟨#[47]⟩=Lib.count (fi r) [47]:=by unfold Lib.countB;simp
  rw[e2] at this;unfold eY;rw[e2];simp only[Ik] at this;rw[←this,List.all_map];rfl
 rw[e];unfold fi dZ
 split
 ·have h1:=pw (t:=dec r.d) (jm (d9 r.n));have h2:=ki (jm (d9 r.d));have e3:(dec r.n++47 :: dec r.d).drop ((dec r.n).length+([47]:List UInt8).length)=dec r.d:=by simp[List.drop_append]
  rw[Lib.count_hit (by simp) h1,e3,Lib.count_miss h2]
  show (Lib.splitK [47] 0 (0+1) _).all ig=_
  rw[Lib.splitK,if_neg (by rw[h1];simp),h1];simp only[G7,FM];rw[e3,Id rfl];simp[Lib.splitK,th]
 ·rw[Gf,Lib.count_miss (ki (jm (d9 r.n)))];simp only[Lib.splitK,Hh,List.all_nil,Bool.and_true,th];rw[show r.d=1 by omega];simp
theorem Cp (s:List UInt8):zS s=bu s:=by
 obtain⟨h1,h2⟩:=tv s;unfold zS bu;by_cases hr:∃ r,gK r∧cL r=false∧s=aK r
 ·rw[h1.2 hr,h2.2 hr];obtain⟨r,c1,c2,rfl⟩:=hr
  have hok:rOK (aK r)=true:=by
   have:=h2.2 ⟨r,c1,c2,rfl⟩;unfold j3 at this;rw[Fy] at this;exact this.1
  rw[hok,ko c1 c2];unfold gl;rw[(lK r).1,pW r c1.pos];simp[show dZ eS=true by decide]
 ·rw[show gH s=false by rw[FY];exact fun h=>hr (h1.1 h),show j3 s=false by rw[FY];exact fun h=>hr (h2.1 h)];rfl
open Go.RowKit Dg Dc
def toQ (r:Rt):Rat:=mkRat (sgz r.minus r.n) r.d
theorem Bt {r:Rt} (h:gK r):rt (toQ r)=r:=by unfold toQ;rw[←kV _ _ _ h.pos,mH h]
theorem vD (q:Rat):toQ (rt q)=q:=by
 unfold toQ;rw[n9];exact Rat.mkRat_self q
theorem ky (q:Rat):gK (rt q):=⟨q.den_pos,q.reduced,fun h=>by
 unfold rt at h ⊢;simp only[decide_eq_true_eq] at h ⊢
 omega⟩
def eC (z:CQ):Bool:=cL (rt z.re)||cL (rt z.im)
def txt (z:CQ):ByteArray:=⟨(bL (ct z)).toArray⟩
def fE (s:ByteArray):Option CQ:=(f_ s.data.toList).map fun z=>⟨toQ z.x,toQ z.y⟩
def dN (z:CQ):ByteArray×Int:=if eC z=true then (⟨#[]⟩,11) else (txt z,0)
theorem i6 {s:ByteArray}{l:List UInt8} (h:s.data.toList=l):s=⟨l.toArray⟩:=by
 obtain⟨⟨d⟩⟩:=s;simp only at h;rw[h]
theorem ue {r:Rt} (hb:cL r=false) (hp:0<r.d):Sz 2000 r:=by
 obtain⟨h1,h2⟩:=mV hb;refine⟨?_,hp,?_⟩
 ·exact Nat.lt_of_not_le fun h=>by have:=jZ h;omega
 ·exact Nat.lt_of_not_le fun h=>by have:=jZ h;omega
theorem iC {s:ByteArray}{z:Vl} (h:f_ s.data.toList=some z):∃ q,z=ct q∧fE s=some q∧SzV 2000 (ct q)∧eC q=false∧txt q=s:=by
 have h':=h;unfold f_ at h
 split at h
 ·cases h
 ·split at h
  ·rename_i p q hp hq
   split at h
   ·rename_i hc
    injection h with h
    subst h;have e1:=Bt (fk hp);have e2:=Bt (fk hq);have e:(⟨p,q⟩:Vl)=ct ⟨toQ p,toQ q⟩:=by unfold ct;rw[e1,e2]
    refine⟨⟨toQ p,toQ q⟩,e,by unfold fE;rw[h'];rfl,?_,?_,?_⟩
    ·rw[←e];exact⟨ue hc.2.1 (fk hp).pos,ue hc.2.2 (fk hq).pos⟩
    ·unfold eC;simp only;rw[e1,e2,hc.2.1,hc.2.2];rfl
    ·unfold txt;rw[←e,hc.1]
   ·cases h
  ·cases h
theorem fP {s:ByteArray} (h:f_ s.data.toList=none):fE s=none:=by unfold fE;rw[h];rfl
theorem pj {q:Rat} (h:eC (CQ.real q)=false):fE (txt (CQ.real q))=some (CQ.real q):=by
 have h1:cL (rt q)=false:=by unfold eC CQ.real at h;simp only[GH] at h;exact h.1
 have e:bL (ct (CQ.real q))=aK (rt q):=dD (z:=ct (CQ.real q)) (by show (rt 0).n=0;rw[dK]);unfold fE txt;simp only[Ik];rw[e,sC (ky q) h1];simp only[Ih,vD];congr 1
theorem sA {s:ByteArray}{z:CQ} (h:fE s=some z):eC z=false∧txt z=s∧SzV 2000 (ct z):=by
 cases hg:f_ s.data.toList with
 | none=>rw[fP hg] at h;cases h
 | some y =>
  obtain⟨q,-,h1,h2,h3,h4⟩:=iC hg;rw[h1] at h
  injection h with h
  subst h;exact⟨h3,h4,h2⟩
def c_ (φ:CQ→CQ→CQ×Int) (s t:ByteArray):ByteArray×Int :=
 match fE s,fE t with
 | some a,some b=>if (φ a b).2=0 then dN (φ a b).1 else (⟨#[]⟩,(φ a b).2)
 | _,_=>(⟨#[]⟩,10)
def gn (f:CQ→CQ→CQ) (a b:CQ):CQ×Int:=(f a b,0)
def sr (a b:CQ):CQ×Int:=if b=⟨0,0⟩ then (⟨0,0⟩,12) else (a.div b,0)
def gT (s t:ByteArray):ByteArray:=(c_ (gn CQ.add) s t).1
def jv (s t:ByteArray):ByteArray:=(c_ (gn CQ.sub) s t).1
def dz (s t:ByteArray):ByteArray:=(c_ (gn CQ.mul) s t).1
def cX (s t:ByteArray):ByteArray:=(c_ sr s t).1
open Go.RowKit Dg
theorem BW (va:Value) (u:Vl) (w:World) (ha:IsV w va u) :
  Calls Tryz.prog 165 #[va] w fun e w'=>e=.returned (.bool (decide (u.x.n=0∧u.y.n=0)))∧Below w.heap.size w w':=by
 obtain⟨a,b,c,d,e,f,rfl,hx,hy⟩:=ha;have hb0:=ak w (.cells #[a,b,c,d,e,f] 153);have HB:=E5 hb0;have H1:=E5 (gr _ _ _ (hx.below hb0));have H2:=E5 (fun wx (hw:Below (w.alloc (.cells #[a,b,c,d,e,f] 153)).heap.size (w.alloc (.cells #[a,b,c,d,e,f] 153)) wx)=>gr _ _ _ ((hy.below hb0).below hw));have q1:=bN.new w a b c d e f 153;clear hb0;go_enter Tryz.func165,Tryz.ntmps165;go_upto_region 1 with fail
 generalize w.alloc (.cells #[a,b,c,d,e,f] 153)=w1 at *
 have a0:=q1.c0;have a1:=q1.c1;have a2:=q1.c2;have a3:=q1.c3;have a4:=q1.c4;have a5:=q1.c5;by_cases h:u.x.n=0
 ·rw[decide_eq_true h] at H1;go_wp2_with fail
  refine H1.out.mono ?_;rintro e w2 ⟨rfl,hb2⟩;have q2:=q1.below hb2;have c0:=q2.c0;have c1:=q2.c1;have c2:=q2.c2;have c3:=q2.c3;have c4:=q2.c4;have c5:=q2.c5;clear a0 a1 a2 a3 a4 a5;go_wp2_with fail
  refine (H2.out w2 hb2).mono ?_;rintro e w3 ⟨rfl,hb3⟩;go_wp2;go_ret;exact⟨by simp[h],HB.out.trans ((hb2.trans (hb3.mono hb2.size)).mono HB.out.size)⟩
 ·rw[decide_eq_false h] at H1;go_wp2_with fail
  refine H1.out.mono ?_;rintro e w2 ⟨rfl,hb2⟩;go_wp2;go_ret;exact⟨by simp[h],HB.out.trans (hb2.mono HB.out.size)⟩
theorem A6 (va:Value) (z:CQ) (w:World) (ha:IsV w va (ct z)) (hG:Gw w) :
  Calls Tryz.prog 148 #[va] w fun e w'=>e=.returned (.tuple #[.string (dN z).1,.int .i64 (dN z).2])∧Below w.heap.size w w':=by
 have ha0:=ha;obtain⟨a,b,c,d,e,f,rfl,hx,hy⟩:=ha;have hb0:=ak w (.cells #[a,b,c,d,e,f] 153);have HB:=E5 hb0;have H1:=E5 (qu _ _ _ (hx.below hb0) (hG.below hb0));have H2:=E5 (fun wx (hw:Below (w.alloc (.cells #[a,b,c,d,e,f] 153)).heap.size (w.alloc (.cells #[a,b,c,d,e,f] 153)) wx)=>qu _ _ _ ((hy.below hb0).below hw) ((hG.below hb0).below hw));have H3:=E5 (fun wx (hw:Below (w.alloc (.cells #[a,b,c,d,e,f] 153)).heap.size (w.alloc (.cells #[a,b,c,d,e,f] 153)) wx)=>qh _ _ _ ((ha0.below hb0).below hw) (dJ _) (dJ _) ((hG.below hb0).below hw));have q1:=bN.new w a b c d e f 153;clear hb0 ha0 hx hy;go_enter Tryz.func148,Tryz.ntmps148;go_upto_region 1 with fail
 generalize w.alloc (.cells #[a,b,c,d,e,f] 153)=w1 at *
 have a0:=q1.c0;have a1:=q1.c1;have a2:=q1.c2;have a3:=q1.c3;have a4:=q1.c4;have a5:=q1.c5;by_cases h:cL (rt z.re)=true
 ·rw[show cL (ct z).x=true from h] at H1;go_wp2_with fail
  refine H1.out.mono ?_;rintro e w2 ⟨rfl,hb2⟩;have hp:dN z=(⟨#[]⟩,11):=by unfold dN eC;rw[h];rfl
  go_wp2;refine bodyPost_ret (v:=.tuple #[.string ⟨#[]⟩,.int .i64 11]) (by simp[results,Tryz.results148,go_sem]) rfl ⟨by rw[hp],HB.out.trans (hb2.mono HB.out.size)⟩
 ·rw[show cL (ct z).x=false from FY.2 h] at H1;go_wp2_with fail
  refine H1.out.mono ?_;rintro e w2 ⟨rfl,hb2⟩;have q2:=q1.below hb2;have c0:=q2.c0;have c1:=q2.c1;have c2:=q2.c2;have c3:=q2.c3;have c4:=q2.c4;have c5:=q2.c5;clear a0 a1 a2 a3 a4 a5;have H2:=E5 (H2.out w2 hb2);by_cases h2:cL (rt z.im)=true
  ·rw[show cL (ct z).y=true from h2] at H2;go_wp2_with fail
   refine H2.out.mono ?_;rintro e w3 ⟨rfl,hb3⟩;have hp:dN z=(⟨#[]⟩,11):=by unfold dN eC;rw[h2];simp
   go_wp2;refine bodyPost_ret (v:=.tuple #[.string ⟨#[]⟩,.int .i64 11]) (by simp[results,Tryz.results148,go_sem]) rfl ⟨by rw[hp],HB.out.trans ((hb2.trans (hb3.mono hb2.size)).mono HB.out.size)⟩
  ·rw[show cL (ct z).y=false from FY.2 h2] at H2;go_wp2_with fail
   refine H2.out.mono ?_;rintro e w3 ⟨rfl,hb3⟩;have hB3:=hb2.trans (hb3.mono hb2.size);have q3:=q1.below hB3;have d0:=q3.c0;have d1:=q3.c1;have d2:=q3.c2;have d3:=q3.c3;have d4:=q3.c4;have d5:=q3.c5;clear c0 c1 c2 c3 c4 c5;have hp:dN z=(txt z,0):=by unfold dN eC;rw[if_neg (by simpa using ⟨by simpa using h,by simpa using h2⟩)]
   have HP:=E5 hp;clear hp;go_wp2_with fail
   refine (H3.out w3 hB3).mono ?_;rintro e w4 ⟨t,rfl,ht,-,hb4⟩;go_wp2;refine bodyPost_ret (v:=.tuple #[.string t,.int .i64 0]) (by simp[results,Tryz.results148,go_sem]) rfl ⟨?_,HB.out.trans ((hB3.trans (hb4.mono hB3.size)).mono HB.out.size)⟩;rw[HP.out];have:t=txt z:=i6 ht.out;rw[this]
theorem eh {a b c a' b' c':Value} (h:Value.agg #[a,b,c]=.agg #[a',b',c']):a=a'∧b=b'∧c=c':=by simpa using h
structure DD (F:FuncId) (cap:Array Value) (φ:CQ→CQ→CQ×Int) (w:World):Prop where
 en:∀ (args:Array Value) (w:World),(callFunc F args).run Tryz.prog w=.ok (.enter F args) w
 on:∀ (x y:Value) (a b:CQ) (w':World),Below w.heap.size w w'→IsK w' x a→IsK w' y b→Calls Tryz.prog F (#[x,y]++cap) w' fun e w''=>∃ v z,e=.returned (.tuple #[v,.int .i64 (φ a b).2])∧IsV w'' v z∧((φ a b).2=0→z=ct (φ a b).1)∧Below w'.heap.size w' w''
theorem vP (F:FuncId) (cap:Array Value) (φ:CQ→CQ→CQ×Int) (s t:ByteArray) (w:World) (hG:Gw w) (hF:DD F cap φ w) :
  Calls Tryz.prog 163 #[.string s,.string t,.func (.func F) #[] cap] w fun e w'=>e=.returned (.tuple #[.string (c_ φ s t).1,.int .i64 (c_ φ s t).2])∧Below w.heap.size w w':=by
 have HF:=E5 hF;have EN:=hF.en;clear hF;go_enter Tryz.func163,Tryz.ntmps163;go_wp2_with fail
 refine (jH s w hG).mono ?_;rintro e w1 ⟨v,ok,rfl,hcase,hb1⟩;rcases hcase with ⟨z,hz,rfl,hv⟩ | ⟨hz,rfl,rfl⟩
 ·obtain⟨p,rfl,hp1,hp2,-,-⟩:=iC hz;have HP1:=E5 hp1;clear hz hp1;obtain⟨_,_,_,_,_,_,rfl,hx0,hy0⟩:=id hv;obtain⟨xm,xp,xl,xc,xq,xk,xd,hxe⟩:=hx0.form;obtain⟨ym,yp,yl,yc,yq,yk,yd,hye⟩:=hy0.form;obtain⟨rfl,rfl,rfl⟩:=eh hxe;obtain⟨rfl,rfl,rfl⟩:=eh hye;clear hxe hye hx0 hy0;go_upto_region 2 with fail
  have q1:=bN.new w1 (.bool xm) (.slice xp xl xc) (.slice xq xk xd) (.bool ym) (.slice yp yl yc) (.slice yq yk yd) 153;have m1:=ak w1 (.cells #[.bool xm,.slice xp xl xc,.slice xq xk xd,.bool ym,.slice yp yl yc,.slice yq yk yd] 153);generalize w1.alloc (.cells #[.bool xm,.slice xp xl xc,.slice xq xk xd,.bool ym,.slice yp yl yc,.slice yq yk yd] 153)=w2 at *
  have B1:=E5 q1;have HV:=E5 (hv.below m1);have hb2:=hb1.trans (m1.mono hb1.size);clear q1 hv m1;go_wp2_with fail
  refine (jH t w2 (hG.below hb2)).mono ?_;rintro e w3 ⟨v2,ok2,rfl,hcase,hb3⟩;have hB3:=hb2.trans (hb3.mono hb2.size);rcases hcase with ⟨z2,hz2,rfl,hv2⟩ | ⟨hz2,rfl,rfl⟩
  ·obtain⟨q,rfl,hr1,hr2,-,-⟩:=iC hz2;have HP2:=E5 hr1;clear hz2 hr1;obtain⟨_,_,_,_,_,_,rfl,hx0,hy0⟩:=id hv2;obtain⟨xm',xp',xl',xc',xq',xk',xd',hxe⟩:=hx0.form;obtain⟨ym',yp',yl',yc',yq',yk',yd',hye⟩:=hy0.form;obtain⟨rfl,rfl,rfl⟩:=eh hxe;obtain⟨rfl,rfl,rfl⟩:=eh hye;clear hxe hye hx0 hy0;go_upto_region 5 with fail
   have q2:=bN.new w3 (.bool xm') (.slice xp' xl' xc') (.slice xq' xk' xd') (.bool ym') (.slice yp' yl' yc') (.slice yq' yk' yd') 153;have m2:=ak w3 (.cells #[.bool xm',.slice xp' xl' xc',.slice xq' xk' xd',.bool ym',.slice yp' yl' yc',.slice yq' yk' yd'] 153);generalize w3.alloc (.cells #[.bool xm',.slice xp' xl' xc',.slice xq' xk' xd',.bool ym',.slice yp' yl' yc',.slice yq' yk' yd'] 153)=w4 at *
   have hb4:=hb3.trans (m2.mono hb3.size);have hB4:=hb2.trans (hb4.mono hb2.size);have q1:=B1.out.below hb4;have HC:=E5 (HF.out.on _ _ p q w4 hB4 ⟨HV.out.below hb4,hp2.mono (by decide)⟩ ⟨hv2.below m2,hr2.mono (by decide)⟩);have a0:=q1.c0;have a1:=q1.c1;have a2:=q1.c2;have a3:=q1.c3;have a4:=q1.c4;have a5:=q1.c5;have b0:=q2.c0;have b1:=q2.c1;have b2:=q2.c2;have b3:=q2.c3;have b4:=q2.c4;have b5:=q2.c5;have HB4:=E5 hB4;clear q1 q2 m2 hv2 hb3 hb4 hB4 hB3 hb2 HF;go_wp2_with fail
   refine HC.out.mono ?_;rintro e w5 ⟨v3,z3,rfl,hv3,hz3,hb5⟩;obtain⟨err,herr⟩:∃ n,n=(φ p q).2:=⟨_,rfl⟩;rw[←herr];have hB5:=HB4.out.trans (hb5.mono HB4.out.size);obtain⟨_,_,_,_,_,_,rfl,hx0,hy0⟩:=id hv3;obtain⟨um,up,ul,uc,uq,uk,ud,hxe⟩:=hx0.form;obtain⟨vm,vp,vl,vc,vq,vk,vd,hye⟩:=hy0.form;obtain⟨rfl,rfl,rfl⟩:=eh hxe;obtain⟨rfl,rfl,rfl⟩:=eh hye;clear hxe hye hx0 hy0 a0 a1 a2 a3 a4 a5 b0 b1 b2 b3 b4 b5 HC HV B1 HB4;by_cases he:err=0
   ·have hbc:c_ φ s t=dN (φ p q).1:=by unfold c_;rw[HP1.out,HP2.out];simp only;rw[if_pos (by rw[←herr];exact he)]
    have hz4:=hz3 (by rw[←herr];exact he);have HE:=E5 hbc;rw[hz4] at hv3;clear hbc hz3 herr hz4;subst he;go_upto_region 8 with fail
    have q3:=bN.new w5 (.bool um) (.slice up ul uc) (.slice uq uk ud) (.bool vm) (.slice vp vl vc) (.slice vq vk vd) 153;have m3:=ak w5 (.cells #[.bool um,.slice up ul uc,.slice uq uk ud,.bool vm,.slice vp vl vc,.slice vq vk vd] 153);generalize w5.alloc (.cells #[.bool um,.slice up ul uc,.slice uq uk ud,.bool vm,.slice vp vl vc,.slice vq vk vd] 153)=w6 at *
    have a0:=q3.c0;have a1:=q3.c1;have a2:=q3.c2;have a3:=q3.c3;have a4:=q3.c4;have a5:=q3.c5;have HB6:=E5 (hB5.trans (m3.mono hB5.size));have HG:=E5 (hG.below HB6.out);have HV:=E5 (hv3.below m3);clear q3 m3 hv3 hB5 hb5;go_wp2_with fail
    refine (A6 _ _ _ HV.out HG.out).mono ?_;rintro e w7 ⟨rfl,hb7⟩;go_wp2;refine bodyPost_ret (v:=.tuple #[.string (dN (φ p q).1).1,.int .i64 (dN (φ p q).1).2]) (by simp[results,Tryz.results163,go_sem]) rfl ⟨by rw[HE.out],HB6.out.trans (hb7.mono HB6.out.size)⟩
   ·have hbc:c_ φ s t=(⟨#[]⟩,err):=by unfold c_;rw[HP1.out,HP2.out];simp only;rw[if_neg (by rw[←herr];exact he),herr]
    have HE:=E5 hbc;have hne:(!(err == 0))=true:=by simpa using he
    clear hbc hz3 herr;go_wp2;refine bodyPost_ret (v:=.tuple #[.string ⟨#[]⟩,.int .i64 err]) (by simp[results,Tryz.results163,go_sem]) rfl ⟨by rw[HE.out],hB5.trans ((ak w5 _).mono hB5.size)⟩
  ·have e:c_ φ s t=(⟨#[]⟩,10):=by unfold c_;rw[fP hz2,HP1.out]
   have HE:=E5 e;clear e hz2;unfold gO;go_wp2;refine bodyPost_ret (v:=.tuple #[.string ⟨#[]⟩,.int .i64 10]) (by simp[results,Tryz.results163,go_sem]) rfl ⟨by rw[HE.out],hB3.trans ((ak w3 _).mono hB3.size)⟩
 ·have e:c_ φ s t=(⟨#[]⟩,10):=by unfold c_;rw[fP hz]
  have HE:=E5 e;clear e hz;unfold gO;go_wp2;refine bodyPost_ret (v:=.tuple #[.string ⟨#[]⟩,.int .i64 10]) (by simp[results,Tryz.results163,go_sem]) rfl ⟨by rw[HE.out],hb1.trans ((ak w1 _).mono hb1.size)⟩
def dq (w:World) (v:Value) (r:Rt):Prop:=∃ vn vd,v=.agg #[.bool r.minus,vn,.bool false,vd]∧IsD w vn r.n∧IsD w vd r.d
theorem dq.below {w w':World}{v:Value}{r:Rt} (h:dq w v r) (hb:Below w.heap.size w w'):dq w' v r:=by
 obtain⟨vn,vd,e,h1,h2⟩:=h;exact⟨vn,vd,e,h1.below hb,h2.below hb⟩
theorem dq.puts {w w':World}{b:Nat}{t t0:TypeId}{us cs:Array Value}{v:Value}{r:Rt} (hv:dq w v r) (h:jU w w' b t us) (hr:w.heap[b]?=some (.cells cs t0 (0,0))) (hn:∀ (j:Nat) (z:Int),cs[j]?≠some (Value.int .i64 z)):dq w' v r:=by
 obtain⟨vn,vd,e,h1,h2⟩:=hv;exact⟨vn,vd,e,h.isI hr hn h1,h.isI hr hn h2⟩
theorem dq.parts {w:World}{v:Value}{r:Rt} (h:dq w v r):∃ p N c p' N' c',v=.agg #[.bool r.minus,.slice p N c,.bool false,.slice p' N' c']∧Hid (N=(am RR r.n).length)∧N≤c∧c≤maxLen∧Hid (N'=(am RR r.d).length)∧N'≤c'∧c'≤maxLen∧IsD w (.slice p N c) r.n∧IsD w (.slice p' N' c') r.d:=by
 obtain⟨vn,vd,rfl,h1,h2⟩:=h;obtain⟨p,N,c,rfl,a,b,d⟩:=h1.parts;obtain⟨p',N',c',rfl,a',b',d'⟩:=h2.parts;exact⟨p,N,c,p',N',c',rfl,a,b,d,a',b',d',h1,h2⟩
theorem uH {w:World}{p:Option Addr}{N c n:Nat}{m:Bool} (h:IsD w (.slice p N c) n) (hm:m=true→n≠0):IsZ w (.agg #[.bool m,.slice p N c]) (sgn m n):=by
 refine⟨_,?_,by rw[gI];exact h⟩;rw[rz]
 cases m
 ·rfl
 ·have:=hm rfl;rw[decide_eq_true (by omega:0<n)];rfl
theorem iD {w:World}{p:Option Addr}{N c n:Nat} (h:IsD w (.slice p N c) n):IsZ w (.agg #[.bool false,.slice p N c]) (n:Int):=uH (m:=false) h (fun h=>by cases h)
theorem IsZ.nat {w:World}{v:Value}{n:Nat} (h:IsZ w v (n:Int)):∃ p N c,v=.agg #[.bool false,.slice p N c]∧Hid (N=(am RR n).length)∧N≤c∧c≤maxLen∧IsD w (.slice p N c) n:=by
 obtain⟨p,N,c,rfl,h1,h2,h3,h4⟩:=h.parts;rw[FR] at h1 h4;exact⟨p,N,c,by rw[show decide ((n:Int)<0)=false by simp],h1,h2,h3,h4⟩
theorem CS (va vb:Value) (n d:Nat) (w:World) (ha:IsZ w va (n:Int)) (hb:IsZ w vb (d:Int)) (hd0:0<d) (hfn:bf n) (hfd:bf d) :
  Calls Tryz.prog 142 #[va,vb] w fun e w'=>∃ v,e=.returned v∧dq w' v (di false n d)∧Below w.heap.size w w':=by
 obtain⟨p,N,c,rfl,hN,hNc,hcm,hd⟩:=ha.nat;obtain⟨p',N',c',rfl,hN',hNc',hcm',hd'⟩:=hb.nat;have hl:=pz w (.cells #[.bool false,.slice p N c] 76) (.cells #[.bool false,.slice p' N' c'] 76) (.cells #[.bool false,.slice none 0 0,.bool false,.slice none 0 0] 78);have hgp:0<Nat.gcd n d:=Gm _ hd0;have HFG:Hid (bf (Nat.gcd n d)):=hfd.mono (Hi hd0 (Iw ..));have HFN:=E5 hfn;have HFD:=E5 hfd
 have HR:Hid (di false n d=⟨false,n / Nat.gcd n d,d / Nat.gcd n d⟩):=by
  unfold Hid di
  split
  ·rename_i h;subst h;rw[G_,Nat.zero_div,Nat.div_self hd0]
  ·rfl
 have x0:=aa hl.s0 0;have x1:=aa hl.s0 1;have y0:=aa hl.s1 0;have y1:=aa hl.s1 1;have HD:=E5 (hd.below hl.below);have HD':=E5 (hd'.below hl.below);clear ha hb hd hd' hfn hfd;go_enter Tryz.func142,Tryz.ntmps142;go_upto_region 1 with fail
 generalize ((w.alloc (.cells #[.bool false,.slice p N c] 76)).alloc (.cells #[.bool false,.slice p' N' c'] 76)).alloc (.cells #[.bool false,.slice none 0 0,.bool false,.slice none 0 0] 78)=w1 at *
 go_wp2_with fail
 refine (oG _ _ n d w1 (iD HD.out) (iD HD'.out) HFN.out HFD.out).mono ?_;rintro e w2 ⟨v2,rfl,hz2,hb2⟩;rw[FR,FR] at hz2;obtain⟨p2,N2,c2,rfl,hN2,hNc2,hcm2,hd2⟩:=hz2.nat;have hl2:=aT w2 (.cells #[.bool false,.slice p2 N2 c2] 76);have hb3:=hb2.trans (hl2.below.mono hb2.size);have HB3:=hl.below.trans (hb3.mono hl.below.size);have r0:=(hb3.block _ (ag hl.s0)).trans hl.s0;have r1:=(hb3.block _ (ag hl.s1)).trans hl.s1;have r2:=(hb3.block _ (ag hl.s2)).trans hl.s2;have r3:=hl2.s0;have hsz:=hl2.size;have HG:=E5 (hd2.below hl2.below);have HD3:=E5 (HD.out.below hb3);have HE3:=E5 (HD'.out.below hb3);clear hl hl2 hb2 hb3 hz2 hd2 x0 x1 y0 y1 HD HD';have a0:=aa r0 1;have a1:=aa r3 1;go_upto_region 4 with fail
 generalize w2.alloc (.cells #[.bool false,.slice p2 N2 c2] 76)=w3 at *
 go_wp2_with fail
 refine (ej _ _ n (Nat.gcd n d) w3 HD3.out HG.out hgp HFN.out HFG.out).mono ?_;rintro e w4 ⟨v4,v4',rfl,hq,_,hb4⟩;have hlt3:w2.heap.size<w3.heap.size:=by omega
 have s1:=(hb4.block _ (ag r1)).trans r1;have s2:=(hb4.block _ (ag r2)).trans r2;have s3:=(hb4.block _ (ag r3)).trans r3;have s0:=(hb4.block _ (ag r0)).trans r0;have HG4:=E5 (HG.out.below hb4);have HE4:=E5 (HE3.out.below hb4);have HQ4:=E5 hq;have HB4:=HB3.trans (hb4.mono HB3.size);clear r0 r1 r2 r3 a0 a1 HB3 hb4 HD3 HE3 HG hq;have a1:=aa s1 1;have a3:=aa s3 1;have a0:=aa s0 0;go_wp2_with fail
 refine (ej _ _ d (Nat.gcd n d) w4 HE4.out HG4.out hgp HFD.out HFG.out).mono ?_;rintro e w5 ⟨v5,v5',rfl,hq5,_,hb5⟩;have s0':=(hb5.block _ (ag s0)).trans s0;have s2':=(hb5.block _ (ag s2)).trans s2;have HQ5:=E5 (HQ4.out.below hb5);have HP5:=E5 hq5;have HB5:=HB4.trans (hb5.mono HB4.size);clear s0 s1 s2 s3 a0 a1 a3 HB4 hb5 HQ4 HG4 HE4 hq5;have a0:=aa s0' 0;go_wp2_with fail
 refine (dy _ _ _ w5 HQ5.out (aL _).1).mono ?_;rintro e w6 ⟨v6,rfl,hz6,hb6⟩;rw[aw aD] at hz6;obtain⟨p6,N6,c6,rfl,hN6,hNc6,hcm6,hd6⟩:=hz6.nat;have HP6:=E5 (HP5.out.below hb6);have t2:=(hb6.block _ (ag s2')).trans s2';have HB6:=HB5.trans (hb6.mono HB5.size);have HD6:=E5 hd6;clear a0 s0' s2' HP5 HQ5 HB5 hb6 hz6 hd6;go_wp2_with fail
 refine (dy _ _ _ w6 HP6.out (aL _).1).mono ?_;rintro e w7 ⟨v7,rfl,hz7,hb7⟩;rw[aw aD] at hz7;obtain⟨p7,N7,c7,rfl,hN7,hNc7,hcm7,hd7⟩:=hz7.nat;have u2:=(hb7.block _ (ag t2)).trans t2;have HB7:=HB6.trans (hb7.mono HB6.size);have hP:=aY (u0:=.bool false) (u1:=.slice p6 N6 c6) (u2:=.bool false) (u3:=.slice p7 N7 c7) u2
 have hZ:Hid (dq (dX w7 (w.heap.size+1+1) (.bool false) (.slice p6 N6 c6) (.bool false) (.slice p7 N7 c7)) (.agg #[.bool false,.slice p6 N6 c6,.bool false,.slice p7 N7 c7]) (di false n d)):=by
  rw[HR.out];exact⟨_,_,rfl,hP.isI u2 bF (HD6.out.below hb7),hP.isI u2 bF hd7⟩
 have hB:=HB7.trans (hP.below w.heap.size (by omega));have q0:=aa u2 0;have q1:=aa u2 1;have q2:=aa u2 2;have q3:=aa u2 3;have f0:=frozen_of_row w7 (w.heap.size+1+1) 0 _ _ u2;have f1:=frozen_of_row w7 (w.heap.size+1+1) 1 _ _ u2;have f2:=frozen_of_row w7 (w.heap.size+1+1) 2 _ _ u2;have f3:=frozen_of_row w7 (w.heap.size+1+1) 3 _ _ u2;clear t2 HP6 HB6 hb7 hz7 hd7 HD6;go_wp2_with fail
 (try simp only[Exit.inBlock,Exit.then])
 change bodyPost _ _ _ _ _ (dX w7 (w.heap.size+1+1) (.bool false) (.slice p6 N6 c6) (.bool false) (.slice p7 N7 c7));refine bodyPost_ret (results_cell_row rfl _ _ (w.heap.size+1+1) _ _ (0,0) _ rfl hP.row Tryz.underlying78 rfl (by kernel_rfl)) rfl ?_;exact⟨_,rfl,hZ.out,hB⟩
end Go.Proofs.YtbnkpcfjechfiaaGreatDoor
