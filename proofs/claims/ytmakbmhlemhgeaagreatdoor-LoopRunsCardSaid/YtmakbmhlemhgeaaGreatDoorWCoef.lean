/- L -/
import Derived.Lib.SplitLaws
import Derived.Lib.SmallJoins
import Derived.Test.YtmakbmhlemhgeaaGreatDoorWGet
import Derived.Test.YtmakbmhlemhgeaaGreatDoorWNQ
import Derived.Test.YtmakbmhlemhgeaaGreatDoorWRDiv
import Derived.Test.YtmakbmhlemhgeaaGreatDoorWB
set_option linter.all false
set_option maxRecDepth 100000
set_option maxHeartbeats 8000000
namespace Go.Proofs.YtmakbmhlemhgeaaGreatDoor
open Go.RowKit Dc Dg
structure Gx (w:World):Prop where
 g:Gw w
 e0:∃ tp p,w.cell? ⟨0,0,none⟩=some (.iface tp p)
 e1:∃ tp p,w.cell? ⟨1,0,none⟩=some (.iface tp p)
theorem Gx.below {w w':World} (h:Gx w) (hb:Below w.heap.size w w'):Gx w':=by
 refine⟨h.g.below hb,?_,?_⟩
 ·obtain⟨tp,p,e⟩:=h.e0;exact⟨tp,p,(hb.cell (GN (by decide) h.g.sz)).trans e⟩
 ·obtain⟨tp,p,e⟩:=h.e1;exact⟨tp,p,(hb.cell (GN (by decide) h.g.sz)).trans e⟩
def it (s:List UInt8):Bool:=match gV s with | some z=>decide (z.y.n=0) | none=>false
theorem xF (s:ByteArray) (w:World) (hG:Gw w) :
  Calls Tryz.prog 66 #[.string s] w fun e w'=>∃ b:Bool,e=.returned (.bool b)/\Hid (it s.data.toList=b)/\Below w.heap.size w w':=by
 go_enter Tryz.func66,Tryz.ntmps66;go_wp2_with fail
 refine (kx s w hG).mono ?_;rintro e w1 ⟨v,ok,rfl,hcase,hb1⟩;rcases hcase with ⟨z,hz,rfl,hv⟩ | ⟨hz,rfl,rfl⟩
 ·have HZ:=GF hz;have HB1:=GF hb1;clear hz;have hv':=hv;obtain⟨a,b,c,d,e,f,rfl,hx,hy⟩:=hv';obtain⟨xn,xd,ex,hxn,hxd,_,_⟩:=hx;obtain⟨yn,yd,ey,hyn,hyd,_,_⟩:=hy;simp only[Value.agg.injEq,Array.mk.injEq,List.cons.injEq,and_true] at ex ey;obtain⟨rfl,rfl,rfl⟩:=ex;obtain⟨rfl,rfl,rfl⟩:=ey;obtain⟨p1,c1,rfl,_,_,_⟩:=hxn;obtain⟨p2,c2,rfl,_,_,_⟩:=hxd;obtain⟨p3,c3,rfl,_,_,_⟩:=hyn;obtain⟨p4,c4,rfl,_,_,_⟩:=hyd;have hb2:Below w1.heap.size w1 (w1.alloc (.cells #[.bool z.x.minus,.slice p1 (av BB z.x.n).length c1,.slice p2 (av BB z.x.d).length c2,.bool z.y.minus,.slice p3 (av BB z.y.n).length c3,.slice p4 (av BB z.y.d).length c4] 110)):=(Ki _ _).alloc (GM _) _;have HV:=GF (hv.below hb2);have HB2:=GF (hb1.trans (hb2.mono hb1.size));clear hv hb1 hb2;go_wp2_with fail
  refine (eW _ z _ (by exact HV.out)).mono ?_;rintro e w3 ⟨rfl,hb3⟩;go_wp2;go_ret;exact⟨_,rfl,by unfold Hid it;rw[HZ.out],HB2.out.trans (hb3.mono HB2.out.size)⟩
 ·have HZ:=GF hz;clear hz;unfold iA;go_wp2;go_ret;exact⟨_,rfl,by unfold Hid it;rw[HZ.out],hb1.trans (((Ki _ _).alloc (GM _) _).mono hb1.size)⟩
def iS (s:List UInt8):Bool:=match Lib.atoiAll s with | .ok v=>decide (v<=4096) | _=>false
theorem Gf (s:ByteArray) (w:World) (hs:s.size<1000000) (hG:Gx w) :
  Calls Tryz.prog 125 #[.string s] w fun e w'=>∃ (v:Int) (ev:Value),e=.returned (.tuple #[.int .i64 v,ev]) /\
   ((∃ a b,ev=.iface a b/\Hid (iS s.data.toList=false))\/(ev=.nilIface/\Hid (iS s.data.toList=decide (v<=4096))))/\Below w.heap.size w w':=by
 rcases h:Lib.atoiAll s.data.toList with v | _ | _
 ·refine (Tryz.strconv_Atoi_ok s (by omega) v h w).mono ?_;rintro e w' ⟨rfl,hw⟩;refine⟨_,_,rfl,Or.inr ⟨rfl,by unfold Hid iS;rw[h]⟩,?_⟩;rcases hw with rfl | ⟨t,rfl⟩
  ·exact Ki _ _
  ·exact Joins.below_bytesWorld _ _ _ _ (GM _)
 ·obtain⟨tp,p,hv⟩:=hG.e0;refine (Any.strconv_Atoi_syntax Tryz.laysC172 s (by omega) h _ w hv (Or.inr ⟨_,_,rfl⟩)).mono ?_;rintro e w' ⟨N,rfl,_,_,hb⟩;exact⟨_,_,rfl,Or.inl ⟨_,_,rfl,by unfold Hid iS;rw[h]⟩,hb⟩
 ·obtain⟨tp,p,hv⟩:=hG.e1;refine (Tryz.strconv_Atoi_range s (by omega) h _ w hv (Or.inr ⟨_,_,rfl⟩)).mono ?_;rintro e w' ⟨N,rfl,_,_,hb⟩;exact⟨_,_,rfl,Or.inl ⟨_,_,rfl,by unfold Hid iS;rw[h]⟩,hb⟩
def fH (t:ByteArray):List ByteArray:=Lib.splitB ⟨#[47]⟩ 0 (Lib.countB t ⟨#[47]⟩) t
def eZ (s:List UInt8):Bool:=(fH ⟨(Lib.trimPrefix s [45]).toArray⟩).all fun p=>iS p.data.toList
theorem uG (sep:ByteArray):∀ (k:Nat) (s p:ByteArray),p∈Lib.splitB sep 0 k s->p.size<=s.size:=by
 intro k
 induction k with
 | zero=>intro s p h;simp[Lib.splitB] at h;subst h;exact GM _
 | succ k ih =>
  intro s p h;unfold Lib.splitB at h
  split at h
  ·simp at h;subst h;exact GM _
  ·rcases Ir.1 h with rfl | h
   ·rw[ByteArray.size_extract];omega
   ·have:=ih _ _ h;rw[ByteArray.size_extract] at this;omega
structure ll (w:World) (k:Nat) (l:List ByteArray):Prop where
 lt:k<w.heap.size
 at_:∀ i (h:i<l.length),w.cell? ⟨k,i,none⟩=some (.string l[i])
theorem ll.below {w w':World}{k:Nat}{l:List ByteArray} (h:ll w k l) (hb:Below w.heap.size w w'):ll w' k l :=
 ⟨GN h.lt hb.size,fun i hi=>(hb.cell (p:=⟨k,i,none⟩) h.lt).trans (h.at_ i hi)⟩
theorem FV (t:ByteArray) (w:World) (hs:t.size<1000000) (hG:Gx w) :
  Calls Tryz.prog 123 #[.string t,.string ⟨#[47]⟩] w fun e w'=>∃ (k n:Nat),e=.returned (.slice (some ⟨k,0,none⟩) n n)/\n=(fH t).length/\0<n/\n<=1000000/\ll w' k (fH t)/\Below w.heap.size w w':=by
 obtain⟨m,hm⟩:=hG.g.ml;refine (Tryz.strings_Split t ⟨#[47]⟩ m w (by omega) hm (by decide)).mono ?_;rintro e w' ⟨rfl,rfl⟩;have hl:(fH t).length=Lib.countB t ⟨#[47]⟩+1:=Lib.splitB_all _ (by decide) _ _ _ rfl;refine⟨_,_,rfl,hl.symm,by omega,?_,⟨by simp,fun i hi=>?_⟩,(Ki _ _).alloc (GM _) _⟩
 ·have:=Lib.countB_le ⟨#[47]⟩ (by decide) t.size t (GM _);omega
 ·exact aR w _ 9 i _ (by rw[JH,Jy];show Option.map Value.string (fH t)[i]?=_;rw[G4 hi];rfl)
theorem jS {l:List ByteArray}{i:Nat} (h:i<l.length) (f:ByteArray->Bool):(l.take (i+1)).all f=((l.take i).all f&&f l[i]):=by
 have e:l.take (i+1)=l.take i++[l[i]]:=(GZ h).symm;rw[e,IF];simp
theorem nJ {l:List ByteArray}{i:Nat} (h:i<l.length) (f:ByteArray->Bool) (hf:f l[i]=false):l.all f=false:=by
 rw[Je];exact⟨l[i],G7 h,by rw[hf];exact IV⟩
theorem wI (s:ByteArray) (w:World) (hs:s.size<100000) (hG:Gx w) :
  Calls Tryz.prog 67 #[.string s] w fun e w'=>∃ b:Bool,e=.returned (.bool b)/\Hid (eZ s.data.toList=b)/\Below w.heap.size w w':=by
 go_enter Tryz.func67,Tryz.ntmps67;go_wp2_with fail
 refine (uP _ _ w).mono ?_;rintro e w1 ⟨t,rfl,ht,hts,rfl⟩;go_wp2_with fail
 refine (FV t w (by omega) hG).mono ?_;rintro e w1 ⟨k,n,rfl,hn,hn0,hn1,hW,hb1⟩;have HN:=GF hn;have hG1:=hG.below hb1;clear hn hG;go_wp2_with fail
 go_loopw [11] (fun s11 wr=>∃ i:Nat,s11=.int .i64 i/\i<=n/\Gx wr/\ll wr k (fH t)/\Below w.heap.size w wr/\Hid (((fH t).take i).all (fun p=>iS p.data.toList)=true)) (fun s11 _=>n-(intOf s11).toNat)
 case atStart=>exact⟨0,rfl,by omega,hG1,hW,hb1,rfl⟩
 case round =>
  clear hG1 hW hb1;obtain⟨i,rfl,hin,hGr,hWr,hbr,hall⟩:=hrel;by_cases hi:i<n
  ·have hil:i<(fH t).length:=by rw[<-HN.out];exact hi
   have hc:=hWr.at_ i hil;have hps:(fH t)[i].size<=t.size:=uG _ _ _ _ (G7 hil);obtain⟨p,hp⟩:∃ p,p=(fH t)[i]:=⟨_,rfl⟩;rw[<-hp] at hc hps;have HP:=GF hp;clear hp;go_wp2_with fail
   refine (Gf p wr (by omega) hGr).mono ?_;rintro e w2 ⟨v,ev,rfl,hcase,hb2⟩;have hb3:=hbr.trans (hb2.mono hbr.size);have hG2:=hGr.below hb2;have hW2:=hWr.below hb2;clear hb2 hGr hWr hbr hc;rcases hcase with ⟨a,b,rfl,hpart⟩ | ⟨rfl,hpart⟩
   ·go_wp2;go_ret;exact⟨false,rfl,by unfold Hid eZ;rw[<-ht.out];exact nJ hil _ (by rw[<-HP.out];exact hpart.out),hb3⟩
   ·by_cases hv:(4096:Int)<v
    ·have hd:decide ((4096:Int)<v)=true:=by simp;omega
     have HV:=GF hv;clear hv;go_wp2;go_ret;exact⟨false,rfl,by unfold Hid eZ;rw[<-ht.out];exact nJ hil _ (by rw[<-HP.out,hpart.out];simp;exact HV.out),hb3⟩
    ·have hd:decide ((4096:Int)<v)=false:=by simp;omega
     have HV:=GF hv;clear hv;go_wp2;go_roundw;case rel=>exact⟨i+1,by go_num,by omega,hG2,hW2,hb3,by unfold Hid;rw[jS hil,hall.out,<-HP.out,hpart.out];simp;have:=HV.out;omega⟩
     case measure=>simp[intOf];omega
  ·have hin':i=n:=by omega
   subst hin';clear hi;go_wp2;go_ret;exact⟨true,rfl,by have h:=hall.out;rw[HN.out,He] at h;unfold Hid eZ;rw[<-ht.out];exact h,hbr⟩
def ce (s:List UInt8):Bool:=it s&&eZ s
theorem le {s:List UInt8} (h:it s=true):s.length<=8008:=by
 unfold it gV at h;by_cases hl:8008<s.length
 ·rw[if_pos hl] at h;exact absurd h IV
 ·omega
theorem qf (s:ByteArray) (w:World) (hG:Gx w) :
  Calls Tryz.prog 25 #[.string s] w fun e w'=>∃ b:Bool,e=.returned (.bool b)/\Hid (ce s.data.toList=b)/\Below w.heap.size w w':=by
 go_enter Tryz.func25,Tryz.ntmps25;go_wp2_with fail
 refine (xF s w hG.g).mono ?_;rintro e w1 ⟨b,rfl,hb,hb1⟩;have hG1:=hG.below hb1;clear hG
 cases b
 ·have HB:=GF hb.out;clear hb;go_wp2;go_ret;exact⟨_,rfl,by unfold Hid ce;rw[HB.out];rfl,hb1⟩
 ·have HB:=GF hb.out;have hsz:=le hb.out;rw[bQ] at hsz;clear hb;go_wp2_with fail
  refine (wI s w1 (by omega) hG1).mono ?_;rintro e w2 ⟨b,rfl,hb,hb2⟩;go_wp2;go_ret;exact⟨b,rfl,by unfold Hid ce;rw[HB.out,hb.out];rfl,hb1.trans (hb2.mono hb1.size)⟩
structure fY (w:World) (p:Option Addr) (l:List ByteArray):Prop where
 at_:0<l.length->∃ b o,p=some ⟨b,o,none⟩/\b<w.heap.size/\∀ i (h:i<l.length),w.cell? ⟨b,o+i,none⟩=some (.string l[i])
theorem fY.below {w w':World}{p:Option Addr}{l:List ByteArray} (h:fY w p l) (hb:Below w.heap.size w w'):fY w' p l:=by
 refine⟨fun hl=>?_⟩;obtain⟨b,o,e,hlt,hc⟩:=h.at_ hl;exact⟨b,o,e,GN hlt hb.size,fun i hi=>(hb.cell (p:=⟨b,o+i,none⟩) hlt).trans (hc i hi)⟩
def gi (l:List ByteArray):Bool:=decide (1<=l.length)&&decide (l.length<=7)&&l.all fun s=>ce s.data.toList
def nZ (l:List ByteArray):Option (List UInt8):=l.head?.map fun s=>s.data.toList
def aI (a b:List ByteArray):Bool:=gi a&&gi b&&decide (nZ b=some [49])
theorem qx {l:List ByteArray} (h:l.length<1):gi l=false:=by
 unfold gi;rw[decide_eq_false (by omega)];rfl
theorem oD {l:List ByteArray} (h:7<l.length):gi l=false:=by
 unfold gi;rw[decide_eq_false (by omega:¬ l.length<=7),Bool.and_false];rfl
theorem qw {l:List ByteArray}{i:Nat} (h:i<l.length) (hf:ce l[i].data.toList=false):gi l=false:=by
 unfold gi;rw[nJ h _ hf,Bool.and_false]
theorem oC {l:List ByteArray} (h1:1<=l.length) (h2:l.length<=7) (hf:(l.take l.length).all (fun s=>ce s.data.toList)=true):gi l=true:=by
 rw[He] at hf;unfold gi;rw[decide_eq_true h1,decide_eq_true h2,hf];rfl
theorem zD {l:List ByteArray} (h:gi l=true):0<l.length:=by
 unfold gi at h;simp only[G9,decide_eq_true_eq] at h;omega
theorem rL {l:List ByteArray} (h:0<l.length):decide (nZ l=some [49])=decide (l[0].data.toList=[49]):=by
 match l,h with
 | a :: r,_=>simp[nZ]
theorem Fd (p0 p1:Option Addr) (c0 c1:Nat) (l0 l1:List ByteArray) (w:World) (h0:fY w p0 l0) (h1:fY w p1 l1) (hG:Gx w) :
  Calls Tryz.prog 24 #[.agg #[.slice p0 l0.length c0,.slice p1 l1.length c1]] w fun e w'=>∃ n:Int,e=.returned (.int .i64 n)/\(n=0/\Hid (aI l0 l1=true)\/n=30/\Hid (aI l0 l1=false))/\Below w.heap.size w w':=by
 have hb0:Below w.heap.size w (w.alloc (.cells #[.slice p0 l0.length c0,.slice p1 l1.length c1] 34)):=(Ki _ _).alloc (GM _) _;have k0:=aR w #[.slice p0 l0.length c0,.slice p1 l1.length c1] 34 0 _ rfl;have k1:=aR w #[.slice p0 l0.length c0,.slice p1 l1.length c1] 34 1 _ rfl;have hlt:w.heap.size<(w.alloc (.cells #[.slice p0 l0.length c0,.slice p1 l1.length c1] 34)).heap.size:=by simp
 have W0:=h0.below hb0;have W1:=h1.below hb0;have G0:=hG.below hb0;clear h0 h1 hG;have i0:∀ w,(Instr.index 117 (.agg #[.slice p0 l0.length c0,.slice p1 l1.length c1]) (.int .i64 0)).run Tryz.prog w=.ok (.slice p0 l0.length c0) w:=fun _=>by kernel_rfl
 have i1:∀ w,(Instr.index 117 (.agg #[.slice p0 l0.length c0,.slice p1 l1.length c1]) (.int .i64 1)).run Tryz.prog w=.ok (.slice p1 l1.length c1) w:=fun _=>by kernel_rfl
 go_enter Tryz.func24,Tryz.ntmps24;go_wp2_with fail
 generalize w.alloc (.cells #[.slice p0 l0.length c0,.slice p1 l1.length c1] 34)=w0 at *
 go_loopw [12] (fun s12 wr=>∃ j:Nat,s12=.int .i64 j/\j<=2/\Gx wr/\fY wr p0 l0/\fY wr p1 l1/\Below w.heap.size w wr/\Below w0.heap.size w0 wr/\Hid ((1<=j->gi l0=true)/\(2<=j->gi l1=true))) (fun s12 _=>2-(intOf s12).toNat)
 case atStart=>exact⟨0,rfl,by omega,G0,W0,W1,hb0,Ki _ _,fun h=>absurd h (by decide),fun h=>absurd h (by decide)⟩
 case round =>
  clear G0 W0 W1 hb0;obtain⟨j,rfl,hj,hGr,hW0,hW1,hbr,hbr0,hdone⟩:=hrel;rcases (by omega:j=0\/j=1\/j=2) with rfl | rfl | rfl
  ·by_cases hfew:l0.length<1
   ·have hd:decide (((l0.length:Nat):Int)<1)=true:=by simp;omega
    have HF:=GF hfew;clear hfew;go_wp2;go_ret;exact⟨30,rfl,Or.inr ⟨rfl,by unfold Hid aI;rw[qx (l:=l0) HF.out];simp⟩,hbr⟩
   ·have hd:decide (((l0.length:Nat):Int)<1)=false:=by simp;omega
    have hpos:0<l0.length:=by omega
    clear hfew;by_cases hmany:7<l0.length
    ·have hd2:decide ((7:Int)<((l0.length:Nat):Int))=true:=by simp;omega
     have HF:=GF hmany;clear hmany;go_wp2;go_ret;exact⟨30,rfl,Or.inr ⟨rfl,by unfold Hid aI;rw[oD (l:=l0) HF.out];simp⟩,hbr⟩
    ·have hd2:decide ((7:Int)<((l0.length:Nat):Int))=false:=by simp;omega
     have hle:l0.length<=7:=by omega
     clear hmany;go_wp2_with fail
     go_loopw [25] (fun s25 wq=>∃ i:Nat,s25=.int .i64 i/\i<=l0.length/\Gx wq/\fY wq p0 l0/\fY wq p1 l1/\Below w.heap.size w wq/\Below w0.heap.size w0 wq/\Hid ((l0.take i).all (fun s=>ce s.data.toList)=true)) (fun s25 _=>l0.length-(intOf s25).toNat)
     case atStart=>exact⟨0,rfl,by omega,hGr,hW0,hW1,hbr,hbr0,rfl⟩
     case round =>
      clear hGr hW0 hW1 hbr hbr0;obtain⟨i,rfl,hi,hGr,hW0,hW1,hbr,hbr0,hall⟩:=hrel;by_cases hil:i<l0.length
      ·obtain⟨b,o,rfl,hbw,hc⟩:=hW0.at_ hpos;have hci:=hc i hil;obtain⟨p,hp⟩:∃ p,p=l0[i]:=⟨_,rfl⟩;rw[<-hp] at hci;have HP:=GF hp;clear hp hc;go_wp2_with fail
       refine (qf p _ hGr).mono ?_;rintro e w2 ⟨b2,rfl,hb2,hbl2⟩;have hb3:=hbr.trans (hbl2.mono hbr.size)
       cases b2
       ·go_wp2;go_ret;exact⟨30,rfl,Or.inr ⟨rfl,by unfold Hid aI;rw[qw (l:=l0) hil (by rw[<-HP.out];exact hb2.out)];simp⟩,hb3⟩
       ·have hb4:=hbr0.trans (hbl2.mono hbr0.size);have hG2:=hGr.below hbl2;have hV0:=hW0.below hbl2;have hV1:=hW1.below hbl2;clear hGr hW0 hW1 hbr hbr0 hbl2 hci;go_wp2;go_roundw
        case rel =>
         (repeat apply Exists.intro)
         exact⟨⟨i+1,by go_num,by omega,hG2,hV0,hV1,hb3,hb4,by unfold Hid;rw[jS hil,hall.out,<-HP.out,hb2.out];rfl⟩,rfl⟩
        case measure=>simp[intOf];omega
      ·have hie:i=l0.length:=by omega
       subst hie;have hgood:=oC (l:=l0) (by omega) (by omega) hall.out;have HGOOD:=GF hgood;clear hil hi hgood;go_wp2;go_roundw;case rel=>exact⟨1,by go_num,by omega,hGr,hW0,hW1,hbr,hbr0,⟨fun _=>HGOOD.out,fun h=>absurd h (by decide)⟩⟩
       case measure=>simp[intOf]
  ·by_cases hfew:l1.length<1
   ·have hd:decide (((l1.length:Nat):Int)<1)=true:=by simp;omega
    have HF:=GF hfew;clear hfew;go_wp2;go_ret;exact⟨30,rfl,Or.inr ⟨rfl,by unfold Hid aI;rw[qx (l:=l1) HF.out];simp⟩,hbr⟩
   ·have hd:decide (((l1.length:Nat):Int)<1)=false:=by simp;omega
    have hpos:0<l1.length:=by omega
    clear hfew;by_cases hmany:7<l1.length
    ·have hd2:decide ((7:Int)<((l1.length:Nat):Int))=true:=by simp;omega
     have HF:=GF hmany;clear hmany;go_wp2;go_ret;exact⟨30,rfl,Or.inr ⟨rfl,by unfold Hid aI;rw[oD (l:=l1) HF.out];simp⟩,hbr⟩
    ·have hd2:decide ((7:Int)<((l1.length:Nat):Int))=false:=by simp;omega
     have hle:l1.length<=7:=by omega
     clear hmany;go_wp2_with fail
     go_loopw [25] (fun s25 wq=>∃ i:Nat,s25=.int .i64 i/\i<=l1.length/\Gx wq/\fY wq p0 l0/\fY wq p1 l1/\Below w.heap.size w wq/\Below w0.heap.size w0 wq/\Hid ((l1.take i).all (fun s=>ce s.data.toList)=true)) (fun s25 _=>l1.length-(intOf s25).toNat)
     case atStart=>exact⟨0,rfl,by omega,hGr,hW0,hW1,hbr,hbr0,rfl⟩
     case round =>
      clear hGr hW0 hW1 hbr hbr0;obtain⟨i,rfl,hi,hGr,hW0,hW1,hbr,hbr0,hall⟩:=hrel;by_cases hil:i<l1.length
      ·obtain⟨b,o,rfl,hbw,hc⟩:=hW1.at_ hpos;have hci:=hc i hil;obtain⟨p,hp⟩:∃ p,p=l1[i]:=⟨_,rfl⟩;rw[<-hp] at hci;have HP:=GF hp;clear hp hc;go_wp2_with fail
       refine (qf p _ hGr).mono ?_;rintro e w2 ⟨b2,rfl,hb2,hbl2⟩;have hb3:=hbr.trans (hbl2.mono hbr.size)
       cases b2
       ·go_wp2;go_ret;exact⟨30,rfl,Or.inr ⟨rfl,by unfold Hid aI;rw[qw (l:=l1) hil (by rw[<-HP.out];exact hb2.out)];simp⟩,hb3⟩
       ·have hb4:=hbr0.trans (hbl2.mono hbr0.size);have hG2:=hGr.below hbl2;have hV0:=hW0.below hbl2;have hV1:=hW1.below hbl2;clear hGr hW0 hW1 hbr hbr0 hbl2 hci;go_wp2;go_roundw
        case rel =>
         (repeat apply Exists.intro)
         exact⟨⟨i+1,by go_num,by omega,hG2,hV0,hV1,hb3,hb4,by unfold Hid;rw[jS hil,hall.out,<-HP.out,hb2.out];rfl⟩,rfl⟩
        case measure=>simp[intOf];omega
      ·have hie:i=l1.length:=by omega
       subst hie;have hgood:=oC (l:=l1) (by omega) (by omega) hall.out;have HGOOD:=GF hgood;clear hil hi hgood;go_wp2;go_roundw;case rel=>exact⟨2,by go_num,by omega,hGr,hW0,hW1,hbr,hbr0,⟨fun _=>hdone.out.1 (by decide),fun _=>HGOOD.out⟩⟩
       case measure=>simp[intOf]
  ·have g0:=hdone.out.1 (by decide);have g1:=hdone.out.2 (by decide);have hpos:=zD g1;have H0:=GF g0;have H1:=GF g1;have k1':=(hbr0.cell (p:=⟨w.heap.size,1,none⟩) hlt).trans k1;obtain⟨b,o,rfl,hbw,hc⟩:=hW1.at_ hpos;have hci:wr.cell? ⟨b,o,none⟩=some (.string l1[0]):=hc 0 hpos;obtain⟨p,hp⟩:∃ p,p=l1[0]:=⟨_,rfl⟩;rw[<-hp] at hci;have HP:=GF hp;have hposI:(0:Int)<((l1.length:Nat):Int):=by omega
   clear hp hc g0 g1 hdone k0 k1 i0 i1;by_cases heq:p.toList=[49]
   ·have z1:(p.toList == [49])=true:=by simp[heq]
    have z2:(p.toList != [49])=false:=by simp[heq]
    have z3:decide (p.toList=[49])=true:=by simp[heq]
    have HE:=GF heq;clear heq;go_wp2;go_ret;exact⟨0,rfl,Or.inl ⟨rfl,by unfold Hid aI;rw[H0.out,H1.out,rL hpos,decide_eq_true (by rw[<-HP.out,<-aC];exact HE.out)];rfl⟩,hbr⟩
   ·have z1:(p.toList == [49])=false:=by simp[heq]
    have z2:(p.toList != [49])=true:=by simp[heq]
    have z3:decide (p.toList=[49])=false:=by simp[heq]
    have HE:=GF heq;clear heq;go_wp2;go_ret;exact⟨30,rfl,Or.inr ⟨rfl,by unfold Hid aI;rw[H0.out,H1.out,rL hpos,decide_eq_false (by rw[<-HP.out,<-aC];exact HE.out)];rfl⟩,hbr⟩
theorem DP:dec 1=[49]:=by rw[dec_lt (by decide)];rfl
theorem AW:dec 0=[48]:=by rw[dec_lt (by decide)];rfl
theorem mK:dl [48]=some ⟨false,0,1⟩:=by rfl
theorem kG:b8 ⟨false,0,1⟩=false:=by unfold b8;simp[DP,AW]
open Dg Dc
structure fd (r:Rt):Prop where
 pos:0<r.d
 gcd:Nat.gcd r.n r.d=1
 sign:r.minus=true->r.n≠0
theorem nN {mi:Bool}{n d:Nat} (h:0<d):fd (dF mi n d):=by
 unfold dF
 split
 ·exact⟨by decide,by decide,fun h=>by cases h⟩
 ·rename_i hn
  have hg:0<Nat.gcd n d:=Is _ h;refine⟨JZ (J9 _ h) hg,?_,fun _=>?_⟩
  ·rw[Nat.gcd_div (JF ..) (J5 ..),Nat.div_self hg]
  have:0<n / Nat.gcd n d:=JZ (Jp (by omega) (JF ..)) hg
  show n / Nat.gcd n d≠0
  omega
theorem nM (n:Nat):fd ⟨false,n,1⟩:=⟨Nat.one_pos,Nat.gcd_one_right n,fun h=>by cases h⟩
theorem AL {r:Rt} (h:fd r):fd (m7 r):=⟨h.pos,h.gcd,fun hm=>by unfold m7 at hm;simp at hm;exact hm.2⟩
theorem l3 (s:List UInt8):fd (b9 s).1:=by
 unfold b9
 split
 ·exact nM 1
 ·split
  ·rename_i h;exact nN (by have:=h.2;omega)
  ·exact nM _
theorem kr (s:List UInt8):fd (bO s).1:=by
 unfold bO
 split
 ·exact AL (l3 _)
 ·split<;>exact l3 _
theorem pZ:fd fv:=nM 0
theorem gG (s:List UInt8):fd (aV s).x/\fd (aV s).y:=by
 unfold aV
 split
 ·exact⟨pZ,kr _⟩
 ·split
  ·exact⟨kr _,pZ⟩
  ·exact⟨kr _,kr _⟩
theorem fU {s:List UInt8}{r:Rt} (h:dl s=some r):fd r:=by
 unfold dl at h
 split at h
 ·cases h
 ·split at h
  ·split at h
   ·cases h
   ·split at h
    ·cases h
    ·rename_i h0;injection h with h;subst h;exact nN (by omega)
  ·injection h with h;subst h;exact nN (by decide)
theorem lP {r:Rt} (h:fd r):dF r.minus r.n r.d=r:=by
 obtain⟨m,n,d⟩:=r;have h1:=h.pos;have h2:=h.gcd;have h3:=h.sign;simp only at h1 h2 h3 |-;unfold dF;rw[h2,Kd,Kd]
 split
 ·rename_i h0
  subst h0;rw[I1] at h2
  cases m
  ·rw[h2]
  ·exact absurd rfl (h3 rfl)
 ·rfl
theorem sK {r:Rt} (h:fd r) (h0:r.n=0):r.d=1:=by have:=h.gcd;rw[h0,I1] at this;exact this
/-! ### texts of digits -/
theorem sZ (n:Nat):∃ c r,dec n=c :: r/\bo c=true:=by
 cases h:dec n with
 | nil=>exact absurd h (gQ n)
 | cons c r =>
  have:=eK n;rw[h,Jo,G9] at this;exact⟨c,r,rfl,this.1⟩
theorem jp {c:UInt8} (h:bo c=true):c≠43/\c≠45/\c≠47/\c≠105:=by
 unfold bo at h;simp only[G9,decide_eq_true_eq] at h;refine⟨?_,?_,?_,?_⟩<;>(intro e;subst e;revert h;decide)
theorem sU:∀ (l t:List UInt8) (m:Nat),l.all bo=true->l.length<=m->(∀ c,t.head?=some c->bo c=false)->dM (l++t) m=l.length
 | [],[],m,_,_,_=>by simp[dM]
 | [],c :: t,0,_,_,_=>by simp[dM]
 | [],c :: t,m+1,_,_,h=>by
  have:=h c rfl;simp[dM,this]
 | c :: l,t,0,_,h,_=>by simp at h
 | c :: l,t,m+1,ha,hl,h=>by
  rw[Jo,G9] at ha;rw[Hn,dM,if_pos ha.1,sU l t m ha.2 (by simpa using hl) h];rfl
theorem iX {n:Nat}{t:List UInt8} (hl:(dec n).length<=2001) (h:∀ c,t.head?=some c->bo c=false):dC (dec n++t)=(n,t)/\dM (dec n++t) 2001=(dec n).length:=by
 have e:=sU (dec n) t 2001 (eK n) hl h;refine⟨?_,e⟩;unfold dC;rw[e,JO,List.drop_left',kY]<;>rfl
def fi (r:Rt):List UInt8:=dec r.n++(if 1<r.d then 47 :: dec r.d else [])
theorem eB (r:Rt):aJ r=(if r.minus then [45] else [])++fi r:=by unfold aJ fi;rw[Hk]
theorem lw {r:Rt} (h:b8 r=false):(dec r.n).length<=2000/\(dec r.d).length<=2000:=by
 unfold b8 at h;simp only[If,decide_eq_false_iff_not] at h;omega
theorem jQ (r:Rt):∃ c t,fi r=c :: t/\bo c=true:=by
 obtain⟨c,t,h1,h2⟩:=sZ r.n;exact⟨c,t++_,by unfold fi;rw[h1];rfl,h2⟩
theorem zW {r:Rt} (h:fd r) (hb:b8 r=false):b9 (fi r)=(⟨false,r.n,r.d⟩,[]):=by
 obtain⟨h1,h2⟩:=lw hb;have hp:=fk r.n;have hpos:=h.pos;unfold fi
 split
 ·rename_i hd
  obtain⟨e1,e2⟩:=iX (n:=r.n) (t:=47 :: dec r.d) (by omega) (fun c hc=>by simp at hc;subst hc;decide);obtain⟨e3,_⟩:=iX (n:=r.d) (t:=[]) (by omega) (fun c hc=>by cases hc);rw[Ic] at e3;unfold b9;rw[e2,if_neg (by omega),e1];simp only[IZ,JD,Ju];rw[e3,if_pos ⟨by simp,by show r.d≠0;omega⟩];have:=lP (r:=⟨false,r.n,r.d⟩) ⟨h.pos,h.gcd,fun h=>by cases h⟩;rw[this]
 ·rename_i hd
  obtain⟨e1,e2⟩:=iX (n:=r.n) (t:=[]) (by omega) (fun c hc=>by cases hc);rw[show r.d=1 by omega];unfold b9;rw[e2,if_neg (by omega),e1];rfl
theorem ld {r:Rt} (h:fd r) (hb:b8 r=false):bO (aJ r)=(r,[]):=by
 rw[eB];have hp:=zW h hb;obtain⟨c,t,e1,e2⟩:=jQ r;obtain⟨m,n,d⟩:=r
 cases m
 ·simp only[G8,if_false,Hh];obtain⟨n1,n2,_⟩:=jp e2;unfold bO;rw[e1] at hp |-;simp only[IZ,Option.some.injEq];rw[if_neg n2,if_neg n1];exact hp
 ·simp only[if_true];have hs:=h.sign rfl;simp only at hs;unfold bO;simp only[Hn,Hh,IZ,if_true,JD,Ju];rw[hp];unfold m7;simp[hs]
theorem jz {r:Rt} (h:fd r) (hb:b8 r=false):aV (aJ r)=⟨r,fv⟩:=by
 unfold aV;rw[ld h hb];simp
theorem cz {z:Vl} (h:z.y.n=0):bE z=aJ z.x:=by unfold bE;rw[if_pos h]
/-! ### the program's reading of such a text -/
theorem pQ {l:List UInt8}{c d:UInt8} (h:c≠d):Lib.hasSuffix (l++[c]) [d]=false:=by
 unfold Lib.hasSuffix;rw[Hx];intro he;rw[J1] at he;obtain⟨t,ht⟩:=he;have:=List.append_inj_right' ht rfl;simp at this;exact h this.symm
theorem s_ (n:Nat):∃ l c,dec n=l++[c]/\bo c=true:=by
 have hne:=gQ n;have:=JX hne;exact⟨_,_,this.symm,Hl.1 (eK n) _ (List.getLast_mem hne)⟩
theorem Ag (r:Rt):∃ l c,aJ r=l++[c]/\bo c=true:=by
 rw[eB];unfold fi;by_cases hd:1<r.d
 all_goals first | rw[if_pos hd] | rw[if_neg hd]
 ·obtain⟨l,c,h1,h2⟩:=s_ r.d;exact⟨(if r.minus then [45] else [])++(dec r.n++47 :: l),c,by rw[h1];simp only[Hk,Hn],h2⟩
 ·obtain⟨l,c,h1,h2⟩:=s_ r.n;exact⟨(if r.minus then [45] else [])++l,c,by rw[h1];simp only[Hk,Ic],h2⟩
theorem vX (r:Rt):fZ (aJ r)=(aJ r,[48]):=by
 obtain⟨l,c,h1,h2⟩:=Ag r;have:Lib.hasSuffix (aJ r) [105]=false:=by rw[h1];exact pQ (jp h2).2.2.2
 unfold fZ;rw[this];rfl
theorem jx (c d:UInt8) (l:List UInt8):Lib.hasPrefix (c :: l) [d]=decide (c=d):=by
 unfold Lib.hasPrefix;rw[IY,J0];simp[List.cons_prefix_cons,eq_comm]
theorem jb (r:Rt):Lib.trimPrefix (aJ r) [45]=fi r/\Lib.hasPrefix (aJ r) [45]=r.minus:=by
 rw[eB];obtain⟨c,t,e1,e2⟩:=jQ r;unfold Lib.trimPrefix
 cases r.minus
 ·simp only[G8,if_false,Hh];rw[e1,jx,decide_eq_false (jp e2).2.1];exact⟨rfl,rfl⟩
 ·simp only[if_true,Hn,Hh];rw[jx,decide_eq_true rfl];exact⟨rfl,rfl⟩
theorem rT {s:List UInt8}{d:UInt8}{i:Nat}:Lib.occAt s [d] i=true↔s[i]?=some d:=by
 unfold Lib.occAt;rw[J0];constructor
 ·rintro⟨t,ht⟩;have:(s.drop i)[0]?=some d:=by rw[<-ht];rfl
  rw[IL] at this;simpa using this
 ·intro h;obtain⟨hi,e⟩:=Ig.1 h;exact⟨s.drop (i+1),by rw[Iq hi,e];rfl⟩
theorem k8 {s:List UInt8}{d:UInt8} (h:d∉s):Lib.index s [d]=-1:=by
 refine Lib.index_none (fun j _=>?_);rw[Hx];intro he;exact h (I5 (rT.1 he))
theorem qo {l t:List UInt8}{d:UInt8} (h:d∉l):Lib.index (l++d :: t) [d]=l.length:=by
 refine Lib.index_first (by simp) (rT.2 (by simp)) (fun j hj=>?_);rw[Hx];intro he;have:=rT.1 he;rw[I4 hj] at this;exact h (I5 this)
theorem j8 {l:List UInt8} (h:l.all bo=true):(47:UInt8)∉l:=fun hm=>(jp (Hl.1 h _ hm)).2.2.1 rfl
theorem j6 (n:Nat):di (dec n)=some n:=by
 unfold di;rw[if_pos ⟨gQ n,eK n⟩,kY]
theorem kb {r:Rt} (h:fd r):dl (aJ r)=some r:=by
 obtain⟨e1,e2⟩:=jb r;have hpos:=h.pos;unfold dl;rw[e1,e2];unfold fi Lib.cut;by_cases hd:1<r.d
 all_goals first | rw[if_pos hd] | rw[if_neg hd]
 ·rw[qo (j8 (eK r.n)),if_pos (by omega)];simp only[IE];rw[JO rfl,j6];simp only[if_true];have:(dec r.n++47 :: dec r.d).drop ((dec r.n).length+([47]:List UInt8).length)=dec r.d:=by simp[List.drop_append]
  rw[this,j6];simp only;rw[if_neg (by omega),lP h]
 ·rw[Ic,k8 (j8 (eK r.n)),if_neg (by omega)];simp only;rw[j6];simp only[G8,if_false];have hd1:r.d=1:=by omega
  have:=lP h;rw[hd1] at this;rw[this]
theorem pj {r:Rt} (hb:b8 r=false):(aJ r).length<=4002:=by
 obtain⟨h1,h2⟩:=lw hb;rw[eB];unfold fi;rw[GW,GW]
 split<;>split<;>simp<;>omega
theorem ts {r:Rt} (h:fd r) (hb:b8 r=false):gV (aJ r)=some ⟨r,fv⟩:=by
 have hl:=pj hb;unfold gV;rw[if_neg (by omega),vX,kb h];simp only;rw[mK];simp only;rw[if_pos ⟨cz rfl,hb,kG⟩];rfl
theorem uo (s:List UInt8):(it s=true↔∃ r,fd r/\b8 r=false/\s=aJ r)/\(kS s=true↔∃ r,fd r/\b8 r=false/\s=aJ r):=by
 refine⟨⟨fun h=>?_,?_⟩,⟨fun h=>?_,?_⟩⟩
 ·unfold it at h
  cases hg:gV s with
  | none=>rw[hg] at h;cases h
  | some z =>
   rw[hg] at h;have hy:=of_decide_eq_true h;unfold gV at hg
   split at hg
   ·cases hg
   ·split at hg
    ·rename_i p q hp hq
     split at hg
     ·rename_i hc
      injection hg with hg
      subst hg;refine⟨p,fU hp,hc.2.1,?_⟩;rw[<-hc.1];exact cz hy
     ·cases hg
    ·cases hg
 ·rintro⟨r,h1,h2,rfl⟩;unfold it;rw[ts h1 h2];rfl
 ·unfold kS rOK at h;simp only[G9,decide_eq_true_eq,J3,If] at h;exact⟨(aV s).x,(gG s).1,h.1.2.1,by rw[<-cz h.2];exact h.1.1.symm⟩
 ·rintro⟨r,h1,h2,rfl⟩;unfold kS rOK;rw[jz h1 h2,cz rfl];simp[h2,kG,show b8 fv=false from kG,show fv.n=0 from rfl]
/-! ### short parts -/
theorem sX (c:UInt8) (l:List UInt8):a8 (c :: l)=(c.toNat-48)*10 ^ l.length+a8 l:=by
 have:=eE [c] l;rw[Jh] at this;rw[this];simp[a8]
theorem oK:∀ (l:List UInt8) (acc:Nat),l.all bo=true->acc<18446744073709551616 ->
  Lib.parseUint10 acc l=if acc*10 ^ l.length+a8 l<18446744073709551616 then .ok (acc*10 ^ l.length+a8 l) else .range
 | [],acc,_,h=>by simp[Lib.parseUint10,a8,h]
 | c :: l,acc,ha,h=>by
  rw[Jo,G9] at ha;have hc:48<=c.toNat/\c.toNat<=57:=by have:=ha.1;unfold bo at this;simpa using this
  have e:acc*10 ^ (c :: l).length+a8 (c :: l)=(acc*10+(c.toNat-48))*10 ^ l.length+a8 l:=by
   rw[sX,G_,G6];grind
  have hpow:0<10 ^ l.length:=Ij (by decide);have hge:acc*10+(c.toNat-48)<=(acc*10+(c.toNat-48))*10 ^ l.length:=I_ _ hpow;rw[Lib.parseUint10,if_pos hc,e]
  split
  ·rw[if_neg (by omega)]
  ·split
   ·rw[if_neg (by omega)]
   ·exact oK l _ ha.2 (by omega)
theorem tZ (n:Nat):iS (dec n)=decide (n<=4096):=by
 obtain⟨c,t,e1,e2⟩:=sZ n;have hc:48<=c.toNat/\c.toNat<=57:=by have:=e2;unfold bo at this;simpa using this
 have hp:=oK (dec n) 0 (eK n) (by decide);rw[kY,Iu,Hp] at hp;unfold iS Lib.atoiAll;rw[e1];simp only;rw[if_neg (by omega),<-e1];unfold Lib.parseMag;rw[if_neg (gQ n),hp];by_cases h1:n<18446744073709551616
 ·rw[if_pos h1];simp only;have hn:¬ c.toNat=45:=by omega
  by_cases h2:9223372036854775808<=n
  ·simp[hn,h2];omega
  ·simp[hn,h2];omega
 ·rw[if_neg h1];simp;omega
theorem kH (r:Rt) (h:0<r.d):(fH ⟨(fi r).toArray⟩).all (fun p=>iS p.data.toList)=dR r:=by
 have e:(fH ⟨(fi r).toArray⟩).all (fun p=>iS p.data.toList)=(Lib.splitK [47] 0 (Lib.count (fi r) [47]) (fi r)).all iS:=by
  have:=Lib.splitB_data ⟨#[47]⟩ 0 (Lib.countB ⟨(fi r).toArray⟩ ⟨#[47]⟩) ⟨(fi r).toArray⟩;have e2:Lib.countB ⟨(fi r).toArray⟩ ⟨#[47]⟩=Lib.count (fi r) [47]:=by unfold Lib.countB;simp
  rw[e2] at this;unfold fH;rw[e2];simp only[JW] at this;rw[<-this,List.all_map];rfl
 rw[e];unfold fi dR
 split
 ·have h1:=qo (t:=dec r.d) (j8 (eK r.n));have h2:=k8 (j8 (eK r.d));have e3:(dec r.n++47 :: dec r.d).drop ((dec r.n).length+([47]:List UInt8).length)=dec r.d:=by simp[List.drop_append]
  rw[Lib.count_hit (by simp) h1,e3,Lib.count_miss h2]
  show (Lib.splitK [47] 0 (0+1) _).all iS=_
  rw[Lib.splitK,if_neg (by rw[h1];simp),h1];simp only[IE,Hq];rw[e3,JO rfl];simp[Lib.splitK,tZ]
 ·rw[Ic,Lib.count_miss (k8 (j8 (eK r.n)))];simp only[Lib.splitK,Jo,List.all_nil,Bool.and_true,tZ];rw[show r.d=1 by omega];simp
theorem DL (s:List UInt8):AS s=ce s:=by
 obtain⟨h1,h2⟩:=uo s;unfold AS ce;by_cases hr:∃ r,fd r/\b8 r=false/\s=aJ r
 ·rw[h1.2 hr,h2.2 hr];obtain⟨r,c1,c2,rfl⟩:=hr
  have hok:rOK (aJ r)=true:=by
   have:=h2.2 ⟨r,c1,c2,rfl⟩;unfold kS at this;rw[G9] at this;exact this.1
  rw[hok,jz c1 c2];unfold eZ;rw[(jb r).1,kH r c1.pos];simp[show dR fv=true by decide]
 ·rw[show it s=false by rw[Hx];exact fun h=>hr (h1.1 h),show kS s=false by rw[Hx];exact fun h=>hr (h2.1 h)];rfl
open Go.RowKit Dg Dc
def toQ (r:Rt):Rat:=mkRat (sgz r.minus r.n) r.d
theorem mj {r:Rt} (h:fd r):rt (toQ r)=r:=by unfold toQ;rw[<-lO _ _ _ h.pos,lP h]
theorem wK (q:Rat):toQ (rt q)=q:=by
 unfold toQ;rw[oZ];exact Rat.mkRat_self q
theorem jm (q:Rat):fd (rt q):=⟨q.den_pos,q.reduced,fun h=>by
 unfold rt at h |-;simp only[decide_eq_true_eq] at h |-
 omega⟩
def dE (z:CQ):Bool:=b8 (rt z.re)||b8 (rt z.im)
def txt (z:CQ):ByteArray:=⟨(bE (ct z)).toArray⟩
def fz (s:ByteArray):Option CQ:=(gV s.data.toList).map fun z=>⟨toQ z.x,toQ z.y⟩
def dY (z:CQ):ByteArray×Int:=if dE z=true then (⟨#[]⟩,11) else (txt z,0)
theorem jl {s:ByteArray}{l:List UInt8} (h:s.data.toList=l):s=⟨l.toArray⟩:=by
 obtain⟨⟨d⟩⟩:=s;simp only at h;rw[h]
theorem nK {r:Rt} (hb:b8 r=false) (hp:0<r.d):Sz 2000 r:=by
 obtain⟨h1,h2⟩:=lw hb;refine⟨?_,hp,?_⟩
 ·exact J_ fun h=>by have:=iy h;omega
 ·exact J_ fun h=>by have:=iy h;omega
theorem jr {s:ByteArray}{z:Vl} (h:gV s.data.toList=some z):∃ q,z=ct q/\fz s=some q/\SzV 2000 (ct q)/\dE q=false/\txt q=s:=by
 have h':=h;unfold gV at h
 split at h
 ·cases h
 ·split at h
  ·rename_i p q hp hq
   split at h
   ·rename_i hc
    injection h with h
    subst h;have e1:=mj (fU hp);have e2:=mj (fU hq);have e:(⟨p,q⟩:Vl)=ct ⟨toQ p,toQ q⟩:=by unfold ct;rw[e1,e2]
    refine⟨⟨toQ p,toQ q⟩,e,by unfold fz;rw[h'];rfl,?_,?_,?_⟩
    ·rw[<-e];exact⟨nK hc.2.1 (fU hp).pos,nK hc.2.2 (fU hq).pos⟩
    ·unfold dE;simp only;rw[e1,e2,hc.2.1,hc.2.2];rfl
    ·unfold txt;rw[<-e,hc.1]
   ·cases h
  ·cases h
theorem gK {s:ByteArray} (h:gV s.data.toList=none):fz s=none:=by unfold fz;rw[h];rfl
theorem ql {q:Rat} (h:dE (CQ.real q)=false):fz (txt (CQ.real q))=some (CQ.real q):=by
 have h1:b8 (rt q)=false:=by unfold dE CQ.real at h;simp only[If] at h;exact h.1
 have e:bE (ct (CQ.real q))=aJ (rt q):=cz (z:=ct (CQ.real q)) (by show (rt 0).n=0;rw[dU]);unfold fz txt;simp only[JW];rw[e,ts (jm q) h1];simp only[JU,wK];congr 1
theorem gT {s:ByteArray}{z:CQ} (h:fz s=some z):dE z=false/\txt z=s/\SzV 2000 (ct z):=by
 cases hg:gV s.data.toList with
 | none=>rw[gK hg] at h;cases h
 | some y =>
  obtain⟨q,-,h1,h2,h3,h4⟩:=jr hg;rw[h1] at h
  injection h with h
  subst h;exact⟨h3,h4,h2⟩
def dq (φ:CQ->CQ->CQ×Int) (s t:ByteArray):ByteArray×Int :=
 match fz s,fz t with
 | some a,some b=>if (φ a b).2=0 then dY (φ a b).1 else (⟨#[]⟩,(φ a b).2)
 | _,_=>(⟨#[]⟩,10)
def gl (f:CQ->CQ->CQ) (a b:CQ):CQ×Int:=(f a b,0)
def pP (a b:CQ):CQ×Int:=if b=⟨0,0⟩ then (⟨0,0⟩,12) else (a.div b,0)
def jk (s t:ByteArray):ByteArray:=(dq (gl CQ.add) s t).1
def jC (s t:ByteArray):ByteArray:=(dq (gl CQ.sub) s t).1
def ek (s t:ByteArray):ByteArray:=(dq (gl CQ.mul) s t).1
def cX (s t:ByteArray):ByteArray:=(dq pP s t).1
open Go.RowKit Dg
theorem Dn (va:Value) (u:Vl) (w:World) (ha:IsV w va u) :
  Calls Tryz.prog 152 #[va] w fun e w'=>e=.returned (.bool (decide (u.x.n=0/\u.y.n=0)))/\Below w.heap.size w w':=by
 obtain⟨a,b,c,d,e,f,rfl,hx,hy⟩:=ha;have hb0:=au w (.cells #[a,b,c,d,e,f] 110);have HB:=GF hb0;have H1:=GF (ic _ _ _ (hx.below hb0));have H2:=GF (fun wx (hw:Below (w.alloc (.cells #[a,b,c,d,e,f] 110)).heap.size (w.alloc (.cells #[a,b,c,d,e,f] 110)) wx)=>ic _ _ _ ((hy.below hb0).below hw));have q1:=cE.new w a b c d e f 110;clear hb0;go_enter Tryz.func152,Tryz.ntmps152;go_upto_region 1 with fail
 generalize w.alloc (.cells #[a,b,c,d,e,f] 110)=w1 at *
 have a0:=q1.c0;have a1:=q1.c1;have a2:=q1.c2;have a3:=q1.c3;have a4:=q1.c4;have a5:=q1.c5;by_cases h:u.x.n=0
 ·rw[decide_eq_true h] at H1;go_wp2_with fail
  refine H1.out.mono ?_;rintro e w2 ⟨rfl,hb2⟩;have q2:=q1.below hb2;have c0:=q2.c0;have c1:=q2.c1;have c2:=q2.c2;have c3:=q2.c3;have c4:=q2.c4;have c5:=q2.c5;clear a0 a1 a2 a3 a4 a5;go_wp2_with fail
  refine (H2.out w2 hb2).mono ?_;rintro e w3 ⟨rfl,hb3⟩;go_wp2;go_ret;exact⟨by simp[h],HB.out.trans ((hb2.trans (hb3.mono hb2.size)).mono HB.out.size)⟩
 ·rw[decide_eq_false h] at H1;go_wp2_with fail
  refine H1.out.mono ?_;rintro e w2 ⟨rfl,hb2⟩;go_wp2;go_ret;exact⟨by simp[h],HB.out.trans (hb2.mono HB.out.size)⟩
theorem Cl (va:Value) (z:CQ) (w:World) (ha:IsV w va (ct z)) (hG:Gw w) :
  Calls Tryz.prog 61 #[va] w fun e w'=>e=.returned (.tuple #[.string (dY z).1,.int .i64 (dY z).2])/\Below w.heap.size w w':=by
 have ha0:=ha;obtain⟨a,b,c,d,e,f,rfl,hx,hy⟩:=ha;have hb0:=au w (.cells #[a,b,c,d,e,f] 110);have HB:=GF hb0;have H1:=GF (rj _ _ _ (hx.below hb0) (hG.below hb0));have H2:=GF (fun wx (hw:Below (w.alloc (.cells #[a,b,c,d,e,f] 110)).heap.size (w.alloc (.cells #[a,b,c,d,e,f] 110)) wx)=>rj _ _ _ ((hy.below hb0).below hw) ((hG.below hb0).below hw));have H3:=GF (fun wx (hw:Below (w.alloc (.cells #[a,b,c,d,e,f] 110)).heap.size (w.alloc (.cells #[a,b,c,d,e,f] 110)) wx)=>qY _ _ _ ((ha0.below hb0).below hw) (dz _) (dz _) ((hG.below hb0).below hw));have q1:=cE.new w a b c d e f 110;clear hb0 ha0 hx hy;go_enter Tryz.func61,Tryz.ntmps61;go_upto_region 1 with fail
 generalize w.alloc (.cells #[a,b,c,d,e,f] 110)=w1 at *
 have a0:=q1.c0;have a1:=q1.c1;have a2:=q1.c2;have a3:=q1.c3;have a4:=q1.c4;have a5:=q1.c5;by_cases h:b8 (rt z.re)=true
 ·rw[show b8 (ct z).x=true from h] at H1;go_wp2_with fail
  refine H1.out.mono ?_;rintro e w2 ⟨rfl,hb2⟩;have hp:dY z=(⟨#[]⟩,11):=by unfold dY dE;rw[h];rfl
  go_wp2;refine Kh (v:=.tuple #[.string ⟨#[]⟩,.int .i64 11]) (by simp[results,Tryz.results61,go_sem]) rfl ⟨by rw[hp],HB.out.trans (hb2.mono HB.out.size)⟩
 ·rw[show b8 (ct z).x=false from Hx.2 h] at H1;go_wp2_with fail
  refine H1.out.mono ?_;rintro e w2 ⟨rfl,hb2⟩;have q2:=q1.below hb2;have c0:=q2.c0;have c1:=q2.c1;have c2:=q2.c2;have c3:=q2.c3;have c4:=q2.c4;have c5:=q2.c5;clear a0 a1 a2 a3 a4 a5;have H2:=GF (H2.out w2 hb2);by_cases h2:b8 (rt z.im)=true
  ·rw[show b8 (ct z).y=true from h2] at H2;go_wp2_with fail
   refine H2.out.mono ?_;rintro e w3 ⟨rfl,hb3⟩;have hp:dY z=(⟨#[]⟩,11):=by unfold dY dE;rw[h2];simp
   go_wp2;refine Kh (v:=.tuple #[.string ⟨#[]⟩,.int .i64 11]) (by simp[results,Tryz.results61,go_sem]) rfl ⟨by rw[hp],HB.out.trans ((hb2.trans (hb3.mono hb2.size)).mono HB.out.size)⟩
  ·rw[show b8 (ct z).y=false from Hx.2 h2] at H2;go_wp2_with fail
   refine H2.out.mono ?_;rintro e w3 ⟨rfl,hb3⟩;have hB3:=hb2.trans (hb3.mono hb2.size);have q3:=q1.below hB3;have d0:=q3.c0;have d1:=q3.c1;have d2:=q3.c2;have d3:=q3.c3;have d4:=q3.c4;have d5:=q3.c5;clear c0 c1 c2 c3 c4 c5;have hp:dY z=(txt z,0):=by unfold dY dE;rw[if_neg (by simpa using ⟨by simpa using h,by simpa using h2⟩)]
   have HP:=GF hp;clear hp;go_wp2_with fail
   refine (H3.out w3 hB3).mono ?_;rintro e w4 ⟨t,rfl,ht,-,hb4⟩;go_wp2;refine Kh (v:=.tuple #[.string t,.int .i64 0]) (by simp[results,Tryz.results61,go_sem]) rfl ⟨?_,HB.out.trans ((hB3.trans (hb4.mono hB3.size)).mono HB.out.size)⟩;rw[HP.out];have:t=txt z:=jl ht.out;rw[this]
theorem eU {a b c a' b' c':Value} (h:Value.agg #[a,b,c]=.agg #[a',b',c']):a=a'/\b=b'/\c=c':=by simpa using h
structure E6 (F:FuncId) (cap:Array Value) (φ:CQ->CQ->CQ×Int) (w:World):Prop where
 en:∀ (args:Array Value) (w:World),(callFunc F args).run Tryz.prog w=.ok (.enter F args) w
 on:∀ (x y:Value) (a b:CQ) (w':World),Below w.heap.size w w'->IsK w' x a->IsK w' y b->Calls Tryz.prog F (#[x,y]++cap) w' fun e w''=>∃ v z,e=.returned (.tuple #[v,.int .i64 (φ a b).2])/\IsV w'' v z/\((φ a b).2=0->z=ct (φ a b).1)/\Below w'.heap.size w' w''
theorem xf (F:FuncId) (cap:Array Value) (φ:CQ->CQ->CQ×Int) (s t:ByteArray) (w:World) (hG:Gw w) (hF:E6 F cap φ w) :
  Calls Tryz.prog 150 #[.string s,.string t,.func (.func F) #[] cap] w fun e w'=>e=.returned (.tuple #[.string (dq φ s t).1,.int .i64 (dq φ s t).2])/\Below w.heap.size w w':=by
 have HF:=GF hF;have EN:=hF.en;clear hF;go_enter Tryz.func150,Tryz.ntmps150;go_wp2_with fail
 refine (kx s w hG).mono ?_;rintro e w1 ⟨v,ok,rfl,hcase,hb1⟩;rcases hcase with ⟨z,hz,rfl,hv⟩ | ⟨hz,rfl,rfl⟩
 ·obtain⟨p,rfl,hp1,hp2,-,-⟩:=jr hz;have HP1:=GF hp1;clear hz hp1;obtain⟨_,_,_,_,_,_,rfl,hx0,hy0⟩:=id hv;obtain⟨xm,xp,xl,xc,xq,xk,xd,hxe⟩:=hx0.form;obtain⟨ym,yp,yl,yc,yq,yk,yd,hye⟩:=hy0.form;obtain⟨rfl,rfl,rfl⟩:=eU hxe;obtain⟨rfl,rfl,rfl⟩:=eU hye;clear hxe hye hx0 hy0;go_upto_region 2 with fail
  have q1:=cE.new w1 (.bool xm) (.slice xp xl xc) (.slice xq xk xd) (.bool ym) (.slice yp yl yc) (.slice yq yk yd) 110;have m1:=au w1 (.cells #[.bool xm,.slice xp xl xc,.slice xq xk xd,.bool ym,.slice yp yl yc,.slice yq yk yd] 110);generalize w1.alloc (.cells #[.bool xm,.slice xp xl xc,.slice xq xk xd,.bool ym,.slice yp yl yc,.slice yq yk yd] 110)=w2 at *
  have B1:=GF q1;have HV:=GF (hv.below m1);have hb2:=hb1.trans (m1.mono hb1.size);clear q1 hv m1;go_wp2_with fail
  refine (kx t w2 (hG.below hb2)).mono ?_;rintro e w3 ⟨v2,ok2,rfl,hcase,hb3⟩;have hB3:=hb2.trans (hb3.mono hb2.size);rcases hcase with ⟨z2,hz2,rfl,hv2⟩ | ⟨hz2,rfl,rfl⟩
  ·obtain⟨q,rfl,hr1,hr2,-,-⟩:=jr hz2;have HP2:=GF hr1;clear hz2 hr1;obtain⟨_,_,_,_,_,_,rfl,hx0,hy0⟩:=id hv2;obtain⟨xm',xp',xl',xc',xq',xk',xd',hxe⟩:=hx0.form;obtain⟨ym',yp',yl',yc',yq',yk',yd',hye⟩:=hy0.form;obtain⟨rfl,rfl,rfl⟩:=eU hxe;obtain⟨rfl,rfl,rfl⟩:=eU hye;clear hxe hye hx0 hy0;go_upto_region 5 with fail
   have q2:=cE.new w3 (.bool xm') (.slice xp' xl' xc') (.slice xq' xk' xd') (.bool ym') (.slice yp' yl' yc') (.slice yq' yk' yd') 110;have m2:=au w3 (.cells #[.bool xm',.slice xp' xl' xc',.slice xq' xk' xd',.bool ym',.slice yp' yl' yc',.slice yq' yk' yd'] 110);generalize w3.alloc (.cells #[.bool xm',.slice xp' xl' xc',.slice xq' xk' xd',.bool ym',.slice yp' yl' yc',.slice yq' yk' yd'] 110)=w4 at *
   have hb4:=hb3.trans (m2.mono hb3.size);have hB4:=hb2.trans (hb4.mono hb2.size);have q1:=B1.out.below hb4;have HC:=GF (HF.out.on _ _ p q w4 hB4 ⟨HV.out.below hb4,hp2.mono (by decide)⟩ ⟨hv2.below m2,hr2.mono (by decide)⟩);have a0:=q1.c0;have a1:=q1.c1;have a2:=q1.c2;have a3:=q1.c3;have a4:=q1.c4;have a5:=q1.c5;have b0:=q2.c0;have b1:=q2.c1;have b2:=q2.c2;have b3:=q2.c3;have b4:=q2.c4;have b5:=q2.c5;have HB4:=GF hB4;clear q1 q2 m2 hv2 hb3 hb4 hB4 hB3 hb2 HF;go_wp2_with fail
   refine HC.out.mono ?_;rintro e w5 ⟨v3,z3,rfl,hv3,hz3,hb5⟩;obtain⟨err,herr⟩:∃ n,n=(φ p q).2:=⟨_,rfl⟩;rw[<-herr];have hB5:=HB4.out.trans (hb5.mono HB4.out.size);obtain⟨_,_,_,_,_,_,rfl,hx0,hy0⟩:=id hv3;obtain⟨um,up,ul,uc,uq,uk,ud,hxe⟩:=hx0.form;obtain⟨vm,vp,vl,vc,vq,vk,vd,hye⟩:=hy0.form;obtain⟨rfl,rfl,rfl⟩:=eU hxe;obtain⟨rfl,rfl,rfl⟩:=eU hye;clear hxe hye hx0 hy0 a0 a1 a2 a3 a4 a5 b0 b1 b2 b3 b4 b5 HC HV B1 HB4;by_cases he:err=0
   ·have hbc:dq φ s t=dY (φ p q).1:=by unfold dq;rw[HP1.out,HP2.out];simp only;rw[if_pos (by rw[<-herr];exact he)]
    have hz4:=hz3 (by rw[<-herr];exact he);have HE:=GF hbc;rw[hz4] at hv3;clear hbc hz3 herr hz4;subst he;go_upto_region 8 with fail
    have q3:=cE.new w5 (.bool um) (.slice up ul uc) (.slice uq uk ud) (.bool vm) (.slice vp vl vc) (.slice vq vk vd) 110;have m3:=au w5 (.cells #[.bool um,.slice up ul uc,.slice uq uk ud,.bool vm,.slice vp vl vc,.slice vq vk vd] 110);generalize w5.alloc (.cells #[.bool um,.slice up ul uc,.slice uq uk ud,.bool vm,.slice vp vl vc,.slice vq vk vd] 110)=w6 at *
    have a0:=q3.c0;have a1:=q3.c1;have a2:=q3.c2;have a3:=q3.c3;have a4:=q3.c4;have a5:=q3.c5;have HB6:=GF (hB5.trans (m3.mono hB5.size));have HG:=GF (hG.below HB6.out);have HV:=GF (hv3.below m3);clear q3 m3 hv3 hB5 hb5;go_wp2_with fail
    refine (Cl _ _ _ HV.out HG.out).mono ?_;rintro e w7 ⟨rfl,hb7⟩;go_wp2;refine Kh (v:=.tuple #[.string (dY (φ p q).1).1,.int .i64 (dY (φ p q).1).2]) (by simp[results,Tryz.results150,go_sem]) rfl ⟨by rw[HE.out],HB6.out.trans (hb7.mono HB6.out.size)⟩
   ·have hbc:dq φ s t=(⟨#[]⟩,err):=by unfold dq;rw[HP1.out,HP2.out];simp only;rw[if_neg (by rw[<-herr];exact he),herr]
    have HE:=GF hbc;have hne:(!(err == 0))=true:=by simpa using he
    clear hbc hz3 herr;go_wp2;refine Kh (v:=.tuple #[.string ⟨#[]⟩,.int .i64 err]) (by simp[results,Tryz.results150,go_sem]) rfl ⟨by rw[HE.out],hB5.trans ((au w5 _).mono hB5.size)⟩
  ·have e:dq φ s t=(⟨#[]⟩,10):=by unfold dq;rw[gK hz2,HP1.out]
   have HE:=GF e;clear e hz2;unfold iA;go_wp2;refine Kh (v:=.tuple #[.string ⟨#[]⟩,.int .i64 10]) (by simp[results,Tryz.results150,go_sem]) rfl ⟨by rw[HE.out],hB3.trans ((au w3 _).mono hB3.size)⟩
 ·have e:dq φ s t=(⟨#[]⟩,10):=by unfold dq;rw[gK hz]
  have HE:=GF e;clear e hz;unfold iA;go_wp2;refine Kh (v:=.tuple #[.string ⟨#[]⟩,.int .i64 10]) (by simp[results,Tryz.results150,go_sem]) rfl ⟨by rw[HE.out],hb1.trans ((au w1 _).mono hb1.size)⟩
def bV (w:World) (v:Value) (r:Rt):Prop:=∃ vn vd,v=.agg #[.bool r.minus,vn,.bool false,vd]/\IsD w vn r.n/\IsD w vd r.d
theorem bV.below {w w':World}{v:Value}{r:Rt} (h:bV w v r) (hb:Below w.heap.size w w'):bV w' v r:=by
 obtain⟨vn,vd,e,h1,h2⟩:=h;exact⟨vn,vd,e,h1.below hb,h2.below hb⟩
theorem bV.puts {w w':World}{b:Nat}{t t0:TypeId}{us cs:Array Value}{v:Value}{r:Rt} (hv:bV w v r) (h:kJ w w' b t us) (hr:w.heap[b]?=some (.cells cs t0 (0,0))) (hn:∀ (j:Nat) (z:Int),cs[j]?≠some (Value.int .i64 z)):bV w' v r:=by
 obtain⟨vn,vd,e,h1,h2⟩:=hv;exact⟨vn,vd,e,h.isI hr hn h1,h.isI hr hn h2⟩
theorem bV.parts {w:World}{v:Value}{r:Rt} (h:bV w v r):∃ p N c p' N' c',v=.agg #[.bool r.minus,.slice p N c,.bool false,.slice p' N' c']/\Hid (N=(av RR r.n).length)/\N<=c/\c<=maxLen/\Hid (N'=(av RR r.d).length)/\N'<=c'/\c'<=maxLen/\IsD w (.slice p N c) r.n/\IsD w (.slice p' N' c') r.d:=by
 obtain⟨vn,vd,rfl,h1,h2⟩:=h;obtain⟨p,N,c,rfl,a,b,d⟩:=h1.parts;obtain⟨p',N',c',rfl,a',b',d'⟩:=h2.parts;exact⟨p,N,c,p',N',c',rfl,a,b,d,a',b',d',h1,h2⟩
theorem vL {w:World}{p:Option Addr}{N c n:Nat}{m:Bool} (h:IsD w (.slice p N c) n) (hm:m=true->n≠0):IsZ w (.agg #[.bool m,.slice p N c]) (sgn m n):=by
 refine⟨_,?_,by rw[iu];exact h⟩;rw[sh]
 cases m
 ·rfl
 ·have:=hm rfl;rw[decide_eq_true (by omega:0<n)];rfl
theorem js {w:World}{p:Option Addr}{N c n:Nat} (h:IsD w (.slice p N c) n):IsZ w (.agg #[.bool false,.slice p N c]) (n:Int):=vL (m:=false) h (fun h=>by cases h)
theorem IsZ.nat {w:World}{v:Value}{n:Nat} (h:IsZ w v (n:Int)):∃ p N c,v=.agg #[.bool false,.slice p N c]/\Hid (N=(av RR n).length)/\N<=c/\c<=maxLen/\IsD w (.slice p N c) n:=by
 obtain⟨p,N,c,rfl,h1,h2,h3,h4⟩:=h.parts;rw[Hs] at h1 h4;exact⟨p,N,c,by rw[show decide ((n:Int)<0)=false by simp],h1,h2,h3,h4⟩
theorem Ee (va vb:Value) (n d:Nat) (w:World) (ha:IsZ w va (n:Int)) (hb:IsZ w vb (d:Int)) (hd0:0<d) (hfn:bC n) (hfd:bC d) :
  Calls Tryz.prog 144 #[va,vb] w fun e w'=>∃ v,e=.returned v/\bV w' v (dF false n d)/\Below w.heap.size w w':=by
 obtain⟨p,N,c,rfl,hN,hNc,hcm,hd⟩:=ha.nat;obtain⟨p',N',c',rfl,hN',hNc',hcm',hd'⟩:=hb.nat;have hl:=j1 w (.cells #[.bool false,.slice p N c] 85) (.cells #[.bool false,.slice p' N' c'] 85) (.cells #[.bool false,.slice none 0 0,.bool false,.slice none 0 0] 87);have hgp:0<Nat.gcd n d:=Is _ hd0;have HFG:Hid (bC (Nat.gcd n d)):=hfd.mono (Jp hd0 (J5 ..));have HFN:=GF hfn;have HFD:=GF hfd
 have HR:Hid (dF false n d=⟨false,n / Nat.gcd n d,d / Nat.gcd n d⟩):=by
  unfold Hid dF
  split
  ·rename_i h;subst h;rw[I1,Nat.zero_div,Nat.div_self hd0]
  ·rfl
 have x0:=ai hl.s0 0;have x1:=ai hl.s0 1;have y0:=ai hl.s1 0;have y1:=ai hl.s1 1;have HD:=GF (hd.below hl.below);have HD':=GF (hd'.below hl.below);clear ha hb hd hd' hfn hfd;go_enter Tryz.func144,Tryz.ntmps144;go_upto_region 1 with fail
 generalize ((w.alloc (.cells #[.bool false,.slice p N c] 85)).alloc (.cells #[.bool false,.slice p' N' c'] 85)).alloc (.cells #[.bool false,.slice none 0 0,.bool false,.slice none 0 0] 87)=w1 at *
 go_wp2_with fail
 refine (pF _ _ n d w1 (js HD.out) (js HD'.out) HFN.out HFD.out).mono ?_;rintro e w2 ⟨v2,rfl,hz2,hb2⟩;rw[Hs,Hs] at hz2;obtain⟨p2,N2,c2,rfl,hN2,hNc2,hcm2,hd2⟩:=hz2.nat;have hl2:=bA w2 (.cells #[.bool false,.slice p2 N2 c2] 85);have hb3:=hb2.trans (hl2.below.mono hb2.size);have HB3:=hl.below.trans (hb3.mono hl.below.size);have r0:=(hb3.block _ (ak hl.s0)).trans hl.s0;have r1:=(hb3.block _ (ak hl.s1)).trans hl.s1;have r2:=(hb3.block _ (ak hl.s2)).trans hl.s2;have r3:=hl2.s0;have hsz:=hl2.size;have HG:=GF (hd2.below hl2.below);have HD3:=GF (HD.out.below hb3);have HE3:=GF (HD'.out.below hb3);clear hl hl2 hb2 hb3 hz2 hd2 x0 x1 y0 y1 HD HD';have a0:=ai r0 1;have a1:=ai r3 1;go_upto_region 4 with fail
 generalize w2.alloc (.cells #[.bool false,.slice p2 N2 c2] 85)=w3 at *
 go_wp2_with fail
 refine (eV _ _ n (Nat.gcd n d) w3 HD3.out HG.out hgp HFN.out HFG.out).mono ?_;rintro e w4 ⟨v4,v4',rfl,hq,_,hb4⟩;have hlt3:w2.heap.size<w3.heap.size:=by omega
 have s1:=(hb4.block _ (ak r1)).trans r1;have s2:=(hb4.block _ (ak r2)).trans r2;have s3:=(hb4.block _ (ak r3)).trans r3;have s0:=(hb4.block _ (ak r0)).trans r0;have HG4:=GF (HG.out.below hb4);have HE4:=GF (HE3.out.below hb4);have HQ4:=GF hq;have HB4:=HB3.trans (hb4.mono HB3.size);clear r0 r1 r2 r3 a0 a1 HB3 hb4 HD3 HE3 HG hq;have a1:=ai s1 1;have a3:=ai s3 1;have a0:=ai s0 0;go_wp2_with fail
 refine (eV _ _ d (Nat.gcd n d) w4 HE4.out HG4.out hgp HFD.out HFG.out).mono ?_;rintro e w5 ⟨v5,v5',rfl,hq5,_,hb5⟩;have s0':=(hb5.block _ (ak s0)).trans s0;have s2':=(hb5.block _ (ak s2)).trans s2;have HQ5:=GF (HQ4.out.below hb5);have HP5:=GF hq5;have HB5:=HB4.trans (hb5.mono HB4.size);clear s0 s1 s2 s3 a0 a1 a3 HB4 hb5 HQ4 HG4 HE4 hq5;have a0:=ai s0' 0;go_wp2_with fail
 refine (dO _ _ _ w5 HQ5.out (aW _).1).mono ?_;rintro e w6 ⟨v6,rfl,hz6,hb6⟩;rw[aF aQ] at hz6;obtain⟨p6,N6,c6,rfl,hN6,hNc6,hcm6,hd6⟩:=hz6.nat;have HP6:=GF (HP5.out.below hb6);have t2:=(hb6.block _ (ak s2')).trans s2';have HB6:=HB5.trans (hb6.mono HB5.size);have HD6:=GF hd6;clear a0 s0' s2' HP5 HQ5 HB5 hb6 hz6 hd6;go_wp2_with fail
 refine (dO _ _ _ w6 HP6.out (aW _).1).mono ?_;rintro e w7 ⟨v7,rfl,hz7,hb7⟩;rw[aF aQ] at hz7;obtain⟨p7,N7,c7,rfl,hN7,hNc7,hcm7,hd7⟩:=hz7.nat;have u2:=(hb7.block _ (ak t2)).trans t2;have HB7:=HB6.trans (hb7.mono HB6.size);have hP:=bj (u0:=.bool false) (u1:=.slice p6 N6 c6) (u2:=.bool false) (u3:=.slice p7 N7 c7) u2
 have hZ:Hid (bV (d7 w7 (w.heap.size+1+1) (.bool false) (.slice p6 N6 c6) (.bool false) (.slice p7 N7 c7)) (.agg #[.bool false,.slice p6 N6 c6,.bool false,.slice p7 N7 c7]) (dF false n d)):=by
  rw[HR.out];exact⟨_,_,rfl,hP.isI u2 bU (HD6.out.below hb7),hP.isI u2 bU hd7⟩
 have hB:=HB7.trans (hP.below w.heap.size (by omega));have q0:=ai u2 0;have q1:=ai u2 1;have q2:=ai u2 2;have q3:=ai u2 3;have f0:=Kg w7 (w.heap.size+1+1) 0 _ _ u2;have f1:=Kg w7 (w.heap.size+1+1) 1 _ _ u2;have f2:=Kg w7 (w.heap.size+1+1) 2 _ _ u2;have f3:=Kg w7 (w.heap.size+1+1) 3 _ _ u2;clear t2 HP6 HB6 hb7 hz7 hd7 HD6;go_wp2_with fail
 (try simp only[Exit.inBlock,Exit.then])
 change bodyPost _ _ _ _ _ (d7 w7 (w.heap.size+1+1) (.bool false) (.slice p6 N6 c6) (.bool false) (.slice p7 N7 c7));refine Kh (results_cell_row rfl _ _ (w.heap.size+1+1) _ _ (0,0) _ rfl hP.row Tryz.underlying87 rfl (by kernel_rfl)) rfl ?_;exact⟨_,rfl,hZ.out,hB⟩
end Go.Proofs.YtmakbmhlemhgeaaGreatDoor
