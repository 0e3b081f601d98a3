/- L -/
import Derived.Lib.SplitLaws
import Derived.Lib.SmallJoins
import Derived.Test.YtlhpcoelfhjomaaGreatDoorQGet
import Derived.Test.YtlhpcoelfhjomaaGreatDoorQLex
import Derived.Test.YtlhpcoelfhjomaaGreatDoorQRMul
set_option linter.all false
set_option maxRecDepth 100000
set_option maxHeartbeats 8000000
namespace Go.Proofs.YtlhpcoelfhjomaaGreatDoor
open Go.RowKit Dc Dg
structure Gx (w:World):Prop where
 g:Gw w
 e0:∃ tp p,w.cell? ⟨0,0,none⟩=some (.iface tp p)
 e1:∃ tp p,w.cell? ⟨1,0,none⟩=some (.iface tp p)
theorem Gx.below {w w':World} (h:Gx w) (hb:Below w.heap.size w w'):Gx w':=by
 refine⟨h.g.below hb,?_,?_⟩
 ·obtain⟨tp,p,e⟩:=h.e0;exact⟨tp,p,(hb.cell (Iz (by decide) h.g.sz)).trans e⟩
 ·obtain⟨tp,p,e⟩:=h.e1;exact⟨tp,p,(hb.cell (Iz (by decide) h.g.sz)).trans e⟩
def iT (s:List UInt8):Bool:=match ix s with | some z=>decide (z.y.n=0) | none=>false
theorem zQ (s:ByteArray) (w:World) (hG:Gw w) :
  Calls Tryz.prog 47 #[.string s] w fun e w'=>∃ b:Bool,e=.returned (.bool b)/\Hid (iT s.data.toList=b)/\Below w.heap.size w w':=by
 go_enter Tryz.func47,Tryz.ntmps47;go_wp2_with fail
 refine (kU s w hG).mono ?_;rintro e w1 ⟨v,ok,rfl,hcase,hb1⟩;rcases hcase with ⟨z,hz,rfl,hv⟩ | ⟨hz,rfl,rfl⟩
 ·have HZ:=Ip hz;have HB1:=Ip hb1;clear hz;have hv':=hv;obtain⟨a,b,c,d,e,f,rfl,hx,hy⟩:=hv';obtain⟨xn,xd,ex,hxn,hxd,_,_⟩:=hx;obtain⟨yn,yd,ey,hyn,hyd,_,_⟩:=hy;simp only[Value.agg.injEq,Array.mk.injEq,List.cons.injEq,and_true] at ex ey;obtain⟨rfl,rfl,rfl⟩:=ex;obtain⟨rfl,rfl,rfl⟩:=ey;obtain⟨p1,c1,rfl,_,_,_⟩:=hxn;obtain⟨p2,c2,rfl,_,_,_⟩:=hxd;obtain⟨p3,c3,rfl,_,_,_⟩:=hyn;obtain⟨p4,c4,rfl,_,_,_⟩:=hyd;have hb2:Below w1.heap.size w1 (w1.alloc (.cells #[.bool z.x.minus,.slice p1 (aq BB z.x.n).length c1,.slice p2 (aq BB z.x.d).length c2,.bool z.y.minus,.slice p3 (aq BB z.y.n).length c3,.slice p4 (aq BB z.y.d).length c4] 93)):=(LN _ _).alloc (Iw _) _;have HV:=Ip (hv.below hb2);have HB2:=Ip (LK hb1 hb2);clear hv hb1 hb2;go_wp2_with fail
  refine (fj _ z _ (by exact HV.out)).mono ?_;rintro e w3 ⟨rfl,hb3⟩;go_wp2;go_ret;exact⟨_,rfl,by unfold Hid iT;rw[HZ.out],LK HB2.out hb3⟩
 ·have HZ:=Ip hz;clear hz;unfold iX;go_wp2;go_ret;exact⟨_,rfl,by unfold Hid iT;rw[HZ.out],hb1.trans (((LN _ _).alloc (Iw _) _).mono hb1.size)⟩
def jj (s:List UInt8):Bool:=match Lib.atoiAll s with | .ok v=>decide (v<=4096) | _=>false
theorem Hx (s:ByteArray) (w:World) (hs:s.size<1000000) (hG:Gx w) :
  Calls Tryz.prog 91 #[.string s] w fun e w'=>∃ (v:Int) (ev:Value),e=.returned (.tuple #[.int .i64 v,ev]) /\
   ((∃ a b,ev=.iface a b/\Hid (jj s.data.toList=false))\/(ev=.nilIface/\Hid (jj s.data.toList=decide (v<=4096))))/\Below w.heap.size w w':=by
 rcases h:Lib.atoiAll s.data.toList with v | _ | _
 ·refine (Tryz.strconv_Atoi_ok s (by omega) v h w).mono ?_;rintro e w' ⟨rfl,hw⟩;refine⟨_,_,rfl,Or.inr ⟨rfl,by unfold Hid jj;rw[h]⟩,?_⟩;rcases hw with rfl | ⟨t,rfl⟩
  ·exact LN _ _
  ·exact Joins.below_bytesWorld _ _ _ _ (Iw _)
 ·obtain⟨tp,p,hv⟩:=hG.e0;refine (Any.strconv_Atoi_syntax Tryz.laysC172 s (by omega) h _ w hv (Or.inr ⟨_,_,rfl⟩)).mono ?_;rintro e w' ⟨N,rfl,_,_,hb⟩;exact⟨_,_,rfl,Or.inl ⟨_,_,rfl,by unfold Hid jj;rw[h]⟩,hb⟩
 ·obtain⟨tp,p,hv⟩:=hG.e1;refine (Tryz.strconv_Atoi_range s (by omega) h _ w hv (Or.inr ⟨_,_,rfl⟩)).mono ?_;rintro e w' ⟨N,rfl,_,_,hb⟩;exact⟨_,_,rfl,Or.inl ⟨_,_,rfl,by unfold Hid jj;rw[h]⟩,hb⟩
def fY (t:ByteArray):List ByteArray:=Lib.splitB ⟨#[47]⟩ 0 (Lib.countB t ⟨#[47]⟩) t
def iD (s:List UInt8):Bool:=(fY ⟨(Lib.trimPrefix s [45]).toArray⟩).all fun p=>jj p.data.toList
theorem w_ (sep:ByteArray):∀ (k:Nat) (s p:ByteArray),p∈Lib.splitB sep 0 k s->p.size<=s.size:=by
 intro k
 induction k with
 | zero=>intro s p h;simp[Lib.splitB] at h;subst h;exact Iw _
 | succ k ih =>
  intro s p h;unfold Lib.splitB at h
  split at h
  ·simp at h;subst h;exact Iw _
  ·rcases Jv.1 h with rfl | h
   ·rw[ByteArray.size_extract];omega
   ·have:=ih _ _ h;rw[ByteArray.size_extract] at this;omega
structure l3 (w:World) (k:Nat) (l:List ByteArray):Prop where
 lt:k<w.heap.size
 at_:∀ i (h:i<l.length),w.cell? ⟨k,i,none⟩=some (.string l[i])
theorem l3.below {w w':World}{k:Nat}{l:List ByteArray} (h:l3 w k l) (hb:Below w.heap.size w w'):l3 w' k l :=
 ⟨Iz h.lt hb.size,fun i hi=>(hb.cell (p:=⟨k,i,none⟩) h.lt).trans (h.at_ i hi)⟩
theorem Hj (t:ByteArray) (w:World) (hs:t.size<1000000) (hG:Gx w) :
  Calls Tryz.prog 89 #[.string t,.string ⟨#[47]⟩] w fun e w'=>∃ (k n:Nat),e=.returned (.slice (some ⟨k,0,none⟩) n n)/\n=(fY t).length/\0<n/\n<=1000000/\l3 w' k (fY t)/\Below w.heap.size w w':=by
 obtain⟨m,hm⟩:=hG.g.ml;refine (Tryz.strings_Split t ⟨#[47]⟩ m w (by omega) hm (by decide)).mono ?_;rintro e w' ⟨rfl,rfl⟩;have hl:(fY t).length=Lib.countB t ⟨#[47]⟩+1:=Lib.splitB_all _ (by decide) _ _ _ rfl;refine⟨_,_,rfl,hl.symm,by omega,?_,⟨by simp,fun i hi=>?_⟩,(LN _ _).alloc (Iw _) _⟩
 ·have:=Lib.countB_le ⟨#[47]⟩ (by decide) t.size t (Iw _);omega
 ·exact aI w _ 9 i _ (by rw[Le,J6];show Option.map Value.string (fY t)[i]?=_;rw[II hi];rfl)
theorem j9 {l:List ByteArray}{i:Nat} (h:i<l.length) (f:ByteArray->Bool):(l.take (i+1)).all f=((l.take i).all f&&f l[i]):=by
 have e:l.take (i+1)=l.take i++[l[i]]:=(IL h).symm;rw[e,JW];simp
theorem pj {l:List ByteArray}{i:Nat} (h:i<l.length) (f:ByteArray->Bool) (hf:f l[i]=false):l.all f=false:=by
 rw[Kp];exact⟨l[i],IS h,by rw[hf];exact J_⟩
theorem yV (s:ByteArray) (w:World) (hs:s.size<100000) (hG:Gx w) :
  Calls Tryz.prog 48 #[.string s] w fun e w'=>∃ b:Bool,e=.returned (.bool b)/\Hid (iD s.data.toList=b)/\Below w.heap.size w w':=by
 go_enter Tryz.func48,Tryz.ntmps48;go_wp2_with fail
 refine (xr _ _ w).mono ?_;rintro e w1 ⟨t,rfl,ht,hts,rfl⟩;go_wp2_with fail
 refine (Hj t w (by omega) hG).mono ?_;rintro e w1 ⟨k,n,rfl,hn,hn0,hn1,hW,hb1⟩;have HN:=Ip hn;have hG1:=hG.below hb1;clear hn hG;go_wp2_with fail
 go_loopw [11] (fun s11 wr=>∃ i:Nat,s11=.int .i64 i/\i<=n/\Gx wr/\l3 wr k (fY t)/\Below w.heap.size w wr/\Hid (((fY t).take i).all (fun p=>jj p.data.toList)=true)) (fun s11 _=>n-(intOf s11).toNat)
 case atStart=>exact⟨0,rfl,by omega,hG1,hW,hb1,rfl⟩
 case round =>
  clear hG1 hW hb1;obtain⟨i,rfl,hin,hGr,hWr,hbr,hall⟩:=hrel;by_cases hi:i<n
  ·have hil:i<(fY t).length:=by rw[<-HN.out];exact hi
   have hc:=hWr.at_ i hil;have hps:(fY t)[i].size<=t.size:=w_ _ _ _ _ (IS hil);obtain⟨p,hp⟩:∃ p,p=(fY t)[i]:=⟨_,rfl⟩;rw[<-hp] at hc hps;have HP:=Ip hp;clear hp;go_wp2_with fail
   refine (Hx p wr (by omega) hGr).mono ?_;rintro e w2 ⟨v,ev,rfl,hcase,hb2⟩;have hb3:=LK hbr hb2;have hG2:=hGr.below hb2;have hW2:=hWr.below hb2;clear hb2 hGr hWr hbr hc;rcases hcase with ⟨a,b,rfl,hpart⟩ | ⟨rfl,hpart⟩
   ·go_wp2;go_ret;exact⟨false,rfl,by unfold Hid iD;rw[<-ht.out];exact pj hil _ (by rw[<-HP.out];exact hpart.out),hb3⟩
   ·by_cases hv:(4096:Int)<v
    ·have hd:decide ((4096:Int)<v)=true:=by simp;omega
     have HV:=Ip hv;clear hv;go_wp2;go_ret;exact⟨false,rfl,by unfold Hid iD;rw[<-ht.out];exact pj hil _ (by rw[<-HP.out,hpart.out];simp;exact HV.out),hb3⟩
    ·have hd:decide ((4096:Int)<v)=false:=by simp;omega
     have HV:=Ip hv;clear hv;go_wp2;go_roundw;case rel=>exact⟨i+1,by go_num,by omega,hG2,hW2,hb3,by unfold Hid;rw[j9 hil,hall.out,<-HP.out,hpart.out];simp;have:=HV.out;omega⟩
     case measure=>simp[intOf];omega
  ·have hin':i=n:=by omega
   subst hin';clear hi;go_wp2;go_ret;exact⟨true,rfl,by have h:=hall.out;rw[HN.out,IZ] at h;unfold Hid iD;rw[<-ht.out];exact h,hbr⟩
def bU (s:List UInt8):Bool:=iT s&&iD s
theorem qO {s:List UInt8} (h:iT s=true):s.length<=8008:=by
 unfold iT ix at h;by_cases hl:8008<s.length
 ·rw[if_pos hl] at h;exact absurd h J_
 ·omega
theorem rY (s:ByteArray) (w:World) (hG:Gx w) :
  Calls Tryz.prog 12 #[.string s] w fun e w'=>∃ b:Bool,e=.returned (.bool b)/\Hid (bU s.data.toList=b)/\Below w.heap.size w w':=by
 go_enter Tryz.func12,Tryz.ntmps12;go_wp2_with fail
 refine (zQ s w hG.g).mono ?_;rintro e w1 ⟨b,rfl,hb,hb1⟩;have hG1:=hG.below hb1;clear hG
 cases b
 ·have HB:=Ip hb.out;clear hb;go_wp2;go_ret;exact⟨_,rfl,by unfold Hid bU;rw[HB.out];rfl,hb1⟩
 ·have HB:=Ip hb.out;have hsz:=qO hb.out;rw[bJ] at hsz;clear hb;go_wp2_with fail
  refine (yV s w1 (by omega) hG1).mono ?_;rintro e w2 ⟨b,rfl,hb,hb2⟩;go_wp2;go_ret;exact⟨b,rfl,by unfold Hid bU;rw[HB.out,hb.out];rfl,LK hb1 hb2⟩
structure gI (w:World) (p:Option Addr) (l:List ByteArray):Prop where
 at_:0<l.length->∃ b o,p=some ⟨b,o,none⟩/\b<w.heap.size/\∀ i (h:i<l.length),w.cell? ⟨b,o+i,none⟩=some (.string l[i])
theorem gI.below {w w':World}{p:Option Addr}{l:List ByteArray} (h:gI w p l) (hb:Below w.heap.size w w'):gI w' p l:=by
 refine⟨fun hl=>?_⟩;obtain⟨b,o,e,hlt,hc⟩:=h.at_ hl;exact⟨b,o,e,Iz hlt hb.size,fun i hi=>(hb.cell (p:=⟨b,o+i,none⟩) hlt).trans (hc i hi)⟩
def gQ (l:List ByteArray):Bool:=decide (1<=l.length)&&decide (l.length<=7)&&l.all fun s=>bU s.data.toList
def pU (l:List ByteArray):Option (List UInt8):=l.head?.map fun s=>s.data.toList
def aC (a b:List ByteArray):Bool:=gQ a&&gQ b&&decide (pU b=some [49])
theorem sB {l:List ByteArray} (h:l.length<1):gQ l=false:=by
 unfold gQ;rw[decide_eq_false (by omega)];rfl
theorem ql {l:List ByteArray} (h:7<l.length):gQ l=false:=by
 unfold gQ;rw[decide_eq_false (by omega:¬ l.length<=7),Bool.and_false];rfl
theorem sA {l:List ByteArray}{i:Nat} (h:i<l.length) (hf:bU l[i].data.toList=false):gQ l=false:=by
 unfold gQ;rw[pj h _ hf,Bool.and_false]
theorem qk {l:List ByteArray} (h1:1<=l.length) (h2:l.length<=7) (hf:(l.take l.length).all (fun s=>bU s.data.toList)=true):gQ l=true:=by
 rw[IZ] at hf;unfold gQ;rw[decide_eq_true h1,decide_eq_true h2,hf];rfl
theorem Bk {l:List ByteArray} (h:gQ l=true):0<l.length:=by
 unfold gQ at h;simp only[IR,decide_eq_true_eq] at h;omega
theorem tV {l:List ByteArray} (h:0<l.length):decide (pU l=some [49])=decide (l[0].data.toList=[49]):=by
 match l,h with
 | a :: r,_=>simp[pU]
theorem GG (p0 p1:Option Addr) (c0 c1:Nat) (l0 l1:List ByteArray) (w:World) (h0:gI w p0 l0) (h1:gI w p1 l1) (hG:Gx w) :
  Calls Tryz.prog 11 #[.agg #[.slice p0 l0.length c0,.slice p1 l1.length c1]] w fun e w'=>∃ n:Int,e=.returned (.int .i64 n)/\(n=0/\Hid (aC l0 l1=true)\/n=30/\Hid (aC l0 l1=false))/\Below w.heap.size w w':=by
 have hb0:Below w.heap.size w (w.alloc (.cells #[.slice p0 l0.length c0,.slice p1 l1.length c1] 24)):=(LN _ _).alloc (Iw _) _;have k0:=aI w #[.slice p0 l0.length c0,.slice p1 l1.length c1] 24 0 _ rfl;have k1:=aI w #[.slice p0 l0.length c0,.slice p1 l1.length c1] 24 1 _ rfl;have hlt:w.heap.size<(w.alloc (.cells #[.slice p0 l0.length c0,.slice p1 l1.length c1] 24)).heap.size:=by simp
 have W0:=h0.below hb0;have W1:=h1.below hb0;have G0:=hG.below hb0;clear h0 h1 hG;have i0:∀ w,(Instr.index 74 (.agg #[.slice p0 l0.length c0,.slice p1 l1.length c1]) (.int .i64 0)).run Tryz.prog w=.ok (.slice p0 l0.length c0) w:=fun _=>by kernel_rfl
 have i1:∀ w,(Instr.index 74 (.agg #[.slice p0 l0.length c0,.slice p1 l1.length c1]) (.int .i64 1)).run Tryz.prog w=.ok (.slice p1 l1.length c1) w:=fun _=>by kernel_rfl
 go_enter Tryz.func11,Tryz.ntmps11;go_wp2_with fail
 generalize w.alloc (.cells #[.slice p0 l0.length c0,.slice p1 l1.length c1] 24)=w0 at *
 go_loopw [12] (fun s12 wr=>∃ j:Nat,s12=.int .i64 j/\j<=2/\Gx wr/\gI wr p0 l0/\gI wr p1 l1/\Below w.heap.size w wr/\Below w0.heap.size w0 wr/\Hid ((1<=j->gQ l0=true)/\(2<=j->gQ l1=true))) (fun s12 _=>2-(intOf s12).toNat)
 case atStart=>exact⟨0,rfl,by omega,G0,W0,W1,hb0,LN _ _,fun h=>absurd h (by decide),fun h=>absurd h (by decide)⟩
 case round =>
  clear G0 W0 W1 hb0;obtain⟨j,rfl,hj,hGr,hW0,hW1,hbr,hbr0,hdone⟩:=hrel;rcases (by omega:j=0\/j=1\/j=2) with rfl | rfl | rfl
  ·by_cases hfew:l0.length<1
   ·have hd:decide (((l0.length:Nat):Int)<1)=true:=by simp;omega
    have HF:=Ip hfew;clear hfew;go_wp2;go_ret;exact⟨30,rfl,Or.inr ⟨rfl,by unfold Hid aC;rw[sB (l:=l0) HF.out];simp⟩,hbr⟩
   ·have hd:decide (((l0.length:Nat):Int)<1)=false:=by simp;omega
    have hpos:0<l0.length:=by omega
    clear hfew;by_cases hmany:7<l0.length
    ·have hd2:decide ((7:Int)<((l0.length:Nat):Int))=true:=by simp;omega
     have HF:=Ip hmany;clear hmany;go_wp2;go_ret;exact⟨30,rfl,Or.inr ⟨rfl,by unfold Hid aC;rw[ql (l:=l0) HF.out];simp⟩,hbr⟩
    ·have hd2:decide ((7:Int)<((l0.length:Nat):Int))=false:=by simp;omega
     have hle:l0.length<=7:=by omega
     clear hmany;go_wp2_with fail
     go_loopw [25] (fun s25 wq=>∃ i:Nat,s25=.int .i64 i/\i<=l0.length/\Gx wq/\gI wq p0 l0/\gI wq p1 l1/\Below w.heap.size w wq/\Below w0.heap.size w0 wq/\Hid ((l0.take i).all (fun s=>bU s.data.toList)=true)) (fun s25 _=>l0.length-(intOf s25).toNat)
     case atStart=>exact⟨0,rfl,by omega,hGr,hW0,hW1,hbr,hbr0,rfl⟩
     case round =>
      clear hGr hW0 hW1 hbr hbr0;obtain⟨i,rfl,hi,hGr,hW0,hW1,hbr,hbr0,hall⟩:=hrel;by_cases hil:i<l0.length
      ·obtain⟨b,o,rfl,hbw,hc⟩:=hW0.at_ hpos;have hci:=hc i hil;obtain⟨p,hp⟩:∃ p,p=l0[i]:=⟨_,rfl⟩;rw[<-hp] at hci;have HP:=Ip hp;clear hp hc;go_wp2_with fail
       refine (rY p _ hGr).mono ?_;rintro e w2 ⟨b2,rfl,hb2,hbl2⟩;have hb3:=LK hbr hbl2
       cases b2
       ·go_wp2;go_ret;exact⟨30,rfl,Or.inr ⟨rfl,by unfold Hid aC;rw[sA (l:=l0) hil (by rw[<-HP.out];exact hb2.out)];simp⟩,hb3⟩
       ·have hb4:=LK hbr0 hbl2;have hG2:=hGr.below hbl2;have hV0:=hW0.below hbl2;have hV1:=hW1.below hbl2;clear hGr hW0 hW1 hbr hbr0 hbl2 hci;go_wp2;go_roundw
        case rel =>
         (repeat apply Exists.intro)
         exact⟨⟨i+1,by go_num,by omega,hG2,hV0,hV1,hb3,hb4,by unfold Hid;rw[j9 hil,hall.out,<-HP.out,hb2.out];rfl⟩,rfl⟩
        case measure=>simp[intOf];omega
      ·have hie:i=l0.length:=by omega
       subst hie;have hgood:=qk (l:=l0) (by omega) (by omega) hall.out;have HGOOD:=Ip hgood;clear hil hi hgood;go_wp2;go_roundw;case rel=>exact⟨1,by go_num,by omega,hGr,hW0,hW1,hbr,hbr0,⟨fun _=>HGOOD.out,fun h=>absurd h (by decide)⟩⟩
       case measure=>simp[intOf]
  ·by_cases hfew:l1.length<1
   ·have hd:decide (((l1.length:Nat):Int)<1)=true:=by simp;omega
    have HF:=Ip hfew;clear hfew;go_wp2;go_ret;exact⟨30,rfl,Or.inr ⟨rfl,by unfold Hid aC;rw[sB (l:=l1) HF.out];simp⟩,hbr⟩
   ·have hd:decide (((l1.length:Nat):Int)<1)=false:=by simp;omega
    have hpos:0<l1.length:=by omega
    clear hfew;by_cases hmany:7<l1.length
    ·have hd2:decide ((7:Int)<((l1.length:Nat):Int))=true:=by simp;omega
     have HF:=Ip hmany;clear hmany;go_wp2;go_ret;exact⟨30,rfl,Or.inr ⟨rfl,by unfold Hid aC;rw[ql (l:=l1) HF.out];simp⟩,hbr⟩
    ·have hd2:decide ((7:Int)<((l1.length:Nat):Int))=false:=by simp;omega
     have hle:l1.length<=7:=by omega
     clear hmany;go_wp2_with fail
     go_loopw [25] (fun s25 wq=>∃ i:Nat,s25=.int .i64 i/\i<=l1.length/\Gx wq/\gI wq p0 l0/\gI wq p1 l1/\Below w.heap.size w wq/\Below w0.heap.size w0 wq/\Hid ((l1.take i).all (fun s=>bU s.data.toList)=true)) (fun s25 _=>l1.length-(intOf s25).toNat)
     case atStart=>exact⟨0,rfl,by omega,hGr,hW0,hW1,hbr,hbr0,rfl⟩
     case round =>
      clear hGr hW0 hW1 hbr hbr0;obtain⟨i,rfl,hi,hGr,hW0,hW1,hbr,hbr0,hall⟩:=hrel;by_cases hil:i<l1.length
      ·obtain⟨b,o,rfl,hbw,hc⟩:=hW1.at_ hpos;have hci:=hc i hil;obtain⟨p,hp⟩:∃ p,p=l1[i]:=⟨_,rfl⟩;rw[<-hp] at hci;have HP:=Ip hp;clear hp hc;go_wp2_with fail
       refine (rY p _ hGr).mono ?_;rintro e w2 ⟨b2,rfl,hb2,hbl2⟩;have hb3:=LK hbr hbl2
       cases b2
       ·go_wp2;go_ret;exact⟨30,rfl,Or.inr ⟨rfl,by unfold Hid aC;rw[sA (l:=l1) hil (by rw[<-HP.out];exact hb2.out)];simp⟩,hb3⟩
       ·have hb4:=LK hbr0 hbl2;have hG2:=hGr.below hbl2;have hV0:=hW0.below hbl2;have hV1:=hW1.below hbl2;clear hGr hW0 hW1 hbr hbr0 hbl2 hci;go_wp2;go_roundw
        case rel =>
         (repeat apply Exists.intro)
         exact⟨⟨i+1,by go_num,by omega,hG2,hV0,hV1,hb3,hb4,by unfold Hid;rw[j9 hil,hall.out,<-HP.out,hb2.out];rfl⟩,rfl⟩
        case measure=>simp[intOf];omega
      ·have hie:i=l1.length:=by omega
       subst hie;have hgood:=qk (l:=l1) (by omega) (by omega) hall.out;have HGOOD:=Ip hgood;clear hil hi hgood;go_wp2;go_roundw;case rel=>exact⟨2,by go_num,by omega,hGr,hW0,hW1,hbr,hbr0,⟨fun _=>hdone.out.1 (by decide),fun _=>HGOOD.out⟩⟩
       case measure=>simp[intOf]
  ·have g0:=hdone.out.1 (by decide);have g1:=hdone.out.2 (by decide);have hpos:=Bk g1;have H0:=Ip g0;have H1:=Ip g1;have k1':=(hbr0.cell (p:=⟨w.heap.size,1,none⟩) hlt).trans k1;obtain⟨b,o,rfl,hbw,hc⟩:=hW1.at_ hpos;have hci:wr.cell? ⟨b,o,none⟩=some (.string l1[0]):=hc 0 hpos;obtain⟨p,hp⟩:∃ p,p=l1[0]:=⟨_,rfl⟩;rw[<-hp] at hci;have HP:=Ip hp;have hposI:(0:Int)<((l1.length:Nat):Int):=by omega
   clear hp hc g0 g1 hdone k0 k1 i0 i1;by_cases heq:p.toList=[49]
   ·have z1:(p.toList == [49])=true:=by simp[heq]
    have z2:(p.toList != [49])=false:=by simp[heq]
    have z3:decide (p.toList=[49])=true:=by simp[heq]
    have HE:=Ip heq;clear heq;go_wp2;go_ret;exact⟨0,rfl,Or.inl ⟨rfl,by unfold Hid aC;rw[H0.out,H1.out,tV hpos,decide_eq_true (by rw[<-HP.out,<-aw];exact HE.out)];rfl⟩,hbr⟩
   ·have z1:(p.toList == [49])=false:=by simp[heq]
    have z2:(p.toList != [49])=true:=by simp[heq]
    have z3:decide (p.toList=[49])=false:=by simp[heq]
    have HE:=Ip heq;clear heq;go_wp2;go_ret;exact⟨30,rfl,Or.inr ⟨rfl,by unfold Hid aC;rw[H0.out,H1.out,tV hpos,decide_eq_false (by rw[<-HP.out,<-aw];exact HE.out)];rfl⟩,hbr⟩
theorem Fj:dec 1=[49]:=by rw[ez (by decide)];rfl
theorem CN:dec 0=[48]:=by rw[ez (by decide)];rfl
theorem oh:dx [48]=some ⟨false,0,1⟩:=by rfl
theorem lh:dt ⟨false,0,1⟩=false:=by unfold dt;simp[Fj,CN]
open Dg Dc
structure iV (r:Rt):Prop where
 pos:0<r.d
 gcd:Nat.gcd r.n r.d=1
 sign:r.minus=true->r.n≠0
theorem pC {mi:Bool}{n d:Nat} (h:0<d):iV (dP mi n d):=by
 unfold dP
 split
 ·exact⟨by decide,by decide,fun h=>by cases h⟩
 ·rename_i hn
  have hg:0<Nat.gcd n d:=JH _ h;refine⟨Ls (LC _ h) hg,?_,fun _=>?_⟩
  ·rw[Nat.gcd_div (Ld ..) (Lx ..),Nat.div_self hg]
  have:0<n / Nat.gcd n d:=Ls (KH (by omega) (Ld ..)) hg
  show n / Nat.gcd n d≠0
  omega
theorem pB (n:Nat):iV ⟨false,n,1⟩:=⟨Nat.one_pos,Nat.gcd_one_right n,fun h=>by cases h⟩
theorem CC {r:Rt} (h:iV r):iV (qM r):=⟨h.pos,h.gcd,fun hm=>by unfold qM at hm;simp at hm;exact hm.2⟩
theorem nm (s:List UInt8):iV (cS s).1:=by
 unfold cS
 split
 ·exact pB 1
 ·split
  ·rename_i h;exact pC (by have:=h.2;omega)
  ·exact pB _
theorem kL (s:List UInt8):iV (cD s).1:=by
 unfold cD
 split
 ·exact CC (nm _)
 ·split<;>exact nm _
theorem rV:iV fN:=pB 0
theorem i_ (s:List UInt8):iV (aW s).x/\iV (aW s).y:=by
 unfold aW
 split
 ·exact⟨rV,kL _⟩
 ·split
  ·exact⟨kL _,rV⟩
  ·exact⟨kL _,kL _⟩
theorem gA {s:List UInt8}{r:Rt} (h:dx s=some r):iV r:=by
 unfold dx at h
 split at h
 ·cases h
 ·split at h
  ·split at h
   ·cases h
   ·split at h
    ·cases h
    ·rename_i h0;injection h with h;subst h;exact pC (by omega)
  ·injection h with h;subst h;exact pC (by decide)
theorem oW {r:Rt} (h:iV r):dP r.minus r.n r.d=r:=by
 obtain⟨m,n,d⟩:=r;have h1:=h.pos;have h2:=h.gcd;have h3:=h.sign;simp only at h1 h2 h3 |-;unfold dP;rw[h2,LH,LH]
 split
 ·rename_i h0
  subst h0;rw[Kr] at h2
  cases m
  ·rw[h2]
  ·exact absurd rfl (h3 rfl)
 ·rfl
/-! ### texts of digits -/
theorem vi (n:Nat):∃ c r,dec n=c :: r/\bj c=true:=by
 cases h:dec n with
 | nil=>exact absurd h (it n)
 | cons c r =>
  have:=fc n;rw[h,KE,IR] at this;exact⟨c,r,rfl,this.1⟩
theorem ki {c:UInt8} (h:bj c=true):c≠43/\c≠45/\c≠47/\c≠105:=by
 unfold bj at h;simp only[IR,decide_eq_true_eq] at h;refine⟨?_,?_,?_,?_⟩<;>(intro e;subst e;revert h;decide)
theorem uY:∀ (l t:List UInt8) (m:Nat),l.all bj=true->l.length<=m->(∀ c,t.head?=some c->bj c=false)->dV (l++t) m=l.length
 | [],[],m,_,_,_=>by simp[dV]
 | [],c :: t,0,_,_,_=>by simp[dV]
 | [],c :: t,m+1,_,_,h=>by
  have:=h c rfl;simp[dV,this]
 | c :: l,t,0,_,h,_=>by simp at h
 | c :: l,t,m+1,ha,hl,h=>by
  rw[KE,IR] at ha;rw[Jf,dV,if_pos ha.1,uY l t m ha.2 (by simpa using hl) h];rfl
theorem qN {n:Nat}{t:List UInt8} (hl:(dec n).length<=2001) (h:∀ c,t.head?=some c->bj c=false):dM (dec n++t)=(n,t)/\dV (dec n++t) 2001=(dec n).length:=by
 have e:=uY (dec n) t 2001 (fc n) hl h;refine⟨?_,e⟩;unfold dM;rw[e,Lj,List.drop_left',lI]<;>rfl
def gz (r:Rt):List UInt8:=dec r.n++(if 1<r.d then 47 :: dec r.d else [])
theorem ik (r:Rt):aK r=(if r.minus then [45] else [])++gz r:=by unfold aK gz;rw[I_]
theorem pw {r:Rt} (h:dt r=false):(dec r.n).length<=2000/\(dec r.d).length<=2000:=by
 unfold dt at h;simp only[J2,decide_eq_false_iff_not] at h;omega
theorem l4 (r:Rt):∃ c t,gz r=c :: t/\bj c=true:=by
 obtain⟨c,t,h1,h2⟩:=vi r.n;exact⟨c,t++_,by unfold gz;rw[h1];rfl,h2⟩
theorem BF {r:Rt} (h:iV r) (hb:dt r=false):cS (gz r)=(⟨false,r.n,r.d⟩,[]):=by
 obtain⟨h1,h2⟩:=pw hb;have hp:=ir r.n;have hpos:=h.pos;unfold gz
 split
 ·rename_i hd
  obtain⟨e1,e2⟩:=qN (n:=r.n) (t:=47 :: dec r.d) (by omega) (fun c hc=>by simp at hc;subst hc;decide);obtain⟨e3,_⟩:=qN (n:=r.d) (t:=[]) (by omega) (fun c hc=>by cases hc);rw[Ju] at e3;unfold cS;rw[e2,if_neg (by omega),e1];simp only[LE,List.drop_one,List.tail_cons];rw[e3,if_pos ⟨by simp,by show r.d≠0;omega⟩];have:=oW (r:=⟨false,r.n,r.d⟩) ⟨h.pos,h.gcd,fun h=>by cases h⟩;rw[this]
 ·rename_i hd
  obtain⟨e1,e2⟩:=qN (n:=r.n) (t:=[]) (by omega) (fun c hc=>by cases hc);rw[show r.d=1 by omega];unfold cS;rw[e2,if_neg (by omega),e1];rfl
theorem yI {r:Rt} (h:iV r) (hb:dt r=false):cD (aK r)=(r,[]):=by
 rw[ik];have hp:=BF h hb;obtain⟨c,t,e1,e2⟩:=l4 r;obtain⟨m,n,d⟩:=r
 cases m
 ·simp only[IW,if_false,I8];obtain⟨n1,n2,_⟩:=ki e2;unfold cD;rw[e1] at hp |-;simp only[LE,Option.some.injEq];rw[if_neg n2,if_neg n1];exact hp
 ·simp only[if_true];have hs:=h.sign rfl;simp only at hs;unfold cD;simp only[Jf,I8,LE,if_true,List.drop_one,List.tail_cons];rw[hp];unfold qM;simp[hs]
theorem lT {r:Rt} (h:iV r) (hb:dt r=false):aW (aK r)=⟨r,fN⟩:=by
 unfold aW;rw[yI h hb];simp
theorem dE {z:Vl} (h:z.y.n=0):bX z=aK z.x:=by unfold bX;rw[if_pos h]
/-! ### the program's reading of such a text -/
theorem rK {l:List UInt8}{c d:UInt8} (h:c≠d):Lib.hasSuffix (l++[c]) [d]=false:=by
 unfold Lib.hasSuffix;rw[Ji];intro he;rw[Lu] at he;obtain⟨t,ht⟩:=he;have:=List.append_inj_right' ht rfl;simp at this;exact h this.symm
theorem vj (n:Nat):∃ l c,dec n=l++[c]/\bj c=true:=by
 have hne:=it n;have:=Lq hne;exact⟨_,_,this.symm,I5.1 (fc n) _ (List.getLast_mem hne)⟩
theorem BZ (r:Rt):∃ l c,aK r=l++[c]/\bj c=true:=by
 rw[ik];unfold gz;by_cases hd:1<r.d
 all_goals first | rw[if_pos hd] | rw[if_neg hd]
 ·obtain⟨l,c,h1,h2⟩:=vj r.d;exact⟨(if r.minus then [45] else [])++(dec r.n++47 :: l),c,by rw[h1];simp only[I_,Jf],h2⟩
 ·obtain⟨l,c,h1,h2⟩:=vj r.n;exact⟨(if r.minus then [45] else [])++l,c,by rw[h1];simp only[I_,Ju],h2⟩
theorem yA (r:Rt):gL (aK r)=(aK r,[48]):=by
 obtain⟨l,c,h1,h2⟩:=BZ r;have:Lib.hasSuffix (aK r) [105]=false:=by rw[h1];exact rK (ki h2).2.2.2
 unfold gL;rw[this];rfl
theorem jK (c d:UInt8) (l:List UInt8):Lib.hasPrefix (c :: l) [d]=decide (c=d):=by
 unfold Lib.hasPrefix;rw[Kc,Lt];simp[List.cons_prefix_cons,eq_comm]
theorem nO (r:Rt):Lib.trimPrefix (aK r) [45]=gz r/\Lib.hasPrefix (aK r) [45]=r.minus:=by
 rw[ik];obtain⟨c,t,e1,e2⟩:=l4 r;unfold Lib.trimPrefix
 cases r.minus
 ·simp only[IW,if_false,I8];rw[e1,jK,decide_eq_false (ki e2).2.1];exact⟨rfl,rfl⟩
 ·simp only[if_true,Jf,I8];rw[jK,decide_eq_true rfl];exact⟨rfl,rfl⟩
theorem t_ {s:List UInt8}{d:UInt8}{i:Nat}:Lib.occAt s [d] i=true↔s[i]?=some d:=by
 unfold Lib.occAt;rw[Lt];constructor
 ·rintro⟨t,ht⟩;have:(s.drop i)[0]?=some d:=by rw[<-ht];rfl
  rw[J1] at this;simpa using this
 ·intro h;obtain⟨hi,e⟩:=Js.1 h;exact⟨s.drop (i+1),by rw[Jr hi,e];rfl⟩
theorem lN {s:List UInt8}{d:UInt8} (h:d∉s):Lib.index s [d]=-1:=by
 refine Lib.index_none (fun j _=>?_);rw[Ji];intro he;exact h (J3 (t_.1 he))
theorem sr {l t:List UInt8}{d:UInt8} (h:d∉l):Lib.index (l++d :: t) [d]=l.length:=by
 refine Lib.index_first (by simp) (t_.2 (by simp)) (fun j hj=>?_);rw[Ji];intro he;have:=t_.1 he;rw[KK hj] at this;exact h (J3 this)
theorem kx {l:List UInt8} (h:l.all bj=true):(47:UInt8)∉l:=fun hm=>(ki (I5.1 h _ hm)).2.2.1 rfl
theorem kv (n:Nat):dr (dec n)=some n:=by
 unfold dr;rw[if_pos ⟨it n,fc n⟩,lI]
theorem kA {r:Rt} (h:iV r):dx (aK r)=some r:=by
 obtain⟨e1,e2⟩:=nO r;have hpos:=h.pos;unfold dx;rw[e1,e2];unfold gz Lib.cut;by_cases hd:1<r.d
 all_goals first | rw[if_pos hd] | rw[if_neg hd]
 ·rw[sr (kx (fc r.n)),if_pos (by omega)];simp only[Ko];rw[Lj rfl,kv];simp only[if_true];have:(dec r.n++47 :: dec r.d).drop ((dec r.n).length+([47]:List UInt8).length)=dec r.d:=by simp[List.drop_append]
  rw[this,kv];simp only;rw[if_neg (by omega),oW h]
 ·rw[Ju,lN (kx (fc r.n)),if_neg (by omega)];simp only;rw[kv];simp only[IW,if_false];have hd1:r.d=1:=by omega
  have:=oW h;rw[hd1] at this;rw[this]
theorem rg {r:Rt} (hb:dt r=false):(aK r).length<=4002:=by
 obtain⟨h1,h2⟩:=pw hb;rw[ik];unfold gz;rw[IG,IG]
 split<;>split<;>simp<;>omega
theorem vG {r:Rt} (h:iV r) (hb:dt r=false):ix (aK r)=some ⟨r,fN⟩:=by
 have hl:=rg hb;unfold ix;rw[if_neg (by omega),yA,kA h];simp only;rw[oh];simp only;rw[if_pos ⟨dE rfl,hb,lh⟩];rfl
theorem wL (s:List UInt8):(iT s=true↔∃ r,iV r/\dt r=false/\s=aK r)/\(lB s=true↔∃ r,iV r/\dt r=false/\s=aK r):=by
 refine⟨⟨fun h=>?_,?_⟩,⟨fun h=>?_,?_⟩⟩
 ·unfold iT at h
  cases hg:ix s with
  | none=>rw[hg] at h;cases h
  | some z =>
   rw[hg] at h;have hy:=of_decide_eq_true h;unfold ix at hg
   split at hg
   ·cases hg
   ·split at hg
    ·rename_i p q hp hq
     split at hg
     ·rename_i hc
      injection hg with hg
      subst hg;refine⟨p,gA hp,hc.2.1,?_⟩;rw[<-hc.1];exact dE hy
     ·cases hg
    ·cases hg
 ·rintro⟨r,h1,h2,rfl⟩;unfold iT;rw[vG h1 h2];rfl
 ·unfold lB rOK at h;simp only[IR,decide_eq_true_eq,Bool.not_eq_true',J2] at h;exact⟨(aW s).x,(i_ s).1,h.1.2.1,by rw[<-dE h.2];exact h.1.1.symm⟩
 ·rintro⟨r,h1,h2,rfl⟩;unfold lB rOK;rw[lT h1 h2,dE rfl];simp[h2,lh,show dt fN=false from lh,show fN.n=0 from rfl]
/-! ### short parts -/
theorem vf (c:UInt8) (l:List UInt8):aX (c :: l)=(c.toNat-48)*10 ^ l.length+aX l:=by
 have:=eW [c] l;rw[Kw] at this;rw[this];simp[aX]
theorem qA:∀ (l:List UInt8) (acc:Nat),l.all bj=true->acc<18446744073709551616 ->
  Lib.parseUint10 acc l=if acc*10 ^ l.length+aX l<18446744073709551616 then .ok (acc*10 ^ l.length+aX l) else .range
 | [],acc,_,h=>by simp[Lib.parseUint10,aX,h]
 | c :: l,acc,ha,h=>by
  rw[KE,IR] at ha;have hc:48<=c.toNat/\c.toNat<=57:=by have:=ha.1;unfold bj at this;simpa using this
  have e:acc*10 ^ (c :: l).length+aX (c :: l)=(acc*10+(c.toNat-48))*10 ^ l.length+aX l:=by
   rw[vf,IT,IN];grind
  have hpow:0<10 ^ l.length:=I9 (by decide);have hge:acc*10+(c.toNat-48)<=(acc*10+(c.toNat-48))*10 ^ l.length:=J8 _ hpow;rw[Lib.parseUint10,if_pos hc,e]
  split
  ·rw[if_neg (by omega)]
  ·split
   ·rw[if_neg (by omega)]
   ·exact qA l _ ha.2 (by omega)
theorem wC (n:Nat):jj (dec n)=decide (n<=4096):=by
 obtain⟨c,t,e1,e2⟩:=vi n;have hc:48<=c.toNat/\c.toNat<=57:=by have:=e2;unfold bj at this;simpa using this
 have hp:=qA (dec n) 0 (fc n) (by decide);rw[lI,JE,Jk] at hp;unfold jj Lib.atoiAll;rw[e1];simp only;rw[if_neg (by omega),<-e1];unfold Lib.parseMag;rw[if_neg (it n),hp];by_cases h1:n<18446744073709551616
 ·rw[if_pos h1];simp only;have hn:¬ c.toNat=45:=by omega
  by_cases h2:9223372036854775808<=n
  ·simp[hn,h2];omega
  ·simp[hn,h2];omega
 ·rw[if_neg h1];simp;omega
theorem sY (r:Rt) (h:0<r.d):(fY ⟨(gz r).toArray⟩).all (fun p=>jj p.data.toList)=eV r:=by
 have e:(fY ⟨(gz r).toArray⟩).all (fun p=>jj p.data.toList)=(Lib.splitK [47] 0 (Lib.count (gz r) [47]) (gz r)).all jj:=by
  have:=Lib.splitB_data ⟨#[47]⟩ 0 (Lib.countB ⟨(gz r).toArray⟩ ⟨#[47]⟩) ⟨(gz r).toArray⟩;have e2:Lib.countB ⟨(gz r).toArray⟩ ⟨#[47]⟩=Lib.count (gz r) [47]:=by unfold Lib.countB;simp
  rw[e2] at this;unfold fY;rw[e2];simp only[Lp] at this;rw[<-this,List.all_map];rfl
 rw[e];unfold gz eV
 split
 ·have h1:=sr (t:=dec r.d) (kx (fc r.n));have h2:=lN (kx (fc r.d));have e3:(dec r.n++47 :: dec r.d).drop ((dec r.n).length+([47]:List UInt8).length)=dec r.d:=by simp[List.drop_append]
  rw[Lib.count_hit (by simp) h1,e3,Lib.count_miss h2]
  show (Lib.splitK [47] 0 (0+1) _).all jj=_
  rw[Lib.splitK,if_neg (by rw[h1];simp),h1];simp only[Ko,I7];rw[e3,Lj rfl];simp[Lib.splitK,wC]
 ·rw[Ju,Lib.count_miss (lN (kx (fc r.n)))];simp only[Lib.splitK,KE,List.all_nil,Bool.and_true,wC];rw[show r.d=1 by omega];simp
theorem Ff (s:List UInt8):CK s=bU s:=by
 obtain⟨h1,h2⟩:=wL s;unfold CK bU;by_cases hr:∃ r,iV r/\dt r=false/\s=aK r
 ·rw[h1.2 hr,h2.2 hr];obtain⟨r,c1,c2,rfl⟩:=hr
  have hok:rOK (aK r)=true:=by
   have:=h2.2 ⟨r,c1,c2,rfl⟩;unfold lB at this;rw[IR] at this;exact this.1
  rw[hok,lT c1 c2];unfold iD;rw[(nO r).1,sY r c1.pos];simp[show eV fN=true by decide]
 ·rw[show iT s=false by rw[Ji];exact fun h=>hr (h1.1 h),show lB s=false by rw[Ji];exact fun h=>hr (h2.1 h)];rfl
open Go.RowKit Dg Dc
def toQ (r:Rt):Rat:=mkRat (sgz r.minus r.n) r.d
theorem Es {r:Rt} (h:iV r):rt (toQ r)=r:=by unfold toQ;rw[<-mR _ _ _ h.pos,oW h]
theorem yX (q:Rat):toQ (rt q)=q:=by
 unfold toQ;rw[qT];exact Rat.mkRat_self q
theorem l8 (q:Rat):iV (rt q):=⟨q.den_pos,q.reduced,fun h=>by
 unfold rt at h |-;simp only[decide_eq_true_eq] at h |-
 omega⟩
def eK (z:CQ):Bool:=dt (rt z.re)||dt (rt z.im)
def txt (z:CQ):ByteArray:=⟨(bX (ct z)).toArray⟩
def gJ (s:ByteArray):Option CQ:=(ix s.data.toList).map fun z=>⟨toQ z.x,toQ z.y⟩
def eB (z:CQ):ByteArray×Int:=if eK z=true then (⟨#[]⟩,11) else (txt z,0)
theorem jy {s:ByteArray}{l:List UInt8} (h:s.data.toList=l):s=⟨l.toArray⟩:=by
 obtain⟨⟨d⟩⟩:=s;simp only at h;rw[h]
theorem pz {r:Rt} (hb:dt r=false) (hp:0<r.d):Sz 2000 r:=by
 obtain⟨h1,h2⟩:=pw hb;refine⟨?_,hp,?_⟩
 ·exact Nat.lt_of_not_le fun h=>by have:=lw h;omega
 ·exact Nat.lt_of_not_le fun h=>by have:=lw h;omega
theorem jD {s:ByteArray}{z:Vl} (h:ix s.data.toList=some z):∃ q,z=ct q/\gJ s=some q/\SzV 2000 (ct q)/\eK q=false/\txt q=s:=by
 have h':=h;unfold ix at h
 split at h
 ·cases h
 ·split at h
  ·rename_i p q hp hq
   split at h
   ·rename_i hc
    injection h with h
    subst h;have e1:=Es (gA hp);have e2:=Es (gA hq);have e:(⟨p,q⟩:Vl)=ct ⟨toQ p,toQ q⟩:=by unfold ct;rw[e1,e2]
    refine⟨⟨toQ p,toQ q⟩,e,by unfold gJ;rw[h'];rfl,?_,?_,?_⟩
    ·rw[<-e];exact⟨pz hc.2.1 (gA hp).pos,pz hc.2.2 (gA hq).pos⟩
    ·unfold eK;simp only;rw[e1,e2,hc.2.1,hc.2.2];rfl
    ·unfold txt;rw[<-e,hc.1]
   ·cases h
  ·cases h
theorem ig {s:ByteArray} (h:ix s.data.toList=none):gJ s=none:=by unfold gJ;rw[h];rfl
theorem si {q:Rat} (h:eK (CQ.real q)=false):gJ (txt (CQ.real q))=some (CQ.real q):=by
 have h1:dt (rt q)=false:=by unfold eK CQ.real at h;simp only[J2] at h;exact h.1
 have e:bX (ct (CQ.real q))=aK (rt q):=dE (z:=ct (CQ.real q)) (by show (rt 0).n=0;rw[eQ]);unfold gJ txt;simp only[Lp];rw[e,vG (l8 q) h1];simp only[KO,yX];congr 1
theorem vF {s:ByteArray}{z:CQ} (h:gJ s=some z):eK z=false/\txt z=s/\SzV 2000 (ct z):=by
 cases hg:ix s.data.toList with
 | none=>rw[ig hg] at h;cases h
 | some y =>
  obtain⟨q,-,h1,h2,h3,h4⟩:=jD hg;rw[h1] at h
  injection h with h
  subst h;exact⟨h3,h4,h2⟩
def dI (φ:CQ->CQ->CQ×Int) (s t:ByteArray):ByteArray×Int :=
 match gJ s,gJ t with
 | some a,some b=>if (φ a b).2=0 then eB (φ a b).1 else (⟨#[]⟩,(φ a b).2)
 | _,_=>(⟨#[]⟩,10)
def gS (f:CQ->CQ->CQ) (a b:CQ):CQ×Int:=(f a b,0)
def vy (a b:CQ):CQ×Int:=if b=⟨0,0⟩ then (⟨0,0⟩,12) else (a.div b,0)
def iH (s t:ByteArray):ByteArray:=(dI (gS CQ.add) s t).1
def iY (s t:ByteArray):ByteArray:=(dI (gS CQ.sub) s t).1
def d_ (s t:ByteArray):ByteArray:=(dI (gS CQ.mul) s t).1
def dw (s t:ByteArray):ByteArray:=(dI vy s t).1
open Go.RowKit Dg
theorem EV (va:Value) (u:Vl) (w:World) (ha:IsV w va u) :
  Calls Tryz.prog 114 #[va] w fun e w'=>e=.returned (.bool (decide (u.x.n=0/\u.y.n=0)))/\Below w.heap.size w w':=by
 obtain⟨a,b,c,d,e,f,rfl,hx,hy⟩:=ha;have hb0:=aj w (.cells #[a,b,c,d,e,f] 93);have HB:=Ip hb0;have H1:=Ip (iG _ _ _ (hx.below hb0));have H2:=Ip (fun wx (hw:Below (w.alloc (.cells #[a,b,c,d,e,f] 93)).heap.size (w.alloc (.cells #[a,b,c,d,e,f] 93)) wx)=>iG _ _ _ ((hy.below hb0).below hw));have q1:=cC.new w a b c d e f 93;clear hb0;go_enter Tryz.func114,Tryz.ntmps114;go_upto_region 1 with fail
 generalize w.alloc (.cells #[a,b,c,d,e,f] 93)=w1 at *
 have a0:=q1.c0;have a1:=q1.c1;have a2:=q1.c2;have a3:=q1.c3;have a4:=q1.c4;have a5:=q1.c5;by_cases h:u.x.n=0
 ·rw[decide_eq_true h] at H1;go_wp2_with fail
  refine H1.out.mono ?_;rintro e w2 ⟨rfl,hb2⟩;have q2:=q1.below hb2;have c0:=q2.c0;have c1:=q2.c1;have c2:=q2.c2;have c3:=q2.c3;have c4:=q2.c4;have c5:=q2.c5;clear a0 a1 a2 a3 a4 a5;go_wp2_with fail
  refine (H2.out w2 hb2).mono ?_;rintro e w3 ⟨rfl,hb3⟩;go_wp2;go_ret;exact⟨by simp[h],LK HB.out (LK hb2 hb3)⟩
 ·rw[decide_eq_false h] at H1;go_wp2_with fail
  refine H1.out.mono ?_;rintro e w2 ⟨rfl,hb2⟩;go_wp2;go_ret;exact⟨by simp[h],LK HB.out hb2⟩
theorem D7 (va:Value) (z:CQ) (w:World) (ha:IsV w va (ct z)) (hG:Gw w) :
  Calls Tryz.prog 61 #[va] w fun e w'=>e=.returned (.tuple #[.string (eB z).1,.int .i64 (eB z).2])/\Below w.heap.size w w':=by
 have ha0:=ha;obtain⟨a,b,c,d,e,f,rfl,hx,hy⟩:=ha;have hb0:=aj w (.cells #[a,b,c,d,e,f] 93);have HB:=Ip hb0;have H1:=Ip (tD _ _ _ (hx.below hb0) (hG.below hb0));have H2:=Ip (fun wx (hw:Below (w.alloc (.cells #[a,b,c,d,e,f] 93)).heap.size (w.alloc (.cells #[a,b,c,d,e,f] 93)) wx)=>tD _ _ _ ((hy.below hb0).below hw) ((hG.below hb0).below hw));have H3:=Ip (fun wx (hw:Below (w.alloc (.cells #[a,b,c,d,e,f] 93)).heap.size (w.alloc (.cells #[a,b,c,d,e,f] 93)) wx)=>tr _ _ _ ((ha0.below hb0).below hw) (dQ _) (dQ _) ((hG.below hb0).below hw));have q1:=cC.new w a b c d e f 93;clear hb0 ha0 hx hy;go_enter Tryz.func61,Tryz.ntmps61;go_upto_region 1 with fail
 generalize w.alloc (.cells #[a,b,c,d,e,f] 93)=w1 at *
 have a0:=q1.c0;have a1:=q1.c1;have a2:=q1.c2;have a3:=q1.c3;have a4:=q1.c4;have a5:=q1.c5;by_cases h:dt (rt z.re)=true
 ·rw[show dt (ct z).x=true from h] at H1;go_wp2_with fail
  refine H1.out.mono ?_;rintro e w2 ⟨rfl,hb2⟩;have hp:eB z=(⟨#[]⟩,11):=by unfold eB eK;rw[h];rfl
  go_wp2;refine LM (v:=.tuple #[.string ⟨#[]⟩,.int .i64 11]) (by simp[results,Tryz.results61,go_sem]) rfl ⟨by rw[hp],LK HB.out hb2⟩
 ·rw[show dt (ct z).x=false from Ji.2 h] at H1;go_wp2_with fail
  refine H1.out.mono ?_;rintro e w2 ⟨rfl,hb2⟩;have q2:=q1.below hb2;have c0:=q2.c0;have c1:=q2.c1;have c2:=q2.c2;have c3:=q2.c3;have c4:=q2.c4;have c5:=q2.c5;clear a0 a1 a2 a3 a4 a5;have H2:=Ip (H2.out w2 hb2);by_cases h2:dt (rt z.im)=true
  ·rw[show dt (ct z).y=true from h2] at H2;go_wp2_with fail
   refine H2.out.mono ?_;rintro e w3 ⟨rfl,hb3⟩;have hp:eB z=(⟨#[]⟩,11):=by unfold eB eK;rw[h2];simp
   go_wp2;refine LM (v:=.tuple #[.string ⟨#[]⟩,.int .i64 11]) (by simp[results,Tryz.results61,go_sem]) rfl ⟨by rw[hp],LK HB.out (LK hb2 hb3)⟩
  ·rw[show dt (ct z).y=false from Ji.2 h2] at H2;go_wp2_with fail
   refine H2.out.mono ?_;rintro e w3 ⟨rfl,hb3⟩;have hB3:=LK hb2 hb3;have q3:=q1.below hB3;have d0:=q3.c0;have d1:=q3.c1;have d2:=q3.c2;have d3:=q3.c3;have d4:=q3.c4;have d5:=q3.c5;clear c0 c1 c2 c3 c4 c5;have hp:eB z=(txt z,0):=by unfold eB eK;rw[if_neg (by simpa using ⟨by simpa using h,by simpa using h2⟩)]
   have HP:=Ip hp;clear hp;go_wp2_with fail
   refine (H3.out w3 hB3).mono ?_;rintro e w4 ⟨t,rfl,ht,-,hb4⟩;go_wp2;refine LM (v:=.tuple #[.string t,.int .i64 0]) (by simp[results,Tryz.results61,go_sem]) rfl ⟨?_,LK HB.out (LK hB3 hb4)⟩;rw[HP.out];have:t=txt z:=jy ht.out;rw[this]
theorem fh {a b c a' b' c':Value} (h:Value.agg #[a,b,c]=.agg #[a',b',c']):a=a'/\b=b'/\c=c':=by simpa using h
structure AD (F:FuncId) (cap:Array Value) (φ:CQ->CQ->CQ×Int) (w:World):Prop where
 en:∀ (args:Array Value) (w:World),(callFunc F args).run Tryz.prog w=.ok (.enter F args) w
 on:∀ (x y:Value) (a b:CQ) (w':World),Below w.heap.size w w'->IsK w' x a->IsK w' y b->Calls Tryz.prog F (#[x,y]++cap) w' fun e w''=>∃ v z,e=.returned (.tuple #[v,.int .i64 (φ a b).2])/\IsV w'' v z/\((φ a b).2=0->z=ct (φ a b).1)/\Below w'.heap.size w' w''
theorem AD.below {F:FuncId}{cap:Array Value}{φ:CQ->CQ->CQ×Int}{w w':World} (h:AD F cap φ w) (hb:Below w.heap.size w w'):AD F cap φ w' :=
 ⟨h.en,fun x y a b w'' hb'=>h.on x y a b w'' (LK hb hb')⟩
theorem zp (F:FuncId) (cap:Array Value) (φ:CQ->CQ->CQ×Int) (s t:ByteArray) (w:World) (hG:Gw w) (hF:AD F cap φ w) :
  Calls Tryz.prog 110 #[.string s,.string t,.func (.func F) #[] cap] w fun e w'=>e=.returned (.tuple #[.string (dI φ s t).1,.int .i64 (dI φ s t).2])/\Below w.heap.size w w':=by
 have HF:=Ip hF;have EN:=hF.en;clear hF;go_enter Tryz.func110,Tryz.ntmps110;go_wp2_with fail
 refine (kU s w hG).mono ?_;rintro e w1 ⟨v,ok,rfl,hcase,hb1⟩;rcases hcase with ⟨z,hz,rfl,hv⟩ | ⟨hz,rfl,rfl⟩
 ·obtain⟨p,rfl,hp1,hp2,-,-⟩:=jD hz;have HP1:=Ip hp1;clear hz hp1;obtain⟨_,_,_,_,_,_,rfl,hx0,hy0⟩:=id hv;obtain⟨xm,xp,xl,xc,xq,xk,xd,hxe⟩:=hx0.form;obtain⟨ym,yp,yl,yc,yq,yk,yd,hye⟩:=hy0.form;obtain⟨rfl,rfl,rfl⟩:=fh hxe;obtain⟨rfl,rfl,rfl⟩:=fh hye;clear hxe hye hx0 hy0;go_upto_region 2 with fail
  have q1:=cC.new w1 (.bool xm) (.slice xp xl xc) (.slice xq xk xd) (.bool ym) (.slice yp yl yc) (.slice yq yk yd) 93;have m1:=aj w1 (.cells #[.bool xm,.slice xp xl xc,.slice xq xk xd,.bool ym,.slice yp yl yc,.slice yq yk yd] 93);generalize w1.alloc (.cells #[.bool xm,.slice xp xl xc,.slice xq xk xd,.bool ym,.slice yp yl yc,.slice yq yk yd] 93)=w2 at *
  have B1:=Ip q1;have HV:=Ip (hv.below m1);have hb2:=LK hb1 m1;clear q1 hv m1;go_wp2_with fail
  refine (kU t w2 (hG.below hb2)).mono ?_;rintro e w3 ⟨v2,ok2,rfl,hcase,hb3⟩;have hB3:=LK hb2 hb3;rcases hcase with ⟨z2,hz2,rfl,hv2⟩ | ⟨hz2,rfl,rfl⟩
  ·obtain⟨q,rfl,hr1,hr2,-,-⟩:=jD hz2;have HP2:=Ip hr1;clear hz2 hr1;obtain⟨_,_,_,_,_,_,rfl,hx0,hy0⟩:=id hv2;obtain⟨xm',xp',xl',xc',xq',xk',xd',hxe⟩:=hx0.form;obtain⟨ym',yp',yl',yc',yq',yk',yd',hye⟩:=hy0.form;obtain⟨rfl,rfl,rfl⟩:=fh hxe;obtain⟨rfl,rfl,rfl⟩:=fh hye;clear hxe hye hx0 hy0;go_upto_region 5 with fail
   have q2:=cC.new w3 (.bool xm') (.slice xp' xl' xc') (.slice xq' xk' xd') (.bool ym') (.slice yp' yl' yc') (.slice yq' yk' yd') 93;have m2:=aj w3 (.cells #[.bool xm',.slice xp' xl' xc',.slice xq' xk' xd',.bool ym',.slice yp' yl' yc',.slice yq' yk' yd'] 93);generalize w3.alloc (.cells #[.bool xm',.slice xp' xl' xc',.slice xq' xk' xd',.bool ym',.slice yp' yl' yc',.slice yq' yk' yd'] 93)=w4 at *
   have hb4:=LK hb3 m2;have hB4:=LK hb2 hb4;have q1:=B1.out.below hb4;have HC:=Ip (HF.out.on _ _ p q w4 hB4 ⟨HV.out.below hb4,hp2.mono (by decide)⟩ ⟨hv2.below m2,hr2.mono (by decide)⟩);have a0:=q1.c0;have a1:=q1.c1;have a2:=q1.c2;have a3:=q1.c3;have a4:=q1.c4;have a5:=q1.c5;have b0:=q2.c0;have b1:=q2.c1;have b2:=q2.c2;have b3:=q2.c3;have b4:=q2.c4;have b5:=q2.c5;have HB4:=Ip hB4;clear q1 q2 m2 hv2 hb3 hb4 hB4 hB3 hb2 HF;go_wp2_with fail
   refine HC.out.mono ?_;rintro e w5 ⟨v3,z3,rfl,hv3,hz3,hb5⟩;obtain⟨err,herr⟩:∃ n,n=(φ p q).2:=⟨_,rfl⟩;rw[<-herr];have hB5:=LK HB4.out hb5;obtain⟨_,_,_,_,_,_,rfl,hx0,hy0⟩:=id hv3;obtain⟨um,up,ul,uc,uq,uk,ud,hxe⟩:=hx0.form;obtain⟨vm,vp,vl,vc,vq,vk,vd,hye⟩:=hy0.form;obtain⟨rfl,rfl,rfl⟩:=fh hxe;obtain⟨rfl,rfl,rfl⟩:=fh hye;clear hxe hye hx0 hy0 a0 a1 a2 a3 a4 a5 b0 b1 b2 b3 b4 b5 HC HV B1 HB4;by_cases he:err=0
   ·have hbc:dI φ s t=eB (φ p q).1:=by unfold dI;rw[HP1.out,HP2.out];simp only;rw[if_pos (by rw[<-herr];exact he)]
    have hz4:=hz3 (by rw[<-herr];exact he);have HE:=Ip hbc;rw[hz4] at hv3;clear hbc hz3 herr hz4;subst he;go_upto_region 8 with fail
    have q3:=cC.new w5 (.bool um) (.slice up ul uc) (.slice uq uk ud) (.bool vm) (.slice vp vl vc) (.slice vq vk vd) 93;have m3:=aj w5 (.cells #[.bool um,.slice up ul uc,.slice uq uk ud,.bool vm,.slice vp vl vc,.slice vq vk vd] 93);generalize w5.alloc (.cells #[.bool um,.slice up ul uc,.slice uq uk ud,.bool vm,.slice vp vl vc,.slice vq vk vd] 93)=w6 at *
    have a0:=q3.c0;have a1:=q3.c1;have a2:=q3.c2;have a3:=q3.c3;have a4:=q3.c4;have a5:=q3.c5;have HB6:=Ip (LK hB5 m3);have HG:=Ip (hG.below HB6.out);have HV:=Ip (hv3.below m3);clear q3 m3 hv3 hB5 hb5;go_wp2_with fail
    refine (D7 _ _ _ HV.out HG.out).mono ?_;rintro e w7 ⟨rfl,hb7⟩;go_wp2;refine LM (v:=.tuple #[.string (eB (φ p q).1).1,.int .i64 (eB (φ p q).1).2]) (by simp[results,Tryz.results110,go_sem]) rfl ⟨by rw[HE.out],LK HB6.out hb7⟩
   ·have hbc:dI φ s t=(⟨#[]⟩,err):=by unfold dI;rw[HP1.out,HP2.out];simp only;rw[if_neg (by rw[<-herr];exact he),herr]
    have HE:=Ip hbc;have hne:(!(err == 0))=true:=by simpa using he
    clear hbc hz3 herr;go_wp2;refine LM (v:=.tuple #[.string ⟨#[]⟩,.int .i64 err]) (by simp[results,Tryz.results110,go_sem]) rfl ⟨by rw[HE.out],LK hB5 (aj w5 _)⟩
  ·have e:dI φ s t=(⟨#[]⟩,10):=by unfold dI;rw[ig hz2,HP1.out]
   have HE:=Ip e;clear e hz2;unfold iX;go_wp2;refine LM (v:=.tuple #[.string ⟨#[]⟩,.int .i64 10]) (by simp[results,Tryz.results110,go_sem]) rfl ⟨by rw[HE.out],LK hB3 (aj w3 _)⟩
 ·have e:dI φ s t=(⟨#[]⟩,10):=by unfold dI;rw[ig hz]
  have HE:=Ip e;clear e hz;unfold iX;go_wp2;refine LM (v:=.tuple #[.string ⟨#[]⟩,.int .i64 10]) (by simp[results,Tryz.results110,go_sem]) rfl ⟨by rw[HE.out],LK hb1 (aj w1 _)⟩
def cW (w:World) (v:Value) (r:Rt):Prop:=∃ vn vd,v=.agg #[.bool r.minus,vn,.bool false,vd]/\IsD w vn r.n/\IsD w vd r.d
theorem cW.below {w w':World}{v:Value}{r:Rt} (h:cW w v r) (hb:Below w.heap.size w w'):cW w' v r:=by
 obtain⟨vn,vd,e,h1,h2⟩:=h;exact⟨vn,vd,e,h1.below hb,h2.below hb⟩
theorem cW.puts {w w':World}{b:Nat}{t t0:TypeId}{us cs:Array Value}{v:Value}{r:Rt} (hv:cW w v r) (h:j6 w w' b t us) (hr:w.heap[b]?=some (.cells cs t0 (0,0))) (hn:∀ (j:Nat) (z:Int),cs[j]?≠some (Value.int .i64 z)):cW w' v r:=by
 obtain⟨vn,vd,e,h1,h2⟩:=hv;exact⟨vn,vd,e,h.isI hr hn h1,h.isI hr hn h2⟩
theorem cW.parts {w:World}{v:Value}{r:Rt} (h:cW w v r):∃ p N c p' N' c',v=.agg #[.bool r.minus,.slice p N c,.bool false,.slice p' N' c']/\Hid (N=(aq RR r.n).length)/\N<=c/\c<=maxLen/\Hid (N'=(aq RR r.d).length)/\N'<=c'/\c'<=maxLen/\IsD w (.slice p N c) r.n/\IsD w (.slice p' N' c') r.d:=by
 obtain⟨vn,vd,rfl,h1,h2⟩:=h;obtain⟨p,N,c,rfl,a,b,d⟩:=h1.parts;obtain⟨p',N',c',rfl,a',b',d'⟩:=h2.parts;exact⟨p,N,c,p',N',c',rfl,a,b,d,a',b',d',h1,h2⟩
theorem yh {w:World}{p:Option Addr}{N c n:Nat}{m:Bool} (h:IsD w (.slice p N c) n) (hm:m=true->n≠0):IsZ w (.agg #[.bool m,.slice p N c]) (sgn m n):=by
 refine⟨_,?_,by rw[iU];exact h⟩;rw[uz]
 cases m
 ·rfl
 ·have:=hm rfl;rw[decide_eq_true (by omega:0<n)];rfl
theorem jF {w:World}{p:Option Addr}{N c n:Nat} (h:IsD w (.slice p N c) n):IsZ w (.agg #[.bool false,.slice p N c]) (n:Int):=yh (m:=false) h (fun h=>by cases h)
theorem IsZ.nat {w:World}{v:Value}{n:Nat} (h:IsZ w v (n:Int)):∃ p N c,v=.agg #[.bool false,.slice p N c]/\Hid (N=(aq RR n).length)/\N<=c/\c<=maxLen/\IsD w (.slice p N c) n:=by
 obtain⟨p,N,c,rfl,h1,h2,h3,h4⟩:=h.parts;rw[I0] at h1 h4;exact⟨p,N,c,by rw[show decide ((n:Int)<0)=false by simp],h1,h2,h3,h4⟩
theorem FH (va vb:Value) (n d:Nat) (w:World) (ha:IsZ w va (n:Int)) (hb:IsZ w vb (d:Int)) (hd0:0<d) (hfn:bu n) (hfd:bu d) :
  Calls Tryz.prog 102 #[va,vb] w fun e w'=>∃ v,e=.returned v/\cW w' v (dP false n d)/\Below w.heap.size w w':=by
 obtain⟨p,N,c,rfl,hN,hNc,hcm,hd⟩:=ha.nat;obtain⟨p',N',c',rfl,hN',hNc',hcm',hd'⟩:=hb.nat;have hl:=nZ w (.cells #[.bool false,.slice p N c] 42) (.cells #[.bool false,.slice p' N' c'] 42) (.cells #[.bool false,.slice none 0 0,.bool false,.slice none 0 0] 44);have hgp:0<Nat.gcd n d:=JH _ hd0;have HFG:Hid (bu (Nat.gcd n d)):=hfd.mono (KH hd0 (Lx ..));have HFN:=Ip hfn;have HFD:=Ip hfd
 have HR:Hid (dP false n d=⟨false,n / Nat.gcd n d,d / Nat.gcd n d⟩):=by
  unfold Hid dP
  split
  ·rename_i h;subst h;rw[Kr,Nat.zero_div,Nat.div_self hd0]
  ·rfl
 have x0:=af hl.s0 0;have x1:=af hl.s0 1;have y0:=af hl.s1 0;have y1:=af hl.s1 1;have HD:=Ip (hd.below hl.below);have HD':=Ip (hd'.below hl.below);clear ha hb hd hd' hfn hfd;go_enter Tryz.func102,Tryz.ntmps102;go_upto_region 1 with fail
 generalize ((w.alloc (.cells #[.bool false,.slice p N c] 42)).alloc (.cells #[.bool false,.slice p' N' c'] 42)).alloc (.cells #[.bool false,.slice none 0 0,.bool false,.slice none 0 0] 44)=w1 at *
 go_wp2_with fail
 refine (rA _ _ n d w1 (jF HD.out) (jF HD'.out) HFN.out HFD.out).mono ?_;rintro e w2 ⟨v2,rfl,hz2,hb2⟩;rw[I0,I0] at hz2;obtain⟨p2,N2,c2,rfl,hN2,hNc2,hcm2,hd2⟩:=hz2.nat;have hl2:=bL w2 (.cells #[.bool false,.slice p2 N2 c2] 42);have hb3:=hb2.trans (hl2.below.mono hb2.size);have HB3:=hl.below.trans (hb3.mono hl.below.size);have r0:=(hb3.block _ (ah hl.s0)).trans hl.s0;have r1:=(hb3.block _ (ah hl.s1)).trans hl.s1;have r2:=(hb3.block _ (ah hl.s2)).trans hl.s2;have r3:=hl2.s0;have hsz:=hl2.size;have HG:=Ip (hd2.below hl2.below);have HD3:=Ip (HD.out.below hb3);have HE3:=Ip (HD'.out.below hb3);clear hl hl2 hb2 hb3 hz2 hd2 x0 x1 y0 y1 HD HD';have a0:=af r0 1;have a1:=af r3 1;go_upto_region 4 with fail
 generalize w2.alloc (.cells #[.bool false,.slice p2 N2 c2] 42)=w3 at *
 go_wp2_with fail
 refine (fi _ _ n (Nat.gcd n d) w3 HD3.out HG.out hgp HFN.out HFG.out).mono ?_;rintro e w4 ⟨v4,v4',rfl,hq,_,hb4⟩;have hlt3:w2.heap.size<w3.heap.size:=by omega
 have s1:=(hb4.block _ (ah r1)).trans r1;have s2:=(hb4.block _ (ah r2)).trans r2;have s3:=(hb4.block _ (ah r3)).trans r3;have s0:=(hb4.block _ (ah r0)).trans r0;have HG4:=Ip (HG.out.below hb4);have HE4:=Ip (HE3.out.below hb4);have HQ4:=Ip hq;have HB4:=LK HB3 hb4;clear r0 r1 r2 r3 a0 a1 HB3 hb4 HD3 HE3 HG hq;have a1:=af s1 1;have a3:=af s3 1;have a0:=af s0 0;go_wp2_with fail
 refine (fi _ _ d (Nat.gcd n d) w4 HE4.out HG4.out hgp HFD.out HFG.out).mono ?_;rintro e w5 ⟨v5,v5',rfl,hq5,_,hb5⟩;have s0':=(hb5.block _ (ah s0)).trans s0;have s2':=(hb5.block _ (ah s2)).trans s2;have HQ5:=Ip (HQ4.out.below hb5);have HP5:=Ip hq5;have HB5:=LK HB4 hb5;clear s0 s1 s2 s3 a0 a1 a3 HB4 hb5 HQ4 HG4 HE4 hq5;have a0:=af s0' 0;go_wp2_with fail
 refine (dW _ _ _ w5 HQ5.out (aQ _).1).mono ?_;rintro e w6 ⟨v6,rfl,hz6,hb6⟩;rw[aA aH] at hz6;obtain⟨p6,N6,c6,rfl,hN6,hNc6,hcm6,hd6⟩:=hz6.nat;have HP6:=Ip (HP5.out.below hb6);have t2:=(hb6.block _ (ah s2')).trans s2';have HB6:=LK HB5 hb6;have HD6:=Ip hd6;clear a0 s0' s2' HP5 HQ5 HB5 hb6 hz6 hd6;go_wp2_with fail
 refine (dW _ _ _ w6 HP6.out (aQ _).1).mono ?_;rintro e w7 ⟨v7,rfl,hz7,hb7⟩;rw[aA aH] at hz7;obtain⟨p7,N7,c7,rfl,hN7,hNc7,hcm7,hd7⟩:=hz7.nat;have u2:=(hb7.block _ (ah t2)).trans t2;have HB7:=LK HB6 hb7;have hP:=aR (u0:=.bool false) (u1:=.slice p6 N6 c6) (u2:=.bool false) (u3:=.slice p7 N7 c7) u2
 have hZ:Hid (cW (dL w7 (w.heap.size+1+1) (.bool false) (.slice p6 N6 c6) (.bool false) (.slice p7 N7 c7)) (.agg #[.bool false,.slice p6 N6 c6,.bool false,.slice p7 N7 c7]) (dP false n d)):=by
  rw[HR.out];exact⟨_,_,rfl,hP.isI u2 bf (HD6.out.below hb7),hP.isI u2 bf hd7⟩
 have hB:=HB7.trans (hP.below w.heap.size (by omega));have q0:=af u2 0;have q1:=af u2 1;have q2:=af u2 2;have q3:=af u2 3;have f0:=LL w7 (w.heap.size+1+1) 0 _ _ u2;have f1:=LL w7 (w.heap.size+1+1) 1 _ _ u2;have f2:=LL w7 (w.heap.size+1+1) 2 _ _ u2;have f3:=LL w7 (w.heap.size+1+1) 3 _ _ u2;clear t2 HP6 HB6 hb7 hz7 hd7 HD6;go_wp2_with fail
 (try simp only[Exit.inBlock,Exit.then])
 change bodyPost _ _ _ _ _ (dL w7 (w.heap.size+1+1) (.bool false) (.slice p6 N6 c6) (.bool false) (.slice p7 N7 c7));refine LM (results_cell_row rfl _ _ (w.heap.size+1+1) _ _ (0,0) _ rfl hP.row Tryz.underlying44 rfl (by kernel_rfl)) rfl ?_;exact⟨_,rfl,hZ.out,hB⟩
end Go.Proofs.YtlhpcoelfhjomaaGreatDoor
