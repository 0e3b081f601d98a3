/- L -/
import Derived.Lib.SplitLaws
import Derived.Lib.SmallJoins
import Derived.Test.YtgakllaobooabaaGreatDoorXGet
import Derived.Test.YtgakllaobooabaaGreatDoorXB
set_option linter.all false
set_option maxRecDepth 100000
set_option maxHeartbeats 8000000
namespace Go.Proofs.YtgakllaobooabaaGreatDoor
open Go.RowKit Dc Dg
structure Gx (w:World):Prop where
 g:Gw w
 e0:∃ tp p,w.cell? ⟨1,0,none⟩=some (.iface tp p)
 e1:∃ tp p,w.cell? ⟨2,0,none⟩=some (.iface tp p)
theorem Gx.below {w w':World} (h:Gx w) (hb:Below w.heap.size w w'):Gx w':=by
 refine⟨h.g.below hb,?_,?_⟩
 ·obtain⟨tp,p,e⟩:=h.e0;exact⟨tp,p,(hb.cell (AD (by decide) h.g.sz)).trans e⟩
 ·obtain⟨tp,p,e⟩:=h.e1;exact⟨tp,p,(hb.cell (AD (by decide) h.g.sz)).trans e⟩
def fL (s:List UInt8):Bool:=match eM s with | some z=>decide (z.y.n=0) | none=>false
theorem r_ (s:ByteArray) (w:World) (hG:Gw w) :
  Calls Tryz.prog 71 #[.string s] w fun e w'=>∃ b:Bool,e=.returned (.bool b)/\Hid (fL s.data.toList=b)/\Below w.heap.size w w':=by
 go_enter Tryz.func71,Tryz.ntmps71;go_wp2_with fail
 refine (ib s w hG).mono ?_;rintro e w1 ⟨v,ok,rfl,hcase,hb1⟩;rcases hcase with ⟨z,hz,rfl,hv⟩ | ⟨hz,rfl,rfl⟩
 ·have HZ:=At hz;have HB1:=At hb1;clear hz;have hv':=hv;obtain⟨a,b,c,d,e,f,rfl,hx,hy⟩:=hv';obtain⟨xn,xd,ex,hxn,hxd,_,_⟩:=hx;obtain⟨yn,yd,ey,hyn,hyd,_,_⟩:=hy;simp only[Value.agg.injEq,Array.mk.injEq,List.cons.injEq,and_true] at ex ey;obtain⟨rfl,rfl,rfl⟩:=ex;obtain⟨rfl,rfl,rfl⟩:=ey;obtain⟨p1,c1,rfl,_,_,_⟩:=hxn;obtain⟨p2,c2,rfl,_,_,_⟩:=hxd;obtain⟨p3,c3,rfl,_,_,_⟩:=hyn;obtain⟨p4,c4,rfl,_,_,_⟩:=hyd;have hb2:Below w1.heap.size w1 (w1.alloc (.cells #[.bool z.x.minus,.slice p1 (ag BB z.x.n).length c1,.slice p2 (ag BB z.x.d).length c2,.bool z.y.minus,.slice p3 (ag BB z.y.n).length c3,.slice p4 (ag BB z.y.d).length c4] 65)):=(Dv _ _).alloc (AA _) _;have HV:=At (hv.below hb2);have HB2:=At (hb1.trans (hb2.mono hb1.size));clear hv hb1 hb2;go_wp2_with fail
  refine (dh _ z _ (by exact HV.out)).mono ?_;rintro e w3 ⟨rfl,hb3⟩;go_wp2;go_ret;exact⟨_,rfl,by unfold Hid fL;rw[HZ.out],HB2.out.trans (hb3.mono HB2.out.size)⟩
 ·have HZ:=At hz;clear hz;unfold fh;go_wp2;go_ret;exact⟨_,rfl,by unfold Hid fL;rw[HZ.out],hb1.trans (((Dv _ _).alloc (AA _) _).mono hb1.size)⟩
def fH (s:List UInt8):Bool:=match Lib.atoiAll s with | .ok v=>decide (v<=4096) | _=>false
theorem zZ (s:ByteArray) (w:World) (hs:s.size<1000000) (hG:Gx w) :
  Calls Tryz.prog 107 #[.string s] w fun e w'=>∃ (v:Int) (ev:Value),e=.returned (.tuple #[.int .i64 v,ev]) /\
   ((∃ a b,ev=.iface a b/\Hid (fH s.data.toList=false))\/(ev=.nilIface/\Hid (fH s.data.toList=decide (v<=4096))))/\Below w.heap.size w w':=by
 rcases h:Lib.atoiAll s.data.toList with v | _ | _
 ·refine (Tryz.strconv_Atoi_ok s (by omega) v h w).mono ?_;rintro e w' ⟨rfl,hw⟩;refine⟨_,_,rfl,Or.inr ⟨rfl,by unfold Hid fH;rw[h]⟩,?_⟩;rcases hw with rfl | ⟨t,rfl⟩
  ·exact Dv _ _
  ·exact Joins.below_bytesWorld _ _ _ _ (AA _)
 ·obtain⟨tp,p,hv⟩:=hG.e0;refine (Any.strconv_Atoi_syntax Tryz.laysC172 s (by omega) h _ w hv (Or.inr ⟨_,_,rfl⟩)).mono ?_;rintro e w' ⟨N,rfl,_,_,hb⟩;exact⟨_,_,rfl,Or.inl ⟨_,_,rfl,by unfold Hid fH;rw[h]⟩,hb⟩
 ·obtain⟨tp,p,hv⟩:=hG.e1;refine (Tryz.strconv_Atoi_range s (by omega) h _ w hv (Or.inr ⟨_,_,rfl⟩)).mono ?_;rintro e w' ⟨N,rfl,_,_,hb⟩;exact⟨_,_,rfl,Or.inl ⟨_,_,rfl,by unfold Hid fH;rw[h]⟩,hb⟩
def dF (t:ByteArray):List ByteArray:=Lib.splitB ⟨#[47]⟩ 0 (Lib.countB t ⟨#[47]⟩) t
def fi (s:List UInt8):Bool:=(dF ⟨(Lib.trimPrefix s [45]).toArray⟩).all fun p=>fH p.data.toList
theorem pR (sep:ByteArray):∀ (k:Nat) (s p:ByteArray),p∈Lib.splitB sep 0 k s->p.size<=s.size:=by
 intro k
 induction k with
 | zero=>intro s p h;simp[Lib.splitB] at h;subst h;exact AA _
 | succ k ih =>
  intro s p h;unfold Lib.splitB at h
  split at h
  ·simp at h;subst h;exact AA _
  ·rcases Bm.1 h with rfl | h
   ·rw[ByteArray.size_extract];omega
   ·have:=ih _ _ h;rw[ByteArray.size_extract] at this;omega
structure iW (w:World) (k:Nat) (l:List ByteArray):Prop where
 lt:k<w.heap.size
 at_:∀ i (h:i<l.length),w.cell? ⟨k,i,none⟩=some (.string l[i])
theorem iW.below {w w':World}{k:Nat}{l:List ByteArray} (h:iW w k l) (hb:Below w.heap.size w w'):iW w' k l :=
 ⟨AD h.lt hb.size,fun i hi=>(hb.cell (p:=⟨k,i,none⟩) h.lt).trans (h.at_ i hi)⟩
theorem zR (t:ByteArray) (w:World) (hs:t.size<1000000) (hG:Gx w) :
  Calls Tryz.prog 106 #[.string t,.string ⟨#[47]⟩] w fun e w'=>∃ (k n:Nat),e=.returned (.slice (some ⟨k,0,none⟩) n n)/\n=(dF t).length/\0<n/\n<=1000000/\iW w' k (dF t)/\Below w.heap.size w w':=by
 obtain⟨m,hm⟩:=hG.g.ml;refine (Tryz.strings_Split t ⟨#[47]⟩ m w (by omega) hm (by decide)).mono ?_;rintro e w' ⟨rfl,rfl⟩;have hl:(dF t).length=Lib.countB t ⟨#[47]⟩+1:=Lib.splitB_all _ (by decide) _ _ _ rfl;refine⟨_,_,rfl,hl.symm,by omega,?_,⟨by simp,fun i hi=>?_⟩,(Dv _ _).alloc (AA _) _⟩
 ·have:=Lib.countB_le ⟨#[47]⟩ (by decide) t.size t (AA _);omega
 ·exact ap w _ 9 i _ (by rw[CR,BZ];show Option.map Value.string (dF t)[i]?=_;rw[AL hi];rfl)
theorem i6 {l:List ByteArray}{i:Nat} (h:i<l.length) (f:ByteArray->Bool):(l.take (i+1)).all f=((l.take i).all f&&f l[i]):=by
 have e:l.take (i+1)=l.take i++[l[i]]:=(AM h).symm;rw[e,BY];simp
theorem m9 {l:List ByteArray}{i:Nat} (h:i<l.length) (f:ByteArray->Bool) (hf:f l[i]=false):l.all f=false:=by
 rw[Cr];exact⟨l[i],AR h,by rw[hf];exact B4⟩
theorem rx (s:ByteArray) (w:World) (hs:s.size<100000) (hG:Gx w) :
  Calls Tryz.prog 72 #[.string s] w fun e w'=>∃ b:Bool,e=.returned (.bool b)/\Hid (fi s.data.toList=b)/\Below w.heap.size w w':=by
 go_enter Tryz.func72,Tryz.ntmps72;go_wp2_with fail
 refine (pY _ _ w).mono ?_;rintro e w1 ⟨t,rfl,ht,hts,rfl⟩;go_wp2_with fail
 refine (zR t w (by omega) hG).mono ?_;rintro e w1 ⟨k,n,rfl,hn,hn0,hn1,hW,hb1⟩;have HN:=At hn;have hG1:=hG.below hb1;clear hn hG;go_wp2_with fail
 go_loopw [11] (fun s11 wr=>∃ i:Nat,s11=.int .i64 i/\i<=n/\Gx wr/\iW wr k (dF t)/\Below w.heap.size w wr/\Hid (((dF t).take i).all (fun p=>fH p.data.toList)=true)) (fun s11 _=>n-(intOf s11).toNat)
 case atStart=>exact⟨0,rfl,by omega,hG1,hW,hb1,rfl⟩
 case round =>
  clear hG1 hW hb1;obtain⟨i,rfl,hin,hGr,hWr,hbr,hall⟩:=hrel;by_cases hi:i<n
  ·have hil:i<(dF t).length:=by rw[<-HN.out];exact hi
   have hc:=hWr.at_ i hil;have hps:(dF t)[i].size<=t.size:=pR _ _ _ _ (AR hil);obtain⟨p,hp⟩:∃ p,p=(dF t)[i]:=⟨_,rfl⟩;rw[<-hp] at hc hps;have HP:=At hp;clear hp;go_wp2_with fail
   refine (zZ p wr (by omega) hGr).mono ?_;rintro e w2 ⟨v,ev,rfl,hcase,hb2⟩;have hb3:=hbr.trans (hb2.mono hbr.size);have hG2:=hGr.below hb2;have hW2:=hWr.below hb2;clear hb2 hGr hWr hbr hc;rcases hcase with ⟨a,b,rfl,hpart⟩ | ⟨rfl,hpart⟩
   ·go_wp2;go_ret;exact⟨false,rfl,by unfold Hid fi;rw[<-ht.out];exact m9 hil _ (by rw[<-HP.out];exact hpart.out),hb3⟩
   ·by_cases hv:(4096:Int)<v
    ·have hd:decide ((4096:Int)<v)=true:=by simp;omega
     have HV:=At hv;clear hv;go_wp2;go_ret;exact⟨false,rfl,by unfold Hid fi;rw[<-ht.out];exact m9 hil _ (by rw[<-HP.out,hpart.out];simp;exact HV.out),hb3⟩
    ·have hd:decide ((4096:Int)<v)=false:=by simp;omega
     have HV:=At hv;clear hv;go_wp2;go_roundw;case rel=>exact⟨i+1,by go_num,by omega,hG2,hW2,hb3,by unfold Hid;rw[i6 hil,hall.out,<-HP.out,hpart.out];simp;have:=HV.out;omega⟩
     case measure=>simp[intOf];omega
  ·have hin':i=n:=by omega
   subst hin';clear hi;go_wp2;go_ret;exact⟨true,rfl,by have h:=hall.out;rw[HN.out,AX] at h;unfold Hid fi;rw[<-ht.out];exact h,hbr⟩
def bN (s:List UInt8):Bool:=fL s&&fi s
theorem lr {s:List UInt8} (h:fL s=true):s.length<=8008:=by
 unfold fL eM at h;by_cases hl:8008<s.length
 ·rw[if_pos hl] at h;exact absurd h B4
 ·omega
theorem ot (s:ByteArray) (w:World) (hG:Gx w) :
  Calls Tryz.prog 36 #[.string s] w fun e w'=>∃ b:Bool,e=.returned (.bool b)/\Hid (bN s.data.toList=b)/\Below w.heap.size w w':=by
 go_enter Tryz.func36,Tryz.ntmps36;go_wp2_with fail
 refine (r_ s w hG.g).mono ?_;rintro e w1 ⟨b,rfl,hb,hb1⟩;have hG1:=hG.below hb1;clear hG
 cases b
 ·have HB:=At hb.out;clear hb;go_wp2;go_ret;exact⟨_,rfl,by unfold Hid bN;rw[HB.out];rfl,hb1⟩
 ·have HB:=At hb.out;have hsz:=lr hb.out;rw[aQ] at hsz;clear hb;go_wp2_with fail
  refine (rx s w1 (by omega) hG1).mono ?_;rintro e w2 ⟨b,rfl,hb,hb2⟩;go_wp2;go_ret;exact⟨b,rfl,by unfold Hid bN;rw[HB.out,hb.out];rfl,hb1.trans (hb2.mono hb1.size)⟩
structure dV (w:World) (p:Option Addr) (l:List ByteArray):Prop where
 at_:0<l.length->∃ b o,p=some ⟨b,o,none⟩/\b<w.heap.size/\∀ i (h:i<l.length),w.cell? ⟨b,o+i,none⟩=some (.string l[i])
theorem dV.below {w w':World}{p:Option Addr}{l:List ByteArray} (h:dV w p l) (hb:Below w.heap.size w w'):dV w' p l:=by
 refine⟨fun hl=>?_⟩;obtain⟨b,o,e,hlt,hc⟩:=h.at_ hl;exact⟨b,o,e,AD hlt hb.size,fun i hi=>(hb.cell (p:=⟨b,o+i,none⟩) hlt).trans (hc i hi)⟩
def eR (l:List ByteArray):Bool:=decide (1<=l.length)&&decide (l.length<=7)&&l.all fun s=>bN s.data.toList
def oT (l:List ByteArray):Option (List UInt8):=l.head?.map fun s=>s.data.toList
def aq (a b:List ByteArray):Bool:=eR a&&eR b&&decide (oT b=some [49])
theorem mt {l:List ByteArray} (h:l.length<1):eR l=false:=by
 unfold eR;rw[decide_eq_false (by omega)];rfl
theorem lf {l:List ByteArray} (h:7<l.length):eR l=false:=by
 unfold eR;rw[decide_eq_false (by omega:¬ l.length<=7),Bool.and_false];rfl
theorem mr {l:List ByteArray}{i:Nat} (h:i<l.length) (hf:bN l[i].data.toList=false):eR l=false:=by
 unfold eR;rw[m9 h _ hf,Bool.and_false]
theorem le {l:List ByteArray} (h1:1<=l.length) (h2:l.length<=7) (hf:(l.take l.length).all (fun s=>bN s.data.toList)=true):eR l=true:=by
 rw[AX] at hf;unfold eR;rw[decide_eq_true h1,decide_eq_true h2,hf];rfl
theorem tF {l:List ByteArray} (h:eR l=true):0<l.length:=by
 unfold eR at h;simp only[AV,decide_eq_true_eq] at h;omega
theorem r8 {l:List ByteArray} (h:0<l.length):decide (oT l=some [49])=decide (l[0].data.toList=[49]):=by
 match l,h with
 | a :: r,_=>simp[oT]
theorem zh (p0 p1:Option Addr) (c0 c1:Nat) (l0 l1:List ByteArray) (w:World) (h0:dV w p0 l0) (h1:dV w p1 l1) (hG:Gx w) :
  Calls Tryz.prog 10 #[.agg #[.slice p0 l0.length c0,.slice p1 l1.length c1]] w fun e w'=>∃ n:Int,e=.returned (.int .i64 n)/\(n=0/\Hid (aq l0 l1=true)\/n=30/\Hid (aq l0 l1=false))/\Below w.heap.size w w':=by
 have hb0:Below w.heap.size w (w.alloc (.cells #[.slice p0 l0.length c0,.slice p1 l1.length c1] 24)):=(Dv _ _).alloc (AA _) _;have k0:=ap w #[.slice p0 l0.length c0,.slice p1 l1.length c1] 24 0 _ rfl;have k1:=ap w #[.slice p0 l0.length c0,.slice p1 l1.length c1] 24 1 _ rfl;have hlt:w.heap.size<(w.alloc (.cells #[.slice p0 l0.length c0,.slice p1 l1.length c1] 24)).heap.size:=by simp
 have W0:=h0.below hb0;have W1:=h1.below hb0;have G0:=hG.below hb0;clear h0 h1 hG;have i0:∀ w,(Instr.index 73 (.agg #[.slice p0 l0.length c0,.slice p1 l1.length c1]) (.int .i64 0)).run Tryz.prog w=.ok (.slice p0 l0.length c0) w:=fun _=>by kernel_rfl
 have i1:∀ w,(Instr.index 73 (.agg #[.slice p0 l0.length c0,.slice p1 l1.length c1]) (.int .i64 1)).run Tryz.prog w=.ok (.slice p1 l1.length c1) w:=fun _=>by kernel_rfl
 go_enter Tryz.func10,Tryz.ntmps10;go_wp2_with fail
 generalize w.alloc (.cells #[.slice p0 l0.length c0,.slice p1 l1.length c1] 24)=w0 at *
 go_loopw [12] (fun s12 wr=>∃ j:Nat,s12=.int .i64 j/\j<=2/\Gx wr/\dV wr p0 l0/\dV wr p1 l1/\Below w.heap.size w wr/\Below w0.heap.size w0 wr/\Hid ((1<=j->eR l0=true)/\(2<=j->eR l1=true))) (fun s12 _=>2-(intOf s12).toNat)
 case atStart=>exact⟨0,rfl,by omega,G0,W0,W1,hb0,Dv _ _,fun h=>absurd h (by decide),fun h=>absurd h (by decide)⟩
 case round =>
  clear G0 W0 W1 hb0;obtain⟨j,rfl,hj,hGr,hW0,hW1,hbr,hbr0,hdone⟩:=hrel;rcases (by omega:j=0\/j=1\/j=2) with rfl | rfl | rfl
  ·by_cases hfew:l0.length<1
   ·have hd:decide (((l0.length:Nat):Int)<1)=true:=by simp;omega
    have HF:=At hfew;clear hfew;go_wp2;go_ret;exact⟨30,rfl,Or.inr ⟨rfl,by unfold Hid aq;rw[mt (l:=l0) HF.out];simp⟩,hbr⟩
   ·have hd:decide (((l0.length:Nat):Int)<1)=false:=by simp;omega
    have hpos:0<l0.length:=by omega
    clear hfew;by_cases hmany:7<l0.length
    ·have hd2:decide ((7:Int)<((l0.length:Nat):Int))=true:=by simp;omega
     have HF:=At hmany;clear hmany;go_wp2;go_ret;exact⟨30,rfl,Or.inr ⟨rfl,by unfold Hid aq;rw[lf (l:=l0) HF.out];simp⟩,hbr⟩
    ·have hd2:decide ((7:Int)<((l0.length:Nat):Int))=false:=by simp;omega
     have hle:l0.length<=7:=by omega
     clear hmany;go_wp2_with fail
     go_loopw [25] (fun s25 wq=>∃ i:Nat,s25=.int .i64 i/\i<=l0.length/\Gx wq/\dV wq p0 l0/\dV wq p1 l1/\Below w.heap.size w wq/\Below w0.heap.size w0 wq/\Hid ((l0.take i).all (fun s=>bN s.data.toList)=true)) (fun s25 _=>l0.length-(intOf s25).toNat)
     case atStart=>exact⟨0,rfl,by omega,hGr,hW0,hW1,hbr,hbr0,rfl⟩
     case round =>
      clear hGr hW0 hW1 hbr hbr0;obtain⟨i,rfl,hi,hGr,hW0,hW1,hbr,hbr0,hall⟩:=hrel;by_cases hil:i<l0.length
      ·obtain⟨b,o,rfl,hbw,hc⟩:=hW0.at_ hpos;have hci:=hc i hil;obtain⟨p,hp⟩:∃ p,p=l0[i]:=⟨_,rfl⟩;rw[<-hp] at hci;have HP:=At hp;clear hp hc;go_wp2_with fail
       refine (ot p _ hGr).mono ?_;rintro e w2 ⟨b2,rfl,hb2,hbl2⟩;have hb3:=hbr.trans (hbl2.mono hbr.size)
       cases b2
       ·go_wp2;go_ret;exact⟨30,rfl,Or.inr ⟨rfl,by unfold Hid aq;rw[mr (l:=l0) hil (by rw[<-HP.out];exact hb2.out)];simp⟩,hb3⟩
       ·have hb4:=hbr0.trans (hbl2.mono hbr0.size);have hG2:=hGr.below hbl2;have hV0:=hW0.below hbl2;have hV1:=hW1.below hbl2;clear hGr hW0 hW1 hbr hbr0 hbl2 hci;go_wp2;go_roundw
        case rel =>
         (repeat apply Exists.intro)
         exact⟨⟨i+1,by go_num,by omega,hG2,hV0,hV1,hb3,hb4,by unfold Hid;rw[i6 hil,hall.out,<-HP.out,hb2.out];rfl⟩,rfl⟩
        case measure=>simp[intOf];omega
      ·have hie:i=l0.length:=by omega
       subst hie;have hgood:=le (l:=l0) (by omega) (by omega) hall.out;have HGOOD:=At hgood;clear hil hi hgood;go_wp2;go_roundw;case rel=>exact⟨1,by go_num,by omega,hGr,hW0,hW1,hbr,hbr0,⟨fun _=>HGOOD.out,fun h=>absurd h (by decide)⟩⟩
       case measure=>simp[intOf]
  ·by_cases hfew:l1.length<1
   ·have hd:decide (((l1.length:Nat):Int)<1)=true:=by simp;omega
    have HF:=At hfew;clear hfew;go_wp2;go_ret;exact⟨30,rfl,Or.inr ⟨rfl,by unfold Hid aq;rw[mt (l:=l1) HF.out];simp⟩,hbr⟩
   ·have hd:decide (((l1.length:Nat):Int)<1)=false:=by simp;omega
    have hpos:0<l1.length:=by omega
    clear hfew;by_cases hmany:7<l1.length
    ·have hd2:decide ((7:Int)<((l1.length:Nat):Int))=true:=by simp;omega
     have HF:=At hmany;clear hmany;go_wp2;go_ret;exact⟨30,rfl,Or.inr ⟨rfl,by unfold Hid aq;rw[lf (l:=l1) HF.out];simp⟩,hbr⟩
    ·have hd2:decide ((7:Int)<((l1.length:Nat):Int))=false:=by simp;omega
     have hle:l1.length<=7:=by omega
     clear hmany;go_wp2_with fail
     go_loopw [25] (fun s25 wq=>∃ i:Nat,s25=.int .i64 i/\i<=l1.length/\Gx wq/\dV wq p0 l0/\dV wq p1 l1/\Below w.heap.size w wq/\Below w0.heap.size w0 wq/\Hid ((l1.take i).all (fun s=>bN s.data.toList)=true)) (fun s25 _=>l1.length-(intOf s25).toNat)
     case atStart=>exact⟨0,rfl,by omega,hGr,hW0,hW1,hbr,hbr0,rfl⟩
     case round =>
      clear hGr hW0 hW1 hbr hbr0;obtain⟨i,rfl,hi,hGr,hW0,hW1,hbr,hbr0,hall⟩:=hrel;by_cases hil:i<l1.length
      ·obtain⟨b,o,rfl,hbw,hc⟩:=hW1.at_ hpos;have hci:=hc i hil;obtain⟨p,hp⟩:∃ p,p=l1[i]:=⟨_,rfl⟩;rw[<-hp] at hci;have HP:=At hp;clear hp hc;go_wp2_with fail
       refine (ot p _ hGr).mono ?_;rintro e w2 ⟨b2,rfl,hb2,hbl2⟩;have hb3:=hbr.trans (hbl2.mono hbr.size)
       cases b2
       ·go_wp2;go_ret;exact⟨30,rfl,Or.inr ⟨rfl,by unfold Hid aq;rw[mr (l:=l1) hil (by rw[<-HP.out];exact hb2.out)];simp⟩,hb3⟩
       ·have hb4:=hbr0.trans (hbl2.mono hbr0.size);have hG2:=hGr.below hbl2;have hV0:=hW0.below hbl2;have hV1:=hW1.below hbl2;clear hGr hW0 hW1 hbr hbr0 hbl2 hci;go_wp2;go_roundw
        case rel =>
         (repeat apply Exists.intro)
         exact⟨⟨i+1,by go_num,by omega,hG2,hV0,hV1,hb3,hb4,by unfold Hid;rw[i6 hil,hall.out,<-HP.out,hb2.out];rfl⟩,rfl⟩
        case measure=>simp[intOf];omega
      ·have hie:i=l1.length:=by omega
       subst hie;have hgood:=le (l:=l1) (by omega) (by omega) hall.out;have HGOOD:=At hgood;clear hil hi hgood;go_wp2;go_roundw;case rel=>exact⟨2,by go_num,by omega,hGr,hW0,hW1,hbr,hbr0,⟨fun _=>hdone.out.1 (by decide),fun _=>HGOOD.out⟩⟩
       case measure=>simp[intOf]
  ·have g0:=hdone.out.1 (by decide);have g1:=hdone.out.2 (by decide);have hpos:=tF g1;have H0:=At g0;have H1:=At g1;have k1':=(hbr0.cell (p:=⟨w.heap.size,1,none⟩) hlt).trans k1;obtain⟨b,o,rfl,hbw,hc⟩:=hW1.at_ hpos;have hci:wr.cell? ⟨b,o,none⟩=some (.string l1[0]):=hc 0 hpos;obtain⟨p,hp⟩:∃ p,p=l1[0]:=⟨_,rfl⟩;rw[<-hp] at hci;have HP:=At hp;have hposI:(0:Int)<((l1.length:Nat):Int):=by omega
   clear hp hc g0 g1 hdone k0 k1 i0 i1;by_cases heq:p.toList=[49]
   ·have z1:(p.toList == [49])=true:=by simp[heq]
    have z2:(p.toList != [49])=false:=by simp[heq]
    have z3:decide (p.toList=[49])=true:=by simp[heq]
    have HE:=At heq;clear heq;go_wp2;go_ret;exact⟨0,rfl,Or.inl ⟨rfl,by unfold Hid aq;rw[H0.out,H1.out,r8 hpos,decide_eq_true (by rw[<-HP.out,<-ak];exact HE.out)];rfl⟩,hbr⟩
   ·have z1:(p.toList == [49])=false:=by simp[heq]
    have z2:(p.toList != [49])=true:=by simp[heq]
    have z3:decide (p.toList=[49])=false:=by simp[heq]
    have HE:=At heq;clear heq;go_wp2;go_ret;exact⟨30,rfl,Or.inr ⟨rfl,by unfold Hid aq;rw[H0.out,H1.out,r8 hpos,decide_eq_false (by rw[<-HP.out,<-ak];exact HE.out)];rfl⟩,hbr⟩
theorem xV:dec 1=[49]:=by rw[dec_lt (by decide)];rfl
theorem uY:dec 0=[48]:=by rw[dec_lt (by decide)];rfl
theorem j0:bH [48]=some ⟨false,0,1⟩:=by rfl
theorem il:cO ⟨false,0,1⟩=false:=by unfold cO;simp[xV,uY]
end Go.Proofs.YtgakllaobooabaaGreatDoor
