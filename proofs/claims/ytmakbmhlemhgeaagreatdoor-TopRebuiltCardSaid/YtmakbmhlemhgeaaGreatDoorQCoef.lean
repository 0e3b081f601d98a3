/- L -/
import Derived.Lib.SplitLaws
import Derived.Lib.SmallJoins
import Derived.Test.YtmakbmhlemhgeaaGreatDoorQGet
import Derived.Test.YtmakbmhlemhgeaaGreatDoorQB
set_option linter.all false
set_option maxRecDepth 100000
set_option maxHeartbeats 8000000
namespace Go.Proofs.YtmakbmhlemhgeaaGreatDoor
open Go.RowKit Dc Dg
structure Gx (w:World):Prop where
 g:Gw w
 e0:∃ tp p,w.cell? ⟨0,0,none⟩=some (.iface tp p)
 e1:∃ tp p,w.cell? ⟨1,0,none⟩=some (.iface tp p)
theorem Gx.below {w w':World} (h:Gx w) (hb:Below w.heap.size w w'):Gx w':=by
 refine⟨h.g.below hb,?_,?_⟩
 ·obtain⟨tp,p,e⟩:=h.e0;exact⟨tp,p,(hb.cell (rA (by decide) h.g.sz)).trans e⟩
 ·obtain⟨tp,p,e⟩:=h.e1;exact⟨tp,p,(hb.cell (rA (by decide) h.g.sz)).trans e⟩
def fz (s:List UInt8):Bool:=match dw s with | some z=>decide (z.y.n=0) | none=>false
theorem o5 (s:ByteArray) (w:World) (hG:Gw w) :
  Calls Tryz.prog 66 #[.string s] w fun e w'=>∃ b:Bool,e=.returned (.bool b)/\Hid (fz s.data.toList=b)/\Below w.heap.size w w':=by
 go_enter Tryz.func66,Tryz.ntmps66;go_wp2_with fail
 refine (fT s w hG).mono ?_;rintro e w1 ⟨v,ok,rfl,hcase,hb1⟩;rcases hcase with ⟨z,hz,rfl,hv⟩ | ⟨hz,rfl,rfl⟩
 ·have HZ:=ri hz;have HB1:=ri hb1;clear hz;have hv':=hv;obtain⟨a,b,c,d,e,f,rfl,hx,hy⟩:=hv';obtain⟨xn,xd,ex,hxn,hxd,_,_⟩:=hx;obtain⟨yn,yd,ey,hyn,hyd,_,_⟩:=hy;simp only[Value.agg.injEq,Array.mk.injEq,List.cons.injEq,and_true] at ex ey;obtain⟨rfl,rfl,rfl⟩:=ex;obtain⟨rfl,rfl,rfl⟩:=ey;obtain⟨p1,c1,rfl,_,_,_⟩:=hxn;obtain⟨p2,c2,rfl,_,_,_⟩:=hxd;obtain⟨p3,c3,rfl,_,_,_⟩:=hyn;obtain⟨p4,c4,rfl,_,_,_⟩:=hyd;have hb2:Below w1.heap.size w1 (w1.alloc (.cells #[.bool z.x.minus,.slice p1 (aa BB z.x.n).length c1,.slice p2 (aa BB z.x.d).length c2,.bool z.y.minus,.slice p3 (aa BB z.y.n).length c3,.slice p4 (aa BB z.y.d).length c4] 110)):=(t_ _ _).alloc (rp _) _;have HV:=ri (hv.below hb2);have HB2:=ri (hb1.trans (hb2.mono hb1.size));clear hv hb1 hb2;go_wp2_with fail
  refine (bK _ z _ (by exact HV.out)).mono ?_;rintro e w3 ⟨rfl,hb3⟩;go_wp2;go_ret;exact⟨_,rfl,by unfold Hid fz;rw[HZ.out],HB2.out.trans (hb3.mono HB2.out.size)⟩
 ·have HZ:=ri hz;clear hz;unfold di;go_wp2;go_ret;exact⟨_,rfl,by unfold Hid fz;rw[HZ.out],hb1.trans (((t_ _ _).alloc (rp _) _).mono hb1.size)⟩
def gG (s:List UInt8):Bool:=match Lib.atoiAll s with | .ok v=>decide (v<=4096) | _=>false
theorem qO (s:ByteArray) (w:World) (hs:s.size<1000000) (hG:Gx w) :
  Calls Tryz.prog 125 #[.string s] w fun e w'=>∃ (v:Int) (ev:Value),e=.returned (.tuple #[.int .i64 v,ev]) /\
   ((∃ a b,ev=.iface a b/\Hid (gG s.data.toList=false))\/(ev=.nilIface/\Hid (gG s.data.toList=decide (v<=4096))))/\Below w.heap.size w w':=by
 rcases h:Lib.atoiAll s.data.toList with v | _ | _
 ·refine (Tryz.strconv_Atoi_ok s (by omega) v h w).mono ?_;rintro e w' ⟨rfl,hw⟩;refine⟨_,_,rfl,Or.inr ⟨rfl,by unfold Hid gG;rw[h]⟩,?_⟩;rcases hw with rfl | ⟨t,rfl⟩
  ·exact t_ _ _
  ·exact Joins.below_bytesWorld _ _ _ _ (rp _)
 ·obtain⟨tp,p,hv⟩:=hG.e0;refine (Any.strconv_Atoi_syntax Tryz.laysC172 s (by omega) h _ w hv (Or.inr ⟨_,_,rfl⟩)).mono ?_;rintro e w' ⟨N,rfl,_,_,hb⟩;exact⟨_,_,rfl,Or.inl ⟨_,_,rfl,by unfold Hid gG;rw[h]⟩,hb⟩
 ·obtain⟨tp,p,hv⟩:=hG.e1;refine (Tryz.strconv_Atoi_range s (by omega) h _ w hv (Or.inr ⟨_,_,rfl⟩)).mono ?_;rintro e w' ⟨N,rfl,_,_,hb⟩;exact⟨_,_,rfl,Or.inl ⟨_,_,rfl,by unfold Hid gG;rw[h]⟩,hb⟩
def cP (t:ByteArray):List ByteArray:=Lib.splitB ⟨#[47]⟩ 0 (Lib.countB t ⟨#[47]⟩) t
def gO (s:List UInt8):Bool:=(cP ⟨(Lib.trimPrefix s [45]).toArray⟩).all fun p=>gG p.data.toList
theorem j_ (sep:ByteArray):∀ (k:Nat) (s p:ByteArray),p∈Lib.splitB sep 0 k s->p.size<=s.size:=by
 intro k
 induction k with
 | zero=>intro s p h;simp[Lib.splitB] at h;subst h;exact rp _
 | succ k ih =>
  intro s p h;unfold Lib.splitB at h
  split at h
  ·simp at h;subst h;exact rp _
  ·rcases sU.1 h with rfl | h
   ·rw[ByteArray.size_extract];omega
   ·have:=ih _ _ h;rw[ByteArray.size_extract] at this;omega
structure eo (w:World) (k:Nat) (l:List ByteArray):Prop where
 lt:k<w.heap.size
 at_:∀ i (h:i<l.length),w.cell? ⟨k,i,none⟩=some (.string l[i])
theorem eo.below {w w':World}{k:Nat}{l:List ByteArray} (h:eo w k l) (hb:Below w.heap.size w w'):eo w' k l :=
 ⟨rA h.lt hb.size,fun i hi=>(hb.cell (p:=⟨k,i,none⟩) h.lt).trans (h.at_ i hi)⟩
theorem qG (t:ByteArray) (w:World) (hs:t.size<1000000) (hG:Gx w) :
  Calls Tryz.prog 123 #[.string t,.string ⟨#[47]⟩] w fun e w'=>∃ (k n:Nat),e=.returned (.slice (some ⟨k,0,none⟩) n n)/\n=(cP t).length/\0<n/\n<=1000000/\eo w' k (cP t)/\Below w.heap.size w w':=by
 obtain⟨m,hm⟩:=hG.g.ml;refine (Tryz.strings_Split t ⟨#[47]⟩ m w (by omega) hm (by decide)).mono ?_;rintro e w' ⟨rfl,rfl⟩;have hl:(cP t).length=Lib.countB t ⟨#[47]⟩+1:=Lib.splitB_all _ (by decide) _ _ _ rfl;refine⟨_,_,rfl,hl.symm,by omega,?_,⟨by simp,fun i hi=>?_⟩,(t_ _ _).alloc (rp _) _⟩
 ·have:=Lib.countB_le ⟨#[47]⟩ (by decide) t.size t (rp _);omega
 ·exact ah w _ 9 i _ (by rw[tg,sD];show Option.map Value.string (cP t)[i]?=_;rw[ry hi];rfl)
theorem eu {l:List ByteArray}{i:Nat} (h:i<l.length) (f:ByteArray->Bool):(l.take (i+1)).all f=((l.take i).all f&&f l[i]):=by
 have e:l.take (i+1)=l.take i++[l[i]]:=(rL h).symm;rw[e,tk];simp
theorem iP {l:List ByteArray}{i:Nat} (h:i<l.length) (f:ByteArray->Bool) (hf:f l[i]=false):l.all f=false:=by
 rw[List.all_eq_false];exact⟨l[i],rU h,by rw[hf];exact sF⟩
theorem qF (s:ByteArray) (w:World) (hs:s.size<100000) (hG:Gx w) :
  Calls Tryz.prog 67 #[.string s] w fun e w'=>∃ b:Bool,e=.returned (.bool b)/\Hid (gO s.data.toList=b)/\Below w.heap.size w w':=by
 go_enter Tryz.func67,Tryz.ntmps67;go_wp2_with fail
 refine (kl _ _ w).mono ?_;rintro e w1 ⟨t,rfl,ht,hts,rfl⟩;go_wp2_with fail
 refine (qG t w (by omega) hG).mono ?_;rintro e w1 ⟨k,n,rfl,hn,hn0,hn1,hW,hb1⟩;have HN:=ri hn;have hG1:=hG.below hb1;clear hn hG;go_wp2_with fail
 go_loopw [11] (fun s11 wr=>∃ i:Nat,s11=.int .i64 i/\i<=n/\Gx wr/\eo wr k (cP t)/\Below w.heap.size w wr/\Hid (((cP t).take i).all (fun p=>gG p.data.toList)=true)) (fun s11 _=>n-(intOf s11).toNat)
 case atStart=>exact⟨0,rfl,by omega,hG1,hW,hb1,rfl⟩
 case round =>
  clear hG1 hW hb1;obtain⟨i,rfl,hin,hGr,hWr,hbr,hall⟩:=hrel;by_cases hi:i<n
  ·have hil:i<(cP t).length:=by rw[<-HN.out];exact hi
   have hc:=hWr.at_ i hil;have hps:(cP t)[i].size<=t.size:=j_ _ _ _ _ (rU hil);obtain⟨p,hp⟩:∃ p,p=(cP t)[i]:=⟨_,rfl⟩;rw[<-hp] at hc hps;have HP:=ri hp;clear hp;go_wp2_with fail
   refine (qO p wr (by omega) hGr).mono ?_;rintro e w2 ⟨v,ev,rfl,hcase,hb2⟩;have hb3:=hbr.trans (hb2.mono hbr.size);have hG2:=hGr.below hb2;have hW2:=hWr.below hb2;clear hb2 hGr hWr hbr hc;rcases hcase with ⟨a,b,rfl,hpart⟩ | ⟨rfl,hpart⟩
   ·go_wp2;go_ret;exact⟨false,rfl,by unfold Hid gO;rw[<-ht.out];exact iP hil _ (by rw[<-HP.out];exact hpart.out),hb3⟩
   ·by_cases hv:(4096:Int)<v
    ·have hd:decide ((4096:Int)<v)=true:=by simp;omega
     have HV:=ri hv;clear hv;go_wp2;go_ret;exact⟨false,rfl,by unfold Hid gO;rw[<-ht.out];exact iP hil _ (by rw[<-HP.out,hpart.out];simp;exact HV.out),hb3⟩
    ·have hd:decide ((4096:Int)<v)=false:=by simp;omega
     have HV:=ri hv;clear hv;go_wp2;go_roundw;case rel=>exact⟨i+1,by go_num,by omega,hG2,hW2,hb3,by unfold Hid;rw[eu hil,hall.out,<-HP.out,hpart.out];simp;have:=HV.out;omega⟩
     case measure=>simp[intOf];omega
  ·have hin':i=n:=by omega
   subst hin';clear hi;go_wp2;go_ret;exact⟨true,rfl,by have h:=hall.out;rw[HN.out,r_] at h;unfold Hid gO;rw[<-ht.out];exact h,hbr⟩
def bn (s:List UInt8):Bool:=fz s&&gO s
theorem kM {s:List UInt8} (h:fz s=true):s.length<=8008:=by
 unfold fz dw at h;by_cases hl:8008<s.length
 ·rw[if_pos hl] at h;exact absurd h sF
 ·omega
theorem mS (s:ByteArray) (w:World) (hG:Gx w) :
  Calls Tryz.prog 25 #[.string s] w fun e w'=>∃ b:Bool,e=.returned (.bool b)/\Hid (bn s.data.toList=b)/\Below w.heap.size w w':=by
 go_enter Tryz.func25,Tryz.ntmps25;go_wp2_with fail
 refine (o5 s w hG.g).mono ?_;rintro e w1 ⟨b,rfl,hb,hb1⟩;have hG1:=hG.below hb1;clear hG
 cases b
 ·have HB:=ri hb.out;clear hb;go_wp2;go_ret;exact⟨_,rfl,by unfold Hid bn;rw[HB.out];rfl,hb1⟩
 ·have HB:=ri hb.out;have hsz:=kM hb.out;rw[au] at hsz;clear hb;go_wp2_with fail
  refine (qF s w1 (by omega) hG1).mono ?_;rintro e w2 ⟨b,rfl,hb,hb2⟩;go_wp2;go_ret;exact⟨b,rfl,by unfold Hid bn;rw[HB.out,hb.out];rfl,hb1.trans (hb2.mono hb1.size)⟩
structure bY (w:World) (p:Option Addr) (l:List ByteArray):Prop where
 at_:0<l.length->∃ b o,p=some ⟨b,o,none⟩/\b<w.heap.size/\∀ i (h:i<l.length),w.cell? ⟨b,o+i,none⟩=some (.string l[i])
theorem bY.below {w w':World}{p:Option Addr}{l:List ByteArray} (h:bY w p l) (hb:Below w.heap.size w w'):bY w' p l:=by
 refine⟨fun hl=>?_⟩;obtain⟨b,o,e,hlt,hc⟩:=h.at_ hl;exact⟨b,o,e,rA hlt hb.size,fun i hi=>(hb.cell (p:=⟨b,o+i,none⟩) hlt).trans (hc i hi)⟩
def bD (l:List ByteArray):Bool:=decide (1<=l.length)&&decide (l.length<=7)&&l.all fun s=>bn s.data.toList
def lg (l:List ByteArray):Option (List UInt8):=l.head?.map fun s=>s.data.toList
def ax (a b:List ByteArray):Bool:=bD a&&bD b&&decide (lg b=some [49])
theorem io {l:List ByteArray} (h:l.length<1):bD l=false:=by
 unfold bD;rw[decide_eq_false (by omega)];rfl
theorem gB {l:List ByteArray} (h:7<l.length):bD l=false:=by
 unfold bD;rw[decide_eq_false (by omega:¬ l.length<=7),Bool.and_false];rfl
theorem il {l:List ByteArray}{i:Nat} (h:i<l.length) (hf:bn l[i].data.toList=false):bD l=false:=by
 unfold bD;rw[iP h _ hf,Bool.and_false]
theorem gA {l:List ByteArray} (h1:1<=l.length) (h2:l.length<=7) (hf:(l.take l.length).all (fun s=>bn s.data.toList)=true):bD l=true:=by
 rw[r_] at hf;unfold bD;rw[decide_eq_true h1,decide_eq_true h2,hf];rfl
theorem l7 {l:List ByteArray} (h:bD l=true):0<l.length:=by
 unfold bD at h;simp only[rS,decide_eq_true_eq] at h;omega
theorem lh {l:List ByteArray} (h:0<l.length):decide (lg l=some [49])=decide (l[0].data.toList=[49]):=by
 match l,h with
 | a :: r,_=>simp[lg]
theorem p_ (p0 p1:Option Addr) (c0 c1:Nat) (l0 l1:List ByteArray) (w:World) (h0:bY w p0 l0) (h1:bY w p1 l1) (hG:Gx w) :
  Calls Tryz.prog 24 #[.agg #[.slice p0 l0.length c0,.slice p1 l1.length c1]] w fun e w'=>∃ n:Int,e=.returned (.int .i64 n)/\(n=0/\Hid (ax l0 l1=true)\/n=30/\Hid (ax l0 l1=false))/\Below w.heap.size w w':=by
 have hb0:Below w.heap.size w (w.alloc (.cells #[.slice p0 l0.length c0,.slice p1 l1.length c1] 34)):=(t_ _ _).alloc (rp _) _;have k0:=ah w #[.slice p0 l0.length c0,.slice p1 l1.length c1] 34 0 _ rfl;have k1:=ah w #[.slice p0 l0.length c0,.slice p1 l1.length c1] 34 1 _ rfl;have hlt:w.heap.size<(w.alloc (.cells #[.slice p0 l0.length c0,.slice p1 l1.length c1] 34)).heap.size:=by simp
 have W0:=h0.below hb0;have W1:=h1.below hb0;have G0:=hG.below hb0;clear h0 h1 hG;have i0:∀ w,(Instr.index 117 (.agg #[.slice p0 l0.length c0,.slice p1 l1.length c1]) (.int .i64 0)).run Tryz.prog w=.ok (.slice p0 l0.length c0) w:=fun _=>by kernel_rfl
 have i1:∀ w,(Instr.index 117 (.agg #[.slice p0 l0.length c0,.slice p1 l1.length c1]) (.int .i64 1)).run Tryz.prog w=.ok (.slice p1 l1.length c1) w:=fun _=>by kernel_rfl
 go_enter Tryz.func24,Tryz.ntmps24;go_wp2_with fail
 generalize w.alloc (.cells #[.slice p0 l0.length c0,.slice p1 l1.length c1] 34)=w0 at *
 go_loopw [12] (fun s12 wr=>∃ j:Nat,s12=.int .i64 j/\j<=2/\Gx wr/\bY wr p0 l0/\bY wr p1 l1/\Below w.heap.size w wr/\Below w0.heap.size w0 wr/\Hid ((1<=j->bD l0=true)/\(2<=j->bD l1=true))) (fun s12 _=>2-(intOf s12).toNat)
 case atStart=>exact⟨0,rfl,by omega,G0,W0,W1,hb0,t_ _ _,fun h=>absurd h (by decide),fun h=>absurd h (by decide)⟩
 case round =>
  clear G0 W0 W1 hb0;obtain⟨j,rfl,hj,hGr,hW0,hW1,hbr,hbr0,hdone⟩:=hrel;rcases (by omega:j=0\/j=1\/j=2) with rfl | rfl | rfl
  ·by_cases hfew:l0.length<1
   ·have hd:decide (((l0.length:Nat):Int)<1)=true:=by simp;omega
    have HF:=ri hfew;clear hfew;go_wp2;go_ret;exact⟨30,rfl,Or.inr ⟨rfl,by unfold Hid ax;rw[io (l:=l0) HF.out];simp⟩,hbr⟩
   ·have hd:decide (((l0.length:Nat):Int)<1)=false:=by simp;omega
    have hpos:0<l0.length:=by omega
    clear hfew;by_cases hmany:7<l0.length
    ·have hd2:decide ((7:Int)<((l0.length:Nat):Int))=true:=by simp;omega
     have HF:=ri hmany;clear hmany;go_wp2;go_ret;exact⟨30,rfl,Or.inr ⟨rfl,by unfold Hid ax;rw[gB (l:=l0) HF.out];simp⟩,hbr⟩
    ·have hd2:decide ((7:Int)<((l0.length:Nat):Int))=false:=by simp;omega
     have hle:l0.length<=7:=by omega
     clear hmany;go_wp2_with fail
     go_loopw [25] (fun s25 wq=>∃ i:Nat,s25=.int .i64 i/\i<=l0.length/\Gx wq/\bY wq p0 l0/\bY wq p1 l1/\Below w.heap.size w wq/\Below w0.heap.size w0 wq/\Hid ((l0.take i).all (fun s=>bn s.data.toList)=true)) (fun s25 _=>l0.length-(intOf s25).toNat)
     case atStart=>exact⟨0,rfl,by omega,hGr,hW0,hW1,hbr,hbr0,rfl⟩
     case round =>
      clear hGr hW0 hW1 hbr hbr0;obtain⟨i,rfl,hi,hGr,hW0,hW1,hbr,hbr0,hall⟩:=hrel;by_cases hil:i<l0.length
      ·obtain⟨b,o,rfl,hbw,hc⟩:=hW0.at_ hpos;have hci:=hc i hil;obtain⟨p,hp⟩:∃ p,p=l0[i]:=⟨_,rfl⟩;rw[<-hp] at hci;have HP:=ri hp;clear hp hc;go_wp2_with fail
       refine (mS p _ hGr).mono ?_;rintro e w2 ⟨b2,rfl,hb2,hbl2⟩;have hb3:=hbr.trans (hbl2.mono hbr.size)
       cases b2
       ·go_wp2;go_ret;exact⟨30,rfl,Or.inr ⟨rfl,by unfold Hid ax;rw[il (l:=l0) hil (by rw[<-HP.out];exact hb2.out)];simp⟩,hb3⟩
       ·have hb4:=hbr0.trans (hbl2.mono hbr0.size);have hG2:=hGr.below hbl2;have hV0:=hW0.below hbl2;have hV1:=hW1.below hbl2;clear hGr hW0 hW1 hbr hbr0 hbl2 hci;go_wp2;go_roundw
        case rel =>
         (repeat apply Exists.intro)
         exact⟨⟨i+1,by go_num,by omega,hG2,hV0,hV1,hb3,hb4,by unfold Hid;rw[eu hil,hall.out,<-HP.out,hb2.out];rfl⟩,rfl⟩
        case measure=>simp[intOf];omega
      ·have hie:i=l0.length:=by omega
       subst hie;have hgood:=gA (l:=l0) (by omega) (by omega) hall.out;have HGOOD:=ri hgood;clear hil hi hgood;go_wp2;go_roundw;case rel=>exact⟨1,by go_num,by omega,hGr,hW0,hW1,hbr,hbr0,⟨fun _=>HGOOD.out,fun h=>absurd h (by decide)⟩⟩
       case measure=>simp[intOf]
  ·by_cases hfew:l1.length<1
   ·have hd:decide (((l1.length:Nat):Int)<1)=true:=by simp;omega
    have HF:=ri hfew;clear hfew;go_wp2;go_ret;exact⟨30,rfl,Or.inr ⟨rfl,by unfold Hid ax;rw[io (l:=l1) HF.out];simp⟩,hbr⟩
   ·have hd:decide (((l1.length:Nat):Int)<1)=false:=by simp;omega
    have hpos:0<l1.length:=by omega
    clear hfew;by_cases hmany:7<l1.length
    ·have hd2:decide ((7:Int)<((l1.length:Nat):Int))=true:=by simp;omega
     have HF:=ri hmany;clear hmany;go_wp2;go_ret;exact⟨30,rfl,Or.inr ⟨rfl,by unfold Hid ax;rw[gB (l:=l1) HF.out];simp⟩,hbr⟩
    ·have hd2:decide ((7:Int)<((l1.length:Nat):Int))=false:=by simp;omega
     have hle:l1.length<=7:=by omega
     clear hmany;go_wp2_with fail
     go_loopw [25] (fun s25 wq=>∃ i:Nat,s25=.int .i64 i/\i<=l1.length/\Gx wq/\bY wq p0 l0/\bY wq p1 l1/\Below w.heap.size w wq/\Below w0.heap.size w0 wq/\Hid ((l1.take i).all (fun s=>bn s.data.toList)=true)) (fun s25 _=>l1.length-(intOf s25).toNat)
     case atStart=>exact⟨0,rfl,by omega,hGr,hW0,hW1,hbr,hbr0,rfl⟩
     case round =>
      clear hGr hW0 hW1 hbr hbr0;obtain⟨i,rfl,hi,hGr,hW0,hW1,hbr,hbr0,hall⟩:=hrel;by_cases hil:i<l1.length
      ·obtain⟨b,o,rfl,hbw,hc⟩:=hW1.at_ hpos;have hci:=hc i hil;obtain⟨p,hp⟩:∃ p,p=l1[i]:=⟨_,rfl⟩;rw[<-hp] at hci;have HP:=ri hp;clear hp hc;go_wp2_with fail
       refine (mS p _ hGr).mono ?_;rintro e w2 ⟨b2,rfl,hb2,hbl2⟩;have hb3:=hbr.trans (hbl2.mono hbr.size)
       cases b2
       ·go_wp2;go_ret;exact⟨30,rfl,Or.inr ⟨rfl,by unfold Hid ax;rw[il (l:=l1) hil (by rw[<-HP.out];exact hb2.out)];simp⟩,hb3⟩
       ·have hb4:=hbr0.trans (hbl2.mono hbr0.size);have hG2:=hGr.below hbl2;have hV0:=hW0.below hbl2;have hV1:=hW1.below hbl2;clear hGr hW0 hW1 hbr hbr0 hbl2 hci;go_wp2;go_roundw
        case rel =>
         (repeat apply Exists.intro)
         exact⟨⟨i+1,by go_num,by omega,hG2,hV0,hV1,hb3,hb4,by unfold Hid;rw[eu hil,hall.out,<-HP.out,hb2.out];rfl⟩,rfl⟩
        case measure=>simp[intOf];omega
      ·have hie:i=l1.length:=by omega
       subst hie;have hgood:=gA (l:=l1) (by omega) (by omega) hall.out;have HGOOD:=ri hgood;clear hil hi hgood;go_wp2;go_roundw;case rel=>exact⟨2,by go_num,by omega,hGr,hW0,hW1,hbr,hbr0,⟨fun _=>hdone.out.1 (by decide),fun _=>HGOOD.out⟩⟩
       case measure=>simp[intOf]
  ·have g0:=hdone.out.1 (by decide);have g1:=hdone.out.2 (by decide);have hpos:=l7 g1;have H0:=ri g0;have H1:=ri g1;have k1':=(hbr0.cell (p:=⟨w.heap.size,1,none⟩) hlt).trans k1;obtain⟨b,o,rfl,hbw,hc⟩:=hW1.at_ hpos;have hci:wr.cell? ⟨b,o,none⟩=some (.string l1[0]):=hc 0 hpos;obtain⟨p,hp⟩:∃ p,p=l1[0]:=⟨_,rfl⟩;rw[<-hp] at hci;have HP:=ri hp;have hposI:(0:Int)<((l1.length:Nat):Int):=by omega
   clear hp hc g0 g1 hdone k0 k1 i0 i1;by_cases heq:p.toList=[49]
   ·have z1:(p.toList == [49])=true:=by simp[heq]
    have z2:(p.toList != [49])=false:=by simp[heq]
    have z3:decide (p.toList=[49])=true:=by simp[heq]
    have HE:=ri heq;clear heq;go_wp2;go_ret;exact⟨0,rfl,Or.inl ⟨rfl,by unfold Hid ax;rw[H0.out,H1.out,lh hpos,decide_eq_true (by rw[<-HP.out,<-ak];exact HE.out)];rfl⟩,hbr⟩
   ·have z1:(p.toList == [49])=false:=by simp[heq]
    have z2:(p.toList != [49])=true:=by simp[heq]
    have z3:decide (p.toList=[49])=false:=by simp[heq]
    have HE:=ri heq;clear heq;go_wp2;go_ret;exact⟨30,rfl,Or.inr ⟨rfl,by unfold Hid ax;rw[H0.out,H1.out,lh hpos,decide_eq_false (by rw[<-HP.out,<-ak];exact HE.out)];rfl⟩,hbr⟩
theorem oS:dec 1=[49]:=by rw[cr (by decide)];rfl
theorem mV:dec 0=[48]:=by rw[cr (by decide)];rfl
theorem jZ:aY [48]=some ⟨false,0,1⟩:=by rfl
theorem iC:bV ⟨false,0,1⟩=false:=by unfold bV;simp[oS,mV]
end Go.Proofs.YtmakbmhlemhgeaaGreatDoor
