/- L -/
import Derived.Test.YtlhpcoelfhjomaaGreatDoorQRBase
set_option linter.all false
set_option maxRecDepth 100000
set_option maxHeartbeats 8000000
namespace Go.Proofs.YtlhpcoelfhjomaaGreatDoor
open Go.RowKit Dg
theorem AO {l m:List Nat} (hl:CR l) (hm:CR m) (h:l.length<m.length):dC (val RR l) (val RR m)=-1:=by
 have:=cQ aH hl hm h;simp[dC,this]
theorem xP {l m:List Nat} (hl:CR l) (hm:CR m) (h:m.length<l.length):dC (val RR l) (val RR m)=1:=by
 have:=cQ aH hm hl h;simp only[dC];rw[if_neg (by omega),if_neg (by omega)]
theorem CI {l m:List Nat}{k:Nat} (hl:CR l) (hlen:l.length=m.length) (h0:0<k) (hk:k<=l.length) (hd:l.drop k=m.drop k)
  (ht:nth l (k-1)<nth m (k-1)):dC (val RR l) (val RR m)=-1:=by
 rw[eF l _ (by omega),eF m _ (by omega)] at ht;have:=gw (b:=RR) hl.1 hlen (k-1) (by omega) (by rw[show k-1+1=k by omega];exact hd) ht;simp[dC,this]
theorem AP {l m:List Nat}{k:Nat} (hm:CR m) (hlen:l.length=m.length) (h0:0<k) (hk:k<=l.length) (hd:l.drop k=m.drop k)
  (ht:nth m (k-1)<nth l (k-1)):dC (val RR l) (val RR m)=1:=by
 rw[eF l _ (by omega),eF m _ (by omega)] at ht;have:=gw (b:=RR) hm.1 hlen.symm (k-1) (by omega) (by rw[show k-1+1=k by omega];exact hd.symm) ht;simp only[dC];rw[if_neg (by omega),if_neg (by omega)]
theorem fA (va vb:Value) (l m:List Nat) (w:World) (ha:IsI w va l) (hb:IsI w vb m) (hl:CR l) (hm:CR m) :
  Calls Tryz.prog 148 #[va,vb] w fun e w'=>e=.returned (.int .i64 (dC (val RR l) (val RR m)))/\∃ n,w'=w.drewN n:=by
 obtain⟨p,cap,rfl,hlc,hcm,hcell⟩:=ha;obtain⟨p',cap',rfl,hlc',hcm',hcell'⟩:=hb;unfold maxLen at hcm hcm';by_cases hlen:l.length=m.length
 ·have hne:(((l.length:Nat):Int) != ((m.length:Nat):Int))=false:=by simp[hlen]
  have HL:=Ip hlen;clear hlen;go_enter Tryz.func148,Tryz.ntmps148;go_wp2;go_loopw [5] (fun s5 wr=>∃ k n:Nat,k<=l.length/\s5=.int .i64 ((k:Int)-1)/\Hid (l.drop k=m.drop k)/\wr=w.drewN n) (fun s5 _=>(intOf s5+1).toNat)
  case atStart=>exact⟨l.length,0,Iw _,rfl,by unfold Hid;rw[Jt (Iw _),Jt (by rw[HL.out];omega)],rfl⟩
  case round =>
   obtain⟨k,n,hk,rfl,hd,rfl⟩:=hrel;by_cases h0:k=0
   ·subst h0;go_wp2;go_ret;refine⟨?_,_,rfl⟩;have:=hd.out;simp only[IA] at this;subst this;simp[dC]
   ·have hk2:k<=m.length:=by have:=HL.out;omega
    obtain⟨b,o,rfl,_,hc⟩:=hcell (by omega);obtain⟨b',o',rfl,_,hc'⟩:=hcell' (by omega);have hc1:=hc (k-1) (by omega);have hc1':=hc' (k-1) (by omega);have hx:=cH (j:=k-1) hl.1;have hy:=cH (j:=k-1) hm.1;rw[iL] at hx hy;clear hc hcell hc' hcell';have h0':0<k:=by omega
    obtain⟨x,hxe⟩:∃ x,x=nth l (k-1):=⟨_,rfl⟩;obtain⟨y,hye⟩:∃ y,y=nth m (k-1):=⟨_,rfl⟩;rw[<-hxe] at hc1 hx;rw[<-hye] at hc1' hy;have HX:=Ip hxe;have HY:=Ip hye;clear hxe hye;rcases K6 x y with ht | ht | ht
    ·have hq:((x:Int) != (y:Int))=true:=by simp;omega
     go_wp2_with fail
     go_quiet (fail)
     go_wp2_with fail
     go_quiet (fail)
     go_wp2;go_ret;refine⟨?_,_,by rw[World.drewN_drewN,World.drewN_drewN]⟩;rw[CI hl HL.out h0' hk hd.out (by rw[<-HX.out,<-HY.out];exact ht)];rfl
    ·have hq:((x:Int) != (y:Int))=false:=by simp;omega
     have HT:=Ip ht;clear ht;go_wp2_with fail
     go_quiet (fail)
     go_wp2;go_roundw;case rel=>exact⟨k-1,_,by omega,by go_num,sf h0' hk hk2 hd (by rw[<-HX.out,<-HY.out];exact HT.out),rfl⟩
     case measure=>simp[intOf];omega
    ·have hq:((x:Int) != (y:Int))=true:=by simp;omega
     go_wp2_with fail
     go_quiet (fail)
     go_wp2_with fail
     go_quiet (fail)
     go_wp2;go_ret;refine⟨?_,_,by rw[World.drewN_drewN,World.drewN_drewN]⟩;rw[AP hm HL.out h0' hk hd.out (by rw[<-HX.out,<-HY.out];exact ht)];rfl
 ·by_cases hlt:l.length<m.length
  ·have hne:(((l.length:Nat):Int) != ((m.length:Nat):Int))=true:=by simp;omega
   go_enter Tryz.func148,Tryz.ntmps148;go_wp2;go_ret;refine⟨?_,0,rfl⟩;rw[AO hl hm hlt];rfl
  ·have hne:(((l.length:Nat):Int) != ((m.length:Nat):Int))=true:=by simp;omega
   go_enter Tryz.func148,Tryz.ntmps148;go_wp2;go_ret;refine⟨?_,0,rfl⟩;rw[xP hl hm (by omega)];rfl
def SlB (B:Nat) (v:Value):Prop:=v=.slice none 0 0\/∃ b n c,v=.slice (some ⟨b,0,none⟩) n c/\B<=b
theorem eJ.slb {w:World}{B:Nat}{p:Option Addr}{N c:Nat}{l:List Nat} (h:eJ w B (.slice p N c) l) {m:Nat} (hm:m<=N):SlB B (.slice p m c):=by
 rcases h.2 with ⟨h1,_⟩ | ⟨g,cap,cur,h1,hb,_⟩
 ·obtain⟨rfl,rfl,rfl⟩:p=none/\N=0/\c=0:=by simpa using h1
  obtain rfl:m=0:=by omega
  exact Or.inl rfl
 ·obtain⟨rfl,_,rfl⟩:p=some ⟨g,0,none⟩/\N=l.length/\c=cap:=by simpa using h1
  exact Or.inr ⟨g,m,c,rfl,hb⟩
theorem SlB.base {B B':Nat}{v:Value} (h:SlB B v) (hb:B'<=B):SlB B' v:=by
 rcases h with h | ⟨b,n,c,h,h2⟩
 ·exact Or.inl h
 ·exact Or.inr ⟨b,n,c,h,IB hb h2⟩
theorem qj (va vb:Value) (l m:List Nat) (w:World) (ha:IsI w va l) (hb:IsI w vb m) (hl:∀ d∈l,d<RR) (hm:∀ d∈m,d<RR) (hlb:m.length<=l.length) (hle:val RR m<=val RR l) (hfew:l.length<1000000) :
  Calls Tryz.prog 149 #[va,vb] w fun e w'=>∃ v,e=.returned v/\IsD w' v (val RR l-val RR m)/\SlB w.heap.size v/\Below w.heap.size w w':=by
 obtain⟨p,cap,rfl,hlc,hcm,hcell⟩:=ha;obtain⟨p',cap',rfl,hlc',hcm',hcell'⟩:=hb;unfold maxLen at hcm hcm';go_enter Tryz.func149,Tryz.ntmps149;go_wp2;go_loopw [5,6,7] (fun s5 s6 s7 wr=>∃ (i borrow:Nat) (out:List Nat),s6=.int .i64 borrow/\s7=.int .i64 i/\i<=l.length/\Hid (ni l m i borrow out)/\Hid (eJ wr w.heap.size s5 out)/\Below w.heap.size w wr) (fun _ _ s7 _=>l.length-(intOf s7).toNat)
 case atStart=>exact⟨0,0,[],rfl,rfl,IF _,yr l m,World.ownsRow_nil _ _ _ _,Below.refl _ _⟩
 case round =>
  obtain⟨i,borrow,out,rfl,rfl,hi,hst,hown,hbw⟩:=hrel;have hsz:=hbw.size;by_cases hil:i<l.length
  ·obtain⟨b,o,rfl,hbb,hc⟩:=hcell (by omega);have hc1:=(hbw.cell (p:=⟨b,o+i,none⟩) hbb).trans (hc i hil);have hx:=cH (j:=i) hl;have hy:=cH (j:=i) hm;have hbor:=hst.out.bor;have hol:=hst.out.len;have hstep:=Ip (Bj hl hm hst.out);rw[iL] at hx hy;obtain⟨x,hxe⟩:∃ x,x=nth l i:=⟨_,rfl⟩;obtain⟨y,hye⟩:∃ y,y=nth m i:=⟨_,rfl⟩;rw[<-hxe] at hc1 hx hstep;rw[<-hye] at hy hstep;by_cases him:i<m.length
   ·obtain⟨b',o',rfl,hbb',hc'⟩:=hcell' (by omega);have hc1':=(hbw.cell (p:=⟨b',o'+i,none⟩) hbb').trans (hc' i him);rw[<-hye] at hc1';clear hc hcell hc' hcell' hst hxe hye hlb;have himI:decide ((i:Int)<(m.length:Int))=true:=by simp;omega
    by_cases hge:y+borrow<=x
    ·have hd:decide ((x:Int)-borrow-y<0)=false:=by simp;omega
     go_wp2_with (at_builtin;refine bC 40 Tryz.underlying40 rfl (.tmp 35) (.tmp 37) rfl w.heap.size _ out _ (x-borrow-y) (by omega) rfl hown.out rfl (by omega) hsz ?_)
     intro v' w1 hown' hb';have hb1:=hb' _ _ hbw (Iw _);clear hown hbw hb';have HO:=Ip hown';clear hown';go_wp2;go_roundw;case rel=>exact⟨i+1,0,_,by go_num,by go_num,by omega,hstep.out.1 hge,HO,hb1⟩
     case measure=>simp[intOf];omega
    ·have hd:decide ((x:Int)-borrow-y<0)=true:=by simp;omega
     go_wp2_with (at_builtin;refine bC 40 Tryz.underlying40 rfl (.tmp 35) (.tmp 37) rfl w.heap.size _ out _ (x+10000-borrow-y) (by omega) rfl hown.out rfl (by omega) hsz ?_)
     intro v' w1 hown' hb';have hb1:=hb' _ _ hbw (Iw _);clear hown hbw hb';have HO:=Ip hown';clear hown';go_wp2;go_roundw;case rel=>exact⟨i+1,1,_,by go_num,by go_num,by omega,hstep.out.2 (by omega),HO,hb1⟩
     case measure=>simp[intOf];omega
   ·have hy0:y=0:=by rw[hye];exact gC (by omega)
    subst hy0;clear hc hcell hcell' hst hxe hye hlb;have himI:decide ((i:Int)<(m.length:Int))=false:=by simp;omega
    by_cases hge:0+borrow<=x
    ·have hd:decide ((x:Int)-borrow<0)=false:=by simp;omega
     go_wp2_with (at_builtin;refine bC 40 Tryz.underlying40 rfl (.tmp 35) (.tmp 37) rfl w.heap.size _ out _ (x-borrow) (by omega) rfl hown.out rfl (by omega) hsz ?_)
     intro v' w1 hown' hb';have hb1:=hb' _ _ hbw (Iw _);clear hown hbw hb';have HO:=Ip hown';clear hown';go_wp2;go_roundw;case rel=>exact⟨i+1,0,_,by go_num,by go_num,by omega,hstep.out.1 hge,HO,hb1⟩
     case measure=>simp[intOf];omega
    ·have hd:decide ((x:Int)-borrow<0)=true:=by simp;omega
     go_wp2_with (at_builtin;refine bC 40 Tryz.underlying40 rfl (.tmp 35) (.tmp 37) rfl w.heap.size _ out _ (x+10000-borrow) (by omega) rfl hown.out rfl (by omega) hsz ?_)
     intro v' w1 hown' hb';have hb1:=hb' _ _ hbw (Iw _);clear hown hbw hb';have HO:=Ip hown';clear hown';go_wp2;go_roundw;case rel=>exact⟨i+1,1,_,by go_num,by go_num,by omega,hstep.out.2 (by omega),HO,hb1⟩
     case measure=>simp[intOf];omega
  ·obtain rfl:i=l.length:=by omega
   have hend:=Ip (DA hst.out hlb hle);obtain⟨po,co,rfl,_,_⟩:=(eJ.isU hown.out).slice;have hoi:=Ip (eJ.isU hown.out);have hol:=hst.out.len;have hsb:=Ip (eJ.slb hown.out (m:=(lean out).length) (bO out));have hoi2:Hid (IsI wr (.slice po l.length co) out):=by unfold Hid;rw[<-hol];exact hoi.out
   clear hil hcell hcell' hst hown;go_wp2_with fail
   refine (jp po l.length co out wr hoi2.out).mono ?_;rintro e w' ⟨rfl,rfl⟩;go_wp2_with fail
   go_ret;refine⟨_,rfl,?_,hsb.out,hbw⟩;have:=hoi.out.lean;unfold IsD;rw[<-hend.out];exact this
end Go.Proofs.YtlhpcoelfhjomaaGreatDoor
