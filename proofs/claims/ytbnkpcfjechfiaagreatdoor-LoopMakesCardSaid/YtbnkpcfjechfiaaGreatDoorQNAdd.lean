/- Lemmas of this claim. -/
import Derived.Test.YtbnkpcfjechfiaaGreatDoorQFmt
import Derived.Test.YtbnkpcfjechfiaaGreatDoorQRed
set_option linter.all false
set_option maxRecDepth 100000
set_option maxHeartbeats 8000000
namespace Go.Proofs.YtbnkpcfjechfiaaGreatDoor
open Go.RowKit Dg
theorem jn {l:List Nat}{j:Nat} (h:l.length≤j):nth l j=0:=by simp[nth,GV h]
theorem ip {l:List Nat}{k:Nat}:val BB (l.take (k+1))=val BB (l.take k)+nth l k*BB ^ k:=by
 by_cases h:k<l.length
 ·exact bU h
 ·rw[jn (by omega),Fi (by omega),Fi (by omega)];omega
theorem wJ {l:List Nat}{j:Nat} (h:∀ d∈l,d<BB):nth l j<BB:=by
 by_cases hj:j<l.length
 ·exact ci h hj
 ·rw[jn (by omega)];decide
structure oX (a b:List Nat) (i carry:Nat) (out:List Nat):Prop where
 len:out.length=i
 dig:∀ d∈out,d<BB
 car:carry≤1
 eq:val BB out+carry*BB ^ i=val BB (a.take i)+val BB (b.take i)
theorem pY (a b:List Nat):oX a b 0 0 []:=⟨rfl,by simp,by omega,by simp⟩
theorem tM {a b out:List Nat}{i carry:Nat} (ha:∀ d∈a,d<BB) (hb:∀ d∈b,d<BB) (h:oX a b i carry out) (_hi:i<a.length) :
  oX a b (i+1) ((carry+nth a i+nth b i) / BB) (out++[(carry+nth a i+nth b i) % BB]):=by
 have h1:nth a i<1000000000:=wJ (j:=i) ha;have h2:nth b i<1000000000:=wJ (j:=i) hb;have h3:=h.car;have he:=h.eq;refine⟨by simp[h.len],?_,?_,?_⟩
 ·intro d hd;rcases F6.1 hd with hd | hd
  ·exact h.dig d hd
  ·rw[Gh.1 hd];exact Gc _ (by decide)
 ·show (carry+nth a i+nth b i) / 1000000000≤1;omega
 ·rw[dQ,h.len,ip,ip];have e4:=FX (carry+nth a i+nth b i) BB;generalize (carry+nth a i+nth b i) / BB=q at *
  generalize (carry+nth a i+nth b i) % BB=r at *
  have hp:BB ^ (i+1)=BB*BB ^ i:=by rw[Ft,Fw]
  rw[hp];have:(BB*q+r)*BB ^ i=(carry+nth a i+nth b i)*BB ^ i:=by rw[e4]
  grind
theorem o_ {l:List Nat} (hd:∀ d∈l,d<BB) (h:l=[]∨BB ^ (l.length-1)≤val BB l):am BB (val BB l)=l:=by
 rcases h with rfl | h
 ·rw[val,bM]
 ·have e:=ck aP hd;have h1:=bD aP (val BB l);rw[←e] at h1 ⊢;have h2:=bA l
  have h3:l.length-1<(lean l).length:=by
   rcases Gj (l.length-1) (lean l).length with h3 | h3
   ·exact h3
   ·exact absurd (FE h h1) (Iy.2 (Fs (by decide) h3))
  have h4:=jK l;rw[Fi (by omega)] at h4;exact h4.symm
theorem wV {a b out:List Nat}{c:Nat} (ha:Dg.Can BB a) (hb:Dg.Can BB b) (hab:b.length≤a.length) (h:oX a b a.length c out) :
  am BB (val BB a+val BB b)=if c=0 then out else out++[c]:=by
 have he:=h.eq;rw[Fi (Fb _),Fi hab] at he;have hl:=h.len;have hc:=h.car;by_cases h0:c=0
 ·subst h0;rw[if_pos rfl,←he,Gk,FM];refine o_ h.dig ?_;rcases Gi out.length with h1 | h1
  ·exact Or.inl (FS h1)
  ·refine Or.inr ?_;have hne:a≠[]:=fun e=>by rw[e] at hl;simp at hl;rw[hl] at h1;simp at h1
   have h2:=ec ha hne;rw[hl];omega
 ·obtain rfl:c=1:=by omega
  rw[if_neg h0,←he];have e:val BB (out++[1])=val BB out+1*BB ^ a.length:=by rw[dQ,hl,Fw]
  rw[←e];refine o_ (fun d hd=>?_) (Or.inr ?_)
  ·rcases F6.1 hd with hd | hd
   ·exact h.dig d hd
   ·rw[Gh.1 hd];decide
  ·rw[e,Fl,List.length_singleton,hl,GB];omega
theorem EZ (va vb:Value) (l m:List Nat) (w:World) (ha:IsU w va l) (hb:IsU w vb m) (hl:Dg.Can BB l) (hm:Dg.Can BB m) (hll:l.length<1000000) (hlm:m.length<1000000) :
  Calls Tryz.prog 279 #[va,vb] w fun e w'=>∃ v,e=.returned v∧et w' w.heap.size v (am BB (val BB l+val BB m))∧Below w.heap.size w w':=by
 obtain⟨p,cap,rfl,hlc,hcm,hcell⟩:=ha;obtain⟨p',cap',rfl,hlc',hcm',hcell'⟩:=hb;obtain⟨i0,hi0,hz0,hz1,hz2⟩:=info_parts Tryz.info193;have hld:=hl.1;have hmd:=hm.1;have hlC:=hl;have hmC:=hm;go_enter Tryz.func279,Tryz.ntmps279;by_cases hlt:l.length<m.length
 ·have hge:l.length≤m.length:=by omega
  have hd0:decide ((l.length:Int)<(m.length:Int))=true:=by simp;omega
  rw[Hn (val BB l)];go_wp2_with (at_make;refine wpList_make_own _ rfl (.const (.int .i64 0)) (.tmp 18) 149 rfl w.heap.size 193 i0 (.int .u64 0) 1 Tryz.underlying149 hi0 hz0 hz1 .i64 .i64 _ (m.length+1) rfl rfl (by simp) (by rw[hz2];omega) (by unfold maxLen;omega) (Fb _) ?_)
  intro w0 hrow hg0;have hb0:Below w.heap.size w w0:=(Below.refl _ _).grown hg0 (Fb _) (fun k e=>by cases e);clear hg0;go_wp2;go_loopw [5,6,22] (fun s5 s6 s22 wr=>∃ (i c:Nat) (out:List Nat),s6=.int .u64 c∧s22=.int .i64 i∧i≤m.length∧Hid (oX m l i c out)∧Hid (et wr w.heap.size s5 out)∧Below w.heap.size w wr) (fun _ _ s22 _=>m.length-(intOf s22).toNat)
  case atStart=>exact⟨0,0,[],rfl,rfl,Fk _,pY m l,hrow,hb0⟩
  case round =>
   clear hrow hb0;obtain⟨i,c,out,rfl,rfl,hi,hst,hown,hbw⟩:=hrel;have hsz:=hbw.size;have hcar:=hst.out.car;have hol:=hst.out.len;by_cases hil:i<m.length
   ·obtain⟨b,o,rfl,hbb,hc⟩:=hcell' (by omega);have hc1:=(hbw.cell (p:=⟨b,o+i,none⟩) hbb).trans (hc i hil);have hx:=ci hmd hil;have hstep:=E5 (tM hmd hld hst.out hil);obtain⟨x,hxe⟩:∃ x,x=nth m i:=⟨_,rfl⟩;rw[←hxe] at hx hstep hc1;have hx:x<1000000000:=hx;by_cases him:i<l.length
    ·obtain⟨b',o',rfl,hbb',hc'⟩:=hcell (by omega);have hc1':=(hbw.cell (p:=⟨b',o'+i,none⟩) hbb').trans (hc' i him);have hy:=ci hld him;obtain⟨y,hye⟩:∃ y,y=nth l i:=⟨_,rfl⟩;rw[←hye] at hy hstep hc1';have hy:y<1000000000:=hy;clear hc hc' hcell' hcell hst hxe hye;go_wp2_with (at_builtin;refine bC 149 Tryz.underlying149 rfl (.tmp 40) (.tmp 43) rfl w.heap.size _ out _ ((c+x+y) % BB) (by show _=(((c+x+y) % 1000000000:Nat):Int);omega) rfl hown.out rfl (by omega) hsz ?_)
     intro v' w1 hown' hb';have hb1:=hb' _ _ hbw (Fb _);have HO:=E5 hown';clear hown hown' hbw hb';go_wp2;go_roundw;case rel=>exact⟨i+1,_,_,by show Value.int _ _=Value.int _ ((((c+x+y) / 1000000000:Nat)):Int);(congr 1<;>omega),by go_num,by omega,hstep,HO,hb1⟩
     case measure=>simp[intOf];omega
    ·have hy0:nth l i=0:=jn (by omega);rw[hy0] at hstep;have himI:decide ((i:Int)<(l.length:Int))=false:=by simp;omega
     clear hc hcell' hcell hst hxe hy0;go_wp2_with (at_builtin;refine bC 149 Tryz.underlying149 rfl (.tmp 40) (.tmp 43) rfl w.heap.size _ out _ ((c+x+0) % BB) (by show _=(((c+x+0) % 1000000000:Nat):Int);omega) rfl hown.out rfl (by omega) hsz ?_)
     intro v' w1 hown' hb';have hb1:=hb' _ _ hbw (Fb _);have HO:=E5 hown';clear hown hown' hbw hb';go_wp2;go_roundw;case rel=>exact⟨i+1,_,_,by show Value.int _ _=Value.int _ ((((c+x+0) / 1000000000:Nat)):Int);(congr 1<;>omega),by go_num,by omega,hstep,HO,hb1⟩
     case measure=>simp[intOf];omega
   ·obtain rfl:i=m.length:=by omega
    have hend:=E5 (wV (by assumption) (by assumption) hge hst.out);clear hcell' hcell hst hil hi;by_cases hc0:c=0
    ·subst hc0;have hend:=E5 (show am BB (val BB m+val BB l)=out by rw[hend.out,if_pos rfl]);obtain⟨q9,c9,hq9⟩:=(et.isU hown.out);obtain⟨rfl,-⟩:=hq9;clear hol;go_wp2;go_ret;exact⟨.slice q9 out.length c9,rfl,by rw[hend.out];exact hown.out,hbw⟩
    ·obtain rfl:c=1:=by omega
     have hend:=E5 (show am BB (val BB m+val BB l)=out++[1] by rw[hend.out,if_neg hc0]);clear hc0;go_wp2_with (at_builtin;refine bC 149 Tryz.underlying149 rfl (.tmp 50) (.tmp 52) rfl w.heap.size _ out _ 1 rfl rfl hown.out rfl (by omega) hsz ?_)
     intro v' w1 hown' hb';have hb1:=hb' _ _ hbw (Fb _);have HO:=E5 hown';clear hown hown' hbw hb';obtain⟨q9,c9,rfl,-⟩:=et.isU HO.out;go_wp2;go_ret;exact⟨.slice q9 (out++[1]).length c9,by first | rfl | simp,by rw[hend.out];exact HO.out,hb1⟩
 ·have hge:m.length≤l.length:=by omega
  have hd0:decide ((l.length:Int)<(m.length:Int))=false:=by simp;omega
  go_wp2_with (at_make;refine wpList_make_own _ rfl (.const (.int .i64 0)) (.tmp 18) 149 rfl w.heap.size 193 i0 (.int .u64 0) 1 Tryz.underlying149 hi0 hz0 hz1 .i64 .i64 _ (l.length+1) rfl rfl (by simp) (by rw[hz2];omega) (by unfold maxLen;omega) (Fb _) ?_)
  intro w0 hrow hg0;have hb0:Below w.heap.size w w0:=(Below.refl _ _).grown hg0 (Fb _) (fun k e=>by cases e);clear hg0;go_wp2;go_loopw [5,6,22] (fun s5 s6 s22 wr=>∃ (i c:Nat) (out:List Nat),s6=.int .u64 c∧s22=.int .i64 i∧i≤l.length∧Hid (oX l m i c out)∧Hid (et wr w.heap.size s5 out)∧Below w.heap.size w wr) (fun _ _ s22 _=>l.length-(intOf s22).toNat)
  case atStart=>exact⟨0,0,[],rfl,rfl,Fk _,pY l m,hrow,hb0⟩
  case round =>
   clear hrow hb0;obtain⟨i,c,out,rfl,rfl,hi,hst,hown,hbw⟩:=hrel;have hsz:=hbw.size;have hcar:=hst.out.car;have hol:=hst.out.len;by_cases hil:i<l.length
   ·obtain⟨b,o,rfl,hbb,hc⟩:=hcell (by omega);have hc1:=(hbw.cell (p:=⟨b,o+i,none⟩) hbb).trans (hc i hil);have hx:=ci hld hil;have hstep:=E5 (tM hld hmd hst.out hil);obtain⟨x,hxe⟩:∃ x,x=nth l i:=⟨_,rfl⟩;rw[←hxe] at hx hstep hc1;have hx:x<1000000000:=hx;by_cases him:i<m.length
    ·obtain⟨b',o',rfl,hbb',hc'⟩:=hcell' (by omega);have hc1':=(hbw.cell (p:=⟨b',o'+i,none⟩) hbb').trans (hc' i him);have hy:=ci hmd him;obtain⟨y,hye⟩:∃ y,y=nth m i:=⟨_,rfl⟩;rw[←hye] at hy hstep hc1';have hy:y<1000000000:=hy;clear hc hc' hcell hcell' hst hxe hye;go_wp2_with (at_builtin;refine bC 149 Tryz.underlying149 rfl (.tmp 40) (.tmp 43) rfl w.heap.size _ out _ ((c+x+y) % BB) (by show _=(((c+x+y) % 1000000000:Nat):Int);omega) rfl hown.out rfl (by omega) hsz ?_)
     intro v' w1 hown' hb';have hb1:=hb' _ _ hbw (Fb _);have HO:=E5 hown';clear hown hown' hbw hb';go_wp2;go_roundw;case rel=>exact⟨i+1,_,_,by show Value.int _ _=Value.int _ ((((c+x+y) / 1000000000:Nat)):Int);(congr 1<;>omega),by go_num,by omega,hstep,HO,hb1⟩
     case measure=>simp[intOf];omega
    ·have hy0:nth m i=0:=jn (by omega);rw[hy0] at hstep;have himI:decide ((i:Int)<(m.length:Int))=false:=by simp;omega
     clear hc hcell hcell' hst hxe hy0;go_wp2_with (at_builtin;refine bC 149 Tryz.underlying149 rfl (.tmp 40) (.tmp 43) rfl w.heap.size _ out _ ((c+x+0) % BB) (by show _=(((c+x+0) % 1000000000:Nat):Int);omega) rfl hown.out rfl (by omega) hsz ?_)
     intro v' w1 hown' hb';have hb1:=hb' _ _ hbw (Fb _);have HO:=E5 hown';clear hown hown' hbw hb';go_wp2;go_roundw;case rel=>exact⟨i+1,_,_,by show Value.int _ _=Value.int _ ((((c+x+0) / 1000000000:Nat)):Int);(congr 1<;>omega),by go_num,by omega,hstep,HO,hb1⟩
     case measure=>simp[intOf];omega
   ·obtain rfl:i=l.length:=by omega
    have hend:=E5 (wV (by assumption) (by assumption) hge hst.out);clear hcell hcell' hst hil hi;by_cases hc0:c=0
    ·subst hc0;have hend:=E5 (show am BB (val BB l+val BB m)=out by rw[hend.out,if_pos rfl]);obtain⟨q9,c9,hq9⟩:=(et.isU hown.out);obtain⟨rfl,-⟩:=hq9;clear hol;go_wp2;go_ret;exact⟨.slice q9 out.length c9,rfl,by rw[hend.out];exact hown.out,hbw⟩
    ·obtain rfl:c=1:=by omega
     have hend:=E5 (show am BB (val BB l+val BB m)=out++[1] by rw[hend.out,if_neg hc0]);clear hc0;go_wp2_with (at_builtin;refine bC 149 Tryz.underlying149 rfl (.tmp 50) (.tmp 52) rfl w.heap.size _ out _ 1 rfl rfl hown.out rfl (by omega) hsz ?_)
     intro v' w1 hown' hb';have hb1:=hb' _ _ hbw (Fb _);have HO:=E5 hown';clear hown hown' hbw hb';obtain⟨q9,c9,rfl,-⟩:=et.isU HO.out;go_wp2;go_ret;exact⟨.slice q9 (out++[1]).length c9,by first | rfl | simp,by rw[hend.out];exact HO.out,hb1⟩
structure kr (a b:List Nat) (i borrow:Nat) (lo:List Nat):Prop where
 len:lo.length=a.length
 dig:∀ d∈lo,d<BB
 bor:borrow≤1
 eq:val BB (lo.take i)+val BB (b.take i)=val BB (a.take i)+borrow*BB ^ i
theorem vz (a b:List Nat):kr a b 0 0 (List.replicate a.length 0):=⟨by simp,fun d hd=>by rw[Gl hd];decide,by omega,by simp⟩
theorem C9 {a b lo:List Nat}{i borrow d b2:Nat} (h:kr a b i borrow lo) (hi:i<a.length) (hd:d<BB) (hb:b2≤1) (he:d+(nth b i+borrow)=nth a i+b2*BB):kr a b (i+1) b2 (lo.set i d):=by
 have hl:=h.len;have hq:=h.eq;refine⟨by rw[GI];exact hl,fun x hx=>?_,hb,?_⟩
 ·rcases Hl hx with hx | rfl
  ·exact h.dig x hx
  ·exact hd
 ·rw[ip,ip,ip,tN,fH (by omega)];have hp:BB ^ (i+1)=BB*BB ^ i:=by rw[Ft,Fw]
  rw[hp];have:(d+(nth b i+borrow))*BB ^ i=(nth a i+b2*BB)*BB ^ i:=by rw[he]
  grind
theorem C8 {a b lo:List Nat}{c:Nat} (hb:b.length≤a.length) (hle:val BB b≤val BB a) (h:kr a b a.length c lo):am BB (val BB a-val BB b)=lean lo:=by
 have he:=h.eq;have hl:=h.len;rw[Fi (Fb _),Fi hb,Fi (by omega)] at he;have hlt:=e_ BB lo h.dig;rw[hl] at hlt;have hc:=h.bor
 have h0:c=0:=by
  rcases Gj 0 c with h1 | h1
  ·obtain rfl:c=1:=by omega
   rw[Ip] at he;omega
  ·omega
 subst h0;rw[ck aP h.dig];congr 1;omega
theorem yr {a b:List Nat} (ha:Dg.Can BB a) (hb:Dg.Can BB b) (hle:val BB b≤val BB a):b.length≤a.length:=by
 rcases Gj a.length b.length with h | h
 ·have:=bX aP ha hb h;omega
 ·exact h
theorem D5 (va vb:Value) (l m:List Nat) (w:World) (ha:IsU w va l) (hb:IsU w vb m) (hl:Dg.Can BB l) (hm:Dg.Can BB m) (hle:val BB m≤val BB l) (hll:l.length<1000000) :
  Calls Tryz.prog 280 #[va,vb] w fun e w'=>∃ g cap,e=.returned (.slice (some ⟨g,0,none⟩) (am BB (val BB l-val BB m)).length cap)∧w.heap.size≤g∧cE w' g cap (am BB (val BB l-val BB m))∧Below w.heap.size w w':=by
 have hlen:=yr hl hm hle;obtain⟨p,cap,rfl,hlc,hcm,hcell⟩:=ha;obtain⟨p',cap',rfl,hlc',hcm',hcell'⟩:=hb;have hld:=hl.1;have hmd:=hm.1;have HLE:=E5 hle;clear hle;go_enter Tryz.func280,Tryz.ntmps280;go_wp2_with (at_make;refine fh 149 Tryz.underlying149 rfl (.tmp 11) (.tmp 11) rfl _ _ l.length rfl rfl rfl rfl ?c1 ?_)
 case c1=>omega
 intro w0 hrow hb0 hs0;have hb1:=hb0 _ _ (Below.refl _ _) (Fb _);clear hb0;go_wp2;go_loopw [6,15] (fun s6 s15 wr=>∃ (i c:Nat) (lo:List Nat),s6=.int .u64 c∧s15=.int .i64 i∧i≤l.length∧Hid (kr l m i c lo)∧Hid (cE wr w.heap.size l.length lo)∧Below w.heap.size w wr) (fun _ s15 _=>l.length-(intOf s15).toNat)
 case atStart=>exact⟨0,0,_,rfl,rfl,Fk _,vz l m,hrow,hb1⟩
 case round =>
  clear hrow hb1 hs0;obtain⟨i,c,lo,rfl,rfl,hi,hst,hro,hbw⟩:=hrel;have hbor:=hst.out.bor;by_cases hil:i<l.length
  ·obtain⟨b,o,rfl,hbb,hc⟩:=hcell (by omega);have hc1:=(hbw.cell (p:=⟨b,o+i,none⟩) hbb).trans (hc i hil);have hlo:i<lo.length:=by rw[hst.out.len];exact hil
   have HLO:=E5 hst.out.len;have ho:=hro.out.cell hlo;have hf:=hro.out.free i;have hxe0:=fun d b2 hd hb he=>C9 (d:=d) (b2:=b2) hst.out hil hd hb he;have hx:nth l i<1000000000:=ci hld hil;obtain⟨x,hxe⟩:∃ x,x=nth l i:=⟨_,rfl⟩;rw[←hxe] at hx hc1;rw[←hxe] at hxe0;by_cases him:i<m.length
   ·obtain⟨b',o',rfl,hbb',hc'⟩:=hcell' (by omega);have hc1':=(hbw.cell (p:=⟨b',o'+i,none⟩) hbb').trans (hc' i him);have hy:nth m i<1000000000:=ci hmd him;obtain⟨y,hye⟩:∃ y,y=nth m i:=⟨_,rfl⟩;rw[←hye] at hy hc1' hxe0;clear hc hc' hcell hcell' hxe hye;by_cases hlt:x<c+y
    ·have hltI:decide ((x:Int)<((c+y:Nat):Int))=true:=by simp;omega
     have hstep:=E5 (show kr l m (i+1) 1 (lo.set i (x+1000000000-(c+y))) from hxe0 (x+1000000000-(c+y)) 1 (by show _<1000000000;omega) (by omega) (by show _=x+1*1000000000;omega));clear hst hxe0 HLE;go_wp2;go_roundw;case rel=>exact⟨i+1,_,_,by go_num,by go_num,by omega,hstep.out,hro.out.set i _ _ (by first | go_num | omega),hbw.setCell (p:=⟨w.heap.size,i,none⟩) (Fb _) _⟩
     case measure=>simp[intOf];omega
    ·have hltI:decide ((x:Int)<((c+y:Nat):Int))=false:=by simp;omega
     have hstep:=E5 (show kr l m (i+1) 0 (lo.set i (x-(c+y))) from hxe0 (x-(c+y)) 0 (by show _<1000000000;omega) (by omega) (by show _=x+0*1000000000;omega));clear hst hxe0 HLE;go_wp2;go_roundw;case rel=>exact⟨i+1,_,_,by go_num,by go_num,by omega,hstep.out,hro.out.set i _ _ (by first | go_num | omega),hbw.setCell (p:=⟨w.heap.size,i,none⟩) (Fb _) _⟩
     case measure=>simp[intOf];omega
   ·have hy0:nth m i=0:=jn (by omega);rw[hy0] at hxe0;have himI:decide ((i:Int)<(m.length:Int))=false:=by simp;omega
    obtain⟨y,hye⟩:∃ y,y=0:=⟨_,rfl⟩;rw[←hye] at hxe0;clear hc hcell hcell' hxe hy0;by_cases hlt:x<c+y
    ·have hltI:decide ((x:Int)<((c+y:Nat):Int))=true:=by simp;omega
     have hstep:=E5 (show kr l m (i+1) 1 (lo.set i (x+1000000000-(c+y))) from hxe0 (x+1000000000-(c+y)) 1 (by show _<1000000000;omega) (by omega) (by show _=x+1*1000000000;omega));clear hst hxe0 HLE;go_wp2;go_roundw;case rel=>exact⟨i+1,_,_,by go_num,by go_num,by omega,hstep.out,hro.out.set i _ _ (by first | go_num | omega),hbw.setCell (p:=⟨w.heap.size,i,none⟩) (Fb _) _⟩
     case measure=>simp[intOf];omega
    ·have hltI:decide ((x:Int)<((c+y:Nat):Int))=false:=by simp;omega
     have hstep:=E5 (show kr l m (i+1) 0 (lo.set i (x-(c+y))) from hxe0 (x-(c+y)) 0 (by show _<1000000000;omega) (by omega) (by show _=x+0*1000000000;omega));clear hst hxe0 HLE;go_wp2;go_roundw;case rel=>exact⟨i+1,_,_,by go_num,by go_num,by omega,hstep.out,hro.out.set i _ _ (by first | go_num | omega),hbw.setCell (p:=⟨w.heap.size,i,none⟩) (Fb _) _⟩
     case measure=>simp[intOf];omega
  ·obtain rfl:i=l.length:=by omega
   have hle2:=hro.out.isU;rw[hst.out.len] at hle2;have hend:=E5 (C8 hlen HLE.out hst.out);clear hcell hcell' hst;go_wp2_with (go_at_call 236;refine (hO _ _ _ lo _ (by exact hle2)).mono ?_;rintro e w' ⟨rfl,rfl⟩)
   go_ret;refine⟨w.heap.size,l.length,?_,Fb _,?_,hbw⟩
   ·rw[hend.out];rfl
   ·rw[hend.out];exact hro.out.lean
theorem EW (va vb:Value) (a b:Nat) (w:World) (ha:IsN w va a) (hb:IsN w vb b) (hfa:Few a) (hfb:Few b) :
  Calls Tryz.prog 279 #[va,vb] w fun e w'=>∃ v,e=.returned v∧IsN w' v (a+b)∧Below w.heap.size w w':=by
 unfold Few at hfa hfb;refine (EZ va vb (am BB a) (am BB b) w ha hb (bS a) (bS b) (by omega) (by omega)).mono ?_;rintro e w' ⟨v,rfl,hv,hbl⟩;rw[aw aP,aw aP] at hv;exact⟨v,rfl,hv.isU,hbl⟩
theorem AJ (va vb:Value) (a b:Nat) (w:World) (ha:IsN w va a) (hb:IsN w vb b) (hfa:Few a) (hle:b≤a) :
  Calls Tryz.prog 280 #[va,vb] w fun e w'=>∃ v,e=.returned v∧IsN w' v (a-b)∧Below w.heap.size w w':=by
 unfold Few at hfa;refine (D5 va vb (am BB a) (am BB b) w ha hb (bS a) (bS b) (by rw[aw aP,aw aP];exact hle) (by omega)).mono ?_;rintro e w' ⟨g,cap,rfl,-,hv,hbl⟩;rw[aw aP,aw aP] at *
 exact⟨_,rfl,hv.isU,hbl⟩
theorem oA (va vb:Value) (a b:Nat) (w:World) (ha:IsN w va a) (hb:IsN w vb b) (hfa:Few a) (hfb:Few b) :
  Calls Tryz.prog 235 #[va,vb] w fun e w'=>∃ v,e=.returned v∧IsN w' v (a*b)∧Below w.heap.size w w':=by
 unfold Few at hfa hfb;refine (p_ va vb (am BB a) (am BB b) w ha hb (bS a).1 (bS b).1 (by omega) (by omega)).mono ?_;rintro e w' ⟨g,cap,rfl,-,-,hv,hbl⟩;rw[aw aP,aw aP] at *
 exact⟨_,rfl,hv.isU,hbl⟩
theorem r7 (va vb:Value) (a b:Nat) (w:World) (ha:IsN w va a) (hb:IsN w vb b) :
  Calls Tryz.prog 233 #[va,vb] w fun e w'=>e=.returned (.int .i64 (cS a b))∧Below w.heap.size w w':=by
 have:=gC va vb (am BB a) (am BB b) w ha hb (bS a) (bS b);rw[aw aP,aw aP] at this;refine this.mono ?_;rintro e w' ⟨rfl,n,rfl⟩;exact⟨rfl,below_drewN (Below.refl _ _) _⟩
def mT (ma:Bool) (a:Nat) (mb:Bool) (b:Nat):Bool×Nat:=if ma=mb then (ma,a+b) else if b≤a then (ma,a-b) else (mb,b-a)
theorem DI (ma mb:Bool) (va vb:Value) (a b:Nat) (w:World) (ha:IsN w va a) (hb:IsN w vb b) (hfa:Few a) (hfb:Few b) :
  Calls Tryz.prog 256 #[.bool ma,va,.bool mb,vb] w fun e w'=>∃ v,e=.returned (.tuple #[.bool (mT ma a mb b).1,v])∧IsN w' v (mT ma a mb b).2∧Below w.heap.size w w':=by
 have ha':=ha;have hb':=hb;obtain⟨p,cap,rfl,-,-,-⟩:=ha';obtain⟨p',cap',rfl,-,-,-⟩:=hb';have HA:=E5 ha;have HB:=E5 hb;have HFA:=E5 hfa;have HFB:=E5 hfb;clear ha hb hfa hfb;unfold mT;go_enter Tryz.func256,Tryz.ntmps256;by_cases h:ma=mb
 ·subst h;rw[if_pos rfl];go_wp2_with (go_at_call 279;refine (EW _ _ a b _ HA.out HB.out HFA.out HFB.out).mono ?_;rintro e w' ⟨v,rfl,hv,hbl⟩;obtain⟨q,cq,rfl,-,-,-⟩:=id hv)
  go_ret2
  exact⟨_,rfl,hv,hbl⟩
 ·rw[if_neg h];have h2:(ma == mb)=false:=by simpa using h
  by_cases hle:b≤a
  ·have hc:cS a b=0∨cS a b=1:=by unfold cS;rw[if_neg (by omega)];split<;>simp
   have hc:decide (0≤cS a b)=true:=by simp;omega
   rw[if_pos hle];have HLE:=E5 hle;clear hle;go_wp2_with first | (go_at_call 233;refine (r7 _ _ a b _ HA.out HB.out).mono ?_;rintro e w1 ⟨rfl,hb1⟩) | (go_at_call 280;refine (AJ _ _ a b _ (HA.out.below hb1) (HB.out.below hb1) HFA.out HLE.out).mono ?_;rintro e w' ⟨v,rfl,hv,hbl⟩;obtain⟨q,cq,rfl,-,-,-⟩:=id hv)
   go_ret2
   exact⟨_,rfl,hv,hb1.trans (hbl.mono hb1.size)⟩
  ·have hc:cS a b=-1:=by unfold cS;rw[if_pos (by omega)]
   rw[if_neg hle];have HLE:=E5 (show a≤b by omega);clear hle;go_wp2_with first | (go_at_call 233;refine (r7 _ _ a b _ HA.out HB.out).mono ?_;rw[hc];rintro e w1 ⟨rfl,hb1⟩) | (go_at_call 280;refine (AJ _ _ b a _ (HB.out.below hb1) (HA.out.below hb1) HFB.out HLE.out).mono ?_;rintro e w' ⟨v,rfl,hv,hbl⟩;obtain⟨q,cq,rfl,-,-,-⟩:=id hv)
   go_ret2
   exact⟨_,rfl,hv,hb1.trans (hbl.mono hb1.size)⟩
end Go.Proofs.YtbnkpcfjechfiaaGreatDoor
