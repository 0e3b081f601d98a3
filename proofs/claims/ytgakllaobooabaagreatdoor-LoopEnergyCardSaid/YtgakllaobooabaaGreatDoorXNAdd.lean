/- L -/
import Derived.Test.YtgakllaobooabaaGreatDoorXGcd
import Derived.Test.YtgakllaobooabaaGreatDoorXRed
import Derived.Test.YtgakllaobooabaaGreatDoorXB
set_option linter.all false
set_option maxRecDepth 100000
set_option maxHeartbeats 8000000
namespace Go.Proofs.YtgakllaobooabaaGreatDoor
open Go.RowKit Dg
theorem gP {l:List Nat}{j:Nat} (h:l.length<=j):nth l j=0:=by simp[nth,Bc h]
theorem fN {l:List Nat}{k:Nat}:val BB (l.take (k+1))=val BB (l.take k)+nth l k*BB ^ k:=by
 by_cases h:k<l.length
 ·exact bS h
 ·rw[gP (by omega),AK (by omega),AK (by omega)];omega
theorem sr {l:List Nat}{j:Nat} (h:∀ d∈l,d<BB):nth l j<BB:=by
 by_cases hj:j<l.length
 ·exact cf h hj
 ·rw[gP (by omega)];decide
structure lY (a b:List Nat) (i carry:Nat) (out:List Nat):Prop where
 len:out.length=i
 dig:∀ d∈out,d<BB
 car:carry<=1
 eq:val BB out+carry*BB ^ i=val BB (a.take i)+val BB (b.take i)
theorem mQ (a b:List Nat):lY a b 0 0 []:=⟨rfl,by simp,by omega,by simp⟩
theorem pV {a b out:List Nat}{i carry:Nat} (ha:∀ d∈a,d<BB) (hb:∀ d∈b,d<BB) (h:lY a b i carry out) (_hi:i<a.length) :
  lY a b (i+1) ((carry+nth a i+nth b i) / BB) (out++[(carry+nth a i+nth b i) % BB]):=by
 have h1:nth a i<1000000000:=sr (j:=i) ha;have h2:nth b i<1000000000:=sr (j:=i) hb;have h3:=h.car;have he:=h.eq;refine⟨by simp[h.len],?_,?_,?_⟩
 ·intro d hd;rcases B_.1 hd with hd | hd
  ·exact h.dig d hd
  ·rw[Co.1 hd];exact BN _ (by decide)
 ·show (carry+nth a i+nth b i) / 1000000000<=1;omega
 ·rw[fO,h.len,fN,fN];have e4:=BP (carry+nth a i+nth b i) BB;generalize (carry+nth a i+nth b i) / BB=q at *
  generalize (carry+nth a i+nth b i) % BB=r at *
  have hp:BB ^ (i+1)=BB*BB ^ i:=by rw[AS,AT]
  rw[hp];have:(BB*q+r)*BB ^ i=(carry+nth a i+nth b i)*BB ^ i:=by rw[e4]
  grind
theorem l9 {l:List Nat} (hd:∀ d∈l,d<BB) (h:l=[]\/BB ^ (l.length-1)<=val BB l):ag BB (val BB l)=l:=by
 rcases h with rfl | h
 ·rw[val,bn]
 ·have e:=ew aw hd;have h1:=bK aw (val BB l);rw[<-e] at h1 |-;have h2:=cK l
  have h3:l.length-1<(lean l).length:=by
   rcases BK (l.length-1) (lean l).length with h3 | h3
   ·exact h3
   ·exact absurd (AZ h h1) (Nat.not_lt.2 (AW (by decide) h3))
  have h4:=jE l;rw[AK (by omega)] at h4;exact h4.symm
theorem sF {a b out:List Nat}{c:Nat} (ha:Dg.Can BB a) (hb:Dg.Can BB b) (hab:b.length<=a.length) (h:lY a b a.length c out) :
  ag BB (val BB a+val BB b)=if c=0 then out else out++[c]:=by
 have he:=h.eq;rw[AK (AA _),AK hab] at he;have hl:=h.len;have hc:=h.car;by_cases h0:c=0
 ·subst h0;rw[if_pos rfl,<-he,BR,Bb];refine l9 h.dig ?_;rcases BJ out.length with h1 | h1
  ·exact Or.inl (BG h1)
  ·refine Or.inr ?_;have hne:a≠[]:=fun e=>by rw[e] at hl;simp at hl;rw[hl] at h1;simp at h1
   have h2:=eu ha hne;rw[hl];omega
 ·obtain rfl:c=1:=by omega
  rw[if_neg h0,<-he];have e:val BB (out++[1])=val BB out+1*BB ^ a.length:=by rw[fO,hl,AT]
  rw[<-e];refine l9 (fun d hd=>?_) (Or.inr ?_)
  ·rcases B_.1 hd with hd | hd
   ·exact h.dig d hd
   ·rw[Co.1 hd];decide
  ·rw[e,AO,List.length_singleton,hl,BH];omega
theorem Ao (va vb:Value) (l m:List Nat) (w:World) (ha:IsU w va l) (hb:IsU w vb m) (hl:Dg.Can BB l) (hm:Dg.Can BB m) (hll:l.length<1000000) (hlm:m.length<1000000) :
  Calls Tryz.prog 137 #[va,vb] w fun e w'=>∃ v,e=.returned v/\dr w' w.heap.size v (ag BB (val BB l+val BB m))/\Below w.heap.size w w':=by
 obtain⟨p,cap,rfl,hlc,hcm,hcell⟩:=ha;obtain⟨p',cap',rfl,hlc',hcm',hcell'⟩:=hb;obtain⟨i0,hi0,hz0,hz1,hz2⟩:=info_parts Tryz.info134;have hld:=hl.1;have hmd:=hm.1;have hlC:=hl;have hmC:=hm;go_enter Tryz.func137,Tryz.ntmps137;by_cases hlt:l.length<m.length
 ·have hge:l.length<=m.length:=by omega
  have hd0:decide ((l.length:Int)<(m.length:Int))=true:=by simp;omega
  rw[CZ (val BB l)];go_wp2_with (at_make;refine wpList_make_own _ rfl (.const (.int .i64 0)) (.tmp 18) 61 rfl w.heap.size 134 i0 (.int .u64 0) 1 Tryz.underlying61 hi0 hz0 hz1 .i64 .i64 _ (m.length+1) rfl rfl (by simp) (by rw[hz2];omega) (by unfold maxLen;omega) (AA _) ?_)
  intro w0 hrow hg0;have hb0:Below w.heap.size w w0:=(Dv _ _).grown hg0 (AA _) (fun k e=>by cases e);clear hg0;go_wp2;go_loopw [5,6,22] (fun s5 s6 s22 wr=>∃ (i c:Nat) (out:List Nat),s6=.int .u64 c/\s22=.int .i64 i/\i<=m.length/\Hid (lY m l i c out)/\Hid (dr wr w.heap.size s5 out)/\Below w.heap.size w wr) (fun _ _ s22 _=>m.length-(intOf s22).toNat)
  case atStart=>exact⟨0,0,[],rfl,rfl,AI _,mQ m l,hrow,hb0⟩
  case round =>
   clear hrow hb0;obtain⟨i,c,out,rfl,rfl,hi,hst,hown,hbw⟩:=hrel;have hsz:=hbw.size;have hcar:=hst.out.car;have hol:=hst.out.len;by_cases hil:i<m.length
   ·obtain⟨b,o,rfl,hbb,hc⟩:=hcell' (by omega);have hc1:=(hbw.cell (p:=⟨b,o+i,none⟩) hbb).trans (hc i hil);have hx:=cf hmd hil;have hstep:=At (pV hmd hld hst.out hil);obtain⟨x,hxe⟩:∃ x,x=nth m i:=⟨_,rfl⟩;rw[<-hxe] at hx hstep hc1;have hx:x<1000000000:=hx;by_cases him:i<l.length
    ·obtain⟨b',o',rfl,hbb',hc'⟩:=hcell (by omega);have hc1':=(hbw.cell (p:=⟨b',o'+i,none⟩) hbb').trans (hc' i him);have hy:=cf hld him;obtain⟨y,hye⟩:∃ y,y=nth l i:=⟨_,rfl⟩;rw[<-hye] at hy hstep hc1';have hy:y<1000000000:=hy;clear hc hc' hcell' hcell hst hxe hye;go_wp2_with (at_builtin;refine aU 61 Tryz.underlying61 rfl (.tmp 40) (.tmp 43) rfl w.heap.size _ out _ ((c+x+y) % BB) (by show _=(((c+x+y) % 1000000000:Nat):Int);omega) rfl hown.out rfl (by omega) hsz ?_)
     intro v' w1 hown' hb';have hb1:=hb' _ _ hbw (AA _);have HO:=At hown';clear hown hown' hbw hb';go_wp2;go_roundw;case rel=>exact⟨i+1,_,_,by show Value.int _ _=Value.int _ ((((c+x+y) / 1000000000:Nat)):Int);(congr 1<;>omega),by go_num,by omega,hstep,HO,hb1⟩
     case measure=>simp[intOf];omega
    ·have hy0:nth l i=0:=gP (by omega);rw[hy0] at hstep;have himI:decide ((i:Int)<(l.length:Int))=false:=by simp;omega
     clear hc hcell' hcell hst hxe hy0;go_wp2_with (at_builtin;refine aU 61 Tryz.underlying61 rfl (.tmp 40) (.tmp 43) rfl w.heap.size _ out _ ((c+x+0) % BB) (by show _=(((c+x+0) % 1000000000:Nat):Int);omega) rfl hown.out rfl (by omega) hsz ?_)
     intro v' w1 hown' hb';have hb1:=hb' _ _ hbw (AA _);have HO:=At hown';clear hown hown' hbw hb';go_wp2;go_roundw;case rel=>exact⟨i+1,_,_,by show Value.int _ _=Value.int _ ((((c+x+0) / 1000000000:Nat)):Int);(congr 1<;>omega),by go_num,by omega,hstep,HO,hb1⟩
     case measure=>simp[intOf];omega
   ·obtain rfl:i=m.length:=by omega
    have hend:=At (sF (by assumption) (by assumption) hge hst.out);clear hcell' hcell hst hil hi;by_cases hc0:c=0
    ·subst hc0;have hend:=At (show ag BB (val BB m+val BB l)=out by rw[hend.out,if_pos rfl]);obtain⟨q9,c9,hq9⟩:=(dr.isU hown.out);obtain⟨rfl,-⟩:=hq9;clear hol;go_wp2;go_ret;exact⟨.slice q9 out.length c9,rfl,by rw[hend.out];exact hown.out,hbw⟩
    ·obtain rfl:c=1:=by omega
     have hend:=At (show ag BB (val BB m+val BB l)=out++[1] by rw[hend.out,if_neg hc0]);clear hc0;go_wp2_with (at_builtin;refine aU 61 Tryz.underlying61 rfl (.tmp 50) (.tmp 52) rfl w.heap.size _ out _ 1 rfl rfl hown.out rfl (by omega) hsz ?_)
     intro v' w1 hown' hb';have hb1:=hb' _ _ hbw (AA _);have HO:=At hown';clear hown hown' hbw hb';obtain⟨q9,c9,rfl,-⟩:=dr.isU HO.out;go_wp2;go_ret;exact⟨.slice q9 (out++[1]).length c9,by first | rfl | simp,by rw[hend.out];exact HO.out,hb1⟩
 ·have hge:m.length<=l.length:=by omega
  have hd0:decide ((l.length:Int)<(m.length:Int))=false:=by simp;omega
  go_wp2_with (at_make;refine wpList_make_own _ rfl (.const (.int .i64 0)) (.tmp 18) 61 rfl w.heap.size 134 i0 (.int .u64 0) 1 Tryz.underlying61 hi0 hz0 hz1 .i64 .i64 _ (l.length+1) rfl rfl (by simp) (by rw[hz2];omega) (by unfold maxLen;omega) (AA _) ?_)
  intro w0 hrow hg0;have hb0:Below w.heap.size w w0:=(Dv _ _).grown hg0 (AA _) (fun k e=>by cases e);clear hg0;go_wp2;go_loopw [5,6,22] (fun s5 s6 s22 wr=>∃ (i c:Nat) (out:List Nat),s6=.int .u64 c/\s22=.int .i64 i/\i<=l.length/\Hid (lY l m i c out)/\Hid (dr wr w.heap.size s5 out)/\Below w.heap.size w wr) (fun _ _ s22 _=>l.length-(intOf s22).toNat)
  case atStart=>exact⟨0,0,[],rfl,rfl,AI _,mQ l m,hrow,hb0⟩
  case round =>
   clear hrow hb0;obtain⟨i,c,out,rfl,rfl,hi,hst,hown,hbw⟩:=hrel;have hsz:=hbw.size;have hcar:=hst.out.car;have hol:=hst.out.len;by_cases hil:i<l.length
   ·obtain⟨b,o,rfl,hbb,hc⟩:=hcell (by omega);have hc1:=(hbw.cell (p:=⟨b,o+i,none⟩) hbb).trans (hc i hil);have hx:=cf hld hil;have hstep:=At (pV hld hmd hst.out hil);obtain⟨x,hxe⟩:∃ x,x=nth l i:=⟨_,rfl⟩;rw[<-hxe] at hx hstep hc1;have hx:x<1000000000:=hx;by_cases him:i<m.length
    ·obtain⟨b',o',rfl,hbb',hc'⟩:=hcell' (by omega);have hc1':=(hbw.cell (p:=⟨b',o'+i,none⟩) hbb').trans (hc' i him);have hy:=cf hmd him;obtain⟨y,hye⟩:∃ y,y=nth m i:=⟨_,rfl⟩;rw[<-hye] at hy hstep hc1';have hy:y<1000000000:=hy;clear hc hc' hcell hcell' hst hxe hye;go_wp2_with (at_builtin;refine aU 61 Tryz.underlying61 rfl (.tmp 40) (.tmp 43) rfl w.heap.size _ out _ ((c+x+y) % BB) (by show _=(((c+x+y) % 1000000000:Nat):Int);omega) rfl hown.out rfl (by omega) hsz ?_)
     intro v' w1 hown' hb';have hb1:=hb' _ _ hbw (AA _);have HO:=At hown';clear hown hown' hbw hb';go_wp2;go_roundw;case rel=>exact⟨i+1,_,_,by show Value.int _ _=Value.int _ ((((c+x+y) / 1000000000:Nat)):Int);(congr 1<;>omega),by go_num,by omega,hstep,HO,hb1⟩
     case measure=>simp[intOf];omega
    ·have hy0:nth m i=0:=gP (by omega);rw[hy0] at hstep;have himI:decide ((i:Int)<(m.length:Int))=false:=by simp;omega
     clear hc hcell hcell' hst hxe hy0;go_wp2_with (at_builtin;refine aU 61 Tryz.underlying61 rfl (.tmp 40) (.tmp 43) rfl w.heap.size _ out _ ((c+x+0) % BB) (by show _=(((c+x+0) % 1000000000:Nat):Int);omega) rfl hown.out rfl (by omega) hsz ?_)
     intro v' w1 hown' hb';have hb1:=hb' _ _ hbw (AA _);have HO:=At hown';clear hown hown' hbw hb';go_wp2;go_roundw;case rel=>exact⟨i+1,_,_,by show Value.int _ _=Value.int _ ((((c+x+0) / 1000000000:Nat)):Int);(congr 1<;>omega),by go_num,by omega,hstep,HO,hb1⟩
     case measure=>simp[intOf];omega
   ·obtain rfl:i=l.length:=by omega
    have hend:=At (sF (by assumption) (by assumption) hge hst.out);clear hcell hcell' hst hil hi;by_cases hc0:c=0
    ·subst hc0;have hend:=At (show ag BB (val BB l+val BB m)=out by rw[hend.out,if_pos rfl]);obtain⟨q9,c9,hq9⟩:=(dr.isU hown.out);obtain⟨rfl,-⟩:=hq9;clear hol;go_wp2;go_ret;exact⟨.slice q9 out.length c9,rfl,by rw[hend.out];exact hown.out,hbw⟩
    ·obtain rfl:c=1:=by omega
     have hend:=At (show ag BB (val BB l+val BB m)=out++[1] by rw[hend.out,if_neg hc0]);clear hc0;go_wp2_with (at_builtin;refine aU 61 Tryz.underlying61 rfl (.tmp 50) (.tmp 52) rfl w.heap.size _ out _ 1 rfl rfl hown.out rfl (by omega) hsz ?_)
     intro v' w1 hown' hb';have hb1:=hb' _ _ hbw (AA _);have HO:=At hown';clear hown hown' hbw hb';obtain⟨q9,c9,rfl,-⟩:=dr.isU HO.out;go_wp2;go_ret;exact⟨.slice q9 (out++[1]).length c9,by first | rfl | simp,by rw[hend.out];exact HO.out,hb1⟩
structure iV (a b:List Nat) (i borrow:Nat) (lo:List Nat):Prop where
 len:lo.length=a.length
 dig:∀ d∈lo,d<BB
 bor:borrow<=1
 eq:val BB (lo.take i)+val BB (b.take i)=val BB (a.take i)+borrow*BB ^ i
theorem ry (a b:List Nat):iV a b 0 0 (List.replicate a.length 0):=⟨by simp,fun d hd=>by rw[Ch hd];decide,by omega,by simp⟩
theorem yE {a b lo:List Nat}{i borrow d b2:Nat} (h:iV a b i borrow lo) (hi:i<a.length) (hd:d<BB) (hb:b2<=1) (he:d+(nth b i+borrow)=nth a i+b2*BB):iV a b (i+1) b2 (lo.set i d):=by
 have hl:=h.len;have hq:=h.eq;refine⟨by rw[BO];exact hl,fun x hx=>?_,hb,?_⟩
 ·rcases Ce hx with hx | rfl
  ·exact h.dig x hx
  ·exact hd
 ·rw[fN,fN,fN,pW,eo (by omega)];have hp:BB ^ (i+1)=BB*BB ^ i:=by rw[AS,AT]
  rw[hp];have:(d+(nth b i+borrow))*BB ^ i=(nth a i+b2*BB)*BB ^ i:=by rw[he]
  grind
theorem yD {a b lo:List Nat}{c:Nat} (hb:b.length<=a.length) (hle:val BB b<=val BB a) (h:iV a b a.length c lo):ag BB (val BB a-val BB b)=lean lo:=by
 have he:=h.eq;have hl:=h.len;rw[AK (AA _),AK hb,AK (by omega)] at he;have hlt:=gZ BB lo h.dig;rw[hl] at hlt;have hc:=h.bor
 have h0:c=0:=by
  rcases BK 0 c with h1 | h1
  ·obtain rfl:c=1:=by omega
   rw[BV] at he;omega
  ·omega
 subst h0;rw[ew aw h.dig];congr 1;omega
theorem tE {a b:List Nat} (ha:Dg.Can BB a) (hb:Dg.Can BB b) (hle:val BB b<=val BB a):b.length<=a.length:=by
 rcases BK a.length b.length with h | h
 ·have:=cQ aw ha hb h;omega
 ·exact h
theorem zB (va vb:Value) (l m:List Nat) (w:World) (ha:IsU w va l) (hb:IsU w vb m) (hl:Dg.Can BB l) (hm:Dg.Can BB m) (hle:val BB m<=val BB l) (hll:l.length<1000000) :
  Calls Tryz.prog 139 #[va,vb] w fun e w'=>∃ g cap,e=.returned (.slice (some ⟨g,0,none⟩) (ag BB (val BB l-val BB m)).length cap)/\w.heap.size<=g/\bu w' g cap (ag BB (val BB l-val BB m))/\Below w.heap.size w w':=by
 have hlen:=tE hl hm hle;obtain⟨p,cap,rfl,hlc,hcm,hcell⟩:=ha;obtain⟨p',cap',rfl,hlc',hcm',hcell'⟩:=hb;have hld:=hl.1;have hmd:=hm.1;have HLE:=At hle;clear hle;go_enter Tryz.func139,Tryz.ntmps139;go_wp2_with (at_make;refine dR 61 Tryz.underlying61 rfl (.tmp 11) (.tmp 11) rfl _ _ l.length rfl rfl rfl rfl ?c1 ?_)
 case c1=>omega
 intro w0 hrow hb0 hs0;have hb1:=hb0 _ _ (Dv _ _) (AA _);clear hb0;go_wp2;go_loopw [6,15] (fun s6 s15 wr=>∃ (i c:Nat) (lo:List Nat),s6=.int .u64 c/\s15=.int .i64 i/\i<=l.length/\Hid (iV l m i c lo)/\Hid (bu wr w.heap.size l.length lo)/\Below w.heap.size w wr) (fun _ s15 _=>l.length-(intOf s15).toNat)
 case atStart=>exact⟨0,0,_,rfl,rfl,AI _,ry l m,hrow,hb1⟩
 case round =>
  clear hrow hb1 hs0;obtain⟨i,c,lo,rfl,rfl,hi,hst,hro,hbw⟩:=hrel;have hbor:=hst.out.bor;by_cases hil:i<l.length
  ·obtain⟨b,o,rfl,hbb,hc⟩:=hcell (by omega);have hc1:=(hbw.cell (p:=⟨b,o+i,none⟩) hbb).trans (hc i hil);have hlo:i<lo.length:=by rw[hst.out.len];exact hil
   have HLO:=At hst.out.len;have ho:=hro.out.cell hlo;have hf:=hro.out.free i;have hxe0:=fun d b2 hd hb he=>yE (d:=d) (b2:=b2) hst.out hil hd hb he;have hx:nth l i<1000000000:=cf hld hil;obtain⟨x,hxe⟩:∃ x,x=nth l i:=⟨_,rfl⟩;rw[<-hxe] at hx hc1;rw[<-hxe] at hxe0;by_cases him:i<m.length
   ·obtain⟨b',o',rfl,hbb',hc'⟩:=hcell' (by omega);have hc1':=(hbw.cell (p:=⟨b',o'+i,none⟩) hbb').trans (hc' i him);have hy:nth m i<1000000000:=cf hmd him;obtain⟨y,hye⟩:∃ y,y=nth m i:=⟨_,rfl⟩;rw[<-hye] at hy hc1' hxe0;clear hc hc' hcell hcell' hxe hye;by_cases hlt:x<c+y
    ·have hltI:decide ((x:Int)<((c+y:Nat):Int))=true:=by simp;omega
     have hstep:=At (show iV l m (i+1) 1 (lo.set i (x+1000000000-(c+y))) from hxe0 (x+1000000000-(c+y)) 1 (by show _<1000000000;omega) (by omega) (by show _=x+1*1000000000;omega));clear hst hxe0 HLE;go_wp2;go_roundw;case rel=>exact⟨i+1,_,_,by go_num,by go_num,by omega,hstep.out,hro.out.set i _ _ (by first | go_num | omega),hbw.setCell (p:=⟨w.heap.size,i,none⟩) (AA _) _⟩
     case measure=>simp[intOf];omega
    ·have hltI:decide ((x:Int)<((c+y:Nat):Int))=false:=by simp;omega
     have hstep:=At (show iV l m (i+1) 0 (lo.set i (x-(c+y))) from hxe0 (x-(c+y)) 0 (by show _<1000000000;omega) (by omega) (by show _=x+0*1000000000;omega));clear hst hxe0 HLE;go_wp2;go_roundw;case rel=>exact⟨i+1,_,_,by go_num,by go_num,by omega,hstep.out,hro.out.set i _ _ (by first | go_num | omega),hbw.setCell (p:=⟨w.heap.size,i,none⟩) (AA _) _⟩
     case measure=>simp[intOf];omega
   ·have hy0:nth m i=0:=gP (by omega);rw[hy0] at hxe0;have himI:decide ((i:Int)<(m.length:Int))=false:=by simp;omega
    obtain⟨y,hye⟩:∃ y,y=0:=⟨_,rfl⟩;rw[<-hye] at hxe0;clear hc hcell hcell' hxe hy0;by_cases hlt:x<c+y
    ·have hltI:decide ((x:Int)<((c+y:Nat):Int))=true:=by simp;omega
     have hstep:=At (show iV l m (i+1) 1 (lo.set i (x+1000000000-(c+y))) from hxe0 (x+1000000000-(c+y)) 1 (by show _<1000000000;omega) (by omega) (by show _=x+1*1000000000;omega));clear hst hxe0 HLE;go_wp2;go_roundw;case rel=>exact⟨i+1,_,_,by go_num,by go_num,by omega,hstep.out,hro.out.set i _ _ (by first | go_num | omega),hbw.setCell (p:=⟨w.heap.size,i,none⟩) (AA _) _⟩
     case measure=>simp[intOf];omega
    ·have hltI:decide ((x:Int)<((c+y:Nat):Int))=false:=by simp;omega
     have hstep:=At (show iV l m (i+1) 0 (lo.set i (x-(c+y))) from hxe0 (x-(c+y)) 0 (by show _<1000000000;omega) (by omega) (by show _=x+0*1000000000;omega));clear hst hxe0 HLE;go_wp2;go_roundw;case rel=>exact⟨i+1,_,_,by go_num,by go_num,by omega,hstep.out,hro.out.set i _ _ (by first | go_num | omega),hbw.setCell (p:=⟨w.heap.size,i,none⟩) (AA _) _⟩
     case measure=>simp[intOf];omega
  ·obtain rfl:i=l.length:=by omega
   have hle2:=hro.out.isU;rw[hst.out.len] at hle2;have hend:=At (yD hlen HLE.out hst.out);clear hcell hcell' hst;go_wp2_with (go_at_call 134;refine (fC _ _ _ lo _ (by exact hle2)).mono ?_;rintro e w' ⟨rfl,rfl⟩)
   go_ret;refine⟨w.heap.size,l.length,?_,AA _,?_,hbw⟩
   ·rw[hend.out];rfl
   ·rw[hend.out];exact hro.out.lean
theorem An (va vb:Value) (a b:Nat) (w:World) (ha:IsN w va a) (hb:IsN w vb b) (hfa:Few a) (hfb:Few b) :
  Calls Tryz.prog 137 #[va,vb] w fun e w'=>∃ v,e=.returned v/\IsN w' v (a+b)/\Below w.heap.size w w':=by
 unfold Few at hfa hfb;refine (Ao va vb (ag BB a) (ag BB b) w ha hb (bd a) (bd b) (by omega) (by omega)).mono ?_;rintro e w' ⟨v,rfl,hv,hbl⟩;rw[aV aw,aV aw] at hv;exact⟨v,rfl,hv.isU,hbl⟩
theorem vQ (va vb:Value) (a b:Nat) (w:World) (ha:IsN w va a) (hb:IsN w vb b) (hfa:Few a) (hle:b<=a) :
  Calls Tryz.prog 139 #[va,vb] w fun e w'=>∃ v,e=.returned v/\IsN w' v (a-b)/\Below w.heap.size w w':=by
 unfold Few at hfa;refine (zB va vb (ag BB a) (ag BB b) w ha hb (bd a) (bd b) (by rw[aV aw,aV aw];exact hle) (by omega)).mono ?_;rintro e w' ⟨g,cap,rfl,-,hv,hbl⟩;rw[aV aw,aV aw] at *
 exact⟨_,rfl,hv.isU,hbl⟩
theorem lC (va vb:Value) (a b:Nat) (w:World) (ha:IsN w va a) (hb:IsN w vb b) (hfa:Few a) (hfb:Few b) :
  Calls Tryz.prog 105 #[va,vb] w fun e w'=>∃ v,e=.returned v/\IsN w' v (a*b)/\Below w.heap.size w w':=by
 unfold Few at hfa hfb;refine (mS va vb (ag BB a) (ag BB b) w ha hb (bd a).1 (bd b).1 (by omega) (by omega)).mono ?_;rintro e w' ⟨g,cap,rfl,-,-,hv,hbl⟩;rw[aV aw,aV aw] at *
 exact⟨_,rfl,hv.isU,hbl⟩
theorem ou (va vb:Value) (a b:Nat) (w:World) (ha:IsN w va a) (hb:IsN w vb b) :
  Calls Tryz.prog 138 #[va,vb] w fun e w'=>e=.returned (.int .i64 (eH a b))/\Below w.heap.size w w':=by
 have:=e_ va vb (ag BB a) (ag BB b) w ha hb (bd a) (bd b);rw[aV aw,aV aw] at this;refine this.mono ?_;rintro e w' ⟨rfl,n,rfl⟩;exact⟨rfl,below_drewN (Dv _ _) _⟩
def kH (ma:Bool) (a:Nat) (mb:Bool) (b:Nat):Bool×Nat:=if ma=mb then (ma,a+b) else if b<=a then (ma,a-b) else (mb,b-a)
theorem zd (ma mb:Bool) (va vb:Value) (a b:Nat) (w:World) (ha:IsN w va a) (hb:IsN w vb b) (hfa:Few a) (hfb:Few b) :
  Calls Tryz.prog 104 #[.bool ma,va,.bool mb,vb] w fun e w'=>∃ v,e=.returned (.tuple #[.bool (kH ma a mb b).1,v])/\IsN w' v (kH ma a mb b).2/\Below w.heap.size w w':=by
 have ha':=ha;have hb':=hb;obtain⟨p,cap,rfl,-,-,-⟩:=ha';obtain⟨p',cap',rfl,-,-,-⟩:=hb';have HA:=At ha;have HB:=At hb;have HFA:=At hfa;have HFB:=At hfb;clear ha hb hfa hfb;unfold kH;go_enter Tryz.func104,Tryz.ntmps104;by_cases h:ma=mb
 ·subst h;rw[if_pos rfl];go_wp2_with (go_at_call 137;refine (An _ _ a b _ HA.out HB.out HFA.out HFB.out).mono ?_;rintro e w' ⟨v,rfl,hv,hbl⟩;obtain⟨q,cq,rfl,-,-,-⟩:=id hv)
  go_ret2
  exact⟨_,rfl,hv,hbl⟩
 ·rw[if_neg h];have h2:(ma == mb)=false:=by simpa using h
  by_cases hle:b<=a
  ·have hc:eH a b=0\/eH a b=1:=by unfold eH;rw[if_neg (by omega)];split<;>simp
   have hc:decide (0<=eH a b)=true:=by simp;omega
   rw[if_pos hle];have HLE:=At hle;clear hle;go_wp2_with first | (go_at_call 138;refine (ou _ _ a b _ HA.out HB.out).mono ?_;rintro e w1 ⟨rfl,hb1⟩) | (go_at_call 139;refine (vQ _ _ a b _ (HA.out.below hb1) (HB.out.below hb1) HFA.out HLE.out).mono ?_;rintro e w' ⟨v,rfl,hv,hbl⟩;obtain⟨q,cq,rfl,-,-,-⟩:=id hv)
   go_ret2
   exact⟨_,rfl,hv,hb1.trans (hbl.mono hb1.size)⟩
  ·have hc:eH a b=-1:=by unfold eH;rw[if_pos (by omega)]
   rw[if_neg hle];have HLE:=At (show a<=b by omega);clear hle;go_wp2_with first | (go_at_call 138;refine (ou _ _ a b _ HA.out HB.out).mono ?_;rw[hc];rintro e w1 ⟨rfl,hb1⟩) | (go_at_call 139;refine (vQ _ _ b a _ (HB.out.below hb1) (HA.out.below hb1) HFB.out HLE.out).mono ?_;rintro e w' ⟨v,rfl,hv,hbl⟩;obtain⟨q,cq,rfl,-,-,-⟩:=id hv)
   go_ret2
   exact⟨_,rfl,hv,hb1.trans (hbl.mono hb1.size)⟩
end Go.Proofs.YtgakllaobooabaaGreatDoor
