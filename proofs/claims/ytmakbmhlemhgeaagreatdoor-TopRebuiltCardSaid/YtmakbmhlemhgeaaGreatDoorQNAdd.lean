/- L -/
import Derived.Test.YtmakbmhlemhgeaaGreatDoorQGcd
import Derived.Test.YtmakbmhlemhgeaaGreatDoorQRed
import Derived.Test.YtmakbmhlemhgeaaGreatDoorQB
set_option linter.all false
set_option maxRecDepth 100000
set_option maxHeartbeats 8000000
namespace Go.Proofs.YtmakbmhlemhgeaaGreatDoor
open Go.RowKit Dg
theorem dF {l:List Nat}{j:Nat} (h:l.length<=j):nth l j=0:=by simp[nth,sb h]
theorem cW {l:List Nat}{k:Nat}:val BB (l.take (k+1))=val BB (l.take k)+nth l k*BB ^ k:=by
 by_cases h:k<l.length
 ·exact aS h
 ·rw[dF (by omega),rz (by omega),rz (by omega)];omega
theorem lx {l:List Nat}{j:Nat} (h:∀ d∈l,d<BB):nth l j<BB:=by
 by_cases hj:j<l.length
 ·exact aV h hj
 ·rw[dF (by omega)];decide
structure h_ (a b:List Nat) (i carry:Nat) (out:List Nat):Prop where
 len:out.length=i
 dig:∀ d∈out,d<BB
 car:carry<=1
 eq:val BB out+carry*BB ^ i=val BB (a.take i)+val BB (b.take i)
theorem iH (a b:List Nat):h_ a b 0 0 []:=⟨rfl,by simp,by omega,by simp⟩
theorem kg {a b out:List Nat}{i carry:Nat} (ha:∀ d∈a,d<BB) (hb:∀ d∈b,d<BB) (h:h_ a b i carry out) (_hi:i<a.length) :
  h_ a b (i+1) ((carry+nth a i+nth b i) / BB) (out++[(carry+nth a i+nth b i) % BB]):=by
 have h1:nth a i<1000000000:=lx (j:=i) ha;have h2:nth b i<1000000000:=lx (j:=i) hb;have h3:=h.car;have he:=h.eq;refine⟨by simp[h.len],?_,?_,?_⟩
 ·intro d hd;rcases tn.1 hd with hd | hd
  ·exact h.dig d hd
  ·rw[tu.1 hd];exact sB _ (by decide)
 ·show (carry+nth a i+nth b i) / 1000000000<=1;omega
 ·rw[cX,h.len,cW,cW];have e4:=sA (carry+nth a i+nth b i) BB;generalize (carry+nth a i+nth b i) / BB=q at *
  generalize (carry+nth a i+nth b i) % BB=r at *
  have hp:BB ^ (i+1)=BB*BB ^ i:=by rw[rK,rQ]
  rw[hp];have:(BB*q+r)*BB ^ i=(carry+nth a i+nth b i)*BB ^ i:=by rw[e4]
  grind
theorem ig {l:List Nat} (hd:∀ d∈l,d<BB) (h:l=[]\/BB ^ (l.length-1)<=val BB l):aa BB (val BB l)=l:=by
 rcases h with rfl | h
 ·rw[val,aE]
 ·have e:=ci al hd;have h1:=bf al (val BB l);rw[<-e] at h1 |-;have h2:=bo l
  have h3:l.length-1<(lean l).length:=by
   rcases sj (l.length-1) (lean l).length with h3 | h3
   ·exact h3
   ·exact absurd (rP h h1) (Nat.not_lt.2 (rI (by decide) h3))
  have h4:=eY l;rw[rz (by omega)] at h4;exact h4.symm
theorem lD {a b out:List Nat}{c:Nat} (ha:Dg.Can BB a) (hb:Dg.Can BB b) (hab:b.length<=a.length) (h:h_ a b a.length c out) :
  aa BB (val BB a+val BB b)=if c=0 then out else out++[c]:=by
 have he:=h.eq;rw[rz (rp _),rz hab] at he;have hl:=h.len;have hc:=h.car;by_cases h0:c=0
 ·subst h0;rw[if_pos rfl,<-he,th,r7];refine ig h.dig ?_;rcases ta out.length with h1 | h1
  ·exact Or.inl (sd h1)
  ·refine Or.inr ?_;have hne:a≠[]:=fun e=>by rw[e] at hl;simp at hl;rw[hl] at h1;simp at h1
   have h2:=ch ha hne;rw[hl];omega
 ·obtain rfl:c=1:=by omega
  rw[if_neg h0,<-he];have e:val BB (out++[1])=val BB out+1*BB ^ a.length:=by rw[cX,hl,rQ]
  rw[<-e];refine ig (fun d hd=>?_) (Or.inr ?_)
  ·rcases tn.1 hd with hd | hd
   ·exact h.dig d hd
   ·rw[tu.1 hd];decide
  ·rw[e,rE,List.length_singleton,hl,s_];omega
theorem rb (va vb:Value) (l m:List Nat) (w:World) (ha:IsU w va l) (hb:IsU w vb m) (hl:Dg.Can BB l) (hm:Dg.Can BB m) (hll:l.length<1000000) (hlm:m.length<1000000) :
  Calls Tryz.prog 259 #[va,vb] w fun e w'=>∃ v,e=.returned v/\bF w' w.heap.size v (aa BB (val BB l+val BB m))/\Below w.heap.size w w':=by
 obtain⟨p,cap,rfl,hlc,hcm,hcell⟩:=ha;obtain⟨p',cap',rfl,hlc',hcm',hcell'⟩:=hb;obtain⟨i0,hi0,hz0,hz1,hz2⟩:=info_parts Tryz.info122;have hld:=hl.1;have hmd:=hm.1;have hlC:=hl;have hmC:=hm;go_enter Tryz.func259,Tryz.ntmps259;by_cases hlt:l.length<m.length
 ·have hge:l.length<=m.length:=by omega
  have hd0:decide ((l.length:Int)<(m.length:Int))=true:=by simp;omega
  rw[tM (val BB l)];go_wp2_with (at_make;refine wpList_make_own _ rfl (.const (.int .i64 0)) (.tmp 18) 104 rfl w.heap.size 122 i0 (.int .u64 0) 1 Tryz.underlying104 hi0 hz0 hz1 .i64 .i64 _ (m.length+1) rfl rfl (by simp) (by rw[hz2];omega) (by unfold maxLen;omega) (rp _) ?_)
  intro w0 hrow hg0;have hb0:Below w.heap.size w w0:=(t_ _ _).grown hg0 (rp _) (fun k e=>by cases e);clear hg0;go_wp2;go_loopw [5,6,22] (fun s5 s6 s22 wr=>∃ (i c:Nat) (out:List Nat),s6=.int .u64 c/\s22=.int .i64 i/\i<=m.length/\Hid (h_ m l i c out)/\Hid (bF wr w.heap.size s5 out)/\Below w.heap.size w wr) (fun _ _ s22 _=>m.length-(intOf s22).toNat)
  case atStart=>exact⟨0,0,[],rfl,rfl,rH _,iH m l,hrow,hb0⟩
  case round =>
   clear hrow hb0;obtain⟨i,c,out,rfl,rfl,hi,hst,hown,hbw⟩:=hrel;have hsz:=hbw.size;have hcar:=hst.out.car;have hol:=hst.out.len;by_cases hil:i<m.length
   ·obtain⟨b,o,rfl,hbb,hc⟩:=hcell' (by omega);have hc1:=(hbw.cell (p:=⟨b,o+i,none⟩) hbb).trans (hc i hil);have hx:=aV hmd hil;have hstep:=ri (kg hmd hld hst.out hil);obtain⟨x,hxe⟩:∃ x,x=nth m i:=⟨_,rfl⟩;rw[<-hxe] at hx hstep hc1;have hx:x<1000000000:=hx;by_cases him:i<l.length
    ·obtain⟨b',o',rfl,hbb',hc'⟩:=hcell (by omega);have hc1':=(hbw.cell (p:=⟨b',o'+i,none⟩) hbb').trans (hc' i him);have hy:=aV hld him;obtain⟨y,hye⟩:∃ y,y=nth l i:=⟨_,rfl⟩;rw[<-hye] at hy hstep hc1';have hy:y<1000000000:=hy;clear hc hc' hcell' hcell hst hxe hye;go_wp2_with (at_builtin;refine aw 104 Tryz.underlying104 rfl (.tmp 40) (.tmp 43) rfl w.heap.size _ out _ ((c+x+y) % BB) (by show _=(((c+x+y) % 1000000000:Nat):Int);omega) rfl hown.out rfl (by omega) hsz ?_)
     intro v' w1 hown' hb';have hb1:=hb' _ _ hbw (rp _);have HO:=ri hown';clear hown hown' hbw hb';go_wp2;go_roundw;case rel=>exact⟨i+1,_,_,by show Value.int _ _=Value.int _ ((((c+x+y) / 1000000000:Nat)):Int);(congr 1<;>omega),by go_num,by omega,hstep,HO,hb1⟩
     case measure=>simp[intOf];omega
    ·have hy0:nth l i=0:=dF (by omega);rw[hy0] at hstep;have himI:decide ((i:Int)<(l.length:Int))=false:=by simp;omega
     clear hc hcell' hcell hst hxe hy0;go_wp2_with (at_builtin;refine aw 104 Tryz.underlying104 rfl (.tmp 40) (.tmp 43) rfl w.heap.size _ out _ ((c+x+0) % BB) (by show _=(((c+x+0) % 1000000000:Nat):Int);omega) rfl hown.out rfl (by omega) hsz ?_)
     intro v' w1 hown' hb';have hb1:=hb' _ _ hbw (rp _);have HO:=ri hown';clear hown hown' hbw hb';go_wp2;go_roundw;case rel=>exact⟨i+1,_,_,by show Value.int _ _=Value.int _ ((((c+x+0) / 1000000000:Nat)):Int);(congr 1<;>omega),by go_num,by omega,hstep,HO,hb1⟩
     case measure=>simp[intOf];omega
   ·obtain rfl:i=m.length:=by omega
    have hend:=ri (lD (by assumption) (by assumption) hge hst.out);clear hcell' hcell hst hil hi;by_cases hc0:c=0
    ·subst hc0;have hend:=ri (show aa BB (val BB m+val BB l)=out by rw[hend.out,if_pos rfl]);obtain⟨q9,c9,hq9⟩:=(bF.isU hown.out);obtain⟨rfl,-⟩:=hq9;clear hol;go_wp2;go_ret;exact⟨.slice q9 out.length c9,rfl,by rw[hend.out];exact hown.out,hbw⟩
    ·obtain rfl:c=1:=by omega
     have hend:=ri (show aa BB (val BB m+val BB l)=out++[1] by rw[hend.out,if_neg hc0]);clear hc0;go_wp2_with (at_builtin;refine aw 104 Tryz.underlying104 rfl (.tmp 50) (.tmp 52) rfl w.heap.size _ out _ 1 rfl rfl hown.out rfl (by omega) hsz ?_)
     intro v' w1 hown' hb';have hb1:=hb' _ _ hbw (rp _);have HO:=ri hown';clear hown hown' hbw hb';obtain⟨q9,c9,rfl,-⟩:=bF.isU HO.out;go_wp2;go_ret;exact⟨.slice q9 (out++[1]).length c9,by first | rfl | simp,by rw[hend.out];exact HO.out,hb1⟩
 ·have hge:m.length<=l.length:=by omega
  have hd0:decide ((l.length:Int)<(m.length:Int))=false:=by simp;omega
  go_wp2_with (at_make;refine wpList_make_own _ rfl (.const (.int .i64 0)) (.tmp 18) 104 rfl w.heap.size 122 i0 (.int .u64 0) 1 Tryz.underlying104 hi0 hz0 hz1 .i64 .i64 _ (l.length+1) rfl rfl (by simp) (by rw[hz2];omega) (by unfold maxLen;omega) (rp _) ?_)
  intro w0 hrow hg0;have hb0:Below w.heap.size w w0:=(t_ _ _).grown hg0 (rp _) (fun k e=>by cases e);clear hg0;go_wp2;go_loopw [5,6,22] (fun s5 s6 s22 wr=>∃ (i c:Nat) (out:List Nat),s6=.int .u64 c/\s22=.int .i64 i/\i<=l.length/\Hid (h_ l m i c out)/\Hid (bF wr w.heap.size s5 out)/\Below w.heap.size w wr) (fun _ _ s22 _=>l.length-(intOf s22).toNat)
  case atStart=>exact⟨0,0,[],rfl,rfl,rH _,iH l m,hrow,hb0⟩
  case round =>
   clear hrow hb0;obtain⟨i,c,out,rfl,rfl,hi,hst,hown,hbw⟩:=hrel;have hsz:=hbw.size;have hcar:=hst.out.car;have hol:=hst.out.len;by_cases hil:i<l.length
   ·obtain⟨b,o,rfl,hbb,hc⟩:=hcell (by omega);have hc1:=(hbw.cell (p:=⟨b,o+i,none⟩) hbb).trans (hc i hil);have hx:=aV hld hil;have hstep:=ri (kg hld hmd hst.out hil);obtain⟨x,hxe⟩:∃ x,x=nth l i:=⟨_,rfl⟩;rw[<-hxe] at hx hstep hc1;have hx:x<1000000000:=hx;by_cases him:i<m.length
    ·obtain⟨b',o',rfl,hbb',hc'⟩:=hcell' (by omega);have hc1':=(hbw.cell (p:=⟨b',o'+i,none⟩) hbb').trans (hc' i him);have hy:=aV hmd him;obtain⟨y,hye⟩:∃ y,y=nth m i:=⟨_,rfl⟩;rw[<-hye] at hy hstep hc1';have hy:y<1000000000:=hy;clear hc hc' hcell hcell' hst hxe hye;go_wp2_with (at_builtin;refine aw 104 Tryz.underlying104 rfl (.tmp 40) (.tmp 43) rfl w.heap.size _ out _ ((c+x+y) % BB) (by show _=(((c+x+y) % 1000000000:Nat):Int);omega) rfl hown.out rfl (by omega) hsz ?_)
     intro v' w1 hown' hb';have hb1:=hb' _ _ hbw (rp _);have HO:=ri hown';clear hown hown' hbw hb';go_wp2;go_roundw;case rel=>exact⟨i+1,_,_,by show Value.int _ _=Value.int _ ((((c+x+y) / 1000000000:Nat)):Int);(congr 1<;>omega),by go_num,by omega,hstep,HO,hb1⟩
     case measure=>simp[intOf];omega
    ·have hy0:nth m i=0:=dF (by omega);rw[hy0] at hstep;have himI:decide ((i:Int)<(m.length:Int))=false:=by simp;omega
     clear hc hcell hcell' hst hxe hy0;go_wp2_with (at_builtin;refine aw 104 Tryz.underlying104 rfl (.tmp 40) (.tmp 43) rfl w.heap.size _ out _ ((c+x+0) % BB) (by show _=(((c+x+0) % 1000000000:Nat):Int);omega) rfl hown.out rfl (by omega) hsz ?_)
     intro v' w1 hown' hb';have hb1:=hb' _ _ hbw (rp _);have HO:=ri hown';clear hown hown' hbw hb';go_wp2;go_roundw;case rel=>exact⟨i+1,_,_,by show Value.int _ _=Value.int _ ((((c+x+0) / 1000000000:Nat)):Int);(congr 1<;>omega),by go_num,by omega,hstep,HO,hb1⟩
     case measure=>simp[intOf];omega
   ·obtain rfl:i=l.length:=by omega
    have hend:=ri (lD (by assumption) (by assumption) hge hst.out);clear hcell hcell' hst hil hi;by_cases hc0:c=0
    ·subst hc0;have hend:=ri (show aa BB (val BB l+val BB m)=out by rw[hend.out,if_pos rfl]);obtain⟨q9,c9,hq9⟩:=(bF.isU hown.out);obtain⟨rfl,-⟩:=hq9;clear hol;go_wp2;go_ret;exact⟨.slice q9 out.length c9,rfl,by rw[hend.out];exact hown.out,hbw⟩
    ·obtain rfl:c=1:=by omega
     have hend:=ri (show aa BB (val BB l+val BB m)=out++[1] by rw[hend.out,if_neg hc0]);clear hc0;go_wp2_with (at_builtin;refine aw 104 Tryz.underlying104 rfl (.tmp 50) (.tmp 52) rfl w.heap.size _ out _ 1 rfl rfl hown.out rfl (by omega) hsz ?_)
     intro v' w1 hown' hb';have hb1:=hb' _ _ hbw (rp _);have HO:=ri hown';clear hown hown' hbw hb';obtain⟨q9,c9,rfl,-⟩:=bF.isU HO.out;go_wp2;go_ret;exact⟨.slice q9 (out++[1]).length c9,by first | rfl | simp,by rw[hend.out];exact HO.out,hb1⟩
structure em (a b:List Nat) (i borrow:Nat) (lo:List Nat):Prop where
 len:lo.length=a.length
 dig:∀ d∈lo,d<BB
 bor:borrow<=1
 eq:val BB (lo.take i)+val BB (b.take i)=val BB (a.take i)+borrow*BB ^ i
theorem kR (a b:List Nat):em a b 0 0 (List.replicate a.length 0):=⟨by simp,fun d hd=>by rw[sO hd];decide,by omega,by simp⟩
theorem pH {a b lo:List Nat}{i borrow d b2:Nat} (h:em a b i borrow lo) (hi:i<a.length) (hd:d<BB) (hb:b2<=1) (he:d+(nth b i+borrow)=nth a i+b2*BB):em a b (i+1) b2 (lo.set i d):=by
 have hl:=h.len;have hq:=h.eq;refine⟨by rw[tm];exact hl,fun x hx=>?_,hb,?_⟩
 ·rcases tr hx with hx | rfl
  ·exact h.dig x hx
  ·exact hd
 ·rw[cW,cW,cW,kh,cf (by omega)];have hp:BB ^ (i+1)=BB*BB ^ i:=by rw[rK,rQ]
  rw[hp];have:(d+(nth b i+borrow))*BB ^ i=(nth a i+b2*BB)*BB ^ i:=by rw[he]
  grind
theorem pG {a b lo:List Nat}{c:Nat} (hb:b.length<=a.length) (hle:val BB b<=val BB a) (h:em a b a.length c lo):aa BB (val BB a-val BB b)=lean lo:=by
 have he:=h.eq;have hl:=h.len;rw[rz (rp _),rz hb,rz (by omega)] at he;have hlt:=dI BB lo h.dig;rw[hl] at hlt;have hc:=h.bor
 have h0:c=0:=by
  rcases sj 0 c with h1 | h1
  ·obtain rfl:c=1:=by omega
   rw[tW] at he;omega
  ·omega
 subst h0;rw[ci al h.dig];congr 1;omega
theorem l6 {a b:List Nat} (ha:Dg.Can BB a) (hb:Dg.Can BB b) (hle:val BB b<=val BB a):b.length<=a.length:=by
 rcases sj a.length b.length with h | h
 ·have:=bu al ha hb h;omega
 ·exact h
theorem qr (va vb:Value) (l m:List Nat) (w:World) (ha:IsU w va l) (hb:IsU w vb m) (hl:Dg.Can BB l) (hm:Dg.Can BB m) (hle:val BB m<=val BB l) (hll:l.length<1000000) :
  Calls Tryz.prog 260 #[va,vb] w fun e w'=>∃ g cap,e=.returned (.slice (some ⟨g,0,none⟩) (aa BB (val BB l-val BB m)).length cap)/\w.heap.size<=g/\aJ w' g cap (aa BB (val BB l-val BB m))/\Below w.heap.size w w':=by
 have hlen:=l6 hl hm hle;obtain⟨p,cap,rfl,hlc,hcm,hcell⟩:=ha;obtain⟨p',cap',rfl,hlc',hcm',hcell'⟩:=hb;have hld:=hl.1;have hmd:=hm.1;have HLE:=ri hle;clear hle;go_enter Tryz.func260,Tryz.ntmps260;go_wp2_with (at_make;refine bS 104 Tryz.underlying104 rfl (.tmp 11) (.tmp 11) rfl _ _ l.length rfl rfl rfl rfl ?c1 ?_)
 case c1=>omega
 intro w0 hrow hb0 hs0;have hb1:=hb0 _ _ (t_ _ _) (rp _);clear hb0;go_wp2;go_loopw [6,15] (fun s6 s15 wr=>∃ (i c:Nat) (lo:List Nat),s6=.int .u64 c/\s15=.int .i64 i/\i<=l.length/\Hid (em l m i c lo)/\Hid (aJ wr w.heap.size l.length lo)/\Below w.heap.size w wr) (fun _ s15 _=>l.length-(intOf s15).toNat)
 case atStart=>exact⟨0,0,_,rfl,rfl,rH _,kR l m,hrow,hb1⟩
 case round =>
  clear hrow hb1 hs0;obtain⟨i,c,lo,rfl,rfl,hi,hst,hro,hbw⟩:=hrel;have hbor:=hst.out.bor;by_cases hil:i<l.length
  ·obtain⟨b,o,rfl,hbb,hc⟩:=hcell (by omega);have hc1:=(hbw.cell (p:=⟨b,o+i,none⟩) hbb).trans (hc i hil);have hlo:i<lo.length:=by rw[hst.out.len];exact hil
   have HLO:=ri hst.out.len;have ho:=hro.out.cell hlo;have hf:=hro.out.free i;have hxe0:=fun d b2 hd hb he=>pH (d:=d) (b2:=b2) hst.out hil hd hb he;have hx:nth l i<1000000000:=aV hld hil;obtain⟨x,hxe⟩:∃ x,x=nth l i:=⟨_,rfl⟩;rw[<-hxe] at hx hc1;rw[<-hxe] at hxe0;by_cases him:i<m.length
   ·obtain⟨b',o',rfl,hbb',hc'⟩:=hcell' (by omega);have hc1':=(hbw.cell (p:=⟨b',o'+i,none⟩) hbb').trans (hc' i him);have hy:nth m i<1000000000:=aV hmd him;obtain⟨y,hye⟩:∃ y,y=nth m i:=⟨_,rfl⟩;rw[<-hye] at hy hc1' hxe0;clear hc hc' hcell hcell' hxe hye;by_cases hlt:x<c+y
    ·have hltI:decide ((x:Int)<((c+y:Nat):Int))=true:=by simp;omega
     have hstep:=ri (show em l m (i+1) 1 (lo.set i (x+1000000000-(c+y))) from hxe0 (x+1000000000-(c+y)) 1 (by show _<1000000000;omega) (by omega) (by show _=x+1*1000000000;omega));clear hst hxe0 HLE;go_wp2;go_roundw;case rel=>exact⟨i+1,_,_,by go_num,by go_num,by omega,hstep.out,hro.out.set i _ _ (by first | go_num | omega),hbw.setCell (p:=⟨w.heap.size,i,none⟩) (rp _) _⟩
     case measure=>simp[intOf];omega
    ·have hltI:decide ((x:Int)<((c+y:Nat):Int))=false:=by simp;omega
     have hstep:=ri (show em l m (i+1) 0 (lo.set i (x-(c+y))) from hxe0 (x-(c+y)) 0 (by show _<1000000000;omega) (by omega) (by show _=x+0*1000000000;omega));clear hst hxe0 HLE;go_wp2;go_roundw;case rel=>exact⟨i+1,_,_,by go_num,by go_num,by omega,hstep.out,hro.out.set i _ _ (by first | go_num | omega),hbw.setCell (p:=⟨w.heap.size,i,none⟩) (rp _) _⟩
     case measure=>simp[intOf];omega
   ·have hy0:nth m i=0:=dF (by omega);rw[hy0] at hxe0;have himI:decide ((i:Int)<(m.length:Int))=false:=by simp;omega
    obtain⟨y,hye⟩:∃ y,y=0:=⟨_,rfl⟩;rw[<-hye] at hxe0;clear hc hcell hcell' hxe hy0;by_cases hlt:x<c+y
    ·have hltI:decide ((x:Int)<((c+y:Nat):Int))=true:=by simp;omega
     have hstep:=ri (show em l m (i+1) 1 (lo.set i (x+1000000000-(c+y))) from hxe0 (x+1000000000-(c+y)) 1 (by show _<1000000000;omega) (by omega) (by show _=x+1*1000000000;omega));clear hst hxe0 HLE;go_wp2;go_roundw;case rel=>exact⟨i+1,_,_,by go_num,by go_num,by omega,hstep.out,hro.out.set i _ _ (by first | go_num | omega),hbw.setCell (p:=⟨w.heap.size,i,none⟩) (rp _) _⟩
     case measure=>simp[intOf];omega
    ·have hltI:decide ((x:Int)<((c+y:Nat):Int))=false:=by simp;omega
     have hstep:=ri (show em l m (i+1) 0 (lo.set i (x-(c+y))) from hxe0 (x-(c+y)) 0 (by show _<1000000000;omega) (by omega) (by show _=x+0*1000000000;omega));clear hst hxe0 HLE;go_wp2;go_roundw;case rel=>exact⟨i+1,_,_,by go_num,by go_num,by omega,hstep.out,hro.out.set i _ _ (by first | go_num | omega),hbw.setCell (p:=⟨w.heap.size,i,none⟩) (rp _) _⟩
     case measure=>simp[intOf];omega
  ·obtain rfl:i=l.length:=by omega
   have hle2:=hro.out.isU;rw[hst.out.len] at hle2;have hend:=ri (pG hlen HLE.out hst.out);clear hcell hcell' hst;go_wp2_with (go_at_call 169;refine (cS _ _ _ lo _ (by exact hle2)).mono ?_;rintro e w' ⟨rfl,rfl⟩)
   go_ret;refine⟨w.heap.size,l.length,?_,rp _,?_,hbw⟩
   ·rw[hend.out];rfl
   ·rw[hend.out];exact hro.out.lean
theorem ra (va vb:Value) (a b:Nat) (w:World) (ha:IsN w va a) (hb:IsN w vb b) (hfa:Few a) (hfb:Few b) :
  Calls Tryz.prog 259 #[va,vb] w fun e w'=>∃ v,e=.returned v/\IsN w' v (a+b)/\Below w.heap.size w w':=by
 unfold Few at hfa hfb;refine (rb va vb (aa BB a) (aa BB b) w ha hb (ay a) (ay b) (by omega) (by omega)).mono ?_;rintro e w' ⟨v,rfl,hv,hbl⟩;rw[av al,av al] at hv;exact⟨v,rfl,hv.isU,hbl⟩
theorem nv (va vb:Value) (a b:Nat) (w:World) (ha:IsN w va a) (hb:IsN w vb b) (hfa:Few a) (hle:b<=a) :
  Calls Tryz.prog 260 #[va,vb] w fun e w'=>∃ v,e=.returned v/\IsN w' v (a-b)/\Below w.heap.size w w':=by
 unfold Few at hfa;refine (qr va vb (aa BB a) (aa BB b) w ha hb (ay a) (ay b) (by rw[av al,av al];exact hle) (by omega)).mono ?_;rintro e w' ⟨g,cap,rfl,-,hv,hbl⟩;rw[av al,av al] at *
 exact⟨_,rfl,hv.isU,hbl⟩
theorem gP (va vb:Value) (a b:Nat) (w:World) (ha:IsN w va a) (hb:IsN w vb b) (hfa:Few a) (hfb:Few b) :
  Calls Tryz.prog 168 #[va,vb] w fun e w'=>∃ v,e=.returned v/\IsN w' v (a*b)/\Below w.heap.size w w':=by
 unfold Few at hfa hfb;refine (iJ va vb (aa BB a) (aa BB b) w ha hb (ay a).1 (ay b).1 (by omega) (by omega)).mono ?_;rintro e w' ⟨g,cap,rfl,-,-,hv,hbl⟩;rw[av al,av al] at *
 exact⟨_,rfl,hv.isU,hbl⟩
theorem gi (va vb:Value) (a b:Nat) (w:World) (ha:IsN w va a) (hb:IsN w vb b) :
  Calls Tryz.prog 73 #[va,vb] w fun e w'=>e=.returned (.int .i64 (bU a b))/\Below w.heap.size w w':=by
 have:=cJ va vb (aa BB a) (aa BB b) w ha hb (ay a) (ay b);rw[av al,av al] at this;refine this.mono ?_;rintro e w' ⟨rfl,n,rfl⟩;exact⟨rfl,below_drewN (t_ _ _) _⟩
def ge (ma:Bool) (a:Nat) (mb:Bool) (b:Nat):Bool×Nat:=if ma=mb then (ma,a+b) else if b<=a then (ma,a-b) else (mb,b-a)
theorem pY (ma mb:Bool) (va vb:Value) (a b:Nat) (w:World) (ha:IsN w va a) (hb:IsN w vb b) (hfa:Few a) (hfb:Few b) :
  Calls Tryz.prog 234 #[.bool ma,va,.bool mb,vb] w fun e w'=>∃ v,e=.returned (.tuple #[.bool (ge ma a mb b).1,v])/\IsN w' v (ge ma a mb b).2/\Below w.heap.size w w':=by
 have ha':=ha;have hb':=hb;obtain⟨p,cap,rfl,-,-,-⟩:=ha';obtain⟨p',cap',rfl,-,-,-⟩:=hb';have HA:=ri ha;have HB:=ri hb;have HFA:=ri hfa;have HFB:=ri hfb;clear ha hb hfa hfb;unfold ge;go_enter Tryz.func234,Tryz.ntmps234;by_cases h:ma=mb
 ·subst h;rw[if_pos rfl];go_wp2_with (go_at_call 259;refine (ra _ _ a b _ HA.out HB.out HFA.out HFB.out).mono ?_;rintro e w' ⟨v,rfl,hv,hbl⟩;obtain⟨q,cq,rfl,-,-,-⟩:=id hv)
  go_ret2
  exact⟨_,rfl,hv,hbl⟩
 ·rw[if_neg h];have h2:(ma == mb)=false:=by simpa using h
  by_cases hle:b<=a
  ·have hc:bU a b=0\/bU a b=1:=by unfold bU;rw[if_neg (by omega)];split<;>simp
   have hc:decide (0<=bU a b)=true:=by simp;omega
   rw[if_pos hle];have HLE:=ri hle;clear hle;go_wp2_with first | (go_at_call 73;refine (gi _ _ a b _ HA.out HB.out).mono ?_;rintro e w1 ⟨rfl,hb1⟩) | (go_at_call 260;refine (nv _ _ a b _ (HA.out.below hb1) (HB.out.below hb1) HFA.out HLE.out).mono ?_;rintro e w' ⟨v,rfl,hv,hbl⟩;obtain⟨q,cq,rfl,-,-,-⟩:=id hv)
   go_ret2
   exact⟨_,rfl,hv,hb1.trans (hbl.mono hb1.size)⟩
  ·have hc:bU a b=-1:=by unfold bU;rw[if_pos (by omega)]
   rw[if_neg hle];have HLE:=ri (show a<=b by omega);clear hle;go_wp2_with first | (go_at_call 73;refine (gi _ _ a b _ HA.out HB.out).mono ?_;rw[hc];rintro e w1 ⟨rfl,hb1⟩) | (go_at_call 260;refine (nv _ _ b a _ (HB.out.below hb1) (HA.out.below hb1) HFB.out HLE.out).mono ?_;rintro e w' ⟨v,rfl,hv,hbl⟩;obtain⟨q,cq,rfl,-,-,-⟩:=id hv)
   go_ret2
   exact⟨_,rfl,hv,hb1.trans (hbl.mono hb1.size)⟩
end Go.Proofs.YtmakbmhlemhgeaaGreatDoor
