/- L -/
import Derived.Test.YtlhpcoelfhjomaaGreatDoorQFmt
import Derived.Test.YtlhpcoelfhjomaaGreatDoorQNatText
set_option linter.all false
set_option maxRecDepth 100000
set_option maxHeartbeats 8000000
namespace Go.Proofs.YtlhpcoelfhjomaaGreatDoor
open Go.RowKit Dg
theorem ky {l:List Nat}{j:Nat} (h:l.length<=j):nth l j=0:=by simp[nth,JF h]
theorem jq {l:List Nat}{k:Nat}:val BB (l.take (k+1))=val BB (l.take k)+nth l k*BB ^ k:=by
 by_cases h:k<l.length
 ·exact cL h
 ·rw[ky (by omega),IE (by omega),IE (by omega)];omega
theorem zZ {l:List Nat}{j:Nat} (h:∀ d∈l,d<BB):nth l j<BB:=by
 by_cases hj:j<l.length
 ·exact cY h hj
 ·rw[ky (by omega)];decide
structure rT (a b:List Nat) (i carry:Nat) (out:List Nat):Prop where
 len:out.length=i
 dig:∀ d∈out,d<BB
 car:carry<=1
 eq:val BB out+carry*BB ^ i=val BB (a.take i)+val BB (b.take i)
theorem tf (a b:List Nat):rT a b 0 0 []:=⟨rfl,by simp,by omega,by simp⟩
theorem xh {a b out:List Nat}{i carry:Nat} (ha:∀ d∈a,d<BB) (hb:∀ d∈b,d<BB) (h:rT a b i carry out) (_hi:i<a.length) :
  rT a b (i+1) ((carry+nth a i+nth b i) / BB) (out++[(carry+nth a i+nth b i) % BB]):=by
 have h1:nth a i<1000000000:=zZ (j:=i) ha;have h2:nth b i<1000000000:=zZ (j:=i) hb;have h3:=h.car;have he:=h.eq;refine⟨by simp[h.len],?_,?_,?_⟩
 ·intro d hd;rcases Jo.1 hd with hd | hd
  ·exact h.dig d hd
  ·rw[Jj.1 hd];exact Jw _ (by decide)
 ·show (carry+nth a i+nth b i) / 1000000000<=1;omega
 ·rw[eI,h.len,jq,jq];have e4:=Jh (carry+nth a i+nth b i) BB;generalize (carry+nth a i+nth b i) / BB=q at *
  generalize (carry+nth a i+nth b i) % BB=r at *
  have hp:BB ^ (i+1)=BB*BB ^ i:=by rw[IN,IM]
  rw[hp];have:(BB*q+r)*BB ^ i=(carry+nth a i+nth b i)*BB ^ i:=by rw[e4]
  grind
theorem r7 {l:List Nat} (hd:∀ d∈l,d<BB) (h:l=[]\/BB ^ (l.length-1)<=val BB l):aq BB (val BB l)=l:=by
 rcases h with rfl | h
 ·rw[val,cz]
 ·have e:=c_ aT hd;have h1:=bV aT (val BB l);rw[<-e] at h1 |-;have h2:=bO l
  have h3:l.length-1<(lean l).length:=by
   rcases JD (l.length-1) (lean l).length with h3 | h3
   ·exact h3
   ·exact absurd (Jb h h1) (Ly.2 (IQ (by decide) h3))
  have h4:=kX l;rw[IE (by omega)] at h4;exact h4.symm
theorem Ak {a b out:List Nat}{c:Nat} (ha:Dg.Can BB a) (hb:Dg.Can BB b) (hab:b.length<=a.length) (h:rT a b a.length c out) :
  aq BB (val BB a+val BB b)=if c=0 then out else out++[c]:=by
 have he:=h.eq;rw[IE (Iw _),IE hab] at he;have hl:=h.len;have hc:=h.car;by_cases h0:c=0
 ·subst h0;rw[if_pos rfl,<-he,JE,I7];refine r7 h.dig ?_;rcases Jd out.length with h1 | h1
  ·exact Or.inl (Jc h1)
  ·refine Or.inr ?_;have hne:a≠[]:=fun e=>by rw[e] at hl;simp at hl;rw[hl] at h1;simp at h1
   have h2:=ff ha hne;rw[hl];omega
 ·obtain rfl:c=1:=by omega
  rw[if_neg h0,<-he];have e:val BB (out++[1])=val BB out+1*BB ^ a.length:=by rw[eI,hl,IM]
  rw[<-e];refine r7 (fun d hd=>?_) (Or.inr ?_)
  ·rcases Jo.1 hd with hd | hd
   ·exact h.dig d hd
   ·rw[Jj.1 hd];decide
  ·rw[e,IG,List.length_singleton,hl,JC];omega
theorem Il (va vb:Value) (l m:List Nat) (w:World) (ha:IsU w va l) (hb:IsU w vb m) (hl:Dg.Can BB l) (hm:Dg.Can BB m) (hll:l.length<1000000) (hlm:m.length<1000000) :
  Calls Tryz.prog 223 #[va,vb] w fun e w'=>∃ v,e=.returned v/\fv w' w.heap.size v (aq BB (val BB l+val BB m))/\Below w.heap.size w w':=by
 obtain⟨p,cap,rfl,hlc,hcm,hcell⟩:=ha;obtain⟨p',cap',rfl,hlc',hcm',hcell'⟩:=hb;obtain⟨i0,hi0,hz0,hz1,hz2⟩:=info_parts Tryz.info136;have hld:=hl.1;have hmd:=hm.1;have hlC:=hl;have hmC:=hm;go_enter Tryz.func223,Tryz.ntmps223;by_cases hlt:l.length<m.length
 ·have hge:l.length<=m.length:=by omega
  have hd0:decide ((l.length:Int)<(m.length:Int))=true:=by simp;omega
  rw[KQ (val BB l)];go_wp2_with (at_make;refine wpList_make_own _ rfl (.const (.int .i64 0)) (.tmp 18) 87 rfl w.heap.size 136 i0 (.int .u64 0) 1 Tryz.underlying87 hi0 hz0 hz1 .i64 .i64 _ (m.length+1) rfl rfl (by simp) (by rw[hz2];omega) (by unfold maxLen;omega) (Iw _) ?_)
  intro w0 hrow hg0;have hb0:Below w.heap.size w w0:=(LN _ _).grown hg0 (Iw _) (fun k e=>by cases e);clear hg0;go_wp2;go_loopw [5,6,22] (fun s5 s6 s22 wr=>∃ (i c:Nat) (out:List Nat),s6=.int .u64 c/\s22=.int .i64 i/\i<=m.length/\Hid (rT m l i c out)/\Hid (fv wr w.heap.size s5 out)/\Below w.heap.size w wr) (fun _ _ s22 _=>m.length-(intOf s22).toNat)
  case atStart=>exact⟨0,0,[],rfl,rfl,IF _,tf m l,hrow,hb0⟩
  case round =>
   clear hrow hb0;obtain⟨i,c,out,rfl,rfl,hi,hst,hown,hbw⟩:=hrel;have hsz:=hbw.size;have hcar:=hst.out.car;have hol:=hst.out.len;by_cases hil:i<m.length
   ·obtain⟨b,o,rfl,hbb,hc⟩:=hcell' (by omega);have hc1:=(hbw.cell (p:=⟨b,o+i,none⟩) hbb).trans (hc i hil);have hx:=cY hmd hil;have hstep:=Ip (xh hmd hld hst.out hil);obtain⟨x,hxe⟩:∃ x,x=nth m i:=⟨_,rfl⟩;rw[<-hxe] at hx hstep hc1;have hx:x<1000000000:=hx;by_cases him:i<l.length
    ·obtain⟨b',o',rfl,hbb',hc'⟩:=hcell (by omega);have hc1':=(hbw.cell (p:=⟨b',o'+i,none⟩) hbb').trans (hc' i him);have hy:=cY hld him;obtain⟨y,hye⟩:∃ y,y=nth l i:=⟨_,rfl⟩;rw[<-hye] at hy hstep hc1';have hy:y<1000000000:=hy;clear hc hc' hcell' hcell hst hxe hye;go_wp2_with (at_builtin;refine bS 87 Tryz.underlying87 rfl (.tmp 40) (.tmp 43) rfl w.heap.size _ out _ ((c+x+y) % BB) (by show _=(((c+x+y) % 1000000000:Nat):Int);omega) rfl hown.out rfl (by omega) hsz ?_)
     intro v' w1 hown' hb';have hb1:=hb' _ _ hbw (Iw _);have HO:=Ip hown';clear hown hown' hbw hb';go_wp2;go_roundw;case rel=>exact⟨i+1,_,_,by show Value.int _ _=Value.int _ ((((c+x+y) / 1000000000:Nat)):Int);(congr 1<;>omega),by go_num,by omega,hstep,HO,hb1⟩
     case measure=>simp[intOf];omega
    ·have hy0:nth l i=0:=ky (by omega);rw[hy0] at hstep;have himI:decide ((i:Int)<(l.length:Int))=false:=by simp;omega
     clear hc hcell' hcell hst hxe hy0;go_wp2_with (at_builtin;refine bS 87 Tryz.underlying87 rfl (.tmp 40) (.tmp 43) rfl w.heap.size _ out _ ((c+x+0) % BB) (by show _=(((c+x+0) % 1000000000:Nat):Int);omega) rfl hown.out rfl (by omega) hsz ?_)
     intro v' w1 hown' hb';have hb1:=hb' _ _ hbw (Iw _);have HO:=Ip hown';clear hown hown' hbw hb';go_wp2;go_roundw;case rel=>exact⟨i+1,_,_,by show Value.int _ _=Value.int _ ((((c+x+0) / 1000000000:Nat)):Int);(congr 1<;>omega),by go_num,by omega,hstep,HO,hb1⟩
     case measure=>simp[intOf];omega
   ·obtain rfl:i=m.length:=by omega
    have hend:=Ip (Ak (by assumption) (by assumption) hge hst.out);clear hcell' hcell hst hil hi;by_cases hc0:c=0
    ·subst hc0;have hend:=Ip (show aq BB (val BB m+val BB l)=out by rw[hend.out,if_pos rfl]);obtain⟨q9,c9,hq9⟩:=(fv.isU hown.out);obtain⟨rfl,-⟩:=hq9;clear hol;go_wp2;go_ret;exact⟨.slice q9 out.length c9,rfl,by rw[hend.out];exact hown.out,hbw⟩
    ·obtain rfl:c=1:=by omega
     have hend:=Ip (show aq BB (val BB m+val BB l)=out++[1] by rw[hend.out,if_neg hc0]);clear hc0;go_wp2_with (at_builtin;refine bS 87 Tryz.underlying87 rfl (.tmp 50) (.tmp 52) rfl w.heap.size _ out _ 1 rfl rfl hown.out rfl (by omega) hsz ?_)
     intro v' w1 hown' hb';have hb1:=hb' _ _ hbw (Iw _);have HO:=Ip hown';clear hown hown' hbw hb';obtain⟨q9,c9,rfl,-⟩:=fv.isU HO.out;go_wp2;go_ret;exact⟨.slice q9 (out++[1]).length c9,by first | rfl | simp,by rw[hend.out];exact HO.out,hb1⟩
 ·have hge:m.length<=l.length:=by omega
  have hd0:decide ((l.length:Int)<(m.length:Int))=false:=by simp;omega
  go_wp2_with (at_make;refine wpList_make_own _ rfl (.const (.int .i64 0)) (.tmp 18) 87 rfl w.heap.size 136 i0 (.int .u64 0) 1 Tryz.underlying87 hi0 hz0 hz1 .i64 .i64 _ (l.length+1) rfl rfl (by simp) (by rw[hz2];omega) (by unfold maxLen;omega) (Iw _) ?_)
  intro w0 hrow hg0;have hb0:Below w.heap.size w w0:=(LN _ _).grown hg0 (Iw _) (fun k e=>by cases e);clear hg0;go_wp2;go_loopw [5,6,22] (fun s5 s6 s22 wr=>∃ (i c:Nat) (out:List Nat),s6=.int .u64 c/\s22=.int .i64 i/\i<=l.length/\Hid (rT l m i c out)/\Hid (fv wr w.heap.size s5 out)/\Below w.heap.size w wr) (fun _ _ s22 _=>l.length-(intOf s22).toNat)
  case atStart=>exact⟨0,0,[],rfl,rfl,IF _,tf l m,hrow,hb0⟩
  case round =>
   clear hrow hb0;obtain⟨i,c,out,rfl,rfl,hi,hst,hown,hbw⟩:=hrel;have hsz:=hbw.size;have hcar:=hst.out.car;have hol:=hst.out.len;by_cases hil:i<l.length
   ·obtain⟨b,o,rfl,hbb,hc⟩:=hcell (by omega);have hc1:=(hbw.cell (p:=⟨b,o+i,none⟩) hbb).trans (hc i hil);have hx:=cY hld hil;have hstep:=Ip (xh hld hmd hst.out hil);obtain⟨x,hxe⟩:∃ x,x=nth l i:=⟨_,rfl⟩;rw[<-hxe] at hx hstep hc1;have hx:x<1000000000:=hx;by_cases him:i<m.length
    ·obtain⟨b',o',rfl,hbb',hc'⟩:=hcell' (by omega);have hc1':=(hbw.cell (p:=⟨b',o'+i,none⟩) hbb').trans (hc' i him);have hy:=cY hmd him;obtain⟨y,hye⟩:∃ y,y=nth m i:=⟨_,rfl⟩;rw[<-hye] at hy hstep hc1';have hy:y<1000000000:=hy;clear hc hc' hcell hcell' hst hxe hye;go_wp2_with (at_builtin;refine bS 87 Tryz.underlying87 rfl (.tmp 40) (.tmp 43) rfl w.heap.size _ out _ ((c+x+y) % BB) (by show _=(((c+x+y) % 1000000000:Nat):Int);omega) rfl hown.out rfl (by omega) hsz ?_)
     intro v' w1 hown' hb';have hb1:=hb' _ _ hbw (Iw _);have HO:=Ip hown';clear hown hown' hbw hb';go_wp2;go_roundw;case rel=>exact⟨i+1,_,_,by show Value.int _ _=Value.int _ ((((c+x+y) / 1000000000:Nat)):Int);(congr 1<;>omega),by go_num,by omega,hstep,HO,hb1⟩
     case measure=>simp[intOf];omega
    ·have hy0:nth m i=0:=ky (by omega);rw[hy0] at hstep;have himI:decide ((i:Int)<(m.length:Int))=false:=by simp;omega
     clear hc hcell hcell' hst hxe hy0;go_wp2_with (at_builtin;refine bS 87 Tryz.underlying87 rfl (.tmp 40) (.tmp 43) rfl w.heap.size _ out _ ((c+x+0) % BB) (by show _=(((c+x+0) % 1000000000:Nat):Int);omega) rfl hown.out rfl (by omega) hsz ?_)
     intro v' w1 hown' hb';have hb1:=hb' _ _ hbw (Iw _);have HO:=Ip hown';clear hown hown' hbw hb';go_wp2;go_roundw;case rel=>exact⟨i+1,_,_,by show Value.int _ _=Value.int _ ((((c+x+0) / 1000000000:Nat)):Int);(congr 1<;>omega),by go_num,by omega,hstep,HO,hb1⟩
     case measure=>simp[intOf];omega
   ·obtain rfl:i=l.length:=by omega
    have hend:=Ip (Ak (by assumption) (by assumption) hge hst.out);clear hcell hcell' hst hil hi;by_cases hc0:c=0
    ·subst hc0;have hend:=Ip (show aq BB (val BB l+val BB m)=out by rw[hend.out,if_pos rfl]);obtain⟨q9,c9,hq9⟩:=(fv.isU hown.out);obtain⟨rfl,-⟩:=hq9;clear hol;go_wp2;go_ret;exact⟨.slice q9 out.length c9,rfl,by rw[hend.out];exact hown.out,hbw⟩
    ·obtain rfl:c=1:=by omega
     have hend:=Ip (show aq BB (val BB l+val BB m)=out++[1] by rw[hend.out,if_neg hc0]);clear hc0;go_wp2_with (at_builtin;refine bS 87 Tryz.underlying87 rfl (.tmp 50) (.tmp 52) rfl w.heap.size _ out _ 1 rfl rfl hown.out rfl (by omega) hsz ?_)
     intro v' w1 hown' hb';have hb1:=hb' _ _ hbw (Iw _);have HO:=Ip hown';clear hown hown' hbw hb';obtain⟨q9,c9,rfl,-⟩:=fv.isU HO.out;go_wp2;go_ret;exact⟨.slice q9 (out++[1]).length c9,by first | rfl | simp,by rw[hend.out];exact HO.out,hb1⟩
structure lZ (a b:List Nat) (i borrow:Nat) (lo:List Nat):Prop where
 len:lo.length=a.length
 dig:∀ d∈lo,d<BB
 bor:borrow<=1
 eq:val BB (lo.take i)+val BB (b.take i)=val BB (a.take i)+borrow*BB ^ i
theorem yW (a b:List Nat):lZ a b 0 0 (List.replicate a.length 0):=⟨by simp,fun d hd=>by rw[JS hd];decide,by omega,by simp⟩
theorem FZ {a b lo:List Nat}{i borrow d b2:Nat} (h:lZ a b i borrow lo) (hi:i<a.length) (hd:d<BB) (hb:b2<=1) (he:d+(nth b i+borrow)=nth a i+b2*BB):lZ a b (i+1) b2 (lo.set i d):=by
 have hl:=h.len;have hq:=h.eq;refine⟨by rw[JK];exact hl,fun x hx=>?_,hb,?_⟩
 ·rcases KM hx with hx | rfl
  ·exact h.dig x hx
  ·exact hd
 ·rw[jq,jq,jq,xi,gV (by omega)];have hp:BB ^ (i+1)=BB*BB ^ i:=by rw[IN,IM]
  rw[hp];have:(d+(nth b i+borrow))*BB ^ i=(nth a i+b2*BB)*BB ^ i:=by rw[he]
  grind
theorem FY {a b lo:List Nat}{c:Nat} (hb:b.length<=a.length) (hle:val BB b<=val BB a) (h:lZ a b a.length c lo):aq BB (val BB a-val BB b)=lean lo:=by
 have he:=h.eq;have hl:=h.len;rw[IE (Iw _),IE hb,IE (by omega)] at he;have hlt:=f9 BB lo h.dig;rw[hl] at hlt;have hc:=h.bor
 have h0:c=0:=by
  rcases JD 0 c with h1 | h1
  ·obtain rfl:c=1:=by omega
   rw[JV] at he;omega
  ·omega
 subst h0;rw[c_ aT h.dig];congr 1;omega
theorem Bi {a b:List Nat} (ha:Dg.Can BB a) (hb:Dg.Can BB b) (hle:val BB b<=val BB a):b.length<=a.length:=by
 rcases JD a.length b.length with h | h
 ·have:=cQ aT ha hb h;omega
 ·exact h
theorem G3 (va vb:Value) (l m:List Nat) (w:World) (ha:IsU w va l) (hb:IsU w vb m) (hl:Dg.Can BB l) (hm:Dg.Can BB m) (hle:val BB m<=val BB l) (hll:l.length<1000000) :
  Calls Tryz.prog 224 #[va,vb] w fun e w'=>∃ g cap,e=.returned (.slice (some ⟨g,0,none⟩) (aq BB (val BB l-val BB m)).length cap)/\w.heap.size<=g/\di w' g cap (aq BB (val BB l-val BB m))/\Below w.heap.size w w':=by
 have hlen:=Bi hl hm hle;obtain⟨p,cap,rfl,hlc,hcm,hcell⟩:=ha;obtain⟨p',cap',rfl,hlc',hcm',hcell'⟩:=hb;have hld:=hl.1;have hmd:=hm.1;have HLE:=Ip hle;clear hle;go_enter Tryz.func224,Tryz.ntmps224;go_wp2_with (at_make;refine gx 87 Tryz.underlying87 rfl (.tmp 11) (.tmp 11) rfl _ _ l.length rfl rfl rfl rfl ?c1 ?_)
 case c1=>omega
 intro w0 hrow hb0 hs0;have hb1:=hb0 _ _ (LN _ _) (Iw _);clear hb0;go_wp2;go_loopw [6,15] (fun s6 s15 wr=>∃ (i c:Nat) (lo:List Nat),s6=.int .u64 c/\s15=.int .i64 i/\i<=l.length/\Hid (lZ l m i c lo)/\Hid (di wr w.heap.size l.length lo)/\Below w.heap.size w wr) (fun _ s15 _=>l.length-(intOf s15).toNat)
 case atStart=>exact⟨0,0,_,rfl,rfl,IF _,yW l m,hrow,hb1⟩
 case round =>
  clear hrow hb1 hs0;obtain⟨i,c,lo,rfl,rfl,hi,hst,hro,hbw⟩:=hrel;have hbor:=hst.out.bor;by_cases hil:i<l.length
  ·obtain⟨b,o,rfl,hbb,hc⟩:=hcell (by omega);have hc1:=(hbw.cell (p:=⟨b,o+i,none⟩) hbb).trans (hc i hil);have hlo:i<lo.length:=by rw[hst.out.len];exact hil
   have HLO:=Ip hst.out.len;have ho:=hro.out.cell hlo;have hf:=hro.out.free i;have hxe0:=fun d b2 hd hb he=>FZ (d:=d) (b2:=b2) hst.out hil hd hb he;have hx:nth l i<1000000000:=cY hld hil;obtain⟨x,hxe⟩:∃ x,x=nth l i:=⟨_,rfl⟩;rw[<-hxe] at hx hc1;rw[<-hxe] at hxe0;by_cases him:i<m.length
   ·obtain⟨b',o',rfl,hbb',hc'⟩:=hcell' (by omega);have hc1':=(hbw.cell (p:=⟨b',o'+i,none⟩) hbb').trans (hc' i him);have hy:nth m i<1000000000:=cY hmd him;obtain⟨y,hye⟩:∃ y,y=nth m i:=⟨_,rfl⟩;rw[<-hye] at hy hc1' hxe0;clear hc hc' hcell hcell' hxe hye;by_cases hlt:x<c+y
    ·have hltI:decide ((x:Int)<((c+y:Nat):Int))=true:=by simp;omega
     have hstep:=Ip (show lZ l m (i+1) 1 (lo.set i (x+1000000000-(c+y))) from hxe0 (x+1000000000-(c+y)) 1 (by show _<1000000000;omega) (by omega) (by show _=x+1*1000000000;omega));clear hst hxe0 HLE;go_wp2;go_roundw;case rel=>exact⟨i+1,_,_,by go_num,by go_num,by omega,hstep.out,hro.out.set i _ _ (by first | go_num | omega),hbw.setCell (p:=⟨w.heap.size,i,none⟩) (Iw _) _⟩
     case measure=>simp[intOf];omega
    ·have hltI:decide ((x:Int)<((c+y:Nat):Int))=false:=by simp;omega
     have hstep:=Ip (show lZ l m (i+1) 0 (lo.set i (x-(c+y))) from hxe0 (x-(c+y)) 0 (by show _<1000000000;omega) (by omega) (by show _=x+0*1000000000;omega));clear hst hxe0 HLE;go_wp2;go_roundw;case rel=>exact⟨i+1,_,_,by go_num,by go_num,by omega,hstep.out,hro.out.set i _ _ (by first | go_num | omega),hbw.setCell (p:=⟨w.heap.size,i,none⟩) (Iw _) _⟩
     case measure=>simp[intOf];omega
   ·have hy0:nth m i=0:=ky (by omega);rw[hy0] at hxe0;have himI:decide ((i:Int)<(m.length:Int))=false:=by simp;omega
    obtain⟨y,hye⟩:∃ y,y=0:=⟨_,rfl⟩;rw[<-hye] at hxe0;clear hc hcell hcell' hxe hy0;by_cases hlt:x<c+y
    ·have hltI:decide ((x:Int)<((c+y:Nat):Int))=true:=by simp;omega
     have hstep:=Ip (show lZ l m (i+1) 1 (lo.set i (x+1000000000-(c+y))) from hxe0 (x+1000000000-(c+y)) 1 (by show _<1000000000;omega) (by omega) (by show _=x+1*1000000000;omega));clear hst hxe0 HLE;go_wp2;go_roundw;case rel=>exact⟨i+1,_,_,by go_num,by go_num,by omega,hstep.out,hro.out.set i _ _ (by first | go_num | omega),hbw.setCell (p:=⟨w.heap.size,i,none⟩) (Iw _) _⟩
     case measure=>simp[intOf];omega
    ·have hltI:decide ((x:Int)<((c+y:Nat):Int))=false:=by simp;omega
     have hstep:=Ip (show lZ l m (i+1) 0 (lo.set i (x-(c+y))) from hxe0 (x-(c+y)) 0 (by show _<1000000000;omega) (by omega) (by show _=x+0*1000000000;omega));clear hst hxe0 HLE;go_wp2;go_roundw;case rel=>exact⟨i+1,_,_,by go_num,by go_num,by omega,hstep.out,hro.out.set i _ _ (by first | go_num | omega),hbw.setCell (p:=⟨w.heap.size,i,none⟩) (Iw _) _⟩
     case measure=>simp[intOf];omega
  ·obtain rfl:i=l.length:=by omega
   have hle2:=hro.out.isU;rw[hst.out.len] at hle2;have hend:=Ip (FY hlen HLE.out hst.out);clear hcell hcell' hst;go_wp2_with (go_at_call 161;refine (jg _ _ _ lo _ (by exact hle2)).mono ?_;rintro e w' ⟨rfl,rfl⟩)
   go_ret;refine⟨w.heap.size,l.length,?_,Iw _,?_,hbw⟩
   ·rw[hend.out];rfl
   ·rw[hend.out];exact hro.out.lean
open Go.RowKit Dc Dg
theorem IsN.one (w:World):IsN (w.alloc (.cells #[.int .u64 1] 136)) (.slice (some ⟨w.heap.size,0,none⟩) 1 1) 1:=by
 have h:=IsU.box w 1 1 rfl;unfold IsN;have:aq BB 1=[1]:=by rw[digs_pos aT (by omega)];simp[BB,cz]
 rw[this];exact h
theorem h_ {n:Nat} (h:n<BB):Few n:=by
 have:=aZ aT (n:=n) (k:=1) (by simpa using h);unfold Few;omega
theorem mF (w:World) :
  Calls Tryz.prog 105 #[] w fun e w'=>∃ v,e=.returned v/\IsN w' v 1/\Below w.heap.size w w':=by
 go_enter Tryz.func105,Tryz.ntmps105;go_wp2;go_ret;exact⟨_,rfl,IsN.one w,(LN _ _).alloc (Iw _) _⟩
def dP (mi:Bool) (n d:Nat):Rt:=if n=0 then ⟨false,0,1⟩ else ⟨mi,n / Nat.gcd n d,d / Nat.gcd n d⟩
theorem Dv (w:World):IsN w (.slice none 0 0) 0:=by
 unfold IsN;rw[cz];exact⟨none,0,rfl,by simp,by simp[maxLen],fun h=>by simp at h⟩
structure cJ (w:World) (k:Nat) (a b c:Value):Prop where
 hp:w.heap[k]?=some (.cells #[a,b,c] 89 (0,0))
 na:∀ z,a≠.int .u64 z
 nb:∀ z,b≠.int .u64 z
 nc:∀ z,c≠.int .u64 z
theorem cJ.lt {w:World}{k:Nat}{a b c:Value} (h:cJ w k a b c):k<w.heap.size:=(ID.1 h.hp).1
theorem cJ.cell {w:World}{k:Nat}{a b c:Value} (h:cJ w k a b c) (j:Nat):w.cell? ⟨k,j,none⟩=#[a,b,c][j]?:=by rw[World.cell?,h.hp];rfl
theorem cJ.c0 {w:World}{k:Nat}{a b c:Value} (h:cJ w k a b c):w.cell? ⟨k,0,none⟩=some a:=h.cell 0
theorem cJ.c1 {w:World}{k:Nat}{a b c:Value} (h:cJ w k a b c):w.cell? ⟨k,1,none⟩=some b:=h.cell 1
theorem cJ.c2 {w:World}{k:Nat}{a b c:Value} (h:cJ w k a b c):w.cell? ⟨k,2,none⟩=some c:=h.cell 2
theorem cJ.fr {w:World}{k:Nat}{a b c:Value} (h:cJ w k a b c) (j:Nat):w.frozen? ⟨k,j,none⟩=false:=by
 rw[World.frozen?,h.hp];simp
theorem cJ.below {w w':World}{k:Nat}{a b c:Value} (h:cJ w k a b c) (hb:Below w.heap.size w w'):cJ w' k a b c :=
 ⟨by rw[hb.block k h.lt];exact h.hp,h.na,h.nb,h.nc⟩
theorem cJ.new (w:World) (a b c:Value) (na:∀ z,a≠.int .u64 z) (nb:∀ z,b≠.int .u64 z) (nc:∀ z,c≠.int .u64 z):cJ (w.alloc (.cells #[a,b,c] 89)) w.heap.size a b c :=
 ⟨heap_alloc_new w _,na,nb,nc⟩
theorem cJ.other {w:World}{k:Nat}{a b c:Value} (h:cJ w k a b c) {v:Value}{l:List Nat} (hv:IsU w v l) (j:Nat) (u:Value):IsU (w.setCell ⟨k,j,none⟩ u) v l:=by
 obtain⟨p,cap,e,h1,h2,h3⟩:=hv
 refine⟨p,cap,e,h1,h2,fun hl=>?_⟩
 obtain⟨b',o,e2,hlt,hc⟩:=h3 hl
 have hne:b'≠k:=by
  intro e3
  subst e3
  have h0:=hc 0 hl
  rw[h.cell] at h0
  match o+0,h0 with
  | 0,h0=>simp at h0;exact h.na _ h0
  | 1,h0=>simp at h0;exact h.nb _ h0
  | 2,h0=>simp at h0;exact h.nc _ h0
  | n+3,h0=>simp at h0
 refine⟨b',o,e2,by simpa[World.setCell] using hlt,fun i hi=>?_⟩
 rw[World.cell?_setCell_other _ _ _ _ (by intro e3;exact hne (congrArg Addr.block e3).symm)]
 exact hc i hi
theorem cJ.set0 {w:World}{k:Nat}{a b c:Value} (h:cJ w k a b c) (u:Value) (nu:∀ z,u≠.int .u64 z):cJ (w.setCell ⟨k,0,none⟩ u) k u b c :=
 ⟨by rw[heap_setCell_same w k 0 #[a,b,c] _ u h.hp];rfl,nu,h.nb,h.nc⟩
theorem cJ.set1 {w:World}{k:Nat}{a b c:Value} (h:cJ w k a b c) (u:Value) (nu:∀ z,u≠.int .u64 z):cJ (w.setCell ⟨k,1,none⟩ u) k a u c :=
 ⟨by rw[heap_setCell_same w k 1 #[a,b,c] _ u h.hp];rfl,h.na,nu,h.nc⟩
theorem cJ.set2 {w:World}{k:Nat}{a b c:Value} (h:cJ w k a b c) (u:Value) (nu:∀ z,u≠.int .u64 z):cJ (w.setCell ⟨k,2,none⟩ u) k a b u :=
 ⟨by rw[heap_setCell_same w k 2 #[a,b,c] _ u h.hp];rfl,h.na,h.nb,nu⟩
theorem cJ.put {w:World}{k:Nat}{a b c a' b' c':Value} (h:cJ w k a b c) (na:∀ z,a'≠.int .u64 z) (nb:∀ z,b'≠.int .u64 z) (nc:∀ z,c'≠.int .u64 z) :
  cJ (((w.setCell ⟨k,0,none⟩ a').setCell ⟨k,1,none⟩ b').setCell ⟨k,2,none⟩ c') k a' b' c' /\
  (∀ v l,IsU w v l->IsU (((w.setCell ⟨k,0,none⟩ a').setCell ⟨k,1,none⟩ b').setCell ⟨k,2,none⟩ c') v l) /\
  ∀ w0,Below w0.heap.size w0 w->w0.heap.size<=k->Below w0.heap.size w0 (((w.setCell ⟨k,0,none⟩ a').setCell ⟨k,1,none⟩ b').setCell ⟨k,2,none⟩ c'):=by
 have h1:=h.set0 a' na;have h2:=h1.set1 b' nb;refine⟨h2.set2 c' nc,fun v l hv=>h2.other (h1.other (h.other hv 0 a') 1 b') 2 c',fun w0 hb hk=>?_⟩;exact ((hb.setCell (p:=⟨k,0,none⟩) hk _).setCell (p:=⟨k,1,none⟩) hk _).setCell (p:=⟨k,2,none⟩) hk _
theorem IsU.not_int {w:World}{v:Value}{l:List Nat} (h:IsU w v l):∀ z,v≠.int .u64 z:=by
 obtain⟨p,cap,rfl,_⟩:=h;intro z e;cases e
theorem gG (mi:Bool) (va vb:Value) (n d:Nat) (w:World) (ha:IsN w va n) (hb:IsN w vb d) (hfa:Few n) (hfb:Few d) (hd:0<d) :
  Calls Tryz.prog 63 #[.bool mi,va,vb] w fun e w'=>∃ v,e=.returned v/\IsR w' v (dP mi n d)/\Below w.heap.size w w':=by
 have ha':=ha;obtain⟨p,cap,rfl,hlc,hcm,hcell⟩:=ha';have hb0:Below w.heap.size w (w.alloc (.cells #[.bool false,.slice none 0 0,.slice none 0 0] 89)):=(LN _ _).alloc (Iw _) _;have B0:=cJ.new w (.bool false) (.slice none 0 0) (.slice none 0 0) nofun nofun nofun;by_cases h0:n=0
 ·subst h0;have hl:(((aq BB 0).length:Int) == 0)=true:=by rw[cz];rfl
  go_enter Tryz.func63,Tryz.ntmps63;go_wp2_with fail
  generalize w.alloc (.cells #[.bool false,.slice none 0 0,.slice none 0 0] 89)=w0 at hb0 B0 |-;refine (mF w0).mono ?_;rintro e w1 ⟨v1,rfl,h1,hb1⟩;have h1':=h1;obtain⟨p1,cp1,rfl,_,_,_⟩:=h1';have B1:=B0.below hb1;have k0:=B1.c0;have k1:=B1.c1;have k2:=B1.c2;have f0:=B1.fr 0;have f1:=B1.fr 1;have f2:=B1.fr 2;have P:=B1.put (a':=.bool false) (b':=.slice none 0 0) (c':=.slice p1 (aq BB 1).length cp1) nofun nofun h1.not_int;have PH:=Ip P;have HBL:=Ip (LK hb0 hb1);clear P B0 B1 hb0 hb1;have H1:=Ip h1;clear h1;go_wp2;have q0:=PH.out.1.c0;have q1:=PH.out.1.c1;have q2:=PH.out.1.c2;refine LM (v:=.agg #[.bool false,.slice none 0 0,.slice p1 (aq BB 1).length cp1]) (by simp[results,Tryz.results63,go_sem,q0,q1,q2]) rfl ⟨_,rfl,⟨_,_,rfl,PH.out.2.1 _ _ (Dv w1),PH.out.2.1 _ _ H1.out,h_ (show (0:Nat)<BB by decide),h_ (show (1:Nat)<BB by decide)⟩,PH.out.2.2 w HBL.out (Iw _)⟩
 ·have hl:(((aq BB n).length:Int) == 0)=false:=by
   have:0<(aq BB n).length:=IU.2 fun e=>h0 ((dy aT).1 e);simp;intro e;rw[e] at this;simp at this
  have hgpos:0<Nat.gcd n d:=JH _ hd;have hgle:Nat.gcd n d<=d:=LC _ hd;have hfg:=Few.mono hfb hgle;have hg1:=Dh hgpos
  have hne:(aq BB (Nat.gcd n d)).length≠0:=by
   intro e;have:=(dy aT (n:=Nat.gcd n d)).1 (Jc e);omega
  have hred:dP mi n d=⟨mi,n / Nat.gcd n d,d / Nat.gcd n d⟩:=by unfold dP;rw[if_neg h0]
  have HR:=Ip hred;have hfn':=Few.mono hfa (J5 n (Nat.gcd n d));have hfd':=Few.mono hfb (J5 d (Nat.gcd n d));clear hred;go_enter Tryz.func63,Tryz.ntmps63;go_wp2_with fail
  generalize w.alloc (.cells #[.bool false,.slice none 0 0,.slice none 0 0] 89)=w0 at hb0 B0 |-;refine (xR _ _ n d w0 (ha.below hb0) (hb.below hb0) hfa hfb).mono ?_;rintro e w1 ⟨vg,rfl,h1,hb1⟩;have h1':=h1;obtain⟨pg,cg,rfl,hgc,hgm,hgcell⟩:=h1';have B1:=Ip (B0.below hb1);have HBL:=Ip (LK hb0 hb1);have HA:=Ip (ha.below HBL.out);have HB:=Ip (hb.below HBL.out);have HG:=Ip h1;clear B0 hb0 hb1 ha hb h1 hcell;unfold maxLen at hgm hcm;by_cases hgt:1<Nat.gcd n d
  ·have hlen:=hg1.2 hgt;have HFN:=hfn';have HFD:=hfd';have HGP:=Ip hgpos;have go1:=fun (W:World) (vx:Value) (x:Nat) (hx:IsN W vx x) (hfx:Few x) (hW:IsN W (.slice pg (aq BB (Nat.gcd n d)).length cg) (Nat.gcd n d))=>wA vx _ x (Nat.gcd n d) W hx hW hfx hfg HGP.out;have GO:=Ip go1;clear go1 hg1 hgle hgpos;rcases hlen with hlen | ⟨hlen,hdig⟩
   ·have t1:decide ((1:Int)<((aq BB (Nat.gcd n d)).length:Int))=true:=by simp;omega
    clear hlen;go_wp2_with fail
    refine (GO.out _ _ n HA.out hfa HG.out).mono ?_;rintro e w2 ⟨vq,vr,rfl,hq,hr,hb2⟩;have B2:=Ip (B1.out.below hb2);have HBL2:=Ip (LK HBL.out hb2);have HB2:=Ip (HB.out.below hb2);have HG2:=Ip (HG.out.below hb2);have HQ:=Ip hq;clear hb2 hr hq;go_wp2_with fail
    refine (GO.out _ _ d HB2.out hfb HG2.out).mono ?_;rintro e w3 ⟨vq3,vr3,rfl,hq3,hr3,hb3⟩;have B3:=Ip (B2.out.below hb3);have HBL3:=Ip (LK HBL2.out hb3);have HQ1:=Ip (IsN.below HQ.out hb3);have HQ3:=Ip hq3;have hqq:=HQ1.out;have hqq3:=hq3;obtain⟨pq,cq,rfl,_,_,_⟩:=hqq;obtain⟨pq3,cq3,rfl,_,_,_⟩:=hqq3;have k0:=B3.out.c0;have k1:=B3.out.c1;have k2:=B3.out.c2;have f0:=B3.out.fr 0;have f1:=B3.out.fr 1;have f2:=B3.out.fr 2;have PH:=Ip (B3.out.put (a':=.bool mi) (b':=.slice pq (aq BB (n / Nat.gcd n d)).length cq) (c':=.slice pq3 (aq BB (d / Nat.gcd n d)).length cq3) nofun nofun nofun);clear hb3 hr3 hq3;go_wp2;have q0:=PH.out.1.c0;have q1:=PH.out.1.c1;have q2:=PH.out.1.c2;refine LM (v:=.agg #[.bool mi,.slice pq (aq BB (n / Nat.gcd n d)).length cq,.slice pq3 (aq BB (d / Nat.gcd n d)).length cq3]) (by simp[results,Tryz.results63,go_sem,q0,q1,q2]) rfl ⟨_,rfl,?_,PH.out.2.2 w HBL3.out (Iw _)⟩;rw[HR.out];exact⟨_,_,rfl,PH.out.2.1 _ _ HQ1.out,PH.out.2.1 _ _ HQ3.out,HFN,HFD⟩
   ·obtain⟨b,o,rfl,hbw,hc⟩:=hgcell (by omega);have hc0:w1.cell? ⟨b,o,none⟩=some (.int .u64 (nth (aq BB (Nat.gcd n d)) 0)):=hc 0 (by omega);have t1:decide ((1:Int)<((aq BB (Nat.gcd n d)).length:Int))=false:=by simp;omega
    have t2:decide ((1:Int)<((nth (aq BB (Nat.gcd n d)) 0):Int))=true:=by simp;omega
    have tp:(0:Int)<((aq BB (Nat.gcd n d)).length:Int):=by omega
    clear hlen hc hdig;go_wp2_with fail
    refine (GO.out _ _ n HA.out hfa HG.out).mono ?_;rintro e w2 ⟨vq,vr,rfl,hq,hr,hb2⟩;have B2:=Ip (B1.out.below hb2);have HBL2:=Ip (LK HBL.out hb2);have HB2:=Ip (HB.out.below hb2);have HG2:=Ip (HG.out.below hb2);have HQ:=Ip hq;clear hb2 hr hq;go_wp2_with fail
    refine (GO.out _ _ d HB2.out hfb HG2.out).mono ?_;rintro e w3 ⟨vq3,vr3,rfl,hq3,hr3,hb3⟩;have B3:=Ip (B2.out.below hb3);have HBL3:=Ip (LK HBL2.out hb3);have HQ1:=Ip (IsN.below HQ.out hb3);have HQ3:=Ip hq3;have hqq:=HQ1.out;have hqq3:=hq3;obtain⟨pq,cq,rfl,_,_,_⟩:=hqq;obtain⟨pq3,cq3,rfl,_,_,_⟩:=hqq3;have k0:=B3.out.c0;have k1:=B3.out.c1;have k2:=B3.out.c2;have f0:=B3.out.fr 0;have f1:=B3.out.fr 1;have f2:=B3.out.fr 2;have PH:=Ip (B3.out.put (a':=.bool mi) (b':=.slice pq (aq BB (n / Nat.gcd n d)).length cq) (c':=.slice pq3 (aq BB (d / Nat.gcd n d)).length cq3) nofun nofun nofun);clear hb3 hr3 hq3;go_wp2;have q0:=PH.out.1.c0;have q1:=PH.out.1.c1;have q2:=PH.out.1.c2;refine LM (v:=.agg #[.bool mi,.slice pq (aq BB (n / Nat.gcd n d)).length cq,.slice pq3 (aq BB (d / Nat.gcd n d)).length cq3]) (by simp[results,Tryz.results63,go_sem,q0,q1,q2]) rfl ⟨_,rfl,?_,PH.out.2.2 w HBL3.out (Iw _)⟩;rw[HR.out];exact⟨_,_,rfl,PH.out.2.1 _ _ HQ1.out,PH.out.2.1 _ _ HQ3.out,HFN,HFD⟩
  ·have hg1':Nat.gcd n d=1:=by omega
   have hnl:¬ (1<(aq BB (Nat.gcd n d)).length\/((aq BB (Nat.gcd n d)).length=1/\1<nth (aq BB (Nat.gcd n d)) 0)):=fun h=>hgt (hg1.1 h);obtain⟨b,o,rfl,hbw,hc⟩:=hgcell (by omega);have hc0:w1.cell? ⟨b,o,none⟩=some (.int .u64 (nth (aq BB (Nat.gcd n d)) 0)):=hc 0 (by omega);have t1:decide ((1:Int)<((aq BB (Nat.gcd n d)).length:Int))=false:=by simp;omega
   have t2:decide ((1:Int)<((nth (aq BB (Nat.gcd n d)) 0):Int))=false:=by simp;omega
   have tp:(0:Int)<((aq BB (Nat.gcd n d)).length:Int):=by omega
   have k0:=B1.out.c0;have k1:=B1.out.c1;have k2:=B1.out.c2;have f0:=B1.out.fr 0;have f1:=B1.out.fr 1;have f2:=B1.out.fr 2;have HB':=HB.out;obtain⟨pd,cd,rfl,_,_,_⟩:=HB';have PH:=Ip (B1.out.put (a':=.bool mi) (b':=.slice p (aq BB n).length cap) (c':=.slice pd (aq BB d).length cd) nofun nofun nofun);have HG1:=Ip hg1';clear hc hg1' hnl hg1 hgt hne hgle hgpos;go_wp2;have q0:=PH.out.1.c0;have q1:=PH.out.1.c1;have q2:=PH.out.1.c2;refine LM (v:=.agg #[.bool mi,.slice p (aq BB n).length cap,.slice pd (aq BB d).length cd]) (by simp[results,Tryz.results63,go_sem,q0,q1,q2]) rfl ⟨_,rfl,?_,PH.out.2.2 w HBL.out (Iw _)⟩;rw[HR.out,HG1.out,LH,LH];exact⟨_,_,rfl,PH.out.2.1 _ _ HA.out,PH.out.2.1 _ _ HB.out,hfa,hfb⟩
theorem Ik (va vb:Value) (a b:Nat) (w:World) (ha:IsN w va a) (hb:IsN w vb b) (hfa:Few a) (hfb:Few b) :
  Calls Tryz.prog 223 #[va,vb] w fun e w'=>∃ v,e=.returned v/\IsN w' v (a+b)/\Below w.heap.size w w':=by
 unfold Few at hfa hfb;refine (Il va vb (aq BB a) (aq BB b) w ha hb (cK a) (cK b) (by omega) (by omega)).mono ?_;rintro e w' ⟨v,rfl,hv,hbl⟩;rw[aA aT,aA aT] at hv;exact⟨v,rfl,hv.isU,hbl⟩
theorem DF (va vb:Value) (a b:Nat) (w:World) (ha:IsN w va a) (hb:IsN w vb b) (hfa:Few a) (hle:b<=a) :
  Calls Tryz.prog 224 #[va,vb] w fun e w'=>∃ v,e=.returned v/\IsN w' v (a-b)/\Below w.heap.size w w':=by
 unfold Few at hfa;refine (G3 va vb (aq BB a) (aq BB b) w ha hb (cK a) (cK b) (by rw[aA aT,aA aT];exact hle) (by omega)).mono ?_;rintro e w' ⟨g,cap,rfl,-,hv,hbl⟩;rw[aA aT,aA aT] at *
 exact⟨_,rfl,hv.isU,hbl⟩
theorem rh (va vb:Value) (a b:Nat) (w:World) (ha:IsN w va a) (hb:IsN w vb b) (hfa:Few a) (hfb:Few b) :
  Calls Tryz.prog 160 #[va,vb] w fun e w'=>∃ v,e=.returned v/\IsN w' v (a*b)/\Below w.heap.size w w':=by
 unfold Few at hfa hfb;refine (th va vb (aq BB a) (aq BB b) w ha hb (cK a).1 (cK b).1 (by omega) (by omega)).mono ?_;rintro e w' ⟨g,cap,rfl,-,-,hv,hbl⟩;rw[aA aT,aA aT] at *
 exact⟨_,rfl,hv.isU,hbl⟩
theorem qu9 (va vb:Value) (a b:Nat) (w:World) (ha:IsN w va a) (hb:IsN w vb b) :
  Calls Tryz.prog 158 #[va,vb] w fun e w'=>e=.returned (.int .i64 (dC a b))/\Below w.heap.size w w':=by
 have:=iQ va vb (aq BB a) (aq BB b) w ha hb (cK a) (cK b);rw[aA aT,aA aT] at this;refine this.mono ?_;rintro e w' ⟨rfl,n,rfl⟩;exact⟨rfl,below_drewN (LN _ _) _⟩
def pi (ma:Bool) (a:Nat) (mb:Bool) (b:Nat):Bool×Nat:=if ma=mb then (ma,a+b) else if b<=a then (ma,a-b) else (mb,b-a)
theorem GC (ma mb:Bool) (va vb:Value) (a b:Nat) (w:World) (ha:IsN w va a) (hb:IsN w vb b) (hfa:Few a) (hfb:Few b) :
  Calls Tryz.prog 196 #[.bool ma,va,.bool mb,vb] w fun e w'=>∃ v,e=.returned (.tuple #[.bool (pi ma a mb b).1,v])/\IsN w' v (pi ma a mb b).2/\Below w.heap.size w w':=by
 have ha':=ha;have hb':=hb;obtain⟨p,cap,rfl,-,-,-⟩:=ha';obtain⟨p',cap',rfl,-,-,-⟩:=hb';have HA:=Ip ha;have HB:=Ip hb;have HFA:=Ip hfa;have HFB:=Ip hfb;clear ha hb hfa hfb;unfold pi;go_enter Tryz.func196,Tryz.ntmps196;by_cases h:ma=mb
 ·subst h;rw[if_pos rfl];go_wp2_with (go_at_call 223;refine (Ik _ _ a b _ HA.out HB.out HFA.out HFB.out).mono ?_;rintro e w' ⟨v,rfl,hv,hbl⟩;obtain⟨q,cq,rfl,-,-,-⟩:=id hv)
  go_ret2
  exact⟨_,rfl,hv,hbl⟩
 ·rw[if_neg h];have h2:(ma == mb)=false:=by simpa using h
  by_cases hle:b<=a
  ·have hc:dC a b=0\/dC a b=1:=by unfold dC;rw[if_neg (by omega)];split<;>simp
   have hc:decide (0<=dC a b)=true:=by simp;omega
   rw[if_pos hle];have HLE:=Ip hle;clear hle;go_wp2_with first | (go_at_call 158;refine (qu9 _ _ a b _ HA.out HB.out).mono ?_;rintro e w1 ⟨rfl,hb1⟩) | (go_at_call 224;refine (DF _ _ a b _ (HA.out.below hb1) (HB.out.below hb1) HFA.out HLE.out).mono ?_;rintro e w' ⟨v,rfl,hv,hbl⟩;obtain⟨q,cq,rfl,-,-,-⟩:=id hv)
   go_ret2
   exact⟨_,rfl,hv,LK hb1 hbl⟩
  ·have hc:dC a b=-1:=by unfold dC;rw[if_pos (by omega)]
   rw[if_neg hle];have HLE:=Ip (show a<=b by omega);clear hle;go_wp2_with first | (go_at_call 158;refine (qu9 _ _ a b _ HA.out HB.out).mono ?_;rw[hc];rintro e w1 ⟨rfl,hb1⟩) | (go_at_call 224;refine (DF _ _ b a _ (HB.out.below hb1) (HA.out.below hb1) HFB.out HLE.out).mono ?_;rintro e w' ⟨v,rfl,hv,hbl⟩;obtain⟨q,cq,rfl,-,-,-⟩:=id hv)
   go_ret2
   exact⟨_,rfl,hv,LK hb1 hbl⟩
theorem kZ (l:List UInt8):(⟨l.toArray⟩:ByteArray).size=l.length:=by show l.toArray.size=_;simp
theorem bJ (s:ByteArray):s.data.toList.length=s.size:=by simp
theorem xS (s p:ByteArray) (w:World) :
  Calls Tryz.prog 184 #[.string s,.string p] w fun e w'=>∃ t:ByteArray,e=.returned (.tuple #[.string t,.bool (Lib.hasPrefix s.data.toList p.data.toList)])/\Hid (t.data.toList=Lib.trimPrefix s.data.toList p.data.toList)/\t.size<=s.size/\w=w':=by
 refine (Tryz.strings_CutPrefix s p w).mono ?_;rintro e w' ⟨rfl,rfl⟩;refine⟨_,rfl,rfl,?_,rfl⟩;rw[kZ,<-bJ s];unfold Lib.trimPrefix
 split
 ·rw[IP];omega
 ·exact Iw _
theorem xU (s p:ByteArray) (w:World) (hs:s.size<=9223372036854775807) :
  Calls Tryz.prog 134 #[.string s,.string p] w fun e w'=>∃ t:ByteArray,e=.returned (.tuple #[.string t,.bool (Lib.hasSuffix s.data.toList p.data.toList)])/\Hid (t.data.toList=Lib.trimSuffix s.data.toList p.data.toList)/\t.size<=s.size/\w=w':=by
 refine (Tryz.strings_CutSuffix s p w hs).mono ?_;rintro e w' ⟨rfl,rfl⟩;refine⟨_,rfl,rfl,?_,rfl⟩;rw[kZ,<-bJ s];unfold Lib.trimSuffix
 split
 ·rw[IY];omega
 ·exact Iw _
theorem xr (s p:ByteArray) (w:World) :
  Calls Tryz.prog 90 #[.string s,.string p] w fun e w'=>∃ t:ByteArray,e=.returned (.string t)/\Hid (t.data.toList=Lib.trimPrefix s.data.toList p.data.toList)/\t.size<=s.size/\w=w':=by
 refine (Tryz.strings_TrimPrefix s p w).mono ?_;rintro e w' ⟨rfl,rfl⟩;refine⟨_,rfl,rfl,?_,rfl⟩;rw[kZ,<-bJ s];unfold Lib.trimPrefix
 split
 ·rw[IP];omega
 ·exact Iw _
theorem cutS (s p:ByteArray) (w:World) (hG:Gw w) (hs:s.size<4294967281) :
  Calls Tryz.prog 185 #[.string s,.string p] w fun e w'=>∃ t u:ByteArray,e=.returned (.tuple #[.string t,.string u,.bool (Lib.cut s.data.toList p.data.toList).2.2]) /\
   Hid (t.data.toList=(Lib.cut s.data.toList p.data.toList).1)/\Hid (u.data.toList=(Lib.cut s.data.toList p.data.toList).2.1)/\t.size<=s.size/\u.size<=s.size/\∃ n,w'=w.drewN n:=by
 obtain⟨m,hm⟩:=hG.ml;refine (Tryz.strings_Cut s p m w hs hm).mono ?_;rintro e w' ⟨rfl,hn⟩;refine⟨_,_,rfl,rfl,rfl,?_,?_,hn⟩
 ·rw[kZ,<-bJ s];unfold Lib.cut
  split
  ·simp only[IY];omega
  ·exact Iw _
 ·rw[kZ,<-bJ s];unfold Lib.cut
  split
  ·simp only[IP];omega
  ·simp
def dx (s:List UInt8):Option Rt :=
 match dr (Lib.cut (Lib.trimPrefix s [45]) [47]).1 with
 | none=>none
 | some n =>
  if (Lib.cut (Lib.trimPrefix s [45]) [47]).2.2=true then
   match dr (Lib.cut (Lib.trimPrefix s [45]) [47]).2.1 with
   | none=>none
   | some d=>if d=0 then none else some (dP (Lib.hasPrefix s [45]) n d)
  else some (dP (Lib.hasPrefix s [45]) n 1)
theorem wj {s:List UInt8}{n:Nat} (h:dr s=some n) (hs:s.length<100000):Few n:=by
 unfold dr at h
 split at h
 ·rename_i hh
  have e:aX s=n:=by simpa using h
  have h1:=gZ s hh.2;rw[e] at h1;have hB:(10:Nat) ^ (9*(s.length / 9+1))=BB ^ (s.length / 9+1):=by rw[JP];rfl
  have h2:10 ^ s.length<=10 ^ (9*(s.length / 9+1)):=IQ (by omega) (by omega);rw[hB] at h2;have:=aZ aT (n:=n) (k:=s.length / 9+1) (by omega);unfold Few;omega
 ·simp at h
theorem wg (s:ByteArray) (w:World) (hs:s.size<100000) :
  Calls Tryz.prog 186 #[.string s] w fun e w'=>∃ v ok,e=.returned (.tuple #[v,.bool ok])/\Hid ((∃ n,dr s.data.toList=some n/\ok=true/\IsN w' v n/\Few n)\/(dr s.data.toList=none/\ok=false/\v=.slice none 0 0))/\Below w.heap.size w w':=by
 refine (wh s w hs).mono ?_;rintro e w' (⟨n,v,h1,rfl,h2,h3⟩ | ⟨h1,rfl,h3⟩)
 ·exact⟨v,true,rfl,Or.inl ⟨n,h1,rfl,fv.isU h2,wj h1 (by rw[bJ];exact hs)⟩,h3⟩
 ·exact⟨_,false,rfl,Or.inr ⟨h1,rfl,rfl⟩,h3⟩
def xD (s:List UInt8) (w:World) (e:Ending) (w':World):Prop :=
 ∃ v ok,e=.returned (.tuple #[v,.bool ok])/\((∃ r,dx s=some r/\ok=true/\IsR w' v r)\/(dx s=none/\ok=false/\v=.agg #[.bool false,.slice none 0 0,.slice none 0 0]))/\Below w.heap.size w w'
theorem qB (s:ByteArray) (w:World) (hs:s.size<100000) (hG:Gw w) :
  Calls Tryz.prog 135 #[.string s] w (xD s.data.toList w):=by
 have hb0:Below w.heap.size w (w.alloc (.cells #[.bool false,.slice none 0 0,.slice none 0 0] 89)):=(LN _ _).alloc (Iw _) _;have B0:=cJ.new w (.bool false) (.slice none 0 0) (.slice none 0 0) nofun nofun nofun;go_enter Tryz.func135,Tryz.ntmps135;go_wp2_with fail
 generalize w.alloc (.cells #[.bool false,.slice none 0 0,.slice none 0 0] 89)=w0 at hb0 B0 |-;refine (xS _ _ w0).mono ?_;rintro e w1 ⟨t,rfl,ht,hts,rfl⟩;have HB:=Ip B0;have HBL:=Ip hb0;have HG:=Ip (hG.below hb0);clear B0 hb0;go_wp2_with fail
 refine (cutS _ _ _ HG.out (by omega)).mono ?_;rintro e w2 ⟨ab,be,rfl,hab,hbe,habs,hbes,n,rfl⟩;have HB2:=Ip (HB.out.below (below_drewN (LN _ _) n));have HBL2:=Ip (below_drewN HBL.out n);clear HB HBL HG;go_wp2_with fail
 refine (wg _ _ (by omega)).mono ?_;rintro e w3 ⟨v3,ok3,rfl,h3,hb3⟩;have HB3:=Ip (HB2.out.below hb3);have HBL3:=Ip (LK HBL2.out hb3);clear HB2 HBL2 hb3;rcases h3.out with ⟨m,hm,rfl,hv3,hfm⟩ | ⟨hm,rfl,rfl⟩
 ·have HM:=Ip hm;have HV3:=Ip hv3;have HFM:=Ip hfm;clear hm hv3 hfm h3;go_wp2_with fail
  refine (mF w3).mono ?_;rintro e w4 ⟨v4,rfl,h4,hb4⟩;have HB4:=Ip (HB3.out.below hb4);have HBL4:=Ip (LK HBL3.out hb4);have HV4:=Ip (IsN.below HV3.out hb4);have HO4:=Ip h4;clear HB3 HBL3 HV3 hb4 h4
  cases hdv:(Lib.cut t.data.toList [47]).2.2
  ·-- no slash
   have HD:=Ip hdv;clear hdv;go_wp2_with fail
   refine (gG _ v3 v4 m 1 w4 HV4.out HO4.out HFM.out (h_ (by decide)) (by omega)).mono ?_;rintro e w5 ⟨v5,rfl,h5,hb5⟩;have HB5:=Ip (HB4.out.below hb5);have HBL5:=Ip (LK HBL4.out hb5);have H5:=Ip h5;obtain⟨vn,vd,rfl,hn5,hd5,hfn5,hfd5⟩:=h5;have hn5':=hn5;have hd5':=hd5;obtain⟨pn,cn,rfl,_,_,_⟩:=hn5';obtain⟨pd,cd,rfl,_,_,_⟩:=hd5';have HN5:=Ip hn5;have HD5:=Ip hd5;have k0:=HB5.out.c0;have k1:=HB5.out.c1;have k2:=HB5.out.c2;have f0:=HB5.out.fr 0;have f1:=HB5.out.fr 1;have f2:=HB5.out.fr 2;have PH:=Ip (HB5.out.put (a':=.bool (dP (Lib.hasPrefix s.data.toList [45]) m 1).minus) (b':=.slice pn (aq BB (dP (Lib.hasPrefix s.data.toList [45]) m 1).n).length cn) (c':=.slice pd (aq BB (dP (Lib.hasPrefix s.data.toList [45]) m 1).d).length cd) nofun nofun nofun);clear hb5 hn5 hd5;go_wp2;have q0:=PH.out.1.c0;have q1:=PH.out.1.c1;have q2:=PH.out.1.c2;refine LM (v:=.tuple #[.agg #[.bool (dP (Lib.hasPrefix s.data.toList [45]) m 1).minus,.slice pn (aq BB (dP (Lib.hasPrefix s.data.toList [45]) m 1).n).length cn,.slice pd (aq BB (dP (Lib.hasPrefix s.data.toList [45]) m 1).d).length cd],.bool true]) (by simp[results,Tryz.results135,go_sem,q0,q1,q2]) rfl ⟨_,_,rfl,Or.inl ⟨_,?_,rfl,⟨_,_,rfl,PH.out.2.1 _ _ HN5.out,PH.out.2.1 _ _ HD5.out,hfn5,hfd5⟩⟩,PH.out.2.2 w HBL5.out (Iw _)⟩;unfold dx;have e1:=HD.out;rw[ht.out] at e1;rw[<-ht.out,<-hab.out,HM.out,ht.out]
   simp only[e1];rfl
  ·have HD:=Ip hdv;clear hdv;go_wp2_with fail
   refine (wg _ _ (by omega)).mono ?_;rintro e w6 ⟨v6,ok6,rfl,h6,hb6⟩;have HB6:=Ip (HB4.out.below hb6);have HBL6:=Ip (LK HBL4.out hb6);have HV6:=Ip (IsN.below HV4.out hb6);clear hb6 HB4 HBL4 HV4 HO4;rcases h6.out with ⟨d,hd,rfl,hv6,hfd⟩ | ⟨hd,rfl,rfl⟩
   ·have HE:=Ip hd;have HS6:=Ip hv6;have HFD:=Ip hfd;have hu:=hv6;obtain⟨p6,c6,rfl,_,_,_⟩:=hu;clear hd hv6 hfd h6;by_cases hz:d=0
    ·have hl:(((aq BB d).length:Int) == 0)=true:=by rw[hz,cz];rfl
     have HZ:=Ip hz;clear hz;have k0:=HB6.out.c0;have k1:=HB6.out.c1;have k2:=HB6.out.c2;have f0:=HB6.out.fr 0;have f1:=HB6.out.fr 1;have f2:=HB6.out.fr 2;have PH:=Ip (HB6.out.put (a':=.bool false) (b':=.slice none 0 0) (c':=.slice none 0 0) nofun nofun nofun);go_wp2;have q0:=PH.out.1.c0;have q1:=PH.out.1.c1;have q2:=PH.out.1.c2;refine LM (v:=.tuple #[.agg #[.bool false,.slice none 0 0,.slice none 0 0],.bool false]) (by simp[results,Tryz.results135,go_sem,q0,q1,q2]) rfl ⟨_,_,rfl,Or.inr ⟨?_,rfl,rfl⟩,PH.out.2.2 w HBL6.out (Iw _)⟩;unfold dx;rw[<-ht.out,<-hab.out,HM.out];simp only[HD.out,<-hbe.out,HE.out,HZ.out,if_true]
    ·have HDP:=Ip (JU hz)
     have hl:(((aq BB d).length:Int) == 0)=false:=by
      have:0<(aq BB d).length:=IU.2 fun e=>hz ((dy aT).1 e);simp;intro e;rw[e] at this;simp at this
     have HZ:=Ip hz;clear hz;go_wp2_with fail
     refine (gG _ v3 (.slice p6 (aq BB d).length c6) m d w6 HV6.out HS6.out HFM.out HFD.out HDP.out).mono ?_;rintro e w5 ⟨v5,rfl,h5,hb5⟩;have HB5:=Ip (HB6.out.below hb5);have HBL5:=Ip (LK HBL6.out hb5);have H5:=Ip h5;obtain⟨vn,vd,rfl,hn5,hd5,hfn5,hfd5⟩:=h5;have hn5':=hn5;have hd5':=hd5;obtain⟨pn,cn,rfl,_,_,_⟩:=hn5';obtain⟨pd,cd,rfl,_,_,_⟩:=hd5';have HN5:=Ip hn5;have HD5:=Ip hd5;have k0:=HB5.out.c0;have k1:=HB5.out.c1;have k2:=HB5.out.c2;have f0:=HB5.out.fr 0;have f1:=HB5.out.fr 1;have f2:=HB5.out.fr 2;have PH:=Ip (HB5.out.put (a':=.bool (dP (Lib.hasPrefix s.data.toList [45]) m d).minus) (b':=.slice pn (aq BB (dP (Lib.hasPrefix s.data.toList [45]) m d).n).length cn) (c':=.slice pd (aq BB (dP (Lib.hasPrefix s.data.toList [45]) m d).d).length cd) nofun nofun nofun);clear hb5 hn5 hd5;go_wp2;have q0:=PH.out.1.c0;have q1:=PH.out.1.c1;have q2:=PH.out.1.c2;refine LM (v:=.tuple #[.agg #[.bool (dP (Lib.hasPrefix s.data.toList [45]) m d).minus,.slice pn (aq BB (dP (Lib.hasPrefix s.data.toList [45]) m d).n).length cn,.slice pd (aq BB (dP (Lib.hasPrefix s.data.toList [45]) m d).d).length cd],.bool true]) (by simp[results,Tryz.results135,go_sem,q0,q1,q2]) rfl ⟨_,_,rfl,Or.inl ⟨_,?_,rfl,⟨_,_,rfl,PH.out.2.1 _ _ HN5.out,PH.out.2.1 _ _ HD5.out,hfn5,hfd5⟩⟩,PH.out.2.2 w HBL5.out (Iw _)⟩;unfold dx;have e1:=HD.out;have e2:=HM.out;have e3:=HE.out
     rw[hab.out,ht.out] at e2;rw[hbe.out,ht.out] at e3;rw[ht.out] at e1;simp only[e1,e2,e3,if_true];rw[if_neg HZ.out]
   ·have HE:=Ip hd;clear hd h6;have k0:=HB6.out.c0;have k1:=HB6.out.c1;have k2:=HB6.out.c2;have f0:=HB6.out.fr 0;have f1:=HB6.out.fr 1;have f2:=HB6.out.fr 2;have PH:=Ip (HB6.out.put (a':=.bool false) (b':=.slice none 0 0) (c':=.slice none 0 0) nofun nofun nofun);go_wp2;have q0:=PH.out.1.c0;have q1:=PH.out.1.c1;have q2:=PH.out.1.c2;refine LM (v:=.tuple #[.agg #[.bool false,.slice none 0 0,.slice none 0 0],.bool false]) (by simp[results,Tryz.results135,go_sem,q0,q1,q2]) rfl ⟨_,_,rfl,Or.inr ⟨?_,rfl,rfl⟩,PH.out.2.2 w HBL6.out (Iw _)⟩;unfold dx;rw[<-ht.out,<-hab.out,HM.out];simp only[HD.out,<-hbe.out,HE.out,if_true]
 ·have HM:=Ip hm;clear hm h3;have k0:=HB3.out.c0;have k1:=HB3.out.c1;have k2:=HB3.out.c2;have f0:=HB3.out.fr 0;have f1:=HB3.out.fr 1;have f2:=HB3.out.fr 2;have PH:=Ip (HB3.out.put (a':=.bool false) (b':=.slice none 0 0) (c':=.slice none 0 0) nofun nofun nofun);go_wp2;have q0:=PH.out.1.c0;have q1:=PH.out.1.c1;have q2:=PH.out.1.c2;refine LM (v:=.tuple #[.agg #[.bool false,.slice none 0 0,.slice none 0 0],.bool false]) (by simp[results,Tryz.results135,go_sem,q0,q1,q2]) rfl ⟨_,_,rfl,Or.inr ⟨?_,rfl,rfl⟩,PH.out.2.2 w HBL3.out (Iw _)⟩;unfold dx;rw[<-ht.out,<-hab.out,HM.out]
end Go.Proofs.YtlhpcoelfhjomaaGreatDoor
