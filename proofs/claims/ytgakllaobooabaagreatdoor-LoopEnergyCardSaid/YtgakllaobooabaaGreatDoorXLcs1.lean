/- L -/
import Derived.Test.YtgakllaobooabaaGreatDoorXLP2
import Derived.Test.YtgakllaobooabaaGreatDoorXLP13
import Derived.Test.YtgakllaobooabaaGreatDoorXLB4
import Derived.Test.YtgakllaobooabaaGreatDoorXPS5
import Derived.Test.YtgakllaobooabaaGreatDoorXEN4
import Derived.Test.YtgakllaobooabaaGreatDoorXB
set_option linter.all false
set_option maxRecDepth 100000
set_option maxHeartbeats 8000000
namespace Go.Proofs.YtgakllaobooabaaGreatDoor
open Go.RowKit Dg Dc
def cM (n:Nat):List Rat:=(List.range n).map fun i=>if i=0 then 1 else 0
theorem ui (n:Nat):(cM n).length=n:=by simp[cM]
theorem yK (n:Nat):du n=(cM n).map tq:=by
 unfold du cM;rw[List.map_map];refine List.map_congr_left fun i _=>?_
 show _=tq (if i=0 then 1 else 0)
 by_cases h:i=0
 ·rw[if_pos h,if_pos h,iR]
 ·rw[if_neg h,if_neg h,yH]
theorem xw {n i:Nat} (h:i<n):(cM n).getD i 0=if i=0 then 1 else 0:=by
 unfold cM;rw[AH,BZ,List.getElem?_range h];rfl
theorem ss:∀ (l:List Rat) (t:Nat),opS l (fun i=>if i=0 then 1 else 0) t=l.getD t 0
 | [],t=>by rw[nE];simp
 | q :: l,0=>by
  rw[db,rg]
  show q*1+0=q
  grind
 | q :: l,t+1=>by
  rw[db,nP,ss l t]
  show q*0+l.getD t 0=l.getD t 0
  grind
theorem nJ {E e:Nat} (h:E<=2 ^ e) (t:Nat):E ^ t<=2 ^ (e*t):=by rw[BW];exact BQ h t
theorem mP (V:Nat):∀ k,fm (fun _=>V) k<=k*V
 | 0=>AI _
 | k+1=>by
  have:=mP V k;rw[fm,Cz]
  split<;>omega
theorem yv {a b:List ByteArray}{qa tl:List Rat} (ha:gD a qa) (hb:gD b (1 :: tl)) (h64:∀ q∈tl,Bd ((64:Nat):Rat) q) {N:Nat} (hN:N<=24) :
  ∃ W E G,0<W/\0<E/\W<=2 ^ 84/\E<=2 ^ 84/\E<=G/\G<=2 ^ 93/\∀ t,t<=N->bR a b (du N) t=(aS qa (1 :: tl) (cM N) t).map tq /\
   (∀ s,s<t->Ov (W*E ^ s) (2 ^ 99*G ^ s) ((aS qa (1 :: tl) (cM N) t).getD s 0)/\okQ ((aS qa (1 :: tl) (cM N) t).getD s 0)):=by
 obtain⟨W,hW,hWl,oa⟩:=ha.ov;obtain⟨E,hE,hEl,ob⟩:=hb.ov;obtain⟨G,hG⟩:∃ G,G=E*2 ^ 9:=⟨_,rfl⟩;have hEG:E<=G:=by omega
 have hGl:G<=2 ^ 93:=by rw[hG];exact aF (a:=84) (b:=9) (c:=93) hEl (AA _) rfl
 have hlen:=hb.len
 have hb1:∀ k,0<k->k<(1 :: tl).length->Ov E (64*E) ((1 :: tl).getD k 0):=fun k h0 hk=>by
  obtain⟨j,rfl⟩:∃ j,k=j+1:=⟨k-1,by omega⟩;have hj:j<tl.length:=by simpa using hk
  have hm:tl.getD j 0∈tl:=fB hj;exact (Fr.of_ov (ob _ (Bz _ hm))).ov (h64 _ hm) hE
 have hbo:∀ k,k<(1 :: tl).length->okQ ((1 :: tl).getD k 0):=fun k hk=>hb.ok _ (fB hk)
 have hsum:E+fm (fun _=>64*E) (1 :: tl).length<=G:=by
  have h1:=mP (64*E) (1 :: tl).length;have h2:=AJ (64*E) hlen;omega
 have ox:∀ q∈cM N,Ov 1 1 q/\okQ q:=fun q hq=>by
  obtain⟨i,-,rfl⟩:=CV.1 hq
  show Ov 1 1 (if i=0 then (1:Rat) else 0)/\okQ (if i=0 then (1:Rat) else 0)
  by_cases h:i=0
  ·rw[if_pos h];exact⟨⟨1,by decide +kernel,by decide⟩,et⟩
  ·rw[if_neg h];exact⟨(Ov.zero 1).mono (by decide),fE⟩
 have hW2:W*1<10 ^ 2000:=by rw[Bu];exact bQ hWl (by decide)
 have h8:8*2 ^ 96<10 ^ 2000:=bQ (k:=99) (Dj (by decide)) (by decide);refine⟨W,E,G,hW,hE,hWl,hEl,hEG,hGl,fun t=>?_⟩
 induction t with
 | zero=>exact fun _=>⟨rfl,fun s hs=>by omega⟩
 | succ t ih =>
  intro ht;obtain⟨h1,h2⟩:=ih (by omega);have hl:=cz qa (1 :: tl) (cM N) t;have hin:=vD (K:=2 ^ 96) (t:=t) hW (by decide) hW2 (fun q hq=>⟨oa q hq,ha.ok q hq⟩) ox ha.len (by rw[ui];omega) (Dj (Bu _)) h8;obtain⟨i1,i2,i3⟩:=hin qa.length (AA _);rw[Bu] at i2;have i2:=i2.mono (tH (y:=2 ^ 99) (by have:=ha.len;omega) (by decide))
  have key:∀ k,k<=(1 :: tl).length->jp ((1 :: tl).map tq) ((aS qa (1 :: tl) (cM N) t).map tq) t (tq (inQ qa (cM N) t qa.length)) k=tq (iw (1 :: tl) (aS qa (1 :: tl) (cM N) t) t (inQ qa (cM N) t qa.length) k) /\
    Ov (W*E ^ t) (2 ^ 99*G ^ t) (iw (1 :: tl) (aS qa (1 :: tl) (cM N) t) t (inQ qa (cM N) t qa.length) k)/\okQ (iw (1 :: tl) (aS qa (1 :: tl) (cM N) t) t (inQ qa (cM N) t qa.length) k):=by
   intro k hk
   cases t with
   | zero =>
    rw[mG,mH];exact⟨rfl,by rw[Dl,Dl,Bu,Bu];exact i2,i3⟩
   | succ t =>
    obtain⟨g1,g2,g3,g4⟩:=su (t:=t) (m:=fun _=>64*E) hW hE hb1 hbo hl hEG hsum (fun s hs=>(h2 s hs).1) i2
     (bQ (aF hWl (nJ hEl (t+1)) rfl) (by omega)) (bQ (aF (AA (2 ^ 99)) (nJ hGl (t+1)) rfl) (by omega)) i3 (fun s hs=>(h2 s hs).2) k hk
    refine⟨g1,g2.mono ?_,g3⟩;rw[AS];exact AQ _ (AQ _ (by omega))
  obtain⟨k1,k2,k3⟩:=key _ (AA _);refine⟨?_,fun s hs=>?_⟩
  ·rw[bR,aS,CU,h1];congr 1;unfold kA;rw[ha.e,hb.e,yK,AY,AY,i1,k1];rfl
  ·rw[aS,AH];by_cases h:s<t
   ·rw[BU (by omega),<-AH];exact h2 s h
   ·obtain rfl:s=t:=by omega
    rw[BA (by omega),hl,BL];exact⟨k2,k3⟩
theorem yL {W E I G i N:Nat}{q:Rat} (hi:i<=N) (hW:0<W) (hE:0<E) (hEG:E<=G) (h:Ov (W*E ^ i) (I*G ^ i) q):Ov (W*E ^ N) (I*G ^ N) q:=by
 have h1:=h.wide (E ^ (N-i)) (AN hW (Bh hE)) (Bh hE);rw[Bn W,<-BC,Nat.add_sub_of_le hi] at h1;refine h1.mono ?_;have h2:=AQ (G ^ i) (BQ hEG (N-i));rw[<-BC,Nat.add_sub_of_le hi] at h2;rw[Bn];exact AQ I h2
theorem Am {P Q p q N:Nat}{x:Rat} (h0:0<P) (h:Ov (P*P) (N*(Q*Q)) x) (hp:P<=2 ^ p) (hq:Q<=2 ^ q) (hN:N<=2 ^ 5) (h1:p+p<=6600) (h2:5+(q+q)<=6600):okQ x :=
 h.ok (AN h0 h0) (bQ (aF hp hp rfl) h1) (bQ (aF hN (aF hq hq rfl) rfl) h2)
theorem qC (l:List Rat):∀ k,qB l l k=sqS (fun s=>l.getD s 0) k
 | 0=>rfl
 | k+1=>by rw[qB,sqS,qC l k]
theorem pS {x y:Nat->Rat}:∀ k,(∀ i,i<k->x i=y i)->sqS x k=sqS y k
 | 0,_=>rfl
 | k+1,h=>by rw[sqS,sqS,pS k (fun i hi=>h i (by omega)),h k (by omega)]
theorem y7 {P Q:Nat}{x:Nat->Rat} (hP:0<P):∀ k,(∀ i,i<k->Ov P Q (x i))->Ov (P*P) (k*(Q*Q)) (sqS x k)
 | 0,_=>(Ov.zero _).mono (AI _)
 | k+1,h=>by
  rw[sqS,Cz];exact (y7 hP k (fun i hi=>h i (by omega))).add ((h k (by omega)).mul (h k (by omega)) hP hP)
theorem zi {x y:Rat} (hx:okQ x) (hy:okQ y) (h:x<=y):(ir (tq x) (tq y)).2=0/\(ir (tq x) (tq y)).1<=0:=by
 have e:dj [tq x,tq y]=.ok [x,y]:=by
  unfold dj;rw[show [tq x,tq y]=[x,y].map tq from rfl,iY _ (fun q hq=>by rcases Bm.1 hq with rfl | hq;exact hx;rw[Co.1 hq];exact hy)];rfl
 unfold ir;rw[e];refine⟨rfl,?_⟩
 show gy x y<=0
 unfold gy
 split
 ·decide
 ·rename_i h1
  rw[if_pos (by grind)];decide
theorem qF {fa fb:List ByteArray} (hc:aq fa fb=true) (hp:(aK fb).isSome=true) :
  ∃ S E:ByteArray,bG fa fb=(E,0)/\kc (bR fa fb (du 24) 24) (bR fa fb (du 24) 24)=(S,0)/\(ir S E).2=0/\(ir S E).1<=0:=by
 obtain⟨qa,tl,n,pa,pb,h6,la,lb,g,-,eE,oE⟩:=th hc hp;have az:∀ i,n<i->(1 :: tl).getD i 0=0:=fun i hi=>by rw[AH,Bc (by omega)];rfl
 have bz:∀ i,n<i->qa.getD i 0=0:=fun i hi=>by rw[AH,Bc (by omega)];rfl
 have h64:∀ q∈tl,Bd ((64:Nat):Rat) q:=fun q hq=>by
  obtain⟨j,hj,rfl⟩:=A_ hq;have h1:=gW g h6 (i:=j+1) (by simp at lb;omega)
  have e:(1 :: tl).getD (j+1) 0=tl[j]:=by
   show tl.getD j 0=_
   rw[AH,AL hj];rfl
  rw[e] at h1;exact h1.mono (by show 64*(1:Rat)<=((64:Nat):Rat);rw[show ((64:Nat):Rat)=64 from rfl];grind)
 obtain⟨W,E,G,hW,hE,hWl,hEl,hEG,hGl,hr⟩:=yv pa pb h64 (N:=24) (AA _);obtain⟨r1,r2⟩:=hr 24 (AA _);obtain⟨H,hH⟩:∃ H,H=aS qa (1 :: tl) (cM 24) 24:=⟨_,rfl⟩;have hHl:H.length=24:=by rw[hH,cz]
 rw[<-hH] at r1 r2
 have oH:∀ q∈H,okQ q:=fun q hq=>by
  obtain⟨i,hi,rfl⟩:=A_ hq;have:=(r2 i (by omega)).2
  rwa [AH,AL hi] at this
 have hE24:0<E ^ 24:=Bh hE;have oW:∀ i,i<24->Ov (W*E ^ 24) (2 ^ 99*G ^ 24) (H.getD i 0):=fun i hi=>yL (Cy hi) hW hE hEG (r2 i hi).1;have so:=y7 (AN hW hE24) 24 oW
 have key:∀ t,t<24->H.getD t 0=cX (fun i=>(1 :: tl).getD i 0) (fun i=>qa.getD i 0) t 0:=by
  refine tN (b:=tl) (y:=fun t=>H.getD t 0) (z:=fun t=>cX (fun i=>(1 :: tl).getD i 0) (fun i=>qa.getD i 0) t 0) fun t ht=>?_;rw[zM (1 :: tl) _ rfl];have h1:=tO qa tl (cM 24) 24 t ht;rw[<-hH] at h1;rw[show (opS (1 :: tl) (fun t=>H.getD t 0) t)=opS qa (fe (cM 24)) t from h1,jo (x:=fe (cM 24)) (y:=fun i=>if i=0 then 1 else 0) qa t (fun m hm=>xw (by omega)),ss]
 obtain⟨p,hpp⟩:∃ p,84+84*24=p:=⟨_,rfl⟩;obtain⟨q,hqq⟩:∃ q,99+93*24=q:=⟨_,rfl⟩;have oS:okQ (sqS (fun s=>H.getD s 0) 24):=Am (p:=p) (q:=q) (AN hW hE24) so (aF hWl (nJ hEl 24) hpp) (aF (AA _) (nJ hGl 24) hqq) (by decide) (by omega) (by omega)
 have hle:sqS (fun s=>H.getD s 0) 24<=aA n (fun i=>(1 :: tl).getD i 0) (fun i=>qa.getD i 0) (fun i=>qa.getD i 0):=by
  rw[pS 24 key];exact x6 g rfl az bz 24
 obtain⟨c1,c2⟩:=zi oS oE hle;refine⟨tq (sqS (fun s=>H.getD s 0) 24),_,eE,?_,c1,c2⟩;have hd:=zm oH oH (by rw[hHl,qC];exact oS);rw[hHl,qC] at hd;rw[r1,hd]
open Go.RowKit Dg
theorem qE {fa fb:List ByteArray} (h:¬(aq fa fb=true/\(aK fb).isSome=true)):∃ er:Int,bG fa fb=(⟨#[]⟩,er)/\(er == 0)=false:=by
 unfold bG;by_cases hc:aq fa fb=true
 ·rw[if_pos hc,if_neg (fun hp=>h ⟨hc,hp⟩)];exact⟨31,rfl,by decide⟩
 ·rw[if_neg hc];exact⟨30,rfl,by decide⟩
theorem tX {fa fb:List ByteArray} (h:aq fa fb=true):gq fa fb 24=0:=by
 unfold gq;rw[if_pos h,if_pos (by decide)]
theorem qt {fa fb:List ByteArray} (h:aq fa fb=true):au fa fb=0:=by
 unfold au;rw[if_pos h]
theorem nq {l:List CQ}{i:Nat} (h:i<l.length):l.getD i ⟨0,0⟩=l[i]:=by
 rw[AH,AL h];rfl
theorem rP {zs ws:List CQ} (hl:ws.length=zs.length) (hsz:SzL 2000 zs) (hsw:SzL 2000 ws):∀ i,i<=zs.length->SzV (1+i*8002) (ct (iL zs ws i))
 | 0,_=>⟨.zero (by decide),.zero (by decide)⟩
 | i+1,hi=>by
  have h1:=rP hl hsz hsw i (by omega);have h2:=(hsz _ (AR (show i<zs.length by omega))).times (hsw _ (AR (show i<ws.length by omega)));rw[a6] at h2;have h3:=h1.plus h2;rw[cW] at h3;rw[iL,nq (by omega),nq (by omega)];exact h3.mono (by omega)
theorem dotN (va vb:Value) (zs ws:List CQ) (w:World) (ha:IsP w va zs) (hb:IsP w vb ws) (hl:ws.length=zs.length) (hsz:SzL 2000 zs) (hsw:SzL 2000 ws) (hlen:zs.length<=64) :
  Calls Tryz.prog 33 #[va,vb] w fun e w'=>∃ v',e=.returned v'/\IsV w' v' (ct (iL zs ws zs.length))/\Below w.heap.size w w':=by
 obtain⟨p,c,rfl,-⟩:=id ha.form;obtain⟨p',c',rfl,-⟩:=id hb.form;rw[hl] at hb |-;go_enter Tryz.func33,Tryz.ntmps33;go_upto_region 1 with fail
 have q3:=bm.new w (.bool false) (.slice none 0 0) (.slice none 0 0) (.bool false) (.slice none 0 0) (.slice none 0 0) nofun nofun nofun nofun nofun nofun;have m3:=ac w (.cells #[.bool false,.slice none 0 0,.slice none 0 0,.bool false,.slice none 0 0,.slice none 0 0] 65);have z3:=size_alloc w (.cells #[.bool false,.slice none 0 0,.slice none 0 0,.bool false,.slice none 0 0,.slice none 0 0] 65);generalize w.alloc (.cells #[.bool false,.slice none 0 0,.slice none 0 0,.bool false,.slice none 0 0,.slice none 0 0] 65)=w3 at *
 have MD:=At m3;have B3:=At q3;have HP:=At (ha.below m3);have HP':=At (hb.below m3);have HLE:=At hl;clear q3 m3 ha hb hl;go_wp2_with fail
 refine (gn 0 w3 (by decide) (by decide)).mono ?_;rintro e w4 ⟨v4,rfl,hv4,hb4⟩;go_wp2_with fail
 refine (de _ _ _ hv4).mono ?_;rintro e w5 ⟨v5,rfl,hv5,hb5⟩;have hB5:=hb4.trans (hb5.mono hb4.size);have hv5:IsV w5 v5 (ct (CQ.real 0)):=by rw[<-bO];exact hv5
 have hgB:w.heap.size+1<=w5.heap.size:=by have:=hB5.size;omega
 obtain⟨x1,x2,x3,y1,y2,y3,rfl,hx5,hy5⟩:=hv5;obtain⟨xm,xp,xl,xc,xq,xk,xd,hxe⟩:=hx5.form;obtain⟨ym,yp,yl,yc,yq,yk,yd,hye⟩:=hy5.form;obtain⟨rfl,rfl,rfl⟩:=cH hxe;obtain⟨rfl,rfl,rfl⟩:=cH hye;go_upto_region 2 with fail
 have B8:=bm.new w5 (.bool xm) (.slice xp xl xc) (.slice xq xk xd) (.bool ym) (.slice yp yl yc) (.slice yq yk yd) nofun nofun nofun nofun nofun nofun;have m5:=ac w5 (.cells #[.bool xm,.slice xp xl xc,.slice xq xk xd,.bool ym,.slice yp yl yc,.slice yq yk yd] 65);generalize w5.alloc (.cells #[.bool xm,.slice xp xl xc,.slice xq xk xd,.bool ym,.slice yp yl yc,.slice yq yk yd] 65)=wl at *
 generalize hg:w5.heap.size=gB at B8 hgB m5;have hvl:IsV wl (.agg #[.bool xm,.slice xp xl xc,.slice xq xk xd,.bool ym,.slice yp yl yc,.slice yq yk yd]) (ct (CQ.real 0)):=⟨_,_,_,_,_,_,rfl,by rw[<-hg] at m5;exact hx5.below m5,by rw[<-hg] at m5;exact hy5.below m5⟩;have hs3:w3.heap.size<=gB:=by rw[<-hg];exact hB5.size
 have hBl:Below w3.heap.size w3 wl:=hB5.trans (m5.mono hs3);clear hx5 hy5 hb4 hb5 hg hB5;have HB8:=At B8;have HV8:=At hvl;have HBl:=At hBl;clear B8 hvl hBl m5;go_wp2;go_loopw [12] (fun s12 wr=>∃ (i:Nat) (xm:Bool) (xp:Option Addr) (xl xc:Nat) (xq:Option Addr) (xk xd:Nat) (ym:Bool) (yp:Option Addr) (yl yc:Nat) (yq:Option Addr) (yk yd:Nat),s12=.int .i64 i/\i<=zs.length/\bm wr gB (.bool xm) (.slice xp xl xc) (.slice xq xk xd) (.bool ym) (.slice yp yl yc) (.slice yq yk yd)/\IsV wr (.agg #[.bool xm,.slice xp xl xc,.slice xq xk xd,.bool ym,.slice yp yl yc,.slice yq yk yd]) (ct (iL zs ws i))/\Below gB wl wr) (fun s12 _=>zs.length-(intOf s12).toNat)
 case atStart=>exact⟨0,_,_,_,_,_,_,_,_,_,_,_,_,_,_,rfl,AI _,HB8.out,HV8.out,Dv _ _⟩
 case round =>
  obtain⟨i,xm,xp,xl,xc,xq,xk,xd,ym,yp,yl,yc,yq,yk,yd,rfl,hi,hown,hv,hbr⟩:=hrel;have HB3r:=At (HBl.out.trans (hbr.mono hs3));by_cases h0:i=zs.length
  ·subst h0;obtain⟨hx,hy⟩:=hv.parts;have B8:=B3.out.below HB3r.out;have k0:=B8.cell 0;have k1:=B8.cell 1;have k2:=B8.cell 2;have k3:=B8.cell 3;have k4:=B8.cell 4;have k5:=B8.cell 5;have f0:=B8.fr 0;have f1:=B8.fr 1;have f2:=B8.fr 2;have f3:=B8.fr 3;have f4:=B8.fr 4;have f5:=B8.fr 5;have o0:=hown.cell 0;have o1:=hown.cell 1;have o2:=hown.cell 2;have o3:=hown.cell 3;have o4:=hown.cell 4;have o5:=hown.cell 5;have P:=At (B8.putV hx hy);have M8:=At (P.out.2.2 _ _ (MD.out.trans (HB3r.out.mono MD.out.size)) (by omega));clear hx hy B8 hown hv HB8 HV8;go_wp2_with fail
   have q0:=P.out.1.cell 0;have q1:=P.out.1.cell 1;have q2:=P.out.1.cell 2;have q3:=P.out.1.cell 3;have q4:=P.out.1.cell 4;have q5:=P.out.1.cell 5;refine Du (v:=.agg #[.bool xm,.slice xp xl xc,.slice xq xk xd,.bool ym,.slice yp yl yc,.slice yq yk yd]) (by simp[results,Tryz.results33,go_sem,cP] at q0 q1 q2 q3 q4 q5 |-;simp[results,Tryz.results33,go_sem,q0,q1,q2,q3,q4,q5]) rfl ⟨_,rfl,P.out.2.1,M8.out⟩
  ·have hk:i<zs.length:=by omega
   clear HB8 HV8;obtain⟨Br,o,rfl,hlt,pm,pp,pl,pc,pq,pk,pd,rm,rp,rl,rc,rq,rk,rd,hkk,a0,a1,a2,a3,a4,a5⟩:=(HP.out.below HB3r.out).get hk;have hzk:=hsz _ (AR hk);have hwk:=hsw _ (AR (show i<ws.length by rw[HLE.out];exact hk));have hsd:=rP HLE.out hsz hsw i hi;have hst:iL zs ws (i+1)=(iL zs ws i).add (zs[i].mul (ws[i]'(by rw[HLE.out];exact hk))):=by rw[iL,nq hk,nq (by rw[HLE.out];exact hk)]
   obtain⟨Bs,o',rfl,hlt',pm',pp',pl',pc',pq',pk',pd',rm',rp',rl',rc',rq',rk',rd',hkk',g0,g1,g2,g3,g4,g5⟩:=(HP'.out.below HB3r.out).get (show i<ws.length by rw[HLE.out];exact hk);generalize zs[i]=zk at hkk hst hzk;generalize ws[i]'(by rw[HLE.out];exact hk)=wk at hkk' hst hwk;have F1:=At (hzk.fewV hwk (by omega));have hz1:=hzk.times hwk;rw[a6] at hz1;have F2:=At (And.intro (hsd.x.fewR hz1.x (by omega)) (hsd.y.fewR hz1.y (by omega)));have HST:=At hst;have hgr:gB<wr.heap.size:=hown.lt;clear hz1 hst hwk hzk hsd;go_upto_region 5 with fail
   have q1:=aW.new wr (.bool pm) (.slice pp pl pc) (.slice pq pk pd) (.bool rm) (.slice rp rl rc) (.slice rq rk rd) 65;have m1:=ac wr (.cells #[.bool pm,.slice pp pl pc,.slice pq pk pd,.bool rm,.slice rp rl rc,.slice rq rk rd] 65);have z1:=size_alloc wr (.cells #[.bool pm,.slice pp pl pc,.slice pq pk pd,.bool rm,.slice rp rl rc,.slice rq rk rd] 65);generalize wr.alloc (.cells #[.bool pm,.slice pp pl pc,.slice pq pk pd,.bool rm,.slice rp rl rc,.slice rq rk rd] 65)=wn at *
   have m4:Below wr.heap.size wr wn.drew:=m1.trans (((Dv _ _).drew).mono m1.size);have hSn:Below wn.heap.size wn wn.drew:=(Dv _ _).drew;have hX1:wr.heap.size<wn.heap.size:=by omega
   refine wp_mono (aH (Q:=ci _) (fun wx:World=>Below wn.drew.heap.size wn.drew wx) (fun t=>t == 8) (by kernel_rfl) ?_) (fun _ _ _ h=>cL h);have e1:=fun (wy:World) (hy:Below wn.drew.heap.size wn.drew wy)=>(q1.below hSn).below hy;have HQ:=At (hown.below m4);have HV:=At (hv.below m4);have HK:=At (hkk.v.below m4);have HK':=At (hkk'.v.below m4);have HBw:=At (hbr.trans (m4.mono (Cy hgr)));have HB3d:=At (HB3r.out.trans (m4.mono HB3r.out.size));have r0:=(m4.cell (p:=⟨Bs,o'+i*6,none⟩) hlt').trans g0;have r1:=(m4.cell (p:=⟨Bs,o'+i*6+1,none⟩) hlt').trans g1;have r2:=(m4.cell (p:=⟨Bs,o'+i*6+2,none⟩) hlt').trans g2;have r3:=(m4.cell (p:=⟨Bs,o'+i*6+3,none⟩) hlt').trans g3;have r4:=(m4.cell (p:=⟨Bs,o'+i*6+4,none⟩) hlt').trans g4;have r5:=(m4.cell (p:=⟨Bs,o'+i*6+5,none⟩) hlt').trans g5;have hltn:Bs<wn.drew.heap.size:=AD hlt' m4.size;have hgn:gB<=wn.drew.heap.size:=AP (Cy hgr) m4.size;clear hown hv hkk hkk' hbr a0 a1 a2 a3 a4 a5 g0 g1 g2 g3 g4 g5 m1 m4 z1 q1 HB3r HP HP' hlt hlt';generalize wn.drew=wd at *
   have hS:Below wd.heap.size wd wd:=Dv _ _;refine aB (i:=0) (v:=?vv0) rfl (by kernel_rfl) (fun _ _ _ h=>h) rfl hS ?hy0 ?rest0
   case hy0 =>
    intro wy hy;have Q:=HQ.out.below hy;have o0:=Q.cell 0;have o1:=Q.cell 1;have o2:=Q.cell 2;have o3:=Q.cell 3;have o4:=Q.cell 4;have o5:=Q.cell 5;clear hy Q;go_simp;try with_reducible rfl
   try simp only[Act.put,Ax,Aw,Av,Au,Ay,Az]
   refine aB (i:=1) (v:=?vv1) rfl (by kernel_rfl) (fun _ _ _ h=>h) rfl hS ?hy1 ?rest1
   case hy1 =>
    intro wy hy;have Q:=e1 wy hy;have o0:=Q.c0;have o1:=Q.c1;have o2:=Q.c2;have o3:=Q.c3;have o4:=Q.c4;have o5:=Q.c5;clear hy Q;go_simp;try with_reducible rfl
   try simp only[Act.put,Ax,Aw,Av,Au,Ay,Az]
   refine Ds 2 (r:=?_)
   try simp only[Act.put,Ax,Aw,Av,Au,Ay,Az]
   refine Ds 3 (r:=?_)
   try simp only[Act.put,Ax,Aw,Av,Au,Ay,Az]
   refine Ds 4 (r:=?_)
   try simp only[Act.put,Ax,Aw,Av,Au,Ay,Az]
   refine aB (i:=5) (v:=?vv5) rfl (by kernel_rfl) (fun _ _ _ h=>h) rfl hS ?hy5 ?rest5
   case hy5 =>
    intro wy hy;have o0:=(hy.cell (p:=⟨Bs,o'+i*6,none⟩) hltn).trans r0;have o1:=(hy.cell (p:=⟨Bs,o'+i*6+1,none⟩) hltn).trans r1;have o2:=(hy.cell (p:=⟨Bs,o'+i*6+2,none⟩) hltn).trans r2;have o3:=(hy.cell (p:=⟨Bs,o'+i*6+3,none⟩) hltn).trans r3;have o4:=(hy.cell (p:=⟨Bs,o'+i*6+4,none⟩) hltn).trans r4;have o5:=(hy.cell (p:=⟨Bs,o'+i*6+5,none⟩) hltn).trans r5;clear hy;go_simp;try with_reducible rfl
   try simp only[Act.put,Ax,Aw,Av,Au,Ay,Az]
   refine aC (i:=6) rfl (by kernel_rfl) rfl (fun K hK=>?_);go_simp;refine (ff _ _ _ _ _ HK.out HK'.out F1.out).mono ?_;rintro e w6 ⟨v6,rfl,hv6,hb6⟩;rw[a6] at hv6;refine hK _ _ (fun _ _=>hb6) ?_;clear hK K;try simp only[Act.put,Ax,Aw,Av,Au,Ay,Az]
   refine aC (i:=7) rfl (by kernel_rfl) rfl (fun K hK=>?_);go_simp;refine (nI _ _ _ _ _ (HV.out.below hb6) hv6 F2.out.1 F2.out.2).mono ?_;rintro e w7 ⟨v7,rfl,hv7,hb7⟩;have hB7:=hb6.trans (hb7.mono hb6.size);rw[cW,<-HST.out] at hv7;refine hK _ _ (fun _ _=>hB7) ?_;clear hK K;try simp only[Act.put,Ax,Aw,Av,Au,Ay,Az]
   obtain⟨x1,x2,x3,y1,y2,y3,rfl,hx,hy⟩:=hv7;obtain⟨sm,sp,sl,sc,sq,sk,sd,hxe⟩:=hx.form;obtain⟨tm,tp,tl,tc,tq,tk,td,hye⟩:=hy.form;obtain⟨rfl,rfl,rfl⟩:=cH hxe;obtain⟨rfl,rfl,rfl⟩:=cH hye;have B8:=HQ.out.below hB7;have k0:=B8.cell 0;have k1:=B8.cell 1;have k2:=B8.cell 2;have k3:=B8.cell 3;have k4:=B8.cell 4;have k5:=B8.cell 5;have f0:=B8.fr 0;have f1:=B8.fr 1;have f2:=B8.fr 2;have f3:=B8.fr 3;have f4:=B8.fr 4;have f5:=B8.fr 5;have P:=At (B8.putV hx hy);have M8:=At (P.out.2.2 gB wl (HBw.out.trans (hB7.mono hgn)) (AA _));clear hx hy hxe hye B8 hv6 hb6 hb7 hS e1 r0 r1 r2 r3 r4 r5;refine aC (i:=8) rfl (by kernel_rfl) rfl (fun K hK=>?_);go_simp;refine hK _ _ (fun h=>by cases h) ?_;clear hK K k0 k1 k2 k3 k4 k5 f0 f1 f2 f3 f4 f5;try simp only[Act.put,Ax,Aw,Av,Au,Ay,Az]
   refine bC (by kernel_rfl) ?_ _;simp only[ci];go_wp2;go_roundw;case rel=>exact⟨i+1,_,_,_,_,_,_,_,_,_,_,_,_,_,_,by go_num,by omega,P.out.1,P.out.2.1,M8.out⟩
   case measure=>simp[intOf]<;>omega
theorem zF (va vb:Value) (a b:List ByteArray) (w:World) (ha:IsS w va a) (hb:IsS w vb b) (hl:b.length=a.length) (hlen:a.length<=64) (hG:Gw w) :
  Calls Tryz.prog 8 #[va,vb] w fun e w'=>e=.returned (.tuple #[.string (kc a b).1,.int .i64 (kc a b).2])/\Below w.heap.size w w':=by
 obtain⟨pa,ca,rfl,-⟩:=id ha.form;obtain⟨pb,cb,rfl,-⟩:=id hb.form;have HA:=At (m8 _ a w ha (by omega) hG);rw[hl] at hb |-;have HB:=At (fun (w1:World) (h:Below w.heap.size w w1)=>m8 _ b w1 (hb.below h) (by omega) (hG.below h));have HG:=At hG;obtain⟨n,hn⟩:∃ n,n=a.length:=⟨_,rfl⟩;rw[<-hn] at hlen |-;have HLA:=At (And.intro hn.symm hl);rw[<-hn] at HA HB;clear ha hb hG hl hn;go_enter Tryz.func8,Tryz.ntmps8;go_wp2_with fail
 refine HA.out.mono ?_;rintro e w1 ⟨v1,ok,rfl,hcase,hb1⟩;have HCA:=At hcase;clear hcase HA
 obtain⟨q1,n1,c1,rfl⟩:∃ q1 n1 c1,v1=.slice q1 n1 c1:=by
  rcases HCA.out with ⟨zs,-,-,h⟩ | ⟨-,-,h⟩
  ·obtain⟨p,c,e,-⟩:=h.form;exact⟨_,_,_,e⟩
  ·exact⟨_,_,_,h⟩
 have HG1:=At (HG.out.below hb1);go_wp2_with fail
 refine (HB.out w1 hb1).mono ?_;rintro e w2 ⟨v2,ok2,rfl,hcase,hb2⟩;have HCB:=At hcase;clear hcase HB
 obtain⟨q2,n2,c2,rfl⟩:∃ q2 n2 c2,v2=.slice q2 n2 c2:=by
  rcases HCB.out with ⟨zs,-,-,h⟩ | ⟨-,-,h⟩
  ·obtain⟨p,c,e,-⟩:=h.form;exact⟨_,_,_,e⟩
  ·exact⟨_,_,_,h⟩
 have HB2:=At (hb1.trans (hb2.mono hb1.size));rcases HCA.out with ⟨zs,hz,rfl,hp⟩ | ⟨hz,rfl,-⟩
 ·rcases HCB.out with ⟨ws,hw,rfl,hq⟩ | ⟨hw,rfl,-⟩
  ·have HD:=At (show kc a b=b8 (iL zs ws zs.length) by unfold kc;rw[hz,hw]);have hzl:zs.length=n:=by rw[cU hz,HLA.out.1]
   have hwl:ws.length=zs.length:=by rw[cU hw,HLA.out.2,<-cU hz]
   have HDO:=At (dotN _ _ zs ws w2 (hp.below hb2) hq hwl (ko hz) (ko hw) (by omega));have HG2:=At (HG1.out.below hb2);clear HCA HCB hz hw hp hq hb1 hb2 hzl hwl;go_wp2_with fail
   refine HDO.out.mono ?_;rintro e w3 ⟨v3,rfl,hv3,hb3⟩;have HB3:=At (HB2.out.trans (hb3.mono HB2.out.size));have HP:=At (tU _ _ _ hv3 (HG2.out.below hb3));clear hb3 hv3 HDO;go_wp2_with fail
   refine HP.out.mono ?_;rintro e w4 ⟨rfl,hb4⟩;go_wp2;refine Du (v:=.tuple #[.string (b8 (iL zs ws zs.length)).1,.int .i64 (b8 (iL zs ws zs.length)).2]) (by simp[results,Tryz.results8,go_sem]) rfl ⟨by rw[HD.out],HB3.out.trans (hb4.mono HB3.out.size)⟩
  ·have HD:=At (show kc a b=(⟨#[]⟩,10) by unfold kc;rw[hz,hw]);clear HCA HCB hz hw hp hb1 hb2;go_wp2;refine Du (v:=.tuple #[.string ⟨#[]⟩,.int .i64 10]) (by simp[results,Tryz.results8,go_sem]) rfl ⟨by rw[HD.out],HB2.out⟩
 ·have HD:=At (show kc a b=(⟨#[]⟩,10) by unfold kc;rw[hz]);clear HCA HCB hz hb1 hb2;go_wp2;refine Du (v:=.tuple #[.string ⟨#[]⟩,.int .i64 10]) (by simp[results,Tryz.results8,go_sem]) rfl ⟨by rw[HD.out],HB2.out⟩
theorem oJ (v:Value) (a b:List ByteArray) (E:ByteArray) (er:Int) (w:World) (h:bG a b=(E,er)) (hF:IsF w v a b) (hG:Gx w) :
  Calls Tryz.prog 4 #[v] w fun e w'=>e=.returned (.tuple #[.string E,.int .i64 er])/\Below w.heap.size w w':=by
 have:=rG v a b w hF hG;rw[h] at this;exact this
theorem xe (v:Value) (a b:List ByteArray) (w:World) (hc:aq a b=true) (hp:(aK b).isSome=true) (hF:IsF w v a b) (hG:Gx w) :
  Calls Tryz.prog 6 #[v] w fun e w'=>e=.returned (.tuple #[.bool true,.int .i64 0])/\Below w.heap.size w w':=by
 have:=xM v a b w hF hG;rw[hc,hp,qt hc] at this;exact this
theorem zN (v:Value) (a b H:List ByteArray) (w:World) (hc:aq a b=true) (hH:bR a b (du 24) 24=H) (hF:IsF w v a b) (hG:Gx w) :
  Calls Tryz.prog 7 #[v,.int .i64 24] w fun e w'=>∃ p c,e=.returned (.tuple #[.slice p 24 c,.int .i64 0])/\IsS w' (.slice p 24 c) H/\Below w.heap.size w w':=by
 have hr:=lX v a b 24 w hF hG;rw[tX hc,show (24:Int).toNat=24 from rfl,hH] at hr;have hl:H.length=24:=by rw[<-hH,fd]
 refine hr.mono ?_;rintro e w' ⟨u,rfl,h1,-,hb⟩;have h1:=h1 rfl;obtain⟨p,c,rfl,-⟩:=id h1.form;rw[hl] at h1 |-;exact⟨p,c,rfl,h1,hb⟩
theorem z_ (v:Value) (a:List ByteArray) (S:ByteArray) (w:World) (h:kc a a=(S,0)) (hl:a.length<=64) (ha:IsS w v a) (hG:Gw w) :
  Calls Tryz.prog 8 #[v,v] w fun e w'=>e=.returned (.tuple #[.string S,.int .i64 0])/\Below w.heap.size w w':=by
 have:=zF v v a a w ha ha rfl hl hG;rw[h] at this;exact this
theorem z7 (s t:ByteArray) (c:Int) (w:World) (h1:(ir s t).1=c) (h2:(ir s t).2=0) (hG:Gw w) :
  Calls Tryz.prog 9 #[.string s,.string t] w fun e w'=>e=.returned (.tuple #[.int .i64 c,.int .i64 0])/\Below w.heap.size w w':=by
 have:=vU s t w hG;rw[h1,h2] at this;exact this
theorem qM (v:Value) (fa fb:List ByteArray) (w:World) (hF:IsF w v fa fb) (hG:Gx w) :
  Calls Tryz.prog 3 #[v] w fun e w'=>e=.returned (.bool true)/\Below w.heap.size w w':=by
 obtain⟨p,c,q,d,rfl,hfa,hfb⟩:=id hF.ex;go_enter Tryz.func3,Tryz.ntmps3;go_upto_region 1 with fail
 have cc:=ar w (.slice p fa.length c) (.slice q fb.length d);have m1:=ac w (.cells #[.slice p fa.length c,.slice q fb.length d] 24);have z1:=size_alloc w (.cells #[.slice p fa.length c,.slice q fb.length d] 24);generalize w.alloc (.cells #[.slice p fa.length c,.slice q fb.length d] 24)=w2 at *
 have k0:=cc.1;have k1:=cc.2;have KL:w.heap.size<w2.heap.size:=by omega
 have HB:=At m1;have HF:=At (hF.below HB.out);have HG:=At (hG.below HB.out);clear hfa hfb cc z1 m1 hF hG;by_cases hcp:aq fa fb=true/\(aK fb).isSome=true
 ·obtain⟨hc,hp⟩:=hcp;obtain⟨S,E,hE,hS,hc2,hc1⟩:=qF hc hp;obtain⟨H,hH⟩:∃ H,bR fa fb (du 24) 24=H:=⟨_,rfl⟩;rw[hH] at hS;have HHL:=At (show H.length<=64 by rw[<-hH,fd];decide);have HC:=At (And.intro hc hp);have HE:=At hE;have HS:=At hS;have HH:=At hH;obtain⟨cm,hcm⟩:∃ cm,(ir S E).1=cm:=⟨_,rfl⟩;rw[hcm] at hc1;have HCM:=At (And.intro hcm hc2);have hle:decide (cm<=0)=true:=by simpa using hc1
  clear hc hp hE hS hc2 hH hcm;go_wp2_with fail
  refine (oJ _ fa fb E 0 w2 HE.out HF.out HG.out).mono ?_;rintro e w3 ⟨rfl,hb⟩;have HF:=At (HF.out.below hb);have HG:=At (HG.out.below hb);have HB:=At (HB.out.trans (hb.mono HB.out.size));have k0:=aa hb KL k0;have k1:=aa hb KL k1;have KL:=AD KL (hb.size);clear hb;go_wp2_with fail
  refine (xe _ fa fb w3 HC.out.1 HC.out.2 HF.out HG.out).mono ?_;rintro e w4 ⟨rfl,hb⟩;have HF:=At (HF.out.below hb);have HG:=At (HG.out.below hb);have HB:=At (HB.out.trans (hb.mono HB.out.size));have k0:=aa hb KL k0;have k1:=aa hb KL k1;have KL:=AD KL (hb.size);clear hb;go_wp2_with fail
  refine (zN _ fa fb H w4 HC.out.1 HH.out HF.out HG.out).mono ?_;rintro e w5 ⟨p5,c5,rfl,h5,hb⟩;have HF:=At (HF.out.below hb);have HG:=At (HG.out.below hb);have HB:=At (HB.out.trans (hb.mono HB.out.size));have k0:=aa hb KL k0;have k1:=aa hb KL k1;have KL:=AD KL (hb.size);have H5:=At h5;clear hb h5;go_wp2_with fail
  refine (z_ _ H S w5 HS.out HHL.out H5.out HG.out.g).mono ?_;rintro e w6 ⟨rfl,hb⟩;have HF:=At (HF.out.below hb);have HG:=At (HG.out.below hb);have HB:=At (HB.out.trans (hb.mono HB.out.size));have k0:=aa hb KL k0;have k1:=aa hb KL k1;have KL:=AD KL (hb.size);clear hb;go_wp2_with fail
  refine (z7 S E cm w6 HCM.out.1 HCM.out.2 HG.out.g).mono ?_;rintro e w7 ⟨rfl,hb⟩;have HF:=At (HF.out.below hb);have HG:=At (HG.out.below hb);have HB:=At (HB.out.trans (hb.mono HB.out.size));have k0:=aa hb KL k0;have k1:=aa hb KL k1;have KL:=AD KL (hb.size);clear hb;go_wp2_with fail
  refine (xA w7 HG.out).mono ?_;rintro e w8 ⟨rfl,hb⟩;have HF:=At (HF.out.below hb);have HG:=At (HG.out.below hb);have HB:=At (HB.out.trans (hb.mono HB.out.size));have k0:=aa hb KL k0;have k1:=aa hb KL k1;have KL:=AD KL (hb.size);go_wp2;go_ret;exact⟨rfl,HB.out⟩
 ·obtain⟨er,hE,her⟩:=qE hcp;have HE:=At hE;clear hE hcp;go_wp2_with fail
  refine (oJ _ fa fb ⟨#[]⟩ er w2 HE.out HF.out HG.out).mono ?_;rintro e w3 ⟨rfl,hb⟩;have HF:=At (HF.out.below hb);have HG:=At (HG.out.below hb);have HB:=At (HB.out.trans (hb.mono HB.out.size));have k0:=aa hb KL k0;have k1:=aa hb KL k1;have KL:=AD KL (hb.size);clear hb;go_wp2_with fail
  refine (xA w3 HG.out).mono ?_;rintro e w8 ⟨rfl,hb⟩;have HF:=At (HF.out.below hb);have HG:=At (HG.out.below hb);have HB:=At (HB.out.trans (hb.mono HB.out.size));have k0:=aa hb KL k0;have k1:=aa hb KL k1;have KL:=AD KL (hb.size);go_wp2;go_ret;exact⟨rfl,HB.out⟩
end Go.Proofs.YtgakllaobooabaaGreatDoor
