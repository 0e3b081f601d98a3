/- Lemmas of this claim. -/
import Derived.Test.YtbnkpcfjechfiaaGreatDoorQReg
import Derived.Test.YtbnkpcfjechfiaaGreatDoorQNC7
import Derived.Test.YtbnkpcfjechfiaaGreatDoorQLP13
import Derived.Test.YtbnkpcfjechfiaaGreatDoorQPM2
import Derived.Test.YtbnkpcfjechfiaaGreatDoorQLD1
set_option linter.all false
set_option maxRecDepth 100000
set_option maxHeartbeats 8000000
namespace Go.Proofs.YtbnkpcfjechfiaaGreatDoor
open Go.RowKit Dg Dc
theorem pU {t:List UInt8}:∀ {m:Nat},(∀ k c,1≤k→k≤m→t[k]?=some c→c≠43∧c≠45)→dB t m=none
 | 0,_=>rfl
 | m+1,h=>by
  unfold dB;rw[if_neg,pU (fun k c h1 h2 h3=>h k c h1 (by omega) h3)];rintro (e | e)
  ·exact (h _ _ (by omega) (Fb _) e).1 rfl
  ·exact (h _ _ (by omega) (Fb _) e).2 rfl
theorem tI {t:List UInt8}{k0:Nat} (h0:1≤k0) (hs:t[k0]?=some 43∨t[k0]?=some 45):∀ {m:Nat},k0≤m→(∀ k c,k0<k→k≤m→t[k]?=some c→c≠43∧c≠45)→dB t m=some k0
 | 0,hm,_=>by omega
 | m+1,hm,h=>by
  unfold dB;by_cases e:m+1=k0
  ·subst e;rw[if_pos hs]
  ·rw[if_neg,tI h0 hs (by omega) (fun k c h1 h2 h3=>h k c h1 (by omega) h3)];rintro (e2 | e2)
   ·exact (h _ _ (by omega) (Fb _) e2).1 rfl
   ·exact (h _ _ (by omega) (Fb _) e2).2 rfl
theorem xw (r:Rt):∀ c∈fi r,c≠43∧c≠45:=by
 intro c hc;unfold fi at hc;rcases F6.1 hc with h | h
 ·have:=jd (FH.1 (d9 r.n) _ h);exact⟨this.1,this.2.1⟩
 ·split at h
  ·rcases Ge.1 h with rfl | h
   ·decide
   ·have:=jd (FH.1 (d9 r.d) _ h);exact⟨this.1,this.2.1⟩
  ·cases h
def bT (r:Rt):List UInt8:=if fi r=[49] then [] else fi r
theorem kx (r:Rt):∀ c∈bT r,c≠43∧c≠45:=by
 intro c hc;unfold bT at hc
 split at hc
 ·cases hc
 ·exact xw r c hc
theorem mL (r:Rt):bG r=(if r.minus then [45] else [])++bT r:=by
 obtain⟨c,t,e1,e2⟩:=ku r;have hc:=jd e2;unfold bG bT;rw[fS]
 cases r.minus
 ·simp only[FB,if_false,FJ];by_cases h:fi r=[49]
  ·rw[if_pos (Or.inl h),if_pos h,h];rfl
  ·rw[if_neg,if_neg h];rintro (e | e)
   ·exact h e
   ·rw[e1] at e;exact hc.2.1 (List.cons.inj e).1
 ·simp only[if_true,FT,FJ];by_cases h:fi r=[49]
  ·rw[if_pos (Or.inr (by rw[h])),if_pos h,h];rfl
  ·rw[if_neg,if_neg h];rintro (e | e)
   ·exact absurd (List.cons.inj e).1 (by decide)
   ·exact h (List.cons.inj e).2
theorem Ev (r:Rt):(if bG r=[]∨bG r=[45] then bG r++[49] else bG r)=aK r:=by
 obtain⟨c,t,e1,e2⟩:=ku r;have hc:=jd e2;rw[mL,fS];unfold bT;by_cases h:fi r=[49]
 ·rw[if_pos h,h]
  cases r.minus
  ·rfl
  ·rfl
 ·rw[if_neg h];rw[if_neg];rintro (e | e)
  ·cases hm:r.minus
   ·rw[hm,e1] at e;cases e
   ·rw[hm] at e;cases e
  ·cases hm:r.minus
   ·rw[hm] at e;simp only[FB,if_false,FJ] at e;rw[e1] at e;exact hc.2.1 (List.cons.inj e).1
   ·rw[hm] at e;simp only[if_true,FT,FJ] at e;have:=(List.cons.inj e).2;rw[e1] at this;cases this
theorem qG {l:List UInt8}{k:Nat}{c:UInt8} (h:l[k]?=some c):c∈l:=GY h
theorem tn (X l:List UInt8) (d:UInt8) (hX:1≤X.length) (hd:d=43∨d=45) (hl:∀ c∈l,c≠43∧c≠45):lC (X++d :: l)=(X,Lib.trimPrefix (d :: l) [43]):=by
 have hs:dB (X++d :: l) ((X++d :: l).length-1)=some X.length:=by
  refine tI hX ?_ (by simp) (fun k c h1 _ h3=>?_)
  ·rw[GX (Fb _),Hc];rcases hd with rfl | rfl
   ·exact Or.inl rfl
   ·exact Or.inr rfl
  ·rw[GX (by omega),show k-X.length=(k-X.length-1)+1 from by omega,G5] at h3;exact hl c (qG h3)
 unfold lC;rw[hs];simp only;rw[Id rfl,List.drop_left' rfl]
theorem A3 (l:List UInt8) (hl:∀ k c,1≤k→l[k]?=some c→c≠43∧c≠45):lC l=([48],l):=by
 unfold lC;rw[pU (fun k c h1 _ h3=>hl k c h1 h3)]
theorem Di (y:Rt):∀ k c,1≤k→(bG y)[k]?=some c→c≠43∧c≠45:=by
 intro k c h1 h3;rw[mL] at h3
 cases hm:y.minus
 ·rw[hm] at h3;exact kx y c (qG h3)
 ·rw[hm] at h3;simp only[if_true,FT,FJ] at h3;rw[show k=(k-1)+1 from by omega,G5] at h3;exact kx y c (qG h3)
theorem E0 (x y:Rt) (b:Bool):lC ((if b then [] else aK x++(if y.minus then [] else [43]))++bG y)=(if b then [48] else aK x,bG y):=by
 cases b
 ·simp only[FB,if_false];have hX:=ts x
  cases hm:y.minus
  ·simp only[FB,if_false];have hy:bG y=bT y:=by rw[mL,hm];rfl
   rw[FO,Hb,tn _ _ 43 hX (Or.inl rfl) (by rw[hy];exact kx y)];unfold Lib.trimPrefix;rw[iH,decide_eq_true rfl];rfl
  ·simp only[if_true,Gf];have hy:bG y=45 :: bT y:=by rw[mL,hm];rfl
   rw[hy,tn _ _ 45 hX (Or.inr rfl) (kx y)];unfold Lib.trimPrefix;rw[iH,decide_eq_false (by decide)];rfl
 ·simp only[if_true,FJ];exact A3 _ (Di y)
theorem tK (l:List UInt8):Lib.hasSuffix (l++[105]) [105]=true∧Lib.trimSuffix (l++[105]) [105]=l:=by
 have h:Lib.hasSuffix (l++[105]) [105]=true:=by
  unfold Lib.hasSuffix;rw[Is];exact⟨l,rfl⟩
 refine⟨h,?_⟩;unfold Lib.trimSuffix;rw[h];simp
theorem sB {z:CQ} (h:eC z=false):fE (txt z)=some z:=by
 by_cases hi:z.im=0
 ·have e:z=CQ.real z.re:=by cases z;simp only at hi;subst hi;rfl
  rw[e] at h ⊢;exact pj h
 ·have hb:=h;unfold eC at hb;simp only[GH] at hb;have hyn:(ct z).y.n≠0:=fun e=>hi ((bg _).1 e);obtain⟨b,hbx⟩:∃ b:Bool,b=decide ((ct z).x.n=0):=⟨_,rfl⟩
  have hv:bL (ct z)=((if b then [] else aK (ct z).x++(if (ct z).y.minus then [] else [43]))++bG (ct z).y)++[105]:=by
   unfold bL;rw[if_neg hyn,hbx];simp only[decide_eq_true_eq]
  have hg:f_ (bL (ct z))=some (ct z):=by
   have hl1:=oz hb.1;have hl2:=oz hb.2
   have hl3:(bG (ct z).y).length≤4002:=by
    unfold bG
    split
    ·rw[FA];have:(aK (ct z).y).length≤4002:=hl2;omega
    ·exact hl2
   have hlen:(bL (ct z)).length≤8008:=by
    rw[hv];have:(aK (ct z).x).length≤4002:=hl1;simp only[Fl,Fv,FW]
    split<;>(try split)<;>simp<;>omega
   have hp:fx (bL (ct z))=(if b then [48] else aK (ct z).x,aK (ct z).y):=by
    unfold fx;rw[hv,(tK _).1,(tK _).2,E0];simp only[if_true];rw[Ev]
   have hx:cI (if b then [48] else aK (ct z).x)=some (ct z).x:=by
    cases b
    ·exact jp (ky z.re)
    ·have:(ct z).x.n=0:=by simpa using hbx
     have h0:z.re=0:=(bg _).1 this
     show cI [48]=some (rt z.re)
     rw[h0,dK];exact lZ
   unfold f_;rw[if_neg (by omega),hp];simp only;rw[hx,show cI (aK (ct z).y)=some (ct z).y from jp (ky z.im)];simp only;rw[if_pos ⟨trivial,hb.1,hb.2⟩]
  unfold fE txt;simp only[Ik];rw[hg];simp only[Ih]
  show some (⟨toQ (rt z.re),toQ (rt z.im)⟩:CQ)=some z
  rw[vD,vD]
theorem tR:txt ⟨0,0⟩=⟨#[48]⟩:=by decide +kernel
theorem De {a b:CQ} (ha:eC a=false) (hb:eC b=false) (h:txt a=txt b):a=b:=by
 have e:=sB ha;rw[h,sB hb] at e;exact (Option.some.inj e).symm
theorem mZ {s:ByteArray} (h:bu s.data.toList=true):∃ q,s=tq q∧okQ q∧q.num.natAbs≤4096∧q.den≤4096:=by
 obtain⟨q,rfl,hq⟩:=vT h;refine⟨q,rfl,hq,?_⟩;unfold bu at h;simp only[Fy] at h
 have e:(tq q).data.toList=aK (rt q):=by
  show bL (ct (CQ.real q))=_
  rw[dD (z:=ct (CQ.real q)) (by show (rt 0).n=0;rw[dK])];rfl
 have h2:=h.2;rw[e] at h2;unfold gl at h2;rw[(lK (rt q)).1,pW (rt q) (dJ q)] at h2;unfold dZ at h2;simp only[Fy,decide_eq_true_eq] at h2;exact h2
theorem m7:∀ l:List ByteArray,(∀ s∈l,bu s.data.toList=true)→∃ qs:List Rat,∃ D,l=qs.map tq∧0<D∧D≤4096 ^ l.length∧(∀ q∈qs,Ov D (4096*4096 ^ l.length) q∧okQ q)
 | [],_=>⟨[],1,rfl,by decide,by simp,fun q h=>by cases h⟩
 | s :: l,h=>by
  obtain⟨q,rfl,hq,hn,hd⟩:=mZ (h s (FL ..));obtain⟨qs,D,rfl,hD,hDl,hall⟩:=m7 l (fun t ht=>h t (FN _ ht));have hdp:=q.den_pos;have hp:(4096:Nat) ^ (qs.map tq).length*4096=4096 ^ (tq q :: qs.map tq).length:=by rw[Fv,Ft]
  refine⟨q :: qs,D*q.den,rfl,GF hD hdp,?_,?_⟩
  ·rw[←hp];exact Gq hDl hd
  ·intro r hr;rcases Ge.1 hr with rfl | hr
   ·refine⟨?_,hq⟩;have h1:=(Ov.of r).wide D hdp hD;rw[Fw r.den D] at h1;refine h1.mono ?_;have:=Gq hn hDl;refine Fj this ?_;rw[←hp];exact FF _ (Ht _ (by decide))
   ·obtain⟨h1,h2⟩:=hall r hr;refine⟨(h1.wide q.den hD hdp).mono ?_,h2⟩;rw[←hp,←It];exact FF _ hd
open Go.RowKit Dg
theorem Ek (w:World):FnT 130 #[] id w:=by
 refine⟨a_ Tryz.func130 rfl (by kernel_rfl),fun x w' hb=>?_⟩
 show Calls _ _ #[_] _ _
 go_enter Tryz.func130,Tryz.ntmps130;go_wp2;go_ret;exact⟨rfl,Below.refl _ _⟩
theorem El (k:ByteArray) (g:Nat) (w:World) (hc:w.cell? ⟨g,4,none⟩=some (.string k)) (hg:g<w.heap.size) (hG:Gw w) :
  FnT 129 #[.pointer (some ⟨g,0,none⟩)] (fun a=>dz a k) w:=by
 refine⟨a_ Tryz.func129 rfl (by kernel_rfl),fun x w' hb=>?_⟩;have c0:=af hb hg hc;have HG:=E5 (hG.below hb)
 show Calls _ _ #[_,_] _ _
 go_enter Tryz.func129,Tryz.ntmps129;go_wp2_with fail
 refine (eH _ _ w' HG.out).mono ?_;rintro e w1 ⟨rfl,hb1⟩;go_wp2;go_ret;exact⟨rfl,hb1⟩
def fJ (fa fb:List ByteArray) (k:ByteArray):Except Int (List ByteArray×List ByteArray):=if bu k.data.toList=true then .ok (fa.map (fun a=>dz a k),fb) else .error 2
theorem bE.lowerS {w:World}{base base':Nat}{v:Value}{l:List ByteArray} (h:bE w base v l) (hb:base'≤base):bE w base' v l:=by
 obtain⟨hlen,h⟩:=h;refine⟨hlen,?_⟩;rcases h with h | ⟨g,cap,cur,rfl,hg,r⟩
 ·exact Or.inl h
 ·exact Or.inr ⟨g,cap,cur,rfl,Fj hb hg,r⟩
theorem tg (v:Value) (fa fb ga gb:List ByteArray) (k:ByteArray) (n:Int) (w:World) (hP:iT w v fa fb ga gb k n) (h0:0<fa.length) (h2:fa.length<1000) (h3:fb.length<1000) (hG:Gx w) :
  Calls Tryz.prog 72 #[v] w (gR (fJ fa fb k) w):=by
 obtain⟨p,c,q,d,p',c',q',d',rfl,hfa,hfb,-,-⟩:=id hP.ex;obtain⟨ba,oa,rfl,hal,-⟩:=hfa.get (i:=0) h0;go_enter Tryz.func72,Tryz.ntmps72;go_upto_region 1 with fail
 have m1:=ak w (.cells #[.slice (some ⟨ba,oa,none⟩) fa.length c,.slice q fb.length d,.slice p' ga.length c',.slice q' gb.length d',.string k,.int .i64 n] 97);have z1:=size_alloc w (.cells #[.slice (some ⟨ba,oa,none⟩) fa.length c,.slice q fb.length d,.slice p' ga.length c',.slice q' gb.length d',.string k,.int .i64 n] 97);have a0:=aA w #[.slice (some ⟨ba,oa,none⟩) fa.length c,.slice q fb.length d,.slice p' ga.length c',.slice q' gb.length d',.string k,.int .i64 n] 97 0 _ rfl;have a1:=aA w #[.slice (some ⟨ba,oa,none⟩) fa.length c,.slice q fb.length d,.slice p' ga.length c',.slice q' gb.length d',.string k,.int .i64 n] 97 1 _ rfl;have a4:=aA w #[.slice (some ⟨ba,oa,none⟩) fa.length c,.slice q fb.length d,.slice p' ga.length c',.slice q' gb.length d',.string k,.int .i64 n] 97 4 _ rfl;generalize w.alloc (.cells #[.slice (some ⟨ba,oa,none⟩) fa.length c,.slice q fb.length d,.slice p' ga.length c',.slice q' gb.length d',.string k,.int .i64 n] 97)=w1 at *
 have q2:(w1.alloc (.cells #[.slice none 0 0,.slice none 0 0] 24)).heap[w1.heap.size]?=some (.cells #[.slice none 0 0,.slice none 0 0] 24 (0,0)):=heap_alloc_new w1 _;have m2:=ak w1 (.cells #[.slice none 0 0,.slice none 0 0] 24);have z2:=size_alloc w1 (.cells #[.slice none 0 0,.slice none 0 0] 24);have hlt:w.heap.size<w1.heap.size:=by omega
 have b0:=af m2 hlt a0;have b1:=af m2 hlt a1;have b4:=af m2 hlt a4;generalize w1.alloc (.cells #[.slice none 0 0,.slice none 0 0] 24)=w2 at *
 rw[z1] at q2;have M2:=E5 (m1.trans (m2.mono m1.size));have HZ2:=E5 (show w.heap.size+2=w2.heap.size by omega);have hl2:w.heap.size<w2.heap.size:=by omega
 have HQ2:=E5 q2;have HA:=E5 (hfa.below M2.out);have HBB:=E5 (hfb.below M2.out);have HG:=E5 (hG.below M2.out);clear hG m1 z1 a0 a1 a4 m2 z2 hfa hfb hP hlt q2 hal;go_wp2_with fail
 refine (o8 k w2 HG.out).mono ?_;rintro e w3 ⟨ok,rfl,hok,hb3⟩;have hz3:=hb3.size;have HQ3:=E5 ((hb3.block (w.heap.size+1) (by have:=HZ2.out;omega)).trans HQ2.out);have HZ3:=E5 (show w.heap.size+2≤w3.heap.size by have:=HZ2.out;omega);have HG:=E5 (HG.out.below hb3);have HA:=E5 (HA.out.below hb3);have HBB:=E5 (HBB.out.below hb3);have M3:=E5 (M2.out.trans (hb3.mono M2.out.size));have b0:=af hb3 hl2 b0;have b1:=af hb3 hl2 b1;have b4:=af hb3 hl2 b4;replace hl2:=Fe hl2 hz3;clear hb3 hz3 HQ2 HZ2
 cases ok
 ·have HD:=E5 (show fJ fa fb k=.error 2 by unfold fJ;rw[if_neg (by rw[hok.out];decide)]);clear hok;go_wp2;refine⟨rfl,M3.out,?_⟩;rw[HD.out];rfl
 ·have HD:=E5 (show fJ fa fb k=.ok (fa.map (fun a=>dz a k),fb) by unfold fJ;rw[if_pos hok.out]);clear hok;go_upto_region 3 with fail
  have hbd:Below w3.heap.size w3 w3.drew:=(Below.refl _ _).drew;refine aq (fun w'=>∃ x:Off (w.heap.size+1) w3,w'=x.w) (fun j=>j == 4||j == 8||j == 10) (by kernel_rfl) (by kernel_rfl) (Off.below hbd) ?_;have c0:=fun x:Off (w.heap.size+1) w3=>x.cell hl2 (by omega) b0;have c1:=fun x:Off (w.heap.size+1) w3=>x.cell hl2 (by omega) b1;have HFn:=E5 ((El k w.heap.size w3 b4 hl2 HG.out.g).below hbd);clear b0 b1 b4;generalize w3.drew=wd at *
  have HAd:=HA.out.below hbd;have HBd:=E5 (HBB.out.below hbd);refine ah 4 0 _ _ _ (by kernel_rfl) ?_;simp only[Fc,Fg,Fd,Ff];repeat (go_big_quiet_step (fail))
  refine wpQuiet_nil ?_;refine aj rfl rfl (fun K hK=>?_);go_simp;refine (nj _ fa _ _ _ wd HAd (by omega) HFn.out).mono ?_;rintro e w4 ⟨u1,rfl,hu1,hb4⟩;obtain⟨L1,hL1⟩:∃ L,L=fa.map (fun a=>dz a k):=⟨_,rfl⟩;rw[←hL1] at hu1 HD;clear hL1;have hB4:=hbd.trans (hb4.mono hbd.size);refine hK _ _ (Off.below hB4) ?_;clear hK K;try simp only[Act.put,E9,E8,E7,E6,Fa,E_]
  have HB4:=E5 (HBB.out.below hB4);have hu1b:bE w4 w3.heap.size u1 L1:=hu1.lowerS hbd.size;clear HAd HBd hb4 hbd hu1;refine ah 3 5 _ _ _ (by kernel_rfl) ?_;simp only[Fc,Fg,Fd,Ff];repeat (go_big_quiet_step (fail))
  refine wpQuiet_nil ?_;refine aj rfl rfl (fun K hK=>?_);go_simp;refine (nj _ fb _ _ _ w4 HB4.out (by omega) (Ek w4)).mono ?_;rintro e w6 ⟨u2,rfl,hu2,hb6⟩;rw[IE] at hu2;have hB6:=hB4.trans (hb6.mono hB4.size);refine hK _ _ (Off.below hB6) ?_;clear hK K;try simp only[Act.put,E9,E8,E7,E6,Fa,E_]
  have hk1:bE w6 w3.heap.size u1 L1:=hu1b.below hb6;have hs2:=HZ3.out;have hs4:=hB4.size;obtain⟨p1,c1',rfl,-⟩:=id hk1.isS.form;obtain⟨p2,c2',rfl,-⟩:=id hu2.isS.form;have hn1:Value.ownBlock (.slice p1 L1.length c1')≠some (w.heap.size+1):=fun e=>by have:=(World.ownsRow.lt hk1 _ e).1;omega
  have hn2:Value.ownBlock (.slice p2 fb.length c2')≠some (w.heap.size+1):=fun e=>by have:=(World.ownsRow.lt hu2 _ e).1;omega
  have O1:=E5 (show ∀ g,Value.ownBlock (.slice p1 L1.length c1')=some g→w.heap.size≤g from fun g e=>by have:=(World.ownsRow.lt hk1 _ e).1;omega);have O2:=E5 (show ∀ g,Value.ownBlock (.slice p2 fb.length c2')=some g→w.heap.size≤g from fun g e=>by have:=(World.ownsRow.lt hu2 _ e).1;omega);have q7:=(hB6.block (w.heap.size+1) (by omega)).trans HQ3.out;have k0:=ae q7 0;have k1:=ae q7 1;have f0:=ap q7 0;have f1:=ap q7 1;have R1:=E5 ((hk1.isS.other hn1 0 (.slice p1 L1.length c1')).other hn1 1 (.slice p2 fb.length c2'));have R2:=E5 ((hu2.isS.other hn2 0 (.slice p1 L1.length c1')).other hn2 1 (.slice p2 fb.length c2'));have M7:=E5 (((M3.out.trans (hB6.mono M3.out.size)).setCell (p:=⟨w.heap.size+1,0,none⟩) (Fx _) (.slice p1 L1.length c1')).setCell (p:=⟨w.heap.size+1,1,none⟩) (Fx _) (.slice p2 fb.length c2'));have hOff:=Off.set (g:=w.heap.size+1) (Off.set (g:=w.heap.size+1) (Off.below hB6) 0 (.slice p1 L1.length c1')) 1 (.slice p2 fb.length c2');have g0:=aI q7 (.slice p1 L1.length c1') (.slice p2 fb.length c2');clear hn1 hn2 hk1 hu2 q7 hB6 hb6 hu1b hB4 hs2 hs4;refine ah 1 9 _ _ _ (by kernel_rfl) ?_;simp only[Fc,Fg,Fd,Ff];repeat (go_big_quiet_step (fail))
  refine wpQuiet_nil ?_;refine aj rfl rfl (fun K hK=>?_);go_simp;refine hK undef _ hOff ?_;clear hK K;try simp only[Act.put,E9,E8,E7,E6,Fa,E_]
  refine aB ?_;have x0:=ae g0 0;have x1:=ae g0 1;go_wp2_with fail
  refine bodyPost_ret (v:=.agg #[.slice p1 L1.length c1',.slice p2 fb.length c2']) (by simp at x0 x1;simp[results,Tryz.results72,go_sem,x0,x1]) rfl ⟨M7.out,?_⟩;rw[HD.out];exact⟨_,rfl,⟨p1,c1',p2,c2',rfl,R1.out,R2.out,O1.out,O2.out⟩⟩
def dS (a b:List ByteArray) (k:ByteArray):(List ByteArray×List ByteArray)×Int:=aO a b a b (fJ a b k)
theorem qZ (w:World) (a b:List ByteArray) (k:ByteArray) (v:Value) (hP:iT w v a b a b k 0) (hG:Gx w):Calls Tryz.prog 71 #[.func (.func 72) #[] #[],v] w (eB (dS a b k) w):=by
 refine kA 72 v a b a b k 0 _ w hP ⟨a_ Tryz.func72 rfl (by kernel_rfl),fun v' w' hw' hP' hc hc2=>?_⟩ hG;obtain⟨ob1,ob7,oa1,oa7,-⟩:=aM hc;exact tg v' a b a b k 0 w' hP' (by omega) (by omega) (by omega) (hG.below hw')
theorem Ce (v:Value) (a b:List ByteArray) (k:ByteArray) (w:World) (hF:IsF w v a b) (hG:Gx w) :
  Calls Tryz.prog 21 #[v,.string k] w (eB (dS a b k) w):=by
 obtain⟨p,c,q,d,rfl,hfa,hfb⟩:=id hF.ex;go_enter Tryz.func21,Tryz.ntmps21;go_upto_region 1 with fail
 have cc:=aE w (.slice p a.length c) (.slice q b.length d);have m1:=ak w (.cells #[.slice p a.length c,.slice q b.length d] 24);have z1:=size_alloc w (.cells #[.slice p a.length c,.slice q b.length d] 24);generalize w.alloc (.cells #[.slice p a.length c,.slice q b.length d] 24)=w1 at *
 have q2:(w1.alloc (.cells #[.slice none 0 0,.slice none 0 0] 24)).heap[w1.heap.size]?=some (.cells #[.slice none 0 0,.slice none 0 0] 24 (0,0)):=heap_alloc_new w1 _;have m2:=ak w1 (.cells #[.slice none 0 0,.slice none 0 0] 24);have z2:=size_alloc w1 (.cells #[.slice none 0 0,.slice none 0 0] 24);have c0:=af m2 (show w.heap.size<w1.heap.size by omega) cc.1;have c1:=af m2 (show w.heap.size<w1.heap.size by omega) cc.2;generalize w1.alloc (.cells #[.slice none 0 0,.slice none 0 0] 24)=w2 at *
 rw[z1] at q2;have M2:=E5 (m1.trans (m2.mono m1.size));have hz2:w.heap.size+2=w2.heap.size:=by omega
 have hP:iT w2 (.agg #[.slice p a.length c,.slice q b.length d,.slice p a.length c,.slice q b.length d,.string k,.int .i64 0]) a b a b k 0 :=
  ⟨⟨p,c,q,d,p,c,q,d,rfl,hfa.below M2.out,hfb.below M2.out,hfa.below M2.out,hfb.below M2.out⟩⟩
 have HC:=E5 (qZ w2 a b k _ hP (hG.below M2.out));clear m1 z1 m2 z2 cc hfa hfb hG hF hP;go_wp2_with fail
 refine HC.out.mono ?_;rintro e w3 ⟨u,rfl,hu,hb3⟩;obtain⟨r,hr⟩:∃ r,r=dS a b k:=⟨_,rfl⟩;rw[show dS a b k=r from hr.symm] at hu ⊢;obtain⟨⟨L1,L2⟩,er⟩:=r;have HR:=E5 hr;simp only at hu ⊢;obtain⟨p1,c1',p2,c2,rfl,g1,g2,o1,o2⟩:=hu.ex;have hn1:Value.ownBlock (.slice p1 L1.length c1')≠some (w.heap.size+1):=fun e=>by have:=o1 _ e;omega
 have hn2:Value.ownBlock (.slice p2 L2.length c2)≠some (w.heap.size+1):=fun e=>by have:=o2 _ e;omega
 have q3:=(hb3.block (w.heap.size+1) (by omega)).trans q2;have k0:=ae q3 0;have k1:=ae q3 1;have f0:=ap q3 0;have f1:=ap q3 1;have R1:=E5 ((g1.other hn1 0 (.slice p1 L1.length c1')).other hn1 1 (.slice p2 L2.length c2));have R2:=E5 ((g2.other hn2 0 (.slice p1 L1.length c1')).other hn2 1 (.slice p2 L2.length c2));have O1:=E5 (show ∀ g,Value.ownBlock (.slice p1 L1.length c1')=some g→w.heap.size≤g from fun g e=>by have:=o1 _ e;omega);have O2:=E5 (show ∀ g,Value.ownBlock (.slice p2 L2.length c2)=some g→w.heap.size≤g from fun g e=>by have:=o2 _ e;omega);have M7:=E5 (((M2.out.trans (hb3.mono M2.out.size)).setCell (p:=⟨w.heap.size+1,0,none⟩) (Fx _) (.slice p1 L1.length c1')).setCell (p:=⟨w.heap.size+1,1,none⟩) (Fx _) (.slice p2 L2.length c2));have g0:=aI q3 (.slice p1 L1.length c1') (.slice p2 L2.length c2);have x0:=ae g0 0;have x1:=ae g0 1;clear hn1 hn2 g1 g2 o1 o2 q2 q3 hb3 HC hu hr;go_wp2;refine bodyPost_ret (v:=.tuple #[.agg #[.slice p1 L1.length c1',.slice p2 L2.length c2],.int .i64 er]) (by simp at x0 x1;simp[results,Tryz.results21,go_sem,x0,x1]) rfl ⟨_,by rw[←HR.out],?_,M7.out⟩;rw[←HR.out];exact⟨⟨p1,c1',p2,c2,rfl,R1.out,R2.out,O1.out,O2.out⟩⟩
theorem CI {l:List Rat}{j:Nat} (h:j<l.length):aH (l.map tq) j=tq (l.getD j 0):=by
 rw[←eK (l:=l.map tq) (by simpa using h),Gb,FG,Fr h];rfl
structure fU (l:List ByteArray) (qs:List Rat):Prop where
 e:l=qs.map tq
 ov:∃ D,0<D∧D≤2 ^ 84∧∀ q∈qs,Ov D (2 ^ 96) q
 ok:∀ q∈qs,okQ q
 len:qs.length≤7
theorem tj {l:List ByteArray} (hl:l.length≤7) (h:∀ s∈l,bu s.data.toList=true):∃ qs,fU l qs:=by
 obtain⟨qs,D,e,hD,hDl,hall⟩:=m7 l h;have h7:(4096:Nat) ^ l.length≤4096 ^ 7:=Fs (by decide) hl;have e7:(4096:Nat) ^ 7=2 ^ 84:=by decide
 refine⟨qs,e,⟨D,hD,by omega,fun q hq=>(hall q hq).1.mono ?_⟩,fun q hq=>(hall q hq).2,by rw[e,Fp] at hl;exact hl⟩;have:4096*4096 ^ l.length≤4096*4096 ^ 7:=FF _ h7;rw[e7] at this;exact Fj this (by decide)
theorem CP {a b:Nat} (h:a+1=b):(2:Nat) ^ b=2 ^ a+2 ^ a:=by rw[←h,Ft,Nat.mul_two]
theorem Es {a b:Nat} (h:a≤b):(2:Nat) ^ a≤2 ^ b:=Fs (by decide) h
theorem DY {x a b c:Nat} (h:x≤2 ^ a*2 ^ b) (hc:a+b=c):x≤2 ^ c:=by rw[←hc,GP];exact h
theorem DZ {x y a b c:Nat} (h1:x≤2 ^ a) (h2:y≤2 ^ b) (hc:a+b=c):x*y≤2 ^ c:=DY (Gq h1 h2) hc
theorem Dd {D E a b c d:Nat} (hD:D≤2 ^ b) (hE:E≤2 ^ b) (hc:a+b=c) (hd:c+1=d):2 ^ a*E+2 ^ a*D≤2 ^ d:=by
 rw[CP hd,←hc,GP];exact Nat.add_le_add (FF _ hE) (FF _ hD)
theorem Et (n:Nat):(2:Nat) ^ (3*n)<10 ^ (n+1):=by
 rw[GG];have h1:((2:Nat) ^ 3) ^ n≤10 ^ n:=Nat.pow_le_pow_left (by decide) n;have h2:(10:Nat) ^ n<10 ^ (n+1):=Nat.pow_lt_pow_right (by decide) (Nat.lt_succ_self n);exact FE h1 h2
theorem D4 {n k m t:Nat} (h:n≤2 ^ k) (hk:k≤3*m) (ht:m+1=t):n<10 ^ t:=by
 subst ht;exact FE (Fj h (Fs (by decide) hk)) (Et m)
theorem AH {n k:Nat} (h:n≤2 ^ k) (hk:k≤5997):n<10 ^ 2000:=D4 (m:=1999) (t:=2000) h (by omega) (by omega)
theorem Er {a b:Rat} (ha:okQ a) (hb:okQ b) (h:tq a=tq b):a=b:=congrArg CQ.re (De ha hb h)
theorem kS {a b:List ByteArray} (h:az a b=true):∃ qa qb,fU a qa∧fU b qb∧0<qa.length∧0<qb.length:=by
 obtain⟨b1,b7,a1,a7,ac,bc,-⟩:=aM h;obtain⟨qa,ha⟩:=tj a7 ac;obtain⟨qb,hb⟩:=tj b7 bc;refine⟨qa,qb,ha,hb,?_,?_⟩
 ·rw[ha.e,Fp] at a1;omega
 ·rw[hb.e,Fp] at b1;omega
end Go.Proofs.YtbnkpcfjechfiaaGreatDoor
