/- L -/
import Derived.Test.YtgakllaobooabaaGreatDoorXReg
import Derived.Test.YtgakllaobooabaaGreatDoorXNC7
import Derived.Test.YtgakllaobooabaaGreatDoorXLP13
import Derived.Test.YtgakllaobooabaaGreatDoorXPM2
import Derived.Test.YtgakllaobooabaaGreatDoorXPD1
import Derived.Test.YtgakllaobooabaaGreatDoorXB
set_option linter.all false
set_option maxRecDepth 100000
set_option maxHeartbeats 8000000
namespace Go.Proofs.YtgakllaobooabaaGreatDoor
open Go.RowKit Dg Dc
theorem mN {t:List UInt8}:∀ {m:Nat},(∀ k c,1<=k->k<=m->t[k]?=some c->c≠43/\c≠45)->ck t m=none
 | 0,_=>rfl
 | m+1,h=>by
  unfold ck;rw[if_neg,mN (fun k c h1 h2 h3=>h k c h1 (by omega) h3)];rintro (e | e)
  ·exact (h _ _ (by omega) (AA _) e).1 rfl
  ·exact (h _ _ (by omega) (AA _) e).2 rfl
theorem pQ {t:List UInt8}{k0:Nat} (h0:1<=k0) (hs:t[k0]?=some 43\/t[k0]?=some 45):∀ {m:Nat},k0<=m->(∀ k c,k0<k->k<=m->t[k]?=some c->c≠43/\c≠45)->ck t m=some k0
 | 0,hm,_=>by omega
 | m+1,hm,h=>by
  unfold ck;by_cases e:m+1=k0
  ·subst e;rw[if_pos hs]
  ·rw[if_neg,pQ h0 hs (by omega) (fun k c h1 h2 h3=>h k c h1 (by omega) h3)];rintro (e2 | e2)
   ·exact (h _ _ (by omega) (AA _) e2).1 rfl
   ·exact (h _ _ (by omega) (AA _) e2).2 rfl
theorem sS (r:Rt):∀ c∈dS r,c≠43/\c≠45:=by
 intro c hc;unfold dS at hc;rcases B_.1 hc with h | h
 ·have:=gJ (A5.1 (c_ r.n) _ h);exact⟨this.1,this.2.1⟩
 ·split at h
  ·rcases Bm.1 h with rfl | h
   ·decide
   ·have:=gJ (A5.1 (c_ r.d) _ h);exact⟨this.1,this.2.1⟩
  ·cases h
def bT (r:Rt):List UInt8:=if dS r=[49] then [] else dS r
theorem i8 (r:Rt):∀ c∈bT r,c≠43/\c≠45:=by
 intro c hc;unfold bT at hc
 split at hc
 ·cases hc
 ·exact sS r c hc
theorem kD (r:Rt):cG r=(if r.minus then [45] else [])++bT r:=by
 obtain⟨c,t,e1,e2⟩:=iX r;have hc:=gJ e2;unfold cG bT;rw[eF]
 cases r.minus
 ·simp only[AU,if_false,A1];by_cases h:dS r=[49]
  ·rw[if_pos (Or.inl h),if_pos h,h];rfl
  ·rw[if_neg,if_neg h];rintro (e | e)
   ·exact h e
   ·rw[e1] at e;exact hc.2.1 (List.cons.inj e).1
 ·simp only[if_true,A9,A1];by_cases h:dS r=[49]
  ·rw[if_pos (Or.inr (by rw[h])),if_pos h,h];rfl
  ·rw[if_neg,if_neg h];rintro (e | e)
   ·exact absurd (List.cons.inj e).1 (by decide)
   ·exact h (List.cons.inj e).2
theorem zW (r:Rt):(if cG r=[]\/cG r=[45] then cG r++[49] else cG r)=aG r:=by
 obtain⟨c,t,e1,e2⟩:=iX r;have hc:=gJ e2;rw[kD,eF];unfold bT;by_cases h:dS r=[49]
 ·rw[if_pos h,h]
  cases r.minus
  ·rfl
  ·rfl
 ·rw[if_neg h];rw[if_neg];rintro (e | e)
  ·cases hm:r.minus
   ·rw[hm,e1] at e;cases e
   ·rw[hm] at e;cases e
  ·cases hm:r.minus
   ·rw[hm] at e;simp only[AU,if_false,A1] at e;rw[e1] at e;exact hc.2.1 (List.cons.inj e).1
   ·rw[hm] at e;simp only[if_true,A9,A1] at e;have:=(List.cons.inj e).2;rw[e1] at this;cases this
theorem ns {l:List UInt8}{k:Nat}{c:UInt8} (h:l[k]?=some c):c∈l:=Cd h
theorem pE (X l:List UInt8) (d:UInt8) (hX:1<=X.length) (hd:d=43\/d=45) (hl:∀ c∈l,c≠43/\c≠45):jK (X++d :: l)=(X,Lib.trimPrefix (d :: l) [43]):=by
 have hs:ck (X++d :: l) ((X++d :: l).length-1)=some X.length:=by
  refine pQ hX ?_ (by simp) (fun k c h1 _ h3=>?_)
  ·rw[BA (AA _),BL];rcases hd with rfl | rfl
   ·exact Or.inl rfl
   ·exact Or.inr rfl
  ·rw[BA (by omega),show k-X.length=(k-X.length-1)+1 from by omega,Cl] at h3;exact hl c (ns h3)
 unfold jK;rw[hs];simp only;rw[CY rfl,List.drop_left' rfl]
theorem wA (l:List UInt8) (hl:∀ k c,1<=k->l[k]?=some c->c≠43/\c≠45):jK l=([48],l):=by
 unfold jK;rw[mN (fun k c h1 _ h3=>hl k c h1 h3)]
theorem yO (y:Rt):∀ k c,1<=k->(cG y)[k]?=some c->c≠43/\c≠45:=by
 intro k c h1 h3;rw[kD] at h3
 cases hm:y.minus
 ·rw[hm] at h3;exact i8 y c (ns h3)
 ·rw[hm] at h3;simp only[if_true,A9,A1] at h3;rw[show k=(k-1)+1 from by omega,Cl] at h3;exact i8 y c (ns h3)
theorem Ap (x y:Rt) (b:Bool):jK ((if b then [] else aG x++(if y.minus then [] else [43]))++cG y)=(if b then [48] else aG x,cG y):=by
 cases b
 ·simp only[AU,if_false];have hX:=pF x
  cases hm:y.minus
  ·simp only[AU,if_false];have hy:cG y=bT y:=by rw[kD,hm];rfl
   rw[Bl,Cx,pE _ _ 43 hX (Or.inl rfl) (by rw[hy];exact i8 y)];unfold Lib.trimPrefix;rw[f_,decide_eq_true rfl];rfl
  ·simp only[if_true,BE];have hy:cG y=45 :: bT y:=by rw[kD,hm];rfl
   rw[hy,pE _ _ 45 hX (Or.inr rfl) (i8 y)];unfold Lib.trimPrefix;rw[f_,decide_eq_false (by decide)];rfl
 ·simp only[if_true,A1];exact wA _ (yO y)
theorem pU (l:List UInt8):Lib.hasSuffix (l++[105]) [105]=true/\Lib.trimSuffix (l++[105]) [105]=l:=by
 have h:Lib.hasSuffix (l++[105]) [105]=true:=by
  unfold Lib.hasSuffix;rw[C9];exact⟨l,rfl⟩
 refine⟨h,?_⟩;unfold Lib.trimSuffix;rw[h];simp
theorem kU {z:CQ} (h:cV z=false):dX (txt z)=some z:=by
 by_cases hi:z.im=0
 ·have e:z=CQ.real z.re:=by cases z;simp only at hi;subst hi;rfl
  rw[e] at h |-;exact me h
 ·have hb:=h;unfold cV at hb;simp only[BX] at hb;have hyn:(ct z).y.n≠0:=fun e=>hi ((aP _).1 e);obtain⟨b,hbx⟩:∃ b:Bool,b=decide ((ct z).x.n=0):=⟨_,rfl⟩
  have hv:cr (ct z)=((if b then [] else aG (ct z).x++(if (ct z).y.minus then [] else [43]))++cG (ct z).y)++[105]:=by
   unfold cr;rw[if_neg hyn,hbx];simp only[decide_eq_true_eq]
  have hg:eM (cr (ct z))=some (ct z):=by
   have hl1:=lB hb.1;have hl2:=lB hb.2
   have hl3:(cG (ct z).y).length<=4002:=by
    unfold cG
    split
    ·rw[A6];have:(aG (ct z).y).length<=4002:=hl2;omega
    ·exact hl2
   have hlen:(cr (ct z)).length<=8008:=by
    rw[hv];have:(aG (ct z).x).length<=4002:=hl1;simp only[AO,A2,Bw]
    split<;>(try split)<;>simp<;>omega
   have hp:dZ (cr (ct z))=(if b then [48] else aG (ct z).x,aG (ct z).y):=by
    unfold dZ;rw[hv,(pU _).1,(pU _).2,Ap];simp only[if_true];rw[zW]
   have hx:bH (if b then [48] else aG (ct z).x)=some (ct z).x:=by
    cases b
    ·exact gR (kr z.re)
    ·have:(ct z).x.n=0:=by simpa using hbx
     have h0:z.re=0:=(aP _).1 this
     show bH [48]=some (rt z.re)
     rw[h0,dQ];exact j0
   unfold eM;rw[if_neg (by omega),hp];simp only;rw[hx,show bH (aG (ct z).y)=some (ct z).y from gR (kr z.im)];simp only;rw[if_pos ⟨trivial,hb.1,hb.2⟩]
  unfold dX txt;simp only[C5];rw[hg];simp only[C3]
  show some (⟨toQ (rt z.re),toQ (rt z.im)⟩:CQ)=some z
  rw[rz,rz]
theorem yo {z:CQ} (h:cV z=false):b8 z=(txt z,0):=by unfold b8;rw[if_neg (by rw[h];decide)]
theorem lE:txt ⟨0,0⟩=⟨#[48]⟩:=by decide +kernel
theorem yJ {a b:CQ} (ha:cV a=false) (hb:cV b=false) (h:txt a=txt b):a=b:=by
 have e:=kU ha;rw[h,kU hb] at e;exact (Option.some.inj e).symm
def evQ (w:CQ) (qs:List Rat):CQ:=qs.foldr (fun q acc=>(acc.mul w).add (CQ.real q)) ⟨0,0⟩
theorem ur (w:CQ):((⟨0,0⟩:CQ).mul w).add ⟨0,0⟩=⟨0,0⟩:=by
 unfold CQ.mul CQ.add;congr 1<;>grind
theorem xO (x:CQ) (zs:List CQ):atL (bA zs) x=zs.foldr (fun z acc=>(acc.mul x).add z) ⟨0,0⟩:=by
 have key:∀ l:List CQ,(l.dropWhile fun z=>decide (z=⟨0,0⟩)).foldl (fun (acc:CQ) (z:CQ)=>(acc.mul x).add z) (⟨0,0⟩:CQ)=l.foldl (fun (acc:CQ) (z:CQ)=>(acc.mul x).add z) (⟨0,0⟩:CQ):=by
  intro l
  induction l with
  | nil=>rfl
  | cons z l ih =>
   rw[List.dropWhile_cons];by_cases h:z=⟨0,0⟩
   ·rw[if_pos (by simpa using h),ih,Dm,h,ur]
   ·rw[if_neg (by simpa using h)]
 unfold atL iC bA;rw[AF,List.foldr_reverse,key,List.foldl_reverse]
theorem zf (qs:List Rat) (w:CQ):atL (bA (qs.map CQ.real)) w=evQ w qs:=by
 rw[xO,List.foldr_map];rfl
theorem qw {s:ByteArray} (h:bN s.data.toList=true):∃ q,s=tq q/\okQ q/\q.num.natAbs<=4096/\q.den<=4096:=by
 obtain⟨q,rfl,hq⟩:=rO h;refine⟨q,rfl,hq,?_⟩;unfold bN at h;simp only[AV] at h
 have e:(tq q).data.toList=aG (rt q):=by
  show cr (ct (CQ.real q))=_
  rw[bY (z:=ct (CQ.real q)) (by show (rt 0).n=0;rw[dQ])];rfl
 have h2:=h.2;rw[e] at h2;unfold fi at h2;rw[(mU (rt q)).1,t8 (rt q) (dl q)] at h2;unfold rh at h2;simp only[AV,decide_eq_true_eq] at h2;exact h2
theorem iY:∀ qs:List Rat,(∀ q∈qs,okQ q)->allC (qs.map tq)=some (qs.map CQ.real)
 | [],_=>rfl
 | q :: qs,h=>by
  show (match dX (tq q),allC (qs.map tq) with | some z,some zs=>some (z :: zs) | _,_=>none)=_
  rw[eN (h q (By ..)),iY qs (fun r hr=>h r (Bz _ hr))];rfl
theorem rR {w:CQ}{E:Nat}{D M:Nat} (hw:OvC E (2 ^ 49) w) (hE:E<=2 ^ 49) (hD:0<D):∀ qs:List Rat,(∀ q∈qs,Ov D M q)->OvC (D*E ^ qs.length) (qs.length*(M*2 ^ (50*qs.length))) (evQ w qs)
 | [],_=>⟨(Ov.zero _).mono (AI _),(Ov.zero _).mono (AI _),by simpa using hD⟩
 | q :: qs,h=>by
  have ih:=rR hw hE hD qs (fun r hr=>h r (Bz _ hr));have h1:=ih.mul hw;have hEp:0<E ^ (qs.length+1):=Bh hw.pos;have h2:=(OvC.real (h q (By ..)) hD).wide (E ^ (qs.length+1)) hEp;have e:D*E ^ qs.length*E=D*E ^ (qs.length+1):=by rw[Bn,AS]
  rw[e] at h1;have h3:=h1.add h2
  show OvC (D*E ^ (qs.length+1)) ((qs.length+1)*(M*2 ^ (50*(qs.length+1)))) (((evQ w qs).mul w).add (CQ.real q))
  refine h3.mono ?_;have p50:(2:Nat) ^ (50*(qs.length+1))=2 ^ (50*qs.length)*2 ^ 50:=by rw[CO,Bu,BC]
  have a1:2*(qs.length*(M*2 ^ (50*qs.length))*2 ^ 49)=qs.length*(M*2 ^ (50*(qs.length+1))):=by
   rw[p50,show (2:Nat) ^ 50=2*2 ^ 49 from by decide];simp only[Ct,AT,Bn]
  have a2:M*E ^ (qs.length+1)<=M*2 ^ (50*(qs.length+1)):=by
   refine AQ _ ?_;rw[BW];exact BQ (AP hE (by decide)) _
  rw[a1,Bf,BV];exact Nat.add_le_add_left a2 _
open Go.RowKit Dg
def aO (fa:List ByteArray) (i:Nat):List ByteArray:=List.replicate i ⟨#[48]⟩++fa
theorem gI (fa:List ByteArray) (i:Nat):(aO fa i).length=i+fa.length:=by simp[aO]
theorem nk (fa:List ByteArray) (i:Nat):aO fa (i+1)=[⟨#[48]⟩]++aO fa i:=by simp[aO,Ck]
def da (fa fb:List ByteArray):Nat->Nat->Nat
 | 0,i=>i
 | n+1,i=>if i+fa.length<=6 then if bo (aO fa (i+1)) fb ⟨#[49]⟩=true then da fa fb n (i+1) else i else i
theorem nl (fa fb:List ByteArray) (n i:Nat):da fa fb (n+1) i=if i+fa.length<=6 then if bo (aO fa (i+1)) fb ⟨#[49]⟩=true then da fa fb n (i+1) else i else i:=rfl
def dt (fa fb:List ByteArray):Int×Int:=if aq fa fb=true then if bo fa fb ⟨#[49]⟩=true then (((da fa fb 7 0:Nat):Int),0) else (0,31) else (0,30)
theorem sw (w:World) (base:Nat) (t:ByteArray) (hb:base<=w.heap.size):bU (w.alloc (.cells #[.string t] 25)) base (.slice (some ⟨w.heap.size,0,none⟩) 1 1) [t] :=
 World.ownsRow_lit w #[.string t] 1 hb (by simp[maxLen]) rfl
theorem xF (v:Value) (a b:List ByteArray) (w:World) (hF:IsF w v a b) (hG:Gx w) :
  Calls Tryz.prog 28 #[v] w fun e w'=>e=.returned (.tuple #[.int .i64 (dt a b).1,.int .i64 (dt a b).2])/\Below w.heap.size w w':=by
 have HF0:=At hF;have HG0:=At hG;obtain⟨p,c,q,d,rfl,hfa,hfb⟩:=id hF.ex;go_enter Tryz.func28,Tryz.ntmps28;go_upto_region 1 with fail
 have q1:=heap_alloc_new w (.cells #[.slice p a.length c,.slice q b.length d] 24);have m1:=ac w (.cells #[.slice p a.length c,.slice q b.length d] 24);have z1:=size_alloc w (.cells #[.slice p a.length c,.slice q b.length d] 24);generalize w.alloc (.cells #[.slice p a.length c,.slice q b.length d] 24)=w1 at *
 have hlt:w.heap.size<w1.heap.size:=by omega
 have HCK:=At (dC _ a b w1 (hF.below m1) (hG.below m1));have c0:=ah q1 0;have c1:=ah q1 1;have M1:=At m1;clear hF hG z1 m1;by_cases hck:aq a b=true
 ·have HT:=At (show dt a b=if bo a b ⟨#[49]⟩=true then (((da a b 7 0:Nat):Int),0) else (0,31) by unfold dt;rw[if_pos hck]);have hce:au a b=0:=by unfold au;rw[if_pos hck]
  rw[hce] at HCK;obtain⟨ob1,ob7,oa1,oa7,-,-,-⟩:=aN hck;clear hce;go_wp2_with fail
  refine HCK.out.mono ?_;rintro e w2 ⟨rfl,hb2⟩;have q2:=(hb2.block w.heap.size hlt).trans q1;have hlt2:w.heap.size<w2.heap.size:=AD hlt hb2.size;have M2:=At (M1.out.trans (hb2.mono M1.out.size));have HH:=At (iN _ a b ⟨#[49]⟩ w2 (HF0.out.below M2.out) ob1 (by omega) (by omega) (HG0.out.below M2.out).g);clear q1 c0 c1 hb2 hlt M1 HCK hck;have c0:=ah q2 0;have c1:=ah q2 1;by_cases hh:bo a b ⟨#[49]⟩=true
  ·rw[hh] at HH;have HT:=At (show dt a b=(((da a b 7 0:Nat):Int),0) by rw[HT.out,if_pos hh]);clear hh;go_wp2_with fail
   refine HH.out.mono ?_;rintro e w3 ⟨rfl,hb3⟩;have q3:=(hb3.block w.heap.size hlt2).trans q2;have hlt3:w.heap.size<w3.heap.size:=AD hlt2 hb3.size;have M3:=At (M2.out.trans (hb3.mono M2.out.size));obtain⟨bb,oo,rfl,hbl,-⟩:=hfb.get (i:=0) ob1;obtain⟨ba,oa,rfl,hal,-⟩:=hfa.get (i:=0) oa1;clear q2 c0 c1 hb3 hlt2 M2 HH;go_wp2;have HA0:=At (hfa.below M3.out);have HBw:=At hfb;clear hfa hfb;have HQ3:=At q3;clear q3;have ha1:aO a 0=a:=rfl;have HA1:=At ha1;clear ha1;go_loopw [5] (fun s5 wr=>∃ (i:Nat) (px ox cx:Nat),s5=.int .i64 i/\i+a.length<=7/\wr.heap[w.heap.size]?=some (.cells #[.slice (some ⟨px,ox,none⟩) (aO a i).length cx,.slice (some ⟨bb,oo,none⟩) b.length d] 24 (0,0))/\IsS wr (.slice (some ⟨px,ox,none⟩) (aO a i).length cx) (aO a i)/\px≠w.heap.size/\Below w.heap.size w wr/\Hid (da a b (7-i) i=da a b 7 0)) (fun s5 _=>7-(intOf s5).toNat)
   case atStart=>exact⟨0,ba,oa,c,rfl,by omega,HQ3.out,HA0.out,by omega,M3.out,rfl⟩
   case round =>
    obtain⟨i,px,ox,cx,rfl,hi7,qr,hin,hpx,hbr,hrec⟩:=hrel;have hlr:w.heap.size<wr.heap.size:=(AE.1 qr).1;have c0:=ah qr 0;have c1:=ah qr 1;have hdl:=gI a i;by_cases h6:i+a.length<=6
    ·have hd:decide (((aO a i).length:Int)<=6)=true:=by rw[hdl];simp;omega
     have HDL:=At hdl;have hrec2:=hrec.out;rw[show 7-i=(6-i)+1 from by omega] at hrec2;rw[nl a b (6-i) i,if_pos h6] at hrec2;have HR:=At hrec2;clear hdl hrec2 hrec;go_upto_region 8 with fail
     refine wp_region_lit ?_;refine wpList_plain rfl (fun K hK=>?_);go_simp;refine hK _ _ ?_;clear hK K;try simp only[Act.put,Ax,Aw,Av,Au,Ay,Az]
     have m5:=ac wr (.cells #[.string ⟨#[48]⟩] 25);have ho:=sw wr (w.heap.size+1) ⟨#[48]⟩ hlr;have z5:=size_alloc wr (.cells #[.string ⟨#[48]⟩] 25);have HI5:=hin.below m5;have q5:=(m5.block w.heap.size hlr).trans qr;have B5:=hbr.trans (m5.mono hbr.size);generalize wr.alloc (.cells #[.string ⟨#[48]⟩] 25)=w5 at *
     generalize Value.slice (some ⟨wr.heap.size,0,none⟩) 1 1=sv at ho |-;have c0:=ah q5 0;have c1:=ah q5 1;clear hin qr m5 hbr;refine wpList_plain rfl (fun K hK=>?_);go_simp;refine hK _ _ ?_;clear hK K;try simp only[Act.put,Ax,Aw,Av,Au,Ay,Az]
     refine wpList_plain rfl (fun K hK=>?_);go_simp;refine hK _ _ ?_;clear hK K;try simp only[Act.put,Ax,Aw,Av,Au,Ay,Az]
     refine dH 22 Tryz.underlying22 rfl (.tmp 18) (.tmp 20) rfl (w.heap.size+1) _ [⟨#[48]⟩] (aO a i) px ox cx rfl ho rfl HI5 (by rw[HDL.out];simp;omega) (by omega) ?_;intro v' w6 hw6 hb6;have B6:=hb6 _ _ B5 (by omega);have b6:=hb6 (w.heap.size+1) w5 (Dv _ _) (AA _);have q6:=(b6.block w.heap.size (by omega)).trans q5;rw[<-nk] at hw6
     obtain⟨g',c',rfl,hg'⟩:∃ g' c',v'=.slice (some ⟨g',0,none⟩) (aO a (i+1)).length c'/\w.heap.size+1<=g':=by
      obtain⟨hlen,h⟩:=hw6;rcases h with ⟨rfl,h0⟩ | ⟨g',cap,cur,rfl,hg',-⟩
      ·rw[gI] at h0;omega
      ·exact⟨g',cap,rfl,hg'⟩
     have HI6:=hw6.isS;have hne:Value.ownBlock (.slice (some ⟨g',0,none⟩) (aO a (i+1)).length c')≠some w.heap.size:=fun e=>by simp[Value.ownBlock] at e;omega
     have HI7:=At (HI6.other hne 0 (.slice (some ⟨g',0,none⟩) (aO a (i+1)).length c'));have c0:=ah q6 0;have c1:=ah q6 1;have f0:=ay q6 0;have B7:=At (B6.setCell (p:=⟨w.heap.size,0,none⟩) (AA _) (.slice (some ⟨g',0,none⟩) (aO a (i+1)).length c'));have q7:=heap_setCell_same w6 w.heap.size 0 _ 24 (.slice (some ⟨g',0,none⟩) (aO a (i+1)).length c') q6;clear hw6 hb6 B6 b6 q5 HI5 HI6 ho hne B5 z5;try simp only[Act.put,Ax,Aw,Av,Au,Ay,Az]
     refine wpList_plain rfl (fun K hK=>?_);go_simp;refine hK _ _ ?_;clear hK K;try simp only[Act.put,Ax,Aw,Av,Au,Ay,Az]
     refine wpList_plain rfl (fun K hK=>?_);go_simp;refine hK _ _ ?_;clear hK K;try simp only[Act.put,Ax,Aw,Av,Au,Ay,Az]
     generalize w6.setCell ⟨w.heap.size,0,none⟩ (.slice (some ⟨g',0,none⟩) (aO a (i+1)).length c')=w7 at *
     have q7:w7.heap[w.heap.size]?=some (.cells #[.slice (some ⟨g',0,none⟩) (aO a (i+1)).length c',.slice (some ⟨bb,oo,none⟩) b.length d] 24 (0,0)):=q7;clear c0 c1 f0 q6;have c0:=ah q7 0;have c1:=ah q7 1;have hl7:=(AE.1 q7).1;have hF7:IsF w7 (.agg #[.slice (some ⟨g',0,none⟩) (aO a (i+1)).length c',.slice (some ⟨bb,oo,none⟩) b.length d]) (aO a (i+1)) b:=⟨_,_,_,_,rfl,HI7.out,HBw.out.below B7.out⟩;have HH:=At (iN _ (aO a (i+1)) b ⟨#[49]⟩ w7 hF7 ob1 (by rw[gI];omega) (by omega) (HG0.out.below B7.out).g);clear hF7;by_cases hh:bo (aO a (i+1)) b ⟨#[49]⟩=true
     ·rw[hh] at HH
      have HR:=At (show da a b (7-(i+1)) (i+1)=da a b 7 0 by
       have h:=HR.out;rw[if_pos hh] at h
       rw[show 7-(i+1)=6-i from by omega];exact h)
      clear hh;go_wp2_with fail
      refine HH.out.mono ?_;rintro e w8 ⟨rfl,hb8⟩;have q8:=At ((hb8.block w.heap.size hl7).trans q7);have HI8:=At (HI7.out.below hb8);have B8:=At (B7.out.trans (hb8.mono B7.out.size));clear hb8 q7 c0 c1 HH;go_wp2;go_roundw;case rel=>exact⟨i+1,g',0,c',by go_num,by omega,q8.out,HI8.out,by omega,B8.out,HR.out⟩
      case measure=>simp[intOf]<;>omega
     ·have hh':bo (aO a (i+1)) b ⟨#[49]⟩=false:=by simpa using hh
      rw[hh'] at HH
      have HE:=At (show dt a b=(((i:Nat):Int),0) by
       have h:=HR.out;rw[if_neg hh] at h
       rw[HT.out,<-h])
      clear hh hh';go_wp2_with fail
      refine HH.out.mono ?_;rintro e w8 ⟨rfl,hb8⟩;have B8:=At (B7.out.trans (hb8.mono B7.out.size));clear hb8 q7 c0 c1 HH;go_wp2;refine Du (v:=.tuple #[.int .i64 i,.int .i64 0]) (by simp[results,Tryz.results28,go_sem]) rfl ⟨by rw[HE.out],B8.out⟩
    ·have hd:decide (((aO a i).length:Int)<=6)=false:=by rw[hdl];simp;omega
     have HE:=At (show dt a b=(((i:Nat):Int),0) by
      rw[HT.out,<-hrec.out]
      have e:∀ n,da a b n i=i:=by intro n;cases n with
       | zero=>rfl
       | succ n=>simp only[da,if_neg h6]
      rw[e])
     clear hdl hrec h6 hin;go_wp2;refine Du (v:=.tuple #[.int .i64 i,.int .i64 0]) (by simp[results,Tryz.results28,go_sem]) rfl ⟨by rw[HE.out],hbr⟩
  ·have hh':bo a b ⟨#[49]⟩=false:=by simpa using hh
   rw[hh'] at HH;have HE:=At (show dt a b=(0,31) by rw[HT.out,if_neg hh]);clear hh hh' HT;go_wp2_with fail
   refine HH.out.mono ?_;rintro e w3 ⟨rfl,hb3⟩;go_wp2;refine Du (v:=.tuple #[.int .i64 0,.int .i64 31]) (by simp[results,Tryz.results28,go_sem]) rfl ⟨by rw[HE.out],M2.out.trans (hb3.mono M2.out.size)⟩
 ·have HE:=At (show dt a b=(0,30) by unfold dt;rw[if_neg hck]);have hce:au a b=30:=by unfold au;rw[if_neg hck]
  rw[hce] at HCK;clear hce;go_wp2_with fail
  refine HCK.out.mono ?_;rintro e w2 ⟨rfl,hb2⟩;go_wp2;refine Du (v:=.tuple #[.int .i64 0,.int .i64 30]) (by simp[results,Tryz.results28,go_sem]) rfl ⟨by rw[HE.out],M1.out.trans (hb2.mono M1.out.size)⟩
def za (w:World) (base:Nat) (v:Value) (l:List Bool):Prop:=w.ownsRow base 4 1 v l.length (l.map .bool)
theorem za.below {w w':World}{base:Nat}{v:Value}{l:List Bool} (h:za w base v l) (hb:Below w.heap.size w w'):za w' base v l:=eC h hb
def lm (w:CQ):Nat->CQ
 | 0=>CQ.real 1
 | j+1=>(lm w j).mul w
theorem pow_add (w:CQ) (i:Nat):∀ k,lm w (i+k)=(lm w i).mul (lm w k)
 | 0=>by
  show lm w i=(lm w i).mul (CQ.real 1)
  rw[CQ.mul_one]
 | k+1=>by
  show (lm w (i+k)).mul w=(lm w i).mul ((lm w k).mul w)
  rw[pow_add w i k];generalize lm w i=p;generalize lm w k=q;obtain⟨x,y⟩:=p;obtain⟨u,v⟩:=w;obtain⟨s,t⟩:=q;simp only[CQ.mul,CQ.mk.injEq];constructor<;>grind
theorem f8 {l:List Rat}{j:Nat} (h:j<l.length):am (l.map tq) j=tq (l.getD j 0):=by
 rw[<-fc (l:=l.map tq) (by simpa using h),BS,AH,AL h];rfl
def shS (j:Nat) (x:Nat->Rat):Nat->Rat:=fun n=>if j<=n then x (n-j) else 0
def opS (qs:List Rat) (x:Nat->Rat):Nat->Rat:=qs.foldr (fun q acc=>fun n=>q*x n+shS 1 acc n) (fun _=>0)
theorem nE (x:Nat->Rat) (n:Nat):opS [] x n=0:=rfl
theorem db (q:Rat) (qs:List Rat) (x:Nat->Rat) (n:Nat):opS (q :: qs) x n=q*x n+shS 1 (opS qs x) n:=rfl
theorem yC (x:Nat->Rat) (n:Nat):shS 0 x n=x n:=by unfold shS;rw[if_pos (AI _)];rfl
theorem Aq (i k:Nat) (x:Nat->Rat) (n:Nat):shS i (shS k x) n=shS (i+k) x n:=by
 unfold shS;by_cases h:i<=n
 ·by_cases h2:k<=n-i
  ·rw[if_pos h,if_pos h2,if_pos (by omega),Nat.sub_sub]
  ·rw[if_pos h,if_neg h2,if_neg (by omega)]
 ·rw[if_neg h,if_neg (by omega)]
theorem zO (i:Nat) (c:Rat) (x y:Nat->Rat) (n:Nat):shS i (fun m=>x m+c*y m) n=shS i x n+c*shS i y n:=by
 unfold shS;by_cases h:i<=n
 ·rw[if_pos h,if_pos h,if_pos h]
 ·rw[if_neg h,if_neg h,if_neg h];grind
theorem js {i:Nat}{x y:Nat->Rat} (n:Nat) (h:∀ m,m+i=n->x m=y m):shS i x n=shS i y n:=by
 unfold shS;by_cases hi:i<=n
 ·rw[if_pos hi,if_pos hi];exact h _ (by omega)
 ·rw[if_neg hi,if_neg hi]
theorem nF (x:Nat->Rat) (c:Rat):∀ (l:List Rat) (n:Nat),opS (l++[c]) x n=opS l x n+c*shS l.length x n
 | [],n=>by
  rw[A1,db,nE,Bw,yC]
  have e:shS 1 (opS [] x) n=0:=by
   unfold shS
   split<;>rfl
  rw[e];grind
 | q :: l,n=>by
  rw[A9,db,db];have e:shS 1 (opS (l++[c]) x) n=shS 1 (fun m=>opS l x m+c*shS l.length x m) n:=js n fun m _=>nF x c l m;rw[e,zO,Aq,CZ 1,A2];grind
theorem jo {x y:Nat->Rat}:∀ (l:List Rat) (n:Nat),(∀ m,m<=n->x m=y m)->opS l x n=opS l y n
 | [],_,_=>rfl
 | q :: l,n,h=>by
  rw[db,db,h n (AA _)];have e:shS 1 (opS l x) n=shS 1 (opS l y) n:=js n fun m hm=>jo l m (fun k hk=>h k (by omega));rw[e]
theorem tN {b:List Rat}{y z:Nat->Rat}{N:Nat} (h:∀ n,n<N->opS (1 :: b) y n=opS (1 :: b) z n):∀ n,n<N->y n=z n:=by
 intro n
 induction n using Nat.strongRecOn with
 | _ n ih =>
  intro hn;have h1:=h n hn;rw[db,db] at h1;have e:shS 1 (opS b y) n=shS 1 (opS b z) n:=js n fun m hm=>jo b m fun k hk=>ih k (by omega) (by omega);rw[e] at h1;grind
end Go.Proofs.YtgakllaobooabaaGreatDoor
