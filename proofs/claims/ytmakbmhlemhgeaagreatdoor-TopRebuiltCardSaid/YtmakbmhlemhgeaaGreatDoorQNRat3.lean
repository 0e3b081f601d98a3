/- L -/
import Derived.Test.YtmakbmhlemhgeaaGreatDoorQGcd
import Derived.Test.YtmakbmhlemhgeaaGreatDoorQReg
import Derived.Test.YtmakbmhlemhgeaaGreatDoorQB
set_option linter.all false
set_option maxRecDepth 100000
set_option maxHeartbeats 8000000
namespace Go.Proofs.YtmakbmhlemhgeaaGreatDoor
open Go.RowKit Dg
def aH (r s:Rt):Rt:=bv (r.minus != s.minus) (r.n*s.n) (r.d*s.d)
theorem cD (va vb:Value) (r s:Rt) (w:World) (ha:IsR w va r) (hb:IsR w vb s) (h0:0<r.d) (h1:0<s.d)
  (hf3:Few (r.n*s.n)) (hf4:Few (r.d*s.d)) :
  Calls Tryz.prog 200 #[va,vb] w fun e w'=>∃ v,e=.returned v/\IsR w' v (aH r s)/\Below w.heap.size w w':=by
 obtain⟨vn,vd,rfl,hn,hd,hfn,hfd⟩:=ha;obtain⟨un,ud,rfl,kn,kd,gfn,gfd⟩:=hb;obtain⟨z,hz⟩:∃ z,z=aH r s:=⟨_,rfl⟩;rw[<-hz];have HZ:=ri hz;clear hz;go_enter Tryz.func200,Tryz.ntmps200;go_upto_region 1 with fail
 have q1:=aG.new w (.bool r.minus) vn vd nofun (IsU.not_int hn) (IsU.not_int hd);have m1:Below w.heap.size w (w.alloc (.cells #[.bool r.minus,vn,vd] 106)):=(t_ _ _).alloc (rp _) _;have z1:(w.alloc (.cells #[.bool r.minus,vn,vd] 106)).heap.size=w.heap.size+1:=by show (Array.push _ _).size=_;exact rR _
 generalize w.alloc (.cells #[.bool r.minus,vn,vd] 106)=w1 at *
 have q2:=aG.new w1 (.bool s.minus) un ud nofun (IsU.not_int kn) (IsU.not_int kd);have m2:Below w1.heap.size w1 (w1.alloc (.cells #[.bool s.minus,un,ud] 106)):=(t_ _ _).alloc (rp _) _;have z2:(w1.alloc (.cells #[.bool s.minus,un,ud] 106)).heap.size=w1.heap.size+1:=by show (Array.push _ _).size=_;exact rR _
 generalize w1.alloc (.cells #[.bool s.minus,un,ud] 106)=w2 at *
 have q3:=aG.new w2 (.bool false) (.slice none 0 0) (.slice none 0 0) nofun nofun nofun;have m3:Below w2.heap.size w2 (w2.alloc (.cells #[.bool false,.slice none 0 0,.slice none 0 0] 106)):=(t_ _ _).alloc (rp _) _;generalize w2.alloc (.cells #[.bool false,.slice none 0 0,.slice none 0 0] 106)=w3 at *
 have m4:Below w3.heap.size w3 w3.drew:=(t_ _ _).drew;rw[z2,z1] at q3;rw[z1] at q2;refine wp_mono (aN (Q:=cA _) (fun wx:World=>Below w3.drew.heap.size w3.drew wx) (fun i=>i == 16) (by kernel_rfl) ?_) (fun _ _ _ h=>cB h);generalize w3.drew=wd at *
 have hS:Below wd.heap.size wd wd:=t_ _ _;have M12:=m1.trans (m2.mono m1.size);have M13:=M12.trans (m3.mono M12.size);have MD:=ri (M13.trans (m4.mono M13.size));have B1:=ri (((q1.below m2).below m3).below m4);have B2:=ri ((q2.below m3).below m4);have B3:=ri (q3.below m4);have HN:=ri (hn.below MD.out);have HD:=ri (hd.below MD.out);have KN:=ri (kn.below MD.out);have KD:=ri (kd.below MD.out);clear q1 q2 q3 m1 m2 m3 m4 z1 z2 M12 M13 hn hd kn kd;refine tY 0 (r:=?_)
 try simp only[Act.put,rm,rl,rk,rj,rr,rq]
 refine ap (i:=1) (v:=?vv1) rfl (by kernel_rfl) (fun _ _ _ h=>h) rfl hS ?hy1 ?rest1
 case hy1 =>
  intro wy hy;have e1:=B1.out.below hy;have e2:=B2.out.below hy;have a0:=e1.c0;have a1:=e1.c1;have a2:=e1.c2;have b0:=e2.c0;have b1:=e2.c1;have b2:=e2.c2;clear e1 e2 hy;go_simp;try with_reducible rfl
 try simp only[Act.put,rm,rl,rk,rj,rr,rq]
 refine tY 2 (r:=?_)
 try simp only[Act.put,rm,rl,rk,rj,rr,rq]
 refine ap (i:=3) (v:=?vv3) rfl (by kernel_rfl) (fun _ _ _ h=>h) rfl hS ?hy3 ?rest3
 case hy3 =>
  intro wy hy;have e1:=B1.out.below hy;have e2:=B2.out.below hy;have a0:=e1.c0;have a1:=e1.c1;have a2:=e1.c2;have b0:=e2.c0;have b1:=e2.c1;have b2:=e2.c2;clear e1 e2 hy;go_simp;try with_reducible rfl
 try simp only[Act.put,rm,rl,rk,rj,rr,rq]
 refine tY 4 (r:=?_)
 try simp only[Act.put,rm,rl,rk,rj,rr,rq]
 refine tY 5 (r:=?_)
 try simp only[Act.put,rm,rl,rk,rj,rr,rq]
 refine ap (i:=6) (v:=?vv6) rfl (by kernel_rfl) (fun _ _ _ h=>h) rfl hS ?hy6 ?rest6
 case hy6 =>
  intro wy hy;have e1:=B1.out.below hy;have e2:=B2.out.below hy;have a0:=e1.c0;have a1:=e1.c1;have a2:=e1.c2;have b0:=e2.c0;have b1:=e2.c1;have b2:=e2.c2;clear e1 e2 hy;go_simp;try with_reducible rfl
 try simp only[Act.put,rm,rl,rk,rj,rr,rq]
 refine tY 7 (r:=?_)
 try simp only[Act.put,rm,rl,rk,rj,rr,rq]
 refine ap (i:=8) (v:=?vv8) rfl (by kernel_rfl) (fun _ _ _ h=>h) rfl hS ?hy8 ?rest8
 case hy8 =>
  intro wy hy;have e1:=B1.out.below hy;have e2:=B2.out.below hy;have a0:=e1.c0;have a1:=e1.c1;have a2:=e1.c2;have b0:=e2.c0;have b1:=e2.c1;have b2:=e2.c2;clear e1 e2 hy;go_simp;try with_reducible rfl
 try simp only[Act.put,rm,rl,rk,rj,rr,rq]
 refine tY 10 (r:=?_)
 try simp only[Act.put,rm,rl,rk,rj,rr,rq]
 refine ap (i:=11) (v:=?vv11) rfl (by kernel_rfl) (fun _ _ _ h=>h) rfl hS ?hy11 ?rest11
 case hy11 =>
  intro wy hy;have e1:=B1.out.below hy;have e2:=B2.out.below hy;have a0:=e1.c0;have a1:=e1.c1;have a2:=e1.c2;have b0:=e2.c0;have b1:=e2.c1;have b2:=e2.c2;clear e1 e2 hy;go_simp;try with_reducible rfl
 try simp only[Act.put,rm,rl,rk,rj,rr,rq]
 refine tY 12 (r:=?_)
 try simp only[Act.put,rm,rl,rk,rj,rr,rq]
 refine ap (i:=13) (v:=?vv13) rfl (by kernel_rfl) (fun _ _ _ h=>h) rfl hS ?hy13 ?rest13
 case hy13 =>
  intro wy hy;have e1:=B1.out.below hy;have e2:=B2.out.below hy;have a0:=e1.c0;have a1:=e1.c1;have a2:=e1.c2;have b0:=e2.c0;have b1:=e2.c1;have b2:=e2.c2;clear e1 e2 hy;go_simp;try with_reducible rfl
 try simp only[Act.put,rm,rl,rk,rj,rr,rq]
 refine aF (i:=9) rfl (by kernel_rfl) rfl (fun K hK=>?_);go_simp;refine (gP _ _ r.n s.n _ HN.out KN.out hfn gfn).mono ?_;rintro e w4 ⟨v4,rfl,hv4,hb4⟩;refine hK _ _ (fun _ _=>hb4) ?_;clear hK K;try simp only[Act.put,rm,rl,rk,rj,rr,rq]
 refine aF (i:=14) rfl (by kernel_rfl) rfl (fun K hK=>?_);go_simp;refine (gP _ _ r.d s.d _ (HD.out.below hb4) (KD.out.below hb4) hfd gfd).mono ?_;rintro e w5 ⟨v5,rfl,hv5,hb5⟩;have hB5:=hb4.trans (hb5.mono hb4.size);refine hK _ _ (fun _ _=>hB5) ?_;clear hK K;try simp only[Act.put,rm,rl,rk,rj,rr,rq]
 refine aF (i:=15) rfl (by kernel_rfl) rfl (fun K hK=>?_);go_simp;have hred:Calls Tryz.prog 63 #[.bool (r.minus != s.minus),v4,v5] w5 fun e w'=>∃ v,e=.returned v/\IsR w' v z/\Below w5.heap.size w5 w':=by rw[HZ.out];exact bW _ v4 v5 _ _ w5 (hv4.below hb5) hv5 hf3 hf4 (sa h0 h1)
 refine hred.mono ?_;clear hred;rintro e w8 ⟨v8,rfl,⟨xn,xd,rfl,hx1,hx2,hx3,hx4⟩,hb8⟩;obtain⟨pn,cn,rfl,-,-,-⟩:=id hx1;obtain⟨pd,cd,rfl,-,-,-⟩:=id hx2;have hB8:=hB5.trans (hb8.mono hB5.size);refine hK _ _ (fun _ _=>hB8) ?_;clear hK K;try simp only[Act.put,rm,rl,rk,rj,rr,rq]
 have B8:=B3.out.below hB8;have k0:=B8.c0;have k1:=B8.c1;have k2:=B8.c2;have f0:=B8.fr 0;have f1:=B8.fr 1;have f2:=B8.fr 2;have P:=ri (B8.put (a':=.bool z.minus) (b':=.slice pn _ cn) (c':=.slice pd _ cd) nofun (IsU.not_int hx1) (IsU.not_int hx2));have M8:=ri (MD.out.trans (hB8.mono MD.out.size));have HX:=ri (And.intro hx1 (And.intro hx2 (And.intro hx3 hx4)));clear hx1 hx2 hx3 hx4 B8 B1 B2 B3 HN HD KN KD hS hv4 hv5 hb4 hb5 hB5 hb8 hB8 MD;refine aF (i:=16) rfl (by kernel_rfl) rfl (fun K hK=>?_);go_simp;refine hK _ _ (fun h _=>by simp at h) ?_;clear hK K;try simp only[Act.put,rm,rl,rk,rj,rr,rq]
 refine cE (by kernel_rfl) ?_ _;simp only[cA];go_wp2_with fail
 have q0:=P.out.1.c0;have q1:=P.out.1.c1;have q2:=P.out.1.c2;refine t8 (v:=.agg #[.bool z.minus,.slice pn (aa BB z.n).length cn,.slice pd (aa BB z.d).length cd]) (by simp[results,Tryz.results200,go_sem,q0,q1,q2]) rfl ⟨_,rfl,⟨_,_,rfl,P.out.2.1 _ _ HX.out.1,P.out.2.1 _ _ HX.out.2.1,HX.out.2.2.1,HX.out.2.2.2⟩,P.out.2.2 w M8.out ?_⟩;omega
def cw (r:Rt):Rt:=⟨!r.minus&&decide (0<r.n),r.n,r.d⟩
theorem digs_pos (n:Nat):(0<(aa BB n).length)↔0<n:=by
 rw[rN];constructor
 ·intro h;rcases ta n with rfl | h1
  ·exact absurd (aE BB) h
  ·exact h1
 ·intro h e;have:=(aQ al).1 e;omega
theorem nx (va:Value) (r:Rt) (w:World) (ha:IsR w va r) :
  Calls Tryz.prog 202 #[va] w fun e w'=>∃ v,e=.returned v/\IsR w' v (cw r)/\Below w.heap.size w w':=by
 obtain⟨m,n,d⟩:=r;obtain⟨vn,vd,rfl,hn,hd,hfn,hfd⟩:=ha;have hp:=digs_pos n;obtain⟨pn,cn,rfl,-,-,-⟩:=id hn;obtain⟨pd,cd,rfl,-,-,-⟩:=id hd
 cases m
 ·go_enter Tryz.func202,Tryz.ntmps202;go_wp2;have m1:Below w.heap.size w (w.alloc (.cells #[.bool false,.slice pn (aa BB n).length cn,.slice pd (aa BB d).length cd] 106)):=(t_ _ _).alloc (rp _) _;have z1:(w.alloc (.cells #[.bool false,.slice pn (aa BB n).length cn,.slice pd (aa BB d).length cd] 106)).heap.size=w.heap.size+1:=by show (Array.push _ _).size=_;exact rR _
  generalize w.alloc (.cells #[.bool false,.slice pn (aa BB n).length cn,.slice pd (aa BB d).length cd] 106)=w1 at *
  have b2:=aG.new w1 (.bool (decide (0<n))) (.slice pn (aa BB n).length cn) (.slice pd (aa BB d).length cd) nofun (IsU.not_int hn) (IsU.not_int hd);have m2:=m1.alloc m1.size (.cells #[.bool (decide (0<n)),.slice pn (aa BB n).length cn,.slice pd (aa BB d).length cd] 106);rw[z1] at b2;have q0:=b2.c0;have q1:=b2.c1;have q2:=b2.c2;refine t8 (v:=.agg #[.bool (decide (0<n)),.slice pn (aa BB n).length cn,.slice pd (aa BB d).length cd]) (by simp[results,Tryz.results202,go_sem,q0,q1,q2]) rfl ⟨_,rfl,⟨_,_,rfl,hn.below m2,hd.below m2,hfn,hfd⟩,m2⟩
 ·go_enter Tryz.func202,Tryz.ntmps202;go_wp2;have m1:Below w.heap.size w (w.alloc (.cells #[.bool true,.slice pn (aa BB n).length cn,.slice pd (aa BB d).length cd] 106)):=(t_ _ _).alloc (rp _) _;have z1:(w.alloc (.cells #[.bool true,.slice pn (aa BB n).length cn,.slice pd (aa BB d).length cd] 106)).heap.size=w.heap.size+1:=by show (Array.push _ _).size=_;exact rR _
  generalize w.alloc (.cells #[.bool true,.slice pn (aa BB n).length cn,.slice pd (aa BB d).length cd] 106)=w1 at *
  have b2:=aG.new w1 (.bool (false)) (.slice pn (aa BB n).length cn) (.slice pd (aa BB d).length cd) nofun (IsU.not_int hn) (IsU.not_int hd);have m2:=m1.alloc m1.size (.cells #[.bool (false),.slice pn (aa BB n).length cn,.slice pd (aa BB d).length cd] 106);rw[z1] at b2;have q0:=b2.c0;have q1:=b2.c1;have q2:=b2.c2;refine t8 (v:=.agg #[.bool (false),.slice pn (aa BB n).length cn,.slice pd (aa BB d).length cd]) (by simp[results,Tryz.results202,go_sem,q0,q1,q2]) rfl ⟨_,rfl,⟨_,_,rfl,hn.below m2,hd.below m2,hfn,hfd⟩,m2⟩
open Dg
def rt (q:Rat):Rt:=⟨decide (q.num<0),q.num.natAbs,q.den⟩
def sgz (m:Bool) (n:Nat):Int:=if m then -(n:Int) else n
theorem fg (q:Rat):0<(rt q).d:=q.den_pos
theorem gN (q:Rat):sgz (rt q).minus (rt q).n=q.num:=by
 unfold rt sgz;by_cases h:q.num<0
 ·simp[h];omega
 ·simp[h];omega
theorem lA (m:Bool) (n:Nat):(sgz m n).natAbs=n:=by unfold sgz;cases m<;>simp
theorem pB (m:Bool) (n k:Nat) (h:k ∣ n):sgz m n / (k:Int)=sgz m (n / k):=by
 unfold sgz
 cases m
 ·simp
 ·simp only[if_true];rw[Int.neg_ediv_of_dvd (Int.natCast_dvd_natCast.2 h)];simp
theorem pD (m k:Bool) (x y:Nat):sgz (m != k) (x*y)=sgz m x*sgz k y:=by
 cases m<;>cases k<;>simp[sgz,tR,Int.neg_mul,Int.mul_neg]
theorem fA (m:Bool) (x y:Nat):sgz m (x*y)=sgz m x*y:=by
 cases m<;>simp[sgz,tR,Int.neg_mul]
theorem fW (m:Bool) (n d:Nat) (h:0<d):bv m n d=rt (mkRat (sgz m n) d):=by
 have e:d.gcd (sgz m n).natAbs=Nat.gcd n d:=by rw[lA,Nat.gcd_comm]
 unfold bv rt;by_cases hn:n=0
 ·subst hn;have h0:sgz m 0=0:=by cases m<;>rfl
  rw[if_pos rfl,h0,Rat.zero_mkRat];rfl
 ·rw[if_neg hn];have hg:0<Nat.gcd n d:=sP _ h
  have h1:(mkRat (sgz m n) d).num=sgz m (n / Nat.gcd n d):=by
   rw[Rat.num_mkRat,if_neg (by omega),e,pB _ _ _ (tN n d)]
  have h2:(mkRat (sgz m n) d).den=d / Nat.gcd n d:=by rw[Rat.den_mkRat,if_neg (by omega),e]
  rw[h1,h2,lA];have h3:0<n / Nat.gcd n d:=tV (Nat.gcd_le_left _ (by omega)) hg;congr 1;generalize n / Nat.gcd n d=x at h3
  cases m<;>simp[sgz]<;>omega
theorem pA (ma:Bool) (x:Nat) (mb:Bool) (y:Nat):sgz (ge ma x mb y).1 (ge ma x mb y).2=sgz ma x+sgz mb y:=by
 unfold ge
 cases ma<;>cases mb<;>simp only[if_true,if_false,so,reduceCtorEq]<;>(try split)<;>simp[sgz]<;>omega
theorem dG (a b:Rat):bj (rt a) (rt b)=rt (a+b):=by
 unfold bj;rw[fW _ _ _ (sa (fg a) (fg b)),Rat.add_def',pA,fA,fA,gN,gN];rfl
theorem dh (a b:Rat):aH (rt a) (rt b)=rt (a*b):=by
 unfold aH;rw[fW _ _ _ (sa (fg a) (fg b)),Rat.mul_def',pD,gN,gN];rfl
theorem fU (a:Rat):cw (rt a)=rt (-a):=by
 unfold cw rt;simp only[Rat.neg_num,Rat.neg_den,Int.natAbs_neg];congr 1;rw[Bool.eq_iff_iff];simp only[rS,Bool.not_eq_true',decide_eq_false_iff_not,decide_eq_true_eq];omega
def nj (r:Rt):Rt:=⟨r.minus,r.d,r.n⟩
theorem o0 {a:Rat} (h:a≠0):nj (rt a)=rt a⁻¹:=by
 have h0:a.num≠0:=fun h'=>h (Rat.num_eq_zero.1 h');unfold nj rt;simp only[Rat.num_inv,Rat.den_inv,if_neg h0];have hd:(0:Int)<a.den:=by exact_mod_cast a.den_pos
 rcases Int.lt_or_lt_of_ne h0 with h1 | h1
 ·rw[Int.sign_eq_neg_one_of_neg h1];simp[h1];omega
 ·rw[Int.sign_eq_one_of_pos h1];simp;omega
theorem br (a:Rat):(rt a).n=0↔a=0:=by unfold rt;simp[Rat.num_eq_zero]
structure Sz (k:Nat) (r:Rt):Prop where
 n:r.n<10 ^ k
 p:0<r.d
 d:r.d<10 ^ k
theorem Sz.mono {k l:Nat}{r:Rt} (h:Sz k r) (hk:k<=l):Sz l r :=
 have:=rI (n:=10) (by decide) hk
 ⟨rA h.n this,h.p,rA h.d this⟩
theorem gn {n k:Nat} (h:n<10 ^ k) (hk:k<=800000):Few n:=by
 unfold Few;refine rP (aD (k:=k / 9+1) al (rA h ?_)) (by omega);have e:BB ^ (k / 9+1)=10 ^ (9*(k / 9+1)):=by rw[sE];rfl
 rw[e];exact rI (by decide) (by omega)
theorem bR {a b k l:Nat} (h:a<10 ^ k) (h':b<10 ^ l):a*b<10 ^ (k+l):=by
 rw[r0];rcases ta b with rfl | hb
 ·exact sa (sf (by decide)) (sf (by decide))
 ·exact rA (sG h hb) (rY _ (Nat.le_of_lt h'))
theorem nT (m:Bool) (n d:Nat):(bv m n d).n<=n:=by
 unfold bv
 split
 ·exact rH _
 ·exact ts _ _
theorem nS (m:Bool) (n d:Nat) (h:0<d):(bv m n d).d<=d:=by
 unfold bv
 split
 ·exact h
 ·exact ts _ _
theorem Sz.mul {k l:Nat}{r s:Rt} (h:Sz k r) (h':Sz l s):Sz (k+l) (aH r s) :=
 have hp:=sa h.p h'.p
 ⟨rP (nT _ _ _) (bR h.n h'.n),eH hp,rP (nS _ _ _ hp) (bR h.d h'.d)⟩
theorem kZ {a b k l:Nat} (h:a<10 ^ (k+l)) (h':b<10 ^ (l+k)):a+b<10 ^ (k+l+1):=by
 rw[tM l k] at h';have:=rK (n:=10) (m:=k+l);omega
theorem Sz.plus {k l:Nat}{r s:Rt} (h:Sz k r) (h':Sz l s):Sz (k+l+1) (bj r s):=by
 have hp:=sa h.p h'.p;have h1:=bR h.n h'.d;have h2:=bR h'.n h.d;refine⟨rP (nT _ _ _) (rP (kY _ _ _ _) (kZ h1 h2)),eH hp,rP (nS _ _ _ hp) (rA (bR h.d h'.d) (rI (by decide) (by omega)))⟩
theorem Sz.neg {k:Nat}{r:Rt} (h:Sz k r):Sz k (cw r):=⟨h.n,h.p,h.d⟩
theorem Sz.inv {k:Nat}{r:Rt} (h:Sz k r) (h0:0<r.n):Sz k (nj r):=⟨h.d,h0,h.n⟩
theorem Sz.zero {k:Nat} (h:1<=k):Sz k ⟨false,0,1⟩ :=
 have:10 ^ 1<=10 ^ k:=rI (by decide) h
 ⟨by show 0<10 ^ k;omega,Nat.one_pos,by show 1<10 ^ k;omega⟩
end Go.Proofs.YtmakbmhlemhgeaaGreatDoor
