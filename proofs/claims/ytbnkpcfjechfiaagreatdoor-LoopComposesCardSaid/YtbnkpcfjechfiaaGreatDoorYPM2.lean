/- Lemmas of this claim. -/
import Derived.Test.YtbnkpcfjechfiaaGreatDoorYReg
import Derived.Test.YtbnkpcfjechfiaaGreatDoorYNC7
import Derived.Test.YtbnkpcfjechfiaaGreatDoorYPL1
import Derived.Test.YtbnkpcfjechfiaaGreatDoorYLP10
set_option linter.all false
set_option maxRecDepth 100000
set_option maxHeartbeats 8000000
namespace Go.Proofs.YtbnkpcfjechfiaaGreatDoor
open Go.RowKit Dg
theorem fj {o:Oper}{a:Act}{w:World}{K:Act→World→Prop}{Q:Exit→Act→World→Prop} (hg:o.guard=none) (h:wpList Tryz.prog #[o] (fun e a w=>e=.normal∧K a w) [o] a w):o.wp Tryz.prog a w K Q:=by
 unfold wpList at h;rw[if_pos (by simp only[Region.wanted,hg])] at h;rcases h with h | ⟨-,h⟩
 ·unfold Oper.wp at *
  generalize (execOp a.eval o).run Tryz.prog w=r at *
  cases r with
  | ok n w' =>
   cases n<;>simp only[Oper.upon] at h ⊢ <;>
    first
     | exact h.2
     | exact Calls.mono h (fun e w'' he=>by
       cases e with
       | returned v=>exact he.2
       | panicked c=>exact absurd he.1 (by simp)
       | outgrown=>obtain⟨_,_,he,_⟩:=he;exact absurd he (by simp))
     | exact Rows.mono h (fun _ _ he=>he.2)
  | halt x w'=>cases x<;>simp only[Oper.upon] at h ⊢<;>first | (obtain⟨he,_⟩:=h;exact absurd he (by simp)) | exact h | (obtain⟨_,_,he,_⟩:=h;exact absurd he (by simp))
 ·obtain⟨_,_,he,_⟩:=h;exact absurd he (by simp)
theorem l6 {w:World}{ops:Array Oper}{rest:List Oper}{o:Oper}{act:Act}{Q:Exit→Act→World→Prop} (T:TypeId)
  (hT:Tryz.prog.underlying T=some (.slice 153)) (hgd:o.guard=none) (s x:Operand)
  (ho:o.op=.call { callee:=.builtin .append,args:=#[s,x],argTypes:=#[T,T] })
  (base:Nat) (v:Value) (zs:List CQ) (a b c d e f:Value) (z:CQ) (hs:act.eval s=v) (hown:dH w base v zs) (hk:IsK w (.agg #[a,b,c,d,e,f]) z)
  (hx:act.eval x=.slice (some ⟨w.heap.size,0,none⟩) 1 1) (hlen:zs.length<1000000000) (hbase:base≤w.heap.size)
  (h:∀ v' w',dH w' base v' (zs++[z])→(∀ B w0,Below B w0 w→B≤base→Below B w0 w')→(w.alloc (.cells #[a,b,c,d,e,f] 153)).grownBy w' v.ownBlock→wpList Tryz.prog ops Q rest (act.put o.dst v') w') :
  wpList Tryz.prog ops Q (o :: rest) act (w.alloc (.cells #[a,b,c,d,e,f] 153)):=by
 obtain⟨es,h1,h2,h3⟩:=hown.p;obtain⟨i0,hi,hz0,hz1,hz2⟩:=info_parts AL;have hb:=aq w (.cells #[a,b,c,d,e,f] 153);obtain⟨xm,xp,xl,xc,xq,xk,xd,ym,yp,yl,yc,yq,yk,yd,he⟩:=hk.forms;obtain⟨rfl,rfl,rfl,rfl,rfl,rfl⟩:a=.bool xm∧b=.slice xp xl xc∧c=.slice xq xk xd∧d=.bool ym∧e=.slice yp yl yc∧f=.slice yq yk yd:=by simpa using he
 have hnu:=hown.nu.below h2 hb;refine fM _ hgd s x T ho base 153 i0 _ 6 112 hT hi hz0 hz1 hz2 rfl (by decide) ?_ v es.length (cO es) hs (h2.alloc _) hnu ⟨w.heap.size,0,none⟩ 1 [.bool xm,.slice xp xl xc,.slice xq xk xd,.bool ym,.slice yp yl yc,.slice yq yk yd] hx rfl (sn w _ _ _ _ _ _ _) ?_ ?_ ?_ ?_ ?_ ?_
 ·intro u hu z' e';subst e';simp[Value.cells] at hu
 ·intro u hu;simp at hu;rcases hu with rfl | rfl | rfl | rfl | rfl | rfl<;>rfl
 ·intro u hu z' e';subst e';simp at hu
 ·unfold maxLen;omega
 ·omega
 ·rw[size_alloc];omega
 ·intro v' w' g1 g2 g3;have hkeep:∀ u l,IsU w u l→IsU w' u l:=fun u l hu=>(hu.below hb).grown hnu g2;refine h v' w' ⟨⟨es++[.agg #[.bool xm,.slice xp xl xc,.slice xq xk xd,.bool ym,.slice yp yl yc,.slice yq yk yd]],by simp[h1],?_,?_⟩,g3⟩ ?_ g2
  ·rw[FA,jR];exact g1
  ·intro i hi' hi2;by_cases hlt:i<es.length
   ·rw[FY hlt,FY (by omega)];exact (h3 i hlt (by omega)).keepU hkeep
   ·have hie:i=es.length:=by simp at hi';omega
    subst hie;rw[FV (Fq _),FV (by omega)];simpa[h1] using hk.keepU hkeep
  ·intro B w0 hB hBb;refine (hB.alloc (by have:=hbase;omega) _).grown g2 (by rw[size_alloc];omega) ?_;intro k hk';have:=(h2.lt k hk').1;omega
structure rZ (k:Nat) (a b c d e f:Value) where
 w:World
 h:bS w k a b c d e f
theorem bS.grown {w w':World}{k:Nat}{a b c d e f:Value}{row:Option Nat} (h:bS w k a b c d e f) (hg:w.grownBy w' row) (hne:some k≠row):bS w' k a b c d e f :=
 ⟨Ft h.lt hg.size,hg.cell h.c0 hne,hg.cell h.c1 hne,hg.cell h.c2 hne,hg.cell h.c3 hne,hg.cell h.c4 hne,hg.cell h.c5 hne⟩
theorem dH.block {w:World}{base:Nat}{v:Value}{zs:List CQ} (h:dH w base v zs) {g:Nat} (hg:v.ownBlock=some g):g<w.heap.size:=by
 obtain⟨es,-,h2,-⟩:=h.p;exact (World.ownsRow.lt h2 g hg).2
theorem rS {n:Nat} (h:n<34):SzV 10 (ct (CQ.real ((n:Nat):Int))):=by
 refine⟨⟨?_,dF _,?_⟩,.zero (by decide)⟩
 ·show (((n:Nat):Int):Rat).num.natAbs<10 ^ 10
  simp;omega
 ·show (((n:Nat):Int):Rat).den<10 ^ 10
  simp
def j9 (zs:List CQ):List CQ:=(List.range (zs.length-1)).map fun i=>(gz zs (i+1)).mul (CQ.real ((i+1:Nat):Int))
def x_ (zs:List CQ):List CQ:=db (j9 zs)
theorem sI (zs:List CQ):(j9 zs).length=zs.length-1:=by simp[j9]
theorem yf (zs:List CQ) {i:Nat} (h:i+1<zs.length):(j9 zs).take (i+1)=(j9 zs).take i++[zs[i+1].mul (CQ.real ((i+1:Nat):Int))]:=by
 have hl:i<(j9 zs).length:=by rw[sI];omega
 rw[show (j9 zs).take (i+1)=(j9 zs).take i++[(j9 zs)[i]] from (FD hl).symm];simp[j9,gz,h]
theorem sJ (vp:Value) (zs:List CQ) (w:World) (hp:IsP w vp zs) (hfit:∀ z∈zs,∀ n:Nat,n<33→SzV 10000 (ct (z.mul (CQ.real ((n:Nat):Int))))) (hlen:zs.length≤33) :
  Calls Tryz.prog 203 #[vp] w fun e w'=>∃ v',e=.returned v'∧IsP w' v' (x_ zs)∧Below w.heap.size w w':=by
 obtain⟨p,c,rfl,-⟩:=id hp.form;have HML:=Fi (sI zs);have HMT:=Fi (fun i h=>yf zs (i:=i) h);have HFIT:=Fi hfit;have HP:=Fi hp;clear hfit hp;go_enter Tryz.func203,Tryz.ntmps203;go_wp2;go_loopw [3,8] (fun s3 s8 wr=>∃ i:Nat,s8=.int .i64 i∧i≤zs.length∧dH wr w.heap.size s3 ((j9 zs).take (i-1))∧Below w.heap.size w wr) (fun _ s8 _=>zs.length-(intOf s8).toNat)
 case atStart=>exact⟨0,rfl,Fz _,dH.nil _ _,Below.refl _ _⟩
 case round =>
  obtain⟨i,rfl,hin,hown,hbr⟩:=hrel;by_cases hi:i<zs.length
  ·obtain⟨B,o,rfl,hlt,xm,xp,xl,xc,xq,xk,xd,ym,yp,yl,yc,yq,yk,yd,hk,a0,a1,a2,a3,a4,a5⟩:=(HP.out.below hbr).get hi;have hvb0:=Fi (fun g (h:u3.ownBlock=some g)=>hown.block h);have HV:=Fi hown;have HK:=Fi hk;clear hown;go_upto_region 5 with fail
   have q2:=bS.new wr (.bool xm) (.slice xp xl xc) (.slice xq xk xd) (.bool ym) (.slice yp yl yc) (.slice yq yk yd) 153;have m2:=aq wr (.cells #[.bool xm,.slice xp xl xc,.slice xq xk xd,.bool ym,.slice yp yl yc,.slice yq yk yd] 153);have z2:=size_alloc wr (.cells #[.bool xm,.slice xp xl xc,.slice xq xk xd,.bool ym,.slice yp yl yc,.slice yq yk yd] 153);generalize wr.alloc (.cells #[.bool xm,.slice xp xl xc,.slice xq xk xd,.bool ym,.slice yp yl yc,.slice yq yk yd] 153)=w2 at *
   have hB2:=hbr.trans (m2.mono hbr.size);have HV2:=Fi (HV.out.below m2);have HK2:=Fi (HK.out.below m2);have hgr:wr.heap.size<w2.heap.size:=by omega
   clear a0 a1 a2 a3 a4 a5 m2 z2 HV HK hk;by_cases h0:i=0
   ·subst h0;clear q2 HK2;go_wp2;go_roundw;case rel=>exact⟨1,by go_num,by omega,HV2.out,hB2⟩
    case measure=>(first | (simp[intOf];done) | (simp[intOf];omega))
   ·obtain⟨k,rfl⟩:∃ k,i=k+1:=⟨i-1,by omega⟩;have HT:=Fi (HMT.out k hi);have HZ:=Fi (HFIT.out zs[k+1] (FG hi) (k+1) (by omega));generalize zs[k+1]=z at HK2 HT HZ;rw[GW] at HV2;go_upto_region 6 with fail
    have hvb:∀ g,u3.ownBlock=some g→g<wr.heap.size:=hvb0.out;have m4:Below w2.heap.size w2 w2.drew:=(Below.refl _ _).drew;have q4:=q2.below m4
    haveI:Nonempty (rZ wr.heap.size (.bool xm) (.slice xp xl xc) (.slice xq xk xd) (.bool ym) (.slice yp yl yc) (.slice yq yk yd)):=⟨⟨_,q2⟩⟩
    refine aw (fun w'=>∃ x:rZ wr.heap.size (.bool xm) (.slice xp xl xc) (.slice xq xk xd) (.bool ym) (.slice yp yl yc) (.slice yq yk yd),w'=x.w) (fun i=>i == 3||i == 4||i == 5||i == 6||i == 7) (by kernel_rfl) (by kernel_rfl) ⟨⟨_,q4⟩,rfl⟩ ?_;have hB4:=hB2.trans (m4.mono hB2.size);have HV4:=Fi (HV2.out.below m4);have HK4:=Fi (HK2.out.below m4);clear q2 m4 hB2 HV2 HK2 hgr;generalize w2.drew=wd at *
    have e0:=fun x:rZ wr.heap.size (.bool xm) (.slice xp xl xc) (.slice xq xk xd) (.bool ym) (.slice yp yl yc) (.slice yq yk yd)=>x.h.c0;have e1:=fun x:rZ wr.heap.size (.bool xm) (.slice xp xl xc) (.slice xq xk xd) (.bool ym) (.slice yp yl yc) (.slice yq yk yd)=>x.h.c1;have e2:=fun x:rZ wr.heap.size (.bool xm) (.slice xp xl xc) (.slice xq xk xd) (.bool ym) (.slice yp yl yc) (.slice yq yk yd)=>x.h.c2;have e3:=fun x:rZ wr.heap.size (.bool xm) (.slice xp xl xc) (.slice xq xk xd) (.bool ym) (.slice yp yl yc) (.slice yq yk yd)=>x.h.c3;have e4:=fun x:rZ wr.heap.size (.bool xm) (.slice xp xl xc) (.slice xq xk xd) (.bool ym) (.slice yp yl yc) (.slice yq yk yd)=>x.h.c4;have e5:=fun x:rZ wr.heap.size (.bool xm) (.slice xp xl xc) (.slice xq xk xd) (.bool ym) (.slice yp yl yc) (.slice yq yk yd)=>x.h.c5;refine ak 3 0 _ _ _ (by kernel_rfl) ?_;simp only[Fr,Fv,Fs,Fu];repeat (go_big_quiet_step (fail))
    refine wpQuiet_nil ?_;clear e0 e1 e2 e3 e4 e5;refine ap rfl rfl (fun K hK=>?_);go_simp;refine (jJ ((k+1:Nat):Int) wd (by omega) (by omega)).mono ?_;rintro e w5 ⟨v5,rfl,hv5,hb5⟩;refine hK _ _ ⟨⟨_,q4.below hb5⟩,rfl⟩ ?_;clear hK K;try simp only[Act.put,Fm,Fl,Fk,Fj,Fo,Fp]
    refine ap rfl rfl (fun K hK=>?_);go_simp;refine (eR _ _ _ hv5).mono ?_;rintro e w6 ⟨v6,rfl,hv6,hb6⟩;have hB6:=hb5.trans (hb6.mono hb5.size);rw[dx] at hv6;refine hK _ _ ⟨⟨_,q4.below hB6⟩,rfl⟩ ?_;clear hK K;try simp only[Act.put,Fm,Fl,Fk,Fj,Fo,Fp]
    refine ap rfl rfl (fun K hK=>?_);go_simp;have hsn:=rS (n:=k+1) (by omega);refine (iU _ _ _ _ _ (HK4.out.below hB6).v hv6 (HK4.out.s.fewV hsn (by decide))).mono ?_;rintro e w7 ⟨v7,rfl,hv7,hb7⟩;rw[cV] at hv7;have hB7:=hB6.trans (hb7.mono hB6.size);refine hK _ _ ⟨⟨_,q4.below hB7⟩,rfl⟩ ?_;clear hK K;try simp only[Act.put,Fm,Fl,Fk,Fj,Fo,Fp]
    have hk7:IsK w7 v7 (z.mul (CQ.real ((k+1:Nat):Int))):=⟨hv7,HZ.out⟩;obtain⟨sm,sp,sl,sc,sq,sk,sd,tm,tp,tl,tc,tq',tk,td,rfl⟩:=hk7.forms;have hw7:=HV4.out.below hB7;have q7:=q4.below hB7;have hB47:=hB4.trans (hB7.mono hB4.size);have hbs:=hB47.size;have hzl:((j9 zs).take k).length<1000000000:=by rw[FM,HML.out];omega
    have q8:=q7.below (aq w7 (.cells #[.bool sm,.slice sp sl sc,.slice sq sk sd,.bool tm,.slice tp tl tc,.slice tq' tk td] 153));refine ap rfl rfl (fun K hK=>?_);go_simp;refine hK _ _ ⟨⟨_,q8⟩,rfl⟩ ?_;clear hK K;try simp only[Act.put,Fm,Fl,Fk,Fj,Fo,Fp]
    refine ap rfl rfl (fun K hK=>?_);refine fj rfl ?_;refine l6 123 Tryz.underlying123 rfl (.tmp 15) (.tmp 21) rfl w.heap.size _ _ _ _ _ _ _ _ _ rfl hw7 hk7 rfl hzl hbs ?_;intro v' w9 hw9 hb9 hg9;have hB9:=hb9 _ _ hB47 (Fq _);have q9:=q8.grown hg9 (fun e=>Nat.lt_irrefl _ (hvb _ e.symm));refine⟨rfl,hK _ _ ⟨⟨_,q9⟩,rfl⟩ ?_⟩;clear hK K;try simp only[Act.put,Fm,Fl,Fk,Fj,Fo,Fp]
    rw[←HT.out] at hw9;have HW9:=Fi hw9;clear q4 q7 q8 q9 hg9 hb9 hw9 hw7 hk7 hv7 hv6 hv5 hb5 hb6 hb7 hB4 hB6 hB7 hB47 hvb;refine ak 1 8 _ _ _ (by kernel_rfl) ?_;simp only[Fr,Fv,Fs,Fu];repeat (go_big_quiet_step (fail))
    refine wpQuiet_nil ?_;refine aD ?_;go_wp2;go_roundw;case rel=>exact⟨k+1+1,by go_num,by omega,HW9.out,hB9⟩
    case measure=>(first | (simp[intOf];done) | (simp[intOf];omega))
  ·have hin':i=zs.length:=by omega
   subst hin';have hw:=hown;rw[show (j9 zs).take (zs.length-1)=j9 zs from Fx (by rw[HML.out];exact Fq _)] at hw;have hml:(j9 zs).length<1000000:=by rw[HML.out];omega
   have HW:=Fi hw.isP;clear hown hi hw;go_wp2_with fail
   refine (pX _ _ wr HW.out hml).mono ?_;rintro e w4 ⟨v1,rfl,hv1,hb1⟩;go_wp2;go_ret;exact⟨_,rfl,hv1,hbr.trans (hb1.mono hbr.size)⟩
theorem CM (va:Value) (z:CQ) (w:World) (ha:IsV w va (ct z)) :
  Calls Tryz.prog 200 #[va] w fun e w'=>∃ v,e=.returned (.tuple #[v,.bool (decide (z.im=0))])∧IsV w' v (ct z)∧Below w.heap.size w w':=by
 obtain⟨a,b,c,d,e,f,rfl,hax,hay⟩:=id ha;obtain⟨xm,xp,xl,xc,xq,xk,xd,hxe⟩:=hax.form;obtain⟨ym,yp,yl,yc,yq,yk,yd,hye⟩:=hay.form;obtain⟨rfl,rfl,rfl⟩:=et hxe;obtain⟨rfl,rfl,rfl⟩:=et hye;clear hxe hye;go_enter Tryz.func200,Tryz.ntmps200;go_upto_region 1 with fail
 have q1:=bS.new w (.bool xm) (.slice xp xl xc) (.slice xq xk xd) (.bool ym) (.slice yp yl yc) (.slice yq yk yd) 153;have m1:=aq w (.cells #[.bool xm,.slice xp xl xc,.slice xq xk xd,.bool ym,.slice yp yl yc,.slice yq yk yd] 153);have z1:=size_alloc w (.cells #[.bool xm,.slice xp xl xc,.slice xq xk xd,.bool ym,.slice yp yl yc,.slice yq yk yd] 153);generalize w.alloc (.cells #[.bool xm,.slice xp xl xc,.slice xq xk xd,.bool ym,.slice yp yl yc,.slice yq yk yd] 153)=w1 at *
 have q3:=cQ.new w1 (.bool false) (.slice none 0 0) (.slice none 0 0) (.bool false) (.slice none 0 0) (.slice none 0 0) (by intro z e;cases e) (by intro z e;cases e) (by intro z e;cases e) (by intro z e;cases e) (by intro z e;cases e) (by intro z e;cases e);have m3:=aq w1 (.cells #[.bool false,.slice none 0 0,.slice none 0 0,.bool false,.slice none 0 0,.slice none 0 0] 153);generalize w1.alloc (.cells #[.bool false,.slice none 0 0,.slice none 0 0,.bool false,.slice none 0 0,.slice none 0 0] 153)=w3 at *
 have m4:Below w3.heap.size w3 w3.drew:=(Below.refl _ _).drew;rw[z1] at q3;refine aw (fun w'=>∃ x:aK (w.heap.size+1) w3.drew,w'=x.w) (fun i=>i == 2||i == 3) (by kernel_rfl) (by kernel_rfl) ⟨⟨_,Below.refl _ _⟩,rfl⟩ ?_;generalize w3.drew=wd at *
 have hB0:Below wd.heap.size wd wd:=Below.refl _ _;have M13:=m1.trans (m3.mono m1.size);have MD:=Fi (M13.trans (m4.mono M13.size));have B1:=(q1.below m3).below m4;have B3:=Fi (q3.below m4);have hz:w.heap.size+1≤wd.heap.size:=by have:=B3.out.lt;omega
 have e1:=fun x:aK (w.heap.size+1) wd=>B1.at x.h (by omega);have a0:=fun x=>(e1 x).c0;have a01:=fun x=>(e1 x).c1;have a02:=fun x=>(e1 x).c2;have a03:=fun x=>(e1 x).c3;have a04:=fun x=>(e1 x).c4;have a05:=fun x=>(e1 x).c5;have HAX:=Fi (hax.below MD.out);have HAY:=Fi (hay.below MD.out);have HV:=Fi (ha.below MD.out);clear e1 q1 q3 m1 m3 m4 z1 M13 hax hay B1 ha hB0;refine ak 2 0 _ _ _ (by kernel_rfl) ?_;simp only[Fr,Fv,Fs,Fu];repeat (go_big_quiet_step (fail))
 refine wpQuiet_nil ?_;refine ap rfl rfl (fun K hK=>?_);go_simp;refine (ez _ _ wd HV.out).mono ?_;rintro e w4 ⟨rfl,hb4⟩;refine hK _ _ ⟨⟨_,hb4.mono hz⟩,rfl⟩ ?_;clear hK K;try simp only[Act.put,Fm,Fl,Fk,Fj,Fo,Fp]
 have B8:=B3.out.below hb4;have k0:=B8.cell 0;have k1:=B8.cell 1;have k2:=B8.cell 2;have k3:=B8.cell 3;have k4:=B8.cell 4;have k5:=B8.cell 5;have f0:=B8.fr 0;have f1:=B8.fr 1;have f2:=B8.fr 2;have f3:=B8.fr 3;have f4:=B8.fr 4;have f5:=B8.fr 5;have P:=Fi (B8.putV (HAX.out.below hb4) (HAY.out.below hb4));refine ap rfl rfl (fun K hK=>?_);go_simp;refine hK undef _ ⟨⟨_,P.out.2.2 _ _ (hb4.mono hz) (by omega)⟩,rfl⟩ ?_;clear hK K;try simp only[Act.put,Fm,Fl,Fk,Fj,Fo,Fp]
 refine ak 1 4 _ _ _ (by kernel_rfl) ?_;simp only[Fr,Fv,Fs,Fu];repeat (go_big_quiet_step (fail))
 refine wpQuiet_nil ?_;refine aD ?_;have M8:=Fi (P.out.2.2 _ _ (MD.out.trans (hb4.mono MD.out.size)) (by omega))
 have HD:=Fi (show decide ((ct z).y.n=0)=decide (z.im=0) by
  have h:=bA z.im
  show decide ((rt z.im).n=0)=_
  simp only[h])
 obtain⟨bb,hbb⟩:∃ bb,bb=decide (z.im=0):=⟨_,rfl⟩;rw[HD.out,←hbb];have HBB:=Fi hbb;clear hbb;clear B8 k0 k1 k2 k3 k4 k5 f0 f1 f2 f3 f4 f5;go_wp2_with fail
 have q0:=P.out.1.cell 0;have q1:=P.out.1.cell 1;have q2:=P.out.1.cell 2;have q3:=P.out.1.cell 3;have q4:=P.out.1.cell 4;have q5:=P.out.1.cell 5;refine bodyPost_ret (v:=.tuple #[.agg #[.bool xm,.slice xp xl xc,.slice xq xk xd,.bool ym,.slice yp yl yc,.slice yq yk yd],.bool bb]) (by simp[results,Tryz.results200,go_sem,dZ] at q0 q1 q2 q3 q4 q5 ⊢;simp[results,Tryz.results200,go_sem,q0,q1,q2,q3,q4,q5]) rfl ⟨_,by rw[HBB.out],P.out.2.1,M8.out⟩
def jC (zs:List CQ):Bool:=zs.all fun z=>decide (z.im=0)
theorem zZ (v:Value) (zs:List CQ) (w:World) (hl:IsP w v zs) (hlen:zs.length<1000000) :
  Calls Tryz.prog 199 #[v,.func (.func 200) #[] #[]] w fun e w'=>∃ v',e=.returned (.tuple #[v',.bool (jC zs)])∧Below w.heap.size w w':=by
 obtain⟨p,c,rfl,-⟩:=id hl.form;have HL:=Fi hl;clear hl;go_enter Tryz.func199,Tryz.ntmps199;go_wp2;go_loopw [6,13] (fun s6 s13 wr=>∃ i:Nat,s13=.int .i64 i∧i≤zs.length∧dH wr w.heap.size s6 (zs.take i)∧Below w.heap.size w wr∧Hid (jC (zs.take i)=true)) (fun _ s13 _=>zs.length-(intOf s13).toNat)
 case atStart=>exact⟨0,rfl,Fz _,dH.nil _ _,Below.refl _ _,rfl⟩
 case round =>
  obtain⟨i,rfl,hin,hown,hbr,hall⟩:=hrel;by_cases hi:i<zs.length
  ·obtain⟨B,o,rfl,hlt,xm,xp,xl,xc,xq,xk,xd,ym,yp,yl,yc,yq,yk,yd,hk,a0,a1,a2,a3,a4,a5⟩:=(HL.out.below hbr).get hi;have HT:=Fi (show zs.take (i+1)=zs.take i++[zs[i]] from (FD hi).symm)
   have HO:=Fi (show jC (zs.take (i+1))=decide (zs[i].im=0) by
    unfold jC at hall ⊢
    rw[←FD hi,GQ,hall.out];simp)
   have HX:=Fi (show zs[i].im≠0→jC zs=false from fun h=>by
    unfold jC;rw[Hq]
    exact⟨zs[i],FG hi,by simpa using h⟩)
   generalize zs[i]=z at hk HT HO HX;have HV:=Fi hown;have HK:=Fi hk;clear hown hk hall;go_upto_region 5 with fail
   have q2:=bS.new wr (.bool xm) (.slice xp xl xc) (.slice xq xk xd) (.bool ym) (.slice yp yl yc) (.slice yq yk yd) 153;have m2:=aq wr (.cells #[.bool xm,.slice xp xl xc,.slice xq xk xd,.bool ym,.slice yp yl yc,.slice yq yk yd] 153);generalize wr.alloc (.cells #[.bool xm,.slice xp xl xc,.slice xq xk xd,.bool ym,.slice yp yl yc,.slice yq yk yd] 153)=w2 at *
   have b0:=q2.c0;have b1:=q2.c1;have b2:=q2.c2;have b3:=q2.c3;have b4:=q2.c4;have b5:=q2.c5;have hB2:=hbr.trans (m2.mono hbr.size);have HV2:=Fi (HV.out.below m2);have HK2:=Fi (HK.out.below m2);clear a0 a1 a2 a3 a4 a5 m2 q2 HV HK hbr;go_wp2_with fail
   refine (CM _ z w2 HK2.out.v).mono ?_;rintro e w3 ⟨v3,rfl,hv3,hb3⟩;have hB3:=hB2.trans (hb3.mono hB2.size);have hk3:IsK w3 v3 z:=⟨hv3,HK2.out.s⟩;obtain⟨sm,sp,sl,sc,sq,sk,sd,tm,tp,tl,tc,tq',tk,td,rfl⟩:=hk3.forms;have HV3:=Fi (HV2.out.below hb3);clear b0 b1 b2 b3 b4 b5 hb3 hB2 HV2 HK2 hv3;by_cases hz:z.im=0
   ·have hd:decide (z.im=0)=true:=decide_eq_true hz;have HO:=Fi (show jC (zs.take (i+1))=true by rw[HO.out,hd]);rw[hd];clear hz hd HX;go_upto_region 6 with fail
    have q4:=bS.new w3 (.bool sm) (.slice sp sl sc) (.slice sq sk sd) (.bool tm) (.slice tp tl tc) (.slice tq' tk td) 153;have m4:=aq w3 (.cells #[.bool sm,.slice sp sl sc,.slice sq sk sd,.bool tm,.slice tp tl tc,.slice tq' tk td] 153);generalize w3.alloc (.cells #[.bool sm,.slice sp sl sc,.slice sq sk sd,.bool tm,.slice tp tl tc,.slice tq' tk td] 153)=w4 at *
    have b0:=q4.c0;have b1:=q4.c1;have b2:=q4.c2;have b3:=q4.c3;have b4:=q4.c4;have b5:=q4.c5;have hB4:=hB3.trans (m4.mono hB3.size);have hw4:=HV3.out.below m4;have hk4:=hk3.below m4;have hbs:=hB4.size;have hzl:(zs.take i).length<1000000000:=by rw[FM];omega
    clear q4 m4 hk3 HV3 hB3;go_wp2_with (at_builtin;refine eo 123 Tryz.underlying123 rfl (.tmp 25) (.tmp 27) rfl w.heap.size _ _ _ _ _ _ _ _ _ rfl hw4 hk4 rfl hzl hbs ?_)
    intro v' w5 hw5 hb5 _;have hB5:=hb5 _ _ hB4 (Fq _);rw[←HT.out] at hw5;clear hw4 hk4 hb5 hB4 b0 b1 b2 b3 b4 b5;go_wp2;go_roundw;case rel=>exact⟨i+1,by go_num,by omega,hw5,hB5,HO.out⟩
    case measure=>(first | (simp[intOf];done) | (simp[intOf];omega))
   ·have hd:decide (z.im=0)=false:=decide_eq_false hz;have HE:=Fi (HX.out hz);rw[hd];clear hz hd HX HO HT;go_wp2;refine bodyPost_ret (v:=.tuple #[.slice none 0 0,.bool false]) (by simp[results,Tryz.results199,go_sem]) rfl ⟨_,by rw[HE.out],hB3.trans ((aq w3 _).mono hB3.size)⟩
  ·have hin':i=zs.length:=by omega
   subst hin';have HO:=Fi (show jC zs=true by have h:=hall.out;rwa [FQ] at h);clear hown hi hall;go_wp2;refine bodyPost_ret (v:=.tuple #[u6,.bool true]) (by simp[results,Tryz.results199,go_sem]) rfl ⟨_,by rw[HO.out],hbr⟩
def kF (a b:List ByteArray):(List ByteArray×List ByteArray)×Int:=a6 a b a b (gn a a b)
def r7 (a b:List ByteArray):(List ByteArray×List ByteArray)×Int:=a6 a b a b (gn b a b)
theorem Ab (w:World) (a b:List ByteArray) (v:Value) (hP:i_ w v a b a b ⟨#[]⟩ 0) (hG:Gx w):Calls Tryz.prog 71 #[.func (.func 79) #[] #[],v] w (eF (kF a b) w):=by
 refine kR 79 v a b a b ⟨#[]⟩ 0 _ w hP ⟨bj Tryz.func79 rfl (by kernel_rfl),fun v' w' hw' hP' hc hc2=>?_⟩ hG;obtain⟨ob1,ob7,oa1,oa7,-⟩:=aZ hc;exact CG v' a b a b ⟨#[]⟩ 0 w' hP' oa1 (by omega) (by omega) (hG.below hw').g
theorem Ej (w:World) (a b:List ByteArray) (v:Value) (hP:i_ w v a b a b ⟨#[]⟩ 0) (hG:Gx w):Calls Tryz.prog 71 #[.func (.func 81) #[] #[],v] w (eF (r7 a b) w):=by
 refine kR 81 v a b a b ⟨#[]⟩ 0 _ w hP ⟨bj Tryz.func81 rfl (by kernel_rfl),fun v' w' hw' hP' hc hc2=>?_⟩ hG;obtain⟨ob1,ob7,oa1,oa7,-⟩:=aZ hc;exact E6 v' a b a b ⟨#[]⟩ 0 w' hP' oa1 (by omega) (by omega) (hG.below hw').g
theorem Cp (v:Value) (a b:List ByteArray) (w:World) (hF:IsF w v a b) (hG:Gx w) :
  Calls Tryz.prog 26 #[v] w (eF (kF a b) w):=by
 obtain⟨p,c,q,d,rfl,hfa,hfb⟩:=id hF.ex;go_enter Tryz.func26,Tryz.ntmps26;go_upto_region 1 with fail
 have cc:=aG w (.slice p a.length c) (.slice q b.length d);have m1:=aq w (.cells #[.slice p a.length c,.slice q b.length d] 24);have z1:=size_alloc w (.cells #[.slice p a.length c,.slice q b.length d] 24);generalize w.alloc (.cells #[.slice p a.length c,.slice q b.length d] 24)=w1 at *
 have q2:(w1.alloc (.cells #[.slice none 0 0,.slice none 0 0] 24)).heap[w1.heap.size]?=some (.cells #[.slice none 0 0,.slice none 0 0] 24 (0,0)):=heap_alloc_new w1 _;have m2:=aq w1 (.cells #[.slice none 0 0,.slice none 0 0] 24);have z2:=size_alloc w1 (.cells #[.slice none 0 0,.slice none 0 0] 24);have c0:=ag m2 (show w.heap.size<w1.heap.size by omega) cc.1;have c1:=ag m2 (show w.heap.size<w1.heap.size by omega) cc.2;generalize w1.alloc (.cells #[.slice none 0 0,.slice none 0 0] 24)=w2 at *
 rw[z1] at q2;have M2:=Fi (m1.trans (m2.mono m1.size));have hz2:w.heap.size+2=w2.heap.size:=by omega
 have hP:i_ w2 (.agg #[.slice p a.length c,.slice q b.length d,.slice p a.length c,.slice q b.length d,.string ⟨#[]⟩,.int .i64 0]) a b a b ⟨#[]⟩ 0 :=
  ⟨⟨p,c,q,d,p,c,q,d,rfl,hfa.below M2.out,hfb.below M2.out,hfa.below M2.out,hfb.below M2.out⟩⟩
 have HC:=Fi (Ab w2 a b _ hP (hG.below M2.out));clear m1 z1 m2 z2 cc hfa hfb hG hF hP;go_wp2_with fail
 refine HC.out.mono ?_;rintro e w3 ⟨u,rfl,hu,hb3⟩;obtain⟨r,hr⟩:∃ r,r=kF a b:=⟨_,rfl⟩;rw[show kF a b=r from hr.symm] at hu ⊢;obtain⟨⟨L1,L2⟩,er⟩:=r;have HR:=Fi hr;simp only at hu ⊢;obtain⟨p1,c1',p2,c2,rfl,g1,g2,o1,o2⟩:=hu.ex;have hn1:Value.ownBlock (.slice p1 L1.length c1')≠some (w.heap.size+1):=fun e=>by have:=o1 _ e;omega
 have hn2:Value.ownBlock (.slice p2 L2.length c2)≠some (w.heap.size+1):=fun e=>by have:=o2 _ e;omega
 have q3:=(hb3.block (w.heap.size+1) (by omega)).trans q2;have k0:=ah q3 0;have k1:=ah q3 1;have f0:=av q3 0;have f1:=av q3 1;have R1:=Fi ((g1.other hn1 0 (.slice p1 L1.length c1')).other hn1 1 (.slice p2 L2.length c2));have R2:=Fi ((g2.other hn2 0 (.slice p1 L1.length c1')).other hn2 1 (.slice p2 L2.length c2));have O1:=Fi (show ∀ g,Value.ownBlock (.slice p1 L1.length c1')=some g→w.heap.size≤g from fun g e=>by have:=o1 _ e;omega);have O2:=Fi (show ∀ g,Value.ownBlock (.slice p2 L2.length c2)=some g→w.heap.size≤g from fun g e=>by have:=o2 _ e;omega);have M7:=Fi (((M2.out.trans (hb3.mono M2.out.size)).setCell (p:=⟨w.heap.size+1,0,none⟩) (FS _) (.slice p1 L1.length c1')).setCell (p:=⟨w.heap.size+1,1,none⟩) (FS _) (.slice p2 L2.length c2));have g0:=aT q3 (.slice p1 L1.length c1') (.slice p2 L2.length c2);have x0:=ah g0 0;have x1:=ah g0 1;clear hn1 hn2 g1 g2 o1 o2 q2 q3 hb3 HC hu hr;go_wp2;refine bodyPost_ret (v:=.tuple #[.agg #[.slice p1 L1.length c1',.slice p2 L2.length c2],.int .i64 er]) (by simp at x0 x1;simp[results,Tryz.results26,go_sem,x0,x1]) rfl ⟨_,by rw[←HR.out],?_,M7.out⟩;rw[←HR.out];exact⟨⟨p1,c1',p2,c2,rfl,R1.out,R2.out,O1.out,O2.out⟩⟩
theorem EU (v:Value) (a b:List ByteArray) (w:World) (hF:IsF w v a b) (hG:Gx w) :
  Calls Tryz.prog 28 #[v] w (eF (r7 a b) w):=by
 obtain⟨p,c,q,d,rfl,hfa,hfb⟩:=id hF.ex;go_enter Tryz.func28,Tryz.ntmps28;go_upto_region 1 with fail
 have cc:=aG w (.slice p a.length c) (.slice q b.length d);have m1:=aq w (.cells #[.slice p a.length c,.slice q b.length d] 24);have z1:=size_alloc w (.cells #[.slice p a.length c,.slice q b.length d] 24);generalize w.alloc (.cells #[.slice p a.length c,.slice q b.length d] 24)=w1 at *
 have q2:(w1.alloc (.cells #[.slice none 0 0,.slice none 0 0] 24)).heap[w1.heap.size]?=some (.cells #[.slice none 0 0,.slice none 0 0] 24 (0,0)):=heap_alloc_new w1 _;have m2:=aq w1 (.cells #[.slice none 0 0,.slice none 0 0] 24);have z2:=size_alloc w1 (.cells #[.slice none 0 0,.slice none 0 0] 24);have c0:=ag m2 (show w.heap.size<w1.heap.size by omega) cc.1;have c1:=ag m2 (show w.heap.size<w1.heap.size by omega) cc.2;generalize w1.alloc (.cells #[.slice none 0 0,.slice none 0 0] 24)=w2 at *
 rw[z1] at q2;have M2:=Fi (m1.trans (m2.mono m1.size));have hz2:w.heap.size+2=w2.heap.size:=by omega
 have hP:i_ w2 (.agg #[.slice p a.length c,.slice q b.length d,.slice p a.length c,.slice q b.length d,.string ⟨#[]⟩,.int .i64 0]) a b a b ⟨#[]⟩ 0 :=
  ⟨⟨p,c,q,d,p,c,q,d,rfl,hfa.below M2.out,hfb.below M2.out,hfa.below M2.out,hfb.below M2.out⟩⟩
 have HC:=Fi (Ej w2 a b _ hP (hG.below M2.out));clear m1 z1 m2 z2 cc hfa hfb hG hF hP;go_wp2_with fail
 refine HC.out.mono ?_;rintro e w3 ⟨u,rfl,hu,hb3⟩;obtain⟨r,hr⟩:∃ r,r=r7 a b:=⟨_,rfl⟩;rw[show r7 a b=r from hr.symm] at hu ⊢;obtain⟨⟨L1,L2⟩,er⟩:=r;have HR:=Fi hr;simp only at hu ⊢;obtain⟨p1,c1',p2,c2,rfl,g1,g2,o1,o2⟩:=hu.ex;have hn1:Value.ownBlock (.slice p1 L1.length c1')≠some (w.heap.size+1):=fun e=>by have:=o1 _ e;omega
 have hn2:Value.ownBlock (.slice p2 L2.length c2)≠some (w.heap.size+1):=fun e=>by have:=o2 _ e;omega
 have q3:=(hb3.block (w.heap.size+1) (by omega)).trans q2;have k0:=ah q3 0;have k1:=ah q3 1;have f0:=av q3 0;have f1:=av q3 1;have R1:=Fi ((g1.other hn1 0 (.slice p1 L1.length c1')).other hn1 1 (.slice p2 L2.length c2));have R2:=Fi ((g2.other hn2 0 (.slice p1 L1.length c1')).other hn2 1 (.slice p2 L2.length c2));have O1:=Fi (show ∀ g,Value.ownBlock (.slice p1 L1.length c1')=some g→w.heap.size≤g from fun g e=>by have:=o1 _ e;omega);have O2:=Fi (show ∀ g,Value.ownBlock (.slice p2 L2.length c2)=some g→w.heap.size≤g from fun g e=>by have:=o2 _ e;omega);have M7:=Fi (((M2.out.trans (hb3.mono M2.out.size)).setCell (p:=⟨w.heap.size+1,0,none⟩) (FS _) (.slice p1 L1.length c1')).setCell (p:=⟨w.heap.size+1,1,none⟩) (FS _) (.slice p2 L2.length c2));have g0:=aT q3 (.slice p1 L1.length c1') (.slice p2 L2.length c2);have x0:=ah g0 0;have x1:=ah g0 1;clear hn1 hn2 g1 g2 o1 o2 q2 q3 hb3 HC hu hr;go_wp2;refine bodyPost_ret (v:=.tuple #[.agg #[.slice p1 L1.length c1',.slice p2 L2.length c2],.int .i64 er]) (by simp at x0 x1;simp[results,Tryz.results28,go_sem,x0,x1]) rfl ⟨_,by rw[←HR.out],?_,M7.out⟩;rw[←HR.out];exact⟨⟨p1,c1',p2,c2,rfl,R1.out,R2.out,O1.out,O2.out⟩⟩
theorem y4 (q:Rat):(dQ (CQ.real q)).1.size<100000:=by
 unfold dQ
 cases h:eG (CQ.real q)
 ·simp only[FR,if_false];have h1:cU (rt q)=false:=by unfold eG CQ.real at h;simp only[G4] at h;exact h.1
  have e:bQ (ct (CQ.real q))=aL (rt q):=dG (z:=ct (CQ.real q)) (by show (rt 0).n=0;rw[dN]);have hr:=oC ((tM (aL (rt q))).1.2 ⟨_,kN q,h1,rfl⟩);unfold txt;rw[e]
  show (aL (rt q)).toArray.size<100000
  simp;omega
 ·simp only[if_true];decide
theorem tB (X:CQ→Rat) (s:ByteArray):(ofC (fun z=>CQ.real (X z)) s).1.size<100000:=by
 unfold ofC
 split
 ·exact y4 _
 ·decide
theorem EB (s:ByteArray) (w:World) (hG:Gx w) :
  Calls Tryz.prog 59 #[.string s] w fun e w'=>e=.returned (.bool (lW s))∧Below w.heap.size w w':=by
 have HG:=Fi hG;obtain⟨x,hx⟩:∃ x,x=(ofC (fun z=>CQ.real z.re) s).1:=⟨_,rfl⟩;obtain⟨d,hd⟩:∃ d,d=(ofC (fun z=>CQ.real z.re) s).2:=⟨_,rfl⟩;obtain⟨y,hy⟩:∃ y,y=(ofC (fun z=>CQ.real z.im) s).1:=⟨_,rfl⟩;obtain⟨e,he⟩:∃ e,e=(ofC (fun z=>CQ.real z.im) s).2:=⟨_,rfl⟩;have hxs:x.size<100000:=hx ▸ tB _ s;have hys:y.size<100000:=hy ▸ tB _ s;have H1:=Fi (Fb s w hG.g);have H2:=Fi (fun wx (hw:Below w.heap.size w wx)=>E_ s wx (hG.g.below hw));rw[←hx,←hd] at H1;rw[←hy,←he] at H2;have HS:=Fi (show lW s=(decide (d=0)&&decide (e=0)&&gE x.data.toList&&gE y.data.toList) by unfold lW;rw[hx,hd,hy,he]);clear hx hd hy he hG;go_enter Tryz.func59,Tryz.ntmps59;go_wp2_with fail
 refine H1.out.mono ?_;rintro r w1 ⟨rfl,hb1⟩;go_wp2_with fail
 refine (H2.out w1 hb1).mono ?_;rintro r w2 ⟨rfl,hb2⟩;have hB2:=hb1.trans (hb2.mono hb1.size);clear hb1 hb2 H1 H2;by_cases h1:d=0
 ·subst h1;by_cases h2:e=0
  ·subst h2;go_wp2_with fail
   refine (vL x w2 hxs (HG.out.below hB2)).mono ?_;rintro r w3 ⟨b,rfl,hb,hb3⟩;have hB3:=hB2.trans (hb3.mono hB2.size);clear hb3 hB2
   cases b
   ·have HB:=Fi hb.out;clear hb;go_wp2;go_ret;exact⟨by rw[HS.out,HB.out];simp,hB3⟩
   ·have HB:=Fi hb.out;clear hb;go_wp2_with fail
    refine (vL y w3 hys (HG.out.below hB3)).mono ?_;rintro r w4 ⟨b,rfl,hb,hb4⟩;have HB2:=Fi hb.out;clear hb;go_wp2;go_ret;exact⟨by rw[HS.out,HB.out,HB2.out];simp,hB3.trans (hb4.mono hB3.size)⟩
  ·have hde:decide (e=0)=false:=decide_eq_false h2;go_wp2;go_ret;exact⟨by rw[HS.out];simp[h2],hB2⟩
 ·have hdd:decide (d=0)=false:=decide_eq_false h1;go_wp2;go_ret;exact⟨by rw[HS.out];simp[h1],hB2⟩
def oF (out:List ByteArray) (x:ByteArray) (b:List ByteArray) (i:Nat):Nat→List ByteArray
 | 0=>out
 | k+1=>(oF out x b i k).set (i+k) (fQ (aF (oF out x b i k) (i+k)) (dD x (aF b k)))
def fO (a b:List ByteArray):Nat→List ByteArray
 | 0=>List.replicate (a.length+b.length-1) ⟨#[48]⟩
 | i+1=>oF (fO a b i) (aF a i) b i b.length
def dB (a b:List ByteArray):List ByteArray:=fO a b a.length
theorem oG (out:List ByteArray) (x:ByteArray) (b:List ByteArray) (i:Nat):∀ k,(oF out x b i k).length=out.length
 | 0=>rfl
 | k+1=>by rw[oF,GA,oG out x b i k]
theorem j4 (a b:List ByteArray):∀ i,(fO a b i).length=a.length+b.length-1
 | 0=>by simp[fO]
 | i+1=>by rw[fO,oG,j4 a b i]
def kj (n i:Nat):List ByteArray:=List.replicate i ⟨#[48]⟩++List.replicate (n-i) ⟨#[]⟩
theorem yv {n i:Nat} (h:i≤n):(kj n i).length=n:=by simp[kj];omega
theorem yw {n i:Nat} (h:i<n):(kj n i).set i ⟨#[48]⟩=kj n (i+1):=by
 unfold kj;rw[Hv _ _ (by simp),Gp,Hd,show n-i=(n-(i+1))+1 from by omega,GK,Fo,Hi,F7];rfl
theorem yu (n:Nat):kj n n=List.replicate n ⟨#[48]⟩:=by simp[kj]
theorem jA (va vb:Value) (a b:List ByteArray) (w:World) (ha:IsS w va a) (hb:IsS w vb b) (h0:0<a.length) (h1:0<b.length) (ha1:a.length<1000) (hb1:b.length<1000) (hG:Gw w) :
  Calls Tryz.prog 136 #[va,vb,.string ⟨#[48]⟩,.func (.func 99) #[] #[],.func (.func 91) #[] #[]] w fun e w'=>∃ u,e=.returned u∧bW w' w.heap.size u (dB a b)∧Below w.heap.size w w':=by
 obtain⟨pa,ca,rfl,-⟩:=id ha.form;obtain⟨pb,cb,rfl,-⟩:=id hb.form;have ENA:=bj Tryz.func99 rfl (by kernel_rfl);have ENM:=bj Tryz.func91 rfl (by kernel_rfl);have HA:=Fi ha;have HB:=Fi hb;have HG:=Fi hG;clear ha hb hG;obtain⟨n,hn⟩:∃ n,n=a.length+b.length-1:=⟨_,rfl⟩;have hnI:((a.length:Int)+(b.length:Int))-1=(n:Int):=by omega
 have HN:=Fi hn;have hn1:n<2000:=by omega
 clear hn;go_enter Tryz.func136,Tryz.ntmps136;go_wp2_with (refine cD 22 Tryz.underlying22 rfl (.tmp 22) (.tmp 22) rfl _ _ n rfl rfl (by go_num) (by go_num) (by omega) ?_)
 intro w2 hr2 hb2 hs2;have M2:=hb2 _ _ (Below.refl w.heap.size w) (Fq _);have HR2:=Fi (show cR w2 w.heap.size n (kj n 0) from by rw[show kj n 0=List.replicate n ⟨#[]⟩ from rfl];exact hr2);clear hr2 hb2 hs2;go_wp2;go_loopw [12,26] (fun _ s26 wr=>∃ i:Nat,s26=.int .i64 i∧i≤n∧cR wr w.heap.size n (kj n i)∧Below w.heap.size w wr) (fun _ s26 _=>n-(intOf s26).toNat)
 case atStart=>exact⟨0,rfl,Fz _,HR2.out,M2⟩
 case round =>
  obtain⟨i,rfl,hin,hrow,hbr⟩:=hrel;by_cases hi:i<n
  ·have c0:=hrow.cell (j:=i) (by rw[yv hin];exact hi);have f0:=hrow.free i;have hs:=hrow.set i ⟨#[48]⟩;rw[yw hi] at hs;have HS:=Fi hs;have HB2:=Fi (hbr.setCell (p:=⟨w.heap.size,i,none⟩) (Fq _) (.string ⟨#[48]⟩));clear hrow hbr hs;go_wp2;go_roundw;case rel=>exact⟨i+1,by go_num,by omega,HS.out,HB2.out⟩
   case measure=>(first | (simp[intOf];done) | (simp[intOf];omega))
  ·obtain rfl:i=n:=by omega
   have hrow:=Fi (show cR wr w.heap.size i (fO a b 0) from by
    rw[yu] at hrow;rw[show fO a b 0=List.replicate i ⟨#[48]⟩ from by rw[fO,HN.out]]
    exact hrow)
   clear hi hin M2 HR2;rename World=>w3;go_wp2;go_loopw [13,14,15,16,36] (fun _ _ _ _ s36 wr=>∃ j:Nat,s36=.int .i64 j∧j≤a.length∧cR wr w.heap.size i (fO a b j)∧Below w.heap.size w wr) (fun _ _ _ _ s36 _=>a.length-(intOf s36).toNat)
   case atStart=>exact⟨0,rfl,Fz _,hrow.out,hbr⟩
   case round =>
    clear hrow hbr;obtain⟨j,rfl,hjn,hrow,hbr⟩:=hrel;by_cases hj:j<a.length
    ·obtain⟨ba,oa,rfl,hal,hca⟩:=(HA.out.below hbr).all h0;have ca0:=hca j hj;rename World=>wo;go_wp2;go_loopw [15,16,43] (fun _ _ s43 wr=>∃ k:Nat,s43=.int .i64 k∧k≤b.length∧cR wr w.heap.size i (oF (fO a b j) (aF a j) b j k)∧Below w.heap.size w wr) (fun _ _ s43 _=>b.length-(intOf s43).toNat)
     case atStart=>exact⟨0,rfl,Fz _,hrow,hbr⟩
     case round =>
      clear hrow hbr ca0 hca hal;obtain⟨k,rfl,hkn,hrow,hbr⟩:=hrel;by_cases hk:k<b.length
      ·obtain⟨bb,ob,rfl,hbl,hcb⟩:=(HB.out.below hbr).all h1;have cb0:=hcb k hk;obtain⟨L,hL⟩:∃ L,L=oF (fO a b j) (aF a j) b j k:=⟨_,rfl⟩;rw[←hL] at hrow;have HLL:=Fi (show L.length=i by rw[hL,oG,j4,HN.out]);have HNX:=Fi (show oF (fO a b j) (aF a j) b j (k+1)=L.set (j+k) (fQ (aF L (j+k)) (dD (aF a j) (aF b k))) by rw[oF,←hL]);clear hL hcb;have hjk:j+k<i:=by have:=HN.out;omega
       have hin2:=IntWalk.i64_in ((j:Int)+(k:Int)) (by omega);have hix:0≤(j:Int)+(k:Int):=by omega
       have hix2:(j:Int)+(k:Int)<(i:Int):=by omega
       have hta:(((j:Int)+(k:Int))).toNat=j+k:=by omega
       go_upto_region 13 with fail
       have hBd:Below wr.heap.size wr wr.drew:=(Below.refl _ _).drew;refine ay (fun wx:World=>Below wr.drew.heap.size wr.drew wx) (fun t=>t == 17) (by kernel_rfl) ?_;have hrowd:=hrow.below hBd;have hbd:=hbr.trans (hBd.mono hbr.size);generalize wr.drew=wd at *
       have hS:Below wd.heap.size wd wd:=Below.refl _ _;have HRW:=Fi hrowd;have hj2:j+k<L.length:=by rw[HLL.out];exact hjk
       have HJ2:=Fi hj2;clear hrowd hrow hbr cb0 hbl hj2;refine aj (i:=0) (v:=?vv0) rfl (by kernel_rfl) (fun _ _ _ h=>h) rfl ?hy0 ?rest0;case hy0=>(intro wy;go_simp;try with_reducible rfl)
       try simp only[Act.put,Fm,Fl,Fk,Fj,Fo,Fp]
       refine aj (i:=1) (v:=?vv1) rfl (by kernel_rfl) (fun _ _ _ h=>h) rfl ?hy1 ?rest1;case hy1=>(intro wy;go_simp;try with_reducible rfl)
       try simp only[Act.put,Fm,Fl,Fk,Fj,Fo,Fp]
       refine aj (i:=2) (v:=?vv2) rfl (by kernel_rfl) (fun _ _ _ h=>h) rfl ?hy2 ?rest2;case hy2=>(intro wy;go_simp;try with_reducible rfl)
       try simp only[Act.put,Fm,Fl,Fk,Fj,Fo,Fp]
       refine aj (i:=3) (v:=?vv3) rfl (by kernel_rfl) (fun _ _ _ h=>h) rfl ?hy3 ?rest3;case hy3=>(intro wy;go_simp;try with_reducible rfl)
       try simp only[Act.put,Fm,Fl,Fk,Fj,Fo,Fp]
       refine aj (i:=4) (v:=?vv4) rfl (by kernel_rfl) (fun _ _ _ h=>h) rfl ?hy4 ?rest4;case hy4=>(intro wy;go_simp;try with_reducible rfl)
       try simp only[Act.put,Fm,Fl,Fk,Fj,Fo,Fp]
       refine aj (i:=5) (v:=?vv5) rfl (by kernel_rfl) (fun _ _ _ h=>h) rfl ?hy5 ?rest5;case hy5=>(intro wy;go_simp;try with_reducible rfl)
       try simp only[Act.put,Fm,Fl,Fk,Fj,Fo,Fp]
       refine aj (i:=6) (v:=?vv6) rfl (by kernel_rfl) (fun _ _ _ h=>h) rfl ?hy6 ?rest6;case hy6=>(intro wy;go_simp;try with_reducible rfl)
       try simp only[Act.put,Fm,Fl,Fk,Fj,Fo,Fp]
       refine aj (i:=7) (v:=?vv7) rfl (by kernel_rfl) (fun _ _ _ h=>h) rfl ?hy7 ?rest7;case hy7=>(intro wy;go_simp;try with_reducible rfl)
       try simp only[Act.put,Fm,Fl,Fk,Fj,Fo,Fp]
       refine aj (i:=8) (v:=?vv8) rfl (by kernel_rfl) (fun _ _ _ h=>h) rfl ?hy8 ?rest8;case hy8=>(intro wy;go_simp;try with_reducible rfl)
       try simp only[Act.put,Fm,Fl,Fk,Fj,Fo,Fp]
       refine aj (i:=9) (v:=?vv9) rfl (by kernel_rfl) (fun _ _ _ h=>h) rfl ?hy9 ?rest9;case hy9=>(intro wy;go_simp;try with_reducible rfl)
       try simp only[Act.put,Fm,Fl,Fk,Fj,Fo,Fp]
       refine az (i:=10) (v:=?vv10) rfl (by kernel_rfl) (fun _ _ _ h=>h) rfl hS ?hy10 ?rest10
       case hy10 =>
        intro wy hy;have c0:=(HRW.out.below hy).cell (j:=j+k) HJ2.out;rw[ek] at c0;clear hy;go_simp;try with_reducible rfl
       try simp only[Act.put,Fm,Fl,Fk,Fj,Fo,Fp]
       refine aj (i:=11) (v:=?vv11) rfl (by kernel_rfl) (fun _ _ _ h=>h) rfl ?hy11 ?rest11;case hy11=>(intro wy;go_simp;try with_reducible rfl)
       try simp only[Act.put,Fm,Fl,Fk,Fj,Fo,Fp]
       refine aj (i:=12) (v:=?vv12) rfl (by kernel_rfl) (fun _ _ _ h=>h) rfl ?hy12 ?rest12;case hy12=>(intro wy;go_simp;try with_reducible rfl)
       try simp only[Act.put,Fm,Fl,Fk,Fj,Fo,Fp]
       refine aj (i:=13) (v:=?vv13) rfl (by kernel_rfl) (fun _ _ _ h=>h) rfl ?hy13 ?rest13;case hy13=>(intro wy;go_simp;try with_reducible rfl)
       try simp only[Act.put,Fm,Fl,Fk,Fj,Fo,Fp]
       refine au (i:=14) rfl (by kernel_rfl) rfl (fun K hK=>?_);go_simp;refine (eM _ _ wd (HG.out.below hbd)).mono ?_;rintro e w5 ⟨rfl,hb5⟩;refine hK _ _ (fun _ _=>hb5) ?_;clear hK K;try simp only[Act.put,Fm,Fl,Fk,Fj,Fo,Fp]
       refine au (i:=15) rfl (by kernel_rfl) rfl (fun K hK=>?_);go_simp;refine (jW _ _ w5 (HG.out.below (hbd.trans (hb5.mono hbd.size)))).mono ?_;rintro e w6 ⟨rfl,hb6⟩;have hB6:=hb5.trans (hb6.mono hb5.size);refine hK _ _ (fun _ _=>hB6) ?_;clear hK K;try simp only[Act.put,Fm,Fl,Fk,Fj,Fo,Fp]
       refine aj (i:=16) (v:=?vv16) rfl (by kernel_rfl) (fun _ _ _ h=>h) rfl ?hy16 ?rest16;case hy16=>(intro wy;go_simp;try with_reducible rfl)
       try simp only[Act.put,Fm,Fl,Fk,Fj,Fo,Fp]
       have hr6:=HRW.out.below hB6;have c0:=hr6.cell (j:=j+k) HJ2.out;have f0:=hr6.free (j+k);have hs:=hr6.set (j+k) (fQ (aF L (j+k)) (dD (aF a j) (aF b k)));rw[←HNX.out] at hs;have HS:=Fi hs;have HBF:=Fi ((hbd.trans (hB6.mono hbd.size)).setCell (p:=⟨w.heap.size,j+k,none⟩) (Fq _) (.string (fQ (aF L (j+k)) (dD (aF a j) (aF b k)))));clear hr6 hs hB6 hb6 hb5 hbd hS HRW;refine au (i:=17) rfl (by kernel_rfl) rfl (fun K hK=>?_);go_simp;refine hK _ _ (fun h=>by cases h) ?_;clear hK K;try simp only[Act.put,Fm,Fl,Fk,Fj,Fo,Fp]
       refine aI (by kernel_rfl) ?_ _;clear c0 f0;go_wp2;go_roundw;case rel=>exact⟨k+1,by go_num,by omega,HS.out,HBF.out⟩
       case measure=>(first | (simp[intOf];done) | (simp[intOf];omega))
      ·obtain rfl:k=b.length:=by omega
       have HR:=Fi (show cR wr w.heap.size i (fO a b (j+1)) from hrow);clear hk hkn hrow;go_wp2;go_roundw;case rel=>exact⟨j+1,by go_num,by omega,HR.out,hbr⟩
       case measure=>(first | (simp[intOf];done) | (simp[intOf];omega))
    ·obtain rfl:j=a.length:=by omega
     have HO:=Fi (show bW wr w.heap.size (.slice (some ⟨w.heap.size,0,none⟩) i i) (dB a b) from by
      have h:=hrow.own (Fq w.heap.size);rw[j4,←HN.out] at h
      exact h)
     clear hj hjn hrow;go_wp2;go_ret;exact⟨_,rfl,HO.out,hbr⟩
end Go.Proofs.YtbnkpcfjechfiaaGreatDoor
