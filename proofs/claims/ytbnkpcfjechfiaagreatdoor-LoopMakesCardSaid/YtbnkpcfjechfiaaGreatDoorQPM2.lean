/- Lemmas of this claim. -/
import Derived.Laws.IdiomCopy
import Derived.Test.YtbnkpcfjechfiaaGreatDoorQRng2
import Derived.Test.YtbnkpcfjechfiaaGreatDoorQPL6
import Derived.Test.YtbnkpcfjechfiaaGreatDoorQLP13
set_option linter.all false
set_option maxRecDepth 100000
set_option maxHeartbeats 8000000
namespace Go.Proofs.YtbnkpcfjechfiaaGreatDoor
open Go.RowKit Dg
theorem dl {o:Oper}{a:Act}{w:World}{K:Act→World→Prop}{Q:Exit→Act→World→Prop} (hg:o.guard=none) (h:wpList Tryz.prog #[o] (fun e a w=>e=.normal∧K a w) [o] a w):o.wp Tryz.prog a w K Q:=by
 unfold wpList at h;rw[if_pos (by simp only[Region.wanted,hg])] at h;rcases h with h | ⟨-,h⟩
 ·unfold Oper.wp at *
  generalize (execOp a.eval o).run Tryz.prog w=r at *
  cases r with
  | ok n w' =>
   cases n<;>simp only[Oper.upon] at h ⊢ <;>
    first
     | exact h.2
     | exact Calls.mono h (fun e w'' he=>by
       cases e with
       | returned v=>exact he.2
       | panicked c=>exact absurd he.1 (by simp)
       | outgrown=>obtain⟨_,_,he,_⟩:=he;exact absurd he (by simp))
     | exact Rows.mono h (fun _ _ he=>he.2)
  | halt x w'=>cases x<;>simp only[Oper.upon] at h ⊢<;>first | (obtain⟨he,_⟩:=h;exact absurd he (by simp)) | exact h | (obtain⟨_,_,he,_⟩:=h;exact absurd he (by simp))
 ·obtain⟨_,_,he,_⟩:=h;exact absurd he (by simp)
theorem lM {w:World}{ops:Array Oper}{rest:List Oper}{o:Oper}{act:Act}{Q:Exit→Act→World→Prop} (T:TypeId)
  (hT:Tryz.prog.underlying T=some (.slice 153)) (hgd:o.guard=none) (s x:Operand)
  (ho:o.op=.call { callee:=.builtin .append,args:=#[s,x],argTypes:=#[T,T] })
  (base:Nat) (v:Value) (zs:List CQ) (a b c d e f:Value) (z:CQ) (hs:act.eval s=v) (hown:dE w base v zs) (hk:IsK w (.agg #[a,b,c,d,e,f]) z)
  (hx:act.eval x=.slice (some ⟨w.heap.size,0,none⟩) 1 1) (hlen:zs.length<1000000000) (hbase:base≤w.heap.size)
  (h:∀ v' w',dE w' base v' (zs++[z])→(∀ B w0,Below B w0 w→B≤base→Below B w0 w')→(w.alloc (.cells #[a,b,c,d,e,f] 153)).grownBy w' v.ownBlock→wpList Tryz.prog ops Q rest (act.put o.dst v') w') :
  wpList Tryz.prog ops Q (o :: rest) act (w.alloc (.cells #[a,b,c,d,e,f] 153)):=by
 obtain⟨es,h1,h2,h3⟩:=hown.p;obtain⟨i0,hi,hz0,hz1,hz2⟩:=info_parts As;have hb:=ak w (.cells #[a,b,c,d,e,f] 153);obtain⟨xm,xp,xl,xc,xq,xk,xd,ym,yp,yl,yc,yq,yk,yd,he⟩:=hk.forms;obtain⟨rfl,rfl,rfl,rfl,rfl,rfl⟩:a=.bool xm∧b=.slice xp xl xc∧c=.slice xq xk xd∧d=.bool ym∧e=.slice yp yl yc∧f=.slice yq yk yd:=by simpa using he
 have hnu:=hown.nu.below h2 hb;refine fC _ hgd s x T ho base 153 i0 _ 6 112 hT hi hz0 hz1 hz2 rfl (by decide) ?_ v es.length (cY es) hs (h2.alloc _) hnu ⟨w.heap.size,0,none⟩ 1 [.bool xm,.slice xp xl xc,.slice xq xk xd,.bool ym,.slice yp yl yc,.slice yq yk yd] hx rfl (rR w _ _ _ _ _ _ _) ?_ ?_ ?_ ?_ ?_ ?_
 ·intro u hu z' e';subst e';simp[Value.cells] at hu
 ·intro u hu;simp at hu;rcases hu with rfl | rfl | rfl | rfl | rfl | rfl<;>rfl
 ·intro u hu z' e';subst e';simp at hu
 ·unfold maxLen;omega
 ·omega
 ·rw[size_alloc];omega
 ·intro v' w' g1 g2 g3;have hkeep:∀ u l,IsU w u l→IsU w' u l:=fun u l hu=>(hu.below hb).grown hnu g2;refine h v' w' ⟨⟨es++[.agg #[.bool xm,.slice xp xl xc,.slice xq xk xd,.bool ym,.slice yp yl yc,.slice yq yk yd]],by simp[h1],?_,?_⟩,g3⟩ ?_ g2
  ·rw[Fl,jG];exact g1
  ·intro i hi' hi2;by_cases hlt:i<es.length
   ·rw[FK hlt,FK (by omega)];exact (h3 i hlt (by omega)).keepU hkeep
   ·have hie:i=es.length:=by simp at hi';omega
    subst hie;rw[FI (Fb _),FI (by omega)];simpa[h1] using hk.keepU hkeep
  ·intro B w0 hB hBb;refine (hB.alloc (by have:=hbase;omega) _).grown g2 (by rw[size_alloc];omega) ?_;intro k hk';have:=(h2.lt k hk').1;omega
structure rJ (k:Nat) (a b c d e f:Value) where
 w:World
 h:bN w k a b c d e f
theorem bN.grown {w w':World}{k:Nat}{a b c d e f:Value}{row:Option Nat} (h:bN w k a b c d e f) (hg:w.grownBy w' row) (hne:some k≠row):bN w' k a b c d e f :=
 ⟨Fe h.lt hg.size,hg.cell h.c0 hne,hg.cell h.c1 hne,hg.cell h.c2 hne,hg.cell h.c3 hne,hg.cell h.c4 hne,hg.cell h.c5 hne⟩
theorem dE.block {w:World}{base:Nat}{v:Value}{zs:List CQ} (h:dE w base v zs) {g:Nat} (hg:v.ownBlock=some g):g<w.heap.size:=by
 obtain⟨es,-,h2,-⟩:=h.p;exact (World.ownsRow.lt h2 g hg).2
theorem rB {n:Nat} (h:n<34):SzV 10 (ct (CQ.real ((n:Nat):Int))):=by
 refine⟨⟨?_,dJ _,?_⟩,.zero (by decide)⟩
 ·show (((n:Nat):Int):Rat).num.natAbs<10 ^ 10
  simp;omega
 ·show (((n:Nat):Int):Rat).den<10 ^ 10
  simp
def jV (zs:List CQ):List CQ:=(List.range (zs.length-1)).map fun i=>(gh zs (i+1)).mul (CQ.real ((i+1:Nat):Int))
def xO (zs:List CQ):List CQ:=da (jV zs)
theorem si (zs:List CQ):(jV zs).length=zs.length-1:=by simp[jV]
theorem xP (zs:List CQ) {i:Nat} (h:i+1<zs.length):(jV zs).take (i+1)=(jV zs).take i++[zs[i+1].mul (CQ.real ((i+1:Nat):Int))]:=by
 have hl:i<(jV zs).length:=by rw[si];omega
 rw[show (jV zs).take (i+1)=(jV zs).take i++[(jV zs)[i]] from (Fm hl).symm];simp[jV,gh,h]
theorem sj (vp:Value) (zs:List CQ) (w:World) (hp:IsP w vp zs) (hfit:∀ z∈zs,∀ n:Nat,n<33→SzV 10000 (ct (z.mul (CQ.real ((n:Nat):Int))))) (hlen:zs.length≤33) :
  Calls Tryz.prog 203 #[vp] w fun e w'=>∃ v',e=.returned v'∧IsP w' v' (xO zs)∧Below w.heap.size w w':=by
 obtain⟨p,c,rfl,-⟩:=id hp.form;have HML:=E5 (si zs);have HMT:=E5 (fun i h=>xP zs (i:=i) h);have HFIT:=E5 hfit;have HP:=E5 hp;clear hfit hp;go_enter Tryz.func203,Tryz.ntmps203;go_wp2;go_loopw [3,8] (fun s3 s8 wr=>∃ i:Nat,s8=.int .i64 i∧i≤zs.length∧dE wr w.heap.size s3 ((jV zs).take (i-1))∧Below w.heap.size w wr) (fun _ s8 _=>zs.length-(intOf s8).toNat)
 case atStart=>exact⟨0,rfl,Fk _,dE.nil _ _,Below.refl _ _⟩
 case round =>
  obtain⟨i,rfl,hin,hown,hbr⟩:=hrel;by_cases hi:i<zs.length
  ·obtain⟨B,o,rfl,hlt,xm,xp,xl,xc,xq,xk,xd,ym,yp,yl,yc,yq,yk,yd,hk,a0,a1,a2,a3,a4,a5⟩:=(HP.out.below hbr).get hi;have hvb0:=E5 (fun g (h:u3.ownBlock=some g)=>hown.block h);have HV:=E5 hown;have HK:=E5 hk;clear hown;go_upto_region 5 with fail
   have q2:=bN.new wr (.bool xm) (.slice xp xl xc) (.slice xq xk xd) (.bool ym) (.slice yp yl yc) (.slice yq yk yd) 153;have m2:=ak wr (.cells #[.bool xm,.slice xp xl xc,.slice xq xk xd,.bool ym,.slice yp yl yc,.slice yq yk yd] 153);have z2:=size_alloc wr (.cells #[.bool xm,.slice xp xl xc,.slice xq xk xd,.bool ym,.slice yp yl yc,.slice yq yk yd] 153);generalize wr.alloc (.cells #[.bool xm,.slice xp xl xc,.slice xq xk xd,.bool ym,.slice yp yl yc,.slice yq yk yd] 153)=w2 at *
   have hB2:=hbr.trans (m2.mono hbr.size);have HV2:=E5 (HV.out.below m2);have HK2:=E5 (HK.out.below m2);have hgr:wr.heap.size<w2.heap.size:=by omega
   clear a0 a1 a2 a3 a4 a5 m2 z2 HV HK hk;by_cases h0:i=0
   ·subst h0;clear q2 HK2;go_wp2;go_roundw;case rel=>exact⟨1,by go_num,by omega,HV2.out,hB2⟩
    case measure=>(first | (simp[intOf];done) | (simp[intOf];omega))
   ·obtain⟨k,rfl⟩:∃ k,i=k+1:=⟨i-1,by omega⟩;have HT:=E5 (HMT.out k hi);have HZ:=E5 (HFIT.out zs[k+1] (Fu hi) (k+1) (by omega));generalize zs[k+1]=z at HK2 HT HZ;rw[GB] at HV2;go_upto_region 6 with fail
    have hvb:∀ g,u3.ownBlock=some g→g<wr.heap.size:=hvb0.out;have m4:Below w2.heap.size w2 w2.drew:=(Below.refl _ _).drew;have q4:=q2.below m4
    haveI:Nonempty (rJ wr.heap.size (.bool xm) (.slice xp xl xc) (.slice xq xk xd) (.bool ym) (.slice yp yl yc) (.slice yq yk yd)):=⟨⟨_,q2⟩⟩
    refine aq (fun w'=>∃ x:rJ wr.heap.size (.bool xm) (.slice xp xl xc) (.slice xq xk xd) (.bool ym) (.slice yp yl yc) (.slice yq yk yd),w'=x.w) (fun i=>i == 3||i == 4||i == 5||i == 6||i == 7) (by kernel_rfl) (by kernel_rfl) ⟨⟨_,q4⟩,rfl⟩ ?_;have hB4:=hB2.trans (m4.mono hB2.size);have HV4:=E5 (HV2.out.below m4);have HK4:=E5 (HK2.out.below m4);clear q2 m4 hB2 HV2 HK2 hgr;generalize w2.drew=wd at *
    have e0:=fun x:rJ wr.heap.size (.bool xm) (.slice xp xl xc) (.slice xq xk xd) (.bool ym) (.slice yp yl yc) (.slice yq yk yd)=>x.h.c0;have e1:=fun x:rJ wr.heap.size (.bool xm) (.slice xp xl xc) (.slice xq xk xd) (.bool ym) (.slice yp yl yc) (.slice yq yk yd)=>x.h.c1;have e2:=fun x:rJ wr.heap.size (.bool xm) (.slice xp xl xc) (.slice xq xk xd) (.bool ym) (.slice yp yl yc) (.slice yq yk yd)=>x.h.c2;have e3:=fun x:rJ wr.heap.size (.bool xm) (.slice xp xl xc) (.slice xq xk xd) (.bool ym) (.slice yp yl yc) (.slice yq yk yd)=>x.h.c3;have e4:=fun x:rJ wr.heap.size (.bool xm) (.slice xp xl xc) (.slice xq xk xd) (.bool ym) (.slice yp yl yc) (.slice yq yk yd)=>x.h.c4;have e5:=fun x:rJ wr.heap.size (.bool xm) (.slice xp xl xc) (.slice xq xk xd) (.bool ym) (.slice yp yl yc) (.slice yq yk yd)=>x.h.c5;refine ah 3 0 _ _ _ (by kernel_rfl) ?_;simp only[Fc,Fg,Fd,Ff];repeat (go_big_quiet_step (fail))
    refine wpQuiet_nil ?_;clear e0 e1 e2 e3 e4 e5;refine aj rfl rfl (fun K hK=>?_);go_simp;refine (jy ((k+1:Nat):Int) wd (by omega) (by omega)).mono ?_;rintro e w5 ⟨v5,rfl,hv5,hb5⟩;refine hK _ _ ⟨⟨_,q4.below hb5⟩,rfl⟩ ?_;clear hK K;try simp only[Act.put,E9,E8,E7,E6,Fa,E_]
    refine aj rfl rfl (fun K hK=>?_);go_simp;refine (eN _ _ _ hv5).mono ?_;rintro e w6 ⟨v6,rfl,hv6,hb6⟩;have hB6:=hb5.trans (hb6.mono hb5.size);rw[dA] at hv6;refine hK _ _ ⟨⟨_,q4.below hB6⟩,rfl⟩ ?_;clear hK K;try simp only[Act.put,E9,E8,E7,E6,Fa,E_]
    refine aj rfl rfl (fun K hK=>?_);go_simp;have hsn:=rB (n:=k+1) (by omega);refine (iL _ _ _ _ _ (HK4.out.below hB6).v hv6 (HK4.out.s.fewV hsn (by decide))).mono ?_;rintro e w7 ⟨v7,rfl,hv7,hb7⟩;rw[cO] at hv7;have hB7:=hB6.trans (hb7.mono hB6.size);refine hK _ _ ⟨⟨_,q4.below hB7⟩,rfl⟩ ?_;clear hK K;try simp only[Act.put,E9,E8,E7,E6,Fa,E_]
    have hk7:IsK w7 v7 (z.mul (CQ.real ((k+1:Nat):Int))):=⟨hv7,HZ.out⟩;obtain⟨sm,sp,sl,sc,sq,sk,sd,tm,tp,tl,tc,tq',tk,td,rfl⟩:=hk7.forms;have hw7:=HV4.out.below hB7;have q7:=q4.below hB7;have hB47:=hB4.trans (hB7.mono hB4.size);have hbs:=hB47.size;have hzl:((jV zs).take k).length<1000000000:=by rw[FA,HML.out];omega
    have q8:=q7.below (ak w7 (.cells #[.bool sm,.slice sp sl sc,.slice sq sk sd,.bool tm,.slice tp tl tc,.slice tq' tk td] 153));refine aj rfl rfl (fun K hK=>?_);go_simp;refine hK _ _ ⟨⟨_,q8⟩,rfl⟩ ?_;clear hK K;try simp only[Act.put,E9,E8,E7,E6,Fa,E_]
    refine aj rfl rfl (fun K hK=>?_);refine dl rfl ?_;refine lM 123 Tryz.underlying123 rfl (.tmp 15) (.tmp 21) rfl w.heap.size _ _ _ _ _ _ _ _ _ rfl hw7 hk7 rfl hzl hbs ?_;intro v' w9 hw9 hb9 hg9;have hB9:=hb9 _ _ hB47 (Fb _);have q9:=q8.grown hg9 (fun e=>Nat.lt_irrefl _ (hvb _ e.symm));refine⟨rfl,hK _ _ ⟨⟨_,q9⟩,rfl⟩ ?_⟩;clear hK K;try simp only[Act.put,E9,E8,E7,E6,Fa,E_]
    rw[←HT.out] at hw9;have HW9:=E5 hw9;clear q4 q7 q8 q9 hg9 hb9 hw9 hw7 hk7 hv7 hv6 hv5 hb5 hb6 hb7 hB4 hB6 hB7 hB47 hvb;refine ah 1 8 _ _ _ (by kernel_rfl) ?_;simp only[Fc,Fg,Fd,Ff];repeat (go_big_quiet_step (fail))
    refine wpQuiet_nil ?_;refine aB ?_;go_wp2;go_roundw;case rel=>exact⟨k+1+1,by go_num,by omega,HW9.out,hB9⟩
    case measure=>(first | (simp[intOf];done) | (simp[intOf];omega))
  ·have hin':i=zs.length:=by omega
   subst hin';have hw:=hown;rw[show (jV zs).take (zs.length-1)=jV zs from Fi (by rw[HML.out];exact Fb _)] at hw;have hml:(jV zs).length<1000000:=by rw[HML.out];omega
   have HW:=E5 hw.isP;clear hown hi hw;go_wp2_with fail
   refine (pE _ _ wr HW.out hml).mono ?_;rintro e w4 ⟨v1,rfl,hv1,hb1⟩;go_wp2;go_ret;exact⟨_,rfl,hv1,hbr.trans (hb1.mono hbr.size)⟩
theorem Cs (va:Value) (z:CQ) (w:World) (ha:IsV w va (ct z)) :
  Calls Tryz.prog 200 #[va] w fun e w'=>∃ v,e=.returned (.tuple #[v,.bool (decide (z.im=0))])∧IsV w' v (ct z)∧Below w.heap.size w w':=by
 obtain⟨a,b,c,d,e,f,rfl,hax,hay⟩:=id ha;obtain⟨xm,xp,xl,xc,xq,xk,xd,hxe⟩:=hax.form;obtain⟨ym,yp,yl,yc,yq,yk,yd,hye⟩:=hay.form;obtain⟨rfl,rfl,rfl⟩:=eh hxe;obtain⟨rfl,rfl,rfl⟩:=eh hye;clear hxe hye;go_enter Tryz.func200,Tryz.ntmps200;go_upto_region 1 with fail
 have q1:=bN.new w (.bool xm) (.slice xp xl xc) (.slice xq xk xd) (.bool ym) (.slice yp yl yc) (.slice yq yk yd) 153;have m1:=ak w (.cells #[.bool xm,.slice xp xl xc,.slice xq xk xd,.bool ym,.slice yp yl yc,.slice yq yk yd] 153);have z1:=size_alloc w (.cells #[.bool xm,.slice xp xl xc,.slice xq xk xd,.bool ym,.slice yp yl yc,.slice yq yk yd] 153);generalize w.alloc (.cells #[.bool xm,.slice xp xl xc,.slice xq xk xd,.bool ym,.slice yp yl yc,.slice yq yk yd] 153)=w1 at *
 have q3:=cH.new w1 (.bool false) (.slice none 0 0) (.slice none 0 0) (.bool false) (.slice none 0 0) (.slice none 0 0) (by intro z e;cases e) (by intro z e;cases e) (by intro z e;cases e) (by intro z e;cases e) (by intro z e;cases e) (by intro z e;cases e);have m3:=ak w1 (.cells #[.bool false,.slice none 0 0,.slice none 0 0,.bool false,.slice none 0 0,.slice none 0 0] 153);generalize w1.alloc (.cells #[.bool false,.slice none 0 0,.slice none 0 0,.bool false,.slice none 0 0,.slice none 0 0] 153)=w3 at *
 have m4:Below w3.heap.size w3 w3.drew:=(Below.refl _ _).drew;rw[z1] at q3;refine aq (fun w'=>∃ x:aC (w.heap.size+1) w3.drew,w'=x.w) (fun i=>i == 2||i == 3) (by kernel_rfl) (by kernel_rfl) ⟨⟨_,Below.refl _ _⟩,rfl⟩ ?_;generalize w3.drew=wd at *
 have hB0:Below wd.heap.size wd wd:=Below.refl _ _;have M13:=m1.trans (m3.mono m1.size);have MD:=E5 (M13.trans (m4.mono M13.size));have B1:=(q1.below m3).below m4;have B3:=E5 (q3.below m4);have hz:w.heap.size+1≤wd.heap.size:=by have:=B3.out.lt;omega
 have e1:=fun x:aC (w.heap.size+1) wd=>B1.at x.h (by omega);have a0:=fun x=>(e1 x).c0;have a01:=fun x=>(e1 x).c1;have a02:=fun x=>(e1 x).c2;have a03:=fun x=>(e1 x).c3;have a04:=fun x=>(e1 x).c4;have a05:=fun x=>(e1 x).c5;have HAX:=E5 (hax.below MD.out);have HAY:=E5 (hay.below MD.out);have HV:=E5 (ha.below MD.out);clear e1 q1 q3 m1 m3 m4 z1 M13 hax hay B1 ha hB0;refine ah 2 0 _ _ _ (by kernel_rfl) ?_;simp only[Fc,Fg,Fd,Ff];repeat (go_big_quiet_step (fail))
 refine wpQuiet_nil ?_;refine aj rfl rfl (fun K hK=>?_);go_simp;refine (ek _ _ wd HV.out).mono ?_;rintro e w4 ⟨rfl,hb4⟩;refine hK _ _ ⟨⟨_,hb4.mono hz⟩,rfl⟩ ?_;clear hK K;try simp only[Act.put,E9,E8,E7,E6,Fa,E_]
 have B8:=B3.out.below hb4;have k0:=B8.cell 0;have k1:=B8.cell 1;have k2:=B8.cell 2;have k3:=B8.cell 3;have k4:=B8.cell 4;have k5:=B8.cell 5;have f0:=B8.fr 0;have f1:=B8.fr 1;have f2:=B8.fr 2;have f3:=B8.fr 3;have f4:=B8.fr 4;have f5:=B8.fr 5;have P:=E5 (B8.putV (HAX.out.below hb4) (HAY.out.below hb4));refine aj rfl rfl (fun K hK=>?_);go_simp;refine hK undef _ ⟨⟨_,P.out.2.2 _ _ (hb4.mono hz) (by omega)⟩,rfl⟩ ?_;clear hK K;try simp only[Act.put,E9,E8,E7,E6,Fa,E_]
 refine ah 1 4 _ _ _ (by kernel_rfl) ?_;simp only[Fc,Fg,Fd,Ff];repeat (go_big_quiet_step (fail))
 refine wpQuiet_nil ?_;refine aB ?_;have M8:=E5 (P.out.2.2 _ _ (MD.out.trans (hb4.mono MD.out.size)) (by omega))
 have HD:=E5 (show decide ((ct z).y.n=0)=decide (z.im=0) by
  have h:=bg z.im
  show decide ((rt z.im).n=0)=_
  simp only[h])
 obtain⟨bb,hbb⟩:∃ bb,bb=decide (z.im=0):=⟨_,rfl⟩;rw[HD.out,←hbb];have HBB:=E5 hbb;clear hbb;clear B8 k0 k1 k2 k3 k4 k5 f0 f1 f2 f3 f4 f5;go_wp2_with fail
 have q0:=P.out.1.cell 0;have q1:=P.out.1.cell 1;have q2:=P.out.1.cell 2;have q3:=P.out.1.cell 3;have q4:=P.out.1.cell 4;have q5:=P.out.1.cell 5;refine bodyPost_ret (v:=.tuple #[.agg #[.bool xm,.slice xp xl xc,.slice xq xk xd,.bool ym,.slice yp yl yc,.slice yq yk yd],.bool bb]) (by simp[results,Tryz.results200,go_sem,dY] at q0 q1 q2 q3 q4 q5 ⊢;simp[results,Tryz.results200,go_sem,q0,q1,q2,q3,q4,q5]) rfl ⟨_,by rw[HBB.out],P.out.2.1,M8.out⟩
def js (zs:List CQ):Bool:=zs.all fun z=>decide (z.im=0)
theorem zF (v:Value) (zs:List CQ) (w:World) (hl:IsP w v zs) (hlen:zs.length<1000000) :
  Calls Tryz.prog 199 #[v,.func (.func 200) #[] #[]] w fun e w'=>∃ v',e=.returned (.tuple #[v',.bool (js zs)])∧Below w.heap.size w w':=by
 obtain⟨p,c,rfl,-⟩:=id hl.form;have HL:=E5 hl;clear hl;go_enter Tryz.func199,Tryz.ntmps199;go_wp2;go_loopw [6,13] (fun s6 s13 wr=>∃ i:Nat,s13=.int .i64 i∧i≤zs.length∧dE wr w.heap.size s6 (zs.take i)∧Below w.heap.size w wr∧Hid (js (zs.take i)=true)) (fun _ s13 _=>zs.length-(intOf s13).toNat)
 case atStart=>exact⟨0,rfl,Fk _,dE.nil _ _,Below.refl _ _,rfl⟩
 case round =>
  obtain⟨i,rfl,hin,hown,hbr,hall⟩:=hrel;by_cases hi:i<zs.length
  ·obtain⟨B,o,rfl,hlt,xm,xp,xl,xc,xq,xk,xd,ym,yp,yl,yc,yq,yk,yd,hk,a0,a1,a2,a3,a4,a5⟩:=(HL.out.below hbr).get hi;have HT:=E5 (show zs.take (i+1)=zs.take i++[zs[i]] from (Fm hi).symm)
   have HO:=E5 (show js (zs.take (i+1))=decide (zs[i].im=0) by
    unfold js at hall ⊢
    rw[←Fm hi,Gu,hall.out];simp)
   have HX:=E5 (show zs[i].im≠0→js zs=false from fun h=>by
    unfold js;rw[G8]
    exact⟨zs[i],Fu hi,by simpa using h⟩)
   generalize zs[i]=z at hk HT HO HX;have HV:=E5 hown;have HK:=E5 hk;clear hown hk hall;go_upto_region 5 with fail
   have q2:=bN.new wr (.bool xm) (.slice xp xl xc) (.slice xq xk xd) (.bool ym) (.slice yp yl yc) (.slice yq yk yd) 153;have m2:=ak wr (.cells #[.bool xm,.slice xp xl xc,.slice xq xk xd,.bool ym,.slice yp yl yc,.slice yq yk yd] 153);generalize wr.alloc (.cells #[.bool xm,.slice xp xl xc,.slice xq xk xd,.bool ym,.slice yp yl yc,.slice yq yk yd] 153)=w2 at *
   have b0:=q2.c0;have b1:=q2.c1;have b2:=q2.c2;have b3:=q2.c3;have b4:=q2.c4;have b5:=q2.c5;have hB2:=hbr.trans (m2.mono hbr.size);have HV2:=E5 (HV.out.below m2);have HK2:=E5 (HK.out.below m2);clear a0 a1 a2 a3 a4 a5 m2 q2 HV HK hbr;go_wp2_with fail
   refine (Cs _ z w2 HK2.out.v).mono ?_;rintro e w3 ⟨v3,rfl,hv3,hb3⟩;have hB3:=hB2.trans (hb3.mono hB2.size);have hk3:IsK w3 v3 z:=⟨hv3,HK2.out.s⟩;obtain⟨sm,sp,sl,sc,sq,sk,sd,tm,tp,tl,tc,tq',tk,td,rfl⟩:=hk3.forms;have HV3:=E5 (HV2.out.below hb3);clear b0 b1 b2 b3 b4 b5 hb3 hB2 HV2 HK2 hv3;by_cases hz:z.im=0
   ·have hd:decide (z.im=0)=true:=decide_eq_true hz;have HO:=E5 (show js (zs.take (i+1))=true by rw[HO.out,hd]);rw[hd];clear hz hd HX;go_upto_region 6 with fail
    have q4:=bN.new w3 (.bool sm) (.slice sp sl sc) (.slice sq sk sd) (.bool tm) (.slice tp tl tc) (.slice tq' tk td) 153;have m4:=ak w3 (.cells #[.bool sm,.slice sp sl sc,.slice sq sk sd,.bool tm,.slice tp tl tc,.slice tq' tk td] 153);generalize w3.alloc (.cells #[.bool sm,.slice sp sl sc,.slice sq sk sd,.bool tm,.slice tp tl tc,.slice tq' tk td] 153)=w4 at *
    have b0:=q4.c0;have b1:=q4.c1;have b2:=q4.c2;have b3:=q4.c3;have b4:=q4.c4;have b5:=q4.c5;have hB4:=hB3.trans (m4.mono hB3.size);have hw4:=HV3.out.below m4;have hk4:=hk3.below m4;have hbs:=hB4.size;have hzl:(zs.take i).length<1000000000:=by rw[FA];omega
    clear q4 m4 hk3 HV3 hB3;go_wp2_with (at_builtin;refine ef 123 Tryz.underlying123 rfl (.tmp 25) (.tmp 27) rfl w.heap.size _ _ _ _ _ _ _ _ _ rfl hw4 hk4 rfl hzl hbs ?_)
    intro v' w5 hw5 hb5 _;have hB5:=hb5 _ _ hB4 (Fb _);rw[←HT.out] at hw5;clear hw4 hk4 hb5 hB4 b0 b1 b2 b3 b4 b5;go_wp2;go_roundw;case rel=>exact⟨i+1,by go_num,by omega,hw5,hB5,HO.out⟩
    case measure=>(first | (simp[intOf];done) | (simp[intOf];omega))
   ·have hd:decide (z.im=0)=false:=decide_eq_false hz;have HE:=E5 (HX.out hz);rw[hd];clear hz hd HX HO HT;go_wp2;refine bodyPost_ret (v:=.tuple #[.slice none 0 0,.bool false]) (by simp[results,Tryz.results199,go_sem]) rfl ⟨_,by rw[HE.out],hB3.trans ((ak w3 _).mono hB3.size)⟩
  ·have hin':i=zs.length:=by omega
   subst hin';have HO:=E5 (show js zs=true by have h:=hall.out;rwa [FD] at h);clear hown hi hall;go_wp2;refine bodyPost_ret (v:=.tuple #[u6,.bool true]) (by simp[results,Tryz.results199,go_sem]) rfl ⟨_,by rw[HO.out],hbr⟩
theorem CQ.norm_ne {c:CQ} (h:c≠⟨0,0⟩):c.norm≠0:=fun e=>h (lA e)
theorem CQ.div_mul {z c:CQ} (h:c≠⟨0,0⟩):(z.div c).mul c=z:=by
 have hn:=CQ.norm_ne h;obtain⟨a,b⟩:=z;obtain⟨x,y⟩:=c;simp only[CQ.div,CQ.mul,CQ.norm,CQ.mk.injEq] at hn ⊢;constructor<;>grind
theorem CQ.sub_self (z:CQ):z.sub z=⟨0,0⟩:=by
 obtain⟨a,b⟩:=z;simp only[CQ.sub,CQ.mk.injEq];constructor<;>grind
theorem CQ.mul_inv {z:CQ} (h:z≠⟨0,0⟩):z.mul ((CQ.real 1).div z)=CQ.real 1:=by
 have hn:=CQ.norm_ne h;obtain⟨x,y⟩:=z;simp only[CQ.div,CQ.mul,CQ.norm,CQ.real,CQ.mk.injEq] at hn ⊢;constructor<;>grind
theorem CQ.div_one (z:CQ):z.div (CQ.real 1)=z:=by
 obtain⟨x,y⟩:=z;simp only[CQ.div,CQ.norm,CQ.real];congr 1<;>grind
theorem CQ.mul_one (z:CQ):z.mul (CQ.real 1)=z:=by
 obtain⟨x,y⟩:=z;simp only[CQ.mul,CQ.real];congr 1<;>grind
theorem CQ.one_ne:CQ.real 1≠⟨0,0⟩:=by decide
def kl (zs:List CQ) (c:CQ):List CQ:=zs.map fun z=>z.div c
theorem jr (zs:List CQ) (c:CQ):(kl zs c).length=zs.length:=by simp[kl]
theorem Bb (zs:List CQ):kl zs (CQ.real 1)=zs:=by
 unfold kl;rw[show (fun z:CQ=>z.div (CQ.real 1))=id from funext fun z=>z.div_one,IE]
theorem yJ (zs:List CQ) (c:CQ) {i:Nat} (h:i<zs.length):(kl zs c).drop i=zs[i].div c :: (kl zs c).drop (i+1):=by
 rw[Gr (by rw[jr];exact h)];simp[kl]
theorem lw {c:CQ} (h:c≠⟨0,0⟩):da [c]=[c]:=by
 have:=iE [] c
 rwa [if_neg h] at this
theorem yh {a c:CQ} (h:c≠⟨0,0⟩):da [a,c]=[a,c]:=by
 have:=iE [a] c
 rwa [if_neg h] at this
theorem lV:∀ n:Nat,da (List.replicate n ⟨0,0⟩)=[]
 | 0=>rfl
 | n+1=>by
  rw[GZ,iE,if_pos rfl];exact lV n
theorem zX (c:CQ):xO [c]=[]:=rfl
theorem zY {a c:CQ} (h:c≠⟨0,0⟩):xO [a,c]=[c]:=by
 have e:jV [a,c]=[c]:=by
  show [c.mul (CQ.real (((0+1:Nat):Int):Rat))]=[c]
  rw[show CQ.real (((0+1:Nat):Int):Rat)=CQ.real 1 from rfl,CQ.mul_one]
 unfold xO;rw[e];exact lw h
theorem tB {c:CQ} (h:c≠⟨0,0⟩):rx [c] ((CQ.real 1).div c)=[CQ.real 1]:=by
 show da [c.mul ((CQ.real 1).div c)]=_
 rw[CQ.mul_inv h];exact lw CQ.one_ne
inductive eT:List CQ→Prop
 | one (c:CQ) (h:c≠⟨0,0⟩):eT [c]
 | two (a c:CQ) (h:c≠⟨0,0⟩):eT [a,c]
theorem eT.lean {zs:List CQ} (h:eT zs):da zs=zs:=by
 cases h with
 | one c h=>exact lw h
 | two a c h=>exact yh h
def bP (zs:List CQ):List (List CQ):=match zs with
 | []=>[]
 | [c]=>[[c]]
 | [a,c]=>[[a,c],[c]]
 | _=>[]
def iQ (s:Int) (p:Int×Int):Int×Int:=if s=0 then p else (if s=-p.2 then p.1+1 else p.1,s)
def j5 (x:Rat) (zs:List CQ):Int:=gL (atL zs (CQ.real x)).re 0
def rV (x:Rat) (l:List (List CQ)):Int×Int:=l.foldl (fun p q=>iQ (j5 x q) p) (0,0)
def dw (zs:List CQ) (x:Rat):Int:=(rV x (bP zs)).1
theorem xB (x:Rat) {l:List (List CQ)}{i:Nat} (h:i<l.length):rV x (l.take (i+1))=iQ (j5 x l[i]) (rV x (l.take i)):=by
 unfold rV;rw[←Fm h,List.foldl_append];rfl
open Go.RowKit Dg Dc
def Ov (D M:Nat) (q:Rat):Prop:=∃ n:Int,q=(n:Rat) / (D:Rat)∧n.natAbs≤M
theorem mw {D:Nat} (h:0<D):(D:Rat)≠0:=by
 intro e;have e2:((D:Int):Rat)=((0:Int):Rat):=e;have:=Rat.intCast_inj.1 e2;omega
theorem Ov.mono {D M M':Nat}{q:Rat} (h:Ov D M q) (hM:M≤M'):Ov D M' q:=by
 obtain⟨n,e,hn⟩:=h;exact⟨n,e,Fj hn hM⟩
theorem Ov.wide {D M:Nat}{q:Rat} (h:Ov D M q) (E:Nat) (hD:0<D) (hE:0<E):Ov (D*E) (M*E) q:=by
 obtain⟨n,e,hn⟩:=h;have h1:=mw hD;have h2:=mw hE;refine⟨n*E,?_,?_⟩
 ·rw[e,Rat.intCast_mul,Rat.natCast_mul]
  show (n:Rat) / (D:Rat)=(n:Rat)*((E:Nat):Rat) / ((D:Rat)*(E:Rat))
  grind
 ·rw[Gt];exact Fo _ hn
theorem Ov.add {D M N:Nat}{a b:Rat} (h1:Ov D M a) (h2:Ov D N b):Ov D (M+N) (a+b):=by
 obtain⟨n,e,hn⟩:=h1;obtain⟨m,f,hm⟩:=h2;refine⟨n+m,?_,by omega⟩;rw[e,f,Rat.intCast_add];grind
theorem wK (q:Rat):(q.num:Rat) / (q.den:Rat)=q:=by rw[←Rat.mkRat_eq_div,Rat.mkRat_self]
theorem Ov.bound {D M:Nat}{q:Rat} (h:Ov D M q) (hD:0<D):q.num.natAbs≤M∧q.den≤D:=by
 obtain⟨n,e,hn⟩:=h;have k1:=mw hD;have k2:=mw q.den_pos;have e2:(q.num:Rat) / (q.den:Rat)=q:=wK q
 have e3:(q.num:Rat)*(D:Rat)=(n:Rat)*(q.den:Rat):=by
  rw[e] at e2;grind
 have e4:q.num*(D:Int)=n*(q.den:Int):=by
  apply Rat.intCast_inj.1
  rw[Rat.intCast_mul,Rat.intCast_mul];exact e3
 have e5:q.num.natAbs*D=n.natAbs*q.den:=by
  have:=congrArg Int.natAbs e4;rw[Gt,Gt] at this;exact this
 have hc:Nat.Coprime q.num.natAbs q.den:=q.reduced;have d1:q.den ∣ D:=(Nat.Coprime.symm hc).dvd_of_dvd_mul_left ⟨n.natAbs,by rw[e5,Fw]⟩;have d2:q.num.natAbs ∣ n.natAbs:=hc.dvd_of_dvd_mul_right ⟨D,by rw[←e5]⟩;refine⟨?_,Hi hD d1⟩;rcases Gi n.natAbs with h0 | h0
 ·rw[h0,Gk] at e5;rcases Nat.mul_eq_zero.1 e5 with h | h
  ·omega
  ·omega
 ·exact Fj (Hi h0 d2) hn
theorem Ov.of (q:Rat):Ov q.den q.num.natAbs q:=⟨q.num,(wK q).symm,Fb _⟩
theorem Ov.ok {D M:Nat}{q:Rat} (h:Ov D M q) (hD:0<D) (h1:D<10 ^ 2000) (h2:M<10 ^ 2000):okQ q:=by
 obtain⟨b1,b2⟩:=h.bound hD;exact qU (FE b1 h2) (FE b2 h1)
structure OvC (D M:Nat) (z:CQ):Prop where
 re:Ov D M z.re
 im:Ov D M z.im
 pos:0<D
theorem OvC.ok {D M:Nat}{z:CQ} (h:OvC D M z) (h1:D<10 ^ 2000) (h2:M<10 ^ 2000):eC z=false:=by
 have k1:=(kO _).1 (h.re.ok h.pos h1 h2);have k2:=(kO _).1 (h.im.ok h.pos h1 h2);unfold eC;rw[k1,k2];rfl
structure gz (w:World) (g cap:Nat) (zs:List CQ):Prop where
 lt:g<w.heap.size
 fr:∀ j,w.frozen? ⟨g,j,none⟩=false
 nu:∀ j z,w.cell? ⟨g,j,none⟩≠some (.int .u64 z)
 row:∃ es:List Value,es.length=zs.length∧(∀ i (h:i<es.length) j u,(cellsOf es[i])[j]?=some u→w.cell? ⟨g,i*6+j,none⟩=some u)∧∀ i (h:i<es.length) (h':i<zs.length),IsK w es[i] zs[i]
 cap:zs.length≤cap∧cap≤maxLen
theorem gz.isP {w:World}{g cap:Nat}{zs:List CQ} (h:gz w g cap zs):IsP w (.slice (some ⟨g,0,none⟩) zs.length cap) zs:=by
 obtain⟨es,h1,h2,h3⟩:=h.row;refine⟨es,h1,⟨_,cap,by rw[h1],by rw[h1];exact h.cap.1,h.cap.2,fun _=>⟨g,0,rfl,h.lt,fun i hi j u hu=>?_⟩⟩,h3⟩;rw[F8];exact h2 i hi j u hu
theorem gz.below {w w':World}{g cap:Nat}{zs:List CQ} (h:gz w g cap zs) (hb:Below w.heap.size w w'):gz w' g cap zs:=by
 obtain⟨es,h1,h2,h3⟩:=h.row;have hblk:=hb.block g h.lt;have hc:∀ j,w'.cell? ⟨g,j,none⟩=w.cell? ⟨g,j,none⟩:=fun j=>World.cell?_of_block (w:=w) (w':=w') (a:=⟨g,j,none⟩) hblk;refine⟨Fe h.lt hb.size,fun j=>?_,fun j z=>by rw[hc];exact h.nu j z,⟨es,h1,fun i hi j u hu=>by rw[hc];exact h2 i hi j u hu,fun i hi hi'=>(h3 i hi hi').below hb⟩,h.cap⟩;have:=h.fr j;unfold World.frozen? at this ⊢;simp only[hblk];exact this
theorem gz.of_own {w:World}{base:Nat}{v:Value}{zs:List CQ} (h:dE w base v zs) (hz:0<zs.length):∃ g cap,v=.slice (some ⟨g,0,none⟩) zs.length cap∧base≤g∧gz w g cap zs:=by
 obtain⟨es,h1,h2,h3⟩:=h.p;have hrow:=eX (kv h1 h3) h2;rcases h2.2 with ⟨rfl,h0⟩ | ⟨g,cap,cur,rfl,hg,hh,hn,hm,hs,ht⟩
 ·omega
 ·obtain⟨p,c,e,e1,e2,e3⟩:=hrow;obtain⟨b,o,e4,hlt,hc⟩:=e3 (by omega);subst e4;simp only[Value.slice.injEq,Option.some.injEq,Addr.mk.injEq,and_true] at e;obtain⟨⟨rfl,rfl⟩,-,rfl⟩:=e;refine⟨g,cap,by rw[h1],hg,hlt,fun j=>by rw[World.frozen?,hh];simp,fun j z=>h.nu g rfl j z,⟨es,h1,fun i hi j u hu=>?_,h3⟩,by omega,hm⟩;have:=hc i hi j u hu
  rwa [F8] at this
theorem gz.set {w:World}{g cap k:Nat}{zs:List CQ}{a b c d e f:Value}{z:CQ} (h:gz w g cap zs) (hk:k<zs.length) (hK:IsK w (.agg #[a,b,c,d,e,f]) z) :
  gz (w.setCells g (k*6) [a,b,c,d,e,f]) g cap (zs.set k z)∧(∀ u l,IsU w u l→IsU (w.setCells g (k*6) [a,b,c,d,e,f]) u l)∧Below g w (w.setCells g (k*6) [a,b,c,d,e,f])∧∀ i,i≠g→(w.setCells g (k*6) [a,b,c,d,e,f]).heap[i]?=w.heap[i]?:=by
 obtain⟨es,h1,h2,h3⟩:=h.row;have h6:=kv h1 h3;obtain⟨xm,xp,xl,xc,xq,xk,xd,ym,yp,yl,yc,yq,yk,yd,he⟩:=hK.forms
 have hin:∀ j,j<6→(w.cell? ⟨g,k*6+j,none⟩).isSome=true:=fun j hj=>by
  have hlt:j<(cellsOf (es[k]'(by omega))).length:=by rw[h6 _ (Fu _)];exact hj
  rw[h2 k (by omega) j _ (Fr hlt)];rfl
 have hnot:∀ u∈[a,b,c,d,e,f],∀ z,u≠.int .u64 z:=by
  simp only[Value.agg.injEq,Array.mk.injEq,List.cons.injEq,and_true] at he;obtain⟨rfl,rfl,rfl,rfl,rfl,rfl⟩:=he;intro u hu z e;subst e;simp at hu
 have hcin:=World.cell?_setCells_in g [a,b,c,d,e,f] (k*6) w hin;have hcout:=fun x h=>World.cell?_setCells_out g [a,b,c,d,e,f] (k*6) w x h
 have hb:Below g w (w.setCells g (k*6) [a,b,c,d,e,f]) :=
  ((((((Below.refl g w).setCell (p:=⟨g,k*6,none⟩) (Fb _) a).setCell (p:=⟨g,k*6+1,none⟩) (Fb _) b).setCell (p:=⟨g,k*6+1+1,none⟩) (Fb _) c).setCell (p:=⟨g,k*6+1+1+1,none⟩) (Fb _) d).setCell (p:=⟨g,k*6+1+1+1+1,none⟩) (Fb _) e).setCell (p:=⟨g,k*6+1+1+1+1+1,none⟩) (Fb _) f
 have hU:∀ u l,IsU w u l→IsU (w.setCells g (k*6) [a,b,c,d,e,f]) u l:=fun u l hu=>by
  obtain⟨p,cp,e1,e2,e3,e4⟩:=hu;refine⟨p,cp,e1,e2,e3,fun hl=>?_⟩;obtain⟨b',o,e5,hlt,hc⟩:=e4 hl;refine⟨b',o,e5,Fe hlt hb.size,fun j hj=>?_⟩;rw[hcout ⟨b',o+j,none⟩ (fun (hbb:b'=g) _=>?_)]
  ·exact hc j hj
  ·subst hbb;exact absurd (hc j hj) (h.nu _ _)
 refine⟨⟨Fe h.lt hb.size,fun j=>?_,fun j z' hc=>?_,⟨es.set k (.agg #[a,b,c,d,e,f]),by simp[h1],fun i hi j u hu=>?_,fun i hi hi'=>?_⟩,by simpa using h.cap⟩,hU,hb,fun i hi=>?_⟩
 ·rw[World.frozen?_setCells];exact h.fr j
 ·by_cases hj:k*6≤j∧j<k*6+6
  ·obtain⟨r,rfl⟩:∃ r,j=k*6+r:=⟨j-k*6,by omega⟩;have hr:r < [a,b,c,d,e,f].length:=by simp;omega
   rw[hcin r hr] at hc;exact hnot _ (Fu hr) z' (Option.some.inj hc)
  ·rw[hcout ⟨g,j,none⟩ (fun _ _=>by show j<k*6∨k*6+[a,b,c,d,e,f].length≤j;simp;omega)] at hc;exact h.nu j z' hc
 ·have hi0:i<es.length:=by simpa using hi
  by_cases hik:k=i
  ·subst hik;rw[H6] at hu;have hr:j < [a,b,c,d,e,f].length:=(F9.1 hu).1;rw[hcin j hr];rw[←hu];show some _=[a,b,c,d,e,f][j]?;rw[Fr hr]
  ·rw[Ii hik] at hu
   have hj:j<6:=by
    have:=(F9.1 hu).1
    rwa [h6 _ (Fu hi0)] at this
   rw[hcout ⟨g,i*6+j,none⟩ (fun _ _=>by show i*6+j<k*6∨k*6+[a,b,c,d,e,f].length≤i*6+j;simp;omega)];exact h2 i hi0 j u hu
 ·by_cases hik:k=i
  ·subst hik;rw[H6,H6];exact hK.keepU hU
  ·rw[Ii hik,Ii hik];exact (h3 i (by simpa using hi) (by simpa using hi')).keepU hU
 ·show ((((((w.setCell ⟨g,k*6,none⟩ a).setCell ⟨g,k*6+1,none⟩ b).setCell ⟨g,k*6+1+1,none⟩ c).setCell ⟨g,k*6+1+1+1,none⟩ d).setCell ⟨g,k*6+1+1+1+1,none⟩ e).setCell ⟨g,k*6+1+1+1+1+1,none⟩ f).heap[i]?=_
  rw[Below.heap_setCell _ _ _ _ hi,Below.heap_setCell _ _ _ _ hi,Below.heap_setCell _ _ _ _ hi,Below.heap_setCell _ _ _ _ hi,Below.heap_setCell _ _ _ _ hi,Below.heap_setCell _ _ _ _ hi]
theorem dE.apart {w w':World}{base g:Nat}{v:Value}{zs:List CQ} (h:dE w base v zs) (hg:g<base) (hk:∀ i,i≠g→w'.heap[i]?=w.heap[i]?) (hU:∀ u l,IsU w u l→IsU w' u l):dE w' base v zs:=by
 obtain⟨es,h1,h2,h3⟩:=h.p;refine⟨⟨es,h1,⟨h2.1,?_⟩,fun i hi hi'=>(h3 i hi hi').keepU hU⟩,fun b hb j z hc=>?_⟩
 ·rcases h2.2 with h | ⟨b,cap,cur,rfl,hb,hh,r⟩
  ·exact Or.inl h
  ·exact Or.inr ⟨b,cap,cur,rfl,hb,by rw[hk b (by omega)];exact hh,r⟩
 ·have hlt:=(h2.lt b hb).1;rw[World.cell?_of_block (w:=w) (w':=w') (a:=⟨b,j,none⟩) (hk b (by omega))] at hc;exact h.nu b hb j z hc
theorem dE.lower {w:World}{base base':Nat}{v:Value}{zs:List CQ} (h:dE w base v zs) (hb:base'≤base):dE w base' v zs:=by
 obtain⟨es,h1,h2,h3⟩:=h.p;refine⟨⟨es,h1,⟨h2.1,?_⟩,h3⟩,h.nu⟩;rcases h2.2 with h | ⟨b,cap,cur,rfl,hg,r⟩
 ·exact Or.inl h
 ·exact Or.inr ⟨b,cap,cur,rfl,by omega,r⟩
theorem bN.blk {w w':World}{k:Nat}{a b c d e f:Value} (h:bN w k a b c d e f) (hs:w.heap.size≤w'.heap.size) (hb:w'.heap[k]?=w.heap[k]?):bN w' k a b c d e f:=by
 have hc:∀ j,w'.cell? ⟨k,j,none⟩=w.cell? ⟨k,j,none⟩:=fun j=>World.cell?_of_block (w:=w) (w':=w') (a:=⟨k,j,none⟩) hb;exact⟨Fe h.lt hs,(hc 0).trans h.c0,(hc 1).trans h.c1,(hc 2).trans h.c2,(hc 3).trans h.c3,(hc 4).trans h.c4,(hc 5).trans h.c5⟩
theorem cH.blk {w w':World}{k:Nat}{a b c d e f:Value} (h:cH w k a b c d e f) (hb:w'.heap[k]?=w.heap[k]?):cH w' k a b c d e f:=⟨hb.trans h.hp,h.na,h.nb,h.nc,h.nd,h.ne,h.nf⟩
theorem AW {w:World}{base:Nat}{a b c d e f:Value}{z:CQ} (hK:IsK w (.agg #[a,b,c,d,e,f]) z) (hb:base≤w.heap.size):dE (w.alloc (.cells #[a,b,c,d,e,f] 153)) base (.slice (some ⟨w.heap.size,0,none⟩) 1 1) [z]:=by
 obtain⟨xm,xp,xl,xc,xq,xk,xd,ym,yp,yl,yc,yq,yk,yd,he⟩:=hK.forms;simp only[Value.agg.injEq,Array.mk.injEq,List.cons.injEq,and_true] at he;obtain⟨rfl,rfl,rfl,rfl,rfl,rfl⟩:=he;refine⟨⟨[.agg #[.bool xm,.slice xp xl xc,.slice xq xk xd,.bool ym,.slice yp yl yc,.slice yq yk yd]],rfl,⟨rfl,Or.inr ⟨w.heap.size,1,_,rfl,hb,heap_alloc_new w _,Fb _,by simp[maxLen],rfl,rfl⟩⟩,fun i hi hi'=>?_⟩,fun g hg j u hc=>?_⟩
 ·simp at hi;subst hi;exact hK.below (ak _ _)
 ·simp only[Value.ownBlock,Option.some.injEq] at hg;subst hg;rw[World.cell?,heap_alloc_new] at hc;simp only[FZ,FB,if_false] at hc;have:=FU hc;simp at this
end Go.Proofs.YtbnkpcfjechfiaaGreatDoor
