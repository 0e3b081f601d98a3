/- L -/
import Derived.Test.YtgakllaobooabaaGreatDoorXPL6
import Derived.Test.YtgakllaobooabaaGreatDoorXB
set_option linter.all false
set_option maxRecDepth 100000
set_option maxHeartbeats 8000000
namespace Go.Proofs.YtgakllaobooabaaGreatDoor
open Go.RowKit Dg
theorem dI {o:Oper}{a:Act}{w:World}{K:Act->World->Prop}{Q:Exit->Act->World->Prop} (hg:o.guard=none) (h:wpList Tryz.prog #[o] (fun e a w=>e=.normal/\K a w) [o] a w):o.wp Tryz.prog a w K Q:=by
 unfold wpList at h;rw[if_pos (by simp only[Region.wanted,hg])] at h;rcases h with h | ⟨-,h⟩
 ·unfold Oper.wp at *
  generalize (execOp a.eval o).run Tryz.prog w=r at *
  cases r with
  | ok n w' =>
   cases n<;>simp only[Oper.upon] at h |- <;>
    first
     | exact h.2
     | exact Calls.mono h (fun e w'' he=>by
       cases e with
       | returned v=>exact he.2
       | panicked c=>exact absurd he.1 (by simp)
       | outgrown=>obtain⟨_,_,he,_⟩:=he;exact absurd he (by simp))
     | exact Rows.mono h (fun _ _ he=>he.2)
  | halt x w'=>cases x<;>simp only[Oper.upon] at h |-<;>first | (obtain⟨he,_⟩:=h;exact absurd he (by simp)) | exact h | (obtain⟨_,_,he,_⟩:=h;exact absurd he (by simp))
 ·obtain⟨_,_,he,_⟩:=h;exact absurd he (by simp)
theorem jS {w:World}{ops:Array Oper}{rest:List Oper}{o:Oper}{act:Act}{Q:Exit->Act->World->Prop} (T:TypeId)
  (hT:Tryz.prog.underlying T=some (.slice 65)) (hgd:o.guard=none) (s x:Operand)
  (ho:o.op=.call { callee:=.builtin .append,args:=#[s,x],argTypes:=#[T,T] })
  (base:Nat) (v:Value) (zs:List CQ) (a b c d e f:Value) (z:CQ) (hs:act.eval s=v) (hown:cC w base v zs) (hk:IsK w (.agg #[a,b,c,d,e,f]) z)
  (hx:act.eval x=.slice (some ⟨w.heap.size,0,none⟩) 1 1) (hlen:zs.length<1000000000) (hbase:base<=w.heap.size)
  (h:∀ v' w',cC w' base v' (zs++[z])->(∀ B w0,Below B w0 w->B<=base->Below B w0 w')->(w.alloc (.cells #[a,b,c,d,e,f] 65)).grownBy w' v.ownBlock->wpList Tryz.prog ops Q rest (act.put o.dst v') w') :
  wpList Tryz.prog ops Q (o :: rest) act (w.alloc (.cells #[a,b,c,d,e,f] 65)):=by
 obtain⟨es,h1,h2,h3⟩:=hown.p;obtain⟨i0,hi,hz0,hz1,hz2⟩:=info_parts vF;have hb:=ac w (.cells #[a,b,c,d,e,f] 65);obtain⟨xm,xp,xl,xc,xq,xk,xd,ym,yp,yl,yc,yq,yk,yd,he⟩:=hk.forms;obtain⟨rfl,rfl,rfl,rfl,rfl,rfl⟩:a=.bool xm/\b=.slice xp xl xc/\c=.slice xq xk xd/\d=.bool ym/\e=.slice yp yl yc/\f=.slice yq yk yd:=by simpa using he
 have hnu:=hown.nu.below h2 hb;refine d9 _ hgd s x T ho base 65 i0 _ 6 112 hT hi hz0 hz1 hz2 rfl (by decide) ?_ v es.length (dW es) hs (h2.alloc _) hnu ⟨w.heap.size,0,none⟩ 1 [.bool xm,.slice xp xl xc,.slice xq xk xd,.bool ym,.slice yp yl yc,.slice yq yk yd] hx rfl (od w _ _ _ _ _ _ _) ?_ ?_ ?_ ?_ ?_ ?_
 ·intro u hu z' e';subst e';simp[Value.cells] at hu
 ·intro u hu;simp at hu;rcases hu with rfl | rfl | rfl | rfl | rfl | rfl<;>rfl
 ·intro u hu z' e';subst e';simp at hu
 ·unfold maxLen;omega
 ·omega
 ·rw[size_alloc];omega
 ·intro v' w' g1 g2 g3;have hkeep:∀ u l,IsU w u l->IsU w' u l:=fun u l hu=>(hu.below hb).grown hnu g2;refine h v' w' ⟨⟨es++[.agg #[.bool xm,.slice xp xl xc,.slice xq xk xd,.bool ym,.slice yp yl yc,.slice yq yk yd]],by simp[h1],?_,?_⟩,g3⟩ ?_ g2
  ·rw[AO,jz];exact g1
  ·intro i hi' hi2;by_cases hlt:i<es.length
   ·rw[A8 hlt,A8 (by omega)];exact (h3 i hlt (by omega)).keepU hkeep
   ·have hie:i=es.length:=by simp at hi';omega
    subst hie;rw[A4 (AA _),A4 (by omega)];simpa[h1] using hk.keepU hkeep
  ·intro B w0 hB hBb;refine (hB.alloc (by have:=hbase;omega) _).grown g2 (by rw[size_alloc];omega) ?_;intro k hk';have:=(h2.lt k hk').1;omega
structure nX (k:Nat) (a b c d e f:Value) where
 w:World
 h:aW w k a b c d e f
theorem aW.grown {w w':World}{k:Nat}{a b c d e f:Value}{row:Option Nat} (h:aW w k a b c d e f) (hg:w.grownBy w' row) (hne:some k≠row):aW w' k a b c d e f :=
 ⟨AD h.lt hg.size,hg.cell h.c0 hne,hg.cell h.c1 hne,hg.cell h.c2 hne,hg.cell h.c3 hne,hg.cell h.c4 hne,hg.cell h.c5 hne⟩
theorem cC.block {w:World}{base:Nat}{v:Value}{zs:List CQ} (h:cC w base v zs) {g:Nat} (hg:v.ownBlock=some g):g<w.heap.size:=by
 obtain⟨es,-,h2,-⟩:=h.p;exact (World.ownsRow.lt h2 g hg).2
theorem nS {n:Nat} (h:n<34):SzV 10 (ct (CQ.real ((n:Nat):Int))):=by
 refine⟨⟨?_,dl _,?_⟩,.zero (by decide)⟩
 ·show (((n:Nat):Int):Rat).num.natAbs<10 ^ 10
  simp;omega
 ·show (((n:Nat):Int):Rat).den<10 ^ 10
  simp
def it (zs:List CQ):List CQ:=(List.range (zs.length-1)).map fun i=>(eP zs (i+1)).mul (CQ.real ((i+1:Nat):Int))
def s_ (zs:List CQ):List CQ:=bA (it zs)
theorem oC (zs:List CQ):(it zs).length=zs.length-1:=by simp[it]
theorem ta (zs:List CQ) {i:Nat} (h:i+1<zs.length):(it zs).take (i+1)=(it zs).take i++[zs[i+1].mul (CQ.real ((i+1:Nat):Int))]:=by
 have hl:i<(it zs).length:=by rw[oC];omega
 rw[show (it zs).take (i+1)=(it zs).take i++[(it zs)[i]] from (AM hl).symm];simp[it,eP,h]
theorem oD (vp:Value) (zs:List CQ) (w:World) (hp:IsP w vp zs) (hfit:∀ z∈zs,∀ n:Nat,n<33->SzV 10000 (ct (z.mul (CQ.real ((n:Nat):Int))))) (hlen:zs.length<=33) :
  Calls Tryz.prog 127 #[vp] w fun e w'=>∃ v',e=.returned v'/\IsP w' v' (s_ zs)/\Below w.heap.size w w':=by
 obtain⟨p,c,rfl,-⟩:=id hp.form;have HML:=At (oC zs);have HMT:=At (fun i h=>ta zs (i:=i) h);have HFIT:=At hfit;have HP:=At hp;clear hfit hp;go_enter Tryz.func127,Tryz.ntmps127;go_wp2;go_loopw [3,8] (fun s3 s8 wr=>∃ i:Nat,s8=.int .i64 i/\i<=zs.length/\cC wr w.heap.size s3 ((it zs).take (i-1))/\Below w.heap.size w wr) (fun _ s8 _=>zs.length-(intOf s8).toNat)
 case atStart=>exact⟨0,rfl,AI _,cC.nil _ _,Dv _ _⟩
 case round =>
  obtain⟨i,rfl,hin,hown,hbr⟩:=hrel;by_cases hi:i<zs.length
  ·obtain⟨B,o,rfl,hlt,xm,xp,xl,xc,xq,xk,xd,ym,yp,yl,yc,yq,yk,yd,hk,a0,a1,a2,a3,a4,a5⟩:=(HP.out.below hbr).get hi;have hvb0:=At (fun g (h:u3.ownBlock=some g)=>hown.block h);have HV:=At hown;have HK:=At hk;clear hown;go_upto_region 5 with fail
   have q2:=aW.new wr (.bool xm) (.slice xp xl xc) (.slice xq xk xd) (.bool ym) (.slice yp yl yc) (.slice yq yk yd) 65;have m2:=ac wr (.cells #[.bool xm,.slice xp xl xc,.slice xq xk xd,.bool ym,.slice yp yl yc,.slice yq yk yd] 65);have z2:=size_alloc wr (.cells #[.bool xm,.slice xp xl xc,.slice xq xk xd,.bool ym,.slice yp yl yc,.slice yq yk yd] 65);generalize wr.alloc (.cells #[.bool xm,.slice xp xl xc,.slice xq xk xd,.bool ym,.slice yp yl yc,.slice yq yk yd] 65)=w2 at *
   have hB2:=hbr.trans (m2.mono hbr.size);have HV2:=At (HV.out.below m2);have HK2:=At (HK.out.below m2);have hgr:wr.heap.size<w2.heap.size:=by omega
   clear a0 a1 a2 a3 a4 a5 m2 z2 HV HK hk;by_cases h0:i=0
   ·subst h0;clear q2 HK2;go_wp2;go_roundw;case rel=>exact⟨1,by go_num,by omega,HV2.out,hB2⟩
    case measure=>simp[intOf]<;>omega
   ·obtain⟨k,rfl⟩:∃ k,i=k+1:=⟨i-1,by omega⟩;have HT:=At (HMT.out k hi);have HZ:=At (HFIT.out zs[k+1] (AR hi) (k+1) (by omega));generalize zs[k+1]=z at HK2 HT HZ;rw[BH] at HV2;go_upto_region 6 with fail
    have hvb:∀ g,u3.ownBlock=some g->g<wr.heap.size:=hvb0.out;have m4:Below w2.heap.size w2 w2.drew:=(Dv _ _).drew;have q4:=q2.below m4
    haveI:Nonempty (nX wr.heap.size (.bool xm) (.slice xp xl xc) (.slice xq xk xd) (.bool ym) (.slice yp yl yc) (.slice yq yk yd)):=⟨⟨_,q2⟩⟩
    refine ai (fun w'=>∃ x:nX wr.heap.size (.bool xm) (.slice xp xl xc) (.slice xq xk xd) (.bool ym) (.slice yp yl yc) (.slice yq yk yd),w'=x.w) (fun i=>i == 3||i == 4||i == 5||i == 6||i == 7) (by kernel_rfl) (by kernel_rfl) ⟨⟨_,q4⟩,rfl⟩ ?_;have hB4:=hB2.trans (m4.mono hB2.size);have HV4:=At (HV2.out.below m4);have HK4:=At (HK2.out.below m4);clear q2 m4 hB2 HV2 HK2 hgr;generalize w2.drew=wd at *
    have e0:=fun x:nX wr.heap.size (.bool xm) (.slice xp xl xc) (.slice xq xk xd) (.bool ym) (.slice yp yl yc) (.slice yq yk yd)=>x.h.c0;have e1:=fun x:nX wr.heap.size (.bool xm) (.slice xp xl xc) (.slice xq xk xd) (.bool ym) (.slice yp yl yc) (.slice yq yk yd)=>x.h.c1;have e2:=fun x:nX wr.heap.size (.bool xm) (.slice xp xl xc) (.slice xq xk xd) (.bool ym) (.slice yp yl yc) (.slice yq yk yd)=>x.h.c2;have e3:=fun x:nX wr.heap.size (.bool xm) (.slice xp xl xc) (.slice xq xk xd) (.bool ym) (.slice yp yl yc) (.slice yq yk yd)=>x.h.c3;have e4:=fun x:nX wr.heap.size (.bool xm) (.slice xp xl xc) (.slice xq xk xd) (.bool ym) (.slice yp yl yc) (.slice yq yk yd)=>x.h.c4;have e5:=fun x:nX wr.heap.size (.bool xm) (.slice xp xl xc) (.slice xq xk xd) (.bool ym) (.slice yp yl yc) (.slice yq yk yd)=>x.h.c5;refine ae 3 0 _ _ _ (by kernel_rfl) ?_;simp only[AC,AG,AB,AF];repeat (go_big_quiet_step (fail))
    refine wpQuiet_nil ?_;clear e0 e1 e2 e3 e4 e5;refine af rfl rfl (fun K hK=>?_);go_simp;refine (gn ((k+1:Nat):Int) wd (by omega) (by omega)).mono ?_;rintro e w5 ⟨v5,rfl,hv5,hb5⟩;refine hK _ _ ⟨⟨_,q4.below hb5⟩,rfl⟩ ?_;clear hK K;try simp only[Act.put,Ax,Aw,Av,Au,Ay,Az]
    refine af rfl rfl (fun K hK=>?_);go_simp;refine (de _ _ _ hv5).mono ?_;rintro e w6 ⟨v6,rfl,hv6,hb6⟩;have hB6:=hb5.trans (hb6.mono hb5.size);rw[bO] at hv6;refine hK _ _ ⟨⟨_,q4.below hB6⟩,rfl⟩ ?_;clear hK K;try simp only[Act.put,Ax,Aw,Av,Au,Ay,Az]
    refine af rfl rfl (fun K hK=>?_);go_simp;have hsn:=nS (n:=k+1) (by omega);refine (ff _ _ _ _ _ (HK4.out.below hB6).v hv6 (HK4.out.s.fewV hsn (by decide))).mono ?_;rintro e w7 ⟨v7,rfl,hv7,hb7⟩;rw[a6] at hv7;have hB7:=hB6.trans (hb7.mono hB6.size);refine hK _ _ ⟨⟨_,q4.below hB7⟩,rfl⟩ ?_;clear hK K;try simp only[Act.put,Ax,Aw,Av,Au,Ay,Az]
    have hk7:IsK w7 v7 (z.mul (CQ.real ((k+1:Nat):Int))):=⟨hv7,HZ.out⟩;obtain⟨sm,sp,sl,sc,sq,sk,sd,tm,tp,tl,tc,tq',tk,td,rfl⟩:=hk7.forms;have hw7:=HV4.out.below hB7;have q7:=q4.below hB7;have hB47:=hB4.trans (hB7.mono hB4.size);have hbs:=hB47.size;have hzl:((it zs).take k).length<1000000000:=by rw[A6,HML.out];omega
    have q8:=q7.below (ac w7 (.cells #[.bool sm,.slice sp sl sc,.slice sq sk sd,.bool tm,.slice tp tl tc,.slice tq' tk td] 65));refine af rfl rfl (fun K hK=>?_);go_simp;refine hK _ _ ⟨⟨_,q8⟩,rfl⟩ ?_;clear hK K;try simp only[Act.put,Ax,Aw,Av,Au,Ay,Az]
    refine af rfl rfl (fun K hK=>?_);refine dI rfl ?_;refine jS 57 Tryz.underlying57 rfl (.tmp 15) (.tmp 21) rfl w.heap.size _ _ _ _ _ _ _ _ _ rfl hw7 hk7 rfl hzl hbs ?_;intro v' w9 hw9 hb9 hg9;have hB9:=hb9 _ _ hB47 (AA _);have q9:=q8.grown hg9 (fun e=>Nat.lt_irrefl _ (hvb _ e.symm));refine⟨rfl,hK _ _ ⟨⟨_,q9⟩,rfl⟩ ?_⟩;clear hK K;try simp only[Act.put,Ax,Aw,Av,Au,Ay,Az]
    rw[<-HT.out] at hw9;have HW9:=At hw9;clear q4 q7 q8 q9 hg9 hb9 hw9 hw7 hk7 hv7 hv6 hv5 hb5 hb6 hb7 hB4 hB6 hB7 hB47 hvb;refine ae 1 8 _ _ _ (by kernel_rfl) ?_;simp only[AC,AG,AB,AF];repeat (go_big_quiet_step (fail))
    refine wpQuiet_nil ?_;refine av ?_;go_wp2;go_roundw;case rel=>exact⟨k+1+1,by go_num,by omega,HW9.out,hB9⟩
    case measure=>simp[intOf]<;>omega
  ·have hin':i=zs.length:=by omega
   subst hin';have hw:=hown;rw[show (it zs).take (zs.length-1)=it zs from AK (by rw[HML.out];exact AA _)] at hw;have hml:(it zs).length<1000000:=by rw[HML.out];omega
   have HW:=At hw.isP;clear hown hi hw;go_wp2_with fail
   refine (mp _ _ wr HW.out hml).mono ?_;rintro e w4 ⟨v1,rfl,hv1,hb1⟩;go_wp2;go_ret;exact⟨_,rfl,hv1,hbr.trans (hb1.mono hbr.size)⟩
theorem xU (va:Value) (z:CQ) (w:World) (ha:IsV w va (ct z)) :
  Calls Tryz.prog 124 #[va] w fun e w'=>∃ v,e=.returned (.tuple #[v,.bool (decide (z.im=0))])/\IsV w' v (ct z)/\Below w.heap.size w w':=by
 obtain⟨a,b,c,d,e,f,rfl,hax,hay⟩:=id ha;obtain⟨xm,xp,xl,xc,xq,xk,xd,hxe⟩:=hax.form;obtain⟨ym,yp,yl,yc,yq,yk,yd,hye⟩:=hay.form;obtain⟨rfl,rfl,rfl⟩:=cH hxe;obtain⟨rfl,rfl,rfl⟩:=cH hye;clear hxe hye;go_enter Tryz.func124,Tryz.ntmps124;go_upto_region 1 with fail
 have q1:=aW.new w (.bool xm) (.slice xp xl xc) (.slice xq xk xd) (.bool ym) (.slice yp yl yc) (.slice yq yk yd) 65;have m1:=ac w (.cells #[.bool xm,.slice xp xl xc,.slice xq xk xd,.bool ym,.slice yp yl yc,.slice yq yk yd] 65);have z1:=size_alloc w (.cells #[.bool xm,.slice xp xl xc,.slice xq xk xd,.bool ym,.slice yp yl yc,.slice yq yk yd] 65);generalize w.alloc (.cells #[.bool xm,.slice xp xl xc,.slice xq xk xd,.bool ym,.slice yp yl yc,.slice yq yk yd] 65)=w1 at *
 have q3:=bm.new w1 (.bool false) (.slice none 0 0) (.slice none 0 0) (.bool false) (.slice none 0 0) (.slice none 0 0) nofun nofun nofun nofun nofun nofun;have m3:=ac w1 (.cells #[.bool false,.slice none 0 0,.slice none 0 0,.bool false,.slice none 0 0,.slice none 0 0] 65);generalize w1.alloc (.cells #[.bool false,.slice none 0 0,.slice none 0 0,.bool false,.slice none 0 0,.slice none 0 0] 65)=w3 at *
 have m4:Below w3.heap.size w3 w3.drew:=(Dv _ _).drew;rw[z1] at q3;refine ai (fun w'=>∃ x:ax (w.heap.size+1) w3.drew,w'=x.w) (fun i=>i == 2||i == 3) (by kernel_rfl) (by kernel_rfl) ⟨⟨_,Dv _ _⟩,rfl⟩ ?_;generalize w3.drew=wd at *
 have hB0:Below wd.heap.size wd wd:=Dv _ _;have M13:=m1.trans (m3.mono m1.size);have MD:=At (M13.trans (m4.mono M13.size));have B1:=(q1.below m3).below m4;have B3:=At (q3.below m4);have hz:w.heap.size+1<=wd.heap.size:=by have:=B3.out.lt;omega
 have e1:=fun x:ax (w.heap.size+1) wd=>B1.at x.h (by omega);have a0:=fun x=>(e1 x).c0;have a01:=fun x=>(e1 x).c1;have a02:=fun x=>(e1 x).c2;have a03:=fun x=>(e1 x).c3;have a04:=fun x=>(e1 x).c4;have a05:=fun x=>(e1 x).c5;have HAX:=At (hax.below MD.out);have HAY:=At (hay.below MD.out);have HV:=At (ha.below MD.out);clear e1 q1 q3 m1 m3 m4 z1 M13 hax hay B1 ha hB0;refine ae 2 0 _ _ _ (by kernel_rfl) ?_;simp only[AC,AG,AB,AF];repeat (go_big_quiet_step (fail))
 refine wpQuiet_nil ?_;refine af rfl rfl (fun K hK=>?_);go_simp;refine (dh _ _ wd HV.out).mono ?_;rintro e w4 ⟨rfl,hb4⟩;refine hK _ _ ⟨⟨_,hb4.mono hz⟩,rfl⟩ ?_;clear hK K;try simp only[Act.put,Ax,Aw,Av,Au,Ay,Az]
 have B8:=B3.out.below hb4;have k0:=B8.cell 0;have k1:=B8.cell 1;have k2:=B8.cell 2;have k3:=B8.cell 3;have k4:=B8.cell 4;have k5:=B8.cell 5;have f0:=B8.fr 0;have f1:=B8.fr 1;have f2:=B8.fr 2;have f3:=B8.fr 3;have f4:=B8.fr 4;have f5:=B8.fr 5;have P:=At (B8.putV (HAX.out.below hb4) (HAY.out.below hb4));refine af rfl rfl (fun K hK=>?_);go_simp;refine hK undef _ ⟨⟨_,P.out.2.2 _ _ (hb4.mono hz) (by omega)⟩,rfl⟩ ?_;clear hK K;try simp only[Act.put,Ax,Aw,Av,Au,Ay,Az]
 refine ae 1 4 _ _ _ (by kernel_rfl) ?_;simp only[AC,AG,AB,AF];repeat (go_big_quiet_step (fail))
 refine wpQuiet_nil ?_;refine av ?_;have M8:=At (P.out.2.2 _ _ (MD.out.trans (hb4.mono MD.out.size)) (by omega))
 have HD:=At (show decide ((ct z).y.n=0)=decide (z.im=0) by
  have h:=aP z.im
  show decide ((rt z.im).n=0)=_
  simp only[h])
 obtain⟨bb,hbb⟩:∃ bb,bb=decide (z.im=0):=⟨_,rfl⟩;rw[HD.out,<-hbb];have HBB:=At hbb;clear hbb;clear B8 k0 k1 k2 k3 k4 k5 f0 f1 f2 f3 f4 f5;go_wp2_with fail
 have q0:=P.out.1.cell 0;have q1:=P.out.1.cell 1;have q2:=P.out.1.cell 2;have q3:=P.out.1.cell 3;have q4:=P.out.1.cell 4;have q5:=P.out.1.cell 5;refine Du (v:=.tuple #[.agg #[.bool xm,.slice xp xl xc,.slice xq xk xd,.bool ym,.slice yp yl yc,.slice yq yk yd],.bool bb]) (by simp[results,Tryz.results124,go_sem,cP] at q0 q1 q2 q3 q4 q5 |-;simp[results,Tryz.results124,go_sem,q0,q1,q2,q3,q4,q5]) rfl ⟨_,by rw[HBB.out],P.out.2.1,M8.out⟩
def gV (zs:List CQ):Bool:=zs.all fun z=>decide (z.im=0)
theorem uL (v:Value) (zs:List CQ) (w:World) (hl:IsP w v zs) (hlen:zs.length<1000000) :
  Calls Tryz.prog 123 #[v,.func (.func 124) #[] #[]] w fun e w'=>∃ v',e=.returned (.tuple #[v',.bool (gV zs)])/\Below w.heap.size w w':=by
 obtain⟨p,c,rfl,-⟩:=id hl.form;have HL:=At hl;clear hl;go_enter Tryz.func123,Tryz.ntmps123;go_wp2;go_loopw [6,13] (fun s6 s13 wr=>∃ i:Nat,s13=.int .i64 i/\i<=zs.length/\cC wr w.heap.size s6 (zs.take i)/\Below w.heap.size w wr/\Hid (gV (zs.take i)=true)) (fun _ s13 _=>zs.length-(intOf s13).toNat)
 case atStart=>exact⟨0,rfl,AI _,cC.nil _ _,Dv _ _,rfl⟩
 case round =>
  obtain⟨i,rfl,hin,hown,hbr,hall⟩:=hrel;by_cases hi:i<zs.length
  ·obtain⟨B,o,rfl,hlt,xm,xp,xl,xc,xq,xk,xd,ym,yp,yl,yc,yq,yk,yd,hk,a0,a1,a2,a3,a4,a5⟩:=(HL.out.below hbr).get hi;have HT:=At (show zs.take (i+1)=zs.take i++[zs[i]] from (AM hi).symm)
   have HO:=At (show gV (zs.take (i+1))=decide (zs[i].im=0) by
    unfold gV at hall |-
    rw[<-AM hi,BY,hall.out];simp)
   have HX:=At (show zs[i].im≠0->gV zs=false from fun h=>by
    unfold gV;rw[Cr]
    exact⟨zs[i],AR hi,by simpa using h⟩)
   generalize zs[i]=z at hk HT HO HX;have HV:=At hown;have HK:=At hk;clear hown hk hall;go_upto_region 5 with fail
   have q2:=aW.new wr (.bool xm) (.slice xp xl xc) (.slice xq xk xd) (.bool ym) (.slice yp yl yc) (.slice yq yk yd) 65;have m2:=ac wr (.cells #[.bool xm,.slice xp xl xc,.slice xq xk xd,.bool ym,.slice yp yl yc,.slice yq yk yd] 65);generalize wr.alloc (.cells #[.bool xm,.slice xp xl xc,.slice xq xk xd,.bool ym,.slice yp yl yc,.slice yq yk yd] 65)=w2 at *
   have b0:=q2.c0;have b1:=q2.c1;have b2:=q2.c2;have b3:=q2.c3;have b4:=q2.c4;have b5:=q2.c5;have hB2:=hbr.trans (m2.mono hbr.size);have HV2:=At (HV.out.below m2);have HK2:=At (HK.out.below m2);clear a0 a1 a2 a3 a4 a5 m2 q2 HV HK hbr;go_wp2_with fail
   refine (xU _ z w2 HK2.out.v).mono ?_;rintro e w3 ⟨v3,rfl,hv3,hb3⟩;have hB3:=hB2.trans (hb3.mono hB2.size);have hk3:IsK w3 v3 z:=⟨hv3,HK2.out.s⟩;obtain⟨sm,sp,sl,sc,sq,sk,sd,tm,tp,tl,tc,tq',tk,td,rfl⟩:=hk3.forms;have HV3:=At (HV2.out.below hb3);clear b0 b1 b2 b3 b4 b5 hb3 hB2 HV2 HK2 hv3;by_cases hz:z.im=0
   ·have hd:decide (z.im=0)=true:=decide_eq_true hz;have HO:=At (show gV (zs.take (i+1))=true by rw[HO.out,hd]);rw[hd];clear hz hd HX;go_upto_region 6 with fail
    have q4:=aW.new w3 (.bool sm) (.slice sp sl sc) (.slice sq sk sd) (.bool tm) (.slice tp tl tc) (.slice tq' tk td) 65;have m4:=ac w3 (.cells #[.bool sm,.slice sp sl sc,.slice sq sk sd,.bool tm,.slice tp tl tc,.slice tq' tk td] 65);generalize w3.alloc (.cells #[.bool sm,.slice sp sl sc,.slice sq sk sd,.bool tm,.slice tp tl tc,.slice tq' tk td] 65)=w4 at *
    have b0:=q4.c0;have b1:=q4.c1;have b2:=q4.c2;have b3:=q4.c3;have b4:=q4.c4;have b5:=q4.c5;have hB4:=hB3.trans (m4.mono hB3.size);have hw4:=HV3.out.below m4;have hk4:=hk3.below m4;have hbs:=hB4.size;have hzl:(zs.take i).length<1000000000:=by rw[A6];omega
    clear q4 m4 hk3 HV3 hB3;go_wp2_with (at_builtin;refine df 57 Tryz.underlying57 rfl (.tmp 25) (.tmp 27) rfl w.heap.size _ _ _ _ _ _ _ _ _ rfl hw4 hk4 rfl hzl hbs ?_)
    intro v' w5 hw5 hb5 _;have hB5:=hb5 _ _ hB4 (AA _);rw[<-HT.out] at hw5;clear hw4 hk4 hb5 hB4 b0 b1 b2 b3 b4 b5;go_wp2;go_roundw;case rel=>exact⟨i+1,by go_num,by omega,hw5,hB5,HO.out⟩
    case measure=>simp[intOf]<;>omega
   ·have hd:decide (z.im=0)=false:=decide_eq_false hz;have HE:=At (HX.out hz);rw[hd];clear hz hd HX HO HT;go_wp2;refine Du (v:=.tuple #[.slice none 0 0,.bool false]) (by simp[results,Tryz.results123,go_sem]) rfl ⟨_,by rw[HE.out],hB3.trans ((ac w3 _).mono hB3.size)⟩
  ·have hin':i=zs.length:=by omega
   subst hin';have HO:=At (show gV zs=true by have h:=hall.out;rwa [AX] at h);clear hown hi hall;go_wp2;refine Du (v:=.tuple #[u6,.bool true]) (by simp[results,Tryz.results123,go_sem]) rfl ⟨_,by rw[HO.out],hbr⟩
end Go.Proofs.YtgakllaobooabaaGreatDoor
