/- L -/
import Derived.Test.YtlhpcoelfhjomaaGreatDoorQLP10
set_option linter.all false
set_option maxRecDepth 100000
set_option maxHeartbeats 8000000
namespace Go.Proofs.YtlhpcoelfhjomaaGreatDoor
open Go.RowKit Dg
def dq (zs:List CQ):List CQ:=(zs.reverse.dropWhile fun z=>decide (z=⟨0,0⟩)).reverse
theorem jG (zs:List CQ) (z:CQ):dq (zs++[z])=if z=⟨0,0⟩ then dq zs else zs++[z]:=by
 unfold dq;rw[List.reverse_append,List.reverse_singleton,Kw,List.dropWhile_cons];by_cases h:z=⟨0,0⟩
 ·simp[h]
 ·simp[h]
theorem yj {zs:List CQ} (h:0<zs.length):dq zs=if zs[zs.length-1]=⟨0,0⟩ then dq (zs.take (zs.length-1)) else zs:=by
 have e:zs=zs.take (zs.length-1)++[zs[zs.length-1]]:=by
  have:=IL (l:=zs) (i:=zs.length-1) (by omega);rw[this,show zs.length-1+1=zs.length from by omega,IZ]
 conv=>lhs;rw[e]
 rw[jG,<-e]
theorem kW (zs:List CQ):(dq zs).length<=zs.length:=by
 unfold dq;rw[List.length_reverse];refine IB (List.dropWhile_sublist _).length_le ?_;simp
theorem IsP.take {w:World}{p:Option Addr}{n c:Nat}{zs:List CQ} (h:IsP w (.slice p n c) zs) {m:Nat} (hm:m<=zs.length):IsP w (.slice p m c) (zs.take m):=by
 obtain⟨es,h1,⟨p',cap,e,h2,h3,h4⟩,h5⟩:=h;obtain⟨rfl,-,rfl⟩:p=p'/\n=es.length/\c=cap:=by simpa using e
 refine⟨es.take m,by simp;omega,⟨p,c,by simp;omega,by simp;omega,h3,?_⟩,fun i hi hi'=>?_⟩
 ·intro hl;obtain⟨b,o,e2,hlt,hc⟩:=h4 (by simp at hl;omega);exact⟨b,o,e2,hlt,fun i hi j u hu=>hc i (by simp at hi;omega) j u (by rw[KW] at hu;exact hu)⟩
 ·rw[KW,KW];exact h5 i (by simp at hi;omega) (by simp at hi';omega)
theorem nT (z:CQ):((ct z).x.n=0/\(ct z).y.n=0)↔z=⟨0,0⟩:=by
 cases z with
 | mk x y =>
  show ((rt x).n=0/\(rt y).n=0)↔_
  rw[bB,bB];simp
def yo:Value->Nat
 | .slice _ n _=>n
 | _=>0
theorem sw (v:Value) (zs:List CQ) (w:World) (hl:IsP w v zs) (hlen:zs.length<1000000) :
  Calls Tryz.prog 170 #[v] w fun e w'=>∃ v',e=.returned v'/\IsP w' v' (dq zs)/\Below w.heap.size w w':=by
 obtain⟨p,c,rfl,hcc,-⟩:=id hl.form;have HL:=Ip hl;clear hl;go_enter Tryz.func170,Tryz.ntmps170;go_wp2;go_loopw [0] (fun s0 wr=>∃ m:Nat,s0=.slice p m c/\m<=zs.length/\Below w.heap.size w wr/\Hid (dq (zs.take m)=dq zs)) (fun s0 _=>yo s0)
 case atStart=>exact⟨_,rfl,Iw _,LN _ _,by unfold Hid;rw[IZ]⟩
 case round =>
  obtain⟨m,rfl,hm,hbr,heq⟩:=hrel;have hL:=((HL.out.below hbr).take hm);by_cases h0:m=0
  ·subst h0;have HE:=Ip (show dq zs=[] by rw[<-heq.out];rfl);have HN:=Ip hL;clear hL;go_wp2;go_ret;exact⟨_,rfl,by rw[HE.out];simpa using HN.out,hbr⟩
  ·obtain⟨k,rfl⟩:∃ k,m=k+1:=⟨m-1,by omega⟩;have hl1:(zs.take (k+1)).length=k+1:=by simp;omega
   have hm1:k<(zs.take (k+1)).length:=by omega
   obtain⟨B,o,rfl,hlt,xm,xp,xl,xc,xq,xk,xd,ym,yp,yl,yc,yq,yk,yd,hk,a0,a1,a2,a3,a4,a5⟩:=hL.get hm1;have hstep:=yj (zs:=zs.take (k+1)) (by omega);have e1:(zs.take (k+1))[(zs.take (k+1)).length-1]'(by omega)=(zs.take (k+1))[k]:=by congr 1;omega
   rw[e1] at hstep;generalize hz:(zs.take (k+1))[k]=z at hstep hk;rw[hl1,Lr,JC,show min k (k+1)=k from by omega,heq.out] at hstep;have HS:=Ip hstep;have HN:=Ip hL;clear hz e1 hstep hL hl1 hm1 h0;by_cases hz:z=⟨0,0⟩
   ·have HZ:=Ip (EV _ (ct z) wr hk.v);rw[decide_eq_true ((nT z).2 hz)] at HZ;have HE:=Ip (show dq (zs.take k)=dq zs by rw[HS.out,if_pos hz]);clear hz;go_wp2_with fail
    refine HZ.out.mono ?_;rintro e w1 ⟨rfl,hb1⟩;have hB1:=LK hbr hb1;clear hb1 HZ hk a0 a1 a2 a3 a4 a5;have hkc:k<=c:=by omega
    go_wp2;go_roundw;case rel=>exact⟨k,by go_num,by omega,hB1,HE.out⟩
    case measure=>(first | (simp[yo];done) | (simp[yo];omega))
   ·have HZ:=Ip (EV _ (ct z) wr hk.v);rw[decide_eq_false (fun h=>hz ((nT z).1 h))] at HZ;have HE:=Ip (show dq zs=zs.take (k+1) by rw[HS.out,if_neg hz]);clear hz;go_wp2_with fail
    refine HZ.out.mono ?_;rintro e w1 ⟨rfl,hb1⟩;go_wp2;go_ret;exact⟨_,rfl,by rw[HE.out];exact HN.out.below hb1,LK hbr hb1⟩
def dY (l:List ByteArray):Except Int (List CQ):=if 33<l.length then .error 14 else match allC l with | some zs=>.ok (dq zs) | none=>.error 10
def oL (w:World) (v:Value) (e:Int) (r:Except Int (List CQ)):Prop:=match r with | .ok zs=>e=0/\IsP w v zs | .error x=>e=x/\v=.slice none 0 0
theorem oL.below {w w':World}{v:Value}{e:Int}{r:Except Int (List CQ)} (h:oL w v e r) (hb:Below w.heap.size w w'):oL w' v e r:=by
 cases r with
 | ok zs=>exact⟨h.1,h.2.below hb⟩
 | error x=>exact h
theorem lf {l:List ByteArray}{e:Int} (h:dY l=.error e):e=14\/e=10:=by
 unfold dY at h
 split at h
 ·cases h;exact Or.inl rfl
 ·split at h
  ·cases h
  ·cases h;exact Or.inr rfl
theorem lg {l:List ByteArray}{zs:List CQ} (h:dY l=.ok zs):zs.length<=33:=by
 unfold dY at h
 split at h
 ·cases h
 ·split at h
  ·rename_i ys hy
   cases h
   have:=io hy;have:=kW ys;omega
  ·cases h
theorem oV (v:Value) (l:List ByteArray) (w:World) (hl:IsS w v l) (hG:Gw w) :
  Calls Tryz.prog 124 #[v] w fun e w'=>∃ v' x,e=.returned (.tuple #[v',.int .i64 x])/\oL w' v' x (dY l)/\Below w.heap.size w w':=by
 obtain⟨p,c,rfl,-⟩:=id hl.form;have HL:=Ip hl;have HG:=Ip hG;clear hl hG;go_enter Tryz.func124,Tryz.ntmps124;by_cases h1:33<l.length
 ·have hd:decide ((33:Int)<(l.length:Int))=true:=by simp;omega
  have HE:=Ip (show dY l=.error 14 by unfold dY;rw[if_pos h1]);clear h1;go_wp2;refine LM (v:=.tuple #[.slice none 0 0,.int .i64 14]) (by simp[results,Tryz.results124,go_sem]) rfl ⟨_,_,rfl,by rw[HE.out];exact⟨rfl,rfl⟩,LN _ _⟩
 ·have hd:decide ((33:Int)<(l.length:Int))=false:=by simp;omega
  have hll:l.length<1000000000:=by omega
  have hll2:l.length<1000000:=by omega
  have HE:=Ip (show dY l=match allC l with | some zs=>.ok (dq zs) | none=>.error 10 by unfold dY;rw[if_neg h1]);clear h1;go_wp2_with fail
  refine (Cu _ l w HL.out hll HG.out).mono ?_;rintro e w1 ⟨v1,ok,rfl,hcase,hb1⟩;rcases hcase with ⟨zs,hz,rfl,hv⟩ | ⟨hz,rfl,rfl⟩
  ·have hzl:zs.length<1000000:=by rw[io hz];exact hll2
   rw[hz] at HE;clear hd hll hll2 hz;go_wp2_with fail
   refine (sw _ zs w1 hv hzl).mono ?_;rintro e w2 ⟨v2,rfl,hv2,hb2⟩;go_wp2;refine LM (v:=.tuple #[v2,.int .i64 0]) (by simp[results,Tryz.results124,go_sem]) rfl ⟨_,_,rfl,by rw[HE.out];exact⟨rfl,hv2⟩,LK hb1 hb2⟩
  ·rw[hz] at HE;clear hd hll hll2 hz;go_wp2;refine LM (v:=.tuple #[.slice none 0 0,.int .i64 10]) (by simp[results,Tryz.results124,go_sem]) rfl ⟨_,_,rfl,by rw[HE.out];exact⟨rfl,rfl⟩,hb1⟩
def gM (a b:List ByteArray):Except Int (List CQ×List CQ):=match dY a with | .error e=>.error e | .ok x=>match dY b with | .error e=>.error e | .ok y=>.ok (x,y)
def Cm (w:World) (u v:Value) (e:Int) (r:Except Int (List CQ×List CQ)):Prop:=match r with | .ok z=>e=0/\IsP w u z.1/\IsP w v z.2 | .error x=>e=x/\x≠0/\u=.slice none 0 0/\v=.slice none 0 0
theorem DY (va vb:Value) (a b:List ByteArray) (w:World) (ha:IsS w va a) (hb:IsS w vb b) (hG:Gw w) :
  Calls Tryz.prog 233 #[va,vb] w fun e w'=>∃ u v x,e=.returned (.tuple #[u,v,.int .i64 x])/\Cm w' u v x (gM a b)/\Below w.heap.size w w':=by
 have HB:=Ip (fun wx (hw:Below w.heap.size w wx)=>oV vb b wx (hb.below hw) (hG.below hw));have HA:=Ip (oV va a w ha hG);clear hG ha hb;go_enter Tryz.func233,Tryz.ntmps233;go_wp2_with fail
 refine HA.out.mono ?_;rintro e w1 ⟨u,x,rfl,hu,hb1⟩
 cases hpa:dY a with
 | error ea =>
  rw[hpa] at hu;obtain⟨rfl,rfl⟩:=hu;have HE:=Ip (show gM a b=.error x by unfold gM;rw[hpa]);have hx:x≠0:=by rcases lf hpa with rfl | rfl<;>decide
  have hd:decide (x=0)=false:=decide_eq_false hx;clear hpa;go_wp2;refine LM (v:=.tuple #[.slice none 0 0,.slice none 0 0,.int .i64 x]) (by simp[results,Tryz.results233,go_sem]) rfl ⟨_,_,_,rfl,by rw[HE.out];exact⟨rfl,hx,rfl,rfl⟩,hb1⟩
 | ok zs =>
  rw[hpa] at hu;obtain⟨rfl,hu⟩:=hu;go_wp2_with fail
  refine (HB.out w1 hb1).mono ?_;rintro e w2 ⟨v,x,rfl,hv,hb2⟩;have hB2:=LK hb1 hb2
  cases hpb:dY b with
  | error eb =>
   rw[hpb] at hv;obtain⟨rfl,rfl⟩:=hv;have HE:=Ip (show gM a b=.error x by unfold gM;rw[hpa];simp only;rw[hpb]);have hx:x≠0:=by rcases lf hpb with rfl | rfl<;>decide
   have hd:decide (x=0)=false:=decide_eq_false hx;clear hpa hpb;go_wp2;refine LM (v:=.tuple #[.slice none 0 0,.slice none 0 0,.int .i64 x]) (by simp[results,Tryz.results233,go_sem]) rfl ⟨_,_,_,rfl,by rw[HE.out];exact⟨rfl,hx,rfl,rfl⟩,hB2⟩
  | ok ys =>
   rw[hpb] at hv;obtain⟨rfl,hv⟩:=hv;have HE:=Ip (show gM a b=.ok (zs,ys) by unfold gM;rw[hpa];simp only;rw[hpb]);clear hpa hpb;go_wp2;refine LM (v:=.tuple #[u,v,.int .i64 0]) (by simp[results,Tryz.results233,go_sem]) rfl ⟨_,_,_,rfl,by rw[HE.out];exact⟨rfl,hu.below hb2,hv⟩,hB2⟩
def iA (zs:List CQ) (i:Nat):CQ:=if h:i<zs.length then zs[i] else ⟨0,0⟩
theorem Du {w:World}{v:Value} (h:IsV w v (ct (CQ.real 0))):IsK w v ⟨0,0⟩:=⟨h,⟨.zero (by decide),.zero (by decide)⟩⟩
theorem Gg (v:Value) (zs:List CQ) (i:Nat) (w:World) (hl:IsP w v zs) (hi:i<1000000) (hzl:zs.length<1000000) :
  Calls Tryz.prog 257 #[v,.int .i64 i] w fun e w'=>∃ v',e=.returned v'/\IsK w' v' (iA zs i)/\Below w.heap.size w w':=by
 obtain⟨p,c,rfl,-⟩:=id hl.form;go_enter Tryz.func257,Tryz.ntmps257;go_upto_region 1 with fail
 have q3:=du.new w (.bool false) (.slice none 0 0) (.slice none 0 0) (.bool false) (.slice none 0 0) (.slice none 0 0) nofun nofun nofun nofun nofun nofun;have m3:=aj w (.cells #[.bool false,.slice none 0 0,.slice none 0 0,.bool false,.slice none 0 0,.slice none 0 0] 93);generalize w.alloc (.cells #[.bool false,.slice none 0 0,.slice none 0 0,.bool false,.slice none 0 0,.slice none 0 0] 93)=w3 at *
 have MD:=Ip m3;have B3:=Ip q3;have HL:=Ip (hl.below m3);clear q3 m3 hl;by_cases h:i<zs.length
 ·have hd:decide ((i:Int)<(zs.length:Int))=true:=by simp;omega
  have hd2:decide (i<zs.length)=true:=decide_eq_true h;have HE:=Ip (show iA zs i=zs[i] by unfold iA;rw[dif_pos h]);obtain⟨B,o,rfl,hlt,xm,xp,xl,xc,xq,xk,xd,ym,yp,yl,yc,yq,yk,yd,hk,a0,a1,a2,a3,a4,a5⟩:=HL.out.get h;generalize zs[i]=z at hk HE;have HK:=Ip hk.s;have hv:=hk.v;obtain⟨x1,x2,x3,y1,y2,y3,he,hx,hy⟩:=hv;obtain⟨rfl,rfl,rfl,rfl,rfl,rfl⟩:.bool xm=x1/\.slice xp xl xc=x2/\.slice xq xk xd=x3/\.bool ym=y1/\.slice yp yl yc=y2/\.slice yq yk yd=y3:=by simpa using he
  have B8:=B3.out;have k0:=B8.cell 0;have k1:=B8.cell 1;have k2:=B8.cell 2;have k3:=B8.cell 3;have k4:=B8.cell 4;have k5:=B8.cell 5;have f0:=B8.fr 0;have f1:=B8.fr 1;have f2:=B8.fr 2;have f3:=B8.fr 3;have f4:=B8.fr 4;have f5:=B8.fr 5;have P:=Ip (B8.putV hx hy);have M8:=Ip (P.out.2.2 _ _ MD.out (by omega));clear hx hy he B8 hk;go_wp2_with fail
  have q0:=P.out.1.cell 0;have q1:=P.out.1.cell 1;have q2:=P.out.1.cell 2;have q3:=P.out.1.cell 3;have q4:=P.out.1.cell 4;have q5:=P.out.1.cell 5;refine LM (v:=.agg #[.bool xm,.slice xp xl xc,.slice xq xk xd,.bool ym,.slice yp yl yc,.slice yq yk yd]) (by simp[results,Tryz.results257,go_sem,eU] at q0 q1 q2 q3 q4 q5 |-;simp[results,Tryz.results257,go_sem,q0,q1,q2,q3,q4,q5]) rfl ⟨_,rfl,by rw[HE.out];exact⟨P.out.2.1,HK.out⟩,M8.out⟩
 ·have hd:decide ((i:Int)<(zs.length:Int))=false:=by simp;omega
  have hd2:decide (i<zs.length)=false:=decide_eq_false h;have HE:=Ip (show iA zs i=⟨0,0⟩ by unfold iA;rw[dif_neg h]);clear h HL;go_wp2_with fail
  refine (kJ 0 w3 (by decide) (by decide)).mono ?_;rintro e w4 ⟨v4,rfl,hv4,hb4⟩;go_wp2_with fail
  refine (fI _ _ _ hv4).mono ?_;rintro e w5 ⟨v5,rfl,hv5,hb5⟩;have hB5:=LK hb4 hb5;have hv5:IsV w5 v5 (ct (CQ.real 0)):=by rw[<-dX];exact hv5
  obtain⟨x1,x2,x3,y1,y2,y3,rfl,hx,hy⟩:=hv5;obtain⟨xm,xp,xl,xc,xq,xk,xd,hxe⟩:=hx.form;obtain⟨ym,yp,yl,yc,yq,yk,yd,hye⟩:=hy.form;obtain⟨rfl,rfl,rfl⟩:=fh hxe;obtain⟨rfl,rfl,rfl⟩:=fh hye;have B8:=B3.out.below hB5;have k0:=B8.cell 0;have k1:=B8.cell 1;have k2:=B8.cell 2;have k3:=B8.cell 3;have k4:=B8.cell 4;have k5:=B8.cell 5;have f0:=B8.fr 0;have f1:=B8.fr 1;have f2:=B8.fr 2;have f3:=B8.fr 3;have f4:=B8.fr 4;have f5:=B8.fr 5;have P:=Ip (B8.putV hx hy);have M8:=Ip (P.out.2.2 _ _ (LK MD.out hB5) (by omega));clear hx hy hxe hye B8;go_wp2_with fail
  have q0:=P.out.1.cell 0;have q1:=P.out.1.cell 1;have q2:=P.out.1.cell 2;have q3:=P.out.1.cell 3;have q4:=P.out.1.cell 4;have q5:=P.out.1.cell 5;refine LM (v:=.agg #[.bool xm,.slice xp xl xc,.slice xq xk xd,.bool ym,.slice yp yl yc,.slice yq yk yd]) (by simp[results,Tryz.results257,go_sem,eU] at q0 q1 q2 q3 q4 q5 |-;simp[results,Tryz.results257,go_sem,q0,q1,q2,q3,q4,q5]) rfl ⟨_,rfl,by rw[HE.out];exact Du P.out.2.1,M8.out⟩
def jk (zs:List CQ):Bool:=zs.all fun z=>!eK z
def gR (zs:List CQ):List ByteArray:=zs.map fun z=>(eB z).1
theorem He (va:Value) (z:CQ) (w:World) (ha:IsV w va (ct z)) (hG:Gw w) :
  Calls Tryz.prog 256 #[va] w fun e w'=>e=.returned (.tuple #[.string (eB z).1,.bool (!eK z)])/\Below w.heap.size w w':=by
 obtain⟨x,hx⟩:∃ x,x=(eB z).1:=⟨_,rfl⟩;obtain⟨d,hd⟩:∃ d,d=(eB z).2:=⟨_,rfl⟩
 have hdb:decide (d=0)=!eK z:=by
  rw[hd];unfold eB;cases eK z<;>simp
 have HB:=Ip hdb;obtain⟨a,b,c,d',e,f,rfl,hax,hay⟩:=id ha;have q1:=cC.new w a b c d' e f 93;have m1:=aj w (.cells #[a,b,c,d',e,f] 93);have HP:=Ip (D7 _ z _ (ha.below m1) (hG.below m1));rw[<-hx,<-hd] at HP;rw[<-hx];have MD:=Ip m1;clear hx hd hdb ha hax hay m1;go_enter Tryz.func256,Tryz.ntmps256;go_upto_region 1 with fail
 generalize w.alloc (.cells #[a,b,c,d',e,f] 93)=w1 at *
 have a0:=q1.c0;have a1:=q1.c1;have a2:=q1.c2;have a3:=q1.c3;have a4:=q1.c4;have a5:=q1.c5;go_wp2_with fail
 refine HP.out.mono ?_;rintro e w2 ⟨rfl,hb2⟩;by_cases h0:d=0
 ·subst h0;have HE:=Ip (show (!eK z)=true by rw[<-HB.out];rfl);go_wp2;refine LM (v:=.tuple #[.string x,.bool true]) (by simp[results,Tryz.results256,go_sem]) rfl ⟨by rw[HE.out],LK MD.out hb2⟩
 ·have HE:=Ip (show (!eK z)=false by rw[<-HB.out];exact decide_eq_false h0);have hd0:decide (d=0)=false:=decide_eq_false h0;go_wp2;refine LM (v:=.tuple #[.string x,.bool false]) (by simp[results,Tryz.results256,go_sem,h0]) rfl ⟨by rw[HE.out],LK MD.out hb2⟩
theorem GD (v:Value) (zs:List CQ) (w:World) (hl:IsP w v zs) (hlen:zs.length<1000000) (hG:Gw w) :
  Calls Tryz.prog 255 #[v,.func (.func 256) #[] #[]] w fun e w'=>∃ v' ok,e=.returned (.tuple #[v',.bool ok])/\((jk zs=true/\ok=true/\dh w' w.heap.size v' (gR zs))\/(jk zs=false/\ok=false/\v'=.slice none 0 0))/\Below w.heap.size w w':=by
 obtain⟨p,c,rfl,-⟩:=id hl.form;have HL:=Ip hl;have HG:=Ip hG;have hpl:(gR zs).length=zs.length:=by simp[gR]
 have HPL:=Ip hpl;clear hl hG hpl;go_enter Tryz.func255,Tryz.ntmps255;go_wp2;go_loopw [6,13] (fun s6 s13 wr=>∃ i:Nat,s13=.int .i64 i/\i<=zs.length/\dh wr w.heap.size s6 ((gR zs).take i)/\Below w.heap.size w wr/\Hid (jk (zs.take i)=true)) (fun _ s13 _=>zs.length-(intOf s13).toNat)
 case atStart=>exact⟨0,rfl,IF _,dh.nil _ _,LN _ _,rfl⟩
 case round =>
  obtain⟨i,rfl,hin,hown,hbr,hall⟩:=hrel;by_cases hi:i<zs.length
  ·obtain⟨B,o,rfl,hlt,xm,xp,xl,xc,xq,xk,xd,ym,yp,yl,yc,yq,yk,yd,hk,a0,a1,a2,a3,a4,a5⟩:=(HL.out.below hbr).get hi
   have hstep:(gR zs).take (i+1)=(gR zs).take i++[(eB zs[i]).1]:=by
    rw[<-IL (by rw[HPL.out];exact hi)];simp[gR]
   have hoks:jk (zs.take (i+1))=!eK zs[i]:=by
    unfold jk at hall |-;rw[<-IL hi,JW,hall.out];simp
   have hbad:eK zs[i]=true->jk zs=false:=fun h=>by
    unfold jk;rw[Kp];exact⟨zs[i],IS hi,by rw[h];decide⟩
   generalize zs[i]=z at hk hstep hoks hbad;have HT:=Ip hstep;have HO:=Ip hoks;have HX:=Ip hbad;have hw1:=hown;have hv:=Ip hk.v;clear hstep hoks hbad hall hown hk;go_upto_region 5 with fail
   have q1:=cC.new wr (.bool xm) (.slice xp xl xc) (.slice xq xk xd) (.bool ym) (.slice yp yl yc) (.slice yq yk yd) 93;have m1:=aj wr (.cells #[.bool xm,.slice xp xl xc,.slice xq xk xd,.bool ym,.slice yp yl yc,.slice yq yk yd] 93);generalize wr.alloc (.cells #[.bool xm,.slice xp xl xc,.slice xq xk xd,.bool ym,.slice yp yl yc,.slice yq yk yd] 93)=w2 at *
   have a0:=q1.c0;have a1:=q1.c1;have a2:=q1.c2;have a3:=q1.c3;have a4:=q1.c4;have a5:=q1.c5;have hB2:=LK hbr m1;have hw2:=hw1.below m1;have hv2:=Ip (hv.out.below m1);clear q1 m1 hw1 hv;go_wp2_with fail
   refine (He _ z w2 hv2.out (HG.out.below hB2)).mono ?_;rintro e w3 ⟨rfl,hb3⟩;have hB3:=LK hB2 hb3;have hw3:=hw2.below hb3;have hbs:=hB3.size;have hzl:((gR zs).take i).length<1000000000:=by simp[HPL.out];omega
   clear hb3 hB2 hw2 a0 a1 a2 a3 a4 a5
   cases hbz:eK z with
   | false =>
    have HO2:=Ip (show jk (zs.take (i+1))=true by rw[HO.out,hbz];rfl);clear hbz;go_wp2_with (at_builtin;refine bR 22 Tryz.underlying22 rfl (.tmp 25) (.tmp 27) rfl w.heap.size _ _ _ rfl hw3 rfl hzl hbs ?_)
    intro v' w4 hw4 hb4;have hB4:=hb4 _ _ hB3 (Iw _);rw[<-HT.out] at hw4;clear hw3 hb4 hB3;go_wp2;go_roundw;case rel=>exact⟨i+1,by go_num,by omega,hw4,hB4,HO2.out⟩
    case measure=>simp[intOf]<;>omega
   | true =>
    have HE:=Ip (HX.out hbz);clear hbz;go_wp2;refine LM (v:=.tuple #[.slice none 0 0,.bool false]) (by simp[results,Tryz.results255,go_sem]) rfl ⟨_,_,rfl,Or.inr ⟨HE.out,rfl,rfl⟩,hB3⟩
  ·have hin':i=zs.length:=by omega
   subst hin';have hw:=hown;rw[show (gR zs).take zs.length=gR zs from IE (by rw[HPL.out];exact Iw _)] at hw;have HO:=hall.out;rw[IZ] at HO;have HO:=Ip HO;clear hown hi hall;go_wp2;refine LM (v:=.tuple #[_,.bool true]) (by simp[results,Tryz.results255,go_sem]) rfl ⟨_,_,rfl,Or.inl ⟨HO.out,rfl,hw⟩,hbr⟩
def E3 (w:World) (base:Nat) (v:Value) (e:Int) (zs:List CQ):Prop:=(jk zs=true/\e=0/\dh w base v (gR zs))\/(jk zs=false/\e=11/\v=.slice none 0 0)
theorem Gn (v:Value) (zs:List CQ) (w:World) (hl:IsP w v zs) (hlen:zs.length<1000000) (hG:Gw w) :
  Calls Tryz.prog 234 #[v] w fun e w'=>∃ v' x,e=.returned (.tuple #[v',.int .i64 x])/\E3 w' w.heap.size v' x zs/\Below w.heap.size w w':=by
 have HP:=Ip (GD v zs w hl hlen hG);clear hl hG;go_enter Tryz.func234,Tryz.ntmps234;go_wp2_with fail
 refine HP.out.mono ?_;rintro e w1 ⟨u,ok,rfl,hc,hb⟩;rcases hc with ⟨h1,rfl,h3⟩ | ⟨h1,rfl,rfl⟩
 ·have HO:=Ip h1;clear h1;go_wp2;refine LM (v:=.tuple #[u,.int .i64 0]) (by simp[results,Tryz.results234,go_sem]) rfl ⟨_,_,rfl,Or.inl ⟨HO.out,rfl,h3⟩,hb⟩
 ·have HO:=Ip h1;clear h1;go_wp2;refine LM (v:=.tuple #[.slice none 0 0,.int .i64 11]) (by simp[results,Tryz.results234,go_sem]) rfl ⟨_,_,rfl,Or.inr ⟨HO.out,rfl,rfl⟩,hb⟩
def SzL (k:Nat) (zs:List CQ):Prop:=∀ z∈zs,SzV k (ct z)
theorem Bc {zs:List CQ}:∀ z∈dq zs,z∈zs:=by
 intro z hz;unfold dq at hz;rw[List.mem_reverse] at hz;exact List.mem_reverse.1 ((List.dropWhile_sublist _).mem hz)
theorem SzL.lean {k:Nat}{zs:List CQ} (h:SzL k zs):SzL k (dq zs):=fun z hz=>h z (Bc z hz)
theorem zn:∀ {l:List ByteArray}{zs:List CQ},allC l=some zs->SzL 2000 zs
 | [],zs,h=>by cases h;intro z hz;simp at hz
 | a :: l,zs,h=>by
  simp only[allC] at h
  cases ha:gJ a with
  | none=>rw[ha] at h;cases h
  | some z =>
   cases hl:allC l with
   | none=>rw[ha,hl] at h;cases h
   | some ys =>
    rw[ha,hl] at h
    cases h
    intro y hy;rcases Jv.1 hy with rfl | hy
    ·exact (vF ha).2.2
    ·exact zn hl y hy
theorem kB {l:List ByteArray}{zs:List CQ} (h:dY l=.ok zs):SzL 2000 zs:=by
 unfold dY at h
 split at h
 ·cases h
 ·split at h
  ·rename_i ys hy
   cases h
   exact (zn hy).lean
  ·cases h
theorem sK {a b:List ByteArray}{z:List CQ×List CQ} (h:gM a b=.ok z):dY a=.ok z.1/\dY b=.ok z.2:=by
 unfold gM at h
 split at h
 ·cases h
 ·rename_i x hx
  split at h
  ·cases h
  ·rename_i y hy
   cases h
   exact⟨hx,hy⟩
theorem SzL.item {k:Nat}{zs:List CQ} (h:SzL k zs) (hk:1<=k) (i:Nat):SzV k (ct (iA zs i)):=by
 unfold iA
 split
 ·exact h _ (IS _)
 ·exact⟨.zero hk,.zero hk⟩
structure Cg (f:CQ->CQ->CQ):Prop where
 on:∀ a b,SzV 2000 (ct a)->SzV 2000 (ct b)->SzV 10000 (ct (f a b))
theorem Db:Cg CQ.add:=⟨fun a b ha hb=>by rw[<-gF];exact (ha.plus hb).mono (by decide)⟩
theorem Dd:Cg CQ.sub:=⟨fun a b ha hb=>by rw[<-qi];exact (ha.plus hb.neg).mono (by decide)⟩
def dG (f:CQ->CQ->CQ) (p q:List CQ):List CQ:=(List.range (max p.length q.length)).map fun i=>f (iA p i) (iA q i)
theorem tX (f:CQ->CQ->CQ) (p q:List CQ) {i:Nat} (h:i<max p.length q.length):(dG f p q).take (i+1)=(dG f p q).take i++[f (iA p i) (iA q i)]:=by
 have hl:i<(dG f p q).length:=by simp[dG];omega
 rw[show (dG f p q).take (i+1)=(dG f p q).take i++[(dG f p q)[i]] from (IL hl).symm];simp[dG]
def eO (f:CQ->CQ->CQ) (p q:List CQ):List CQ:=dq (dG f p q)
theorem ku (f:CQ->CQ->CQ) (p q:List CQ):(dG f p q).length=max p.length q.length:=by simp[dG]
theorem zV {G:FuncId}{f:CQ->CQ->CQ} (hG:GAt G f) (hF:Cg f) (va vb:Value) (p q:List CQ) (w:World) (ha:IsP w va p) (hb:IsP w vb q) (hsp:SzL 2000 p) (hsq:SzL 2000 q) (hlp:p.length<1000000) (hlq:q.length<1000000) :
  Calls Tryz.prog 235 #[va,vb,.func (.func G) #[] #[]] w fun e w'=>∃ v',e=.returned v'/\IsP w' v' (eO f p q)/\Below w.heap.size w w':=by
 obtain⟨pa,ca,rfl,-⟩:=id ha.form;obtain⟨pb,cb,rfl,-⟩:=id hb.form;have EN:=hG.en;have HA:=Ip ha;have HB:=Ip hb;clear ha hb;have HML:=ku f p q;have HMT:=fun i h=>tX f p q (i:=i) h;obtain⟨n,hn⟩:∃ n,n=max p.length q.length:=⟨_,rfl⟩;have hn6:n<1000000:=by omega
 have hmax:max (p.length:Int) (q.length:Int)=(n:Int):=by rw[hn];omega
 rw[<-hn] at HML HMT;have HML:=Ip HML;have HMT:=Ip HMT;clear hn;go_enter Tryz.func235,Tryz.ntmps235;go_wp2;clear hmax;go_loopw [7,14] (fun s7 s14 wr=>∃ i:Nat,s14=.int .i64 i/\i<=n/\ej wr w.heap.size s7 ((dG f p q).take i)/\Below w.heap.size w wr) (fun _ s14 _=>n-(intOf s14).toNat)
 case atStart=>exact⟨0,rfl,IF _,ej.nil _ _,LN _ _⟩
 case round =>
  obtain⟨i,rfl,hin,hown,hbr⟩:=hrel;by_cases hi:i<n
  ·have HT:=Ip (HMT.out i hi);have hi6:i<1000000:=by omega
   have HV:=Ip hown;clear hown;go_wp2_with fail
   refine (Gg _ p i wr (HA.out.below hbr) hi6 hlp).mono ?_;rintro e w1 ⟨v1,rfl,hk1,hb1⟩;have hB1:=LK hbr hb1;go_wp2_with fail
   refine (Gg _ q i w1 (HB.out.below hB1) hi6 hlq).mono ?_;rintro e w2 ⟨v2,rfl,hk2,hb2⟩;have hB2:=LK hB1 hb2;go_wp2_with fail
   refine (hG.on _ _ _ _ w2 (hk1.below hb2) hk2).mono ?_;rintro e w3 ⟨v3,rfl,hv3,hb3⟩;have hB3:=LK hB2 hb3;have hk3:IsK w3 v3 (f (iA p i) (iA q i)):=⟨hv3,hF.on _ _ (hsp.item (by decide) i) (hsq.item (by decide) i)⟩;have hw3:=((HV.out.below hb1).below hb2).below hb3;obtain⟨xm,xp,xl,xc,xq,xk,xd,ym,yp,yl,yc,yq,yk,yd,rfl⟩:=hk3.forms;have hbs:=hB3.size;have hzl:((dG f p q).take i).length<1000000000:=by rw[IY,HML.out];omega
   clear hb1 hb2 hb3 hB1 hB2 hbr hv3 hk1 hk2 HV;go_wp2_with (at_builtin;refine fg 149 Tryz.underlying149 rfl (.tmp 17) (.tmp 26) rfl w.heap.size _ _ _ _ _ _ _ _ _ rfl hw3 hk3 rfl hzl hbs ?_)
   intro v' w4 hw4 hb4 _;have hB4:=hb4 _ _ hB3 (Iw _);rw[<-HT.out] at hw4;clear hw3 hb4 hB3;go_wp2;go_roundw;case rel=>exact⟨i+1,by go_num,by omega,hw4,hB4⟩
   case measure=>simp[intOf]<;>omega
  ·have hin':i=n:=by omega
   subst hin';have hw:=hown;rw[show (dG f p q).take i=dG f p q from IE (by rw[HML.out];exact Iw _)] at hw;have hml:(dG f p q).length<1000000:=by rw[HML.out];exact hn6
   have HW:=Ip hw.isP;clear hown hi hw;go_wp2_with fail
   refine (sw _ _ wr HW.out hml).mono ?_;rintro e w1 ⟨v1,rfl,hv1,hb1⟩;go_wp2;go_ret;exact⟨_,rfl,hv1,LK hbr hb1⟩
def ck (f:CQ->CQ->CQ) (a b:List ByteArray):List ByteArray×Int:=match gM a b with
 | .error e=>([],e)
 | .ok z=>if jk (eO f z.1 z.2)=true then (gR (eO f z.1 z.2),0) else ([],11)
theorem DW (va vb:Value) (a b:List ByteArray) (w:World) (ha:IsS w va a) (hb:IsS w vb b) (hG:Gw w) :
  Calls Tryz.prog 204 #[va,vb] w fun e w'=>∃ v',e=.returned (.tuple #[v',.int .i64 (ck CQ.add a b).2])/\IsS w' v' (ck CQ.add a b).1/\Below w.heap.size w w':=by
 have HP:=Ip (DY va vb a b w ha hb hG);have HG:=Ip hG;clear ha hb hG;go_enter Tryz.func204,Tryz.ntmps204;go_wp2_with fail
 refine HP.out.mono ?_;rintro e w1 ⟨u,v,x,rfl,hr,hb1⟩
 cases hpc:gM a b with
 | error ea =>
  rw[hpc] at hr;obtain⟨rfl,hx,rfl,rfl⟩:=hr;have HE:=Ip (show ck CQ.add a b=([],x) by unfold ck;rw[hpc]);have hd:decide (x=0)=false:=decide_eq_false hx;clear hpc HP;go_wp2;refine LM (v:=.tuple #[.slice none 0 0,.int .i64 x]) (by simp[results,Tryz.results204,go_sem]) rfl ⟨_,by rw[HE.out],by rw[HE.out];exact (dh.nil w1 0).isS,hb1⟩
 | ok z =>
  rw[hpc] at hr;obtain⟨p,q⟩:=z;obtain⟨rfl,hu,hv⟩:=hr;obtain⟨hp1,hp2⟩:=sK hpc;have s1:=kB hp1;have s2:=kB hp2;have l1:=lg hp1;have l2:=lg hp2;simp only at hu hv s1 s2 l1 l2
  have hml:(eO CQ.add p q).length<1000000:=by
   have h1:=kW (dG CQ.add p q);rw[ku] at h1;unfold eO;omega
  have HE:=Ip (show ck CQ.add a b=if jk (eO CQ.add p q)=true then (gR (eO CQ.add p q),0) else ([],11) by unfold ck;rw[hpc]);have HM:=Ip (zV Gm Db u v p q w1 hu hv s1 s2 (by omega) (by omega));clear hpc HP hp1 hp2 s1 s2 l1 l2 hu hv;go_wp2_with fail
  refine HM.out.mono ?_;rintro e w2 ⟨v2,rfl,hv2,hb2⟩;have hB2:=LK hb1 hb2;clear HM;go_wp2_with fail
  refine (Gn v2 _ w2 hv2 hml (HG.out.below hB2)).mono ?_;rintro e w3 ⟨v3,x,rfl,hc,hb3⟩;have hB3:=LK hB2 hb3;rcases hc with ⟨h1,rfl,h3⟩ | ⟨h1,rfl,rfl⟩
  ·have HE:=Ip (show ck CQ.add a b=(gR (eO CQ.add p q),0) by rw[HE.out,if_pos h1]);clear h1 hml;go_wp2;refine LM (v:=.tuple #[v3,.int .i64 0]) (by simp[results,Tryz.results204,go_sem]) rfl ⟨_,by rw[HE.out],by rw[HE.out];exact h3.isS,hB3⟩
  ·have HE:=Ip (show ck CQ.add a b=([],11) by rw[HE.out,if_neg (by rw[h1];decide)]);clear h1 hml;go_wp2;refine LM (v:=.tuple #[.slice none 0 0,.int .i64 11]) (by simp[results,Tryz.results204,go_sem]) rfl ⟨_,by rw[HE.out],by rw[HE.out];exact (dh.nil w3 0).isS,hB3⟩
theorem DX (va vb:Value) (a b:List ByteArray) (w:World) (ha:IsS w va a) (hb:IsS w vb b) (hG:Gw w) :
  Calls Tryz.prog 205 #[va,vb] w fun e w'=>∃ v',e=.returned (.tuple #[v',.int .i64 (ck CQ.sub a b).2])/\IsS w' v' (ck CQ.sub a b).1/\Below w.heap.size w w':=by
 have HP:=Ip (DY va vb a b w ha hb hG);have HG:=Ip hG;clear ha hb hG;go_enter Tryz.func205,Tryz.ntmps205;go_wp2_with fail
 refine HP.out.mono ?_;rintro e w1 ⟨u,v,x,rfl,hr,hb1⟩
 cases hpc:gM a b with
 | error ea =>
  rw[hpc] at hr;obtain⟨rfl,hx,rfl,rfl⟩:=hr;have HE:=Ip (show ck CQ.sub a b=([],x) by unfold ck;rw[hpc]);have hd:decide (x=0)=false:=decide_eq_false hx;clear hpc HP;go_wp2;refine LM (v:=.tuple #[.slice none 0 0,.int .i64 x]) (by simp[results,Tryz.results205,go_sem]) rfl ⟨_,by rw[HE.out],by rw[HE.out];exact (dh.nil w1 0).isS,hb1⟩
 | ok z =>
  rw[hpc] at hr;obtain⟨p,q⟩:=z;obtain⟨rfl,hu,hv⟩:=hr;obtain⟨hp1,hp2⟩:=sK hpc;have s1:=kB hp1;have s2:=kB hp2;have l1:=lg hp1;have l2:=lg hp2;simp only at hu hv s1 s2 l1 l2
  have hml:(eO CQ.sub p q).length<1000000:=by
   have h1:=kW (dG CQ.sub p q);rw[ku] at h1;unfold eO;omega
  have HE:=Ip (show ck CQ.sub a b=if jk (eO CQ.sub p q)=true then (gR (eO CQ.sub p q),0) else ([],11) by unfold ck;rw[hpc]);have HM:=Ip (zV Gi Dd u v p q w1 hu hv s1 s2 (by omega) (by omega));clear hpc HP hp1 hp2 s1 s2 l1 l2 hu hv;go_wp2_with fail
  refine HM.out.mono ?_;rintro e w2 ⟨v2,rfl,hv2,hb2⟩;have hB2:=LK hb1 hb2;clear HM;go_wp2_with fail
  refine (Gn v2 _ w2 hv2 hml (HG.out.below hB2)).mono ?_;rintro e w3 ⟨v3,x,rfl,hc,hb3⟩;have hB3:=LK hB2 hb3;rcases hc with ⟨h1,rfl,h3⟩ | ⟨h1,rfl,rfl⟩
  ·have HE:=Ip (show ck CQ.sub a b=(gR (eO CQ.sub p q),0) by rw[HE.out,if_pos h1]);clear h1 hml;go_wp2;refine LM (v:=.tuple #[v3,.int .i64 0]) (by simp[results,Tryz.results205,go_sem]) rfl ⟨_,by rw[HE.out],by rw[HE.out];exact h3.isS,hB3⟩
  ·have HE:=Ip (show ck CQ.sub a b=([],11) by rw[HE.out,if_neg (by rw[h1];decide)]);clear h1 hml;go_wp2;refine LM (v:=.tuple #[.slice none 0 0,.int .i64 11]) (by simp[results,Tryz.results205,go_sem]) rfl ⟨_,by rw[HE.out],by rw[HE.out];exact (dh.nil w3 0).isS,hB3⟩
def dT (zs:List CQ) (x:CQ):List CQ:=zs.map fun z=>z.mul x
def ux (zs:List CQ) (x:CQ):List CQ:=dq (dT zs x)
theorem uy (zs:List CQ) (x:CQ) {i:Nat} (h:i<zs.length):(dT zs x).take (i+1)=(dT zs x).take i++[zs[i].mul x]:=by
 have hl:i<(dT zs x).length:=by simp[dT,h]
 rw[show (dT zs x).take (i+1)=(dT zs x).take i++[(dT zs x)[i]] from (IL hl).symm];simp[dT]
theorem wT (zs:List CQ) (x:CQ):(dT zs x).length=zs.length:=by simp[dT]
theorem Ag (vp vx:Value) (zs:List CQ) (x:CQ) (w:World) (hp:IsP w vp zs) (hx:IsK w vx x) (hfit:∀ z∈zs,SzV 10000 (ct (z.mul x))) (hlen:zs.length<1000000) :
  Calls Tryz.prog 210 #[vp,vx] w fun e w'=>∃ v',e=.returned v'/\IsP w' v' (ux zs x)/\Below w.heap.size w w':=by
 obtain⟨p,c,rfl,-⟩:=id hp.form;obtain⟨ga,gb,gc,gd,ge,gf,rfl,-,-⟩:=id hx.v;have HML:=Ip (wT zs x);have HMT:=Ip (fun i h=>uy zs x (i:=i) h);have HFIT:=Ip hfit;clear hfit;go_enter Tryz.func210,Tryz.ntmps210;go_upto_region 1 with fail
 have q1:=cC.new w ga gb gc gd ge gf 93;have m1:=aj w (.cells #[ga,gb,gc,gd,ge,gf] 93);have z1:=size_alloc w (.cells #[ga,gb,gc,gd,ge,gf] 93);generalize w.alloc (.cells #[ga,gb,gc,gd,ge,gf] 93)=w1 at *
 have Q1:=Ip q1;have HP:=Ip (hp.below m1);have HX:=Ip (hx.below m1);have M1:=Ip m1;have hs1:w1.heap.size=w.heap.size+1:=z1;have hle1:w.heap.size<=w1.heap.size:=by omega
 clear q1 hp hx m1 z1 hs1;go_wp2;go_loopw [5,10] (fun s5 s10 wr=>∃ i:Nat,s10=.int .i64 i/\i<=zs.length/\ej wr w1.heap.size s5 ((dT zs x).take i)/\Below w1.heap.size w1 wr) (fun _ s10 _=>zs.length-(intOf s10).toNat)
 case atStart=>exact⟨0,rfl,IF _,ej.nil _ _,LN _ _⟩
 case round =>
  obtain⟨i,rfl,hin,hown,hbr⟩:=hrel;by_cases hi:i<zs.length
  ·obtain⟨B,o,rfl,hlt,xm,xp,xl,xc,xq,xk,xd,ym,yp,yl,yc,yq,yk,yd,hk,a0,a1,a2,a3,a4,a5⟩:=(HP.out.below hbr).get hi;have HT:=Ip (HMT.out i hi);have HZ:=Ip (HFIT.out zs[i] (IS hi));generalize zs[i]=z at hk HT HZ;have HV:=Ip hown;have HK:=Ip hk;clear hown hk;go_upto_region 5 with fail
   have q2:=cC.new wr (.bool xm) (.slice xp xl xc) (.slice xq xk xd) (.bool ym) (.slice yp yl yc) (.slice yq yk yd) 93;have m2:=aj wr (.cells #[.bool xm,.slice xp xl xc,.slice xq xk xd,.bool ym,.slice yp yl yc,.slice yq yk yd] 93);generalize wr.alloc (.cells #[.bool xm,.slice xp xl xc,.slice xq xk xd,.bool ym,.slice yp yl yc,.slice yq yk yd] 93)=w2 at *
   have b0:=q2.c0;have b1:=q2.c1;have b2:=q2.c2;have b3:=q2.c3;have b4:=q2.c4;have b5:=q2.c5;have hB2:=LK hbr m2;have q1:=Q1.out.below hB2;have a0:=q1.c0;have a1:=q1.c1;have a2:=q1.c2;have a3:=q1.c3;have a4:=q1.c4;have a5:=q1.c5;have HKx:=Ip (HX.out.below hB2);have HKz:=Ip (HK.out.below m2);have HV2:=Ip (HV.out.below m2);clear q1 q2 m2 hbr HV HK;go_wp2_with fail
   refine (jQ _ _ _ _ _ HKz.out.v HKx.out.v (HKz.out.s.fewV HKx.out.s (by decide))).mono ?_;rintro e w3 ⟨v3,rfl,hv3,hb3⟩;rw[dA] at hv3;have hk3:IsK w3 v3 (z.mul x):=⟨hv3,HZ.out⟩;have hB3:=LK hB2 hb3;have hw3:=HV2.out.below hb3;obtain⟨sm,sp,sl,sc,sq,sk,sd,tm,tp,tl,tc,tq',tk,td,rfl⟩:=hk3.forms;have hbs:=hB3.size;have hzl:((dT zs x).take i).length<1000000000:=by rw[IY,HML.out];omega
   clear hb3 hB2 hv3 HKx HKz HV2 a0 a1 a2 a3 a4 a5 b0 b1 b2 b3 b4 b5;go_wp2_with (at_builtin;refine fg 149 Tryz.underlying149 rfl (.tmp 14) (.tmp 18) rfl w1.heap.size _ _ _ _ _ _ _ _ _ rfl hw3 hk3 rfl hzl hbs ?_)
   intro v' w4 hw4 hb4 _;have hB4:=hb4 _ _ hB3 (Iw _);rw[<-HT.out] at hw4;clear hw3 hb4 hB3 hk3;go_wp2;go_roundw;case rel=>exact⟨i+1,by go_num,by omega,hw4,hB4⟩
   case measure=>simp[intOf]<;>omega
  ·have hin':i=zs.length:=by omega
   subst hin';have hw:=hown;rw[show (dT zs x).take zs.length=dT zs x from IE (by rw[HML.out];exact Iw _)] at hw;have hml:(dT zs x).length<1000000:=by rw[HML.out];exact hlen
   have HW:=Ip hw.isP;clear hown hi hw;go_wp2_with fail
   refine (sw _ _ wr HW.out hml).mono ?_;rintro e w4 ⟨v1,rfl,hv1,hb1⟩;go_wp2;go_ret;exact⟨_,rfl,hv1,M1.out.trans ((LK hbr hb1).mono hle1)⟩
end Go.Proofs.YtlhpcoelfhjomaaGreatDoor
