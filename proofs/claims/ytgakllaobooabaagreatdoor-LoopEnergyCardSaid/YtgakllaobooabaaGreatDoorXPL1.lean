/- L -/
import Derived.Test.YtgakllaobooabaaGreatDoorXNC8
import Derived.Test.YtgakllaobooabaaGreatDoorXB
set_option linter.all false
set_option maxRecDepth 100000
set_option maxHeartbeats 8000000
namespace Go.Proofs.YtgakllaobooabaaGreatDoor
open Go.RowKit Dg
def bA (zs:List CQ):List CQ:=(zs.reverse.dropWhile fun z=>decide (z=⟨0,0⟩)).reverse
theorem fY (zs:List CQ) (z:CQ):bA (zs++[z])=if z=⟨0,0⟩ then bA zs else zs++[z]:=by
 unfold bA;rw[List.reverse_append,List.reverse_singleton,Cx,List.dropWhile_cons];by_cases h:z=⟨0,0⟩
 ·simp[h]
 ·simp[h]
theorem qN {zs:List CQ} (h:0<zs.length):bA zs=if zs[zs.length-1]=⟨0,0⟩ then bA (zs.take (zs.length-1)) else zs:=by
 have e:zs=zs.take (zs.length-1)++[zs[zs.length-1]]:=by
  have:=AM (l:=zs) (i:=zs.length-1) (by omega);rw[this,show zs.length-1+1=zs.length from by omega,AX]
 conv=>lhs;rw[e]
 rw[fY,<-e]
theorem ic (zs:List CQ):(bA zs).length<=zs.length:=by
 unfold bA;rw[List.length_reverse];refine AP (List.dropWhile_sublist _).length_le ?_;simp
theorem IsP.take {w:World}{p:Option Addr}{n c:Nat}{zs:List CQ} (h:IsP w (.slice p n c) zs) {m:Nat} (hm:m<=zs.length):IsP w (.slice p m c) (zs.take m):=by
 obtain⟨es,h1,⟨p',cap,e,h2,h3,h4⟩,h5⟩:=h;obtain⟨rfl,-,rfl⟩:p=p'/\n=es.length/\c=cap:=by simpa using e
 refine⟨es.take m,by simp;omega,⟨p,c,by simp;omega,by simp;omega,h3,?_⟩,fun i hi hi'=>?_⟩
 ·intro hl;obtain⟨b,o,e2,hlt,hc⟩:=h4 (by simp at hl;omega);exact⟨b,o,e2,hlt,fun i hi j u hu=>hc i (by simp at hi;omega) j u (by rw[Dd] at hu;exact hu)⟩
 ·rw[Dd,Dd];exact h5 i (by simp at hi;omega) (by simp at hi';omega)
theorem jU (z:CQ):((ct z).x.n=0/\(ct z).y.n=0)↔z=⟨0,0⟩:=by
 cases z with
 | mk x y =>
  show ((rt x).n=0/\(rt y).n=0)↔_
  rw[aP,aP];simp
def qO:Value->Nat
 | .slice _ n _=>n
 | _=>0
theorem mp (v:Value) (zs:List CQ) (w:World) (hl:IsP w v zs) (hlen:zs.length<1000000) :
  Calls Tryz.prog 117 #[v] w fun e w'=>∃ v',e=.returned v'/\IsP w' v' (bA zs)/\Below w.heap.size w w':=by
 obtain⟨p,c,rfl,hcc,-⟩:=id hl.form;have HL:=At hl;clear hl;go_enter Tryz.func117,Tryz.ntmps117;go_wp2;go_loopw [0] (fun s0 wr=>∃ m:Nat,s0=.slice p m c/\m<=zs.length/\Below w.heap.size w wr/\Hid (bA (zs.take m)=bA zs)) (fun s0 _=>qO s0)
 case atStart=>exact⟨_,rfl,AA _,Dv _ _,by unfold Hid;rw[AX]⟩
 case round =>
  obtain⟨m,rfl,hm,hbr,heq⟩:=hrel;have hL:=((HL.out.below hbr).take hm);by_cases h0:m=0
  ·subst h0;have HE:=At (show bA zs=[] by rw[<-heq.out];rfl);have HN:=At hL;clear hL;go_wp2;go_ret;exact⟨_,rfl,by rw[HE.out];simpa using HN.out,hbr⟩
  ·obtain⟨k,rfl⟩:∃ k,m=k+1:=⟨m-1,by omega⟩;have hl1:(zs.take (k+1)).length=k+1:=by simp;omega
   have hm1:k<(zs.take (k+1)).length:=by omega
   obtain⟨B,o,rfl,hlt,xm,xp,xl,xc,xq,xk,xd,ym,yp,yl,yc,yq,yk,yd,hk,a0,a1,a2,a3,a4,a5⟩:=hL.get hm1;have hstep:=qN (zs:=zs.take (k+1)) (by omega);have e1:(zs.take (k+1))[(zs.take (k+1)).length-1]'(by omega)=(zs.take (k+1))[k]:=by congr 1;omega
   rw[e1] at hstep;generalize hz:(zs.take (k+1))[k]=z at hstep hk;rw[hl1,List.take_take,BH,show min k (k+1)=k from by omega,heq.out] at hstep;have HS:=At hstep;have HN:=At hL;clear hz e1 hstep hL hl1 hm1 h0;by_cases hz:z=⟨0,0⟩
   ·have HZ:=At (xC _ (ct z) wr hk.v);rw[decide_eq_true ((jU z).2 hz)] at HZ;have HE:=At (show bA (zs.take k)=bA zs by rw[HS.out,if_pos hz]);clear hz;go_wp2_with fail
    refine HZ.out.mono ?_;rintro e w1 ⟨rfl,hb1⟩;have hB1:=hbr.trans (hb1.mono hbr.size);clear hb1 HZ hk a0 a1 a2 a3 a4 a5;have hkc:k<=c:=by omega
    go_wp2;go_roundw;case rel=>exact⟨k,by go_num,by omega,hB1,HE.out⟩
    case measure=>(first | (simp[qO];done) | (simp[qO];omega))
   ·have HZ:=At (xC _ (ct z) wr hk.v);rw[decide_eq_false (fun h=>hz ((jU z).1 h))] at HZ;have HE:=At (show bA zs=zs.take (k+1) by rw[HS.out,if_neg hz]);clear hz;go_wp2_with fail
    refine HZ.out.mono ?_;rintro e w1 ⟨rfl,hb1⟩;go_wp2;go_ret;exact⟨_,rfl,by rw[HE.out];exact HN.out.below hb1,hbr.trans (hb1.mono hbr.size)⟩
def cj (l:List ByteArray):Except Int (List CQ):=if 33<l.length then .error 14 else match allC l with | some zs=>.ok (bA zs) | none=>.error 10
def kl (w:World) (v:Value) (e:Int) (r:Except Int (List CQ)):Prop:=match r with | .ok zs=>e=0/\IsP w v zs | .error x=>e=x/\v=.slice none 0 0
theorem kl.below {w w':World}{v:Value}{e:Int}{r:Except Int (List CQ)} (h:kl w v e r) (hb:Below w.heap.size w w'):kl w' v e r:=by
 cases r with
 | ok zs=>exact⟨h.1,h.2.below hb⟩
 | error x=>exact h
theorem ij {l:List ByteArray}{e:Int} (h:cj l=.error e):e=14\/e=10:=by
 unfold cj at h
 split at h
 ·cases h;exact Or.inl rfl
 ·split at h
  ·cases h
  ·cases h;exact Or.inr rfl
theorem ik {l:List ByteArray}{zs:List CQ} (h:cj l=.ok zs):zs.length<=33:=by
 unfold cj at h
 split at h
 ·cases h
 ·split at h
  ·rename_i ys hy
   cases h
   have:=cU hy;have:=ic ys;omega
  ·cases h
theorem kx (v:Value) (l:List ByteArray) (w:World) (hl:IsS w v l) (hG:Gw w) :
  Calls Tryz.prog 84 #[v] w fun e w'=>∃ v' x,e=.returned (.tuple #[v',.int .i64 x])/\kl w' v' x (cj l)/\Below w.heap.size w w':=by
 obtain⟨p,c,rfl,-⟩:=id hl.form;have HL:=At hl;have HG:=At hG;clear hl hG;go_enter Tryz.func84,Tryz.ntmps84;by_cases h1:33<l.length
 ·have hd:decide ((33:Int)<(l.length:Int))=true:=by simp;omega
  have HE:=At (show cj l=.error 14 by unfold cj;rw[if_pos h1]);clear h1;go_wp2;refine Du (v:=.tuple #[.slice none 0 0,.int .i64 14]) (by simp[results,Tryz.results84,go_sem]) rfl ⟨_,_,rfl,by rw[HE.out];exact⟨rfl,rfl⟩,Dv _ _⟩
 ·have hd:decide ((33:Int)<(l.length:Int))=false:=by simp;omega
  have hll:l.length<1000000000:=by omega
  have hll2:l.length<1000000:=by omega
  have HE:=At (show cj l=match allC l with | some zs=>.ok (bA zs) | none=>.error 10 by unfold cj;rw[if_neg h1]);clear h1;go_wp2_with fail
  refine (m8 _ l w HL.out hll HG.out).mono ?_;rintro e w1 ⟨v1,ok,rfl,hcase,hb1⟩;rcases hcase with ⟨zs,hz,rfl,hv⟩ | ⟨hz,rfl,rfl⟩
  ·have hzl:zs.length<1000000:=by rw[cU hz];exact hll2
   rw[hz] at HE;clear hd hll hll2 hz;go_wp2_with fail
   refine (mp _ zs w1 hv hzl).mono ?_;rintro e w2 ⟨v2,rfl,hv2,hb2⟩;go_wp2;refine Du (v:=.tuple #[v2,.int .i64 0]) (by simp[results,Tryz.results84,go_sem]) rfl ⟨_,_,rfl,by rw[HE.out];exact⟨rfl,hv2⟩,hb1.trans (hb2.mono hb1.size)⟩
  ·rw[hz] at HE;clear hd hll hll2 hz;go_wp2;refine Du (v:=.tuple #[.slice none 0 0,.int .i64 10]) (by simp[results,Tryz.results84,go_sem]) rfl ⟨_,_,rfl,by rw[HE.out];exact⟨rfl,rfl⟩,hb1⟩
def d6 (a b:List ByteArray):Except Int (List CQ×List CQ):=match cj a with | .error e=>.error e | .ok x=>match cj b with | .error e=>.error e | .ok y=>.ok (x,y)
def uE (w:World) (u v:Value) (e:Int) (r:Except Int (List CQ×List CQ)):Prop:=match r with | .ok z=>e=0/\IsP w u z.1/\IsP w v z.2 | .error x=>e=x/\x≠0/\u=.slice none 0 0/\v=.slice none 0 0
theorem wh (va vb:Value) (a b:List ByteArray) (w:World) (ha:IsS w va a) (hb:IsS w vb b) (hG:Gw w) :
  Calls Tryz.prog 165 #[va,vb] w fun e w'=>∃ u v x,e=.returned (.tuple #[u,v,.int .i64 x])/\uE w' u v x (d6 a b)/\Below w.heap.size w w':=by
 have HB:=At (fun wx (hw:Below w.heap.size w wx)=>kx vb b wx (hb.below hw) (hG.below hw));have HA:=At (kx va a w ha hG);clear hG ha hb;go_enter Tryz.func165,Tryz.ntmps165;go_wp2_with fail
 refine HA.out.mono ?_;rintro e w1 ⟨u,x,rfl,hu,hb1⟩
 cases hpa:cj a with
 | error ea =>
  rw[hpa] at hu;obtain⟨rfl,rfl⟩:=hu;have HE:=At (show d6 a b=.error x by unfold d6;rw[hpa]);have hx:x≠0:=by rcases ij hpa with rfl | rfl<;>decide
  have hd:decide (x=0)=false:=decide_eq_false hx;clear hpa;go_wp2;refine Du (v:=.tuple #[.slice none 0 0,.slice none 0 0,.int .i64 x]) (by simp[results,Tryz.results165,go_sem]) rfl ⟨_,_,_,rfl,by rw[HE.out];exact⟨rfl,hx,rfl,rfl⟩,hb1⟩
 | ok zs =>
  rw[hpa] at hu;obtain⟨rfl,hu⟩:=hu;go_wp2_with fail
  refine (HB.out w1 hb1).mono ?_;rintro e w2 ⟨v,x,rfl,hv,hb2⟩;have hB2:=hb1.trans (hb2.mono hb1.size)
  cases hpb:cj b with
  | error eb =>
   rw[hpb] at hv;obtain⟨rfl,rfl⟩:=hv;have HE:=At (show d6 a b=.error x by unfold d6;rw[hpa];simp only;rw[hpb]);have hx:x≠0:=by rcases ij hpb with rfl | rfl<;>decide
   have hd:decide (x=0)=false:=decide_eq_false hx;clear hpa hpb;go_wp2;refine Du (v:=.tuple #[.slice none 0 0,.slice none 0 0,.int .i64 x]) (by simp[results,Tryz.results165,go_sem]) rfl ⟨_,_,_,rfl,by rw[HE.out];exact⟨rfl,hx,rfl,rfl⟩,hB2⟩
  | ok ys =>
   rw[hpb] at hv;obtain⟨rfl,hv⟩:=hv;have HE:=At (show d6 a b=.ok (zs,ys) by unfold d6;rw[hpa];simp only;rw[hpb]);clear hpa hpb;go_wp2;refine Du (v:=.tuple #[u,v,.int .i64 0]) (by simp[results,Tryz.results165,go_sem]) rfl ⟨_,_,_,rfl,by rw[HE.out];exact⟨rfl,hu.below hb2,hv⟩,hB2⟩
def eP (zs:List CQ) (i:Nat):CQ:=if h:i<zs.length then zs[i] else ⟨0,0⟩
theorem vJ {w:World}{v:Value} (h:IsV w v (ct (CQ.real 0))):IsK w v ⟨0,0⟩:=⟨h,⟨.zero (by decide),.zero (by decide)⟩⟩
theorem yS (v:Value) (zs:List CQ) (i:Nat) (w:World) (hl:IsP w v zs) (hi:i<1000000) (hzl:zs.length<1000000) :
  Calls Tryz.prog 192 #[v,.int .i64 i] w fun e w'=>∃ v',e=.returned v'/\IsK w' v' (eP zs i)/\Below w.heap.size w w':=by
 obtain⟨p,c,rfl,-⟩:=id hl.form;go_enter Tryz.func192,Tryz.ntmps192;go_upto_region 1 with fail
 have q3:=bm.new w (.bool false) (.slice none 0 0) (.slice none 0 0) (.bool false) (.slice none 0 0) (.slice none 0 0) nofun nofun nofun nofun nofun nofun;have m3:=ac w (.cells #[.bool false,.slice none 0 0,.slice none 0 0,.bool false,.slice none 0 0,.slice none 0 0] 65);generalize w.alloc (.cells #[.bool false,.slice none 0 0,.slice none 0 0,.bool false,.slice none 0 0,.slice none 0 0] 65)=w3 at *
 have MD:=At m3;have B3:=At q3;have HL:=At (hl.below m3);clear q3 m3 hl;by_cases h:i<zs.length
 ·have hd:decide ((i:Int)<(zs.length:Int))=true:=by simp;omega
  have hd2:decide (i<zs.length)=true:=decide_eq_true h;have HE:=At (show eP zs i=zs[i] by unfold eP;rw[dif_pos h]);obtain⟨B,o,rfl,hlt,xm,xp,xl,xc,xq,xk,xd,ym,yp,yl,yc,yq,yk,yd,hk,a0,a1,a2,a3,a4,a5⟩:=HL.out.get h;generalize zs[i]=z at hk HE;have HK:=At hk.s;have hv:=hk.v;obtain⟨x1,x2,x3,y1,y2,y3,he,hx,hy⟩:=hv;obtain⟨rfl,rfl,rfl,rfl,rfl,rfl⟩:.bool xm=x1/\.slice xp xl xc=x2/\.slice xq xk xd=x3/\.bool ym=y1/\.slice yp yl yc=y2/\.slice yq yk yd=y3:=by simpa using he
  have B8:=B3.out;have k0:=B8.cell 0;have k1:=B8.cell 1;have k2:=B8.cell 2;have k3:=B8.cell 3;have k4:=B8.cell 4;have k5:=B8.cell 5;have f0:=B8.fr 0;have f1:=B8.fr 1;have f2:=B8.fr 2;have f3:=B8.fr 3;have f4:=B8.fr 4;have f5:=B8.fr 5;have P:=At (B8.putV hx hy);have M8:=At (P.out.2.2 _ _ MD.out (by omega));clear hx hy he B8 hk;go_wp2_with fail
  have q0:=P.out.1.cell 0;have q1:=P.out.1.cell 1;have q2:=P.out.1.cell 2;have q3:=P.out.1.cell 3;have q4:=P.out.1.cell 4;have q5:=P.out.1.cell 5;refine Du (v:=.agg #[.bool xm,.slice xp xl xc,.slice xq xk xd,.bool ym,.slice yp yl yc,.slice yq yk yd]) (by simp[results,Tryz.results192,go_sem,cP] at q0 q1 q2 q3 q4 q5 |-;simp[results,Tryz.results192,go_sem,q0,q1,q2,q3,q4,q5]) rfl ⟨_,rfl,by rw[HE.out];exact⟨P.out.2.1,HK.out⟩,M8.out⟩
 ·have hd:decide ((i:Int)<(zs.length:Int))=false:=by simp;omega
  have hd2:decide (i<zs.length)=false:=decide_eq_false h;have HE:=At (show eP zs i=⟨0,0⟩ by unfold eP;rw[dif_neg h]);clear h HL;go_wp2_with fail
  refine (gn 0 w3 (by decide) (by decide)).mono ?_;rintro e w4 ⟨v4,rfl,hv4,hb4⟩;go_wp2_with fail
  refine (de _ _ _ hv4).mono ?_;rintro e w5 ⟨v5,rfl,hv5,hb5⟩;have hB5:=hb4.trans (hb5.mono hb4.size);have hv5:IsV w5 v5 (ct (CQ.real 0)):=by rw[<-bO];exact hv5
  obtain⟨x1,x2,x3,y1,y2,y3,rfl,hx,hy⟩:=hv5;obtain⟨xm,xp,xl,xc,xq,xk,xd,hxe⟩:=hx.form;obtain⟨ym,yp,yl,yc,yq,yk,yd,hye⟩:=hy.form;obtain⟨rfl,rfl,rfl⟩:=cH hxe;obtain⟨rfl,rfl,rfl⟩:=cH hye;have B8:=B3.out.below hB5;have k0:=B8.cell 0;have k1:=B8.cell 1;have k2:=B8.cell 2;have k3:=B8.cell 3;have k4:=B8.cell 4;have k5:=B8.cell 5;have f0:=B8.fr 0;have f1:=B8.fr 1;have f2:=B8.fr 2;have f3:=B8.fr 3;have f4:=B8.fr 4;have f5:=B8.fr 5;have P:=At (B8.putV hx hy);have M8:=At (P.out.2.2 _ _ (MD.out.trans (hB5.mono MD.out.size)) (by omega));clear hx hy hxe hye B8;go_wp2_with fail
  have q0:=P.out.1.cell 0;have q1:=P.out.1.cell 1;have q2:=P.out.1.cell 2;have q3:=P.out.1.cell 3;have q4:=P.out.1.cell 4;have q5:=P.out.1.cell 5;refine Du (v:=.agg #[.bool xm,.slice xp xl xc,.slice xq xk xd,.bool ym,.slice yp yl yc,.slice yq yk yd]) (by simp[results,Tryz.results192,go_sem,cP] at q0 q1 q2 q3 q4 q5 |-;simp[results,Tryz.results192,go_sem,q0,q1,q2,q3,q4,q5]) rfl ⟨_,rfl,by rw[HE.out];exact vJ P.out.2.1,M8.out⟩
def fJ (zs:List CQ):Bool:=zs.all fun z=>!cV z
def ee (zs:List CQ):List ByteArray:=zs.map fun z=>(b8 z).1
theorem zL (va:Value) (z:CQ) (w:World) (ha:IsV w va (ct z)) (hG:Gw w) :
  Calls Tryz.prog 191 #[va] w fun e w'=>e=.returned (.tuple #[.string (b8 z).1,.bool (!cV z)])/\Below w.heap.size w w':=by
 obtain⟨x,hx⟩:∃ x,x=(b8 z).1:=⟨_,rfl⟩;obtain⟨d,hd⟩:∃ d,d=(b8 z).2:=⟨_,rfl⟩
 have hdb:decide (d=0)=!cV z:=by
  rw[hd];unfold b8;cases cV z<;>simp
 have HB:=At hdb;obtain⟨a,b,c,d',e,f,rfl,hax,hay⟩:=id ha;have q1:=aW.new w a b c d' e f 65;have m1:=ac w (.cells #[a,b,c,d',e,f] 65);have HP:=At (tU _ z _ (ha.below m1) (hG.below m1));rw[<-hx,<-hd] at HP;rw[<-hx];have MD:=At m1;clear hx hd hdb ha hax hay m1;go_enter Tryz.func191,Tryz.ntmps191;go_upto_region 1 with fail
 generalize w.alloc (.cells #[a,b,c,d',e,f] 65)=w1 at *
 have a0:=q1.c0;have a1:=q1.c1;have a2:=q1.c2;have a3:=q1.c3;have a4:=q1.c4;have a5:=q1.c5;go_wp2_with fail
 refine HP.out.mono ?_;rintro e w2 ⟨rfl,hb2⟩;by_cases h0:d=0
 ·subst h0;have HE:=At (show (!cV z)=true by rw[<-HB.out];rfl);go_wp2;refine Du (v:=.tuple #[.string x,.bool true]) (by simp[results,Tryz.results191,go_sem]) rfl ⟨by rw[HE.out],MD.out.trans (hb2.mono MD.out.size)⟩
 ·have HE:=At (show (!cV z)=false by rw[<-HB.out];exact decide_eq_false h0);have hd0:decide (d=0)=false:=decide_eq_false h0;go_wp2;refine Du (v:=.tuple #[.string x,.bool false]) (by simp[results,Tryz.results191,go_sem,h0]) rfl ⟨by rw[HE.out],MD.out.trans (hb2.mono MD.out.size)⟩
theorem ze (v:Value) (zs:List CQ) (w:World) (hl:IsP w v zs) (hlen:zs.length<1000000) (hG:Gw w) :
  Calls Tryz.prog 190 #[v,.func (.func 191) #[] #[]] w fun e w'=>∃ v' ok,e=.returned (.tuple #[v',.bool ok])/\((fJ zs=true/\ok=true/\bU w' w.heap.size v' (ee zs))\/(fJ zs=false/\ok=false/\v'=.slice none 0 0))/\Below w.heap.size w w':=by
 obtain⟨p,c,rfl,-⟩:=id hl.form;have HL:=At hl;have HG:=At hG;have hpl:(ee zs).length=zs.length:=by simp[ee]
 have HPL:=At hpl;clear hl hG hpl;go_enter Tryz.func190,Tryz.ntmps190;go_wp2;go_loopw [6,13] (fun s6 s13 wr=>∃ i:Nat,s13=.int .i64 i/\i<=zs.length/\bU wr w.heap.size s6 ((ee zs).take i)/\Below w.heap.size w wr/\Hid (fJ (zs.take i)=true)) (fun _ s13 _=>zs.length-(intOf s13).toNat)
 case atStart=>exact⟨0,rfl,AI _,bU.nil _ _,Dv _ _,rfl⟩
 case round =>
  obtain⟨i,rfl,hin,hown,hbr,hall⟩:=hrel;by_cases hi:i<zs.length
  ·obtain⟨B,o,rfl,hlt,xm,xp,xl,xc,xq,xk,xd,ym,yp,yl,yc,yq,yk,yd,hk,a0,a1,a2,a3,a4,a5⟩:=(HL.out.below hbr).get hi
   have hstep:(ee zs).take (i+1)=(ee zs).take i++[(b8 zs[i]).1]:=by
    rw[<-AM (by rw[HPL.out];exact hi)];simp[ee]
   have hoks:fJ (zs.take (i+1))=!cV zs[i]:=by
    unfold fJ at hall |-;rw[<-AM hi,BY,hall.out];simp
   have hbad:cV zs[i]=true->fJ zs=false:=fun h=>by
    unfold fJ;rw[Cr];exact⟨zs[i],AR hi,by rw[h];decide⟩
   generalize zs[i]=z at hk hstep hoks hbad;have HT:=At hstep;have HO:=At hoks;have HX:=At hbad;have hw1:=hown;have hv:=At hk.v;clear hstep hoks hbad hall hown hk;go_upto_region 5 with fail
   have q1:=aW.new wr (.bool xm) (.slice xp xl xc) (.slice xq xk xd) (.bool ym) (.slice yp yl yc) (.slice yq yk yd) 65;have m1:=ac wr (.cells #[.bool xm,.slice xp xl xc,.slice xq xk xd,.bool ym,.slice yp yl yc,.slice yq yk yd] 65);generalize wr.alloc (.cells #[.bool xm,.slice xp xl xc,.slice xq xk xd,.bool ym,.slice yp yl yc,.slice yq yk yd] 65)=w2 at *
   have a0:=q1.c0;have a1:=q1.c1;have a2:=q1.c2;have a3:=q1.c3;have a4:=q1.c4;have a5:=q1.c5;have hB2:=hbr.trans (m1.mono hbr.size);have hw2:=hw1.below m1;have hv2:=At (hv.out.below m1);clear q1 m1 hw1 hv;go_wp2_with fail
   refine (zL _ z w2 hv2.out (HG.out.below hB2)).mono ?_;rintro e w3 ⟨rfl,hb3⟩;have hB3:=hB2.trans (hb3.mono hB2.size);have hw3:=hw2.below hb3;have hbs:=hB3.size;have hzl:((ee zs).take i).length<1000000000:=by simp[HPL.out];omega
   clear hb3 hB2 hw2 a0 a1 a2 a3 a4 a5
   cases hbz:cV z with
   | false =>
    have HO2:=At (show fJ (zs.take (i+1))=true by rw[HO.out,hbz];rfl);clear hbz;go_wp2_with (at_builtin;refine aT 22 Tryz.underlying22 rfl (.tmp 25) (.tmp 27) rfl w.heap.size _ _ _ rfl hw3 rfl hzl hbs ?_)
    intro v' w4 hw4 hb4;have hB4:=hb4 _ _ hB3 (AA _);rw[<-HT.out] at hw4;clear hw3 hb4 hB3;go_wp2;go_roundw;case rel=>exact⟨i+1,by go_num,by omega,hw4,hB4,HO2.out⟩
    case measure=>simp[intOf]<;>omega
   | true =>
    have HE:=At (HX.out hbz);clear hbz;go_wp2;refine Du (v:=.tuple #[.slice none 0 0,.bool false]) (by simp[results,Tryz.results190,go_sem]) rfl ⟨_,_,rfl,Or.inr ⟨HE.out,rfl,rfl⟩,hB3⟩
  ·have hin':i=zs.length:=by omega
   subst hin';have hw:=hown;rw[show (ee zs).take zs.length=ee zs from AK (by rw[HPL.out];exact AA _)] at hw;have HO:=hall.out;rw[AX] at HO;have HO:=At HO;clear hown hi hall;go_wp2;refine Du (v:=.tuple #[_,.bool true]) (by simp[results,Tryz.results190,go_sem]) rfl ⟨_,_,rfl,Or.inl ⟨HO.out,rfl,hw⟩,hbr⟩
def xJ (w:World) (base:Nat) (v:Value) (e:Int) (zs:List CQ):Prop:=(fJ zs=true/\e=0/\bU w base v (ee zs))\/(fJ zs=false/\e=11/\v=.slice none 0 0)
theorem y4 (v:Value) (zs:List CQ) (w:World) (hl:IsP w v zs) (hlen:zs.length<1000000) (hG:Gw w) :
  Calls Tryz.prog 166 #[v] w fun e w'=>∃ v' x,e=.returned (.tuple #[v',.int .i64 x])/\xJ w' w.heap.size v' x zs/\Below w.heap.size w w':=by
 have HP:=At (ze v zs w hl hlen hG);clear hl hG;go_enter Tryz.func166,Tryz.ntmps166;go_wp2_with fail
 refine HP.out.mono ?_;rintro e w1 ⟨u,ok,rfl,hc,hb⟩;rcases hc with ⟨h1,rfl,h3⟩ | ⟨h1,rfl,rfl⟩
 ·have HO:=At h1;clear h1;go_wp2;refine Du (v:=.tuple #[u,.int .i64 0]) (by simp[results,Tryz.results166,go_sem]) rfl ⟨_,_,rfl,Or.inl ⟨HO.out,rfl,h3⟩,hb⟩
 ·have HO:=At h1;clear h1;go_wp2;refine Du (v:=.tuple #[.slice none 0 0,.int .i64 11]) (by simp[results,Tryz.results166,go_sem]) rfl ⟨_,_,rfl,Or.inr ⟨HO.out,rfl,rfl⟩,hb⟩
end Go.Proofs.YtgakllaobooabaaGreatDoor
