/- Lemmas of this claim. -/
import Derived.Test.YtbnkpcfjechfiaaGreatDoorYNC7
set_option linter.all false
set_option maxRecDepth 100000
set_option maxHeartbeats 8000000
namespace Go.Proofs.YtbnkpcfjechfiaaGreatDoor
open Go.RowKit Dg
def db (zs:List CQ):List CQ:=(zs.reverse.dropWhile fun z=>decide (z=⟨0,0⟩)).reverse
theorem iN (zs:List CQ) (z:CQ):db (zs++[z])=if z=⟨0,0⟩ then db zs else zs++[z]:=by
 unfold db;rw[List.reverse_append,List.reverse_singleton,Hw,List.dropWhile_cons];by_cases h:z=⟨0,0⟩
 ·simp[h]
 ·simp[h]
theorem uV {zs:List CQ} (h:0<zs.length):db zs=if zs[zs.length-1]=⟨0,0⟩ then db (zs.take (zs.length-1)) else zs:=by
 have e:zs=zs.take (zs.length-1)++[zs[zs.length-1]]:=by
  have:=FD (l:=zs) (i:=zs.length-1) (by omega);rw[this,show zs.length-1+1=zs.length from by omega,FQ]
 conv=>lhs;rw[e]
 rw[iN,←e]
theorem jU (zs:List CQ):(db zs).length≤zs.length:=by
 unfold db;rw[List.length_reverse];refine FB (List.dropWhile_sublist _).length_le ?_;simp
theorem IsP.take {w:World}{p:Option Addr}{n c:Nat}{zs:List CQ} (h:IsP w (.slice p n c) zs) {m:Nat} (hm:m≤zs.length):IsP w (.slice p m c) (zs.take m):=by
 obtain⟨es,h1,⟨p',cap,e,h2,h3,h4⟩,h5⟩:=h;obtain⟨rfl,-,rfl⟩:p=p'∧n=es.length∧c=cap:=by simpa using e
 refine⟨es.take m,by simp;omega,⟨p,c,by simp;omega,by simp;omega,h3,?_⟩,fun i hi hi'=>?_⟩
 ·intro hl;obtain⟨b,o,e2,hlt,hc⟩:=h4 (by simp at hl;omega);exact⟨b,o,e2,hlt,fun i hi j u hu=>hc i (by simp at hi;omega) j u (by rw[Ih] at hu;exact hu)⟩
 ·rw[Ih,Ih];exact h5 i (by simp at hi;omega) (by simp at hi';omega)
theorem mc (z:CQ):((ct z).x.n=0∧(ct z).y.n=0)↔z=⟨0,0⟩:=by
 cases z with
 | mk x y =>
  show ((rt x).n=0∧(rt y).n=0)↔_
  rw[bA,bA];simp
def uW:Value→Nat
 | .slice _ n _=>n
 | _=>0
theorem pX (v:Value) (zs:List CQ) (w:World) (hl:IsP w v zs) (hlen:zs.length<1000000) :
  Calls Tryz.prog 168 #[v] w fun e w'=>∃ v',e=.returned v'∧IsP w' v' (db zs)∧Below w.heap.size w w':=by
 obtain⟨p,c,rfl,hcc,-⟩:=id hl.form;have HL:=Fi hl;clear hl;go_enter Tryz.func168,Tryz.ntmps168;go_wp2;go_loopw [0] (fun s0 wr=>∃ m:Nat,s0=.slice p m c∧m≤zs.length∧Below w.heap.size w wr∧Hid (db (zs.take m)=db zs)) (fun s0 _=>uW s0)
 case atStart=>exact⟨_,rfl,Fq _,Below.refl _ _,by unfold Hid;rw[FQ]⟩
 case round =>
  obtain⟨m,rfl,hm,hbr,heq⟩:=hrel;have hL:=((HL.out.below hbr).take hm);by_cases h0:m=0
  ·subst h0;have HE:=Fi (show db zs=[] by rw[←heq.out];rfl);have HN:=Fi hL;clear hL;go_wp2;go_ret;exact⟨_,rfl,by rw[HE.out];simpa using HN.out,hbr⟩
  ·obtain⟨k,rfl⟩:∃ k,m=k+1:=⟨m-1,by omega⟩;have hl1:(zs.take (k+1)).length=k+1:=by simp;omega
   have hm1:k<(zs.take (k+1)).length:=by omega
   obtain⟨B,o,rfl,hlt,xm,xp,xl,xc,xq,xk,xd,ym,yp,yl,yc,yq,yk,yd,hk,a0,a1,a2,a3,a4,a5⟩:=hL.get hm1;have hstep:=uV (zs:=zs.take (k+1)) (by omega);have e1:(zs.take (k+1))[(zs.take (k+1)).length-1]'(by omega)=(zs.take (k+1))[k]:=by congr 1;omega
   rw[e1] at hstep;generalize hz:(zs.take (k+1))[k]=z at hstep hk;rw[hl1,IA,GW,show min k (k+1)=k from by omega,heq.out] at hstep;have HS:=Fi hstep;have HN:=Fi hL;clear hz e1 hstep hL hl1 hm1 h0;by_cases hz:z=⟨0,0⟩
   ·have HZ:=Fi (Cn _ (ct z) wr hk.v);rw[decide_eq_true ((mc z).2 hz)] at HZ;have HE:=Fi (show db (zs.take k)=db zs by rw[HS.out,if_pos hz]);clear hz;go_wp2_with fail
    refine HZ.out.mono ?_;rintro e w1 ⟨rfl,hb1⟩;have hB1:=hbr.trans (hb1.mono hbr.size);clear hb1 HZ hk a0 a1 a2 a3 a4 a5;have hkc:k≤c:=by omega
    go_wp2;go_roundw;case rel=>exact⟨k,by go_num,by omega,hB1,HE.out⟩
    case measure=>(first | (simp[uW];done) | (simp[uW];omega))
   ·have HZ:=Fi (Cn _ (ct z) wr hk.v);rw[decide_eq_false (fun h=>hz ((mc z).1 h))] at HZ;have HE:=Fi (show db zs=zs.take (k+1) by rw[HS.out,if_neg hz]);clear hz;go_wp2_with fail
    refine HZ.out.mono ?_;rintro e w1 ⟨rfl,hb1⟩;go_wp2;go_ret;exact⟨_,rfl,by rw[HE.out];exact HN.out.below hb1,hbr.trans (hb1.mono hbr.size)⟩
def dJ (l:List ByteArray):Except Int (List CQ):=if 33<l.length then .error 14 else match fx l with | some zs=>.ok (db zs) | none=>.error 10
def Ct (w:World) (v:Value) (e:Int) (r:Except Int (List CQ)):Prop:=match r with | .ok zs=>e=0∧IsP w v zs | .error x=>e=x∧v=.slice none 0 0
theorem j1 {l:List ByteArray}{e:Int} (h:dJ l=.error e):e=14∨e=10:=by
 unfold dJ at h
 split at h
 ·cases h;exact Or.inl rfl
 ·split at h
  ·cases h
  ·cases h;exact Or.inr rfl
theorem j3 {l:List ByteArray}{zs:List CQ} (h:dJ l=.ok zs):zs.length≤33:=by
 unfold dJ at h
 split at h
 ·cases h
 ·split at h
  ·rename_i ys hy
   cases h
   have:=gl hy;have:=jU ys;omega
  ·cases h
theorem ng (v:Value) (l:List ByteArray) (w:World) (hl:IsS w v l) (hG:Gw w) :
  Calls Tryz.prog 113 #[v] w fun e w'=>∃ v' x,e=.returned (.tuple #[v',.int .i64 x])∧Ct w' v' x (dJ l)∧Below w.heap.size w w':=by
 obtain⟨p,c,rfl,-⟩:=id hl.form;have HL:=Fi hl;have HG:=Fi hG;clear hl hG;go_enter Tryz.func113,Tryz.ntmps113;by_cases h1:33<l.length
 ·have hd:decide ((33:Int)<(l.length:Int))=true:=by simp;omega
  have HE:=Fi (show dJ l=.error 14 by unfold dJ;rw[if_pos h1]);clear h1;go_wp2;refine bodyPost_ret (v:=.tuple #[.slice none 0 0,.int .i64 14]) (by simp[results,Tryz.results113,go_sem]) rfl ⟨_,_,rfl,by rw[HE.out];exact⟨rfl,rfl⟩,Below.refl _ _⟩
 ·have hd:decide ((33:Int)<(l.length:Int))=false:=by simp;omega
  have hll:l.length<1000000000:=by omega
  have hll2:l.length<1000000:=by omega
  have HE:=Fi (show dJ l=match fx l with | some zs=>.ok (db zs) | none=>.error 10 by unfold dJ;rw[if_neg h1]);clear h1;go_wp2_with fail
  refine (zY _ l w HL.out hll HG.out).mono ?_;rintro e w1 ⟨v1,ok,rfl,hcase,hb1⟩;rcases hcase with ⟨zs,hz,rfl,hv⟩ | ⟨hz,rfl,rfl⟩
  ·have hzl:zs.length<1000000:=by rw[gl hz];exact hll2
   rw[hz] at HE;clear hd hll hll2 hz;go_wp2_with fail
   refine (pX _ zs w1 hv hzl).mono ?_;rintro e w2 ⟨v2,rfl,hv2,hb2⟩;go_wp2;refine bodyPost_ret (v:=.tuple #[v2,.int .i64 0]) (by simp[results,Tryz.results113,go_sem]) rfl ⟨_,_,rfl,by rw[HE.out];exact⟨rfl,hv2⟩,hb1.trans (hb2.mono hb1.size)⟩
  ·rw[hz] at HE;clear hd hll hll2 hz;go_wp2;refine bodyPost_ret (v:=.tuple #[.slice none 0 0,.int .i64 10]) (by simp[results,Tryz.results113,go_sem]) rfl ⟨_,_,rfl,by rw[HE.out];exact⟨rfl,rfl⟩,hb1⟩
def fI (a b:List ByteArray):Except Int (List CQ×List CQ):=match dJ a with | .error e=>.error e | .ok x=>match dJ b with | .error e=>.error e | .ok y=>.ok (x,y)
def zQ (w:World) (u v:Value) (e:Int) (r:Except Int (List CQ×List CQ)):Prop:=match r with | .ok z=>e=0∧IsP w u z.1∧IsP w v z.2 | .error x=>e=x∧x≠0∧u=.slice none 0 0∧v=.slice none 0 0
theorem Bj (va vb:Value) (a b:List ByteArray) (w:World) (ha:IsS w va a) (hb:IsS w vb b) (hG:Gw w) :
  Calls Tryz.prog 266 #[va,vb] w fun e w'=>∃ u v x,e=.returned (.tuple #[u,v,.int .i64 x])∧zQ w' u v x (fI a b)∧Below w.heap.size w w':=by
 have HB:=Fi (fun wx (hw:Below w.heap.size w wx)=>ng vb b wx (hb.below hw) (hG.below hw));have HA:=Fi (ng va a w ha hG);clear hG ha hb;go_enter Tryz.func266,Tryz.ntmps266;go_wp2_with fail
 refine HA.out.mono ?_;rintro e w1 ⟨u,x,rfl,hu,hb1⟩
 cases hpa:dJ a with
 | error ea =>
  rw[hpa] at hu;obtain⟨rfl,rfl⟩:=hu;have HE:=Fi (show fI a b=.error x by unfold fI;rw[hpa]);have hx:x≠0:=by rcases j1 hpa with rfl | rfl<;>decide
  have hd:decide (x=0)=false:=decide_eq_false hx;clear hpa;go_wp2;refine bodyPost_ret (v:=.tuple #[.slice none 0 0,.slice none 0 0,.int .i64 x]) (by simp[results,Tryz.results266,go_sem]) rfl ⟨_,_,_,rfl,by rw[HE.out];exact⟨rfl,hx,rfl,rfl⟩,hb1⟩
 | ok zs =>
  rw[hpa] at hu;obtain⟨rfl,hu⟩:=hu;go_wp2_with fail
  refine (HB.out w1 hb1).mono ?_;rintro e w2 ⟨v,x,rfl,hv,hb2⟩;have hB2:=hb1.trans (hb2.mono hb1.size)
  cases hpb:dJ b with
  | error eb =>
   rw[hpb] at hv;obtain⟨rfl,rfl⟩:=hv;have HE:=Fi (show fI a b=.error x by unfold fI;rw[hpa];simp only;rw[hpb]);have hx:x≠0:=by rcases j1 hpb with rfl | rfl<;>decide
   have hd:decide (x=0)=false:=decide_eq_false hx;clear hpa hpb;go_wp2;refine bodyPost_ret (v:=.tuple #[.slice none 0 0,.slice none 0 0,.int .i64 x]) (by simp[results,Tryz.results266,go_sem]) rfl ⟨_,_,_,rfl,by rw[HE.out];exact⟨rfl,hx,rfl,rfl⟩,hB2⟩
  | ok ys =>
   rw[hpb] at hv;obtain⟨rfl,hv⟩:=hv;have HE:=Fi (show fI a b=.ok (zs,ys) by unfold fI;rw[hpa];simp only;rw[hpb]);clear hpa hpb;go_wp2;refine bodyPost_ret (v:=.tuple #[u,v,.int .i64 0]) (by simp[results,Tryz.results266,go_sem]) rfl ⟨_,_,_,rfl,by rw[HE.out];exact⟨rfl,hu.below hb2,hv⟩,hB2⟩
def gz (zs:List CQ) (i:Nat):CQ:=if h:i<zs.length then zs[i] else ⟨0,0⟩
theorem AR {w:World}{v:Value} (h:IsV w v (ct (CQ.real 0))):IsK w v ⟨0,0⟩:=⟨h,⟨.zero (by decide),.zero (by decide)⟩⟩
theorem DI (v:Value) (zs:List CQ) (i:Nat) (w:World) (hl:IsP w v zs) (hi:i<1000000) (hzl:zs.length<1000000) :
  Calls Tryz.prog 287 #[v,.int .i64 i] w fun e w'=>∃ v',e=.returned v'∧IsK w' v' (gz zs i)∧Below w.heap.size w w':=by
 obtain⟨p,c,rfl,-⟩:=id hl.form;go_enter Tryz.func287,Tryz.ntmps287;go_upto_region 1 with fail
 have q3:=cQ.new w (.bool false) (.slice none 0 0) (.slice none 0 0) (.bool false) (.slice none 0 0) (.slice none 0 0) (by intro z e;cases e) (by intro z e;cases e) (by intro z e;cases e) (by intro z e;cases e) (by intro z e;cases e) (by intro z e;cases e);have m3:=aq w (.cells #[.bool false,.slice none 0 0,.slice none 0 0,.bool false,.slice none 0 0,.slice none 0 0] 153);generalize w.alloc (.cells #[.bool false,.slice none 0 0,.slice none 0 0,.bool false,.slice none 0 0,.slice none 0 0] 153)=w3 at *
 have MD:=Fi m3;have B3:=Fi q3;have HL:=Fi (hl.below m3);clear q3 m3 hl;by_cases h:i<zs.length
 ·have hd:decide ((i:Int)<(zs.length:Int))=true:=by simp;omega
  have hd2:decide (i<zs.length)=true:=decide_eq_true h;have HE:=Fi (show gz zs i=zs[i] by unfold gz;rw[dif_pos h]);obtain⟨B,o,rfl,hlt,xm,xp,xl,xc,xq,xk,xd,ym,yp,yl,yc,yq,yk,yd,hk,a0,a1,a2,a3,a4,a5⟩:=HL.out.get h;generalize zs[i]=z at hk HE;have HK:=Fi hk.s;have hv:=hk.v;obtain⟨x1,x2,x3,y1,y2,y3,he,hx,hy⟩:=hv;obtain⟨rfl,rfl,rfl,rfl,rfl,rfl⟩:.bool xm=x1∧.slice xp xl xc=x2∧.slice xq xk xd=x3∧.bool ym=y1∧.slice yp yl yc=y2∧.slice yq yk yd=y3:=by simpa using he
  have B8:=B3.out;have k0:=B8.cell 0;have k1:=B8.cell 1;have k2:=B8.cell 2;have k3:=B8.cell 3;have k4:=B8.cell 4;have k5:=B8.cell 5;have f0:=B8.fr 0;have f1:=B8.fr 1;have f2:=B8.fr 2;have f3:=B8.fr 3;have f4:=B8.fr 4;have f5:=B8.fr 5;have P:=Fi (B8.putV hx hy);have M8:=Fi (P.out.2.2 _ _ MD.out (by omega));clear hx hy he B8 hk;go_wp2_with fail
  have q0:=P.out.1.cell 0;have q1:=P.out.1.cell 1;have q2:=P.out.1.cell 2;have q3:=P.out.1.cell 3;have q4:=P.out.1.cell 4;have q5:=P.out.1.cell 5;refine bodyPost_ret (v:=.agg #[.bool xm,.slice xp xl xc,.slice xq xk xd,.bool ym,.slice yp yl yc,.slice yq yk yd]) (by simp[results,Tryz.results287,go_sem,dZ] at q0 q1 q2 q3 q4 q5 ⊢;simp[results,Tryz.results287,go_sem,q0,q1,q2,q3,q4,q5]) rfl ⟨_,rfl,by rw[HE.out];exact⟨P.out.2.1,HK.out⟩,M8.out⟩
 ·have hd:decide ((i:Int)<(zs.length:Int))=false:=by simp;omega
  have hd2:decide (i<zs.length)=false:=decide_eq_false h;have HE:=Fi (show gz zs i=⟨0,0⟩ by unfold gz;rw[dif_neg h]);clear h HL;go_wp2_with fail
  refine (jJ 0 w3 (by decide) (by decide)).mono ?_;rintro e w4 ⟨v4,rfl,hv4,hb4⟩;go_wp2_with fail
  refine (eR _ _ _ hv4).mono ?_;rintro e w5 ⟨v5,rfl,hv5,hb5⟩;have hB5:=hb4.trans (hb5.mono hb4.size);have hv5:IsV w5 v5 (ct (CQ.real 0)):=by rw[←dx];exact hv5
  obtain⟨x1,x2,x3,y1,y2,y3,rfl,hx,hy⟩:=hv5;obtain⟨xm,xp,xl,xc,xq,xk,xd,hxe⟩:=hx.form;obtain⟨ym,yp,yl,yc,yq,yk,yd,hye⟩:=hy.form;obtain⟨rfl,rfl,rfl⟩:=et hxe;obtain⟨rfl,rfl,rfl⟩:=et hye;have B8:=B3.out.below hB5;have k0:=B8.cell 0;have k1:=B8.cell 1;have k2:=B8.cell 2;have k3:=B8.cell 3;have k4:=B8.cell 4;have k5:=B8.cell 5;have f0:=B8.fr 0;have f1:=B8.fr 1;have f2:=B8.fr 2;have f3:=B8.fr 3;have f4:=B8.fr 4;have f5:=B8.fr 5;have P:=Fi (B8.putV hx hy);have M8:=Fi (P.out.2.2 _ _ (MD.out.trans (hB5.mono MD.out.size)) (by omega));clear hx hy hxe hye B8;go_wp2_with fail
  have q0:=P.out.1.cell 0;have q1:=P.out.1.cell 1;have q2:=P.out.1.cell 2;have q3:=P.out.1.cell 3;have q4:=P.out.1.cell 4;have q5:=P.out.1.cell 5;refine bodyPost_ret (v:=.agg #[.bool xm,.slice xp xl xc,.slice xq xk xd,.bool ym,.slice yp yl yc,.slice yq yk yd]) (by simp[results,Tryz.results287,go_sem,dZ] at q0 q1 q2 q3 q4 q5 ⊢;simp[results,Tryz.results287,go_sem,q0,q1,q2,q3,q4,q5]) rfl ⟨_,rfl,by rw[HE.out];exact AR P.out.2.1,M8.out⟩
def ir (zs:List CQ):Bool:=zs.all fun z=>!eG z
def fP (zs:List CQ):List ByteArray:=zs.map fun z=>(dQ z).1
theorem Ex (va:Value) (z:CQ) (w:World) (ha:IsV w va (ct z)) (hG:Gw w) :
  Calls Tryz.prog 286 #[va] w fun e w'=>e=.returned (.tuple #[.string (dQ z).1,.bool (!eG z)])∧Below w.heap.size w w':=by
 obtain⟨x,hx⟩:∃ x,x=(dQ z).1:=⟨_,rfl⟩;obtain⟨d,hd⟩:∃ d,d=(dQ z).2:=⟨_,rfl⟩
 have hdb:decide (d=0)=!eG z:=by
  rw[hd];unfold dQ;cases eG z<;>simp
 have HB:=Fi hdb;obtain⟨a,b,c,d',e,f,rfl,hax,hay⟩:=id ha;have q1:=bS.new w a b c d' e f 153;have m1:=aq w (.cells #[a,b,c,d',e,f] 153);have HP:=Fi (Bs _ z _ (ha.below m1) (hG.below m1));rw[←hx,←hd] at HP;rw[←hx];have MD:=Fi m1;clear hx hd hdb ha hax hay m1;go_enter Tryz.func286,Tryz.ntmps286;go_upto_region 1 with fail
 generalize w.alloc (.cells #[a,b,c,d',e,f] 153)=w1 at *
 have a0:=q1.c0;have a1:=q1.c1;have a2:=q1.c2;have a3:=q1.c3;have a4:=q1.c4;have a5:=q1.c5;go_wp2_with fail
 refine HP.out.mono ?_;rintro e w2 ⟨rfl,hb2⟩;by_cases h0:d=0
 ·subst h0;have HE:=Fi (show (!eG z)=true by rw[←HB.out];rfl);go_wp2;refine bodyPost_ret (v:=.tuple #[.string x,.bool true]) (by simp[results,Tryz.results286,go_sem]) rfl ⟨by rw[HE.out],MD.out.trans (hb2.mono MD.out.size)⟩
 ·have HE:=Fi (show (!eG z)=false by rw[←HB.out];exact decide_eq_false h0);have hd0:decide (d=0)=false:=decide_eq_false h0;go_wp2;refine bodyPost_ret (v:=.tuple #[.string x,.bool false]) (by simp[results,Tryz.results286,go_sem,h0]) rfl ⟨by rw[HE.out],MD.out.trans (hb2.mono MD.out.size)⟩
theorem D5 (v:Value) (zs:List CQ) (w:World) (hl:IsP w v zs) (hlen:zs.length<1000000) (hG:Gw w) :
  Calls Tryz.prog 285 #[v,.func (.func 286) #[] #[]] w fun e w'=>∃ v' ok,e=.returned (.tuple #[v',.bool ok])∧((ir zs=true∧ok=true∧bW w' w.heap.size v' (fP zs))∨(ir zs=false∧ok=false∧v'=.slice none 0 0))∧Below w.heap.size w w':=by
 obtain⟨p,c,rfl,-⟩:=id hl.form;have HL:=Fi hl;have HG:=Fi hG;have hpl:(fP zs).length=zs.length:=by simp[fP]
 have HPL:=Fi hpl;clear hl hG hpl;go_enter Tryz.func285,Tryz.ntmps285;go_wp2;go_loopw [6,13] (fun s6 s13 wr=>∃ i:Nat,s13=.int .i64 i∧i≤zs.length∧bW wr w.heap.size s6 ((fP zs).take i)∧Below w.heap.size w wr∧Hid (ir (zs.take i)=true)) (fun _ s13 _=>zs.length-(intOf s13).toNat)
 case atStart=>exact⟨0,rfl,Fz _,bW.nil _ _,Below.refl _ _,rfl⟩
 case round =>
  obtain⟨i,rfl,hin,hown,hbr,hall⟩:=hrel;by_cases hi:i<zs.length
  ·obtain⟨B,o,rfl,hlt,xm,xp,xl,xc,xq,xk,xd,ym,yp,yl,yc,yq,yk,yd,hk,a0,a1,a2,a3,a4,a5⟩:=(HL.out.below hbr).get hi
   have hstep:(fP zs).take (i+1)=(fP zs).take i++[(dQ zs[i]).1]:=by
    rw[←FD (by rw[HPL.out];exact hi)];simp[fP]
   have hoks:ir (zs.take (i+1))=!eG zs[i]:=by
    unfold ir at hall ⊢;rw[←FD hi,GQ,hall.out];simp
   have hbad:eG zs[i]=true→ir zs=false:=fun h=>by
    unfold ir;rw[Hq];exact⟨zs[i],FG hi,by rw[h];decide⟩
   generalize zs[i]=z at hk hstep hoks hbad;have HT:=Fi hstep;have HO:=Fi hoks;have HX:=Fi hbad;have hw1:=hown;have hv:=Fi hk.v;clear hstep hoks hbad hall hown hk;go_upto_region 5 with fail
   have q1:=bS.new wr (.bool xm) (.slice xp xl xc) (.slice xq xk xd) (.bool ym) (.slice yp yl yc) (.slice yq yk yd) 153;have m1:=aq wr (.cells #[.bool xm,.slice xp xl xc,.slice xq xk xd,.bool ym,.slice yp yl yc,.slice yq yk yd] 153);generalize wr.alloc (.cells #[.bool xm,.slice xp xl xc,.slice xq xk xd,.bool ym,.slice yp yl yc,.slice yq yk yd] 153)=w2 at *
   have a0:=q1.c0;have a1:=q1.c1;have a2:=q1.c2;have a3:=q1.c3;have a4:=q1.c4;have a5:=q1.c5;have hB2:=hbr.trans (m1.mono hbr.size);have hw2:=hw1.below m1;have hv2:=Fi (hv.out.below m1);clear q1 m1 hw1 hv;go_wp2_with fail
   refine (Ex _ z w2 hv2.out (HG.out.below hB2)).mono ?_;rintro e w3 ⟨rfl,hb3⟩;have hB3:=hB2.trans (hb3.mono hB2.size);have hw3:=hw2.below hb3;have hbs:=hB3.size;have hzl:((fP zs).take i).length<1000000000:=by simp[HPL.out];omega
   clear hb3 hB2 hw2 a0 a1 a2 a3 a4 a5
   cases hbz:eG z with
   | false =>
    have HO2:=Fi (show ir (zs.take (i+1))=true by rw[HO.out,hbz];rfl);clear hbz;go_wp2_with (at_builtin;refine bo 22 Tryz.underlying22 rfl (.tmp 25) (.tmp 27) rfl w.heap.size _ _ _ rfl hw3 rfl hzl hbs ?_)
    intro v' w4 hw4 hb4;have hB4:=hb4 _ _ hB3 (Fq _);rw[←HT.out] at hw4;clear hw3 hb4 hB3;go_wp2;go_roundw;case rel=>exact⟨i+1,by go_num,by omega,hw4,hB4,HO2.out⟩
    case measure=>(first | (simp[intOf];done) | (simp[intOf];omega))
   | true =>
    have HE:=Fi (HX.out hbz);clear hbz;go_wp2;refine bodyPost_ret (v:=.tuple #[.slice none 0 0,.bool false]) (by simp[results,Tryz.results285,go_sem]) rfl ⟨_,_,rfl,Or.inr ⟨HE.out,rfl,rfl⟩,hB3⟩
  ·have hin':i=zs.length:=by omega
   subst hin';have hw:=hown;rw[show (fP zs).take zs.length=fP zs from Fx (by rw[HPL.out];exact Fq _)] at hw;have HO:=hall.out;rw[FQ] at HO;have HO:=Fi HO;clear hown hi hall;go_wp2;refine bodyPost_ret (v:=.tuple #[_,.bool true]) (by simp[results,Tryz.results285,go_sem]) rfl ⟨_,_,rfl,Or.inl ⟨HO.out,rfl,hw⟩,hbr⟩
def Cv (w:World) (base:Nat) (v:Value) (e:Int) (zs:List CQ):Prop:=(ir zs=true∧e=0∧bW w base v (fP zs))∨(ir zs=false∧e=11∧v=.slice none 0 0)
theorem DO (v:Value) (zs:List CQ) (w:World) (hl:IsP w v zs) (hlen:zs.length<1000000) (hG:Gw w) :
  Calls Tryz.prog 267 #[v] w fun e w'=>∃ v' x,e=.returned (.tuple #[v',.int .i64 x])∧Cv w' w.heap.size v' x zs∧Below w.heap.size w w':=by
 have HP:=Fi (D5 v zs w hl hlen hG);clear hl hG;go_enter Tryz.func267,Tryz.ntmps267;go_wp2_with fail
 refine HP.out.mono ?_;rintro e w1 ⟨u,ok,rfl,hc,hb⟩;rcases hc with ⟨h1,rfl,h3⟩ | ⟨h1,rfl,rfl⟩
 ·have HO:=Fi h1;clear h1;go_wp2;refine bodyPost_ret (v:=.tuple #[u,.int .i64 0]) (by simp[results,Tryz.results267,go_sem]) rfl ⟨_,_,rfl,Or.inl ⟨HO.out,rfl,h3⟩,hb⟩
 ·have HO:=Fi h1;clear h1;go_wp2;refine bodyPost_ret (v:=.tuple #[.slice none 0 0,.int .i64 11]) (by simp[results,Tryz.results267,go_sem]) rfl ⟨_,_,rfl,Or.inr ⟨HO.out,rfl,rfl⟩,hb⟩
def SzL (k:Nat) (zs:List CQ):Prop:=∀ z∈zs,SzV k (ct z)
theorem yD {zs:List CQ}:∀ z∈db zs,z∈zs:=by
 intro z hz;unfold db at hz;rw[List.mem_reverse] at hz;exact List.mem_reverse.1 ((List.dropWhile_sublist _).mem hz)
theorem SzL.lean {k:Nat}{zs:List CQ} (h:SzL k zs):SzL k (db zs):=fun z hz=>h z (yD z hz)
theorem vZ:∀ {l:List ByteArray}{zs:List CQ},fx l=some zs→SzL 2000 zs
 | [],zs,h=>by cases h;intro z hz;simp at hz
 | a :: l,zs,h=>by
  simp only[fx] at h
  cases ha:fR a with
  | none=>rw[ha] at h;cases h
  | some z =>
   cases hl:fx l with
   | none=>rw[ha,hl] at h;cases h
   | some ys =>
    rw[ha,hl] at h
    cases h
    intro y hy;rcases Gy.1 hy with rfl | hy
    ·exact (sS ha).2.2
    ·exact vZ hl y hy
theorem jy {l:List ByteArray}{zs:List CQ} (h:dJ l=.ok zs):SzL 2000 zs:=by
 unfold dJ at h
 split at h
 ·cases h
 ·split at h
  ·rename_i ys hy
   cases h
   exact (vZ hy).lean
  ·cases h
theorem ql {a b:List ByteArray}{z:List CQ×List CQ} (h:fI a b=.ok z):dJ a=.ok z.1∧dJ b=.ok z.2:=by
 unfold fI at h
 split at h
 ·cases h
 ·rename_i x hx
  split at h
  ·cases h
  ·rename_i y hy
   cases h
   exact⟨hx,hy⟩
theorem SzL.item {k:Nat}{zs:List CQ} (h:SzL k zs) (hk:1≤k) (i:Nat):SzV k (ct (gz zs i)):=by
 unfold gz
 split
 ·exact h _ (FG _)
 ·exact⟨.zero hk,.zero hk⟩
structure zG (f:CQ→CQ→CQ):Prop where
 on:∀ a b,SzV 2000 (ct a)→SzV 2000 (ct b)→SzV 10000 (ct (f a b))
theorem AC:zG CQ.add:=⟨fun a b ha hb=>by rw[←fC];exact (ha.plus hb).mono (by decide)⟩
theorem AD:zG CQ.sub:=⟨fun a b ha hb=>by rw[←nZ];exact (ha.plus hb.neg).mono (by decide)⟩
def cY (f:CQ→CQ→CQ) (p q:List CQ):List CQ:=(List.range (max p.length q.length)).map fun i=>f (gz p i) (gz q i)
theorem ri (f:CQ→CQ→CQ) (p q:List CQ) {i:Nat} (h:i<max p.length q.length):(cY f p q).take (i+1)=(cY f p q).take i++[f (gz p i) (gz q i)]:=by
 have hl:i<(cY f p q).length:=by simp[cY];omega
 rw[show (cY f p q).take (i+1)=(cY f p q).take i++[(cY f p q)[i]] from (FD hl).symm];simp[cY]
def dV (f:CQ→CQ→CQ) (p q:List CQ):List CQ:=db (cY f p q)
theorem jr (f:CQ→CQ→CQ) (p q:List CQ):(cY f p q).length=max p.length q.length:=by simp[cY]
theorem wR {G:FuncId}{f:CQ→CQ→CQ} (hG:GAt G f) (hF:zG f) (va vb:Value) (p q:List CQ) (w:World) (ha:IsP w va p) (hb:IsP w vb q) (hsp:SzL 2000 p) (hsq:SzL 2000 q) (hlp:p.length<1000000) (hlq:q.length<1000000) :
  Calls Tryz.prog 268 #[va,vb,.func (.func G) #[] #[]] w fun e w'=>∃ v',e=.returned v'∧IsP w' v' (dV f p q)∧Below w.heap.size w w':=by
 obtain⟨pa,ca,rfl,-⟩:=id ha.form;obtain⟨pb,cb,rfl,-⟩:=id hb.form;have EN:=hG.en;have HA:=Fi ha;have HB:=Fi hb;clear ha hb;have HML:=jr f p q;have HMT:=fun i h=>ri f p q (i:=i) h;obtain⟨n,hn⟩:∃ n,n=max p.length q.length:=⟨_,rfl⟩;have hn6:n<1000000:=by omega
 have hmax:max (p.length:Int) (q.length:Int)=(n:Int):=by rw[hn];omega
 rw[←hn] at HML HMT;have HML:=Fi HML;have HMT:=Fi HMT;clear hn;go_enter Tryz.func268,Tryz.ntmps268;go_wp2;clear hmax;go_loopw [7,14] (fun s7 s14 wr=>∃ i:Nat,s14=.int .i64 i∧i≤n∧dH wr w.heap.size s7 ((cY f p q).take i)∧Below w.heap.size w wr) (fun _ s14 _=>n-(intOf s14).toNat)
 case atStart=>exact⟨0,rfl,Fz _,dH.nil _ _,Below.refl _ _⟩
 case round =>
  obtain⟨i,rfl,hin,hown,hbr⟩:=hrel;by_cases hi:i<n
  ·have HT:=Fi (HMT.out i hi);have hi6:i<1000000:=by omega
   have HV:=Fi hown;clear hown;go_wp2_with fail
   refine (DI _ p i wr (HA.out.below hbr) hi6 hlp).mono ?_;rintro e w1 ⟨v1,rfl,hk1,hb1⟩;have hB1:=hbr.trans (hb1.mono hbr.size);go_wp2_with fail
   refine (DI _ q i w1 (HB.out.below hB1) hi6 hlq).mono ?_;rintro e w2 ⟨v2,rfl,hk2,hb2⟩;have hB2:=hB1.trans (hb2.mono hB1.size);go_wp2_with fail
   refine (hG.on _ _ _ _ w2 (hk1.below hb2) hk2).mono ?_;rintro e w3 ⟨v3,rfl,hv3,hb3⟩;have hB3:=hB2.trans (hb3.mono hB2.size);have hk3:IsK w3 v3 (f (gz p i) (gz q i)):=⟨hv3,hF.on _ _ (hsp.item (by decide) i) (hsq.item (by decide) i)⟩;have hw3:=((HV.out.below hb1).below hb2).below hb3;obtain⟨xm,xp,xl,xc,xq,xk,xd,ym,yp,yl,yc,yq,yk,yd,rfl⟩:=hk3.forms;have hbs:=hB3.size;have hzl:((cY f p q).take i).length<1000000000:=by rw[FM,HML.out];omega
   clear hb1 hb2 hb3 hB1 hB2 hbr hv3 hk1 hk2 HV;go_wp2_with (at_builtin;refine eo 123 Tryz.underlying123 rfl (.tmp 17) (.tmp 26) rfl w.heap.size _ _ _ _ _ _ _ _ _ rfl hw3 hk3 rfl hzl hbs ?_)
   intro v' w4 hw4 hb4 _;have hB4:=hb4 _ _ hB3 (Fq _);rw[←HT.out] at hw4;clear hw3 hb4 hB3;go_wp2;go_roundw;case rel=>exact⟨i+1,by go_num,by omega,hw4,hB4⟩
   case measure=>(first | (simp[intOf];done) | (simp[intOf];omega))
  ·have hin':i=n:=by omega
   subst hin';have hw:=hown;rw[show (cY f p q).take i=cY f p q from Fx (by rw[HML.out];exact Fq _)] at hw;have hml:(cY f p q).length<1000000:=by rw[HML.out];exact hn6
   have HW:=Fi hw.isP;clear hown hi hw;go_wp2_with fail
   refine (pX _ _ wr HW.out hml).mono ?_;rintro e w1 ⟨v1,rfl,hv1,hb1⟩;go_wp2;go_ret;exact⟨_,rfl,hv1,hbr.trans (hb1.mono hbr.size)⟩
def bP (f:CQ→CQ→CQ) (a b:List ByteArray):List ByteArray×Int:=match fI a b with
 | .error e=>([],e)
 | .ok z=>if ir (dV f z.1 z.2)=true then (fP (dV f z.1 z.2),0) else ([],11)
theorem Bh (va vb:Value) (a b:List ByteArray) (w:World) (ha:IsS w va a) (hb:IsS w vb b) (hG:Gw w) :
  Calls Tryz.prog 239 #[va,vb] w fun e w'=>∃ v',e=.returned (.tuple #[v',.int .i64 (bP CQ.add a b).2])∧IsS w' v' (bP CQ.add a b).1∧Below w.heap.size w w':=by
 have HP:=Fi (Bj va vb a b w ha hb hG);have HG:=Fi hG;clear ha hb hG;go_enter Tryz.func239,Tryz.ntmps239;go_wp2_with fail
 refine HP.out.mono ?_;rintro e w1 ⟨u,v,x,rfl,hr,hb1⟩
 cases hpc:fI a b with
 | error ea =>
  rw[hpc] at hr;obtain⟨rfl,hx,rfl,rfl⟩:=hr;have HE:=Fi (show bP CQ.add a b=([],x) by unfold bP;rw[hpc]);have hd:decide (x=0)=false:=decide_eq_false hx;clear hpc HP;go_wp2;refine bodyPost_ret (v:=.tuple #[.slice none 0 0,.int .i64 x]) (by simp[results,Tryz.results239,go_sem]) rfl ⟨_,by rw[HE.out],by rw[HE.out];exact (bW.nil w1 0).isS,hb1⟩
 | ok z =>
  rw[hpc] at hr;obtain⟨p,q⟩:=z;obtain⟨rfl,hu,hv⟩:=hr;obtain⟨hp1,hp2⟩:=ql hpc;have s1:=jy hp1;have s2:=jy hp2;have l1:=j3 hp1;have l2:=j3 hp2;simp only at hu hv s1 s2 l1 l2
  have hml:(dV CQ.add p q).length<1000000:=by
   have h1:=jU (cY CQ.add p q);rw[jr] at h1;unfold dV;omega
  have HE:=Fi (show bP CQ.add a b=if ir (dV CQ.add p q)=true then (fP (dV CQ.add p q),0) else ([],11) by unfold bP;rw[hpc]);have HM:=Fi (wR DN AC u v p q w1 hu hv s1 s2 (by omega) (by omega));clear hpc HP hp1 hp2 s1 s2 l1 l2 hu hv;go_wp2_with fail
  refine HM.out.mono ?_;rintro e w2 ⟨v2,rfl,hv2,hb2⟩;have hB2:=hb1.trans (hb2.mono hb1.size);clear HM;go_wp2_with fail
  refine (DO v2 _ w2 hv2 hml (HG.out.below hB2)).mono ?_;rintro e w3 ⟨v3,x,rfl,hc,hb3⟩;have hB3:=hB2.trans (hb3.mono hB2.size);rcases hc with ⟨h1,rfl,h3⟩ | ⟨h1,rfl,rfl⟩
  ·have HE:=Fi (show bP CQ.add a b=(fP (dV CQ.add p q),0) by rw[HE.out,if_pos h1]);clear h1 hml;go_wp2;refine bodyPost_ret (v:=.tuple #[v3,.int .i64 0]) (by simp[results,Tryz.results239,go_sem]) rfl ⟨_,by rw[HE.out],by rw[HE.out];exact h3.isS,hB3⟩
  ·have HE:=Fi (show bP CQ.add a b=([],11) by rw[HE.out,if_neg (by rw[h1];decide)]);clear h1 hml;go_wp2;refine bodyPost_ret (v:=.tuple #[.slice none 0 0,.int .i64 11]) (by simp[results,Tryz.results239,go_sem]) rfl ⟨_,by rw[HE.out],by rw[HE.out];exact (bW.nil w3 0).isS,hB3⟩
theorem Bi (va vb:Value) (a b:List ByteArray) (w:World) (ha:IsS w va a) (hb:IsS w vb b) (hG:Gw w) :
  Calls Tryz.prog 240 #[va,vb] w fun e w'=>∃ v',e=.returned (.tuple #[v',.int .i64 (bP CQ.sub a b).2])∧IsS w' v' (bP CQ.sub a b).1∧Below w.heap.size w w':=by
 have HP:=Fi (Bj va vb a b w ha hb hG);have HG:=Fi hG;clear ha hb hG;go_enter Tryz.func240,Tryz.ntmps240;go_wp2_with fail
 refine HP.out.mono ?_;rintro e w1 ⟨u,v,x,rfl,hr,hb1⟩
 cases hpc:fI a b with
 | error ea =>
  rw[hpc] at hr;obtain⟨rfl,hx,rfl,rfl⟩:=hr;have HE:=Fi (show bP CQ.sub a b=([],x) by unfold bP;rw[hpc]);have hd:decide (x=0)=false:=decide_eq_false hx;clear hpc HP;go_wp2;refine bodyPost_ret (v:=.tuple #[.slice none 0 0,.int .i64 x]) (by simp[results,Tryz.results240,go_sem]) rfl ⟨_,by rw[HE.out],by rw[HE.out];exact (bW.nil w1 0).isS,hb1⟩
 | ok z =>
  rw[hpc] at hr;obtain⟨p,q⟩:=z;obtain⟨rfl,hu,hv⟩:=hr;obtain⟨hp1,hp2⟩:=ql hpc;have s1:=jy hp1;have s2:=jy hp2;have l1:=j3 hp1;have l2:=j3 hp2;simp only at hu hv s1 s2 l1 l2
  have hml:(dV CQ.sub p q).length<1000000:=by
   have h1:=jU (cY CQ.sub p q);rw[jr] at h1;unfold dV;omega
  have HE:=Fi (show bP CQ.sub a b=if ir (dV CQ.sub p q)=true then (fP (dV CQ.sub p q),0) else ([],11) by unfold bP;rw[hpc]);have HM:=Fi (wR DK AD u v p q w1 hu hv s1 s2 (by omega) (by omega));clear hpc HP hp1 hp2 s1 s2 l1 l2 hu hv;go_wp2_with fail
  refine HM.out.mono ?_;rintro e w2 ⟨v2,rfl,hv2,hb2⟩;have hB2:=hb1.trans (hb2.mono hb1.size);clear HM;go_wp2_with fail
  refine (DO v2 _ w2 hv2 hml (HG.out.below hB2)).mono ?_;rintro e w3 ⟨v3,x,rfl,hc,hb3⟩;have hB3:=hB2.trans (hb3.mono hB2.size);rcases hc with ⟨h1,rfl,h3⟩ | ⟨h1,rfl,rfl⟩
  ·have HE:=Fi (show bP CQ.sub a b=(fP (dV CQ.sub p q),0) by rw[HE.out,if_pos h1]);clear h1 hml;go_wp2;refine bodyPost_ret (v:=.tuple #[v3,.int .i64 0]) (by simp[results,Tryz.results240,go_sem]) rfl ⟨_,by rw[HE.out],by rw[HE.out];exact h3.isS,hB3⟩
  ·have HE:=Fi (show bP CQ.sub a b=([],11) by rw[HE.out,if_neg (by rw[h1];decide)]);clear h1 hml;go_wp2;refine bodyPost_ret (v:=.tuple #[.slice none 0 0,.int .i64 11]) (by simp[results,Tryz.results240,go_sem]) rfl ⟨_,by rw[HE.out],by rw[HE.out];exact (bW.nil w3 0).isS,hB3⟩
def dp (zs:List CQ) (x:CQ):List CQ:=zs.map fun z=>z.mul x
def rO (zs:List CQ) (x:CQ):List CQ:=db (dp zs x)
theorem rP (zs:List CQ) (x:CQ) {i:Nat} (h:i<zs.length):(dp zs x).take (i+1)=(dp zs x).take i++[zs[i].mul x]:=by
 have hl:i<(dp zs x).length:=by simp[dp,h]
 rw[show (dp zs x).take (i+1)=(dp zs x).take i++[(dp zs x)[i]] from (FD hl).symm];simp[dp]
theorem tR (zs:List CQ) (x:CQ):(dp zs x).length=zs.length:=by simp[dp]
theorem xi (vp vx:Value) (zs:List CQ) (x:CQ) (w:World) (hp:IsP w vp zs) (hx:IsK w vx x) (hfit:∀ z∈zs,SzV 10000 (ct (z.mul x))) (hlen:zs.length<1000000) :
  Calls Tryz.prog 245 #[vp,vx] w fun e w'=>∃ v',e=.returned v'∧IsP w' v' (rO zs x)∧Below w.heap.size w w':=by
 obtain⟨p,c,rfl,-⟩:=id hp.form;obtain⟨ga,gb,gc,gd,ge,gf,rfl,-,-⟩:=id hx.v;have HML:=Fi (tR zs x);have HMT:=Fi (fun i h=>rP zs x (i:=i) h);have HFIT:=Fi hfit;clear hfit;go_enter Tryz.func245,Tryz.ntmps245;go_upto_region 1 with fail
 have q1:=bS.new w ga gb gc gd ge gf 153;have m1:=aq w (.cells #[ga,gb,gc,gd,ge,gf] 153);have z1:=size_alloc w (.cells #[ga,gb,gc,gd,ge,gf] 153);generalize w.alloc (.cells #[ga,gb,gc,gd,ge,gf] 153)=w1 at *
 have Q1:=Fi q1;have HP:=Fi (hp.below m1);have HX:=Fi (hx.below m1);have M1:=Fi m1;have hs1:w1.heap.size=w.heap.size+1:=z1;have hle1:w.heap.size≤w1.heap.size:=by omega
 clear q1 hp hx m1 z1 hs1;go_wp2;go_loopw [5,10] (fun s5 s10 wr=>∃ i:Nat,s10=.int .i64 i∧i≤zs.length∧dH wr w1.heap.size s5 ((dp zs x).take i)∧Below w1.heap.size w1 wr) (fun _ s10 _=>zs.length-(intOf s10).toNat)
 case atStart=>exact⟨0,rfl,Fz _,dH.nil _ _,Below.refl _ _⟩
 case round =>
  obtain⟨i,rfl,hin,hown,hbr⟩:=hrel;by_cases hi:i<zs.length
  ·obtain⟨B,o,rfl,hlt,xm,xp,xl,xc,xq,xk,xd,ym,yp,yl,yc,yq,yk,yd,hk,a0,a1,a2,a3,a4,a5⟩:=(HP.out.below hbr).get hi;have HT:=Fi (HMT.out i hi);have HZ:=Fi (HFIT.out zs[i] (FG hi));generalize zs[i]=z at hk HT HZ;have HV:=Fi hown;have HK:=Fi hk;clear hown hk;go_upto_region 5 with fail
   have q2:=bS.new wr (.bool xm) (.slice xp xl xc) (.slice xq xk xd) (.bool ym) (.slice yp yl yc) (.slice yq yk yd) 153;have m2:=aq wr (.cells #[.bool xm,.slice xp xl xc,.slice xq xk xd,.bool ym,.slice yp yl yc,.slice yq yk yd] 153);generalize wr.alloc (.cells #[.bool xm,.slice xp xl xc,.slice xq xk xd,.bool ym,.slice yp yl yc,.slice yq yk yd] 153)=w2 at *
   have b0:=q2.c0;have b1:=q2.c1;have b2:=q2.c2;have b3:=q2.c3;have b4:=q2.c4;have b5:=q2.c5;have hB2:=hbr.trans (m2.mono hbr.size);have q1:=Q1.out.below hB2;have a0:=q1.c0;have a1:=q1.c1;have a2:=q1.c2;have a3:=q1.c3;have a4:=q1.c4;have a5:=q1.c5;have HKx:=Fi (HX.out.below hB2);have HKz:=Fi (HK.out.below m2);have HV2:=Fi (HV.out.below m2);clear q1 q2 m2 hbr HV HK;go_wp2_with fail
   refine (iU _ _ _ _ _ HKz.out.v HKx.out.v (HKz.out.s.fewV HKx.out.s (by decide))).mono ?_;rintro e w3 ⟨v3,rfl,hv3,hb3⟩;rw[cV] at hv3;have hk3:IsK w3 v3 (z.mul x):=⟨hv3,HZ.out⟩;have hB3:=hB2.trans (hb3.mono hB2.size);have hw3:=HV2.out.below hb3;obtain⟨sm,sp,sl,sc,sq,sk,sd,tm,tp,tl,tc,tq',tk,td,rfl⟩:=hk3.forms;have hbs:=hB3.size;have hzl:((dp zs x).take i).length<1000000000:=by rw[FM,HML.out];omega
   clear hb3 hB2 hv3 HKx HKz HV2 a0 a1 a2 a3 a4 a5 b0 b1 b2 b3 b4 b5;go_wp2_with (at_builtin;refine eo 123 Tryz.underlying123 rfl (.tmp 14) (.tmp 18) rfl w1.heap.size _ _ _ _ _ _ _ _ _ rfl hw3 hk3 rfl hzl hbs ?_)
   intro v' w4 hw4 hb4 _;have hB4:=hb4 _ _ hB3 (Fq _);rw[←HT.out] at hw4;clear hw3 hb4 hB3 hk3;go_wp2;go_roundw;case rel=>exact⟨i+1,by go_num,by omega,hw4,hB4⟩
   case measure=>(first | (simp[intOf];done) | (simp[intOf];omega))
  ·have hin':i=zs.length:=by omega
   subst hin';have hw:=hown;rw[show (dp zs x).take zs.length=dp zs x from Fx (by rw[HML.out];exact Fq _)] at hw;have hml:(dp zs x).length<1000000:=by rw[HML.out];exact hlen
   have HW:=Fi hw.isP;clear hown hi hw;go_wp2_with fail
   refine (pX _ _ wr HW.out hml).mono ?_;rintro e w4 ⟨v1,rfl,hv1,hb1⟩;go_wp2;go_ret;exact⟨_,rfl,hv1,M1.out.trans ((hbr.trans (hb1.mono hbr.size)).mono hle1)⟩
end Go.Proofs.YtbnkpcfjechfiaaGreatDoor
