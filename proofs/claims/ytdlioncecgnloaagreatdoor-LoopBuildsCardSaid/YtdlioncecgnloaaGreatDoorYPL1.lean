/- Lemmas of this claim. -/
import Derived.Test.YtdlioncecgnloaaGreatDoorYNC8
set_option linter.all false
set_option maxRecDepth 100000
set_option maxHeartbeats 8000000
namespace Go.Proofs.YtdlioncecgnloaaGreatDoor
open Go.RowKit Dg
def bM (zs:List CQ):List CQ:=(zs.reverse.dropWhile fun z=>decide (z=⟨0,0⟩)).reverse
theorem fJ (zs:List CQ) (z:CQ):bM (zs++[z])=if z=⟨0,0⟩ then bM zs else zs++[z]:=by
 unfold bM
 rw[List.reverse_append,List.reverse_singleton,Bi,List.dropWhile_cons]
 by_cases h:z=⟨0,0⟩
 ·simp[h]
 ·simp[h]
theorem pW {zs:List CQ} (h:0<zs.length):bM zs=if zs[zs.length-1]=⟨0,0⟩ then bM (zs.take (zs.length-1)) else zs:=by
 have e:zs=zs.take (zs.length-1)++[zs[zs.length-1]]:=by
  have:=zB (l:=zs) (i:=zs.length-1) (by omega)
  rw[this,show zs.length-1+1=zs.length from by omega,zO]
 conv=>lhs;rw[e]
 rw[fJ,←e]
theorem gM (zs:List CQ):(bM zs).length≤zs.length:=by
 unfold bM
 rw[List.length_reverse]
 refine zF (List.dropWhile_sublist _).length_le ?_
 simp
theorem IsP.take {w:World}{p:Option Addr}{n c:Nat}{zs:List CQ} (h:IsP w (.slice p n c) zs) {m:Nat} (hm:m≤zs.length):IsP w (.slice p m c) (zs.take m):=by
 obtain⟨es,h1,⟨p',cap,e,h2,h3,h4⟩,h5⟩:=h
 obtain⟨rfl,-,rfl⟩:p=p'∧n=es.length∧c=cap:=by simpa using e
 refine⟨es.take m,by simp;omega,⟨p,c,by simp;omega,by simp;omega,h3,?_⟩,fun i hi hi'=>?_⟩
 ·intro hl
  obtain⟨b,o,e2,hlt,hc⟩:=h4 (by simp at hl;omega)
  exact⟨b,o,e2,hlt,fun i hi j u hu=>hc i (by simp at hi;omega) j u (by rw[B4] at hu;exact hu)⟩
 ·rw[B4,B4]
  exact h5 i (by simp at hi;omega) (by simp at hi';omega)
theorem jt (z:CQ):((ct z).x.n=0∧(ct z).y.n=0)↔z=⟨0,0⟩:=by
 cases z with
 | mk x y =>
  show ((rt x).n=0∧(rt y).n=0)↔_
  rw[aM,aM]
  simp
def pX:Value→Nat
 | .slice _ n _=>n
 | _=>0
theorem lO (v:Value) (zs:List CQ) (w:World) (hl:IsP w v zs) (hlen:zs.length<1000000) :
  Calls Tryz.prog 221 #[v] w fun e w'=>∃ v',e=.returned v'∧IsP w' v' (bM zs)∧Below w.heap.size w w':=by
 obtain⟨p,c,rfl,hcc,-⟩:=id hl.form
 have HL:=zf hl
 clear hl
 go_enter Tryz.func221,Tryz.ntmps221
 go_wp2
 go_loopw [0] (fun s0 wr=>∃ m:Nat,s0=.slice p m c∧m≤zs.length∧Below w.heap.size w wr∧Hid (bM (zs.take m)=bM zs)) (fun s0 _=>pX s0)
 case atStart=>exact⟨_,rfl,zn _,Below.refl _ _,by unfold Hid;rw[zO]⟩
 case round =>
  obtain⟨m,rfl,hm,hbr,heq⟩:=hrel
  have hL:=((HL.out.below hbr).take hm)
  by_cases h0:m=0
  ·subst h0
   have HE:=zf (show bM zs=[] by rw[←heq.out];rfl)
   have HN:=zf hL
   clear hL
   go_wp2
   go_ret
   exact⟨_,rfl,by rw[HE.out];simpa using HN.out,hbr⟩
  ·obtain⟨k,rfl⟩:∃ k,m=k+1:=⟨m-1,by omega⟩
   have hl1:(zs.take (k+1)).length=k+1:=by simp;omega
   have hm1:k<(zs.take (k+1)).length:=by omega
   obtain⟨B,o,rfl,hlt,xm,xp,xl,xc,xq,xk,xd,ym,yp,yl,yc,yq,yk,yd,hk,a0,a1,a2,a3,a4,a5⟩:=hL.get hm1
   have hstep:=pW (zs:=zs.take (k+1)) (by omega)
   have e1:(zs.take (k+1))[(zs.take (k+1)).length-1]'(by omega)=(zs.take (k+1))[k]:=by congr 1;omega
   rw[e1] at hstep
   generalize hz:(zs.take (k+1))[k]=z at hstep hk
   rw[hl1,List.take_take,Aj,show min k (k+1)=k from by omega,heq.out] at hstep
   have HS:=zf hstep
   have HN:=zf hL
   clear hz e1 hstep hL hl1 hm1 h0
   by_cases hz:z=⟨0,0⟩
   ·have HZ:=zf (vZ _ (ct z) wr hk.v)
    rw[decide_eq_true ((jt z).2 hz)] at HZ
    have HE:=zf (show bM (zs.take k)=bM zs by rw[HS.out,if_pos hz])
    clear hz
    go_wp2_with fail
    refine HZ.out.mono ?_
    rintro e w1 ⟨rfl,hb1⟩
    have hB1:=hbr.trans (hb1.mono hbr.size)
    clear hb1 HZ hk a0 a1 a2 a3 a4 a5
    have hkc:k≤c:=by omega
    go_wp2
    go_roundw
    case rel=>exact⟨k,by go_num,by omega,hB1,HE.out⟩
    case measure=>(first | (simp[pX];done) | (simp[pX];omega))
   ·have HZ:=zf (vZ _ (ct z) wr hk.v)
    rw[decide_eq_false (fun h=>hz ((jt z).1 h))] at HZ
    have HE:=zf (show bM zs=zs.take (k+1) by rw[HS.out,if_neg hz])
    clear hz
    go_wp2_with fail
    refine HZ.out.mono ?_
    rintro e w1 ⟨rfl,hb1⟩
    go_wp2
    go_ret
    exact⟨_,rfl,by rw[HE.out];exact HN.out.below hb1,hbr.trans (hb1.mono hbr.size)⟩
def cw (l:List ByteArray):Except Int (List CQ):=if 33<l.length then .error 14 else match cO l with | some zs=>.ok (bM zs) | none=>.error 10
def wt (w:World) (v:Value) (e:Int) (r:Except Int (List CQ)):Prop:=match r with | .ok zs=>e=0∧IsP w v zs | .error x=>e=x∧v=.slice none 0 0
theorem gP {l:List ByteArray}{e:Int} (h:cw l=.error e):e=14∨e=10:=by
 unfold cw at h
 split at h
 ·cases h;exact Or.inl rfl
 ·split at h
  ·cases h
  ·cases h;exact Or.inr rfl
theorem gQ {l:List ByteArray}{zs:List CQ} (h:cw l=.ok zs):zs.length≤33:=by
 unfold cw at h
 split at h
 ·cases h
 ·split at h
  ·rename_i ys hy
   cases h
   have:=cP hy
   have:=gM ys
   omega
  ·cases h
theorem j4 (v:Value) (l:List ByteArray) (w:World) (hl:IsS w v l) (hG:Gw w) :
  Calls Tryz.prog 169 #[v] w fun e w'=>∃ v' x,e=.returned (.tuple #[v',.int .i64 x])∧wt w' v' x (cw l)∧Below w.heap.size w w':=by
 obtain⟨p,c,rfl,-⟩:=id hl.form
 have HL:=zf hl
 have HG:=zf hG
 clear hl hG
 go_enter Tryz.func169,Tryz.ntmps169
 by_cases h1:33<l.length
 ·have hd:decide ((33:Int)<(l.length:Int))=true:=by simp;omega
  have HE:=zf (show cw l=.error 14 by unfold cw;rw[if_pos h1])
  clear h1
  go_wp2
  refine bodyPost_ret (v:=.tuple #[.slice none 0 0,.int .i64 14]) (by simp[results,Tryz.results169,go_sem]) rfl ⟨_,_,rfl,by rw[HE.out];exact⟨rfl,rfl⟩,Below.refl _ _⟩
 ·have hd:decide ((33:Int)<(l.length:Int))=false:=by simp;omega
  have hll:l.length<1000000000:=by omega
  have hll2:l.length<1000000:=by omega
  have HE:=zf (show cw l=match cO l with | some zs=>.ok (bM zs) | none=>.error 10 by unfold cw;rw[if_neg h1])
  clear h1
  go_wp2_with fail
  refine (mD _ l w HL.out hll HG.out).mono ?_
  rintro e w1 ⟨v1,ok,rfl,hcase,hb1⟩
  rcases hcase with ⟨zs,hz,rfl,hv⟩ | ⟨hz,rfl,rfl⟩
  ·have hzl:zs.length<1000000:=by rw[cP hz];exact hll2
   rw[hz] at HE
   clear hd hll hll2 hz
   go_wp2_with fail
   refine (lO _ zs w1 hv hzl).mono ?_
   rintro e w2 ⟨v2,rfl,hv2,hb2⟩
   go_wp2
   refine bodyPost_ret (v:=.tuple #[v2,.int .i64 0]) (by simp[results,Tryz.results169,go_sem]) rfl ⟨_,_,rfl,by rw[HE.out];exact⟨rfl,hv2⟩,hb1.trans (hb2.mono hb1.size)⟩
  ·rw[hz] at HE
   clear hd hll hll2 hz
   go_wp2
   refine bodyPost_ret (v:=.tuple #[.slice none 0 0,.int .i64 10]) (by simp[results,Tryz.results169,go_sem]) rfl ⟨_,_,rfl,by rw[HE.out];exact⟨rfl,rfl⟩,hb1⟩
def dY (a b:List ByteArray):Except Int (List CQ×List CQ):=match cw a with | .error e=>.error e | .ok x=>match cw b with | .error e=>.error e | .ok y=>.ok (x,y)
def tI (w:World) (u v:Value) (e:Int) (r:Except Int (List CQ×List CQ)):Prop:=match r with | .ok z=>e=0∧IsP w u z.1∧IsP w v z.2 | .error x=>e=x∧x≠0∧u=.slice none 0 0∧v=.slice none 0 0
theorem uU (va vb:Value) (a b:List ByteArray) (w:World) (ha:IsS w va a) (hb:IsS w vb b) (hG:Gw w) :
  Calls Tryz.prog 303 #[va,vb] w fun e w'=>∃ u v x,e=.returned (.tuple #[u,v,.int .i64 x])∧tI w' u v x (dY a b)∧Below w.heap.size w w':=by
 have HB:=zf (fun wx (hw:Below w.heap.size w wx)=>j4 vb b wx (hb.below hw) (hG.below hw))
 have HA:=zf (j4 va a w ha hG)
 clear hG ha hb
 go_enter Tryz.func303,Tryz.ntmps303
 go_wp2_with fail
 refine HA.out.mono ?_
 rintro e w1 ⟨u,x,rfl,hu,hb1⟩
 cases hpa:cw a with
 | error ea =>
  rw[hpa] at hu
  obtain⟨rfl,rfl⟩:=hu
  have HE:=zf (show dY a b=.error x by unfold dY;rw[hpa])
  have hx:x≠0:=by rcases gP hpa with rfl | rfl<;>decide
  have hd:decide (x=0)=false:=decide_eq_false hx
  clear hpa
  go_wp2
  refine bodyPost_ret (v:=.tuple #[.slice none 0 0,.slice none 0 0,.int .i64 x]) (by simp[results,Tryz.results303,go_sem]) rfl ⟨_,_,_,rfl,by rw[HE.out];exact⟨rfl,hx,rfl,rfl⟩,hb1⟩
 | ok zs =>
  rw[hpa] at hu
  obtain⟨rfl,hu⟩:=hu
  go_wp2_with fail
  refine (HB.out w1 hb1).mono ?_
  rintro e w2 ⟨v,x,rfl,hv,hb2⟩
  have hB2:=hb1.trans (hb2.mono hb1.size)
  cases hpb:cw b with
  | error eb =>
   rw[hpb] at hv
   obtain⟨rfl,rfl⟩:=hv
   have HE:=zf (show dY a b=.error x by unfold dY;rw[hpa];simp only;rw[hpb])
   have hx:x≠0:=by rcases gP hpb with rfl | rfl<;>decide
   have hd:decide (x=0)=false:=decide_eq_false hx
   clear hpa hpb
   go_wp2
   refine bodyPost_ret (v:=.tuple #[.slice none 0 0,.slice none 0 0,.int .i64 x]) (by simp[results,Tryz.results303,go_sem]) rfl ⟨_,_,_,rfl,by rw[HE.out];exact⟨rfl,hx,rfl,rfl⟩,hB2⟩
  | ok ys =>
   rw[hpb] at hv
   obtain⟨rfl,hv⟩:=hv
   have HE:=zf (show dY a b=.ok (zs,ys) by unfold dY;rw[hpa];simp only;rw[hpb])
   clear hpa hpb
   go_wp2
   refine bodyPost_ret (v:=.tuple #[u,v,.int .i64 0]) (by simp[results,Tryz.results303,go_sem]) rfl ⟨_,_,_,rfl,by rw[HE.out];exact⟨rfl,hu.below hb2,hv⟩,hB2⟩
def eF (zs:List CQ) (i:Nat):CQ:=if h:i<zs.length then zs[i] else ⟨0,0⟩
theorem uD {w:World}{v:Value} (h:IsV w v (ct (CQ.real 0))):IsK w v ⟨0,0⟩:=⟨h,⟨.zero (by decide),.zero (by decide)⟩⟩
theorem xI (v:Value) (zs:List CQ) (i:Nat) (w:World) (hl:IsP w v zs) (hi:i<1000000) (hzl:zs.length<1000000) :
  Calls Tryz.prog 328 #[v,.int .i64 i] w fun e w'=>∃ v',e=.returned v'∧IsK w' v' (eF zs i)∧Below w.heap.size w w':=by
 obtain⟨p,c,rfl,-⟩:=id hl.form
 go_enter Tryz.func328,Tryz.ntmps328
 go_upto_region 1 with fail
 have q3:=bd.new w (.bool false) (.slice none 0 0) (.slice none 0 0) (.bool false) (.slice none 0 0) (.slice none 0 0) (by intro z e;cases e) (by intro z e;cases e) (by intro z e;cases e) (by intro z e;cases e) (by intro z e;cases e) (by intro z e;cases e)
 have m3:=ae w (.cells #[.bool false,.slice none 0 0,.slice none 0 0,.bool false,.slice none 0 0,.slice none 0 0] 91)
 generalize w.alloc (.cells #[.bool false,.slice none 0 0,.slice none 0 0,.bool false,.slice none 0 0,.slice none 0 0] 91)=w3 at *
 have MD:=zf m3
 have B3:=zf q3
 have HL:=zf (hl.below m3)
 clear q3 m3 hl
 by_cases h:i<zs.length
 ·have hd:decide ((i:Int)<(zs.length:Int))=true:=by simp;omega
  have hd2:decide (i<zs.length)=true:=decide_eq_true h
  have HE:=zf (show eF zs i=zs[i] by unfold eF;rw[dif_pos h])
  obtain⟨B,o,rfl,hlt,xm,xp,xl,xc,xq,xk,xd,ym,yp,yl,yc,yq,yk,yd,hk,a0,a1,a2,a3,a4,a5⟩:=HL.out.get h
  generalize zs[i]=z at hk HE
  have HK:=zf hk.s
  have hv:=hk.v
  obtain⟨x1,x2,x3,y1,y2,y3,he,hx,hy⟩:=hv
  obtain⟨rfl,rfl,rfl,rfl,rfl,rfl⟩:.bool xm=x1∧.slice xp xl xc=x2∧.slice xq xk xd=x3∧.bool ym=y1∧.slice yp yl yc=y2∧.slice yq yk yd=y3:=by simpa using he
  have B8:=B3.out
  have k0:=B8.cell 0;have k1:=B8.cell 1;have k2:=B8.cell 2;have k3:=B8.cell 3;have k4:=B8.cell 4;have k5:=B8.cell 5
  have f0:=B8.fr 0;have f1:=B8.fr 1;have f2:=B8.fr 2;have f3:=B8.fr 3;have f4:=B8.fr 4;have f5:=B8.fr 5
  have P:=zf (B8.putV hx hy)
  have M8:=zf (P.out.2.2 _ _ MD.out (by omega))
  clear hx hy he B8 hk
  go_wp2_with fail
  have q0:=P.out.1.cell 0;have q1:=P.out.1.cell 1;have q2:=P.out.1.cell 2;have q3:=P.out.1.cell 3;have q4:=P.out.1.cell 4;have q5:=P.out.1.cell 5
  refine bodyPost_ret (v:=.agg #[.bool xm,.slice xp xl xc,.slice xq xk xd,.bool ym,.slice yp yl yc,.slice yq yk yd]) (by simp[results,Tryz.results328,go_sem,cK] at q0 q1 q2 q3 q4 q5 ⊢;simp[results,Tryz.results328,go_sem,q0,q1,q2,q3,q4,q5]) rfl ⟨_,rfl,by rw[HE.out];exact⟨P.out.2.1,HK.out⟩,M8.out⟩
 ·have hd:decide ((i:Int)<(zs.length:Int))=false:=by simp;omega
  have hd2:decide (i<zs.length)=false:=decide_eq_false h
  have HE:=zf (show eF zs i=⟨0,0⟩ by unfold eF;rw[dif_neg h])
  clear h HL
  go_wp2_with fail
  refine (fS 0 w3 (by decide) (by decide)).mono ?_
  rintro e w4 ⟨v4,rfl,hv4,hb4⟩
  go_wp2_with fail
  refine (cY _ _ _ hv4).mono ?_
  rintro e w5 ⟨v5,rfl,hv5,hb5⟩
  have hB5:=hb4.trans (hb5.mono hb4.size)
  have hv5:IsV w5 v5 (ct (CQ.real 0)):=by rw[←bI];exact hv5
  obtain⟨x1,x2,x3,y1,y2,y3,rfl,hx,hy⟩:=hv5
  obtain⟨xm,xp,xl,xc,xq,xk,xd,hxe⟩:=hx.form
  obtain⟨ym,yp,yl,yc,yq,yk,yd,hye⟩:=hy.form
  obtain⟨rfl,rfl,rfl⟩:=cC hxe
  obtain⟨rfl,rfl,rfl⟩:=cC hye
  have B8:=B3.out.below hB5
  have k0:=B8.cell 0;have k1:=B8.cell 1;have k2:=B8.cell 2;have k3:=B8.cell 3;have k4:=B8.cell 4;have k5:=B8.cell 5
  have f0:=B8.fr 0;have f1:=B8.fr 1;have f2:=B8.fr 2;have f3:=B8.fr 3;have f4:=B8.fr 4;have f5:=B8.fr 5
  have P:=zf (B8.putV hx hy)
  have M8:=zf (P.out.2.2 _ _ (MD.out.trans (hB5.mono MD.out.size)) (by omega))
  clear hx hy hxe hye B8
  go_wp2_with fail
  have q0:=P.out.1.cell 0;have q1:=P.out.1.cell 1;have q2:=P.out.1.cell 2;have q3:=P.out.1.cell 3;have q4:=P.out.1.cell 4;have q5:=P.out.1.cell 5
  refine bodyPost_ret (v:=.agg #[.bool xm,.slice xp xl xc,.slice xq xk xd,.bool ym,.slice yp yl yc,.slice yq yk yd]) (by simp[results,Tryz.results328,go_sem,cK] at q0 q1 q2 q3 q4 q5 ⊢;simp[results,Tryz.results328,go_sem,q0,q1,q2,q3,q4,q5]) rfl ⟨_,rfl,by rw[HE.out];exact uD P.out.2.1,M8.out⟩
def fw (zs:List CQ):Bool:=zs.all fun z=>!dl z
def d_ (zs:List CQ):List ByteArray:=zs.map fun z=>(b9 z).1
theorem yJ (va:Value) (z:CQ) (w:World) (ha:IsV w va (ct z)) (hG:Gw w) :
  Calls Tryz.prog 327 #[va] w fun e w'=>e=.returned (.tuple #[.string (b9 z).1,.bool (!dl z)])∧Below w.heap.size w w':=by
 obtain⟨x,hx⟩:∃ x,x=(b9 z).1:=⟨_,rfl⟩
 obtain⟨d,hd⟩:∃ d,d=(b9 z).2:=⟨_,rfl⟩
 have hdb:decide (d=0)=!dl z:=by
  rw[hd];unfold b9;cases dl z<;>simp
 have HB:=zf hdb
 obtain⟨a,b,c,d',e,f,rfl,hax,hay⟩:=id ha
 have q1:=aS.new w a b c d' e f 91
 have m1:=ae w (.cells #[a,b,c,d',e,f] 91)
 have HP:=zf (s_ _ z _ (ha.below m1) (hG.below m1))
 rw[←hx,←hd] at HP
 rw[←hx]
 have MD:=zf m1
 clear hx hd hdb ha hax hay m1
 go_enter Tryz.func327,Tryz.ntmps327
 go_upto_region 1 with fail
 generalize w.alloc (.cells #[a,b,c,d',e,f] 91)=w1 at *
 have a0:=q1.c0;have a1:=q1.c1;have a2:=q1.c2;have a3:=q1.c3;have a4:=q1.c4;have a5:=q1.c5
 go_wp2_with fail
 refine HP.out.mono ?_
 rintro e w2 ⟨rfl,hb2⟩
 by_cases h0:d=0
 ·subst h0
  have HE:=zf (show (!dl z)=true by rw[←HB.out];rfl)
  go_wp2
  refine bodyPost_ret (v:=.tuple #[.string x,.bool true]) (by simp[results,Tryz.results327,go_sem]) rfl ⟨by rw[HE.out],MD.out.trans (hb2.mono MD.out.size)⟩
 ·have HE:=zf (show (!dl z)=false by rw[←HB.out];exact decide_eq_false h0)
  have hd0:decide (d=0)=false:=decide_eq_false h0
  go_wp2
  refine bodyPost_ret (v:=.tuple #[.string x,.bool false]) (by simp[results,Tryz.results327,go_sem,h0]) rfl ⟨by rw[HE.out],MD.out.trans (hb2.mono MD.out.size)⟩
theorem x9 (v:Value) (zs:List CQ) (w:World) (hl:IsP w v zs) (hlen:zs.length<1000000) (hG:Gw w) :
  Calls Tryz.prog 326 #[v,.func (.func 327) #[] #[]] w fun e w'=>∃ v' ok,e=.returned (.tuple #[v',.bool ok])∧((fw zs=true∧ok=true∧bf w' w.heap.size v' (d_ zs))∨(fw zs=false∧ok=false∧v'=.slice none 0 0))∧Below w.heap.size w w':=by
 obtain⟨p,c,rfl,-⟩:=id hl.form
 have HL:=zf hl
 have HG:=zf hG
 have hpl:(d_ zs).length=zs.length:=by simp[d_]
 have HPL:=zf hpl
 clear hl hG hpl
 go_enter Tryz.func326,Tryz.ntmps326
 go_wp2
 go_loopw [6,13] (fun s6 s13 wr=>∃ i:Nat,s13=.int .i64 i∧i≤zs.length∧bf wr w.heap.size s6 ((d_ zs).take i)∧Below w.heap.size w wr∧Hid (fw (zs.take i)=true)) (fun _ s13 _=>zs.length-(intOf s13).toNat)
 case atStart=>exact⟨0,rfl,zD _,bf.nil _ _,Below.refl _ _,rfl⟩
 case round =>
  obtain⟨i,rfl,hin,hown,hbr,hall⟩:=hrel
  by_cases hi:i<zs.length
  ·obtain⟨B,o,rfl,hlt,xm,xp,xl,xc,xq,xk,xd,ym,yp,yl,yc,yq,yk,yd,hk,a0,a1,a2,a3,a4,a5⟩:=(HL.out.below hbr).get hi
   have hstep:(d_ zs).take (i+1)=(d_ zs).take i++[(b9 zs[i]).1]:=by
    rw[←zB (by rw[HPL.out];exact hi)];simp[d_]
   have hoks:fw (zs.take (i+1))=!dl zs[i]:=by
    unfold fw at hall ⊢
    rw[←zB hi,AL,hall.out];simp
   have hbad:dl zs[i]=true→fw zs=false:=fun h=>by
    unfold fw
    rw[Bd]
    exact⟨zs[i],zG hi,by rw[h];decide⟩
   generalize zs[i]=z at hk hstep hoks hbad
   have HT:=zf hstep
   have HO:=zf hoks
   have HX:=zf hbad
   have hw1:=hown
   have hv:=zf hk.v
   clear hstep hoks hbad hall hown hk
   go_upto_region 5 with fail
   have q1:=aS.new wr (.bool xm) (.slice xp xl xc) (.slice xq xk xd) (.bool ym) (.slice yp yl yc) (.slice yq yk yd) 91
   have m1:=ae wr (.cells #[.bool xm,.slice xp xl xc,.slice xq xk xd,.bool ym,.slice yp yl yc,.slice yq yk yd] 91)
   generalize wr.alloc (.cells #[.bool xm,.slice xp xl xc,.slice xq xk xd,.bool ym,.slice yp yl yc,.slice yq yk yd] 91)=w2 at *
   have a0:=q1.c0;have a1:=q1.c1;have a2:=q1.c2;have a3:=q1.c3;have a4:=q1.c4;have a5:=q1.c5
   have hB2:=hbr.trans (m1.mono hbr.size)
   have hw2:=hw1.below m1
   have hv2:=zf (hv.out.below m1)
   clear q1 m1 hw1 hv
   go_wp2_with fail
   refine (yJ _ z w2 hv2.out (HG.out.below hB2)).mono ?_
   rintro e w3 ⟨rfl,hb3⟩
   have hB3:=hB2.trans (hb3.mono hB2.size)
   have hw3:=hw2.below hb3
   have hbs:=hB3.size
   have hzl:((d_ zs).take i).length<1000000000:=by simp[HPL.out];omega
   clear hb3 hB2 hw2 a0 a1 a2 a3 a4 a5
   cases hbz:dl z with
   | false =>
    have HO2:=zf (show fw (zs.take (i+1))=true by rw[HO.out,hbz];rfl)
    clear hbz
    go_wp2_with (at_builtin;refine aH 26 Tryz.underlying26 rfl (.tmp 25) (.tmp 27) rfl w.heap.size _ _ _ rfl hw3 rfl hzl hbs ?_)
    intro v' w4 hw4 hb4
    have hB4:=hb4 _ _ hB3 (zn _)
    rw[←HT.out] at hw4
    clear hw3 hb4 hB3
    go_wp2
    go_roundw
    case rel=>exact⟨i+1,by go_num,by omega,hw4,hB4,HO2.out⟩
    case measure=>(first | (simp[intOf];done) | (simp[intOf];omega))
   | true =>
    have HE:=zf (HX.out hbz)
    clear hbz
    go_wp2
    refine bodyPost_ret (v:=.tuple #[.slice none 0 0,.bool false]) (by simp[results,Tryz.results326,go_sem]) rfl ⟨_,_,rfl,Or.inr ⟨HE.out,rfl,rfl⟩,hB3⟩
  ·have hin':i=zs.length:=by omega
   subst hin'
   have hw:=hown
   rw[show (d_ zs).take zs.length=d_ zs from zA (by rw[HPL.out];exact zn _)] at hw
   have HO:=hall.out
   rw[zO] at HO
   have HO:=zf HO
   clear hown hi hall
   go_wp2
   refine bodyPost_ret (v:=.tuple #[_,.bool true]) (by simp[results,Tryz.results326,go_sem]) rfl ⟨_,_,rfl,Or.inl ⟨HO.out,rfl,hw⟩,hbr⟩
def wA (w:World) (base:Nat) (v:Value) (e:Int) (zs:List CQ):Prop:=(fw zs=true∧e=0∧bf w base v (d_ zs))∨(fw zs=false∧e=11∧v=.slice none 0 0)
theorem xQ (v:Value) (zs:List CQ) (w:World) (hl:IsP w v zs) (hlen:zs.length<1000000) (hG:Gw w) :
  Calls Tryz.prog 304 #[v] w fun e w'=>∃ v' x,e=.returned (.tuple #[v',.int .i64 x])∧wA w' w.heap.size v' x zs∧Below w.heap.size w w':=by
 have HP:=zf (x9 v zs w hl hlen hG)
 clear hl hG
 go_enter Tryz.func304,Tryz.ntmps304
 go_wp2_with fail
 refine HP.out.mono ?_
 rintro e w1 ⟨u,ok,rfl,hc,hb⟩
 rcases hc with ⟨h1,rfl,h3⟩ | ⟨h1,rfl,rfl⟩
 ·have HO:=zf h1
  clear h1
  go_wp2
  refine bodyPost_ret (v:=.tuple #[u,.int .i64 0]) (by simp[results,Tryz.results304,go_sem]) rfl ⟨_,_,rfl,Or.inl ⟨HO.out,rfl,h3⟩,hb⟩
 ·have HO:=zf h1
  clear h1
  go_wp2
  refine bodyPost_ret (v:=.tuple #[.slice none 0 0,.int .i64 11]) (by simp[results,Tryz.results304,go_sem]) rfl ⟨_,_,rfl,Or.inr ⟨HO.out,rfl,rfl⟩,hb⟩
end Go.Proofs.YtdlioncecgnloaaGreatDoor
