/- Lemmas of this claim. -/
import Derived.Test.YtdlioncecgnloaaGreatDoorYNQ
import Derived.Test.YtdlioncecgnloaaGreatDoorYRBase
set_option linter.all false
set_option maxRecDepth 100000
set_option maxHeartbeats 8000000
namespace Go.Proofs.YtdlioncecgnloaaGreatDoor
open Go.RowKit Dg Dc
def toQ (r:Rt):Rat:=mkRat (sgz r.minus r.n) r.d
theorem vC {r:Rt} (h:e_ r):rt (toQ r)=r:=by unfold toQ;rw[←j5 _ _ _ h.pos,j6 h]
theorem qA (q:Rat):toQ (rt q)=q:=by
 unfold toQ
 rw[kR]
 exact Rat.mkRat_self q
theorem jY (q:Rat):e_ (rt q):=⟨q.den_pos,q.reduced,fun h=>by
 unfold rt at h ⊢
 simp only[decide_eq_true_eq] at h ⊢
 omega⟩
def dl (z:CQ):Bool:=cJ (rt z.re)||cJ (rt z.im)
def txt (z:CQ):ByteArray:=⟨(bS (ct z)).toArray⟩
def dE (s:ByteArray):Option CQ:=(ec s.data.toList).map fun z=>⟨toQ z.x,toQ z.y⟩
def b9 (z:CQ):ByteArray×Int:=if dl z=true then (⟨#[]⟩,11) else (txt z,0)
theorem fF {s:ByteArray}{l:List UInt8} (h:s.data.toList=l):s=⟨l.toArray⟩:=by
 obtain⟨⟨d⟩⟩:=s
 simp only at h
 rw[h]
theorem tN {r:Rt} (hb:cJ r=false) (hp:0<r.d):Sz 2000 r:=by
 obtain⟨h1,h2⟩:=kc hb
 refine⟨?_,hp,?_⟩
 ·exact Nat.lt_of_not_le fun h=>by have:=gZ h;omega
 ·exact Nat.lt_of_not_le fun h=>by have:=gZ h;omega
theorem eS {s:ByteArray}{z:Vl} (h:ec s.data.toList=some z):∃ q,z=ct q∧dE s=some q∧SzV 2000 (ct q)∧dl q=false∧txt q=s:=by
 have h':=h
 unfold ec at h
 split at h
 ·cases h
 ·split at h
  ·rename_i p q hp hq
   split at h
   ·rename_i hc
    injection h with h
    subst h
    have e1:=vC (dS hp)
    have e2:=vC (dS hq)
    have e:(⟨p,q⟩:Vl)=ct ⟨toQ p,toQ q⟩:=by unfold ct;rw[e1,e2]
    refine⟨⟨toQ p,toQ q⟩,e,by unfold dE;rw[h'];rfl,?_,?_,?_⟩
    ·rw[←e];exact⟨tN hc.2.1 (dS hp).pos,tN hc.2.2 (dS hq).pos⟩
    ·unfold dl;simp only;rw[e1,e2,hc.2.1,hc.2.2];rfl
    ·unfold txt;rw[←e,hc.1]
   ·cases h
  ·cases h
theorem el {s:ByteArray} (h:ec s.data.toList=none):dE s=none:=by unfold dE;rw[h];rfl
theorem lI {q:Rat} (h:dl (CQ.real q)=false):dE (txt (CQ.real q))=some (CQ.real q):=by
 have h1:cJ (rt q)=false:=by unfold dl CQ.real at h;simp only[AK] at h;exact h.1
 have e:bS (ct (CQ.real q))=aF (rt q):=bE (z:=ct (CQ.real q)) (by show (rt 0).n=0;rw[cZ])
 unfold dE txt
 simp only[BS]
 rw[e,nW (jY q) h1]
 simp only[BQ,qA]
 congr 1
theorem nU {s:ByteArray}{z:CQ} (h:dE s=some z):dl z=false∧txt z=s∧SzV 2000 (ct z):=by
 cases hg:ec s.data.toList with
 | none=>rw[el hg] at h;cases h
 | some y =>
  obtain⟨q,-,h1,h2,h3,h4⟩:=eS hg
  rw[h1] at h
  injection h with h
  subst h
  exact⟨h3,h4,h2⟩
def bn (φ:CQ→CQ→CQ×Int) (s t:ByteArray):ByteArray×Int :=
 match dE s,dE t with
 | some a,some b=>if (φ a b).2=0 then b9 (φ a b).1 else (⟨#[]⟩,(φ a b).2)
 | _,_=>(⟨#[]⟩,10)
def dA (f:CQ→CQ→CQ) (a b:CQ):CQ×Int:=(f a b,0)
def nR (a b:CQ):CQ×Int:=if b=⟨0,0⟩ then (⟨0,0⟩,12) else (a.div b,0)
def fd (s t:ByteArray):ByteArray:=(bn (dA CQ.add) s t).1
def eX (s t:ByteArray):ByteArray:=(bn (dA CQ.sub) s t).1
def ck (s t:ByteArray):ByteArray:=(bn (dA CQ.mul) s t).1
def bL (s t:ByteArray):ByteArray:=(bn nR s t).1
open Go.RowKit Dg
theorem vZ (va:Value) (u:Vl) (w:World) (ha:IsV w va u) :
  Calls Tryz.prog 207 #[va] w fun e w'=>e=.returned (.bool (decide (u.x.n=0∧u.y.n=0)))∧Below w.heap.size w w':=by
 obtain⟨a,b,c,d,e,f,rfl,hx,hy⟩:=ha
 have hb0:=ae w (.cells #[a,b,c,d,e,f] 91)
 have HB:=zf hb0
 have H1:=zf (eN _ _ _ (hx.below hb0))
 have H2:=zf (fun wx (hw:Below (w.alloc (.cells #[a,b,c,d,e,f] 91)).heap.size (w.alloc (.cells #[a,b,c,d,e,f] 91)) wx)=>eN _ _ _ ((hy.below hb0).below hw))
 have q1:=aS.new w a b c d e f 91
 clear hb0
 go_enter Tryz.func207,Tryz.ntmps207
 go_upto_region 1 with fail
 generalize w.alloc (.cells #[a,b,c,d,e,f] 91)=w1 at *
 have a0:=q1.c0;have a1:=q1.c1;have a2:=q1.c2;have a3:=q1.c3;have a4:=q1.c4;have a5:=q1.c5
 by_cases h:u.x.n=0
 ·rw[decide_eq_true h] at H1
  go_wp2_with fail
  refine H1.out.mono ?_
  rintro e w2 ⟨rfl,hb2⟩
  have q2:=q1.below hb2
  have c0:=q2.c0;have c1:=q2.c1;have c2:=q2.c2;have c3:=q2.c3;have c4:=q2.c4;have c5:=q2.c5
  clear a0 a1 a2 a3 a4 a5
  go_wp2_with fail
  refine (H2.out w2 hb2).mono ?_
  rintro e w3 ⟨rfl,hb3⟩
  go_wp2
  go_ret
  exact⟨by simp[h],HB.out.trans ((hb2.trans (hb3.mono hb2.size)).mono HB.out.size)⟩
 ·rw[decide_eq_false h] at H1
  go_wp2_with fail
  refine H1.out.mono ?_
  rintro e w2 ⟨rfl,hb2⟩
  go_wp2
  go_ret
  exact⟨by simp[h],HB.out.trans (hb2.mono HB.out.size)⟩
theorem s_ (va:Value) (z:CQ) (w:World) (ha:IsV w va (ct z)) (hG:Gw w) :
  Calls Tryz.prog 134 #[va] w fun e w'=>e=.returned (.tuple #[.string (b9 z).1,.int .i64 (b9 z).2])∧Below w.heap.size w w':=by
 have ha0:=ha
 obtain⟨a,b,c,d,e,f,rfl,hx,hy⟩:=ha
 have hb0:=ae w (.cells #[a,b,c,d,e,f] 91)
 have HB:=zf hb0
 have H1:=zf (mF _ _ _ (hx.below hb0) (hG.below hb0))
 have H2:=zf (fun wx (hw:Below (w.alloc (.cells #[a,b,c,d,e,f] 91)).heap.size (w.alloc (.cells #[a,b,c,d,e,f] 91)) wx)=>mF _ _ _ ((hy.below hb0).below hw) ((hG.below hb0).below hw))
 have H3:=zf (fun wx (hw:Below (w.alloc (.cells #[a,b,c,d,e,f] 91)).heap.size (w.alloc (.cells #[a,b,c,d,e,f] 91)) wx)=>mq _ _ _ ((ha0.below hb0).below hw) (df _) (df _) ((hG.below hb0).below hw))
 have q1:=aS.new w a b c d e f 91
 clear hb0 ha0 hx hy
 go_enter Tryz.func134,Tryz.ntmps134
 go_upto_region 1 with fail
 generalize w.alloc (.cells #[a,b,c,d,e,f] 91)=w1 at *
 have a0:=q1.c0;have a1:=q1.c1;have a2:=q1.c2;have a3:=q1.c3;have a4:=q1.c4;have a5:=q1.c5
 by_cases h:cJ (rt z.re)=true
 ·rw[show cJ (ct z).x=true from h] at H1
  go_wp2_with fail
  refine H1.out.mono ?_
  rintro e w2 ⟨rfl,hb2⟩
  have hp:b9 z=(⟨#[]⟩,11):=by unfold b9 dl;rw[h];rfl
  go_wp2
  refine bodyPost_ret (v:=.tuple #[.string ⟨#[]⟩,.int .i64 11]) (by simp[results,Tryz.results134,go_sem]) rfl ⟨by rw[hp],HB.out.trans (hb2.mono HB.out.size)⟩
 ·rw[show cJ (ct z).x=false from Ae.2 h] at H1
  go_wp2_with fail
  refine H1.out.mono ?_
  rintro e w2 ⟨rfl,hb2⟩
  have q2:=q1.below hb2
  have c0:=q2.c0;have c1:=q2.c1;have c2:=q2.c2;have c3:=q2.c3;have c4:=q2.c4;have c5:=q2.c5
  clear a0 a1 a2 a3 a4 a5
  have H2:=zf (H2.out w2 hb2)
  by_cases h2:cJ (rt z.im)=true
  ·rw[show cJ (ct z).y=true from h2] at H2
   go_wp2_with fail
   refine H2.out.mono ?_
   rintro e w3 ⟨rfl,hb3⟩
   have hp:b9 z=(⟨#[]⟩,11):=by unfold b9 dl;rw[h2];simp
   go_wp2
   refine bodyPost_ret (v:=.tuple #[.string ⟨#[]⟩,.int .i64 11]) (by simp[results,Tryz.results134,go_sem]) rfl ⟨by rw[hp],HB.out.trans ((hb2.trans (hb3.mono hb2.size)).mono HB.out.size)⟩
  ·rw[show cJ (ct z).y=false from Ae.2 h2] at H2
   go_wp2_with fail
   refine H2.out.mono ?_
   rintro e w3 ⟨rfl,hb3⟩
   have hB3:=hb2.trans (hb3.mono hb2.size)
   have q3:=q1.below hB3
   have d0:=q3.c0;have d1:=q3.c1;have d2:=q3.c2;have d3:=q3.c3;have d4:=q3.c4;have d5:=q3.c5
   clear c0 c1 c2 c3 c4 c5
   have hp:b9 z=(txt z,0):=by unfold b9 dl;rw[if_neg (by simpa using ⟨by simpa using h,by simpa using h2⟩)]
   have HP:=zf hp
   clear hp
   go_wp2_with fail
   refine (H3.out w3 hB3).mono ?_
   rintro e w4 ⟨t,rfl,ht,-,hb4⟩
   go_wp2
   refine bodyPost_ret (v:=.tuple #[.string t,.int .i64 0]) (by simp[results,Tryz.results134,go_sem]) rfl ⟨?_,HB.out.trans ((hB3.trans (hb4.mono hB3.size)).mono HB.out.size)⟩
   rw[HP.out]
   have:t=txt z:=fF ht.out
   rw[this]
theorem cC {a b c a' b' c':Value} (h:Value.agg #[a,b,c]=.agg #[a',b',c']):a=a'∧b=b'∧c=c':=by simpa using h
structure xX (F:FuncId) (cap:Array Value) (φ:CQ→CQ→CQ×Int) (w:World):Prop where
 en:∀ (args:Array Value) (w:World),(callFunc F args).run Tryz.prog w=.ok (.enter F args) w
 on:∀ (x y:Value) (a b:CQ) (w':World),Below w.heap.size w w'→IsK w' x a→IsK w' y b→Calls Tryz.prog F (#[x,y]++cap) w' fun e w''=>∃ v z,e=.returned (.tuple #[v,.int .i64 (φ a b).2])∧IsV w'' v z∧((φ a b).2=0→z=ct (φ a b).1)∧Below w'.heap.size w' w''
theorem qK (F:FuncId) (cap:Array Value) (φ:CQ→CQ→CQ×Int) (s t:ByteArray) (w:World) (hG:Gw w) (hF:xX F cap φ w) :
  Calls Tryz.prog 76 #[.string s,.string t,.func (.func F) #[] cap] w fun e w'=>e=.returned (.tuple #[.string (bn φ s t).1,.int .i64 (bn φ s t).2])∧Below w.heap.size w w':=by
 have HF:=zf hF
 have EN:=hF.en
 clear hF
 go_enter Tryz.func76,Tryz.ntmps76
 go_wp2_with fail
 refine (gL s w hG).mono ?_
 rintro e w1 ⟨v,ok,rfl,hcase,hb1⟩
 rcases hcase with ⟨z,hz,rfl,hv⟩ | ⟨hz,rfl,rfl⟩
 ·obtain⟨p,rfl,hp1,hp2,-,-⟩:=eS hz
  have HP1:=zf hp1
  clear hz hp1
  obtain⟨_,_,_,_,_,_,rfl,hx0,hy0⟩:=id hv
  obtain⟨xm,xp,xl,xc,xq,xk,xd,hxe⟩:=hx0.form
  obtain⟨ym,yp,yl,yc,yq,yk,yd,hye⟩:=hy0.form
  obtain⟨rfl,rfl,rfl⟩:=cC hxe
  obtain⟨rfl,rfl,rfl⟩:=cC hye
  clear hxe hye hx0 hy0
  go_upto_region 2 with fail
  have q1:=aS.new w1 (.bool xm) (.slice xp xl xc) (.slice xq xk xd) (.bool ym) (.slice yp yl yc) (.slice yq yk yd) 91
  have m1:=ae w1 (.cells #[.bool xm,.slice xp xl xc,.slice xq xk xd,.bool ym,.slice yp yl yc,.slice yq yk yd] 91)
  generalize w1.alloc (.cells #[.bool xm,.slice xp xl xc,.slice xq xk xd,.bool ym,.slice yp yl yc,.slice yq yk yd] 91)=w2 at *
  have B1:=zf q1
  have HV:=zf (hv.below m1)
  have hb2:=hb1.trans (m1.mono hb1.size)
  clear q1 hv m1
  go_wp2_with fail
  refine (gL t w2 (hG.below hb2)).mono ?_
  rintro e w3 ⟨v2,ok2,rfl,hcase,hb3⟩
  have hB3:=hb2.trans (hb3.mono hb2.size)
  rcases hcase with ⟨z2,hz2,rfl,hv2⟩ | ⟨hz2,rfl,rfl⟩
  ·obtain⟨q,rfl,hr1,hr2,-,-⟩:=eS hz2
   have HP2:=zf hr1
   clear hz2 hr1
   obtain⟨_,_,_,_,_,_,rfl,hx0,hy0⟩:=id hv2
   obtain⟨xm',xp',xl',xc',xq',xk',xd',hxe⟩:=hx0.form
   obtain⟨ym',yp',yl',yc',yq',yk',yd',hye⟩:=hy0.form
   obtain⟨rfl,rfl,rfl⟩:=cC hxe
   obtain⟨rfl,rfl,rfl⟩:=cC hye
   clear hxe hye hx0 hy0
   go_upto_region 5 with fail
   have q2:=aS.new w3 (.bool xm') (.slice xp' xl' xc') (.slice xq' xk' xd') (.bool ym') (.slice yp' yl' yc') (.slice yq' yk' yd') 91
   have m2:=ae w3 (.cells #[.bool xm',.slice xp' xl' xc',.slice xq' xk' xd',.bool ym',.slice yp' yl' yc',.slice yq' yk' yd'] 91)
   generalize w3.alloc (.cells #[.bool xm',.slice xp' xl' xc',.slice xq' xk' xd',.bool ym',.slice yp' yl' yc',.slice yq' yk' yd'] 91)=w4 at *
   have hb4:=hb3.trans (m2.mono hb3.size)
   have hB4:=hb2.trans (hb4.mono hb2.size)
   have q1:=B1.out.below hb4
   have HC:=zf (HF.out.on _ _ p q w4 hB4 ⟨HV.out.below hb4,hp2.mono (by decide)⟩ ⟨hv2.below m2,hr2.mono (by decide)⟩)
   have a0:=q1.c0;have a1:=q1.c1;have a2:=q1.c2;have a3:=q1.c3;have a4:=q1.c4;have a5:=q1.c5
   have b0:=q2.c0;have b1:=q2.c1;have b2:=q2.c2;have b3:=q2.c3;have b4:=q2.c4;have b5:=q2.c5
   have HB4:=zf hB4
   clear q1 q2 m2 hv2 hb3 hb4 hB4 hB3 hb2 HF
   go_wp2_with fail
   refine HC.out.mono ?_
   rintro e w5 ⟨v3,z3,rfl,hv3,hz3,hb5⟩
   obtain⟨err,herr⟩:∃ n,n=(φ p q).2:=⟨_,rfl⟩
   rw[←herr]
   have hB5:=HB4.out.trans (hb5.mono HB4.out.size)
   obtain⟨_,_,_,_,_,_,rfl,hx0,hy0⟩:=id hv3
   obtain⟨um,up,ul,uc,uq,uk,ud,hxe⟩:=hx0.form
   obtain⟨vm,vp,vl,vc,vq,vk,vd,hye⟩:=hy0.form
   obtain⟨rfl,rfl,rfl⟩:=cC hxe
   obtain⟨rfl,rfl,rfl⟩:=cC hye
   clear hxe hye hx0 hy0 a0 a1 a2 a3 a4 a5 b0 b1 b2 b3 b4 b5 HC HV B1 HB4
   by_cases he:err=0
   ·have hbc:bn φ s t=b9 (φ p q).1:=by unfold bn;rw[HP1.out,HP2.out];simp only;rw[if_pos (by rw[←herr];exact he)]
    have hz4:=hz3 (by rw[←herr];exact he)
    have HE:=zf hbc
    rw[hz4] at hv3
    clear hbc hz3 herr hz4
    subst he
    go_upto_region 8 with fail
    have q3:=aS.new w5 (.bool um) (.slice up ul uc) (.slice uq uk ud) (.bool vm) (.slice vp vl vc) (.slice vq vk vd) 91
    have m3:=ae w5 (.cells #[.bool um,.slice up ul uc,.slice uq uk ud,.bool vm,.slice vp vl vc,.slice vq vk vd] 91)
    generalize w5.alloc (.cells #[.bool um,.slice up ul uc,.slice uq uk ud,.bool vm,.slice vp vl vc,.slice vq vk vd] 91)=w6 at *
    have a0:=q3.c0;have a1:=q3.c1;have a2:=q3.c2;have a3:=q3.c3;have a4:=q3.c4;have a5:=q3.c5
    have HB6:=zf (hB5.trans (m3.mono hB5.size))
    have HG:=zf (hG.below HB6.out)
    have HV:=zf (hv3.below m3)
    clear q3 m3 hv3 hB5 hb5
    go_wp2_with fail
    refine (s_ _ _ _ HV.out HG.out).mono ?_
    rintro e w7 ⟨rfl,hb7⟩
    go_wp2
    refine bodyPost_ret (v:=.tuple #[.string (b9 (φ p q).1).1,.int .i64 (b9 (φ p q).1).2]) (by simp[results,Tryz.results76,go_sem]) rfl ⟨by rw[HE.out],HB6.out.trans (hb7.mono HB6.out.size)⟩
   ·have hbc:bn φ s t=(⟨#[]⟩,err):=by unfold bn;rw[HP1.out,HP2.out];simp only;rw[if_neg (by rw[←herr];exact he),herr]
    have HE:=zf hbc
    have hne:(!(err == 0))=true:=by simpa using he
    clear hbc hz3 herr
    go_wp2
    refine bodyPost_ret (v:=.tuple #[.string ⟨#[]⟩,.int .i64 err]) (by simp[results,Tryz.results76,go_sem]) rfl ⟨by rw[HE.out],hB5.trans ((ae w5 _).mono hB5.size)⟩
  ·have e:bn φ s t=(⟨#[]⟩,10):=by unfold bn;rw[el hz2,HP1.out]
   have HE:=zf e
   clear e hz2
   unfold eU
   go_wp2
   refine bodyPost_ret (v:=.tuple #[.string ⟨#[]⟩,.int .i64 10]) (by simp[results,Tryz.results76,go_sem]) rfl ⟨by rw[HE.out],hB3.trans ((ae w3 _).mono hB3.size)⟩
 ·have e:bn φ s t=(⟨#[]⟩,10):=by unfold bn;rw[el hz]
  have HE:=zf e
  clear e hz
  unfold eU
  go_wp2
  refine bodyPost_ret (v:=.tuple #[.string ⟨#[]⟩,.int .i64 10]) (by simp[results,Tryz.results76,go_sem]) rfl ⟨by rw[HE.out],hb1.trans ((ae w1 _).mono hb1.size)⟩
end Go.Proofs.YtdlioncecgnloaaGreatDoor
