/- Lemmas of this claim. -/
import Derived.Test.YtnkgbocdpngldaaGreatDoorXMach
import Derived.Test.YtnkgbocdpngldaaGreatDoorXRRead
import Derived.Test.YtnkgbocdpngldaaGreatDoorXRQ3
set_option linter.all false
set_option maxRecDepth 100000
set_option maxHeartbeats 8000000
namespace Go.Proofs.YtnkgbocdpngldaaGreatDoor
open Go.RowKit Dg Dc
theorem CC {t:ByteArray}{l:List UInt8} (h:t.data.toList=l):t=⟨l.toArray⟩:=by rw[←h]
theorem A3 {w:World}{p:Option Addr}{N c d:Nat} (h:IsD w (.slice p N c) d) (hd:0<d):(N=1∧nth (ar RR d) 0=1)↔d=1:=by
 rw[qw h]
 have hv:=aB aD d
 constructor
 ·rintro⟨h1,h2⟩
  generalize ar RR d=l at *
  match l,h1 with
  | [a],_=>simp[nth] at h2;subst h2;rw[←hv];rfl
 ·intro h
  subst h
  have:ar RR 1=[1]:=by
   have:=cL aD (l:=[1]) (by intro d hd;rw[D9.1 hd];decide)
   rw[show val RR [1]=1 from rfl] at this
   rw[←this];decide
  rw[this];exact⟨rfl,rfl⟩
theorem lQ (m:Bool) (p:Option Addr) (N c n:Nat) (w:World) (hv:IsD w (.slice p N c) n) (hf:bO n) :
  Calls Tryz.prog 145 #[.agg #[.bool m,.slice p N c]] w fun e w'=>e=.returned (.string ⟨((if m then [45] else [])++dec n).toArray⟩)∧Below w.heap.size w w':=by
 have hl:=bL w (.cells #[.bool m,.slice p N c] 171)
 have HD:=C5 (hv.below hl.below)
 have x0:=aa hl.s0 0
 have x1:=aa hl.s0 1
 have HB:=hl.below
 clear hv hl
 go_enter Tryz.func145,Tryz.ntmps145
 go_upto_region 1 with fail
 generalize w.alloc (.cells #[.bool m,.slice p N c] 171)=w1 at *
 cases m
 all_goals
  go_wp2_with fail
  refine (tA _ n w1 HD.out hf).mono ?_
  rintro e w2 ⟨t,rfl,ht,hts,rfl⟩
  go_wp2_with fail
  go_ret
  refine⟨?_,HB⟩
  have ht':=CC ht.out
  subst ht'
  first | rfl | (congr 2;simp) | (show Ending.returned _=Ending.returned _;congr 2;simp)
theorem kS (m:Bool) (p:Option Addr) (N c n:Nat) (w:World) (hv:IsD w (.slice p N c) n) (hf:bO n) :
  Calls Tryz.prog 131 #[.agg #[.bool m,.slice p N c]] w fun e w'=>e=.returned (.bool (decide (2000<(dec n).length)))∧Below w.heap.size w w':=by
 have hl:=bL w (.cells #[.bool m,.slice p N c] 171)
 have HD:=C5 (hv.below hl.below)
 have x1:=aa hl.s0 1
 have HB:=hl.below
 clear hv hl
 go_enter Tryz.func131,Tryz.ntmps131
 go_upto_region 1 with fail
 generalize w.alloc (.cells #[.bool m,.slice p N c] 171)=w1 at *
 go_wp2_with fail
 refine (y9 _ n w1 HD.out hf).mono ?_
 rintro e w2 ⟨rfl,rfl⟩
 have hd:decide ((2000:Int)<((dec n).length:Nat))=decide (2000<(dec n).length):=by rw[decide_eq_decide];omega
 have HDD:=C5 hd
 clear hd
 go_wp2_with fail
 go_ret
 refine⟨?_,HB⟩
 rw[←HDD.out];rfl
theorem lH (v:Value) (r:Rt) (w:World) (hv:IsQ w v r) :
  Calls Tryz.prog 119 #[v] w fun e w'=>e=.returned (.bool (decide (r.n=0)))∧Below w.heap.size w w':=by
 obtain⟨p,N,c,p',N',c',rfl,hN,hNc,hcm,hN',hNc',hcm',hdn,hdd⟩:=hv.parts
 have hl:=bL w (.cells #[.bool r.minus,.slice p N c,.bool false,.slice p' N' c'] 173)
 have x1:=aa hl.s0 1
 have HB:=hl.below
 have hz:Hid (((N:Int) == 0)=decide (r.n=0)):=by
  have:=er hdn
  unfold Hid
  rw[D6];simp;omega
 clear hl hv
 generalize r.minus=m at *
 go_enter Tryz.func119,Tryz.ntmps119
 go_wp2_with fail
 go_ret
 refine⟨?_,HB⟩
 rw[←hz.out];rfl
theorem rQ {w:World}{p:Option Addr}{N c n j:Nat} (h:IsD w (.slice p N c) n) (hj:j<N):∃ b o,p=some ⟨b,o,none⟩∧b<w.heap.size∧w.cell? ⟨b,o+j,none⟩=some (.int .i64 (nth (ar RR n) j)):=by
 have hl:=qw h
 obtain⟨p',c',e,h1,h2,h3⟩:=h
 obtain⟨rfl,_,rfl⟩:p'=p∧N=(ar RR n).length∧c'=c:=by simp at e;exact⟨e.1.symm,e.2.1,e.2.2.symm⟩
 obtain⟨b,o,e2,hb,hc⟩:=h3 (by omega)
 exact⟨b,o,e2,hb,hc j (by omega)⟩
theorem qe {n:Nat} (h:bO n):(dec n).length≤400004:=by
 have h1:=bR aD n
 rw[tY] at h1
 unfold bO at h
 have h2:=bX (k:=4*(ar RR n).length+1) (by omega) (C8 h1 (DB (by omega) (by omega)))
 omega
theorem pI {m:Bool}{n:Nat} (h:bO n):(⟨((if m then [45] else [])++dec n).toArray⟩:ByteArray).size≤400005:=by
 have:=qe h
 have h2:=eC (t:=(⟨((if m then [45] else [])++dec n).toArray⟩:ByteArray)) (l:=(if m then [45] else [])++dec n) (by simp)
 rw[h2]
 cases m<;>simp<;>omega
theorem gI (v:Value) (r:Rt) (w:World) (hv:IsQ w v r) (hd0:0<r.d) (hfn:bO r.n) (hfd:bO r.d) :
  Calls Tryz.prog 130 #[v] w fun e w'=>e=.returned (.string ⟨(aT r).toArray⟩)∧Below w.heap.size w w':=by
 obtain⟨p,N,c,p',N',c',rfl,hN,hNc,hcm,hN',hNc',hcm',hdn,hdd⟩:=hv.parts
 obtain⟨m,n,d⟩:=r
 simp only at *
 have hl:=bL w (.cells #[.bool m,.slice p N c,.bool false,.slice p' N' c'] 173)
 have HDN:=C5 (hdn.below hl.below)
 have HDD:=C5 (hdd.below hl.below)
 have x0:=aa hl.s0 0
 have x1:=aa hl.s0 1
 have x2:=aa hl.s0 2
 have x3:=aa hl.s0 3
 have HB:=hl.below
 have HL:=C5 (ae hl.s0)
 have hone:=A3 hdd hd0
 have hst1:=pI (m:=m) hfn
 have hst2:=pI (m:=false) hfd
 have HT:Hid (aT ⟨m,n,d⟩=(if m then [45] else [])++dec n++(if 1<d then 47 :: dec d else [])):=rfl
 have HF:=C5 hfn
 have HF':=C5 hfd
 clear hv hl hdn hfn hfd
 go_enter Tryz.func130,Tryz.ntmps130
 go_upto_region 1 with fail
 generalize w.alloc (.cells #[.bool m,.slice p N c,.bool false,.slice p' N' c'] 173)=w1 at *
 obtain⟨t1,ht1⟩:∃ t1:ByteArray,t1=⟨((if m then [45] else [])++dec n).toArray⟩:=⟨_,rfl⟩
 rw[←ht1] at hst1
 have HT1:=C5 (lQ m p N c n w1 HDN.out HF.out)
 rw[←ht1] at HT1
 by_cases h1:d=1
 ·obtain⟨hN1,hn1⟩:=hone.2 h1
  obtain⟨b,o,rfl,hb,hc⟩:=rQ HDD.out (show 0<N' by omega)
  rw[DJ] at hc
  rw[hn1] at hc
  have hN1':((N':Int) == 1)=true:=by simp;omega
  have HR:Hid ((⟨(aT ⟨m,n,d⟩).toArray⟩:ByteArray)=t1):=by unfold Hid;rw[HT.out,if_neg (show ¬ 1<d by omega),DR,ht1]
  clear hone hn1 hst1 hst2 h1 ht1
  go_wp2_with fail
  refine HT1.out.mono ?_
  rintro e w2 ⟨rfl,hb2⟩
  have HEND:=HB.trans (hb2.mono HB.size)
  go_wp2_with fail
  go_ret
  exact⟨by rw[HR.out];rfl,HEND⟩
 ·obtain⟨t2,ht2⟩:∃ t2:ByteArray,t2=⟨((if false then [45] else [])++dec d).toArray⟩:=⟨_,rfl⟩
  rw[←ht2] at hst2
  have HA:Hid (aQ w1 145 #[.agg #[.bool m,.slice p N c]] ((.string t1))):=fun y=>ax.calls (by rw[ht1];exact lQ m p N c n y.w (HDN.out.below y.h) HF.out)
  have HB2:Hid (aQ w1 145 #[.agg #[.bool false,.slice p' N' c']] ((.string t2))):=fun y=>ax.calls (by rw[ht2];exact lQ false p' N' c' d y.w (HDD.out.below y.h) HF'.out)
  have y0:∀ y:ax w1,y.w.cell? ⟨w.heap.size,0,none⟩=some (.bool m):=fun y=>(y.cell HL.out).trans x0
  have y1:∀ y:ax w1,y.w.cell? ⟨w.heap.size,1,none⟩=some (.slice p N c):=fun y=>(y.cell HL.out).trans x1
  have y2:∀ y:ax w1,y.w.cell? ⟨w.heap.size,2,none⟩=some (.bool false):=fun y=>(y.cell HL.out).trans x2
  have y3:∀ y:ax w1,y.w.cell? ⟨w.heap.size,3,none⟩=some (.slice p' N' c'):=fun y=>(y.cell HL.out).trans x3
  have HR:Hid ((⟨(aT ⟨m,n,d⟩).toArray⟩:ByteArray)=t1++⟨#[47]⟩++t2):=by
   unfold Hid
   rw[HT.out,if_pos (show 1<d by omega),ht1,ht2]
   apply ByteArray.ext
   simp
  clear ht1 ht2
  by_cases hN1:N'=1
  ·obtain⟨b,o,rfl,hb,hc⟩:=rQ HDD.out (show 0<N' by omega)
   rw[DJ] at hc
   have hnn:nth (ar RR d) 0≠1:=fun e=>h1 (hone.1 ⟨hN1,e⟩)
   generalize nth (ar RR d) 0=u at *
   have hu:((u:Int) == 1)=false:=by simp;omega
   have hN1':((N':Int) == 1)=true:=by simp;omega
   have hNp:0<N':=by omega
   have HN1:=C5 hN1
   clear hone h1 hnn hN1
   go_upto_region 3 with fail
   clear x0 x1 x2 x3
   refine ai (by kernel_rfl) (by kernel_rfl) ?_
   repeat (go_big_quiet_step ((go_at_call 145;first | with_reducible exact HA.out _ | with_reducible exact HB2.out _)))
   refine wpQuiet_nil ?_
   rintro _ ⟨⟨w2,hbN⟩,rfl⟩
   have HEND:=HB.trans (hbN.mono HB.size)
   clear HA HB2 y0 y1 y2 y3
   go_wp2_with fail
   go_ret
   exact⟨by rw[HR.out];rfl,HEND⟩
  ·have hN1':((N':Int) == 1)=false:=by simp;omega
   clear hone h1
   go_upto_region 3 with fail
   clear x0 x1 x2 x3
   refine ai (by kernel_rfl) (by kernel_rfl) ?_
   repeat (go_big_quiet_step ((go_at_call 145;first | with_reducible exact HA.out _ | with_reducible exact HB2.out _)))
   refine wpQuiet_nil ?_
   rintro _ ⟨⟨w2,hbN⟩,rfl⟩
   have HEND:=HB.trans (hbN.mono HB.size)
   clear HA HB2 y0 y1 y2 y3
   go_wp2_with fail
   go_ret
   exact⟨by rw[HR.out];rfl,HEND⟩
theorem IsC.parts {w:World}{v:Value}{z:Vl} (h:IsC w v z):∃ p0 n0 c0 p1 n1 c1 p2 n2 c2 p3 n3 c3,v=.agg #[.bool z.x.minus,.slice p0 n0 c0,.bool false,.slice p1 n1 c1,.bool z.y.minus,.slice p2 n2 c2,.bool false,.slice p3 n3 c3] ∧
  IsQ w (.agg #[.bool z.x.minus,.slice p0 n0 c0,.bool false,.slice p1 n1 c1]) z.x∧IsQ w (.agg #[.bool z.y.minus,.slice p2 n2 c2,.bool false,.slice p3 n3 c3]) z.y:=by
 obtain⟨a,b,c,d,rfl,h1,h2,h3,h4⟩:=h
 obtain⟨p0,n0,c0,rfl,_⟩:=h1.parts
 obtain⟨p1,n1,c1,rfl,_⟩:=h2.parts
 obtain⟨p2,n2,c2,rfl,_⟩:=h3.parts
 obtain⟨p3,n3,c3,rfl,_⟩:=h4.parts
 exact⟨p0,n0,c0,p1,n1,c1,p2,n2,c2,p3,n3,c3,rfl,⟨_,_,rfl,h1,h2⟩,⟨_,_,rfl,h3,h4⟩⟩
theorem ij {r:Rt} (h1:bO r.n) (h2:bO r.d):(⟨(aT r).toArray⟩:ByteArray).size≤900000:=by
 have a:=qe h1
 have b:=qe h2
 rw[eC (t:=(⟨(aT r).toArray⟩:ByteArray)) (l:=aT r) (by simp)]
 unfold aT
 simp only[Dd]
 split<;>split<;>simp<;>omega
theorem n9 (v:Value) (z:Vl) (w:World) (hv:IsC w v z) (hdx:0<z.x.d) (hdy:0<z.y.d) (hfx:bO z.x.n) (hfx':bO z.x.d) (hfy:bO z.y.n) (hfy':bO z.y.d) :
  Calls Tryz.prog 117 #[v] w fun e w'=>e=.returned (.string ⟨(cW z).toArray⟩)∧Below w.heap.size w w':=by
 obtain⟨p0,n0,c0,p1,n1,c1,p2,n2,c2,p3,n3,c3,rfl,hx,hy⟩:=hv.parts
 obtain⟨x,y⟩:=z
 simp only at *
 obtain⟨mx,hmx⟩:∃ mx,mx=x.minus:=⟨_,rfl⟩
 obtain⟨my,hmy⟩:∃ my,my=y.minus:=⟨_,rfl⟩
 rw[←hmx] at hx ⊢
 rw[←hmy] at hy ⊢
 have HMY:=C5 hmy
 have hl:=bL w (.cells #[.bool mx,.slice p0 n0 c0,.bool false,.slice p1 n1 c1,.bool my,.slice p2 n2 c2,.bool false,.slice p3 n3 c3] 175)
 have HX:=C5 (hx.below hl.below)
 have HY:=C5 (hy.below hl.below)
 have r0:=hl.s0
 have HB:=hl.below
 have HV0:Hid (cW ⟨x,y⟩=if y.n=0 then aT x else (if x.n=0 then [] else aT x++(if y.minus then [] else [43]))++dl y++[105]):=rfl
 clear hv hl hx hy hmx hmy
 have q4:=aa r0 4
 have q5:=aa r0 5
 have q6:=aa r0 6
 have q7:=aa r0 7
 go_enter Tryz.func117,Tryz.ntmps117
 go_upto_region 1 with fail
 generalize w.alloc (.cells #[.bool mx,.slice p0 n0 c0,.bool false,.slice p1 n1 c1,.bool my,.slice p2 n2 c2,.bool false,.slice p3 n3 c3] 175)=w1 at *
 go_wp2_with fail
 refine (lH _ y w1 HY.out).mono ?_
 rintro e w2 ⟨rfl,hb2⟩
 have HX2:=C5 (HX.out.below hb2)
 have HY2:=C5 (HY.out.below hb2)
 have r2:=(hb2.block _ (ae r0)).trans r0
 have HB2:=HB.trans (hb2.mono HB.size)
 clear q4 q5 q6 q7 r0 HX HY hb2 HB
 have q0:=aa r2 0
 have q1:=aa r2 1
 have q2:=aa r2 2
 have q3:=aa r2 3
 by_cases hyz:y.n=0
 ·have hyd:decide (y.n=0)=true:=by simp[hyz]
  have HV:Hid (cW ⟨x,y⟩=aT x):=by unfold Hid;rw[HV0.out,if_pos hyz]
  rw[hyd]
  clear hyz hyd
  go_wp2_with fail
  refine (gI _ x w2 HX2.out hdx hfx hfx').mono ?_
  rintro e w3 ⟨rfl,hb3⟩
  have HEND:=HB2.trans (hb3.mono HB2.size)
  go_wp2_with fail
  go_ret
  exact⟨by rw[HV.out];rfl,HEND⟩
 ·have hyd:decide (y.n=0)=false:=by simp[hyz]
  rw[hyd]
  clear hyd
  go_wp2_with fail
  refine (lH _ x w2 HX2.out).mono ?_
  rintro e w3 ⟨rfl,hb3⟩
  have HX3:=C5 (HX2.out.below hb3)
  have HY3:=C5 (HY2.out.below hb3)
  have r3:=(hb3.block _ (ae r2)).trans r2
  have HB3:=HB2.trans (hb3.mono HB2.size)
  clear q0 q1 q2 q3 r2 HX2 HY2 hb3 HB2
  by_cases hxz:x.n=0
  ·have hxd:decide (x.n=0)=true:=by simp[hxz]
   have HV:Hid (cW ⟨x,y⟩=dl y++[105]):=by unfold Hid;rw[HV0.out,if_neg hyz,if_pos hxz];rfl
   rw[hxd]
   clear hxz hxd hyz HV0
   have q4:=aa r3 4
   have q5:=aa r3 5
   have q6:=aa r3 6
   have q7:=aa r3 7
   go_wp2_with fail
   have HY4:=HY3
   have HB4:=HB3
   have r4:=r3
   clear HY3 HB3 r3 HX3
   refine (gI _ y w3 HY4.out hdy hfy hfy').mono ?_
   rintro e w5 ⟨rfl,hb5⟩
   have HEND:=HB4.trans (hb5.mono HB4.size)
   obtain⟨ty,hty⟩:∃ ty:ByteArray,ty=⟨(aT y).toArray⟩:=⟨_,rfl⟩
   have htl:ty.toList=aT y:=by rw[hty,aj]
   have hsy:ty.size≤900000:=by rw[hty];exact ij hfy hfy'
   rw[←hty]
   have HTY:=C5 hty
   clear hty hb5 r4
   by_cases e1:aT y=[49]
   ·have z1:(ty.toList == [49])=true:=by rw[htl,e1];rfl
    have HE:=C5 e1
    clear htl e1
    go_wp2_with fail
    go_ret
    refine⟨?_,HEND⟩
    rw[HV.out]
    show Ending.returned (Value.string _)=Ending.returned (Value.string _)
    congr 2
    apply ByteArray.ext
    simp[dl,HE.out,DM]
   ·by_cases e2:aT y=[45,49]
    ·have z1:(ty.toList == [49])=false:=by rw[htl,e2];rfl
     have z2:(ty.toList == [45,49])=true:=by rw[htl,e2];rfl
     have HE:=C5 e2
     clear htl e1 e2
     go_wp2_with fail
     go_ret
     refine⟨?_,HEND⟩
     rw[HV.out]
     show Ending.returned (Value.string _)=Ending.returned (Value.string _)
     congr 2
     apply ByteArray.ext
     simp[dl,HE.out,DM]
    ·have z1:(ty.toList == [49])=false:=by rw[htl];simpa using e1
     have z2:(ty.toList == [45,49])=false:=by rw[htl];simpa using e2
     have HE:Hid (dl y=aT y):=by unfold Hid dl;rw[if_neg (by rintro (h | h);exact e1 h;exact e2 h)]
     clear htl e1 e2
     go_wp2_with fail
     go_ret
     refine⟨?_,HEND⟩
     rw[HV.out]
     show Ending.returned (Value.string _)=Ending.returned (Value.string _)
     congr 2
     apply ByteArray.ext
     simp[HE.out,HTY.out,DM]
  ·have hxd:decide (x.n=0)=false:=by simp[hxz]
   rw[hxd]
   clear hxd
   have q0:=aa r3 0
   have q1:=aa r3 1
   have q2:=aa r3 2
   have q3:=aa r3 3
   go_wp2_with fail
   refine (gI _ x w3 HX3.out hdx hfx hfx').mono ?_
   rintro e w4 ⟨rfl,hb4⟩
   have HY4:=C5 (HY3.out.below hb4)
   have r4:=(hb4.block _ (ae r3)).trans r3
   have HB4:=HB3.trans (hb4.mono HB3.size)
   clear q0 q1 q2 q3 r3 HX3 HY3 hb4 HB3
   obtain⟨tx,htx⟩:∃ tx:ByteArray,tx=⟨(aT x).toArray⟩:=⟨_,rfl⟩
   have hsx:tx.size≤900000:=by rw[htx];exact ij hfx hfx'
   rw[←htx]
   have HTX:=C5 htx
   clear htx
   have q4:=aa r4 4
   have q5:=aa r4 5
   have q6:=aa r4 6
   have q7:=aa r4 7
   cases my
   ·have HV:Hid (cW ⟨x,y⟩=aT x++[43]++dl y++[105]):=by unfold Hid;rw[HV0.out,if_neg hyz,if_neg hxz,←HMY.out];rfl
    clear hxz hyz HV0
    go_wp2_with fail
    refine (gI _ y w4 HY4.out hdy hfy hfy').mono ?_
    rintro e w5 ⟨rfl,hb5⟩
    have HEND:=HB4.trans (hb5.mono HB4.size)
    obtain⟨ty,hty⟩:∃ ty:ByteArray,ty=⟨(aT y).toArray⟩:=⟨_,rfl⟩
    have htl:ty.toList=aT y:=by rw[hty,aj]
    have hsy:ty.size≤900000:=by rw[hty];exact ij hfy hfy'
    rw[←hty]
    have HTY:=C5 hty
    clear hty hb5 r4
    by_cases e1:aT y=[49]
    ·have z1:(ty.toList == [49])=true:=by rw[htl,e1];rfl
     have HE:=C5 e1
     clear htl e1
     go_wp2_with fail
     go_ret
     refine⟨?_,HEND⟩
     rw[HV.out]
     show Ending.returned (Value.string _)=Ending.returned (Value.string _)
     congr 2
     apply ByteArray.ext
     simp[dl,HE.out,HTX.out]
    ·by_cases e2:aT y=[45,49]
     ·have z1:(ty.toList == [49])=false:=by rw[htl,e2];rfl
      have z2:(ty.toList == [45,49])=true:=by rw[htl,e2];rfl
      have HE:=C5 e2
      clear htl e1 e2
      go_wp2_with fail
      go_ret
      refine⟨?_,HEND⟩
      rw[HV.out]
      show Ending.returned (Value.string _)=Ending.returned (Value.string _)
      congr 2
      apply ByteArray.ext
      simp[dl,HE.out,HTX.out]
     ·have z1:(ty.toList == [49])=false:=by rw[htl];simpa using e1
      have z2:(ty.toList == [45,49])=false:=by rw[htl];simpa using e2
      have HE:Hid (dl y=aT y):=by unfold Hid dl;rw[if_neg (by rintro (h | h);exact e1 h;exact e2 h)]
      clear htl e1 e2
      go_wp2_with fail
      go_ret
      refine⟨?_,HEND⟩
      rw[HV.out]
      show Ending.returned (Value.string _)=Ending.returned (Value.string _)
      congr 2
      apply ByteArray.ext
      simp[HE.out,HTY.out,HTX.out]
   ·have HV:Hid (cW ⟨x,y⟩=aT x++dl y++[105]):=by unfold Hid;rw[HV0.out,if_neg hyz,if_neg hxz,←HMY.out];simp
    clear hxz hyz HV0
    go_wp2_with fail
    refine (gI _ y w4 HY4.out hdy hfy hfy').mono ?_
    rintro e w5 ⟨rfl,hb5⟩
    have HEND:=HB4.trans (hb5.mono HB4.size)
    obtain⟨ty,hty⟩:∃ ty:ByteArray,ty=⟨(aT y).toArray⟩:=⟨_,rfl⟩
    have htl:ty.toList=aT y:=by rw[hty,aj]
    have hsy:ty.size≤900000:=by rw[hty];exact ij hfy hfy'
    rw[←hty]
    have HTY:=C5 hty
    clear hty hb5 r4
    by_cases e1:aT y=[49]
    ·have z1:(ty.toList == [49])=true:=by rw[htl,e1];rfl
     have HE:=C5 e1
     clear htl e1
     go_wp2_with fail
     go_ret
     refine⟨?_,HEND⟩
     rw[HV.out]
     show Ending.returned (Value.string _)=Ending.returned (Value.string _)
     congr 2
     apply ByteArray.ext
     simp[dl,HE.out,HTX.out]
    ·by_cases e2:aT y=[45,49]
     ·have z1:(ty.toList == [49])=false:=by rw[htl,e2];rfl
      have z2:(ty.toList == [45,49])=true:=by rw[htl,e2];rfl
      have HE:=C5 e2
      clear htl e1 e2
      go_wp2_with fail
      go_ret
      refine⟨?_,HEND⟩
      rw[HV.out]
      show Ending.returned (Value.string _)=Ending.returned (Value.string _)
      congr 2
      apply ByteArray.ext
      simp[dl,HE.out,HTX.out]
     ·have z1:(ty.toList == [49])=false:=by rw[htl];simpa using e1
      have z2:(ty.toList == [45,49])=false:=by rw[htl];simpa using e2
      have HE:Hid (dl y=aT y):=by unfold Hid dl;rw[if_neg (by rintro (h | h);exact e1 h;exact e2 h)]
      clear htl e1 e2
      go_wp2_with fail
      go_ret
      refine⟨?_,HEND⟩
      rw[HV.out]
      show Ending.returned (Value.string _)=Ending.returned (Value.string _)
      congr 2
      apply ByteArray.ext
      simp[HE.out,HTY.out,HTX.out]
end Go.Proofs.YtnkgbocdpngldaaGreatDoor
