/- Lemmas of this claim. -/
import Derived.Test.YtomkanblohhpfaaGreatDoorZNC9
import Derived.Test.YtomkanblohhpfaaGreatDoorZPL6
import Derived.Test.YtomkanblohhpfaaGreatDoorZLH1
set_option linter.all false
set_option maxRecDepth 100000
set_option maxHeartbeats 8000000
namespace Go.Proofs.YtomkanblohhpfaaGreatDoor
open Go.RowKit Dg
theorem cQ {o:Oper}{a:Act}{w:World}{K:Act→World→Prop}{Q:Exit→Act→World→Prop} (hg:o.guard=none) (h:wpList Tryz.prog #[o] (fun e a w=>e=.normal∧K a w) [o] a w):o.wp Tryz.prog a w K Q:=by
 unfold wpList at h
 rw[if_pos (by simp only[Region.wanted,hg])] at h
 rcases h with h | ⟨-,h⟩
 ·unfold Oper.wp at *
  generalize (execOp a.eval o).run Tryz.prog w=r at *
  cases r with
  | ok n w' =>
   cases n<;>simp only[Oper.upon] at h ⊢ <;>
    first
     | exact h.2
     | exact Calls.mono h (fun e w'' he=>by
       cases e with
       | returned v=>exact he.2
       | panicked c=>exact absurd he.1 (by simp)
       | outgrown=>obtain⟨_,_,he,_⟩:=he;exact absurd he (by simp))
     | exact Rows.mono h (fun _ _ he=>he.2)
  | halt x w'=>cases x<;>simp only[Oper.upon] at h ⊢<;>first | (obtain⟨he,_⟩:=h;exact absurd he (by simp)) | exact h | (obtain⟨_,_,he,_⟩:=h;exact absurd he (by simp))
 ·obtain⟨_,_,he,_⟩:=h
  exact absurd he (by simp)
theorem iY {w:World}{ops:Array Oper}{rest:List Oper}{o:Oper}{act:Act}{Q:Exit→Act→World→Prop} (T:TypeId)
  (hT:Tryz.prog.underlying T=some (.slice 83)) (hgd:o.guard=none) (s x:Operand)
  (ho:o.op=.call { callee:=.builtin .append,args:=#[s,x],argTypes:=#[T,T] })
  (base:Nat) (v:Value) (zs:List CQ) (a b c d e f:Value) (z:CQ) (hs:act.eval s=v) (hown:bZ w base v zs) (hk:IsK w (.agg #[a,b,c,d,e,f]) z)
  (hx:act.eval x=.slice (some ⟨w.heap.size,0,none⟩) 1 1) (hlen:zs.length<1000000000) (hbase:base≤w.heap.size)
  (h:∀ v' w',bZ w' base v' (zs++[z])→(∀ B w0,Below B w0 w→B≤base→Below B w0 w')→(w.alloc (.cells #[a,b,c,d,e,f] 83)).grownBy w' v.ownBlock→wpList Tryz.prog ops Q rest (act.put o.dst v') w') :
  wpList Tryz.prog ops Q (o :: rest) act (w.alloc (.cells #[a,b,c,d,e,f] 83)):=by
 obtain⟨es,h1,h2,h3⟩:=hown.p
 obtain⟨i0,hi,hz0,hz1,hz2⟩:=info_parts sJ
 have hb:=ac w (.cells #[a,b,c,d,e,f] 83)
 obtain⟨xm,xp,xl,xc,xq,xk,xd,ym,yp,yl,yc,yq,yk,yd,he⟩:=hk.forms
 obtain⟨rfl,rfl,rfl,rfl,rfl,rfl⟩:a=.bool xm∧b=.slice xp xl xc∧c=.slice xq xk xd∧d=.bool ym∧e=.slice yp yl yc∧f=.slice yq yk yd:=by simpa using he
 have hnu:=hown.nu.below h2 hb
 refine dI _ hgd s x T ho base 83 i0 _ 6 112 hT hi hz0 hz1 hz2 rfl (by decide) ?_ v es.length (dB es) hs (h2.alloc _) hnu ⟨w.heap.size,0,none⟩ 1 [.bool xm,.slice xp xl xc,.slice xq xk xd,.bool ym,.slice yp yl yc,.slice yq yk yd] hx rfl (mm w _ _ _ _ _ _ _) ?_ ?_ ?_ ?_ ?_ ?_
 ·intro u hu z' e'
  subst e'
  simp[Value.cells] at hu
 ·intro u hu
  simp at hu
  rcases hu with rfl | rfl | rfl | rfl | rfl | rfl<;>rfl
 ·intro u hu z' e'
  subst e'
  simp at hu
 ·unfold maxLen;omega
 ·omega
 ·rw[size_alloc];omega
 ·intro v' w' g1 g2 g3
  have hkeep:∀ u l,IsU w u l→IsU w' u l:=fun u l hu=>(hu.below hb).grown hnu g2
  refine h v' w' ⟨⟨es++[.agg #[.bool xm,.slice xp xl xc,.slice xq xk xd,.bool ym,.slice yp yl yc,.slice yq yk yd]],by simp[h1],?_,?_⟩,g3⟩ ?_ g2
  ·rw[xI,iI];exact g1
  ·intro i hi' hi2
   by_cases hlt:i<es.length
   ·rw[xU hlt,xU (by omega)]
    exact (h3 i hlt (by omega)).keepU hkeep
   ·have hie:i=es.length:=by simp at hi';omega
    subst hie
    rw[xS (xy _),xS (by omega)]
    simpa[h1] using hk.keepU hkeep
  ·intro B w0 hB hBb
   refine (hB.alloc (by have:=hbase;omega) _).grown g2 (by rw[size_alloc];omega) ?_
   intro k hk'
   have:=(h2.lt k hk').1
   omega
structure l9 (k:Nat) (a b c d e f:Value) where
 w:World
 h:aV w k a b c d e f
theorem aV.grown {w w':World}{k:Nat}{a b c d e f:Value}{row:Option Nat} (h:aV w k a b c d e f) (hg:w.grownBy w' row) (hne:some k≠row):aV w' k a b c d e f :=
 ⟨xB h.lt hg.size,hg.cell h.c0 hne,hg.cell h.c1 hne,hg.cell h.c2 hne,hg.cell h.c3 hne,hg.cell h.c4 hne,hg.cell h.c5 hne⟩
theorem bZ.block {w:World}{base:Nat}{v:Value}{zs:List CQ} (h:bZ w base v zs) {g:Nat} (hg:v.ownBlock=some g):g<w.heap.size:=by
 obtain⟨es,-,h2,-⟩:=h.p
 exact (World.ownsRow.lt h2 g hg).2
theorem lZ {n:Nat} (h:n<34):SzV 10 (ct (CQ.real ((n:Nat):Int))):=by
 refine⟨⟨?_,da _,?_⟩,.zero (by decide)⟩
 ·show (((n:Nat):Int):Rat).num.natAbs<10 ^ 10
  simp;omega
 ·show (((n:Nat):Int):Rat).den<10 ^ 10
  simp
def gI (zs:List CQ):List CQ:=(List.range (zs.length-1)).map fun i=>(ec zs (i+1)).mul (CQ.real ((i+1:Nat):Int))
def qw (zs:List CQ):List CQ:=bE (gI zs)
theorem mw (zs:List CQ):(gI zs).length=zs.length-1:=by simp[gI]
theorem qx (zs:List CQ) {i:Nat} (h:i+1<zs.length):(gI zs).take (i+1)=(gI zs).take i++[zs[i+1].mul (CQ.real ((i+1:Nat):Int))]:=by
 have hl:i<(gI zs).length:=by rw[mw];omega
 rw[show (gI zs).take (i+1)=(gI zs).take i++[(gI zs)[i]] from (xG hl).symm]
 simp[gI,ec,h]
theorem mB (vp:Value) (zs:List CQ) (w:World) (hp:IsP w vp zs) (hfit:∀ z∈zs,∀ n:Nat,n<33→SzV 10000 (ct (z.mul (CQ.real ((n:Nat):Int))))) (hlen:zs.length≤33) :
  Calls Tryz.prog 151 #[vp] w fun e w'=>∃ v',e=.returned v'∧IsP w' v' (qw zs)∧Below w.heap.size w w':=by
 obtain⟨p,c,rfl,-⟩:=id hp.form
 have HML:=xo (mw zs)
 have HMT:=xo (fun i h=>qx zs (i:=i) h)
 have HFIT:=xo hfit
 have HP:=xo hp
 clear hfit hp
 go_enter Tryz.func151,Tryz.ntmps151
 go_wp2
 go_loopw [3,8] (fun s3 s8 wr=>∃ i:Nat,s8=.int .i64 i∧i≤zs.length∧bZ wr w.heap.size s3 ((gI zs).take (i-1))∧Below w.heap.size w wr) (fun _ s8 _=>zs.length-(intOf s8).toNat)
 case atStart=>exact⟨0,rfl,xJ _,bZ.nil _ _,Below.refl _ _⟩
 case round =>
  obtain⟨i,rfl,hin,hown,hbr⟩:=hrel
  by_cases hi:i<zs.length
  ·obtain⟨B,o,rfl,hlt,xm,xp,xl,xc,xq,xk,xd,ym,yp,yl,yc,yq,yk,yd,hk,a0,a1,a2,a3,a4,a5⟩:=(HP.out.below hbr).get hi
   have hvb0:=xo (fun g (h:u3.ownBlock=some g)=>hown.block h)
   have HV:=xo hown
   have HK:=xo hk
   clear hown
   go_upto_region 5 with fail
   have q2:=aV.new wr (.bool xm) (.slice xp xl xc) (.slice xq xk xd) (.bool ym) (.slice yp yl yc) (.slice yq yk yd) 83
   have m2:=ac wr (.cells #[.bool xm,.slice xp xl xc,.slice xq xk xd,.bool ym,.slice yp yl yc,.slice yq yk yd] 83)
   have z2:=size_alloc wr (.cells #[.bool xm,.slice xp xl xc,.slice xq xk xd,.bool ym,.slice yp yl yc,.slice yq yk yd] 83)
   generalize wr.alloc (.cells #[.bool xm,.slice xp xl xc,.slice xq xk xd,.bool ym,.slice yp yl yc,.slice yq yk yd] 83)=w2 at *
   have hB2:=hbr.trans (m2.mono hbr.size)
   have HV2:=xo (HV.out.below m2)
   have HK2:=xo (HK.out.below m2)
   have hgr:wr.heap.size<w2.heap.size:=by omega
   clear a0 a1 a2 a3 a4 a5 m2 z2 HV HK hk
   by_cases h0:i=0
   ·subst h0
    clear q2 HK2
    go_wp2
    go_roundw
    case rel=>exact⟨1,by go_num,by omega,HV2.out,hB2⟩
    case measure=>(first | (simp[intOf];done) | (simp[intOf];omega))
   ·obtain⟨k,rfl⟩:∃ k,i=k+1:=⟨i-1,by omega⟩
    have HT:=xo (HMT.out k hi)
    have HZ:=xo (HFIT.out zs[k+1] (xK hi) (k+1) (by omega))
    generalize zs[k+1]=z at HK2 HT HZ
    rw[yI] at HV2
    go_upto_region 6 with fail
    have hvb:∀ g,u3.ownBlock=some g→g<wr.heap.size:=hvb0.out
    have m4:Below w2.heap.size w2 w2.drew:=(Below.refl _ _).drew
    have q4:=q2.below m4
    haveI:Nonempty (l9 wr.heap.size (.bool xm) (.slice xp xl xc) (.slice xq xk xd) (.bool ym) (.slice yp yl yc) (.slice yq yk yd)):=⟨⟨_,q2⟩⟩
    refine aj (fun w'=>∃ x:l9 wr.heap.size (.bool xm) (.slice xp xl xc) (.slice xq xk xd) (.bool ym) (.slice yp yl yc) (.slice yq yk yd),w'=x.w) (fun i=>i == 3||i == 4||i == 5||i == 6||i == 7) (by kernel_rfl) (by kernel_rfl) ⟨⟨_,q4⟩,rfl⟩ ?_
    have hB4:=hB2.trans (m4.mono hB2.size)
    have HV4:=xo (HV2.out.below m4)
    have HK4:=xo (HK2.out.below m4)
    clear q2 m4 hB2 HV2 HK2 hgr
    generalize w2.drew=wd at *
    have e0:=fun x:l9 wr.heap.size (.bool xm) (.slice xp xl xc) (.slice xq xk xd) (.bool ym) (.slice yp yl yc) (.slice yq yk yd)=>x.h.c0
    have e1:=fun x:l9 wr.heap.size (.bool xm) (.slice xp xl xc) (.slice xq xk xd) (.bool ym) (.slice yp yl yc) (.slice yq yk yd)=>x.h.c1
    have e2:=fun x:l9 wr.heap.size (.bool xm) (.slice xp xl xc) (.slice xq xk xd) (.bool ym) (.slice yp yl yc) (.slice yq yk yd)=>x.h.c2
    have e3:=fun x:l9 wr.heap.size (.bool xm) (.slice xp xl xc) (.slice xq xk xd) (.bool ym) (.slice yp yl yc) (.slice yq yk yd)=>x.h.c3
    have e4:=fun x:l9 wr.heap.size (.bool xm) (.slice xp xl xc) (.slice xq xk xd) (.bool ym) (.slice yp yl yc) (.slice yq yk yd)=>x.h.c4
    have e5:=fun x:l9 wr.heap.size (.bool xm) (.slice xp xl xc) (.slice xq xk xd) (.bool ym) (.slice yp yl yc) (.slice yq yk yd)=>x.h.c5
    refine ae 3 0 _ _ _ (by kernel_rfl) ?_
    simp only[xA,xE,xz,xD]
    repeat (go_big_quiet_step (fail))
    refine wpQuiet_nil ?_
    clear e0 e1 e2 e3 e4 e5
    refine ag rfl rfl (fun K hK=>?_)
    go_simp
    refine (fZ ((k+1:Nat):Int) wd (by omega) (by omega)).mono ?_
    rintro e w5 ⟨v5,rfl,hv5,hb5⟩
    refine hK _ _ ⟨⟨_,q4.below hb5⟩,rfl⟩ ?_
    clear hK K
    try simp only[Act.put,xv,xu,xt,xr,xw,xx]
    refine ag rfl rfl (fun K hK=>?_)
    go_simp
    refine (c_ _ _ _ hv5).mono ?_
    rintro e w6 ⟨v6,rfl,hv6,hb6⟩
    have hB6:=hb5.trans (hb6.mono hb5.size)
    rw[bS] at hv6
    refine hK _ _ ⟨⟨_,q4.below hB6⟩,rfl⟩ ?_
    clear hK K
    try simp only[Act.put,xv,xu,xt,xr,xw,xx]
    refine ag rfl rfl (fun K hK=>?_)
    go_simp
    have hsn:=lZ (n:=k+1) (by omega)
    refine (ft _ _ _ _ _ (HK4.out.below hB6).v hv6 (HK4.out.s.fewV hsn (by decide))).mono ?_
    rintro e w7 ⟨v7,rfl,hv7,hb7⟩
    rw[bv] at hv7
    have hB7:=hB6.trans (hb7.mono hB6.size)
    refine hK _ _ ⟨⟨_,q4.below hB7⟩,rfl⟩ ?_
    clear hK K
    try simp only[Act.put,xv,xu,xt,xr,xw,xx]
    have hk7:IsK w7 v7 (z.mul (CQ.real ((k+1:Nat):Int))):=⟨hv7,HZ.out⟩
    obtain⟨sm,sp,sl,sc,sq,sk,sd,tm,tp,tl,tc,tq',tk,td,rfl⟩:=hk7.forms
    have hw7:=HV4.out.below hB7
    have q7:=q4.below hB7
    have hB47:=hB4.trans (hB7.mono hB4.size)
    have hbs:=hB47.size
    have hzl:((gI zs).take k).length<1000000000:=by rw[x6,HML.out];omega
    have q8:=q7.below (ac w7 (.cells #[.bool sm,.slice sp sl sc,.slice sq sk sd,.bool tm,.slice tp tl tc,.slice tq' tk td] 83))
    refine ag rfl rfl (fun K hK=>?_)
    go_simp
    refine hK _ _ ⟨⟨_,q8⟩,rfl⟩ ?_
    clear hK K
    try simp only[Act.put,xv,xu,xt,xr,xw,xx]
    refine ag rfl rfl (fun K hK=>?_)
    refine cQ rfl ?_
    refine iY 126 Tryz.underlying126 rfl (.tmp 15) (.tmp 21) rfl w.heap.size _ _ _ _ _ _ _ _ _ rfl hw7 hk7 rfl hzl hbs ?_
    intro v' w9 hw9 hb9 hg9
    have hB9:=hb9 _ _ hB47 (xy _)
    have q9:=q8.grown hg9 (fun e=>Nat.lt_irrefl _ (hvb _ e.symm))
    refine⟨rfl,hK _ _ ⟨⟨_,q9⟩,rfl⟩ ?_⟩
    clear hK K
    try simp only[Act.put,xv,xu,xt,xr,xw,xx]
    rw[←HT.out] at hw9
    have HW9:=xo hw9
    clear q4 q7 q8 q9 hg9 hb9 hw9 hw7 hk7 hv7 hv6 hv5 hb5 hb6 hb7 hB4 hB6 hB7 hB47 hvb
    refine ae 1 8 _ _ _ (by kernel_rfl) ?_
    simp only[xA,xE,xz,xD]
    repeat (go_big_quiet_step (fail))
    refine wpQuiet_nil ?_
    refine aw ?_
    go_wp2
    go_roundw
    case rel=>exact⟨k+1+1,by go_num,by omega,HW9.out,hB9⟩
    case measure=>(first | (simp[intOf];done) | (simp[intOf];omega))
  ·have hin':i=zs.length:=by omega
   subst hin'
   have hw:=hown
   rw[show (gI zs).take (zs.length-1)=gI zs from xF (by rw[HML.out];exact xy _)] at hw
   have hml:(gI zs).length<1000000:=by rw[HML.out];omega
   have HW:=xo hw.isP
   clear hown hi hw
   go_wp2_with fail
   refine (kR _ _ wr HW.out hml).mono ?_
   rintro e w4 ⟨v1,rfl,hv1,hb1⟩
   go_wp2
   go_ret
   exact⟨_,rfl,hv1,hbr.trans (hb1.mono hbr.size)⟩
theorem xi (w:World):FnT 116 #[] id w:=by
 refine⟨aH Tryz.func116 rfl (by kernel_rfl),fun x w' hb=>?_⟩
 show Calls _ _ #[_] _ _
 go_enter Tryz.func116,Tryz.ntmps116
 go_wp2
 go_ret
 exact⟨rfl,Below.refl _ _⟩
def fK (fa fb:List ByteArray) (n:Int):Except Int (List ByteArray×List ByteArray):=if n<0∨6<n then .error 8 else .ok (aq fa n.toNat,fb)
theorem sh (v:Value) (fa fb ga gb:List ByteArray) (k:ByteArray) (n:Int) (w:World) (hP:fB w v fa fb ga gb k n) (h0:0<fa.length) (h2:fa.length<1000) (h3:fb.length<1000) :
  Calls Tryz.prog 71 #[v] w (eH (fK fa fb n) w):=by
 obtain⟨p,c,q,d,p',c',q',d',rfl,hfa,hfb,-,-⟩:=id hP.ex
 obtain⟨ba,oa,rfl,hal,-⟩:=hfa.get (i:=0) h0
 go_enter Tryz.func71,Tryz.ntmps71
 go_upto_region 1 with fail
 have m1:=ac w (.cells #[.slice (some ⟨ba,oa,none⟩) fa.length c,.slice q fb.length d,.slice p' ga.length c',.slice q' gb.length d',.string k,.int .i64 n] 91)
 have z1:=size_alloc w (.cells #[.slice (some ⟨ba,oa,none⟩) fa.length c,.slice q fb.length d,.slice p' ga.length c',.slice q' gb.length d',.string k,.int .i64 n] 91)
 have a0:=ap w #[.slice (some ⟨ba,oa,none⟩) fa.length c,.slice q fb.length d,.slice p' ga.length c',.slice q' gb.length d',.string k,.int .i64 n] 91 0 _ rfl
 have a1:=ap w #[.slice (some ⟨ba,oa,none⟩) fa.length c,.slice q fb.length d,.slice p' ga.length c',.slice q' gb.length d',.string k,.int .i64 n] 91 1 _ rfl
 have a5:=ap w #[.slice (some ⟨ba,oa,none⟩) fa.length c,.slice q fb.length d,.slice p' ga.length c',.slice q' gb.length d',.string k,.int .i64 n] 91 5 _ rfl
 generalize w.alloc (.cells #[.slice (some ⟨ba,oa,none⟩) fa.length c,.slice q fb.length d,.slice p' ga.length c',.slice q' gb.length d',.string k,.int .i64 n] 91)=w1 at *
 have q2:(w1.alloc (.cells #[.slice none 0 0,.slice none 0 0] 24)).heap[w1.heap.size]?=some (.cells #[.slice none 0 0,.slice none 0 0] 24 (0,0)):=heap_alloc_new w1 _
 have m2:=ac w1 (.cells #[.slice none 0 0,.slice none 0 0] 24)
 have z2:=size_alloc w1 (.cells #[.slice none 0 0,.slice none 0 0] 24)
 have hlt:w.heap.size<w1.heap.size:=by omega
 have b0:=aa m2 hlt a0
 have b1:=aa m2 hlt a1
 have b5:=aa m2 hlt a5
 generalize w1.alloc (.cells #[.slice none 0 0,.slice none 0 0] 24)=w2 at *
 rw[z1] at q2
 have M2:=xo (m1.trans (m2.mono m1.size))
 have HZ2:=xo (show w.heap.size+2=w2.heap.size by omega)
 have hl2:w.heap.size<w2.heap.size:=by omega
 have HQ2:=xo q2
 have HA:=xo (hfa.below M2.out)
 have HBB:=xo (hfb.below M2.out)
 clear m1 z1 a0 a1 a5 m2 z2 hfa hfb hP hlt q2 hal
 by_cases hn:n<0∨6<n
 ·have HD:=xo (show fK fa fb n=.error 8 by unfold fK;rw[if_pos hn])
  by_cases hn0:n<0
  ·have hd:decide (n<0)=true:=by simpa using hn0
   clear hn hn0
   go_wp2
   refine⟨rfl,M2.out,?_⟩
   rw[HD.out];rfl
  ·have hd:decide (n<0)=false:=by simpa using hn0
   have hd6:decide ((6:Int)<n)=true:=by simp;omega
   clear hn hn0
   go_wp2
   refine⟨rfl,M2.out,?_⟩
   rw[HD.out];rfl
 ·obtain⟨m,rfl⟩:∃ m:Nat,n=m:=⟨n.toNat,by omega⟩
  have HD:=xo (show fK fa fb (m:Int)=.ok (aq fa m,fb) by unfold fK;rw[if_neg hn];rfl)
  have hm6:m≤6:=by omega
  have hd6:decide ((6:Int)<(m:Int))=false:=by simp;omega
  clear hn
  go_wp2
  go_loopw [3,16] (fun s3 s16 wr=>∃ i:Nat,s16=.int .i64 i∧i≤m∧bj wr w2.heap.size s3 (List.replicate i ⟨#[48]⟩)∧Below w2.heap.size w2 wr) (fun _ s16 _=>m-(intOf s16).toNat)
  case atStart=>exact⟨0,rfl,xJ _,bj.nil _ _,Below.refl _ _⟩
  case round =>
   obtain⟨i,rfl,hin,hown,hbr⟩:=hrel
   by_cases hi:i<m
   ·have hbs:w2.heap.size≤wr.heap.size:=hbr.size
    have hzl:(List.replicate i (⟨#[48]⟩:ByteArray)).length<1000000000:=by simp;omega
    go_wp2_with (at_builtin;refine aI 22 Tryz.underlying22 rfl (.tmp 18) (.tmp 19) rfl w2.heap.size _ _ _ rfl hown rfl hzl hbs ?_)
    intro v' w3 hw3 hb3
    have hB3:=hb3 _ _ hbr (xy _)
    rw[←zp] at hw3
    clear hown hb3 hbr
    go_wp2
    go_roundw
    case rel=>exact⟨i+1,by go_num,by omega,hw3,hB3⟩
    case measure=>(first | (simp[intOf];done) | (simp[intOf];omega))
   ·obtain rfl:i=m:=by omega
    clear hi
    go_upto_region 8 with fail
    have hbd:=hbr.drew
    have hwd:=hown.below (show Below wr.heap.size wr wr.drew from (Below.refl _ _).drew)
    refine aj (fun w'=>∃ x:Off (w.heap.size+1) w2,w'=x.w) (fun j=>j == 4||j == 8||j == 10) (by kernel_rfl) (by kernel_rfl) (Off.below hbd) ?_
    have c0:=fun x:Off (w.heap.size+1) w2=>x.cell hl2 (by omega) b0
    have c1:=fun x:Off (w.heap.size+1) w2=>x.cell hl2 (by omega) b1
    clear b0 b1 b5 hbr hown hd6
    generalize wr.drew=wd at *
    have HAd:=HA.out.below hbd
    have HBd:=HBB.out.below hbd
    refine ae 4 0 _ _ _ (by kernel_rfl) ?_
    simp only[xA,xE,xz,xD]
    repeat (go_big_quiet_step (fail))
    refine wpQuiet_nil ?_
    refine ag rfl rfl (fun K hK=>?_)
    refine cQ rfl ?_
    refine cA 22 Tryz.underlying22 rfl (.tmp 22) (.tmp 25) rfl w2.heap.size _ (List.replicate i ⟨#[48]⟩) fa ba oa c rfl hwd rfl HAd (by simp;omega) hbd.size ?_
    intro v' w4 hw4 hb4
    have hB4:=hb4 _ _ hbd (xy _)
    refine⟨rfl,hK _ _ (Off.below hB4) ?_⟩
    clear hK K
    try simp only[Act.put,xv,xu,xt,xr,xw,xx]
    have HB4:=xo (HBB.out.below hB4)
    clear hwd HAd HBd hb4 hbd
    refine ae 3 5 _ _ _ (by kernel_rfl) ?_
    simp only[xA,xE,xz,xD]
    repeat (go_big_quiet_step (fail))
    refine wpQuiet_nil ?_
    refine ag rfl rfl (fun K hK=>?_)
    go_simp
    refine (jP _ fb _ _ _ w4 HB4.out (by omega) (xi w4)).mono ?_
    rintro e w6 ⟨u2,rfl,hu2,hb6⟩
    rw[List.map_id] at hu2
    have hB6:=hB4.trans (hb6.mono hB4.size)
    refine hK _ _ (Off.below hB6) ?_
    clear hK K
    try simp only[Act.put,xv,xu,xt,xr,xw,xx]
    have hk1:bj w6 w2.heap.size v' (aq fa i):=hw4.below hb6
    have hs2:=HZ2.out
    have hs4:=hB4.size
    obtain⟨p1,c1',rfl,-⟩:=id hk1.isS.form
    obtain⟨p2,c2',rfl,-⟩:=id hu2.isS.form
    have hn1:Value.ownBlock (.slice p1 (aq fa i).length c1')≠some (w.heap.size+1):=fun e=>by have:=(World.ownsRow.lt hk1 _ e).1;omega
    have hn2:Value.ownBlock (.slice p2 fb.length c2')≠some (w.heap.size+1):=fun e=>by have:=(World.ownsRow.lt hu2 _ e).1;omega
    have O1:=xo (show ∀ g,Value.ownBlock (.slice p1 (aq fa i).length c1')=some g→w.heap.size≤g from fun g e=>by have:=(World.ownsRow.lt hk1 _ e).1;omega)
    have O2:=xo (show ∀ g,Value.ownBlock (.slice p2 fb.length c2')=some g→w.heap.size≤g from fun g e=>by have:=(World.ownsRow.lt hu2 _ e).1;omega)
    have q7:=(hB6.block (w.heap.size+1) (by omega)).trans HQ2.out
    have k0:=af q7 0
    have k1:=af q7 1
    have f0:=ak q7 0
    have f1:=ak q7 1
    have R1:=xo ((hk1.isS.other hn1 0 (.slice p1 (aq fa i).length c1')).other hn1 1 (.slice p2 fb.length c2'))
    have R2:=xo ((hu2.isS.other hn2 0 (.slice p1 (aq fa i).length c1')).other hn2 1 (.slice p2 fb.length c2'))
    have M7:=xo (((M2.out.trans (hB6.mono M2.out.size)).setCell (p:=⟨w.heap.size+1,0,none⟩) (xQ _) (.slice p1 (aq fa i).length c1')).setCell (p:=⟨w.heap.size+1,1,none⟩) (xQ _) (.slice p2 fb.length c2'))
    have hOff:=Off.set (g:=w.heap.size+1) (Off.set (g:=w.heap.size+1) (Off.below hB6) 0 (.slice p1 (aq fa i).length c1')) 1 (.slice p2 fb.length c2')
    have g0:=bd q7 (.slice p1 (aq fa i).length c1') (.slice p2 fb.length c2')
    clear hn1 hn2 hk1 hu2 q7 hB6 hb6 hw4 hB4 hs2 hs4
    refine ae 1 9 _ _ _ (by kernel_rfl) ?_
    simp only[xA,xE,xz,xD]
    repeat (go_big_quiet_step (fail))
    refine wpQuiet_nil ?_
    refine ag rfl rfl (fun K hK=>?_)
    go_simp
    refine hK undef _ hOff ?_
    clear hK K
    try simp only[Act.put,xv,xu,xt,xr,xw,xx]
    refine aw ?_
    have x0:=af g0 0
    have x1:=af g0 1
    go_wp2_with fail
    refine bodyPost_ret (v:=.agg #[.slice p1 (aq fa i).length c1',.slice p2 fb.length c2']) (by simp at x0 x1;simp[results,Tryz.results71,go_sem,x0,x1]) rfl ⟨M7.out,?_⟩
    rw[HD.out]
    exact⟨_,rfl,⟨p1,c1',p2,c2',rfl,R1.out,R2.out,O1.out,O2.out⟩⟩
def cT (a b:List ByteArray) (n:Int):(List ByteArray×List ByteArray)×Int:=aR a b a b (fK a b n)
theorem qv (w:World) (a b:List ByteArray) (n:Int) (v:Value) (hP:fB w v a b a b ⟨#[]⟩ n) (hG:Gx w):Calls Tryz.prog 53 #[.func (.func 71) #[] #[],v] w (cS (cT a b n) w):=by
 refine ij 71 v a b a b ⟨#[]⟩ n _ w hP ⟨aH Tryz.func71 rfl (by kernel_rfl),fun v' w' hw' hP' hc hc2=>?_⟩ hG
 obtain⟨ob1,ob7,oa1,oa7,-⟩:=aB hc
 exact sh v' a b a b ⟨#[]⟩ n w' hP' (by omega) (by omega) (by omega)
theorem jB (v:Value) (a b:List ByteArray) (n:Int) (w:World) (hF:IsF w v a b) (hG:Gx w) :
  Calls Tryz.prog 30 #[v,.int .i64 n] w (cS (cT a b n) w):=by
 obtain⟨p,c,q,d,rfl,hfa,hfb⟩:=id hF.ex
 go_enter Tryz.func30,Tryz.ntmps30
 go_upto_region 1 with fail
 have cc:=ar w (.slice p a.length c) (.slice q b.length d)
 have m1:=ac w (.cells #[.slice p a.length c,.slice q b.length d] 24)
 have z1:=size_alloc w (.cells #[.slice p a.length c,.slice q b.length d] 24)
 generalize w.alloc (.cells #[.slice p a.length c,.slice q b.length d] 24)=w1 at *
 have q2:(w1.alloc (.cells #[.slice none 0 0,.slice none 0 0] 24)).heap[w1.heap.size]?=some (.cells #[.slice none 0 0,.slice none 0 0] 24 (0,0)):=heap_alloc_new w1 _
 have m2:=ac w1 (.cells #[.slice none 0 0,.slice none 0 0] 24)
 have z2:=size_alloc w1 (.cells #[.slice none 0 0,.slice none 0 0] 24)
 have c0:=aa m2 (show w.heap.size<w1.heap.size by omega) cc.1
 have c1:=aa m2 (show w.heap.size<w1.heap.size by omega) cc.2
 generalize w1.alloc (.cells #[.slice none 0 0,.slice none 0 0] 24)=w2 at *
 rw[z1] at q2
 have M2:=xo (m1.trans (m2.mono m1.size))
 have hz2:w.heap.size+2=w2.heap.size:=by omega
 have hP:fB w2 (.agg #[.slice p a.length c,.slice q b.length d,.slice p a.length c,.slice q b.length d,.string ⟨#[]⟩,.int .i64 n]) a b a b ⟨#[]⟩ n :=
  ⟨⟨p,c,q,d,p,c,q,d,rfl,hfa.below M2.out,hfb.below M2.out,hfa.below M2.out,hfb.below M2.out⟩⟩
 have HC:=xo (qv w2 a b n _ hP (hG.below M2.out))
 clear m1 z1 m2 z2 cc hfa hfb hG hF hP
 go_wp2_with fail
 refine HC.out.mono ?_
 rintro e w3 ⟨u,rfl,hu,hb3⟩
 obtain⟨r,hr⟩:∃ r,r=cT a b n:=⟨_,rfl⟩
 rw[show cT a b n=r from hr.symm] at hu ⊢
 obtain⟨⟨L1,L2⟩,er⟩:=r
 have HR:=xo hr
 simp only at hu ⊢
 obtain⟨p1,c1',p2,c2,rfl,g1,g2,o1,o2⟩:=hu.ex
 have hn1:Value.ownBlock (.slice p1 L1.length c1')≠some (w.heap.size+1):=fun e=>by have:=o1 _ e;omega
 have hn2:Value.ownBlock (.slice p2 L2.length c2)≠some (w.heap.size+1):=fun e=>by have:=o2 _ e;omega
 have q3:=(hb3.block (w.heap.size+1) (by omega)).trans q2
 have k0:=af q3 0
 have k1:=af q3 1
 have f0:=ak q3 0
 have f1:=ak q3 1
 have R1:=xo ((g1.other hn1 0 (.slice p1 L1.length c1')).other hn1 1 (.slice p2 L2.length c2))
 have R2:=xo ((g2.other hn2 0 (.slice p1 L1.length c1')).other hn2 1 (.slice p2 L2.length c2))
 have O1:=xo (show ∀ g,Value.ownBlock (.slice p1 L1.length c1')=some g→w.heap.size≤g from fun g e=>by have:=o1 _ e;omega)
 have O2:=xo (show ∀ g,Value.ownBlock (.slice p2 L2.length c2)=some g→w.heap.size≤g from fun g e=>by have:=o2 _ e;omega)
 have M7:=xo (((M2.out.trans (hb3.mono M2.out.size)).setCell (p:=⟨w.heap.size+1,0,none⟩) (xQ _) (.slice p1 L1.length c1')).setCell (p:=⟨w.heap.size+1,1,none⟩) (xQ _) (.slice p2 L2.length c2))
 have g0:=bd q3 (.slice p1 L1.length c1') (.slice p2 L2.length c2)
 have x0:=af g0 0
 have x1:=af g0 1
 clear hn1 hn2 g1 g2 o1 o2 q2 q3 hb3 HC hu hr
 go_wp2
 refine bodyPost_ret (v:=.tuple #[.agg #[.slice p1 L1.length c1',.slice p2 L2.length c2],.int .i64 er]) (by simp at x0 x1;simp[results,Tryz.results30,go_sem,x0,x1]) rfl ⟨_,by rw[←HR.out],?_,M7.out⟩
 rw[←HR.out]
 exact⟨⟨p1,c1',p2,c2,rfl,R1.out,R2.out,O1.out,O2.out⟩⟩
theorem eA {a b:List ByteArray}{i:Nat} (hc:au a b=true) (h:i+a.length≤7):au (aq a i) b=true:=by
 obtain⟨ob1,ob7,oa1,oa7,oac,obc,ohd⟩:=aB hc
 have h0:bt (⟨#[48]⟩:ByteArray).data.toList=true:=by decide +kernel
 unfold au dJ at hc ⊢
 simp only[xN,decide_eq_true_eq,xV] at hc ⊢
 refine⟨⟨⟨⟨by rw[bT];omega,by rw[bT];omega⟩,fun s hs=>?_⟩,hc.1.2⟩,hc.2⟩
 rcases yS.1 hs with h | h
 ·rw[yL h];exact h0
 ·exact hc.1.1.2 s h
theorem nX {a b:List ByteArray}{i:Nat} (hc:au a b=true) (h:i+a.length≤7):cT a b i=((aq a i,b),0):=by
 obtain⟨ob1,ob7,oa1,oa7,-⟩:=aB hc
 have hc2:=eA hc h
 unfold cT aR
 rw[if_neg (by rw[hc];decide),if_neg (by rw[hc];decide)]
 unfold fK
 rw[if_neg (by omega)]
 show pH (.ok (aq a i,b))=_
 show (if 7<(aq a i).length∨7<b.length then _ else _)=_
 rw[if_neg (by rw[bT];omega),if_neg (by rw[hc2];decide)]
theorem mv {a b:List ByteArray}{i:Nat} (hc:au a b=true) (h:7<i+a.length):∃ e,e≠0∧cT a b i=(([],[]),e):=by
 unfold cT aR
 rw[if_neg (by rw[hc];decide),if_neg (by rw[hc];decide)]
 unfold fK
 by_cases h6:(i:Int)<0∨6<(i:Int)
 ·rw[if_pos h6];exact⟨8,by decide,rfl⟩
 ·rw[if_neg h6]
  refine⟨3,by decide,?_⟩
  show pH (.ok (aq a i,b))=_
  show (if 7<(aq a i).length∨7<b.length then _ else _)=_
  rw[if_pos (Or.inl (by rw[bT];omega))]
theorem lF (a b:List ByteArray) (n i:Nat) (hl:i+a.length≤7) (hn:7≤n+i) (h0:aD (aq a i) b ⟨#[49]⟩=true) :
  ∃ m,ck a b n i=m∧i≤m∧m+a.length≤7∧(∀ k,i≤k→k≤m→aD (aq a k) b ⟨#[49]⟩=true)∧(m+a.length≤6→aD (aq a (m+1)) b ⟨#[49]⟩=false):=by
 induction n generalizing i with
 | zero=>exact⟨i,rfl,xy _,hl,fun k h1 h2=>by rw[show k=i from by omega];exact h0,fun h=>by omega⟩
 | succ n ih =>
  rw[ik]
  by_cases h6:i+a.length≤6
  ·rw[if_pos h6]
   by_cases hh:aD (aq a (i+1)) b ⟨#[49]⟩=true
   ·rw[if_pos hh]
    obtain⟨m,e,h1,h2,h3,h4⟩:=ih (i+1) (by omega) (by omega) hh
    refine⟨m,e,by omega,h2,fun k hk1 hk2=>?_,h4⟩
    by_cases hki:k=i
    ·subst hki;exact h0
    ·exact h3 k (by omega) hk2
   ·rw[if_neg hh]
    exact⟨i,rfl,xy _,hl,fun k h1 h2=>by rw[show k=i from by omega];exact h0,fun _=>by simpa using hh⟩
  ·rw[if_neg h6]
   exact⟨i,rfl,xy _,hl,fun k h1 h2=>by rw[show k=i from by omega];exact h0,fun h=>absurd h h6⟩
end Go.Proofs.YtomkanblohhpfaaGreatDoor
