/- Lemmas of this claim. -/
import Derived.Test.YtdlioncecgnloaaGreatDoorYPL6
import Derived.Test.YtdlioncecgnloaaGreatDoorYRng2
set_option linter.all false
set_option maxRecDepth 100000
set_option maxHeartbeats 8000000
namespace Go.Proofs.YtdlioncecgnloaaGreatDoor
open Go.RowKit Dg
theorem dK {o:Oper}{a:Act}{w:World}{K:Act→World→Prop}{Q:Exit→Act→World→Prop} (hg:o.guard=none) (h:wpList Tryz.prog #[o] (fun e a w=>e=.normal∧K a w) [o] a w):o.wp Tryz.prog a w K Q:=by
 unfold wpList at h
 rw[if_pos (by simp only[Region.wanted,hg])] at h
 rcases h with h | ⟨-,h⟩
 ·unfold Oper.wp at *
  generalize (execOp a.eval o).run Tryz.prog w=r at *
  cases r with
  | ok n w' =>
   cases n<;>simp only[Oper.upon] at h ⊢ <;>
    first
     | exact h.2
     | exact Calls.mono h (fun e w'' he=>by
       cases e with
       | returned v=>exact he.2
       | panicked c=>exact absurd he.1 (by simp)
       | outgrown=>obtain⟨_,_,he,_⟩:=he;exact absurd he (by simp))
     | exact Rows.mono h (fun _ _ he=>he.2)
  | halt x w'=>cases x<;>simp only[Oper.upon] at h ⊢<;>first | (obtain⟨he,_⟩:=h;exact absurd he (by simp)) | exact h | (obtain⟨_,_,he,_⟩:=h;exact absurd he (by simp))
 ·obtain⟨_,_,he,_⟩:=h
  exact absurd he (by simp)
theorem jq {w:World}{ops:Array Oper}{rest:List Oper}{o:Oper}{act:Act}{Q:Exit→Act→World→Prop} (T:TypeId)
  (hT:Tryz.prog.underlying T=some (.slice 91)) (hgd:o.guard=none) (s x:Operand)
  (ho:o.op=.call { callee:=.builtin .append,args:=#[s,x],argTypes:=#[T,T] })
  (base:Nat) (v:Value) (zs:List CQ) (a b c d e f:Value) (z:CQ) (hs:act.eval s=v) (hown:cf w base v zs) (hk:IsK w (.agg #[a,b,c,d,e,f]) z)
  (hx:act.eval x=.slice (some ⟨w.heap.size,0,none⟩) 1 1) (hlen:zs.length<1000000000) (hbase:base≤w.heap.size)
  (h:∀ v' w',cf w' base v' (zs++[z])→(∀ B w0,Below B w0 w→B≤base→Below B w0 w')→(w.alloc (.cells #[a,b,c,d,e,f] 91)).grownBy w' v.ownBlock→wpList Tryz.prog ops Q rest (act.put o.dst v') w') :
  wpList Tryz.prog ops Q (o :: rest) act (w.alloc (.cells #[a,b,c,d,e,f] 91)):=by
 obtain⟨es,h1,h2,h3⟩:=hown.p
 obtain⟨i0,hi,hz0,hz1,hz2⟩:=info_parts uz
 have hb:=ae w (.cells #[a,b,c,d,e,f] 91)
 obtain⟨xm,xp,xl,xc,xq,xk,xd,ym,yp,yl,yc,yq,yk,yd,he⟩:=hk.forms
 obtain⟨rfl,rfl,rfl,rfl,rfl,rfl⟩:a=.bool xm∧b=.slice xp xl xc∧c=.slice xq xk xd∧d=.bool ym∧e=.slice yp yl yc∧f=.slice yq yk yd:=by simpa using he
 have hnu:=hown.nu.below h2 hb
 refine d7 _ hgd s x T ho base 91 i0 _ 6 112 hT hi hz0 hz1 hz2 rfl (by decide) ?_ v es.length (dV es) hs (h2.alloc _) hnu ⟨w.heap.size,0,none⟩ 1 [.bool xm,.slice xp xl xc,.slice xq xk xd,.bool ym,.slice yp yl yc,.slice yq yk yd] hx rfl (nC w _ _ _ _ _ _ _) ?_ ?_ ?_ ?_ ?_ ?_
 ·intro u hu z' e'
  subst e'
  simp[Value.cells] at hu
 ·intro u hu
  simp at hu
  rcases hu with rfl | rfl | rfl | rfl | rfl | rfl<;>rfl
 ·intro u hu z' e'
  subst e'
  simp at hu
 ·unfold maxLen;omega
 ·omega
 ·rw[size_alloc];omega
 ·intro v' w' g1 g2 g3
  have hkeep:∀ u l,IsU w u l→IsU w' u l:=fun u l hu=>(hu.below hb).grown hnu g2
  refine h v' w' ⟨⟨es++[.agg #[.bool xm,.slice xp xl xc,.slice xq xk xd,.bool ym,.slice yp yl yc,.slice yq yk yd]],by simp[h1],?_,?_⟩,g3⟩ ?_ g2
  ·rw[zw,i6];exact g1
  ·intro i hi' hi2
   by_cases hlt:i<es.length
   ·rw[zW hlt,zW (by omega)]
    exact (h3 i hlt (by omega)).keepU hkeep
   ·have hie:i=es.length:=by simp at hi';omega
    subst hie
    rw[zR (zn _),zR (by omega)]
    simpa[h1] using hk.keepU hkeep
  ·intro B w0 hB hBb
   refine (hB.alloc (by have:=hbase;omega) _).grown g2 (by rw[size_alloc];omega) ?_
   intro k hk'
   have:=(h2.lt k hk').1
   omega
structure nq (k:Nat) (a b c d e f:Value) where
 w:World
 h:aS w k a b c d e f
theorem aS.grown {w w':World}{k:Nat}{a b c d e f:Value}{row:Option Nat} (h:aS w k a b c d e f) (hg:w.grownBy w' row) (hne:some k≠row):aS w' k a b c d e f :=
 ⟨zq h.lt hg.size,hg.cell h.c0 hne,hg.cell h.c1 hne,hg.cell h.c2 hne,hg.cell h.c3 hne,hg.cell h.c4 hne,hg.cell h.c5 hne⟩
theorem cf.block {w:World}{base:Nat}{v:Value}{zs:List CQ} (h:cf w base v zs) {g:Nat} (hg:v.ownBlock=some g):g<w.heap.size:=by
 obtain⟨es,-,h2,-⟩:=h.p
 exact (World.ownsRow.lt h2 g hg).2
theorem nj {n:Nat} (h:n<34):SzV 10 (ct (CQ.real ((n:Nat):Int))):=by
 refine⟨⟨?_,df _,?_⟩,.zero (by decide)⟩
 ·show (((n:Nat):Int):Rat).num.natAbs<10 ^ 10
  simp;omega
 ·show (((n:Nat):Int):Rat).den<10 ^ 10
  simp
def gU (zs:List CQ):List CQ:=(List.range (zs.length-1)).map fun i=>(eF zs (i+1)).mul (CQ.real ((i+1:Nat):Int))
def sn (zs:List CQ):List CQ:=bM (gU zs)
theorem nO (zs:List CQ):(gU zs).length=zs.length-1:=by simp[gU]
theorem sr (zs:List CQ) {i:Nat} (h:i+1<zs.length):(gU zs).take (i+1)=(gU zs).take i++[zs[i+1].mul (CQ.real ((i+1:Nat):Int))]:=by
 have hl:i<(gU zs).length:=by rw[nO];omega
 rw[show (gU zs).take (i+1)=(gU zs).take i++[(gU zs)[i]] from (zB hl).symm]
 simp[gU,eF,h]
theorem nP (vp:Value) (zs:List CQ) (w:World) (hp:IsP w vp zs) (hfit:∀ z∈zs,∀ n:Nat,n<33→SzV 10000 (ct (z.mul (CQ.real ((n:Nat):Int))))) (hlen:zs.length≤33) :
  Calls Tryz.prog 245 #[vp] w fun e w'=>∃ v',e=.returned v'∧IsP w' v' (sn zs)∧Below w.heap.size w w':=by
 obtain⟨p,c,rfl,-⟩:=id hp.form
 have HML:=zf (nO zs)
 have HMT:=zf (fun i h=>sr zs (i:=i) h)
 have HFIT:=zf hfit
 have HP:=zf hp
 clear hfit hp
 go_enter Tryz.func245,Tryz.ntmps245
 go_wp2
 go_loopw [3,8] (fun s3 s8 wr=>∃ i:Nat,s8=.int .i64 i∧i≤zs.length∧cf wr w.heap.size s3 ((gU zs).take (i-1))∧Below w.heap.size w wr) (fun _ s8 _=>zs.length-(intOf s8).toNat)
 case atStart=>exact⟨0,rfl,zD _,cf.nil _ _,Below.refl _ _⟩
 case round =>
  obtain⟨i,rfl,hin,hown,hbr⟩:=hrel
  by_cases hi:i<zs.length
  ·obtain⟨B,o,rfl,hlt,xm,xp,xl,xc,xq,xk,xd,ym,yp,yl,yc,yq,yk,yd,hk,a0,a1,a2,a3,a4,a5⟩:=(HP.out.below hbr).get hi
   have hvb0:=zf (fun g (h:u3.ownBlock=some g)=>hown.block h)
   have HV:=zf hown
   have HK:=zf hk
   clear hown
   go_upto_region 5 with fail
   have q2:=aS.new wr (.bool xm) (.slice xp xl xc) (.slice xq xk xd) (.bool ym) (.slice yp yl yc) (.slice yq yk yd) 91
   have m2:=ae wr (.cells #[.bool xm,.slice xp xl xc,.slice xq xk xd,.bool ym,.slice yp yl yc,.slice yq yk yd] 91)
   have z2:=size_alloc wr (.cells #[.bool xm,.slice xp xl xc,.slice xq xk xd,.bool ym,.slice yp yl yc,.slice yq yk yd] 91)
   generalize wr.alloc (.cells #[.bool xm,.slice xp xl xc,.slice xq xk xd,.bool ym,.slice yp yl yc,.slice yq yk yd] 91)=w2 at *
   have hB2:=hbr.trans (m2.mono hbr.size)
   have HV2:=zf (HV.out.below m2)
   have HK2:=zf (HK.out.below m2)
   have hgr:wr.heap.size<w2.heap.size:=by omega
   clear a0 a1 a2 a3 a4 a5 m2 z2 HV HK hk
   by_cases h0:i=0
   ·subst h0
    clear q2 HK2
    go_wp2
    go_roundw
    case rel=>exact⟨1,by go_num,by omega,HV2.out,hB2⟩
    case measure=>(first | (simp[intOf];done) | (simp[intOf];omega))
   ·obtain⟨k,rfl⟩:∃ k,i=k+1:=⟨i-1,by omega⟩
    have HT:=zf (HMT.out k hi)
    have HZ:=zf (HFIT.out zs[k+1] (zG hi) (k+1) (by omega))
    generalize zs[k+1]=z at HK2 HT HZ
    rw[Aj] at HV2
    go_upto_region 6 with fail
    have hvb:∀ g,u3.ownBlock=some g→g<wr.heap.size:=hvb0.out
    have m4:Below w2.heap.size w2 w2.drew:=(Below.refl _ _).drew
    have q4:=q2.below m4
    haveI:Nonempty (nq wr.heap.size (.bool xm) (.slice xp xl xc) (.slice xq xk xd) (.bool ym) (.slice yp yl yc) (.slice yq yk yd)):=⟨⟨_,q2⟩⟩
    refine ak (fun w'=>∃ x:nq wr.heap.size (.bool xm) (.slice xp xl xc) (.slice xq xk xd) (.bool ym) (.slice yp yl yc) (.slice yq yk yd),w'=x.w) (fun i=>i == 3||i == 4||i == 5||i == 6||i == 7) (by kernel_rfl) (by kernel_rfl) ⟨⟨_,q4⟩,rfl⟩ ?_
    have hB4:=hB2.trans (m4.mono hB2.size)
    have HV4:=zf (HV2.out.below m4)
    have HK4:=zf (HK2.out.below m4)
    clear q2 m4 hB2 HV2 HK2 hgr
    generalize w2.drew=wd at *
    have e0:=fun x:nq wr.heap.size (.bool xm) (.slice xp xl xc) (.slice xq xk xd) (.bool ym) (.slice yp yl yc) (.slice yq yk yd)=>x.h.c0
    have e1:=fun x:nq wr.heap.size (.bool xm) (.slice xp xl xc) (.slice xq xk xd) (.bool ym) (.slice yp yl yc) (.slice yq yk yd)=>x.h.c1
    have e2:=fun x:nq wr.heap.size (.bool xm) (.slice xp xl xc) (.slice xq xk xd) (.bool ym) (.slice yp yl yc) (.slice yq yk yd)=>x.h.c2
    have e3:=fun x:nq wr.heap.size (.bool xm) (.slice xp xl xc) (.slice xq xk xd) (.bool ym) (.slice yp yl yc) (.slice yq yk yd)=>x.h.c3
    have e4:=fun x:nq wr.heap.size (.bool xm) (.slice xp xl xc) (.slice xq xk xd) (.bool ym) (.slice yp yl yc) (.slice yq yk yd)=>x.h.c4
    have e5:=fun x:nq wr.heap.size (.bool xm) (.slice xp xl xc) (.slice xq xk xd) (.bool ym) (.slice yp yl yc) (.slice yq yk yd)=>x.h.c5
    refine af 3 0 _ _ _ (by kernel_rfl) ?_
    simp only[zo,zu,zp,zt]
    repeat (go_big_quiet_step (fail))
    refine wpQuiet_nil ?_
    clear e0 e1 e2 e3 e4 e5
    refine ag rfl rfl (fun K hK=>?_)
    go_simp
    refine (fS ((k+1:Nat):Int) wd (by omega) (by omega)).mono ?_
    rintro e w5 ⟨v5,rfl,hv5,hb5⟩
    refine hK _ _ ⟨⟨_,q4.below hb5⟩,rfl⟩ ?_
    clear hK K
    try simp only[Act.put,zj,zi,zh,zg,zl,zm]
    refine ag rfl rfl (fun K hK=>?_)
    go_simp
    refine (cY _ _ _ hv5).mono ?_
    rintro e w6 ⟨v6,rfl,hv6,hb6⟩
    have hB6:=hb5.trans (hb6.mono hb5.size)
    rw[bI] at hv6
    refine hK _ _ ⟨⟨_,q4.below hB6⟩,rfl⟩ ?_
    clear hK K
    try simp only[Act.put,zj,zi,zh,zg,zl,zm]
    refine ag rfl rfl (fun K hK=>?_)
    go_simp
    have hsn:=nj (n:=k+1) (by omega)
    refine (eT _ _ _ _ _ (HK4.out.below hB6).v hv6 (HK4.out.s.fewV hsn (by decide))).mono ?_
    rintro e w7 ⟨v7,rfl,hv7,hb7⟩
    rw[aW] at hv7
    have hB7:=hB6.trans (hb7.mono hB6.size)
    refine hK _ _ ⟨⟨_,q4.below hB7⟩,rfl⟩ ?_
    clear hK K
    try simp only[Act.put,zj,zi,zh,zg,zl,zm]
    have hk7:IsK w7 v7 (z.mul (CQ.real ((k+1:Nat):Int))):=⟨hv7,HZ.out⟩
    obtain⟨sm,sp,sl,sc,sq,sk,sd,tm,tp,tl,tc,tq',tk,td,rfl⟩:=hk7.forms
    have hw7:=HV4.out.below hB7
    have q7:=q4.below hB7
    have hB47:=hB4.trans (hB7.mono hB4.size)
    have hbs:=hB47.size
    have hzl:((gU zs).take k).length<1000000000:=by rw[zX,HML.out];omega
    have q8:=q7.below (ae w7 (.cells #[.bool sm,.slice sp sl sc,.slice sq sk sd,.bool tm,.slice tp tl tc,.slice tq' tk td] 91))
    refine ag rfl rfl (fun K hK=>?_)
    go_simp
    refine hK _ _ ⟨⟨_,q8⟩,rfl⟩ ?_
    clear hK K
    try simp only[Act.put,zj,zi,zh,zg,zl,zm]
    refine ag rfl rfl (fun K hK=>?_)
    refine dK rfl ?_
    refine jq 156 Tryz.underlying156 rfl (.tmp 15) (.tmp 21) rfl w.heap.size _ _ _ _ _ _ _ _ _ rfl hw7 hk7 rfl hzl hbs ?_
    intro v' w9 hw9 hb9 hg9
    have hB9:=hb9 _ _ hB47 (zn _)
    have q9:=q8.grown hg9 (fun e=>Nat.lt_irrefl _ (hvb _ e.symm))
    refine⟨rfl,hK _ _ ⟨⟨_,q9⟩,rfl⟩ ?_⟩
    clear hK K
    try simp only[Act.put,zj,zi,zh,zg,zl,zm]
    rw[←HT.out] at hw9
    have HW9:=zf hw9
    clear q4 q7 q8 q9 hg9 hb9 hw9 hw7 hk7 hv7 hv6 hv5 hb5 hb6 hb7 hB4 hB6 hB7 hB47 hvb
    refine af 1 8 _ _ _ (by kernel_rfl) ?_
    simp only[zo,zu,zp,zt]
    repeat (go_big_quiet_step (fail))
    refine wpQuiet_nil ?_
    refine aw ?_
    go_wp2
    go_roundw
    case rel=>exact⟨k+1+1,by go_num,by omega,HW9.out,hB9⟩
    case measure=>(first | (simp[intOf];done) | (simp[intOf];omega))
  ·have hin':i=zs.length:=by omega
   subst hin'
   have hw:=hown
   rw[show (gU zs).take (zs.length-1)=gU zs from zA (by rw[HML.out];exact zn _)] at hw
   have hml:(gU zs).length<1000000:=by rw[HML.out];omega
   have HW:=zf hw.isP
   clear hown hi hw
   go_wp2_with fail
   refine (lO _ _ wr HW.out hml).mono ?_
   rintro e w4 ⟨v1,rfl,hv1,hb1⟩
   go_wp2
   go_ret
   exact⟨_,rfl,hv1,hbr.trans (hb1.mono hbr.size)⟩
section
variable {P : Program} (w : World)
theorem m6 (base:Nat) (t ty e:TypeId) (i:TypeInfo) (z:Value) (size bytes:Nat) (ht:P.underlying t=some (.slice e)) (hi:P.info? e=some i) (hz:i.zero=some z)
  (hsize:i.size=size) (hby:i.bytes=bytes) (hzs:z.cells.size=size) (hsz:0<size)
  (v:Value) (n:Nat) (xs:List Value) (hown:w.ownsRow base e size v n xs)
  (a:Addr) (m c:Nat) (news:List Value) (hm0:0<m) (hl:news.length=m*size) (hnews:∀ j u,news[j]?=some u→w.cell? (a.add j)=some u) (h1:∀ u∈news,u.oneCell'=true)
  (h63:n+m≤maxLen) (hbytes:(n+m)*bytes≤140737488355328) (hbase:base≤w.heap.size) :
  ∃ v' w',(Builtin.append_ #[t,t] ty #[v,.slice (some a) m c]).run P w=.ok v' w'∧w'.ownsRow base e size v' (n+m) (xs++news)∧w.grownBy w' v.ownBlock∧(v'.ownBlock=v.ownBlock∨∃ g,v'.ownBlock=some g∧w.heap.size≤g):=by
 obtain⟨v',w',hr,h2,h3,-⟩:=run_append_own (P:=P) w base t ty e i z size bytes ht hi hz hsize hby hzs hsz v n xs hown a m c news hl hnews h1 h63 hbytes hbase
 refine⟨v',w',hr,h2,h3,?_⟩
 have hsmall:n+m≤9223372036854775807:=by simp only[maxLen] at h63;omega
 subst hsize
 subst hby
 rcases hown.2 with ⟨rfl,rfl⟩ | ⟨g,cap,cur,rfl,hbg,hg,hnc,hcm,hcs,htake⟩
 ·have hr':=run_append_nil (P:=P) w t ty e i z ht hi hz a m c news hl hnews hm0 (by omega) (by rw[Ad] at hbytes;omega)
  rw[hr'] at hr
  cases hr
  exact Or.inr ⟨_,rfl,zn _⟩
 ·by_cases hroom:n+m≤cap
  ·have hfit:n*i.size+news.length≤cur.size:=by rw[hl,hcs,←Ag];exact zv _ hroom
   have hr':=run_append_room (P:=P) w t ty e i ht hi g n cap cur hg a m c news hl hnews h1 hroom hfit
   rw[hr'] at hr
   cases hr
   exact Or.inl rfl
  ·have holds:∀ j u,xs[j]?=some u→w.cell? ((⟨g,0,none⟩:Addr).add j)=some u:=hown.cells (g:=g) rfl
   have hr':=run_append_grow (P:=P) w t ty e i z ht hi hz ⟨g,0,none⟩ n cap xs hown.1 holds a m c news hl hnews (by omega) (by omega) (growslice_fits (by omega) hbytes)
   rw[hr'] at hr
   cases hr
   exact Or.inr ⟨_,rfl,zn _⟩
theorem jR {ops:Array Oper}{rest:List Oper}{o:Oper}{a:Act}{Q:Exit→Act→World→Prop} (hgd:o.guard=none) (s x:Operand) (t:TypeId)
  (ho:o.op=.call { callee:=.builtin .append,args:=#[s,x],argTypes:=#[t,t] })
  (base:Nat) (e:TypeId) (i:TypeInfo) (z:Value) (size bytes:Nat) (ht:P.underlying t=some (.slice e)) (hi:P.info? e=some i) (hz:i.zero=some z)
  (hsize:i.size=size) (hby:i.bytes=bytes) (hzs:z.cells.size=size) (hsz:0<size)
  (v:Value) (n:Nat) (xs:List Value) (hs:a.eval s=v) (hown:w.ownsRow base e size v n xs)
  (ad:Addr) (m c:Nat) (news:List Value) (hm0:0<m) (hx:a.eval x=.slice (some ad) m c) (hl:news.length=m*size) (hnews:∀ j u,news[j]?=some u→w.cell? (ad.add j)=some u) (h1:∀ u∈news,u.oneCell'=true)
  (h63:n+m≤maxLen) (hbytes:(n+m)*bytes≤140737488355328) (hbase:base≤w.heap.size)
  (h:∀ v' w',w'.ownsRow base e size v' (n+m) (xs++news)→w.grownBy w' v.ownBlock→(v'.ownBlock=v.ownBlock∨∃ g,v'.ownBlock=some g∧w.heap.size≤g)→wpList P ops Q rest (a.put o.dst v') w'):wpList P ops Q (o :: rest) a w:=by
 refine wpList_plain hgd fun K hK=>?_
 obtain⟨v',w',hr,h2,h3,h4⟩:=m6 (P:=P) w base t o.type e i z size bytes ht hi hz hsize hby hzs hsz v n xs hown ad m c news hm0 hl hnews h1 h63 hbytes hbase
 unfold Oper.wp execOp
 obtain⟨pv,nv,cv,rfl⟩:∃ p n c,v=.slice p n c:=by
  rcases hown.2 with ⟨rfl,-⟩ | ⟨g,cap,cur,rfl,-⟩<;>exact⟨_,_,_,rfl⟩
 simp only[ho,resolve,invoke,builtin,Sem.run_bind,Sem.run_pure,Result.andThen_ok,BE,Ap,A2,hs,hx,hr]
 exact hK _ _ (h v' w' h2 h3 h4)
end
structure x7 (w:World) (B:Nat) (v:Value) (l:List ByteArray) (v':Value) (l':List ByteArray):Prop where
 o1:bf w B v l
 o2:bf w B v' l'
 ne:∀ g,v.ownBlock=some g→v'.ownBlock≠some g
theorem x7.alloc {w:World}{B:Nat}{v v':Value}{l l':List ByteArray} (h:x7 w B v l v' l') (o:Obj):x7 (w.alloc o) B v l v' l':=⟨World.ownsRow.alloc h.o1 o,World.ownsRow.alloc h.o2 o,h.ne⟩
structure xU (w w':World) (B:Nat) (v v':Value) (l:List ByteArray):Prop where
 own:bf w' B v' l
 grown:w.grownBy w' v.ownBlock
 blk:v'.ownBlock=v.ownBlock∨∃ g,v'.ownBlock=some g∧w.heap.size≤g
theorem xU.below {w w':World}{B:Nat}{v v':Value}{l l0:List ByteArray} (h:xU w w' B v v' l) (ho:bf w B v l0) {B':Nat}{w0:World} (hb:Below B' w0 w) (hB:B'≤B) (hs:B≤w.heap.size):Below B' w0 w':=by
 refine hb.grown h.grown (zF hB hs) fun k hk=>?_
 have:=(World.ownsRow.lt ho k hk).1
 omega
theorem jp {w:World}{ops:Array Oper}{rest:List Oper}{o:Oper}{act:Act}{Q:Exit→Act→World→Prop} (T:TypeId)
  (hT:Tryz.prog.underlying T=some (.slice 22)) (hgd:o.guard=none) (s x:Operand)
  (ho:o.op=.call { callee:=.builtin .append,args:=#[s,x],argTypes:=#[T,T] })
  (base:Nat) (v:Value) (l:List ByteArray) (t:ByteArray) (hs:act.eval s=v) (hown:bf w base v l) (bx:Nat)
  (hx:act.eval x=.slice (some ⟨bx,0,none⟩) 1 1) (hcx:w.cell? ⟨bx,0,none⟩=some (.string t)) (hlen:l.length<1000000000) (hbase:base≤w.heap.size)
  (h:∀ v' w',xU w w' base v v' (l++[t])→wpList Tryz.prog ops Q rest (act.put o.dst v') w') :
  wpList Tryz.prog ops Q (o :: rest) act w:=by
 obtain⟨i0,hi,hz0,hz1,hz2⟩:=info_parts rg
 refine jR w hgd s x T ho base 22 i0 _ 1 16 hT hi hz0 hz1 hz2 rfl (by decide) v l.length (l.map .string) hs hown ⟨bx,0,none⟩ 1 1 [.string t] (by decide) hx rfl ?_ ?_ ?_ ?_ hbase ?_
 ·intro j u hj
  match j,hj with
  | 0,hj =>
   simp at hj
   subst hj
   exact hcx
 ·intro u hu
  simp at hu
  subst hu
  rfl
 ·unfold maxLen;omega
 ·omega
 ·intro v' w' hown' hg hbl
  refine h v' w' ⟨?_,hg,hbl⟩
  unfold bf
  rw[zw,A_];exact hown'
end Go.Proofs.YtdlioncecgnloaaGreatDoor
