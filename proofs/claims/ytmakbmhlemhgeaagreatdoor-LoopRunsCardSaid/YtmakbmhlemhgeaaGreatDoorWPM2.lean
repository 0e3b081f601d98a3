/- L -/
import Derived.Test.YtmakbmhlemhgeaaGreatDoorWNC8
import Derived.Test.YtmakbmhlemhgeaaGreatDoorWRQ8
import Derived.Test.YtmakbmhlemhgeaaGreatDoorWRng2
import Derived.Test.YtmakbmhlemhgeaaGreatDoorWPL1
import Derived.Test.YtmakbmhlemhgeaaGreatDoorWB
set_option linter.all false
set_option maxRecDepth 100000
set_option maxHeartbeats 8000000
namespace Go.Proofs.YtmakbmhlemhgeaaGreatDoor
open Go.RowKit Dg
theorem fM {o:Oper}{a:Act}{w:World}{K:Act->World->Prop}{Q:Exit->Act->World->Prop} (hg:o.guard=none) (h:wpList Tryz.prog #[o] (fun e a w=>e=.normal/\K a w) [o] a w):o.wp Tryz.prog a w K Q:=by
 unfold wpList at h;rw[if_pos (by simp only[Region.wanted,hg])] at h;rcases h with h | ⟨-,h⟩
 ·unfold Oper.wp at *
  generalize (execOp a.eval o).run Tryz.prog w=r at *
  cases r with
  | ok n w' =>
   cases n<;>simp only[Oper.upon] at h |- <;>
    first
     | exact h.2
     | exact Calls.mono h (fun e w'' he=>by
       cases e with
       | returned v=>exact he.2
       | panicked c=>exact absurd he.1 (by simp)
       | outgrown=>obtain⟨_,_,he,_⟩:=he;exact absurd he (by simp))
     | exact Rows.mono h (fun _ _ he=>he.2)
  | halt x w'=>cases x<;>simp only[Oper.upon] at h |-<;>first | (obtain⟨he,_⟩:=h;exact absurd he (by simp)) | exact h | (obtain⟨_,_,he,_⟩:=h;exact absurd he (by simp))
 ·obtain⟨_,_,he,_⟩:=h;exact absurd he (by simp)
theorem mv {w:World}{ops:Array Oper}{rest:List Oper}{o:Oper}{act:Act}{Q:Exit->Act->World->Prop} (T:TypeId)
  (hT:Tryz.prog.underlying T=some (.slice 110)) (hgd:o.guard=none) (s x:Operand)
  (ho:o.op=.call { callee:=.builtin .append,args:=#[s,x],argTypes:=#[T,T] })
  (base:Nat) (v:Value) (zs:List CQ) (a b c d e f:Value) (z:CQ) (hs:act.eval s=v) (hown:dV w base v zs) (hk:IsK w (.agg #[a,b,c,d,e,f]) z)
  (hx:act.eval x=.slice (some ⟨w.heap.size,0,none⟩) 1 1) (hlen:zs.length<1000000000) (hbase:base<=w.heap.size)
  (h:∀ v' w',dV w' base v' (zs++[z])->(∀ B w0,Below B w0 w->B<=base->Below B w0 w')->(w.alloc (.cells #[a,b,c,d,e,f] 110)).grownBy w' v.ownBlock->wpList Tryz.prog ops Q rest (act.put o.dst v') w') :
  wpList Tryz.prog ops Q (o :: rest) act (w.alloc (.cells #[a,b,c,d,e,f] 110)):=by
 obtain⟨es,h1,h2,h3⟩:=hown.p;obtain⟨i0,hi,hz0,hz1,hz2⟩:=info_parts Bv;have hb:=au w (.cells #[a,b,c,d,e,f] 110);obtain⟨xm,xp,xl,xc,xq,xk,xd,ym,yp,yl,yc,yq,yk,yd,he⟩:=hk.forms;obtain⟨rfl,rfl,rfl,rfl,rfl,rfl⟩:a=.bool xm/\b=.slice xp xl xc/\c=.slice xq xk xd/\d=.bool ym/\e=.slice yp yl yc/\f=.slice yq yk yd:=by simpa using he
 have hnu:=hown.nu.below h2 hb;refine gh _ hgd s x T ho base 110 i0 _ 6 112 hT hi hz0 hz1 hz2 rfl (by decide) ?_ v es.length (dy es) hs (h2.alloc _) hnu ⟨w.heap.size,0,none⟩ 1 [.bool xm,.slice xp xl xc,.slice xq xk xd,.bool ym,.slice yp yl yc,.slice yq yk yd] hx rfl (sO w _ _ _ _ _ _ _) ?_ ?_ ?_ ?_ ?_ ?_
 ·intro u hu z' e';subst e';simp[Value.cells] at hu
 ·intro u hu;simp at hu;rcases hu with rfl | rfl | rfl | rfl | rfl | rfl<;>rfl
 ·intro u hu z' e';subst e';simp at hu
 ·unfold maxLen;omega
 ·omega
 ·rw[size_alloc];omega
 ·intro v' w' g1 g2 g3;have hkeep:∀ u l,IsU w u l->IsU w' u l:=fun u l hu=>(hu.below hb).grown hnu g2;refine h v' w' ⟨⟨es++[.agg #[.bool xm,.slice xp xl xc,.slice xq xk xd,.bool ym,.slice yp yl yc,.slice yq yk yd]],by simp[h1],?_,?_⟩,g3⟩ ?_ g2
  ·rw[GW,iJ];exact g1
  ·intro i hi' hi2;by_cases hlt:i<es.length
   ·rw[Hi hlt,Hi (by omega)];exact (h3 i hlt (by omega)).keepU hkeep
   ·have hie:i=es.length:=by simp at hi';omega
    subst hie;rw[Hg (GM _),Hg (by omega)];simpa[h1] using hk.keepU hkeep
  ·intro B w0 hB hBb;refine (hB.alloc (by have:=hbase;omega) _).grown g2 (by rw[size_alloc];omega) ?_;intro k hk';have:=(h2.lt k hk').1;omega
structure sB (k:Nat) (a b c d e f:Value) where
 w:World
 h:cE w k a b c d e f
theorem cE.grown {w w':World}{k:Nat}{a b c d e f:Value}{row:Option Nat} (h:cE w k a b c d e f) (hg:w.grownBy w' row) (hne:some k≠row):cE w' k a b c d e f :=
 ⟨GN h.lt hg.size,hg.cell h.c0 hne,hg.cell h.c1 hne,hg.cell h.c2 hne,hg.cell h.c3 hne,hg.cell h.c4 hne,hg.cell h.c5 hne⟩
theorem dV.block {w:World}{base:Nat}{v:Value}{zs:List CQ} (h:dV w base v zs) {g:Nat} (hg:v.ownBlock=some g):g<w.heap.size:=by
 obtain⟨es,-,h2,-⟩:=h.p;exact (World.ownsRow.lt h2 g hg).2
theorem sj {n:Nat} (h:n<34):SzV 10 (ct (CQ.real ((n:Nat):Int))):=by
 refine⟨⟨?_,dz _,?_⟩,.zero (by decide)⟩
 ·show (((n:Nat):Int):Rat).num.natAbs<10 ^ 10
  simp;omega
 ·show (((n:Nat):Int):Rat).den<10 ^ 10
  simp
def kK (zs:List CQ):List CQ:=(List.range (zs.length-1)).map fun i=>(gZ zs (i+1)).mul (CQ.real ((i+1:Nat):Int))
def yY (zs:List CQ):List CQ:=dh (kK zs)
theorem tg (zs:List CQ):(kK zs).length=zs.length-1:=by simp[kK]
theorem yZ (zs:List CQ) {i:Nat} (h:i+1<zs.length):(kK zs).take (i+1)=(kK zs).take i++[zs[i+1].mul (CQ.real ((i+1:Nat):Int))]:=by
 have hl:i<(kK zs).length:=by rw[tg];omega
 rw[show (kK zs).take (i+1)=(kK zs).take i++[(kK zs)[i]] from (GZ hl).symm];simp[kK,gZ,h]
theorem th (vp:Value) (zs:List CQ) (w:World) (hp:IsP w vp zs) (hfit:∀ z∈zs,∀ n:Nat,n<33->SzV 10000 (ct (z.mul (CQ.real ((n:Nat):Int))))) (hlen:zs.length<=33) :
  Calls Tryz.prog 187 #[vp] w fun e w'=>∃ v',e=.returned v'/\IsP w' v' (yY zs)/\Below w.heap.size w w':=by
 obtain⟨p,c,rfl,-⟩:=id hp.form;have HML:=GF (tg zs);have HMT:=GF (fun i h=>yZ zs (i:=i) h);have HFIT:=GF hfit;have HP:=GF hp;clear hfit hp;go_enter Tryz.func187,Tryz.ntmps187;go_wp2;go_loopw [3,8] (fun s3 s8 wr=>∃ i:Nat,s8=.int .i64 i/\i<=zs.length/\dV wr w.heap.size s3 ((kK zs).take (i-1))/\Below w.heap.size w wr) (fun _ s8 _=>zs.length-(intOf s8).toNat)
 case atStart=>exact⟨0,rfl,GY _,dV.nil _ _,Ki _ _⟩
 case round =>
  obtain⟨i,rfl,hin,hown,hbr⟩:=hrel;by_cases hi:i<zs.length
  ·obtain⟨B,o,rfl,hlt,xm,xp,xl,xc,xq,xk,xd,ym,yp,yl,yc,yq,yk,yd,hk,a0,a1,a2,a3,a4,a5⟩:=(HP.out.below hbr).get hi;have hvb0:=GF (fun g (h:u3.ownBlock=some g)=>hown.block h);have HV:=GF hown;have HK:=GF hk;clear hown;go_upto_region 5 with fail
   have q2:=cE.new wr (.bool xm) (.slice xp xl xc) (.slice xq xk xd) (.bool ym) (.slice yp yl yc) (.slice yq yk yd) 110;have m2:=au wr (.cells #[.bool xm,.slice xp xl xc,.slice xq xk xd,.bool ym,.slice yp yl yc,.slice yq yk yd] 110);have z2:=size_alloc wr (.cells #[.bool xm,.slice xp xl xc,.slice xq xk xd,.bool ym,.slice yp yl yc,.slice yq yk yd] 110);generalize wr.alloc (.cells #[.bool xm,.slice xp xl xc,.slice xq xk xd,.bool ym,.slice yp yl yc,.slice yq yk yd] 110)=w2 at *
   have hB2:=hbr.trans (m2.mono hbr.size);have HV2:=GF (HV.out.below m2);have HK2:=GF (HK.out.below m2);have hgr:wr.heap.size<w2.heap.size:=by omega
   clear a0 a1 a2 a3 a4 a5 m2 z2 HV HK hk;by_cases h0:i=0
   ·subst h0;clear q2 HK2;go_wp2;go_roundw;case rel=>exact⟨1,by go_num,by omega,HV2.out,hB2⟩
    case measure=>simp[intOf]<;>omega
   ·obtain⟨k,rfl⟩:∃ k,i=k+1:=⟨i-1,by omega⟩;have HT:=GF (HMT.out k hi);have HZ:=GF (HFIT.out zs[k+1] (G7 hi) (k+1) (by omega));generalize zs[k+1]=z at HK2 HT HZ;rw[IB] at HV2;go_upto_region 6 with fail
    have hvb:∀ g,u3.ownBlock=some g->g<wr.heap.size:=hvb0.out;have m4:Below w2.heap.size w2 w2.drew:=(Ki _ _).drew;have q4:=q2.below m4
    haveI:Nonempty (sB wr.heap.size (.bool xm) (.slice xp xl xc) (.slice xq xk xd) (.bool ym) (.slice yp yl yc) (.slice yq yk yd)):=⟨⟨_,q2⟩⟩
    refine aB (fun w'=>∃ x:sB wr.heap.size (.bool xm) (.slice xp xl xc) (.slice xq xk xd) (.bool ym) (.slice yp yl yc) (.slice yq yk yd),w'=x.w) (fun i=>i == 3||i == 4||i == 5||i == 6||i == 7) (by kernel_rfl) (by kernel_rfl) ⟨⟨_,q4⟩,rfl⟩ ?_;have hB4:=hB2.trans (m4.mono hB2.size);have HV4:=GF (HV2.out.below m4);have HK4:=GF (HK2.out.below m4);clear q2 m4 hB2 HV2 HK2 hgr;generalize w2.drew=wd at *
    have e0:=fun x:sB wr.heap.size (.bool xm) (.slice xp xl xc) (.slice xq xk xd) (.bool ym) (.slice yp yl yc) (.slice yq yk yd)=>x.h.c0;have e1:=fun x:sB wr.heap.size (.bool xm) (.slice xp xl xc) (.slice xq xk xd) (.bool ym) (.slice yp yl yc) (.slice yq yk yd)=>x.h.c1;have e2:=fun x:sB wr.heap.size (.bool xm) (.slice xp xl xc) (.slice xq xk xd) (.bool ym) (.slice yp yl yc) (.slice yq yk yd)=>x.h.c2;have e3:=fun x:sB wr.heap.size (.bool xm) (.slice xp xl xc) (.slice xq xk xd) (.bool ym) (.slice yp yl yc) (.slice yq yk yd)=>x.h.c3;have e4:=fun x:sB wr.heap.size (.bool xm) (.slice xp xl xc) (.slice xq xk xd) (.bool ym) (.slice yp yl yc) (.slice yq yk yd)=>x.h.c4;have e5:=fun x:sB wr.heap.size (.bool xm) (.slice xp xl xc) (.slice xq xk xd) (.bool ym) (.slice yp yl yc) (.slice yq yk yd)=>x.h.c5;refine aq 3 0 _ _ _ (by kernel_rfl) ?_;simp only[GP,GS,GQ,GR];repeat (go_big_quiet_step (fail))
    refine wpQuiet_nil ?_;clear e0 e1 e2 e3 e4 e5;refine ar rfl rfl (fun K hK=>?_);go_simp;refine (kp ((k+1:Nat):Int) wd (by omega) (by omega)).mono ?_;rintro e w5 ⟨v5,rfl,hv5,hb5⟩;refine hK _ _ ⟨⟨_,q4.below hb5⟩,rfl⟩ ?_;clear hK K;try simp only[Act.put,GJ,GI,GH,GG,GL,GK]
    refine ar rfl rfl (fun K hK=>?_);go_simp;refine (ft _ _ _ hv5).mono ?_;rintro e w6 ⟨v6,rfl,hv6,hb6⟩;have hB6:=hb5.trans (hb6.mono hb5.size);rw[dP] at hv6;refine hK _ _ ⟨⟨_,q4.below hB6⟩,rfl⟩ ?_;clear hK K;try simp only[Act.put,GJ,GI,GH,GG,GL,GK]
    refine ar rfl rfl (fun K hK=>?_);go_simp;have hsn:=sj (n:=k+1) (by omega);refine (jE _ _ _ _ _ (HK4.out.below hB6).v hv6 (HK4.out.s.fewV hsn (by decide))).mono ?_;rintro e w7 ⟨v7,rfl,hv7,hb7⟩;rw[cV] at hv7;have hB7:=hB6.trans (hb7.mono hB6.size);refine hK _ _ ⟨⟨_,q4.below hB7⟩,rfl⟩ ?_;clear hK K;try simp only[Act.put,GJ,GI,GH,GG,GL,GK]
    have hk7:IsK w7 v7 (z.mul (CQ.real ((k+1:Nat):Int))):=⟨hv7,HZ.out⟩;obtain⟨sm,sp,sl,sc,sq,sk,sd,tm,tp,tl,tc,tq',tk,td,rfl⟩:=hk7.forms;have hw7:=HV4.out.below hB7;have q7:=q4.below hB7;have hB47:=hB4.trans (hB7.mono hB4.size);have hbs:=hB47.size;have hzl:((kK zs).take k).length<1000000000:=by rw[Hd,HML.out];omega
    have q8:=q7.below (au w7 (.cells #[.bool sm,.slice sp sl sc,.slice sq sk sd,.bool tm,.slice tp tl tc,.slice tq' tk td] 110));refine ar rfl rfl (fun K hK=>?_);go_simp;refine hK _ _ ⟨⟨_,q8⟩,rfl⟩ ?_;clear hK K;try simp only[Act.put,GJ,GI,GH,GG,GL,GK]
    refine ar rfl rfl (fun K hK=>?_);refine fM rfl ?_;refine mv 142 Tryz.underlying142 rfl (.tmp 15) (.tmp 21) rfl w.heap.size _ _ _ _ _ _ _ _ _ rfl hw7 hk7 rfl hzl hbs ?_;intro v' w9 hw9 hb9 hg9;have hB9:=hb9 _ _ hB47 (GM _);have q9:=q8.grown hg9 (fun e=>Nat.lt_irrefl _ (hvb _ e.symm));refine⟨rfl,hK _ _ ⟨⟨_,q9⟩,rfl⟩ ?_⟩;clear hK K;try simp only[Act.put,GJ,GI,GH,GG,GL,GK]
    rw[<-HT.out] at hw9;have HW9:=GF hw9;clear q4 q7 q8 q9 hg9 hb9 hw9 hw7 hk7 hv7 hv6 hv5 hb5 hb6 hb7 hB4 hB6 hB7 hB47 hvb;refine aq 1 8 _ _ _ (by kernel_rfl) ?_;simp only[GP,GS,GQ,GR];repeat (go_big_quiet_step (fail))
    refine wpQuiet_nil ?_;refine aH ?_;go_wp2;go_roundw;case rel=>exact⟨k+1+1,by go_num,by omega,HW9.out,hB9⟩
    case measure=>simp[intOf]<;>omega
  ·have hin':i=zs.length:=by omega
   subst hin';have hw:=hown;rw[show (kK zs).take (zs.length-1)=kK zs from GU (by rw[HML.out];exact GM _)] at hw;have hml:(kK zs).length<1000000:=by rw[HML.out];omega
   have HW:=GF hw.isP;clear hown hi hw;go_wp2_with fail
   refine (qu _ _ wr HW.out hml).mono ?_;rintro e w4 ⟨v1,rfl,hv1,hb1⟩;go_wp2;go_ret;exact⟨_,rfl,hv1,hbr.trans (hb1.mono hbr.size)⟩
section
variable {P : Program} (w : World)
theorem r8 (base:Nat) (t ty e:TypeId) (i:TypeInfo) (z:Value) (size bytes:Nat) (ht:P.underlying t=some (.slice e)) (hi:P.info? e=some i) (hz:i.zero=some z)
  (hsize:i.size=size) (hby:i.bytes=bytes) (hzs:z.cells.size=size) (hsz:0<size)
  (v:Value) (n:Nat) (xs:List Value) (hown:w.ownsRow base e size v n xs)
  (a:Addr) (m c:Nat) (news:List Value) (hm0:0<m) (hl:news.length=m*size) (hnews:∀ j u,news[j]?=some u->w.cell? (a.add j)=some u) (h1:∀ u∈news,u.oneCell'=true)
  (h63:n+m<=maxLen) (hbytes:(n+m)*bytes<=140737488355328) (hbase:base<=w.heap.size) :
  ∃ v' w',(Builtin.append_ #[t,t] ty #[v,.slice (some a) m c]).run P w=.ok v' w'/\w'.ownsRow base e size v' (n+m) (xs++news)/\w.grownBy w' v.ownBlock/\(v'.ownBlock=v.ownBlock\/∃ g,v'.ownBlock=some g/\w.heap.size<=g):=by
 obtain⟨v',w',hr,h2,h3,-⟩:=run_append_own (P:=P) w base t ty e i z size bytes ht hi hz hsize hby hzs hsz v n xs hown a m c news hl hnews h1 h63 hbytes hbase;refine⟨v',w',hr,h2,h3,?_⟩;have hsmall:n+m<=9223372036854775807:=by simp only[maxLen] at h63;omega
 subst hsize;subst hby;rcases hown.2 with ⟨rfl,rfl⟩ | ⟨g,cap,cur,rfl,hbg,hg,hnc,hcm,hcs,htake⟩
 ·have hr':=run_append_nil (P:=P) w t ty e i z ht hi hz a m c news hl hnews hm0 (by omega) (by rw[Hp] at hbytes;omega);rw[hr'] at hr
  cases hr
  exact Or.inr ⟨_,rfl,GM _⟩
 ·by_cases hroom:n+m<=cap
  ·have hfit:n*i.size+news.length<=cur.size:=by rw[hl,hcs,<-Hv];exact GX _ hroom
   have hr':=run_append_room (P:=P) w t ty e i ht hi g n cap cur hg a m c news hl hnews h1 hroom hfit;rw[hr'] at hr
   cases hr
   exact Or.inl rfl
  ·have holds:∀ j u,xs[j]?=some u->w.cell? ((⟨g,0,none⟩:Addr).add j)=some u:=hown.cells (g:=g) rfl;have hr':=run_append_grow (P:=P) w t ty e i z ht hi hz ⟨g,0,none⟩ n cap xs hown.1 holds a m c news hl hnews (by omega) (by omega) (growslice_fits (by omega) hbytes);rw[hr'] at hr
   cases hr
   exact Or.inr ⟨_,rfl,GM _⟩
end
structure AB (w:World) (B:Nat) (v:Value) (l:List ByteArray) (v':Value) (l':List ByteArray):Prop where
 o1:cR w B v l
 o2:cR w B v' l'
 ne:∀ g,v.ownBlock=some g->v'.ownBlock≠some g
theorem AB.nil (w:World) (B:Nat):AB w B (.slice none 0 0) [] (.slice none 0 0) []:=⟨cR.nil _ _,cR.nil _ _,fun g h=>by cases h⟩
theorem AB.alloc {w:World}{B:Nat}{v v':Value}{l l':List ByteArray} (h:AB w B v l v' l') (o:Obj):AB (w.alloc o) B v l v' l':=⟨World.ownsRow.alloc h.o1 o,World.ownsRow.alloc h.o2 o,h.ne⟩
open Go.RowKit Dg
def d9 (u:Value):Prop:=∃ z,u=.int .i64 z
theorem IsI.grownX {w w':World}{u v:Value}{l:List Nat} (h:IsI w u l) (hnx:NoX d9 w v) (hg:w.grownBy w' v.ownBlock):IsI w' u l:=by
 obtain⟨p,cap,e,h1,h2,h3⟩:=h;refine⟨p,cap,e,h1,h2,fun hl=>?_⟩;obtain⟨b,o,e2,hlt,hc⟩:=h3 hl;refine⟨b,o,e2,GN hlt hg.size,fun i hi=>?_⟩;have hcc:=hc i hi;exact hg.cell hcc (fun e3=>hnx b e3.symm _ _ hcc ⟨_,rfl⟩)
theorem cW.grownX {w w':World}{u v:Value}{q:Rat} (h:cW w u q) (hnx:NoX d9 w v) (hg:w.grownBy w' v.ownBlock):cW w' u q:=by
 obtain⟨vn,vd,e,h1,h2⟩:=h;exact⟨vn,vd,e,IsI.grownX h1 hnx hg,IsI.grownX h2 hnx hg⟩
theorem cW.forms {w:World}{v:Value}{q:Rat} (h:cW w v q):∃ m p N c p' N' c',v=.agg #[.bool m,.slice p N c,.bool false,.slice p' N' c']:=by
 obtain⟨m,p,N,c,p',N',c',e,-⟩:=h.open;exact⟨m,p,N,c,p',N',c',e⟩
theorem cW.len {w:World}{v:Value}{q:Rat} (h:cW w v q):(cellsOf v).length=4:=by
 obtain⟨m,p,N,c,p',N',c',rfl⟩:=h.forms;rfl
def pH (w:World) (v:Value) (qs:List Rat):Prop:=∃ es:List Value,es.length=qs.length/\fB w 4 v es/\∀ i (h:i<es.length) (h':i<qs.length),cW w es[i] qs[i]
structure ej (w:World) (base:Nat) (v:Value) (qs:List Rat):Prop where
 ex:∃ es:List Value,es.length=qs.length/\w.ownsRow base 87 4 v es.length (dy es)/\∀ i (h:i<es.length) (h':i<qs.length),cW w es[i] qs[i]
 nx:NoX d9 w v
theorem AI {w:World}{es:List Value}{qs:List Rat} (hl:es.length=qs.length) (h:∀ i (h:i<es.length) (h':i<qs.length),cW w es[i] qs[i]):∀ e∈es,(cellsOf e).length=4:=by
 intro e he;obtain⟨i,hi,rfl⟩:=Ht he;exact (h i hi (by omega)).len
theorem pH.below {w w':World}{v:Value}{qs:List Rat} (h:pH w v qs) (hb:Below w.heap.size w w'):pH w' v qs:=by
 obtain⟨es,h1,h2,h3⟩:=h;exact⟨es,h1,h2.below hb,fun i hi hi'=>(h3 i hi hi').below hb⟩
theorem ej.isQs {w:World}{base:Nat}{v:Value}{qs:List Rat} (h:ej w base v qs):pH w v qs:=by
 obtain⟨es,h1,h2,h3⟩:=h.ex;exact⟨es,h1,eY (AI h1 h3) h2,h3⟩
theorem ej.below {w w':World}{base:Nat}{v:Value}{qs:List Rat} (h:ej w base v qs) (hb:Below w.heap.size w w'):ej w' base v qs:=by
 obtain⟨es,h1,h2,h3⟩:=h.ex;exact⟨⟨es,h1,fG h2 hb,fun i hi hi'=>(h3 i hi hi').below hb⟩,h.nx.below h2 hb⟩
theorem ej.nil (w:World) (base:Nat):ej w base (.slice none 0 0) []:=⟨⟨[],rfl,World.ownsRow_nil _ _ _ _,fun i h=>by simp at h⟩,fun g h=>by cases h⟩
theorem pH.form {w:World}{v:Value}{qs:List Rat} (h:pH w v qs):∃ p c,v=.slice p qs.length c/\qs.length<=c/\c<=maxLen:=by
 obtain⟨es,h1,⟨p,c,e,h2,h3,-⟩,-⟩:=h;rw[h1] at e h2;exact⟨p,c,e,h2,h3⟩
theorem ej.lt {w:World}{base:Nat}{v:Value}{qs:List Rat} (h:ej w base v qs):∀ g,v.ownBlock=some g->base<=g/\g<w.heap.size:=by
 obtain⟨es,h1,h2,h3⟩:=h.ex;exact World.ownsRow.lt h2
theorem pH.get {w:World}{p:Option Addr}{n c:Nat}{qs:List Rat} (h:pH w (.slice p n c) qs) {i:Nat} (hi:i<qs.length) :
  ∃ B o,p=some ⟨B,o,none⟩/\B<w.heap.size/\∃ m a N d a' N' d',cW w (.agg #[.bool m,.slice a N d,.bool false,.slice a' N' d']) qs[i] /\
   w.cell? ⟨B,o+i*4,none⟩=some (.bool m)/\w.cell? ⟨B,o+i*4+1,none⟩=some (.slice a N d)/\w.cell? ⟨B,o+i*4+2,none⟩=some (.bool false)/\w.cell? ⟨B,o+i*4+3,none⟩=some (.slice a' N' d'):=by
 obtain⟨es,h1,⟨p',cap,e,h2,h3,h4⟩,h5⟩:=h;obtain⟨rfl,-,-⟩:p=p'/\n=es.length/\c=cap:=by simpa using e
 obtain⟨b,o,e2,hlt,hc⟩:=h4 (by omega);have hk:=h5 i (by omega) hi;obtain⟨m,a,N,d,a',N',d',he⟩:=hk.forms;have hc:=hc i (by omega);rw[he] at hk hc;exact⟨b,o,e2,hlt,_,_,_,_,_,_,_,hk,hc 0 _ rfl,hc 1 _ rfl,hc 2 _ rfl,hc 3 _ rfl⟩
theorem Gn:(Tryz.prog.info? 87).map (fun i=>(i.zero,i.size,i.bytes))=some (some (.agg #[.bool false,.slice none 0 0,.bool false,.slice none 0 0]),4,64):=by kernel_rfl
structure E2 (w w':World) (B:Nat) (v v':Value) (qs:List Rat):Prop where
 own:ej w' B v' qs
 grown:w.grownBy w' v.ownBlock
 blk:v'.ownBlock=v.ownBlock\/∃ g,v'.ownBlock=some g/\w.heap.size<=g
 old:NoX d9 w v
theorem E2.below {w w':World}{B:Nat}{v v':Value}{qs q0:List Rat} (h:E2 w w' B v v' qs) (ho:ej w B v q0) {B':Nat}{w0:World} (hb:Below B' w0 w) (hB:B'<=B) (hs:B<=w.heap.size):Below B' w0 w':=by
 refine hb.grown h.grown (GV hB hs) fun k hk=>?_;have:=(ho.lt k hk).1;omega
theorem eS {w:World}{ops:Array Oper}{rest:List Oper}{o:Oper}{act:Act}{Q:Exit->Act->World->Prop} (T:TypeId)
  (hT:Tryz.prog.underlying T=some (.slice 87)) (hgd:o.guard=none) (s x:Operand)
  (ho:o.op=.call { callee:=.builtin .append,args:=#[s,x],argTypes:=#[T,T] })
  (base:Nat) (v:Value) (qs:List Rat) (m:Bool) (a:Option Addr) (N d:Nat) (a':Option Addr) (N' d':Nat) (q:Rat) (hs:act.eval s=v) (hown:ej w base v qs) (bx:Nat)
  (hx:act.eval x=.slice (some ⟨bx,0,none⟩) 1 1) (hcx:w.heap[bx]?=some (.cells #[.bool m,.slice a N d,.bool false,.slice a' N' d'] 87 (0,0)))
  (hq:cW w (.agg #[.bool m,.slice a N d,.bool false,.slice a' N' d']) q) (hlen:qs.length<1000000000) (hbase:base<=w.heap.size)
  (h:∀ v' w',E2 w w' base v v' (qs++[q])->wpList Tryz.prog ops Q rest (act.put o.dst v') w') :
  wpList Tryz.prog ops Q (o :: rest) act w:=by
 obtain⟨es,h1,h2,h3⟩:=hown.ex;obtain⟨i0,hi,hz0,hz1,hz2⟩:=info_parts Gn
 have hcell:∀ (j:Nat) (u:Value),[Value.bool m,.slice a N d,.bool false,.slice a' N' d'][j]?=some u->w.cell? ((⟨bx,0,none⟩:Addr).add j)=some u:=by
  intro j u hj;have e:(⟨bx,0,none⟩:Addr).add j=⟨bx,j,none⟩:=by unfold Addr.add;split<;>simp_all
  rw[e,World.cell?,hcx];simp only[Hz,G8,if_false];rw[<-hj,<-IK]
 have hone:∀ u∈[Value.bool m,.slice a N d,.bool false,.slice a' N' d'],u.oneCell'=true:=by
  intro u hu;simp at hu;rcases hu with rfl | rfl | rfl | rfl<;>rfl
 have hnd:∀ u∈[Value.bool m,.slice a N d,.bool false,.slice a' N' d'],¬ d9 u:=by
  rintro u hu ⟨z,rfl⟩;simp at hu
 have hzn:∀ u∈(Value.agg #[.bool false,.slice none 0 0,.bool false,.slice none 0 0]).cells,¬ d9 u:=by
  rintro u hu ⟨z,rfl⟩;simp[Value.cells] at hu
 have h63:es.length+1<=maxLen:=by unfold maxLen;omega
 refine wpList_plain hgd fun K hK=>?_;obtain⟨v',w',hr,g1,g2,g3⟩:=jA (P:=Tryz.prog) w d9 base T o.type 87 i0 _ 4 64 hT hi hz0 hz1 hz2 rfl (by decide) hzn v es.length (dy es) h2 hown.nx ⟨bx,0,none⟩ 1 1 [.bool m,.slice a N d,.bool false,.slice a' N' d'] (by decide) rfl hcell hone hnd h63 (by omega) hbase;obtain⟨v2,w2,hr2,-,-,g4⟩:=r8 (P:=Tryz.prog) w base T o.type 87 i0 _ 4 64 hT hi hz0 hz1 hz2 rfl (by decide) v es.length (dy es) h2 ⟨bx,0,none⟩ 1 1 [.bool m,.slice a N d,.bool false,.slice a' N' d'] (by decide) rfl hcell hone h63 (by omega) hbase;rw[hr] at hr2
 cases hr2
 unfold Oper.wp execOp
 obtain⟨pv,nv,cv,rfl⟩:∃ p n c,v=.slice p n c:=by
  rcases h2.2 with ⟨rfl,-⟩ | ⟨g,cap,cur,rfl,-⟩<;>exact⟨_,_,_,rfl⟩
 simp only[ho,resolve,invoke,builtin,Sem.run_bind,Sem.run_pure,Result.andThen_ok,Jm,Ja,JL,hs,hx,hr];refine hK _ _ (h v' w' ⟨⟨⟨es++[.agg #[.bool m,.slice a N d,.bool false,.slice a' N' d']],by simp[h1],?_,?_⟩,g3⟩,g2,g4,hown.nx⟩)
 ·rw[GW,iJ];exact g1
 ·intro i hi hi';by_cases hin:i<es.length
  ·rw[Hi hin,Hi (by omega)];exact (h3 i hin (by omega)).grownX hown.nx g2
  ·have hie:i=es.length:=by simp at hi;omega
   subst hie;rw[Hg (by omega),Hg (by omega)];simp only[IX,h1,GH];exact hq.grownX hown.nx g2
theorem Eo (q:Rat):m7 (rt q)=rt (-q):=by
 rw[<-gy];unfold m7 fh;by_cases h0:(rt q).n=0
 ·simp[h0]
 ·simp[h0,IC h0]
theorem ug (v:Value) (q:Rat) (w:World) (hv:cW w v q):Calls Tryz.prog 108 #[v] w fun e w'=>∃ v',e=.returned v'/\cW w' v' (-q)/\Below w.heap.size w w':=by
 have h:=uf v (rt q) w hv (fun h e=>by
  have h1:q.num<0:=of_decide_eq_true h;have h2:q.num.natAbs=0:=e
  omega)
 rw[Eo] at h;exact h
theorem xW (n:Nat) (hn:n<1000000000000) (w:World):Calls Tryz.prog 94 #[.int .i64 n] w fun e w'=>∃ v,e=.returned v/\cW w' v (n:Rat)/\Below w.heap.size w w':=by
 have h:=lM n hn w
 have e:rt ((n:Nat):Rat)=⟨false,n,1⟩:=by
  have:=rZ (n:Int);rw[decide_eq_false (by omega),Hs] at this;exact this
 rw[<-e] at h;exact h
theorem qone (w:World):Calls Tryz.prog 46 #[] w fun e w'=>∃ v,e=.returned v/\cW w' v 1/\Below w.heap.size w w':=by
 have hl:=bA w (.cells #[.bool false,.slice none 0 0,.bool false,.slice none 0 0] 87);go_enter Tryz.func46,Tryz.ntmps46;go_upto_region 1 with fail
 generalize w.alloc (.cells #[.bool false,.slice none 0 0,.bool false,.slice none 0 0] 87)=w1 at *
 have s0:=hl.s0;have M1:=GF hl.below;clear hl;go_wp2_with fail
 refine (xW 1 (by decide) w1).mono ?_;rintro e w2 ⟨v2,rfl,hv2,hb2⟩;have hv2:cW w2 v2 (1:Rat):=hv2;obtain⟨mo,po,No,co,po',No',co',rfl,ho,ho'⟩:=hv2.open;have u2:=(hb2.block _ (ak s0)).trans s0;have hP:=bj (u0:=.bool mo) (u1:=.slice po No co) (u2:=.bool false) (u3:=.slice po' No' co') u2;have hZ:=GF (bV.puts hv2 hP u2 bU);have hBF:=GF ((M1.out.trans (hb2.mono M1.out.size)).trans (hP.below w.heap.size (by omega)));have q0:=ai u2 0;have q1:=ai u2 1;have q2:=ai u2 2;have q3:=ai u2 3;have f0:=Kg w2 (w.heap.size) 0 _ _ u2;have f1:=Kg w2 (w.heap.size) 1 _ _ u2;have f2:=Kg w2 (w.heap.size) 2 _ _ u2;have f3:=Kg w2 (w.heap.size) 3 _ _ u2;clear hv2 ho ho' hb2 s0;go_wp2_with fail
 (try simp only[Exit.inBlock,Exit.then])
 change bodyPost _ _ _ _ _ (d7 w2 (w.heap.size) (.bool mo) (.slice po No co) (.bool false) (.slice po' No' co'));refine Kh (results_cell_row rfl _ _ (w.heap.size) _ _ (0,0) _ rfl hP.row Tryz.underlying87 rfl (by kernel_rfl)) rfl ?_;exact⟨_,rfl,hZ.out,hBF.out⟩
theorem ET (w:World):Calls Tryz.prog 47 #[] w fun e w'=>∃ v,e=.returned v/\cW w' v 0/\Below w.heap.size w w':=by
 have hl:=bA w (.cells #[.bool false,.slice none 0 0,.bool false,.slice none 0 0] 87);go_enter Tryz.func47,Tryz.ntmps47;go_upto_region 1 with fail
 generalize w.alloc (.cells #[.bool false,.slice none 0 0,.bool false,.slice none 0 0] 87)=w1 at *
 have s0:=hl.s0;have M1:=GF hl.below;clear hl;go_wp2_with fail
 refine (xW 0 (by decide) w1).mono ?_;rintro e w2 ⟨v2,rfl,hv2,hb2⟩;have hv2:cW w2 v2 (0:Rat):=hv2;obtain⟨mo,po,No,co,po',No',co',rfl,ho,ho'⟩:=hv2.open;have u2:=(hb2.block _ (ak s0)).trans s0;have hP:=bj (u0:=.bool mo) (u1:=.slice po No co) (u2:=.bool false) (u3:=.slice po' No' co') u2;have hZ:=GF (bV.puts hv2 hP u2 bU);have hBF:=GF ((M1.out.trans (hb2.mono M1.out.size)).trans (hP.below w.heap.size (by omega)));have q0:=ai u2 0;have q1:=ai u2 1;have q2:=ai u2 2;have q3:=ai u2 3;have f0:=Kg w2 (w.heap.size) 0 _ _ u2;have f1:=Kg w2 (w.heap.size) 1 _ _ u2;have f2:=Kg w2 (w.heap.size) 2 _ _ u2;have f3:=Kg w2 (w.heap.size) 3 _ _ u2;clear hv2 ho ho' hb2 s0;go_wp2_with fail
 (try simp only[Exit.inBlock,Exit.then])
 change bodyPost _ _ _ _ _ (d7 w2 (w.heap.size) (.bool mo) (.slice po No co) (.bool false) (.slice po' No' co'));refine Kh (results_cell_row rfl _ _ (w.heap.size) _ _ (0,0) _ rfl hP.row Tryz.underlying87 rfl (by kernel_rfl)) rfl ?_;exact⟨_,rfl,hZ.out,hBF.out⟩
theorem FN (va vb:Value) (a b:Rat) (k l:Nat) (w:World) (ha:cW w va a) (hb:cW w vb b) (hk:Sz k (rt a)) (hl:Sz l (rt b)) (hkl:k+l+1<=390000) :
  Calls Tryz.prog 92 #[va,vb] w fun e w'=>∃ v,e=.returned v/\cW w' v (a-b)/\Below w.heap.size w w':=by
 have HA0:=GF ha;have HB0:=GF hb;obtain⟨m,p,N,c,p',N',c',rfl,hn,hd⟩:=ha.open;obtain⟨m2,q,M,d,q',M',d',rfl,hn2,hd2⟩:=hb.open;have hl3:=j1 w (.cells #[.bool m,.slice p N c,.bool false,.slice p' N' c'] 87) (.cells #[.bool m2,.slice q M d,.bool false,.slice q' M' d'] 87) (.cells #[.bool false,.slice none 0 0,.bool false,.slice none 0 0] 87);go_enter Tryz.func92,Tryz.ntmps92;go_upto_region 1 with fail
 generalize ((w.alloc (.cells #[.bool m,.slice p N c,.bool false,.slice p' N' c'] 87)).alloc (.cells #[.bool m2,.slice q M d,.bool false,.slice q' M' d'] 87)).alloc (.cells #[.bool false,.slice none 0 0,.bool false,.slice none 0 0] 87)=w1 at *
 refine aB (fun w'=>∃ x:aL (w.heap.size+1+1) w1.drew,w'=x.w) (fun j=>j == 2||j == 3||j == 4) (by kernel_rfl) (by kernel_rfl) ⟨⟨_,Ki _ _⟩,rfl⟩ ?_;have hBd:Below w1.heap.size w1 w1.drew:=(Ki _ _).drew;have s0:=(hBd.block _ (ak hl3.s0)).trans hl3.s0;have s1:=(hBd.block _ (ak hl3.s1)).trans hl3.s1;have s2:=(hBd.block _ (ak hl3.s2)).trans hl3.s2;have M1:=GF (hl3.below.trans (hBd.mono hl3.below.size));have hBz:=hl3.below.trans (hBd.mono hl3.below.size);have HN:=GF (hn.below hBz);have HD:=GF (hd.below hBz);have HN2:=GF (hn2.below hBz);have HD2:=GF (hd2.below hBz);have HLT:=GF (ak s2);clear hl3 hBd hBz hn hd hn2 hd2 ha hb;generalize w1.drew=wd at *
 have hB0:Below (w.heap.size+1+1) wd wd:=Ki _ _;have e0:=ai s0 0;have e1:=ai s0 1;have e2:=ai s0 2;have e3:=ai s0 3;have g0:=ai s1 0;have g1:=ai s1 1;have g2:=ai s1 2;have g3:=ai s1 3;have d0:=fun x:aL (w.heap.size+1+1) wd=>(x.h.cell (p:=⟨w.heap.size,0,none⟩) (by show w.heap.size<_;omega)).trans e0;have d1:=fun x:aL (w.heap.size+1+1) wd=>(x.h.cell (p:=⟨w.heap.size,1,none⟩) (by show w.heap.size<_;omega)).trans e1;have d2:=fun x:aL (w.heap.size+1+1) wd=>(x.h.cell (p:=⟨w.heap.size,2,none⟩) (by show w.heap.size<_;omega)).trans e2;have d3:=fun x:aL (w.heap.size+1+1) wd=>(x.h.cell (p:=⟨w.heap.size,3,none⟩) (by show w.heap.size<_;omega)).trans e3;have b0:=fun x:aL (w.heap.size+1+1) wd=>(x.h.cell (p:=⟨w.heap.size+1,0,none⟩) (by show w.heap.size+1<_;omega)).trans g0;have b1:=fun x:aL (w.heap.size+1+1) wd=>(x.h.cell (p:=⟨w.heap.size+1,1,none⟩) (by show w.heap.size+1<_;omega)).trans g1;have b2:=fun x:aL (w.heap.size+1+1) wd=>(x.h.cell (p:=⟨w.heap.size+1,2,none⟩) (by show w.heap.size+1<_;omega)).trans g2;have b3:=fun x:aL (w.heap.size+1+1) wd=>(x.h.cell (p:=⟨w.heap.size+1,3,none⟩) (by show w.heap.size+1<_;omega)).trans g3;clear e0 e1 e2 e3 g0 g1 g2 g3 s0 s1;have hle:w.heap.size+1+1<=wd.heap.size:=Ha HLT.out;have HA:=GF (HA0.out.below M1.out);have HB:=GF (HB0.out.below M1.out);refine aq 2 0 _ _ _ (by kernel_rfl) ?_;simp only[GP,GS,GQ,GR];repeat (go_big_quiet_step (fail))
 refine wpQuiet_nil ?_;refine ar rfl rfl (fun K hK=>?_);go_simp;refine (ug _ b wd HB.out).mono ?_;rintro e w2 ⟨v2,rfl,hz2,hb2⟩;obtain⟨y1,y2,y3,y4,y5,y6,y7,rfl⟩:=hz2.forms;refine hK _ _ ⟨⟨_,hb2.mono hle⟩,rfl⟩ ?_;clear hK K;try simp only[Act.put,GJ,GI,GH,GG,GL,GK]
 refine ar rfl rfl (fun K hK=>?_);go_simp;have hsb:Sz l (rt (-b)):=by rw[<-gy];exact hl.neg
 refine (g_ _ _ a (-b) k l w2 (HA.out.below hb2) hz2 hk hsb hkl).mono ?_;rintro e w4 ⟨v4,rfl,hv4,hb4⟩;have hB4:=hb2.trans (hb4.mono hb2.size);rw[<-Rat.sub_eq_add_neg] at hv4;refine hK _ _ ⟨⟨_,hB4.mono hle⟩,rfl⟩ ?_;clear hK K;try simp only[Act.put,GJ,GI,GH,GG,GL,GK]
 clear hz2 hb2 hb4;obtain⟨mo,po,No,co,po',No',co',rfl,ho,ho'⟩:=hv4.open;have u2:=(hB4.block _ HLT.out).trans s2;have hP:=bj (u0:=.bool mo) (u1:=.slice po No co) (u2:=.bool false) (u3:=.slice po' No' co') u2;have hZ:=GF (bV.puts (hv4) hP u2 bU);have hBF:=GF ((M1.out.trans (hB4.mono (GV (Ho _) (GV (Ho _) hle)))).trans (hP.below w.heap.size (by omega)));have hBG:=(hB4.mono hle).trans (hP.below (w.heap.size+1+1) (GM _));have q0:=ai u2 0;have q1:=ai u2 1;have q2:=ai u2 2;have q3:=ai u2 3;have f0:=Kg w4 (w.heap.size+1+1) 0 _ _ u2;have f1:=Kg w4 (w.heap.size+1+1) 1 _ _ u2;have f2:=Kg w4 (w.heap.size+1+1) 2 _ _ u2;have f3:=Kg w4 (w.heap.size+1+1) 3 _ _ u2;refine ar rfl rfl (fun K hK=>?_);go_simp;change K _ (d7 w4 (w.heap.size+1+1) (.bool mo) (.slice po No co) (.bool false) (.slice po' No' co'));refine hK undef _ ⟨⟨_,hBG⟩,rfl⟩ ?_;clear hK K d0 d1 d2 d3 b0 b1 b2 b3 q0 q1 q2 q3 f0 f1 f2 f3 hBG;try simp only[Act.put,GJ,GI,GH,GG,GL,GK]
 refine aH ?_;go_wp2_with fail
 (try simp only[Exit.inBlock,Exit.then])
 refine Kh (results_cell_row rfl _ _ (w.heap.size+1+1) _ _ (0,0) _ rfl hP.row Tryz.underlying87 rfl (by kernel_rfl)) rfl ?_;exact⟨_,rfl,hZ.out,hBF.out⟩
theorem DO (va:Value) (z:CQ) (w:World) (ha:IsV w va (ct z)) :
  Calls Tryz.prog 184 #[va] w fun e w'=>∃ v,e=.returned (.tuple #[v,.bool (decide (z.im=0))])/\IsV w' v (ct z)/\Below w.heap.size w w':=by
 obtain⟨a,b,c,d,e,f,rfl,hax,hay⟩:=id ha;obtain⟨xm,xp,xl,xc,xq,xk,xd,hxe⟩:=hax.form;obtain⟨ym,yp,yl,yc,yq,yk,yd,hye⟩:=hay.form;obtain⟨rfl,rfl,rfl⟩:=eU hxe;obtain⟨rfl,rfl,rfl⟩:=eU hye;clear hxe hye;go_enter Tryz.func184,Tryz.ntmps184;go_upto_region 1 with fail
 have q1:=cE.new w (.bool xm) (.slice xp xl xc) (.slice xq xk xd) (.bool ym) (.slice yp yl yc) (.slice yq yk yd) 110;have m1:=au w (.cells #[.bool xm,.slice xp xl xc,.slice xq xk xd,.bool ym,.slice yp yl yc,.slice yq yk yd] 110);have z1:=size_alloc w (.cells #[.bool xm,.slice xp xl xc,.slice xq xk xd,.bool ym,.slice yp yl yc,.slice yq yk yd] 110);generalize w.alloc (.cells #[.bool xm,.slice xp xl xc,.slice xq xk xd,.bool ym,.slice yp yl yc,.slice yq yk yd] 110)=w1 at *
 have q3:=dj.new w1 (.bool false) (.slice none 0 0) (.slice none 0 0) (.bool false) (.slice none 0 0) (.slice none 0 0) nofun nofun nofun nofun nofun nofun;have m3:=au w1 (.cells #[.bool false,.slice none 0 0,.slice none 0 0,.bool false,.slice none 0 0,.slice none 0 0] 110);generalize w1.alloc (.cells #[.bool false,.slice none 0 0,.slice none 0 0,.bool false,.slice none 0 0,.slice none 0 0] 110)=w3 at *
 have m4:Below w3.heap.size w3 w3.drew:=(Ki _ _).drew;rw[z1] at q3;refine aB (fun w'=>∃ x:aL (w.heap.size+1) w3.drew,w'=x.w) (fun i=>i == 2||i == 3) (by kernel_rfl) (by kernel_rfl) ⟨⟨_,Ki _ _⟩,rfl⟩ ?_;generalize w3.drew=wd at *
 have hB0:Below wd.heap.size wd wd:=Ki _ _;have M13:=m1.trans (m3.mono m1.size);have MD:=GF (M13.trans (m4.mono M13.size));have B1:=(q1.below m3).below m4;have B3:=GF (q3.below m4);have hz:w.heap.size+1<=wd.heap.size:=by have:=B3.out.lt;omega
 have e1:=fun x:aL (w.heap.size+1) wd=>B1.at x.h (by omega);have a0:=fun x=>(e1 x).c0;have a01:=fun x=>(e1 x).c1;have a02:=fun x=>(e1 x).c2;have a03:=fun x=>(e1 x).c3;have a04:=fun x=>(e1 x).c4;have a05:=fun x=>(e1 x).c5;have HAX:=GF (hax.below MD.out);have HAY:=GF (hay.below MD.out);have HV:=GF (ha.below MD.out);clear e1 q1 q3 m1 m3 m4 z1 M13 hax hay B1 ha hB0;refine aq 2 0 _ _ _ (by kernel_rfl) ?_;simp only[GP,GS,GQ,GR];repeat (go_big_quiet_step (fail))
 refine wpQuiet_nil ?_;refine ar rfl rfl (fun K hK=>?_);go_simp;refine (eW _ _ wd HV.out).mono ?_;rintro e w4 ⟨rfl,hb4⟩;refine hK _ _ ⟨⟨_,hb4.mono hz⟩,rfl⟩ ?_;clear hK K;try simp only[Act.put,GJ,GI,GH,GG,GL,GK]
 have B8:=B3.out.below hb4;have k0:=B8.cell 0;have k1:=B8.cell 1;have k2:=B8.cell 2;have k3:=B8.cell 3;have k4:=B8.cell 4;have k5:=B8.cell 5;have f0:=B8.fr 0;have f1:=B8.fr 1;have f2:=B8.fr 2;have f3:=B8.fr 3;have f4:=B8.fr 4;have f5:=B8.fr 5;have P:=GF (B8.putV (HAX.out.below hb4) (HAY.out.below hb4));refine ar rfl rfl (fun K hK=>?_);go_simp;refine hK undef _ ⟨⟨_,P.out.2.2 _ _ (hb4.mono hz) (by omega)⟩,rfl⟩ ?_;clear hK K;try simp only[Act.put,GJ,GI,GH,GG,GL,GK]
 refine aq 1 4 _ _ _ (by kernel_rfl) ?_;simp only[GP,GS,GQ,GR];repeat (go_big_quiet_step (fail))
 refine wpQuiet_nil ?_;refine aH ?_;have M8:=GF (P.out.2.2 _ _ (MD.out.trans (hb4.mono MD.out.size)) (by omega))
 have HD:=GF (show decide ((ct z).y.n=0)=decide (z.im=0) by
  have h:=bk z.im
  show decide ((rt z.im).n=0)=_
  simp only[h])
 obtain⟨bb,hbb⟩:∃ bb,bb=decide (z.im=0):=⟨_,rfl⟩;rw[HD.out,<-hbb];have HBB:=GF hbb;clear hbb;clear B8 k0 k1 k2 k3 k4 k5 f0 f1 f2 f3 f4 f5;go_wp2_with fail
 have q0:=P.out.1.cell 0;have q1:=P.out.1.cell 1;have q2:=P.out.1.cell 2;have q3:=P.out.1.cell 3;have q4:=P.out.1.cell 4;have q5:=P.out.1.cell 5;refine Kh (v:=.tuple #[.agg #[.bool xm,.slice xp xl xc,.slice xq xk xd,.bool ym,.slice yp yl yc,.slice yq yk yd],.bool bb]) (by simp[results,Tryz.results184,go_sem,eC] at q0 q1 q2 q3 q4 q5 |-;simp[results,Tryz.results184,go_sem,q0,q1,q2,q3,q4,q5]) rfl ⟨_,by rw[HBB.out],P.out.2.1,M8.out⟩
def ki (zs:List CQ):Bool:=zs.all fun z=>decide (z.im=0)
theorem AH (v:Value) (zs:List CQ) (w:World) (hl:IsP w v zs) (hlen:zs.length<1000000) :
  Calls Tryz.prog 183 #[v,.func (.func 184) #[] #[]] w fun e w'=>∃ v',e=.returned (.tuple #[v',.bool (ki zs)])/\Below w.heap.size w w':=by
 obtain⟨p,c,rfl,-⟩:=id hl.form;have HL:=GF hl;clear hl;go_enter Tryz.func183,Tryz.ntmps183;go_wp2;go_loopw [6,13] (fun s6 s13 wr=>∃ i:Nat,s13=.int .i64 i/\i<=zs.length/\dV wr w.heap.size s6 (zs.take i)/\Below w.heap.size w wr/\Hid (ki (zs.take i)=true)) (fun _ s13 _=>zs.length-(intOf s13).toNat)
 case atStart=>exact⟨0,rfl,GY _,dV.nil _ _,Ki _ _,rfl⟩
 case round =>
  obtain⟨i,rfl,hin,hown,hbr,hall⟩:=hrel;by_cases hi:i<zs.length
  ·obtain⟨B,o,rfl,hlt,xm,xp,xl,xc,xq,xk,xd,ym,yp,yl,yc,yq,yk,yd,hk,a0,a1,a2,a3,a4,a5⟩:=(HL.out.below hbr).get hi;have HT:=GF (show zs.take (i+1)=zs.take i++[zs[i]] from (GZ hi).symm)
   have HO:=GF (show ki (zs.take (i+1))=decide (zs[i].im=0) by
    unfold ki at hall |-
    rw[<-GZ hi,IF,hall.out];simp)
   have HX:=GF (show zs[i].im≠0->ki zs=false from fun h=>by
    unfold ki;rw[Je]
    exact⟨zs[i],G7 hi,by simpa using h⟩)
   generalize zs[i]=z at hk HT HO HX;have HV:=GF hown;have HK:=GF hk;clear hown hk hall;go_upto_region 5 with fail
   have q2:=cE.new wr (.bool xm) (.slice xp xl xc) (.slice xq xk xd) (.bool ym) (.slice yp yl yc) (.slice yq yk yd) 110;have m2:=au wr (.cells #[.bool xm,.slice xp xl xc,.slice xq xk xd,.bool ym,.slice yp yl yc,.slice yq yk yd] 110);generalize wr.alloc (.cells #[.bool xm,.slice xp xl xc,.slice xq xk xd,.bool ym,.slice yp yl yc,.slice yq yk yd] 110)=w2 at *
   have b0:=q2.c0;have b1:=q2.c1;have b2:=q2.c2;have b3:=q2.c3;have b4:=q2.c4;have b5:=q2.c5;have hB2:=hbr.trans (m2.mono hbr.size);have HV2:=GF (HV.out.below m2);have HK2:=GF (HK.out.below m2);clear a0 a1 a2 a3 a4 a5 m2 q2 HV HK hbr;go_wp2_with fail
   refine (DO _ z w2 HK2.out.v).mono ?_;rintro e w3 ⟨v3,rfl,hv3,hb3⟩;have hB3:=hB2.trans (hb3.mono hB2.size);have hk3:IsK w3 v3 z:=⟨hv3,HK2.out.s⟩;obtain⟨sm,sp,sl,sc,sq,sk,sd,tm,tp,tl,tc,tq',tk,td,rfl⟩:=hk3.forms;have HV3:=GF (HV2.out.below hb3);clear b0 b1 b2 b3 b4 b5 hb3 hB2 HV2 HK2 hv3;by_cases hz:z.im=0
   ·have hd:decide (z.im=0)=true:=decide_eq_true hz;have HO:=GF (show ki (zs.take (i+1))=true by rw[HO.out,hd]);rw[hd];clear hz hd HX;go_upto_region 6 with fail
    have q4:=cE.new w3 (.bool sm) (.slice sp sl sc) (.slice sq sk sd) (.bool tm) (.slice tp tl tc) (.slice tq' tk td) 110;have m4:=au w3 (.cells #[.bool sm,.slice sp sl sc,.slice sq sk sd,.bool tm,.slice tp tl tc,.slice tq' tk td] 110);generalize w3.alloc (.cells #[.bool sm,.slice sp sl sc,.slice sq sk sd,.bool tm,.slice tp tl tc,.slice tq' tk td] 110)=w4 at *
    have b0:=q4.c0;have b1:=q4.c1;have b2:=q4.c2;have b3:=q4.c3;have b4:=q4.c4;have b5:=q4.c5;have hB4:=hB3.trans (m4.mono hB3.size);have hw4:=HV3.out.below m4;have hk4:=hk3.below m4;have hbs:=hB4.size;have hzl:(zs.take i).length<1000000000:=by rw[Hd];omega
    clear q4 m4 hk3 HV3 hB3;go_wp2_with (at_builtin;refine eT 142 Tryz.underlying142 rfl (.tmp 25) (.tmp 27) rfl w.heap.size _ _ _ _ _ _ _ _ _ rfl hw4 hk4 rfl hzl hbs ?_)
    intro v' w5 hw5 hb5 _;have hB5:=hb5 _ _ hB4 (GM _);rw[<-HT.out] at hw5;clear hw4 hk4 hb5 hB4 b0 b1 b2 b3 b4 b5;go_wp2;go_roundw;case rel=>exact⟨i+1,by go_num,by omega,hw5,hB5,HO.out⟩
    case measure=>simp[intOf]<;>omega
   ·have hd:decide (z.im=0)=false:=decide_eq_false hz;have HE:=GF (HX.out hz);rw[hd];clear hz hd HX HO HT;go_wp2;refine Kh (v:=.tuple #[.slice none 0 0,.bool false]) (by simp[results,Tryz.results183,go_sem]) rfl ⟨_,by rw[HE.out],hB3.trans ((au w3 _).mono hB3.size)⟩
  ·have hin':i=zs.length:=by omega
   subst hin';have HO:=GF (show ki zs=true by have h:=hall.out;rwa [He] at h);clear hown hi hall;go_wp2;refine Kh (v:=.tuple #[u6,.bool true]) (by simp[results,Tryz.results183,go_sem]) rfl ⟨_,by rw[HO.out],hbr⟩
end Go.Proofs.YtmakbmhlemhgeaaGreatDoor
