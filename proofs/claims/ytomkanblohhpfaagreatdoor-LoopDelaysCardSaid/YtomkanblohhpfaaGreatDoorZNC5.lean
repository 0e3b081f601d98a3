/- Lemmas of this claim. -/
import Derived.Laws.Cover3
import Derived.Test.YtomkanblohhpfaaGreatDoorZVec2
set_option linter.all false
set_option maxRecDepth 100000
set_option maxHeartbeats 8000000
namespace Go.Proofs.YtomkanblohhpfaaGreatDoor
open Go.RowKit Dg
def dw:List ByteArray→Option (List CQ)
 | []=>some []
 | s :: l=>match el s,dw l with
  | some z,some zs=>some (z :: zs)
  | _,_=>none
theorem ql {l:List ByteArray}{s:ByteArray}:dw (l++[s])=match dw l,el s with | some zs,some z=>some (zs++[z]) | _,_=>none:=by
 induction l with
 | nil=>simp only[x9,dw];cases el s<;>rfl
 | cons a l ih =>
  simp only[x_,dw,ih]
  cases el a<;>cases dw l<;>cases el s<;>rfl
theorem qm {l:List ByteArray}{i:Nat} (hi:i<l.length):dw (l.take (i+1))=match dw (l.take i),el l[i] with | some zs,some z=>some (zs++[z]) | _,_=>none:=by
 rw[show l.take (i+1)=l.take i++[l[i]] from (xG hi).symm,ql]
theorem rT {l:List ByteArray}{i:Nat} (hi:i<l.length) (h:el l[i]=none):dw l=none:=by
 induction l generalizing i with
 | nil=>simp at hi
 | cons a l ih =>
  cases i with
  | zero =>
   simp only[xt] at h
   simp only[dw,h]
  | succ i =>
   have:=ih (i:=i) (by simpa using hi) (by simpa using h)
   simp only[dw,this]
   cases el a<;>rfl
theorem dU:∀ {l:List ByteArray}{zs:List CQ},dw l=some zs→zs.length=l.length
 | [],zs,h=>by cases h;rfl
 | a :: l,zs,h=>by
  simp only[dw] at h
  cases ha:el a with
  | none=>rw[ha] at h;cases h
  | some z =>
   cases hl:dw l with
   | none=>rw[ha,hl] at h;cases h
   | some ys =>
    rw[ha,hl] at h
    cases h
    simp[dU hl]
theorem rU (v:Value) (l:List ByteArray) (w:World) (hl:IsS w v l) (hlen:l.length<1000000000) (hG:Gw w) :
  Calls Tryz.prog 108 #[v,.func (.func 99) #[] #[]] w fun e w'=>∃ v' ok,e=.returned (.tuple #[v',.bool ok])∧((∃ zs,dw l=some zs∧ok=true∧IsP w' v' zs)∨(dw l=none∧ok=false∧v'=.slice none 0 0))∧Below w.heap.size w w':=by
 obtain⟨p,c,rfl,hc1,hc2⟩:=hl.form
 have HL:=xo hl
 have HG:=xo hG
 clear hl hG
 go_enter Tryz.func108,Tryz.ntmps108
 go_wp2
 go_loopw [6,13] (fun s6 s13 wr=>∃ (i:Nat) (zs:List CQ),s13=.int .i64 i∧i≤l.length∧bZ wr w.heap.size s6 zs∧Below w.heap.size w wr∧Hid (dw (l.take i)=some zs)) (fun _ s13 _=>l.length-(intOf s13).toNat)
 case atStart=>exact⟨0,[],rfl,xJ _,bZ.nil _ _,Below.refl _ _,rfl⟩
 case round =>
  obtain⟨i,zs,rfl,hin,hown,hbr,hall⟩:=hrel
  by_cases hi:i<l.length
  ·obtain⟨b,o,rfl,hbl,hcell⟩:=(HL.out.below hbr).get hi
   obtain⟨s,hs⟩:∃ s,s=l[i]:=⟨_,rfl⟩
   rw[←hs] at hcell
   have HS:=xo hs
   clear hs
   go_wp2_with fail
   refine (gp s wr (HG.out.below hbr)).mono ?_
   rintro e w1 ⟨v1,ok,rfl,hcase,hb1⟩
   have hB1:=hbr.trans (hb1.mono hbr.size)
   rcases hcase with ⟨z,hz,rfl,hv⟩ | ⟨hz,rfl,rfl⟩
   ·obtain⟨q,rfl,hp1,hp2,-,-⟩:=fg hz
    have hk:IsK w1 v1 q:=⟨hv,hp2.mono (by decide)⟩
    have hstep:dw (l.take (i+1))=some (zs++[q]):=by rw[qm hi,hall.out,←HS.out,hp1]
    have HT:=xo hstep
    obtain⟨xm,xp,xl,xc,xq,xk,xd,ym,yp,yl,yc,yq,yk,yd,rfl⟩:=hk.forms
    have hw1:=hown.below hb1
    clear hz hv hp1 hp2 hstep hown hb1 hbr hcell hall
    go_upto_region 6 with fail
    have q1:=aV.new w1 (.bool xm) (.slice xp xl xc) (.slice xq xk xd) (.bool ym) (.slice yp yl yc) (.slice yq yk yd) 83
    have m1:=ac w1 (.cells #[.bool xm,.slice xp xl xc,.slice xq xk xd,.bool ym,.slice yp yl yc,.slice yq yk yd] 83)
    generalize w1.alloc (.cells #[.bool xm,.slice xp xl xc,.slice xq xk xd,.bool ym,.slice yp yl yc,.slice yq yk yd] 83)=w2 at *
    have a0:=q1.c0;have a1:=q1.c1;have a2:=q1.c2;have a3:=q1.c3;have a4:=q1.c4;have a5:=q1.c5
    have hB2:=hB1.trans (m1.mono hB1.size)
    have hk2:=hk.below m1
    have hw2:=hw1.below m1
    have hbs:=hB2.size
    have hzl:zs.length<1000000000:=by have:=dU HT.out;simp at this;omega
    clear q1 m1 hB1 hk hw1
    go_wp2_with (at_builtin;refine cH 126 Tryz.underlying126 rfl (.tmp 25) (.tmp 27) rfl w.heap.size _ zs _ _ _ _ _ _ q rfl hw2 hk2 rfl hzl hbs ?_)
    intro v' w3 hw3 hb3 _
    have hB3:=hb3 _ _ hB2 (xy _)
    clear hw2 hk2 hb3 hB2 a0 a1 a2 a3 a4 a5
    go_wp2
    go_roundw
    case rel=>exact⟨i+1,zs++[q],by go_num,by omega,hw3,hB3,HT.out⟩
    case measure=>simp[intOf];omega
   ·have hbad:dw l=none:=rT hi (by rw[←HS.out];exact dR hz)
    have HT:=xo hbad
    clear hz hbad hcell hown
    unfold eC
    go_wp2
    refine bodyPost_ret (v:=.tuple #[.slice none 0 0,.bool false]) (by simp[results,Tryz.results108,go_sem]) rfl ⟨_,_,rfl,Or.inr ⟨HT.out,rfl,rfl⟩,hB1.trans ((ac w1 _).mono hB1.size)⟩
  ·have hin':i=l.length:=by omega
   subst hin'
   clear hi
   have hp:=hown.isP
   have HT:=hall.out
   rw[xP] at HT
   go_wp2
   refine bodyPost_ret (v:=.tuple #[_,.bool true]) (by simp[results,Tryz.results108,go_sem]) rfl ⟨_,_,rfl,Or.inl ⟨zs,HT,rfl,hp⟩,hbr⟩
theorem uT (v:Value) (z:CQ) (w:World) (hk:IsK w v z) :
  Calls Tryz.prog 110 #[v] w fun e w'=>∃ u,e=.returned (.tuple #[u,.bool (decide (z.im=0))])∧IsQ w' u z.re∧Below w.heap.size w w':=by
 obtain⟨a,b,c,d,e,f,rfl,hax,hay⟩:=id hk.v
 go_enter Tryz.func110,Tryz.ntmps110
 go_upto_region 1 with fail
 have q1:=aV.new w a b c d e f 83
 have m1:=ac w (.cells #[a,b,c,d,e,f] 83)
 have z1:=size_alloc w (.cells #[a,b,c,d,e,f] 83)
 generalize w.alloc (.cells #[a,b,c,d,e,f] 83)=w1 at *
 have q3:=aY.new w1 (.bool false) (.slice none 0 0) (.slice none 0 0) (by intro z e;cases e) (by intro z e;cases e) (by intro z e;cases e)
 have m3:=ac w1 (.cells #[.bool false,.slice none 0 0,.slice none 0 0] 79)
 generalize w1.alloc (.cells #[.bool false,.slice none 0 0,.slice none 0 0] 79)=w3 at *
 have m4:Below w3.heap.size w3 w3.drew:=(Below.refl _ _).drew
 rw[z1] at q3
 refine aj (fun w'=>∃ x:aA (w.heap.size+1) w3.drew,w'=x.w) (fun i=>i == 3||i == 4) (by kernel_rfl) (by kernel_rfl) ⟨⟨_,Below.refl _ _⟩,rfl⟩ ?_
 generalize w3.drew=wd at *
 have hB0:Below wd.heap.size wd wd:=Below.refl _ _
 have M13:=m1.trans (m3.mono m1.size)
 have MD:=xo (M13.trans (m4.mono M13.size))
 have B1:=(q1.below m3).below m4
 have B3:=xo (q3.below m4)
 have hz:w.heap.size+1≤wd.heap.size:=by have:=B3.out.lt;omega
 have e1:=fun x:aA (w.heap.size+1) wd=>B1.at x.h (by omega)
 have a0:=fun x=>(e1 x).c0;have a01:=fun x=>(e1 x).c1;have a02:=fun x=>(e1 x).c2;have a03:=fun x=>(e1 x).c3;have a04:=fun x=>(e1 x).c4;have a05:=fun x=>(e1 x).c5
 have HK:=xo (hk.below MD.out)
 have HX:=xo (hax.below MD.out)
 clear e1 q1 q3 m1 m3 m4 z1 M13 hax hay B1 hk
 refine ae 3 0 _ _ _ (by kernel_rfl) ?_
 simp only[xA,xE,xz,xD]
 repeat (go_big_quiet_step (fail))
 refine wpQuiet_nil ?_
 refine ag rfl rfl (fun K hK=>?_)
 go_simp
 refine (cK _ _ _ HK.out.v).mono ?_
 rintro e w4 ⟨rfl,hb4⟩
 refine hK _ _ ⟨⟨_,(hb4).mono hz⟩,rfl⟩ ?_
 clear hK K
 try simp only[Act.put,xv,xu,xt,xr,xw,xx]
 have hv4:=HX.out.below hb4
 obtain⟨xm,xp,xl,xc,xq,xk,xd,hxe⟩:=hv4.form
 obtain⟨rfl,rfl,rfl⟩:a=.bool xm∧b=.slice xp xl xc∧c=.slice xq xk xd:=by simpa using hxe
 clear hxe
 have B8:=B3.out.below hb4
 have k0:=B8.c0;have k1:=B8.c1;have k2:=B8.c2
 have f0:=B8.fr 0;have f1:=B8.fr 1;have f2:=B8.fr 2
 have P:=xo (B8.putR hv4)
 refine ag rfl rfl (fun K hK=>?_)
 go_simp
 refine hK undef _ ⟨⟨_,P.out.2.2 _ _ (hb4.mono hz) (xy _)⟩,rfl⟩ ?_
 clear hK K
 try simp only[Act.put,xv,xu,xt,xr,xw,xx]
 refine ae 1 5 _ _ _ (by kernel_rfl) ?_
 simp only[xA,xE,xz,xD]
 repeat (go_big_quiet_step (fail))
 refine wpQuiet_nil ?_
 refine aw ?_
 have M8:=xo (P.out.2.2 _ w (MD.out.trans (hb4.mono MD.out.size)) (by omega))
 have HS:=xo HK.out.s.x
 have hd:decide ((ct z).y.n=0)=decide (z.im=0):=by show decide ((rt z.im).n=0)=_;simp only[aW]
 have HD:=xo hd
 clear hd
 go_wp2_with fail
 have q0:=P.out.1.c0;have q1:=P.out.1.c1;have q2:=P.out.1.c2
 refine bodyPost_ret (v:=.tuple #[.agg #[.bool xm,.slice xp xl xc,.slice xq xk xd],.bool (decide ((ct z).y.n=0))]) (by simp[nn] at q0 q1 q2 ⊢;simp[results,Tryz.results110,go_sem,q0,q1,q2]) rfl ⟨_,by rw[HD.out],⟨P.out.2.1,HS.out⟩,M8.out⟩
def fU (zs:List CQ):Option (List Rat):=if zs.all (fun z=>decide (z.im=0)) then some (zs.map CQ.re) else none
theorem ut (v:Value) (zs:List CQ) (w:World) (hl:IsP w v zs) (hlen:zs.length<1000000000) :
  Calls Tryz.prog 109 #[v,.func (.func 110) #[] #[]] w fun e w'=>∃ v' ok,e=.returned (.tuple #[v',.bool ok])∧((∃ qs,fU zs=some qs∧ok=true∧IsL w' v' qs)∨(fU zs=none∧ok=false∧v'=.slice none 0 0))∧Below w.heap.size w w':=by
 obtain⟨p,c,rfl,hc1,hc2⟩:=hl.form
 have HL:=xo hl
 clear hl
 go_enter Tryz.func109,Tryz.ntmps109
 go_wp2
 go_loopw [6,13] (fun s6 s13 wr=>∃ (i:Nat),s13=.int .i64 i∧i≤zs.length∧jC wr w.heap.size s6 ((zs.map CQ.re).take i)∧Below w.heap.size w wr∧Hid ((zs.take i).all (fun z=>decide (z.im=0))=true)) (fun _ s13 _=>zs.length-(intOf s13).toNat)
 case atStart=>exact⟨0,rfl,xJ _,jC.nil _ _,Below.refl _ _,rfl⟩
 case round =>
  obtain⟨i,rfl,hin,hown,hbr,hall⟩:=hrel
  by_cases hi:i<zs.length
  ·obtain⟨b,o,rfl,hbl,xm,xp,xl,xc,xq,xk,xd,ym,yp,yl,yc,yq,yk,yd,hk,c0,c1,c2,c3,c4,c5⟩:=(HL.out.below hbr).get hi
   obtain⟨z,hz⟩:∃ z,z=zs[i]:=⟨_,rfl⟩
   rw[←hz] at hk
   have HZ:=xo hz
   clear hz
   go_upto_region 5 with fail
   have q1:=aV.new wr (.bool xm) (.slice xp xl xc) (.slice xq xk xd) (.bool ym) (.slice yp yl yc) (.slice yq yk yd) 83
   have m1:=ac wr (.cells #[.bool xm,.slice xp xl xc,.slice xq xk xd,.bool ym,.slice yp yl yc,.slice yq yk yd] 83)
   generalize wr.alloc (.cells #[.bool xm,.slice xp xl xc,.slice xq xk xd,.bool ym,.slice yp yl yc,.slice yq yk yd] 83)=w2 at *
   have a0:=q1.c0;have a1:=q1.c1;have a2:=q1.c2;have a3:=q1.c3;have a4:=q1.c4;have a5:=q1.c5
   have hB2:=hbr.trans (m1.mono hbr.size)
   have hk2:=hk.below m1
   have hw2:=hown.below m1
   clear q1 m1 hbr hk hown c0 c1 c2 c3 c4 c5
   go_wp2_with fail
   refine (uT _ z w2 hk2).mono ?_
   rintro e w3 ⟨u,rfl,hu,hb3⟩
   have hB3:=hB2.trans (hb3.mono hB2.size)
   have hw3:=hw2.below hb3
   obtain⟨um,up,ul,uc,uq,uk,ud,rfl⟩:=hu.forms
   clear hb3 hB2 hk2 hw2 a0 a1 a2 a3 a4 a5
   by_cases him:z.im=0
   ·have hstep:(zs.take (i+1)).all (fun z=>decide (z.im=0))=true:=by
     rw[show zs.take (i+1)=zs.take i++[zs[i]] from (xG hi).symm,yK,hall.out,←HZ.out]
     simp[him]
    have hmap:(zs.map CQ.re).take (i+1)=(zs.map CQ.re).take i++[z.re]:=by
     rw[show (zs.map CQ.re).take (i+1)=(zs.map CQ.re).take i++[(zs.map CQ.re)[i]'(by simpa using hi)] from (xG _).symm,yG,←HZ.out]
    have HT:=xo hstep
    have HM:=xo hmap
    rw[decide_eq_true him]
    clear hstep hmap him hall
    go_upto_region 6 with fail
    have q1:=aY.new w3 (.bool um) (.slice up ul uc) (.slice uq uk ud) (by intro z e;cases e) (by intro z e;cases e) (by intro z e;cases e)
    have m1:=ac w3 (.cells #[.bool um,.slice up ul uc,.slice uq uk ud] 79)
    generalize w3.alloc (.cells #[.bool um,.slice up ul uc,.slice uq uk ud] 79)=w4 at *
    have a0:=q1.c0;have a1:=q1.c1;have a2:=q1.c2
    have hB4:=hB3.trans (m1.mono hB3.size)
    have hu4:=hu.below m1
    have hw4:=hw3.below m1
    have hbs:=hB4.size
    have hzl:((zs.map CQ.re).take i).length<1000000000:=by simp;omega
    clear q1 m1 hB3 hu hw3
    go_wp2_with (at_builtin;refine jt 102 Tryz.underlying102 rfl (.tmp 25) (.tmp 27) rfl w.heap.size _ _ _ _ _ z.re rfl hw4 hu4 rfl hzl hbs ?_)
    intro v' w5 hw5 hb5 _
    have hB5:=hb5 _ _ hB4 (xy _)
    rw[←HM.out] at hw5
    clear hw4 hu4 hb5 hB4 a0 a1 a2
    go_wp2
    go_roundw
    case rel=>exact⟨i+1,by go_num,by omega,hw5,hB5,HT.out⟩
    case measure=>simp[intOf];omega
   ·have hbad:fU zs=none:=by
     unfold fU
     rw[if_neg]
     rw[Bool.not_eq_true,zb]
     exact⟨zs[i],xK hi,by rw[←HZ.out];simpa using him⟩
    have HT:=xo hbad
    rw[decide_eq_false him]
    clear hbad him hall hw3
    go_wp2
    refine bodyPost_ret (v:=.tuple #[.slice none 0 0,.bool false]) (by simp[results,Tryz.results109,go_sem]) rfl ⟨_,_,rfl,Or.inr ⟨HT.out,rfl,rfl⟩,hB3.trans ((ac w3 _).mono hB3.size)⟩
  ·have hin':i=zs.length:=by omega
   subst hin'
   clear hi
   have hp:=hown.isL
   have HT:=hall.out
   rw[xP] at HT
   rw[show zs.length=(zs.map CQ.re).length by simp,xP] at hp
   go_wp2
   refine bodyPost_ret (v:=.tuple #[_,.bool true]) (by simp[results,Tryz.results109,go_sem]) rfl ⟨_,_,rfl,Or.inl ⟨zs.map CQ.re,by unfold fU;rw[if_pos HT],rfl,hp⟩,hbr⟩
def dF (l:List ByteArray):Except Int (List Rat) :=
 match dw l with
 | none=>.error 10
 | some zs=>match fU zs with
  | none=>.error 13
  | some qs=>.ok qs
def qi (l:List ByteArray) (w:World) (e:Ending) (w':World):Prop :=
 ∃ v err,e=.returned (.tuple #[v,.int .i64 err])∧((∃ qs,dF l=.ok qs∧err=0∧IsL w' v qs)∨(dF l=.error err∧err≠0∧v=.slice none 0 0))∧Below w.heap.size w w'
theorem tC (v:Value) (l:List ByteArray) (w:World) (hl:IsS w v l) (hlen:l.length<1000000000) (hG:Gw w) :
  Calls Tryz.prog 67 #[v] w (qi l w):=by
 obtain⟨p,c,rfl,-⟩:=id hl.form
 have HA:=xo (rU _ l w hl hlen hG)
 go_enter Tryz.func67,Tryz.ntmps67
 go_wp2_with fail
 refine HA.out.mono ?_
 rintro e w1 ⟨v1,ok,rfl,hcase,hb1⟩
 rcases hcase with ⟨zs,hz,rfl,hp⟩ | ⟨hz,rfl,rfl⟩
 ·obtain⟨p1,c1,rfl,-⟩:=id hp.form
  have hzl:zs.length<1000000000:=by rw[dU hz];exact hlen
  have HB:=xo (ut _ zs w1 hp hzl)
  have HZ:=xo hz
  clear hz hp
  go_wp2_with fail
  refine HB.out.mono ?_
  rintro e w2 ⟨v2,ok,rfl,hcase,hb2⟩
  rcases hcase with ⟨qs,hq,rfl,hp⟩ | ⟨hq,rfl,rfl⟩
  ·obtain⟨p2,c2,rfl,-⟩:=id hp.form
   have HQ:=xo hq
   clear hq
   go_wp2
   refine bodyPost_ret (v:=.tuple #[.slice p2 qs.length c2,.int .i64 0]) (by simp[results,Tryz.results67,go_sem]) rfl ⟨_,_,rfl,Or.inl ⟨qs,by unfold dF;rw[HZ.out];simp only;rw[HQ.out],rfl,hp⟩,hb1.trans (hb2.mono hb1.size)⟩
  ·have HQ:=xo hq
   clear hq
   go_wp2
   refine bodyPost_ret (v:=.tuple #[.slice none 0 0,.int .i64 13]) (by simp[results,Tryz.results67,go_sem]) rfl ⟨_,_,rfl,Or.inr ⟨by unfold dF;rw[HZ.out];simp only;rw[HQ.out],by decide,rfl⟩,hb1.trans (hb2.mono hb1.size)⟩
 ·have HZ:=xo hz
  clear hz
  go_wp2
  refine bodyPost_ret (v:=.tuple #[.slice none 0 0,.int .i64 10]) (by simp[results,Tryz.results67,go_sem]) rfl ⟨_,_,rfl,Or.inr ⟨by unfold dF;rw[HZ.out],by decide,rfl⟩,hb1⟩
def nQ (s t:ByteArray):Int×Int:=match dF [s,t] with
 | .ok [x,y]=>(ii x y,0)
 | .ok _=>(0,0)
 | .error e=>(0,e)
theorem oC {s t:ByteArray}{qs:List Rat} (h:dF [s,t]=.ok qs):∃ x y,qs=[x,y]:=by
 unfold dF at h
 cases ha:dw [s,t] with
 | none=>rw[ha] at h;cases h
 | some zs =>
  rw[ha] at h
  simp only at h
  have hl:=dU ha
  cases hr:fU zs with
  | none=>rw[hr] at h;cases h
  | some ys =>
   rw[hr] at h
   simp only[Except.ok.injEq] at h
   subst h
   unfold fU at hr
   split at hr
   ·cases hr
    match zs,hl with
    | [a,b],_=>exact⟨a.re,b.re,rfl⟩
   ·cases hr
theorem IsS.two (w:World) (s t:ByteArray):IsS (w.alloc (.cells #[.string s,.string t] 31)) (.slice (some ⟨w.heap.size,0,none⟩) 2 2) [s,t]:=by
 refine⟨some ⟨w.heap.size,0,none⟩,2,rfl,by simp,by simp[maxLen],fun _=>⟨w.heap.size,0,rfl,by rw[size_alloc];omega,?_⟩⟩
 intro i hi j u hu
 match i,hi with
 | 0,_ =>
  match j,hu with
  | 0,hu=>simp[cellsOf] at hu;subst hu;exact ap w _ _ 0 _ rfl
 | 1,_ =>
  match j,hu with
  | 0,hu=>simp[cellsOf] at hu;subst hu;exact ap w _ _ 1 _ rfl
theorem aa {w w':World}{B b:Nat} (h:Below B w w') (hb:b<B) {o:Nat}{v:Value} (hc:w.cell? ⟨b,o,none⟩=some v):w'.cell? ⟨b,o,none⟩=some v:=(h.cell (p:=⟨b,o,none⟩) hb).trans hc
theorem wj (s t:ByteArray) (w:World) (hG:Gw w) :
  Calls Tryz.prog 26 #[.string s,.string t] w fun e w'=>e=.returned (.tuple #[.int .i64 (nQ s t).1,.int .i64 (nQ s t).2])∧Below w.heap.size w w':=by
 have hl:=IsS.two w s t
 have m1:=ac w (.cells #[.string s,.string t] 31)
 have HA:=xo (tC _ [s,t] _ hl (by simp) (hG.below m1))
 have M1:=xo m1
 clear hl m1
 go_enter Tryz.func26,Tryz.ntmps26
 go_wp2_with fail
 refine HA.out.mono ?_
 rintro e w1 ⟨v1,err,rfl,hcase,hb1⟩
 have MB:=xo (M1.out.trans (hb1.mono M1.out.size))
 rcases hcase with ⟨qs,hq,rfl,hp⟩ | ⟨hq,hne,rfl⟩
 ·obtain⟨x,y,rfl⟩:=oC hq
  have hc:nQ s t=(ii x y,0):=by unfold nQ;rw[hq]
  have HC:=xo hc
  obtain⟨p1,c1,rfl,-⟩:=id hp.form
  obtain⟨b,o,rfl,hbl,xm,xp,xl,xc,xq,xk,xd,hx,c0,c1',c2⟩:=hp.get (i:=0) (by simp)
  obtain⟨b',o',he,hbl',ym,yp,yl,yc,yq,yk,yd,hy,d0,d1,d2⟩:=hp.get (i:=1) (by simp)
  obtain⟨rfl,rfl⟩:b=b'∧o=o':=by simpa using he
  clear he hbl' hc hq hb1
  simp only[xt,xu,yQ,x7,Ah] at hx hy c0 c1' c2 d0 d1 d2
  go_upto_region 4 with fail
  have m4:Below w1.heap.size w1 w1.drew:=(Below.refl _ _).drew
  have hcmp:=xo (jL _ _ _ _ _ (hx.v.below m4) (hy.v.below m4) (da x) (da y) (hx.s.fewR hy.s (by decide)).f1 (hx.s.fewR hy.s (by decide)).f2 (hx.s.fewR hy.s (by decide)).f3 (hx.s.fewR hy.s (by decide)).f4)
  rw[lD] at hcmp
  refine aj (fun w'=>∃ x:aA w1.heap.size w1.drew,w'=x.w) (fun i=>i == 6) (by kernel_rfl) (by kernel_rfl) ⟨⟨_,Below.refl _ _⟩,rfl⟩ ?_
  have g0:=fun x:aA w1.heap.size w1.drew=>aa (m4.trans x.h) hbl c0
  have g1:=fun x:aA w1.heap.size w1.drew=>aa (m4.trans x.h) hbl c1'
  have g2:=fun x:aA w1.heap.size w1.drew=>aa (m4.trans x.h) hbl c2
  have g3:=fun x:aA w1.heap.size w1.drew=>aa (m4.trans x.h) hbl d0
  have g4:=fun x:aA w1.heap.size w1.drew=>aa (m4.trans x.h) hbl d1
  have g5:=fun x:aA w1.heap.size w1.drew=>aa (m4.trans x.h) hbl d2
  have M4:=xo (MB.out.trans (m4.mono MB.out.size))
  have hz:w1.heap.size≤w1.drew.heap.size:=m4.size
  clear c0 c1' c2 d0 d1 d2 hp hx hy m4
  generalize w1.drew=wd at *
  refine ae 6 0 _ _ _ (by kernel_rfl) ?_
  simp only[xA,xE,xz,xD]
  repeat (go_big_quiet_step (fail))
  refine wpQuiet_nil ?_
  refine ag rfl rfl (fun K hK=>?_)
  go_simp
  refine hcmp.out.mono ?_
  rintro e w2 ⟨rfl,hb2⟩
  refine hK _ _ ⟨⟨_,(hb2).mono hz⟩,rfl⟩ ?_
  clear hK K
  try simp only[Act.put,xv,xu,xt,xr,xw,xx]
  refine ae 2 7 _ _ _ (by kernel_rfl) ?_
  simp only[xA,xE,xz,xD]
  repeat (go_big_quiet_step (fail))
  refine wpQuiet_nil ?_
  refine aw ?_
  go_wp2
  refine bodyPost_ret (v:=.tuple #[.int .i64 (ii x y),.int .i64 0]) (by simp[results,Tryz.results26,go_sem]) rfl ⟨by rw[HC.out],M4.out.trans (hb2.mono M4.out.size)⟩
 ·have hc:nQ s t=(0,err):=by unfold nQ;rw[hq]
  have HC:=xo hc
  have hd:(err != 0)=true:=by simpa using hne
  clear hc hq hne
  go_wp2
  refine bodyPost_ret (v:=.tuple #[.int .i64 0,.int .i64 err]) (by simp[results,Tryz.results26,go_sem]) rfl ⟨by rw[HC.out],MB.out⟩
def gH (s t:ByteArray):Int:=(nQ s t).1
theorem gr (s t:ByteArray) (w:World) (hG:Gw w) :
  Calls Tryz.prog 52 #[.string s,.string t] w fun e w'=>e=.returned (.int .i64 (gH s t))∧Below w.heap.size w w':=by
 unfold gH
 have HP:=xo (wj s t w hG)
 go_enter Tryz.func52,Tryz.ntmps52
 go_wp2_with fail
 refine HP.out.mono ?_
 rintro e w2 ⟨rfl,hb2⟩
 go_wp2
 go_ret
 exact⟨rfl,hb2⟩
def dL (s:ByteArray):Bool:=decide (0<gH s ⟨#[45,49]⟩)&&decide (gH s ⟨#[49]⟩<0)
theorem pB (s:ByteArray) (w:World) (hG:Gw w) :
  Calls Tryz.prog 106 #[.string s] w fun e w'=>e=.returned (.bool (dL s))∧Below w.heap.size w w':=by
 have HP:=xo (gr s ⟨#[45,49]⟩ w hG)
 have HP2:=xo (fun wx (h:Below w.heap.size w wx)=>gr s ⟨#[49]⟩ wx (hG.below h))
 obtain⟨a,ha⟩:∃ a,a=gH s ⟨#[45,49]⟩:=⟨_,rfl⟩
 obtain⟨b,hb⟩:∃ b,b=gH s ⟨#[49]⟩:=⟨_,rfl⟩
 unfold dL
 rw[←ha,←hb]
 rw[←ha] at HP
 rw[←hb] at HP2
 clear ha hb
 go_enter Tryz.func106,Tryz.ntmps106
 by_cases h:0<a
 ·have hd:decide (0<a)=true:=decide_eq_true h
  go_wp2_with fail
  refine HP.out.mono ?_
  rintro e w2 ⟨rfl,hb2⟩
  go_wp2_with fail
  refine (HP2.out w2 hb2).mono ?_
  rintro e w3 ⟨rfl,hb3⟩
  go_wp2
  go_ret
  exact⟨by simp[h],hb2.trans (hb3.mono hb2.size)⟩
 ·have hd:decide (0<a)=false:=decide_eq_false h
  go_wp2_with fail
  refine HP.out.mono ?_
  rintro e w2 ⟨rfl,hb2⟩
  go_wp2
  go_ret
  exact⟨by rw[hd];rfl,hb2⟩
def bH (w:World) (g cap:Nat) (l:List ByteArray):Prop:=w.ownsRow g 31 1 (.slice (some ⟨g,0,none⟩) l.length cap) l.length (l.map .string)
theorem bH.own {w:World}{g cap base:Nat}{l:List ByteArray} (h:bH w g cap l) (hb:base≤g):bj w base (.slice (some ⟨g,0,none⟩) l.length cap) l:=by
 obtain⟨h1,h2⟩:=h
 refine⟨h1,?_⟩
 rcases h2 with h2 | ⟨g',cap',cur,e,_,r⟩
 ·exact Or.inl h2
 ·have:g'=g:=by simp at e;exact e.1.symm
  subst this
  exact Or.inr ⟨g',cap',cur,e,hb,r⟩
theorem bH.lt {w:World}{g cap:Nat}{l:List ByteArray} (h:bH w g cap l):g<w.heap.size:=(World.ownsRow.lt h g rfl).2
theorem bH.isS {w:World}{g cap:Nat}{l:List ByteArray} (h:bH w g cap l):IsS w (.slice (some ⟨g,0,none⟩) l.length cap) l:=bj.isS (h.own (xy _))
theorem bH.cell {w:World}{g cap:Nat}{l:List ByteArray} (h:bH w g cap l) {j:Nat} (hj:j<l.length):w.cell? ⟨g,j,none⟩=some (.string l[j]):=by
 rw[World.ownsRow.cellAt h j (by omega)];simp[hj]
theorem bH.free {w:World}{g cap:Nat}{l:List ByteArray} (h:bH w g cap l) (j:Nat):w.frozen? ⟨g,j,none⟩=false:=World.ownsRow.frozenAt h j
theorem bH.set {w:World}{g cap:Nat}{l:List ByteArray} (h:bH w g cap l) (j:Nat) (t:ByteArray):bH (w.setCell ⟨g,j,none⟩ (.string t)) g cap (l.set j t):=by
 have:=(World.ownsRow.stored h j (.string t)).1
 unfold bH
 rw[List.map_set,y8];exact this
theorem bH.below {w w':World}{g cap:Nat}{l:List ByteArray} (h:bH w g cap l) (hb:Below w.heap.size w w'):bH w' g cap l:=dT h hb
theorem bH.past {w w':World}{g cap B:Nat}{l:List ByteArray} (h:bH w g cap l) (hb:Below B w w') (hg:g<B):bH w' g cap l:=by
 obtain⟨hlen,h⟩:=h
 refine⟨hlen,?_⟩
 rcases h with h | ⟨g',cap',cur,e,hg',hh,r⟩
 ·exact Or.inl h
 ·have:g'=g:=by simp at e;exact e.1.symm
  subst this
  exact Or.inr ⟨g',cap',cur,e,hg',by rw[hb.block g' hg];exact hh,r⟩
theorem bH.other {w:World}{g cap:Nat}{l:List ByteArray} (h:bH w g cap l) {g':Nat} (hne:g≠g') (j:Nat) (u:Value):bH (w.setCell ⟨g',j,none⟩ u) g cap l:=by
 obtain⟨hlen,h⟩:=h
 refine⟨hlen,?_⟩
 rcases h with h | ⟨g2,cap',cur,e,hg',hh,r⟩
 ·exact Or.inl h
 ·have:g2=g:=by simp at e;exact e.1.symm
  subst this
  exact Or.inr ⟨g2,cap',cur,e,hg',by rw[Below.heap_setCell _ _ _ _ hne];exact hh,r⟩
theorem IsS.other {w:World}{v:Value}{l:List ByteArray} (h:IsS w v l) {g:Nat} (hne:v.ownBlock≠some g) (j:Nat) (u:Value):IsS (w.setCell ⟨g,j,none⟩ u) v l:=by
 obtain⟨p,cap,rfl,h1,h2,h3⟩:=h
 refine⟨p,cap,rfl,h1,h2,fun hl=>?_⟩
 obtain⟨b,o,rfl,hlt,hc⟩:=h3 hl
 have hne':b≠g:=fun e=>hne (by rw[e];rfl)
 refine⟨b,o,rfl,by simpa[World.setCell] using hlt,fun i hi j' u' hu=>?_⟩
 rw[World.cell?_setCell_other _ _ _ _ (by intro e3;exact hne' (congrArg Addr.block e3).symm)]
 exact hc i hi j' u' hu
theorem a_ {w:World}{ops:Array Oper}{rest:List Oper}{o:Oper}{a:Act}{Q:Exit→Act→World→Prop} (T:TypeId)
  (hT:Tryz.prog.underlying T=some (.slice 31)) (hgd:o.guard=none) (lo co:Operand) (hop:o.op=Op.makeSlice T lo co)
  (L C:Int) (n:Nat) (hl:a.eval lo=.int .i64 L) (hc:a.eval co=.int .i64 C) (hL:L=(n:Int)) (hC:C=(n:Int)) (hn:n≤1000000000000)
  (hK:∀ w',bH w' w.heap.size n (List.replicate n ⟨#[]⟩)→(∀ B w0,Below B w0 w→B≤w.heap.size→Below B w0 w')→w.heap.size<w'.heap.size →
   wpList Tryz.prog ops Q rest (a.put o.dst (.slice (some ⟨w.heap.size,0,none⟩) n n)) w') :
  wpList Tryz.prog ops Q (o :: rest) a w:=by
 obtain⟨i0,hi,hz0,hz1,hz2⟩:=info_parts sI
 refine wpList_make_full _ hgd lo co T hop w.heap.size 31 i0 (.string ⟨#[]⟩) 1 hT hi hz0 hz1 .i64 .i64 L C n hl hc hL hC (by rw[hz2];omega) (by unfold maxLen;omega) (xy _) ?_
 intro w' hown hg
 have hr:bH w' w.heap.size n (List.replicate n ⟨#[]⟩):=by
  unfold bH
  have e:(madeCells (Value.string ⟨#[]⟩).cells (n*1)).toList=(List.replicate n (⟨#[]⟩:ByteArray)).map .string:=by
   rw[yW];simp[Value.cells,toList_madeCells_one]
  rw[e] at hown
  rw[ze];exact hown
 refine hK w' hr (fun B w0 hb hB=>hb.grown hg hB (fun k h=>by cases h)) hr.lt
theorem ra (w:World) (base:Nat) (hb:base≤w.heap.size):bj (w.alloc (.cells #[] 31)) base (.slice (some ⟨w.heap.size,0,none⟩) 0 0) [] :=
 ⟨rfl,Or.inr ⟨w.heap.size,0,#[],rfl,hb,heap_alloc_new w _,xy _,by simp[maxLen],rfl,rfl⟩⟩
theorem cA {w:World}{ops:Array Oper}{rest:List Oper}{o:Oper}{act:Act}{Q:Exit→Act→World→Prop} (T:TypeId)
  (hT:Tryz.prog.underlying T=some (.slice 31)) (hgd:o.guard=none) (s x:Operand)
  (ho:o.op=.call { callee:=.builtin .append,args:=#[s,x],argTypes:=#[T,T] })
  (base:Nat) (v:Value) (l m:List ByteArray) (b off c:Nat) (hs:act.eval s=v) (hown:bj w base v l)
  (hx:act.eval x=.slice (some ⟨b,off,none⟩) m.length c) (hm:IsS w (.slice (some ⟨b,off,none⟩) m.length c) m) (hlen:l.length+m.length<1000000000) (hbase:base≤w.heap.size)
  (h:∀ v' w',bj w' base v' (l++m)→(∀ B w0,Below B w0 w→B≤base→Below B w0 w')→wpList Tryz.prog ops Q rest (act.put o.dst v') w') :
  wpList Tryz.prog ops Q (o :: rest) act w:=by
 obtain⟨i0,hi,hz0,hz1,hz2⟩:=info_parts sI
 refine wpList_append_own _ hgd s x T ho base 31 i0 _ 1 16 hT hi hz0 hz1 hz2 rfl (by decide) v l.length (l.map .string) hs hown ⟨b,off,none⟩ m.length c (m.map .string) hx (by simp) ?_ ?_ ?_ ?_ hbase ?_
 ·intro j u hj
  have hj':j<m.length:=by simpa using (yi.1 hj).1
  obtain⟨b',o',e,hlt,hc⟩:=hm.get hj'
  obtain⟨rfl,rfl⟩:b=b'∧off=o':=by simpa using e
  have ha:(⟨b,off,none⟩:Addr).add j=⟨b,off+j,none⟩:=by
   unfold Addr.add
   split
   ·rename_i h0;subst h0;rfl
   ·rfl
  rw[ha,hc]
  simpa[hj'] using hj
 ·intro u hu
  obtain⟨t,-,rfl⟩:=List.mem_map.1 hu
  rfl
 ·unfold maxLen;omega
 ·omega
 ·intro v' w' hown' hg _
  refine h v' w' ?_ ?_
  ·unfold bj
   rw[xI,Ac];exact hown'
  ·intro B w0 hb hB
   have hbs:=World.ownsRow.lt hown
   exact hb.grown hg (by omega) fun k hk=>by have:=(hbs k hk).1;omega
theorem vU (a:Option Addr) (l c:Nat) (w:World):(binOp .eql 22 (.slice a l c) (.slice none 0 0)).run Tryz.prog w=.ok (.bool a.isNone) w:=by
 simp[binOp,run_equal_slice_nil (h:=Tryz.underlying22),Result.andThen]
theorem nP (v:Value) (l:List ByteArray) (w:World) (hl:IsS w v l) (hpos:0<l.length) (hlen:l.length<100000000) :
  Calls Tryz.prog 105 #[v] w fun e w'=>∃ v',e=.returned v'∧bj w' w.heap.size v' l∧Below w.heap.size w w':=by
 obtain⟨p,c,rfl,hc1,hc2⟩:=id hl.form
 obtain⟨b,o,rfl,hlt,-⟩:=hl.get hpos
 go_enter Tryz.func105,Tryz.ntmps105
 have hb:=ac w (.cells #[] 31)
 have hE:=ra w w.heap.size (xy _)
 have hL2:=hl.below hb
 have EQ:=vU (some ⟨b,o,none⟩) l.length c
 simp only[Option.isNone_some] at EQ
 go_wp2_with (at_builtin;refine cA 22 Tryz.underlying22 rfl (.tmp 5) (.tmp 6) rfl w.heap.size _ [] l b o c rfl hE rfl hL2 (by simp;omega) (by rw[size_alloc];omega) ?_)
 intro v' w' hw' hb'
 have hB:=hb' _ _ hb (xy _)
 try rw[x9] at hw'
 go_wp2
 go_ret
 exact⟨_,rfl,hw',hB⟩
end Go.Proofs.YtomkanblohhpfaaGreatDoor
