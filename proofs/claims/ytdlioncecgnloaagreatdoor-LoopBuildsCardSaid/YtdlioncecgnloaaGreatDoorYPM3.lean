/- Lemmas of this claim. -/
import Derived.Laws.IdiomCopy
import Derived.Test.YtdlioncecgnloaaGreatDoorYLP13
import Derived.Test.YtdlioncecgnloaaGreatDoorYRng2
import Derived.Test.YtdlioncecgnloaaGreatDoorYPM2
set_option linter.all false
set_option maxRecDepth 100000
set_option maxHeartbeats 8000000
namespace Go.Proofs.YtdlioncecgnloaaGreatDoor
open Go.RowKit Dg
theorem wK (va:Value) (z:CQ) (w:World) (ha:IsV w va (ct z)) :
  Calls Tryz.prog 242 #[va] w fun e w'=>∃ v,e=.returned (.tuple #[v,.bool (decide (z.im=0))])∧IsV w' v (ct z)∧Below w.heap.size w w':=by
 obtain⟨a,b,c,d,e,f,rfl,hax,hay⟩:=id ha
 obtain⟨xm,xp,xl,xc,xq,xk,xd,hxe⟩:=hax.form
 obtain⟨ym,yp,yl,yc,yq,yk,yd,hye⟩:=hay.form
 obtain⟨rfl,rfl,rfl⟩:=cC hxe
 obtain⟨rfl,rfl,rfl⟩:=cC hye
 clear hxe hye
 go_enter Tryz.func242,Tryz.ntmps242
 go_upto_region 1 with fail
 have q1:=aS.new w (.bool xm) (.slice xp xl xc) (.slice xq xk xd) (.bool ym) (.slice yp yl yc) (.slice yq yk yd) 91
 have m1:=ae w (.cells #[.bool xm,.slice xp xl xc,.slice xq xk xd,.bool ym,.slice yp yl yc,.slice yq yk yd] 91)
 have z1:=size_alloc w (.cells #[.bool xm,.slice xp xl xc,.slice xq xk xd,.bool ym,.slice yp yl yc,.slice yq yk yd] 91)
 generalize w.alloc (.cells #[.bool xm,.slice xp xl xc,.slice xq xk xd,.bool ym,.slice yp yl yc,.slice yq yk yd] 91)=w1 at *
 have q3:=bd.new w1 (.bool false) (.slice none 0 0) (.slice none 0 0) (.bool false) (.slice none 0 0) (.slice none 0 0) (by intro z e;cases e) (by intro z e;cases e) (by intro z e;cases e) (by intro z e;cases e) (by intro z e;cases e) (by intro z e;cases e)
 have m3:=ae w1 (.cells #[.bool false,.slice none 0 0,.slice none 0 0,.bool false,.slice none 0 0,.slice none 0 0] 91)
 generalize w1.alloc (.cells #[.bool false,.slice none 0 0,.slice none 0 0,.bool false,.slice none 0 0,.slice none 0 0] 91)=w3 at *
 have m4:Below w3.heap.size w3 w3.drew:=(Below.refl _ _).drew
 rw[z1] at q3
 refine ak (fun w'=>∃ x:aA (w.heap.size+1) w3.drew,w'=x.w) (fun i=>i == 2||i == 3) (by kernel_rfl) (by kernel_rfl) ⟨⟨_,Below.refl _ _⟩,rfl⟩ ?_
 generalize w3.drew=wd at *
 have hB0:Below wd.heap.size wd wd:=Below.refl _ _
 have M13:=m1.trans (m3.mono m1.size)
 have MD:=zf (M13.trans (m4.mono M13.size))
 have B1:=(q1.below m3).below m4
 have B3:=zf (q3.below m4)
 have hz:w.heap.size+1≤wd.heap.size:=by have:=B3.out.lt;omega
 have e1:=fun x:aA (w.heap.size+1) wd=>B1.at x.h (by omega)
 have a0:=fun x=>(e1 x).c0;have a01:=fun x=>(e1 x).c1;have a02:=fun x=>(e1 x).c2;have a03:=fun x=>(e1 x).c3;have a04:=fun x=>(e1 x).c4;have a05:=fun x=>(e1 x).c5
 have HAX:=zf (hax.below MD.out)
 have HAY:=zf (hay.below MD.out)
 have HV:=zf (ha.below MD.out)
 clear e1 q1 q3 m1 m3 m4 z1 M13 hax hay B1 ha hB0
 refine af 2 0 _ _ _ (by kernel_rfl) ?_
 simp only[zo,zu,zp,zt]
 repeat (go_big_quiet_step (fail))
 refine wpQuiet_nil ?_
 refine ag rfl rfl (fun K hK=>?_)
 go_simp
 refine (db _ _ wd HV.out).mono ?_
 rintro e w4 ⟨rfl,hb4⟩
 refine hK _ _ ⟨⟨_,(hb4).mono hz⟩,rfl⟩ ?_
 clear hK K
 try simp only[Act.put,zj,zi,zh,zg,zl,zm]
 have B8:=B3.out.below hb4
 have k0:=B8.cell 0;have k1:=B8.cell 1;have k2:=B8.cell 2;have k3:=B8.cell 3;have k4:=B8.cell 4;have k5:=B8.cell 5
 have f0:=B8.fr 0;have f1:=B8.fr 1;have f2:=B8.fr 2;have f3:=B8.fr 3;have f4:=B8.fr 4;have f5:=B8.fr 5
 have P:=zf (B8.putV (HAX.out.below hb4) (HAY.out.below hb4))
 refine ag rfl rfl (fun K hK=>?_)
 go_simp
 refine hK undef _ ⟨⟨_,P.out.2.2 _ _ (hb4.mono hz) (by omega)⟩,rfl⟩ ?_
 clear hK K
 try simp only[Act.put,zj,zi,zh,zg,zl,zm]
 refine af 1 4 _ _ _ (by kernel_rfl) ?_
 simp only[zo,zu,zp,zt]
 repeat (go_big_quiet_step (fail))
 refine wpQuiet_nil ?_
 refine aw ?_
 have M8:=zf (P.out.2.2 _ _ (MD.out.trans (hb4.mono MD.out.size)) (by omega))
 have HD:=zf (show decide ((ct z).y.n=0)=decide (z.im=0) by
  have h:=aM z.im
  show decide ((rt z.im).n=0)=_
  simp only[h])
 obtain⟨bb,hbb⟩:∃ bb,bb=decide (z.im=0):=⟨_,rfl⟩
 rw[HD.out,←hbb]
 have HBB:=zf hbb
 clear hbb
 clear B8 k0 k1 k2 k3 k4 k5 f0 f1 f2 f3 f4 f5
 go_wp2_with fail
 have q0:=P.out.1.cell 0;have q1:=P.out.1.cell 1;have q2:=P.out.1.cell 2;have q3:=P.out.1.cell 3;have q4:=P.out.1.cell 4;have q5:=P.out.1.cell 5
 refine bodyPost_ret (v:=.tuple #[.agg #[.bool xm,.slice xp xl xc,.slice xq xk xd,.bool ym,.slice yp yl yc,.slice yq yk yd],.bool bb]) (by simp[results,Tryz.results242,go_sem,cK] at q0 q1 q2 q3 q4 q5 ⊢;simp[results,Tryz.results242,go_sem,q0,q1,q2,q3,q4,q5]) rfl ⟨_,by rw[HBB.out],P.out.2.1,M8.out⟩
def gD (zs:List CQ):Bool:=zs.all fun z=>decide (z.im=0)
theorem tM (v:Value) (zs:List CQ) (w:World) (hl:IsP w v zs) (hlen:zs.length<1000000) :
  Calls Tryz.prog 241 #[v,.func (.func 242) #[] #[]] w fun e w'=>∃ v',e=.returned (.tuple #[v',.bool (gD zs)])∧Below w.heap.size w w':=by
 obtain⟨p,c,rfl,-⟩:=id hl.form
 have HL:=zf hl
 clear hl
 go_enter Tryz.func241,Tryz.ntmps241
 go_wp2
 go_loopw [6,13] (fun s6 s13 wr=>∃ i:Nat,s13=.int .i64 i∧i≤zs.length∧cf wr w.heap.size s6 (zs.take i)∧Below w.heap.size w wr∧Hid (gD (zs.take i)=true)) (fun _ s13 _=>zs.length-(intOf s13).toNat)
 case atStart=>exact⟨0,rfl,zD _,cf.nil _ _,Below.refl _ _,rfl⟩
 case round =>
  obtain⟨i,rfl,hin,hown,hbr,hall⟩:=hrel
  by_cases hi:i<zs.length
  ·obtain⟨B,o,rfl,hlt,xm,xp,xl,xc,xq,xk,xd,ym,yp,yl,yc,yq,yk,yd,hk,a0,a1,a2,a3,a4,a5⟩:=(HL.out.below hbr).get hi
   have HT:=zf (show zs.take (i+1)=zs.take i++[zs[i]] from (zB hi).symm)
   have HO:=zf (show gD (zs.take (i+1))=decide (zs[i].im=0) by
    unfold gD at hall ⊢
    rw[←zB hi,AL,hall.out];simp)
   have HX:=zf (show zs[i].im≠0→gD zs=false from fun h=>by
    unfold gD
    rw[Bd]
    exact⟨zs[i],zG hi,by simpa using h⟩)
   generalize zs[i]=z at hk HT HO HX
   have HV:=zf hown
   have HK:=zf hk
   clear hown hk hall
   go_upto_region 5 with fail
   have q2:=aS.new wr (.bool xm) (.slice xp xl xc) (.slice xq xk xd) (.bool ym) (.slice yp yl yc) (.slice yq yk yd) 91
   have m2:=ae wr (.cells #[.bool xm,.slice xp xl xc,.slice xq xk xd,.bool ym,.slice yp yl yc,.slice yq yk yd] 91)
   generalize wr.alloc (.cells #[.bool xm,.slice xp xl xc,.slice xq xk xd,.bool ym,.slice yp yl yc,.slice yq yk yd] 91)=w2 at *
   have b0:=q2.c0;have b1:=q2.c1;have b2:=q2.c2;have b3:=q2.c3;have b4:=q2.c4;have b5:=q2.c5
   have hB2:=hbr.trans (m2.mono hbr.size)
   have HV2:=zf (HV.out.below m2)
   have HK2:=zf (HK.out.below m2)
   clear a0 a1 a2 a3 a4 a5 m2 q2 HV HK hbr
   go_wp2_with fail
   refine (wK _ z w2 HK2.out.v).mono ?_
   rintro e w3 ⟨v3,rfl,hv3,hb3⟩
   have hB3:=hB2.trans (hb3.mono hB2.size)
   have hk3:IsK w3 v3 z:=⟨hv3,HK2.out.s⟩
   obtain⟨sm,sp,sl,sc,sq,sk,sd,tm,tp,tl,tc,tq',tk,td,rfl⟩:=hk3.forms
   have HV3:=zf (HV2.out.below hb3)
   clear b0 b1 b2 b3 b4 b5 hb3 hB2 HV2 HK2 hv3
   by_cases hz:z.im=0
   ·have hd:decide (z.im=0)=true:=decide_eq_true hz
    have HO:=zf (show gD (zs.take (i+1))=true by rw[HO.out,hd])
    rw[hd]
    clear hz hd HX
    go_upto_region 6 with fail
    have q4:=aS.new w3 (.bool sm) (.slice sp sl sc) (.slice sq sk sd) (.bool tm) (.slice tp tl tc) (.slice tq' tk td) 91
    have m4:=ae w3 (.cells #[.bool sm,.slice sp sl sc,.slice sq sk sd,.bool tm,.slice tp tl tc,.slice tq' tk td] 91)
    generalize w3.alloc (.cells #[.bool sm,.slice sp sl sc,.slice sq sk sd,.bool tm,.slice tp tl tc,.slice tq' tk td] 91)=w4 at *
    have b0:=q4.c0;have b1:=q4.c1;have b2:=q4.c2;have b3:=q4.c3;have b4:=q4.c4;have b5:=q4.c5
    have hB4:=hB3.trans (m4.mono hB3.size)
    have hw4:=HV3.out.below m4
    have hk4:=hk3.below m4
    have hbs:=hB4.size
    have hzl:(zs.take i).length<1000000000:=by rw[zX];omega
    clear q4 m4 hk3 HV3 hB3
    go_wp2_with (at_builtin;refine c_ 156 Tryz.underlying156 rfl (.tmp 25) (.tmp 27) rfl w.heap.size _ _ _ _ _ _ _ _ _ rfl hw4 hk4 rfl hzl hbs ?_)
    intro v' w5 hw5 hb5 _
    have hB5:=hb5 _ _ hB4 (zn _)
    rw[←HT.out] at hw5
    clear hw4 hk4 hb5 hB4 b0 b1 b2 b3 b4 b5
    go_wp2
    go_roundw
    case rel=>exact⟨i+1,by go_num,by omega,hw5,hB5,HO.out⟩
    case measure=>(first | (simp[intOf];done) | (simp[intOf];omega))
   ·have hd:decide (z.im=0)=false:=decide_eq_false hz
    have HE:=zf (HX.out hz)
    rw[hd]
    clear hz hd HX HO HT
    go_wp2
    refine bodyPost_ret (v:=.tuple #[.slice none 0 0,.bool false]) (by simp[results,Tryz.results241,go_sem]) rfl ⟨_,by rw[HE.out],hB3.trans ((ae w3 _).mono hB3.size)⟩
  ·have hin':i=zs.length:=by omega
   subst hin'
   have HO:=zf (show gD zs=true by have h:=hall.out;rwa [zO] at h)
   clear hown hi hall
   go_wp2
   refine bodyPost_ret (v:=.tuple #[u6,.bool true]) (by simp[results,Tryz.results241,go_sem]) rfl ⟨_,by rw[HO.out],hbr⟩
theorem CQ.norm_ne {c:CQ} (h:c≠⟨0,0⟩):c.norm≠0:=fun e=>h (jg e)
theorem CQ.div_mul {z c:CQ} (h:c≠⟨0,0⟩):(z.div c).mul c=z:=by
 have hn:=CQ.norm_ne h
 obtain⟨a,b⟩:=z
 obtain⟨x,y⟩:=c
 simp only[CQ.div,CQ.mul,CQ.norm,CQ.mk.injEq] at hn ⊢
 constructor<;>grind
theorem CQ.sub_self (z:CQ):z.sub z=⟨0,0⟩:=by
 obtain⟨a,b⟩:=z
 simp only[CQ.sub,CQ.mk.injEq]
 constructor<;>grind
theorem CQ.mul_inv {z:CQ} (h:z≠⟨0,0⟩):z.mul ((CQ.real 1).div z)=CQ.real 1:=by
 have hn:=CQ.norm_ne h
 obtain⟨x,y⟩:=z
 simp only[CQ.div,CQ.mul,CQ.norm,CQ.real,CQ.mk.injEq] at hn ⊢
 constructor<;>grind
theorem CQ.div_one (z:CQ):z.div (CQ.real 1)=z:=by
 obtain⟨x,y⟩:=z
 simp only[CQ.div,CQ.norm,CQ.real]
 congr 1<;>grind
theorem CQ.mul_one (z:CQ):z.mul (CQ.real 1)=z:=by
 obtain⟨x,y⟩:=z
 simp only[CQ.mul,CQ.real]
 congr 1<;>grind
theorem CQ.one_ne:CQ.real 1≠⟨0,0⟩:=by decide
def ik (zs:List CQ) (c:CQ):List CQ:=zs.map fun z=>z.div c
theorem gC (zs:List CQ) (c:CQ):(ik zs c).length=zs.length:=by simp[ik]
theorem vf (zs:List CQ):ik zs (CQ.real 1)=zs:=by
 unfold ik
 rw[show (fun z:CQ=>z.div (CQ.real 1))=id from funext fun z=>z.div_one,List.map_id]
theorem ta (zs:List CQ) (c:CQ) {i:Nat} (h:i<zs.length):(ik zs c).drop i=zs[i].div c :: (ik zs c).drop (i+1):=by
 rw[Al (by rw[gC];exact h)]
 simp[ik]
theorem jb {c:CQ} (h:c≠⟨0,0⟩):bM [c]=[c]:=by
 have:=fJ [] c
 rwa [if_neg h] at this
theorem sK {a c:CQ} (h:c≠⟨0,0⟩):bM [a,c]=[a,c]:=by
 have:=fJ [a] c
 rwa [if_neg h] at this
theorem jw:∀ n:Nat,bM (List.replicate n ⟨0,0⟩)=[]
 | 0=>rfl
 | n+1=>by
  rw[BL,fJ,if_pos rfl]
  exact jw n
theorem t8 (c:CQ):sn [c]=[]:=rfl
theorem t_ {a c:CQ} (h:c≠⟨0,0⟩):sn [a,c]=[c]:=by
 have e:gU [a,c]=[c]:=by
  show [c.mul (CQ.real (((0+1:Nat):Int):Rat))]=[c]
  rw[show CQ.real (((0+1:Nat):Int):Rat)=CQ.real 1 from rfl,CQ.mul_one]
 unfold sn
 rw[e];exact jb h
theorem oQ {c:CQ} (h:c≠⟨0,0⟩):m_ [c] ((CQ.real 1).div c)=[CQ.real 1]:=by
 show bM [c.mul ((CQ.real 1).div c)]=_
 rw[CQ.mul_inv h];exact jb CQ.one_ne
inductive dC:List CQ→Prop
 | one (c:CQ) (h:c≠⟨0,0⟩):dC [c]
 | two (a c:CQ) (h:c≠⟨0,0⟩):dC [a,c]
theorem dC.lean {zs:List CQ} (h:dC zs):bM zs=zs:=by
 cases h with
 | one c h=>exact jb h
 | two a c h=>exact sK h
def aX (zs:List CQ):List (List CQ):=match zs with
 | []=>[]
 | [c]=>[[c]]
 | [a,c]=>[[a,c],[c]]
 | _=>[]
def fU (s:Int) (p:Int×Int):Int×Int:=if s=0 then p else (if s=-p.2 then p.1+1 else p.1,s)
def hZ (x:Rat) (zs:List CQ):Int:=fX (atL zs (CQ.real x)).re 0
def nF (x:Rat) (l:List (List CQ)):Int×Int:=l.foldl (fun p q=>fU (hZ x q) p) (0,0)
def bX (zs:List CQ) (x:Rat):Int:=(nF x (aX zs)).1
theorem si (x:Rat) {l:List (List CQ)}{i:Nat} (h:i<l.length):nF x (l.take (i+1))=fU (hZ x l[i]) (nF x (l.take i)):=by
 unfold nF
 rw[←zB h,List.foldl_append]
 rfl
open Go.RowKit Dg Dc
def Ov (D M:Nat) (q:Rat):Prop:=∃ n:Int,q=(n:Rat) / (D:Rat)∧n.natAbs≤M
theorem dp {D:Nat} (h:0<D):(D:Rat)≠0:=by
 intro e
 have e2:((D:Int):Rat)=((0:Int):Rat):=e
 have:=Rat.intCast_inj.1 e2
 omega
theorem Ov.mono {D M M':Nat}{q:Rat} (h:Ov D M q) (hM:M≤M'):Ov D M' q:=by
 obtain⟨n,e,hn⟩:=h
 exact⟨n,e,zF hn hM⟩
theorem Ov.wide {D M:Nat}{q:Rat} (h:Ov D M q) (E:Nat) (hD:0<D) (hE:0<E):Ov (D*E) (M*E) q:=by
 obtain⟨n,e,hn⟩:=h
 have h1:=dp hD
 have h2:=dp hE
 refine⟨n*E,?_,?_⟩
 ·rw[e,Rat.intCast_mul,Rat.natCast_mul]
  show (n:Rat) / (D:Rat)=(n:Rat)*((E:Nat):Rat) / ((D:Rat)*(E:Rat))
  grind
 ·rw[BT];exact zv _ hn
theorem Ov.add {D M N:Nat}{a b:Rat} (h1:Ov D M a) (h2:Ov D N b):Ov D (M+N) (a+b):=by
 obtain⟨n,e,hn⟩:=h1
 obtain⟨m,f,hm⟩:=h2
 refine⟨n+m,?_,by omega⟩
 rw[e,f,Rat.intCast_add]
 grind
theorem Ov.neg {D M:Nat}{a:Rat} (h1:Ov D M a):Ov D M (-a):=by
 obtain⟨n,e,hn⟩:=h1
 refine⟨-n,?_,by omega⟩
 rw[e,Rat.intCast_neg]
 grind
theorem Ov.sub {D M N:Nat}{a b:Rat} (h1:Ov D M a) (h2:Ov D N b):Ov D (M+N) (a-b):=by
 rw[Rat.sub_eq_add_neg];exact h1.add h2.neg
theorem Ov.mul {D E M N:Nat}{a b:Rat} (h1:Ov D M a) (h2:Ov E N b) (hD:0<D) (hE:0<E):Ov (D*E) (M*N) (a*b):=by
 obtain⟨n,e,hn⟩:=h1
 obtain⟨m,f,hm⟩:=h2
 have k1:=dp hD
 have k2:=dp hE
 refine⟨n*m,?_,by rw[BT];exact An hn hm⟩
 rw[e,f,Rat.intCast_mul,Rat.natCast_mul]
 grind
theorem Ov.zero (D:Nat):Ov D 0 0:=⟨0,by rw[show ((0:Int):Rat)=0 from rfl];grind,by simp⟩
theorem mS (q:Rat):(q.num:Rat) / (q.den:Rat)=q:=by rw[←Rat.mkRat_eq_div,Rat.mkRat_self]
theorem Ov.bound {D M:Nat}{q:Rat} (h:Ov D M q) (hD:0<D):q.num.natAbs≤M∧q.den≤D:=by
 obtain⟨n,e,hn⟩:=h
 have k1:=dp hD
 have k2:=dp q.den_pos
 have e2:(q.num:Rat) / (q.den:Rat)=q:=mS q
 have e3:(q.num:Rat)*(D:Rat)=(n:Rat)*(q.den:Rat):=by
  rw[e] at e2
  grind
 have e4:q.num*(D:Int)=n*(q.den:Int):=by
  apply Rat.intCast_inj.1
  rw[Rat.intCast_mul,Rat.intCast_mul]
  exact e3
 have e5:q.num.natAbs*D=n.natAbs*q.den:=by
  have:=congrArg Int.natAbs e4
  rw[BT,BT] at this
  exact this
 have hc:Nat.Coprime q.num.natAbs q.den:=q.reduced
 have d1:q.den ∣ D:=(Nat.Coprime.symm hc).dvd_of_dvd_mul_left ⟨n.natAbs,by rw[e5,zK]⟩
 have d2:q.num.natAbs ∣ n.natAbs:=hc.dvd_of_dvd_mul_right ⟨D,by rw[←e5]⟩
 refine⟨?_,Nat.le_of_dvd hD d1⟩
 rcases AI n.natAbs with h0 | h0
 ·rw[h0,AC] at e5
  rcases Nat.mul_eq_zero.1 e5 with h | h
  ·omega
  ·omega
 ·exact zF (Nat.le_of_dvd h0 d2) hn
theorem Ov.of (q:Rat):Ov q.den q.num.natAbs q:=⟨q.num,(mS q).symm,zn _⟩
theorem Ov.ok {D M:Nat}{q:Rat} (h:Ov D M q) (hD:0<D) (h1:D<10 ^ 2000) (h2:M<10 ^ 2000):okQ q:=by
 obtain⟨b1,b2⟩:=h.bound hD
 exact kE (zY b1 h2) (zY b2 h1)
structure OvC (D M:Nat) (z:CQ):Prop where
 re:Ov D M z.re
 im:Ov D M z.im
 pos:0<D
theorem OvC.ok {D M:Nat}{z:CQ} (h:OvC D M z) (h1:D<10 ^ 2000) (h2:M<10 ^ 2000):dl z=false:=by
 have k1:=(mU _).1 (h.re.ok h.pos h1 h2)
 have k2:=(mU _).1 (h.im.ok h.pos h1 h2)
 unfold dl
 rw[k1,k2];rfl
structure eP (w:World) (g cap:Nat) (zs:List CQ):Prop where
 lt:g<w.heap.size
 fr:∀ j,w.frozen? ⟨g,j,none⟩=false
 nu:∀ j z,w.cell? ⟨g,j,none⟩≠some (.int .u64 z)
 row:∃ es:List Value,es.length=zs.length∧(∀ i (h:i<es.length) j u,(cellsOf es[i])[j]?=some u→w.cell? ⟨g,i*6+j,none⟩=some u)∧∀ i (h:i<es.length) (h':i<zs.length),IsK w es[i] zs[i]
 cap:zs.length≤cap∧cap≤maxLen
theorem eP.isP {w:World}{g cap:Nat}{zs:List CQ} (h:eP w g cap zs):IsP w (.slice (some ⟨g,0,none⟩) zs.length cap) zs:=by
 obtain⟨es,h1,h2,h3⟩:=h.row
 refine⟨es,h1,⟨_,cap,by rw[h1],by rw[h1];exact h.cap.1,h.cap.2,fun _=>⟨g,0,rfl,h.lt,fun i hi j u hu=>?_⟩⟩,h3⟩
 rw[Ad];exact h2 i hi j u hu
theorem eP.below {w w':World}{g cap:Nat}{zs:List CQ} (h:eP w g cap zs) (hb:Below w.heap.size w w'):eP w' g cap zs:=by
 obtain⟨es,h1,h2,h3⟩:=h.row
 have hblk:=hb.block g h.lt
 have hc:∀ j,w'.cell? ⟨g,j,none⟩=w.cell? ⟨g,j,none⟩:=fun j=>World.cell?_of_block (w:=w) (w':=w') (a:=⟨g,j,none⟩) hblk
 refine⟨zq h.lt hb.size,fun j=>?_,fun j z=>by rw[hc];exact h.nu j z,⟨es,h1,fun i hi j u hu=>by rw[hc];exact h2 i hi j u hu,fun i hi hi'=>(h3 i hi hi').below hb⟩,h.cap⟩
 have:=h.fr j
 unfold World.frozen? at this ⊢
 simp only[hblk]
 exact this
theorem eP.of_own {w:World}{base:Nat}{v:Value}{zs:List CQ} (h:cf w base v zs) (hz:0<zs.length):∃ g cap,v=.slice (some ⟨g,0,none⟩) zs.length cap∧base≤g∧eP w g cap zs:=by
 obtain⟨es,h1,h2,h3⟩:=h.p
 have hrow:=eJ (iu h1 h3) h2
 rcases h2.2 with ⟨rfl,h0⟩ | ⟨g,cap,cur,rfl,hg,hh,hn,hm,hs,ht⟩
 ·omega
 ·obtain⟨p,c,e,e1,e2,e3⟩:=hrow
  obtain⟨b,o,e4,hlt,hc⟩:=e3 (by omega)
  subst e4
  simp only[Value.slice.injEq,Option.some.injEq,Addr.mk.injEq,and_true] at e
  obtain⟨⟨rfl,rfl⟩,-,rfl⟩:=e
  refine⟨g,cap,by rw[h1],hg,hlt,fun j=>by rw[World.frozen?,hh];simp,fun j z=>h.nu g rfl j z,⟨es,h1,fun i hi j u hu=>?_,h3⟩,by omega,hm⟩
  have:=hc i hi j u hu
  rwa [Ad] at this
theorem eP.set {w:World}{g cap k:Nat}{zs:List CQ}{a b c d e f:Value}{z:CQ} (h:eP w g cap zs) (hk:k<zs.length) (hK:IsK w (.agg #[a,b,c,d,e,f]) z) :
  eP (w.setCells g (k*6) [a,b,c,d,e,f]) g cap (zs.set k z)∧(∀ u l,IsU w u l→IsU (w.setCells g (k*6) [a,b,c,d,e,f]) u l)∧Below g w (w.setCells g (k*6) [a,b,c,d,e,f])∧∀ i,i≠g→(w.setCells g (k*6) [a,b,c,d,e,f]).heap[i]?=w.heap[i]?:=by
 obtain⟨es,h1,h2,h3⟩:=h.row
 have h6:=iu h1 h3
 obtain⟨xm,xp,xl,xc,xq,xk,xd,ym,yp,yl,yc,yq,yk,yd,he⟩:=hK.forms
 have hin:∀ j,j<6→(w.cell? ⟨g,k*6+j,none⟩).isSome=true:=fun j hj=>by
  have hlt:j<(cellsOf (es[k]'(by omega))).length:=by rw[h6 _ (zG _)];exact hj
  rw[h2 k (by omega) j _ (zE hlt)];rfl
 have hnot:∀ u∈[a,b,c,d,e,f],∀ z,u≠.int .u64 z:=by
  simp only[Value.agg.injEq,Array.mk.injEq,List.cons.injEq,and_true] at he
  obtain⟨rfl,rfl,rfl,rfl,rfl,rfl⟩:=he
  intro u hu z e
  subst e
  simp at hu
 have hcin:=World.cell?_setCells_in g [a,b,c,d,e,f] (k*6) w hin
 have hcout:=fun x h=>World.cell?_setCells_out g [a,b,c,d,e,f] (k*6) w x h
 have hb:Below g w (w.setCells g (k*6) [a,b,c,d,e,f]) :=
  ((((((Below.refl g w).setCell (p:=⟨g,k*6,none⟩) (zn _) a).setCell (p:=⟨g,k*6+1,none⟩) (zn _) b).setCell (p:=⟨g,k*6+1+1,none⟩) (zn _) c).setCell (p:=⟨g,k*6+1+1+1,none⟩) (zn _) d).setCell (p:=⟨g,k*6+1+1+1+1,none⟩) (zn _) e).setCell (p:=⟨g,k*6+1+1+1+1+1,none⟩) (zn _) f
 have hU:∀ u l,IsU w u l→IsU (w.setCells g (k*6) [a,b,c,d,e,f]) u l:=fun u l hu=>by
  obtain⟨p,cp,e1,e2,e3,e4⟩:=hu
  refine⟨p,cp,e1,e2,e3,fun hl=>?_⟩
  obtain⟨b',o,e5,hlt,hc⟩:=e4 hl
  refine⟨b',o,e5,zq hlt hb.size,fun j hj=>?_⟩
  rw[hcout ⟨b',o+j,none⟩ (fun (hbb:b'=g) _=>?_)]
  ·exact hc j hj
  ·subst hbb
   exact absurd (hc j hj) (h.nu _ _)
 refine⟨⟨zq h.lt hb.size,fun j=>?_,fun j z' hc=>?_,⟨es.set k (.agg #[a,b,c,d,e,f]),by simp[h1],fun i hi j u hu=>?_,fun i hi hi'=>?_⟩,by simpa using h.cap⟩,hU,hb,fun i hi=>?_⟩
 ·rw[World.frozen?_setCells];exact h.fr j
 ·by_cases hj:k*6≤j∧j<k*6+6
  ·obtain⟨r,rfl⟩:∃ r,j=k*6+r:=⟨j-k*6,by omega⟩
   have hr:r < [a,b,c,d,e,f].length:=by simp;omega
   rw[hcin r hr] at hc
   exact hnot _ (zG hr) z' (Option.some.inj hc)
  ·rw[hcout ⟨g,j,none⟩ (fun _ _=>by show j<k*6∨k*6+[a,b,c,d,e,f].length≤j;simp;omega)] at hc
   exact h.nu j z' hc
 ·have hi0:i<es.length:=by simpa using hi
  by_cases hik:k=i
  ·subst hik
   rw[Bg] at hu
   have hr:j < [a,b,c,d,e,f].length:=(Am.1 hu).1
   rw[hcin j hr]
   rw[←hu];show some _=[a,b,c,d,e,f][j]?;rw[zE hr]
  ·rw[BR hik] at hu
   have hj:j<6:=by
    have:=(Am.1 hu).1
    rwa [h6 _ (zG hi0)] at this
   rw[hcout ⟨g,i*6+j,none⟩ (fun _ _=>by show i*6+j<k*6∨k*6+[a,b,c,d,e,f].length≤i*6+j;simp;omega)]
   exact h2 i hi0 j u hu
 ·by_cases hik:k=i
  ·subst hik
   rw[Bg,Bg]
   exact hK.keepU hU
  ·rw[BR hik,BR hik]
   exact (h3 i (by simpa using hi) (by simpa using hi')).keepU hU
 ·show ((((((w.setCell ⟨g,k*6,none⟩ a).setCell ⟨g,k*6+1,none⟩ b).setCell ⟨g,k*6+1+1,none⟩ c).setCell ⟨g,k*6+1+1+1,none⟩ d).setCell ⟨g,k*6+1+1+1+1,none⟩ e).setCell ⟨g,k*6+1+1+1+1+1,none⟩ f).heap[i]?=_
  rw[Below.heap_setCell _ _ _ _ hi,Below.heap_setCell _ _ _ _ hi,Below.heap_setCell _ _ _ _ hi,Below.heap_setCell _ _ _ _ hi,Below.heap_setCell _ _ _ _ hi,Below.heap_setCell _ _ _ _ hi]
theorem cf.apart {w w':World}{base g:Nat}{v:Value}{zs:List CQ} (h:cf w base v zs) (hg:g<base) (hk:∀ i,i≠g→w'.heap[i]?=w.heap[i]?) (hU:∀ u l,IsU w u l→IsU w' u l):cf w' base v zs:=by
 obtain⟨es,h1,h2,h3⟩:=h.p
 refine⟨⟨es,h1,⟨h2.1,?_⟩,fun i hi hi'=>(h3 i hi hi').keepU hU⟩,fun b hb j z hc=>?_⟩
 ·rcases h2.2 with h | ⟨b,cap,cur,rfl,hb,hh,r⟩
  ·exact Or.inl h
  ·exact Or.inr ⟨b,cap,cur,rfl,hb,by rw[hk b (by omega)];exact hh,r⟩
 ·have hlt:=(h2.lt b hb).1
  rw[World.cell?_of_block (w:=w) (w':=w') (a:=⟨b,j,none⟩) (hk b (by omega))] at hc
  exact h.nu b hb j z hc
theorem cf.lower {w:World}{base base':Nat}{v:Value}{zs:List CQ} (h:cf w base v zs) (hb:base'≤base):cf w base' v zs:=by
 obtain⟨es,h1,h2,h3⟩:=h.p
 refine⟨⟨es,h1,⟨h2.1,?_⟩,h3⟩,h.nu⟩
 rcases h2.2 with h | ⟨b,cap,cur,rfl,hg,r⟩
 ·exact Or.inl h
 ·exact Or.inr ⟨b,cap,cur,rfl,by omega,r⟩
theorem aS.blk {w w':World}{k:Nat}{a b c d e f:Value} (h:aS w k a b c d e f) (hs:w.heap.size≤w'.heap.size) (hb:w'.heap[k]?=w.heap[k]?):aS w' k a b c d e f:=by
 have hc:∀ j,w'.cell? ⟨k,j,none⟩=w.cell? ⟨k,j,none⟩:=fun j=>World.cell?_of_block (w:=w) (w':=w') (a:=⟨k,j,none⟩) hb
 exact⟨zq h.lt hs,(hc 0).trans h.c0,(hc 1).trans h.c1,(hc 2).trans h.c2,(hc 3).trans h.c3,(hc 4).trans h.c4,(hc 5).trans h.c5⟩
theorem bd.blk {w w':World}{k:Nat}{a b c d e f:Value} (h:bd w k a b c d e f) (hb:w'.heap[k]?=w.heap[k]?):bd w' k a b c d e f:=⟨hb.trans h.hp,h.na,h.nb,h.nc,h.nd,h.ne,h.nf⟩
theorem uR {w:World}{base:Nat}{a b c d e f:Value}{z:CQ} (hK:IsK w (.agg #[a,b,c,d,e,f]) z) (hb:base≤w.heap.size):cf (w.alloc (.cells #[a,b,c,d,e,f] 91)) base (.slice (some ⟨w.heap.size,0,none⟩) 1 1) [z]:=by
 obtain⟨xm,xp,xl,xc,xq,xk,xd,ym,yp,yl,yc,yq,yk,yd,he⟩:=hK.forms
 simp only[Value.agg.injEq,Array.mk.injEq,List.cons.injEq,and_true] at he
 obtain⟨rfl,rfl,rfl,rfl,rfl,rfl⟩:=he
 refine⟨⟨[.agg #[.bool xm,.slice xp xl xc,.slice xq xk xd,.bool ym,.slice yp yl yc,.slice yq yk yd]],rfl,⟨rfl,Or.inr ⟨w.heap.size,1,_,rfl,hb,heap_alloc_new w _,zn _,by simp[maxLen],rfl,rfl⟩⟩,fun i hi hi'=>?_⟩,fun g hg j u hc=>?_⟩
 ·simp at hi
  subst hi
  exact hK.below (ae _ _)
 ·simp only[Value.ownBlock,Option.some.injEq] at hg
  subst hg
  rw[World.cell?,heap_alloc_new] at hc
  simp only[Ab,zI,if_false] at hc
  have:=Au hc
  simp at this
end Go.Proofs.YtdlioncecgnloaaGreatDoor
