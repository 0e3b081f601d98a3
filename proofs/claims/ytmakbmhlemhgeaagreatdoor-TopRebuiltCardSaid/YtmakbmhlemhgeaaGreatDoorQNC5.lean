/- L -/
import Derived.Test.YtmakbmhlemhgeaaGreatDoorQVec2
import Derived.Test.YtmakbmhlemhgeaaGreatDoorQB
set_option linter.all false
set_option maxRecDepth 100000
set_option maxHeartbeats 8000000
namespace Go.Proofs.YtmakbmhlemhgeaaGreatDoor
open Go.RowKit Dg
def cG:List ByteArray->Option (List CQ)
 | []=>some []
 | s :: l=>match dc s,cG l with
  | some z,some zs=>some (z :: zs)
  | _,_=>none
theorem lQ {l:List ByteArray}{s:ByteArray}:cG (l++[s])=match cG l,dc s with | some zs,some z=>some (zs++[z]) | _,_=>none:=by
 induction l with
 | nil=>simp only[sZ,cG];cases dc s<;>rfl
 | cons a l ih =>
  simp only[sl,cG,ih]
  cases dc a<;>cases cG l<;>cases dc s<;>rfl
theorem lR {l:List ByteArray}{i:Nat} (hi:i<l.length):cG (l.take (i+1))=match cG (l.take i),dc l[i] with | some zs,some z=>some (zs++[z]) | _,_=>none:=by
 rw[show l.take (i+1)=l.take i++[l[i]] from (rL hi).symm,lQ]
theorem mI {l:List ByteArray}{i:Nat} (hi:i<l.length) (h:dc l[i]=none):cG l=none:=by
 induction l generalizing i with
 | nil=>simp at hi
 | cons a l ih =>
  cases i with
  | zero =>
   simp only[rk] at h;simp only[cG,h]
  | succ i =>
   have:=ih (i:=i) (by simpa using hi) (by simpa using h);simp only[cG,this]
   cases dc a<;>rfl
theorem gg:∀ {l:List ByteArray}{zs:List CQ},cG l=some zs->zs.length=l.length
 | [],zs,h=>by cases h;rfl
 | a :: l,zs,h=>by
  simp only[cG] at h
  cases ha:dc a with
  | none=>rw[ha] at h;cases h
  | some z =>
   cases hl:cG l with
   | none=>rw[ha,hl] at h;cases h
   | some ys =>
    rw[ha,hl] at h
    cases h
    simp[gg hl]
theorem pZ (v:Value) (l:List ByteArray) (w:World) (hl:IsS w v l) (hlen:l.length<1000000000) (hG:Gw w) :
  Calls Tryz.prog 129 #[v,.func (.func 121) #[] #[]] w fun e w'=>∃ v' ok,e=.returned (.tuple #[v',.bool ok])/\((∃ zs,cG l=some zs/\ok=true/\IsP w' v' zs)\/(cG l=none/\ok=false/\v'=.slice none 0 0))/\Below w.heap.size w w':=by
 obtain⟨p,c,rfl,hc1,hc2⟩:=hl.form;have HL:=ri hl;have HG:=ri hG;clear hl hG;go_enter Tryz.func129,Tryz.ntmps129;go_wp2;go_loopw [6,13] (fun s6 s13 wr=>∃ (i:Nat) (zs:List CQ),s13=.int .i64 i/\i<=l.length/\f9 wr w.heap.size s6 zs/\Below w.heap.size w wr/\Hid (cG (l.take i)=some zs)) (fun _ s13 _=>l.length-(intOf s13).toNat)
 case atStart=>exact⟨0,[],rfl,rH _,f9.nil _ _,t_ _ _,rfl⟩
 case round =>
  obtain⟨i,zs,rfl,hin,hown,hbr,hall⟩:=hrel;by_cases hi:i<l.length
  ·obtain⟨b,o,rfl,hbl,hcell⟩:=(HL.out.below hbr).get hi;obtain⟨s,hs⟩:∃ s,s=l[i]:=⟨_,rfl⟩;rw[<-hs] at hcell;have HS:=ri hs;clear hs;go_wp2_with fail
   refine (fT s wr (HG.out.below hbr)).mono ?_;rintro e w1 ⟨v1,ok,rfl,hcase,hb1⟩;have hB1:=hbr.trans (hb1.mono hbr.size);rcases hcase with ⟨z,hz,rfl,hv⟩ | ⟨hz,rfl,rfl⟩
   ·obtain⟨q,rfl,hp1,hp2,-,-⟩:=fS hz;have hk:IsK w1 v1 q:=⟨hv,hp2.mono (by decide)⟩;have hstep:cG (l.take (i+1))=some (zs++[q]):=by rw[lR hi,hall.out,<-HS.out,hp1]
    have HT:=ri hstep;obtain⟨xm,xp,xl,xc,xq,xk,xd,ym,yp,yl,yc,yq,yk,yd,rfl⟩:=hk.forms;have hw1:=hown.below hb1;clear hz hv hp1 hp2 hstep hown hb1 hbr hcell hall;go_upto_region 6 with fail
    have q1:=bk.new w1 (.bool xm) (.slice xp xl xc) (.slice xq xk xd) (.bool ym) (.slice yp yl yc) (.slice yq yk yd) 110;have m1:=ae w1 (.cells #[.bool xm,.slice xp xl xc,.slice xq xk xd,.bool ym,.slice yp yl yc,.slice yq yk yd] 110);generalize w1.alloc (.cells #[.bool xm,.slice xp xl xc,.slice xq xk xd,.bool ym,.slice yp yl yc,.slice yq yk yd] 110)=w2 at *
    have a0:=q1.c0;have a1:=q1.c1;have a2:=q1.c2;have a3:=q1.c3;have a4:=q1.c4;have a5:=q1.c5;have hB2:=hB1.trans (m1.mono hB1.size);have hk2:=hk.below m1;have hw2:=hw1.below m1;have hbs:=hB2.size;have hzl:zs.length<1000000000:=by have:=gg HT.out;simp at this;omega
    clear q1 m1 hB1 hk hw1;go_wp2_with (at_builtin;refine fO 142 Tryz.underlying142 rfl (.tmp 25) (.tmp 27) rfl w.heap.size _ zs _ _ _ _ _ _ q rfl hw2 hk2 rfl hzl hbs ?_)
    intro v' w3 hw3 hb3 _;have hB3:=hb3 _ _ hB2 (rp _);clear hw2 hk2 hb3 hB2 a0 a1 a2 a3 a4 a5;go_wp2;go_roundw;case rel=>exact⟨i+1,zs++[q],by go_num,by omega,hw3,hB3,HT.out⟩
    case measure=>simp[intOf];omega
   ·have hbad:cG l=none:=mI hi (by rw[<-HS.out];exact eV hz);have HT:=ri hbad;clear hz hbad hcell hown;unfold di;go_wp2;refine t8 (v:=.tuple #[.slice none 0 0,.bool false]) (by simp[results,Tryz.results129,go_sem]) rfl ⟨_,_,rfl,Or.inr ⟨HT.out,rfl,rfl⟩,hB1.trans ((ae w1 _).mono hB1.size)⟩
  ·have hin':i=l.length:=by omega
   subst hin';clear hi;have hp:=hown.isP;have HT:=hall.out;rw[r_] at HT;go_wp2;refine t8 (v:=.tuple #[_,.bool true]) (by simp[results,Tryz.results129,go_sem]) rfl ⟨_,_,rfl,Or.inl ⟨zs,HT,rfl,hp⟩,hbr⟩
theorem pw (v:Value) (z:CQ) (w:World) (hk:IsK w v z) :
  Calls Tryz.prog 131 #[v] w fun e w'=>∃ u,e=.returned (.tuple #[u,.bool (decide (z.im=0))])/\IsQ w' u z.re/\Below w.heap.size w w':=by
 obtain⟨a,b,c,d,e,f,rfl,hax,hay⟩:=id hk.v;go_enter Tryz.func131,Tryz.ntmps131;go_upto_region 1 with fail
 have q1:=bk.new w a b c d e f 110;have m1:=ae w (.cells #[a,b,c,d,e,f] 110);have z1:=af w (.cells #[a,b,c,d,e,f] 110);generalize w.alloc (.cells #[a,b,c,d,e,f] 110)=w1 at *
 have q3:=aG.new w1 (.bool false) (.slice none 0 0) (.slice none 0 0) nofun nofun nofun;have m3:=ae w1 (.cells #[.bool false,.slice none 0 0,.slice none 0 0] 106);generalize w1.alloc (.cells #[.bool false,.slice none 0 0,.slice none 0 0] 106)=w3 at *
 have m4:Below w3.heap.size w3 w3.drew:=(t_ _ _).drew;rw[z1] at q3;refine aq (fun w'=>∃ x:bG (w.heap.size+1) w3.drew,w'=x.w) (fun i=>i == 3||i == 4) (by kernel_rfl) (by kernel_rfl) ⟨⟨_,t_ _ _⟩,rfl⟩ ?_;generalize w3.drew=wd at *
 have hB0:Below wd.heap.size wd wd:=t_ _ _;have M13:=m1.trans (m3.mono m1.size);have MD:=ri (M13.trans (m4.mono M13.size));have B1:=(q1.below m3).below m4;have B3:=ri (q3.below m4);have hz:w.heap.size+1<=wd.heap.size:=by have:=B3.out.lt;omega
 have e1:=fun x:bG (w.heap.size+1) wd=>B1.at x.h (by omega);have a0:=fun x=>(e1 x).c0;have a01:=fun x=>(e1 x).c1;have a02:=fun x=>(e1 x).c2;have a03:=fun x=>(e1 x).c3;have a04:=fun x=>(e1 x).c4;have a05:=fun x=>(e1 x).c5;have HK:=ri (hk.below MD.out);have HX:=ri (hax.below MD.out);clear e1 q1 q3 m1 m3 m4 z1 M13 hax hay B1 hk;refine aj 3 0 _ _ _ (by kernel_rfl) ?_;simp only[rC,rG,rB,rF];repeat (go_big_quiet_step (fail))
 refine wpQuiet_nil ?_;refine ai rfl rfl (fun K hK=>?_);go_simp;refine (bK _ _ _ HK.out.v).mono ?_;rintro e w4 ⟨rfl,hb4⟩;refine hK _ _ ⟨⟨_,hb4.mono hz⟩,rfl⟩ ?_;clear hK K;try simp only[Act.put,rm,rl,rk,rj,rr,rq]
 have hv4:=HX.out.below hb4;obtain⟨xm,xp,xl,xc,xq,xk,xd,hxe⟩:=hv4.form;obtain⟨rfl,rfl,rfl⟩:a=.bool xm/\b=.slice xp xl xc/\c=.slice xq xk xd:=by simpa using hxe
 clear hxe;have B8:=B3.out.below hb4;have k0:=B8.c0;have k1:=B8.c1;have k2:=B8.c2;have f0:=B8.fr 0;have f1:=B8.fr 1;have f2:=B8.fr 2;have P:=ri (B8.putR hv4);refine ai rfl rfl (fun K hK=>?_);go_simp;refine hK undef _ ⟨⟨_,P.out.2.2 _ _ (hb4.mono hz) (rp _)⟩,rfl⟩ ?_;clear hK K;try simp only[Act.put,rm,rl,rk,rj,rr,rq]
 refine aj 1 5 _ _ _ (by kernel_rfl) ?_;simp only[rC,rG,rB,rF];repeat (go_big_quiet_step (fail))
 refine wpQuiet_nil ?_;refine aP ?_;have M8:=ri (P.out.2.2 _ w (MD.out.trans (hb4.mono MD.out.size)) (by omega));have HS:=ri HK.out.s.x;have hd:decide ((ct z).y.n=0)=decide (z.im=0):=by show decide ((rt z.im).n=0)=_;simp only[br]
 have HD:=ri hd;clear hd;go_wp2_with fail
 have q0:=P.out.1.c0;have q1:=P.out.1.c1;have q2:=P.out.1.c2;refine t8 (v:=.tuple #[.agg #[.bool xm,.slice xp xl xc,.slice xq xk xd],.bool (decide ((ct z).y.n=0))]) (by simp[j6] at q0 q1 q2 |-;simp[results,Tryz.results131,go_sem,q0,q1,q2]) rfl ⟨_,by rw[HD.out],⟨P.out.2.1,HS.out⟩,M8.out⟩
def ff (zs:List CQ):Option (List Rat):=if zs.all (fun z=>decide (z.im=0)) then some (zs.map CQ.re) else none
theorem oL (v:Value) (zs:List CQ) (w:World) (hl:IsP w v zs) (hlen:zs.length<1000000000) :
  Calls Tryz.prog 130 #[v,.func (.func 131) #[] #[]] w fun e w'=>∃ v' ok,e=.returned (.tuple #[v',.bool ok])/\((∃ qs,ff zs=some qs/\ok=true/\IsL w' v' qs)\/(ff zs=none/\ok=false/\v'=.slice none 0 0))/\Below w.heap.size w w':=by
 obtain⟨p,c,rfl,hc1,hc2⟩:=hl.form;have HL:=ri hl;clear hl;go_enter Tryz.func130,Tryz.ntmps130;go_wp2;go_loopw [6,13] (fun s6 s13 wr=>∃ (i:Nat),s13=.int .i64 i/\i<=zs.length/\f8 wr w.heap.size s6 ((zs.map CQ.re).take i)/\Below w.heap.size w wr/\Hid ((zs.take i).all (fun z=>decide (z.im=0))=true)) (fun _ s13 _=>zs.length-(intOf s13).toNat)
 case atStart=>exact⟨0,rfl,rH _,f8.nil _ _,t_ _ _,rfl⟩
 case round =>
  obtain⟨i,rfl,hin,hown,hbr,hall⟩:=hrel;by_cases hi:i<zs.length
  ·obtain⟨b,o,rfl,hbl,xm,xp,xl,xc,xq,xk,xd,ym,yp,yl,yc,yq,yk,yd,hk,c0,c1,c2,c3,c4,c5⟩:=(HL.out.below hbr).get hi;obtain⟨z,hz⟩:∃ z,z=zs[i]:=⟨_,rfl⟩;rw[<-hz] at hk;have HZ:=ri hz;clear hz;go_upto_region 5 with fail
   have q1:=bk.new wr (.bool xm) (.slice xp xl xc) (.slice xq xk xd) (.bool ym) (.slice yp yl yc) (.slice yq yk yd) 110;have m1:=ae wr (.cells #[.bool xm,.slice xp xl xc,.slice xq xk xd,.bool ym,.slice yp yl yc,.slice yq yk yd] 110);generalize wr.alloc (.cells #[.bool xm,.slice xp xl xc,.slice xq xk xd,.bool ym,.slice yp yl yc,.slice yq yk yd] 110)=w2 at *
   have a0:=q1.c0;have a1:=q1.c1;have a2:=q1.c2;have a3:=q1.c3;have a4:=q1.c4;have a5:=q1.c5;have hB2:=hbr.trans (m1.mono hbr.size);have hk2:=hk.below m1;have hw2:=hown.below m1;clear q1 m1 hbr hk hown c0 c1 c2 c3 c4 c5;go_wp2_with fail
   refine (pw _ z w2 hk2).mono ?_;rintro e w3 ⟨u,rfl,hu,hb3⟩;have hB3:=hB2.trans (hb3.mono hB2.size);have hw3:=hw2.below hb3;obtain⟨um,up,ul,uc,uq,uk,ud,rfl⟩:=hu.forms;clear hb3 hB2 hk2 hw2 a0 a1 a2 a3 a4 a5;by_cases him:z.im=0
   ·have hstep:(zs.take (i+1)).all (fun z=>decide (z.im=0))=true:=by
     rw[show zs.take (i+1)=zs.take i++[zs[i]] from (rL hi).symm,tk,hall.out,<-HZ.out];simp[him]
    have hmap:(zs.map CQ.re).take (i+1)=(zs.map CQ.re).take i++[z.re]:=by
     rw[show (zs.map CQ.re).take (i+1)=(zs.map CQ.re).take i++[(zs.map CQ.re)[i]'(by simpa using hi)] from (rL _).symm,sm,<-HZ.out]
    have HT:=ri hstep;have HM:=ri hmap;rw[decide_eq_true him];clear hstep hmap him hall;go_upto_region 6 with fail
    have q1:=aG.new w3 (.bool um) (.slice up ul uc) (.slice uq uk ud) nofun nofun nofun;have m1:=ae w3 (.cells #[.bool um,.slice up ul uc,.slice uq uk ud] 106);generalize w3.alloc (.cells #[.bool um,.slice up ul uc,.slice uq uk ud] 106)=w4 at *
    have a0:=q1.c0;have a1:=q1.c1;have a2:=q1.c2;have hB4:=hB3.trans (m1.mono hB3.size);have hu4:=hu.below m1;have hw4:=hw3.below m1;have hbs:=hB4.size;have hzl:((zs.map CQ.re).take i).length<1000000000:=by simp;omega
    clear q1 m1 hB3 hu hw3;go_wp2_with (at_builtin;refine fN 118 Tryz.underlying118 rfl (.tmp 25) (.tmp 27) rfl w.heap.size _ _ _ _ _ z.re rfl hw4 hu4 rfl hzl hbs ?_)
    intro v' w5 hw5 hb5 _;have hB5:=hb5 _ _ hB4 (rp _);rw[<-HM.out] at hw5;clear hw4 hu4 hb5 hB4 a0 a1 a2;go_wp2;go_roundw;case rel=>exact⟨i+1,by go_num,by omega,hw5,hB5,HT.out⟩
    case measure=>simp[intOf];omega
   ·have hbad:ff zs=none:=by
     unfold ff;rw[if_neg];rw[Bool.not_eq_true,List.all_eq_false];exact⟨zs[i],rU hi,by rw[<-HZ.out];simpa using him⟩
    have HT:=ri hbad;rw[decide_eq_false him];clear hbad him hall hw3;go_wp2;refine t8 (v:=.tuple #[.slice none 0 0,.bool false]) (by simp[results,Tryz.results130,go_sem]) rfl ⟨_,_,rfl,Or.inr ⟨HT.out,rfl,rfl⟩,hB3.trans ((ae w3 _).mono hB3.size)⟩
  ·have hin':i=zs.length:=by omega
   subst hin';clear hi;have hp:=hown.isL;have HT:=hall.out;rw[r_] at HT;rw[show zs.length=(zs.map CQ.re).length by simp,r_] at hp;go_wp2;refine t8 (v:=.tuple #[_,.bool true]) (by simp[results,Tryz.results130,go_sem]) rfl ⟨_,_,rfl,Or.inl ⟨zs.map CQ.re,by unfold ff;rw[if_pos HT],rfl,hp⟩,hbr⟩
end Go.Proofs.YtmakbmhlemhgeaaGreatDoor
