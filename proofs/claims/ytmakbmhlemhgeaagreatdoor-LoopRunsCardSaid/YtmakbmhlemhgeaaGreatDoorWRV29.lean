/- L -/
import Derived.Test.YtmakbmhlemhgeaaGreatDoorWRQ3
import Derived.Test.YtmakbmhlemhgeaaGreatDoorWRS5
import Derived.Test.YtmakbmhlemhgeaaGreatDoorWLH1
import Derived.Test.YtmakbmhlemhgeaaGreatDoorWRV24
import Derived.Test.YtmakbmhlemhgeaaGreatDoorWRV27
import Derived.Test.YtmakbmhlemhgeaaGreatDoorWB
set_option linter.all false
set_option maxRecDepth 100000
set_option maxHeartbeats 8000000
namespace Go.Proofs.YtmakbmhlemhgeaaGreatDoor
open Dg Dc
def qZ (t:List UInt8):Prop:=∀ c,t.head?=some c->bo c=false/\c≠47
theorem jT {c:UInt8}{t:List UInt8} (h:bo c=false/\c≠47):qZ (c :: t):=fun d hd=>by
 simp at hd;subst hd;exact h
theorem qI {r:Rt} (h:fd r) (hb:b8 r=false) {t:List UInt8} (ht:qZ t):b9 (fi r++t)=(⟨false,r.n,r.d⟩,t):=by
 obtain⟨h1,h2⟩:=lw hb;have hp:=fk r.n;have hpos:=h.pos;unfold fi
 split
 ·rename_i hd
  rw[Hk,Hn];obtain⟨e1,e2⟩:=iX (n:=r.n) (t:=47 :: (dec r.d++t)) (by omega) (fun c hc=>by simp at hc;subst hc;decide);obtain⟨e3,_⟩:=iX (n:=r.d) (t:=t) (by omega) (fun c hc=>(ht c hc).1);unfold b9;rw[e2,if_neg (by omega),e1];simp only[IZ,JD,Ju];rw[e3,if_pos ⟨by simp,by show r.d≠0;omega⟩];have:=lP (r:=⟨false,r.n,r.d⟩) ⟨h.pos,h.gcd,fun h=>by cases h⟩;rw[this]
 ·rename_i hd
  rw[Ic];obtain⟨e1,e2⟩:=iX (n:=r.n) (t:=t) (by omega) (fun c hc=>(ht c hc).1);rw[show r.d=1 by omega];unfold b9;rw[e2,if_neg (by omega),e1];simp only;rw[if_neg (fun hh=>(ht 47 hh.1).2 rfl)]
theorem mh {r:Rt} (h:fd r) (hb:b8 r=false) {t:List UInt8} (ht:qZ t):bO (aJ r++t)=(r,t):=by
 rw[eB];have hp:=qI h hb ht;obtain⟨c,l,e1,e2⟩:=jQ r;obtain⟨m,n,d⟩:=r
 cases m
 ·simp only[G8,if_false,Hh];obtain⟨n1,n2,_⟩:=jp e2;unfold bO;rw[e1] at hp |-;rw[Hn] at hp |-;simp only[IZ,Option.some.injEq];rw[if_neg n2,if_neg n1];exact hp
 ·simp only[if_true];have hs:=h.sign rfl;simp only at hs;unfold bO;simp only[Hn,Hh,IZ,if_true,JD,Ju];rw[hp];unfold m7;simp[hs]
theorem B9 {r:Rt} (h:fd r) (hb:b8 r=false) (e:aJ r=[49]):r=⟨false,1,1⟩:=by
 have h1:=ld h hb;rw[e] at h1;have h2:bO [49]=(⟨false,1,1⟩,[]):=by kernel_rfl
 rw[h2] at h1
 injection h1 with h1 _
 exact h1.symm
theorem vQ {r:Rt} (h:fd r) (hb:b8 r=false) (e:aJ r=[45,49]):r=⟨true,1,1⟩:=by
 have h1:=ld h hb;rw[e] at h1;have h2:bO [45,49]=(⟨true,1,1⟩,[]):=by kernel_rfl
 rw[h2] at h1
 injection h1 with h1 _
 exact h1.symm
theorem sH:qZ [105]:=jT (by decide)
theorem GD {r:Rt} (h:fd r) (hb:b8 r=false):bO (bI r++[105])=(r,[105])/\(r.minus=false->b9 (bI r++[105])=(r,[105]))/\(r.minus=true->∃ l,bI r=45 :: l):=by
 unfold bI;by_cases e1:aJ r=[49]
 ·rw[if_pos (Or.inl e1)];obtain rfl:=B9 h hb e1;rw[e1];exact⟨by kernel_rfl,fun _=>by kernel_rfl,fun h=>by cases h⟩
 ·by_cases e2:aJ r=[45,49]
  ·rw[if_pos (Or.inr e2)];obtain rfl:=vQ h hb e2;rw[e2];exact⟨by kernel_rfl,(fun h=>by cases h),fun _=>⟨[],rfl⟩⟩
  ·rw[if_neg (by rintro (h | h);exact e1 h;exact e2 h)];refine⟨mh h hb sH,fun hm=>?_,fun hm=>?_⟩
   ·rw[eB,hm];have:=qI h hb sH;simp only[G8,if_false,Hh];rw[this,<-hm]
   ·rw[eB,hm];exact⟨fi r,rfl⟩
theorem sL {r:Rt} (h:fd r) (h0:r.n=0):r=fv:=by
 have hd:=sK h h0;have hs:=h.sign;obtain⟨m,n,d⟩:=r;simp only at h0 hd hs;subst h0;subst hd
 cases m
 ·rfl
 ·exact absurd rfl (hs rfl)
theorem zX {z:Vl} (hx:fd z.x) (hy:fd z.y) (bx:b8 z.x=false) (hb:b8 z.y=false):aV (bE z)=z:=by
 by_cases h0:z.y.n=0
 ·rw[cz h0,jz hx bx];have:=sL hy h0;obtain⟨x,y⟩:=z;simp only at this |-;rw[this]
 ·obtain⟨y1,y2,y3⟩:=GD hy hb;unfold bE;rw[if_neg h0];by_cases hx0:z.x.n=0
  ·rw[if_pos hx0,Hh];unfold aV;rw[y1];simp only[if_true];have:=sL hx hx0;obtain⟨x,y⟩:=z;simp only at this |-;rw[this]
  ·rw[if_neg hx0]
   cases hm:z.y.minus with
   | false =>
    simp only[G8,if_false];rw[Hk,Hk];have e:=mh hx bx (t:=[43]++(bI z.y++[105])) (jT (by decide));unfold aV;rw[e];simp only[Hn,Hh];rw[if_neg (by simp),if_neg (by simp)];unfold bO;simp only[IZ,JD,Ju];rw[if_neg (by decide),if_pos trivial,y2 hm]
   | true =>
    obtain⟨l,hl⟩:=y3 hm;simp only[if_true];rw[Ic,Hk];have e:=mh hx bx (t:=bI z.y++[105]) (by rw[hl];exact jT (by decide));unfold aV;rw[e];simp only;rw[if_neg (by rw[hl];simp),if_neg (by simp),y1]
theorem ui {z:CQ} (h:dE z=false):aV (txt z).data.toList=ct z/\rOK (txt z).data.toList=true:=by
 unfold dE at h;simp only[If] at h;have e:(txt z).data.toList=bE (ct z):=by unfold txt;simp
 have hr:aV (bE (ct z))=ct z:=zX (jm _) (jm _) h.1 h.2;rw[e];refine⟨hr,?_⟩;unfold rOK;rw[hr];have h1:b8 (ct z).x=false:=h.1;have h2:b8 (ct z).y=false:=h.2;rw[h1,h2];simp
theorem Ef {s:ByteArray} (h:rOK s.data.toList=true):∃ z,s=txt z/\dE z=false/\aV s.data.toList=ct z:=by
 unfold rOK at h;simp only[G9,decide_eq_true_eq,J3,If] at h;obtain⟨h1,h2,h3⟩:=h;obtain⟨c1,c2⟩:=gG s.data.toList
 have e:ct ⟨toQ (aV s.data.toList).x,toQ (aV s.data.toList).y⟩=aV s.data.toList:=by
  unfold ct;rw[mj c1,mj c2]
 refine⟨⟨toQ (aV s.data.toList).x,toQ (aV s.data.toList).y⟩,?_,?_,e.symm⟩
 ·unfold txt;rw[e,h1]
 ·unfold dE
  show (b8 (rt (toQ _))||b8 (rt (toQ _)))=false
  rw[mj c1,mj c2,h2,h3];rfl
theorem uF {q:Rat} (hq:okQ q):eZ (tq q).data.toList=dR (rt q):=by
 have e:(tq q).data.toList=aJ (rt q):=by
  show bE (ct (CQ.real q))=_
  rw[cz (z:=ct (CQ.real q)) (by show (rt 0).n=0;rw[dU])];rfl
 unfold eZ;rw[e,(jb (rt q)).1,kH (rt q) (dz q)]
theorem CS (s:ByteArray):(rOK s.data.toList&&dR (aV s.data.toList).x&&dR (aV s.data.toList).y)=d8 s:=by
 cases hg:fz s with
 | none =>
  have e1:d8 s=false:=by unfold d8 ofC;rw[hg];rfl
  have e2:rOK s.data.toList=false:=by
   rw[Hx];intro h;obtain⟨z,rfl,hb,-⟩:=Ef h;rw[gU hb] at hg
   cases hg
  rw[e1,e2];rfl
 | some z =>
  obtain⟨hb,rfl,-⟩:=gT hg;obtain⟨e1,e2⟩:=ui hb;rw[e1,e2];have hbb:=hb;unfold dE at hbb;simp only[If] at hbb;have k1:okQ z.re:=(gC _).2 hbb.1;have k2:okQ z.im:=(gC _).2 hbb.2;unfold d8 ofC;rw[hg];simp only;simp only[kg k1,kg k2,uF k1,uF k2];simp[ct]
open Go.RowKit Dg
theorem qL (v:Value) (qs:List Rat) (w:World) (hl:IsS w v (qs.map tq)) (hq:∀ q∈qs,okQ q) (hlen:qs.length<1000000) :
  Calls Tryz.prog 55 #[v] w fun e w'=>∃ v',e=.returned v'/\gN w' w.heap.size v' (qs.map CQ.real)/\Below w.heap.size w w':=by
 obtain⟨p,c,rfl,hc1,hc2⟩:=hl.form;rw[Hj] at hc1 hl |-;have HL:=GF hl;have HN:=GF hlen;clear hl;go_enter Tryz.func55,Tryz.ntmps55;go_wp2;go_loopw [3,4] (fun s3 s4 wr=>∃ (i:Nat),s4=.int .i64 i/\i<=qs.length/\gN wr w.heap.size s3 ((qs.map CQ.real).take i)/\Below w.heap.size w wr) (fun _ s4 _=>qs.length-(intOf s4).toNat)
 case atStart=>exact⟨0,rfl,GY _,gN.nil _ _,Ki _ _⟩
 case round =>
  obtain⟨i,rfl,hin,hown,hbr⟩:=hrel;by_cases hi:i<qs.length
  ·obtain⟨b,o,rfl,hlt,hcell⟩:=IsS.get (HL.out.below hbr) (i:=i) (by simpa using hi);rw[Ie] at hcell;have HO:=GF (xY (hq qs[i] (G7 hi)))
   have HT:=GF (show (qs.map CQ.real).take (i+1)=(qs.map CQ.real).take i++[CQ.real qs[i]] by
    rw[show (qs.map CQ.real).take (i+1)=(qs.map CQ.real).take i++[(qs.map CQ.real)[i]'(by simpa using hi)] from (GZ _).symm,Ie])
   obtain⟨q,hqe⟩:∃ q,q=qs[i]:=⟨_,rfl⟩;rw[<-hqe] at hcell HO HT;clear hqe;generalize htx:tq q=s at hcell HO;clear htx;go_wp2_with fail
   have hCC:=lD s wr;rw[HO.out] at hCC;refine hCC.mono ?_;rintro e w2 ⟨v2,rfl,hv2,hb2⟩;obtain⟨m,a,N,d,a',N',d',m2,x,M,e,x',M',e',rfl,-,-⟩:=cF.parts (c:=CQ.real q) hv2;have hv2:cF _ _ (CQ.real q):=hv2;have hB2:=hbr.trans (hb2.mono hbr.size);have hw2:=hown.below hb2;clear hCC hb2 hown hcell hbr;have l2:=jH w2 (.cells #[.bool m,.slice a N d,.bool false,.slice a' N' d',.bool m2,.slice x M e,.bool false,.slice x' M' e'] 92) (.cells #[.bool m,.slice a N d,.bool false,.slice a' N' d',.bool m2,.slice x M e,.bool false,.slice x' M' e'] 92);have m1:=l2.below;have hcx:=l2.s1;clear l2;have hu3:=hv2.below m1;have hw3:=hw2.below m1;have hB3:=hB2.trans (m1.mono hB2.size);have hbs:=hB3.size;have hzl:((qs.map CQ.real).take i).length<1000000000:=by have:=HN.out;simp;omega
   clear hv2 hw2 hB2 m1;go_wp2_with (at_builtin;refine m9 97 Tryz.underlying97 rfl (.tmp 21) (.tmp 23) rfl w.heap.size _ _ m a N d a' N' d' m2 x M e x' M' e' (CQ.real q) rfl hw3 _ rfl hcx hu3 hzl hbs ?_)
   intro v' w4 hap;have hB4:=hap.below hw3 hB3 (GM _) hbs;have hw4:=hap.own;rw[<-HT.out] at hw4;clear hap hw3 hu3 hcx hB3 hbs hzl;go_wp2;go_roundw;case rel=>exact⟨i+1,by go_num,by omega,hw4,hB4⟩
   case measure=>simp[intOf];omega
  ·have hin':i=qs.length:=by omega
   subst hin';clear hi;rw[show (qs.map CQ.real).take qs.length=qs.map CQ.real from GU (by simp)] at hown;go_wp2;refine Kh (v:=_) (by simp[results,Tryz.results55,go_sem]) rfl ⟨_,rfl,hown,hbr⟩
structure Oct (w:World) (B o:Nat) (u0 u1 u2 u3 u4 u5 u6 u7:Value):Prop where
 c0:w.cell? ⟨B,o,none⟩=some u0
 c1:w.cell? ⟨B,o+1,none⟩=some u1
 c2:w.cell? ⟨B,o+2,none⟩=some u2
 c3:w.cell? ⟨B,o+3,none⟩=some u3
 c4:w.cell? ⟨B,o+4,none⟩=some u4
 c5:w.cell? ⟨B,o+5,none⟩=some u5
 c6:w.cell? ⟨B,o+6,none⟩=some u6
 c7:w.cell? ⟨B,o+7,none⟩=some u7
theorem Oct.below {w w':World}{B o n:Nat}{u0 u1 u2 u3 u4 u5 u6 u7:Value} (h:Oct w B o u0 u1 u2 u3 u4 u5 u6 u7) (hb:Below n w w') (hB:B<n):Oct w' B o u0 u1 u2 u3 u4 u5 u6 u7 :=
 ⟨aj hb hB h.c0,aj hb hB h.c1,aj hb hB h.c2,aj hb hB h.c3,aj hb hB h.c4,aj hb hB h.c5,aj hb hB h.c6,aj hb hB h.c7⟩
theorem Oct.of {w:World}{B:Nat}{u0 u1 u2 u3 u4 u5 u6 u7:Value}{T:TypeId} (h:w.heap[B]?=some (.cells #[u0,u1,u2,u3,u4,u5,u6,u7] T (0,0))):Oct w B 0 u0 u1 u2 u3 u4 u5 u6 u7 :=
 ⟨ai h 0,ai h 1,ai h 2,ai h 3,ai h 4,ai h 5,ai h 6,ai h 7⟩
theorem Bc (x:CQ) (qs:List Rat):evQ x (qs.drop qs.length)=⟨0,0⟩:=by rw[JE];rfl
theorem Bd (x:CQ) (qs:List Rat) (k:Nat) (h:k<qs.length):evQ x (qs.drop k)=((evQ x (qs.drop (k+1))).mul x).add (CQ.real qs[k]):=by
 rw[Iq h];rfl
theorem Cy (vp vx:Value) (qs:List Rat) (x:CQ) (w:World) (hp:nE w vp (qs.map CQ.real)) (hx:cF w vx x) (hbx:SzV 2000 (ct x)) (hlen:qs.length<1000000) (hok:∀ i,i<=qs.length->SzV 2000 (ct (evQ x (qs.drop i)))) (hq:∀ q∈qs,SzV 2000 (ct (CQ.real q))) :
  Calls Tryz.prog 54 #[vp,vx] w fun e w'=>∃ v',e=.returned v'/\cF w' v' (evQ x qs)/\Below w.heap.size w w':=by
 obtain⟨pp,pc,rfl,hc1,hc2⟩:=hp.form;obtain⟨m,p,N,d,p',N',d',m2,q,M,e,q',M',e',rfl,ax,ay⟩:=hx.parts;rw[Hj] at hc1 hp |-;have HP:=GF hp;have HX:=GF hx;have HN:=GF hlen;have HOK:=GF hok;have HQ:=GF hq;have HBX:=GF hbx;clear hp hx ax ay hbx hok hq;go_enter Tryz.func54,Tryz.ntmps54;go_upto_region 1 with fail
 have l1:=jH w (.cells #[.bool m,.slice p N d,.bool false,.slice p' N' d',.bool m2,.slice q M e,.bool false,.slice q' M' e'] 92) (.cells #[.bool false,.slice none 0 0,.bool false,.slice none 0 0,.bool false,.slice none 0 0,.bool false,.slice none 0 0] 92);have hBB:=l1.below;have s0:=l1.s0;have hrr:=l1.s1;have hz0:=l1.size;clear l1;generalize (w.alloc (.cells #[.bool m,.slice p N d,.bool false,.slice p' N' d',.bool m2,.slice q M e,.bool false,.slice q' M' e'] 92)).alloc (.cells #[.bool false,.slice none 0 0,.bool false,.slice none 0 0,.bool false,.slice none 0 0,.bool false,.slice none 0 0] 92)=w2 at *
 have HPP:=GF (HP.out.below hBB);have HYtmakbmhlemhgeaaGreatDoor:=GF (HX.out.below hBB);go_wp2_with fail
 have H0:Calls Tryz.prog 57 #[.int .i64 0] w2 _:=CC 0 (by decide) w2;refine H0.mono ?_;rintro e w3 ⟨v1,rfl,hv1,hb⟩;obtain⟨om,oa,oN,od,oa',oN',od',om2,ob,oM,oe,ob',oM',oe',rfl,-,-⟩:=hv1.parts;go_upto_region 2 with fail
 have lx:=bA w3 (.cells #[.bool om,.slice oa oN od,.bool false,.slice oa' oN' od',.bool om2,.slice ob oM oe,.bool false,.slice ob' oM' oe'] 92);have hv2:=hv1.below lx.below;have hb2:=hb.trans (lx.below.mono hb.size);have hso:=lx.s0;have hgn:w2.heap.size<=w3.heap.size:=hb.size;clear lx hv1 hb H0;generalize World.alloc w3 (.cells #[.bool om,.slice oa oN od,.bool false,.slice oa' oN' od',.bool om2,.slice ob oM oe,.bool false,.slice ob' oM' oe'] 92)=wl at *
 generalize (World.heap w3).size=gn at *
 have HXO:=GF (Oct.of s0);have HRR:=GF hrr;have HBB:=GF hBB;have HB2:=GF hb2;have HV2:=GF hv2;have HSO:=GF hso;have hg2:w.heap.size+2<=gn:=by omega
 have HG:=GF (And.intro hz0 (And.intro hgn hg2));clear s0 hrr hBB hb2 hv2 hso hz0 hgn;go_wp2;go_loopw [6] (fun s6 wr=>∃ k:Nat,s6=.int .i64 ((k:Int)-1)/\k<=qs.length/\(∃ om oa oN od oa' oN' od' om2 ob oM oe ob' oM' oe',wr.heap[gn]?=some (.cells #[.bool om,.slice oa oN od,.bool false,.slice oa' oN' od',.bool om2,.slice ob oM oe,.bool false,.slice ob' oM' oe'] 92 (0,0))/\cF wr (.agg #[.bool om,.slice oa oN od,.bool false,.slice oa' oN' od',.bool om2,.slice ob oM oe,.bool false,.slice ob' oM' oe']) (evQ x (qs.drop k)))/\Below w2.heap.size w2 wr) (fun s6 _=>(intOf s6+1).toNat)
 case atStart=>exact⟨qs.length,rfl,GM _,⟨_,_,_,_,_,_,_,_,_,_,_,_,_,_,HSO.out,by rw[Bc];exact HV2.out⟩,HB2.out⟩
 case round =>
  obtain⟨k,rfl,hkn,⟨om,oa,oN,od,oa',oN',od',om2,ob,oM,oe,ob',oM',oe',hso,hvo⟩,hbr⟩:=hrel;clear HSO HV2 HB2
  cases k with
  | zero =>
   rw[GR] at hvo;have hrr:=GF ((hbr.block (w.heap.size+1) (by have:=HG.out;omega)).trans HRR.out);have o0:=ai hso 0;have o1:=ai hso 1;have o2:=ai hso 2;have o3:=ai hso 3;have o4:=ai hso 4;have o5:=ai hso 5;have o6:=ai hso 6;have o7:=ai hso 7;have hrr:=hrr.out;have q0:=ai hrr 0;have q1:=ai hrr 1;have q2:=ai hrr 2;have q3:=ai hrr 3;have q4:=ai hrr 4;have q5:=ai hrr 5;have q6:=ai hrr 6;have q7:=ai hrr 7;have f0:=Kg wr (w.heap.size+1) 0 _ _ hrr;have f1:=Kg wr (w.heap.size+1) 1 _ _ hrr;have f2:=Kg wr (w.heap.size+1) 2 _ _ hrr;have f3:=Kg wr (w.heap.size+1) 3 _ _ hrr;have f4:=Kg wr (w.heap.size+1) 4 _ _ hrr;have f5:=Kg wr (w.heap.size+1) 5 _ _ hrr;have f6:=Kg wr (w.heap.size+1) 6 _ _ hrr;have f7:=Kg wr (w.heap.size+1) 7 _ _ hrr;have hP:=bK (u0:=.bool om) (u1:=.slice oa oN od) (u2:=.bool false) (u3:=.slice oa' oN' od') (u4:=.bool om2) (u5:=.slice ob oM oe) (u6:=.bool false) (u7:=.slice ob' oM' oe') hrr;obtain⟨v1',v2',v3',v4',v5',v6',v7',v8',v9',v10',v11',v12',v13',v14',hv0,hvx,hvy⟩:=hvo.parts;simp only[Value.agg.injEq,Array.mk.injEq,List.cons.injEq,and_true,Value.bool.injEq,Value.slice.injEq] at hv0;obtain⟨rfl,⟨rfl,rfl,rfl⟩,-,⟨rfl,rfl,rfl⟩,rfl,⟨rfl,rfl,rfl⟩,-,rfl,rfl,rfl⟩:=hv0;have HZ:=GF (cF.mk (c:=evQ x qs) (bV.puts hvx hP hrr bJ) (bV.puts hvy hP hrr bJ));have HROW:=GF hP.row;have HBF:=GF ((HBB.out.trans (hbr.mono (by have:=HG.out;omega))).trans (hP.below w.heap.size (by omega)))
   clear hP hvx hvy hso hrr hbr hvo;go_wp2;change bodyPost _ _ _ _ _ (cS wr (w.heap.size+1) (.bool om) (.slice oa oN od) (.bool false) (.slice oa' oN' od') (.bool om2) (.slice ob oM oe) (.bool false) (.slice ob' oM' oe'));refine Kh (results_cell_row rfl _ _ (w.heap.size+1) _ _ (0,0) _ rfl HROW.out Tryz.underlying92 rfl (by kernel_rfl)) rfl ?_;exact⟨_,rfl,HZ.out,HBF.out⟩
  | succ k =>
   have e1:((k+1:Nat):Int)-1=(k:Int):=by omega
   rw[e1];clear e1;have hk:k<qs.length:=hkn;have hd:decide ((k:Int) ≥ 0)=true:=decide_eq_true (by omega);obtain⟨b,o,rfl,hlt,am,aa,aN,ad,aa',aN',ad',am2,ab,aM,ae,ab',aM',ae',hqe,c0,c1,c2,c3,c4,c5,c6,c7⟩:=(HPP.out.below hbr).get (i:=k) (by simpa using hk);rw[Ie] at hqe;have HSQ:=GF (HQ.out qs[k] (G7 hk));have HST:=GF (Bd x qs k hk);have HS1:=GF (HOK.out (k+1) hkn);obtain⟨r,hr⟩:∃ r,r=qs[k]:=⟨_,rfl⟩;rw[<-hr] at hqe HSQ HST;obtain⟨y,hy⟩:∃ y,y=evQ x (qs.drop (k+1)):=⟨_,rfl⟩;rw[<-hy] at hvo HST HS1;clear hr hy;have HEL:=GF (Oct.mk c0 c1 c2 c3 c4 c5 c6 c7);clear c0 c1 c2 c3 c4 c5 c6 c7;go_upto_region 5 with fail
   have hBd:Below wr.heap.size wr wr.drew:=(Ki _ _).drew;refine aD (fun wx:World=>Below wr.drew.heap.size wr.drew wx) (fun j=>j == 8) (by kernel_rfl) ?_;have hgw:gn<wr.heap.size:=ak hso;have hw2:w.heap.size<w2.heap.size:=by have:=HG.out;omega
   have HCE:=GF (fun (wy:World) (hy:Below wr.drew.heap.size wr.drew wy)=>(HEL.out.below hBd hlt).below hy (GN hlt hBd.size));have HCX:=GF (fun (wy:World) (hy:Below wr.drew.heap.size wr.drew wy)=>((HXO.out.below hbr hw2).below hBd (GN hw2 hbr.size)).below hy (GN (GN hw2 hbr.size) hBd.size));have HCO:=GF (fun (wy:World) (hy:Below wr.drew.heap.size wr.drew wy)=>((Oct.of hso).below hBd hgw).below hy (GN hgw hBd.size));have HXD:=GF ((HYtmakbmhlemhgeaaGreatDoor.out.below hbr).below hBd);have HOD:=GF (hvo.below hBd);have HED:=GF (hqe.below hBd);have HSD:=GF ((hBd.block _ hgw).trans hso);have HBD:=GF (hbr.trans (hBd.mono hbr.size));clear hso hvo hqe hbr hlt hgw hw2 hBd HEL;generalize wr.drew=wd at *
   have hS:Below wd.heap.size wd wd:=Ki _ _;refine aE (i:=0) (v:=?vv0A) rfl (by kernel_rfl) (fun _ _ _ h=>h) rfl hS ?hy0A ?rest0A
   case hy0A =>
    intro wy hy;obtain⟨t0,t1,t2,t3,t4,t5,t6,t7⟩:=HCO.out wy hy;clear hy;try simp only[Hp] at t1 t2 t3 t4 t5 t6 t7
    go_simp;try with_reducible rfl
   try simp only[Act.put,GJ,GI,GH,GG,GL,GK]
   refine aE (i:=1) (v:=?vv1A) rfl (by kernel_rfl) (fun _ _ _ h=>h) rfl hS ?hy1A ?rest1A
   case hy1A =>
    intro wy hy;obtain⟨t0,t1,t2,t3,t4,t5,t6,t7⟩:=HCX.out wy hy;clear hy;try simp only[Hp] at t1 t2 t3 t4 t5 t6 t7
    go_simp;try with_reducible rfl
   try simp only[Act.put,GJ,GI,GH,GG,GL,GK]
   refine Kf 3 (r:=?_)
   try simp only[Act.put,GJ,GI,GH,GG,GL,GK]
   refine Kf 4 (r:=?_)
   try simp only[Act.put,GJ,GI,GH,GG,GL,GK]
   refine Kf 5 (r:=?_)
   try simp only[Act.put,GJ,GI,GH,GG,GL,GK]
   refine aE (i:=6) (v:=?vv6A) rfl (by kernel_rfl) (fun _ _ _ h=>h) rfl hS ?hy6A ?rest6A
   case hy6A =>
    intro wy hy;obtain⟨t0,t1,t2,t3,t4,t5,t6,t7⟩:=HCE.out wy hy;clear hy;try simp only[Hp] at t1 t2 t3 t4 t5 t6 t7
    go_simp;try with_reducible rfl
   try simp only[Act.put,GJ,GI,GH,GG,GL,GK]
   refine aA (i:=2) rfl (by kernel_rfl) rfl (fun K hK=>?_);go_simp;refine (x9 _ _ y x 2000 2000 wd HOD.out HXD.out HS1.out HBX.out (by decide)).mono ?_;rintro e w5 ⟨v5,rfl,hv5,hb5⟩;obtain⟨pm,paa,pN,pd,paa',pN',pd',pm2,pbb,pM,pe,pbb',pM',pe',rfl,-,-⟩:=hv5.parts;refine hK _ _ (fun _ _=>hb5) ?_;clear hK K;try simp only[Act.put,GJ,GI,GH,GG,GL,GK]
   refine aA (i:=7) rfl (by kernel_rfl) rfl (fun K hK=>?_);go_simp;refine (xZ _ _ (y.mul x) (CQ.real r) 8001 2000 w5 hv5 (HED.out.below hb5) (by rw[<-cV];exact HS1.out.times HBX.out) HSQ.out (by decide)).mono ?_;rintro e w6 ⟨v6,rfl,hv6,hb6⟩;obtain⟨xm,xa,xN,xd,xb,xM,xe,ym,ya,yN,yd,yb,yM,ye,rfl,hvx,hvy⟩:=hv6.parts;have hB6:=hb5.trans (hb6.mono hb5.size);refine hK _ _ (fun _ _=>hB6) ?_;clear hK K;try simp only[Act.put,GJ,GI,GH,GG,GL,GK]
   have hrr:=(hB6.block _ (ak HSD.out)).trans HSD.out;have HB7:=GF (HBD.out.trans (hB6.mono HBD.out.size));clear hB6 hb5 hb6 hS hv5 HOD HXD HED HCE HCX HCO HSD HBD hv6;rename World=>wn;rw[<-HST.out] at hvx hvy;have q0:=ai hrr 0;have q1:=ai hrr 1;have q2:=ai hrr 2;have q3:=ai hrr 3;have q4:=ai hrr 4;have q5:=ai hrr 5;have q6:=ai hrr 6;have q7:=ai hrr 7;have f0:=Kg wn (gn) 0 _ _ hrr;have f1:=Kg wn (gn) 1 _ _ hrr;have f2:=Kg wn (gn) 2 _ _ hrr;have f3:=Kg wn (gn) 3 _ _ hrr;have f4:=Kg wn (gn) 4 _ _ hrr;have f5:=Kg wn (gn) 5 _ _ hrr;have f6:=Kg wn (gn) 6 _ _ hrr;have f7:=Kg wn (gn) 7 _ _ hrr;have hP:=bK (u0:=.bool xm) (u1:=.slice xa xN xd) (u2:=.bool false) (u3:=.slice xb xM xe) (u4:=.bool ym) (u5:=.slice ya yN yd) (u6:=.bool false) (u7:=.slice yb yM ye) hrr;have HZ:=GF (cF.mk (c:=evQ x (qs.drop k)) (bV.puts hvx hP hrr bJ) (bV.puts hvy hP hrr bJ));have HROW:=GF hP.row;have HBF:=GF (HB7.out.trans (hP.below w2.heap.size HG.out.2.1));clear hP hvx hvy hrr HB7;refine aA (i:=8) rfl (by kernel_rfl) rfl (fun K hK=>?_);go_simp;change K _ (cS wn gn (.bool xm) (.slice xa xN xd) (.bool false) (.slice xb xM xe) (.bool ym) (.slice ya yN yd) (.bool false) (.slice yb yM ye));refine hK _ _ (fun h=>by cases h) ?_;clear hK K q0 q1 q2 q3 q4 q5 q6 q7 f0 f1 f2 f3 f4 f5 f6 f7;try simp only[Act.put,GJ,GI,GH,GG,GL,GK]
   refine aK (by kernel_rfl) ?_ _;go_wp2;go_roundw;case rel=>exact⟨k,rfl,by omega,⟨_,_,_,_,_,_,_,_,_,_,_,_,_,_,HROW.out,HZ.out⟩,HBF.out⟩
   case measure=>simp[intOf]
theorem rx {z:CQ} (h:dE z=false):SzV 2000 (ct z):=(gT (gU h)).2.2
theorem FK {q:Rat} (h:okQ q):SzV 2000 (ct (CQ.real q)):=(gT (gW h)).2.2
structure Ge (z:ByteArray) (zc w:CQ):Prop where
 r:aV z.data.toList=ct zc
 ne:zc≠⟨0,0⟩
 sz:SzV 2000 (ct zc)
 e:(CQ.real 1).div zc=w
 wv:WV z w
 ws:SzV 2000 (ct w)
theorem EB {z:ByteArray} (hs:d8 z=true) (hz:z≠⟨#[48]⟩):∃ zc w,Ge z zc w:=by
 obtain⟨zc,D,M,hg,ho,hD,hM⟩:=z_ hs;obtain⟨hbig,htx,hsz⟩:=gT hg
 have hne:zc≠⟨0,0⟩:=by
  rintro rfl;exact hz (by rw[<-htx,lS])
 have h1:OvC 1 1 (CQ.real 1):=OvC.real ⟨1,by decide +kernel,by decide⟩ (by decide);obtain⟨F,hF,ho2⟩:=h1.div ho hne;have hMM:M*M<=2 ^ 24*2 ^ 24:=Hm hM hM
 have hF2:F<=2 ^ 49:=by
  have e:(2:Nat)*(2 ^ 24*2 ^ 24)=2 ^ 49:=by decide
  omega
 have ho3:OvC F (2 ^ 49) ((CQ.real 1).div zc):=ho2.mono (by
  have:=Hm hM hD;have e:(2:Nat)*(2 ^ 24*2 ^ 24)=2 ^ 49:=by decide
  rw[Jd,IR]
  omega)
 have hok:=ho3.ok (jv hF2 (by decide)) (jv (GM _) (by decide));refine⟨zc,(CQ.real 1).div zc,?_,hne,hsz,rfl,⟨?_,hok,F,hF2,ho3⟩,rx hok⟩
 ·rw[<-htx];exact (ui hbig).1
 ·unfold cX dq pP;rw[<-mt,gW iq,hg];simp only[if_neg hne,if_true];rw[rX hok]
theorem dH.drop {l:List ByteArray}{qs:List Rat} (h:dH l qs) (i:Nat):dH (l.drop i) (qs.drop i):=by
 obtain⟨D,hD,hDl,hq⟩:=h.ov;exact⟨by rw[h.e,List.map_drop],⟨D,hD,hDl,fun q hq2=>hq q (Ia hq2)⟩,fun q hq2=>h.ok q (Ia hq2),by have:=h.len;rw[G2];omega⟩
theorem dH.evs {l:List ByteArray}{qs:List Rat}{z:ByteArray}{w:CQ} (h:dH l qs) (hw:WV z w) (i:Nat):SzV 2000 (ct (evQ w (qs.drop i))):=by
 obtain⟨D,-,-,hb,-⟩:=ri (h.drop i) hw;exact rx hb
theorem dH.ev {l:List ByteArray}{qs:List Rat}{z:ByteArray}{w:CQ} (h:dH l qs) (hw:WV z w):SzV 2000 (ct (evQ w qs)):=by
 have:=h.evs hw 0
 rwa [GR] at this
theorem dH.reals {l:List ByteArray}{qs:List Rat} (h:dH l qs):∀ q∈qs,SzV 2000 (ct (CQ.real q)):=fun q hq=>FK (h.ok q hq)
structure E9 (a b:List ByteArray) (z:ByteArray) (qa qb:List Rat) (w:CQ):Prop where
 pa:dH a qa
 pb:dH b qb
 wv:WV z w
 zero:evQ w qb=⟨0,0⟩->cM a b z=(⟨#[]⟩,32)
 ok:evQ w qb≠⟨0,0⟩->cM a b z=(txt ((evQ w qa).div (evQ w qb)),0)/\dE ((evQ w qa).div (evQ w qb))=false
theorem De {a b:List ByteArray}{z:ByteArray}{w:CQ} (hc:aI a b=true) (hs:d8 z=true) (hz:z≠⟨#[48]⟩) (hw:WV z w):∃ qa qb,E9 a b z qa qb w:=by
 obtain⟨b0,b7,a0,a7,ca,cb,-⟩:=bv hc;obtain⟨qa,pa⟩:=lL a7 ca;obtain⟨qb,pb⟩:=lL b7 cb;refine⟨qa,qb,pa,pb,hw,fun h0=>?_,fun hne=>?_⟩
 ·obtain⟨D2,hD2,o2,k2,e2⟩:=ri pb hw;unfold cM;rw[if_pos hc,if_pos hs,if_neg hz,e2,h0,lS];simp
 ·obtain⟨h1,D,hD,ho⟩:=Aj hc hs hz pa pb hw hne;exact⟨h1,ho.ok (jv hD (by decide)) (jv (GM _) (by decide))⟩
end Go.Proofs.YtmakbmhlemhgeaaGreatDoor
