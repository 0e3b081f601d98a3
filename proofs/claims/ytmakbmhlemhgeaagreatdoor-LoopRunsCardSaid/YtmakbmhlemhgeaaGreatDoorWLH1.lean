/- L -/
import Derived.Test.YtmakbmhlemhgeaaGreatDoorWReg
import Derived.Test.YtmakbmhlemhgeaaGreatDoorWNC7
import Derived.Test.YtmakbmhlemhgeaaGreatDoorWLP12
import Derived.Test.YtmakbmhlemhgeaaGreatDoorWPM2
import Derived.Test.YtmakbmhlemhgeaaGreatDoorWPL3
import Derived.Test.YtmakbmhlemhgeaaGreatDoorWB
set_option linter.all false
set_option maxRecDepth 100000
set_option maxHeartbeats 8000000
namespace Go.Proofs.YtmakbmhlemhgeaaGreatDoor
open Go.RowKit Dg Dc
def evQ (w:CQ) (qs:List Rat):CQ:=qs.foldr (fun q acc=>(acc.mul w).add (CQ.real q)) ⟨0,0⟩
theorem Al (w:CQ):((⟨0,0⟩:CQ).mul w).add ⟨0,0⟩=⟨0,0⟩:=by
 unfold CQ.mul CQ.add;congr 1<;>grind
theorem DF (x:CQ) (zs:List CQ):atL (dh zs) x=zs.foldr (fun z acc=>(acc.mul x).add z) ⟨0,0⟩:=by
 have key:∀ l:List CQ,(l.dropWhile fun z=>decide (z=⟨0,0⟩)).foldl (fun (acc:CQ) (z:CQ)=>(acc.mul x).add z) (⟨0,0⟩:CQ)=l.foldl (fun (acc:CQ) (z:CQ)=>(acc.mul x).add z) (⟨0,0⟩:CQ):=by
  intro l
  induction l with
  | nil=>rfl
  | cons z l ih =>
   rw[List.dropWhile_cons];by_cases h:z=⟨0,0⟩
   ·rw[if_pos (by simpa using h),ih,Ka,h,Al]
   ·rw[if_neg (by simpa using h)]
 unfold atL kQ dh;rw[GR,List.foldr_reverse,key,List.foldl_reverse]
theorem Fb (qs:List Rat) (w:CQ):atL (dh (qs.map CQ.real)) w=evQ w qs:=by
 rw[DF,List.foldr_map];rfl
theorem vv {s:ByteArray} (h:ce s.data.toList=true):∃ q,s=tq q/\okQ q/\q.num.natAbs<=4096/\q.den<=4096:=by
 obtain⟨q,rfl,hq⟩:=xj h;refine⟨q,rfl,hq,?_⟩;unfold ce at h;simp only[G9] at h
 have e:(tq q).data.toList=aJ (rt q):=by
  show bE (ct (CQ.real q))=_
  rw[cz (z:=ct (CQ.real q)) (by show (rt 0).n=0;rw[dU])];rfl
 have h2:=h.2;rw[e] at h2;unfold eZ at h2;rw[(jb (rt q)).1,kH (rt q) (dz q)] at h2;unfold dR at h2;simp only[G9,decide_eq_true_eq] at h2;exact h2
theorem kX:∀ l:List ByteArray,(∀ s∈l,ce s.data.toList=true)->∃ qs:List Rat,∃ D,l=qs.map tq/\0<D/\D<=4096 ^ l.length/\(∀ q∈qs,Ov D (4096*4096 ^ l.length) q/\okQ q)
 | [],_=>⟨[],1,rfl,by decide,by simp,fun q h=>by cases h⟩
 | s :: l,h=>by
  obtain⟨q,rfl,hq,hn,hd⟩:=vv (h s (Hy ..));obtain⟨qs,D,rfl,hD,hDl,hall⟩:=kX l (fun t ht=>h t (In _ ht));have hdp:=q.den_pos;have hp:(4096:Nat) ^ (qs.map tq).length*4096=4096 ^ (tq q :: qs.map tq).length:=by rw[G_,G6]
  refine⟨q :: qs,D*q.den,rfl,H4 hD hdp,?_,?_⟩
  ·rw[<-hp];exact Hm hDl hd
  ·intro r hr;rcases Ir.1 hr with rfl | hr
   ·refine⟨?_,hq⟩;have h1:=(Ov.of r).wide D hdp hD;rw[G5 r.den D] at h1;refine h1.mono ?_;have:=Hm hn hDl;refine GV this ?_;rw[<-hp];exact G3 _ (I_ _ (by decide))
   ·obtain⟨h1,h2⟩:=hall r hr;refine⟨(h1.wide q.den hD hdp).mono ?_,h2⟩;rw[<-hp,<-IR];exact G3 _ hd
theorem w_:∀ qs:List Rat,(∀ q∈qs,okQ q)->allC (qs.map tq)=some (qs.map CQ.real)
 | [],_=>rfl
 | q :: qs,h=>by
  show (match fz (tq q),allC (qs.map tq) with | some z,some zs=>some (z :: zs) | _,_=>none)=_
  rw[gW (h q (Hy ..)),w_ qs (fun r hr=>h r (In _ hr))];rfl
theorem z_ {s:ByteArray} (h:d8 s=true):∃ z D M,fz s=some z/\OvC D M z/\D<=2 ^ 24/\M<=2 ^ 24:=by
 unfold d8 at h;simp only[G9,decide_eq_true_eq] at h;obtain⟨⟨⟨h1,h2⟩,h3⟩,h4⟩:=h
 cases hg:fz s with
 | none=>unfold ofC at h1;rw[hg] at h1;cases h1
 | some z =>
  obtain⟨hb,-,-⟩:=gT hg;unfold dE at hb;simp only[If] at hb;have k1:okQ z.re:=(gC _).2 hb.1;have k2:okQ z.im:=(gC _).2 hb.2
  have small:∀ q:Rat,okQ q->eZ (dY (CQ.real q)).1.data.toList=true->q.num.natAbs<=4096/\q.den<=4096:=fun q hq hs=>by
   rw[kg hq] at hs
   have e:(tq q).data.toList=aJ (rt q):=by
    show bE (ct (CQ.real q))=_
    rw[cz (z:=ct (CQ.real q)) (by show (rt 0).n=0;rw[dU])];rfl
   unfold eZ at hs;rw[show (tq q,(0:Int)).1.data.toList=aJ (rt q) from e,(jb (rt q)).1,kH (rt q) (dz q)] at hs;unfold dR at hs;simp only[G9,decide_eq_true_eq] at hs;exact hs
  unfold ofC at h3 h4;rw[hg] at h3 h4;obtain⟨a1,a2⟩:=small _ k1 h3;obtain⟨b1,b2⟩:=small _ k2 h4;have p1:=z.re.den_pos;have p2:=z.im.den_pos;refine⟨z,z.re.den*z.im.den,4096*4096,rfl,⟨((Ov.of z.re).wide _ p1 p2).mono (Hm a1 b2),?_,H4 p1 p2⟩,GV (Hm a2 b2) (by decide),by decide⟩;have:=(Ov.of z.im).wide _ p2 p1;rw[G5 z.im.den] at this;exact this.mono (Hm b1 a2)
theorem xr {w:CQ}{E:Nat}{D M:Nat} (hw:OvC E (2 ^ 49) w) (hE:E<=2 ^ 49) (hD:0<D):∀ qs:List Rat,(∀ q∈qs,Ov D M q)->OvC (D*E ^ qs.length) (qs.length*(M*2 ^ (50*qs.length))) (evQ w qs)
 | [],_=>⟨(Ov.zero _).mono (GY _),(Ov.zero _).mono (GY _),by simpa using hD⟩
 | q :: qs,h=>by
  have ih:=xr hw hE hD qs (fun r hr=>h r (In _ hr));have h1:=ih.mul hw;have hEp:0<E ^ (qs.length+1):=Ij hw.pos;have h2:=(OvC.real (h q (Hy ..)) hD).wide (E ^ (qs.length+1)) hEp;have e:D*E ^ qs.length*E=D*E ^ (qs.length+1):=by rw[IR,G6]
  rw[e] at h1;have h3:=h1.add h2
  show OvC (D*E ^ (qs.length+1)) ((qs.length+1)*(M*2 ^ (50*(qs.length+1)))) (((evQ w qs).mul w).add (CQ.real q))
  refine h3.mono ?_;have p50:(2:Nat) ^ (50*(qs.length+1))=2 ^ (50*qs.length)*2 ^ 50:=by rw[IU,Ix,H6]
  have a1:2*(qs.length*(M*2 ^ (50*qs.length))*2 ^ 49)=qs.length*(M*2 ^ (50*(qs.length+1))):=by
   rw[p50,show (2:Nat) ^ 50=2*2 ^ 49 from by decide];simp only[J7,G5,IR]
  have a2:M*E ^ (qs.length+1)<=M*2 ^ (50*(qs.length+1)):=by
   refine G3 _ ?_;rw[Ip];exact Iy (GV hE (by decide)) _
  rw[a1,Hv,Jd];exact Nat.add_le_add_left a2 _
open Go.RowKit Dg
def il (fa fb:List ByteArray) (k:ByteArray):List ByteArray:=kM (fa.map (fun a=>ek a k)) fb
def cY (fa fb:List ByteArray) (k:ByteArray):Bool:=if aT (il fa fb k) 0=⟨#[48]⟩ then false else (da ((il fa fb k).map (fun a=>cX a (aT (il fa fb k) 0)))).isSome
theorem Gh (k:ByteArray) (g:Nat) (w:World) (hc:w.cell? ⟨g,0,none⟩=some (.string k)) (hg:g<w.heap.size) (hG:Gw w) :
  FnT 189 #[.pointer (some ⟨g,0,none⟩)] (fun a=>ek a k) w:=by
 refine⟨cD Tryz.func189 rfl (by kernel_rfl),fun x w' hb=>?_⟩;have c0:=aj hb hg hc;have HG:=GF (hG.below hb)
 show Calls _ _ #[_,_] _ _
 go_enter Tryz.func189,Tryz.ntmps189;go_wp2_with fail
 refine (fP _ _ w' HG.out).mono ?_;rintro e w1 ⟨rfl,hb1⟩;go_wp2;go_ret;exact⟨rfl,hb1⟩
theorem qe (fa fb:List ByteArray) (k:ByteArray):(il fa fb k).length=max fa.length fb.length:=by unfold il;rw[ph,Hj]
theorem mW (v:Value) (fa fb:List ByteArray) (k:ByteArray) (w:World) (hF:IsF w v fa fb) (h2:fa.length<1000) (h3:fb.length<1000) (hG:Gw w) :
  Calls Tryz.prog 141 #[v,.string k] w fun e w'=>∃ u,e=.returned u/\IsS w' u (il fa fb k)/\Below w.heap.size w w':=by
 obtain⟨p,c,q,d,rfl,hfa,hfb⟩:=id hF.ex;go_enter Tryz.func141,Tryz.ntmps141;go_upto_region 1 with fail
 have cc:=aU w (.slice p fa.length c) (.slice q fb.length d);have m1:=au w (.cells #[.slice p fa.length c,.slice q fb.length d] 34);have z1:=size_alloc w (.cells #[.slice p fa.length c,.slice q fb.length d] 34);generalize w.alloc (.cells #[.slice p fa.length c,.slice q fb.length d] 34)=w1 at *
 have a0:=aR w1 #[.string k] 32 0 _ rfl;have m2:=au w1 (.cells #[.string k] 32);have z2:=size_alloc w1 (.cells #[.string k] 32);have b0:=aj m2 (show w.heap.size<w1.heap.size by omega) cc.1;have b1:=aj m2 (show w.heap.size<w1.heap.size by omega) cc.2;generalize w1.alloc (.cells #[.string k] 32)=w2 at *
 rw[z1] at a0;have m3:Below w2.heap.size w2 w2.drew:=(Ki _ _).drew;refine aB (fun w'=>∃ x:aL w2.drew.heap.size w2.drew,w'=x.w) (fun i=>i == 3||i == 6) (by kernel_rfl) (by kernel_rfl) ⟨⟨_,Ki _ _⟩,rfl⟩ ?_;have a0:=aj m3 (show w.heap.size+1<w2.heap.size by omega) a0;have b0:=aj m3 (show w.heap.size<w2.heap.size by omega) b0;have b1:=aj m3 (show w.heap.size<w2.heap.size by omega) b1;have hw2:w.heap.size+1<w2.drew.heap.size:=by have:=m3.size;omega
 have M2:=m1.trans (m2.mono m1.size);have MD:=GF (M2.trans (m3.mono M2.size));have HA:=GF (hfa.below MD.out);have HB:=GF (hfb.below MD.out);have HG:=GF (hG.below MD.out);clear m1 m2 m3 z1 z2 cc hfa hfb hG hF M2;generalize w2.drew=wd at *
 have hz:wd.heap.size<=wd.heap.size:=GM _;have HFn:=GF (Gh k (w.heap.size+1) wd a0 hw2 HG.out);have d0:=fun x:aL wd.heap.size wd=>aj x.h (show w.heap.size<wd.heap.size by omega) b0;have d1:=fun x:aL wd.heap.size wd=>aj x.h (show w.heap.size<wd.heap.size by omega) b1;have hwd:=MD.out.size;clear a0 b0 b1;refine aq 3 0 _ _ _ (by kernel_rfl) ?_;simp only[GP,GS,GQ,GR];repeat (go_big_quiet_step (fail))
 refine wpQuiet_nil ?_;refine ar rfl rfl (fun K hK=>?_);go_simp;refine (xo _ fa _ _ _ wd HA.out (by omega) HFn.out).mono ?_;rintro e w6 ⟨u1,rfl,hu1,hb6⟩;obtain⟨L1,hL1⟩:∃ L,L=fa.map (fun a=>ek a k):=⟨_,rfl⟩;have hl1:L1.length<1000:=by rw[hL1,Hj];exact h2
 have HC:=GF (show il fa fb k=kM L1 fb by unfold il;rw[<-hL1]);rw[<-hL1] at hu1;clear hL1;refine hK _ _ ⟨⟨_,hb6.mono hz⟩,rfl⟩ ?_;clear hK K;try simp only[Act.put,GJ,GI,GH,GG,GL,GK]
 refine aq 2 4 _ _ _ (by kernel_rfl) ?_;simp only[GP,GS,GQ,GR];repeat (go_big_quiet_step (fail))
 refine wpQuiet_nil ?_;refine ar rfl rfl (fun K hK=>?_);go_simp;refine (sumN _ _ L1 fb w6 hu1.isS (HB.out.below hb6) (by omega) (by omega) (HG.out.below hb6)).mono ?_;rintro e w7 ⟨u2,rfl,hu2,hb7⟩;have hB7:=hb6.trans (hb7.mono hb6.size);refine hK _ _ ⟨⟨_,hB7.mono hz⟩,rfl⟩ ?_;clear hK K;try simp only[Act.put,GJ,GI,GH,GG,GL,GK]
 refine aq 1 7 _ _ _ (by kernel_rfl) ?_;simp only[GP,GS,GQ,GR];repeat (go_big_quiet_step (fail))
 refine wpQuiet_nil ?_;refine aH ?_;rw[<-HC.out] at hu2;have HU:=GF hu2;have hb66:=hb6.size;have MF:=GF (MD.out.trans (hB7.mono hwd));clear hu2 hu1 hb7 hB7 d0 d1;go_wp2;go_ret;exact⟨_,rfl,HU.out.isS,MF.out⟩
theorem Fm (s:List ByteArray) (h0:0<s.length) (k:Nat) (p:Option Addr) (n c:Nat) (w:World) (hs:IsS w (.slice p n c) s) (hn:n=s.length) (hc:w.cell? ⟨k,0,none⟩=some (.slice p n c)) (hk:k<w.heap.size) (hG:Gw w) :
  FnT 142 #[.pointer (some ⟨k,0,none⟩)] (fun a=>cX a (aT s 0)) w:=by
 refine⟨cD Tryz.func142 rfl (by kernel_rfl),fun x w0 hw=>?_⟩;obtain⟨b,o,rfl,hlt,hcs⟩:=hs.all h0;have c0:=aj hw hk hc;have c1:w0.cell? ⟨b,o,none⟩=some (.string (aT s 0)):=by simpa using aj hw hlt (hcs 0 h0)
 have HD:=GF (gx x (aT s 0) w0 (hG.below hw));have hnp:0<n:=by omega
 clear hcs hs hn
 show Calls _ _ #[_,.pointer (some ⟨k,0,none⟩)] _ _
 go_enter Tryz.func142,Tryz.ntmps142;go_wp2_with fail
 refine HD.out.mono ?_;rintro e w1 ⟨rfl,hb1⟩;go_wp2;go_ret;exact⟨rfl,hb1⟩
theorem kZ (v:Value) (fa fb:List ByteArray) (k:ByteArray) (w:World) (hF:IsF w v fa fb) (h1:0<fb.length) (h2:fa.length<1000) (h3:fb.length<1000) (hG:Gw w) :
  Calls Tryz.prog 87 #[v,.string k] w fun e w'=>e=.returned (.bool (cY fa fb k))/\Below w.heap.size w w':=by
 obtain⟨p,c,q,d,rfl,hfa,hfb⟩:=id hF.ex;go_enter Tryz.func87,Tryz.ntmps87;go_upto_region 1 with fail
 have cc:=aU w (.slice p fa.length c) (.slice q fb.length d);have m1:=au w (.cells #[.slice p fa.length c,.slice q fb.length d] 34);have HC:=GF (mW _ fa fb k _ (hF.below m1) h2 h3 (hG.below m1));have HG:=GF (hG.below m1);have M1:=GF m1;generalize w.alloc (.cells #[.slice p fa.length c,.slice q fb.length d] 34)=w1 at *
 have c0:=cc.1;have c1:=cc.2;have hsl:0<(il fa fb k).length:=by rw[qe];omega
 have hsl2:(il fa fb k).length<1000:=by rw[qe];omega
 have HT:=GF (show cY fa fb k=if aT (il fa fb k) 0=⟨#[48]⟩ then false else (da ((il fa fb k).map (fun a=>cX a (aT (il fa fb k) 0)))).isSome from rfl);clear hF hG hfa hfb m1 cc;generalize il fa fb k=s at *
 go_wp2_with fail
 refine HC.out.mono ?_;rintro e w2 ⟨u,rfl,hu,hb2⟩;have hi:=hu;obtain⟨pu,cu,rfl,-⟩:=id hi.form;obtain⟨b,o,rfl,hlt,hcs⟩:=hi.all hsl;have hcs0:w2.cell? ⟨b,o,none⟩=some (.string (aT s 0)):=by simpa using hcs 0 hsl
 have M2:=M1.out.trans (hb2.mono M1.out.size);clear hu hcs c0 c1 HC;go_upto_region 2 with fail
 have a5:(w2.alloc (.cells #[.slice (some ⟨b,o,none⟩) s.length cu] 29)).cell? ⟨w2.heap.size,0,none⟩=some (.slice (some ⟨b,o,none⟩) s.length cu):=aR w2 _ _ 0 _ rfl;have m3:=au w2 (.cells #[.slice (some ⟨b,o,none⟩) s.length cu] 29);have z3:=size_alloc w2 (.cells #[.slice (some ⟨b,o,none⟩) s.length cu] 29);generalize w2.alloc (.cells #[.slice (some ⟨b,o,none⟩) s.length cu] 29)=w3 at *
 have e0:=aj m3 hlt hcs0;have M3:=GF (M2.trans (m3.mono M2.size));have HG3:=GF (HG.out.below (hb2.trans (m3.mono hb2.size)));have HI:=GF (hi.below m3);have HFn:=GF (Fm s hsl w2.heap.size (some ⟨b,o,none⟩) s.length cu w3 HI.out rfl a5 (by omega) HG3.out);clear m3 z3 hi hcs0 M2 M1 hb2 HG hlt;by_cases heq:aT s 0=⟨#[48]⟩
 ·have HE:=GF (show cY fa fb k=false by rw[HT.out,if_pos heq]);have hd:((aT s 0).toList == [48])=true:=by rw[heq,aC];rfl
  clear heq;go_wp2;go_ret;exact⟨by rw[HE.out];rfl,M3.out⟩
 ·have HE:=GF (show cY fa fb k=(da (s.map (fun a=>cX a (aT s 0)))).isSome by rw[HT.out,if_neg heq])
  have hd:((aT s 0).toList == [48])=false:=by
   rw[Hx];intro h;refine heq (jl ?_);rw[<-aC];simpa using h
  clear heq;go_wp2_with fail
  refine (xo _ s _ _ _ w3 HI.out (by omega) HFn.out).mono ?_;rintro e w6 ⟨u1,rfl,hu1,hb6⟩;obtain⟨L1,hL1⟩:∃ L,L=s.map (fun a=>cX a (aT s 0)):=⟨_,rfl⟩;have hl1:L1.length=s.length:=by rw[hL1,Hj]
  rw[<-hL1] at hu1 HE;have HI1:=GF hu1.isS;have hl2:0<L1.length:=by omega
  have hl3:L1.length<1000000:=by omega
  clear hL1 hl1 hu1;go_wp2_with fail
  refine (ny _ L1 w6 HI1.out hl2 hl3 (HG3.out.below hb6)).mono ?_;rintro e w7 ⟨rfl,hb7⟩;have MF:=GF (M3.out.trans ((hb6.trans (hb7.mono hb6.size)).mono M3.out.size));clear hb6 hb7;go_wp2;go_ret;exact⟨by rw[HE.out];rfl,MF.out⟩
theorem vY (va vb:Value) (a b:List ByteArray) (w:World) (ha:IsS w va a) (hb:IsS w vb b) (hG:Gw w) :
  Calls Tryz.prog 180 #[va,vb] w fun e w'=>∃ v',e=.returned v'/\IsS w' v' (ck CQ.add a b).1/\Below w.heap.size w w':=by
 have HC:=GF (Cc va vb a b w ha hb hG);clear ha hb hG;generalize ck CQ.add a b=r at *
 go_enter Tryz.func180,Tryz.ntmps180;go_wp2_with fail
 refine HC.out.mono ?_;rintro e w1 ⟨v,rfl,hv,hb⟩;go_wp2;go_ret;exact⟨_,rfl,hv,hb⟩
theorem D6 (va vb:Value) (a b:List ByteArray) (w:World) (ha:IsS w va a) (hb:IsS w vb b) (hG:Gw w) :
  Calls Tryz.prog 181 #[va,vb] w fun e w'=>∃ v',e=.returned v'/\IsS w' v' (ck CQ.sub a b).1/\Below w.heap.size w w':=by
 have HC:=GF (Cd va vb a b w ha hb hG);clear ha hb hG;generalize ck CQ.sub a b=r at *
 go_enter Tryz.func181,Tryz.ntmps181;go_wp2_with fail
 refine HC.out.mono ?_;rintro e w1 ⟨v,rfl,hv,hb⟩;go_wp2;go_ret;exact⟨_,rfl,hv,hb⟩
def jq (fa fb:List ByteArray) (l:List ByteArray):Int:=if aI fa fb=true then if 32<l.length then 3 else if (l.all fun s=>ce s.data.toList)=true then 0 else 2 else 30
theorem Fl (v vl:Value) (a b l:List ByteArray) (w:World) (hF:IsF w v a b) (hl:IsS w vl l) (hG:Gx w) :
  Calls Tryz.prog 86 #[v,vl] w fun e w'=>e=.returned (.int .i64 (jq a b l))/\Below w.heap.size w w':=by
 obtain⟨pl,cl,rfl,-⟩:=id hl.form;have HL:=GF hl;have HGG:=GF hG;clear hl;obtain⟨p,c,q,d,rfl,hfa,hfb⟩:=id hF.ex;go_enter Tryz.func86,Tryz.ntmps86;go_upto_region 1 with fail
 have cc:=aU w (.slice p a.length c) (.slice q b.length d);have m1:=au w (.cells #[.slice p a.length c,.slice q b.length d] 34);have zz:=size_alloc w (.cells #[.slice p a.length c,.slice q b.length d] 34);generalize w.alloc (.cells #[.slice p a.length c,.slice q b.length d] 34)=w1 at *
 have HCK:=GF (fD _ a b w1 (hF.below m1) (hG.below m1));have HA:=GF (hfa.below m1);have HB:=GF (hfb.below m1);have HG:=GF (hG.below m1);have c0:=cc.1;have c1:=cc.2;have hlt:w.heap.size<w1.heap.size:=by omega
 have M1:=GF m1;clear hfa hfb cc zz m1 hF hG;by_cases hck:aI a b=true
 ·have HT:=GF (show jq a b l=if 32<l.length then 3 else if (l.all fun s=>ce s.data.toList)=true then 0 else 2 by unfold jq;rw[if_pos hck]);have hce:aG a b=0:=by unfold aG;rw[if_pos hck]
  rw[hce] at HCK;obtain⟨ob1,ob7,oa1,oa7,oac,obc,ohd⟩:=bv hck;clear hce;go_wp2_with fail
  refine HCK.out.mono ?_;rintro e w2 ⟨rfl,hb2⟩;have d0:=aj hb2 hlt c0;have d1:=aj hb2 hlt c1;have HA2:=GF (HA.out.below hb2);have HB2:=GF (HB.out.below hb2);have HG2:=GF (HG.out.below hb2);have M2:=GF (M1.out.trans (hb2.mono M1.out.size));have hlt2:w.heap.size<w2.heap.size:=GN hlt hb2.size;clear c0 c1 HA HB HG HCK M1 hb2 hlt;clear d0 d1 HA2 HB2 hlt2 oac obc ohd ob1 ob7 oa1 oa7 hck;by_cases h32:32<l.length
  ·have HE:=GF (show jq a b l=3 by rw[HT.out,if_pos h32]);have hd:decide ((32:Int)<(l.length:Int))=true:=by simp;omega
   clear h32;go_wp2;go_ret;exact⟨by rw[HE.out];rfl,M2.out⟩
  ·rw[if_neg h32] at HT;have hd:decide ((32:Int)<(l.length:Int))=false:=by simp;omega
   go_wp2;go_loopw [18] (fun s18 wr=>∃ i:Nat,s18=.int .i64 i/\i<=l.length/\Below w.heap.size w wr/\Hid (Gx wr)/\Hid (((l.take i).all fun s=>ce s.data.toList)=true)) (fun s18 _=>l.length-(intOf s18).toNat)
   case atStart=>exact⟨0,rfl,GY _,M2.out,HG2.out,rfl⟩
   case round =>
    obtain⟨i,rfl,hin,hbr,HGr,hall⟩:=hrel;by_cases hi:i<l.length
    ·obtain⟨bb,oo,rfl,hlt,hcell⟩:=(HL.out.below hbr).get hi;have HS:=GF (jS hi (fun s=>ce s.data.toList));have HN:=GF (nJ hi (fun s=>ce s.data.toList));generalize l[i]=s at *
     go_wp2_with fail
     refine (qf s wr HGr.out).mono ?_;rintro e w3 ⟨ok,rfl,hok,hb3⟩;have hB3:=hbr.trans (hb3.mono hbr.size)
     cases ok
     ·have HE:=GF (show jq a b l=2 by rw[HT.out,if_neg (by rw[HN.out hok.out];decide)]);clear HS HN hok hall hcell hd h32;go_wp2;go_ret;exact⟨by rw[HE.out];rfl,hB3⟩
     ·have HA3:=GF (show ((l.take (i+1)).all fun s=>ce s.data.toList)=true by rw[HS.out,hall.out,hok.out];rfl);have HG3:=GF (HGr.out.below hb3);clear HS HN hok hall hcell hbr HGr hb3;go_wp2;go_roundw;case rel=>exact⟨i+1,by go_num,by omega,hB3,HG3,HA3⟩
      case measure=>simp[intOf]<;>omega
    ·have hin':i=l.length:=by omega
     subst hin'
     have HE:=GF (show jq a b l=0 by
      have h:=hall.out;rw[He] at h
      rw[HT.out,if_pos h])
     clear hi hall hd h32;go_wp2;go_ret;exact⟨by rw[HE.out];rfl,hbr⟩
 ·have HE:=GF (show jq a b l=30 by unfold jq;rw[if_neg hck]);have hce:aG a b=30:=by unfold aG;rw[if_neg hck]
  rw[hce] at HCK;clear hce;go_wp2_with fail
  refine HCK.out.mono ?_;rintro e w2 ⟨rfl,hb2⟩;go_wp2;go_ret;exact⟨by rw[HE.out];rfl,M1.out.trans (hb2.mono M1.out.size)⟩
def bP (fa:List ByteArray) (i:Nat):List ByteArray:=List.replicate i ⟨#[48]⟩++fa
theorem jY (fa:List ByteArray) (i:Nat):(bP fa i).length=i+fa.length:=by simp[bP]
theorem rE (fa:List ByteArray) (i:Nat):bP fa (i+1)=[⟨#[48]⟩]++bP fa i:=by simp[bP,I8]
def eL (fa fb:List ByteArray):Nat->Nat->Nat
 | 0,i=>i
 | n+1,i=>if i+fa.length<=6 then if cY (bP fa (i+1)) fb ⟨#[49]⟩=true then eL fa fb n (i+1) else i else i
theorem rF (fa fb:List ByteArray) (n i:Nat):eL fa fb (n+1) i=if i+fa.length<=6 then if cY (bP fa (i+1)) fb ⟨#[49]⟩=true then eL fa fb n (i+1) else i else i:=rfl
def fm (fa fb:List ByteArray):Int×Int:=if aI fa fb=true then if cY fa fb ⟨#[49]⟩=true then (((eL fa fb 7 0:Nat):Int),0) else (0,31) else (0,30)
theorem xU (w:World) (base:Nat) (t:ByteArray) (hb:base<=w.heap.size):cR (w.alloc (.cells #[.string t] 32)) base (.slice (some ⟨w.heap.size,0,none⟩) 1 1) [t] :=
 World.ownsRow_lit w #[.string t] 1 hb (by simp[maxLen]) rfl
theorem Dq (v:Value) (a b:List ByteArray) (w:World) (hF:IsF w v a b) (hG:Gx w) :
  Calls Tryz.prog 39 #[v] w fun e w'=>e=.returned (.tuple #[.int .i64 (fm a b).1,.int .i64 (fm a b).2])/\Below w.heap.size w w':=by
 have HF0:=GF hF;have HG0:=GF hG;obtain⟨p,c,q,d,rfl,hfa,hfb⟩:=id hF.ex;go_enter Tryz.func39,Tryz.ntmps39;go_upto_region 1 with fail
 have q1:=heap_alloc_new w (.cells #[.slice p a.length c,.slice q b.length d] 34);have m1:=au w (.cells #[.slice p a.length c,.slice q b.length d] 34);have z1:=size_alloc w (.cells #[.slice p a.length c,.slice q b.length d] 34);generalize w.alloc (.cells #[.slice p a.length c,.slice q b.length d] 34)=w1 at *
 have hlt:w.heap.size<w1.heap.size:=by omega
 have HCK:=GF (fD _ a b w1 (hF.below m1) (hG.below m1));have c0:=az q1 0;have c1:=az q1 1;have M1:=GF m1;clear hF hG z1 m1;by_cases hck:aI a b=true
 ·have HT:=GF (show fm a b=if cY a b ⟨#[49]⟩=true then (((eL a b 7 0:Nat):Int),0) else (0,31) by unfold fm;rw[if_pos hck]);have hce:aG a b=0:=by unfold aG;rw[if_pos hck]
  rw[hce] at HCK;obtain⟨ob1,ob7,oa1,oa7,-,-,-⟩:=bv hck;clear hce;go_wp2_with fail
  refine HCK.out.mono ?_;rintro e w2 ⟨rfl,hb2⟩;have q2:=(hb2.block w.heap.size hlt).trans q1;have hlt2:w.heap.size<w2.heap.size:=GN hlt hb2.size;have M2:=GF (M1.out.trans (hb2.mono M1.out.size));have HH:=GF (kZ _ a b ⟨#[49]⟩ w2 (HF0.out.below M2.out) ob1 (by omega) (by omega) (HG0.out.below M2.out).g);clear q1 c0 c1 hb2 hlt M1 HCK hck;have c0:=az q2 0;have c1:=az q2 1;by_cases hh:cY a b ⟨#[49]⟩=true
  ·rw[hh] at HH;have HT:=GF (show fm a b=(((eL a b 7 0:Nat):Int),0) by rw[HT.out,if_pos hh]);clear hh;go_wp2_with fail
   refine HH.out.mono ?_;rintro e w3 ⟨rfl,hb3⟩;have q3:=(hb3.block w.heap.size hlt2).trans q2;have hlt3:w.heap.size<w3.heap.size:=GN hlt2 hb3.size;have M3:=GF (M2.out.trans (hb3.mono M2.out.size));obtain⟨bb,oo,rfl,hbl,-⟩:=hfb.get (i:=0) ob1;obtain⟨ba,oa,rfl,hal,-⟩:=hfa.get (i:=0) oa1;clear q2 c0 c1 hb3 hlt2 M2 HH;go_wp2;have HA0:=GF (hfa.below M3.out);have HBw:=GF hfb;clear hfa hfb;have HQ3:=GF q3;clear q3;have ha1:bP a 0=a:=rfl;have HA1:=GF ha1;clear ha1;go_loopw [5] (fun s5 wr=>∃ (i:Nat) (px ox cx:Nat),s5=.int .i64 i/\i+a.length<=7/\wr.heap[w.heap.size]?=some (.cells #[.slice (some ⟨px,ox,none⟩) (bP a i).length cx,.slice (some ⟨bb,oo,none⟩) b.length d] 34 (0,0))/\IsS wr (.slice (some ⟨px,ox,none⟩) (bP a i).length cx) (bP a i)/\px≠w.heap.size/\Below w.heap.size w wr/\Hid (eL a b (7-i) i=eL a b 7 0)) (fun s5 _=>7-(intOf s5).toNat)
   case atStart=>exact⟨0,ba,oa,c,rfl,by omega,HQ3.out,HA0.out,by omega,M3.out,rfl⟩
   case round =>
    obtain⟨i,px,ox,cx,rfl,hi7,qr,hin,hpx,hbr,hrec⟩:=hrel;have hlr:w.heap.size<wr.heap.size:=(GT.1 qr).1;have c0:=az qr 0;have c1:=az qr 1;have hdl:=jY a i;by_cases h6:i+a.length<=6
    ·have hd:decide (((bP a i).length:Int)<=6)=true:=by rw[hdl];simp;omega
     have HDL:=GF hdl;have hrec2:=hrec.out;rw[show 7-i=(6-i)+1 from by omega] at hrec2;rw[rF a b (6-i) i,if_pos h6] at hrec2;have HR:=GF hrec2;clear hdl hrec2 hrec;go_upto_region 8 with fail
     refine wp_region_lit ?_;refine wpList_plain rfl (fun K hK=>?_);go_simp;refine hK _ _ ?_;clear hK K;try simp only[Act.put,GJ,GI,GH,GG,GL,GK]
     have m5:=au wr (.cells #[.string ⟨#[48]⟩] 32);have ho:=xU wr (w.heap.size+1) ⟨#[48]⟩ hlr;have z5:=size_alloc wr (.cells #[.string ⟨#[48]⟩] 32);have HI5:=hin.below m5;have q5:=(m5.block w.heap.size hlr).trans qr;have B5:=hbr.trans (m5.mono hbr.size);generalize wr.alloc (.cells #[.string ⟨#[48]⟩] 32)=w5 at *
     generalize Value.slice (some ⟨wr.heap.size,0,none⟩) 1 1=sv at ho |-;have c0:=az q5 0;have c1:=az q5 1;clear hin qr m5 hbr;refine wpList_plain rfl (fun K hK=>?_);go_simp;refine hK _ _ ?_;clear hK K;try simp only[Act.put,GJ,GI,GH,GG,GL,GK]
     refine wpList_plain rfl (fun K hK=>?_);go_simp;refine hK _ _ ?_;clear hK K;try simp only[Act.put,GJ,GI,GH,GG,GL,GK]
     refine fL 29 Tryz.underlying29 rfl (.tmp 18) (.tmp 20) rfl (w.heap.size+1) _ [⟨#[48]⟩] (bP a i) px ox cx rfl ho rfl HI5 (by rw[HDL.out];simp;omega) (by omega) ?_;intro v' w6 hw6 hb6;have B6:=hb6 _ _ B5 (by omega);have b6:=hb6 (w.heap.size+1) w5 (Ki _ _) (GM _);have q6:=(b6.block w.heap.size (by omega)).trans q5;rw[<-rE] at hw6
     obtain⟨g',c',rfl,hg'⟩:∃ g' c',v'=.slice (some ⟨g',0,none⟩) (bP a (i+1)).length c'/\w.heap.size+1<=g':=by
      obtain⟨hlen,h⟩:=hw6;rcases h with ⟨rfl,h0⟩ | ⟨g',cap,cur,rfl,hg',-⟩
      ·rw[jY] at h0;omega
      ·exact⟨g',cap,rfl,hg'⟩
     have HI6:=hw6.isS;have hne:Value.ownBlock (.slice (some ⟨g',0,none⟩) (bP a (i+1)).length c')≠some w.heap.size:=fun e=>by simp[Value.ownBlock] at e;omega
     have HI7:=GF (HI6.other hne 0 (.slice (some ⟨g',0,none⟩) (bP a (i+1)).length c'));have c0:=az q6 0;have c1:=az q6 1;have f0:=aZ q6 0;have B7:=GF (B6.setCell (p:=⟨w.heap.size,0,none⟩) (GM _) (.slice (some ⟨g',0,none⟩) (bP a (i+1)).length c'));have q7:=heap_setCell_same w6 w.heap.size 0 _ 34 (.slice (some ⟨g',0,none⟩) (bP a (i+1)).length c') q6;clear hw6 hb6 B6 b6 q5 HI5 HI6 ho hne B5 z5;try simp only[Act.put,GJ,GI,GH,GG,GL,GK]
     refine wpList_plain rfl (fun K hK=>?_);go_simp;refine hK _ _ ?_;clear hK K;try simp only[Act.put,GJ,GI,GH,GG,GL,GK]
     refine wpList_plain rfl (fun K hK=>?_);go_simp;refine hK _ _ ?_;clear hK K;try simp only[Act.put,GJ,GI,GH,GG,GL,GK]
     generalize w6.setCell ⟨w.heap.size,0,none⟩ (.slice (some ⟨g',0,none⟩) (bP a (i+1)).length c')=w7 at *
     have q7:w7.heap[w.heap.size]?=some (.cells #[.slice (some ⟨g',0,none⟩) (bP a (i+1)).length c',.slice (some ⟨bb,oo,none⟩) b.length d] 34 (0,0)):=q7;clear c0 c1 f0 q6;have c0:=az q7 0;have c1:=az q7 1;have hl7:=(GT.1 q7).1;have hF7:IsF w7 (.agg #[.slice (some ⟨g',0,none⟩) (bP a (i+1)).length c',.slice (some ⟨bb,oo,none⟩) b.length d]) (bP a (i+1)) b:=⟨_,_,_,_,rfl,HI7.out,HBw.out.below B7.out⟩;have HH:=GF (kZ _ (bP a (i+1)) b ⟨#[49]⟩ w7 hF7 ob1 (by rw[jY];omega) (by omega) (HG0.out.below B7.out).g);clear hF7;by_cases hh:cY (bP a (i+1)) b ⟨#[49]⟩=true
     ·rw[hh] at HH
      have HR:=GF (show eL a b (7-(i+1)) (i+1)=eL a b 7 0 by
       have h:=HR.out;rw[if_pos hh] at h
       rw[show 7-(i+1)=6-i from by omega];exact h)
      clear hh;go_wp2_with fail
      refine HH.out.mono ?_;rintro e w8 ⟨rfl,hb8⟩;have q8:=GF ((hb8.block w.heap.size hl7).trans q7);have HI8:=GF (HI7.out.below hb8);have B8:=GF (B7.out.trans (hb8.mono B7.out.size));clear hb8 q7 c0 c1 HH;go_wp2;go_roundw;case rel=>exact⟨i+1,g',0,c',by go_num,by omega,q8.out,HI8.out,by omega,B8.out,HR.out⟩
      case measure=>simp[intOf]<;>omega
     ·have hh':cY (bP a (i+1)) b ⟨#[49]⟩=false:=by simpa using hh
      rw[hh'] at HH
      have HE:=GF (show fm a b=(((i:Nat):Int),0) by
       have h:=HR.out;rw[if_neg hh] at h
       rw[HT.out,<-h])
      clear hh hh';go_wp2_with fail
      refine HH.out.mono ?_;rintro e w8 ⟨rfl,hb8⟩;have B8:=GF (B7.out.trans (hb8.mono B7.out.size));clear hb8 q7 c0 c1 HH;go_wp2;refine Kh (v:=.tuple #[.int .i64 i,.int .i64 0]) (by simp[results,Tryz.results39,go_sem]) rfl ⟨by rw[HE.out],B8.out⟩
    ·have hd:decide (((bP a i).length:Int)<=6)=false:=by rw[hdl];simp;omega
     have HE:=GF (show fm a b=(((i:Nat):Int),0) by
      rw[HT.out,<-hrec.out]
      have e:∀ n,eL a b n i=i:=by intro n;cases n with
       | zero=>rfl
       | succ n=>simp only[eL,if_neg h6]
      rw[e])
     clear hdl hrec h6 hin;go_wp2;refine Kh (v:=.tuple #[.int .i64 i,.int .i64 0]) (by simp[results,Tryz.results39,go_sem]) rfl ⟨by rw[HE.out],hbr⟩
  ·have hh':cY a b ⟨#[49]⟩=false:=by simpa using hh
   rw[hh'] at HH;have HE:=GF (show fm a b=(0,31) by rw[HT.out,if_neg hh]);clear hh hh' HT;go_wp2_with fail
   refine HH.out.mono ?_;rintro e w3 ⟨rfl,hb3⟩;go_wp2;refine Kh (v:=.tuple #[.int .i64 0,.int .i64 31]) (by simp[results,Tryz.results39,go_sem]) rfl ⟨by rw[HE.out],M2.out.trans (hb3.mono M2.out.size)⟩
 ·have HE:=GF (show fm a b=(0,30) by unfold fm;rw[if_neg hck]);have hce:aG a b=30:=by unfold aG;rw[if_neg hck]
  rw[hce] at HCK;clear hce;go_wp2_with fail
  refine HCK.out.mono ?_;rintro e w2 ⟨rfl,hb2⟩;go_wp2;refine Kh (v:=.tuple #[.int .i64 0,.int .i64 30]) (by simp[results,Tryz.results39,go_sem]) rfl ⟨by rw[HE.out],M1.out.trans (hb2.mono M1.out.size)⟩
def OwnB (w:World) (base:Nat) (v:Value) (l:List Bool):Prop:=w.ownsRow base 4 1 v l.length (l.map .bool)
theorem OwnB.nil (w:World) (base:Nat):OwnB w base (.slice none 0 0) []:=World.ownsRow_nil _ _ _ _
def oS (w:CQ):Nat->CQ
 | 0=>CQ.real 1
 | j+1=>(oS w j).mul w
theorem pow_add (w:CQ) (i:Nat):∀ k,oS w (i+k)=(oS w i).mul (oS w k)
 | 0=>by
  show oS w i=(oS w i).mul (CQ.real 1)
  rw[CQ.mul_one]
 | k+1=>by
  show (oS w (i+k)).mul w=(oS w i).mul ((oS w k).mul w)
  rw[pow_add w i k];generalize oS w i=p;generalize oS w k=q;obtain⟨x,y⟩:=p;obtain⟨u,v⟩:=w;obtain⟨s,t⟩:=q;simp only[CQ.mul,CQ.mk.injEq];constructor<;>grind
theorem nn {l:List Rat}{j:Nat} (h:j<l.length):aT (l.map tq) j=tq (l.getD j 0):=by
 rw[<-fQ (l:=l.map tq) (by simpa using h),Ie,Hb,G4 h];rfl
structure dH (l:List ByteArray) (qs:List Rat):Prop where
 e:l=qs.map tq
 ov:∃ D,0<D/\D<=2 ^ 84/\∀ q∈qs,Ov D (2 ^ 96) q
 ok:∀ q∈qs,okQ q
 len:qs.length<=7
theorem lL {l:List ByteArray} (hl:l.length<=7) (h:∀ s∈l,ce s.data.toList=true):∃ qs,dH l qs:=by
 obtain⟨qs,D,e,hD,hDl,hall⟩:=kX l h;have h7:(4096:Nat) ^ l.length<=4096 ^ 7:=G1 (by decide) hl;have e7:(4096:Nat) ^ 7=2 ^ 84:=by decide
 refine⟨qs,e,⟨D,hD,by omega,fun q hq=>(hall q hq).1.mono ?_⟩,fun q hq=>(hall q hq).2,by rw[e,Hj] at hl;exact hl⟩;have:4096*4096 ^ l.length<=4096*4096 ^ 7:=G3 _ h7;rw[e7] at this;exact GV this (by decide)
theorem dH.allC {l:List ByteArray}{qs:List Rat} (h:dH l qs):dQ l=.ok (dh (qs.map CQ.real)):=by
 have hl:l.length<=7:=by rw[h.e,Hj];exact h.len
 unfold dQ;rw[if_neg (by omega),h.e,w_ qs h.ok]
structure WV (z:ByteArray) (w:CQ):Prop where
 t:cX ⟨#[49]⟩ z=txt w
 ok:dE w=false
 ov:∃ E,E<=2 ^ 49/\OvC E (2 ^ 49) w
theorem Ec {a b c:Nat} (h:a+b=c):(2:Nat) ^ a*2 ^ b=2 ^ c:=by rw[<-h,H6]
theorem xV {a b c d:Nat} (h:a+b=c) (h2:c+1=d):(2:Nat)*(2 ^ a*2 ^ b)=2 ^ d:=by rw[Ec h,<-h2,G6,G5]
theorem wS {a b:Nat} (h:a<=b):(2:Nat) ^ a<=2 ^ b:=G1 (by decide) h
theorem Fu {x a b c:Nat} (h:x<=2 ^ a*2 ^ b) (hc:a+b=c):x<=2 ^ c:=by rw[<-hc,H6];exact h
theorem rN {x y a b c:Nat} (h1:x<=2 ^ a) (h2:y<=2 ^ b) (hc:a+b=c):x*y<=2 ^ c:=Fu (Hm h1 h2) hc
theorem Fw {E e k n m:Nat} (hE:E<=2 ^ e) (hk:k<=n) (hm:e*n=m):E ^ k<=2 ^ m:=by
 rw[<-hm,Ip];exact GV (Iy hE k) (G1 (Ij (by decide)) hk)
theorem Fv {F D N a b c d e f:Nat} (hF:F<=D*(2*(2 ^ a*2 ^ b))) (hD:D<=2 ^ e) (hc:a+b=c) (hd:c+1=d) (hf:e+d<=f) (hN:N=F):N<=2 ^ f:=by
 rw[hN];have h1:F<=D*2 ^ d:=by rw[<-xV hc hd];exact hF
 have h2:=GX (2 ^ d) hD;rw[<-H6] at h2;exact GV h1 (GV h2 (G1 (by decide) hf))
theorem D4 {D a b c d e f:Nat} (hD:D<=2 ^ e) (hc:a+b=c) (hd:c+1=d) (hf:d+e<=f):2*(2 ^ a*2 ^ b)*D<=2 ^ f:=by
 rw[xV hc hd];have h2:=G3 (2 ^ d) hD;rw[<-H6] at h2;exact GV h2 (G1 (by decide) hf)
theorem FZ (n:Nat):(2:Nat) ^ (3*n)<10 ^ (n+1):=by
 rw[Ip];have h1:((2:Nat) ^ 3) ^ n<=10 ^ n:=Iy (by decide) n;have h2:(10:Nat) ^ n<10 ^ (n+1):=JS (by decide) (Nat.lt_succ_self n);exact Hf h1 h2
theorem Fz {n k m t:Nat} (h:n<=2 ^ k) (hk:k<=3*m) (ht:m+1=t):n<10 ^ t:=by
 subst ht;exact Hf (GV h (G1 (by decide) hk)) (FZ m)
theorem jv {n k:Nat} (h:n<=2 ^ k) (hk:k<=5997):n<10 ^ 2000:=Fz (m:=1999) (t:=2000) h (by omega) (by omega)
theorem ri {l:List ByteArray}{qs:List Rat}{z:ByteArray}{w:CQ} (h:dH l qs) (hw:WV z w) :
  ∃ D,D<=2 ^ 427/\OvC D (2 ^ 449) (evQ w qs)/\dE (evQ w qs)=false/\atT l (cX ⟨#[49]⟩ z)=(txt (evQ w qs),0):=by
 obtain⟨D,hD,hDl,hq⟩:=h.ov;obtain⟨E,hE,ho⟩:=hw.ov;have h1:=xr ho hE hD qs hq;have hlen:=h.len;have b1:D*E ^ qs.length<=2 ^ 427:=rN (x:=D) (y:=E ^ qs.length) (a:=84) (b:=343) (c:=427) hDl (Fw (E:=E) (e:=49) (k:=qs.length) (n:=7) (m:=343) hE hlen rfl) rfl
 have b2:qs.length*(2 ^ 96*2 ^ (50*qs.length))<=2 ^ 449:=by
  have k1:(2:Nat) ^ (50*qs.length)<=2 ^ 350:=wS (a:=50*qs.length) (b:=350) (by omega);have k2:2 ^ 96*2 ^ (50*qs.length)<=2 ^ 446:=rN (x:=2 ^ 96) (y:=2 ^ (50*qs.length)) (a:=96) (b:=350) (c:=446) (GM _) k1 rfl;exact rN (x:=qs.length) (y:=2 ^ 96*2 ^ (50*qs.length)) (a:=3) (b:=446) (c:=449) (by omega) k2 rfl
 have h2:=h1.mono b2;have hok:=h2.ok (jv b1 (by decide)) (jv (GM _) (by decide));refine⟨_,b1,h2,hok,?_⟩;unfold atT;rw[h.allC,hw.t];simp only;unfold ofC;rw[gU hw.ok];simp only;rw[Fb,rX hok]
theorem Aj {a b:List ByteArray}{qa qb:List Rat}{z:ByteArray}{w:CQ} (hc:aI a b=true) (hs:d8 z=true) (hz:z≠⟨#[48]⟩) (ha:dH a qa) (hb:dH b qb) (hw:WV z w) (hne:evQ w qb≠⟨0,0⟩) :
  cM a b z=(txt ((evQ w qa).div (evQ w qb)),0)/\∃ D,D<=2 ^ 1327/\OvC D (2 ^ 1327) ((evQ w qa).div (evQ w qb)):=by
 obtain⟨D1,hD1,o1,k1,e1⟩:=ri ha hw;obtain⟨D2,hD2,o2,k2,e2⟩:=ri hb hw;obtain⟨F,hF,o3⟩:=o1.div o2 hne;have bF:F<=2 ^ 1327:=Fv (F:=F) (D:=D1) (N:=F) (a:=449) (b:=449) (c:=898) (d:=899) (e:=427) (f:=1327) hF hD1 rfl rfl (by decide) rfl;have bN:2*(2 ^ 449*2 ^ 449)*D2<=2 ^ 1327:=D4 (D:=D2) (a:=449) (b:=449) (c:=898) (d:=899) (e:=427) (f:=1327) hD2 rfl rfl (by decide);have o4:=o3.mono bN;have hok:=o4.ok (jv bF (by decide)) (jv (GM _) (by decide));refine⟨?_,F,bF,o4⟩;have hne2:txt (evQ w qb)≠⟨#[48]⟩:=fun e=>hne (yx k2 yE (by rw[e,lS]));unfold cM;rw[if_pos hc,if_pos hs,if_neg hz,e1,e2];simp only;rw[if_neg hne2];unfold cX dq pP;rw[gU k1,gU k2];simp only[if_neg hne,if_true];rw[rX hok]
end Go.Proofs.YtmakbmhlemhgeaaGreatDoor
