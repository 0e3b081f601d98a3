/- L -/
import Derived.Test.YtlhpcoelfhjomaaGreatDoorQRS6
import Derived.Test.YtlhpcoelfhjomaaGreatDoorQLB4
import Derived.Test.YtlhpcoelfhjomaaGreatDoorQEN5
set_option linter.all false
set_option maxRecDepth 100000
set_option maxHeartbeats 8000000
namespace Go.Proofs.YtlhpcoelfhjomaaGreatDoor
open Go.RowKit Dg
theorem bG.other {w w':World}{base k:Nat}{v:Value}{qs:List Rat} (h:bG w base v qs) (hs:∀ b,b<w.heap.size->b≠k->w'.heap[b]?=w.heap[b]?) (hk:v.ownBlock≠some k) (hq:∀ {u:Value}{q:Rat},b9 w u q->b9 w' u q):bG w' base v qs:=by
 obtain⟨es,h1,⟨hl,h2⟩,h3⟩:=h.ex
 have hn:NoX iK w' v:=fun g hg j u hc=>h.nx g hg j u (by
  rw[<-hc];simp only[World.cell?]
  rw[hs g (h.lt g hg).2 (fun e=>hk (by rw[hg,e]))])
 refine⟨⟨es,h1,⟨hl,?_⟩,fun i hi hi'=>hq (h3 i hi hi')⟩,hn⟩;rcases h2 with h2 | ⟨g,cap,cur,rfl,hb,hg,r⟩
 ·exact Or.inl h2
 ·exact Or.inr ⟨g,cap,cur,rfl,hb,(hs g (ID.1 hg).1 (fun e=>hk (by rw[<-e];rfl))).trans hg,r⟩
theorem bG.puts {w w':World}{base b:Nat}{t t0:TypeId}{us cs:Array Value}{v:Value}{qs:List Rat} (h:bG w base v qs) (hP:j6 w w' b t us) (hr:w.heap[b]?=some (.cells cs t0 (0,0))) (hn:∀ (j:Nat) (z:Int),cs[j]?≠some (Value.int .i64 z)) (hk:v.ownBlock≠some b):bG w' base v qs :=
 h.other (fun k _ hne=>hP.other k hne) hk (fun hq=>cW.puts hq hP hr hn)
theorem o7.other {w w':World}{B base:Nat}{v v' u:Value}{qs rs:List Rat} (h:o7 w w' B v v' qs) (hu:bG w base u rs) (hne:∀ g,v.ownBlock=some g->u.ownBlock≠some g):bG w' base u rs:=by
 cases hv:v.ownBlock with
 | none =>
  exact hu.other (k:=w'.heap.size) (fun b hb _=>h.grown.block b hb (by rw[hv];exact nofun)) (fun e=>by have:=(hu.lt _ e).2;have:=h.grown.size;omega) (fun hq=>h.keep hq)
 | some k=>exact hu.other (k:=k) (fun b hb hbk=>h.grown.block b hb (by rw[hv];exact fun e=>hbk (Option.some.inj e))) (hne k hv) (fun hq=>h.keep hq)
theorem o7.apart {w w':World}{B base:Nat}{v v' u:Value}{qs rs:List Rat} (h:o7 w w' B v v' qs) (hu:bG w base u rs) (hne:∀ g,v.ownBlock=some g->u.ownBlock≠some g):∀ g,v'.ownBlock=some g->u.ownBlock≠some g:=by
 intro g hg e;rcases h.blk with hb | ⟨g',hb,hs⟩
 ·exact hne g (by rw[<-hb];exact hg) e
 ·have:g'=g:=by rw[hb] at hg;exact Option.some.inj hg
  have:=(hu.lt g e).2;omega
theorem ij {w:World}{B g:Nat}{vs:Array Value}{T:TypeId} (h:w.heap[g]?=some (.cells vs T (0,0))) (hg:g<B) (i:Nat) {v:Value} (hv:vs[i]?=some v) (z:az B w):z.w.cell? ⟨g,i,none⟩=some v :=
 (af ((z.h.block _ hg).trans h) i).trans hv
theorem mH {w:World}{b o B:Nat}{v:Value} (h:w.cell? ⟨b,o,none⟩=some v) (hlt:b<B) (z:az B w):z.w.cell? ⟨b,o,none⟩=some v:=(z.h.cell (p:=⟨b,o,none⟩) hlt).trans h
theorem sT (v vr:Value) (qs:List Rat) (r:Rat) {u d:Nat} (w:World) (hl:jw w v qs) (hr:b9 w vr r) (he:r=(u:Rat) / (d:Rat)) (hu:0<u) (hd:0<d) (hu4:u<=4096) (hd4:d<=4096) (hpos:0<qs.length) (h7:qs.length<=7) (hro:okQ r) (hok:∀ q∈qs,okQ q) (hS:rE 168 (cG qs r)) :
  Calls Tryz.prog 21 #[v,vr] w fun e w'=>e=.returned (.bool (bg (qs.length-1) (cG qs r)).isSome)/\Below w.heap.size w w':=by
 obtain⟨p,c,rfl,hc1,hc2⟩:=hl.form;obtain⟨rm,ra,rN,rd,rb,rM,re,rfl⟩:=hr.forms;have HF:=Ip (fun i (h:i<=7)=>cZ (GQ he hu hd hu4 hd4 h));have hr0:r≠0:=by have h1:=aO hu;have h2:=aO hd;rw[he];grind
 have hrs:=cZ hro;have HRI:=Ip (xF hrs hr0);have h1:=bL w (.cells #[.bool rm,.slice ra rN rd,.bool false,.slice rb rM re] 44);have hl1:=hl.below h1.below;have hr1:=hr.below h1.below;have M1:=Ip h1.below;have s1:=h1.s0;have HS:=Ip hS;have HOK:=Ip hok;clear hl hr hS hok h1;go_enter Tryz.func21,Tryz.ntmps21;go_upto_region 1 with fail
 generalize w.alloc (.cells #[.bool rm,.slice ra rN rd,.bool false,.slice rb rM re] 44)=w1 at *
 have q0:=af s1 0;have q1:=af s1 1;have q2:=af s1 2;have q3:=af s1 3;go_wp2_with fail
 refine (mP _ r 2000 w1 hr1 hr0 hrs (by decide)).mono ?_;rintro e w2 ⟨v2,rfl,hv2,hb2⟩;obtain⟨im,ia,iN,ic,ib,iM,ie,rfl⟩:=hv2.forms;have M2:=Ip (LK M1.out hb2);have hl2:=hl1.below hb2;clear q0 q1 q2 q3 hr1 hl1 hb2 s1 M1;go_wp2_with fail
 refine (BD w2).mono ?_;rintro e w3 ⟨v3,rfl,hv3,hb3⟩;obtain⟨om,oa,oN,od,ob,oM,oe,rfl⟩:=hv3.forms;have M3:=Ip (LK M2.out hb3);have hl3:=hl2.below hb3;have hv2:=hv2.below hb3;clear hl2 hb3 M2;go_upto_region 3 with fail
 have l2:=mq w3 (.cells #[.bool im,.slice ia iN ic,.bool false,.slice ib iM ie] 44) (.cells #[.bool om,.slice oa oN od,.bool false,.slice ob oM oe] 44);obtain⟨F,hF⟩:∃ F:Nat->Rat,(fun i=>qs.getD i 0*lK r i)=F:=⟨_,rfl⟩;have HE:=Ip (show cG qs r=dJ F qs.length by rw[Hh,hF]);have HFI:=Ip (fun i=>show F i=qs.getD i 0*lK r i by rw[<-hF]);have s0:=l2.s0;have s1:=l2.s1;have zz:=l2.size;have hb5:=l2.below;rw[<-A3 r] at hv3;have hv5:=hv3.below hb5;generalize (w3.alloc (.cells #[.bool im,.slice ia iN ic,.bool false,.slice ib iM ie] 44)).alloc (.cells #[.bool om,.slice oa oN od,.bool false,.slice ob oM oe] 44)=w5 at *
 generalize hgb:w3.heap.size=gb at *
 have HGB:=Ip hgb;have HZ:=Ip zz;have HB5:=Ip hb5;have HS0:=Ip s0;have HL3:=Ip hl3;have HV2:=Ip hv2;have H7:=Ip h7;clear l2 hF hv3 hgb zz hb5 hl3 hv2 s0 h7 he hu hd hu4 hd4 hro;go_wp2;go_loopw [7,8] (fun s7 s8 wr=>∃ i:Nat,s8=.int .i64 i/\i<=qs.length/\bG wr (gb+2) s7 (dJ F i)/\Below (gb+1) w5 wr/\gb+2<=wr.heap.size/\∃ m a N d' nb N' e',wr.heap[gb+1]?=some (.cells #[.bool m,.slice a N d',.bool false,.slice nb N' e'] 44 (0,0))/\b9 wr (.agg #[.bool m,.slice a N d',.bool false,.slice nb N' e']) (lK r i)) (fun _ s8 _=>qs.length-(intOf s8).toNat)
 case atStart=>exact⟨0,rfl,IF _,bG.nil _ _,LN _ _,by have:=HZ.out;omega,_,_,_,_,_,_,_,s1,hv5⟩
 case round =>
  clear s1 hv5;obtain⟨i,rfl,hin,hown,hbr,hwz,m,na,nN,nd,nb,nM,ne,hbx,hbq⟩:=hrel;have hb3:Below gb w3 wr:=HB5.out.trans (hbr.mono (I1 gb));by_cases hi:i<qs.length
  ·obtain⟨bo,oo,rfl,hlt,xm,xa,xN,xd,xb,xM,xe,hx,x0,x1,x2,x3⟩:=HL3.out.get hi;rw[HGB.out] at hlt;rw[show qs[i]=qs.getD i 0 by simp[IK,II hi]] at hx;have HSX:=Ip (cZ (HOK.out (qs.getD i 0) (eE hi)));have HSN:=Ip (HF.out i (by have:=H7.out;omega));have HT:=Ip (show dJ F (i+1)=dJ F i++[qs.getD i 0*lK r i] from by rw[jH,HFI.out]);have HNX:=Ip (A2 r i);generalize qs.getD i 0=x at hx HSX HT;generalize lK r i=nq at hbq HSN HT HNX;have hx4:=hx.below (by rw[HGB.out];exact hb3);have x0:=(hb3.cell (p:=⟨bo,oo+i*4,none⟩) hlt).trans x0;have x1:=(hb3.cell (p:=⟨bo,oo+i*4+1,none⟩) hlt).trans x1;have x2:=(hb3.cell (p:=⟨bo,oo+i*4+2,none⟩) hlt).trans x2;have x3:=(hb3.cell (p:=⟨bo,oo+i*4+3,none⟩) hlt).trans x3;have hdI:decide ((i:Int)<(qs.length:Int))=true:=decide_eq_true (by omega);go_upto_region 6 with fail
   clear hdI;have hBd:Below wr.heap.size wr wr.drew:=(LN _ _).drew;refine av (fun w'=>∃ z:az (gb+2) wr.drew,w'=z.w) (fun i=>i == 6||i == 7||i == 8) (by kernel_rfl) (by kernel_rfl) ⟨⟨_,LN _ _⟩,rfl⟩ ?_;have hon:=hown.below hBd;have HBX:=Ip ((hBd.block _ (ah hbx)).trans hbx);have HBQ:=Ip (hbq.below hBd);have HX:=Ip (hx4.below hBd);have HBR:=Ip (hbr.trans (hBd.mono (by omega)));have hwz:gb+2<=wr.drew.heap.size:=IB hwz hBd.size;have hlr:bo<wr.heap.size:=by omega
   have k0:=ij (B:=gb+2) HBX.out (by omega) 0 rfl;have k1:=ij (B:=gb+2) HBX.out (by omega) 1 rfl;have k2:=ij (B:=gb+2) HBX.out (by omega) 2 rfl;have k3:=ij (B:=gb+2) HBX.out (by omega) 3 rfl;have r0:=mH (B:=gb+2) (ag hBd hlr x0) (by omega);have r1:=mH (B:=gb+2) (ag hBd hlr x1) (by omega);have r2:=mH (B:=gb+2) (ag hBd hlr x2) (by omega);have r3:=mH (B:=gb+2) (ag hBd hlr x3) (by omega);generalize wr.drew=wd at *
   have HON:=Ip hon;clear hown hbr hbx hbq hx hx4 x0 x1 x2 x3 hBd hon hb3 hlr;refine ak 6 0 _ _ _ (by kernel_rfl) ?_;simp only[Ix,IC,Iy,IA];repeat (go_big_quiet_step (fail))
   refine wpQuiet_nil ?_;clear k0 k1 k2 k3 r0 r1 r2 r3;refine ap rfl rfl (fun K hK=>?_);go_simp;refine (eY _ _ x nq 2000 2000 wd HX.out HBQ.out HSX.out HSN.out (by decide)).mono ?_;rintro e w8 ⟨v8,rfl,hv8,hb8⟩;obtain⟨cm,cax,cN,cd,cb,cM,ce,rfl⟩:=hv8.forms;have hB8:=hb8.mono hwz;have hon8:=HON.out.below hb8;have hz8:=IB hwz hb8.size;have HQ8:=Ip (HBQ.out.below hb8);clear hb8;refine hK _ _ ⟨⟨_,hB8⟩,rfl⟩ ?_;clear hK K;try simp only[Act.put,It,Is,Ir,Iq,Iu,Iv]
   have m9:=aj w8 (.cells #[.bool cm,.slice cax cN cd,.bool false,.slice cb cM ce] 44);have hcx:=heap_alloc_new w8 (.cells #[.bool cm,.slice cax cN cd,.bool false,.slice cb cM ce] 44);have hv9:=hv8.below m9;have hon9:=hon8.below m9;have HQ9:=Ip (HQ8.out.below m9);have hB9:=hB8.trans (m9.mono hz8);have hbs:=IB hz8 m9.size;have hzl:(dJ F i).length<1000000000:=by have:=H7.out;rw[bI];omega
   clear m9 HQ8;refine ap rfl rfl (fun K hK=>?_);go_simp;refine hK _ _ ⟨⟨_,hB9⟩,rfl⟩ ?_;clear hK K;try simp only[Act.put,It,Is,Ir,Iq,Iu,Iv]
   refine ap rfl rfl (fun K hK=>?_);refine dR rfl ?_;refine cE 48 Tryz.underlying48 rfl (.tmp 18) (.tmp 25) rfl (gb+2) _ _ cm cax cN cd cb cM ce _ rfl hon9 _ rfl hcx hv9 hzl hbs ?_;intro v' w10 hap;have hB10:=hap.below hon9 hB9 (Iw _) hbs;have hw10:=hap.own;have hq10:=hap.keep HQ9.out;refine⟨rfl,hK _ _ ⟨⟨_,hB10⟩,rfl⟩ ?_⟩;clear hK K;try simp only[Act.put,It,Is,Ir,Iq,Iu,Iv]
   rw[<-HT.out] at hw10;have hz10:=IB hbs hap.grown.size;clear hap hv9 hv8 hon8 hon9 hB8 hB9 hbs hcx hzl hz8 HQ9;refine ak 1 9 _ _ _ (by kernel_rfl) ?_;simp only[Ix,IC,Iy,IA];repeat (go_big_quiet_step (fail))
   refine wpQuiet_nil ?_;refine aE ?_;have hbx:=(hB10.block _ (KC (gb+1))).trans HBX.out;have hs0:=(hB10.block _ (by omega)).trans ((HBR.out.block _ (KC gb)).trans HS0.out);have hvI:=HV2.out.below (by rw[HGB.out];exact HB5.out.trans ((HBR.out.trans (hB10.mono (I1 _))).mono (I1 gb)));have HBT:=Ip (HBR.out.trans (hB10.mono (I1 _)));clear hB10 HBX HBQ HX HBR HON;have q0:=af hbx 0;have q1:=af hbx 1;have q2:=af hbx 2;have q3:=af hbx 3;have p0:=af hs0 0;have p1:=af hs0 1;have p2:=af hs0 2;have p3:=af hs0 3;go_wp2_with fail
   refine (eY _ _ nq r⁻¹ 2000 2000 w10 hq10 hvI HSN.out HRI.out (by decide)).mono ?_;rintro e w11 ⟨v11,rfl,hv11,hb11⟩;rw[<-HNX.out] at hv11;obtain⟨mm,ma,mN,md,mb,mM,me,rfl⟩:=hv11.forms;have hbx:=(hb11.block _ (ah hbx)).trans hbx;have hw11:=hw10.below hb11;have HBT:=Ip (HBT.out.trans (hb11.mono (by omega)));have hz11:=IB hz10 hb11.size;clear q0 q1 q2 q3 p0 p1 p2 p3 hs0 hvI hq10 hw10 hb11 hz10;have q0:=af hbx 0;have q1:=af hbx 1;have q2:=af hbx 2;have q3:=af hbx 3;have f0:=LL w11 (gb+1) 0 _ _ hbx;have f1:=LL w11 (gb+1) 1 _ _ hbx;have f2:=LL w11 (gb+1) 2 _ _ hbx;have f3:=LL w11 (gb+1) 3 _ _ hbx;have hP:=aR (u0:=.bool mm) (u1:=.slice ma mN md) (u2:=.bool false) (u3:=.slice mb mM me) hbx;have HV:=Ip (cW.puts hv11 hP hbx bf);have HW:=Ip (hw11.puts hP hbx bf (fun e=>by have:=(hw11.lt _ e).1;omega));have HR:=Ip hP.row;have HBP:=Ip (HBT.out.trans (hP.below _ (Iw _)));have HZP:=Ip (show gb+2<=(dL w11 (gb+1) (.bool mm) (.slice ma mN md) (.bool false) (.slice mb mM me)).heap.size by rw[hP.size];exact hz11);clear hP hv11 hw11 hbx HBT hz11;have h7o:=H7.out;go_wp2;go_roundw;case rel=>exact⟨i+1,by go_num,by omega,HW.out,HBP.out,HZP.out,_,_,_,_,_,_,_,HR.out,HV.out⟩
   case measure=>first | (simp[intOf];done) | (simp[intOf];omega)
  ·obtain rfl:i=qs.length:=by omega
   rw[<-HE.out] at hown;have hq:=hown.isQs;have hb:=M3.out.trans (hb3.mono (by rw[<-HGB.out];exact M3.out.size));have HSL:=Ip (jN qs r);obtain⟨p7,c7,rfl,-,-⟩:=id hq.form;rw[HSL.out] at hq |-
   have HRS:=Ip (sS _ _ wr hq (by rw[HSL.out];exact hpos) (by rw[HSL.out];have:=H7.out;omega) (by
    refine⟨168,HS.out,?_⟩;rw[HSL.out];rcases Jd (qs.length-1) with h | h
    ·exact Or.inl h
    ·have h7:=H7.out;have:2 ^ (qs.length-1-1)<=2 ^ 5:=fq (by omega)
     exact Or.inr (by omega)))
   rw[HSL.out] at HRS;obtain⟨ok,hok⟩:∃ ok,ok=(bg (qs.length-1) (cG qs r)).isSome:=⟨_,rfl⟩;rw[<-hok] at HRS;have HO:=Ip hok;clear hok;clear hown hbr hbx hbq hi hin hq hb3 hc1 hc2 hpos hwz hr0 hrs;go_wp2_with fail
   refine HRS.out.mono ?_;rintro e w8 ⟨rfl,hb8⟩;go_wp2;refine LM (v:=.bool ok) (by simp[results,Tryz.results21,go_sem]) rfl ⟨by rw[HO.out],LK hb hb8⟩
open Go.RowKit Dg Dc
theorem sP {q:Rat} (h:0<q) (hn:q.num.natAbs<=4096) (hd:q.den<=4096):∃ u v:Nat,q=(u:Rat) / (v:Rat)/\0<u/\0<v/\u<=4096/\v<=4096:=by
 obtain⟨u,v,h1,h2,h3,h4,h5⟩:=BG h;exact⟨u,v,h1,h2,h3,by omega,by omega⟩
theorem BK (v:Value) (a b:List ByteArray) (r:ByteArray) (w:World) (hF:IsF w v a b) :
  Calls Tryz.prog 5 #[v,.string r] w fun e w'=>e=.returned (.tuple #[.bool (bZ a b r).1,.int .i64 (bZ a b r).2])/\Below w.heap.size w w':=by
 obtain⟨p,c,q,d,rfl,hfa,hfb⟩:=id hF.ex;go_enter Tryz.func5,Tryz.ntmps5;go_upto_region 1 with fail
 have cc:=aG w (.slice p a.length c) (.slice q b.length d);have m1:=aj w (.cells #[.slice p a.length c,.slice q b.length d] 24);have zz:=size_alloc w (.cells #[.slice p a.length c,.slice q b.length d] 24);generalize w.alloc (.cells #[.slice p a.length c,.slice q b.length d] 24)=w1 at *
 have HCK:=Ip (qP _ a b w1 (hF.below m1));have HB:=Ip (hfb.below m1);have c0:=cc.1;have c1:=cc.2;have hlt:w.heap.size<w1.heap.size:=by omega
 have M1:=Ip m1;clear hfa hfb cc zz m1 hF;by_cases hck:aC a b=true
 ·have hce:aB a b=0:=by unfold aB;rw[if_pos hck]
  rw[hce] at HCK;obtain⟨qa,qb,pa,pb,la,lb⟩:=mJ hck;obtain⟨tl,hh⟩:=kq hck pb;have HH:=Ip (show qb.getD 0 0=1 by rw[hh];rfl);have HC:=Ip hck;have HPB:=Ip pb;have HQ0:=Ip lb;clear hce hck pa pb la lb hh;go_wp2_with fail
  refine HCK.out.mono ?_;rintro e w2 ⟨rfl,hb2⟩;have d0:=ag hb2 hlt c0;have d1:=ag hb2 hlt c1;have M2:=Ip (LK M1.out hb2);have hlt2:w.heap.size<w2.heap.size:=Iz hlt hb2.size;have HB2:=Ip (HB.out.below hb2);clear c0 c1 HB HCK M1 hb2 hlt;go_wp2_with fail
  refine (uZ _ w2).mono ?_;rintro e w3 ⟨rfl,hb3⟩;have M3:=Ip (LK M2.out hb3);have d0:=ag hb3 hlt2 d0;have d1:=ag hb3 hlt2 d1;have HB3:=Ip (HB2.out.below hb3);have hlt3:=Iz hlt2 hb3.size;clear M2 hb3 HB2 hlt2;by_cases hco:bU r.data.toList=true
  ·obtain⟨x,rfl,hok,hn,hd⟩:=lH hco
   have HR:=Ip (show bZ a b (tq x)=(if eL x 0<=0\/0<eL x 1 then (false,8) else ((bg (qb.length-1) (cG qb x)).isSome,0)) from by
    unfold bZ sO;rw[if_pos HC.out,hco,<-F8,<-kH,oR hok eX,oR hok fe];by_cases h:eL x 0<=0\/0<eL x 1
    ·rw[if_pos h,if_neg (by rcases h with h | h<;>simp<;>omega)]
    ·have h':=not_or.1 h;rw[if_neg h,if_pos (by simp;omega)]
     have hx:0<x:=by
      have:=h'.1;unfold eL at this
      split at this
      ·omega
      ·split at this
       ·omega
       ·grind
     obtain⟨u,v,e,hu,hv,hu4,hv4⟩:=sP hx hn hd
     rw[ts e hu hv hu4 hv4 hok HPB.out HH.out HQ0.out])
   have HDV:=Ip (fun (h:¬ (eL x 0<=0\/0<eL x 1))=>show ∃ u v:Nat,x=(u:Rat) / (v:Rat)/\0<u/\0<v/\u<=4096/\v<=4096 from by
     have hx:0<x:=by
      have:=(not_or.1 h).1;unfold eL at this
      split at this
      ·omega
      ·split at this
       ·omega
       ·grind
     exact sP hx hn hd)
   have HOK:=Ip hok;rw[hco];clear hco hok hn hd;go_wp2_with fail
   refine (oX x w3 HOK.out).mono ?_;rintro e w4 ⟨v4,rfl,hv4,hb4⟩;go_wp2_with fail
   refine (Ea w4).mono ?_;rintro e w5 ⟨v5,rfl,hv5,hb5⟩;go_wp2_with fail
   refine (mK _ _ x 0 2000 2000 w5 (hv4.below hb5) hv5 (cZ HOK.out) (cZ eX) (by decide)).mono ?_;rintro e w6 ⟨rfl,hb6⟩;have B6:=LK hb4 (LK hb5 hb6);have d0:=ag B6 hlt3 d0;have d1:=ag B6 hlt3 d1;have HB6:=Ip (HB3.out.below B6);have M6:=Ip (LK M3.out B6);have hlt6:=Iz hlt3 B6.size;clear hv4 hv5 hb4 hb5 hb6 B6 HB3 hlt3 M3;obtain⟨c0,hc0⟩:∃ c0,c0=eL x 0:=⟨_,rfl⟩;obtain⟨c1,hc1⟩:∃ c1,c1=eL x 1:=⟨_,rfl⟩;rw[<-hc0,<-hc1] at HR HDV;have HC1:=Ip hc1;rw[<-hc0];clear hc0 hc1;by_cases h0:c0<=0
   ·have hd0:decide (c0<=0)=true:=decide_eq_true h0;have HE:=Ip (show bZ a b (tq x)=(false,8) by rw[HR.out,if_pos (Or.inl h0)]);clear h0;go_wp2;refine LM (v:=.tuple #[.bool false,.int .i64 8]) (by simp[results,Tryz.results5,go_sem]) rfl ⟨by rw[HE.out],M6.out⟩
   ·have hd0:decide (c0<=0)=false:=decide_eq_false h0;have H0:=Ip h0;clear h0;go_wp2_with fail
    refine (oX x w6 HOK.out).mono ?_;rintro e w7 ⟨v7,rfl,hv7,hb7⟩;go_wp2_with fail
    refine (BD w7).mono ?_;rintro e w8 ⟨v8,rfl,hv8,hb8⟩;go_wp2_with fail
    refine (mK _ _ x 1 2000 2000 w8 (hv7.below hb8) hv8 (cZ HOK.out) (cZ fe) (by decide)).mono ?_;rintro e w9 ⟨rfl,hb9⟩;have B9:=LK hb7 (LK hb8 hb9);have d0:=ag B9 hlt6 d0;have d1:=ag B9 hlt6 d1;have HB9:=Ip (HB6.out.below B9);have M9:=Ip (LK M6.out B9);clear hv7 hv8 hb7 hb8 hb9 B9 HB6 hlt6 M6;rw[<-HC1.out];by_cases h1:0<c1
    ·have hd1:decide (c1 > 0)=true:=decide_eq_true h1;have HE:=Ip (show bZ a b (tq x)=(false,8) by rw[HR.out,if_pos (Or.inr h1)]);clear h1;go_wp2;refine LM (v:=.tuple #[.bool false,.int .i64 8]) (by simp[results,Tryz.results5,go_sem]) rfl ⟨by rw[HE.out],M9.out⟩
    ·have hd1:decide (c1 > 0)=false:=decide_eq_false h1;have HN:=Ip (show ¬ (c0<=0\/0<c1) from fun h=>by have:=H0.out;rcases h with h | h;omega;exact h1 h);have HE:=Ip (show bZ a b (tq x)=((bg (qb.length-1) (cG qb x)).isSome,0) by rw[HR.out,if_neg HN.out]);obtain⟨u,v,hx,hu,hv,hu4,hv4⟩:=HDV.out HN.out;have HU:=Ip (And.intro hx (And.intro hu (And.intro hv (And.intro hu4 hv4))));have HSZ:=Ip (nH hx hu hv hu4 hv4 HPB.out HH.out HQ0.out);clear h1 hx hu hv hu4 hv4;go_wp2_with fail
     refine (mS _ qb w9 (by rw[<-HPB.out.e];exact HB9.out) HPB.out.ok (by have:=HPB.out.len;omega)).mono ?_;rintro e w10 ⟨v10,rfl,hv10,hb10⟩;have hs10:=hv10.isQs;obtain⟨p3,c3,rfl,-,-⟩:=id hs10.form;have M10:=Ip (LK M9.out hb10);clear hv10 hb10;go_wp2_with fail
     refine (oX x w10 HOK.out).mono ?_;rintro e w11 ⟨v11,rfl,hv11,hb11⟩;have hs11:=hs10.below hb11;have M11:=Ip (LK M10.out hb11);have HW:=Ip (sT _ _ qb x w11 hs11 hv11 HU.out.1 HU.out.2.1 HU.out.2.2.1 HU.out.2.2.2.1 HU.out.2.2.2.2 HQ0.out HPB.out.len HOK.out HPB.out.ok HSZ.out);obtain⟨ok,hok⟩:∃ ok,ok=(bg (qb.length-1) (cG qb x)).isSome:=⟨_,rfl⟩;rw[<-hok] at HE HW;clear hok hs10 hb11 hs11;go_wp2_with fail
     refine HW.out.mono ?_;rintro e w12 ⟨rfl,hb12⟩;go_wp2;refine LM (v:=.tuple #[.bool ok,.int .i64 0]) (by simp[results,Tryz.results5,go_sem]) rfl ⟨by rw[HE.out],LK M11.out hb12⟩
  ·have HE:=Ip (show bZ a b r=(false,8) by
    unfold bZ sO
    rw[if_pos HC.out,if_neg (by simp[hco])])
   rw[show bU r.data.toList=false by simpa using hco];clear hco;go_wp2;refine LM (v:=.tuple #[.bool false,.int .i64 8]) (by simp[results,Tryz.results5,go_sem]) rfl ⟨by rw[HE.out],M3.out⟩
 ·have HC:=Ip (show aC a b=false by simpa using hck);have hce:aB a b=30:=by unfold aB;rw[if_neg hck]
  rw[hce] at HCK;clear hce;go_wp2_with fail
  refine HCK.out.mono ?_;rintro e w2 ⟨rfl,hb2⟩;go_wp2;refine LM (v:=.tuple #[.bool false,.int .i64 30]) (by simp[results,Tryz.results5,go_sem]) rfl ⟨by unfold bZ;rw[HC.out];rfl,LK M1.out hb2⟩
def Lim (u:Nat->Rat) (l:Rat):Prop:=∀ e:Rat,0<e->∃ N0:Nat,∀ N,N0<=N->-e<u N-l/\u N-l<e
theorem Lim.const (l:Rat):Lim (fun _=>l) l:=fun e he=>⟨0,fun N _=>by constructor<;>grind⟩
theorem Lim.congr {u v:Nat->Rat}{l:Rat} (N1:Nat) (h:∀ N,N1<=N->u N=v N) (hu:Lim u l):Lim v l:=fun e he=>by
 obtain⟨N0,h0⟩:=hu e he;refine⟨max N0 N1,fun N hN=>?_⟩;rw[<-h N (by omega)];exact h0 N (by omega)
theorem Lim.to {u:Nat->Rat}{l m:Rat} (hu:Lim u l) (e:l=m):Lim u m:=e ▸ hu
theorem Lim.add {u v:Nat->Rat}{l m:Rat} (hu:Lim u l) (hv:Lim v m):Lim (fun N=>u N+v N) (l+m):=fun e he=>by
 obtain⟨N0,h0⟩:=hu (e / 2) (by grind);obtain⟨N1,h1⟩:=hv (e / 2) (by grind);refine⟨max N0 N1,fun N hN=>?_⟩;have a:=h0 N (by omega);have b:=h1 N (by omega);constructor<;>grind
theorem mX (x:Rat):0<=x*x:=by
 rcases (Rat.le_total:0<=x\/x<=0) with h | h
 ·exact Rat.mul_nonneg h h
 ·have:=Rat.mul_nonneg (show 0<=-x by grind) (show 0<=-x by grind);grind
theorem Lim.mul (c:Rat) {u:Nat->Rat}{l:Rat} (hu:Lim u l):Lim (fun N=>c*u N) (c*l):=fun e he=>by
 have s0:=mX c;have s1:=mX (c-1);have s2:=mX (c+1);have hp:0<1+c*c:=by grind
 obtain⟨e',he'⟩:∃ e',e'=e / (1+c*c):=⟨_,rfl⟩;have ee:e=(1+c*c)*e':=by rw[he'];grind
 have e0:0<e':=by
  rcases (Rat.le_total:0<=e'\/e'<=0) with h | h
  ·rcases Decidable.em (e'=0) with h1 | h1
   ·rw[h1] at ee;grind
   ·grind
  ·have:=Rat.mul_nonneg (Rat.le_of_lt hp) (show 0<=-e' by grind);grind
 obtain⟨N0,h0⟩:=hu e' e0;refine⟨N0,fun N hN=>?_⟩;obtain⟨a,b⟩:=h0 N hN;have q1:=Rat.mul_pos (show 0<1+c*c-c by grind) e0;have q2:=Rat.mul_pos (show 0<1+c*c+c by grind) e0;obtain⟨d,hd⟩:∃ d,d=u N-l:=⟨_,rfl⟩;rw[<-hd] at a b;have eq:c*u N-c*l=c*d:=by rw[hd];grind
 rw[eq];rcases (Rat.le_total:0<=c\/c<=0) with h | h
 ·have p1:=Rat.mul_nonneg h (show 0<=e' - d by grind);have p2:=Rat.mul_nonneg h (show 0<=e'+d by grind);constructor<;>grind
 ·have p1:=Rat.mul_nonneg (show 0<=-c by grind) (show 0<=e' - d by grind);have p2:=Rat.mul_nonneg (show 0<=-c by grind) (show 0<=e'+d by grind);constructor<;>grind
theorem Lim.unique {u:Nat->Rat}{l m:Rat} (h1:Lim u l) (h2:Lim u m):l=m:=by
 rcases Decidable.em (l=m) with h | h
 ·exact h
 ·exfalso
  rcases (Rat.le_total:l<=m\/m<=l) with k | k
  ·obtain⟨N0,a⟩:=h1 ((m-l) / 2) (by grind);obtain⟨N1,b⟩:=h2 ((m-l) / 2) (by grind);have:=a (max N0 N1) (by omega);have:=b (max N0 N1) (by omega);grind
  ·obtain⟨N0,a⟩:=h1 ((l-m) / 2) (by grind);obtain⟨N1,b⟩:=h2 ((l-m) / 2) (by grind);have:=a (max N0 N1) (by omega);have:=b (max N0 N1) (by omega);grind
theorem Lim.ge {u:Nat->Rat}{l d:Rat} (h:Lim u l) (N1:Nat) (hd:∀ N,N1<=N->d<=u N):d<=l:=by
 rcases (Rat.le_total:d<=l\/l<=d) with k | k
 ·exact k
 ·rcases Decidable.em (d=l) with e | e
  ·grind
  ·obtain⟨N0,a⟩:=h (d-l) (by grind);have:=a (max N0 N1) (by omega);have:=hd (max N0 N1) (by omega);grind
theorem Lim.up {u:Nat->Rat}{l:Rat} (h:Lim (fun N=>u (N+1)) l):Lim u l:=fun e he=>by
 obtain⟨N0,a⟩:=h e he;refine⟨N0+1,fun N hN=>?_⟩;have k:N-1+1=N:=by omega
 have h2:-e<u (N-1+1)-l/\u (N-1+1)-l<e:=a (N-1) (by omega)
 rwa [k] at h2
theorem Lim.down {u:Nat->Rat}{l:Rat} (h:Lim u l):Lim (fun N=>u (N+1)) l:=fun e he=>by
 obtain⟨N0,a⟩:=h e he;exact⟨N0,fun N hN=>a (N+1) (by omega)⟩
theorem Lim.prod {u v:Nat->Rat} (hu:Lim u 0) (hv:Lim v 0):Lim (fun N=>u N*v N) 0:=fun e he=>by
 obtain⟨N0,a⟩:=hu 1 (by decide);obtain⟨N1,b⟩:=hv e he;refine⟨max N0 N1,fun N hN=>?_⟩;obtain⟨a1,a2⟩:=a N (by omega);obtain⟨b1,b2⟩:=b N (by omega);have p1:=Rat.mul_pos (show 0<1-u N by grind) (show 0<e-v N by grind);have p2:=Rat.mul_pos (show 0<1+u N by grind) (show 0<e+v N by grind);have p3:=Rat.mul_pos (show 0<1-u N by grind) (show 0<e+v N by grind);have p4:=Rat.mul_pos (show 0<1+u N by grind) (show 0<e-v N by grind);constructor<;>grind
theorem Lim.squeeze {u v:Nat->Rat} (hv:Lim v 0) (h:∀ N,-(v N)<=u N/\u N<=v N):Lim u 0:=fun e he=>by
 obtain⟨N0,a⟩:=hv e he;refine⟨N0,fun N hN=>?_⟩;have:=a N hN;have:=h N;constructor<;>grind
def eN (a x y:Nat->Rat):Nat->Rat
 | 0=>0
 | N+1=>eN a x y N+aL a x N 0*aL a y N 0
theorem uj (a x y:Nat->Rat) (c:Rat):∀ t i,aL a (fun j=>x j+c*y j) t i=aL a x t i+c*aL a y t i
 | 0,i=>rfl
 | t+1,i=>by
  show aL a (fun j=>x j+c*y j) t (i+1)-aL a (fun j=>x j+c*y j) t 0*a (i+1)=_
  rw[uj a x y c t (i+1),uj a x y c t 0]
  show _=(aL a x t (i+1)-aL a x t 0*a (i+1))+c*(aL a y t (i+1)-aL a y t 0*a (i+1))
  grind
theorem tN (a x z y:Nat->Rat) (c:Rat):∀ N,eN a (fun j=>x j+c*z j) y N=eN a x y N+c*eN a z y N
 | 0=>by show (0:Rat)=0+c*0;grind
 | N+1=>by
  rw[eN,eN,eN,tN a x z y c N,uj];grind
theorem qQ (a x:Nat->Rat):∀ t i,aL a (shE x) (t+1) i=aL a x t i
 | 0,i=>by
  show shE x (i+1)-shE x 0*a (i+1)=x i
  show x i-0*a (i+1)=x i
  grind
 | t+1,i=>by
  show aL a (shE x) (t+1) (i+1)-aL a (shE x) (t+1) 0*a (i+1)=_
  rw[qQ a x t (i+1),qQ a x t 0];rfl
theorem Ge (a x y:Nat->Rat):∀ N,eN a (shE x) (shE y) (N+1)=eN a x y N
 | 0=>by
  show (0:Rat)+0*0=0
  grind
 | N+1=>by
  rw[eN,Ge a x y N,qQ,qQ,eN]
theorem mT (a y:Nat->Rat):∀ t i,aL a (aL a y 1) t i=aL a y (t+1) i
 | 0,_=>rfl
 | t+1,i=>by
  show aL a (aL a y 1) t (i+1)-aL a (aL a y 1) t 0*a (i+1)=_
  rw[mT a y t (i+1),mT a y t 0];rfl
theorem C8 (a x y:Nat->Rat):∀ N,eN a (shE x) y (N+1)=eN a x (aL a y 1) N
 | 0=>by
  show (0:Rat)+0*_=0
  grind
 | N+1=>by
  rw[eN,C8 a x y N,qQ,eN,mT]
theorem C7 (a x:Nat->Rat):∀ N,0<=eN a x x N
 | 0=>(by decide:(0:Rat)<=0)
 | N+1=>by
  have h1:=C7 a x N;have h2:=mX (aL a x N 0);rw[eN];grind
theorem zw (a x:Nat->Rat) (N:Nat):∀ k,eN a x x N<=eN a x x (N+k)
 | 0=>by show eN a x x N<=eN a x x N;grind
 | k+1=>by
  have h1:=zw a x N k;have h2:=mX (aL a x (N+k) 0)
  show _<=eN a x x (N+k)+_
  grind
theorem wP {a x:Nat->Rat}{n:Nat} (h:∀ t,t<=n->aL a x t 0=0):∀ t,t<=n+1->∀ i,aL a x t i=x (t+i)
 | 0,_,i=>by rw[Jk];rfl
 | t+1,ht,i=>by
  show aL a x t (i+1)-aL a x t 0*a (i+1)=_
  rw[h t (by omega),wP h t (by omega) (i+1),show t+(i+1)=t+1+i by omega];grind
theorem GM {a x:Nat->Rat}{n t0:Nat} (ht:t0<=n) (hx:x t0≠0):∃ d:Rat,0<d/\∀ N,n+1<=N->d<=eN a x x N:=by
 have h1:∃ t,t<=n/\aL a x t 0≠0:=by
  apply Classical.byContradiction
  intro hno;refine hx ?_;have hz:∀ t,t<=n->aL a x t 0=0:=fun t ht=>Classical.byContradiction fun hne=>hno ⟨t,ht,hne⟩;have:=wP hz t0 (by omega) 0;rw[hz t0 ht] at this;exact this.symm
 obtain⟨t,ht,hne⟩:=h1
 have hsq:0<aL a x t 0*aL a x t 0:=by
  have:=mX (aL a x t 0);rcases Decidable.em (aL a x t 0*aL a x t 0=0) with e | e
  ·rcases Rat.mul_eq_zero.1 e with e | e<;>exact absurd e hne
  ·grind
 refine⟨_,hsq,fun N hN=>?_⟩;have h2:=zw a x (t+1) (N-(t+1));rw[show t+1+(N-(t+1))=N by omega] at h2;have h3:=C7 a x t;have h4:eN a x x (t+1)=eN a x x t+aL a x t 0*aL a x t 0:=rfl;grind
def fW (m:Nat) (a:Nat->Rat):Nat->Rat:=fun i=>if i<=m then a (m-i) else 0
def gK:Nat->Rat:=fun i=>if i=0 then 1 else 0
theorem zA (a y:Nat->Rat):∀ N,eN a (fun _=>0) y N=0
 | 0=>rfl
 | N+1=>by
  have hz:∀ t i,aL a (fun _=>0) t i=0:=fun t=>by
   induction t with
   | zero=>exact fun _=>rfl
   | succ t ih =>
    intro i
    show aL a (fun _=>0) t (i+1)-aL a (fun _=>0) t 0*a (i+1)=0
    rw[ih,ih];grind
  rw[eN,zA a y N,hz];grind
theorem lyap {A:Nat->Rat}:∀ (m:Nat) (al:Nat->Rat),0<al 0->(∀ i,m<i->al i=0)->(∀ y:Nat->Rat,(∀ i,m<i->y i=0)->Lim (eN A al y) (y 0))->(∀ y:Nat->Rat,(∀ i,m<i->y i=0)->Lim (eN A (fW m al) y) (y m))->dl m al
 | 0,al,h0,_,_,_=>h0
 | m+1,al,h0,hs,hA,hR=>by
  obtain⟨k,hk⟩:∃ k,k=al (m+1) / al 0:=⟨_,rfl⟩
  have ek:al (m+1)=k*al 0:=by rw[hk];grind
  obtain⟨c,hc⟩:∃ c:Nat->Rat,c=fun i=>al i+(-k)*fW (m+1) al i:=⟨_,rfl⟩
  have rv:∀ i,i<=m+1->fW (m+1) al i=al (m+1-i):=fun i hi=>by unfold fW;rw[if_pos hi]
  have r0:∀ i,m+1<i->fW (m+1) al i=0:=fun i hi=>by unfold fW;rw[if_neg (by omega)]
  have cs:∀ i,m<i->c i=0:=fun i hi=>by
   rw[hc]
   by_cases h:i=m+1
   ·subst h
    show al (m+1)+-k*fW (m+1) al (m+1)=0
    rw[rv _ (Iw _),JJ,ek];grind
   ·show al i+-k*fW (m+1) al i=0
    rw[hs i (by omega),r0 i (by omega)];grind
  have cd:∀ i,i<=m->dnE (m+1) al al i=c i:=fun i hi=>by
   rw[hc]
   show al i-al (m+1) / al 0*al (m+1-i)=al i+-k*fW (m+1) al i
   rw[rv i (by omega),<-hk];grind
  have lc:∀ y:Nat->Rat,(∀ i,m+1<i->y i=0)->Lim (eN A c y) (y 0+-k*y (m+1)):=fun y hy=>by
   refine Lim.congr 0 (fun N _=>?_) ((hA y hy).add ((hR y hy).mul (-k)))
   rw[hc,tN]
  have cc:=(lc c (fun i hi=>cs i (by omega))).to (show c 0+-k*c (m+1)=c 0 by rw[cs (m+1) (by omega)];grind)
  have c0:0<c 0:=by
   rcases Decidable.em (∃ t,t<=m/\c t≠0) with ⟨t,ht,hne⟩ | hno
   ·obtain⟨d,hd,hge⟩:=GM (a:=A) (n:=m) ht hne
    have:=cc.ge (m+1) hge
    grind
   ·exfalso
    have hz:c=fun _=>0:=by
     funext i
     by_cases hi:i<=m
     ·exact Classical.byContradiction fun hne=>hno ⟨i,hi,hne⟩
     ·exact cs i (by omega)
    have h1:=lc gK (fun i hi=>by unfold gK;rw[if_neg (by omega)])
    have h2:Lim (eN A c gK) 0:=Lim.congr 0 (fun N _=>by rw[hz,zA]) (Lim.const 0)
    have h3:=h1.unique h2
    have e1:gK 0=1:=rfl
    have e2:gK (m+1)=0:=by unfold gK;rw[if_neg (by omega)]
    rw[e1,e2] at h3
    grind
  refine⟨h0,jE (fun i hi=>(cd i hi).symm) (lyap (A:=A) m c c0 cs (fun y hy=>?_) (fun y hy=>?_))⟩
  ·exact (lc y (fun i hi=>hy i (by omega))).to (by rw[hy (m+1) (by omega)];grind)
  ·have es:shE (fW m c)=fun i=>fW (m+1) al i+(-k)*al i:=by
    funext i
    match i with
    | 0 =>
     show (0:Rat)=fW (m+1) al 0+-k*al 0
     rw[rv 0 (by omega),JY,ek];grind
    | j+1 =>
     show fW m c j=fW (m+1) al (j+1)+-k*al (j+1)
     by_cases hj:j<=m
     ·unfold fW
      rw[if_pos hj,if_pos (by omega),hc]
      show al (m-j)+-k*fW (m+1) al (m-j)=_
      rw[rv (m-j) (by omega),show m+1-(m-j)=j+1 by omega,show m+1-(j+1)=m-j by omega]
     ·unfold fW
      rw[if_neg hj,if_neg (by omega),hs (j+1) (by omega)];grind
   have hy2:∀ i,m+1<i->shE y i=0:=fun i hi=>by
    match i,hi with
    | j+1,hj=>exact hy j (by omega)
   have l1:=(hR (shE y) hy2).add ((hA (shE y) hy2).mul (-k))
   have l2:Lim (eN A (shE (fW m c)) (shE y)) (shE y (m+1)+-k*shE y 0):=Lim.congr 0 (fun N _=>by rw[es,tN]) l1
   refine Lim.congr 0 (fun N _=>Ge A (fW m c) y N) (l2.down.to ?_)
   show y m+-k*0=y m
   grind
theorem uo {A:Nat->Rat} (h1:A 0=1):∀ t i,aL A A (t+1) i=0
 | 0,i=>by
  show A (i+1)-A 0*A (i+1)=0
  rw[h1];grind
 | t+1,i=>by
  show aL A A (t+1) (i+1)-aL A A (t+1) 0*A (i+1)=0
  rw[uo h1 t (i+1),uo h1 t 0];grind
theorem C6 {A:Nat->Rat} (h1:A 0=1) (y:Nat->Rat):∀ N,eN A A y (N+1)=y 0
 | 0=>by
  show (0:Rat)+A 0*y 0=y 0
  rw[h1];grind
 | N+1=>by rw[eN,C6 h1 y N,uo h1];grind
def wN (A y:Nat->Rat) (i:Nat):Nat->Rat
 | 0=>0
 | N+1=>wN A y i N+aL A gK N 0*aL A y N i
theorem At (A y:Nat->Rat):∀ N,wN A y 0 N=eN A gK y N
 | 0=>rfl
 | N+1=>by rw[wN,eN,At A y N]
theorem As (A y:Nat->Rat) (i:Nat):∀ N,wN A y (i+1) (N+1)=wN A (aL A y 1) i N+aL A gK N 0*aL A y (N+1) i+A (i+1)*eN A gK y (N+1)
 | 0=>by
  show (0:Rat)+aL A gK 0 0*y (i+1)=0+aL A gK 0 0*(y (i+1)-y 0*A (i+1))+A (i+1)*(0+aL A gK 0 0*y 0)
  grind
 | N+1=>by
  have e3:eN A gK y (N+1+1)=eN A gK y (N+1)+aL A gK (N+1) 0*aL A y (N+1) 0:=rfl;rw[wN,As A y i N,wN,mT,e3];have e:aL A y (N+1+1) i=aL A y (N+1) (i+1)-aL A y (N+1) 0*A (i+1):=rfl;rw[e];grind
theorem sU {A y:Nat->Rat} (h:Lim (fun N=>aL A y N 0) 0):∀ i,Lim (fun N=>aL A y N i) 0
 | 0=>h
 | i+1=>by
  have l:=((sU h i).down).add (h.mul (A (i+1)));refine Lim.congr 0 (fun N _=>?_) (l.to (by grind))
  show aL A y (N+1) i+A (i+1)*aL A y N 0=aL A y N (i+1)
  show aL A y N (i+1)-aL A y N 0*A (i+1)+A (i+1)*aL A y N 0=aL A y N (i+1)
  grind
theorem Af {A:Nat->Rat}{n:Nat} (h1:A 0=1) (hA:∀ i,n<i->A i=0) (h:∀ x:Nat->Rat,(∀ i,n<i->x i=0)->Lim (fun N=>aL A x N 0) 0):∀ (i:Nat) (y:Nat->Rat),(∀ i,n<i->y i=0)->Lim (fun N=>eN A (fW i A) y N+-1*wN A y i N) 0
 | 0,y,hy=>by
  have e:fW 0 A=gK:=by
   funext j
   unfold fW gK
   by_cases hj:j=0
   ·subst hj;rw[if_pos (Iw _),if_pos rfl,JJ,h1]
   ·rw[if_neg (by omega),if_neg hj]
  refine Lim.congr 0 (fun N _=>?_) (Lim.const 0)
  show (0:Rat)=_
  rw[e,At];grind
 | i+1,y,hy=>by
  have e:fW (i+1) A=fun j=>shE (fW i A) j+A (i+1)*gK j:=by
   funext j
   match j with
   | 0 =>
    show A (i+1-0)=0+A (i+1)*1
    rw[JY];grind
   | j+1 =>
    show fW (i+1) A (j+1)=fW i A j+A (i+1)*gK (j+1)
    have e2:gK (j+1)=0:=by unfold gK;rw[if_neg (by omega)]
    rw[e2]
    unfold fW
    by_cases hj:j<=i
    ·rw[if_pos hj,if_pos (by omega),show i+1-(j+1)=i-j by omega];grind
    ·rw[if_neg hj,if_neg (by omega)];grind
  refine Lim.up ?_
  have l1:=Af h1 hA h i (aL A y 1) (fun j hj=>oY hA hy 1 j hj)
  have l2:=(Lim.prod (h gK (fun j hj=>by unfold gK;rw[if_neg (by omega)])) (sU (h y hy) i).down).mul (-1)
  refine Lim.congr 0 (fun N _=>?_) ((l1.add l2).to (by grind))
  rw[e,tN,C8,As]
  grind
theorem Ar {A y:Nat->Rat}{n:Nat} (hA:∀ i,n<i->A i=0) (hy:∀ i,n<i->y i=0):∀ N,wN A y n (N+1)=y n
 | 0=>by
  show (0:Rat)+gK 0*y n=y n
  show (0:Rat)+1*y n=y n
  grind
 | N+1=>by
  have e:aL A y (N+1) n=0:=by
   show aL A y N (n+1)-aL A y N 0*A (n+1)=0
   rw[oY hA hy N (n+1) (by omega),hA (n+1) (by omega)];grind
  rw[wN,Ar hA hy N,e];grind
theorem vH {A:Nat->Rat}{n:Nat} (h1:A 0=1) (hA:∀ i,n<i->A i=0) (h:∀ x:Nat->Rat,(∀ i,n<i->x i=0)->Lim (fun N=>aL A x N 0) 0):dl n A:=by
 refine lyap (A:=A) n A (by rw[h1];decide) hA (fun y _=>?_) (fun y hy=>?_)
 ·exact Lim.up (Lim.congr 0 (fun N _=>(C6 h1 y N).symm) (Lim.const (y 0)))
 ·have l2:Lim (wN A y n) (y n):=Lim.up (Lim.congr 0 (fun N _=>(Ar hA hy N).symm) (Lim.const (y n)));refine Lim.congr 0 (fun N _=>?_) (((Af h1 hA h n y hy).add l2).to (by grind));grind
theorem pow_pos {r:Rat} (h:0<r):∀ i,0<bW r i
 | 0=>(by decide:(0:Rat)<1)
 | i+1=>Rat.mul_pos (pow_pos h i) h
theorem wF {r d:Rat} (h0:0<r) (hd:r*(1+d)=1) (hdp:0<d):∀ N:Nat,bW r N*(1+(N:Rat)*d)<=1
 | 0=>by
  show (1:Rat)*(1+((0:Nat):Rat)*d)<=1
  rw[show ((0:Nat):Rat)=0 from rfl];grind
 | N+1=>by
  have ih:=wF h0 hd hdp N;have hp:=pow_pos h0 N
  have hr1:0<=1-r:=by
   have:1-r=r*d:=by grind
   rw[this];exact Rat.le_of_lt (Rat.mul_pos h0 hdp)
  have hn:(0:Rat)<=(N:Rat):=Rat.intCast_le_intCast.2 (show (0:Int)<=(N:Int) by omega)
  have e:((N+1:Nat):Rat)=(N:Rat)+1:=by
   have:=Rat.natCast_add N 1;rw[this];rfl
  have p:=Rat.mul_nonneg (Rat.le_of_lt hp) (Rat.mul_nonneg hr1 (Rat.mul_nonneg hn (Rat.le_of_lt hdp)))
  show bW r N*r*(1+((N+1:Nat):Rat)*d)<=1
  rw[e];have e2:bW r N*r*(1+((N:Rat)+1)*d)=bW r N*(r*(1+d)+r*((N:Rat)*d)):=by grind
  rw[e2,hd];grind
theorem Bb (q:Rat):q<=((q.num.natAbs:Nat):Rat):=by
 have hd:=fz q.den_pos
 have e:q*(q.den:Rat)=(q.num:Rat):=by
  have h1:=le q;have h2:=aO q.den_pos;grind
 have d1:(1:Rat)<=(q.den:Rat):=by
  have:=Rat.intCast_le_intCast.2 (show (1:Int)<=(q.den:Int) by have:=q.den_pos;omega);exact this
 have n1:(q.num:Rat)<=((q.num.natAbs:Nat):Rat):=Rat.intCast_le_intCast.2 (show q.num<=((q.num.natAbs:Nat):Int) by omega);have n0:(0:Rat)<=((q.num.natAbs:Nat):Rat):=Rat.intCast_le_intCast.2 (show (0:Int)<=((q.num.natAbs:Nat):Int) by omega);have p:=Rat.mul_nonneg n0 (show 0<=(q.den:Rat)-1 by grind)
 have:0<=((q.num.natAbs:Nat):Rat)-q:=by
  rcases (Rat.le_total:0<=((q.num.natAbs:Nat):Rat)-q\/((q.num.natAbs:Nat):Rat)-q<=0) with h | h
  ·exact h
  ·have p2:=Rat.mul_nonneg (show 0<=-(((q.num.natAbs:Nat):Rat)-q) by grind) (Rat.le_of_lt hd);have z:(((q.num.natAbs:Nat):Rat)-q)*(q.den:Rat)=0:=by grind
   rcases Rat.mul_eq_zero.1 z with h | h<;>grind
 grind
theorem FF {r:Rat} (h0:0<r) (h1:r<1):Lim (bW r) 0:=fun e he=>by
 obtain⟨d,hd⟩:∃ d,d=1 / r-1:=⟨_,rfl⟩;have hr:r*(1+d)=1:=by rw[hd];grind
 have hdp:0<d:=by
  have e1:r*d=1-r:=by grind
  rcases (Rat.le_total:0<=d\/d<=0) with h | h
  ·rcases Decidable.em (d=0) with h2 | h2
   ·rw[h2] at e1;grind
   ·grind
  ·have:=Rat.mul_nonneg (Rat.le_of_lt h0) (show 0<=-d by grind);grind
 obtain⟨q,hq⟩:∃ q,q=1 / (d*e):=⟨_,rfl⟩;have hde:=Rat.mul_pos hdp he;have hq1:q*(d*e)=1:=by rw[hq];grind
 refine⟨q.num.natAbs,fun N hN=>?_⟩;have hp:=pow_pos h0 N;have hb:=wF h0 hr hdp N
 have hqN:q<=(N:Rat):=by
  have a:=Bb q;have b:((q.num.natAbs:Nat):Rat)<=(N:Rat):=Rat.intCast_le_intCast.2 (show ((q.num.natAbs:Nat):Int)<=(N:Int) by omega);grind
 have p1:=Rat.mul_nonneg (show 0<=(N:Rat)-q by grind) (Rat.le_of_lt hde);constructor
 ·grind
 ·rcases (Rat.le_total:bW r N<=e\/e<=bW r N) with h | h
  ·rcases Decidable.em (bW r N=e) with h2 | h2
   ·rw[h2] at hb;grind
   ·grind
  ·have hn:(0:Rat)<=(N:Rat):=Rat.intCast_le_intCast.2 (show (0:Int)<=(N:Int) by omega)
   have p2:=Rat.mul_nonneg (show 0<=bW r N-e by grind) (show 0<=1+(N:Rat)*d by
    have:=Rat.mul_nonneg hn (Rat.le_of_lt hdp)
    grind)
   grind
theorem nF {r:Rat} (h0:0<r) (a x:Nat->Rat):∀ t i,aL (fun j=>bW r j*a j) x t i=bW r (t+i)*aL a (fun j=>x j / bW r j) t i
 | 0,i=>by
  have:=pow_pos h0 i;rw[Jk]
  show x i=bW r i*(x i / bW r i)
  grind
 | t+1,i=>by
  show aL (fun j=>bW r j*a j) x t (i+1)-aL (fun j=>bW r j*a j) x t 0*(bW r (i+1)*a (i+1))=_
  rw[nF h0 a x t (i+1),nF h0 a x t 0]
  have e:∀ k,bW r (t+k)=bW r t*bW r k:=fun k=>by
   induction k with
   | zero=>show bW r t=bW r t*1;grind
   | succ k ih =>
    show bW r (t+k)*r=bW r t*(bW r k*r)
    rw[ih];grind
  have e1:t+1+i=t+(i+1):=by omega
  rw[e1,e (i+1),e 0]
  show bW r t*bW r (i+1)*aL a (fun j=>x j / bW r j) t (i+1)-bW r t*1*aL a (fun j=>x j / bW r j) t 0*(bW r (i+1)*a (i+1))=bW r t*bW r (i+1)*(aL a (fun j=>x j / bW r j) t (i+1)-aL a (fun j=>x j / bW r j) t 0*a (i+1))
  grind
theorem BM {n:Nat}{a b:Nat->Rat} (hg:dl n a) (h1:a 0=1) (ha:∀ i,n<i->a i=0) (hb:∀ i,n<i->b i=0) (t:Nat):aL a b t 0*aL a b t 0<=aS n a b b:=by
 have h:=Fs hg h1 ha hb (t+1)
 have hs:∀ k,0<=sqS (fun s=>aL a b s 0) k:=fun k=>by
  induction k with
  | zero=>exact (by decide:(0:Rat)<=0)
  | succ k ih =>
   have:=mX (aL a b k 0)
   show 0<=sqS (fun s=>aL a b s 0) k+aL a b k 0*aL a b k 0
   grind
 have h2:=hs t;have h3:sqS (fun s=>aL a b s 0) (t+1)=sqS (fun s=>aL a b s 0) t+aL a b t 0*aL a b t 0:=rfl;grind
theorem x_ {n:Nat}{a:Nat->Rat}{r:Rat} (hg:dl n a) (h1:a 0=1) (ha:∀ i,n<i->a i=0) (h0:0<r) (hr:r<=1):dl n (fun j=>bW r j*a j):=by
 rcases Decidable.em (r=1) with e | e
 ·have hp:∀ j,bW r j=1:=fun j=>by
   induction j with
   | zero=>rfl
   | succ j ih=>show bW r j*r=1;rw[ih,e];grind
  exact jE (fun i _=>by show a i=bW r i*a i;rw[hp];grind) hg
 ·have hr1:r<1:=by grind
  refine vH (A:=fun j=>bW r j*a j) (by show (1:Rat)*a 0=1;rw[h1];grind) (fun i hi=>by show bW r i*a i=0;rw[ha i hi];grind) (fun x hx=>?_);obtain⟨C,hC⟩:∃ C,C=aS n a (fun j=>x j / bW r j) (fun j=>x j / bW r j):=⟨_,rfl⟩
  have hb:∀ t,aL a (fun j=>x j / bW r j) t 0*aL a (fun j=>x j / bW r j) t 0<=C:=fun t=>by
   rw[hC];exact BM hg h1 ha (fun i hi=>by show x i / bW r i=0;rw[hx i hi];grind) t
  have hl:=(FF h0 hr1).mul (1+C);refine Lim.squeeze (v:=fun N=>(1+C)*bW r N) (hl.to (by grind)) (fun N=>?_);rw[nF h0];rw[I7];have hp:=pow_pos h0 N;have b:=hb N;obtain⟨h,hh⟩:∃ h,h=aL a (fun j=>x j / bW r j) N 0:=⟨_,rfl⟩;rw[<-hh] at b |-;have s1:=mX (h-1);have s2:=mX (h+1);have p1:=Rat.mul_nonneg (Rat.le_of_lt hp) (show 0<=1+C-h by grind);have p2:=Rat.mul_nonneg (Rat.le_of_lt hp) (show 0<=1+C+h by grind);constructor<;>grind
theorem qH:∀ (n:Nat) (a:Nat->Rat) (p:List Rat),(∀ i,i<=n->a i=a 0*p.getD i 0)->dl n a->(bg n p).isSome=true
 | 0,_,_,_,_=>rfl
 | n+1,a,p,ha,hg=>by
  have h0:=hg.1;have hp0:p.getD 0 0=1:=by have:=ha 0 (IF _);grind
  obtain⟨k,hk⟩:∃ k,k=p.getD (n+1) 0:=⟨_,rfl⟩
  have e0:dnE (n+1) a a 0=a 0*(1-k*k):=by
   unfold dnE;rw[JY,ha (n+1) (Iw _),<-hk];grind
  have c0:=hg.2.pos;rw[e0] at c0
  have hd:0<1-k*k:=by
   rcases (Rat.le_total:0<=1-k*k\/1-k*k<=0) with h | h
   ·rcases Decidable.em (1-k*k=0) with e | e
    ·rw[e] at c0;grind
    ·grind
   ·have:=Rat.mul_nonneg (Rat.le_of_lt h0) (show 0<=-(1-k*k) by grind);grind
  have hk2:=Gs hd;rw[bg,if_pos (by rw[<-hk];exact hk2),Ks];refine qH n (dnE (n+1) a a) _ (fun i hi=>?_) hg.2;rw[e0,k8 _ _ _ _ (by omega),<-hk];unfold dnE;rw[ha (n+1) (Iw _),ha i (by omega),ha (n+1-i) (by omega),<-hk];grind
theorem rP {qs:List Rat}{r:Rat} (hl:0<qs.length) (h1:qs.getD 0 0=1) (h0:0<r) (hr:r<=1) (h:(bg (qs.length-1) (cG qs r)).isSome=true):(bg (qs.length-1) qs).isSome=true:=by
 obtain⟨n,hn⟩:∃ n,qs.length=n+1:=⟨qs.length-1,by omega⟩;rw[hn,JC] at h |-;have s0:(cG qs r).getD 0 0=1:=by rw[lU _ _ hl,h1];show (1:Rat) / 1=1;grind
 have out:∀ (l:List Rat) i,l.length<=i->l.getD i 0=0:=fun l i hi=>by rw[IK,JF hi];rfl
 have g1:dl n (fun i=>(cG qs r).getD i 0):=lL n _ (cG qs r) (by show 0<(cG qs r).getD 0 0;rw[s0];decide) (fun i _=>by show _=(cG qs r).getD 0 0*_;rw[s0];grind) h;have g2:=x_ g1 s0 (fun i hi=>out _ i (by rw[jN];omega)) h0 hr;refine qH n (fun j=>bW r j*(cG qs r).getD j 0) qs (fun i hi=>?_) g2
 show bW r i*(cG qs r).getD i 0=1*(cG qs r).getD 0 0*qs.getD i 0
 have hp:=pow_pos h0 i;rw[s0,lU _ _ (by omega)];grind
def jU (k:Nat):Rat:=(k:Rat) / ((64:Nat):Rat)
def nX (qs:List Rat) (k:Nat):Bool:=(bg (qs.length-1) (cG qs (jU k))).isSome
theorem DV {k:Nat} (h:1<=k):0<jU k:=by
 have h1:=fz h;have h2:=fz (show 0<64 by decide);unfold jU;rw[Rat.div_def];exact Rat.mul_pos h1 (Rat.inv_pos.2 h2)
theorem FE {k:Nat} (h:k<=64):jU k<=1:=by
 have h1:(k:Rat)<=((64:Nat):Rat):=Rat.intCast_le_intCast.2 (show (k:Int)<=((64:Nat):Int) by omega);have h2:=fz (show 0<64 by decide)
 have e:jU k*((64:Nat):Rat)=(k:Rat):=by
  unfold jU;have:=aO (show 0<64 by decide);grind
 have:0<=1-jU k:=nonneg_of2 h2 (by
  have e2:(1-jU k)*((64:Nat):Rat)=((64:Nat):Rat)-(k:Rat):=by rw[<-e];grind
  rw[e2];grind)
 grind
where
 nonneg_of2 {x d:Rat} (hd:0<d) (h:0<=x*d):0<=x:=by
  rcases (Rat.le_total:0<=x\/x<=0) with h1 | h1
  ·exact h1
  ·have p:=Rat.mul_nonneg (show 0<=-x by grind) (Rat.le_of_lt hd);have:x*d=0:=by grind
   rcases Rat.mul_eq_zero.1 this with h | h<;>grind
theorem ui {k:Nat} (h:k<=64):okQ (jU k):=uf.ok (by decide) (bQ (k:=6) (by decide) (by decide)) (bQ (k:=6) (IB h (by decide)) (by decide))
theorem DO {k:Nat} (h:k<=64):ofT k=tq (jU k):=by
 have e:mkRat (k:Int) 64=jU k:=by rw[Rat.mkRat_eq_div];rfl
 unfold ofT;rw[e,nD (ui h)]
theorem DN {b:List ByteArray}{qs:List Rat} (pb:eR b qs) (h1:qs.getD 0 0=1) (hl:0<qs.length) {k:Nat} (hk1:1<=k) (hk:k<=64):cU b (ofT k)=nX qs k:=by
 rw[DO hk];exact ts (u:=k) (v:=64) rfl hk1 (by decide) (by omega) (by decide) (ui hk) pb h1 hl
def xE (b:List ByteArray) (qs:List Rat) (n err:Int):Prop :=
 (err=0/\∃ k:Nat,n=k/\1<=k/\k<=64/\nX qs k=true/\∀ m,1<=m->m<k->nX qs m=false)\/(err=31/\n=0/\∀ m,1<=m->m<=64->nX qs m=false)
theorem Eb {b:List ByteArray}{qs:List Rat} (pb:eR b qs) (h1:qs.getD 0 0=1) (hl:0<qs.length) {n err n' err':Int} (hr:xE b qs n' err')
  (hp:((bA b).isSome=true/\err=0/\∃ k:Nat,n=k/\1<=k/\k<=64/\cU b (ofT k)=true/\∀ m,1<=m->m<k->cU b (ofT m)=false)\/((bA b).isSome=false/\err=31/\n=0)):n=n'/\err=err':=by
 rcases hp with ⟨-,rfl,k,rfl,k1,k2,k3,k4⟩ | ⟨hs,rfl,rfl⟩
 ·rw[DN pb h1 hl k1 k2] at k3;rcases hr with ⟨rfl,j,rfl,j1,j2,j3,j4⟩ | ⟨-,-,hno⟩
  ·have h:k=j:=by
    rcases K6 k j with h | h | h
    ·rw[j4 k k1 h] at k3;cases k3
    ·exact h
    ·have:=k4 j j1 h;rw[DN pb h1 hl j1 j2,j3] at this;cases this
   subst h;exact⟨rfl,rfl⟩
  ·rw[hno k k1 k2] at k3;cases k3
 ·rcases hr with ⟨-,j,-,j1,j2,j3,-⟩ | ⟨rfl,rfl,-⟩
  ·exfalso
   have h2:=rP hl h1 (DV j1) (FE j2) j3;rw[qI pb h1 hl,Ks,h2] at hs
   cases hs
  ·exact⟨rfl,rfl⟩
theorem sJ {b:List ByteArray}{p q:List Rat} (hp:eR b p) (hq:eR b q):p=q:=by
 have e:p.map tq=q.map tq:=by rw[<-hp.e,<-hq.e]
 have hl:p.length=q.length:=by simpa using congrArg List.length e
 refine List.ext_getElem hl fun i h1 h2=>?_;have h:=congrArg (fun l=>l[i]?) e;simp only[J6,II h1,II h2,KO,Option.some.injEq] at h;exact EM (hp.ok _ (IS h1)) (hq.ok _ (IS h2)) h
theorem z_ {n:Nat} (h:n<=64):okQ ((n:Nat):Rat):=by
 have e:((n:Nat):Rat)=(n:Rat) / ((1:Nat):Rat):=by rw[show ((1:Nat):Rat)=1 from rfl];grind
 rw[e];exact uf.ok (by decide) (bQ (k:=6) (by decide) (by decide)) (bQ (k:=6) (IB h (by decide)) (by decide))
theorem BJ (v:Value) (a b:List ByteArray) (w:World) (hF:IsF w v a b) :
  Calls Tryz.prog 7 #[v] w fun e w'=>∃ n err,e=.returned (.tuple #[.int .i64 n,.int .i64 err])/\((aC a b=true/\∀ qb,eR b qb->xE b qb n err)\/(aC a b=false/\err=30/\n=0))/\Below w.heap.size w w':=by
 obtain⟨p,c,q,d,rfl,hfa,hfb⟩:=id hF.ex;go_enter Tryz.func7,Tryz.ntmps7;go_upto_region 1 with fail
 have cc:=aG w (.slice p a.length c) (.slice q b.length d);have m1:=aj w (.cells #[.slice p a.length c,.slice q b.length d] 24);have zz:=size_alloc w (.cells #[.slice p a.length c,.slice q b.length d] 24);generalize w.alloc (.cells #[.slice p a.length c,.slice q b.length d] 24)=w1 at *
 have HCK:=Ip (qP _ a b w1 (hF.below m1));have HB:=Ip (hfb.below m1);have c0:=cc.1;have c1:=cc.2;have hlt:w.heap.size<w1.heap.size:=by omega
 have M1:=Ip m1;clear hfa hfb cc zz m1 hF;by_cases hck:aC a b=true
 ·have hce:aB a b=0:=by unfold aB;rw[if_pos hck]
  rw[hce] at HCK;obtain⟨qa,qb,pa,pb,la,lb⟩:=mJ hck;obtain⟨tl,hh⟩:=kq hck pb;have HH:=Ip (show qb.getD 0 0=1 by rw[hh];rfl);have HC:=Ip hck;have HPB:=Ip pb;have HQ0:=Ip lb;clear hce hck pa pb la lb hh;go_wp2_with fail
  refine HCK.out.mono ?_;rintro e w2 ⟨rfl,hb2⟩;have d0:=ag hb2 hlt c0;have d1:=ag hb2 hlt c1;have M2:=Ip (LK M1.out hb2);have hlt2:w.heap.size<w2.heap.size:=Iz hlt hb2.size;have HB2:=Ip (HB.out.below hb2);clear c0 c1 HB HCK M1 hb2 hlt;go_wp2;go_loopw [5] (fun s4 wr=>∃ n:Nat,s4=.int .i64 n/\1<=n/\n<=65/\Hid (∀ m,1<=m->m<n->nX qb m=false)/\Below w2.heap.size w2 wr) (fun s4 _=>65-(intOf s4).toNat)
  case atStart=>exact⟨1,rfl,Iw _,by decide,Ip (fun m h1 h2=>by omega),LN _ _⟩
  case round =>
   obtain⟨n,rfl,hn1,hn65,hno,hbr⟩:=hrel;have e0:=ag hbr hlt2 d0;have e1:=ag hbr hlt2 d1;have HBR:=Ip (HB2.out.below hbr);have MR:=Ip (LK M2.out hbr);by_cases hn:n<=64
   ·have hd:decide ((n:Int)<=64)=true:=decide_eq_true (by omega);go_wp2_with fail
    refine (mS _ qb wr (by rw[<-HPB.out.e];exact HBR.out) HPB.out.ok (by have:=HPB.out.len;omega)).mono ?_;rintro e w3 ⟨v3,rfl,hv3,hb3⟩;have hs3:=hv3.isQs;obtain⟨p3,c3,rfl,-,-⟩:=id hs3.form;go_wp2_with fail
    refine (Ac n (by omega) w3).mono ?_;rintro e w4 ⟨v4,rfl,hv4,hb4⟩;go_wp2_with fail
    refine (Ac 64 (by decide) w4).mono ?_;rintro e w5 ⟨v5,rfl,hv5,hb5⟩;go_wp2_with fail
    refine (Ad _ _ (n:Rat) ((64:Nat):Rat) 2000 2000 w5 (hv4.below hb5) hv5 (cZ (z_ hn)) (cZ (z_ (Iw _))) (aO (by decide)) (by decide)).mono ?_;rintro e w6 ⟨v6,rfl,hv6,hb6⟩;have B6:=LK hb4 (LK hb5 hb6);have hs6:=hs3.below B6;have BR:=LK hb3 B6;have B7:=LK hbr BR;have HW:=Ip (sT _ _ qb (jU n) w6 hs6 hv6 (u:=n) (d:=64) rfl (by omega) (by decide) (by omega) (by decide) HQ0.out HPB.out.len (ui hn) HPB.out.ok (nH (u:=n) (v:=64) rfl (by omega) (by decide) (by omega) (by decide) HPB.out HH.out HQ0.out));obtain⟨ok,hok⟩:∃ ok,ok=nX qb n:=⟨_,rfl⟩;unfold nX at hok;rw[<-hok] at HW;have HOK:=Ip (show ok=nX qb n from hok);clear hok hs3 hb3 hv3 hv4 hb4 hv5 hb5 hv6 hb6 B6 hs6 BR hbr e0 e1 hd;go_wp2_with fail
    refine HW.out.mono ?_;rintro e w7 ⟨rfl,hb7⟩;have HB7:=Ip (LK B7 hb7);have HN:=Ip (And.intro hn1 hn);clear hb7 B7 HW
    cases ok with
    | true =>
     go_wp2;refine LM (v:=.tuple #[.int .i64 n,.int .i64 0]) (by simp[results,Tryz.results7,go_sem]) rfl ⟨_,_,rfl,Or.inl ⟨HC.out,fun qx hx=>?_⟩,LK M2.out HB7.out⟩;obtain rfl:qx=qb:=sJ hx HPB.out;exact Or.inl ⟨rfl,n,rfl,HN.out.1,HN.out.2,HOK.out.symm,hno.out⟩
    | false =>
     have hn':=HN.out.2;have hB:=HB7.out;go_wp2;go_roundw
     case rel=>exact⟨n+1,by go_num,by omega,by omega,Ip (fun m h1 h2=>by
      rcases JD m n with h | h
      ·exact hno.out m h1 h
      ·obtain rfl:m=n:=by omega
       exact HOK.out.symm),hB⟩
     case measure=>first | (simp[intOf];done) | (simp[intOf];omega)
   ·obtain rfl:n=65:=by omega
    go_wp2;refine LM (v:=.tuple #[.int .i64 0,.int .i64 31]) (by simp[results,Tryz.results7,go_sem]) rfl ⟨_,_,rfl,Or.inl ⟨HC.out,fun qx hx=>?_⟩,MR.out⟩;obtain rfl:qx=qb:=sJ hx HPB.out;exact Or.inr ⟨rfl,rfl,fun m h1 h2=>hno.out m h1 (by omega)⟩
 ·have HC:=Ip (show aC a b=false by simpa using hck);have hce:aB a b=30:=by unfold aB;rw[if_neg hck]
  rw[hce] at HCK;clear hce;go_wp2_with fail
  refine HCK.out.mono ?_;rintro e w2 ⟨rfl,hb2⟩;go_wp2;refine LM (v:=.tuple #[.int .i64 0,.int .i64 30]) (by simp[results,Tryz.results7,go_sem]) rfl ⟨_,_,rfl,Or.inr ⟨HC.out,rfl,rfl⟩,LK M1.out hb2⟩
end Go.Proofs.YtlhpcoelfhjomaaGreatDoor
