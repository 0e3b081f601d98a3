/- L -/
import Derived.Test.YtlhpcoelfhjomaaGreatDoorQEN5
import Derived.Test.YtlhpcoelfhjomaaGreatDoorQEN9
set_option linter.all false
set_option maxRecDepth 100000
set_option maxHeartbeats 8000000
namespace Go.Proofs.YtlhpcoelfhjomaaGreatDoor
open Go.RowKit Dg
theorem tu {P:Program}{ops:Array Oper}{md:Region.Mode}{S:World->Prop}{late:Nat->Bool}{Q:Exit->Act->World->Prop}{i j k:Nat}{oi oj ok:Oper}{fuel:Nat}{listed:Array Bool}{a:Act}{w:World} (hi:ops[i]?=some oi) (hj:ops[j]?=some oj) (hk:ops[k]?=some ok) (hr:Region.ready md ops listed=[i,j,k]) (hg:oi.guard=none) (hg':oj.guard=none) (hg'':ok.guard=none)
  (h:∀ K:Act->World->Prop,(∀ a' w',(late i=false->S w->S w')->df P md ops Q S late fuel (listed.setIfInBounds i true) a' w'->K a' w')->Oper.wp P oi a w K Q)
  (h':∀ K:Act->World->Prop,(∀ a' w',(late j=false->S w->S w')->df P md ops Q S late fuel (listed.setIfInBounds j true) a' w'->K a' w')->Oper.wp P oj a w K Q)
  (h'':∀ K:Act->World->Prop,(∀ a' w',(late k=false->S w->S w')->df P md ops Q S late fuel (listed.setIfInBounds k true) a' w'->K a' w')->Oper.wp P ok a w K Q):df P md ops Q S late (fuel+1) listed a w:=by
 refine⟨fun h0=>(by rw[hr] at h0;cases h0),fun l hl=>?_⟩;rw[hr] at hl;simp only[Jv,Ki,or_false] at hl;unfold wpOp;rcases hl with rfl | rfl | rfl
 ·simp only[hi];rw[if_pos (by simp[Region.wanted,hg])];exact Or.inl (h _ (fun a' w' h1 h2=>⟨h1,h2⟩))
 ·simp only[hj];rw[if_pos (by simp[Region.wanted,hg'])];exact Or.inl (h' _ (fun a' w' h1 h2=>⟨h1,h2⟩))
 ·simp only[hk];rw[if_pos (by simp[Region.wanted,hg''])];exact Or.inl (h'' _ (fun a' w' h1 h2=>⟨h1,h2⟩))
theorem BL (v:Value) (a b:List ByteArray) (qa qb:List Rat) (n:Nat) (w:World) (hF:IsF w v a b) (pa:eR a qa) (pb:eR b qb) (hn:max a.length b.length=n) (hn0:0<n) (hn7:n<=7) (hD:rR n (fun i=>qb.getD i 0) (fun i=>qa.getD i 0) 0) :
  Calls Tryz.prog 34 #[v] w fun e w'=>∃ v',e=.returned v'/\b9 w' v' (gj n (fun i=>qb.getD i 0) (fun i=>qa.getD i 0) 0)/\Below w.heap.size w w':=by
 obtain⟨p,c,q,d,rfl,hfa,hfb⟩:=id hF.ex;obtain⟨F0,hF0⟩:∃ F:Nat->Rat,(fun i=>qb.getD i 0)=F:=⟨_,rfl⟩;obtain⟨G0,hG0⟩:∃ F:Nat->Rat,(fun i=>qa.getD i 0)=F:=⟨_,rfl⟩;rw[hF0,hG0] at hD |-;have HF0:=Ip hF0;have HG0:=Ip hG0;clear hF0 hG0;go_enter Tryz.func34,Tryz.ntmps34;have l2:=mq w (.cells #[.slice p a.length c,.slice q b.length d] 24) (.cells #[.bool false,.slice none 0 0,.bool false,.slice none 0 0] 44);have s0:=l2.s0;have s1:=l2.s1;have zz:=l2.size;have hb5:=l2.below;have HPA:=Ip pa;have HPB:=Ip pb;have HD:=Ip hD;have HN0:=Ip hn0;have HN7:=Ip hn7;have hmax:max (a.length:Int) (b.length:Int)=(n:Int):=by omega
 clear l2 pa pb hD hn hn0 hn7 hF;go_upto_region 1 with fail
 generalize (w.alloc (.cells #[.slice p a.length c,.slice q b.length d] 24)).alloc (.cells #[.bool false,.slice none 0 0,.bool false,.slice none 0 0] 44)=w5 at *
 have q0:=af s0 0;have q1:=af s0 1;go_upto_region 2 with fail
 clear hmax q0 q1;obtain⟨gb,hgb⟩:∃ gb,gb=w.heap.size:=⟨_,rfl⟩;rw[<-hgb] at s0 s1 zz hb5 |-;have HGB:=Ip hgb;have hz:gb+2<=w5.drew.heap.size:=Kx zz.symm;have hBw:Below (gb+2) w5 w5.drew:=(LN _ _).drew;have LA:=Ip (fun (wx:World) (h:Below (gb+2) w5 wx)=>hfa.below (by rw[<-HGB.out];exact hb5.trans (h.mono (by omega))));have LB:=Ip (fun (wx:World) (h:Below (gb+2) w5 wx)=>hfb.below (by rw[<-HGB.out];exact hb5.trans (h.mono (by omega))));have HB5:=Ip hb5;have HS1:=Ip s1;clear hfa hfb hb5 hgb zz s1;refine av (fun w'=>∃ z:az (gb+2) w5,w'=z.w) (fun j=>j == 2||j == 4||j == 7||j == 9) (by kernel_rfl) (by kernel_rfl) ⟨⟨_,hBw⟩,rfl⟩ ?_;have k0:=ij (B:=gb+2) s0 (by omega) 0 rfl;have k1:=ij (B:=gb+2) s0 (by omega) 1 rfl;clear s0;generalize w5.drew=wn at *
 refine ak 2 0 _ _ _ (by kernel_rfl) ?_;simp only[Ix,IC,Iy,IA];repeat (go_big_quiet_step (fail))
 refine wpQuiet_nil ?_;refine ap rfl rfl (fun K hK=>?_);go_simp;refine (mS _ qb wn (by rw[<-HPB.out.e];exact LB.out wn hBw) HPB.out.ok (by have:=HPB.out.len;omega)).mono ?_;rintro e w6 ⟨v6,rfl,hv6,hb6⟩;replace hBw:=hBw.trans (hb6.mono hz);replace hz:=IB hz hb6.size;obtain⟨p6,c6,rfl,-,-⟩:=hv6.isQs.form;refine hK _ _ ⟨⟨_,hBw⟩,rfl⟩ ?_;clear hK K hb6;try simp only[Act.put,It,Is,Ir,Iq,Iu,Iv]
 refine ak 1 3 _ _ _ (by kernel_rfl) ?_;simp only[Ix,IC,Iy,IA];repeat (go_big_quiet_step (fail))
 refine wpQuiet_nil ?_;refine ap rfl rfl (fun K hK=>?_);go_simp;have hz6:=hz;refine (sR _ qb n w6 hv6.isQs (by have:=HN7.out;omega)).mono ?_;rintro e w7 ⟨v7,rfl,hv7,hb7⟩;replace hBw:=hBw.trans (hb7.mono hz);replace hz:=IB hz hb7.size;rw[HF0.out] at hv7;obtain⟨p7,c7,rfl,-,-⟩:=id hv7.isQs.form;rw[bI] at hv7 |-;replace hv7:=hv7.lower hz6;refine hK _ _ ⟨⟨_,hBw⟩,rfl⟩ ?_;clear hK K hb7 hv6;try simp only[Act.put,It,Is,Ir,Iq,Iu,Iv]
 refine ak 2 5 _ _ _ (by kernel_rfl) ?_;simp only[Ix,IC,Iy,IA];repeat (go_big_quiet_step (fail))
 refine wpQuiet_nil ?_;refine ap rfl rfl (fun K hK=>?_);go_simp;refine (mS _ qa w7 (by rw[<-HPA.out.e];exact LA.out w7 hBw) HPA.out.ok (by have:=HPA.out.len;omega)).mono ?_;rintro e w8 ⟨v8,rfl,hv8,hb8⟩;replace hBw:=hBw.trans (hb8.mono hz);replace hz:=IB hz hb8.size;replace hv7:=hv7.below hb8;obtain⟨p8,c8,rfl,-,-⟩:=hv8.isQs.form;refine hK _ _ ⟨⟨_,hBw⟩,rfl⟩ ?_;clear hK K hb8;try simp only[Act.put,It,Is,Ir,Iq,Iu,Iv]
 refine ak 1 8 _ _ _ (by kernel_rfl) ?_;simp only[Ix,IC,Iy,IA];repeat (go_big_quiet_step (fail))
 refine wpQuiet_nil ?_;refine ap rfl rfl (fun K hK=>?_);go_simp;have hz8:=hz;refine (sR _ qa n w8 hv8.isQs (by have:=HN7.out;omega)).mono ?_;rintro e w9 ⟨v9,rfl,hv9,hb9⟩;replace hBw:=hBw.trans (hb9.mono hz);replace hz:=IB hz hb9.size;replace hv7:=hv7.below hb9;rw[HG0.out] at hv9;obtain⟨p9,c9,rfl,-,-⟩:=id hv9.isQs.form;rw[bI] at hv9 |-;replace hv9:=hv9.lower hz8;refine hK _ _ ⟨⟨_,hBw⟩,rfl⟩ ?_;clear hK K hb9 hv8;try simp only[Act.put,It,Is,Ir,Iq,Iu,Iv]
 refine ak 2 10 _ _ _ (by kernel_rfl) ?_;simp only[Ix,IC,Iy,IA];repeat (go_big_quiet_step (fail))
 refine wpQuiet_nil ?_;refine aE ?_;clear k0 k1 LA LB HPA HPB;have hs1:=(hBw.block _ (KC (gb+1))).trans HS1.out;have q0:=af hs1 0;have q1:=af hs1 1;have q2:=af hs1 2;have q3:=af hs1 3;go_wp2_with fail
 refine (Ea w9).mono ?_;rintro e w10 ⟨v10,rfl,hv10,hb10⟩;obtain⟨zm,za,zN,zd,zb,zM,ze,rfl⟩:=hv10.forms;replace hBw:=hBw.trans (hb10.mono hz);replace hz:=IB hz hb10.size;replace hv7:=hv7.below hb10;replace hv9:=hv9.below hb10;clear q0 q1 q2 q3 hs1 hb10 hz6 hz8;go_upto_region 4 with fail
 have lx:=bL w10 (.cells #[.bool zm,.slice za zN zd,.bool false,.slice zb zM ze] 44);have hv11:=hv10.below lx.below;have L7:=Ip (fun g h=>(hv7.lt g h).2);have L9:=Ip (fun g h=>(hv9.lt g h).2);have H7:=Ip (hv7.below lx.below);have H9:=Ip (hv9.below lx.below);have hB11:=hBw.trans (lx.below.mono hz);have hs1:=(hB11.block _ (KC (gb+1))).trans HS1.out;have hsn:=lx.s0;have hgs:(w10.alloc (.cells #[.bool zm,.slice za zN zd,.bool false,.slice zb zM ze] 44)).heap.size=w10.heap.size+1:=lx.size;clear lx hv10 hv7 hv9 hBw;generalize w10.alloc (.cells #[.bool zm,.slice za zN zd,.bool false,.slice zb zM ze] 44)=wm at *
 generalize w10.heap.size=gn at *
 have HB11:=Ip (HB5.out.trans (hB11.mono (by omega)));have HZ:=Ip (And.intro hz hgs);have HS:=Ip hs1;clear hB11 hz hgs hs1 HB5 HS1;have h7o:=HN7.out;have h0o:=HN0.out;go_wp2;go_loopw [4,5,7] (fun s4 s5 s7 wr=>∃ (j:Nat) (F G:Nat->Rat) (e:Rat),s7=.int .i64 ((j:Int)-1)/\j<=n/\bG wr (gb+2) s4 (dJ F j)/\bG wr (gb+2) s5 (dJ G j)/\Below gn wm wr/\Hid (rR j F G e)/\Hid (gj n F0 G0 0=gj j F G e)/\gn+1<=wr.heap.size/\(∀ g,s4.ownBlock=some g->g≠gn)/\(∀ g,s5.ownBlock=some g->g≠gn)/\∃ m a N d' nb N' e',wr.heap[gn]?=some (.cells #[.bool m,.slice a N d',.bool false,.slice nb N' e'] 44 (0,0))/\b9 wr (.agg #[.bool m,.slice a N d',.bool false,.slice nb N' e']) e) (fun _ _ s7 _=>((intOf s7)+1).toNat)
 case atStart =>
  refine⟨n,F0,G0,0,by go_num,Iw _,H7.out,H9.out,LN _ _,HD,Ip rfl,by have:=HZ.out;omega,?_,?_,_,_,_,_,_,_,_,hsn,hv11⟩
  ·intro g h;have:=L7.out g h;omega
  ·intro g h;have:=L9.out g h;omega
 case round =>
  clear hsn hv11;obtain⟨j,F,G,e,rfl,hjn,hfr,hgr,hbr,hdeep,hen,hwz,hn4,hn5,m,na,nN,nd,nb,nM,ne,hbx,hbq⟩:=hrel;clear L7 L9 H7 H9
  cases j with
  | zero =>
   have HV:=Ip (show b9 wr (.agg #[.bool m,.slice na nN nd,.bool false,.slice nb nM ne]) (gj n F0 G0 0) from by rw[hen.out];exact hbq);have hr1:=(hbr.block _ (by have:=HZ.out;omega)).trans HS.out;have q0:=af hbx 0;have q1:=af hbx 1;have q2:=af hbx 2;have q3:=af hbx 3;have u0:=af hr1 0;have u1:=af hr1 1;have u2:=af hr1 2;have u3:=af hr1 3;have f0:=LL wr (gb+1) 0 _ _ hr1;have f1:=LL wr (gb+1) 1 _ _ hr1;have f2:=LL wr (gb+1) 2 _ _ hr1;have f3:=LL wr (gb+1) 3 _ _ hr1;have hP:=aR (u0:=.bool m) (u1:=.slice na nN nd) (u2:=.bool false) (u3:=.slice nb nM ne) hr1;have HF:=Ip (cW.puts HV.out hP hr1 bf);have HBF:=Ip ((HB11.out.trans (hbr.mono (by have:=HZ.out;omega))).trans (hP.below gb (by omega)));have HRW:=Ip hP.row;clear hdeep hen hfr hgr hbr hbq hbx hr1 hn4 hn5 hP HV;go_wp2;refine LM (results_cell_row rfl _ _ (gb+1) _ _ (0,0) _ rfl HRW.out Tryz.underlying44 rfl (by kernel_rfl)) rfl ?_;refine⟨_,rfl,HF.out,?_⟩;rw[<-HGB.out];exact HBF.out
  | succ j =>
   obtain⟨p4,c4,rfl,-,-⟩:=id hfr.isQs.form;obtain⟨p5,c5,rfl,-,-⟩:=id hgr.isQs.form;rw[bI] at hfr hgr hn4 hn5;rw[bI F,bI G];rw[show (((j+1:Nat):Int))-1=(j:Int) from by omega];obtain⟨d0,d1,d2,d3,d4,d5,d6,d7,d8,d9⟩:=hdeep.out;obtain⟨ba,oa,rfl,hla,am,aa,aN,ad,ab',aM,ae,hqa,a0,a1,a2,a3⟩:=hfr.isQs.get (i:=0) (by rw[bI];omega);obtain⟨bx,ox,rfl,hlb,bm,ba',bN,bd,bb',bM,be,hqb,b0,b1,b2,b3⟩:=hgr.isQs.get (i:=j) (by rw[bI];omega);rw[mt] at hqa hqb;simp only[JE,I7] at a0 a1 a2 a3;have HSA:=Ip (cZ (d2 0 (IF _)).1);have HSB:=Ip (cZ (d2 j (Iw _)).2);have HSB2:=Ip (cZ d3);have HSB3:=Ip (cZ d4);have HSE:=Ip (cZ d5);have HA0:=Ip d0;have HSX:=Ip (cZ d6);have HSY:=Ip (cZ d7);have HSR:=Ip d8;have HS2:=Ip d2;have HDN:=Ip d9;have HEN:=Ip (show gj n F0 G0 0=gj j (dnE j F F) (dnE j F G) (e+G j*G j / F 0) from by rw[hen.out];rfl);clear d0 d1 d2 d3 d4 d5 d6 d7 d8 d9 hdeep hen;have hjI:(j:Int)<(j:Int)+1:=by omega
   go_upto_region 7 with fail
   have hBd:Below wr.heap.size wr wr.drew:=(LN _ _).drew;refine ax (fun wx:World=>Below wr.drew.heap.size wr.drew wx) (fun j=>j == 15) (by kernel_rfl) ?_;have HCA:=Ip (And.intro (Iz hla hBd.size) (And.intro (ag hBd hla a0) (And.intro (ag hBd hla a1) (And.intro (ag hBd hla a2) (ag hBd hla a3)))));have HCB:=Ip (And.intro (Iz hlb hBd.size) (And.intro (ag hBd hlb b0) (And.intro (ag hBd hlb b1) (And.intro (ag hBd hlb b2) (ag hBd hlb b3)))));have HQA:=Ip (hqa.below hBd);have HQB:=Ip (hqb.below hBd);have HQN:=Ip (hbq.below hBd);have HSD:=Ip ((hBd.block _ (ah hbx)).trans hbx);have HBD:=Ip (hbr.trans (hBd.mono (by omega)));have HFR:=Ip (hfr.below hBd);have HGR:=Ip (hgr.below hBd);have HWZ:=Ip (IB hwz hBd.size);clear a0 a1 a2 a3 b0 b1 b2 b3 hla hlb hqa hqb hbq hbx hbr hBd hfr hgr hwz;generalize wr.drew=wd at *
   have hS:Below wd.heap.size wd wd:=LN _ _;refine ay (i:=0) (v:=?vta0) rfl (by kernel_rfl) (fun _ _ _ h=>h) rfl hS ?hta0 ?rta0
   case hta0 =>
    intro wy hy;have t0:=af ((hy.block _ (ah HSD.out)).trans HSD.out) 0;have t1:=af ((hy.block _ (ah HSD.out)).trans HSD.out) 1;have t2:=af ((hy.block _ (ah HSD.out)).trans HSD.out) 2;have t3:=af ((hy.block _ (ah HSD.out)).trans HSD.out) 3;clear hy;go_simp;try with_reducible rfl
   refine LJ 1 (r:=?_)
   refine LJ 2 (r:=?_)
   refine LJ 3 (r:=?_)
   refine ay (i:=4) (v:=?vta4) rfl (by kernel_rfl) (fun _ _ _ h=>h) rfl hS ?hta4 ?rta4
   case hta4 =>
    intro wy hy;have t0:=ag hy HCB.out.1 HCB.out.2.1;have t1:=ag hy HCB.out.1 HCB.out.2.2.1;have t2:=ag hy HCB.out.1 HCB.out.2.2.2.1;have t3:=ag hy HCB.out.1 HCB.out.2.2.2.2;clear hy;go_simp;try with_reducible rfl
   refine LJ 5 (r:=?_)
   refine LJ 6 (r:=?_)
   refine LJ 7 (r:=?_)
   refine ay (i:=8) (v:=?vta8) rfl (by kernel_rfl) (fun _ _ _ h=>h) rfl hS ?hta8 ?rta8
   case hta8 =>
    intro wy hy;have t0:=ag hy HCB.out.1 HCB.out.2.1;have t1:=ag hy HCB.out.1 HCB.out.2.2.1;have t2:=ag hy HCB.out.1 HCB.out.2.2.2.1;have t3:=ag hy HCB.out.1 HCB.out.2.2.2.2;clear hy;go_simp;try with_reducible rfl
   refine LJ 10 (r:=?_)
   refine LJ 11 (r:=?_)
   refine ay (i:=12) (v:=?vta12) rfl (by kernel_rfl) (fun _ _ _ h=>h) rfl hS ?hta12 ?rta12
   case hta12 =>
    intro wy hy;have t0:=ag hy HCA.out.1 HCA.out.2.1;have t1:=ag hy HCA.out.1 HCA.out.2.2.1;have t2:=ag hy HCA.out.1 HCA.out.2.2.2.1;have t3:=ag hy HCA.out.1 HCA.out.2.2.2.2;clear hy;go_simp;try with_reducible rfl
   try simp only[Act.put,It,Is,Ir,Iq,Iu,Iv]
   refine ar (i:=9) rfl (by kernel_rfl) rfl (fun K hK=>?_);go_simp;refine (eY _ _ (G j) (G j) 2000 2000 wd HQB.out HQB.out HSB.out HSB.out (by decide)).mono ?_;rintro e1 w2 ⟨v2,rfl,hv2,hb2⟩;obtain⟨c0,c1,c2,c3,c5',c6',c7',rfl⟩:=hv2.forms;refine hK _ _ (fun _ _=>hb2) ?_;clear hK K;try simp only[Act.put,It,Is,Ir,Iq,Iu,Iv]
   refine ar (i:=13) rfl (by kernel_rfl) rfl (fun K hK=>?_);go_simp;refine (Ad _ _ (G j*G j) (F 0) 2000 2000 w2 hv2 (HQA.out.below hb2) HSB2.out HSA.out HA0.out (by decide)).mono ?_;rintro e1 w3 ⟨v3,rfl,hv3,hb3⟩;obtain⟨g0,g1,g2,g3,g5,g6,g7,rfl⟩:=hv3.forms;have hB3:=LK hb2 hb3;refine hK _ _ (fun _ _=>hB3) ?_;clear hK K hv2;try simp only[Act.put,It,Is,Ir,Iq,Iu,Iv]
   refine ar (i:=14) rfl (by kernel_rfl) rfl (fun K hK=>?_);go_simp;refine (wH _ _ e (G j*G j / F 0) 2000 2000 w3 (HQN.out.below hB3) hv3 HSE.out HSB3.out (by decide)).mono ?_;rintro e1 w6 ⟨v6,rfl,hv6,hb6⟩;obtain⟨sm,sa,sN,sd,sb,sM,se,rfl⟩:=hv6.forms;have hB6:=LK hB3 hb6;refine hK _ _ (fun _ _=>hB6) ?_;clear hK K hv3 hb3 hb2 hB3;try simp only[Act.put,It,Is,Ir,Iq,Iu,Iv]
   have hr6:=(hB6.block _ (ah HSD.out)).trans HSD.out;have q0:=af hr6 0;have q1:=af hr6 1;have q2:=af hr6 2;have q3:=af hr6 3;have f0:=LL w6 gn 0 _ _ hr6;have f1:=LL w6 gn 1 _ _ hr6;have f2:=LL w6 gn 2 _ _ hr6;have f3:=LL w6 gn 3 _ _ hr6;have hP:=aR (u0:=.bool sm) (u1:=.slice sa sN sd) (u2:=.bool false) (u3:=.slice sb sM se) hr6;have KV:=Ip (cW.puts hv6 hP hr6 bf);have KR:=Ip hP.row;have KF:=Ip ((HFR.out.below hB6).puts hP hr6 bf (fun e=>hn4 _ e rfl));have KG:=Ip ((HGR.out.below hB6).puts hP hr6 bf (fun e=>hn5 _ e rfl));have KB:=Ip ((HBD.out.trans (hB6.mono (by have:=HWZ.out;omega))).trans (hP.below gn (Iw _)));have KZ:=Ip (show gn+1<=(dL w6 gn (.bool sm) (.slice sa sN sd) (.bool false) (.slice sb sM se)).heap.size by rw[hP.size];exact IB HWZ.out hB6.size);clear hr6 hP hB6 hb6 hS hv6 HQA HQB HQN HCA HCB HSD HBD HFR HGR HWZ HSE HSB2 HSB3;refine ar (i:=15) rfl (by kernel_rfl) rfl (fun K hK=>?_);go_simp;change K _ (dL w6 gn (.bool sm) (.slice sa sN sd) (.bool false) (.slice sb sM se));generalize dL w6 gn (.bool sm) (.slice sa sN sd) (.bool false) (.slice sb sM se)=w7 at *
   refine hK _ _ (fun h=>by cases h) ?_;clear hK K q0 q1 q2 q3 f0 f1 f2 f3;try simp only[Act.put,It,Is,Ir,Iq,Iu,Iv]
   refine aF (by kernel_rfl) ?_ _;obtain⟨ba,oa,hax,hla,am,aa,aN,ad,ab',aM,ae,hqa,a0,a1,a2,a3⟩:=KF.out.isQs.get (i:=0) (by rw[bI];omega);obtain⟨rfl,rfl⟩:_/\_:=by simpa using hax
   obtain⟨bk,ok',hkx,hlk,km,ka,kN,kd,kb,kM,ke,hqk,k0,k1,k2,k3⟩:=KF.out.isQs.get (i:=j) (by rw[bI];omega);obtain⟨rfl,rfl⟩:_/\_:=by simpa using hkx
   obtain⟨bx,ox,hbx',hlb,bm,ba',bN,bd,bb',bM,be,hqb,b0,b1,b2,b3⟩:=KG.out.isQs.get (i:=j) (by rw[bI];omega);obtain⟨rfl,rfl⟩:_/\_:=by simpa using hbx'
   rw[mt] at hqa hqb hqk;simp only[JE,I7] at a0 a1 a2 a3;obtain⟨X,hX⟩:∃ X,X=F j / F 0:=⟨_,rfl⟩;obtain⟨Y,hY⟩:∃ Y,Y=G j / F 0:=⟨_,rfl⟩;have HX:=Ip hX;have HY:=Ip hY;go_upto_region 8 with fail
   go_cut [8,9] from 52 to 67 (fun s8 s9 wx=>∃ g8 g9,s8=.pointer (some ⟨g8,0,none⟩)/\s9=.pointer (some ⟨g9,0,none⟩)/\Below w7.heap.size w7 wx/\(∃ m a N d' nb N' e',wx.heap[g8]?=some (.cells #[.bool m,.slice a N d',.bool false,.slice nb N' e'] 44 (0,0))/\b9 wx (.agg #[.bool m,.slice a N d',.bool false,.slice nb N' e']) X)/\(∃ m a N d' nb N' e',wx.heap[g9]?=some (.cells #[.bool m,.slice a N d',.bool false,.slice nb N' e'] 44 (0,0))/\b9 wx (.agg #[.bool m,.slice a N d',.bool false,.slice nb N' e']) Y))
   case first =>
    have hBd:Below w7.heap.size w7 w7.drew:=(LN _ _).drew;refine wp_mono (ax (Q:=aP _) (fun wx:World=>Below w7.heap.size w7.drew wx) (fun _=>false) (by kernel_rfl) ?_) (fun _ _ _ h=>aY h);have HCA:=Ip (And.intro hla (And.intro (ag hBd hla a0) (And.intro (ag hBd hla a1) (And.intro (ag hBd hla a2) (ag hBd hla a3)))));have HCK:=Ip (And.intro hla (And.intro (ag hBd hla k0) (And.intro (ag hBd hla k1) (And.intro (ag hBd hla k2) (ag hBd hla k3)))));have HCB:=Ip (And.intro hlb (And.intro (ag hBd hlb b0) (And.intro (ag hBd hlb b1) (And.intro (ag hBd hlb b2) (ag hBd hlb b3)))));have HOX:=Ip (fun (wx:World) (h:Below w7.heap.size w7.drew wx)=>Ad _ _ (F j) (F 0) 2000 2000 wx (hqk.below (hBd.trans h)) (hqa.below (hBd.trans h)) (cZ (HS2.out j (Iw _)).1) HSA.out HA0.out (by decide));have HOY:=Ip (fun (wx:World) (h:Below w7.heap.size w7.drew wx)=>Ad _ _ (G j) (F 0) 2000 2000 wx (hqb.below (hBd.trans h)) (hqa.below (hBd.trans h)) HSB.out HSA.out HA0.out (by decide));rw[<-HX.out] at HOX;rw[<-HY.out] at HOY;have HBD:=Ip hBd;have hz7:=hBd.size;clear a0 a1 a2 a3 b0 b1 b2 b3 k0 k1 k2 k3 hla hlb hlk hqa hqb hqk hax hkx hbx' KF KG KB KZ KR KV hBd HX HY hX hY;generalize w7.drew=wd at *
    have hS:Below w7.heap.size wd wd:=LN _ _;refine LJ 0 (r:=?_)
    refine LJ 1 (r:=?_)
    refine LJ 2 (r:=?_)
    refine ay (i:=3) (v:=?vtb3) rfl (by kernel_rfl) (fun _ _ _ h=>h) rfl hS ?htb3 ?rtb3
    case htb3 =>
     intro wy hy;have t0:=ag hy HCK.out.1 HCK.out.2.1;have t1:=ag hy HCK.out.1 HCK.out.2.2.1;have t2:=ag hy HCK.out.1 HCK.out.2.2.2.1;have t3:=ag hy HCK.out.1 HCK.out.2.2.2.2;clear hy;go_simp;try with_reducible rfl
    refine LJ 4 (r:=?_)
    refine LJ 5 (r:=?_)
    refine ay (i:=6) (v:=?vtb6) rfl (by kernel_rfl) (fun _ _ _ h=>h) rfl hS ?htb6 ?rtb6
    case htb6 =>
     intro wy hy;have t0:=ag hy HCA.out.1 HCA.out.2.1;have t1:=ag hy HCA.out.1 HCA.out.2.2.1;have t2:=ag hy HCA.out.1 HCA.out.2.2.2.1;have t3:=ag hy HCA.out.1 HCA.out.2.2.2.2;clear hy;go_simp;try with_reducible rfl
    refine LJ 8 (r:=?_)
    refine LJ 9 (r:=?_)
    refine LJ 10 (r:=?_)
    refine ay (i:=11) (v:=?vtb11) rfl (by kernel_rfl) (fun _ _ _ h=>h) rfl hS ?htb11 ?rtb11
    case htb11 =>
     intro wy hy;have t0:=ag hy HCB.out.1 HCB.out.2.1;have t1:=ag hy HCB.out.1 HCB.out.2.2.1;have t2:=ag hy HCB.out.1 HCB.out.2.2.2.1;have t3:=ag hy HCB.out.1 HCB.out.2.2.2.2;clear hy;go_simp;try with_reducible rfl
    refine LJ 12 (r:=?_)
    refine LJ 13 (r:=?_)
    refine ay (i:=14) (v:=?vtb14) rfl (by kernel_rfl) (fun _ _ _ h=>h) rfl hS ?htb14 ?rtb14
    case htb14 =>
     intro wy hy;have t0:=ag hy HCA.out.1 HCA.out.2.1;have t1:=ag hy HCA.out.1 HCA.out.2.2.1;have t2:=ag hy HCA.out.1 HCA.out.2.2.2.1;have t3:=ag hy HCA.out.1 HCA.out.2.2.2.2;clear hy;go_simp;try with_reducible rfl
    try simp only[Act.put,It,Is,Ir,Iq,Iu,Iv]
    have hBC:=hS;refine tu (i:=7) (j:=16) (k:=17) rfl rfl rfl (by kernel_rfl) rfl rfl rfl (fun K hK=>?n7) (fun K hK=>?n16) (fun K hK=>?n17)
    case' n7 =>
     go_simp;refine (HOX.out _ hBC).mono ?_;rintro e1 wn ⟨vX,rfl,hvX,hb⟩;replace hBC:=hBC.trans (hb.mono (IB hz7 hBC.size));try replace hvX:=hvX.below hb
     try replace hvY:=hvY.below hb
     try replace r8:=(hb.block _ (ah r8)).trans r8
     try replace r9:=(hb.block _ (ah r9)).trans r9
     refine hK _ _ (fun _ _=>hBC) ?_;clear hK K hb;rename World=>wc;try simp only[Act.put,It,Is,Ir,Iq,Iu,Iv]
    case' n16 =>
     go_simp;have ma:=aj wd (.cells #[.bool false,.slice none 0 0,.bool false,.slice none 0 0] 44);obtain⟨g8,hg⟩:∃ g,g=wd.heap.size:=⟨_,rfl⟩;have r8:=heap_alloc_new wd (.cells #[.bool false,.slice none 0 0,.bool false,.slice none 0 0] 44);rw[<-hg] at r8;have lr8:w7.heap.size<=g8:=by rw[hg];exact IB hz7 hBC.size
     try have ne:g8≠g9:=by have:=ah r8;omega
     try have ne:g8≠g9:=by have:=ah r9;omega
     replace hBC:=hBC.trans (ma.mono (IB hz7 hBC.size));try replace hvX:=hvX.below ma
     try replace hvY:=hvY.below ma
     try replace r8:=(ma.block _ (ah r8)).trans r8
     try replace r9:=(ma.block _ (ah r9)).trans r9
     refine hK _ _ (fun _ _=>hBC) ?_;clear hK K ma;rw[<-hg];clear hg;generalize wd.alloc (.cells #[.bool false,.slice none 0 0,.bool false,.slice none 0 0] 44)=wn at *
     rename World=>wc;try simp only[Act.put,It,Is,Ir,Iq,Iu,Iv]
    case' n17 =>
     go_simp;have ma:=aj wd (.cells #[.bool false,.slice none 0 0,.bool false,.slice none 0 0] 44);obtain⟨g9,hg⟩:∃ g,g=wd.heap.size:=⟨_,rfl⟩;have r9:=heap_alloc_new wd (.cells #[.bool false,.slice none 0 0,.bool false,.slice none 0 0] 44);rw[<-hg] at r9;have lr9:w7.heap.size<=g9:=by rw[hg];exact IB hz7 hBC.size
     try have ne:g8≠g9:=by have:=ah r8;omega
     try have ne:g8≠g9:=by have:=ah r9;omega
     replace hBC:=hBC.trans (ma.mono (IB hz7 hBC.size));try replace hvX:=hvX.below ma
     try replace hvY:=hvY.below ma
     try replace r8:=(ma.block _ (ah r8)).trans r8
     try replace r9:=(ma.block _ (ah r9)).trans r9
     refine hK _ _ (fun _ _=>hBC) ?_;clear hK K ma;rw[<-hg];clear hg;generalize wd.alloc (.cells #[.bool false,.slice none 0 0,.bool false,.slice none 0 0] 44)=wn at *
     rename World=>wc;try simp only[Act.put,It,Is,Ir,Iq,Iu,Iv]
    case' n7=>refine tu (i:=15) (j:=16) (k:=17) rfl rfl rfl (by kernel_rfl) rfl rfl rfl (fun K hK=>?na) (fun K hK=>?nb) (fun K hK=>?nc)
    case' n16=>refine dN (i:=7) (i':=17) rfl rfl (by kernel_rfl) rfl rfl (fun K hK=>?pa) (fun K hK=>?pb)
    case' n17=>refine dN (i:=7) (i':=16) rfl rfl (by kernel_rfl) rfl rfl (fun K hK=>?qa') (fun K hK=>?qb')
    case' na =>
     go_simp;refine (HOY.out _ hBC).mono ?_;rintro e1 wn ⟨vY,rfl,hvY,hb⟩;replace hBC:=hBC.trans (hb.mono (IB hz7 hBC.size));try replace hvX:=hvX.below hb
     try replace hvY:=hvY.below hb
     try replace r8:=(hb.block _ (ah r8)).trans r8
     try replace r9:=(hb.block _ (ah r9)).trans r9
     refine hK _ _ (fun _ _=>hBC) ?_;clear hK K hb;rename World=>wc;try simp only[Act.put,It,Is,Ir,Iq,Iu,Iv]
    case' pa | qa' =>
     go_simp;refine (HOX.out _ hBC).mono ?_;rintro e1 wn ⟨vX,rfl,hvX,hb⟩;replace hBC:=hBC.trans (hb.mono (IB hz7 hBC.size));try replace hvX:=hvX.below hb
     try replace hvY:=hvY.below hb
     try replace r8:=(hb.block _ (ah r8)).trans r8
     try replace r9:=(hb.block _ (ah r9)).trans r9
     refine hK _ _ (fun _ _=>hBC) ?_;clear hK K hb;rename World=>wc;try simp only[Act.put,It,Is,Ir,Iq,Iu,Iv]
    case' nb | qb' =>
     go_simp;have ma:=aj wc (.cells #[.bool false,.slice none 0 0,.bool false,.slice none 0 0] 44);obtain⟨g8,hg⟩:∃ g,g=wc.heap.size:=⟨_,rfl⟩;have r8:=heap_alloc_new wc (.cells #[.bool false,.slice none 0 0,.bool false,.slice none 0 0] 44);rw[<-hg] at r8;have lr8:w7.heap.size<=g8:=by rw[hg];exact IB hz7 hBC.size
     try have ne:g8≠g9:=by have:=ah r8;omega
     try have ne:g8≠g9:=by have:=ah r9;omega
     replace hBC:=hBC.trans (ma.mono (IB hz7 hBC.size));try replace hvX:=hvX.below ma
     try replace hvY:=hvY.below ma
     try replace r8:=(ma.block _ (ah r8)).trans r8
     try replace r9:=(ma.block _ (ah r9)).trans r9
     refine hK _ _ (fun _ _=>hBC) ?_;clear hK K ma;rw[<-hg];clear hg;generalize wc.alloc (.cells #[.bool false,.slice none 0 0,.bool false,.slice none 0 0] 44)=wn at *
     rename World=>wc;try simp only[Act.put,It,Is,Ir,Iq,Iu,Iv]
    case' nc | pb =>
     go_simp;have ma:=aj wc (.cells #[.bool false,.slice none 0 0,.bool false,.slice none 0 0] 44);obtain⟨g9,hg⟩:∃ g,g=wc.heap.size:=⟨_,rfl⟩;have r9:=heap_alloc_new wc (.cells #[.bool false,.slice none 0 0,.bool false,.slice none 0 0] 44);rw[<-hg] at r9;have lr9:w7.heap.size<=g9:=by rw[hg];exact IB hz7 hBC.size
     try have ne:g8≠g9:=by have:=ah r8;omega
     try have ne:g8≠g9:=by have:=ah r9;omega
     replace hBC:=hBC.trans (ma.mono (IB hz7 hBC.size));try replace hvX:=hvX.below ma
     try replace hvY:=hvY.below ma
     try replace r8:=(ma.block _ (ah r8)).trans r8
     try replace r9:=(ma.block _ (ah r9)).trans r9
     refine hK _ _ (fun _ _=>hBC) ?_;clear hK K ma;rw[<-hg];clear hg;generalize wc.alloc (.cells #[.bool false,.slice none 0 0,.bool false,.slice none 0 0] 44)=wn at *
     rename World=>wc;try simp only[Act.put,It,Is,Ir,Iq,Iu,Iv]
    case' na=>refine dN (i:=16) (i':=17) rfl rfl (by kernel_rfl) rfl rfl (fun K hK=>?a1) (fun K hK=>?a2)
    case' nb=>refine dN (i:=15) (i':=17) rfl rfl (by kernel_rfl) rfl rfl (fun K hK=>?b1') (fun K hK=>?b2')
    case' nc=>refine dN (i:=15) (i':=16) rfl rfl (by kernel_rfl) rfl rfl (fun K hK=>?c1') (fun K hK=>?c2')
    case' pa=>refine dN (i:=15) (i':=17) rfl rfl (by kernel_rfl) rfl rfl (fun K hK=>?d1) (fun K hK=>?d2)
    case' qa'=>refine dN (i:=15) (i':=16) rfl rfl (by kernel_rfl) rfl rfl (fun K hK=>?f1) (fun K hK=>?f2)
    case' a1 | c2' | f2 =>
     go_simp;have ma:=aj wc (.cells #[.bool false,.slice none 0 0,.bool false,.slice none 0 0] 44);obtain⟨g8,hg⟩:∃ g,g=wc.heap.size:=⟨_,rfl⟩;have r8:=heap_alloc_new wc (.cells #[.bool false,.slice none 0 0,.bool false,.slice none 0 0] 44);rw[<-hg] at r8;have lr8:w7.heap.size<=g8:=by rw[hg];exact IB hz7 hBC.size
     try have ne:g8≠g9:=by have:=ah r8;omega
     try have ne:g8≠g9:=by have:=ah r9;omega
     replace hBC:=hBC.trans (ma.mono (IB hz7 hBC.size));try replace hvX:=hvX.below ma
     try replace hvY:=hvY.below ma
     try replace r8:=(ma.block _ (ah r8)).trans r8
     try replace r9:=(ma.block _ (ah r9)).trans r9
     refine hK _ _ (fun _ _=>hBC) ?_;clear hK K ma;rw[<-hg];clear hg;generalize wc.alloc (.cells #[.bool false,.slice none 0 0,.bool false,.slice none 0 0] 44)=wn at *
     rename World=>wc;try simp only[Act.put,It,Is,Ir,Iq,Iu,Iv]
    case' a2 | b2' | d2 =>
     go_simp;have ma:=aj wc (.cells #[.bool false,.slice none 0 0,.bool false,.slice none 0 0] 44);obtain⟨g9,hg⟩:∃ g,g=wc.heap.size:=⟨_,rfl⟩;have r9:=heap_alloc_new wc (.cells #[.bool false,.slice none 0 0,.bool false,.slice none 0 0] 44);rw[<-hg] at r9;have lr9:w7.heap.size<=g9:=by rw[hg];exact IB hz7 hBC.size
     try have ne:g8≠g9:=by have:=ah r8;omega
     try have ne:g8≠g9:=by have:=ah r9;omega
     replace hBC:=hBC.trans (ma.mono (IB hz7 hBC.size));try replace hvX:=hvX.below ma
     try replace hvY:=hvY.below ma
     try replace r8:=(ma.block _ (ah r8)).trans r8
     try replace r9:=(ma.block _ (ah r9)).trans r9
     refine hK _ _ (fun _ _=>hBC) ?_;clear hK K ma;rw[<-hg];clear hg;generalize wc.alloc (.cells #[.bool false,.slice none 0 0,.bool false,.slice none 0 0] 44)=wn at *
     rename World=>wc;try simp only[Act.put,It,Is,Ir,Iq,Iu,Iv]
    case' b1' | c1' | d1 | f1 =>
     go_simp;refine (HOY.out _ hBC).mono ?_;rintro e1 wn ⟨vY,rfl,hvY,hb⟩;replace hBC:=hBC.trans (hb.mono (IB hz7 hBC.size));try replace hvX:=hvX.below hb
     try replace hvY:=hvY.below hb
     try replace r8:=(hb.block _ (ah r8)).trans r8
     try replace r9:=(hb.block _ (ah r9)).trans r9
     refine hK _ _ (fun _ _=>hBC) ?_;clear hK K hb;rename World=>wc;try simp only[Act.put,It,Is,Ir,Iq,Iu,Iv]
    case' pb | qb' =>
     refine ar (i:=7) rfl (by kernel_rfl) rfl (fun K hK=>?_);go_simp;refine (HOX.out _ hBC).mono ?_;rintro e1 wn ⟨vX,rfl,hvX,hb⟩;replace hBC:=hBC.trans (hb.mono (IB hz7 hBC.size));try replace hvX:=hvX.below hb
     try replace hvY:=hvY.below hb
     try replace r8:=(hb.block _ (ah r8)).trans r8
     try replace r9:=(hb.block _ (ah r9)).trans r9
     refine hK _ _ (fun _ _=>hBC) ?_;clear hK K hb;rename World=>wc;try simp only[Act.put,It,Is,Ir,Iq,Iu,Iv]
    case' a1 | b1' | d1 =>
     refine ar (i:=17) rfl (by kernel_rfl) rfl (fun K hK=>?_);go_simp;have ma:=aj wc (.cells #[.bool false,.slice none 0 0,.bool false,.slice none 0 0] 44);obtain⟨g9,hg⟩:∃ g,g=wc.heap.size:=⟨_,rfl⟩;have r9:=heap_alloc_new wc (.cells #[.bool false,.slice none 0 0,.bool false,.slice none 0 0] 44);rw[<-hg] at r9;have lr9:w7.heap.size<=g9:=by rw[hg];exact IB hz7 hBC.size
     try have ne:g8≠g9:=by have:=ah r8;omega
     try have ne:g8≠g9:=by have:=ah r9;omega
     replace hBC:=hBC.trans (ma.mono (IB hz7 hBC.size));try replace hvX:=hvX.below ma
     try replace hvY:=hvY.below ma
     try replace r8:=(ma.block _ (ah r8)).trans r8
     try replace r9:=(ma.block _ (ah r9)).trans r9
     refine hK _ _ (fun _ _=>hBC) ?_;clear hK K ma;rw[<-hg];clear hg;generalize wc.alloc (.cells #[.bool false,.slice none 0 0,.bool false,.slice none 0 0] 44)=wn at *
     rename World=>wc;try simp only[Act.put,It,Is,Ir,Iq,Iu,Iv]
    case' a2 | c1' | f1 =>
     refine ar (i:=16) rfl (by kernel_rfl) rfl (fun K hK=>?_);go_simp;have ma:=aj wc (.cells #[.bool false,.slice none 0 0,.bool false,.slice none 0 0] 44);obtain⟨g8,hg⟩:∃ g,g=wc.heap.size:=⟨_,rfl⟩;have r8:=heap_alloc_new wc (.cells #[.bool false,.slice none 0 0,.bool false,.slice none 0 0] 44);rw[<-hg] at r8;have lr8:w7.heap.size<=g8:=by rw[hg];exact IB hz7 hBC.size
     try have ne:g8≠g9:=by have:=ah r8;omega
     try have ne:g8≠g9:=by have:=ah r9;omega
     replace hBC:=hBC.trans (ma.mono (IB hz7 hBC.size));try replace hvX:=hvX.below ma
     try replace hvY:=hvY.below ma
     try replace r8:=(ma.block _ (ah r8)).trans r8
     try replace r9:=(ma.block _ (ah r9)).trans r9
     refine hK _ _ (fun _ _=>hBC) ?_;clear hK K ma;rw[<-hg];clear hg;generalize wc.alloc (.cells #[.bool false,.slice none 0 0,.bool false,.slice none 0 0] 44)=wn at *
     rename World=>wc;try simp only[Act.put,It,Is,Ir,Iq,Iu,Iv]
    case' b2' | c2' | d2 | pb | f2 | qb' =>
     refine ar (i:=15) rfl (by kernel_rfl) rfl (fun K hK=>?_);go_simp;refine (HOY.out _ hBC).mono ?_;rintro e1 wn ⟨vY,rfl,hvY,hb⟩;replace hBC:=hBC.trans (hb.mono (IB hz7 hBC.size));try replace hvX:=hvX.below hb
     try replace hvY:=hvY.below hb
     try replace r8:=(hb.block _ (ah r8)).trans r8
     try replace r9:=(hb.block _ (ah r9)).trans r9
     refine hK _ _ (fun _ _=>hBC) ?_;clear hK K hb;rename World=>wc;try simp only[Act.put,It,Is,Ir,Iq,Iu,Iv]
    all_goals
     obtain⟨x0,x1,x2,x3,x4,x5,x6,rfl⟩:=hvX.forms;obtain⟨y0,y1,y2,y3,y4,y5,y6,rfl⟩:=hvY.forms;clear HCA HCK HCB HOX HOY hS
    all_goals
     have q0:=af r8 0;have q1:=af r8 1;have q2:=af r8 2;have q3:=af r8 3;have f0:=LL wc g8 0 _ _ r8;have f1:=LL wc g8 1 _ _ r8;have f2:=LL wc g8 2 _ _ r8;have f3:=LL wc g8 3 _ _ r8;have hP:=aR (u0:=.bool x0) (u1:=.slice x1 x2 x3) (u2:=.bool false) (u3:=.slice x4 x5 x6) r8;refine ar (i:=18) rfl (by kernel_rfl) rfl (fun K hK=>?_);go_simp;change K _ (dL wc g8 (.bool x0) (.slice x1 x2 x3) (.bool false) (.slice x4 x5 x6));replace hvX:=cW.puts hvX hP r8 bf;replace hvY:=cW.puts hvY hP r8 bf;replace r9:=(hP.other g9 (Ne.symm ne)).trans r9;replace hBC:=hBC.trans (hP.below w7.heap.size lr8);replace r8:=hP.row;generalize dL wc g8 (.bool x0) (.slice x1 x2 x3) (.bool false) (.slice x4 x5 x6)=wn at *
     rename World=>wc;refine hK _ _ (fun _ _=>hBC) ?_;clear hK K q0 q1 q2 q3 f0 f1 f2 f3 hP;try simp only[Act.put,It,Is,Ir,Iq,Iu,Iv]
     have q0:=af r9 0;have q1:=af r9 1;have q2:=af r9 2;have q3:=af r9 3;have f0:=LL wc g9 0 _ _ r9;have f1:=LL wc g9 1 _ _ r9;have f2:=LL wc g9 2 _ _ r9;have f3:=LL wc g9 3 _ _ r9;have hP:=aR (u0:=.bool y0) (u1:=.slice y1 y2 y3) (u2:=.bool false) (u3:=.slice y4 y5 y6) r9;refine ar (i:=19) rfl (by kernel_rfl) rfl (fun K hK=>?_);go_simp;change K _ (dL wc g9 (.bool y0) (.slice y1 y2 y3) (.bool false) (.slice y4 y5 y6));replace hvX:=cW.puts hvX hP r9 bf;replace hvY:=cW.puts hvY hP r9 bf;replace r8:=(hP.other g8 ne).trans r8;replace hBC:=hBC.trans (hP.below w7.heap.size lr9);replace r9:=hP.row;generalize dL wc g9 (.bool y0) (.slice y1 y2 y3) (.bool false) (.slice y4 y5 y6)=wn at *
     rename World=>wc;refine hK _ _ (fun _ _=>hBC) ?_;clear hK K q0 q1 q2 q3 f0 f1 f2 f3 hP;try simp only[Act.put,It,Is,Ir,Iq,Iu,Iv]
     refine aF (by kernel_rfl) ?_ _;have hBF:=HBD.out.trans hBC;simp only[aP];try go_wp2
     go_meet;exact⟨g8,g9,rfl,rfl,hBF,⟨_,_,_,_,_,_,_,r8,hvX⟩,⟨_,_,_,_,_,_,_,r9,hvY⟩⟩
   case rest =>
    obtain⟨g8,g9,rfl,rfl,hb8,⟨xm,xa,xN,xd,xb,xM,xe,r8,hvX⟩,⟨ym,ya,yN,yd,yb,yM,ye,r9,hvY⟩⟩:=hcut;clear a0 a1 a2 a3 b0 b1 b2 b3 k0 k1 k2 k3 hla hlb hlk hqa hqb hqk hax hkx hbx';rename World=>wo;have HFR:=Ip (KF.out.below hb8);have HGR:=Ip (KG.out.below hb8);have HB:=Ip (KB.out.trans (hb8.mono (by have:=KZ.out;omega)));have HBX:=Ip ((hb8.block _ (ah KR.out)).trans KR.out);have HBQ:=Ip (KV.out.below hb8);have HWZ:=Ip (IB KZ.out hb8.size);have HR8:=Ip r8;have HR9:=Ip r9;have HVX:=Ip hvX;have HVY:=Ip hvY;clear KF KG KB KR KV KZ hb8 r8 r9 hvX hvY hX hY;obtain⟨F1,hF1⟩:∃ f,f=dnE j F F:=⟨_,rfl⟩;obtain⟨G1,hG1⟩:∃ f,f=dnE j F G:=⟨_,rfl⟩;rw[<-hF1,<-hG1] at HEN HDN;have HF1:=Ip (fun i=>show F1 i=F i-X*F (j-i) by rw[hF1,HX.out];rfl);have HG1:=Ip (fun i=>show G1 i=G i-Y*F (j-i) by rw[hG1,HY.out];rfl);rw[<-HX.out,<-HY.out] at HSR;have h7o:=HN7.out;clear hF1 hG1;go_wp2;go_loopw [10,11,12] (fun s10 s11 s12 wr=>∃ i:Nat,s12=.int .i64 i/\i<=j/\bG wr wo.heap.size s10 (dJ F1 i)/\bG wr wo.heap.size s11 (dJ G1 i)/\(∀ g,s10.ownBlock=some g->s11.ownBlock≠some g)/\Below wo.heap.size wo wr) (fun _ _ s12 _=>j-(intOf s12).toNat)
    case atStart=>exact⟨0,rfl,IF _,bG.nil _ _,bG.nil _ _,(fun g h=>by cases h),LN _ _⟩
    case round =>
     obtain⟨i,rfl,hij,hp,hq,hne,hbr⟩:=hrel;by_cases hi:i<j
     ·obtain⟨be,oe,hex,hle,em,ea,eN,ed,eb,eM,ee,hqe,e0,e1',e2,e3⟩:=HFR.out.isQs.get (i:=i) (by rw[bI];omega);obtain⟨rfl,rfl⟩:_/\_:=by simpa using hex
      obtain⟨bz,oz,hzx,hlz,zm',za',zN',zd',zb',zM',ze',hqz,z0,z1,z2,z3⟩:=HFR.out.isQs.get (i:=j-i) (by rw[bI];omega);obtain⟨rfl,rfl⟩:_/\_:=by simpa using hzx
      rw[mt] at hqe hqz;have HT:=Ip (show dJ F1 (i+1)=dJ F1 i++[F i-X*F (j-i)] from by rw[jH,HF1.out]);have HSP:=Ip (cZ (HSR.out i hi).1);have hin2:=IntWalk.i64_in ((j:Int)-(i:Int)) (by omega);have hix:0<=(j:Int)-(i:Int):=by omega
      have hix2:(j:Int)-(i:Int)<(j:Int)+1:=by omega
      have hix3:(i:Int)<(j:Int)+1:=by omega
      have hta:((j:Int)-(i:Int)).toNat=j-i:=by omega
      go_upto_region 13 with fail
      have hBd:Below wr.heap.size wr wr.drew:=(LN _ _).drew;refine av (fun w'=>∃ z:az wo.heap.size wr.drew,w'=z.w) (fun i=>i == 12||i == 13||i == 14||i == 15) (by kernel_rfl) (by kernel_rfl) ⟨⟨_,LN _ _⟩,rfl⟩ ?_;have hbd:=LK hbr hBd;have how:=hp.below hBd;have hot:=hq.below hBd;clear hp hq hBd hbr;generalize wr.drew=wd at *
      have hB0:=hbd.size;have e0:=fun z:az wo.heap.size wd=>ag (hbd.trans z.h) hle e0;have e1':=fun z:az wo.heap.size wd=>ag (hbd.trans z.h) hle e1';have e2:=fun z:az wo.heap.size wd=>ag (hbd.trans z.h) hle e2;have e3:=fun z:az wo.heap.size wd=>ag (hbd.trans z.h) hle e3;have z0:=fun z:az wo.heap.size wd=>ag (hbd.trans z.h) hlz z0;have z1:=fun z:az wo.heap.size wd=>ag (hbd.trans z.h) hlz z1;have z2:=fun z:az wo.heap.size wd=>ag (hbd.trans z.h) hlz z2;have z3:=fun z:az wo.heap.size wd=>ag (hbd.trans z.h) hlz z3;have b0:=fun z:az wo.heap.size wd=>ag (hbd.trans z.h) (ah HR8.out) (af HR8.out 0);have b1:=fun z:az wo.heap.size wd=>ag (hbd.trans z.h) (ah HR8.out) (af HR8.out 1);have b2:=fun z:az wo.heap.size wd=>ag (hbd.trans z.h) (ah HR8.out) (af HR8.out 2);have b3:=fun z:az wo.heap.size wd=>ag (hbd.trans z.h) (ah HR8.out) (af HR8.out 3);refine ak 12 0 _ _ _ (by kernel_rfl) ?_;simp only[Ix,IC,Iy,IA];repeat (go_big_quiet_step (fail))
      refine wpQuiet_nil ?_;clear e0 e1' e2 e3 z0 z1 z2 z3 b0 b1 b2 b3 hin2 hix hix2 hix3 hta;refine ap rfl rfl (fun K hK=>?_);go_simp;refine (eY _ _ X (F (j-i)) 2000 2000 wd (HVX.out.below hbd) (hqz.below hbd) (by rw[HX.out];exact HSX.out) (cZ (HS2.out (j-i) (by omega)).1) (by decide)).mono ?_;rintro e4 w2 ⟨v2,rfl,hv2,hb2⟩;obtain⟨c0,c1,c2,c3,c5',c6',c7',rfl⟩:=hv2.forms;replace hbd:=LK hbd hb2;replace how:=how.below hb2;replace hot:=hot.below hb2;have hz2:=hb2.mono hB0;refine hK _ _ ⟨⟨_,hz2⟩,rfl⟩ ?_;clear hK K hb2;try simp only[Act.put,It,Is,Ir,Iq,Iu,Iv]
      refine ap rfl rfl (fun K hK=>?_);go_simp;refine (qJ _ _ (F i) (X*F (j-i)) 2000 2000 w2 (hqe.below hbd) hv2 (cZ (HS2.out i (by omega)).1) HSP.out (by decide)).mono ?_;rintro e4 w3 ⟨v3,rfl,hv3,hb3⟩;obtain⟨c0,c1,c2,c3,c5',c6',c7',rfl⟩:=hv3.forms;replace hbd:=LK hbd hb3;replace how:=how.below hb3;replace hot:=hot.below hb3;have hz3:=hz2.trans (hb3.mono (IB hB0 hz2.size));refine hK _ _ ⟨⟨_,hz3⟩,rfl⟩ ?_;clear hK K hb3 hv2;try simp only[Act.put,It,Is,Ir,Iq,Iu,Iv]
      have m9:=aj w3 (.cells #[.bool c0,.slice c1 c2 c3,.bool false,.slice c5' c6' c7'] 44);have hcx:=heap_alloc_new w3 (.cells #[.bool c0,.slice c1 c2 c3,.bool false,.slice c5' c6' c7'] 44);replace hv3:=hv3.below m9;replace how:=how.below m9;replace hot:=hot.below m9;have hz4:=hz3.trans (m9.mono (IB hB0 hz3.size));replace hbd:=LK hbd m9;have hzl:(dJ F1 i).length<1000000000:=by rw[bI];omega
      have hbs:=hbd.size;clear m9;refine ap rfl rfl (fun K hK=>?_);go_simp;refine hK _ _ ⟨⟨_,hz4⟩,rfl⟩ ?_;clear hK K;try simp only[Act.put,It,Is,Ir,Iq,Iu,Iv]
      refine ap rfl rfl (fun K hK=>?_);refine dR rfl ?_;refine cE 48 Tryz.underlying48 rfl (.tmp 73) (.tmp 87) rfl wo.heap.size _ _ c0 c1 c2 c3 c5' c6' c7' _ rfl how _ rfl hcx hv3 hzl hbs ?_;intro v' w5 hap;replace hbd:=hap.below how hbd (Iw _) hbs;have hz5:=hap.below how hz4 (Iw _) hbs;have hp:=hap.own;have hq:=hap.other hot hne;replace hne:=(hap.apart hot hne);rw[<-HT.out] at hp;refine⟨rfl,hK _ _ ⟨⟨_,hz5⟩,rfl⟩ ?_⟩;clear hK K;try simp only[Act.put,It,Is,Ir,Iq,Iu,Iv]
      clear hap how hot hv3 hcx hzl hbs hz2 hz3 hz4 hqe hqz HT HSP;refine ak 1 16 _ _ _ (by kernel_rfl) ?_;simp only[Ix,IC,Iy,IA];repeat (go_big_quiet_step (fail))
      refine wpQuiet_nil ?_;refine aE ?_;have hbr:=hbd;clear hbd hz5 hB0;rename World=>wr;obtain⟨be,oe,hex,hle,em,ea,eN,ed,eb,eM,ee,hqe,e0,e1',e2,e3⟩:=HGR.out.isQs.get (i:=i) (by rw[bI];omega);obtain⟨rfl,rfl⟩:_/\_:=by simpa using hex
      obtain⟨bz,oz,hzx,hlz,zm',za',zN',zd',zb',zM',ze',hqz,z0,z1,z2,z3⟩:=HFR.out.isQs.get (i:=j-i) (by rw[bI];omega);obtain⟨rfl,rfl⟩:_/\_:=by simpa using hzx
      rw[mt] at hqe hqz;have HT:=Ip (show dJ G1 (i+1)=dJ G1 i++[G i-Y*F (j-i)] from by rw[jH,HG1.out]);have HSP:=Ip (cZ (HSR.out i hi).2.1);have hin2:=IntWalk.i64_in ((j:Int)-(i:Int)) (by omega);have hix:0<=(j:Int)-(i:Int):=by omega
      have hix2:(j:Int)-(i:Int)<(j:Int)+1:=by omega
      have hix3:(i:Int)<(j:Int)+1:=by omega
      have hta:((j:Int)-(i:Int)).toNat=j-i:=by omega
      go_upto_region 14 with fail
      have hBd:Below wr.heap.size wr wr.drew:=(LN _ _).drew;refine av (fun w'=>∃ z:az wo.heap.size wr.drew,w'=z.w) (fun i=>i == 12||i == 13||i == 14||i == 15) (by kernel_rfl) (by kernel_rfl) ⟨⟨_,LN _ _⟩,rfl⟩ ?_;have hbd:=LK hbr hBd;have how:=hq.below hBd;have hot:=hp.below hBd;clear hq hp hBd hbr;generalize wr.drew=wd at *
      have hB0:=hbd.size;have e0:=fun z:az wo.heap.size wd=>ag (hbd.trans z.h) hle e0;have e1':=fun z:az wo.heap.size wd=>ag (hbd.trans z.h) hle e1';have e2:=fun z:az wo.heap.size wd=>ag (hbd.trans z.h) hle e2;have e3:=fun z:az wo.heap.size wd=>ag (hbd.trans z.h) hle e3;have z0:=fun z:az wo.heap.size wd=>ag (hbd.trans z.h) hlz z0;have z1:=fun z:az wo.heap.size wd=>ag (hbd.trans z.h) hlz z1;have z2:=fun z:az wo.heap.size wd=>ag (hbd.trans z.h) hlz z2;have z3:=fun z:az wo.heap.size wd=>ag (hbd.trans z.h) hlz z3;have b0:=fun z:az wo.heap.size wd=>ag (hbd.trans z.h) (ah HR9.out) (af HR9.out 0);have b1:=fun z:az wo.heap.size wd=>ag (hbd.trans z.h) (ah HR9.out) (af HR9.out 1);have b2:=fun z:az wo.heap.size wd=>ag (hbd.trans z.h) (ah HR9.out) (af HR9.out 2);have b3:=fun z:az wo.heap.size wd=>ag (hbd.trans z.h) (ah HR9.out) (af HR9.out 3);refine ak 12 0 _ _ _ (by kernel_rfl) ?_;simp only[Ix,IC,Iy,IA];repeat (go_big_quiet_step (fail))
      refine wpQuiet_nil ?_;clear e0 e1' e2 e3 z0 z1 z2 z3 b0 b1 b2 b3 hin2 hix hix2 hix3 hta;refine ap rfl rfl (fun K hK=>?_);go_simp;refine (eY _ _ Y (F (j-i)) 2000 2000 wd (HVY.out.below hbd) (hqz.below hbd) (by rw[HY.out];exact HSY.out) (cZ (HS2.out (j-i) (by omega)).1) (by decide)).mono ?_;rintro e4 w2 ⟨v2,rfl,hv2,hb2⟩;obtain⟨c0,c1,c2,c3,c5',c6',c7',rfl⟩:=hv2.forms;replace hbd:=LK hbd hb2;replace how:=how.below hb2;replace hot:=hot.below hb2;have hz2:=hb2.mono hB0;refine hK _ _ ⟨⟨_,hz2⟩,rfl⟩ ?_;clear hK K hb2;try simp only[Act.put,It,Is,Ir,Iq,Iu,Iv]
      refine ap rfl rfl (fun K hK=>?_);go_simp;refine (qJ _ _ (G i) (Y*F (j-i)) 2000 2000 w2 (hqe.below hbd) hv2 (cZ (HS2.out i (by omega)).2) HSP.out (by decide)).mono ?_;rintro e4 w3 ⟨v3,rfl,hv3,hb3⟩;obtain⟨c0,c1,c2,c3,c5',c6',c7',rfl⟩:=hv3.forms;replace hbd:=LK hbd hb3;replace how:=how.below hb3;replace hot:=hot.below hb3;have hz3:=hz2.trans (hb3.mono (IB hB0 hz2.size));refine hK _ _ ⟨⟨_,hz3⟩,rfl⟩ ?_;clear hK K hb3 hv2;try simp only[Act.put,It,Is,Ir,Iq,Iu,Iv]
      have m9:=aj w3 (.cells #[.bool c0,.slice c1 c2 c3,.bool false,.slice c5' c6' c7'] 44);have hcx:=heap_alloc_new w3 (.cells #[.bool c0,.slice c1 c2 c3,.bool false,.slice c5' c6' c7'] 44);replace hv3:=hv3.below m9;replace how:=how.below m9;replace hot:=hot.below m9;have hz4:=hz3.trans (m9.mono (IB hB0 hz3.size));replace hbd:=LK hbd m9;have hzl:(dJ G1 i).length<1000000000:=by rw[bI];omega
      have hbs:=hbd.size;clear m9;refine ap rfl rfl (fun K hK=>?_);go_simp;refine hK _ _ ⟨⟨_,hz4⟩,rfl⟩ ?_;clear hK K;try simp only[Act.put,It,Is,Ir,Iq,Iu,Iv]
      refine ap rfl rfl (fun K hK=>?_);refine dR rfl ?_;refine cE 48 Tryz.underlying48 rfl (.tmp 89) (.tmp 103) rfl wo.heap.size _ _ c0 c1 c2 c3 c5' c6' c7' _ rfl how _ rfl hcx hv3 hzl hbs ?_;intro v' w5 hap;replace hbd:=hap.below how hbd (Iw _) hbs;have hz5:=hap.below how hz4 (Iw _) hbs;have hq:=hap.own;have hp:=hap.other hot (fun g h h'=>hne g h' h);replace hne:=(fun g h h'=>hap.apart hot (fun g h h'=>hne g h' h) g h' h);rw[<-HT.out] at hq;refine⟨rfl,hK _ _ ⟨⟨_,hz5⟩,rfl⟩ ?_⟩;clear hK K;try simp only[Act.put,It,Is,Ir,Iq,Iu,Iv]
      clear hap how hot hv3 hcx hzl hbs hz2 hz3 hz4 hqe hqz HT HSP;refine ak 1 16 _ _ _ (by kernel_rfl) ?_;simp only[Ix,IC,Iy,IA];repeat (go_big_quiet_step (fail))
      refine wpQuiet_nil ?_;refine aE ?_;have hbr:=hbd;clear hbd hz5 hB0;rename World=>wr;go_wp2;go_roundw;case rel=>exact⟨i+1,by go_num,by omega,hp,hq,hne,hbr⟩
      case measure=>first | (simp[intOf];done) | (simp[intOf];omega)
     ·obtain rfl:i=j:=by omega
      clear hi hij;have hlp:=hp.lt;have hlq:=hq.lt;have hp2:=hp.lower (base':=gb+2) (by have:=HWZ.out;have:=HZ.out;omega);have hq2:=hq.lower (base':=gb+2) (by have:=HWZ.out;have:=HZ.out;omega);have hB2:=HB.out.trans (hbr.mono (by have:=HWZ.out;omega));have hx2:=(hbr.block _ (by have:=HWZ.out;omega)).trans HBX.out;have hv2:=HBQ.out.below hbr;have hz2:=IB HWZ.out hbr.size;have HWZ2:=HWZ.out;clear hp hq hbr hne;go_wp2;exact⟨⟨i,F1,G1,_,rfl,by omega,hp2,hq2,hB2,HDN,HEN,hz2,fun g h=>by have:=hlp g h;omega,fun g h=>by have:=hlq g h;omega,_,_,_,_,_,_,_,hx2,hv2⟩,by simp[intOf]⟩
end Go.Proofs.YtlhpcoelfhjomaaGreatDoor
