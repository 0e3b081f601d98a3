/- Lemmas of this claim. -/
import Derived.Test.YtbnkpcfjechfiaaGreatDoorYNQ
import Derived.Test.YtbnkpcfjechfiaaGreatDoorYNC7
import Derived.Test.YtbnkpcfjechfiaaGreatDoorYRQ6
set_option linter.all false
set_option maxRecDepth 100000
set_option maxHeartbeats 8000000
namespace Go.Proofs.YtbnkpcfjechfiaaGreatDoor
open Go.RowKit Dg
theorem tN {m:Bool}{N D:Nat} (hD:0<D) (hm:N=0→m=false):dh m N D=⟨decide (sgn m (N / Nat.gcd N D)<0),N / Nat.gcd N D,D / Nat.gcd N D⟩:=by
 unfold dh;rw[rQ];by_cases h:N=0
 ·rw[if_pos h,hm h,h,Ht,Nat.zero_div,Nat.div_self hD];rfl
 ·rw[if_neg h];have hg:0<N / Nat.gcd N D:=IB (H7 (by omega) (Il ..)) (GE _ hD);rw[decide_eq_true hg,Bool.and_true]
theorem BN {n:Int}{D:Nat} (hD:0<D):rt ((n:Rat) / ((D:Nat):Rat))=dh (decide (n<0)) n.natAbs D:=by
 rw[lm _ _ _ hD];congr 1;rw[Rat.mkRat_eq_div]
 have e:sgz (decide (n<0)) n.natAbs=n:=by
  unfold sgz;by_cases h:n<0
  ·rw[decide_eq_true h,if_pos rfl];omega
  ·rw[decide_eq_false h,if_neg (by decide)];omega
 rw[e]
theorem tJ (va vb:Value) (n d:Int) (w:World) (ha:IsZ w va n) (hb:IsZ w vb d) (hd0:d≠0) (hfn:bh n.natAbs) (hfd:bh d.natAbs) :
  Calls Tryz.prog 142 #[va,vb] w fun e w'=>∃ v,e=.returned v∧dr w' v (rt ((n:Rat) / (d:Rat)))∧Below w.heap.size w w':=by
 obtain⟨p,N,c,rfl,hN,hNc,hcm,hd⟩:=ha.parts;obtain⟨p',N',c',rfl,hN',hNc',hcm',hd'⟩:=hb.parts;obtain⟨mn,hmn⟩:∃ m,m=decide (n<0):=⟨_,rfl⟩;obtain⟨md,hmd⟩:∃ m,m=decide (d<0):=⟨_,rfl⟩;rw[←hmn] at ha;rw[←hmd] at hb;rw[←hmn,←hmd];have HMN:=Fi hmn;have HMD:=Fi hmd;clear hmn hmd;have hl:=pU w (.cells #[.bool mn,.slice p N c] 76) (.cells #[.bool md,.slice p' N' c'] 76) (.cells #[.bool false,.slice none 0 0,.bool false,.slice none 0 0] 78);have hgp:0<Nat.gcd n.natAbs d.natAbs:=GE _ (by omega);have HFG:Hid (bh (Nat.gcd n.natAbs d.natAbs)):=hfd.mono (H7 (by omega) (IJ ..));have HGP:=Fi hgp;have HFN:=Fi hfn;have HFD:=Fi hfd;have HBI:=Fi hl.below;have r0:=hl.s0;have r1:=hl.s1;have r2:=hl.s2;have HD:=Fi (hd.below hl.below);have HE:=Fi (hd'.below hl.below);have HZN:=Fi (ha.below hl.below);have HZD:=Fi (hb.below hl.below);have hsz0:=Fi hl.size;clear ha hb hd hd' hfn hfd hgp hl;go_enter Tryz.func142,Tryz.ntmps142;go_upto_region 1 with fail
 generalize ((w.alloc (.cells #[.bool mn,.slice p N c] 76)).alloc (.cells #[.bool md,.slice p' N' c'] 76)).alloc (.cells #[.bool false,.slice none 0 0,.bool false,.slice none 0 0] 78)=w1 at *
 by_cases hneg:d<0
 ·obtain rfl:md=true:=by rw[HMD.out];exact decide_eq_true hneg
  have y0:=af r1 0;go_upto_region 2 with fail
  have hbd:Below w1.heap.size w1 w1.drew:=(Below.refl _ _).drew;refine wp_mono (ay (Q:=aP _) (fun wx:World=>wx.heap[w.heap.size+1]?=some (.cells #[.bool true,.slice p' N' c'] 76 (0,0))) (fun t=>t == 5) (by kernel_rfl) ?_) (fun _ _ _ h=>aV h);have r0:=(hbd.block _ (ai r0)).trans r0;have r1:=(hbd.block _ (ai r1)).trans r1;have r2:=(hbd.block _ (ai r2)).trans r2;have HZN:=Fi (HZN.out.below hbd);have HZD:=Fi (HZD.out.below hbd);have HBI:=Fi (HBI.out.trans (hbd.mono HBI.out.size));clear hbd HD HE y0;generalize w1.drew=wd at *
  refine az (i:=2) (v:=?vv2) rfl (by kernel_rfl) (fun _ _ _ h=>h) rfl r1 ?hy2 ?rest2
  case hy2 =>
   intro wy hy;have q0:=af hy 0;have q1:=af hy 1;clear hy;go_simp;try with_reducible rfl
  try simp only[Act.put,Fm,Fl,Fk,Fj,Fo,Fp]
  have q0:=af r0 0;have q1:=af r0 1;refine au (i:=0) rfl (by kernel_rfl) rfl (fun K hK=>?_);go_simp;refine hK _ _ (fun _ _=>r1) ?_;clear hK K q0 q1;try simp only[Act.put,Fm,Fl,Fk,Fj,Fo,Fp]
  refine au (i:=1) rfl (by kernel_rfl) rfl (fun K hK=>?_);go_simp;refine (iF _ n wd HZN.out).mono ?_;rintro e w2 ⟨v2,rfl,hz2,hb2⟩;refine hK _ _ (fun _ _=>(hb2.block _ (ai r1)).trans r1) ?_;clear hK K;try simp only[Act.put,Fm,Fl,Fk,Fj,Fo,Fp]
  refine au (i:=3) rfl (by kernel_rfl) rfl (fun K hK=>?_);go_simp;refine (iF _ d w2 (HZD.out.below hb2)).mono ?_;rintro e w3 ⟨v3,rfl,hz3,hb3⟩;have hb23:=hb2.trans (hb3.mono hb2.size);refine hK _ _ (fun _ _=>(hb23.block _ (ai r1)).trans r1) ?_;clear hK K;try simp only[Act.put,Fm,Fl,Fk,Fj,Fo,Fp]
  have r0:=(hb23.block _ (ai r0)).trans r0;have r1:=(hb23.block _ (ai r1)).trans r1;have r2:=(hb23.block _ (ai r2)).trans r2;have hz2:=hz2.below hb3;have HBI:=Fi (HBI.out.trans (hb23.mono HBI.out.size));clear HZN HZD hb2 hb3 hb23;obtain⟨n2,hn2⟩:∃ x,x=-n:=⟨_,rfl⟩;obtain⟨D,hD⟩:∃ D:Nat,-d=D:=⟨(-d).toNat,by omega⟩;rw[←hn2] at hz2;rw[hD] at hz3;have ea:n.natAbs=n2.natAbs:=by rw[hn2,Hu]
  have ed:d.natAbs=D:=by omega
  have HFN:=Fi (show bh n2.natAbs by rw[←ea];exact HFN.out);have HFD:=Fi (show bh (D:Int).natAbs by rw[F_,←ed];exact HFD.out);have HFG:=Fi (show bh (Nat.gcd n2.natAbs (D:Int).natAbs) by rw[F_,←ed,←ea];exact HFG.out);have HGP:=Fi (show 0<Nat.gcd n2.natAbs (D:Int).natAbs by rw[F_,←ed,←ea];exact HGP.out)
  have eq:(n:Rat) / (d:Rat)=(n2:Rat) / (((D:Nat):Int):Rat):=by
   rw[hn2,←hD,Rat.intCast_neg,Rat.intCast_neg];have:(d:Rat)≠0:=fun e=>hd0 (Rat.intCast_inj.1 e);grind
  obtain⟨pa,Na,ca,rfl,hNa,hNca,hcma,hda⟩:=hz2.parts;obtain⟨pb,Nb,cb,rfl,hNb,hNcb,hcmb,hdb⟩:=hz3.nat;obtain⟨m2,hm2⟩:∃ m,m=decide (n2<0):=⟨_,rfl⟩;rw[←hm2] at hz2 ⊢
  have HR:Hid (rt ((n:Rat) / (d:Rat))=⟨decide (sgn m2 (n2.natAbs / Nat.gcd n2.natAbs (D:Int).natAbs)<0),n2.natAbs / Nat.gcd n2.natAbs (D:Int).natAbs,(D:Int).natAbs / Nat.gcd n2.natAbs (D:Int).natAbs⟩):=by
   have h:=tN (m:=m2) (N:=n2.natAbs) (D:=D) (by omega) (fun h=>by rw[hm2];exact decide_eq_false (by omega));rw[hm2,←BN (by omega)] at h;rw[hm2,eq,F_];exact h
  have P1:=cf (u0:=.bool m2) (u1:=.slice pa Na ca) r0;have P2:=cf (u0:=.bool false) (u1:=.slice pb Nb cb) ((P1.other _ (by omega)).trans r1);have k0:=af r0 0;have k1:=af r0 1;have k2:=af ((P1.other (w.heap.size+1) (by omega)).trans r1) 0;have k3:=af ((P1.other (w.heap.size+1) (by omega)).trans r1) 1;have f0:=frozen_of_row w3 w.heap.size 0 _ _ r0;have f1:=frozen_of_row w3 w.heap.size 1 _ _ r0;have f2:=frozen_of_row _ (w.heap.size+1) 0 _ _ ((P1.other (w.heap.size+1) (by omega)).trans r1);have f3:=frozen_of_row _ (w.heap.size+1) 1 _ _ ((P1.other (w.heap.size+1) (by omega)).trans r1);have r0':=(P2.other _ (by omega)).trans P1.row;have r1':=P2.row;have r2':=((P2.other _ (by omega)).trans (P1.other _ (by omega))).trans r2;have hmid:=(P1.other (w.heap.size+1) (by omega)).trans r1;have HMID:=Fi hmid;have HD:=Fi (P2.isI hmid dM (P1.isI r0 dM hda));have HE:=Fi (P2.isI hmid dM (P1.isI r0 dM hdb));have HZN:=Fi ((hz2.puts P1 r0 dM).puts P2 hmid dM);have HZD:=Fi ((hz3.puts P1 r0 dM).puts P2 hmid dM);have HBI:=Fi ((HBI.out.trans (P1.below w.heap.size (Fq _))).trans (P2.below w.heap.size (FS _)));clear hz2 hz3 hda hdb hm2 eq ea ed hD hn2 hneg hd0 P1 P2 r0 r1 r2 hmid;refine au (i:=4) rfl (by kernel_rfl) rfl (fun K hK=>?_);go_simp;change K _ (fV w3 w.heap.size (.bool m2) (.slice pa Na ca));refine hK _ _ (fun _ _=>HMID.out) ?_;clear hK K;try simp only[Act.put,Fm,Fl,Fk,Fj,Fo,Fp]
  refine au (i:=5) rfl (by kernel_rfl) rfl (fun K hK=>?_);go_simp;change K _ (fV (fV w3 w.heap.size (.bool m2) (.slice pa Na ca)) (w.heap.size+1) (.bool false) (.slice pb Nb cb));refine hK _ _ (fun h=>by cases h) ?_;clear hK K k0 k1 k2 k3 f0 f1 f2 f3;try simp only[Act.put,Fm,Fl,Fk,Fj,Fo,Fp]
  refine aI (by kernel_rfl) ?_ _;simp only[aP];generalize fV (fV w3 w.heap.size (.bool m2) (.slice pa Na ca)) (w.heap.size+1) (.bool false) (.slice pb Nb cb)=wi at *
  have r0:=r0';have r1:=r1';have r2:=r2';clear r0' r1' r2';have x0:=af r0 0;have x1:=af r0 1;have y0:=af r1 0;have y1:=af r1 1;go_wp2_with fail
  refine (oZ _ _ n2 ((D:Nat):Int) wi HZN.out HZD.out HFN.out HFD.out).mono ?_;rintro e w2 ⟨v2,rfl,hz2,hb2⟩;obtain⟨p2,N2,c2,rfl,hN2,hNc2,hcm2,hd2⟩:=hz2.nat;have hl2:=aY w2 (.cells #[.bool false,.slice p2 N2 c2] 76);have hb3:=hb2.trans (hl2.below.mono hb2.size);have HB3:=HBI.out.trans (hb3.mono HBI.out.size);have r0:=(hb3.block _ (ai r0)).trans r0;have r1:=(hb3.block _ (ai r1)).trans r1;have r2:=(hb3.block _ (ai r2)).trans r2;have r3:=hl2.s0;have hsz:=Fi hl2.size;have HG:=Fi (hd2.below hl2.below);have HD3:=Fi (HD.out.below hb3);have HE3:=Fi (HE.out.below hb3);clear hl2 hb2 hb3 hz2 hd2 x0 x1 y0 y1 HD HE HZN HZD;have a0:=af r0 1;have a1:=af r3 1;go_upto_region 5 with fail
  generalize w2.alloc (.cells #[.bool false,.slice p2 N2 c2] 76)=w3 at *
  go_wp2_with fail
  refine (ew _ _ _ _ w3 HD3.out HG.out HGP.out HFN.out HFG.out).mono ?_;rintro e w4 ⟨v4,v4',rfl,hq,_,hb4⟩;have hlt3:w2.heap.size<w3.heap.size:=by have:=hsz.out;omega
  have s1:=(hb4.block _ (ai r1)).trans r1;have s2:=(hb4.block _ (ai r2)).trans r2;have s3:=(hb4.block _ (ai r3)).trans r3;have s0:=(hb4.block _ (ai r0)).trans r0;have HG4:=Fi (HG.out.below hb4);have HE4:=Fi (HE3.out.below hb4);have HQ4:=Fi hq;have HB4:=HB3.trans (hb4.mono HB3.size);clear r0 r1 r2 r3 a0 a1 HB3 hb4 HD3 HE3 HG hq;have a1:=af s1 1;have a3:=af s3 1;have a0:=af s0 0;go_wp2_with fail
  refine (ew _ _ _ _ w4 HE4.out HG4.out HGP.out HFD.out HFG.out).mono ?_;rintro e w5 ⟨v5,v5',rfl,hq5,_,hb5⟩;have s0':=(hb5.block _ (ai s0)).trans s0;have s2':=(hb5.block _ (ai s2)).trans s2;have HQ5:=Fi (HQ4.out.below hb5);have HP5:=Fi hq5;have HB5:=HB4.trans (hb5.mono HB4.size);clear s0 s1 s2 s3 a0 a1 a3 HB4 hb5 HQ4 HG4 HE4 hq5;have a0:=af s0' 0;go_wp2_with fail
  refine (dw _ _ _ w5 HQ5.out (aO _).1).mono ?_;rintro e w6 ⟨v6,rfl,hz6,hb6⟩;rw[aA aH] at hz6;obtain⟨p6,N6,c6,rfl,hN6,hNc6,hcm6,hd6⟩:=hz6.parts;rw[gS] at hd6;have HP6:=Fi (HP5.out.below hb6);have t2:=(hb6.block _ (ai s2')).trans s2';have HB6:=HB5.trans (hb6.mono HB5.size);have HD6:=Fi hd6;clear a0 s0' s2' HP5 HQ5 HB5 hb6 hz6 hd6;generalize hsg:decide (sgn m2 _<0)=m6 at *
  have HSG:=Fi hsg;clear hsg;go_wp2_with fail
  refine (dw _ _ _ w6 HP6.out (aO _).1).mono ?_;rintro e w7 ⟨v7,rfl,hz7,hb7⟩;rw[aA aH] at hz7;obtain⟨p7,N7,c7,rfl,hN7,hNc7,hcm7,hd7⟩:=hz7.nat;have u2:=(hb7.block _ (ai t2)).trans t2;have HB7:=HB6.trans (hb7.mono HB6.size);have hP:=bg (u0:=.bool m6) (u1:=.slice p6 N6 c6) (u2:=.bool false) (u3:=.slice p7 N7 c7) u2
  have hZ:Hid (dr (d9 w7 (w.heap.size+1+1) (.bool m6) (.slice p6 N6 c6) (.bool false) (.slice p7 N7 c7)) (.agg #[.bool m6,.slice p6 N6 c6,.bool false,.slice p7 N7 c7]) (rt ((n:Rat) / (d:Rat)))):=by
   rw[HR.out];exact⟨_,_,rfl,hP.isI u2 bL (HD6.out.below hb7),hP.isI u2 bL hd7⟩
  have hB:=HB7.trans (hP.below w.heap.size (by omega));have q0:=af u2 0;have q1:=af u2 1;have q2:=af u2 2;have q3:=af u2 3;have f0:=frozen_of_row w7 (w.heap.size+1+1) 0 _ _ u2;have f1:=frozen_of_row w7 (w.heap.size+1+1) 1 _ _ u2;have f2:=frozen_of_row w7 (w.heap.size+1+1) 2 _ _ u2;have f3:=frozen_of_row w7 (w.heap.size+1+1) 3 _ _ u2;clear t2 HP6 HB6 hb7 hz7 hd7 HD6;go_wp2_with fail
  (try simp only[Exit.inBlock,Exit.then])
  change bodyPost _ _ _ _ _ (d9 w7 (w.heap.size+1+1) (.bool m6) (.slice p6 N6 c6) (.bool false) (.slice p7 N7 c7));refine bodyPost_ret (results_cell_row rfl _ _ (w.heap.size+1+1) _ _ (0,0) _ rfl hP.row Tryz.underlying78 rfl (by kernel_rfl)) rfl ?_;exact⟨_,rfl,hZ.out,hB⟩
 ·obtain⟨D,rfl⟩:∃ D:Nat,d=D:=⟨d.toNat,by omega⟩;obtain rfl:md=false:=by rw[HMD.out];exact decide_eq_false hneg
  have HR:Hid (rt ((n:Rat) / ((D:Int):Rat))=⟨decide (sgn mn (n.natAbs / Nat.gcd n.natAbs (D:Int).natAbs)<0),n.natAbs / Nat.gcd n.natAbs (D:Int).natAbs,(D:Int).natAbs / Nat.gcd n.natAbs (D:Int).natAbs⟩):=by
   have h:=tN (m:=mn) (N:=n.natAbs) (D:=D) (by omega) (fun h=>by rw[HMN.out];exact decide_eq_false (by omega));rw[HMN.out,←BN (by omega)] at h;rw[HMN.out,F_];exact h
  clear hneg hd0;have x0:=af r0 0;have x1:=af r0 1;have y0:=af r1 0;have y1:=af r1 1;go_wp2_with fail
  refine (oZ _ _ n ((D:Nat):Int) w1 HZN.out HZD.out HFN.out HFD.out).mono ?_;rintro e w2 ⟨v2,rfl,hz2,hb2⟩;obtain⟨p2,N2,c2,rfl,hN2,hNc2,hcm2,hd2⟩:=hz2.nat;have hl2:=aY w2 (.cells #[.bool false,.slice p2 N2 c2] 76);have hb3:=hb2.trans (hl2.below.mono hb2.size);have HB3:=HBI.out.trans (hb3.mono HBI.out.size);have r0:=(hb3.block _ (ai r0)).trans r0;have r1:=(hb3.block _ (ai r1)).trans r1;have r2:=(hb3.block _ (ai r2)).trans r2;have r3:=hl2.s0;have hsz:=Fi hl2.size;have HG:=Fi (hd2.below hl2.below);have HD3:=Fi (HD.out.below hb3);have HE3:=Fi (HE.out.below hb3);clear hl2 hb2 hb3 hz2 hd2 x0 x1 y0 y1 HD HE HZN HZD;have a0:=af r0 1;have a1:=af r3 1;go_upto_region 5 with fail
  generalize w2.alloc (.cells #[.bool false,.slice p2 N2 c2] 76)=w3 at *
  go_wp2_with fail
  refine (ew _ _ _ _ w3 HD3.out HG.out HGP.out HFN.out HFG.out).mono ?_;rintro e w4 ⟨v4,v4',rfl,hq,_,hb4⟩;have hlt3:w2.heap.size<w3.heap.size:=by have:=hsz.out;omega
  have s1:=(hb4.block _ (ai r1)).trans r1;have s2:=(hb4.block _ (ai r2)).trans r2;have s3:=(hb4.block _ (ai r3)).trans r3;have s0:=(hb4.block _ (ai r0)).trans r0;have HG4:=Fi (HG.out.below hb4);have HE4:=Fi (HE3.out.below hb4);have HQ4:=Fi hq;have HB4:=HB3.trans (hb4.mono HB3.size);clear r0 r1 r2 r3 a0 a1 HB3 hb4 HD3 HE3 HG hq;have a1:=af s1 1;have a3:=af s3 1;have a0:=af s0 0;go_wp2_with fail
  refine (ew _ _ _ _ w4 HE4.out HG4.out HGP.out HFD.out HFG.out).mono ?_;rintro e w5 ⟨v5,v5',rfl,hq5,_,hb5⟩;have s0':=(hb5.block _ (ai s0)).trans s0;have s2':=(hb5.block _ (ai s2)).trans s2;have HQ5:=Fi (HQ4.out.below hb5);have HP5:=Fi hq5;have HB5:=HB4.trans (hb5.mono HB4.size);clear s0 s1 s2 s3 a0 a1 a3 HB4 hb5 HQ4 HG4 HE4 hq5;have a0:=af s0' 0;go_wp2_with fail
  refine (dw _ _ _ w5 HQ5.out (aO _).1).mono ?_;rintro e w6 ⟨v6,rfl,hz6,hb6⟩;rw[aA aH] at hz6;obtain⟨p6,N6,c6,rfl,hN6,hNc6,hcm6,hd6⟩:=hz6.parts;rw[gS] at hd6;have HP6:=Fi (HP5.out.below hb6);have t2:=(hb6.block _ (ai s2')).trans s2';have HB6:=HB5.trans (hb6.mono HB5.size);have HD6:=Fi hd6;clear a0 s0' s2' HP5 HQ5 HB5 hb6 hz6 hd6;generalize hsg:decide (sgn mn _<0)=m6 at *
  have HSG:=Fi hsg;clear hsg;go_wp2_with fail
  refine (dw _ _ _ w6 HP6.out (aO _).1).mono ?_;rintro e w7 ⟨v7,rfl,hz7,hb7⟩;rw[aA aH] at hz7;obtain⟨p7,N7,c7,rfl,hN7,hNc7,hcm7,hd7⟩:=hz7.nat;have u2:=(hb7.block _ (ai t2)).trans t2;have HB7:=HB6.trans (hb7.mono HB6.size);have hP:=bg (u0:=.bool m6) (u1:=.slice p6 N6 c6) (u2:=.bool false) (u3:=.slice p7 N7 c7) u2
  have hZ:Hid (dr (d9 w7 (w.heap.size+1+1) (.bool m6) (.slice p6 N6 c6) (.bool false) (.slice p7 N7 c7)) (.agg #[.bool m6,.slice p6 N6 c6,.bool false,.slice p7 N7 c7]) (rt ((n:Rat) / (((D:Nat):Int):Rat)))):=by
   rw[HR.out];exact⟨_,_,rfl,hP.isI u2 bL (HD6.out.below hb7),hP.isI u2 bL hd7⟩
  have hB:=HB7.trans (hP.below w.heap.size (by omega));have q0:=af u2 0;have q1:=af u2 1;have q2:=af u2 2;have q3:=af u2 3;have f0:=frozen_of_row w7 (w.heap.size+1+1) 0 _ _ u2;have f1:=frozen_of_row w7 (w.heap.size+1+1) 1 _ _ u2;have f2:=frozen_of_row w7 (w.heap.size+1+1) 2 _ _ u2;have f3:=frozen_of_row w7 (w.heap.size+1+1) 3 _ _ u2;clear t2 HP6 HB6 hb7 hz7 hd7 HD6;go_wp2_with fail
  (try simp only[Exit.inBlock,Exit.then])
  change bodyPost _ _ _ _ _ (d9 w7 (w.heap.size+1+1) (.bool m6) (.slice p6 N6 c6) (.bool false) (.slice p7 N7 c7));refine bodyPost_ret (results_cell_row rfl _ _ (w.heap.size+1+1) _ _ (0,0) _ rfl hP.row Tryz.underlying78 rfl (by kernel_rfl)) rfl ?_;exact⟨_,rfl,hZ.out,hB⟩
theorem dL {n k:Nat} (h:n<10 ^ k) (hk:k≤390000):bh n:=by
 unfold bh;refine FO (aU (k:=k / 4+1) aH (Ft h ?_)) (by omega);have e:RR ^ (k / 4+1)=10 ^ (4*(k / 4+1)):=by rw[G3];rfl
 rw[e];exact FI (by decide) (by omega)
def dl (w:World) (v:Value) (q:Rat):Prop:=dr w v (rt q)
theorem dl.below {w w':World}{v:Value}{q:Rat} (h:dl w v q) (hb:Below w.heap.size w w'):dl w' v q:=dr.below h hb
theorem ej {n:Nat} (h:bh n):(ar RR n).length<1000000:=Ft h (by decide)
theorem dl.open {w:World}{v:Value}{q:Rat} (h:dl w v q):∃ m p N c p' N' c',v=.agg #[.bool m,.slice p N c,.bool false,.slice p' N' c']∧IsZ w (.agg #[.bool m,.slice p N c]) q.num∧IsZ w (.agg #[.bool false,.slice p' N' c']) (q.den:Int):=by
 obtain⟨p,N,c,p',N',c',e,-,-,-,-,-,-,h1,h2⟩:=h.parts;refine⟨_,p,N,c,p',N',c',e,⟨_,rfl,h1⟩,iM h2⟩
theorem lg (q:Rat):(q.num:Rat) / (q.den:Rat)=q:=by rw[←Rat.mkRat_eq_div,Rat.mkRat_self]
theorem kO {D:Nat} (h:0<D):(D:Rat)≠0:=by
 intro e;have e2:((D:Int):Rat)=((0:Int):Rat):=e;have:=Rat.intCast_inj.1 e2;omega
theorem Bu (va vb:Value) (a b:Rat) (k l:Nat) (w:World) (ha:dl w va a) (hb:dl w vb b) (hk:Sz k (rt a)) (hl:Sz l (rt b)) (hkl:k+l≤390000) :
  Calls Tryz.prog 95 #[va,vb] w fun e w'=>∃ v,e=.returned v∧dl w' v (a*b)∧Below w.heap.size w w':=by
 obtain⟨m,p,N,c,p',N',c',rfl,hn,hd⟩:=ha.open;obtain⟨m2,q,M,d,q',M',d',rfl,hn2,hd2⟩:=hb.open;have hl3:=pU w (.cells #[.bool m,.slice p N c,.bool false,.slice p' N' c'] 78) (.cells #[.bool m2,.slice q M d,.bool false,.slice q' M' d'] 78) (.cells #[.bool false,.slice none 0 0,.bool false,.slice none 0 0] 78);have an:a.num.natAbs<10 ^ k:=hk.n;have ad:a.den<10 ^ k:=hk.d;have bn:b.num.natAbs<10 ^ l:=hl.n;have bd:b.den<10 ^ l:=hl.d;have f1:=Fi (dL an (by omega));have f2:=Fi (dL ad (by omega));have f3:=Fi (dL bn (by omega));have f4:=Fi (dL bd (by omega));have f5:=Fi (show bh (a.num*b.num).natAbs by rw[GU];exact dL (dE an bn) hkl);have f6:=Fi (show bh ((a.den:Int)*(b.den:Int)).natAbs by rw[GU];exact dL (dE ad bd) hkl);have ha0:=a.den_pos;have hb0:=b.den_pos;have hne:(a.den:Int)*(b.den:Int)≠0:=Int.mul_ne_zero (by omega) (by omega)
 have HE:=Fi (show ((a.num*b.num:Int):Rat) / (((a.den:Int)*(b.den:Int):Int):Rat)=a*b from by
  have e1:=lg a;have e2:=lg b;have n1:=kO ha0;have n2:=kO hb0;rw[Rat.intCast_mul,Rat.intCast_mul]
  show ((a.num:Rat)*(b.num:Rat)) / ((a.den:Rat)*(b.den:Rat))=a*b
  generalize (a.den:Rat)=x at *
  generalize (b.den:Rat)=y at *
  generalize (a.num:Rat)=s at *
  generalize (b.num:Rat)=t at *
  rw[←e1,←e2]
  grind)
 clear an ad bn bd ha0 hb0;go_enter Tryz.func95,Tryz.ntmps95;go_upto_region 1 with fail
 generalize ((w.alloc (.cells #[.bool m,.slice p N c,.bool false,.slice p' N' c'] 78)).alloc (.cells #[.bool m2,.slice q M d,.bool false,.slice q' M' d'] 78)).alloc (.cells #[.bool false,.slice none 0 0,.bool false,.slice none 0 0] 78)=w1 at *
 refine aw (fun w'=>∃ x:aK (w.heap.size+1+1) w1.drew,w'=x.w) (fun j=>j == 4||j == 9||j == 10||j == 11) (by kernel_rfl) (by kernel_rfl) ⟨⟨_,Below.refl _ _⟩,rfl⟩ ?_;have hBd:Below w1.heap.size w1 w1.drew:=(Below.refl _ _).drew;have s0:=(hBd.block _ (ai hl3.s0)).trans hl3.s0;have s1:=(hBd.block _ (ai hl3.s1)).trans hl3.s1;have s2:=(hBd.block _ (ai hl3.s2)).trans hl3.s2;have M1:=Fi (hl3.below.trans (hBd.mono hl3.below.size));have hBz:=hl3.below.trans (hBd.mono hl3.below.size);have HN:=Fi (hn.below hBz);have HD:=Fi (hd.below hBz);have HN2:=Fi (hn2.below hBz);have HD2:=Fi (hd2.below hBz);have HLT:=Fi (ai s2);clear hl3 hBd hBz hn hd hn2 hd2 ha hb;generalize w1.drew=wd at *
 have hB0:Below (w.heap.size+1+1) wd wd:=Below.refl _ _;have e0:=af s0 0;have e1:=af s0 1;have e2:=af s0 2;have e3:=af s0 3;have g0:=af s1 0;have g1:=af s1 1;have g2:=af s1 2;have g3:=af s1 3;have d0:=fun x:aK (w.heap.size+1+1) wd=>(x.h.cell (p:=⟨w.heap.size,0,none⟩) (by show w.heap.size<_;omega)).trans e0;have d1:=fun x:aK (w.heap.size+1+1) wd=>(x.h.cell (p:=⟨w.heap.size,1,none⟩) (by show w.heap.size<_;omega)).trans e1;have d2:=fun x:aK (w.heap.size+1+1) wd=>(x.h.cell (p:=⟨w.heap.size,2,none⟩) (by show w.heap.size<_;omega)).trans e2;have d3:=fun x:aK (w.heap.size+1+1) wd=>(x.h.cell (p:=⟨w.heap.size,3,none⟩) (by show w.heap.size<_;omega)).trans e3;have b0:=fun x:aK (w.heap.size+1+1) wd=>(x.h.cell (p:=⟨w.heap.size+1,0,none⟩) (by show w.heap.size+1<_;omega)).trans g0;have b1:=fun x:aK (w.heap.size+1+1) wd=>(x.h.cell (p:=⟨w.heap.size+1,1,none⟩) (by show w.heap.size+1<_;omega)).trans g1;have b2:=fun x:aK (w.heap.size+1+1) wd=>(x.h.cell (p:=⟨w.heap.size+1,2,none⟩) (by show w.heap.size+1<_;omega)).trans g2;have b3:=fun x:aK (w.heap.size+1+1) wd=>(x.h.cell (p:=⟨w.heap.size+1,3,none⟩) (by show w.heap.size+1<_;omega)).trans g3;clear e0 e1 e2 e3 g0 g1 g2 g3 s0 s1;have hle:w.heap.size+1+1≤wd.heap.size:=FT HLT.out;refine ak 4 0 _ _ _ (by kernel_rfl) ?_;simp only[Fr,Fv,Fs,Fu];repeat (go_big_quiet_step (fail))
 refine wpQuiet_nil ?_;refine ap rfl rfl (fun K hK=>?_);go_simp;refine (iE _ _ _ _ wd HN.out HN2.out (ej f1.out) (ej f3.out)).mono ?_;rintro e w2 ⟨v2,rfl,hz2,hb2⟩;obtain⟨z1,Z1,z2,rfl,-⟩:=hz2.parts;refine hK _ _ ⟨⟨_,hb2.mono hle⟩,rfl⟩ ?_;clear hK K;try simp only[Act.put,Fm,Fl,Fk,Fj,Fo,Fp]
 refine ak 4 5 _ _ _ (by kernel_rfl) ?_;simp only[Fr,Fv,Fs,Fu];repeat (go_big_quiet_step (fail))
 refine wpQuiet_nil ?_;refine ap rfl rfl (fun K hK=>?_);go_simp;refine (iE _ _ _ _ w2 (HD.out.below hb2) (HD2.out.below hb2) (ej f2.out) (ej f4.out)).mono ?_;rintro e w3 ⟨v3,rfl,hz3,hb3⟩;have hB3:=hb2.trans (hb3.mono hb2.size);refine hK _ _ ⟨⟨_,hB3.mono hle⟩,rfl⟩ ?_;clear hK K;try simp only[Act.put,Fm,Fl,Fk,Fj,Fo,Fp]
 refine ap rfl rfl (fun K hK=>?_);go_simp;refine (tJ _ _ _ _ w3 (hz2.below hb3) hz3 hne f5.out f6.out).mono ?_;rintro e w4 ⟨v4,rfl,hv4,hb4⟩;have hB4:=hB3.trans (hb4.mono hB3.size);rw[HE.out] at hv4;refine hK _ _ ⟨⟨_,hB4.mono hle⟩,rfl⟩ ?_;clear hK K;try simp only[Act.put,Fm,Fl,Fk,Fj,Fo,Fp]
 have hv4:dl w4 v4 (a*b):=hv4;clear hz2 hz3 hb2 hb3 hb4 hB3;obtain⟨mo,po,No,co,po',No',co',rfl,ho,ho'⟩:=hv4.open;have u2:=(hB4.block _ HLT.out).trans s2;have hP:=bg (u0:=.bool mo) (u1:=.slice po No co) (u2:=.bool false) (u3:=.slice po' No' co') u2;have hZ:=Fi (dr.puts (hv4) hP u2 bL);have hBF:=Fi ((M1.out.trans (hB4.mono (FB (FS _) (FB (FS _) hle)))).trans (hP.below w.heap.size (by omega)));have hBG:=(hB4.mono hle).trans (hP.below (w.heap.size+1+1) (Fq _));have q0:=af u2 0;have q1:=af u2 1;have q2:=af u2 2;have q3:=af u2 3;have f0:=frozen_of_row w4 (w.heap.size+1+1) 0 _ _ u2;have f1:=frozen_of_row w4 (w.heap.size+1+1) 1 _ _ u2;have f2:=frozen_of_row w4 (w.heap.size+1+1) 2 _ _ u2;have f3:=frozen_of_row w4 (w.heap.size+1+1) 3 _ _ u2;refine ap rfl rfl (fun K hK=>?_);go_simp;change K _ (d9 w4 (w.heap.size+1+1) (.bool mo) (.slice po No co) (.bool false) (.slice po' No' co'));refine hK undef _ ⟨⟨_,hBG⟩,rfl⟩ ?_;clear hK K d0 d1 d2 d3 b0 b1 b2 b3 q0 q1 q2 q3 f0 f1 f2 f3 hBG;try simp only[Act.put,Fm,Fl,Fk,Fj,Fo,Fp]
 refine aD ?_;go_wp2_with fail
 (try simp only[Exit.inBlock,Exit.then])
 refine bodyPost_ret (results_cell_row rfl _ _ (w.heap.size+1+1) _ _ (0,0) _ rfl hP.row Tryz.underlying78 rfl (by kernel_rfl)) rfl ?_;exact⟨_,rfl,hZ.out,hBF.out⟩
theorem Cz {x y:Int}{k:Nat} (h1:x.natAbs<10 ^ k) (h2:y.natAbs<10 ^ k):(x+y).natAbs<10 ^ (k+1):=by
 have:=FH (n:=10) (m:=k);omega
theorem oz (va vb:Value) (a b:Rat) (k l:Nat) (w:World) (ha:dl w va a) (hb:dl w vb b) (hk:Sz k (rt a)) (hl:Sz l (rt b)) (hkl:k+l+1≤390000) :
  Calls Tryz.prog 108 #[va,vb] w fun e w'=>∃ v,e=.returned v∧dl w' v (a+b)∧Below w.heap.size w w':=by
 obtain⟨m,p,N,c,p',N',c',rfl,hn,hd⟩:=ha.open;obtain⟨m2,q,M,d,q',M',d',rfl,hn2,hd2⟩:=hb.open;have hl3:=pU w (.cells #[.bool m,.slice p N c,.bool false,.slice p' N' c'] 78) (.cells #[.bool m2,.slice q M d,.bool false,.slice q' M' d'] 78) (.cells #[.bool false,.slice none 0 0,.bool false,.slice none 0 0] 78);have an:a.num.natAbs<10 ^ k:=hk.n;have ad:a.den<10 ^ k:=hk.d;have bn:b.num.natAbs<10 ^ l:=hl.n;have bd:b.den<10 ^ l:=hl.d;have f1:=Fi (dL an (by omega));have f2:=Fi (dL ad (by omega));have f3:=Fi (dL bn (by omega));have f4:=Fi (dL bd (by omega));have h5:(a.num*(b.den:Int)).natAbs<10 ^ (k+l):=by rw[GU];exact dE an bd
 have h7:(b.num*(a.den:Int)).natAbs<10 ^ (k+l):=by rw[GU,It k l];exact dE bn ad
 have f5:=Fi (dL h5 (by omega));have f7:=Fi (dL h7 (by omega));have f8:=Fi (dL (Cz h5 h7) hkl);have f6:=Fi (show bh ((a.den:Int)*(b.den:Int)).natAbs by rw[GU];exact dL (dE ad bd) (by omega));have ha0:=a.den_pos;have hb0:=b.den_pos;have hne:(a.den:Int)*(b.den:Int)≠0:=Int.mul_ne_zero (by omega) (by omega)
 have HE:=Fi (show ((a.num*(b.den:Int)+b.num*(a.den:Int):Int):Rat) / (((a.den:Int)*(b.den:Int):Int):Rat)=a+b from by
  have e1:=lg a;have e2:=lg b;have n1:=kO ha0;have n2:=kO hb0;rw[Rat.intCast_add,Rat.intCast_mul,Rat.intCast_mul,Rat.intCast_mul]
  show ((a.num:Rat)*(b.den:Rat)+(b.num:Rat)*(a.den:Rat)) / ((a.den:Rat)*(b.den:Rat))=a+b
  generalize (a.den:Rat)=x at *
  generalize (b.den:Rat)=y at *
  generalize (a.num:Rat)=s at *
  generalize (b.num:Rat)=t at *
  rw[←e1,←e2]
  grind)
 clear an ad bn bd ha0 hb0 h5 h7;go_enter Tryz.func108,Tryz.ntmps108;go_upto_region 1 with fail
 generalize ((w.alloc (.cells #[.bool m,.slice p N c,.bool false,.slice p' N' c'] 78)).alloc (.cells #[.bool m2,.slice q M d,.bool false,.slice q' M' d'] 78)).alloc (.cells #[.bool false,.slice none 0 0,.bool false,.slice none 0 0] 78)=w1 at *
 refine aw (fun w'=>∃ x:aK (w.heap.size+1+1) w1.drew,w'=x.w) (fun j=>j == 4||j == 9||j == 10||j == 15||j == 16||j == 17) (by kernel_rfl) (by kernel_rfl) ⟨⟨_,Below.refl _ _⟩,rfl⟩ ?_;have hBd:Below w1.heap.size w1 w1.drew:=(Below.refl _ _).drew;have s0:=(hBd.block _ (ai hl3.s0)).trans hl3.s0;have s1:=(hBd.block _ (ai hl3.s1)).trans hl3.s1;have s2:=(hBd.block _ (ai hl3.s2)).trans hl3.s2;have M1:=Fi (hl3.below.trans (hBd.mono hl3.below.size));have hBz:=hl3.below.trans (hBd.mono hl3.below.size);have HN:=Fi (hn.below hBz);have HD:=Fi (hd.below hBz);have HN2:=Fi (hn2.below hBz);have HD2:=Fi (hd2.below hBz);have HLT:=Fi (ai s2);clear hl3 hBd hBz hn hd hn2 hd2 ha hb;generalize w1.drew=wd at *
 have hB0:Below (w.heap.size+1+1) wd wd:=Below.refl _ _;have e0:=af s0 0;have e1:=af s0 1;have e2:=af s0 2;have e3:=af s0 3;have g0:=af s1 0;have g1:=af s1 1;have g2:=af s1 2;have g3:=af s1 3;have d0:=fun x:aK (w.heap.size+1+1) wd=>(x.h.cell (p:=⟨w.heap.size,0,none⟩) (by show w.heap.size<_;omega)).trans e0;have d1:=fun x:aK (w.heap.size+1+1) wd=>(x.h.cell (p:=⟨w.heap.size,1,none⟩) (by show w.heap.size<_;omega)).trans e1;have d2:=fun x:aK (w.heap.size+1+1) wd=>(x.h.cell (p:=⟨w.heap.size,2,none⟩) (by show w.heap.size<_;omega)).trans e2;have d3:=fun x:aK (w.heap.size+1+1) wd=>(x.h.cell (p:=⟨w.heap.size,3,none⟩) (by show w.heap.size<_;omega)).trans e3;have b0:=fun x:aK (w.heap.size+1+1) wd=>(x.h.cell (p:=⟨w.heap.size+1,0,none⟩) (by show w.heap.size+1<_;omega)).trans g0;have b1:=fun x:aK (w.heap.size+1+1) wd=>(x.h.cell (p:=⟨w.heap.size+1,1,none⟩) (by show w.heap.size+1<_;omega)).trans g1;have b2:=fun x:aK (w.heap.size+1+1) wd=>(x.h.cell (p:=⟨w.heap.size+1,2,none⟩) (by show w.heap.size+1<_;omega)).trans g2;have b3:=fun x:aK (w.heap.size+1+1) wd=>(x.h.cell (p:=⟨w.heap.size+1,3,none⟩) (by show w.heap.size+1<_;omega)).trans g3;clear e0 e1 e2 e3 g0 g1 g2 g3 s0 s1;have hle:w.heap.size+1+1≤wd.heap.size:=FT HLT.out;refine ak 4 0 _ _ _ (by kernel_rfl) ?_;simp only[Fr,Fv,Fs,Fu];repeat (go_big_quiet_step (fail))
 refine wpQuiet_nil ?_;refine ap rfl rfl (fun K hK=>?_);go_simp;refine (iE _ _ _ _ wd HN.out HD2.out (ej f1.out) (ej f4.out)).mono ?_;rintro e w2 ⟨v2,rfl,hz2,hb2⟩;obtain⟨z1,Z1,z2,rfl,-⟩:=hz2.parts;refine hK _ _ ⟨⟨_,hb2.mono hle⟩,rfl⟩ ?_;clear hK K;try simp only[Act.put,Fm,Fl,Fk,Fj,Fo,Fp]
 refine ak 4 5 _ _ _ (by kernel_rfl) ?_;simp only[Fr,Fv,Fs,Fu];repeat (go_big_quiet_step (fail))
 refine wpQuiet_nil ?_;refine ap rfl rfl (fun K hK=>?_);go_simp;refine (iE _ _ _ _ w2 (HN2.out.below hb2) (HD.out.below hb2) (ej f3.out) (ej f2.out)).mono ?_;rintro e w3 ⟨v3,rfl,hz3,hb3⟩;have hB3:=hb2.trans (hb3.mono hb2.size);obtain⟨y1,Y1,y2,rfl,-⟩:=hz3.parts;refine hK _ _ ⟨⟨_,hB3.mono hle⟩,rfl⟩ ?_;clear hK K;try simp only[Act.put,Fm,Fl,Fk,Fj,Fo,Fp]
 refine ap rfl rfl (fun K hK=>?_);go_simp;refine (lB _ _ _ _ w3 (hz2.below hb3) hz3 (ej f5.out) (ej f7.out)).mono ?_;rintro e w4 ⟨v4,rfl,hz4,hb4⟩;have hB4:=hB3.trans (hb4.mono hB3.size);obtain⟨x1,X1,x2,rfl,-⟩:=hz4.parts;refine hK _ _ ⟨⟨_,hB4.mono hle⟩,rfl⟩ ?_;clear hK K;try simp only[Act.put,Fm,Fl,Fk,Fj,Fo,Fp]
 refine ak 4 11 _ _ _ (by kernel_rfl) ?_;simp only[Fr,Fv,Fs,Fu];repeat (go_big_quiet_step (fail))
 refine wpQuiet_nil ?_;refine ap rfl rfl (fun K hK=>?_);go_simp;refine (iE _ _ _ _ w4 (HD.out.below hB4) (HD2.out.below hB4) (ej f2.out) (ej f4.out)).mono ?_;rintro e w5 ⟨v5,rfl,hz5,hb5⟩;have hB5:=hB4.trans (hb5.mono hB4.size);obtain⟨t1,T1,t2,rfl,-⟩:=hz5.parts;refine hK _ _ ⟨⟨_,hB5.mono hle⟩,rfl⟩ ?_;clear hK K;try simp only[Act.put,Fm,Fl,Fk,Fj,Fo,Fp]
 refine ap rfl rfl (fun K hK=>?_);go_simp;refine (tJ _ _ _ _ w5 (hz4.below hb5) hz5 hne f8.out f6.out).mono ?_;rintro e w6 ⟨v6,rfl,hv6,hb6⟩;have hB6:=hB5.trans (hb6.mono hB5.size);rw[HE.out] at hv6;refine hK _ _ ⟨⟨_,hB6.mono hle⟩,rfl⟩ ?_;clear hK K;try simp only[Act.put,Fm,Fl,Fk,Fj,Fo,Fp]
 have hv6:dl w6 v6 (a+b):=hv6;clear hz2 hz3 hz4 hz5 hb2 hb3 hb4 hb5 hb6 hB3 hB4 hB5;obtain⟨mo,po,No,co,po',No',co',rfl,ho,ho'⟩:=hv6.open;have u2:=(hB6.block _ HLT.out).trans s2;have hP:=bg (u0:=.bool mo) (u1:=.slice po No co) (u2:=.bool false) (u3:=.slice po' No' co') u2;have hZ:=Fi (dr.puts (hv6) hP u2 bL);have hBF:=Fi ((M1.out.trans (hB6.mono (FB (FS _) (FB (FS _) hle)))).trans (hP.below w.heap.size (by omega)));have hBG:=(hB6.mono hle).trans (hP.below (w.heap.size+1+1) (Fq _));have q0:=af u2 0;have q1:=af u2 1;have q2:=af u2 2;have q3:=af u2 3;have f0:=frozen_of_row w6 (w.heap.size+1+1) 0 _ _ u2;have f1:=frozen_of_row w6 (w.heap.size+1+1) 1 _ _ u2;have f2:=frozen_of_row w6 (w.heap.size+1+1) 2 _ _ u2;have f3:=frozen_of_row w6 (w.heap.size+1+1) 3 _ _ u2;refine ap rfl rfl (fun K hK=>?_);go_simp;change K _ (d9 w6 (w.heap.size+1+1) (.bool mo) (.slice po No co) (.bool false) (.slice po' No' co'));refine hK undef _ ⟨⟨_,hBG⟩,rfl⟩ ?_;clear hK K d0 d1 d2 d3 b0 b1 b2 b3 q0 q1 q2 q3 f0 f1 f2 f3 hBG;try simp only[Act.put,Fm,Fl,Fk,Fj,Fo,Fp]
 refine aD ?_;go_wp2_with fail
 (try simp only[Exit.inBlock,Exit.then])
 refine bodyPost_ret (results_cell_row rfl _ _ (w.heap.size+1+1) _ _ (0,0) _ rfl hP.row Tryz.underlying78 rfl (by kernel_rfl)) rfl ?_;exact⟨_,rfl,hZ.out,hBF.out⟩
end Go.Proofs.YtbnkpcfjechfiaaGreatDoor
