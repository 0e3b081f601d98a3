/- Lemmas of this claim. -/
import Derived.Test.YtbnkpcfjechfiaaGreatDoorQNQ
import Derived.Test.YtbnkpcfjechfiaaGreatDoorQNC8
import Derived.Test.YtbnkpcfjechfiaaGreatDoorQRQ6
set_option linter.all false
set_option maxRecDepth 100000
set_option maxHeartbeats 8000000
namespace Go.Proofs.YtbnkpcfjechfiaaGreatDoor
open Go.RowKit Dg
theorem tw {m:Bool}{N D:Nat} (hD:0<D) (hm:N=0→m=false):di m N D=⟨decide (sgn m (N / Nat.gcd N D)<0),N / Nat.gcd N D,D / Nat.gcd N D⟩:=by
 unfold di;rw[rz];by_cases h:N=0
 ·rw[if_pos h,hm h,h,G_,Nat.zero_div,Nat.div_self hD];rfl
 ·rw[if_neg h];have hg:0<N / Nat.gcd N D:=In (Hi (by omega) (Hz ..)) (Gm _ hD);rw[decide_eq_true hg,Bool.and_true]
theorem Bs {n:Int}{D:Nat} (hD:0<D):rt ((n:Rat) / ((D:Nat):Rat))=di (decide (n<0)) n.natAbs D:=by
 rw[kV _ _ _ hD];congr 1;rw[Rat.mkRat_eq_div]
 have e:sgz (decide (n<0)) n.natAbs=n:=by
  unfold sgz;by_cases h:n<0
  ·rw[decide_eq_true h,if_pos rfl];omega
  ·rw[decide_eq_false h,if_neg (by decide)];omega
 rw[e]
theorem nV (va vb:Value) (n d:Int) (w:World) (ha:IsZ w va n) (hb:IsZ w vb d) (hd0:d≠0) (hfn:bf n.natAbs) (hfd:bf d.natAbs) :
  Calls Tryz.prog 142 #[va,vb] w fun e w'=>∃ v,e=.returned v∧dq w' v (rt ((n:Rat) / (d:Rat)))∧Below w.heap.size w w':=by
 obtain⟨p,N,c,rfl,hN,hNc,hcm,hd⟩:=ha.parts;obtain⟨p',N',c',rfl,hN',hNc',hcm',hd'⟩:=hb.parts;obtain⟨mn,hmn⟩:∃ m,m=decide (n<0):=⟨_,rfl⟩;obtain⟨md,hmd⟩:∃ m,m=decide (d<0):=⟨_,rfl⟩;rw[←hmn] at ha;rw[←hmd] at hb;rw[←hmn,←hmd];have HMN:=E5 hmn;have HMD:=E5 hmd;clear hmn hmd;have hl:=pz w (.cells #[.bool mn,.slice p N c] 76) (.cells #[.bool md,.slice p' N' c'] 76) (.cells #[.bool false,.slice none 0 0,.bool false,.slice none 0 0] 78);have hgp:0<Nat.gcd n.natAbs d.natAbs:=Gm _ (by omega);have HFG:Hid (bf (Nat.gcd n.natAbs d.natAbs)):=hfd.mono (Hi (by omega) (Iw ..));have HGP:=E5 hgp;have HFN:=E5 hfn;have HFD:=E5 hfd;have HBI:=E5 hl.below;have r0:=hl.s0;have r1:=hl.s1;have r2:=hl.s2;have HD:=E5 (hd.below hl.below);have HE:=E5 (hd'.below hl.below);have HZN:=E5 (ha.below hl.below);have HZD:=E5 (hb.below hl.below);have hsz0:=E5 hl.size;clear ha hb hd hd' hfn hfd hgp hl;go_enter Tryz.func142,Tryz.ntmps142;go_upto_region 1 with fail
 generalize ((w.alloc (.cells #[.bool mn,.slice p N c] 76)).alloc (.cells #[.bool md,.slice p' N' c'] 76)).alloc (.cells #[.bool false,.slice none 0 0,.bool false,.slice none 0 0] 78)=w1 at *
 by_cases hneg:d<0
 ·obtain rfl:md=true:=by rw[HMD.out];exact decide_eq_true hneg
  have y0:=aa r1 0;go_upto_region 2 with fail
  have hbd:Below w1.heap.size w1 w1.drew:=(Below.refl _ _).drew;refine wp_mono (av (Q:=aN _) (fun wx:World=>wx.heap[w.heap.size+1]?=some (.cells #[.bool true,.slice p' N' c'] 76 (0,0))) (fun t=>t == 5) (by kernel_rfl) ?_) (fun _ _ _ h=>aU h);have r0:=(hbd.block _ (ag r0)).trans r0;have r1:=(hbd.block _ (ag r1)).trans r1;have r2:=(hbd.block _ (ag r2)).trans r2;have HZN:=E5 (HZN.out.below hbd);have HZD:=E5 (HZD.out.below hbd);have HBI:=E5 (HBI.out.trans (hbd.mono HBI.out.size));clear hbd HD HE y0;generalize w1.drew=wd at *
  refine ax (i:=2) (v:=?vv2) rfl (by kernel_rfl) (fun _ _ _ h=>h) rfl r1 ?hy2 ?rest2
  case hy2 =>
   intro wy hy;have q0:=aa hy 0;have q1:=aa hy 1;clear hy;go_simp;try with_reducible rfl
  try simp only[Act.put,E9,E8,E7,E6,Fa,E_]
  have q0:=aa r0 0;have q1:=aa r0 1;refine au (i:=0) rfl (by kernel_rfl) rfl (fun K hK=>?_);go_simp;refine hK _ _ (fun _ _=>r1) ?_;clear hK K q0 q1;try simp only[Act.put,E9,E8,E7,E6,Fa,E_]
  refine au (i:=1) rfl (by kernel_rfl) rfl (fun K hK=>?_);go_simp;refine (ix _ n wd HZN.out).mono ?_;rintro e w2 ⟨v2,rfl,hz2,hb2⟩;refine hK _ _ (fun _ _=>(hb2.block _ (ag r1)).trans r1) ?_;clear hK K;try simp only[Act.put,E9,E8,E7,E6,Fa,E_]
  refine au (i:=3) rfl (by kernel_rfl) rfl (fun K hK=>?_);go_simp;refine (ix _ d w2 (HZD.out.below hb2)).mono ?_;rintro e w3 ⟨v3,rfl,hz3,hb3⟩;have hb23:=hb2.trans (hb3.mono hb2.size);refine hK _ _ (fun _ _=>(hb23.block _ (ag r1)).trans r1) ?_;clear hK K;try simp only[Act.put,E9,E8,E7,E6,Fa,E_]
  have r0:=(hb23.block _ (ag r0)).trans r0;have r1:=(hb23.block _ (ag r1)).trans r1;have r2:=(hb23.block _ (ag r2)).trans r2;have hz2:=hz2.below hb3;have HBI:=E5 (HBI.out.trans (hb23.mono HBI.out.size));clear HZN HZD hb2 hb3 hb23;obtain⟨n2,hn2⟩:∃ x,x=-n:=⟨_,rfl⟩;obtain⟨D,hD⟩:∃ D:Nat,-d=D:=⟨(-d).toNat,by omega⟩;rw[←hn2] at hz2;rw[hD] at hz3;have ea:n.natAbs=n2.natAbs:=by rw[hn2,Ha]
  have ed:d.natAbs=D:=by omega
  have HFN:=E5 (show bf n2.natAbs by rw[←ea];exact HFN.out);have HFD:=E5 (show bf (D:Int).natAbs by rw[FR,←ed];exact HFD.out);have HFG:=E5 (show bf (Nat.gcd n2.natAbs (D:Int).natAbs) by rw[FR,←ed,←ea];exact HFG.out);have HGP:=E5 (show 0<Nat.gcd n2.natAbs (D:Int).natAbs by rw[FR,←ed,←ea];exact HGP.out)
  have eq:(n:Rat) / (d:Rat)=(n2:Rat) / (((D:Nat):Int):Rat):=by
   rw[hn2,←hD,Rat.intCast_neg,Rat.intCast_neg];have:(d:Rat)≠0:=fun e=>hd0 (Rat.intCast_inj.1 e);grind
  obtain⟨pa,Na,ca,rfl,hNa,hNca,hcma,hda⟩:=hz2.parts;obtain⟨pb,Nb,cb,rfl,hNb,hNcb,hcmb,hdb⟩:=hz3.nat;obtain⟨m2,hm2⟩:∃ m,m=decide (n2<0):=⟨_,rfl⟩;rw[←hm2] at hz2 ⊢
  have HR:Hid (rt ((n:Rat) / (d:Rat))=⟨decide (sgn m2 (n2.natAbs / Nat.gcd n2.natAbs (D:Int).natAbs)<0),n2.natAbs / Nat.gcd n2.natAbs (D:Int).natAbs,(D:Int).natAbs / Nat.gcd n2.natAbs (D:Int).natAbs⟩):=by
   have h:=tw (m:=m2) (N:=n2.natAbs) (D:=D) (by omega) (fun h=>by rw[hm2];exact decide_eq_false (by omega));rw[hm2,←Bs (by omega)] at h;rw[hm2,eq,FR];exact h
  have P1:=bW (u0:=.bool m2) (u1:=.slice pa Na ca) r0;have P2:=bW (u0:=.bool false) (u1:=.slice pb Nb cb) ((P1.other _ (by omega)).trans r1);have k0:=aa r0 0;have k1:=aa r0 1;have k2:=aa ((P1.other (w.heap.size+1) (by omega)).trans r1) 0;have k3:=aa ((P1.other (w.heap.size+1) (by omega)).trans r1) 1;have f0:=frozen_of_row w3 w.heap.size 0 _ _ r0;have f1:=frozen_of_row w3 w.heap.size 1 _ _ r0;have f2:=frozen_of_row _ (w.heap.size+1) 0 _ _ ((P1.other (w.heap.size+1) (by omega)).trans r1);have f3:=frozen_of_row _ (w.heap.size+1) 1 _ _ ((P1.other (w.heap.size+1) (by omega)).trans r1);have r0':=(P2.other _ (by omega)).trans P1.row;have r1':=P2.row;have r2':=((P2.other _ (by omega)).trans (P1.other _ (by omega))).trans r2;have hmid:=(P1.other (w.heap.size+1) (by omega)).trans r1;have HMID:=E5 hmid;have HD:=E5 (P2.isI hmid dI (P1.isI r0 dI hda));have HE:=E5 (P2.isI hmid dI (P1.isI r0 dI hdb));have HZN:=E5 ((hz2.puts P1 r0 dI).puts P2 hmid dI);have HZD:=E5 ((hz3.puts P1 r0 dI).puts P2 hmid dI);have HBI:=E5 ((HBI.out.trans (P1.below w.heap.size (Fb _))).trans (P2.below w.heap.size (Fx _)));clear hz2 hz3 hda hdb hm2 eq ea ed hD hn2 hneg hd0 P1 P2 r0 r1 r2 hmid;refine au (i:=4) rfl (by kernel_rfl) rfl (fun K hK=>?_);go_simp;change K _ (fI w3 w.heap.size (.bool m2) (.slice pa Na ca));refine hK _ _ (fun _ _=>HMID.out) ?_;clear hK K;try simp only[Act.put,E9,E8,E7,E6,Fa,E_]
  refine au (i:=5) rfl (by kernel_rfl) rfl (fun K hK=>?_);go_simp;change K _ (fI (fI w3 w.heap.size (.bool m2) (.slice pa Na ca)) (w.heap.size+1) (.bool false) (.slice pb Nb cb));refine hK _ _ (fun h=>by cases h) ?_;clear hK K k0 k1 k2 k3 f0 f1 f2 f3;try simp only[Act.put,E9,E8,E7,E6,Fa,E_]
  refine aG (by kernel_rfl) ?_ _;simp only[aN];generalize fI (fI w3 w.heap.size (.bool m2) (.slice pa Na ca)) (w.heap.size+1) (.bool false) (.slice pb Nb cb)=wi at *
  have r0:=r0';have r1:=r1';have r2:=r2';clear r0' r1' r2';have x0:=aa r0 0;have x1:=aa r0 1;have y0:=aa r1 0;have y1:=aa r1 1;go_wp2_with fail
  refine (oG _ _ n2 ((D:Nat):Int) wi HZN.out HZD.out HFN.out HFD.out).mono ?_;rintro e w2 ⟨v2,rfl,hz2,hb2⟩;obtain⟨p2,N2,c2,rfl,hN2,hNc2,hcm2,hd2⟩:=hz2.nat;have hl2:=aT w2 (.cells #[.bool false,.slice p2 N2 c2] 76);have hb3:=hb2.trans (hl2.below.mono hb2.size);have HB3:=HBI.out.trans (hb3.mono HBI.out.size);have r0:=(hb3.block _ (ag r0)).trans r0;have r1:=(hb3.block _ (ag r1)).trans r1;have r2:=(hb3.block _ (ag r2)).trans r2;have r3:=hl2.s0;have hsz:=E5 hl2.size;have HG:=E5 (hd2.below hl2.below);have HD3:=E5 (HD.out.below hb3);have HE3:=E5 (HE.out.below hb3);clear hl2 hb2 hb3 hz2 hd2 x0 x1 y0 y1 HD HE HZN HZD;have a0:=aa r0 1;have a1:=aa r3 1;go_upto_region 5 with fail
  generalize w2.alloc (.cells #[.bool false,.slice p2 N2 c2] 76)=w3 at *
  go_wp2_with fail
  refine (ej _ _ _ _ w3 HD3.out HG.out HGP.out HFN.out HFG.out).mono ?_;rintro e w4 ⟨v4,v4',rfl,hq,_,hb4⟩;have hlt3:w2.heap.size<w3.heap.size:=by have:=hsz.out;omega
  have s1:=(hb4.block _ (ag r1)).trans r1;have s2:=(hb4.block _ (ag r2)).trans r2;have s3:=(hb4.block _ (ag r3)).trans r3;have s0:=(hb4.block _ (ag r0)).trans r0;have HG4:=E5 (HG.out.below hb4);have HE4:=E5 (HE3.out.below hb4);have HQ4:=E5 hq;have HB4:=HB3.trans (hb4.mono HB3.size);clear r0 r1 r2 r3 a0 a1 HB3 hb4 HD3 HE3 HG hq;have a1:=aa s1 1;have a3:=aa s3 1;have a0:=aa s0 0;go_wp2_with fail
  refine (ej _ _ _ _ w4 HE4.out HG4.out HGP.out HFD.out HFG.out).mono ?_;rintro e w5 ⟨v5,v5',rfl,hq5,_,hb5⟩;have s0':=(hb5.block _ (ag s0)).trans s0;have s2':=(hb5.block _ (ag s2)).trans s2;have HQ5:=E5 (HQ4.out.below hb5);have HP5:=E5 hq5;have HB5:=HB4.trans (hb5.mono HB4.size);clear s0 s1 s2 s3 a0 a1 a3 HB4 hb5 HQ4 HG4 HE4 hq5;have a0:=aa s0' 0;go_wp2_with fail
  refine (dy _ _ _ w5 HQ5.out (aL _).1).mono ?_;rintro e w6 ⟨v6,rfl,hz6,hb6⟩;rw[aw aD] at hz6;obtain⟨p6,N6,c6,rfl,hN6,hNc6,hcm6,hd6⟩:=hz6.parts;rw[gI] at hd6;have HP6:=E5 (HP5.out.below hb6);have t2:=(hb6.block _ (ag s2')).trans s2';have HB6:=HB5.trans (hb6.mono HB5.size);have HD6:=E5 hd6;clear a0 s0' s2' HP5 HQ5 HB5 hb6 hz6 hd6;generalize hsg:decide (sgn m2 _<0)=m6 at *
  have HSG:=E5 hsg;clear hsg;go_wp2_with fail
  refine (dy _ _ _ w6 HP6.out (aL _).1).mono ?_;rintro e w7 ⟨v7,rfl,hz7,hb7⟩;rw[aw aD] at hz7;obtain⟨p7,N7,c7,rfl,hN7,hNc7,hcm7,hd7⟩:=hz7.nat;have u2:=(hb7.block _ (ag t2)).trans t2;have HB7:=HB6.trans (hb7.mono HB6.size);have hP:=aY (u0:=.bool m6) (u1:=.slice p6 N6 c6) (u2:=.bool false) (u3:=.slice p7 N7 c7) u2
  have hZ:Hid (dq (dX w7 (w.heap.size+1+1) (.bool m6) (.slice p6 N6 c6) (.bool false) (.slice p7 N7 c7)) (.agg #[.bool m6,.slice p6 N6 c6,.bool false,.slice p7 N7 c7]) (rt ((n:Rat) / (d:Rat)))):=by
   rw[HR.out];exact⟨_,_,rfl,hP.isI u2 bF (HD6.out.below hb7),hP.isI u2 bF hd7⟩
  have hB:=HB7.trans (hP.below w.heap.size (by omega));have q0:=aa u2 0;have q1:=aa u2 1;have q2:=aa u2 2;have q3:=aa u2 3;have f0:=frozen_of_row w7 (w.heap.size+1+1) 0 _ _ u2;have f1:=frozen_of_row w7 (w.heap.size+1+1) 1 _ _ u2;have f2:=frozen_of_row w7 (w.heap.size+1+1) 2 _ _ u2;have f3:=frozen_of_row w7 (w.heap.size+1+1) 3 _ _ u2;clear t2 HP6 HB6 hb7 hz7 hd7 HD6;go_wp2_with fail
  (try simp only[Exit.inBlock,Exit.then])
  change bodyPost _ _ _ _ _ (dX w7 (w.heap.size+1+1) (.bool m6) (.slice p6 N6 c6) (.bool false) (.slice p7 N7 c7));refine bodyPost_ret (results_cell_row rfl _ _ (w.heap.size+1+1) _ _ (0,0) _ rfl hP.row Tryz.underlying78 rfl (by kernel_rfl)) rfl ?_;exact⟨_,rfl,hZ.out,hB⟩
 ·obtain⟨D,rfl⟩:∃ D:Nat,d=D:=⟨d.toNat,by omega⟩;obtain rfl:md=false:=by rw[HMD.out];exact decide_eq_false hneg
  have HR:Hid (rt ((n:Rat) / ((D:Int):Rat))=⟨decide (sgn mn (n.natAbs / Nat.gcd n.natAbs (D:Int).natAbs)<0),n.natAbs / Nat.gcd n.natAbs (D:Int).natAbs,(D:Int).natAbs / Nat.gcd n.natAbs (D:Int).natAbs⟩):=by
   have h:=tw (m:=mn) (N:=n.natAbs) (D:=D) (by omega) (fun h=>by rw[HMN.out];exact decide_eq_false (by omega));rw[HMN.out,←Bs (by omega)] at h;rw[HMN.out,FR];exact h
  clear hneg hd0;have x0:=aa r0 0;have x1:=aa r0 1;have y0:=aa r1 0;have y1:=aa r1 1;go_wp2_with fail
  refine (oG _ _ n ((D:Nat):Int) w1 HZN.out HZD.out HFN.out HFD.out).mono ?_;rintro e w2 ⟨v2,rfl,hz2,hb2⟩;obtain⟨p2,N2,c2,rfl,hN2,hNc2,hcm2,hd2⟩:=hz2.nat;have hl2:=aT w2 (.cells #[.bool false,.slice p2 N2 c2] 76);have hb3:=hb2.trans (hl2.below.mono hb2.size);have HB3:=HBI.out.trans (hb3.mono HBI.out.size);have r0:=(hb3.block _ (ag r0)).trans r0;have r1:=(hb3.block _ (ag r1)).trans r1;have r2:=(hb3.block _ (ag r2)).trans r2;have r3:=hl2.s0;have hsz:=E5 hl2.size;have HG:=E5 (hd2.below hl2.below);have HD3:=E5 (HD.out.below hb3);have HE3:=E5 (HE.out.below hb3);clear hl2 hb2 hb3 hz2 hd2 x0 x1 y0 y1 HD HE HZN HZD;have a0:=aa r0 1;have a1:=aa r3 1;go_upto_region 5 with fail
  generalize w2.alloc (.cells #[.bool false,.slice p2 N2 c2] 76)=w3 at *
  go_wp2_with fail
  refine (ej _ _ _ _ w3 HD3.out HG.out HGP.out HFN.out HFG.out).mono ?_;rintro e w4 ⟨v4,v4',rfl,hq,_,hb4⟩;have hlt3:w2.heap.size<w3.heap.size:=by have:=hsz.out;omega
  have s1:=(hb4.block _ (ag r1)).trans r1;have s2:=(hb4.block _ (ag r2)).trans r2;have s3:=(hb4.block _ (ag r3)).trans r3;have s0:=(hb4.block _ (ag r0)).trans r0;have HG4:=E5 (HG.out.below hb4);have HE4:=E5 (HE3.out.below hb4);have HQ4:=E5 hq;have HB4:=HB3.trans (hb4.mono HB3.size);clear r0 r1 r2 r3 a0 a1 HB3 hb4 HD3 HE3 HG hq;have a1:=aa s1 1;have a3:=aa s3 1;have a0:=aa s0 0;go_wp2_with fail
  refine (ej _ _ _ _ w4 HE4.out HG4.out HGP.out HFD.out HFG.out).mono ?_;rintro e w5 ⟨v5,v5',rfl,hq5,_,hb5⟩;have s0':=(hb5.block _ (ag s0)).trans s0;have s2':=(hb5.block _ (ag s2)).trans s2;have HQ5:=E5 (HQ4.out.below hb5);have HP5:=E5 hq5;have HB5:=HB4.trans (hb5.mono HB4.size);clear s0 s1 s2 s3 a0 a1 a3 HB4 hb5 HQ4 HG4 HE4 hq5;have a0:=aa s0' 0;go_wp2_with fail
  refine (dy _ _ _ w5 HQ5.out (aL _).1).mono ?_;rintro e w6 ⟨v6,rfl,hz6,hb6⟩;rw[aw aD] at hz6;obtain⟨p6,N6,c6,rfl,hN6,hNc6,hcm6,hd6⟩:=hz6.parts;rw[gI] at hd6;have HP6:=E5 (HP5.out.below hb6);have t2:=(hb6.block _ (ag s2')).trans s2';have HB6:=HB5.trans (hb6.mono HB5.size);have HD6:=E5 hd6;clear a0 s0' s2' HP5 HQ5 HB5 hb6 hz6 hd6;generalize hsg:decide (sgn mn _<0)=m6 at *
  have HSG:=E5 hsg;clear hsg;go_wp2_with fail
  refine (dy _ _ _ w6 HP6.out (aL _).1).mono ?_;rintro e w7 ⟨v7,rfl,hz7,hb7⟩;rw[aw aD] at hz7;obtain⟨p7,N7,c7,rfl,hN7,hNc7,hcm7,hd7⟩:=hz7.nat;have u2:=(hb7.block _ (ag t2)).trans t2;have HB7:=HB6.trans (hb7.mono HB6.size);have hP:=aY (u0:=.bool m6) (u1:=.slice p6 N6 c6) (u2:=.bool false) (u3:=.slice p7 N7 c7) u2
  have hZ:Hid (dq (dX w7 (w.heap.size+1+1) (.bool m6) (.slice p6 N6 c6) (.bool false) (.slice p7 N7 c7)) (.agg #[.bool m6,.slice p6 N6 c6,.bool false,.slice p7 N7 c7]) (rt ((n:Rat) / (((D:Nat):Int):Rat)))):=by
   rw[HR.out];exact⟨_,_,rfl,hP.isI u2 bF (HD6.out.below hb7),hP.isI u2 bF hd7⟩
  have hB:=HB7.trans (hP.below w.heap.size (by omega));have q0:=aa u2 0;have q1:=aa u2 1;have q2:=aa u2 2;have q3:=aa u2 3;have f0:=frozen_of_row w7 (w.heap.size+1+1) 0 _ _ u2;have f1:=frozen_of_row w7 (w.heap.size+1+1) 1 _ _ u2;have f2:=frozen_of_row w7 (w.heap.size+1+1) 2 _ _ u2;have f3:=frozen_of_row w7 (w.heap.size+1+1) 3 _ _ u2;clear t2 HP6 HB6 hb7 hz7 hd7 HD6;go_wp2_with fail
  (try simp only[Exit.inBlock,Exit.then])
  change bodyPost _ _ _ _ _ (dX w7 (w.heap.size+1+1) (.bool m6) (.slice p6 N6 c6) (.bool false) (.slice p7 N7 c7));refine bodyPost_ret (results_cell_row rfl _ _ (w.heap.size+1+1) _ _ (0,0) _ rfl hP.row Tryz.underlying78 rfl (by kernel_rfl)) rfl ?_;exact⟨_,rfl,hZ.out,hB⟩
theorem cf {n k:Nat} (h:n<10 ^ k) (hk:k≤390000):bf n:=by
 unfold bf;refine FE (aS (k:=k / 4+1) aD (Fe h ?_)) (by omega);have e:RR ^ (k / 4+1)=10 ^ (4*(k / 4+1)):=by rw[GG];rfl
 rw[e];exact Fs (by decide) (by omega)
def cV (w:World) (v:Value) (q:Rat):Prop:=dq w v (rt q)
theorem cV.below {w w':World}{v:Value}{q:Rat} (h:cV w v q) (hb:Below w.heap.size w w'):cV w' v q:=dq.below h hb
theorem cT {n:Nat} (h:bf n):(am RR n).length<1000000:=Fe h (by decide)
theorem cV.open {w:World}{v:Value}{q:Rat} (h:cV w v q):∃ m p N c p' N' c',v=.agg #[.bool m,.slice p N c,.bool false,.slice p' N' c']∧IsZ w (.agg #[.bool m,.slice p N c]) q.num∧IsZ w (.agg #[.bool false,.slice p' N' c']) (q.den:Int):=by
 obtain⟨p,N,c,p',N',c',e,-,-,-,-,-,-,h1,h2⟩:=h.parts;refine⟨_,p,N,c,p',N',c',e,⟨_,rfl,h1⟩,iD h2⟩
theorem fp (q:Rat):(q.num:Rat) / (q.den:Rat)=q:=by rw[←Rat.mkRat_eq_div,Rat.mkRat_self]
theorem fW {D:Nat} (h:0<D):(D:Rat)≠0:=by
 intro e;have e2:((D:Int):Rat)=((0:Int):Rat):=e;have:=Rat.intCast_inj.1 e2;omega
theorem A_ (va vb:Value) (a b:Rat) (k l:Nat) (w:World) (ha:cV w va a) (hb:cV w vb b) (hk:Sz k (rt a)) (hl:Sz l (rt b)) (hkl:k+l≤390000) :
  Calls Tryz.prog 95 #[va,vb] w fun e w'=>∃ v,e=.returned v∧cV w' v (a*b)∧Below w.heap.size w w':=by
 obtain⟨m,p,N,c,p',N',c',rfl,hn,hd⟩:=ha.open;obtain⟨m2,q,M,d,q',M',d',rfl,hn2,hd2⟩:=hb.open;have hl3:=pz w (.cells #[.bool m,.slice p N c,.bool false,.slice p' N' c'] 78) (.cells #[.bool m2,.slice q M d,.bool false,.slice q' M' d'] 78) (.cells #[.bool false,.slice none 0 0,.bool false,.slice none 0 0] 78);have an:a.num.natAbs<10 ^ k:=hk.n;have ad:a.den<10 ^ k:=hk.d;have bn:b.num.natAbs<10 ^ l:=hl.n;have bd:b.den<10 ^ l:=hl.d;have f1:=E5 (cf an (by omega));have f2:=E5 (cf ad (by omega));have f3:=E5 (cf bn (by omega));have f4:=E5 (cf bd (by omega));have f5:=E5 (show bf (a.num*b.num).natAbs by rw[Gt];exact cf (db an bn) hkl);have f6:=E5 (show bf ((a.den:Int)*(b.den:Int)).natAbs by rw[Gt];exact cf (db ad bd) hkl);have ha0:=a.den_pos;have hb0:=b.den_pos;have hne:(a.den:Int)*(b.den:Int)≠0:=Int.mul_ne_zero (by omega) (by omega)
 have HE:=E5 (show ((a.num*b.num:Int):Rat) / (((a.den:Int)*(b.den:Int):Int):Rat)=a*b from by
  have e1:=fp a;have e2:=fp b;have n1:=fW ha0;have n2:=fW hb0;rw[Rat.intCast_mul,Rat.intCast_mul]
  show ((a.num:Rat)*(b.num:Rat)) / ((a.den:Rat)*(b.den:Rat))=a*b
  generalize (a.den:Rat)=x at *
  generalize (b.den:Rat)=y at *
  generalize (a.num:Rat)=s at *
  generalize (b.num:Rat)=t at *
  rw[←e1,←e2]
  grind)
 clear an ad bn bd ha0 hb0;go_enter Tryz.func95,Tryz.ntmps95;go_upto_region 1 with fail
 generalize ((w.alloc (.cells #[.bool m,.slice p N c,.bool false,.slice p' N' c'] 78)).alloc (.cells #[.bool m2,.slice q M d,.bool false,.slice q' M' d'] 78)).alloc (.cells #[.bool false,.slice none 0 0,.bool false,.slice none 0 0] 78)=w1 at *
 refine aq (fun w'=>∃ x:aC (w.heap.size+1+1) w1.drew,w'=x.w) (fun j=>j == 4||j == 9||j == 10||j == 11) (by kernel_rfl) (by kernel_rfl) ⟨⟨_,Below.refl _ _⟩,rfl⟩ ?_;have hBd:Below w1.heap.size w1 w1.drew:=(Below.refl _ _).drew;have s0:=(hBd.block _ (ag hl3.s0)).trans hl3.s0;have s1:=(hBd.block _ (ag hl3.s1)).trans hl3.s1;have s2:=(hBd.block _ (ag hl3.s2)).trans hl3.s2;have M1:=E5 (hl3.below.trans (hBd.mono hl3.below.size));have hBz:=hl3.below.trans (hBd.mono hl3.below.size);have HN:=E5 (hn.below hBz);have HD:=E5 (hd.below hBz);have HN2:=E5 (hn2.below hBz);have HD2:=E5 (hd2.below hBz);have HLT:=E5 (ag s2);clear hl3 hBd hBz hn hd hn2 hd2 ha hb;generalize w1.drew=wd at *
 have hB0:Below (w.heap.size+1+1) wd wd:=Below.refl _ _;have e0:=aa s0 0;have e1:=aa s0 1;have e2:=aa s0 2;have e3:=aa s0 3;have g0:=aa s1 0;have g1:=aa s1 1;have g2:=aa s1 2;have g3:=aa s1 3;have d0:=fun x:aC (w.heap.size+1+1) wd=>(x.h.cell (p:=⟨w.heap.size,0,none⟩) (by show w.heap.size<_;omega)).trans e0;have d1:=fun x:aC (w.heap.size+1+1) wd=>(x.h.cell (p:=⟨w.heap.size,1,none⟩) (by show w.heap.size<_;omega)).trans e1;have d2:=fun x:aC (w.heap.size+1+1) wd=>(x.h.cell (p:=⟨w.heap.size,2,none⟩) (by show w.heap.size<_;omega)).trans e2;have d3:=fun x:aC (w.heap.size+1+1) wd=>(x.h.cell (p:=⟨w.heap.size,3,none⟩) (by show w.heap.size<_;omega)).trans e3;have b0:=fun x:aC (w.heap.size+1+1) wd=>(x.h.cell (p:=⟨w.heap.size+1,0,none⟩) (by show w.heap.size+1<_;omega)).trans g0;have b1:=fun x:aC (w.heap.size+1+1) wd=>(x.h.cell (p:=⟨w.heap.size+1,1,none⟩) (by show w.heap.size+1<_;omega)).trans g1;have b2:=fun x:aC (w.heap.size+1+1) wd=>(x.h.cell (p:=⟨w.heap.size+1,2,none⟩) (by show w.heap.size+1<_;omega)).trans g2;have b3:=fun x:aC (w.heap.size+1+1) wd=>(x.h.cell (p:=⟨w.heap.size+1,3,none⟩) (by show w.heap.size+1<_;omega)).trans g3;clear e0 e1 e2 e3 g0 g1 g2 g3 s0 s1;have hle:w.heap.size+1+1≤wd.heap.size:=FC HLT.out;refine ah 4 0 _ _ _ (by kernel_rfl) ?_;simp only[Fc,Fg,Fd,Ff];repeat (go_big_quiet_step (fail))
 refine wpQuiet_nil ?_;refine aj rfl rfl (fun K hK=>?_);go_simp;refine (fv _ _ _ _ wd HN.out HN2.out (cT f1.out) (cT f3.out)).mono ?_;rintro e w2 ⟨v2,rfl,hz2,hb2⟩;obtain⟨z1,Z1,z2,rfl,-⟩:=hz2.parts;refine hK _ _ ⟨⟨_,hb2.mono hle⟩,rfl⟩ ?_;clear hK K;try simp only[Act.put,E9,E8,E7,E6,Fa,E_]
 refine ah 4 5 _ _ _ (by kernel_rfl) ?_;simp only[Fc,Fg,Fd,Ff];repeat (go_big_quiet_step (fail))
 refine wpQuiet_nil ?_;refine aj rfl rfl (fun K hK=>?_);go_simp;refine (fv _ _ _ _ w2 (HD.out.below hb2) (HD2.out.below hb2) (cT f2.out) (cT f4.out)).mono ?_;rintro e w3 ⟨v3,rfl,hz3,hb3⟩;have hB3:=hb2.trans (hb3.mono hb2.size);refine hK _ _ ⟨⟨_,hB3.mono hle⟩,rfl⟩ ?_;clear hK K;try simp only[Act.put,E9,E8,E7,E6,Fa,E_]
 refine aj rfl rfl (fun K hK=>?_);go_simp;refine (nV _ _ _ _ w3 (hz2.below hb3) hz3 hne f5.out f6.out).mono ?_;rintro e w4 ⟨v4,rfl,hv4,hb4⟩;have hB4:=hB3.trans (hb4.mono hB3.size);rw[HE.out] at hv4;refine hK _ _ ⟨⟨_,hB4.mono hle⟩,rfl⟩ ?_;clear hK K;try simp only[Act.put,E9,E8,E7,E6,Fa,E_]
 have hv4:cV w4 v4 (a*b):=hv4;clear hz2 hz3 hb2 hb3 hb4 hB3;obtain⟨mo,po,No,co,po',No',co',rfl,ho,ho'⟩:=hv4.open;have u2:=(hB4.block _ HLT.out).trans s2;have hP:=aY (u0:=.bool mo) (u1:=.slice po No co) (u2:=.bool false) (u3:=.slice po' No' co') u2;have hZ:=E5 (dq.puts (hv4) hP u2 bF);have hBF:=E5 ((M1.out.trans (hB4.mono (Fj (Fx _) (Fj (Fx _) hle)))).trans (hP.below w.heap.size (by omega)));have hBG:=(hB4.mono hle).trans (hP.below (w.heap.size+1+1) (Fb _));have q0:=aa u2 0;have q1:=aa u2 1;have q2:=aa u2 2;have q3:=aa u2 3;have f0:=frozen_of_row w4 (w.heap.size+1+1) 0 _ _ u2;have f1:=frozen_of_row w4 (w.heap.size+1+1) 1 _ _ u2;have f2:=frozen_of_row w4 (w.heap.size+1+1) 2 _ _ u2;have f3:=frozen_of_row w4 (w.heap.size+1+1) 3 _ _ u2;refine aj rfl rfl (fun K hK=>?_);go_simp;change K _ (dX w4 (w.heap.size+1+1) (.bool mo) (.slice po No co) (.bool false) (.slice po' No' co'));refine hK undef _ ⟨⟨_,hBG⟩,rfl⟩ ?_;clear hK K d0 d1 d2 d3 b0 b1 b2 b3 q0 q1 q2 q3 f0 f1 f2 f3 hBG;try simp only[Act.put,E9,E8,E7,E6,Fa,E_]
 refine aB ?_;go_wp2_with fail
 (try simp only[Exit.inBlock,Exit.then])
 refine bodyPost_ret (results_cell_row rfl _ _ (w.heap.size+1+1) _ _ (0,0) _ rfl hP.row Tryz.underlying78 rfl (by kernel_rfl)) rfl ?_;exact⟨_,rfl,hZ.out,hBF.out⟩
theorem Cg {x y:Int}{k:Nat} (h1:x.natAbs<10 ^ k) (h2:y.natAbs<10 ^ k):(x+y).natAbs<10 ^ (k+1):=by
 have:=Ft (n:=10) (m:=k);omega
theorem tr (va vb:Value) (a b:Rat) (k l:Nat) (w:World) (ha:cV w va a) (hb:cV w vb b) (hk:Sz k (rt a)) (hl:Sz l (rt b)) (hkl:k+l+1≤390000) :
  Calls Tryz.prog 108 #[va,vb] w fun e w'=>∃ v,e=.returned v∧cV w' v (a+b)∧Below w.heap.size w w':=by
 obtain⟨m,p,N,c,p',N',c',rfl,hn,hd⟩:=ha.open;obtain⟨m2,q,M,d,q',M',d',rfl,hn2,hd2⟩:=hb.open;have hl3:=pz w (.cells #[.bool m,.slice p N c,.bool false,.slice p' N' c'] 78) (.cells #[.bool m2,.slice q M d,.bool false,.slice q' M' d'] 78) (.cells #[.bool false,.slice none 0 0,.bool false,.slice none 0 0] 78);have an:a.num.natAbs<10 ^ k:=hk.n;have ad:a.den<10 ^ k:=hk.d;have bn:b.num.natAbs<10 ^ l:=hl.n;have bd:b.den<10 ^ l:=hl.d;have f1:=E5 (cf an (by omega));have f2:=E5 (cf ad (by omega));have f3:=E5 (cf bn (by omega));have f4:=E5 (cf bd (by omega));have h5:(a.num*(b.den:Int)).natAbs<10 ^ (k+l):=by rw[Gt];exact db an bd
 have h7:(b.num*(a.den:Int)).natAbs<10 ^ (k+l):=by rw[Gt,Hn k l];exact db bn ad
 have f5:=E5 (cf h5 (by omega));have f7:=E5 (cf h7 (by omega));have f8:=E5 (cf (Cg h5 h7) hkl);have f6:=E5 (show bf ((a.den:Int)*(b.den:Int)).natAbs by rw[Gt];exact cf (db ad bd) (by omega));have ha0:=a.den_pos;have hb0:=b.den_pos;have hne:(a.den:Int)*(b.den:Int)≠0:=Int.mul_ne_zero (by omega) (by omega)
 have HE:=E5 (show ((a.num*(b.den:Int)+b.num*(a.den:Int):Int):Rat) / (((a.den:Int)*(b.den:Int):Int):Rat)=a+b from by
  have e1:=fp a;have e2:=fp b;have n1:=fW ha0;have n2:=fW hb0;rw[Rat.intCast_add,Rat.intCast_mul,Rat.intCast_mul,Rat.intCast_mul]
  show ((a.num:Rat)*(b.den:Rat)+(b.num:Rat)*(a.den:Rat)) / ((a.den:Rat)*(b.den:Rat))=a+b
  generalize (a.den:Rat)=x at *
  generalize (b.den:Rat)=y at *
  generalize (a.num:Rat)=s at *
  generalize (b.num:Rat)=t at *
  rw[←e1,←e2]
  grind)
 clear an ad bn bd ha0 hb0 h5 h7;go_enter Tryz.func108,Tryz.ntmps108;go_upto_region 1 with fail
 generalize ((w.alloc (.cells #[.bool m,.slice p N c,.bool false,.slice p' N' c'] 78)).alloc (.cells #[.bool m2,.slice q M d,.bool false,.slice q' M' d'] 78)).alloc (.cells #[.bool false,.slice none 0 0,.bool false,.slice none 0 0] 78)=w1 at *
 refine aq (fun w'=>∃ x:aC (w.heap.size+1+1) w1.drew,w'=x.w) (fun j=>j == 4||j == 9||j == 10||j == 15||j == 16||j == 17) (by kernel_rfl) (by kernel_rfl) ⟨⟨_,Below.refl _ _⟩,rfl⟩ ?_;have hBd:Below w1.heap.size w1 w1.drew:=(Below.refl _ _).drew;have s0:=(hBd.block _ (ag hl3.s0)).trans hl3.s0;have s1:=(hBd.block _ (ag hl3.s1)).trans hl3.s1;have s2:=(hBd.block _ (ag hl3.s2)).trans hl3.s2;have M1:=E5 (hl3.below.trans (hBd.mono hl3.below.size));have hBz:=hl3.below.trans (hBd.mono hl3.below.size);have HN:=E5 (hn.below hBz);have HD:=E5 (hd.below hBz);have HN2:=E5 (hn2.below hBz);have HD2:=E5 (hd2.below hBz);have HLT:=E5 (ag s2);clear hl3 hBd hBz hn hd hn2 hd2 ha hb;generalize w1.drew=wd at *
 have hB0:Below (w.heap.size+1+1) wd wd:=Below.refl _ _;have e0:=aa s0 0;have e1:=aa s0 1;have e2:=aa s0 2;have e3:=aa s0 3;have g0:=aa s1 0;have g1:=aa s1 1;have g2:=aa s1 2;have g3:=aa s1 3;have d0:=fun x:aC (w.heap.size+1+1) wd=>(x.h.cell (p:=⟨w.heap.size,0,none⟩) (by show w.heap.size<_;omega)).trans e0;have d1:=fun x:aC (w.heap.size+1+1) wd=>(x.h.cell (p:=⟨w.heap.size,1,none⟩) (by show w.heap.size<_;omega)).trans e1;have d2:=fun x:aC (w.heap.size+1+1) wd=>(x.h.cell (p:=⟨w.heap.size,2,none⟩) (by show w.heap.size<_;omega)).trans e2;have d3:=fun x:aC (w.heap.size+1+1) wd=>(x.h.cell (p:=⟨w.heap.size,3,none⟩) (by show w.heap.size<_;omega)).trans e3;have b0:=fun x:aC (w.heap.size+1+1) wd=>(x.h.cell (p:=⟨w.heap.size+1,0,none⟩) (by show w.heap.size+1<_;omega)).trans g0;have b1:=fun x:aC (w.heap.size+1+1) wd=>(x.h.cell (p:=⟨w.heap.size+1,1,none⟩) (by show w.heap.size+1<_;omega)).trans g1;have b2:=fun x:aC (w.heap.size+1+1) wd=>(x.h.cell (p:=⟨w.heap.size+1,2,none⟩) (by show w.heap.size+1<_;omega)).trans g2;have b3:=fun x:aC (w.heap.size+1+1) wd=>(x.h.cell (p:=⟨w.heap.size+1,3,none⟩) (by show w.heap.size+1<_;omega)).trans g3;clear e0 e1 e2 e3 g0 g1 g2 g3 s0 s1;have hle:w.heap.size+1+1≤wd.heap.size:=FC HLT.out;refine ah 4 0 _ _ _ (by kernel_rfl) ?_;simp only[Fc,Fg,Fd,Ff];repeat (go_big_quiet_step (fail))
 refine wpQuiet_nil ?_;refine aj rfl rfl (fun K hK=>?_);go_simp;refine (fv _ _ _ _ wd HN.out HD2.out (cT f1.out) (cT f4.out)).mono ?_;rintro e w2 ⟨v2,rfl,hz2,hb2⟩;obtain⟨z1,Z1,z2,rfl,-⟩:=hz2.parts;refine hK _ _ ⟨⟨_,hb2.mono hle⟩,rfl⟩ ?_;clear hK K;try simp only[Act.put,E9,E8,E7,E6,Fa,E_]
 refine ah 4 5 _ _ _ (by kernel_rfl) ?_;simp only[Fc,Fg,Fd,Ff];repeat (go_big_quiet_step (fail))
 refine wpQuiet_nil ?_;refine aj rfl rfl (fun K hK=>?_);go_simp;refine (fv _ _ _ _ w2 (HN2.out.below hb2) (HD.out.below hb2) (cT f3.out) (cT f2.out)).mono ?_;rintro e w3 ⟨v3,rfl,hz3,hb3⟩;have hB3:=hb2.trans (hb3.mono hb2.size);obtain⟨y1,Y1,y2,rfl,-⟩:=hz3.parts;refine hK _ _ ⟨⟨_,hB3.mono hle⟩,rfl⟩ ?_;clear hK K;try simp only[Act.put,E9,E8,E7,E6,Fa,E_]
 refine aj rfl rfl (fun K hK=>?_);go_simp;refine (ld _ _ _ _ w3 (hz2.below hb3) hz3 (cT f5.out) (cT f7.out)).mono ?_;rintro e w4 ⟨v4,rfl,hz4,hb4⟩;have hB4:=hB3.trans (hb4.mono hB3.size);obtain⟨x1,X1,x2,rfl,-⟩:=hz4.parts;refine hK _ _ ⟨⟨_,hB4.mono hle⟩,rfl⟩ ?_;clear hK K;try simp only[Act.put,E9,E8,E7,E6,Fa,E_]
 refine ah 4 11 _ _ _ (by kernel_rfl) ?_;simp only[Fc,Fg,Fd,Ff];repeat (go_big_quiet_step (fail))
 refine wpQuiet_nil ?_;refine aj rfl rfl (fun K hK=>?_);go_simp;refine (fv _ _ _ _ w4 (HD.out.below hB4) (HD2.out.below hB4) (cT f2.out) (cT f4.out)).mono ?_;rintro e w5 ⟨v5,rfl,hz5,hb5⟩;have hB5:=hB4.trans (hb5.mono hB4.size);obtain⟨t1,T1,t2,rfl,-⟩:=hz5.parts;refine hK _ _ ⟨⟨_,hB5.mono hle⟩,rfl⟩ ?_;clear hK K;try simp only[Act.put,E9,E8,E7,E6,Fa,E_]
 refine aj rfl rfl (fun K hK=>?_);go_simp;refine (nV _ _ _ _ w5 (hz4.below hb5) hz5 hne f8.out f6.out).mono ?_;rintro e w6 ⟨v6,rfl,hv6,hb6⟩;have hB6:=hB5.trans (hb6.mono hB5.size);rw[HE.out] at hv6;refine hK _ _ ⟨⟨_,hB6.mono hle⟩,rfl⟩ ?_;clear hK K;try simp only[Act.put,E9,E8,E7,E6,Fa,E_]
 have hv6:cV w6 v6 (a+b):=hv6;clear hz2 hz3 hz4 hz5 hb2 hb3 hb4 hb5 hb6 hB3 hB4 hB5;obtain⟨mo,po,No,co,po',No',co',rfl,ho,ho'⟩:=hv6.open;have u2:=(hB6.block _ HLT.out).trans s2;have hP:=aY (u0:=.bool mo) (u1:=.slice po No co) (u2:=.bool false) (u3:=.slice po' No' co') u2;have hZ:=E5 (dq.puts (hv6) hP u2 bF);have hBF:=E5 ((M1.out.trans (hB6.mono (Fj (Fx _) (Fj (Fx _) hle)))).trans (hP.below w.heap.size (by omega)));have hBG:=(hB6.mono hle).trans (hP.below (w.heap.size+1+1) (Fb _));have q0:=aa u2 0;have q1:=aa u2 1;have q2:=aa u2 2;have q3:=aa u2 3;have f0:=frozen_of_row w6 (w.heap.size+1+1) 0 _ _ u2;have f1:=frozen_of_row w6 (w.heap.size+1+1) 1 _ _ u2;have f2:=frozen_of_row w6 (w.heap.size+1+1) 2 _ _ u2;have f3:=frozen_of_row w6 (w.heap.size+1+1) 3 _ _ u2;refine aj rfl rfl (fun K hK=>?_);go_simp;change K _ (dX w6 (w.heap.size+1+1) (.bool mo) (.slice po No co) (.bool false) (.slice po' No' co'));refine hK undef _ ⟨⟨_,hBG⟩,rfl⟩ ?_;clear hK K d0 d1 d2 d3 b0 b1 b2 b3 q0 q1 q2 q3 f0 f1 f2 f3 hBG;try simp only[Act.put,E9,E8,E7,E6,Fa,E_]
 refine aB ?_;go_wp2_with fail
 (try simp only[Exit.inBlock,Exit.then])
 refine bodyPost_ret (results_cell_row rfl _ _ (w.heap.size+1+1) _ _ (0,0) _ rfl hP.row Tryz.underlying78 rfl (by kernel_rfl)) rfl ?_;exact⟨_,rfl,hZ.out,hBF.out⟩
theorem Ey (a b:Rat):dC (a.num*(b.den:Int)) (b.num*(a.den:Int))=gL a b:=by
 have hlt:a<b↔a.num*(b.den:Int)<b.num*(a.den:Int):=Rat.lt_iff a b
 have heq:a=b↔a.num*(b.den:Int)=b.num*(a.den:Int):=by
  constructor
  ·intro h;rw[h]
  ·intro h;have e1:=fp a;have e2:=fp b;have n1:=fW a.den_pos;have n2:=fW b.den_pos;have h2:=congrArg (fun z:Int=>(z:Rat)) h;simp only[Rat.intCast_mul] at h2;replace h2:(a.num:Rat)*(b.den:Rat)=(b.num:Rat)*(a.den:Rat):=h2;generalize hx:(a.den:Rat)=x at *
   generalize hy:(b.den:Rat)=y at *
   generalize hs:(a.num:Rat)=s at *
   generalize ht:(b.num:Rat)=t at *
   rw[←e1,←e2];grind
 unfold dC gL;by_cases h1:a=b
 ·rw[if_pos h1,if_pos (by have:=heq.1 h1;omega)]
 ·have h2:a.num*(b.den:Int)-b.num*(a.den:Int)≠0:=fun e=>h1 (heq.2 (by omega));rw[if_neg h1,if_neg h2];by_cases h3:a<b
  ·rw[if_pos h3,if_pos (by have:=hlt.1 h3;omega)]
  ·rw[if_neg h3,if_neg (fun e=>h3 (hlt.2 (by omega)))]
theorem A8 (va vb:Value) (a b:Rat) (k l:Nat) (w:World) (ha:cV w va a) (hb:cV w vb b) (hk:Sz k (rt a)) (hl:Sz l (rt b)) (hkl:k+l+1≤390000) :
  Calls Tryz.prog 141 #[va,vb] w fun e w'=>e=.returned (.int .i64 (gL a b))∧Below w.heap.size w w':=by
 obtain⟨m,p,N,c,p',N',c',rfl,hn,hd⟩:=ha.open;obtain⟨m2,q,M,d,q',M',d',rfl,hn2,hd2⟩:=hb.open;have hl3:=nC w (.cells #[.bool m,.slice p N c,.bool false,.slice p' N' c'] 78) (.cells #[.bool m2,.slice q M d,.bool false,.slice q' M' d'] 78);have an:a.num.natAbs<10 ^ k:=hk.n;have ad:a.den<10 ^ k:=hk.d;have bn:b.num.natAbs<10 ^ l:=hl.n;have bd:b.den<10 ^ l:=hl.d;have f1:=E5 (cf an (by omega));have f2:=E5 (cf ad (by omega));have f3:=E5 (cf bn (by omega));have f4:=E5 (cf bd (by omega));have h5:(a.num*(b.den:Int)).natAbs<10 ^ (k+l):=by rw[Gt];exact db an bd
 have h7:(b.num*(a.den:Int)).natAbs<10 ^ (k+l):=by rw[Gt,Hn k l];exact db bn ad
 have f5:=E5 (cf h5 (by omega));have f7:=E5 (cf h7 (by omega));clear an ad bn bd h5 h7;go_enter Tryz.func141,Tryz.ntmps141;go_upto_region 1 with fail
 generalize (w.alloc (.cells #[.bool m,.slice p N c,.bool false,.slice p' N' c'] 78)).alloc (.cells #[.bool m2,.slice q M d,.bool false,.slice q' M' d'] 78)=w1 at *
 have HN:=E5 (hn.below hl3.below);have HD:=E5 (hd.below hl3.below);have HN2:=E5 (hn2.below hl3.below);have HD2:=E5 (hd2.below hl3.below);have M1:=E5 hl3.below;have s0:=hl3.s0;have s1:=hl3.s1;clear hl3 hn hd hn2 hd2 ha hb;have e0:=aa s0 0;have e1:=aa s0 1;have e2:=aa s0 2;have e3:=aa s0 3;have g0:=aa s1 0;have g1:=aa s1 1;have g2:=aa s1 2;have g3:=aa s1 3;have hBd:Below w1.heap.size w1 w1.drew:=(Below.refl _ _).drew;refine aq (fun w'=>∃ x:aC w1.drew.heap.size w1.drew,w'=x.w) (fun j=>j == 4||j == 9||j == 10) (by kernel_rfl) (by kernel_rfl) ⟨⟨_,Below.refl _ _⟩,rfl⟩ ?_;have l0:w.heap.size<w1.drew.heap.size:=Fe (ag s0) hBd.size;have l1:w.heap.size+1<w1.drew.heap.size:=Fe (ag s1) hBd.size;have e0:=af hBd (ag s0) e0;have e1:=af hBd (ag s0) e1;have e2:=af hBd (ag s0) e2;have e3:=af hBd (ag s0) e3;have g0:=af hBd (ag s1) g0;have g1:=af hBd (ag s1) g1;have g2:=af hBd (ag s1) g2;have g3:=af hBd (ag s1) g3;have HN:=E5 (HN.out.below hBd);have HD:=E5 (HD.out.below hBd);have HN2:=E5 (HN2.out.below hBd);have HD2:=E5 (HD2.out.below hBd);have M1:=E5 (M1.out.trans (hBd.mono M1.out.size));clear hBd s0 s1;generalize w1.drew=wd at *
 have hB0:Below wd.heap.size wd wd:=Below.refl _ _;have d0:=fun x:aC wd.heap.size wd=>af x.h l0 e0;have d1:=fun x:aC wd.heap.size wd=>af x.h l0 e1;have d2:=fun x:aC wd.heap.size wd=>af x.h l0 e2;have d3:=fun x:aC wd.heap.size wd=>af x.h l0 e3;have b0:=fun x:aC wd.heap.size wd=>af x.h l1 g0;have b1:=fun x:aC wd.heap.size wd=>af x.h l1 g1;have b2:=fun x:aC wd.heap.size wd=>af x.h l1 g2;have b3:=fun x:aC wd.heap.size wd=>af x.h l1 g3;clear e0 e1 e2 e3 g0 g1 g2 g3;refine ah 4 0 _ _ _ (by kernel_rfl) ?_;simp only[Fc,Fg,Fd,Ff];repeat (go_big_quiet_step (fail))
 refine wpQuiet_nil ?_;refine aj rfl rfl (fun K hK=>?_);go_simp;refine (fv _ _ _ _ wd HN.out HD2.out (cT f1.out) (cT f4.out)).mono ?_;rintro e w2 ⟨v2,rfl,hz2,hb2⟩;obtain⟨z1,Z1,z2,rfl,-⟩:=hz2.parts;refine hK _ _ ⟨⟨_,hb2⟩,rfl⟩ ?_;clear hK K;try simp only[Act.put,E9,E8,E7,E6,Fa,E_]
 refine ah 4 5 _ _ _ (by kernel_rfl) ?_;simp only[Fc,Fg,Fd,Ff];repeat (go_big_quiet_step (fail))
 refine wpQuiet_nil ?_;refine aj rfl rfl (fun K hK=>?_);go_simp;refine (fv _ _ _ _ w2 (HN2.out.below hb2) (HD.out.below hb2) (cT f3.out) (cT f2.out)).mono ?_;rintro e w3 ⟨v3,rfl,hz3,hb3⟩;have hB3:=hb2.trans (hb3.mono hb2.size);obtain⟨y1,Y1,y2,rfl,-⟩:=hz3.parts;refine hK _ _ ⟨⟨_,hB3⟩,rfl⟩ ?_;clear hK K;try simp only[Act.put,E9,E8,E7,E6,Fa,E_]
 refine aj rfl rfl (fun K hK=>?_);go_simp;refine (le _ _ _ _ w3 (hz2.below hb3) hz3 (cT f5.out) (cT f7.out)).mono ?_;rintro e w4 ⟨rfl,hb4⟩;rw[Ey];have hB4:=hB3.trans (hb4.mono hB3.size);refine hK _ _ ⟨⟨_,hB4⟩,rfl⟩ ?_;clear hK K;try simp only[Act.put,E9,E8,E7,E6,Fa,E_]
 refine ah 1 11 _ _ _ (by kernel_rfl) ?_;simp only[Fc,Fg,Fd,Ff];repeat (go_big_quiet_step (fail))
 refine wpQuiet_nil ?_;refine aB ?_;clear d0 d1 d2 d3 b0 b1 b2 b3;go_wp2;refine bodyPost_ret (v:=.int .i64 (gL a b)) (by simp[results,Tryz.results141,go_sem]) rfl ⟨rfl,M1.out.trans (hB4.mono M1.out.size)⟩
theorem A9 (va:Value) (a:Rat) (k:Nat) (w:World) (ha:cV w va a) (h0:a≠0) (hk:Sz k (rt a)) (hkl:k≤390000) :
  Calls Tryz.prog 93 #[va] w fun e w'=>∃ v,e=.returned v∧cV w' v (a⁻¹)∧Below w.heap.size w w':=by
 obtain⟨m,p,N,c,p',N',c',rfl,hn,hd⟩:=ha.open;have hl3:=nC w (.cells #[.bool m,.slice p N c,.bool false,.slice p' N' c'] 78) (.cells #[.bool false,.slice none 0 0,.bool false,.slice none 0 0] 78);have an:a.num.natAbs<10 ^ k:=hk.n;have ad:a.den<10 ^ k:=hk.d;have f1:=E5 (cf an (by omega));have f2:=E5 (show bf (a.den:Int).natAbs from cf ad (by omega))
 have hne:a.num≠0:=fun e=>h0 (by
  have e1:=fp a;rw[e] at e1;rw[←e1]
  show ((0:Int):Rat) / _=0
  rw[show ((0:Int):Rat)=0 from rfl]
  grind)
 have HE:=E5 (show (((a.den:Int):Int):Rat) / (a.num:Rat)=a⁻¹ from by
  have e1:=fp a;have n1:=fW a.den_pos;have n2:(a.num:Rat)≠0:=fun e=>hne (Rat.intCast_inj.1 e)
  show (a.den:Rat) / (a.num:Rat)=a⁻¹
  generalize (a.den:Rat)=x at *
  generalize (a.num:Rat)=s at *
  rw[←e1]
  grind)
 clear an ad h0;go_enter Tryz.func93,Tryz.ntmps93;go_upto_region 1 with fail
 generalize (w.alloc (.cells #[.bool m,.slice p N c,.bool false,.slice p' N' c'] 78)).alloc (.cells #[.bool false,.slice none 0 0,.bool false,.slice none 0 0] 78)=w1 at *
 have HN:=E5 (hn.below hl3.below);have HD:=E5 (hd.below hl3.below);have M1:=E5 hl3.below;have e0:=aa hl3.s0 0;have e1:=aa hl3.s0 1;have e2:=aa hl3.s0 2;have e3:=aa hl3.s0 3;have s1:=hl3.s1;clear hl3 hn hd ha;go_wp2_with fail
 refine (nV _ _ _ _ w1 HD.out HN.out hne f2.out f1.out).mono ?_;rintro e w6 ⟨v6,rfl,hv6,hb6⟩;rw[HE.out] at hv6;have hv6:cV w6 v6 (a⁻¹):=hv6;obtain⟨mo,po,No,co,po',No',co',rfl,ho,ho'⟩:=hv6.open;have u2:=(hb6.block _ (ag s1)).trans s1;have hP:=aY (u0:=.bool mo) (u1:=.slice po No co) (u2:=.bool false) (u3:=.slice po' No' co') u2;have hZ:=E5 (dq.puts hv6 hP u2 bF);have hBF:=E5 ((M1.out.trans (hb6.mono M1.out.size)).trans (hP.below w.heap.size (by omega)));have q0:=aa u2 0;have q1:=aa u2 1;have q2:=aa u2 2;have q3:=aa u2 3;have f0:=frozen_of_row w6 (w.heap.size+1) 0 _ _ u2;have f1:=frozen_of_row w6 (w.heap.size+1) 1 _ _ u2;have f2:=frozen_of_row w6 (w.heap.size+1) 2 _ _ u2;have f3:=frozen_of_row w6 (w.heap.size+1) 3 _ _ u2;clear hv6 ho ho' hb6 s1 e0 e1 e2 e3;go_wp2_with fail
 (try simp only[Exit.inBlock,Exit.then])
 change bodyPost _ _ _ _ _ (dX w6 (w.heap.size+1) (.bool mo) (.slice po No co) (.bool false) (.slice po' No' co'));refine bodyPost_ret (results_cell_row rfl _ _ (w.heap.size+1) _ _ (0,0) _ rfl hP.row Tryz.underlying78 rfl (by kernel_rfl)) rfl ?_;exact⟨_,rfl,hZ.out,hBF.out⟩
end Go.Proofs.YtbnkpcfjechfiaaGreatDoor
