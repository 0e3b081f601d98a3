/- L -/
import Derived.Test.YtmakbmhlemhgeaaGreatDoorWNQ
import Derived.Test.YtmakbmhlemhgeaaGreatDoorWNC8
import Derived.Test.YtmakbmhlemhgeaaGreatDoorWRQ6
import Derived.Test.YtmakbmhlemhgeaaGreatDoorWB
set_option linter.all false
set_option maxRecDepth 100000
set_option maxHeartbeats 8000000
namespace Go.Proofs.YtmakbmhlemhgeaaGreatDoor
open Go.RowKit Dg
theorem ur {m:Bool}{N D:Nat} (hD:0<D) (hm:N=0->m=false):dF m N D=⟨decide (sgn m (N / Nat.gcd N D)<0),N / Nat.gcd N D,D / Nat.gcd N D⟩:=by
 unfold dF;rw[sh];by_cases h:N=0
 ·rw[if_pos h,hm h,h,I1,Nat.zero_div,Nat.div_self hD];rfl
 ·rw[if_neg h];have hg:0<N / Nat.gcd N D:=JZ (Jp (by omega) (JF ..)) (Is _ hD);rw[decide_eq_true hg,Bool.and_true]
theorem CL {n:Int}{D:Nat} (hD:0<D):rt ((n:Rat) / ((D:Nat):Rat))=dF (decide (n<0)) n.natAbs D:=by
 rw[lO _ _ _ hD];congr 1;rw[Rat.mkRat_eq_div]
 have e:sgz (decide (n<0)) n.natAbs=n:=by
  unfold sgz;by_cases h:n<0
  ·rw[decide_eq_true h,if_pos rfl];omega
  ·rw[decide_eq_false h,if_neg (by decide)];omega
 rw[e]
theorem oT (va vb:Value) (n d:Int) (w:World) (ha:IsZ w va n) (hb:IsZ w vb d) (hd0:d≠0) (hfn:bC n.natAbs) (hfd:bC d.natAbs) :
  Calls Tryz.prog 144 #[va,vb] w fun e w'=>∃ v,e=.returned v/\bV w' v (rt ((n:Rat) / (d:Rat)))/\Below w.heap.size w w':=by
 obtain⟨p,N,c,rfl,hN,hNc,hcm,hd⟩:=ha.parts;obtain⟨p',N',c',rfl,hN',hNc',hcm',hd'⟩:=hb.parts;obtain⟨mn,hmn⟩:∃ m,m=decide (n<0):=⟨_,rfl⟩;obtain⟨md,hmd⟩:∃ m,m=decide (d<0):=⟨_,rfl⟩;rw[<-hmn] at ha;rw[<-hmd] at hb;rw[<-hmn,<-hmd];have HMN:=GF hmn;have HMD:=GF hmd;clear hmn hmd;have hl:=j1 w (.cells #[.bool mn,.slice p N c] 85) (.cells #[.bool md,.slice p' N' c'] 85) (.cells #[.bool false,.slice none 0 0,.bool false,.slice none 0 0] 87);have hgp:0<Nat.gcd n.natAbs d.natAbs:=Is _ (by omega);have HFG:Hid (bC (Nat.gcd n.natAbs d.natAbs)):=hfd.mono (Jp (by omega) (J5 ..));have HGP:=GF hgp;have HFN:=GF hfn;have HFD:=GF hfd;have HBI:=GF hl.below;have r0:=hl.s0;have r1:=hl.s1;have r2:=hl.s2;have HD:=GF (hd.below hl.below);have HE:=GF (hd'.below hl.below);have HZN:=GF (ha.below hl.below);have HZD:=GF (hb.below hl.below);have hsz0:=GF hl.size;clear ha hb hd hd' hfn hfd hgp hl;go_enter Tryz.func144,Tryz.ntmps144;go_upto_region 1 with fail
 generalize ((w.alloc (.cells #[.bool mn,.slice p N c] 85)).alloc (.cells #[.bool md,.slice p' N' c'] 85)).alloc (.cells #[.bool false,.slice none 0 0,.bool false,.slice none 0 0] 87)=w1 at *
 by_cases hneg:d<0
 ·obtain rfl:md=true:=by rw[HMD.out];exact decide_eq_true hneg
  have y0:=ai r1 0;go_upto_region 2 with fail
  have hbd:Below w1.heap.size w1 w1.drew:=(Ki _ _).drew;refine wp_mono (aD (Q:=aX _) (fun wx:World=>wx.heap[w.heap.size+1]?=some (.cells #[.bool true,.slice p' N' c'] 85 (0,0))) (fun t=>t == 5) (by kernel_rfl) ?_) (fun _ _ _ h=>bf h);have r0:=(hbd.block _ (ak r0)).trans r0;have r1:=(hbd.block _ (ak r1)).trans r1;have r2:=(hbd.block _ (ak r2)).trans r2;have HZN:=GF (HZN.out.below hbd);have HZD:=GF (HZD.out.below hbd);have HBI:=GF (HBI.out.trans (hbd.mono HBI.out.size));clear hbd HD HE y0;generalize w1.drew=wd at *
  refine aE (i:=2) (v:=?vv2) rfl (by kernel_rfl) (fun _ _ _ h=>h) rfl r1 ?hy2 ?rest2
  case hy2 =>
   intro wy hy;have q0:=ai hy 0;have q1:=ai hy 1;clear hy;go_simp;try with_reducible rfl
  try simp only[Act.put,GJ,GI,GH,GG,GL,GK]
  have q0:=ai r0 0;have q1:=ai r0 1;refine aA (i:=0) rfl (by kernel_rfl) rfl (fun K hK=>?_);go_simp;refine hK _ _ (fun _ _=>r1) ?_;clear hK K q0 q1;try simp only[Act.put,GJ,GI,GH,GG,GL,GK]
  refine aA (i:=1) rfl (by kernel_rfl) rfl (fun K hK=>?_);go_simp;refine (ji _ n wd HZN.out).mono ?_;rintro e w2 ⟨v2,rfl,hz2,hb2⟩;refine hK _ _ (fun _ _=>(hb2.block _ (ak r1)).trans r1) ?_;clear hK K;try simp only[Act.put,GJ,GI,GH,GG,GL,GK]
  refine aA (i:=3) rfl (by kernel_rfl) rfl (fun K hK=>?_);go_simp;refine (ji _ d w2 (HZD.out.below hb2)).mono ?_;rintro e w3 ⟨v3,rfl,hz3,hb3⟩;have hb23:=hb2.trans (hb3.mono hb2.size);refine hK _ _ (fun _ _=>(hb23.block _ (ak r1)).trans r1) ?_;clear hK K;try simp only[Act.put,GJ,GI,GH,GG,GL,GK]
  have r0:=(hb23.block _ (ak r0)).trans r0;have r1:=(hb23.block _ (ak r1)).trans r1;have r2:=(hb23.block _ (ak r2)).trans r2;have hz2:=hz2.below hb3;have HBI:=GF (HBI.out.trans (hb23.mono HBI.out.size));clear HZN HZD hb2 hb3 hb23;obtain⟨n2,hn2⟩:∃ x,x=-n:=⟨_,rfl⟩;obtain⟨D,hD⟩:∃ D:Nat,-d=D:=⟨(-d).toNat,by omega⟩;rw[<-hn2] at hz2;rw[hD] at hz3;have ea:n.natAbs=n2.natAbs:=by rw[hn2,Jg]
  have ed:d.natAbs=D:=by omega
  have HFN:=GF (show bC n2.natAbs by rw[<-ea];exact HFN.out);have HFD:=GF (show bC (D:Int).natAbs by rw[Hs,<-ed];exact HFD.out);have HFG:=GF (show bC (Nat.gcd n2.natAbs (D:Int).natAbs) by rw[Hs,<-ed,<-ea];exact HFG.out);have HGP:=GF (show 0<Nat.gcd n2.natAbs (D:Int).natAbs by rw[Hs,<-ed,<-ea];exact HGP.out)
  have eq:(n:Rat) / (d:Rat)=(n2:Rat) / (((D:Nat):Int):Rat):=by
   rw[hn2,<-hD,Rat.intCast_neg,Rat.intCast_neg];have:(d:Rat)≠0:=fun e=>hd0 (Rat.intCast_inj.1 e);grind
  obtain⟨pa,Na,ca,rfl,hNa,hNca,hcma,hda⟩:=hz2.parts;obtain⟨pb,Nb,cb,rfl,hNb,hNcb,hcmb,hdb⟩:=hz3.nat;obtain⟨m2,hm2⟩:∃ m,m=decide (n2<0):=⟨_,rfl⟩;rw[<-hm2] at hz2 |-
  have HR:Hid (rt ((n:Rat) / (d:Rat))=⟨decide (sgn m2 (n2.natAbs / Nat.gcd n2.natAbs (D:Int).natAbs)<0),n2.natAbs / Nat.gcd n2.natAbs (D:Int).natAbs,(D:Int).natAbs / Nat.gcd n2.natAbs (D:Int).natAbs⟩):=by
   have h:=ur (m:=m2) (N:=n2.natAbs) (D:=D) (by omega) (fun h=>by rw[hm2];exact decide_eq_false (by omega));rw[hm2,<-CL (by omega)] at h;rw[hm2,eq,Hs];exact h
  have P1:=cL (u0:=.bool m2) (u1:=.slice pa Na ca) r0;have P2:=cL (u0:=.bool false) (u1:=.slice pb Nb cb) ((P1.other _ (by omega)).trans r1);have k0:=ai r0 0;have k1:=ai r0 1;have k2:=ai ((P1.other (w.heap.size+1) (by omega)).trans r1) 0;have k3:=ai ((P1.other (w.heap.size+1) (by omega)).trans r1) 1;have f0:=Kg w3 w.heap.size 0 _ _ r0;have f1:=Kg w3 w.heap.size 1 _ _ r0;have f2:=Kg _ (w.heap.size+1) 0 _ _ ((P1.other (w.heap.size+1) (by omega)).trans r1);have f3:=Kg _ (w.heap.size+1) 1 _ _ ((P1.other (w.heap.size+1) (by omega)).trans r1);have r0':=(P2.other _ (by omega)).trans P1.row;have r1':=P2.row;have r2':=((P2.other _ (by omega)).trans (P1.other _ (by omega))).trans r2;have hmid:=(P1.other (w.heap.size+1) (by omega)).trans r1;have HMID:=GF hmid;have HD:=GF (P2.isI hmid dZ (P1.isI r0 dZ hda));have HE:=GF (P2.isI hmid dZ (P1.isI r0 dZ hdb));have HZN:=GF ((hz2.puts P1 r0 dZ).puts P2 hmid dZ);have HZD:=GF ((hz3.puts P1 r0 dZ).puts P2 hmid dZ);have HBI:=GF ((HBI.out.trans (P1.below w.heap.size (GM _))).trans (P2.below w.heap.size (Ho _)));clear hz2 hz3 hda hdb hm2 eq ea ed hD hn2 hneg hd0 P1 P2 r0 r1 r2 hmid;refine aA (i:=4) rfl (by kernel_rfl) rfl (fun K hK=>?_);go_simp;change K _ (gD w3 w.heap.size (.bool m2) (.slice pa Na ca));refine hK _ _ (fun _ _=>HMID.out) ?_;clear hK K;try simp only[Act.put,GJ,GI,GH,GG,GL,GK]
  refine aA (i:=5) rfl (by kernel_rfl) rfl (fun K hK=>?_);go_simp;change K _ (gD (gD w3 w.heap.size (.bool m2) (.slice pa Na ca)) (w.heap.size+1) (.bool false) (.slice pb Nb cb));refine hK _ _ (fun h=>by cases h) ?_;clear hK K k0 k1 k2 k3 f0 f1 f2 f3;try simp only[Act.put,GJ,GI,GH,GG,GL,GK]
  refine aK (by kernel_rfl) ?_ _;simp only[aX];generalize gD (gD w3 w.heap.size (.bool m2) (.slice pa Na ca)) (w.heap.size+1) (.bool false) (.slice pb Nb cb)=wi at *
  have r0:=r0';have r1:=r1';have r2:=r2';clear r0' r1' r2';have x0:=ai r0 0;have x1:=ai r0 1;have y0:=ai r1 0;have y1:=ai r1 1;go_wp2_with fail
  refine (pF _ _ n2 ((D:Nat):Int) wi HZN.out HZD.out HFN.out HFD.out).mono ?_;rintro e w2 ⟨v2,rfl,hz2,hb2⟩;obtain⟨p2,N2,c2,rfl,hN2,hNc2,hcm2,hd2⟩:=hz2.nat;have hl2:=bA w2 (.cells #[.bool false,.slice p2 N2 c2] 85);have hb3:=hb2.trans (hl2.below.mono hb2.size);have HB3:=HBI.out.trans (hb3.mono HBI.out.size);have r0:=(hb3.block _ (ak r0)).trans r0;have r1:=(hb3.block _ (ak r1)).trans r1;have r2:=(hb3.block _ (ak r2)).trans r2;have r3:=hl2.s0;have hsz:=GF hl2.size;have HG:=GF (hd2.below hl2.below);have HD3:=GF (HD.out.below hb3);have HE3:=GF (HE.out.below hb3);clear hl2 hb2 hb3 hz2 hd2 x0 x1 y0 y1 HD HE HZN HZD;have a0:=ai r0 1;have a1:=ai r3 1;go_upto_region 5 with fail
  generalize w2.alloc (.cells #[.bool false,.slice p2 N2 c2] 85)=w3 at *
  go_wp2_with fail
  refine (eV _ _ _ _ w3 HD3.out HG.out HGP.out HFN.out HFG.out).mono ?_;rintro e w4 ⟨v4,v4',rfl,hq,_,hb4⟩;have hlt3:w2.heap.size<w3.heap.size:=by have:=hsz.out;omega
  have s1:=(hb4.block _ (ak r1)).trans r1;have s2:=(hb4.block _ (ak r2)).trans r2;have s3:=(hb4.block _ (ak r3)).trans r3;have s0:=(hb4.block _ (ak r0)).trans r0;have HG4:=GF (HG.out.below hb4);have HE4:=GF (HE3.out.below hb4);have HQ4:=GF hq;have HB4:=HB3.trans (hb4.mono HB3.size);clear r0 r1 r2 r3 a0 a1 HB3 hb4 HD3 HE3 HG hq;have a1:=ai s1 1;have a3:=ai s3 1;have a0:=ai s0 0;go_wp2_with fail
  refine (eV _ _ _ _ w4 HE4.out HG4.out HGP.out HFD.out HFG.out).mono ?_;rintro e w5 ⟨v5,v5',rfl,hq5,_,hb5⟩;have s0':=(hb5.block _ (ak s0)).trans s0;have s2':=(hb5.block _ (ak s2)).trans s2;have HQ5:=GF (HQ4.out.below hb5);have HP5:=GF hq5;have HB5:=HB4.trans (hb5.mono HB4.size);clear s0 s1 s2 s3 a0 a1 a3 HB4 hb5 HQ4 HG4 HE4 hq5;have a0:=ai s0' 0;go_wp2_with fail
  refine (dO _ _ _ w5 HQ5.out (aW _).1).mono ?_;rintro e w6 ⟨v6,rfl,hz6,hb6⟩;rw[aF aQ] at hz6;obtain⟨p6,N6,c6,rfl,hN6,hNc6,hcm6,hd6⟩:=hz6.parts;rw[iu] at hd6;have HP6:=GF (HP5.out.below hb6);have t2:=(hb6.block _ (ak s2')).trans s2';have HB6:=HB5.trans (hb6.mono HB5.size);have HD6:=GF hd6;clear a0 s0' s2' HP5 HQ5 HB5 hb6 hz6 hd6;generalize hsg:decide (sgn m2 _<0)=m6 at *
  have HSG:=GF hsg;clear hsg;go_wp2_with fail
  refine (dO _ _ _ w6 HP6.out (aW _).1).mono ?_;rintro e w7 ⟨v7,rfl,hz7,hb7⟩;rw[aF aQ] at hz7;obtain⟨p7,N7,c7,rfl,hN7,hNc7,hcm7,hd7⟩:=hz7.nat;have u2:=(hb7.block _ (ak t2)).trans t2;have HB7:=HB6.trans (hb7.mono HB6.size);have hP:=bj (u0:=.bool m6) (u1:=.slice p6 N6 c6) (u2:=.bool false) (u3:=.slice p7 N7 c7) u2
  have hZ:Hid (bV (d7 w7 (w.heap.size+1+1) (.bool m6) (.slice p6 N6 c6) (.bool false) (.slice p7 N7 c7)) (.agg #[.bool m6,.slice p6 N6 c6,.bool false,.slice p7 N7 c7]) (rt ((n:Rat) / (d:Rat)))):=by
   rw[HR.out];exact⟨_,_,rfl,hP.isI u2 bU (HD6.out.below hb7),hP.isI u2 bU hd7⟩
  have hB:=HB7.trans (hP.below w.heap.size (by omega));have q0:=ai u2 0;have q1:=ai u2 1;have q2:=ai u2 2;have q3:=ai u2 3;have f0:=Kg w7 (w.heap.size+1+1) 0 _ _ u2;have f1:=Kg w7 (w.heap.size+1+1) 1 _ _ u2;have f2:=Kg w7 (w.heap.size+1+1) 2 _ _ u2;have f3:=Kg w7 (w.heap.size+1+1) 3 _ _ u2;clear t2 HP6 HB6 hb7 hz7 hd7 HD6;go_wp2_with fail
  (try simp only[Exit.inBlock,Exit.then])
  change bodyPost _ _ _ _ _ (d7 w7 (w.heap.size+1+1) (.bool m6) (.slice p6 N6 c6) (.bool false) (.slice p7 N7 c7));refine Kh (results_cell_row rfl _ _ (w.heap.size+1+1) _ _ (0,0) _ rfl hP.row Tryz.underlying87 rfl (by kernel_rfl)) rfl ?_;exact⟨_,rfl,hZ.out,hB⟩
 ·obtain⟨D,rfl⟩:∃ D:Nat,d=D:=⟨d.toNat,by omega⟩;obtain rfl:md=false:=by rw[HMD.out];exact decide_eq_false hneg
  have HR:Hid (rt ((n:Rat) / ((D:Int):Rat))=⟨decide (sgn mn (n.natAbs / Nat.gcd n.natAbs (D:Int).natAbs)<0),n.natAbs / Nat.gcd n.natAbs (D:Int).natAbs,(D:Int).natAbs / Nat.gcd n.natAbs (D:Int).natAbs⟩):=by
   have h:=ur (m:=mn) (N:=n.natAbs) (D:=D) (by omega) (fun h=>by rw[HMN.out];exact decide_eq_false (by omega));rw[HMN.out,<-CL (by omega)] at h;rw[HMN.out,Hs];exact h
  clear hneg hd0;have x0:=ai r0 0;have x1:=ai r0 1;have y0:=ai r1 0;have y1:=ai r1 1;go_wp2_with fail
  refine (pF _ _ n ((D:Nat):Int) w1 HZN.out HZD.out HFN.out HFD.out).mono ?_;rintro e w2 ⟨v2,rfl,hz2,hb2⟩;obtain⟨p2,N2,c2,rfl,hN2,hNc2,hcm2,hd2⟩:=hz2.nat;have hl2:=bA w2 (.cells #[.bool false,.slice p2 N2 c2] 85);have hb3:=hb2.trans (hl2.below.mono hb2.size);have HB3:=HBI.out.trans (hb3.mono HBI.out.size);have r0:=(hb3.block _ (ak r0)).trans r0;have r1:=(hb3.block _ (ak r1)).trans r1;have r2:=(hb3.block _ (ak r2)).trans r2;have r3:=hl2.s0;have hsz:=GF hl2.size;have HG:=GF (hd2.below hl2.below);have HD3:=GF (HD.out.below hb3);have HE3:=GF (HE.out.below hb3);clear hl2 hb2 hb3 hz2 hd2 x0 x1 y0 y1 HD HE HZN HZD;have a0:=ai r0 1;have a1:=ai r3 1;go_upto_region 5 with fail
  generalize w2.alloc (.cells #[.bool false,.slice p2 N2 c2] 85)=w3 at *
  go_wp2_with fail
  refine (eV _ _ _ _ w3 HD3.out HG.out HGP.out HFN.out HFG.out).mono ?_;rintro e w4 ⟨v4,v4',rfl,hq,_,hb4⟩;have hlt3:w2.heap.size<w3.heap.size:=by have:=hsz.out;omega
  have s1:=(hb4.block _ (ak r1)).trans r1;have s2:=(hb4.block _ (ak r2)).trans r2;have s3:=(hb4.block _ (ak r3)).trans r3;have s0:=(hb4.block _ (ak r0)).trans r0;have HG4:=GF (HG.out.below hb4);have HE4:=GF (HE3.out.below hb4);have HQ4:=GF hq;have HB4:=HB3.trans (hb4.mono HB3.size);clear r0 r1 r2 r3 a0 a1 HB3 hb4 HD3 HE3 HG hq;have a1:=ai s1 1;have a3:=ai s3 1;have a0:=ai s0 0;go_wp2_with fail
  refine (eV _ _ _ _ w4 HE4.out HG4.out HGP.out HFD.out HFG.out).mono ?_;rintro e w5 ⟨v5,v5',rfl,hq5,_,hb5⟩;have s0':=(hb5.block _ (ak s0)).trans s0;have s2':=(hb5.block _ (ak s2)).trans s2;have HQ5:=GF (HQ4.out.below hb5);have HP5:=GF hq5;have HB5:=HB4.trans (hb5.mono HB4.size);clear s0 s1 s2 s3 a0 a1 a3 HB4 hb5 HQ4 HG4 HE4 hq5;have a0:=ai s0' 0;go_wp2_with fail
  refine (dO _ _ _ w5 HQ5.out (aW _).1).mono ?_;rintro e w6 ⟨v6,rfl,hz6,hb6⟩;rw[aF aQ] at hz6;obtain⟨p6,N6,c6,rfl,hN6,hNc6,hcm6,hd6⟩:=hz6.parts;rw[iu] at hd6;have HP6:=GF (HP5.out.below hb6);have t2:=(hb6.block _ (ak s2')).trans s2';have HB6:=HB5.trans (hb6.mono HB5.size);have HD6:=GF hd6;clear a0 s0' s2' HP5 HQ5 HB5 hb6 hz6 hd6;generalize hsg:decide (sgn mn _<0)=m6 at *
  have HSG:=GF hsg;clear hsg;go_wp2_with fail
  refine (dO _ _ _ w6 HP6.out (aW _).1).mono ?_;rintro e w7 ⟨v7,rfl,hz7,hb7⟩;rw[aF aQ] at hz7;obtain⟨p7,N7,c7,rfl,hN7,hNc7,hcm7,hd7⟩:=hz7.nat;have u2:=(hb7.block _ (ak t2)).trans t2;have HB7:=HB6.trans (hb7.mono HB6.size);have hP:=bj (u0:=.bool m6) (u1:=.slice p6 N6 c6) (u2:=.bool false) (u3:=.slice p7 N7 c7) u2
  have hZ:Hid (bV (d7 w7 (w.heap.size+1+1) (.bool m6) (.slice p6 N6 c6) (.bool false) (.slice p7 N7 c7)) (.agg #[.bool m6,.slice p6 N6 c6,.bool false,.slice p7 N7 c7]) (rt ((n:Rat) / (((D:Nat):Int):Rat)))):=by
   rw[HR.out];exact⟨_,_,rfl,hP.isI u2 bU (HD6.out.below hb7),hP.isI u2 bU hd7⟩
  have hB:=HB7.trans (hP.below w.heap.size (by omega));have q0:=ai u2 0;have q1:=ai u2 1;have q2:=ai u2 2;have q3:=ai u2 3;have f0:=Kg w7 (w.heap.size+1+1) 0 _ _ u2;have f1:=Kg w7 (w.heap.size+1+1) 1 _ _ u2;have f2:=Kg w7 (w.heap.size+1+1) 2 _ _ u2;have f3:=Kg w7 (w.heap.size+1+1) 3 _ _ u2;clear t2 HP6 HB6 hb7 hz7 hd7 HD6;go_wp2_with fail
  (try simp only[Exit.inBlock,Exit.then])
  change bodyPost _ _ _ _ _ (d7 w7 (w.heap.size+1+1) (.bool m6) (.slice p6 N6 c6) (.bool false) (.slice p7 N7 c7));refine Kh (results_cell_row rfl _ _ (w.heap.size+1+1) _ _ (0,0) _ rfl hP.row Tryz.underlying87 rfl (by kernel_rfl)) rfl ?_;exact⟨_,rfl,hZ.out,hB⟩
theorem dN {n k:Nat} (h:n<10 ^ k) (hk:k<=390000):bC n:=by
 unfold bC;refine Hf (a_ (k:=k / 4+1) aQ (GN h ?_)) (by omega);have e:RR ^ (k / 4+1)=10 ^ (4*(k / 4+1)):=by rw[Ip];rfl
 rw[e];exact G1 (by decide) (by omega)
def cW (w:World) (v:Value) (q:Rat):Prop:=bV w v (rt q)
theorem cW.below {w w':World}{v:Value}{q:Rat} (h:cW w v q) (hb:Below w.heap.size w w'):cW w' v q:=bV.below h hb
theorem eQ {n:Nat} (h:bC n):(av RR n).length<1000000:=GN h (by decide)
theorem cW.open {w:World}{v:Value}{q:Rat} (h:cW w v q):∃ m p N c p' N' c',v=.agg #[.bool m,.slice p N c,.bool false,.slice p' N' c']/\IsZ w (.agg #[.bool m,.slice p N c]) q.num/\IsZ w (.agg #[.bool false,.slice p' N' c']) (q.den:Int):=by
 obtain⟨p,N,c,p',N',c',e,-,-,-,-,-,-,h1,h2⟩:=h.parts;refine⟨_,p,N,c,p',N',c',e,⟨_,rfl,h1⟩,js h2⟩
theorem iQ (q:Rat):(q.num:Rat) / (q.den:Rat)=q:=by rw[<-Rat.mkRat_eq_div,Rat.mkRat_self]
theorem jU {D:Nat} (h:0<D):(D:Rat)≠0:=by
 intro e;have e2:((D:Int):Rat)=((0:Int):Rat):=e;have:=Rat.intCast_inj.1 e2;omega
theorem eG (va vb:Value) (a b:Rat) (k l:Nat) (w:World) (ha:cW w va a) (hb:cW w vb b) (hk:Sz k (rt a)) (hl:Sz l (rt b)) (hkl:k+l<=390000) :
  Calls Tryz.prog 91 #[va,vb] w fun e w'=>∃ v,e=.returned v/\cW w' v (a*b)/\Below w.heap.size w w':=by
 obtain⟨m,p,N,c,p',N',c',rfl,hn,hd⟩:=ha.open;obtain⟨m2,q,M,d,q',M',d',rfl,hn2,hd2⟩:=hb.open;have hl3:=j1 w (.cells #[.bool m,.slice p N c,.bool false,.slice p' N' c'] 87) (.cells #[.bool m2,.slice q M d,.bool false,.slice q' M' d'] 87) (.cells #[.bool false,.slice none 0 0,.bool false,.slice none 0 0] 87);have an:a.num.natAbs<10 ^ k:=hk.n;have ad:a.den<10 ^ k:=hk.d;have bn:b.num.natAbs<10 ^ l:=hl.n;have bd:b.den<10 ^ l:=hl.d;have f1:=GF (dN an (by omega));have f2:=GF (dN ad (by omega));have f3:=GF (dN bn (by omega));have f4:=GF (dN bd (by omega));have f5:=GF (show bC (a.num*b.num).natAbs by rw[ID];exact dN (dT an bn) hkl);have f6:=GF (show bC ((a.den:Int)*(b.den:Int)).natAbs by rw[ID];exact dN (dT ad bd) hkl);have ha0:=a.den_pos;have hb0:=b.den_pos;have hne:(a.den:Int)*(b.den:Int)≠0:=Int.mul_ne_zero (by omega) (by omega)
 have HE:=GF (show ((a.num*b.num:Int):Rat) / (((a.den:Int)*(b.den:Int):Int):Rat)=a*b from by
  have e1:=iQ a;have e2:=iQ b;have n1:=jU ha0;have n2:=jU hb0;rw[Rat.intCast_mul,Rat.intCast_mul]
  show ((a.num:Rat)*(b.num:Rat)) / ((a.den:Rat)*(b.den:Rat))=a*b
  generalize (a.den:Rat)=x at *
  generalize (b.den:Rat)=y at *
  generalize (a.num:Rat)=s at *
  generalize (b.num:Rat)=t at *
  rw[<-e1,<-e2]
  grind)
 clear an ad bn bd ha0 hb0;go_enter Tryz.func91,Tryz.ntmps91;go_upto_region 1 with fail
 generalize ((w.alloc (.cells #[.bool m,.slice p N c,.bool false,.slice p' N' c'] 87)).alloc (.cells #[.bool m2,.slice q M d,.bool false,.slice q' M' d'] 87)).alloc (.cells #[.bool false,.slice none 0 0,.bool false,.slice none 0 0] 87)=w1 at *
 refine aB (fun w'=>∃ x:aL (w.heap.size+1+1) w1.drew,w'=x.w) (fun j=>j == 4||j == 9||j == 10||j == 11) (by kernel_rfl) (by kernel_rfl) ⟨⟨_,Ki _ _⟩,rfl⟩ ?_;have hBd:Below w1.heap.size w1 w1.drew:=(Ki _ _).drew;have s0:=(hBd.block _ (ak hl3.s0)).trans hl3.s0;have s1:=(hBd.block _ (ak hl3.s1)).trans hl3.s1;have s2:=(hBd.block _ (ak hl3.s2)).trans hl3.s2;have M1:=GF (hl3.below.trans (hBd.mono hl3.below.size));have hBz:=hl3.below.trans (hBd.mono hl3.below.size);have HN:=GF (hn.below hBz);have HD:=GF (hd.below hBz);have HN2:=GF (hn2.below hBz);have HD2:=GF (hd2.below hBz);have HLT:=GF (ak s2);clear hl3 hBd hBz hn hd hn2 hd2 ha hb;generalize w1.drew=wd at *
 have hB0:Below (w.heap.size+1+1) wd wd:=Ki _ _;have e0:=ai s0 0;have e1:=ai s0 1;have e2:=ai s0 2;have e3:=ai s0 3;have g0:=ai s1 0;have g1:=ai s1 1;have g2:=ai s1 2;have g3:=ai s1 3;have d0:=fun x:aL (w.heap.size+1+1) wd=>(x.h.cell (p:=⟨w.heap.size,0,none⟩) (by show w.heap.size<_;omega)).trans e0;have d1:=fun x:aL (w.heap.size+1+1) wd=>(x.h.cell (p:=⟨w.heap.size,1,none⟩) (by show w.heap.size<_;omega)).trans e1;have d2:=fun x:aL (w.heap.size+1+1) wd=>(x.h.cell (p:=⟨w.heap.size,2,none⟩) (by show w.heap.size<_;omega)).trans e2;have d3:=fun x:aL (w.heap.size+1+1) wd=>(x.h.cell (p:=⟨w.heap.size,3,none⟩) (by show w.heap.size<_;omega)).trans e3;have b0:=fun x:aL (w.heap.size+1+1) wd=>(x.h.cell (p:=⟨w.heap.size+1,0,none⟩) (by show w.heap.size+1<_;omega)).trans g0;have b1:=fun x:aL (w.heap.size+1+1) wd=>(x.h.cell (p:=⟨w.heap.size+1,1,none⟩) (by show w.heap.size+1<_;omega)).trans g1;have b2:=fun x:aL (w.heap.size+1+1) wd=>(x.h.cell (p:=⟨w.heap.size+1,2,none⟩) (by show w.heap.size+1<_;omega)).trans g2;have b3:=fun x:aL (w.heap.size+1+1) wd=>(x.h.cell (p:=⟨w.heap.size+1,3,none⟩) (by show w.heap.size+1<_;omega)).trans g3;clear e0 e1 e2 e3 g0 g1 g2 g3 s0 s1;have hle:w.heap.size+1+1<=wd.heap.size:=Ha HLT.out;refine aq 4 0 _ _ _ (by kernel_rfl) ?_;simp only[GP,GS,GQ,GR];repeat (go_big_quiet_step (fail))
 refine wpQuiet_nil ?_;refine ar rfl rfl (fun K hK=>?_);go_simp;refine (jh _ _ _ _ wd HN.out HN2.out (eQ f1.out) (eQ f3.out)).mono ?_;rintro e w2 ⟨v2,rfl,hz2,hb2⟩;obtain⟨z1,Z1,z2,rfl,-⟩:=hz2.parts;refine hK _ _ ⟨⟨_,hb2.mono hle⟩,rfl⟩ ?_;clear hK K;try simp only[Act.put,GJ,GI,GH,GG,GL,GK]
 refine aq 4 5 _ _ _ (by kernel_rfl) ?_;simp only[GP,GS,GQ,GR];repeat (go_big_quiet_step (fail))
 refine wpQuiet_nil ?_;refine ar rfl rfl (fun K hK=>?_);go_simp;refine (jh _ _ _ _ w2 (HD.out.below hb2) (HD2.out.below hb2) (eQ f2.out) (eQ f4.out)).mono ?_;rintro e w3 ⟨v3,rfl,hz3,hb3⟩;have hB3:=hb2.trans (hb3.mono hb2.size);refine hK _ _ ⟨⟨_,hB3.mono hle⟩,rfl⟩ ?_;clear hK K;try simp only[Act.put,GJ,GI,GH,GG,GL,GK]
 refine ar rfl rfl (fun K hK=>?_);go_simp;refine (oT _ _ _ _ w3 (hz2.below hb3) hz3 hne f5.out f6.out).mono ?_;rintro e w4 ⟨v4,rfl,hv4,hb4⟩;have hB4:=hB3.trans (hb4.mono hB3.size);rw[HE.out] at hv4;refine hK _ _ ⟨⟨_,hB4.mono hle⟩,rfl⟩ ?_;clear hK K;try simp only[Act.put,GJ,GI,GH,GG,GL,GK]
 have hv4:cW w4 v4 (a*b):=hv4;clear hz2 hz3 hb2 hb3 hb4 hB3;obtain⟨mo,po,No,co,po',No',co',rfl,ho,ho'⟩:=hv4.open;have u2:=(hB4.block _ HLT.out).trans s2;have hP:=bj (u0:=.bool mo) (u1:=.slice po No co) (u2:=.bool false) (u3:=.slice po' No' co') u2;have hZ:=GF (bV.puts (hv4) hP u2 bU);have hBF:=GF ((M1.out.trans (hB4.mono (GV (Ho _) (GV (Ho _) hle)))).trans (hP.below w.heap.size (by omega)));have hBG:=(hB4.mono hle).trans (hP.below (w.heap.size+1+1) (GM _));have q0:=ai u2 0;have q1:=ai u2 1;have q2:=ai u2 2;have q3:=ai u2 3;have f0:=Kg w4 (w.heap.size+1+1) 0 _ _ u2;have f1:=Kg w4 (w.heap.size+1+1) 1 _ _ u2;have f2:=Kg w4 (w.heap.size+1+1) 2 _ _ u2;have f3:=Kg w4 (w.heap.size+1+1) 3 _ _ u2;refine ar rfl rfl (fun K hK=>?_);go_simp;change K _ (d7 w4 (w.heap.size+1+1) (.bool mo) (.slice po No co) (.bool false) (.slice po' No' co'));refine hK undef _ ⟨⟨_,hBG⟩,rfl⟩ ?_;clear hK K d0 d1 d2 d3 b0 b1 b2 b3 q0 q1 q2 q3 f0 f1 f2 f3 hBG;try simp only[Act.put,GJ,GI,GH,GG,GL,GK]
 refine aH ?_;go_wp2_with fail
 (try simp only[Exit.inBlock,Exit.then])
 refine Kh (results_cell_row rfl _ _ (w.heap.size+1+1) _ _ (0,0) _ rfl hP.row Tryz.underlying87 rfl (by kernel_rfl)) rfl ?_;exact⟨_,rfl,hZ.out,hBF.out⟩
theorem DB {x y:Int}{k:Nat} (h1:x.natAbs<10 ^ k) (h2:y.natAbs<10 ^ k):(x+y).natAbs<10 ^ (k+1):=by
 have:=G6 (n:=10) (m:=k);omega
theorem g_ (va vb:Value) (a b:Rat) (k l:Nat) (w:World) (ha:cW w va a) (hb:cW w vb b) (hk:Sz k (rt a)) (hl:Sz l (rt b)) (hkl:k+l+1<=390000) :
  Calls Tryz.prog 90 #[va,vb] w fun e w'=>∃ v,e=.returned v/\cW w' v (a+b)/\Below w.heap.size w w':=by
 obtain⟨m,p,N,c,p',N',c',rfl,hn,hd⟩:=ha.open;obtain⟨m2,q,M,d,q',M',d',rfl,hn2,hd2⟩:=hb.open;have hl3:=j1 w (.cells #[.bool m,.slice p N c,.bool false,.slice p' N' c'] 87) (.cells #[.bool m2,.slice q M d,.bool false,.slice q' M' d'] 87) (.cells #[.bool false,.slice none 0 0,.bool false,.slice none 0 0] 87);have an:a.num.natAbs<10 ^ k:=hk.n;have ad:a.den<10 ^ k:=hk.d;have bn:b.num.natAbs<10 ^ l:=hl.n;have bd:b.den<10 ^ l:=hl.d;have f1:=GF (dN an (by omega));have f2:=GF (dN ad (by omega));have f3:=GF (dN bn (by omega));have f4:=GF (dN bd (by omega));have h5:(a.num*(b.den:Int)).natAbs<10 ^ (k+l):=by rw[ID];exact dT an bd
 have h7:(b.num*(a.den:Int)).natAbs<10 ^ (k+l):=by rw[ID,JP k l];exact dT bn ad
 have f5:=GF (dN h5 (by omega));have f7:=GF (dN h7 (by omega));have f8:=GF (dN (DB h5 h7) hkl);have f6:=GF (show bC ((a.den:Int)*(b.den:Int)).natAbs by rw[ID];exact dN (dT ad bd) (by omega));have ha0:=a.den_pos;have hb0:=b.den_pos;have hne:(a.den:Int)*(b.den:Int)≠0:=Int.mul_ne_zero (by omega) (by omega)
 have HE:=GF (show ((a.num*(b.den:Int)+b.num*(a.den:Int):Int):Rat) / (((a.den:Int)*(b.den:Int):Int):Rat)=a+b from by
  have e1:=iQ a;have e2:=iQ b;have n1:=jU ha0;have n2:=jU hb0;rw[Rat.intCast_add,Rat.intCast_mul,Rat.intCast_mul,Rat.intCast_mul]
  show ((a.num:Rat)*(b.den:Rat)+(b.num:Rat)*(a.den:Rat)) / ((a.den:Rat)*(b.den:Rat))=a+b
  generalize (a.den:Rat)=x at *
  generalize (b.den:Rat)=y at *
  generalize (a.num:Rat)=s at *
  generalize (b.num:Rat)=t at *
  rw[<-e1,<-e2]
  grind)
 clear an ad bn bd ha0 hb0 h5 h7;go_enter Tryz.func90,Tryz.ntmps90;go_upto_region 1 with fail
 generalize ((w.alloc (.cells #[.bool m,.slice p N c,.bool false,.slice p' N' c'] 87)).alloc (.cells #[.bool m2,.slice q M d,.bool false,.slice q' M' d'] 87)).alloc (.cells #[.bool false,.slice none 0 0,.bool false,.slice none 0 0] 87)=w1 at *
 refine aB (fun w'=>∃ x:aL (w.heap.size+1+1) w1.drew,w'=x.w) (fun j=>j == 4||j == 9||j == 10||j == 15||j == 16||j == 17) (by kernel_rfl) (by kernel_rfl) ⟨⟨_,Ki _ _⟩,rfl⟩ ?_;have hBd:Below w1.heap.size w1 w1.drew:=(Ki _ _).drew;have s0:=(hBd.block _ (ak hl3.s0)).trans hl3.s0;have s1:=(hBd.block _ (ak hl3.s1)).trans hl3.s1;have s2:=(hBd.block _ (ak hl3.s2)).trans hl3.s2;have M1:=GF (hl3.below.trans (hBd.mono hl3.below.size));have hBz:=hl3.below.trans (hBd.mono hl3.below.size);have HN:=GF (hn.below hBz);have HD:=GF (hd.below hBz);have HN2:=GF (hn2.below hBz);have HD2:=GF (hd2.below hBz);have HLT:=GF (ak s2);clear hl3 hBd hBz hn hd hn2 hd2 ha hb;generalize w1.drew=wd at *
 have hB0:Below (w.heap.size+1+1) wd wd:=Ki _ _;have e0:=ai s0 0;have e1:=ai s0 1;have e2:=ai s0 2;have e3:=ai s0 3;have g0:=ai s1 0;have g1:=ai s1 1;have g2:=ai s1 2;have g3:=ai s1 3;have d0:=fun x:aL (w.heap.size+1+1) wd=>(x.h.cell (p:=⟨w.heap.size,0,none⟩) (by show w.heap.size<_;omega)).trans e0;have d1:=fun x:aL (w.heap.size+1+1) wd=>(x.h.cell (p:=⟨w.heap.size,1,none⟩) (by show w.heap.size<_;omega)).trans e1;have d2:=fun x:aL (w.heap.size+1+1) wd=>(x.h.cell (p:=⟨w.heap.size,2,none⟩) (by show w.heap.size<_;omega)).trans e2;have d3:=fun x:aL (w.heap.size+1+1) wd=>(x.h.cell (p:=⟨w.heap.size,3,none⟩) (by show w.heap.size<_;omega)).trans e3;have b0:=fun x:aL (w.heap.size+1+1) wd=>(x.h.cell (p:=⟨w.heap.size+1,0,none⟩) (by show w.heap.size+1<_;omega)).trans g0;have b1:=fun x:aL (w.heap.size+1+1) wd=>(x.h.cell (p:=⟨w.heap.size+1,1,none⟩) (by show w.heap.size+1<_;omega)).trans g1;have b2:=fun x:aL (w.heap.size+1+1) wd=>(x.h.cell (p:=⟨w.heap.size+1,2,none⟩) (by show w.heap.size+1<_;omega)).trans g2;have b3:=fun x:aL (w.heap.size+1+1) wd=>(x.h.cell (p:=⟨w.heap.size+1,3,none⟩) (by show w.heap.size+1<_;omega)).trans g3;clear e0 e1 e2 e3 g0 g1 g2 g3 s0 s1;have hle:w.heap.size+1+1<=wd.heap.size:=Ha HLT.out;refine aq 4 0 _ _ _ (by kernel_rfl) ?_;simp only[GP,GS,GQ,GR];repeat (go_big_quiet_step (fail))
 refine wpQuiet_nil ?_;refine ar rfl rfl (fun K hK=>?_);go_simp;refine (jh _ _ _ _ wd HN.out HD2.out (eQ f1.out) (eQ f4.out)).mono ?_;rintro e w2 ⟨v2,rfl,hz2,hb2⟩;obtain⟨z1,Z1,z2,rfl,-⟩:=hz2.parts;refine hK _ _ ⟨⟨_,hb2.mono hle⟩,rfl⟩ ?_;clear hK K;try simp only[Act.put,GJ,GI,GH,GG,GL,GK]
 refine aq 4 5 _ _ _ (by kernel_rfl) ?_;simp only[GP,GS,GQ,GR];repeat (go_big_quiet_step (fail))
 refine wpQuiet_nil ?_;refine ar rfl rfl (fun K hK=>?_);go_simp;refine (jh _ _ _ _ w2 (HN2.out.below hb2) (HD.out.below hb2) (eQ f3.out) (eQ f2.out)).mono ?_;rintro e w3 ⟨v3,rfl,hz3,hb3⟩;have hB3:=hb2.trans (hb3.mono hb2.size);obtain⟨y1,Y1,y2,rfl,-⟩:=hz3.parts;refine hK _ _ ⟨⟨_,hB3.mono hle⟩,rfl⟩ ?_;clear hK K;try simp only[Act.put,GJ,GI,GH,GG,GL,GK]
 refine ar rfl rfl (fun K hK=>?_);go_simp;refine (lU _ _ _ _ w3 (hz2.below hb3) hz3 (eQ f5.out) (eQ f7.out)).mono ?_;rintro e w4 ⟨v4,rfl,hz4,hb4⟩;have hB4:=hB3.trans (hb4.mono hB3.size);obtain⟨x1,X1,x2,rfl,-⟩:=hz4.parts;refine hK _ _ ⟨⟨_,hB4.mono hle⟩,rfl⟩ ?_;clear hK K;try simp only[Act.put,GJ,GI,GH,GG,GL,GK]
 refine aq 4 11 _ _ _ (by kernel_rfl) ?_;simp only[GP,GS,GQ,GR];repeat (go_big_quiet_step (fail))
 refine wpQuiet_nil ?_;refine ar rfl rfl (fun K hK=>?_);go_simp;refine (jh _ _ _ _ w4 (HD.out.below hB4) (HD2.out.below hB4) (eQ f2.out) (eQ f4.out)).mono ?_;rintro e w5 ⟨v5,rfl,hz5,hb5⟩;have hB5:=hB4.trans (hb5.mono hB4.size);obtain⟨t1,T1,t2,rfl,-⟩:=hz5.parts;refine hK _ _ ⟨⟨_,hB5.mono hle⟩,rfl⟩ ?_;clear hK K;try simp only[Act.put,GJ,GI,GH,GG,GL,GK]
 refine ar rfl rfl (fun K hK=>?_);go_simp;refine (oT _ _ _ _ w5 (hz4.below hb5) hz5 hne f8.out f6.out).mono ?_;rintro e w6 ⟨v6,rfl,hv6,hb6⟩;have hB6:=hB5.trans (hb6.mono hB5.size);rw[HE.out] at hv6;refine hK _ _ ⟨⟨_,hB6.mono hle⟩,rfl⟩ ?_;clear hK K;try simp only[Act.put,GJ,GI,GH,GG,GL,GK]
 have hv6:cW w6 v6 (a+b):=hv6;clear hz2 hz3 hz4 hz5 hb2 hb3 hb4 hb5 hb6 hB3 hB4 hB5;obtain⟨mo,po,No,co,po',No',co',rfl,ho,ho'⟩:=hv6.open;have u2:=(hB6.block _ HLT.out).trans s2;have hP:=bj (u0:=.bool mo) (u1:=.slice po No co) (u2:=.bool false) (u3:=.slice po' No' co') u2;have hZ:=GF (bV.puts (hv6) hP u2 bU);have hBF:=GF ((M1.out.trans (hB6.mono (GV (Ho _) (GV (Ho _) hle)))).trans (hP.below w.heap.size (by omega)));have hBG:=(hB6.mono hle).trans (hP.below (w.heap.size+1+1) (GM _));have q0:=ai u2 0;have q1:=ai u2 1;have q2:=ai u2 2;have q3:=ai u2 3;have f0:=Kg w6 (w.heap.size+1+1) 0 _ _ u2;have f1:=Kg w6 (w.heap.size+1+1) 1 _ _ u2;have f2:=Kg w6 (w.heap.size+1+1) 2 _ _ u2;have f3:=Kg w6 (w.heap.size+1+1) 3 _ _ u2;refine ar rfl rfl (fun K hK=>?_);go_simp;change K _ (d7 w6 (w.heap.size+1+1) (.bool mo) (.slice po No co) (.bool false) (.slice po' No' co'));refine hK undef _ ⟨⟨_,hBG⟩,rfl⟩ ?_;clear hK K d0 d1 d2 d3 b0 b1 b2 b3 q0 q1 q2 q3 f0 f1 f2 f3 hBG;try simp only[Act.put,GJ,GI,GH,GG,GL,GK]
 refine aH ?_;go_wp2_with fail
 (try simp only[Exit.inBlock,Exit.then])
 refine Kh (results_cell_row rfl _ _ (w.heap.size+1+1) _ _ (0,0) _ rfl hP.row Tryz.underlying87 rfl (by kernel_rfl)) rfl ?_;exact⟨_,rfl,hZ.out,hBF.out⟩
theorem Cn (va:Value) (a:Rat) (k:Nat) (w:World) (ha:cW w va a) (h0:a≠0) (hk:Sz k (rt a)) (hkl:k<=390000) :
  Calls Tryz.prog 106 #[va] w fun e w'=>∃ v,e=.returned v/\cW w' v (a⁻¹)/\Below w.heap.size w w':=by
 obtain⟨m,p,N,c,p',N',c',rfl,hn,hd⟩:=ha.open;have hl3:=jH w (.cells #[.bool m,.slice p N c,.bool false,.slice p' N' c'] 87) (.cells #[.bool false,.slice none 0 0,.bool false,.slice none 0 0] 87);have an:a.num.natAbs<10 ^ k:=hk.n;have ad:a.den<10 ^ k:=hk.d;have f1:=GF (dN an (by omega));have f2:=GF (show bC (a.den:Int).natAbs from dN ad (by omega))
 have hne:a.num≠0:=fun e=>h0 (by
  have e1:=iQ a;rw[e] at e1;rw[<-e1]
  show ((0:Int):Rat) / _=0
  rw[show ((0:Int):Rat)=0 from rfl]
  grind)
 have HE:=GF (show (((a.den:Int):Int):Rat) / (a.num:Rat)=a⁻¹ from by
  have e1:=iQ a;have n1:=jU a.den_pos;have n2:(a.num:Rat)≠0:=fun e=>hne (Rat.intCast_inj.1 e)
  show (a.den:Rat) / (a.num:Rat)=a⁻¹
  generalize (a.den:Rat)=x at *
  generalize (a.num:Rat)=s at *
  rw[<-e1]
  grind)
 clear an ad h0;go_enter Tryz.func106,Tryz.ntmps106;go_upto_region 1 with fail
 generalize (w.alloc (.cells #[.bool m,.slice p N c,.bool false,.slice p' N' c'] 87)).alloc (.cells #[.bool false,.slice none 0 0,.bool false,.slice none 0 0] 87)=w1 at *
 have HN:=GF (hn.below hl3.below);have HD:=GF (hd.below hl3.below);have M1:=GF hl3.below;have e0:=ai hl3.s0 0;have e1:=ai hl3.s0 1;have e2:=ai hl3.s0 2;have e3:=ai hl3.s0 3;have s1:=hl3.s1;clear hl3 hn hd ha;go_wp2_with fail
 refine (oT _ _ _ _ w1 HD.out HN.out hne f2.out f1.out).mono ?_;rintro e w6 ⟨v6,rfl,hv6,hb6⟩;rw[HE.out] at hv6;have hv6:cW w6 v6 (a⁻¹):=hv6;obtain⟨mo,po,No,co,po',No',co',rfl,ho,ho'⟩:=hv6.open;have u2:=(hb6.block _ (ak s1)).trans s1;have hP:=bj (u0:=.bool mo) (u1:=.slice po No co) (u2:=.bool false) (u3:=.slice po' No' co') u2;have hZ:=GF (bV.puts hv6 hP u2 bU);have hBF:=GF ((M1.out.trans (hb6.mono M1.out.size)).trans (hP.below w.heap.size (by omega)));have q0:=ai u2 0;have q1:=ai u2 1;have q2:=ai u2 2;have q3:=ai u2 3;have f0:=Kg w6 (w.heap.size+1) 0 _ _ u2;have f1:=Kg w6 (w.heap.size+1) 1 _ _ u2;have f2:=Kg w6 (w.heap.size+1) 2 _ _ u2;have f3:=Kg w6 (w.heap.size+1) 3 _ _ u2;clear hv6 ho ho' hb6 s1 e0 e1 e2 e3;go_wp2_with fail
 (try simp only[Exit.inBlock,Exit.then])
 change bodyPost _ _ _ _ _ (d7 w6 (w.heap.size+1) (.bool mo) (.slice po No co) (.bool false) (.slice po' No' co'));refine Kh (results_cell_row rfl _ _ (w.heap.size+1) _ _ (0,0) _ rfl hP.row Tryz.underlying87 rfl (by kernel_rfl)) rfl ?_;exact⟨_,rfl,hZ.out,hBF.out⟩
end Go.Proofs.YtmakbmhlemhgeaaGreatDoor
