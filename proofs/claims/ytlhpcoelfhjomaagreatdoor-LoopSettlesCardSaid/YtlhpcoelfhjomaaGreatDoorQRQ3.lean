/- L -/
import Derived.Test.YtlhpcoelfhjomaaGreatDoorQGet
import Derived.Test.YtlhpcoelfhjomaaGreatDoorQReg
import Derived.Test.YtlhpcoelfhjomaaGreatDoorQCoef
set_option linter.all false
set_option maxRecDepth 100000
set_option maxHeartbeats 8000000
namespace Go.Proofs.YtlhpcoelfhjomaaGreatDoor
open Go.RowKit Dg
theorem zX (m:Bool) (n:Nat):decide (-(sgn m n)<0)=(!m&&decide (n≠0))/\(-(sgn m n)).natAbs=n:=by
 unfold sgn
 cases m
 ·refine⟨?_,by simp⟩;by_cases h:n=0
  ·subst h;rfl
  ·simp[h];omega
 ·simp
theorem mL (n:Nat) (hn:n<1000000000000) (w:World) :
  Calls Tryz.prog 26 #[.int .i64 n] w fun e w'=>∃ v,e=.returned v/\cW w' v ⟨false,n,1⟩/\Below w.heap.size w w':=by
 have hl:=bL w (.cells #[.bool false,.slice none 0 0,.bool false,.slice none 0 0] 44);go_enter Tryz.func26,Tryz.ntmps26;go_upto_region 1 with fail
 generalize w.alloc (.cells #[.bool false,.slice none 0 0,.bool false,.slice none 0 0] 44)=w1 at *
 go_wp2_with fail
 refine (jT n hn w1).mono ?_;rintro e w2 ⟨v2,rfl,hz2,hb2⟩;obtain⟨p2,N2,c2,rfl,hN2,hNc2,hcm2,hd2⟩:=hz2.nat;have s0:=(hb2.block _ (ah hl.s0)).trans hl.s0;have HB2:=hl.below.trans (hb2.mono hl.below.size);have HD2:=Ip hd2;clear hl hb2 hz2 hd2;go_wp2_with fail
 refine (jT 1 (by omega) w2).mono ?_;rintro e w3 ⟨v3,rfl,hz3,hb3⟩;obtain⟨p3,N3,c3,rfl,hN3,hNc3,hcm3,hd3⟩:=hz3.nat;have u2:=(hb3.block _ (ah s0)).trans s0;have HB3:=LK HB2 hb3;have hP:=aR (u0:=.bool false) (u1:=.slice p2 N2 c2) (u2:=.bool false) (u3:=.slice p3 N3 c3) u2
 have hZ:Hid (cW (dL w3 w.heap.size (.bool false) (.slice p2 N2 c2) (.bool false) (.slice p3 N3 c3)) (.agg #[.bool false,.slice p2 N2 c2,.bool false,.slice p3 N3 c3]) ⟨false,n,1⟩) :=
  ⟨_,_,rfl,hP.isI u2 bf (HD2.out.below hb3),hP.isI u2 bf hd3⟩
 have hB:=HB3.trans (hP.below w.heap.size (by omega));have q0:=af u2 0;have q1:=af u2 1;have q2:=af u2 2;have q3:=af u2 3;have f0:=LL w3 w.heap.size 0 _ _ u2;have f1:=LL w3 w.heap.size 1 _ _ u2;have f2:=LL w3 w.heap.size 2 _ _ u2;have f3:=LL w3 w.heap.size 3 _ _ u2;clear s0 HB2 hb3 hz3 hd3 HD2;go_wp2_with fail
 (try simp only[Exit.inBlock,Exit.then])
 change bodyPost _ _ _ _ _ (dL w3 w.heap.size (.bool false) (.slice p2 N2 c2) (.bool false) (.slice p3 N3 c3));refine LM (results_cell_row rfl _ _ w.heap.size _ _ (0,0) _ rfl hP.row Tryz.underlying44 rfl (by kernel_rfl)) rfl ?_;exact⟨_,rfl,hZ.out,hB⟩
theorem wI (v:Value) (r:Rt) (w:World) (hv:cW w v r) (hc:r.minus=true->r.n≠0) :
  Calls Tryz.prog 120 #[v] w fun e w'=>∃ v',e=.returned v'/\cW w' v' (qM r)/\Below w.heap.size w w':=by
 obtain⟨p,N,c,p',N',c',rfl,hN,hNc,hcm,hN',hNc',hcm',hdn,hdd⟩:=hv.parts;obtain⟨m,n,d⟩:=r;simp only at hN hN' hdn hdd hc |-;have hl:=mq w (.cells #[.bool m,.slice p N c,.bool false,.slice p' N' c'] 44) (.cells #[.bool false,.slice none 0 0,.bool false,.slice none 0 0] 44);have HDN:=Ip (hdn.below hl.below);have HDD:=Ip (hdd.below hl.below);have HC:=Ip hc;clear hv hdn hdd hc;go_enter Tryz.func120,Tryz.ntmps120;go_upto_region 1 with fail
 generalize (w.alloc (.cells #[.bool m,.slice p N c,.bool false,.slice p' N' c'] 44)).alloc (.cells #[.bool false,.slice none 0 0,.bool false,.slice none 0 0] 44)=w1 at *
 have hbd:Below w1.heap.size w1 w1.drew:=(LN _ _).drew;have r0:=(hbd.block _ (ah hl.s0)).trans hl.s0;have r1:=(hbd.block _ (ah hl.s1)).trans hl.s1;have HB1:=hl.below.trans (hbd.mono hl.below.size);have HN1:=Ip (HDN.out.below hbd);have HD1:=Ip (HDD.out.below hbd);have hsz:w1.drew.heap.size=w.heap.size+1+1:=hl.size;clear HDN HDD hl hbd;have hS:(fun wx:World=>wx.cell? ⟨w.heap.size,0,none⟩=some (.bool m)/\wx.cell? ⟨w.heap.size,1,none⟩=some (.slice p N c)/\wx.cell? ⟨w.heap.size,2,none⟩=some (.bool false)/\wx.cell? ⟨w.heap.size,3,none⟩=some (.slice p' N' c')) w1.drew:=⟨af r0 0,af r0 1,af r0 2,af r0 3⟩;refine wp_mono (ax (Q:=aP _) (fun wx:World=>wx.cell? ⟨w.heap.size,0,none⟩=some (.bool m)/\wx.cell? ⟨w.heap.size,1,none⟩=some (.slice p N c)/\wx.cell? ⟨w.heap.size,2,none⟩=some (.bool false)/\wx.cell? ⟨w.heap.size,3,none⟩=some (.slice p' N' c')) (fun i=>i == 6) (by kernel_rfl) ?_) (fun _ _ _ h=>aY h);generalize w1.drew=w2 at *
 refine LJ 0 (r:=?_)
 refine LJ 3 (r:=?_)
 refine ay (i:=1) (v:=?vvA) rfl (by kernel_rfl) (fun _ _ _ h=>h) rfl hS ?hyA ?restA
 case hyA =>
  intro wy hy;obtain⟨q0,q1,q2,q3⟩:=hy;go_simp;try with_reducible rfl
 refine ay (i:=4) (v:=?vvB) rfl (by kernel_rfl) (fun _ _ _ h=>h) rfl hS ?hyB ?restB
 case hyB =>
  intro wy hy;obtain⟨q0,q1,q2,q3⟩:=hy;go_simp;try with_reducible rfl
 try simp only[Act.put,It,Is,Ir,Iq,Iu,Iv]
 refine ar (i:=2) rfl (by kernel_rfl) rfl (fun K hK=>?_);go_simp;refine (jv _ _ w2 (yh HN1.out HC.out)).mono ?_;rintro e w3 ⟨v3,rfl,hz3,hb3⟩;obtain⟨p3,N3,c3,rfl,hN3,hNc3,hcm3,hd3⟩:=hz3.parts;rw[(zX m n).2] at hd3;have hm3:=Ip (zX m n).1;generalize decide (-sgn m n<0)=m3 at *
 have hlt:=ah r0;refine hK _ _ (fun _ hs=>⟨(hb3.cell (p:=⟨_,_,none⟩) hlt).trans hs.1,(hb3.cell (p:=⟨_,_,none⟩) hlt).trans hs.2.1,(hb3.cell (p:=⟨_,_,none⟩) hlt).trans hs.2.2.1,(hb3.cell (p:=⟨_,_,none⟩) hlt).trans hs.2.2.2⟩) ?_;clear hK K hS;try simp only[Act.put,It,Is,Ir,Iq,Iu,Iv]
 have u2:=(hb3.block _ (ah r1)).trans r1;have HB3:=LK HB1 hb3;have hP:=aR (u0:=.bool m3) (u1:=.slice p3 N3 c3) (u2:=.bool false) (u3:=.slice p' N' c') u2
 have hZ:Hid (cW (dL w3 (w.heap.size+1) (.bool m3) (.slice p3 N3 c3) (.bool false) (.slice p' N' c')) (.agg #[.bool m3,.slice p3 N3 c3,.bool false,.slice p' N' c']) (qM ⟨m,n,d⟩)) :=
  ⟨_,_,by rw[show (qM ⟨m,n,d⟩).minus=m3 from hm3.out.symm],hP.isI u2 bf hd3,hP.isI u2 bf (HD1.out.below hb3)⟩
 have hB:=HB3.trans (hP.below w.heap.size (by omega));have q0:=af u2 0;have q1:=af u2 1;have q2:=af u2 2;have q3:=af u2 3;have f0:=LL w3 (w.heap.size+1) 0 _ _ u2;have f1:=LL w3 (w.heap.size+1) 1 _ _ u2;have f2:=LL w3 (w.heap.size+1) 2 _ _ u2;have f3:=LL w3 (w.heap.size+1) 3 _ _ u2;clear HN1 HD1 hd3 hz3 HB1 r0 r1;refine LJ 5 (r:=?_)
 try simp only[Act.put,It,Is,Ir,Iq,Iu,Iv]
 refine ar (i:=6) rfl (by kernel_rfl) rfl (fun K hK=>?_);go_simp;change K _ (dL w3 (w.heap.size+1) (.bool m3) (.slice p3 N3 c3) (.bool false) (.slice p' N' c'));refine hK _ _ (fun h=>by cases h) ?_;clear hK K q0 q1 q2 q3 f0 f1 f2 f3;try simp only[Act.put,It,Is,Ir,Iq,Iu,Iv]
 refine aF (by kernel_rfl) ?_ _;simp only[aP];go_wp2_with fail
 (try simp only[Exit.inBlock,Exit.then])
 refine LM (results_cell_row rfl _ _ (w.heap.size+1) _ _ (0,0) _ rfl hP.row Tryz.underlying44 rfl (by kernel_rfl)) rfl ?_;exact⟨_,rfl,hZ.out,hB⟩
def IsC (w:World) (v:Value) (z:Vl):Prop:=∃ a b c d,v=.agg #[.bool z.x.minus,a,.bool false,b,.bool z.y.minus,c,.bool false,d]/\IsD w a z.x.n/\IsD w b z.x.d/\IsD w c z.y.n/\IsD w d z.y.d
theorem IsC.below {w w':World}{v:Value}{z:Vl} (h:IsC w v z) (hb:Below w.heap.size w w'):IsC w' v z:=by
 obtain⟨a,b,c,d,e,h1,h2,h3,h4⟩:=h;exact⟨a,b,c,d,e,h1.below hb,h2.below hb,h3.below hb,h4.below hb⟩
theorem wK (v:Value) (r:Rt) (w:World) (hv:cW w v r) :
  Calls Tryz.prog 72 #[v] w fun e w'=>∃ v',e=.returned v'/\IsC w' v' ⟨r,fN⟩/\Below w.heap.size w w':=by
 obtain⟨p,N,c,p',N',c',rfl,hN,hNc,hcm,hN',hNc',hcm',hdn,hdd⟩:=hv.parts;obtain⟨m,n,d⟩:=r;simp only at hN hN' hdn hdd |-;have hl:=mq w (.cells #[.bool m,.slice p N c,.bool false,.slice p' N' c'] 44) (.cells #[.bool false,.slice none 0 0,.bool false,.slice none 0 0,.bool false,.slice none 0 0,.bool false,.slice none 0 0] 80);have HDN:=Ip (hdn.below hl.below);have HDD:=Ip (hdd.below hl.below);clear hv hdn hdd;go_enter Tryz.func72,Tryz.ntmps72;go_upto_region 1 with fail
 generalize (w.alloc (.cells #[.bool m,.slice p N c,.bool false,.slice p' N' c'] 44)).alloc (.cells #[.bool false,.slice none 0 0,.bool false,.slice none 0 0,.bool false,.slice none 0 0,.bool false,.slice none 0 0] 80)=w1 at *
 have hbd:Below w1.heap.size w1 w1.drew:=(LN _ _).drew;have r0:=(hbd.block _ (ah hl.s0)).trans hl.s0;have r1:=(hbd.block _ (ah hl.s1)).trans hl.s1;have HB1:=hl.below.trans (hbd.mono hl.below.size);have HN1:=Ip (HDN.out.below hbd);have HD1:=Ip (HDD.out.below hbd);have hsz:w1.drew.heap.size=w.heap.size+1+1:=hl.size;clear HDN HDD hl hbd;have hS:(fun wx:World=>wx.cell? ⟨w.heap.size,0,none⟩=some (.bool m)/\wx.cell? ⟨w.heap.size,1,none⟩=some (.slice p N c)/\wx.cell? ⟨w.heap.size,2,none⟩=some (.bool false)/\wx.cell? ⟨w.heap.size,3,none⟩=some (.slice p' N' c')) w1.drew:=⟨af r0 0,af r0 1,af r0 2,af r0 3⟩;refine wp_mono (ax (Q:=aP _) (fun wx:World=>wx.cell? ⟨w.heap.size,0,none⟩=some (.bool m)/\wx.cell? ⟨w.heap.size,1,none⟩=some (.slice p N c)/\wx.cell? ⟨w.heap.size,2,none⟩=some (.bool false)/\wx.cell? ⟨w.heap.size,3,none⟩=some (.slice p' N' c')) (fun i=>i == 3) (by kernel_rfl) ?_) (fun _ _ _ h=>aY h);generalize w1.drew=w2 at *
 refine ay (i:=0) (v:=?vvA) rfl (by kernel_rfl) (fun _ _ _ h=>h) rfl hS ?hyA ?restA
 case hyA =>
  intro wy hy;obtain⟨q0,q1,q2,q3⟩:=hy;go_simp;try with_reducible rfl
 try simp only[Act.put,It,Is,Ir,Iq,Iu,Iv]
 refine ar (i:=1) rfl (by kernel_rfl) rfl (fun K hK=>?_);go_simp;refine (mL 0 (by omega) w2).mono ?_;rintro e w3 ⟨v3,rfl,hz3,hb3⟩;obtain⟨p3,N3,c3,p4,N4,c4,rfl,hN3,hNc3,hcm3,hN4,hNc4,hcm4,hd3,hd4⟩:=hz3.parts;have hlt:=ah r0;refine hK _ _ (fun _ hs=>⟨(hb3.cell (p:=⟨_,_,none⟩) hlt).trans hs.1,(hb3.cell (p:=⟨_,_,none⟩) hlt).trans hs.2.1,(hb3.cell (p:=⟨_,_,none⟩) hlt).trans hs.2.2.1,(hb3.cell (p:=⟨_,_,none⟩) hlt).trans hs.2.2.2⟩) ?_;clear hK K hS;try simp only[Act.put,It,Is,Ir,Iq,Iu,Iv]
 have u2:=(hb3.block _ (ah r1)).trans r1;have HB3:=LK HB1 hb3;have hP:=eP (u0:=.bool m) (u1:=.slice p N c) (u2:=.bool false) (u3:=.slice p' N' c') (u4:=.bool false) (u5:=.slice p3 N3 c3) (u6:=.bool false) (u7:=.slice p4 N4 c4) u2
 have hZ:Hid (IsC (fy w3 (w.heap.size+1) (.bool m) (.slice p N c) (.bool false) (.slice p' N' c') (.bool false) (.slice p3 N3 c3) (.bool false) (.slice p4 N4 c4)) (.agg #[.bool m,.slice p N c,.bool false,.slice p' N' c',.bool false,.slice p3 N3 c3,.bool false,.slice p4 N4 c4]) ⟨⟨m,n,d⟩,fN⟩) :=
  ⟨_,_,_,_,rfl,hP.isI u2 fF (HN1.out.below hb3),hP.isI u2 fF (HD1.out.below hb3),hP.isI u2 fF hd3,hP.isI u2 fF hd4⟩
 have hB:=HB3.trans (hP.below w.heap.size (by omega));have q0:=af u2 0;have q1:=af u2 1;have q2:=af u2 2;have q3:=af u2 3;have q4:=af u2 4;have q5:=af u2 5;have q6:=af u2 6;have q7:=af u2 7;have f0:=LL w3 (w.heap.size+1) 0 _ _ u2;have f1:=LL w3 (w.heap.size+1) 1 _ _ u2;have f2:=LL w3 (w.heap.size+1) 2 _ _ u2;have f3:=LL w3 (w.heap.size+1) 3 _ _ u2;have f4:=LL w3 (w.heap.size+1) 4 _ _ u2;have f5:=LL w3 (w.heap.size+1) 5 _ _ u2;have f6:=LL w3 (w.heap.size+1) 6 _ _ u2;have f7:=LL w3 (w.heap.size+1) 7 _ _ u2;clear HN1 HD1 hd3 hd4 hz3 HB1 r0 r1;refine LJ 2 (r:=?_)
 try simp only[Act.put,It,Is,Ir,Iq,Iu,Iv]
 refine ar (i:=3) rfl (by kernel_rfl) rfl (fun K hK=>?_);go_simp;change K _ (fy w3 (w.heap.size+1) (.bool m) (.slice p N c) (.bool false) (.slice p' N' c') (.bool false) (.slice p3 N3 c3) (.bool false) (.slice p4 N4 c4));refine hK _ _ (fun h=>by cases h) ?_;clear hK K q0 q1 q2 q3 f0 f1 f2 f3 q4 q5 q6 q7 f4 f5 f6 f7;try simp only[Act.put,It,Is,Ir,Iq,Iu,Iv]
 refine aF (by kernel_rfl) ?_ _;simp only[aP];go_wp2_with fail
 (try simp only[Exit.inBlock,Exit.then])
 refine LM (results_cell_row rfl _ _ (w.heap.size+1) _ _ (0,0) _ rfl hP.row Tryz.underlying80 rfl (by kernel_rfl)) rfl ?_;exact⟨_,rfl,hZ.out,hB⟩
open Go.RowKit Dg Dc
theorem Hy {t:ByteArray}{l:List UInt8} (h:t.data.toList=l):t=⟨l.toArray⟩:=by rw[<-h]
theorem Fu {w:World}{p:Option Addr}{N c d:Nat} (h:IsD w (.slice p N c) d) (hd:0<d):(N=1/\nth (aq RR d) 0=1)↔d=1:=by
 rw[tW h]
 have hv:=aA aH d
 constructor
 ·rintro⟨h1,h2⟩
  generalize aq RR d=l at *
  match l,h1 with
  | [a],_=>simp[nth] at h2;subst h2;rw[<-hv];rfl
 ·intro h
  subst h
  have:aq RR 1=[1]:=by
   have:=c_ aH (l:=[1]) (by intro d hd;rw[Jj.1 hd];decide)
   rw[show val RR [1]=1 from rfl] at this
   rw[<-this];decide
  rw[this];exact⟨rfl,rfl⟩
theorem nR (m:Bool) (p:Option Addr) (N c n:Nat) (w:World) (hv:IsD w (.slice p N c) n) (hf:bu n) :
  Calls Tryz.prog 198 #[.agg #[.bool m,.slice p N c]] w fun e w'=>e=.returned (.string ⟨((if m then [45] else [])++dec n).toArray⟩)/\Below w.heap.size w w':=by
 have hl:=bL w (.cells #[.bool m,.slice p N c] 42);have HD:=Ip (hv.below hl.below);have x0:=af hl.s0 0;have x1:=af hl.s0 1;have HB:=hl.below;clear hv hl;go_enter Tryz.func198,Tryz.ntmps198;go_upto_region 1 with fail
 generalize w.alloc (.cells #[.bool m,.slice p N c] 42)=w1 at *
 cases m
 all_goals
  go_wp2_with fail
  refine (xX _ n w1 HD.out hf).mono ?_;rintro e w2 ⟨t,rfl,ht,hts,rfl⟩;go_wp2_with fail
  go_ret;refine⟨?_,HB⟩;have ht':=Hy ht.out;subst ht'
  first | rfl | (congr 2;simp) | (show Ending.returned _=Ending.returned _;congr 2;simp)
theorem mu (m:Bool) (p:Option Addr) (N c n:Nat) (w:World) (hv:IsD w (.slice p N c) n) (hf:bu n) :
  Calls Tryz.prog 153 #[.agg #[.bool m,.slice p N c]] w fun e w'=>e=.returned (.bool (decide (2000<(dec n).length)))/\Below w.heap.size w w':=by
 have hl:=bL w (.cells #[.bool m,.slice p N c] 42);have HD:=Ip (hv.below hl.below);have x1:=af hl.s0 1;have HB:=hl.below;clear hv hl;go_enter Tryz.func153,Tryz.ntmps153;go_upto_region 1 with fail
 generalize w.alloc (.cells #[.bool m,.slice p N c] 42)=w1 at *
 go_wp2_with fail
 refine (DE _ n w1 HD.out hf).mono ?_;rintro e w2 ⟨rfl,rfl⟩;have hd:decide ((2000:Int)<((dec n).length:Nat))=decide (2000<(dec n).length):=by rw[decide_eq_decide];omega
 have HDD:=Ip hd;clear hd;go_wp2_with fail
 go_ret;refine⟨?_,HB⟩;rw[<-HDD.out];rfl
theorem nE (v:Value) (r:Rt) (w:World) (hv:cW w v r) :
  Calls Tryz.prog 146 #[v] w fun e w'=>e=.returned (.bool (decide (r.n=0)))/\Below w.heap.size w w':=by
 obtain⟨p,N,c,p',N',c',rfl,hN,hNc,hcm,hN',hNc',hcm',hdn,hdd⟩:=hv.parts;have hl:=bL w (.cells #[.bool r.minus,.slice p N c,.bool false,.slice p' N' c'] 44);have x1:=af hl.s0 1;have HB:=hl.below
 have hz:Hid (((N:Int) == 0)=decide (r.n=0)):=by
  have:=fE hdn;unfold Hid;rw[Kc];simp;omega
 clear hl hv;generalize r.minus=m at *
 go_enter Tryz.func146,Tryz.ntmps146;go_wp2_with fail
 go_ret;refine⟨?_,HB⟩;rw[<-hz.out];rfl
theorem vS {w:World}{p:Option Addr}{N c n j:Nat} (h:IsD w (.slice p N c) n) (hj:j<N):∃ b o,p=some ⟨b,o,none⟩/\b<w.heap.size/\w.cell? ⟨b,o+j,none⟩=some (.int .i64 (nth (aq RR n) j)):=by
 have hl:=tW h;obtain⟨p',c',e,h1,h2,h3⟩:=h;obtain⟨rfl,_,rfl⟩:p'=p/\N=(aq RR n).length/\c'=c:=by simp at e;exact⟨e.1.symm,e.2.1,e.2.2.symm⟩
 obtain⟨b,o,e2,hb,hc⟩:=h3 (by omega);exact⟨b,o,e2,hb,hc j (by omega)⟩
theorem tJ {n:Nat} (h:bu n):(dec n).length<=400004:=by
 have h1:=bV aH n;rw[yD] at h1;unfold bu at h;have h2:=bK (k:=4*(aq RR n).length+1) (by omega) (Iz h1 (IQ (by omega) (by omega)));omega
theorem sX {m:Bool}{n:Nat} (h:bu n):(⟨((if m then [45] else [])++dec n).toArray⟩:ByteArray).size<=400005:=by
 have:=tJ h;have h2:=fJ (t:=(⟨((if m then [45] else [])++dec n).toArray⟩:ByteArray)) (l:=(if m then [45] else [])++dec n) (by simp);rw[h2]
 cases m<;>simp<;>omega
theorem jl (v:Value) (r:Rt) (w:World) (hv:cW w v r) (hd0:0<r.d) (hfn:bu r.n) (hfd:bu r.d) :
  Calls Tryz.prog 152 #[v] w fun e w'=>e=.returned (.string ⟨(aK r).toArray⟩)/\Below w.heap.size w w':=by
 obtain⟨p,N,c,p',N',c',rfl,hN,hNc,hcm,hN',hNc',hcm',hdn,hdd⟩:=hv.parts;obtain⟨m,n,d⟩:=r;simp only at *
 have hl:=bL w (.cells #[.bool m,.slice p N c,.bool false,.slice p' N' c'] 44);have HDN:=Ip (hdn.below hl.below);have HDD:=Ip (hdd.below hl.below);have x0:=af hl.s0 0;have x1:=af hl.s0 1;have x2:=af hl.s0 2;have x3:=af hl.s0 3;have HB:=hl.below;have HL:=Ip (ah hl.s0);have hone:=Fu hdd hd0;have hst1:=sX (m:=m) hfn;have hst2:=sX (m:=false) hfd;have HT:Hid (aK ⟨m,n,d⟩=(if m then [45] else [])++dec n++(if 1<d then 47 :: dec d else [])):=rfl;have HF:=Ip hfn;have HF':=Ip hfd;clear hv hl hdn hfn hfd;go_enter Tryz.func152,Tryz.ntmps152;go_upto_region 1 with fail
 generalize w.alloc (.cells #[.bool m,.slice p N c,.bool false,.slice p' N' c'] 44)=w1 at *
 obtain⟨t1,ht1⟩:∃ t1:ByteArray,t1=⟨((if m then [45] else [])++dec n).toArray⟩:=⟨_,rfl⟩;rw[<-ht1] at hst1;have HT1:=Ip (nR m p N c n w1 HDN.out HF.out);rw[<-ht1] at HT1;by_cases h1:d=1
 ·obtain⟨hN1,hn1⟩:=hone.2 h1;obtain⟨b,o,rfl,hb,hc⟩:=vS HDD.out (show 0<N' by omega);rw[I7] at hc;rw[hn1] at hc;have hN1':((N':Int) == 1)=true:=by simp;omega
  have HR:Hid ((⟨(aK ⟨m,n,d⟩).toArray⟩:ByteArray)=t1):=by unfold Hid;rw[HT.out,if_neg (show ¬ 1<d by omega),Ju,ht1]
  clear hone hn1 hst1 hst2 h1 ht1;go_wp2_with fail
  refine HT1.out.mono ?_;rintro e w2 ⟨rfl,hb2⟩;have HEND:=LK HB hb2;go_wp2_with fail
  go_ret;exact⟨by rw[HR.out];rfl,HEND⟩
 ·obtain⟨t2,ht2⟩:∃ t2:ByteArray,t2=⟨((if false then [45] else [])++dec d).toArray⟩:=⟨_,rfl⟩;rw[<-ht2] at hst2;have HA:Hid (nh w1 198 #[.agg #[.bool m,.slice p N c]] ((.string t1))):=fun y=>bh.calls (by rw[ht1];exact nR m p N c n y.w (HDN.out.below y.h) HF.out);have HB2:Hid (nh w1 198 #[.agg #[.bool false,.slice p' N' c']] ((.string t2))):=fun y=>bh.calls (by rw[ht2];exact nR false p' N' c' d y.w (HDD.out.below y.h) HF'.out);have y0:∀ y:bh w1,y.w.cell? ⟨w.heap.size,0,none⟩=some (.bool m):=fun y=>(y.cell HL.out).trans x0;have y1:∀ y:bh w1,y.w.cell? ⟨w.heap.size,1,none⟩=some (.slice p N c):=fun y=>(y.cell HL.out).trans x1;have y2:∀ y:bh w1,y.w.cell? ⟨w.heap.size,2,none⟩=some (.bool false):=fun y=>(y.cell HL.out).trans x2;have y3:∀ y:bh w1,y.w.cell? ⟨w.heap.size,3,none⟩=some (.slice p' N' c'):=fun y=>(y.cell HL.out).trans x3
  have HR:Hid ((⟨(aK ⟨m,n,d⟩).toArray⟩:ByteArray)=t1++⟨#[47]⟩++t2):=by
   unfold Hid;rw[HT.out,if_pos (show 1<d by omega),ht1,ht2]
   apply ByteArray.ext
   simp
  clear ht1 ht2;by_cases hN1:N'=1
  ·obtain⟨b,o,rfl,hb,hc⟩:=vS HDD.out (show 0<N' by omega);rw[I7] at hc;have hnn:nth (aq RR d) 0≠1:=fun e=>h1 (hone.1 ⟨hN1,e⟩);generalize nth (aq RR d) 0=u at *
   have hu:((u:Int) == 1)=false:=by simp;omega
   have hN1':((N':Int) == 1)=true:=by simp;omega
   have hNp:0<N':=by omega
   have HN1:=Ip hN1;clear hone h1 hnn hN1;go_upto_region 3 with fail
   clear x0 x1 x2 x3;refine dB (by kernel_rfl) (by kernel_rfl) ?_;repeat (go_big_quiet_step ((go_at_call 198;first | with_reducible exact HA.out _ | with_reducible exact HB2.out _)))
   refine wpQuiet_nil ?_;rintro _ ⟨⟨w2,hbN⟩,rfl⟩;have HEND:=LK HB hbN;clear HA HB2 y0 y1 y2 y3;go_wp2_with fail
   go_ret;exact⟨by rw[HR.out];rfl,HEND⟩
  ·have hN1':((N':Int) == 1)=false:=by simp;omega
   clear hone h1;go_upto_region 3 with fail
   clear x0 x1 x2 x3;refine dB (by kernel_rfl) (by kernel_rfl) ?_;repeat (go_big_quiet_step ((go_at_call 198;first | with_reducible exact HA.out _ | with_reducible exact HB2.out _)))
   refine wpQuiet_nil ?_;rintro _ ⟨⟨w2,hbN⟩,rfl⟩;have HEND:=LK HB hbN;clear HA HB2 y0 y1 y2 y3;go_wp2_with fail
   go_ret;exact⟨by rw[HR.out];rfl,HEND⟩
theorem IsC.parts {w:World}{v:Value}{z:Vl} (h:IsC w v z):∃ p0 n0 c0 p1 n1 c1 p2 n2 c2 p3 n3 c3,v=.agg #[.bool z.x.minus,.slice p0 n0 c0,.bool false,.slice p1 n1 c1,.bool z.y.minus,.slice p2 n2 c2,.bool false,.slice p3 n3 c3] /\
  cW w (.agg #[.bool z.x.minus,.slice p0 n0 c0,.bool false,.slice p1 n1 c1]) z.x/\cW w (.agg #[.bool z.y.minus,.slice p2 n2 c2,.bool false,.slice p3 n3 c3]) z.y:=by
 obtain⟨a,b,c,d,rfl,h1,h2,h3,h4⟩:=h;obtain⟨p0,n0,c0,rfl,_⟩:=h1.parts;obtain⟨p1,n1,c1,rfl,_⟩:=h2.parts;obtain⟨p2,n2,c2,rfl,_⟩:=h3.parts;obtain⟨p3,n3,c3,rfl,_⟩:=h4.parts;exact⟨p0,n0,c0,p1,n1,c1,p2,n2,c2,p3,n3,c3,rfl,⟨_,_,rfl,h1,h2⟩,⟨_,_,rfl,h3,h4⟩⟩
theorem jL {r:Rt} (h1:bu r.n) (h2:bu r.d):(⟨(aK r).toArray⟩:ByteArray).size<=900000:=by
 have a:=tJ h1;have b:=tJ h2;rw[fJ (t:=(⟨(aK r).toArray⟩:ByteArray)) (l:=aK r) (by simp)];unfold aK;simp only[IG]
 split<;>split<;>simp<;>omega
theorem mZ (v:Value) (z:Vl) (w:World) (hv:IsC w v z) (hdx:0<z.x.d) (hdy:0<z.y.d) (hfx:bu z.x.n) (hfx':bu z.x.d) (hfy:bu z.y.n) (hfy':bu z.y.d) :
  Calls Tryz.prog 100 #[v] w fun e w'=>e=.returned (.string ⟨(bX z).toArray⟩)/\Below w.heap.size w w':=by
 obtain⟨p0,n0,c0,p1,n1,c1,p2,n2,c2,p3,n3,c3,rfl,hx,hy⟩:=hv.parts;obtain⟨x,y⟩:=z;simp only at *
 obtain⟨mx,hmx⟩:∃ mx,mx=x.minus:=⟨_,rfl⟩;obtain⟨my,hmy⟩:∃ my,my=y.minus:=⟨_,rfl⟩;rw[<-hmx] at hx |-;rw[<-hmy] at hy |-;have HMY:=Ip hmy;have hl:=bL w (.cells #[.bool mx,.slice p0 n0 c0,.bool false,.slice p1 n1 c1,.bool my,.slice p2 n2 c2,.bool false,.slice p3 n3 c3] 80);have HX:=Ip (hx.below hl.below);have HY:=Ip (hy.below hl.below);have r0:=hl.s0;have HB:=hl.below;have HV0:Hid (bX ⟨x,y⟩=if y.n=0 then aK x else (if x.n=0 then [] else aK x++(if y.minus then [] else [43]))++b8 y++[105]):=rfl;clear hv hl hx hy hmx hmy;have q4:=af r0 4;have q5:=af r0 5;have q6:=af r0 6;have q7:=af r0 7;go_enter Tryz.func100,Tryz.ntmps100;go_upto_region 1 with fail
 generalize w.alloc (.cells #[.bool mx,.slice p0 n0 c0,.bool false,.slice p1 n1 c1,.bool my,.slice p2 n2 c2,.bool false,.slice p3 n3 c3] 80)=w1 at *
 go_wp2_with fail
 refine (nE _ y w1 HY.out).mono ?_;rintro e w2 ⟨rfl,hb2⟩;have HX2:=Ip (HX.out.below hb2);have HY2:=Ip (HY.out.below hb2);have r2:=(hb2.block _ (ah r0)).trans r0;have HB2:=LK HB hb2;clear q4 q5 q6 q7 r0 HX HY hb2 HB;have q0:=af r2 0;have q1:=af r2 1;have q2:=af r2 2;have q3:=af r2 3;by_cases hyz:y.n=0
 ·have hyd:decide (y.n=0)=true:=by simp[hyz]
  have HV:Hid (bX ⟨x,y⟩=aK x):=by unfold Hid;rw[HV0.out,if_pos hyz]
  rw[hyd];clear hyz hyd;go_wp2_with fail
  refine (jl _ x w2 HX2.out hdx hfx hfx').mono ?_;rintro e w3 ⟨rfl,hb3⟩;have HEND:=LK HB2 hb3;go_wp2_with fail
  go_ret;exact⟨by rw[HV.out];rfl,HEND⟩
 ·have hyd:decide (y.n=0)=false:=by simp[hyz]
  rw[hyd];clear hyd;go_wp2_with fail
  refine (nE _ x w2 HX2.out).mono ?_;rintro e w3 ⟨rfl,hb3⟩;have HX3:=Ip (HX2.out.below hb3);have HY3:=Ip (HY2.out.below hb3);have r3:=(hb3.block _ (ah r2)).trans r2;have HB3:=LK HB2 hb3;clear q0 q1 q2 q3 r2 HX2 HY2 hb3 HB2;by_cases hxz:x.n=0
  ·have hxd:decide (x.n=0)=true:=by simp[hxz]
   have HV:Hid (bX ⟨x,y⟩=b8 y++[105]):=by unfold Hid;rw[HV0.out,if_neg hyz,if_pos hxz];rfl
   rw[hxd];clear hxz hxd hyz HV0;have q4:=af r3 4;have q5:=af r3 5;have q6:=af r3 6;have q7:=af r3 7;go_wp2_with fail
   have HY4:=HY3;have HB4:=HB3;have r4:=r3;clear HY3 HB3 r3 HX3;refine (jl _ y w3 HY4.out hdy hfy hfy').mono ?_;rintro e w5 ⟨rfl,hb5⟩;have HEND:=LK HB4 hb5;obtain⟨ty,hty⟩:∃ ty:ByteArray,ty=⟨(aK y).toArray⟩:=⟨_,rfl⟩;have htl:ty.toList=aK y:=by rw[hty,aw]
   have hsy:ty.size<=900000:=by rw[hty];exact jL hfy hfy'
   rw[<-hty];have HTY:=Ip hty;clear hty hb5 r4;by_cases e1:aK y=[49]
   ·have z1:(ty.toList == [49])=true:=by rw[htl,e1];rfl
    have HE:=Ip e1;clear htl e1;go_wp2_with fail
    go_ret;refine⟨?_,HEND⟩;rw[HV.out]
    show Ending.returned (Value.string _)=Ending.returned (Value.string _)
    congr 2
    apply ByteArray.ext
    simp[b8,HE.out,I_]
   ·by_cases e2:aK y=[45,49]
    ·have z1:(ty.toList == [49])=false:=by rw[htl,e2];rfl
     have z2:(ty.toList == [45,49])=true:=by rw[htl,e2];rfl
     have HE:=Ip e2;clear htl e1 e2;go_wp2_with fail
     go_ret;refine⟨?_,HEND⟩;rw[HV.out]
     show Ending.returned (Value.string _)=Ending.returned (Value.string _)
     congr 2
     apply ByteArray.ext
     simp[b8,HE.out,I_]
    ·have z1:(ty.toList == [49])=false:=by rw[htl];simpa using e1
     have z2:(ty.toList == [45,49])=false:=by rw[htl];simpa using e2
     have HE:Hid (b8 y=aK y):=by unfold Hid b8;rw[if_neg (by rintro (h | h);exact e1 h;exact e2 h)]
     clear htl e1 e2;go_wp2_with fail
     go_ret;refine⟨?_,HEND⟩;rw[HV.out]
     show Ending.returned (Value.string _)=Ending.returned (Value.string _)
     congr 2
     apply ByteArray.ext
     simp[HE.out,HTY.out,I_]
  ·have hxd:decide (x.n=0)=false:=by simp[hxz]
   rw[hxd];clear hxd;have q0:=af r3 0;have q1:=af r3 1;have q2:=af r3 2;have q3:=af r3 3;go_wp2_with fail
   refine (jl _ x w3 HX3.out hdx hfx hfx').mono ?_;rintro e w4 ⟨rfl,hb4⟩;have HY4:=Ip (HY3.out.below hb4);have r4:=(hb4.block _ (ah r3)).trans r3;have HB4:=LK HB3 hb4;clear q0 q1 q2 q3 r3 HX3 HY3 hb4 HB3;obtain⟨tx,htx⟩:∃ tx:ByteArray,tx=⟨(aK x).toArray⟩:=⟨_,rfl⟩;have hsx:tx.size<=900000:=by rw[htx];exact jL hfx hfx'
   rw[<-htx];have HTX:=Ip htx;clear htx;have q4:=af r4 4;have q5:=af r4 5;have q6:=af r4 6;have q7:=af r4 7
   cases my
   ·have HV:Hid (bX ⟨x,y⟩=aK x++[43]++b8 y++[105]):=by unfold Hid;rw[HV0.out,if_neg hyz,if_neg hxz,<-HMY.out];rfl
    clear hxz hyz HV0;go_wp2_with fail
    refine (jl _ y w4 HY4.out hdy hfy hfy').mono ?_;rintro e w5 ⟨rfl,hb5⟩;have HEND:=LK HB4 hb5;obtain⟨ty,hty⟩:∃ ty:ByteArray,ty=⟨(aK y).toArray⟩:=⟨_,rfl⟩;have htl:ty.toList=aK y:=by rw[hty,aw]
    have hsy:ty.size<=900000:=by rw[hty];exact jL hfy hfy'
    rw[<-hty];have HTY:=Ip hty;clear hty hb5 r4;by_cases e1:aK y=[49]
    ·have z1:(ty.toList == [49])=true:=by rw[htl,e1];rfl
     have HE:=Ip e1;clear htl e1;go_wp2_with fail
     go_ret;refine⟨?_,HEND⟩;rw[HV.out]
     show Ending.returned (Value.string _)=Ending.returned (Value.string _)
     congr 2
     apply ByteArray.ext
     simp[b8,HE.out,HTX.out]
    ·by_cases e2:aK y=[45,49]
     ·have z1:(ty.toList == [49])=false:=by rw[htl,e2];rfl
      have z2:(ty.toList == [45,49])=true:=by rw[htl,e2];rfl
      have HE:=Ip e2;clear htl e1 e2;go_wp2_with fail
      go_ret;refine⟨?_,HEND⟩;rw[HV.out]
      show Ending.returned (Value.string _)=Ending.returned (Value.string _)
      congr 2
      apply ByteArray.ext
      simp[b8,HE.out,HTX.out]
     ·have z1:(ty.toList == [49])=false:=by rw[htl];simpa using e1
      have z2:(ty.toList == [45,49])=false:=by rw[htl];simpa using e2
      have HE:Hid (b8 y=aK y):=by unfold Hid b8;rw[if_neg (by rintro (h | h);exact e1 h;exact e2 h)]
      clear htl e1 e2;go_wp2_with fail
      go_ret;refine⟨?_,HEND⟩;rw[HV.out]
      show Ending.returned (Value.string _)=Ending.returned (Value.string _)
      congr 2
      apply ByteArray.ext
      simp[HE.out,HTY.out,HTX.out]
   ·have HV:Hid (bX ⟨x,y⟩=aK x++b8 y++[105]):=by unfold Hid;rw[HV0.out,if_neg hyz,if_neg hxz,<-HMY.out];simp
    clear hxz hyz HV0;go_wp2_with fail
    refine (jl _ y w4 HY4.out hdy hfy hfy').mono ?_;rintro e w5 ⟨rfl,hb5⟩;have HEND:=LK HB4 hb5;obtain⟨ty,hty⟩:∃ ty:ByteArray,ty=⟨(aK y).toArray⟩:=⟨_,rfl⟩;have htl:ty.toList=aK y:=by rw[hty,aw]
    have hsy:ty.size<=900000:=by rw[hty];exact jL hfy hfy'
    rw[<-hty];have HTY:=Ip hty;clear hty hb5 r4;by_cases e1:aK y=[49]
    ·have z1:(ty.toList == [49])=true:=by rw[htl,e1];rfl
     have HE:=Ip e1;clear htl e1;go_wp2_with fail
     go_ret;refine⟨?_,HEND⟩;rw[HV.out]
     show Ending.returned (Value.string _)=Ending.returned (Value.string _)
     congr 2
     apply ByteArray.ext
     simp[b8,HE.out,HTX.out]
    ·by_cases e2:aK y=[45,49]
     ·have z1:(ty.toList == [49])=false:=by rw[htl,e2];rfl
      have z2:(ty.toList == [45,49])=true:=by rw[htl,e2];rfl
      have HE:=Ip e2;clear htl e1 e2;go_wp2_with fail
      go_ret;refine⟨?_,HEND⟩;rw[HV.out]
      show Ending.returned (Value.string _)=Ending.returned (Value.string _)
      congr 2
      apply ByteArray.ext
      simp[b8,HE.out,HTX.out]
     ·have z1:(ty.toList == [49])=false:=by rw[htl];simpa using e1
      have z2:(ty.toList == [45,49])=false:=by rw[htl];simpa using e2
      have HE:Hid (b8 y=aK y):=by unfold Hid b8;rw[if_neg (by rintro (h | h);exact e1 h;exact e2 h)]
      clear htl e1 e2;go_wp2_with fail
      go_ret;refine⟨?_,HEND⟩;rw[HV.out]
      show Ending.returned (Value.string _)=Ending.returned (Value.string _)
      congr 2
      apply ByteArray.ext
      simp[HE.out,HTY.out,HTX.out]
end Go.Proofs.YtlhpcoelfhjomaaGreatDoor
