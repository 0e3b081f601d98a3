/- L -/
import Derived.Test.YtmakbmhlemhgeaaGreatDoorWGet
import Derived.Test.YtmakbmhlemhgeaaGreatDoorWReg
import Derived.Test.YtmakbmhlemhgeaaGreatDoorWCoef
import Derived.Test.YtmakbmhlemhgeaaGreatDoorWB
set_option linter.all false
set_option maxRecDepth 100000
set_option maxHeartbeats 8000000
namespace Go.Proofs.YtmakbmhlemhgeaaGreatDoor
open Go.RowKit Dg
theorem xO (m:Bool) (n:Nat):decide (-(sgn m n)<0)=(!m&&decide (n≠0))/\(-(sgn m n)).natAbs=n:=by
 unfold sgn
 cases m
 ·refine⟨?_,by simp⟩;by_cases h:n=0
  ·subst h;rfl
  ·simp[h];omega
 ·simp
theorem lM (n:Nat) (hn:n<1000000000000) (w:World) :
  Calls Tryz.prog 94 #[.int .i64 n] w fun e w'=>∃ v,e=.returned v/\bV w' v ⟨false,n,1⟩/\Below w.heap.size w w':=by
 have hl:=bA w (.cells #[.bool false,.slice none 0 0,.bool false,.slice none 0 0] 87);go_enter Tryz.func94,Tryz.ntmps94;go_upto_region 1 with fail
 generalize w.alloc (.cells #[.bool false,.slice none 0 0,.bool false,.slice none 0 0] 87)=w1 at *
 go_wp2_with fail
 refine (jG n hn w1).mono ?_;rintro e w2 ⟨v2,rfl,hz2,hb2⟩;obtain⟨p2,N2,c2,rfl,hN2,hNc2,hcm2,hd2⟩:=hz2.nat;have s0:=(hb2.block _ (ak hl.s0)).trans hl.s0;have HB2:=hl.below.trans (hb2.mono hl.below.size);have HD2:=GF hd2;clear hl hb2 hz2 hd2;go_wp2_with fail
 refine (jG 1 (by omega) w2).mono ?_;rintro e w3 ⟨v3,rfl,hz3,hb3⟩;obtain⟨p3,N3,c3,rfl,hN3,hNc3,hcm3,hd3⟩:=hz3.nat;have u2:=(hb3.block _ (ak s0)).trans s0;have HB3:=HB2.trans (hb3.mono HB2.size);have hP:=bj (u0:=.bool false) (u1:=.slice p2 N2 c2) (u2:=.bool false) (u3:=.slice p3 N3 c3) u2
 have hZ:Hid (bV (d7 w3 w.heap.size (.bool false) (.slice p2 N2 c2) (.bool false) (.slice p3 N3 c3)) (.agg #[.bool false,.slice p2 N2 c2,.bool false,.slice p3 N3 c3]) ⟨false,n,1⟩) :=
  ⟨_,_,rfl,hP.isI u2 bU (HD2.out.below hb3),hP.isI u2 bU hd3⟩
 have hB:=HB3.trans (hP.below w.heap.size (by omega));have q0:=ai u2 0;have q1:=ai u2 1;have q2:=ai u2 2;have q3:=ai u2 3;have f0:=Kg w3 w.heap.size 0 _ _ u2;have f1:=Kg w3 w.heap.size 1 _ _ u2;have f2:=Kg w3 w.heap.size 2 _ _ u2;have f3:=Kg w3 w.heap.size 3 _ _ u2;clear s0 HB2 hb3 hz3 hd3 HD2;go_wp2_with fail
 (try simp only[Exit.inBlock,Exit.then])
 change bodyPost _ _ _ _ _ (d7 w3 w.heap.size (.bool false) (.slice p2 N2 c2) (.bool false) (.slice p3 N3 c3));refine Kh (results_cell_row rfl _ _ w.heap.size _ _ (0,0) _ rfl hP.row Tryz.underlying87 rfl (by kernel_rfl)) rfl ?_;exact⟨_,rfl,hZ.out,hB⟩
theorem uf (v:Value) (r:Rt) (w:World) (hv:bV w v r) (hc:r.minus=true->r.n≠0) :
  Calls Tryz.prog 108 #[v] w fun e w'=>∃ v',e=.returned v'/\bV w' v' (m7 r)/\Below w.heap.size w w':=by
 obtain⟨p,N,c,p',N',c',rfl,hN,hNc,hcm,hN',hNc',hcm',hdn,hdd⟩:=hv.parts;obtain⟨m,n,d⟩:=r;simp only at hN hN' hdn hdd hc |-;have hl:=jH w (.cells #[.bool m,.slice p N c,.bool false,.slice p' N' c'] 87) (.cells #[.bool false,.slice none 0 0,.bool false,.slice none 0 0] 87);have HDN:=GF (hdn.below hl.below);have HDD:=GF (hdd.below hl.below);have HC:=GF hc;clear hv hdn hdd hc;go_enter Tryz.func108,Tryz.ntmps108;go_upto_region 1 with fail
 generalize (w.alloc (.cells #[.bool m,.slice p N c,.bool false,.slice p' N' c'] 87)).alloc (.cells #[.bool false,.slice none 0 0,.bool false,.slice none 0 0] 87)=w1 at *
 have hbd:Below w1.heap.size w1 w1.drew:=(Ki _ _).drew;have r0:=(hbd.block _ (ak hl.s0)).trans hl.s0;have r1:=(hbd.block _ (ak hl.s1)).trans hl.s1;have HB1:=hl.below.trans (hbd.mono hl.below.size);have HN1:=GF (HDN.out.below hbd);have HD1:=GF (HDD.out.below hbd);have hsz:w1.drew.heap.size=w.heap.size+1+1:=hl.size;clear HDN HDD hl hbd;have hS:(fun wx:World=>wx.cell? ⟨w.heap.size,0,none⟩=some (.bool m)/\wx.cell? ⟨w.heap.size,1,none⟩=some (.slice p N c)/\wx.cell? ⟨w.heap.size,2,none⟩=some (.bool false)/\wx.cell? ⟨w.heap.size,3,none⟩=some (.slice p' N' c')) w1.drew:=⟨ai r0 0,ai r0 1,ai r0 2,ai r0 3⟩;refine wp_mono (aD (Q:=aX _) (fun wx:World=>wx.cell? ⟨w.heap.size,0,none⟩=some (.bool m)/\wx.cell? ⟨w.heap.size,1,none⟩=some (.slice p N c)/\wx.cell? ⟨w.heap.size,2,none⟩=some (.bool false)/\wx.cell? ⟨w.heap.size,3,none⟩=some (.slice p' N' c')) (fun i=>i == 6) (by kernel_rfl) ?_) (fun _ _ _ h=>bf h);generalize w1.drew=w2 at *
 refine Kf 0 (r:=?_)
 try simp only[Act.put,GJ,GI,GH,GG,GL,GK]
 refine Kf 3 (r:=?_)
 try simp only[Act.put,GJ,GI,GH,GG,GL,GK]
 refine aE (i:=1) (v:=?vvA) rfl (by kernel_rfl) (fun _ _ _ h=>h) rfl hS ?hyA ?restA
 case hyA =>
  intro wy hy;obtain⟨q0,q1,q2,q3⟩:=hy;go_simp;try with_reducible rfl
 try simp only[Act.put,GJ,GI,GH,GG,GL,GK]
 refine aE (i:=4) (v:=?vvB) rfl (by kernel_rfl) (fun _ _ _ h=>h) rfl hS ?hyB ?restB
 case hyB =>
  intro wy hy;obtain⟨q0,q1,q2,q3⟩:=hy;go_simp;try with_reducible rfl
 try simp only[Act.put,GJ,GI,GH,GG,GL,GK]
 refine aA (i:=2) rfl (by kernel_rfl) rfl (fun K hK=>?_);go_simp;refine (ji _ _ w2 (vL HN1.out HC.out)).mono ?_;rintro e w3 ⟨v3,rfl,hz3,hb3⟩;obtain⟨p3,N3,c3,rfl,hN3,hNc3,hcm3,hd3⟩:=hz3.parts;rw[(xO m n).2] at hd3;have hm3:=GF (xO m n).1;generalize decide (-sgn m n<0)=m3 at *
 have hlt:=ak r0;refine hK _ _ (fun _ hs=>⟨(hb3.cell (p:=⟨_,_,none⟩) hlt).trans hs.1,(hb3.cell (p:=⟨_,_,none⟩) hlt).trans hs.2.1,(hb3.cell (p:=⟨_,_,none⟩) hlt).trans hs.2.2.1,(hb3.cell (p:=⟨_,_,none⟩) hlt).trans hs.2.2.2⟩) ?_;clear hK K hS;try simp only[Act.put,GJ,GI,GH,GG,GL,GK]
 have u2:=(hb3.block _ (ak r1)).trans r1;have HB3:=HB1.trans (hb3.mono HB1.size);have hP:=bj (u0:=.bool m3) (u1:=.slice p3 N3 c3) (u2:=.bool false) (u3:=.slice p' N' c') u2
 have hZ:Hid (bV (d7 w3 (w.heap.size+1) (.bool m3) (.slice p3 N3 c3) (.bool false) (.slice p' N' c')) (.agg #[.bool m3,.slice p3 N3 c3,.bool false,.slice p' N' c']) (m7 ⟨m,n,d⟩)) :=
  ⟨_,_,by rw[show (m7 ⟨m,n,d⟩).minus=m3 from hm3.out.symm],hP.isI u2 bU hd3,hP.isI u2 bU (HD1.out.below hb3)⟩
 have hB:=HB3.trans (hP.below w.heap.size (by omega));have q0:=ai u2 0;have q1:=ai u2 1;have q2:=ai u2 2;have q3:=ai u2 3;have f0:=Kg w3 (w.heap.size+1) 0 _ _ u2;have f1:=Kg w3 (w.heap.size+1) 1 _ _ u2;have f2:=Kg w3 (w.heap.size+1) 2 _ _ u2;have f3:=Kg w3 (w.heap.size+1) 3 _ _ u2;clear HN1 HD1 hd3 hz3 HB1 r0 r1;refine Kf 5 (r:=?_)
 try simp only[Act.put,GJ,GI,GH,GG,GL,GK]
 refine aA (i:=6) rfl (by kernel_rfl) rfl (fun K hK=>?_);go_simp;change K _ (d7 w3 (w.heap.size+1) (.bool m3) (.slice p3 N3 c3) (.bool false) (.slice p' N' c'));refine hK _ _ (fun h=>by cases h) ?_;clear hK K q0 q1 q2 q3 f0 f1 f2 f3;try simp only[Act.put,GJ,GI,GH,GG,GL,GK]
 refine aK (by kernel_rfl) ?_ _;simp only[aX];go_wp2_with fail
 (try simp only[Exit.inBlock,Exit.then])
 refine Kh (results_cell_row rfl _ _ (w.heap.size+1) _ _ (0,0) _ rfl hP.row Tryz.underlying87 rfl (by kernel_rfl)) rfl ?_;exact⟨_,rfl,hZ.out,hB⟩
def IsC (w:World) (v:Value) (z:Vl):Prop:=∃ a b c d,v=.agg #[.bool z.x.minus,a,.bool false,b,.bool z.y.minus,c,.bool false,d]/\IsD w a z.x.n/\IsD w b z.x.d/\IsD w c z.y.n/\IsD w d z.y.d
theorem IsC.below {w w':World}{v:Value}{z:Vl} (h:IsC w v z) (hb:Below w.heap.size w w'):IsC w' v z:=by
 obtain⟨a,b,c,d,e,h1,h2,h3,h4⟩:=h;exact⟨a,b,c,d,e,h1.below hb,h2.below hb,h3.below hb,h4.below hb⟩
theorem uj (v:Value) (r:Rt) (w:World) (hv:bV w v r) :
  Calls Tryz.prog 103 #[v] w fun e w'=>∃ v',e=.returned v'/\IsC w' v' ⟨r,fv⟩/\Below w.heap.size w w':=by
 obtain⟨p,N,c,p',N',c',rfl,hN,hNc,hcm,hN',hNc',hcm',hdn,hdd⟩:=hv.parts;obtain⟨m,n,d⟩:=r;simp only at hN hN' hdn hdd |-;have hl:=jH w (.cells #[.bool m,.slice p N c,.bool false,.slice p' N' c'] 87) (.cells #[.bool false,.slice none 0 0,.bool false,.slice none 0 0,.bool false,.slice none 0 0,.bool false,.slice none 0 0] 92);have HDN:=GF (hdn.below hl.below);have HDD:=GF (hdd.below hl.below);clear hv hdn hdd;go_enter Tryz.func103,Tryz.ntmps103;go_upto_region 1 with fail
 generalize (w.alloc (.cells #[.bool m,.slice p N c,.bool false,.slice p' N' c'] 87)).alloc (.cells #[.bool false,.slice none 0 0,.bool false,.slice none 0 0,.bool false,.slice none 0 0,.bool false,.slice none 0 0] 92)=w1 at *
 have hbd:Below w1.heap.size w1 w1.drew:=(Ki _ _).drew;have r0:=(hbd.block _ (ak hl.s0)).trans hl.s0;have r1:=(hbd.block _ (ak hl.s1)).trans hl.s1;have HB1:=hl.below.trans (hbd.mono hl.below.size);have HN1:=GF (HDN.out.below hbd);have HD1:=GF (HDD.out.below hbd);have hsz:w1.drew.heap.size=w.heap.size+1+1:=hl.size;clear HDN HDD hl hbd;have hS:(fun wx:World=>wx.cell? ⟨w.heap.size,0,none⟩=some (.bool m)/\wx.cell? ⟨w.heap.size,1,none⟩=some (.slice p N c)/\wx.cell? ⟨w.heap.size,2,none⟩=some (.bool false)/\wx.cell? ⟨w.heap.size,3,none⟩=some (.slice p' N' c')) w1.drew:=⟨ai r0 0,ai r0 1,ai r0 2,ai r0 3⟩;refine wp_mono (aD (Q:=aX _) (fun wx:World=>wx.cell? ⟨w.heap.size,0,none⟩=some (.bool m)/\wx.cell? ⟨w.heap.size,1,none⟩=some (.slice p N c)/\wx.cell? ⟨w.heap.size,2,none⟩=some (.bool false)/\wx.cell? ⟨w.heap.size,3,none⟩=some (.slice p' N' c')) (fun i=>i == 3) (by kernel_rfl) ?_) (fun _ _ _ h=>bf h);generalize w1.drew=w2 at *
 refine aE (i:=0) (v:=?vvA) rfl (by kernel_rfl) (fun _ _ _ h=>h) rfl hS ?hyA ?restA
 case hyA =>
  intro wy hy;obtain⟨q0,q1,q2,q3⟩:=hy;go_simp;try with_reducible rfl
 try simp only[Act.put,GJ,GI,GH,GG,GL,GK]
 refine aA (i:=1) rfl (by kernel_rfl) rfl (fun K hK=>?_);go_simp;refine (lM 0 (by omega) w2).mono ?_;rintro e w3 ⟨v3,rfl,hz3,hb3⟩;obtain⟨p3,N3,c3,p4,N4,c4,rfl,hN3,hNc3,hcm3,hN4,hNc4,hcm4,hd3,hd4⟩:=hz3.parts;have hlt:=ak r0;refine hK _ _ (fun _ hs=>⟨(hb3.cell (p:=⟨_,_,none⟩) hlt).trans hs.1,(hb3.cell (p:=⟨_,_,none⟩) hlt).trans hs.2.1,(hb3.cell (p:=⟨_,_,none⟩) hlt).trans hs.2.2.1,(hb3.cell (p:=⟨_,_,none⟩) hlt).trans hs.2.2.2⟩) ?_;clear hK K hS;try simp only[Act.put,GJ,GI,GH,GG,GL,GK]
 have u2:=(hb3.block _ (ak r1)).trans r1;have HB3:=HB1.trans (hb3.mono HB1.size);have hP:=bK (u0:=.bool m) (u1:=.slice p N c) (u2:=.bool false) (u3:=.slice p' N' c') (u4:=.bool false) (u5:=.slice p3 N3 c3) (u6:=.bool false) (u7:=.slice p4 N4 c4) u2
 have hZ:Hid (IsC (cS w3 (w.heap.size+1) (.bool m) (.slice p N c) (.bool false) (.slice p' N' c') (.bool false) (.slice p3 N3 c3) (.bool false) (.slice p4 N4 c4)) (.agg #[.bool m,.slice p N c,.bool false,.slice p' N' c',.bool false,.slice p3 N3 c3,.bool false,.slice p4 N4 c4]) ⟨⟨m,n,d⟩,fv⟩) :=
  ⟨_,_,_,_,rfl,hP.isI u2 bJ (HN1.out.below hb3),hP.isI u2 bJ (HD1.out.below hb3),hP.isI u2 bJ hd3,hP.isI u2 bJ hd4⟩
 have hB:=HB3.trans (hP.below w.heap.size (by omega));have q0:=ai u2 0;have q1:=ai u2 1;have q2:=ai u2 2;have q3:=ai u2 3;have q4:=ai u2 4;have q5:=ai u2 5;have q6:=ai u2 6;have q7:=ai u2 7;have f0:=Kg w3 (w.heap.size+1) 0 _ _ u2;have f1:=Kg w3 (w.heap.size+1) 1 _ _ u2;have f2:=Kg w3 (w.heap.size+1) 2 _ _ u2;have f3:=Kg w3 (w.heap.size+1) 3 _ _ u2;have f4:=Kg w3 (w.heap.size+1) 4 _ _ u2;have f5:=Kg w3 (w.heap.size+1) 5 _ _ u2;have f6:=Kg w3 (w.heap.size+1) 6 _ _ u2;have f7:=Kg w3 (w.heap.size+1) 7 _ _ u2;clear HN1 HD1 hd3 hd4 hz3 HB1 r0 r1;refine Kf 2 (r:=?_)
 try simp only[Act.put,GJ,GI,GH,GG,GL,GK]
 refine aA (i:=3) rfl (by kernel_rfl) rfl (fun K hK=>?_);go_simp;change K _ (cS w3 (w.heap.size+1) (.bool m) (.slice p N c) (.bool false) (.slice p' N' c') (.bool false) (.slice p3 N3 c3) (.bool false) (.slice p4 N4 c4));refine hK _ _ (fun h=>by cases h) ?_;clear hK K q0 q1 q2 q3 f0 f1 f2 f3 q4 q5 q6 q7 f4 f5 f6 f7;try simp only[Act.put,GJ,GI,GH,GG,GL,GK]
 refine aK (by kernel_rfl) ?_ _;simp only[aX];go_wp2_with fail
 (try simp only[Exit.inBlock,Exit.then])
 refine Kh (results_cell_row rfl _ _ (w.heap.size+1) _ _ (0,0) _ rfl hP.row Tryz.underlying92 rfl (by kernel_rfl)) rfl ?_;exact⟨_,rfl,hZ.out,hB⟩
structure nF (a b:List Nat) (i carry:Nat) (out:List Nat):Prop where
 len:out.length=i
 dig:∀ d∈out,d<RR
 car:carry<=1
 eq:val RR out+carry*RR ^ i=val RR (a.take i)+val RR (b.take i)
theorem vR (a b:List Nat):nF a b 0 0 []:=⟨rfl,by simp,by omega,by simp⟩
theorem zF {a b out:List Nat}{i carry:Nat} (ha:∀ d∈a,d<RR) (hb:∀ d∈b,d<RR) (h:nF a b i carry out) :
  nF a b (i+1) ((carry+nth a i+nth b i) / RR) (out++[(carry+nth a i+nth b i) % RR]):=by
 have h1:=cH (j:=i) ha;have h2:=cH (j:=i) hb;have h3:=h.car;have he:=h.eq;refine⟨by simp[h.len],?_,?_,?_⟩
 ·intro d hd;rcases Ik.1 hd with hd | hd
  ·exact h.dig d hd
  ·rw[Io.1 hd];exact Il _ (by decide)
 ·rw[ij] at *;omega
 ·rw[et,h.len,gM,gM];have e4:=H7 (carry+nth a i+nth b i) RR;generalize (carry+nth a i+nth b i) / RR=q at *
  generalize (carry+nth a i+nth b i) % RR=r at *
  have hp:RR ^ (i+1)=RR*RR ^ i:=by rw[G6,G5]
  rw[hp];have:(RR*q+r)*RR ^ i=(carry+nth a i+nth b i)*RR ^ i:=by rw[e4]
  grind
theorem BR {a b out:List Nat}{i:Nat} (h:nF a b i 0 out) (h1:a.length<=i) (h2:b.length<=i):val RR out=val RR a+val RR b:=by
 have he:=h.eq;rw[GU h1,GU h2] at he;omega
def SumD (w:World) (v:Value) (n:Nat):Prop:=∃ o,IsI w v o/\(∀ d∈o,d<RR)/\val RR o=n
theorem BQ (va vb:Value) (l m:List Nat) (w:World) (ha:IsI w va l) (hb:IsI w vb m) (hl:∀ d∈l,d<RR) (hm:∀ d∈m,d<RR) (hfl:l.length<1000000) (hfm:m.length<1000000) :
  Calls Tryz.prog 194 #[va,vb] w fun e w'=>∃ v,e=.returned v/\SumD w' v (val RR l+val RR m)/\Below w.heap.size w w':=by
 obtain⟨p,cap,rfl,hlc,hcm,hcell⟩:=ha;obtain⟨p',cap',rfl,hlc',hcm',hcell'⟩:=hb;unfold maxLen at hcm hcm';go_enter Tryz.func194,Tryz.ntmps194;go_wp2;go_loopw [5,6,7] (fun s5 s6 s7 wr=>∃ (i carry:Nat) (out:List Nat),s6=.int .i64 carry/\s7=.int .i64 i/\(i<=max l.length m.length\/(carry=0/\i=max l.length m.length+1))/\Hid (nF l m i carry out)/\Hid (ew wr w.heap.size s5 out)/\Below w.heap.size w wr) (fun _ _ s7 _=>max l.length m.length+1-(intOf s7).toNat)
 case atStart=>exact⟨0,0,[],rfl,rfl,Or.inl (GY _),vR l m,World.ownsRow_nil _ _ _ _,Ki _ _⟩
 case round =>
  obtain⟨i,carry,out,rfl,rfl,hi,hst,hown,hbw⟩:=hrel;have hsz:=hbw.size;have hx:=cH (j:=i) hl;have hy:=cH (j:=i) hm;have hcar:=hst.out.car;have hol:=hst.out.len;have hstep:=GF (zF hl hm hst.out);rw[ij] at hx hy hstep;obtain⟨x,hxe⟩:∃ x,x=nth l i:=⟨_,rfl⟩;obtain⟨y,hye⟩:∃ y,y=nth m i:=⟨_,rfl⟩;rw[<-hxe] at hx hstep;rw[<-hye] at hy hstep;by_cases hil:i<l.length
  ·obtain⟨b,o,rfl,hbb,hc⟩:=hcell (by omega);have hc1:=(hbw.cell (p:=⟨b,o+i,none⟩) hbb).trans (hc i hil);rw[<-hxe] at hc1;have hilI:decide ((i:Int)<(l.length:Int))=true:=by simp;omega
   by_cases him:i<m.length
   ·obtain⟨b',o',rfl,hbb',hc'⟩:=hcell' (by omega);have hc1':=(hbw.cell (p:=⟨b',o'+i,none⟩) hbb').trans (hc' i him);rw[<-hye] at hc1';clear hc hcell hc' hcell' hst hxe hye;have himI:decide ((i:Int)<(m.length:Int))=true:=by simp;omega
    have hr:((carry:Int)+x+y).tmod 10000=(((carry+x+y) % 10000:Nat):Int):=by rw[Iw (by omega)];omega
    have hq:((carry:Int)+x+y).tdiv 10000=(((carry+x+y) / 10000:Nat):Int):=by rw[Im (by omega)];omega
    go_wp2_with (at_builtin;refine bG 22 Tryz.underlying22 rfl (.tmp 44) (.tmp 47) rfl w.heap.size _ out _ _ hr rfl hown.out rfl (by omega) hsz ?_)
    intro v' w1 hown' hb';have hb1:=hb' _ _ hbw (GM _);clear hown hbw hb';have HO:=GF hown';clear hown';go_wp2;go_roundw;case rel=>exact⟨i+1,_,_,by first | rfl | (rw[hq]),by go_num,by omega,hstep,HO,hb1⟩
    case measure=>simp[intOf];omega
   ·have hy0:y=0:=by rw[hye];exact fV (by omega)
    subst hy0;clear hc hcell hcell' hst hxe hye;have himI:decide ((i:Int)<(m.length:Int))=false:=by simp;omega
    have hr:((carry:Int)+x).tmod 10000=(((carry+x+0) % 10000:Nat):Int):=by rw[Iw (by omega)];omega
    have hq:((carry:Int)+x).tdiv 10000=(((carry+x+0) / 10000:Nat):Int):=by rw[Im (by omega)];omega
    go_wp2_with (at_builtin;refine bG 22 Tryz.underlying22 rfl (.tmp 44) (.tmp 47) rfl w.heap.size _ out _ _ hr rfl hown.out rfl (by omega) hsz ?_)
    intro v' w1 hown' hb';have hb1:=hb' _ _ hbw (GM _);clear hown hbw hb';have HO:=GF hown';clear hown';go_wp2;go_roundw;case rel=>exact⟨i+1,_,_,by first | rfl | (rw[hq]),by go_num,by omega,hstep,HO,hb1⟩
    case measure=>simp[intOf];omega
  ·have hx0:x=0:=by rw[hxe];exact fV (by omega)
   subst hx0;have hilI:decide ((i:Int)<(l.length:Int))=false:=by simp;omega
   by_cases him:i<m.length
   ·obtain⟨b',o',rfl,hbb',hc'⟩:=hcell' (by omega);have hc1':=(hbw.cell (p:=⟨b',o'+i,none⟩) hbb').trans (hc' i him);rw[<-hye] at hc1';clear hcell hc' hcell' hst hxe hye;have himI:decide ((i:Int)<(m.length:Int))=true:=by simp;omega
    have hr:((carry:Int)+y).tmod 10000=(((carry+0+y) % 10000:Nat):Int):=by rw[Iw (by omega)];omega
    have hq:((carry:Int)+y).tdiv 10000=(((carry+0+y) / 10000:Nat):Int):=by rw[Im (by omega)];omega
    go_wp2_with (at_builtin;refine bG 22 Tryz.underlying22 rfl (.tmp 44) (.tmp 47) rfl w.heap.size _ out _ _ hr rfl hown.out rfl (by omega) hsz ?_)
    intro v' w1 hown' hb';have hb1:=hb' _ _ hbw (GM _);clear hown hbw hb';have HO:=GF hown';clear hown';go_wp2;go_roundw;case rel=>exact⟨i+1,_,_,by first | rfl | (rw[hq]),by go_num,by omega,hstep,HO,hb1⟩
    case measure=>simp[intOf];omega
   ·have hy0:y=0:=by rw[hye];exact fV (by omega)
    subst hy0;have himI:decide ((i:Int)<(m.length:Int))=false:=by simp;omega
    by_cases hc0:0<carry
    ·have hcI:decide ((0:Int)<(carry:Int))=true:=by simp;omega
     clear hcell hcell' hst hxe hye;have hr:((carry:Int)).tmod 10000=(((carry+0+0) % 10000:Nat):Int):=by rw[Iw (by omega)];omega
     have hq:((carry:Int)).tdiv 10000=(((carry+0+0) / 10000:Nat):Int):=by rw[Im (by omega)];omega
     go_wp2_with (at_builtin;refine bG 22 Tryz.underlying22 rfl (.tmp 44) (.tmp 47) rfl w.heap.size _ out _ _ hr rfl hown.out rfl (by omega) hsz ?_)
     intro v' w1 hown' hb';have hb1:=hb' _ _ hbw (GM _);clear hown hbw hb';have HO:=GF hown';clear hown';go_wp2;go_roundw;case rel=>exact⟨i+1,_,_,by first | rfl | (rw[hq]),by go_num,by omega,hstep,HO,hb1⟩
     case measure=>simp[intOf];omega
    ·obtain rfl:carry=0:=by omega
     have hend:=GF (BR hst.out (by omega) (by omega));have hdg:=GF hst.out.dig;have hoi:=GF (ew.isU hown.out);clear hcell hcell' hst hxe hye hown;go_wp2;go_ret;exact⟨_,rfl,⟨_,hoi.out,hdg.out,hend.out⟩,hbw⟩
theorem AD (m:Bool) (a b:Nat):sgn m (a+b)=sgn m a+sgn m b:=by unfold sgn;cases m<;>simp;omega
theorem CN {m:Bool}{x:Int} (h:m=decide (x<0)):sgn m x.natAbs=x:=by subst h;exact oY x
structure pG (w:World) (g:Nat) (ma:Bool) (p:Option Addr) (N c:Nat) (mb:Bool) (p':Option Addr) (N' c':Nat):Prop where
 s0:w.heap[g]?=some (.cells #[.bool ma,.slice p N c] 85 (0,0))
 s1:w.heap[g+1]?=some (.cells #[.bool mb,.slice p' N' c'] 85 (0,0))
 s2:w.heap[g+1+1]?=some (.cells #[.bool false,.slice none 0 0] 85 (0,0))
theorem pG.below {w w':World}{g:Nat}{ma:Bool}{p:Option Addr}{N c:Nat}{mb:Bool}{p':Option Addr}{N' c':Nat} (h:pG w g ma p N c mb p' N' c') (hb:Below w.heap.size w w'):pG w' g ma p N c mb p' N' c' :=
 ⟨(hb.block _ (ak h.s0)).trans h.s0,(hb.block _ (ak h.s1)).trans h.s1,(hb.block _ (ak h.s2)).trans h.s2⟩
open Go.RowKit Dg Dc
theorem Gg {t:ByteArray}{l:List UInt8} (h:t.data.toList=l):t=⟨l.toArray⟩:=by rw[<-h]
theorem DY {w:World}{p:Option Addr}{N c d:Nat} (h:IsD w (.slice p N c) d) (hd:0<d):(N=1/\nth (av RR d) 0=1)↔d=1:=by
 rw[rM h]
 have hv:=aF aQ d
 constructor
 ·rintro⟨h1,h2⟩
  generalize av RR d=l at *
  match l,h1 with
  | [a],_=>simp[nth] at h2;subst h2;rw[<-hv];rfl
 ·intro h
  subst h
  have:av RR 1=[1]:=by
   have:=cU aQ (l:=[1]) (by intro d hd;rw[Io.1 hd];decide)
   rw[show val RR [1]=1 from rfl] at this
   rw[<-this];decide
  rw[this];exact⟨rfl,rfl⟩
theorem mw (m:Bool) (p:Option Addr) (N c n:Nat) (w:World) (hv:IsD w (.slice p N c) n) (hf:bC n) :
  Calls Tryz.prog 204 #[.agg #[.bool m,.slice p N c]] w fun e w'=>e=.returned (.string ⟨((if m then [45] else [])++dec n).toArray⟩)/\Below w.heap.size w w':=by
 have hl:=bA w (.cells #[.bool m,.slice p N c] 85);have HD:=GF (hv.below hl.below);have x0:=ai hl.s0 0;have x1:=ai hl.s0 1;have HB:=hl.below;clear hv hl;go_enter Tryz.func204,Tryz.ntmps204;go_upto_region 1 with fail
 generalize w.alloc (.cells #[.bool m,.slice p N c] 85)=w1 at *
 cases m
 all_goals
  go_wp2_with fail
  refine (vF _ n w1 HD.out hf).mono ?_;rintro e w2 ⟨t,rfl,ht,hts,rfl⟩;go_wp2_with fail
  go_ret;refine⟨?_,HB⟩;have ht':=Gg ht.out;subst ht'
  first | rfl | (congr 2;simp) | (show Ending.returned _=Ending.returned _;congr 2;simp)
theorem lF (m:Bool) (p:Option Addr) (N c n:Nat) (w:World) (hv:IsD w (.slice p N c) n) (hf:bC n) :
  Calls Tryz.prog 162 #[.agg #[.bool m,.slice p N c]] w fun e w'=>e=.returned (.bool (decide (2000<(dec n).length)))/\Below w.heap.size w w':=by
 have hl:=bA w (.cells #[.bool m,.slice p N c] 85);have HD:=GF (hv.below hl.below);have x1:=ai hl.s0 1;have HB:=hl.below;clear hv hl;go_enter Tryz.func162,Tryz.ntmps162;go_upto_region 1 with fail
 generalize w.alloc (.cells #[.bool m,.slice p N c] 85)=w1 at *
 go_wp2_with fail
 refine (BN _ n w1 HD.out hf).mono ?_;rintro e w2 ⟨rfl,rfl⟩;have hd:decide ((2000:Int)<((dec n).length:Nat))=decide (2000<(dec n).length):=by rw[decide_eq_decide];omega
 have HDD:=GF hd;clear hd;go_wp2_with fail
 go_ret;refine⟨?_,HB⟩;rw[<-HDD.out];rfl
theorem iW (v:Value) (r:Rt) (w:World) (hv:bV w v r) :
  Calls Tryz.prog 160 #[v] w fun e w'=>e=.returned (.bool (decide (r.n=0)))/\Below w.heap.size w w':=by
 obtain⟨p,N,c,p',N',c',rfl,hN,hNc,hcm,hN',hNc',hcm',hdn,hdd⟩:=hv.parts;have hl:=bA w (.cells #[.bool r.minus,.slice p N c,.bool false,.slice p' N' c'] 87);have x1:=ai hl.s0 1;have HB:=hl.below
 have hz:Hid (((N:Int) == 0)=decide (r.n=0)):=by
  have:=fp hdn;unfold Hid;rw[IY];simp;omega
 clear hl hv;generalize r.minus=m at *
 go_enter Tryz.func160,Tryz.ntmps160;go_wp2_with fail
 go_ret;refine⟨?_,HB⟩;rw[<-hz.out];rfl
theorem tD {w:World}{p:Option Addr}{N c n j:Nat} (h:IsD w (.slice p N c) n) (hj:j<N):∃ b o,p=some ⟨b,o,none⟩/\b<w.heap.size/\w.cell? ⟨b,o+j,none⟩=some (.int .i64 (nth (av RR n) j)):=by
 have hl:=rM h;obtain⟨p',c',e,h1,h2,h3⟩:=h;obtain⟨rfl,_,rfl⟩:p'=p/\N=(av RR n).length/\c'=c:=by simp at e;exact⟨e.1.symm,e.2.1,e.2.2.symm⟩
 obtain⟨b,o,e2,hb,hc⟩:=h3 (by omega);exact⟨b,o,e2,hb,hc j (by omega)⟩
theorem rD {n:Nat} (h:bC n):(dec n).length<=400004:=by
 have h1:=bZ aQ n;rw[v_] at h1;unfold bC at h;have h2:=bR (k:=4*(av RR n).length+1) (by omega) (GN h1 (G1 (by omega) (by omega)));omega
theorem qP {m:Bool}{n:Nat} (h:bC n):(⟨((if m then [45] else [])++dec n).toArray⟩:ByteArray).size<=400005:=by
 have:=rD h;have h2:=fw (t:=(⟨((if m then [45] else [])++dec n).toArray⟩:ByteArray)) (l:=(if m then [45] else [])++dec n) (by simp);rw[h2]
 cases m<;>simp<;>omega
theorem iV (v:Value) (r:Rt) (w:World) (hv:bV w v r) (hd0:0<r.d) (hfn:bC r.n) (hfd:bC r.d) :
  Calls Tryz.prog 161 #[v] w fun e w'=>e=.returned (.string ⟨(aJ r).toArray⟩)/\Below w.heap.size w w':=by
 obtain⟨p,N,c,p',N',c',rfl,hN,hNc,hcm,hN',hNc',hcm',hdn,hdd⟩:=hv.parts;obtain⟨m,n,d⟩:=r;simp only at *
 have hl:=bA w (.cells #[.bool m,.slice p N c,.bool false,.slice p' N' c'] 87);have HDN:=GF (hdn.below hl.below);have HDD:=GF (hdd.below hl.below);have x0:=ai hl.s0 0;have x1:=ai hl.s0 1;have x2:=ai hl.s0 2;have x3:=ai hl.s0 3;have HB:=hl.below;have HL:=GF (ak hl.s0);have hone:=DY hdd hd0;have hst1:=qP (m:=m) hfn;have hst2:=qP (m:=false) hfd;have HT:Hid (aJ ⟨m,n,d⟩=(if m then [45] else [])++dec n++(if 1<d then 47 :: dec d else [])):=rfl;have HF:=GF hfn;have HF':=GF hfd;clear hv hl hdn hfn hfd;go_enter Tryz.func161,Tryz.ntmps161;go_upto_region 1 with fail
 generalize w.alloc (.cells #[.bool m,.slice p N c,.bool false,.slice p' N' c'] 87)=w1 at *
 obtain⟨t1,ht1⟩:∃ t1:ByteArray,t1=⟨((if m then [45] else [])++dec n).toArray⟩:=⟨_,rfl⟩;rw[<-ht1] at hst1;have HT1:=GF (mw m p N c n w1 HDN.out HF.out);rw[<-ht1] at HT1;by_cases h1:d=1
 ·obtain⟨hN1,hn1⟩:=hone.2 h1;obtain⟨b,o,rfl,hb,hc⟩:=tD HDD.out (show 0<N' by omega);rw[Hq] at hc;rw[hn1] at hc;have hN1':((N':Int) == 1)=true:=by simp;omega
  have HR:Hid ((⟨(aJ ⟨m,n,d⟩).toArray⟩:ByteArray)=t1):=by unfold Hid;rw[HT.out,if_neg (show ¬ 1<d by omega),Ic,ht1]
  clear hone hn1 hst1 hst2 h1 ht1;go_wp2_with fail
  refine HT1.out.mono ?_;rintro e w2 ⟨rfl,hb2⟩;have HEND:=HB.trans (hb2.mono HB.size);go_wp2_with fail
  go_ret;exact⟨by rw[HR.out];rfl,HEND⟩
 ·obtain⟨t2,ht2⟩:∃ t2:ByteArray,t2=⟨((if false then [45] else [])++dec d).toArray⟩:=⟨_,rfl⟩;rw[<-ht2] at hst2;have HA:Hid (lV w1 204 #[.agg #[.bool m,.slice p N c]] ((.string t1))):=fun y=>bu.calls (by rw[ht1];exact mw m p N c n y.w (HDN.out.below y.h) HF.out);have HB2:Hid (lV w1 204 #[.agg #[.bool false,.slice p' N' c']] ((.string t2))):=fun y=>bu.calls (by rw[ht2];exact mw false p' N' c' d y.w (HDD.out.below y.h) HF'.out);have y0:∀ y:bu w1,y.w.cell? ⟨w.heap.size,0,none⟩=some (.bool m):=fun y=>(y.cell HL.out).trans x0;have y1:∀ y:bu w1,y.w.cell? ⟨w.heap.size,1,none⟩=some (.slice p N c):=fun y=>(y.cell HL.out).trans x1;have y2:∀ y:bu w1,y.w.cell? ⟨w.heap.size,2,none⟩=some (.bool false):=fun y=>(y.cell HL.out).trans x2;have y3:∀ y:bu w1,y.w.cell? ⟨w.heap.size,3,none⟩=some (.slice p' N' c'):=fun y=>(y.cell HL.out).trans x3
  have HR:Hid ((⟨(aJ ⟨m,n,d⟩).toArray⟩:ByteArray)=t1++⟨#[47]⟩++t2):=by
   unfold Hid;rw[HT.out,if_pos (show 1<d by omega),ht1,ht2]
   apply ByteArray.ext
   simp
  clear ht1 ht2;by_cases hN1:N'=1
  ·obtain⟨b,o,rfl,hb,hc⟩:=tD HDD.out (show 0<N' by omega);rw[Hq] at hc;have hnn:nth (av RR d) 0≠1:=fun e=>h1 (hone.1 ⟨hN1,e⟩);generalize nth (av RR d) 0=u at *
   have hu:((u:Int) == 1)=false:=by simp;omega
   have hN1':((N':Int) == 1)=true:=by simp;omega
   have hNp:0<N':=by omega
   have HN1:=GF hN1;clear hone h1 hnn hN1;go_upto_region 3 with fail
   clear x0 x1 x2 x3;refine du (by kernel_rfl) (by kernel_rfl) ?_;repeat (go_big_quiet_step ((go_at_call 204;first | with_reducible exact HA.out _ | with_reducible exact HB2.out _)))
   refine wpQuiet_nil ?_;rintro _ ⟨⟨w2,hbN⟩,rfl⟩;have HEND:=HB.trans (hbN.mono HB.size);clear HA HB2 y0 y1 y2 y3;go_wp2_with fail
   go_ret;exact⟨by rw[HR.out];rfl,HEND⟩
  ·have hN1':((N':Int) == 1)=false:=by simp;omega
   clear hone h1;go_upto_region 3 with fail
   clear x0 x1 x2 x3;refine du (by kernel_rfl) (by kernel_rfl) ?_;repeat (go_big_quiet_step ((go_at_call 204;first | with_reducible exact HA.out _ | with_reducible exact HB2.out _)))
   refine wpQuiet_nil ?_;rintro _ ⟨⟨w2,hbN⟩,rfl⟩;have HEND:=HB.trans (hbN.mono HB.size);clear HA HB2 y0 y1 y2 y3;go_wp2_with fail
   go_ret;exact⟨by rw[HR.out];rfl,HEND⟩
theorem IsC.parts {w:World}{v:Value}{z:Vl} (h:IsC w v z):∃ p0 n0 c0 p1 n1 c1 p2 n2 c2 p3 n3 c3,v=.agg #[.bool z.x.minus,.slice p0 n0 c0,.bool false,.slice p1 n1 c1,.bool z.y.minus,.slice p2 n2 c2,.bool false,.slice p3 n3 c3] /\
  bV w (.agg #[.bool z.x.minus,.slice p0 n0 c0,.bool false,.slice p1 n1 c1]) z.x/\bV w (.agg #[.bool z.y.minus,.slice p2 n2 c2,.bool false,.slice p3 n3 c3]) z.y:=by
 obtain⟨a,b,c,d,rfl,h1,h2,h3,h4⟩:=h;obtain⟨p0,n0,c0,rfl,_⟩:=h1.parts;obtain⟨p1,n1,c1,rfl,_⟩:=h2.parts;obtain⟨p2,n2,c2,rfl,_⟩:=h3.parts;obtain⟨p3,n3,c3,rfl,_⟩:=h4.parts;exact⟨p0,n0,c0,p1,n1,c1,p2,n2,c2,p3,n3,c3,rfl,⟨_,_,rfl,h1,h2⟩,⟨_,_,rfl,h3,h4⟩⟩
theorem jy {r:Rt} (h1:bC r.n) (h2:bC r.d):(⟨(aJ r).toArray⟩:ByteArray).size<=900000:=by
 have a:=rD h1;have b:=rD h2;rw[fw (t:=(⟨(aJ r).toArray⟩:ByteArray)) (l:=aJ r) (by simp)];unfold aJ;simp only[GW]
 split<;>split<;>simp<;>omega
theorem lR (v:Value) (z:Vl) (w:World) (hv:IsC w v z) (hdx:0<z.x.d) (hdy:0<z.y.d) (hfx:bC z.x.n) (hfx':bC z.x.d) (hfy:bC z.y.n) (hfy':bC z.y.d) :
  Calls Tryz.prog 104 #[v] w fun e w'=>e=.returned (.string ⟨(bE z).toArray⟩)/\Below w.heap.size w w':=by
 obtain⟨p0,n0,c0,p1,n1,c1,p2,n2,c2,p3,n3,c3,rfl,hx,hy⟩:=hv.parts;obtain⟨x,y⟩:=z;simp only at *
 obtain⟨mx,hmx⟩:∃ mx,mx=x.minus:=⟨_,rfl⟩;obtain⟨my,hmy⟩:∃ my,my=y.minus:=⟨_,rfl⟩;rw[<-hmx] at hx |-;rw[<-hmy] at hy |-;have HMY:=GF hmy;have hl:=bA w (.cells #[.bool mx,.slice p0 n0 c0,.bool false,.slice p1 n1 c1,.bool my,.slice p2 n2 c2,.bool false,.slice p3 n3 c3] 92);have HX:=GF (hx.below hl.below);have HY:=GF (hy.below hl.below);have r0:=hl.s0;have HB:=hl.below;have HV0:Hid (bE ⟨x,y⟩=if y.n=0 then aJ x else (if x.n=0 then [] else aJ x++(if y.minus then [] else [43]))++bI y++[105]):=rfl;clear hv hl hx hy hmx hmy;have q4:=ai r0 4;have q5:=ai r0 5;have q6:=ai r0 6;have q7:=ai r0 7;go_enter Tryz.func104,Tryz.ntmps104;go_upto_region 1 with fail
 generalize w.alloc (.cells #[.bool mx,.slice p0 n0 c0,.bool false,.slice p1 n1 c1,.bool my,.slice p2 n2 c2,.bool false,.slice p3 n3 c3] 92)=w1 at *
 go_wp2_with fail
 refine (iW _ y w1 HY.out).mono ?_;rintro e w2 ⟨rfl,hb2⟩;have HX2:=GF (HX.out.below hb2);have HY2:=GF (HY.out.below hb2);have r2:=(hb2.block _ (ak r0)).trans r0;have HB2:=HB.trans (hb2.mono HB.size);clear q4 q5 q6 q7 r0 HX HY hb2 HB;have q0:=ai r2 0;have q1:=ai r2 1;have q2:=ai r2 2;have q3:=ai r2 3;by_cases hyz:y.n=0
 ·have hyd:decide (y.n=0)=true:=by simp[hyz]
  have HV:Hid (bE ⟨x,y⟩=aJ x):=by unfold Hid;rw[HV0.out,if_pos hyz]
  rw[hyd];clear hyz hyd;go_wp2_with fail
  refine (iV _ x w2 HX2.out hdx hfx hfx').mono ?_;rintro e w3 ⟨rfl,hb3⟩;have HEND:=HB2.trans (hb3.mono HB2.size);go_wp2_with fail
  go_ret;exact⟨by rw[HV.out];rfl,HEND⟩
 ·have hyd:decide (y.n=0)=false:=by simp[hyz]
  rw[hyd];clear hyd;go_wp2_with fail
  refine (iW _ x w2 HX2.out).mono ?_;rintro e w3 ⟨rfl,hb3⟩;have HX3:=GF (HX2.out.below hb3);have HY3:=GF (HY2.out.below hb3);have r3:=(hb3.block _ (ak r2)).trans r2;have HB3:=HB2.trans (hb3.mono HB2.size);clear q0 q1 q2 q3 r2 HX2 HY2 hb3 HB2;by_cases hxz:x.n=0
  ·have hxd:decide (x.n=0)=true:=by simp[hxz]
   have HV:Hid (bE ⟨x,y⟩=bI y++[105]):=by unfold Hid;rw[HV0.out,if_neg hyz,if_pos hxz];rfl
   rw[hxd];clear hxz hxd hyz HV0;have q4:=ai r3 4;have q5:=ai r3 5;have q6:=ai r3 6;have q7:=ai r3 7;go_wp2_with fail
   have HY4:=HY3;have HB4:=HB3;have r4:=r3;clear HY3 HB3 r3 HX3;refine (iV _ y w3 HY4.out hdy hfy hfy').mono ?_;rintro e w5 ⟨rfl,hb5⟩;have HEND:=HB4.trans (hb5.mono HB4.size);obtain⟨ty,hty⟩:∃ ty:ByteArray,ty=⟨(aJ y).toArray⟩:=⟨_,rfl⟩;have htl:ty.toList=aJ y:=by rw[hty,aC]
   have hsy:ty.size<=900000:=by rw[hty];exact jy hfy hfy'
   rw[<-hty];have HTY:=GF hty;clear hty hb5 r4;by_cases e1:aJ y=[49]
   ·have z1:(ty.toList == [49])=true:=by rw[htl,e1];rfl
    have HE:=GF e1;clear htl e1;go_wp2_with fail
    go_ret;refine⟨?_,HEND⟩;rw[HV.out]
    show Ending.returned (Value.string _)=Ending.returned (Value.string _)
    congr 2
    apply ByteArray.ext
    simp[bI,HE.out,Hk]
   ·by_cases e2:aJ y=[45,49]
    ·have z1:(ty.toList == [49])=false:=by rw[htl,e2];rfl
     have z2:(ty.toList == [45,49])=true:=by rw[htl,e2];rfl
     have HE:=GF e2;clear htl e1 e2;go_wp2_with fail
     go_ret;refine⟨?_,HEND⟩;rw[HV.out]
     show Ending.returned (Value.string _)=Ending.returned (Value.string _)
     congr 2
     apply ByteArray.ext
     simp[bI,HE.out,Hk]
    ·have z1:(ty.toList == [49])=false:=by rw[htl];simpa using e1
     have z2:(ty.toList == [45,49])=false:=by rw[htl];simpa using e2
     have HE:Hid (bI y=aJ y):=by unfold Hid bI;rw[if_neg (by rintro (h | h);exact e1 h;exact e2 h)]
     clear htl e1 e2;go_wp2_with fail
     go_ret;refine⟨?_,HEND⟩;rw[HV.out]
     show Ending.returned (Value.string _)=Ending.returned (Value.string _)
     congr 2
     apply ByteArray.ext
     simp[HE.out,HTY.out,Hk]
  ·have hxd:decide (x.n=0)=false:=by simp[hxz]
   rw[hxd];clear hxd;have q0:=ai r3 0;have q1:=ai r3 1;have q2:=ai r3 2;have q3:=ai r3 3;go_wp2_with fail
   refine (iV _ x w3 HX3.out hdx hfx hfx').mono ?_;rintro e w4 ⟨rfl,hb4⟩;have HY4:=GF (HY3.out.below hb4);have r4:=(hb4.block _ (ak r3)).trans r3;have HB4:=HB3.trans (hb4.mono HB3.size);clear q0 q1 q2 q3 r3 HX3 HY3 hb4 HB3;obtain⟨tx,htx⟩:∃ tx:ByteArray,tx=⟨(aJ x).toArray⟩:=⟨_,rfl⟩;have hsx:tx.size<=900000:=by rw[htx];exact jy hfx hfx'
   rw[<-htx];have HTX:=GF htx;clear htx;have q4:=ai r4 4;have q5:=ai r4 5;have q6:=ai r4 6;have q7:=ai r4 7
   cases my
   ·have HV:Hid (bE ⟨x,y⟩=aJ x++[43]++bI y++[105]):=by unfold Hid;rw[HV0.out,if_neg hyz,if_neg hxz,<-HMY.out];rfl
    clear hxz hyz HV0;go_wp2_with fail
    refine (iV _ y w4 HY4.out hdy hfy hfy').mono ?_;rintro e w5 ⟨rfl,hb5⟩;have HEND:=HB4.trans (hb5.mono HB4.size);obtain⟨ty,hty⟩:∃ ty:ByteArray,ty=⟨(aJ y).toArray⟩:=⟨_,rfl⟩;have htl:ty.toList=aJ y:=by rw[hty,aC]
    have hsy:ty.size<=900000:=by rw[hty];exact jy hfy hfy'
    rw[<-hty];have HTY:=GF hty;clear hty hb5 r4;by_cases e1:aJ y=[49]
    ·have z1:(ty.toList == [49])=true:=by rw[htl,e1];rfl
     have HE:=GF e1;clear htl e1;go_wp2_with fail
     go_ret;refine⟨?_,HEND⟩;rw[HV.out]
     show Ending.returned (Value.string _)=Ending.returned (Value.string _)
     congr 2
     apply ByteArray.ext
     simp[bI,HE.out,HTX.out]
    ·by_cases e2:aJ y=[45,49]
     ·have z1:(ty.toList == [49])=false:=by rw[htl,e2];rfl
      have z2:(ty.toList == [45,49])=true:=by rw[htl,e2];rfl
      have HE:=GF e2;clear htl e1 e2;go_wp2_with fail
      go_ret;refine⟨?_,HEND⟩;rw[HV.out]
      show Ending.returned (Value.string _)=Ending.returned (Value.string _)
      congr 2
      apply ByteArray.ext
      simp[bI,HE.out,HTX.out]
     ·have z1:(ty.toList == [49])=false:=by rw[htl];simpa using e1
      have z2:(ty.toList == [45,49])=false:=by rw[htl];simpa using e2
      have HE:Hid (bI y=aJ y):=by unfold Hid bI;rw[if_neg (by rintro (h | h);exact e1 h;exact e2 h)]
      clear htl e1 e2;go_wp2_with fail
      go_ret;refine⟨?_,HEND⟩;rw[HV.out]
      show Ending.returned (Value.string _)=Ending.returned (Value.string _)
      congr 2
      apply ByteArray.ext
      simp[HE.out,HTY.out,HTX.out]
   ·have HV:Hid (bE ⟨x,y⟩=aJ x++bI y++[105]):=by unfold Hid;rw[HV0.out,if_neg hyz,if_neg hxz,<-HMY.out];simp
    clear hxz hyz HV0;go_wp2_with fail
    refine (iV _ y w4 HY4.out hdy hfy hfy').mono ?_;rintro e w5 ⟨rfl,hb5⟩;have HEND:=HB4.trans (hb5.mono HB4.size);obtain⟨ty,hty⟩:∃ ty:ByteArray,ty=⟨(aJ y).toArray⟩:=⟨_,rfl⟩;have htl:ty.toList=aJ y:=by rw[hty,aC]
    have hsy:ty.size<=900000:=by rw[hty];exact jy hfy hfy'
    rw[<-hty];have HTY:=GF hty;clear hty hb5 r4;by_cases e1:aJ y=[49]
    ·have z1:(ty.toList == [49])=true:=by rw[htl,e1];rfl
     have HE:=GF e1;clear htl e1;go_wp2_with fail
     go_ret;refine⟨?_,HEND⟩;rw[HV.out]
     show Ending.returned (Value.string _)=Ending.returned (Value.string _)
     congr 2
     apply ByteArray.ext
     simp[bI,HE.out,HTX.out]
    ·by_cases e2:aJ y=[45,49]
     ·have z1:(ty.toList == [49])=false:=by rw[htl,e2];rfl
      have z2:(ty.toList == [45,49])=true:=by rw[htl,e2];rfl
      have HE:=GF e2;clear htl e1 e2;go_wp2_with fail
      go_ret;refine⟨?_,HEND⟩;rw[HV.out]
      show Ending.returned (Value.string _)=Ending.returned (Value.string _)
      congr 2
      apply ByteArray.ext
      simp[bI,HE.out,HTX.out]
     ·have z1:(ty.toList == [49])=false:=by rw[htl];simpa using e1
      have z2:(ty.toList == [45,49])=false:=by rw[htl];simpa using e2
      have HE:Hid (bI y=aJ y):=by unfold Hid bI;rw[if_neg (by rintro (h | h);exact e1 h;exact e2 h)]
      clear htl e1 e2;go_wp2_with fail
      go_ret;refine⟨?_,HEND⟩;rw[HV.out]
      show Ending.returned (Value.string _)=Ending.returned (Value.string _)
      congr 2
      apply ByteArray.ext
      simp[HE.out,HTY.out,HTX.out]
end Go.Proofs.YtmakbmhlemhgeaaGreatDoor
