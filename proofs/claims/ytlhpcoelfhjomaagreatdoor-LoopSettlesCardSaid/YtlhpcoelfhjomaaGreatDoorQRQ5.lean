/- L -/
import Derived.Test.YtlhpcoelfhjomaaGreatDoorQLex
import Derived.Test.YtlhpcoelfhjomaaGreatDoorQRQ3
set_option linter.all false
set_option maxRecDepth 100000
set_option maxHeartbeats 8000000
namespace Go.Proofs.YtlhpcoelfhjomaaGreatDoor
open Go.RowKit Dg
structure o9 (a b:List Nat) (i carry:Nat) (out:List Nat):Prop where
 len:out.length=i
 dig:∀ d∈out,d<RR
 car:carry<=1
 eq:val RR out+carry*RR ^ i=val RR (a.take i)+val RR (b.take i)
theorem yt (a b:List Nat):o9 a b 0 0 []:=⟨rfl,by simp,by omega,by simp⟩
theorem Bm {a b out:List Nat}{i carry:Nat} (ha:∀ d∈a,d<RR) (hb:∀ d∈b,d<RR) (h:o9 a b i carry out) :
  o9 a b (i+1) ((carry+nth a i+nth b i) / RR) (out++[(carry+nth a i+nth b i) % RR]):=by
 have h1:=cH (j:=i) ha;have h2:=cH (j:=i) hb;have h3:=h.car;have he:=h.eq;refine⟨by simp[h.len],?_,?_,?_⟩
 ·intro d hd;rcases Jo.1 hd with hd | hd
  ·exact h.dig d hd
  ·rw[Jj.1 hd];exact Jw _ (by decide)
 ·rw[iL] at *;omega
 ·rw[eI,h.len,il,il];have e4:=Jh (carry+nth a i+nth b i) RR;generalize (carry+nth a i+nth b i) / RR=q at *
  generalize (carry+nth a i+nth b i) % RR=r at *
  have hp:RR ^ (i+1)=RR*RR ^ i:=by rw[IN,IM]
  rw[hp];have:(RR*q+r)*RR ^ i=(carry+nth a i+nth b i)*RR ^ i:=by rw[e4]
  grind
theorem DI {a b out:List Nat}{i:Nat} (h:o9 a b i 0 out) (h1:a.length<=i) (h2:b.length<=i):val RR out=val RR a+val RR b:=by
 have he:=h.eq;rw[IE h1,IE h2] at he;omega
def SumD (w:World) (v:Value) (n:Nat):Prop:=∃ o,IsI w v o/\(∀ d∈o,d<RR)/\val RR o=n
theorem DH (va vb:Value) (l m:List Nat) (w:World) (ha:IsI w va l) (hb:IsI w vb m) (hl:∀ d∈l,d<RR) (hm:∀ d∈m,d<RR) (hfl:l.length<1000000) (hfm:m.length<1000000) :
  Calls Tryz.prog 147 #[va,vb] w fun e w'=>∃ v,e=.returned v/\SumD w' v (val RR l+val RR m)/\Below w.heap.size w w':=by
 obtain⟨p,cap,rfl,hlc,hcm,hcell⟩:=ha;obtain⟨p',cap',rfl,hlc',hcm',hcell'⟩:=hb;unfold maxLen at hcm hcm';go_enter Tryz.func147,Tryz.ntmps147;go_wp2;go_loopw [5,6,7] (fun s5 s6 s7 wr=>∃ (i carry:Nat) (out:List Nat),s6=.int .i64 carry/\s7=.int .i64 i/\(i<=max l.length m.length\/(carry=0/\i=max l.length m.length+1))/\Hid (o9 l m i carry out)/\Hid (eJ wr w.heap.size s5 out)/\Below w.heap.size w wr) (fun _ _ s7 _=>max l.length m.length+1-(intOf s7).toNat)
 case atStart=>exact⟨0,0,[],rfl,rfl,Or.inl (IF _),yt l m,World.ownsRow_nil _ _ _ _,LN _ _⟩
 case round =>
  obtain⟨i,carry,out,rfl,rfl,hi,hst,hown,hbw⟩:=hrel;have hsz:=hbw.size;have hx:=cH (j:=i) hl;have hy:=cH (j:=i) hm;have hcar:=hst.out.car;have hol:=hst.out.len;have hstep:=Ip (Bm hl hm hst.out);rw[iL] at hx hy hstep;obtain⟨x,hxe⟩:∃ x,x=nth l i:=⟨_,rfl⟩;obtain⟨y,hye⟩:∃ y,y=nth m i:=⟨_,rfl⟩;rw[<-hxe] at hx hstep;rw[<-hye] at hy hstep;by_cases hil:i<l.length
  ·obtain⟨b,o,rfl,hbb,hc⟩:=hcell (by omega);have hc1:=(hbw.cell (p:=⟨b,o+i,none⟩) hbb).trans (hc i hil);rw[<-hxe] at hc1;have hilI:decide ((i:Int)<(l.length:Int))=true:=by simp;omega
   by_cases him:i<m.length
   ·obtain⟨b',o',rfl,hbb',hc'⟩:=hcell' (by omega);have hc1':=(hbw.cell (p:=⟨b',o'+i,none⟩) hbb').trans (hc' i him);rw[<-hye] at hc1';clear hc hcell hc' hcell' hst hxe hye;have himI:decide ((i:Int)<(m.length:Int))=true:=by simp;omega
    have hr:((carry:Int)+x+y).tmod 10000=(((carry+x+y) % 10000:Nat):Int):=by rw[JN (by omega)];omega
    have hq:((carry:Int)+x+y).tdiv 10000=(((carry+x+y) / 10000:Nat):Int):=by rw[Jy (by omega)];omega
    go_wp2_with (at_builtin;refine bC 40 Tryz.underlying40 rfl (.tmp 44) (.tmp 47) rfl w.heap.size _ out _ _ hr rfl hown.out rfl (by omega) hsz ?_)
    intro v' w1 hown' hb';have hb1:=hb' _ _ hbw (Iw _);clear hown hbw hb';have HO:=Ip hown';clear hown';go_wp2;go_roundw;case rel=>exact⟨i+1,_,_,by first | rfl | (rw[hq]),by go_num,by omega,hstep,HO,hb1⟩
    case measure=>simp[intOf];omega
   ·have hy0:y=0:=by rw[hye];exact gC (by omega)
    subst hy0;clear hc hcell hcell' hst hxe hye;have himI:decide ((i:Int)<(m.length:Int))=false:=by simp;omega
    have hr:((carry:Int)+x).tmod 10000=(((carry+x+0) % 10000:Nat):Int):=by rw[JN (by omega)];omega
    have hq:((carry:Int)+x).tdiv 10000=(((carry+x+0) / 10000:Nat):Int):=by rw[Jy (by omega)];omega
    go_wp2_with (at_builtin;refine bC 40 Tryz.underlying40 rfl (.tmp 44) (.tmp 47) rfl w.heap.size _ out _ _ hr rfl hown.out rfl (by omega) hsz ?_)
    intro v' w1 hown' hb';have hb1:=hb' _ _ hbw (Iw _);clear hown hbw hb';have HO:=Ip hown';clear hown';go_wp2;go_roundw;case rel=>exact⟨i+1,_,_,by first | rfl | (rw[hq]),by go_num,by omega,hstep,HO,hb1⟩
    case measure=>simp[intOf];omega
  ·have hx0:x=0:=by rw[hxe];exact gC (by omega)
   subst hx0;have hilI:decide ((i:Int)<(l.length:Int))=false:=by simp;omega
   by_cases him:i<m.length
   ·obtain⟨b',o',rfl,hbb',hc'⟩:=hcell' (by omega);have hc1':=(hbw.cell (p:=⟨b',o'+i,none⟩) hbb').trans (hc' i him);rw[<-hye] at hc1';clear hcell hc' hcell' hst hxe hye;have himI:decide ((i:Int)<(m.length:Int))=true:=by simp;omega
    have hr:((carry:Int)+y).tmod 10000=(((carry+0+y) % 10000:Nat):Int):=by rw[JN (by omega)];omega
    have hq:((carry:Int)+y).tdiv 10000=(((carry+0+y) / 10000:Nat):Int):=by rw[Jy (by omega)];omega
    go_wp2_with (at_builtin;refine bC 40 Tryz.underlying40 rfl (.tmp 44) (.tmp 47) rfl w.heap.size _ out _ _ hr rfl hown.out rfl (by omega) hsz ?_)
    intro v' w1 hown' hb';have hb1:=hb' _ _ hbw (Iw _);clear hown hbw hb';have HO:=Ip hown';clear hown';go_wp2;go_roundw;case rel=>exact⟨i+1,_,_,by first | rfl | (rw[hq]),by go_num,by omega,hstep,HO,hb1⟩
    case measure=>simp[intOf];omega
   ·have hy0:y=0:=by rw[hye];exact gC (by omega)
    subst hy0;have himI:decide ((i:Int)<(m.length:Int))=false:=by simp;omega
    by_cases hc0:0<carry
    ·have hcI:decide ((0:Int)<(carry:Int))=true:=by simp;omega
     clear hcell hcell' hst hxe hye;have hr:((carry:Int)).tmod 10000=(((carry+0+0) % 10000:Nat):Int):=by rw[JN (by omega)];omega
     have hq:((carry:Int)).tdiv 10000=(((carry+0+0) / 10000:Nat):Int):=by rw[Jy (by omega)];omega
     go_wp2_with (at_builtin;refine bC 40 Tryz.underlying40 rfl (.tmp 44) (.tmp 47) rfl w.heap.size _ out _ _ hr rfl hown.out rfl (by omega) hsz ?_)
     intro v' w1 hown' hb';have hb1:=hb' _ _ hbw (Iw _);clear hown hbw hb';have HO:=Ip hown';clear hown';go_wp2;go_roundw;case rel=>exact⟨i+1,_,_,by first | rfl | (rw[hq]),by go_num,by omega,hstep,HO,hb1⟩
     case measure=>simp[intOf];omega
    ·obtain rfl:carry=0:=by omega
     have hend:=Ip (DI hst.out (by omega) (by omega));have hdg:=Ip hst.out.dig;have hoi:=Ip (eJ.isU hown.out);clear hcell hcell' hst hxe hye hown;go_wp2;go_ret;exact⟨_,rfl,⟨_,hoi.out,hdg.out,hend.out⟩,hbw⟩
theorem Cr (m:Bool) (a b:Nat):sgn m (a+b)=sgn m a+sgn m b:=by unfold sgn;cases m<;>simp;omega
theorem Eu {m:Bool}{x:Int} (h:m=decide (x<0)):sgn m x.natAbs=x:=by subst h;exact qS x
structure rB (w:World) (g:Nat) (ma:Bool) (p:Option Addr) (N c:Nat) (mb:Bool) (p':Option Addr) (N' c':Nat):Prop where
 s0:w.heap[g]?=some (.cells #[.bool ma,.slice p N c] 42 (0,0))
 s1:w.heap[g+1]?=some (.cells #[.bool mb,.slice p' N' c'] 42 (0,0))
 s2:w.heap[g+1+1]?=some (.cells #[.bool false,.slice none 0 0] 42 (0,0))
theorem rB.below {w w':World}{g:Nat}{ma:Bool}{p:Option Addr}{N c:Nat}{mb:Bool}{p':Option Addr}{N' c':Nat} (h:rB w g ma p N c mb p' N' c') (hb:Below w.heap.size w w'):rB w' g ma p N c mb p' N' c' :=
 ⟨(hb.block _ (ah h.s0)).trans h.s0,(hb.block _ (ah h.s1)).trans h.s1,(hb.block _ (ah h.s2)).trans h.s2⟩
theorem E7 {ma mb:Bool}{a b:Nat} (h:ma≠mb) (hle:b<=a):sgn ma (a-b)=sgn ma a+sgn mb b:=by
 unfold sgn
 cases ma<;>cases mb<;>simp at*<;> omega
theorem E8 {ma mb:Bool}{a b:Nat} (h:ma≠mb) (hle:a<=b):sgn mb (b-a)=sgn ma a+sgn mb b:=by
 unfold sgn
 cases ma<;>cases mb<;>simp at*<;> omega
theorem m_ (va vb:Value) (x y:Int) (w:World) (ha:IsZ w va x) (hb:IsZ w vb y) (hfa:(aq RR x.natAbs).length<1000000) (hfb:(aq RR y.natAbs).length<1000000) :
  Calls Tryz.prog 96 #[va,vb] w fun e w'=>∃ v,e=.returned v/\IsZ w' v (x+y)/\Below w.heap.size w w':=by
 obtain⟨p,N,c,rfl,hN,hNc,hcm,hd⟩:=ha.parts;obtain⟨p',N',c',rfl,hN',hNc',hcm',hd'⟩:=hb.parts;obtain⟨ma,hma⟩:∃ ma,ma=decide (x<0):=⟨_,rfl⟩;obtain⟨mb,hmb⟩:∃ mb,mb=decide (y<0):=⟨_,rfl⟩;have EX:=Ip (Eu hma);have EY:=Ip (Eu hmb);rw[<-hma,<-hmb];clear hma hmb;have hl:=nZ w (.cells #[.bool ma,.slice p N c] 42) (.cells #[.bool mb,.slice p' N' c'] 42) (.cells #[.bool false,.slice none 0 0] 42);have x0:=af hl.s0 0;have x1:=af hl.s0 1;have y0:=af hl.s1 0;have y1:=af hl.s1 1;have HD:=Ip (hd.below hl.below);have HD':=Ip (hd'.below hl.below);clear ha hb hd hd';go_enter Tryz.func96,Tryz.ntmps96;go_upto_region 1 with fail
 generalize ((w.alloc (.cells #[.bool ma,.slice p N c] 42)).alloc (.cells #[.bool mb,.slice p' N' c'] 42)).alloc (.cells #[.bool false,.slice none 0 0] 42)=w1 at *
 by_cases hsame:ma=mb
 ·have heq:(ma == mb)=true:=by simp[hsame]
  have HE:=Ip hsame;clear hsame;go_upto_region 2 with fail
  have hbd:Below w1.heap.size w1 w1.drew:=(LN _ _).drew;have hS:rB w1.drew w.heap.size ma p N c mb p' N' c':=rB.below ⟨hl.s0,hl.s1,hl.s2⟩ hbd;have HB1:=hl.below.trans (hbd.mono hl.below.size);have HN1:=Ip (HD.out.below hbd);have HD1:=Ip (HD'.out.below hbd);clear HD HD' hl hbd x0 x1 y0 y1;refine wp_mono (ax (Q:=aP _) (fun wx:World=>rB wx w.heap.size ma p N c mb p' N' c') (fun i=>i == 8) (by kernel_rfl) ?_) (fun _ _ _ h=>aY h);generalize w1.drew=w2 at *
  refine LJ 0 (r:=?_)
  refine LJ 2 (r:=?_)
  refine LJ 4 (r:=?_)
  refine ay (i:=1) (v:=?vvA) rfl (by kernel_rfl) (fun _ _ _ h=>h) rfl hS ?hyA ?restA
  case hyA =>
   intro wy hy;have q0:=af hy.s0 0;have q1:=af hy.s0 1;have q2:=af hy.s1 0;have q3:=af hy.s1 1;clear hy;go_simp;try with_reducible rfl
  refine ay (i:=3) (v:=?vvB) rfl (by kernel_rfl) (fun _ _ _ h=>h) rfl hS ?hyB ?restB
  case hyB =>
   intro wy hy;have q0:=af hy.s0 0;have q1:=af hy.s0 1;have q2:=af hy.s1 0;have q3:=af hy.s1 1;clear hy;go_simp;try with_reducible rfl
  refine ay (i:=5) (v:=?vvC) rfl (by kernel_rfl) (fun _ _ _ h=>h) rfl hS ?hyC ?restC
  case hyC =>
   intro wy hy;have q0:=af hy.s0 0;have q1:=af hy.s0 1;have q2:=af hy.s1 0;have q3:=af hy.s1 1;clear hy;go_simp;try with_reducible rfl
  try simp only[Act.put,It,Is,Ir,Iq,Iu,Iv]
  refine ar (i:=6) rfl (by kernel_rfl) rfl (fun K hK=>?_);go_simp;refine (DH _ _ _ _ w2 HN1.out HD1.out (aQ _).1 (aQ _).1 hfa hfb).mono ?_;rintro e w5 ⟨v5,rfl,hsum,hb5⟩;rw[aA aH,aA aH] at hsum;have hS5:=hS.below hb5;refine hK _ _ (fun _ _=>hS5) ?_;clear hK K;try simp only[Act.put,It,Is,Ir,Iq,Iu,Iv]
  have HB5:=LK HB1 hb5;obtain⟨o5,ho1,ho2,ho3⟩:=hsum;refine ar (i:=7) rfl (by kernel_rfl) rfl (fun K hK=>?_);go_simp;refine (dW _ _ _ w5 ho1 ho2).mono ?_;rintro e w6 ⟨v6,rfl,hz6,hb6⟩;rw[ho3,Cr,EX.out,HE.out,EY.out] at hz6;clear HB1 HN1 HD1 hb5 ho1 ho2 ho3;obtain⟨p6,N6,c6,rfl,hN6,hNc6,hcm6,hd6⟩:=hz6.parts;generalize decide (x+y<0)=m6 at *
  have hS6:=hS5.below hb6;refine hK _ _ (fun _ _=>hS6) ?_;clear hK K hS hS5;try simp only[Act.put,It,Is,Ir,Iq,Iu,Iv]
  have HB6:=LK HB5 hb6;have hP:=cP (u0:=.bool m6) (u1:=.slice p6 N6 c6) hS6.s2;have HZ:=Ip (hz6.puts hP hS6.s2 eA);have hB:=HB6.trans (hP.below w.heap.size (by omega));have q0:=af hS6.s2 0;have q1:=af hS6.s2 1;have f0:=LL w6 (w.heap.size+1+1) 0 _ _ hS6.s2;have f1:=LL w6 (w.heap.size+1+1) 1 _ _ hS6.s2;clear hz6 hd6 hb6 HB5;refine ar (i:=8) rfl (by kernel_rfl) rfl (fun K hK=>?_);go_simp;change K _ (gW w6 (w.heap.size+1+1) (.bool m6) (.slice p6 N6 c6));refine hK _ _ (fun h=>by cases h) ?_;clear hK K q0 q1 f0 f1;try simp only[Act.put,It,Is,Ir,Iq,Iu,Iv]
  refine aF (by kernel_rfl) ?_ _;simp only[aP];go_wp2_with fail
  (try simp only[Exit.inBlock,Exit.then])
  refine LM (results_cell_row rfl _ _ (w.heap.size+1+1) _ _ (0,0) _ rfl hP.row Tryz.underlying42 rfl (by kernel_rfl)) rfl ?_;exact⟨_,rfl,HZ.out,hB⟩
 ·have heq:(ma == mb)=false:=by simpa using hsame
  have HE:=Ip hsame;clear hsame;go_wp2_with fail
  refine (fA _ _ _ _ w1 HD.out HD'.out (aQ _) (aQ _)).mono ?_;rintro e w1' ⟨rfl,n1,rfl⟩;rw[aA aH,aA aH];have hbn:=below_drewN (LN w1.heap.size w1) n1;have hbd:Below w1.heap.size w1 (w1.drewN n1).drew:=hbn.drew;have hS:rB (w1.drewN n1).drew w.heap.size ma p N c mb p' N' c':=rB.below ⟨hl.s0,hl.s1,hl.s2⟩ hbd;have HB1:=hl.below.trans (hbd.mono hl.below.size);have HN1:=Ip (HD.out.below hbd);have HD1:=Ip (HD'.out.below hbd);clear HD HD' hl hbd hbn x0 x1 y0 y1;by_cases hge:y.natAbs<=x.natAbs
  ·have hcg:=(xO hge).1;obtain⟨cw,hcw⟩:∃ cw,cw=dC x.natAbs y.natAbs:=⟨_,rfl⟩;rw[<-hcw] at hcg |-;have HGE:=Ip hge;clear hcw hge;go_upto_region 4 with fail
   refine wp_mono (ax (Q:=aP _) (fun wx:World=>rB wx w.heap.size ma p N c mb p' N' c') (fun i=>i == 8) (by kernel_rfl) ?_) (fun _ _ _ h=>aY h);generalize (w1.drewN n1).drew=w2 at *
   refine LJ 0 (r:=?_)
   refine LJ 2 (r:=?_)
   refine LJ 4 (r:=?_)
   refine ay (i:=1) (v:=?vvA1) rfl (by kernel_rfl) (fun _ _ _ h=>h) rfl hS ?hyA1 ?restA1
   case hyA1 =>
    intro wy hy;have q0:=af hy.s0 0;have q1:=af hy.s0 1;have q2:=af hy.s1 0;have q3:=af hy.s1 1;clear hy;go_simp;try with_reducible rfl
   refine ay (i:=3) (v:=?vvB1) rfl (by kernel_rfl) (fun _ _ _ h=>h) rfl hS ?hyB1 ?restB1
   case hyB1 =>
    intro wy hy;have q0:=af hy.s0 0;have q1:=af hy.s0 1;have q2:=af hy.s1 0;have q3:=af hy.s1 1;clear hy;go_simp;try with_reducible rfl
   refine ay (i:=5) (v:=?vvC1) rfl (by kernel_rfl) (fun _ _ _ h=>h) rfl hS ?hyC1 ?restC1
   case hyC1 =>
    intro wy hy;have q0:=af hy.s0 0;have q1:=af hy.s0 1;have q2:=af hy.s1 0;have q3:=af hy.s1 1;clear hy;go_simp;try with_reducible rfl
   try simp only[Act.put,It,Is,Ir,Iq,Iu,Iv]
   refine ar (i:=6) rfl (by kernel_rfl) rfl (fun K hK=>?_);go_simp;refine (qj _ _ _ _ w2 HN1.out HD1.out (aQ _).1 (aQ _).1 (qh HGE.out) (by rw[aA aH,aA aH];exact HGE.out) hfa).mono ?_;rintro e w5 ⟨v5,rfl,hsum,_,hb5⟩;rw[aA aH,aA aH] at hsum;have hS5:=hS.below hb5;refine hK _ _ (fun _ _=>hS5) ?_;clear hK K;try simp only[Act.put,It,Is,Ir,Iq,Iu,Iv]
   have HB5:=LK HB1 hb5;refine ar (i:=7) rfl (by kernel_rfl) rfl (fun K hK=>?_);go_simp;refine (dW _ _ _ w5 hsum (aQ _).1).mono ?_;rintro e w6 ⟨v6,rfl,hz6,hb6⟩;rw[aA aH,E7 HE.out HGE.out,EX.out,EY.out] at hz6;clear HB1 HN1 HD1 hb5 hsum;obtain⟨p6,N6,c6,rfl,hN6,hNc6,hcm6,hd6⟩:=hz6.parts;generalize decide (x+y<0)=m6 at *
   have hS6:=hS5.below hb6;refine hK _ _ (fun _ _=>hS6) ?_;clear hK K hS hS5;try simp only[Act.put,It,Is,Ir,Iq,Iu,Iv]
   have HB6:=LK HB5 hb6;have hP:=cP (u0:=.bool m6) (u1:=.slice p6 N6 c6) hS6.s2;have HZ:=Ip (hz6.puts hP hS6.s2 eA);have hB:=HB6.trans (hP.below w.heap.size (by omega));have q0:=af hS6.s2 0;have q1:=af hS6.s2 1;have f0:=LL w6 (w.heap.size+1+1) 0 _ _ hS6.s2;have f1:=LL w6 (w.heap.size+1+1) 1 _ _ hS6.s2;clear hz6 hd6 hb6 HB5;refine ar (i:=8) rfl (by kernel_rfl) rfl (fun K hK=>?_);go_simp;change K _ (gW w6 (w.heap.size+1+1) (.bool m6) (.slice p6 N6 c6));refine hK _ _ (fun h=>by cases h) ?_;clear hK K q0 q1 f0 f1;try simp only[Act.put,It,Is,Ir,Iq,Iu,Iv]
   refine aF (by kernel_rfl) ?_ _;simp only[aP];go_wp2_with fail
   (try simp only[Exit.inBlock,Exit.then])
   refine LM (results_cell_row rfl _ _ (w.heap.size+1+1) _ _ (0,0) _ rfl hP.row Tryz.underlying42 rfl (by kernel_rfl)) rfl ?_;exact⟨_,rfl,HZ.out,hB⟩
  ·have hcn:=tI (show x.natAbs<y.natAbs by omega);rw[hcn];have HGE:Hid (x.natAbs<=y.natAbs):=by unfold Hid;omega
   clear hcn hge;go_upto_region 5 with fail
   refine wp_mono (ax (Q:=aP _) (fun wx:World=>rB wx w.heap.size ma p N c mb p' N' c') (fun i=>i == 8) (by kernel_rfl) ?_) (fun _ _ _ h=>aY h);generalize (w1.drewN n1).drew=w2 at *
   refine LJ 0 (r:=?_)
   refine LJ 2 (r:=?_)
   refine LJ 4 (r:=?_)
   refine ay (i:=1) (v:=?vvA2) rfl (by kernel_rfl) (fun _ _ _ h=>h) rfl hS ?hyA2 ?restA2
   case hyA2 =>
    intro wy hy;have q0:=af hy.s0 0;have q1:=af hy.s0 1;have q2:=af hy.s1 0;have q3:=af hy.s1 1;clear hy;go_simp;try with_reducible rfl
   refine ay (i:=3) (v:=?vvB2) rfl (by kernel_rfl) (fun _ _ _ h=>h) rfl hS ?hyB2 ?restB2
   case hyB2 =>
    intro wy hy;have q0:=af hy.s0 0;have q1:=af hy.s0 1;have q2:=af hy.s1 0;have q3:=af hy.s1 1;clear hy;go_simp;try with_reducible rfl
   refine ay (i:=5) (v:=?vvC2) rfl (by kernel_rfl) (fun _ _ _ h=>h) rfl hS ?hyC2 ?restC2
   case hyC2 =>
    intro wy hy;have q0:=af hy.s0 0;have q1:=af hy.s0 1;have q2:=af hy.s1 0;have q3:=af hy.s1 1;clear hy;go_simp;try with_reducible rfl
   try simp only[Act.put,It,Is,Ir,Iq,Iu,Iv]
   refine ar (i:=6) rfl (by kernel_rfl) rfl (fun K hK=>?_);go_simp;refine (qj _ _ _ _ w2 HD1.out HN1.out (aQ _).1 (aQ _).1 (qh HGE.out) (by rw[aA aH,aA aH];exact HGE.out) hfb).mono ?_;rintro e w5 ⟨v5,rfl,hsum,_,hb5⟩;rw[aA aH,aA aH] at hsum;have hS5:=hS.below hb5;refine hK _ _ (fun _ _=>hS5) ?_;clear hK K;try simp only[Act.put,It,Is,Ir,Iq,Iu,Iv]
   have HB5:=LK HB1 hb5;refine ar (i:=7) rfl (by kernel_rfl) rfl (fun K hK=>?_);go_simp;refine (dW _ _ _ w5 hsum (aQ _).1).mono ?_;rintro e w6 ⟨v6,rfl,hz6,hb6⟩;rw[aA aH,E8 HE.out HGE.out,EX.out,EY.out] at hz6;clear HB1 HN1 HD1 hb5 hsum;obtain⟨p6,N6,c6,rfl,hN6,hNc6,hcm6,hd6⟩:=hz6.parts;generalize decide (x+y<0)=m6 at *
   have hS6:=hS5.below hb6;refine hK _ _ (fun _ _=>hS6) ?_;clear hK K hS hS5;try simp only[Act.put,It,Is,Ir,Iq,Iu,Iv]
   have HB6:=LK HB5 hb6;have hP:=cP (u0:=.bool m6) (u1:=.slice p6 N6 c6) hS6.s2;have HZ:=Ip (hz6.puts hP hS6.s2 eA);have hB:=HB6.trans (hP.below w.heap.size (by omega));have q0:=af hS6.s2 0;have q1:=af hS6.s2 1;have f0:=LL w6 (w.heap.size+1+1) 0 _ _ hS6.s2;have f1:=LL w6 (w.heap.size+1+1) 1 _ _ hS6.s2;clear hz6 hd6 hb6 HB5;refine ar (i:=8) rfl (by kernel_rfl) rfl (fun K hK=>?_);go_simp;change K _ (gW w6 (w.heap.size+1+1) (.bool m6) (.slice p6 N6 c6));refine hK _ _ (fun h=>by cases h) ?_;clear hK K q0 q1 f0 f1;try simp only[Act.put,It,Is,Ir,Iq,Iu,Iv]
   refine aF (by kernel_rfl) ?_ _;simp only[aP];go_wp2_with fail
   (try simp only[Exit.inBlock,Exit.then])
   refine LM (results_cell_row rfl _ _ (w.heap.size+1+1) _ _ (0,0) _ rfl hP.row Tryz.underlying42 rfl (by kernel_rfl)) rfl ?_;exact⟨_,rfl,HZ.out,hB⟩
def eh (x y:Int):Int:=if x-y=0 then 0 else if x-y<0 then -1 else 1
theorem ng (va vb:Value) (x y:Int) (w:World) (ha:IsZ w va x) (hb:IsZ w vb y) (hfa:(aq RR x.natAbs).length<1000000) (hfb:(aq RR y.natAbs).length<1000000) :
  Calls Tryz.prog 54 #[va,vb] w fun e w'=>e=.returned (.int .i64 (eh x y))/\Below w.heap.size w w':=by
 obtain⟨p,N,c,rfl,hN,hNc,hcm,hd⟩:=ha.parts;obtain⟨p',N',c',rfl,hN',hNc',hcm',hd'⟩:=hb.parts;obtain⟨ma,hma⟩:∃ ma,ma=decide (x<0):=⟨_,rfl⟩;obtain⟨mb,hmb⟩:∃ mb,mb=decide (y<0):=⟨_,rfl⟩;rw[<-hma] at ha |-;rw[<-hmb] at hb |-;clear hma hmb;have hl:=mq w (.cells #[.bool ma,.slice p N c] 42) (.cells #[.bool mb,.slice p' N' c'] 42);have HX:=ha.below hl.below;have HY:=hb.below hl.below;clear ha hb hd hd';go_enter Tryz.func54,Tryz.ntmps54;go_upto_region 1 with fail
 generalize (w.alloc (.cells #[.bool ma,.slice p N c] 42)).alloc (.cells #[.bool mb,.slice p' N' c'] 42)=w1 at *
 have hbd:Below w1.heap.size w1 w1.drew:=(LN _ _).drew;have hS:(fun wx:World=>wx.heap[w.heap.size]?=some (.cells #[.bool ma,.slice p N c] 42 (0,0))/\wx.heap[w.heap.size+1]?=some (.cells #[.bool mb,.slice p' N' c'] 42 (0,0))) w1.drew:=⟨(hbd.block _ (ah hl.s0)).trans hl.s0,(hbd.block _ (ah hl.s1)).trans hl.s1⟩;have HB1:=hl.below.trans (hbd.mono hl.below.size);replace HX:=HX.below hbd;replace HY:=HY.below hbd;clear hl hbd;refine wp_mono (ax (Q:=aP _) (fun wx:World=>wx.heap[w.heap.size]?=some (.cells #[.bool ma,.slice p N c] 42 (0,0))/\wx.heap[w.heap.size+1]?=some (.cells #[.bool mb,.slice p' N' c'] 42 (0,0))) (fun i=>i == 5) (by kernel_rfl) ?_) (fun _ _ _ h=>aY h);generalize w1.drew=w2 at *
 refine ay (i:=0) (v:=?vvA) rfl (by kernel_rfl) (fun _ _ _ h=>h) rfl hS ?hyA ?restA
 case hyA =>
  intro wy hy;have q0:=af hy.1 0;have q1:=af hy.1 1;have q2:=af hy.2 0;have q3:=af hy.2 1;clear hy;go_simp;try with_reducible rfl
 refine ay (i:=1) (v:=?vvB) rfl (by kernel_rfl) (fun _ _ _ h=>h) rfl hS ?hyB ?restB
 case hyB =>
  intro wy hy;have q0:=af hy.1 0;have q1:=af hy.1 1;have q2:=af hy.2 0;have q3:=af hy.2 1;clear hy;go_simp;try with_reducible rfl
 try simp only[Act.put,It,Is,Ir,Iq,Iu,Iv]
 refine dN (i:=2) (i':=4) rfl rfl (by kernel_rfl) rfl rfl (fun K hK=>?_) (fun K hK=>?_)
 ·go_simp;refine (jv _ _ w2 HY).mono ?_;rintro e w4 ⟨v4,rfl,hz4,hb4⟩;obtain⟨p4,N4,c4,rfl,hN4,hNc4,hcm4,hd4⟩:=hz4.parts;have HZ4:=Ip hz4;have hS4:(fun wx:World=>wx.heap[w.heap.size]?=some (.cells #[.bool ma,.slice p N c] 42 (0,0))/\wx.heap[w.heap.size+1]?=some (.cells #[.bool mb,.slice p' N' c'] 42 (0,0))) w4:=⟨(hb4.block _ (ah hS.1)).trans hS.1,(hb4.block _ (ah hS.2)).trans hS.2⟩;have HX4:=Ip (HX.below hb4);generalize decide (-y<0)=m4 at *
  clear hz4 hd4;refine hK _ _ (fun _ _=>hS4) ?_;clear hK K;have hS:=hS4;try simp only[Act.put,It,Is,Ir,Iq,Iu,Iv]
  have HB4:=LK HB1 hb4;clear HB1 hb4 HX HY;refine dN (i:=3) (i':=4) rfl rfl (by kernel_rfl) rfl rfl (fun K hK=>?_) (fun K hK=>?_)
  ·go_simp;refine (m_ _ _ _ _ w4 HX4.out HZ4.out hfa (by rw[Kt];exact hfb)).mono ?_;rintro e w6 ⟨v6,rfl,hz6,hb6⟩;obtain⟨p6,N6,c6,rfl,hN6,hNc6,hcm6,hd6'⟩:=hz6.parts;have hd6:=Ip hd6';generalize hmm:decide (x+-y<0)=m6;have hm6:=Ip hmm;have hS6:(fun wx:World=>wx.heap[w.heap.size]?=some (.cells #[.bool ma,.slice p N c] 42 (0,0))/\wx.heap[w.heap.size+1]?=some (.cells #[.bool mb,.slice p' N' c'] 42 (0,0))) w6:=⟨(hb6.block _ (ah hS.1)).trans hS.1,(hb6.block _ (ah hS.2)).trans hS.2⟩;clear hmm hz6 hd6';refine hK _ _ (fun _ _=>hS6) ?_;clear hK K;try simp only[Act.put,It,Is,Ir,Iq,Iu,Iv]
   have HB5:=LK HB4 hb6;have hl6:=bL w6 (.cells #[.bool false,.slice none 0 0] 42);refine ar (i:=4) rfl (by kernel_rfl) rfl (fun K hK=>?_);go_simp;refine hK _ _ (fun _ h=>⟨(hl6.below.block _ (ah h.1)).trans h.1,(hl6.below.block _ (ah h.2)).trans h.2⟩) ?_;clear hK K;try simp only[Act.put,It,Is,Ir,Iq,Iu,Iv]
   have hrw:=hl6.s0;have HB6:=HB5.trans (hl6.below.mono HB5.size);have hgs:w.heap.size<=w6.heap.size:=HB5.size;clear HB4 HB5 HX4 HZ4 hb6 hl6;generalize w6.heap.size=g at *
   generalize w6.alloc (.cells #[.bool false,.slice none 0 0] 42)=w8 at *
   have q0:=af hrw 0;have q1:=af hrw 1;have f0:=LL w8 g 0 _ _ hrw;have f1:=LL w8 g 1 _ _ hrw;have hP:=cP (u0:=.bool m6) (u1:=.slice p6 N6 c6) hrw;refine ar (i:=5) rfl (by kernel_rfl) rfl (fun K hK=>?_);go_simp;change K _ (gW w8 g (.bool m6) (.slice p6 N6 c6));refine hK _ _ (fun h=>by cases h) ?_;clear hK K q0 q1 f0 f1;try simp only[Act.put,It,Is,Ir,Iq,Iu,Iv]
   refine aF (by kernel_rfl) ?_ _;simp only[aP];have hrow:=hP.row;have HB7:=HB6.trans (hP.below w.heap.size hgs);clear hP hrw HB6;generalize gW w8 g (.bool m6) (.slice p6 N6 c6)=w7 at *
   have q0:=af hrow 0;have q1:=af hrow 1;by_cases h0:N6=0
   ·have hz0:=(fE hd6.out).1 h0;have hres:eh x y=0:=by unfold eh;rw[if_pos (by omega)]
    have HRES:=Ip hres;subst h0;clear hz0 hres;go_wp2;go_ret;exact⟨by rw[HRES.out];rfl,HB7⟩
   ·have hz0:¬ (x+-y).natAbs=0:=fun e=>h0 ((fE hd6.out).2 e);have hne:((N6:Int) == 0)=false:=by simp;omega
    have H0:=Ip h0;clear h0
    cases m6
    ·have hres:eh x y=1:=by
      have:=hm6.out;simp at this;unfold eh;rw[if_neg (by omega),if_neg (by omega)]
     have HRES:=Ip hres;clear hz0 hres;go_wp2;go_ret;exact⟨by rw[HRES.out];rfl,HB7⟩
    ·have hres:eh x y=-1:=by
      have:=hm6.out;simp at this;unfold eh;rw[if_neg (by omega),if_pos (by omega)]
     have HRES:=Ip hres;clear hz0 hres;go_wp2;go_ret;exact⟨by rw[HRES.out];rfl,HB7⟩
  ·go_simp;have hl4:=bL w4 (.cells #[.bool false,.slice none 0 0] 42);have hSn:(fun wx:World=>wx.heap[w.heap.size]?=some (.cells #[.bool ma,.slice p N c] 42 (0,0))/\wx.heap[w.heap.size+1]?=some (.cells #[.bool mb,.slice p' N' c'] 42 (0,0))) (w4.alloc (.cells #[.bool false,.slice none 0 0] 42)):=⟨(hl4.below.block _ (ah hS.1)).trans hS.1,(hl4.below.block _ (ah hS.2)).trans hS.2⟩;refine hK _ _ (fun _ _=>hSn) ?_;clear hK K hS hS4;have hS:=hSn;try simp only[Act.put,It,Is,Ir,Iq,Iu,Iv]
   have HX4':=Ip (HX4.out.below hl4.below);have HZ4':=Ip (HZ4.out.below hl4.below);have hrz:=hl4.s0;have HB5:=HB4.trans (hl4.below.mono HB4.size);have hgs:w.heap.size<=w4.heap.size:=HB4.size;clear HB4 HX4 HZ4 hl4 hSn;have HX4:=HX4';have HZ4:=HZ4';clear HX4' HZ4';generalize w4.heap.size=g at *
   generalize w4.alloc (.cells #[.bool false,.slice none 0 0] 42)=w5 at *
   refine ar (i:=3) rfl (by kernel_rfl) rfl (fun K hK=>?_);go_simp;refine (m_ _ _ _ _ w5 HX4.out HZ4.out hfa (by rw[Kt];exact hfb)).mono ?_;rintro e w6 ⟨v6,rfl,hz6,hb6⟩;obtain⟨p6,N6,c6,rfl,hN6,hNc6,hcm6,hd6'⟩:=hz6.parts;have hd6:=Ip hd6';generalize hmm:decide (x+-y<0)=m6;have hm6:=Ip hmm;have hS6:(fun wx:World=>wx.heap[w.heap.size]?=some (.cells #[.bool ma,.slice p N c] 42 (0,0))/\wx.heap[w.heap.size+1]?=some (.cells #[.bool mb,.slice p' N' c'] 42 (0,0))) w6:=⟨(hb6.block _ (ah hS.1)).trans hS.1,(hb6.block _ (ah hS.2)).trans hS.2⟩;clear hmm hz6 hd6';refine hK _ _ (fun _ _=>hS6) ?_;clear hK K;try simp only[Act.put,It,Is,Ir,Iq,Iu,Iv]
   have hrw:=(hb6.block _ (ah hrz)).trans hrz;have HB6:=LK HB5 hb6;clear hb6 hrz HB5 HX4 HZ4;have q0:=af hrw 0;have q1:=af hrw 1;have f0:=LL w6 g 0 _ _ hrw;have f1:=LL w6 g 1 _ _ hrw;have hP:=cP (u0:=.bool m6) (u1:=.slice p6 N6 c6) hrw;refine ar (i:=5) rfl (by kernel_rfl) rfl (fun K hK=>?_);go_simp;change K _ (gW w6 g (.bool m6) (.slice p6 N6 c6));refine hK _ _ (fun h=>by cases h) ?_;clear hK K q0 q1 f0 f1;try simp only[Act.put,It,Is,Ir,Iq,Iu,Iv]
   refine aF (by kernel_rfl) ?_ _;simp only[aP];have hrow:=hP.row;have HB7:=HB6.trans (hP.below w.heap.size hgs);clear hP hrw HB6;generalize gW w6 g (.bool m6) (.slice p6 N6 c6)=w7 at *
   have q0:=af hrow 0;have q1:=af hrow 1;by_cases h0:N6=0
   ·have hz0:=(fE hd6.out).1 h0;have hres:eh x y=0:=by unfold eh;rw[if_pos (by omega)]
    have HRES:=Ip hres;subst h0;clear hz0 hres;go_wp2;go_ret;exact⟨by rw[HRES.out];rfl,HB7⟩
   ·have hz0:¬ (x+-y).natAbs=0:=fun e=>h0 ((fE hd6.out).2 e);have hne:((N6:Int) == 0)=false:=by simp;omega
    have H0:=Ip h0;clear h0
    cases m6
    ·have hres:eh x y=1:=by
      have:=hm6.out;simp at this;unfold eh;rw[if_neg (by omega),if_neg (by omega)]
     have HRES:=Ip hres;clear hz0 hres;go_wp2;go_ret;exact⟨by rw[HRES.out];rfl,HB7⟩
    ·have hres:eh x y=-1:=by
      have:=hm6.out;simp at this;unfold eh;rw[if_neg (by omega),if_pos (by omega)]
     have HRES:=Ip hres;clear hz0 hres;go_wp2;go_ret;exact⟨by rw[HRES.out];rfl,HB7⟩
 ·go_simp;have hl4:=bL w2 (.cells #[.bool false,.slice none 0 0] 42);have hSn:(fun wx:World=>wx.heap[w.heap.size]?=some (.cells #[.bool ma,.slice p N c] 42 (0,0))/\wx.heap[w.heap.size+1]?=some (.cells #[.bool mb,.slice p' N' c'] 42 (0,0))) (w2.alloc (.cells #[.bool false,.slice none 0 0] 42)):=⟨(hl4.below.block _ (ah hS.1)).trans hS.1,(hl4.below.block _ (ah hS.2)).trans hS.2⟩;refine hK _ _ (fun _ _=>hSn) ?_;clear hK K hS;have hS:=hSn;try simp only[Act.put,It,Is,Ir,Iq,Iu,Iv]
  replace HX:=HX.below hl4.below;replace HY:=HY.below hl4.below;have hrz:=hl4.s0;have HB5:=HB1.trans (hl4.below.mono HB1.size);have hgs:w.heap.size<=w2.heap.size:=HB1.size;clear HB1 hl4 hSn;generalize w2.heap.size=g at *
  generalize w2.alloc (.cells #[.bool false,.slice none 0 0] 42)=w5 at *
  refine ar (i:=2) rfl (by kernel_rfl) rfl (fun K hK=>?_);go_simp;refine (jv _ _ w5 HY).mono ?_;rintro e w4 ⟨v4,rfl,hz4,hb4⟩;obtain⟨p4,N4,c4,rfl,hN4,hNc4,hcm4,hd4⟩:=hz4.parts;have HZ4:=Ip hz4;have hS4:(fun wx:World=>wx.heap[w.heap.size]?=some (.cells #[.bool ma,.slice p N c] 42 (0,0))/\wx.heap[w.heap.size+1]?=some (.cells #[.bool mb,.slice p' N' c'] 42 (0,0))) w4:=⟨(hb4.block _ (ah hS.1)).trans hS.1,(hb4.block _ (ah hS.2)).trans hS.2⟩;have HX4:=Ip (HX.below hb4);generalize decide (-y<0)=m4 at *
  clear hz4 hd4;refine hK _ _ (fun _ _=>hS4) ?_;clear hK K;have hS:=hS4;try simp only[Act.put,It,Is,Ir,Iq,Iu,Iv]
  have HB4:=LK HB5 hb4;have hrz4:=(hb4.block _ (ah hrz)).trans hrz;clear HB5 hb4 HX HY hrz;refine ar (i:=3) rfl (by kernel_rfl) rfl (fun K hK=>?_);go_simp;refine (m_ _ _ _ _ w4 HX4.out HZ4.out hfa (by rw[Kt];exact hfb)).mono ?_;rintro e w6 ⟨v6,rfl,hz6,hb6⟩;obtain⟨p6,N6,c6,rfl,hN6,hNc6,hcm6,hd6'⟩:=hz6.parts;have hd6:=Ip hd6';generalize hmm:decide (x+-y<0)=m6;have hm6:=Ip hmm;have hS6:(fun wx:World=>wx.heap[w.heap.size]?=some (.cells #[.bool ma,.slice p N c] 42 (0,0))/\wx.heap[w.heap.size+1]?=some (.cells #[.bool mb,.slice p' N' c'] 42 (0,0))) w6:=⟨(hb6.block _ (ah hS.1)).trans hS.1,(hb6.block _ (ah hS.2)).trans hS.2⟩;clear hmm hz6 hd6';refine hK _ _ (fun _ _=>hS6) ?_;clear hK K;try simp only[Act.put,It,Is,Ir,Iq,Iu,Iv]
  have hrw:=(hb6.block _ (ah hrz4)).trans hrz4;have HB6:=LK HB4 hb6;clear hb6 hrz4 HB4 HX4 HZ4;have q0:=af hrw 0;have q1:=af hrw 1;have f0:=LL w6 g 0 _ _ hrw;have f1:=LL w6 g 1 _ _ hrw;have hP:=cP (u0:=.bool m6) (u1:=.slice p6 N6 c6) hrw;refine ar (i:=5) rfl (by kernel_rfl) rfl (fun K hK=>?_);go_simp;change K _ (gW w6 g (.bool m6) (.slice p6 N6 c6));refine hK _ _ (fun h=>by cases h) ?_;clear hK K q0 q1 f0 f1;try simp only[Act.put,It,Is,Ir,Iq,Iu,Iv]
  refine aF (by kernel_rfl) ?_ _;simp only[aP];have hrow:=hP.row;have HB7:=HB6.trans (hP.below w.heap.size hgs);clear hP hrw HB6;generalize gW w6 g (.bool m6) (.slice p6 N6 c6)=w7 at *
  have q0:=af hrow 0;have q1:=af hrow 1;by_cases h0:N6=0
  ·have hz0:=(fE hd6.out).1 h0;have hres:eh x y=0:=by unfold eh;rw[if_pos (by omega)]
   have HRES:=Ip hres;subst h0;clear hz0 hres;go_wp2;go_ret;exact⟨by rw[HRES.out];rfl,HB7⟩
  ·have hz0:¬ (x+-y).natAbs=0:=fun e=>h0 ((fE hd6.out).2 e);have hne:((N6:Int) == 0)=false:=by simp;omega
   have H0:=Ip h0;clear h0
   cases m6
   ·have hres:eh x y=1:=by
     have:=hm6.out;simp at this;unfold eh;rw[if_neg (by omega),if_neg (by omega)]
    have HRES:=Ip hres;clear hz0 hres;go_wp2;go_ret;exact⟨by rw[HRES.out];rfl,HB7⟩
   ·have hres:eh x y=-1:=by
     have:=hm6.out;simp at this;unfold eh;rw[if_neg (by omega),if_pos (by omega)]
    have HRES:=Ip hres;clear hz0 hres;go_wp2;go_ret;exact⟨by rw[HRES.out];rfl,HB7⟩
theorem wM {m:Bool}{N D:Nat} (hD:0<D) (hm:N=0->m=false):dP m N D=⟨decide (sgn m (N / Nat.gcd N D)<0),N / Nat.gcd N D,D / Nat.gcd N D⟩:=by
 unfold dP;rw[uz];by_cases h:N=0
 ·rw[if_pos h,hm h,h,Kr,Nat.zero_div,Nat.div_self hD];rfl
 ·rw[if_neg h];have hg:0<N / Nat.gcd N D:=Ls (KH (by omega) (Ld ..)) (JH _ hD);rw[decide_eq_true hg,Bool.and_true]
theorem Er {n:Int}{D:Nat} (hD:0<D):rt ((n:Rat) / ((D:Nat):Rat))=dP (decide (n<0)) n.natAbs D:=by
 rw[mR _ _ _ hD];congr 1;rw[Rat.mkRat_eq_div]
 have e:sgz (decide (n<0)) n.natAbs=n:=by
  unfold sgz;by_cases h:n<0
  ·rw[decide_eq_true h,if_pos rfl];omega
  ·rw[decide_eq_false h,if_neg (by decide)];omega
 rw[e]
theorem qK (va vb:Value) (n d:Int) (w:World) (ha:IsZ w va n) (hb:IsZ w vb d) (hd0:d≠0) (hfn:bu n.natAbs) (hfd:bu d.natAbs) :
  Calls Tryz.prog 102 #[va,vb] w fun e w'=>∃ v,e=.returned v/\cW w' v (rt ((n:Rat) / (d:Rat)))/\Below w.heap.size w w':=by
 obtain⟨p,N,c,rfl,hN,hNc,hcm,hd⟩:=ha.parts;obtain⟨p',N',c',rfl,hN',hNc',hcm',hd'⟩:=hb.parts;obtain⟨mn,hmn⟩:∃ m,m=decide (n<0):=⟨_,rfl⟩;obtain⟨md,hmd⟩:∃ m,m=decide (d<0):=⟨_,rfl⟩;rw[<-hmn] at ha;rw[<-hmd] at hb;rw[<-hmn,<-hmd];have HMN:=Ip hmn;have HMD:=Ip hmd;clear hmn hmd;have hl:=nZ w (.cells #[.bool mn,.slice p N c] 42) (.cells #[.bool md,.slice p' N' c'] 42) (.cells #[.bool false,.slice none 0 0,.bool false,.slice none 0 0] 44);have hgp:0<Nat.gcd n.natAbs d.natAbs:=JH _ (by omega);have HFG:Hid (bu (Nat.gcd n.natAbs d.natAbs)):=hfd.mono (KH (by omega) (Lx ..));have HGP:=Ip hgp;have HFN:=Ip hfn;have HFD:=Ip hfd;have HBI:=Ip hl.below;have r0:=hl.s0;have r1:=hl.s1;have r2:=hl.s2;have HD:=Ip (hd.below hl.below);have HE:=Ip (hd'.below hl.below);have HZN:=Ip (ha.below hl.below);have HZD:=Ip (hb.below hl.below);have hsz0:=Ip hl.size;clear ha hb hd hd' hfn hfd hgp hl;go_enter Tryz.func102,Tryz.ntmps102;go_upto_region 1 with fail
 generalize ((w.alloc (.cells #[.bool mn,.slice p N c] 42)).alloc (.cells #[.bool md,.slice p' N' c'] 42)).alloc (.cells #[.bool false,.slice none 0 0,.bool false,.slice none 0 0] 44)=w1 at *
 by_cases hneg:d<0
 ·obtain rfl:md=true:=by rw[HMD.out];exact decide_eq_true hneg
  have y0:=af r1 0;go_upto_region 2 with fail
  have hbd:Below w1.heap.size w1 w1.drew:=(LN _ _).drew;refine wp_mono (ax (Q:=aP _) (fun wx:World=>wx.heap[w.heap.size+1]?=some (.cells #[.bool true,.slice p' N' c'] 42 (0,0))) (fun t=>t == 5) (by kernel_rfl) ?_) (fun _ _ _ h=>aY h);have r0:=(hbd.block _ (ah r0)).trans r0;have r1:=(hbd.block _ (ah r1)).trans r1;have r2:=(hbd.block _ (ah r2)).trans r2;have HZN:=Ip (HZN.out.below hbd);have HZD:=Ip (HZD.out.below hbd);have HBI:=Ip (LK HBI.out hbd);clear hbd HD HE y0;generalize w1.drew=wd at *
  refine ay (i:=2) (v:=?vv2) rfl (by kernel_rfl) (fun _ _ _ h=>h) rfl r1 ?hy2 ?rest2
  case hy2 =>
   intro wy hy;have q0:=af hy 0;have q1:=af hy 1;clear hy;go_simp;try with_reducible rfl
  try simp only[Act.put,It,Is,Ir,Iq,Iu,Iv]
  have q0:=af r0 0;have q1:=af r0 1;refine ar (i:=0) rfl (by kernel_rfl) rfl (fun K hK=>?_);go_simp;refine hK _ _ (fun _ _=>r1) ?_;clear hK K q0 q1;try simp only[Act.put,It,Is,Ir,Iq,Iu,Iv]
  refine ar (i:=1) rfl (by kernel_rfl) rfl (fun K hK=>?_);go_simp;refine (jv _ n wd HZN.out).mono ?_;rintro e w2 ⟨v2,rfl,hz2,hb2⟩;refine hK _ _ (fun _ _=>(hb2.block _ (ah r1)).trans r1) ?_;clear hK K;try simp only[Act.put,It,Is,Ir,Iq,Iu,Iv]
  refine ar (i:=3) rfl (by kernel_rfl) rfl (fun K hK=>?_);go_simp;refine (jv _ d w2 (HZD.out.below hb2)).mono ?_;rintro e w3 ⟨v3,rfl,hz3,hb3⟩;have hb23:=LK hb2 hb3;refine hK _ _ (fun _ _=>(hb23.block _ (ah r1)).trans r1) ?_;clear hK K;try simp only[Act.put,It,Is,Ir,Iq,Iu,Iv]
  have r0:=(hb23.block _ (ah r0)).trans r0;have r1:=(hb23.block _ (ah r1)).trans r1;have r2:=(hb23.block _ (ah r2)).trans r2;have hz2:=hz2.below hb3;have HBI:=Ip (LK HBI.out hb23);clear HZN HZD hb2 hb3 hb23;obtain⟨n2,hn2⟩:∃ x,x=-n:=⟨_,rfl⟩;obtain⟨D,hD⟩:∃ D:Nat,-d=D:=⟨(-d).toNat,by omega⟩;rw[<-hn2] at hz2;rw[hD] at hz3;have ea:n.natAbs=n2.natAbs:=by rw[hn2,Kt]
  have ed:d.natAbs=D:=by omega
  have HFN:=Ip (show bu n2.natAbs by rw[<-ea];exact HFN.out);have HFD:=Ip (show bu (D:Int).natAbs by rw[I0,<-ed];exact HFD.out);have HFG:=Ip (show bu (Nat.gcd n2.natAbs (D:Int).natAbs) by rw[I0,<-ed,<-ea];exact HFG.out);have HGP:=Ip (show 0<Nat.gcd n2.natAbs (D:Int).natAbs by rw[I0,<-ed,<-ea];exact HGP.out)
  have eq:(n:Rat) / (d:Rat)=(n2:Rat) / (((D:Nat):Int):Rat):=by
   rw[hn2,<-hD,Rat.intCast_neg,Rat.intCast_neg];have:(d:Rat)≠0:=fun e=>hd0 (Rat.intCast_inj.1 e);grind
  obtain⟨pa,Na,ca,rfl,hNa,hNca,hcma,hda⟩:=hz2.parts;obtain⟨pb,Nb,cb,rfl,hNb,hNcb,hcmb,hdb⟩:=hz3.nat;obtain⟨m2,hm2⟩:∃ m,m=decide (n2<0):=⟨_,rfl⟩;rw[<-hm2] at hz2 |-
  have HR:Hid (rt ((n:Rat) / (d:Rat))=⟨decide (sgn m2 (n2.natAbs / Nat.gcd n2.natAbs (D:Int).natAbs)<0),n2.natAbs / Nat.gcd n2.natAbs (D:Int).natAbs,(D:Int).natAbs / Nat.gcd n2.natAbs (D:Int).natAbs⟩):=by
   have h:=wM (m:=m2) (N:=n2.natAbs) (D:=D) (by omega) (fun h=>by rw[hm2];exact decide_eq_false (by omega));rw[hm2,<-Er (by omega)] at h;rw[hm2,eq,I0];exact h
  have P1:=cP (u0:=.bool m2) (u1:=.slice pa Na ca) r0;have P2:=cP (u0:=.bool false) (u1:=.slice pb Nb cb) ((P1.other _ (by omega)).trans r1);have k0:=af r0 0;have k1:=af r0 1;have k2:=af ((P1.other (w.heap.size+1) (by omega)).trans r1) 0;have k3:=af ((P1.other (w.heap.size+1) (by omega)).trans r1) 1;have f0:=LL w3 w.heap.size 0 _ _ r0;have f1:=LL w3 w.heap.size 1 _ _ r0;have f2:=LL _ (w.heap.size+1) 0 _ _ ((P1.other (w.heap.size+1) (by omega)).trans r1);have f3:=LL _ (w.heap.size+1) 1 _ _ ((P1.other (w.heap.size+1) (by omega)).trans r1);have r0':=(P2.other _ (by omega)).trans P1.row;have r1':=P2.row;have r2':=((P2.other _ (by omega)).trans (P1.other _ (by omega))).trans r2;have hmid:=(P1.other (w.heap.size+1) (by omega)).trans r1;have HMID:=Ip hmid;have HD:=Ip (P2.isI hmid eA (P1.isI r0 eA hda));have HE:=Ip (P2.isI hmid eA (P1.isI r0 eA hdb));have HZN:=Ip ((hz2.puts P1 r0 eA).puts P2 hmid eA);have HZD:=Ip ((hz3.puts P1 r0 eA).puts P2 hmid eA);have HBI:=Ip ((HBI.out.trans (P1.below w.heap.size (Iw _))).trans (P2.below w.heap.size (I1 _)));clear hz2 hz3 hda hdb hm2 eq ea ed hD hn2 hneg hd0 P1 P2 r0 r1 r2 hmid;refine ar (i:=4) rfl (by kernel_rfl) rfl (fun K hK=>?_);go_simp;change K _ (gW w3 w.heap.size (.bool m2) (.slice pa Na ca));refine hK _ _ (fun _ _=>HMID.out) ?_;clear hK K;try simp only[Act.put,It,Is,Ir,Iq,Iu,Iv]
  refine ar (i:=5) rfl (by kernel_rfl) rfl (fun K hK=>?_);go_simp;change K _ (gW (gW w3 w.heap.size (.bool m2) (.slice pa Na ca)) (w.heap.size+1) (.bool false) (.slice pb Nb cb));refine hK _ _ (fun h=>by cases h) ?_;clear hK K k0 k1 k2 k3 f0 f1 f2 f3;try simp only[Act.put,It,Is,Ir,Iq,Iu,Iv]
  refine aF (by kernel_rfl) ?_ _;simp only[aP];generalize gW (gW w3 w.heap.size (.bool m2) (.slice pa Na ca)) (w.heap.size+1) (.bool false) (.slice pb Nb cb)=wi at *
  have r0:=r0';have r1:=r1';have r2:=r2';clear r0' r1' r2';have x0:=af r0 0;have x1:=af r0 1;have y0:=af r1 0;have y1:=af r1 1;go_wp2_with fail
  refine (rA _ _ n2 ((D:Nat):Int) wi HZN.out HZD.out HFN.out HFD.out).mono ?_;rintro e w2 ⟨v2,rfl,hz2,hb2⟩;obtain⟨p2,N2,c2,rfl,hN2,hNc2,hcm2,hd2⟩:=hz2.nat;have hl2:=bL w2 (.cells #[.bool false,.slice p2 N2 c2] 42);have hb3:=hb2.trans (hl2.below.mono hb2.size);have HB3:=LK HBI.out hb3;have r0:=(hb3.block _ (ah r0)).trans r0;have r1:=(hb3.block _ (ah r1)).trans r1;have r2:=(hb3.block _ (ah r2)).trans r2;have r3:=hl2.s0;have hsz:=Ip hl2.size;have HG:=Ip (hd2.below hl2.below);have HD3:=Ip (HD.out.below hb3);have HE3:=Ip (HE.out.below hb3);clear hl2 hb2 hb3 hz2 hd2 x0 x1 y0 y1 HD HE HZN HZD;have a0:=af r0 1;have a1:=af r3 1;go_upto_region 5 with fail
  generalize w2.alloc (.cells #[.bool false,.slice p2 N2 c2] 42)=w3 at *
  go_wp2_with fail
  refine (fi _ _ _ _ w3 HD3.out HG.out HGP.out HFN.out HFG.out).mono ?_;rintro e w4 ⟨v4,v4',rfl,hq,_,hb4⟩;have hlt3:w2.heap.size<w3.heap.size:=by have:=hsz.out;omega
  have s1:=(hb4.block _ (ah r1)).trans r1;have s2:=(hb4.block _ (ah r2)).trans r2;have s3:=(hb4.block _ (ah r3)).trans r3;have s0:=(hb4.block _ (ah r0)).trans r0;have HG4:=Ip (HG.out.below hb4);have HE4:=Ip (HE3.out.below hb4);have HQ4:=Ip hq;have HB4:=LK HB3 hb4;clear r0 r1 r2 r3 a0 a1 HB3 hb4 HD3 HE3 HG hq;have a1:=af s1 1;have a3:=af s3 1;have a0:=af s0 0;go_wp2_with fail
  refine (fi _ _ _ _ w4 HE4.out HG4.out HGP.out HFD.out HFG.out).mono ?_;rintro e w5 ⟨v5,v5',rfl,hq5,_,hb5⟩;have s0':=(hb5.block _ (ah s0)).trans s0;have s2':=(hb5.block _ (ah s2)).trans s2;have HQ5:=Ip (HQ4.out.below hb5);have HP5:=Ip hq5;have HB5:=LK HB4 hb5;clear s0 s1 s2 s3 a0 a1 a3 HB4 hb5 HQ4 HG4 HE4 hq5;have a0:=af s0' 0;go_wp2_with fail
  refine (dW _ _ _ w5 HQ5.out (aQ _).1).mono ?_;rintro e w6 ⟨v6,rfl,hz6,hb6⟩;rw[aA aH] at hz6;obtain⟨p6,N6,c6,rfl,hN6,hNc6,hcm6,hd6⟩:=hz6.parts;rw[iU] at hd6;have HP6:=Ip (HP5.out.below hb6);have t2:=(hb6.block _ (ah s2')).trans s2';have HB6:=LK HB5 hb6;have HD6:=Ip hd6;clear a0 s0' s2' HP5 HQ5 HB5 hb6 hz6 hd6;generalize hsg:decide (sgn m2 _<0)=m6 at *
  have HSG:=Ip hsg;clear hsg;go_wp2_with fail
  refine (dW _ _ _ w6 HP6.out (aQ _).1).mono ?_;rintro e w7 ⟨v7,rfl,hz7,hb7⟩;rw[aA aH] at hz7;obtain⟨p7,N7,c7,rfl,hN7,hNc7,hcm7,hd7⟩:=hz7.nat;have u2:=(hb7.block _ (ah t2)).trans t2;have HB7:=LK HB6 hb7;have hP:=aR (u0:=.bool m6) (u1:=.slice p6 N6 c6) (u2:=.bool false) (u3:=.slice p7 N7 c7) u2
  have hZ:Hid (cW (dL w7 (w.heap.size+1+1) (.bool m6) (.slice p6 N6 c6) (.bool false) (.slice p7 N7 c7)) (.agg #[.bool m6,.slice p6 N6 c6,.bool false,.slice p7 N7 c7]) (rt ((n:Rat) / (d:Rat)))):=by
   rw[HR.out];exact⟨_,_,rfl,hP.isI u2 bf (HD6.out.below hb7),hP.isI u2 bf hd7⟩
  have hB:=HB7.trans (hP.below w.heap.size (by omega));have q0:=af u2 0;have q1:=af u2 1;have q2:=af u2 2;have q3:=af u2 3;have f0:=LL w7 (w.heap.size+1+1) 0 _ _ u2;have f1:=LL w7 (w.heap.size+1+1) 1 _ _ u2;have f2:=LL w7 (w.heap.size+1+1) 2 _ _ u2;have f3:=LL w7 (w.heap.size+1+1) 3 _ _ u2;clear t2 HP6 HB6 hb7 hz7 hd7 HD6;go_wp2_with fail
  (try simp only[Exit.inBlock,Exit.then])
  change bodyPost _ _ _ _ _ (dL w7 (w.heap.size+1+1) (.bool m6) (.slice p6 N6 c6) (.bool false) (.slice p7 N7 c7));refine LM (results_cell_row rfl _ _ (w.heap.size+1+1) _ _ (0,0) _ rfl hP.row Tryz.underlying44 rfl (by kernel_rfl)) rfl ?_;exact⟨_,rfl,hZ.out,hB⟩
 ·obtain⟨D,rfl⟩:∃ D:Nat,d=D:=⟨d.toNat,by omega⟩;obtain rfl:md=false:=by rw[HMD.out];exact decide_eq_false hneg
  have HR:Hid (rt ((n:Rat) / ((D:Int):Rat))=⟨decide (sgn mn (n.natAbs / Nat.gcd n.natAbs (D:Int).natAbs)<0),n.natAbs / Nat.gcd n.natAbs (D:Int).natAbs,(D:Int).natAbs / Nat.gcd n.natAbs (D:Int).natAbs⟩):=by
   have h:=wM (m:=mn) (N:=n.natAbs) (D:=D) (by omega) (fun h=>by rw[HMN.out];exact decide_eq_false (by omega));rw[HMN.out,<-Er (by omega)] at h;rw[HMN.out,I0];exact h
  clear hneg hd0;have x0:=af r0 0;have x1:=af r0 1;have y0:=af r1 0;have y1:=af r1 1;go_wp2_with fail
  refine (rA _ _ n ((D:Nat):Int) w1 HZN.out HZD.out HFN.out HFD.out).mono ?_;rintro e w2 ⟨v2,rfl,hz2,hb2⟩;obtain⟨p2,N2,c2,rfl,hN2,hNc2,hcm2,hd2⟩:=hz2.nat;have hl2:=bL w2 (.cells #[.bool false,.slice p2 N2 c2] 42);have hb3:=hb2.trans (hl2.below.mono hb2.size);have HB3:=LK HBI.out hb3;have r0:=(hb3.block _ (ah r0)).trans r0;have r1:=(hb3.block _ (ah r1)).trans r1;have r2:=(hb3.block _ (ah r2)).trans r2;have r3:=hl2.s0;have hsz:=Ip hl2.size;have HG:=Ip (hd2.below hl2.below);have HD3:=Ip (HD.out.below hb3);have HE3:=Ip (HE.out.below hb3);clear hl2 hb2 hb3 hz2 hd2 x0 x1 y0 y1 HD HE HZN HZD;have a0:=af r0 1;have a1:=af r3 1;go_upto_region 5 with fail
  generalize w2.alloc (.cells #[.bool false,.slice p2 N2 c2] 42)=w3 at *
  go_wp2_with fail
  refine (fi _ _ _ _ w3 HD3.out HG.out HGP.out HFN.out HFG.out).mono ?_;rintro e w4 ⟨v4,v4',rfl,hq,_,hb4⟩;have hlt3:w2.heap.size<w3.heap.size:=by have:=hsz.out;omega
  have s1:=(hb4.block _ (ah r1)).trans r1;have s2:=(hb4.block _ (ah r2)).trans r2;have s3:=(hb4.block _ (ah r3)).trans r3;have s0:=(hb4.block _ (ah r0)).trans r0;have HG4:=Ip (HG.out.below hb4);have HE4:=Ip (HE3.out.below hb4);have HQ4:=Ip hq;have HB4:=LK HB3 hb4;clear r0 r1 r2 r3 a0 a1 HB3 hb4 HD3 HE3 HG hq;have a1:=af s1 1;have a3:=af s3 1;have a0:=af s0 0;go_wp2_with fail
  refine (fi _ _ _ _ w4 HE4.out HG4.out HGP.out HFD.out HFG.out).mono ?_;rintro e w5 ⟨v5,v5',rfl,hq5,_,hb5⟩;have s0':=(hb5.block _ (ah s0)).trans s0;have s2':=(hb5.block _ (ah s2)).trans s2;have HQ5:=Ip (HQ4.out.below hb5);have HP5:=Ip hq5;have HB5:=LK HB4 hb5;clear s0 s1 s2 s3 a0 a1 a3 HB4 hb5 HQ4 HG4 HE4 hq5;have a0:=af s0' 0;go_wp2_with fail
  refine (dW _ _ _ w5 HQ5.out (aQ _).1).mono ?_;rintro e w6 ⟨v6,rfl,hz6,hb6⟩;rw[aA aH] at hz6;obtain⟨p6,N6,c6,rfl,hN6,hNc6,hcm6,hd6⟩:=hz6.parts;rw[iU] at hd6;have HP6:=Ip (HP5.out.below hb6);have t2:=(hb6.block _ (ah s2')).trans s2';have HB6:=LK HB5 hb6;have HD6:=Ip hd6;clear a0 s0' s2' HP5 HQ5 HB5 hb6 hz6 hd6;generalize hsg:decide (sgn mn _<0)=m6 at *
  have HSG:=Ip hsg;clear hsg;go_wp2_with fail
  refine (dW _ _ _ w6 HP6.out (aQ _).1).mono ?_;rintro e w7 ⟨v7,rfl,hz7,hb7⟩;rw[aA aH] at hz7;obtain⟨p7,N7,c7,rfl,hN7,hNc7,hcm7,hd7⟩:=hz7.nat;have u2:=(hb7.block _ (ah t2)).trans t2;have HB7:=LK HB6 hb7;have hP:=aR (u0:=.bool m6) (u1:=.slice p6 N6 c6) (u2:=.bool false) (u3:=.slice p7 N7 c7) u2
  have hZ:Hid (cW (dL w7 (w.heap.size+1+1) (.bool m6) (.slice p6 N6 c6) (.bool false) (.slice p7 N7 c7)) (.agg #[.bool m6,.slice p6 N6 c6,.bool false,.slice p7 N7 c7]) (rt ((n:Rat) / (((D:Nat):Int):Rat)))):=by
   rw[HR.out];exact⟨_,_,rfl,hP.isI u2 bf (HD6.out.below hb7),hP.isI u2 bf hd7⟩
  have hB:=HB7.trans (hP.below w.heap.size (by omega));have q0:=af u2 0;have q1:=af u2 1;have q2:=af u2 2;have q3:=af u2 3;have f0:=LL w7 (w.heap.size+1+1) 0 _ _ u2;have f1:=LL w7 (w.heap.size+1+1) 1 _ _ u2;have f2:=LL w7 (w.heap.size+1+1) 2 _ _ u2;have f3:=LL w7 (w.heap.size+1+1) 3 _ _ u2;clear t2 HP6 HB6 hb7 hz7 hd7 HD6;go_wp2_with fail
  (try simp only[Exit.inBlock,Exit.then])
  change bodyPost _ _ _ _ _ (dL w7 (w.heap.size+1+1) (.bool m6) (.slice p6 N6 c6) (.bool false) (.slice p7 N7 c7));refine LM (results_cell_row rfl _ _ (w.heap.size+1+1) _ _ (0,0) _ rfl hP.row Tryz.underlying44 rfl (by kernel_rfl)) rfl ?_;exact⟨_,rfl,hZ.out,hB⟩
end Go.Proofs.YtlhpcoelfhjomaaGreatDoor
