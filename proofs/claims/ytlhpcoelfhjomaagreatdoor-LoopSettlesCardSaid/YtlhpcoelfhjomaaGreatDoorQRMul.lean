/- L -/
import Derived.Laws.AppendOwnNone
import Derived.Laws.OwnMore
import Derived.Test.YtlhpcoelfhjomaaGreatDoorQRNat2
import Derived.Test.YtlhpcoelfhjomaaGreatDoorQReg
set_option linter.all false
set_option maxRecDepth 100000
set_option maxHeartbeats 8000000
namespace Go.Proofs.YtlhpcoelfhjomaaGreatDoor
open Go.RowKit Dg
theorem qS (z:Int):sgn (decide (z<0)) z.natAbs=z:=by
 unfold sgn;by_cases h:z<0
 ·simp[h];omega
 ·simp[h];omega
theorem FS (x y:Int):sgn (decide (x<0) != decide (y<0)) (x.natAbs*y.natAbs)=x*y:=by
 have hx:=qS x;have hy:=qS y;generalize decide (x<0)=a at *
 generalize decide (y<0)=b at *
 rw[<-hx,<-hy,iU,iU];unfold sgn
 cases a<;>cases b<;>simp[Int.neg_mul,Int.mul_neg]
def Hw (l m lo:List Nat) (i k c:Nat) (lo1:List Nat):Prop:=(k<=m.length/\RIn lo m (nth l i) i k c lo1)\/(k=m.length+1/\c=0/\tA l m (i+1) lo1)
theorem gH (va vb:Value) (x y:Int) (w:World) (ha:IsZ w va x) (hb:IsZ w vb y) (hla:(aq RR x.natAbs).length<1000000) (hlb:(aq RR y.natAbs).length<1000000) :
  Calls Tryz.prog 55 #[va,vb] w fun e w'=>∃ v,e=.returned v/\IsZ w' v (x*y)/\Below w.heap.size w w':=by
 obtain⟨vd,rfl,hd⟩:=ha;obtain⟨ve,rfl,he⟩:=hb;obtain⟨l,hl⟩:∃ l,l=aq RR x.natAbs:=⟨_,rfl⟩;obtain⟨m,hm⟩:∃ m,m=aq RR y.natAbs:=⟨_,rfl⟩;have hvl:val RR l=x.natAbs:=by rw[hl];exact aA aH _
 have hvm:val RR m=y.natAbs:=by rw[hm];exact aA aH _
 have hcl:∀ d∈l,d<RR:=by rw[hl];exact (aQ _).1
 have hcm:∀ d∈m,d<RR:=by rw[hm];exact (aQ _).1
 unfold IsD at hd he;rw[<-hl] at hd hla;rw[<-hm] at he hlb;have HS:=Ip (FS x y);clear hl hm;obtain⟨ma,hma⟩:∃ ma,ma=decide (x<0):=⟨_,rfl⟩;obtain⟨mb,hmb⟩:∃ mb,mb=decide (y<0):=⟨_,rfl⟩;rw[<-hma,<-hmb,<-hvl,<-hvm] at HS;rw[<-hma,<-hmb];clear hma hmb hvl hvm;obtain⟨p,cap,rfl,hlc,hcp,hcell⟩:=hd;obtain⟨p',cap',rfl,hlc',hcp',hcell'⟩:=he;unfold maxLen at hcp hcp';obtain⟨w1,hw1⟩:∃ w1:World,w1=((w.alloc (.cells #[.bool ma,.slice p l.length cap] 42)).alloc (.cells #[.bool mb,.slice p' m.length cap'] 42)).alloc (.cells #[.bool false,.slice none 0 0] 42):=⟨_,rfl⟩;have hb1:Below w.heap.size w w1:=by rw[hw1];exact (((LN _ _).alloc (Iw _) _).alloc (by simp) _).alloc (by simp;omega) _
 have s0:w1.heap[w.heap.size]?=some (.cells #[.bool ma,.slice p l.length cap] 42 (0,0)):=by rw[hw1];exact (heap_alloc_old _ _ (by simp;omega)).trans ((heap_alloc_old _ _ (by simp)).trans (heap_alloc_new _ _))
 have s1:w1.heap[w.heap.size+1]?=some (.cells #[.bool mb,.slice p' m.length cap'] 42 (0,0)):=by
  rw[hw1];refine (heap_alloc_old _ _ (by simp)).trans ?_;have:=heap_alloc_new (w.alloc (.cells #[.bool ma,.slice p l.length cap] 42)) (.cells #[.bool mb,.slice p' m.length cap'] 42);simpa using this
 have s2:w1.heap[w.heap.size+1+1]?=some (.cells #[.bool false,.slice none 0 0] 42 (0,0)):=by
  rw[hw1];have:=heap_alloc_new ((w.alloc (.cells #[.bool ma,.slice p l.length cap] 42)).alloc (.cells #[.bool mb,.slice p' m.length cap'] 42)) (.cells #[.bool false,.slice none 0 0] 42);simpa using this
 have hsz:w1.heap.size=w.heap.size+1+1+1:=by rw[hw1];simp
 have HSZ:=Ip hsz;have x0:=af s0 1;have x1:=af s1 1;go_enter Tryz.func55,Tryz.ntmps55;go_upto_region 1 with fail
 rw[<-hw1];clear hw1 hsz;go_wp2_with (at_make;refine lF 40 Tryz.underlying40 rfl (.tmp 16) (.tmp 16) rfl _ _ (l.length+m.length) rfl rfl (by simp) (by simp) ?c1 ?_)
 case c1=>omega
 intro w0 hrow hb0 hs0;have hbz:=hb0 _ _ (LN _ _) (Iw _);clear hb0 x0 x1;have HB1:=Ip hb1;clear hb1;go_wp2;go_loopw [6] (fun s6 wr=>∃ (i:Nat) (lo:List Nat),i<=l.length/\s6=.int .i64 i/\Hid (tA l m i lo)/\Hid (fw wr w1.heap.size (l.length+m.length) lo)/\Below w1.heap.size w1 wr) (fun s6 _=>l.length-(intOf s6).toNat)
 case atStart=>exact⟨0,_,IF _,rfl,yO l m,hrow,hbz⟩
 case round =>
  obtain⟨i,lo,hi,rfl,hout,hro,hbw⟩:=hrel;clear hrow hbz hs0;have r0:=(hbw.block _ (by have:=HSZ.out;omega)).trans s0;have r1:=(hbw.block _ (by have:=HSZ.out;omega)).trans s1;have x0:=af r0 1;by_cases h0:i<l.length
  ·obtain⟨b,o,rfl,hbb,hc⟩:=hcell (by omega);have hbb1:b<w1.heap.size:=Iz hbb HB1.out.size;have hc0:=(HB1.out.cell (p:=⟨b,o+i,none⟩) hbb).trans (hc i h0);have hx:=cY hcl h0;rw[iL] at hx;have hlen:=Ip hout.out.len;clear hc hcell r0 r1;go_wp2_with fail
   clear x0;go_loopw [7,8] (fun s7 s8 wq=>∃ (k c:Nat) (lo1:List Nat),s7=.int .i64 c/\s8=.int .i64 k/\k<=m.length+1/\Hw l m lo i k c lo1/\Hid (fw wq w1.heap.size (l.length+m.length) lo1)/\Below w1.heap.size w1 wq) (fun _ s8 _=>m.length+1-(intOf s8).toNat)
   case atStart=>exact⟨0,0,lo,rfl,rfl,IF _,Or.inl ⟨IF _,BN lo m _ i hout.out.dig⟩,hro,hbw⟩
   case round =>
    obtain⟨k,c,lo1,rfl,rfl,hk1,hmi,hro1,hbw1⟩:=hrel;clear hbw hro;have r0:=(hbw1.block _ (by have:=HSZ.out;omega)).trans s0;have r1:=(hbw1.block _ (by have:=HSZ.out;omega)).trans s1;have x0:=af r0 1;have x1:=af r1 1;clear r0 r1;rcases hmi with ⟨hk,hin⟩ | ⟨rfl,rfl,hend⟩
    ·have hcar:c<10000:=hin.car;have hlen1:lo1.length=l.length+m.length:=by rw[hin.len];exact hlen.out
     by_cases hk0:k<m.length
     ·obtain⟨b',o',rfl,hbb',hc'⟩:=hcell' (by omega);have hc1':=((LK HB1.out hbw1).cell (p:=⟨b',o'+k,none⟩) hbb').trans (hc' k hk0);have hc1:=(hbw1.cell (p:=⟨b,o+i,none⟩) hbb1).trans hc0;have hik:i+k<lo1.length:=by omega
      have hy:=cY hcm hk0;have hoc:=cY hin.dig hik;rw[iL] at hy hoc;have hxy:nth l i*nth m k<=9999*9999:=Je (by omega) (by omega);have hxy0:0<=(nth l i:Int)*(nth m k:Int):=by omega
      have hxy1:(nth l i:Int)*(nth m k:Int)<=99980001:=by omega
      have hkI:decide ((k:Int)<(m.length:Int))=true:=by simp;omega
      have ho:=hro1.out.cell hik;have hf:=hro1.out.free (i+k);have hst:=Ip (En hin hk0 (by rw[hlen.out];omega) (by rw[iL];exact hx) hcm);simp only[iL] at hst;clear hc' hcell' hin;go_wp2_with fail
      go_quiet (fail)
      go_wp2_with fail
      go_roundw;case rel=>exact⟨k+1,_,_,by go_num,by go_num,by omega,Or.inl ⟨by omega,hst.out⟩,hro1.out.set (i+k) _ _ (by go_num),(below_drewN hbw1 _).setCell (p:=⟨w1.heap.size,i+k,none⟩) (Iw _) _⟩
      case measure=>simp[intOf]<;>omega
     ·obtain rfl:k=m.length:=by omega
      have hkI:decide ((m.length:Int)<(m.length:Int))=false:=by simp
      by_cases hc0':0<c
      ·have hcI:decide ((0:Int)<(c:Int))=true:=by simp;omega
       have hik:i+m.length<lo1.length:=by omega
       have hz:=BO hout.out hin;have ho:=hro1.out.cell hik;rw[hz] at ho;have hf:=hro1.out.free (i+m.length);have hst:=Ip (yL hout.out h0 hin);clear hin hz;go_wp2_with fail
       go_roundw;case rel=>exact⟨m.length+1,0,_,by go_num,by go_num,by omega,Or.inr ⟨rfl,rfl,hst.out⟩,hro1.out.set (i+m.length) _ _ (by go_num),hbw1.setCell (p:=⟨w1.heap.size,i+m.length,none⟩) (Iw _) _⟩
       case measure=>simp[intOf]<;>omega
      ·obtain rfl:c=0:=by omega
       have hst:=Ip (yK hout.out h0 hin);clear hin;go_wp2_with fail
       go_roundw;case rel=>exact⟨i+1,_,by omega,by go_num,hst.out,hro1,hbw1⟩
       case measure=>simp[intOf]<;>omega
    ·have hkI:decide (((m.length+1:Nat):Int)<(m.length:Int))=false:=by simp<;>omega
     have HE:=Ip hend;clear hend;go_wp2_with fail
     go_roundw;case rel=>exact⟨i+1,_,by omega,by go_num,HE.out,hro1,hbw1⟩
     case measure=>simp[intOf]<;>omega
  ·obtain rfl:i=l.length:=by omega
   have x1:=af r1 1;have y0:=af r0 0;have y1:=af r1 0;have hiI:decide ((l.length:Int)<(l.length:Int))=false:=by simp
   have hlen:=hout.out.len;have hend:=Ip (Ep hout.out);have hdig:=Ip hout.out.dig;have r2:=(hbw.block _ (by have:=HSZ.out;omega)).trans s2
   have hib:Hid (IsI wr (.slice (some ⟨w1.heap.size,0,none⟩) (l.length+m.length) (l.length+m.length)) lo):=by
    have:=hro.out.isU;rw[hlen] at this;exact this
   clear h0 hcell hcell' hout hro r0 r1;go_wp2_with fail
   refine (dW (!(ma == mb)) _ lo wr hib.out hdig.out).mono ?_;rintro e w5 ⟨v',rfl,hz,hb5⟩
   have hval:val RR lo=val RR l*val RR m:=by
    have:=congrArg (val RR) hend.out;rw[rj,aA aH] at this;exact this
   rw[hval] at hz;have hz2:IsZ w5 v' (x*y):=by rw[<-HS.out];exact hz
   obtain⟨vd,rfl,hd5⟩:=hz2;obtain⟨pd,cd,rfl,hcd,hcm⟩:=hd5.slice;have r2':=(hb5.block _ (ah r2)).trans r2;have hbB:=LK HB1.out hbw;have hbC:=LK hbB hb5;have hsz5:w.heap.size+1+1<w5.heap.size:=ah r2';have q0:=af r2' 0;have q1:=af r2' 1;have f0:=LL w5 (w.heap.size+1+1) 0 _ _ r2';have f1:=LL w5 (w.heap.size+1+1) 1 _ _ r2';generalize (aq RR (x*y).natAbs).length=N at hcd hd5 |-;generalize hsg:decide (x*y<0)=sg at hz |-;have hrow:Hid (((w5.setCell ⟨w.heap.size+1+1,0,none⟩ (.bool sg)).setCell ⟨w.heap.size+1+1,1,none⟩ (.slice pd N cd)).heap[w.heap.size+1+1]?=some (.cells #[.bool sg,.slice pd N cd] 42 (0,0))):=uE r2' _ _;have hfin:Hid (Below w.heap.size w ((w5.setCell ⟨w.heap.size+1+1,0,none⟩ (.bool sg)).setCell ⟨w.heap.size+1+1,1,none⟩ (.slice pd N cd))):=(hbC.setCell (p:=⟨w.heap.size+1+1,0,none⟩) (by show w.heap.size<=w.heap.size+1+1;omega) _).setCell (p:=⟨w.heap.size+1+1,1,none⟩) (by show w.heap.size<=w.heap.size+1+1;omega) _
   have hend5:Hid (IsZ ((w5.setCell ⟨w.heap.size+1+1,0,none⟩ (.bool sg)).setCell ⟨w.heap.size+1+1,1,none⟩ (.slice pd N cd)) (.agg #[.bool sg,.slice pd N cd]) (x*y)) :=
    ⟨_,by rw[hsg],IsI.two r2' (fun z=>by simp) (fun z=>by simp) hd5 _ _⟩
   unfold maxLen at hcm;clear r2 r2' hz hd5 hsg y0 y1 x0 x1 s0 s1 s2 hbC hbB;go_wp2_with fail
   (try simp only[Exit.inBlock,Exit.then])
   refine LM (results_cell_row rfl _ _ (w.heap.size+1+1) _ _ (0,0) _ rfl hrow.out Tryz.underlying42 rfl (by kernel_rfl)) rfl ?_;exact⟨_,rfl,hend5.out,hfin.out⟩
structure Ck (n m:Nat) (out:List Nat):Prop where
 dig:∀ d∈out,d<RR
 eq:val RR out+m*RR ^ out.length=n
 few:out.length+m<=n
theorem DP (n:Nat):Ck n n []:=⟨by simp,by simp[val],by simp⟩
theorem FA {n m:Nat}{out:List Nat} (h:Ck n m out) (hm:0<m):Ck n (m / 10000) (out++[m % 10000]):=by
 have h1:=h.few;refine⟨fun d hd=>?_,?_,by simp only[IG,IT,Jn];omega⟩
 ·rcases Jo.1 hd with hd | hd
  ·exact h.dig d hd
  ·rw[Jj.1 hd];exact Jw _ (by decide)
 ·have he:=h.eq;have hd:=Jh m 10000;rw[eI,IG,List.length_singleton,IN];have:RR=10000:=rfl;generalize m / 10000=a at *
  generalize m % 10000=b at *
  rw[<-he,<-hd,this];grind
theorem Ha {n:Nat}{out:List Nat} (h:Ck n 0 out):val RR out=n:=by have:=h.eq;omega
theorem jT (n:Nat) (hn:n<1000000000000) (w:World) :
  Calls Tryz.prog 64 #[.int .i64 n] w fun e w'=>∃ v,e=.returned v/\IsZ w' v (n:Int)/\Below w.heap.size w w':=by
 have hb1:Below w.heap.size w (w.alloc (.cells #[.bool false,.slice none 0 0] 42)):=(LN _ _).alloc (Iw _) _;have s0:(w.alloc (.cells #[.bool false,.slice none 0 0] 42)).heap[w.heap.size]?=some (.cells #[.bool false,.slice none 0 0] 42 (0,0)):=heap_alloc_new _ _;have hd0:decide ((n:Int)<0)=false:=by simp
 go_enter Tryz.func64,Tryz.ntmps64;go_upto_region 1 with fail
 generalize w.alloc (.cells #[.bool false,.slice none 0 0] 42)=w1 at *
 go_wp2_with fail
 go_loopw [0,4] (fun s0 s4 wr=>∃ (m:Nat) (out:List Nat),s0=.int .i64 m/\Hid (Ck n m out)/\Hid (eJ wr w1.heap.size s4 out)/\Below w1.heap.size w1 wr) (fun s0 _ _=>(intOf s0).toNat)
 case atStart=>exact⟨n,[],rfl,DP n,World.ownsRow_nil _ _ _ _,LN _ _⟩
 case round =>
  obtain⟨m,out,rfl,hst,hown,hbw⟩:=hrel;have hfew:=hst.out.few;have hsz:=hbw.size;by_cases hm:m=0
  ·subst hm;have hend:=Ip (Ha hst.out);have hdig:=Ip hst.out.dig;have s1:=(hbw.block _ (ah s0)).trans s0;obtain⟨po,co,rfl,_,_⟩:=(eJ.isU hown.out).slice;have hoi:=Ip (eJ.isU hown.out);have HB:=LK hb1 hbw;clear hst hown hbw hb1 s0;go_wp2_with fail
   refine (dW false _ out wr hoi.out hdig.out).mono ?_;rintro e w5 ⟨v',rfl,hz,hb5⟩;rw[hend.out,show sgn false n=(n:Int) from rfl] at hz;obtain⟨vd,rfl,hd5⟩:=hz;obtain⟨pd,cd,rfl,hcd,hcm⟩:=hd5.slice;have r2:=(hb5.block _ (ah s1)).trans s1;have hbC:=LK HB hb5;have q0:=af r2 0;have q1:=af r2 1;have f0:=LL w5 w.heap.size 0 _ _ r2;have f1:=LL w5 w.heap.size 1 _ _ r2;generalize (aq RR (n:Int).natAbs).length=N at hcd hd5 |-;have hsg:decide ((n:Int)<0)=false:=by simp
   rw[hsg];have hrow:Hid (((w5.setCell ⟨w.heap.size,0,none⟩ (.bool false)).setCell ⟨w.heap.size,1,none⟩ (.slice pd N cd)).heap[w.heap.size]?=some (.cells #[.bool false,.slice pd N cd] 42 (0,0))):=uE r2 _ _;have hfin:Hid (Below w.heap.size w ((w5.setCell ⟨w.heap.size,0,none⟩ (.bool false)).setCell ⟨w.heap.size,1,none⟩ (.slice pd N cd))):=(hbC.setCell (p:=⟨w.heap.size,0,none⟩) (Iw _) _).setCell (p:=⟨w.heap.size,1,none⟩) (Iw _) _
   have hend5:Hid (IsZ ((w5.setCell ⟨w.heap.size,0,none⟩ (.bool false)).setCell ⟨w.heap.size,1,none⟩ (.slice pd N cd)) (.agg #[.bool false,.slice pd N cd]) (n:Int)) :=
    ⟨_,by rw[hsg],IsI.two r2 (fun z=>by simp) (fun z=>by simp) hd5 _ _⟩
   unfold maxLen at hcm;clear r2 hd5 hbC s1 hsg hd0;go_wp2_with fail
   (try simp only[Exit.inBlock,Exit.then])
   refine LM (results_cell_row rfl _ _ w.heap.size _ _ (0,0) _ rfl hrow.out Tryz.underlying42 rfl (by kernel_rfl)) rfl ?_;exact⟨_,rfl,hend5.out,hfin.out⟩
  ·have hne:((m:Int) != 0)=true:=by simp;omega
   have hr:(m:Int).tmod 10000=((m % 10000:Nat):Int):=by rw[JN (by omega)];omega
   have hq:(m:Int).tdiv 10000=((m / 10000:Nat):Int):=by rw[Jy (by omega)];omega
   have hlt:decide ((m:Int).tmod 10000<0)=false:=by rw[hr];exact decide_eq_false (by omega)
   have hst2:=Ip (FA hst.out (show 0<m by omega));clear hst;go_wp2_with (at_builtin;refine bC 40 Tryz.underlying40 rfl (.tmp 16) (.tmp 18) rfl w1.heap.size _ out _ (m % 10000) (by omega) rfl hown.out rfl (by omega) hsz ?_)
   intro v' w2 hown' hb';have hb2:=hb' _ _ hbw (Iw _);clear hown hbw hb';have HO:=Ip hown';clear hown';go_wp2;go_roundw;case rel=>exact⟨m / 10000,_,by go_num,hst2,HO,hb2⟩
   case measure=>simp[intOf];omega
theorem C9 (w:World) (sg:Bool) (p:Option Addr) (N c:Nat):(Instr.field 42 (.agg #[.bool sg,.slice p N c]) 1).run Tryz.prog w=.ok (.slice p N c) w:=by kernel_rfl
/-- the product with a small number -/
theorem tj (v:Value) (l:List Nat) (n:Nat) (w:World) (hv:IsI w v l) (hl:CR l) (hn:n<1000000000000) (hlen:l.length<1000000) :
  Calls Tryz.prog 201 #[v,.int .i64 n] w fun e w'=>∃ v',e=.returned v'/\IsD w' v' (val RR l*n)/\Below w.heap.size w w':=by
 obtain⟨p,cap,rfl,_,_⟩:=hv.slice;have hval:=Ip (kl aH hl);obtain⟨N,hN⟩:∃ N,N=l.length:=⟨_,rfl⟩;rw[<-hN] at hlen |-;have HN:=Ip hN;have HV:=Ip hv;have HL:=Ip hl;clear hN hv hl;go_enter Tryz.func201,Tryz.ntmps201;go_wp2_with fail
 refine (jT n hn w).mono ?_;rintro e w1 ⟨v1,rfl,hz1,hb1⟩
 have hza:IsZ w1 (.agg #[.bool false,.slice p N cap]) (val RR l:Int):=by
  refine⟨_,by rw[show decide ((val RR l:Int)<0)=false by simp],?_⟩;unfold IsD;rw[I0,hval.out,HN.out];exact HV.out.below hb1
 go_wp2_with fail
 refine (gH _ _ _ _ w1 hza hz1 (by rw[I0,hval.out,<-HN.out];exact hlen) (by
  rw[I0];have:=aZ aH (n:=n) (k:=3) (by unfold RR;omega)
  omega)).mono ?_
 rintro e w2 ⟨v2,rfl,hz2,hb2⟩;obtain⟨vd,rfl,hd2⟩:=hz2;rw[show ((val RR l:Int)*(n:Int)).natAbs=val RR l*n by rw[<-Kd,I0]] at hd2;obtain⟨pd,cd,rfl,_,_⟩:=hd2.slice;have HD2:=Ip hd2;have HB2:=LK hb1 hb2;generalize decide ((val RR l:Int)*(n:Int)<0)=sg;clear hd2 hza hz1 hb1 hb2;have hfd:=fun w=>C9 w sg pd (aq RR (val RR l*n)).length cd;go_wp2_with fail
 go_ret;exact⟨_,rfl,HD2.out,HB2⟩
def j8 (l:List Nat) (k:Nat):Nat->Nat
 | 0=>0
 | j+1=>j8 l k j*10000+(if j<=k then nth l (k-j) else 0)
theorem zi {l:List Nat} (hl:∀ d∈l,d<RR) (k:Nat):∀ j,j8 l k j<10000 ^ j
 | 0=>by simp[j8]
 | j+1=>by
  have h1:=zi hl k j;have h2:=cH (j:=k-j) hl;have h3:RR=10000:=rfl;rw[j8,IN]
  split<;>omega
theorem Cq (l:List Nat) (k:Nat):j8 l k 3=kG l k:=by
 simp only[j8,kG,iL];simp
theorem An (v:Value) (l:List Nat) (k:Nat) (w:World) (hv:IsI w v l) (hl:∀ d∈l,d<RR) (hk:k<1000000000) :
  Calls Tryz.prog 228 #[v,.int .i64 k] w fun e w'=>e=.returned (.int .i64 (kG l k:Nat))/\w'=w:=by
 obtain⟨p,cap,rfl,hlc,hcm,hcell⟩:=hv;unfold maxLen at hcm;have HE:=Ip (Cq l k);have HB:=Ip (fun j=>zi hl k j);have HN:=Ip (fun j=>cH (j:=j) hl);rw[<-HE.out];clear hl;go_enter Tryz.func228,Tryz.ntmps228;go_wp2
 go_loop [5,6] (fun s5 s6=>∃ j:Nat,j<=3/\s5=.int .i64 (j8 l k j:Nat)/\s6=.int .i64 ((k:Int)-j)) (fun _ s6=>(intOf s6-k+3).toNat)
 case atStart=>exact⟨0,by omega,rfl,by simp⟩
 case round =>
  obtain⟨j,hj,rfl,rfl⟩:=hrel;have hb:=HB.out j;by_cases h3:j=3
  ·subst h3;go_wp2;go_ret;exact⟨rfl,rfl⟩
  ·have hb2:j8 l k j<100000000:=by
    have:10000 ^ j<=10000 ^ 2:=IQ (by decide) (by omega);omega
   have hgt:decide ((k:Int)-j > (k:Int)-3)=true:=by simp;omega
   have hgt2:decide ((k:Int)-3<(k:Int)-j)=true:=by simp;omega
   by_cases hjk:j<=k
   ·have hge:decide ((0:Int)<=(k:Int)-j)=true:=by simp;omega
    by_cases hlt:k-j<l.length
    ·obtain⟨b,o,rfl,_,hc⟩:=hcell (by omega);have hc1:=hc (k-j) hlt;have hd:=HN.out (k-j);have hdl:decide ((k:Int)-j<(l.length:Int))=true:=by simp;omega
     have hkj:(k:Int)-j=((k-j:Nat):Int):=by omega
     have hacc:j8 l k (j+1)=j8 l k j*10000+nth l (k-j):=by rw[j8,if_pos hjk]
     have HA:=Ip hacc;rw[iL] at hd;clear hc hcell hacc hb;go_wp2
     go_round
     case rel=>exact⟨j+1,by omega,by rw[HA.out];go_num,by go_num⟩
     case measure=>simp[intOf];omega
    ·have hdl:decide ((k:Int)-j<(l.length:Int))=false:=by simp;omega
     have hacc:j8 l k (j+1)=j8 l k j*10000:=by rw[j8,if_pos hjk,gC (by omega)];rfl
     have HA:=Ip hacc;clear hcell hacc hb;go_wp2
     go_round
     case rel=>exact⟨j+1,by omega,by rw[HA.out];go_num,by go_num⟩
     case measure=>simp[intOf];omega
   ·have hge:decide ((0:Int)<=(k:Int)-j)=false:=by simp;omega
    have hacc:j8 l k (j+1)=j8 l k j*10000:=by rw[j8,if_neg hjk];rfl
    have HA:=Ip hacc;clear hcell hacc hb;go_wp2
    go_round
    case rel=>exact⟨j+1,by omega,by rw[HA.out];go_num,by go_num⟩
    case measure=>simp[intOf];omega
theorem nj (b o j:Nat):(⟨b,o,none⟩:Addr).add j=⟨b,o+j,none⟩:=by
 simp only[Addr.add];by_cases h:j=0<;>simp[h]
def Cj (v:Value):Prop:=v=.slice none 0 0\/∃ ad n c,v=.slice (some ad) n c
theorem SlB.nor {B:Nat}{v:Value} (h:SlB B v):Cj v:=by
 rcases h with h | ⟨b,n,c,h,_⟩
 ·exact Or.inl h
 ·exact Or.inr ⟨_,n,c,h⟩
theorem jr {w:World}{ops:Array Oper}{rest:List Oper}{o:Oper}{a:Act}{Q:Exit->Act->World->Prop} (T:TypeId)
  (hT:Tryz.prog.underlying T=some (.slice 3)) (hgd:o.guard=none) (s x:Operand)
  (ho:o.op=.call { callee:=.builtin .append,args:=#[s,x],argTypes:=#[T,T] })
  (base:Nat) (v:Value) (l:List Nat) (hs:a.eval s=v) (hown:eJ w base v l)
  (vx:Value) (m:List Nat) (hx:a.eval x=vx) (hi:IsI w vx m) (hnn:Cj vx) (hlen:l.length+m.length<1000000) (hbase:base<=w.heap.size)
  (h:∀ v' w',eJ w' base v' (l++m)->(∀ B w0,Below B w0 w->B<=base->Below B w0 w')->wpList Tryz.prog ops Q rest (a.put o.dst v') w') :
  wpList Tryz.prog ops Q (o :: rest) a w:=by
 obtain⟨i0,hiz,hz0,hz1,hz2⟩:=info_parts Dp;obtain⟨p,cap,he,hlc,hcm,hcell⟩:=hi;rcases hnn with hn | ⟨ad,n,c,hn⟩
 ·rw[he] at hn;obtain⟨rfl,h0,rfl⟩:p=none/\m.length=0/\cap=0:=by simpa using hn
  obtain rfl:m=[]:=Jc h0;refine wpList_append_own_none hgd s x T ho base 3 i0 1 hT hiz v l.length (iW l) hs hown (by rw[hx,he];rfl) ?_;refine h v w (by rw[Ju];exact hown) (fun B w0 hb _=>hb)
 ·rw[he] at hn;obtain⟨rfl,h0,rfl⟩:p=some ad/\m.length=n/\cap=c:=by simpa using hn
  refine wpList_append_own _ hgd s x T ho base 3 i0 (.int .i64 0) 1 8 hT hiz hz0 hz1 hz2 rfl (by decide) v l.length (iW l) hs hown ad m.length cap (iW m) (by rw[hx,he]) (by rw[nW,JO]) ?_ ?_ ?_ ?_ hbase ?_
  ·intro j u hj
   have hjl:j<m.length:=by
    have:=(Js.1 hj).1
    rwa [nW] at this
   obtain⟨b,o',e2,_,hc⟩:=hcell (by omega);obtain rfl:=Option.some.inj e2;have:=hc j hjl;rw[pX m j hjl] at hj;rw[<-Option.some.inj hj,nj];exact this
  ·intro u hu;unfold iW at hu;obtain⟨d,_,rfl⟩:=Kv.1 hu;rfl
  ·unfold maxLen;omega
  ·omega
  ·intro v' w' hown' hg _;refine h v' w' ?_ (fun B w0 hb hB=>?_)
   ·unfold eJ;rw[IG,nV];exact hown'
   ·have hbs:=hown.lt;refine hb.grown hg (by omega) ?_;intro k hk;have:=(hbs k hk).1;omega
theorem IsI.tail {w:World}{ad:Addr}{N cap k:Nat}{l:List Nat} (h:IsI w (.slice (some ad) N cap) l) (hk:k<=l.length):IsI w (.slice (some (ad.add k)) (l.length-k) (cap-k)) (l.drop k):=by
 obtain⟨p',cap',he,hlc,hcm,hcell⟩:=h;obtain⟨rfl,rfl,rfl⟩:p'=some ad/\l.length=N/\cap'=cap:=by simp at he;exact⟨he.1.symm,he.2.1.symm,he.2.2.symm⟩
 refine⟨some (ad.add k),cap' - k,by rw[IP],by rw[IP];omega,by omega,fun hl=>?_⟩;rw[IP] at hl;obtain⟨b,o,e,hb,hc⟩:=hcell (by omega);obtain rfl:=Option.some.inj e;refine⟨b,o+k,by rw[nj],hb,fun j hj=>?_⟩;rw[IP] at hj;have:=hc (k+j) (by omega);rw[<-J7] at this;rw[this];congr 2;simp[nth,J1]
theorem IsI.store {w:World}{g j:Nat}{v u:Value}{l:List Nat} (h:IsI w v l) (hb:SlB (g+1) v):IsI (w.setCell ⟨g,j,none⟩ u) v l:=by
 obtain⟨p,cap,he,hlc,hcm,hcell⟩:=h;refine⟨p,cap,he,hlc,hcm,fun hl=>?_⟩;obtain⟨b,o,e,hlt,hc⟩:=hcell hl
 have hne:b≠g:=by
  rcases hb with hb | ⟨b',n,c,hb,hge⟩
  ·rw[he] at hb;rw[e] at hb;simp at hb
  ·rw[he,e] at hb;have:b=b':=by simpa using congrArg (fun v=>match v with | Value.slice (some a) _ _=>a.block | _=>0) hb
   omega
 refine⟨b,o,e,by simpa[World.setCell] using hlt,fun i hi=>?_⟩;rw[World.cell?_setCell_other _ _ _ _ (by intro e3;exact hne (congrArg Addr.block e3).symm)];exact hc i hi
theorem bu.len {n:Nat} (h:bu n):(aq RR n).length<100000:=h
theorem GI {x y:Nat} (h:x<=y):decide (dC x y<=0)=true/\(x<y->dC x y=-1):=by
 unfold dC;refine⟨?_,fun h=>by simp[h]⟩
 split
 ·rfl
 ·split
  ·rfl
  ·omega
theorem GH {x y:Nat} (h:y<x):dC x y=1:=by unfold dC;rw[if_neg (by omega),if_neg (by omega)]
theorem Fb {a:List Nat} (h:CR a) {k:Nat} (hk:val RR a<RR ^ k):a.length<=k:=by
 have:=aZ aH hk
 rwa [kl aH h] at this
theorem rx {a:List Nat} (h:CR a):val RR a<RR ^ a.length:=f9 RR a h.1
theorem AX (va vb:Value) (a b:List Nat) (w:World) (ha:IsI w va a) (hb:IsI w vb b) (hca:CR a) (hcb:CR b) (h1:1<=b.length) (hlt:val RR a<RR*val RR b) (hlb:b.length<900000) :
  Calls Tryz.prog 200 #[va,vb] w fun e w'=>e=.returned (.int .i64 (val RR a / val RR b:Nat))/\Below w.heap.size w w':=by
 have hla:a.length<=b.length+1:=Fb hca (by
  rw[IN]
  exact Iz hlt (by rw[IM];exact IJ _ (JI (rx hcb))))
 have hg:=Di hca.1 hcb.1 h1 hla;have hta:=Am hca.1 b.length;have htb:=Am hcb.1 b.length
 have hB:0<val RR b:=by
  have:=ff hcb (IU.1 (by omega));have h4:0<RR ^ (b.length-1):=I9 (by decide);omega
 have HTA:=Ip (fun w' (hi:IsI w' va a)=>An va a b.length w' hi hca.1 (by omega));have HTB:=Ip (fun w' (hi:IsI w' vb b)=>An vb b b.length w' hi hcb.1 (by omega));obtain⟨p,cap,rfl,-,-⟩:=ha.slice;obtain⟨p',cap',rfl,-,-⟩:=hb.slice;generalize kG a b.length=ta at *
 generalize kG b b.length=tb at *
 have HA:=Ip ha;have HBb:=Ip hb;have HCA:=Ip hca;have HCB:=Ip hcb;obtain⟨X,hX⟩:∃ X,X=val RR a:=⟨_,rfl⟩;obtain⟨Y,hY⟩:∃ Y,Y=val RR b:=⟨_,rfl⟩;rw[<-hX,<-hY] at hlt hg |-;rw[<-hY] at hB;have HX:=Ip hX;have HY:=Ip hY;have hz:(((tb:Int)+1) == 0)=false:=by simp;omega
 have hqv:((ta:Int)).tdiv ((tb:Int)+1)=((ta / (tb+1):Nat):Int):=by
  rw[Jy (by omega)];push_cast;rfl
 have hqle:ta / (tb+1)<=ta:=J5 _ _;generalize ta / (tb+1)=n0 at *
 have HL1:=Ip h1;clear hX hY ha hb hca hcb hla h1;go_enter Tryz.func200,Tryz.ntmps200;go_wp2_with fail
 refine (HTA.out w HA.out).mono ?_;rintro e w1 ⟨rfl,hw1⟩;obtain rfl:=hw1.symm;go_wp2_with fail
 refine (HTB.out _ HBb.out).mono ?_;rintro e w1 ⟨rfl,hw1⟩;obtain rfl:=hw1.symm;go_wp2_with fail
 go_loopw [5] (fun s5 wr=>∃ n:Nat,s5=.int .i64 n/\Hid (n*Y<=X)/\Below w.heap.size w wr) (fun s5 _=>X / Y+1-(intOf s5).toNat)
 case atStart=>exact⟨n0,rfl,hg,LN _ _⟩
 case round =>
  obtain⟨n,rfl,hn,hbw⟩:=hrel
  have hnR:n<10000:=by
   have h2:=hn.out;have h3:n*Y<RR*Y:=Jb h2 hlt;exact JZ h3
  go_wp2_with fail
  refine (tj _ b (n+1) wr (HBb.out.below hbw) HCB.out (by omega) (by omega)).mono ?_;rintro e w2 ⟨v2,rfl,hd2,hb2⟩;rw[<-HY.out] at hd2;have hb3:=LK hbw hb2;go_wp2_with fail
  refine (fA v2 _ _ a w2 hd2 (HA.out.below hb3) (aQ _) HCA.out).mono ?_;rintro e w3 ⟨rfl,nq,rfl⟩;rw[aA aH,<-HX.out];have hb4:Below w.heap.size w (w2.drewN nq):=below_drewN hb3 _;clear hb3 hd2 hb2 hbw;by_cases hle:Y*(n+1)<=X
  ·have hc:=(GI hle).1;have HN:Hid ((n+1)*Y<=X):=by unfold Hid;rw[IM];exact hle
   have hmx:n+1<=X / Y:=(Nat.le_div_iff_mul_le hB).2 HN.out;clear hle hn;go_wp2_with fail
   go_roundw;case rel=>exact⟨n+1,by go_num,HN,hb4⟩
   case measure=>simp[intOf];omega
  ·have hc:=GH (show X<Y*(n+1) by omega);have hfin:n=X / Y:=(Ae hn.out (by rw[IM];omega)).1;rw[hc];rw[hfin];clear hle hn;go_wp2_with fail
   go_ret;exact⟨rfl,hb4⟩
theorem Dt (w:World):IsD w (.slice none 0 0) 0:=by
 unfold IsD;rw[cz];exact⟨none,0,rfl,Iw _,by unfold maxLen;omega,fun h=>by simp at h⟩
theorem GV {w:World}{v:Value}{l:List Nat} (h:IsI w v l) (hl:CR l):IsD w v (val RR l):=by
 unfold IsD;rw[kl aH hl];exact h
theorem pY {w:World}{p:Option Addr}{N cap:Nat}{l:List Nat} (h:IsI w (.slice p N cap) l) (hl:∀ d∈l,d<RR):IsD w (.slice p (lean l).length cap) (val RR l):=by
 unfold IsD;rw[<-c_ aH hl];exact h.lean
theorem FD (w:World) (T:Int) (d:Nat) (hT:T=d):eJ (w.alloc (.cells #[.int .i64 T] 3)) w.heap.size (.slice (some ⟨w.heap.size,0,none⟩) 1 1) [d]:=by
 subst hT;refine⟨rfl,Or.inr ⟨w.heap.size,1,#[.int .i64 d],rfl,Iw _,heap_alloc_new _ _,Iw _,by unfold maxLen;omega,rfl,rfl⟩⟩
theorem xY {a b q:List Nat}{k R:Nat} (ha:∀ d∈a,d<RR) (h:lX a b k q R):nth a (k-1)+RR*R<RR*val RR b:=by
 have:=h.lt;have hd:=cH (j:=k-1) ha;have h4:RR*(R+1)<=RR*val RR b:=IV _ this;rw[K8] at h4;omega
theorem vw {b:List Nat}{X:Nat} (hcb:CR b) (h:X<RR*val RR b):(aq RR X).length<=b.length+1:=by
 refine aZ aH ?_;rw[IN];exact Iz h (by rw[IM];exact IJ _ (JI (rx hcb)))
theorem IsI.end_ {w:World}{p:Option Addr}{k:Nat}{l:List Nat} (h:l.length<=k):IsI w (.slice p (l.length-k) 0) (l.drop k) :=
 ⟨p,0,by rw[IP],by rw[IP];omega,by unfold maxLen;omega,fun hl=>by rw[IP] at hl;omega⟩
theorem IsD.slice {w:World}{v:Value}{n:Nat} (h:IsD w v n):∃ p N cap,v=.slice p N cap/\N=(aq RR n).length:=by
 obtain⟨p,cap,e,_,_⟩:=IsI.slice h;exact⟨p,_,cap,e,rfl⟩
theorem BP (w:World) (a b:List Nat) (hca:CR a) (hcb:CR b) (hge:val RR b<=val RR a):b.length<=a.length:=by
 rcases JD a.length b.length with h | h
 ·have:=cQ aH hca hcb h;omega
 ·exact h
theorem Fh {d:Nat}{l:List Nat} (hd:d<RR) (hl:∀ x∈l,x<RR):∀ x∈[d]++l,x<RR:=by
 intro x hx;rcases Jo.1 hx with h | h
 ·rw[Jj.1 h];exact hd
 ·exact hl x h
theorem tI {x y:Nat} (h:x<y):dC x y=-1:=by simp[dC,h]
theorem xO {x y:Nat} (h:y<=x):decide (0<=dC x y)=true/\decide (dC x y<0)=false:=by
 unfold dC;rw[if_neg (by omega)]
 split<;>exact⟨rfl,rfl⟩
theorem vz (va vb:Value) (a b:List Nat) (w:World) (ha:IsI w va a) (hb:IsI w vb b) (hca:CR a) (hcb:CR b) (h1:1<=b.length) (hla:a.length<100000) (hlb:b.length<100000) (hge:val RR b<=val RR a) :
  Calls Tryz.prog 155 #[va,vb] w fun e w'=>∃ v1 v2,e=.returned (.tuple #[v1,v2])/\IsD w' v1 (val RR a / val RR b)/\IsD w' v2 (val RR a % val RR b)/\Below w.heap.size w w':=by
 have hab:=BP w a b hca hcb hge;obtain⟨p,cap,rfl,hlc,hcm,hcell⟩:=ha;obtain⟨p',cap',rfl,hlc',hcm',hcell'⟩:=hb;obtain⟨b0,o0,rfl,hb0,hc⟩:=hcell (by omega);unfold maxLen at hcm hcm';obtain⟨k0,hk0⟩:∃ k0,k0=a.length-b.length+1:=⟨_,rfl⟩;obtain⟨t,ht⟩:∃ t,t=a.drop k0:=⟨_,rfl⟩;have HA:Hid (IsI w (.slice (some ⟨b0,o0,none⟩) a.length cap) a):=⟨_,_,rfl,hlc,by unfold maxLen;omega,fun _=>⟨b0,o0,rfl,hb0,hc⟩⟩;have HB:Hid (IsI w (.slice p' b.length cap') b):=⟨_,_,rfl,hlc',by unfold maxLen;omega,hcell'⟩;have HC:Hid (∀ j,j<a.length->w.cell? ⟨b0,o0+j,none⟩=some (.int .i64 (nth a j))):=hc;have HCA:=Ip hca;have HCB:=Ip hcb;have HST:=Ip (xZ hca.1 hcb h1 hab);rw[<-hk0,<-ht] at HST;have hcmp:decide (dC (val RR a) (val RR b)<0)=false:=(xO hge).2;have hfrom:(a.length:Int)-(b.length:Int)=((k0-1:Nat):Int):=by omega
 have hto:((k0-1:Nat):Int)+1=(k0:Int):=by omega
 have hka:k0<=a.length:=by omega
 have hk1:1<=k0:=by omega
 have hT1:Hid (∀ w',Below w.heap.size w w'->IsI w' (.slice (some ⟨b0,o0+k0,none⟩) (a.length-k0) (cap-k0)) t):=fun w' hb=>by
  have:=(HA.out.below hb).tail hka;rw[nj,<-ht] at this;exact this
 have hT2:Hid (cap=k0->∀ w',IsI w' (.slice (some ⟨b0,o0,none⟩) (a.length-k0) 0) t):=fun hcap w'=>by rw[ht];exact IsI.end_ (by omega)
 have hTd:Hid (∀ d∈t,d<RR):=fun d hd=>hca.1 d (JB (by rw[<-ht];exact hd));have hTl:Hid (t.length<100000):=by unfold Hid;rw[ht,IP];omega
 have HAB:=Ip hab;clear hc hcell hcell' hca hcb ht hk0 hab;go_enter Tryz.func155,Tryz.ntmps155;go_wp2_with fail
 refine (fA _ _ a b w HA.out HB.out HCA.out HCB.out).mono ?_;rintro e w1 ⟨rfl,n1,rfl⟩;generalize hcv:dC (val RR a) (val RR b)=cv at hcmp |-;clear hcv;go_wp2_with (at_make;refine lF 40 Tryz.underlying40 rfl (.tmp 17) (.tmp 17) rfl _ _ a.length rfl rfl (by simp) (by simp) ?c1 ?_)
 case c1=>omega
 intro w0 hrow hb0' hs0;have hbz:=hb0' _ _ (below_drewN (LN w.heap.size w) n1) (Iw _);clear hb0';have hrow':Hid (fw w0 w.heap.size a.length (List.replicate a.length 0)):=hrow;clear hrow;go_wp2_with (at_builtin;refine jr 40 Tryz.underlying40 rfl (.tmp 24) (.tmp 28) rfl w0.heap.size _ [] rfl (World.ownsRow_nil _ _ _ _) _ t rfl ?c2 ?c3 ?c4 (Iw _) ?_)
 all_goals try first | exact hT1.out _ hbz | exact hT2.out (by assumption) _ | exact Or.inr ⟨_,_,_,rfl⟩ | (have:=hTl.out;simp;omega;done)
 all_goals
  intro v1 w1 hown1 hbb1;have hbe:=hbb1 _ _ hbz (JI hs0);have hrow1:Hid (fw w1 w.heap.size a.length (List.replicate a.length 0)):=hrow'.out.below (hbb1 _ _ (LN _ _) (Iw _));obtain⟨po,co,rfl,_,_⟩:=(eJ.isU hown1).slice;have hoi:=Ip (eJ.isU hown1);have hsb:=Ip ((eJ.slb hown1 (m:=(lean t).length) (bO t)).base hs0);clear hown1 hbb1 hbz hrow' hs0;go_wp2_with fail
  refine (jp po t.length co t w1 hoi.out).mono ?_;rintro e w2 ⟨rfl,rfl⟩;have hd1:=Ip (pY hoi.out hTd.out);generalize (lean t).length=nt at *
  clear hoi;go_wp2_with fail
  clear hcmp;go_loopw [8,9] (fun s8 s9 wr=>∃ (k:Nat) (qs:List Nat) (R:Nat),k<=a.length/\s9=.int .i64 ((k:Int)-1)/\Hid (lX a b k qs R)/\Hid (fw wr w.heap.size a.length qs)/\Hid (IsD wr s8 R)/\Hid (SlB (w.heap.size+1) s8)/\Below w.heap.size w wr) (fun _ s9 _=>(intOf s9+1).toNat)
  case atStart=>exact⟨k0,_,_,hka,by go_num,HST,hrow1,hd1,hsb,hbe⟩
  case round =>
   clear hrow1 hd1 hsb hbe HST hfrom hto hka hk1 hT1 hT2 hTd hTl;obtain⟨k,qs,R,hk,rfl,hst,hrow,hd,hsb,hbw⟩:=hrel;by_cases h0:k=0
   ·subst h0;have hend:=Ip (CV hst.out);have hql:=hst.out.len;have hqd:=Ip hst.out.dig;have hqi:=Ip hrow.out.isU;rw[hql] at hqi;go_wp2_with fail
    refine (jp _ _ _ qs _ hqi.out).mono ?_;rintro e w2 ⟨rfl,rfl⟩;have hdq:=Ip (pY hqi.out hqd.out);generalize (lean qs).length=nq at *
    go_wp2_with fail
    go_ret2
    exact⟨_,_,rfl,by rw[<-hend.out.1];exact hdq.out,by rw[<-hend.out.2.1];exact hd.out,hbw⟩
   ·have hbound:=xY HCA.out.1 hst.out;have hdx:=cH (j:=k-1) HCA.out.1;have hc1:=(hbw.cell (p:=⟨b0,o0+(k-1),none⟩) hb0).trans (HC.out (k-1) (by omega));have hbl:Hid (b.length<=a.length):=HAB;obtain⟨d,hde⟩:∃ d,d=nth a (k-1):=⟨_,rfl⟩;rw[<-hde] at hbound hdx hc1;have HDE:=Ip hde;clear hde;obtain⟨X,hX⟩:∃ X,X=d+RR*R:=⟨_,rfl⟩;rw[<-hX] at hbound;have HX:=Ip hX;clear hX;have hrl:=hrow.out.lt;have hdr:=hd.out;have hlen:(aq RR R).length<=b.length+1:=vw HCB.out (Iz hst.out.lt (Nat.le_mul_of_pos_left _ (by decide)));have hba1:Below wr.heap.size wr (wr.alloc (.cells #[.int .i64 d] 3)):=(LN _ _).alloc (Iw _) _;have hsa:(wr.alloc (.cells #[.int .i64 d] 3)).heap.size=wr.heap.size+1:=by simp
    have hk1:1<=k:=by omega
    have hge:decide ((0:Int)<=(k:Int)-1)=true:=by simp;omega
    go_wp2_with (at_builtin;refine jr 40 Tryz.underlying40 rfl (.tmp 40) (.tmp 41) rfl wr.heap.size _ [d] rfl (FD wr d d rfl) _ (aq RR R) rfl (IsI.below hdr hba1) hsb.out.nor (by simp only[IT,Jn];omega) (by rw[hsa];omega) ?_)
    intro v3 w3 hown3 hbb3;have hb3:Below wr.heap.size wr w3:=hbb3 _ _ hba1 (Iw _);have hbw3:=LK hbw hb3;have hrow3:=Ip (hrow.out.below hb3);obtain⟨pr,cr,rfl,_,_⟩:=(eJ.isU hown3).slice;obtain⟨L,hL⟩:∃ L,L=d :: aq RR R:=⟨_,rfl⟩;rw[<-hL] at hown3 |-;have hoi:=Ip (eJ.isU hown3);have hsb3:=Ip ((eJ.slb hown3 (m:=(lean L).length) (bO L)).base hrl);have hLd:Hid (∀ x∈L,x<RR):=by rw[hL];exact Fh hdx (aQ _).1
    have hLv:Hid (val RR L=X):=by unfold Hid;rw[hL,HX.out,eH,aA aH]
    have hXl:Hid ((aq RR X).length<1000000):=by have:=vw HCB.out hbound;unfold Hid;omega
    clear hown3 hbb3 hba1 hsa hd hdr hsb hrow hbw hb3 hc1 hL hlen;go_wp2_with fail
    refine (jp pr L.length cr L w3 hoi.out).mono ?_;rintro e w4 ⟨rfl,rfl⟩;have HD3:=Ip (pY hoi.out hLd.out);rw[hLv.out] at HD3;generalize (lean L).length=nl at *
    clear hoi hLd hLv;go_wp2_with fail
    refine (fA _ _ (aq RR X) b w3 HD3.out (HB.out.below hbw3) (aQ _) HCB.out).mono ?_;rintro e w5 ⟨rfl,n5,rfl⟩;rw[aA aH];have hb5:=below_drewN hbw3 n5;have hrow5:Hid (fw (w3.drewN n5) w.heap.size a.length qs):=hrow3.out.drewN n5;have HD5:Hid (IsD (w3.drewN n5) (.slice pr nl cr) X):=HD3.out.below (below_drewN (LN _ _) n5);clear hrow3 HD3 hbw3;generalize w3.drewN n5=w5 at *
    by_cases hlt:X<val RR b
    ·have hst2:Hid (lX a b (k-1) qs X):=by
      have:=Fl hst.out (by omega) hk (by rw[<-HDE.out,<-HX.out];exact hlt);rw[<-HDE.out,<-HX.out] at this;exact this
     rw[tI hlt];clear hlt hst;go_wp2_with fail
     go_roundw;case rel=>exact⟨k-1,qs,X,by omega,by go_num,hst2,hrow5,HD5,hsb3,hb5⟩
     case measure=>simp[intOf];omega
    ·have hcg:=(xO (show val RR b<=X by omega)).1;obtain⟨cw,hcw⟩:∃ cw,cw=dC X (val RR b):=⟨_,rfl⟩;rw[<-hcw] at hcg |-;clear hcw;go_wp2_with fail
     refine (AX _ _ (aq RR X) b w5 HD5.out (HB.out.below hb5) (aQ _) HCB.out h1 (by rw[aA aH];exact hbound) (by omega)).mono ?_;rintro e w6 ⟨rfl,hb6⟩;rw[aA aH];obtain⟨n,hn⟩:∃ n,n=X / val RR b:=⟨_,rfl⟩;have hdh:=C3 HCA.out.1 hst.out (by omega) hk (n:=n) (by rw[hn,HX.out,HDE.out]);rw[<-HDE.out,<-HX.out] at hdh;rw[<-hn];have hnR:=hdh.1;have hst2:=Ip hdh.2;have hle:Hid (val RR b*n<=X/\X-val RR b*n=X % val RR b):=⟨by rw[hn];exact Nat.mul_div_le _ _,by rw[hn];have:=Jh X (val RR b);omega⟩;rw[iL] at hnR;have hbw6:=LK hb5 hb6;have hrow6:=hrow5.out.below hb6;have HD6:=HD5.out.below hb6;have hqk:k-1<qs.length:=by rw[hst.out.len];omega
     have ho:=hrow6.cell hqk;have hf:=hrow6.free (k-1);have hrow7:Hid (fw (w6.setCell ⟨w.heap.size,k-1,none⟩ (.int .i64 n)) w.heap.size a.length (qs.set (k-1) n)):=hrow6.set _ _ _ rfl;have HD7:Hid (IsD (w6.setCell ⟨w.heap.size,k-1,none⟩ (.int .i64 n)) (.slice pr nl cr) X):=IsI.store HD6 hsb3.out;have hb7:=hbw6.setCell (p:=⟨w.heap.size,k-1,none⟩) (Iw _) (.int .i64 n);clear hn hdh hrow5 hrow6 HD5 HD6 hb5 hb6 hbw6 hst hbound hqk;go_wp2_with fail
     generalize w6.setCell ⟨w.heap.size,k-1,none⟩ (.int .i64 n)=w7 at *
     refine (tj _ b n w7 (HB.out.below hb7) HCB.out (by omega) (by omega)).mono ?_;rintro e w8 ⟨v8,rfl,hd8,hb8⟩;have HD8:=HD7.out.below hb8;have hb9:=LK hb7 hb8;have hrow8:=Ip (hrow7.out.below hb8);clear hb7 hb8 hrow7 HD7;go_wp2_with fail
     refine (qj _ _ (aq RR X) (aq RR (val RR b*n)) w8 HD8 hd8 (aQ _).1 (aQ _).1 (qh hle.out.1) (by rw[aA aH,aA aH];exact hle.out.1) hXl.out).mono ?_;rintro e w9 ⟨v9,rfl,hd9,hsl9,hb9'⟩;rw[aA aH,aA aH,hle.out.2] at hd9;have hrow9:=Ip (hrow8.out.below hb9');have hsz8:=hb9.size;have hsb9:=Ip (hsl9.base (show w.heap.size+1<=w8.heap.size from hrow8.out.lt));have HD9:=Ip hd9;have hb10:=LK hb9 hb9';clear hd9 hsl9 hb9 hb9' HD8 hd8 hrow8;go_wp2_with fail
     go_roundw;case rel=>exact⟨k-1,_,_,by omega,by go_num,hst2,hrow9,HD9,hsb9,hb10⟩
     case measure=>simp[intOf];omega
theorem tM (va vb:Value) (a b:List Nat) (w:World) (ha:IsI w va a) (hb:IsI w vb b) (hca:CR a) (hcb:CR b) (hlt:val RR a<val RR b) :
  Calls Tryz.prog 155 #[va,vb] w fun e w'=>∃ v1 v2,e=.returned (.tuple #[v1,v2])/\IsD w' v1 (val RR a / val RR b)/\IsD w' v2 (val RR a % val RR b)/\Below w.heap.size w w':=by
 have h0:val RR a / val RR b=0:=JM hlt;have h1:val RR a % val RR b=val RR a:=J9 hlt;rw[h0,h1];have hc:=tI hlt;have HA:=Ip ha;have HCA:=Ip hca;clear h0 h1 hlt;go_enter Tryz.func155,Tryz.ntmps155;go_wp2_with fail
 refine (fA _ _ a b w ha hb hca hcb).mono ?_;rintro e w1 ⟨rfl,n1,rfl⟩;rw[hc];have hb1:=below_drewN (LN w.heap.size w) n1;have HD:Hid (IsD (w.drewN n1) va (val RR a)):=GV (HA.out.below hb1) HCA.out;clear ha hb hca hcb hc;generalize w.drewN n1=w1 at *
 go_wp2_with fail
 go_ret2
 exact⟨_,_,rfl,Dt _,HD.out,hb1⟩
theorem fi (va vb:Value) (m n:Nat) (w:World) (ha:IsD w va m) (hb:IsD w vb n) (hn:0<n) (hfm:bu m) (hfn:bu n) :
  Calls Tryz.prog 155 #[va,vb] w fun e w'=>∃ v1 v2,e=.returned (.tuple #[v1,v2])/\IsD w' v1 (m / n)/\IsD w' v2 (m % n)/\Below w.heap.size w w':=by
 have em:=aA aH m;have en:=aA aH n;rcases JD m n with h | h
 ·have:=tM va vb (aq RR m) (aq RR n) w ha hb (aQ _) (aQ _) (by rw[em,en];exact h)
  rwa [em,en] at this
 ·have:=vz va vb (aq RR m) (aq RR n) w ha hb (aQ _) (aQ _) (by
   have:=ju (n:=n)
   omega) hfm hfn (by rw[em,en];exact h)
  rwa [em,en] at this
theorem IsI.apart {w w':World}{g:Nat}{cs:Array Value}{t:TypeId} (h:w.heap[g]?=some (.cells cs t (0,0))) (hn:∀ (j:Nat) (z:Int),cs[j]?≠some (Value.int .i64 z)) (hs:w.heap.size<=w'.heap.size) (ho:∀ b,b≠g->w'.heap[b]?=w.heap[b]?) {v:Value}{l:List Nat} (hv:IsI w v l):IsI w' v l:=by
 obtain⟨p,cap,e,h1,h2,h3⟩:=hv;refine⟨p,cap,e,h1,h2,fun hl=>?_⟩;obtain⟨b',o,e2,hlt,hc⟩:=h3 hl
 have hne:b'≠g:=by
  intro e3;subst e3;have h0:=hc 0 hl;rw[af h] at h0;exact hn _ _ h0
 refine⟨b',o,e2,Iz hlt hs,fun i hi=>?_⟩;rw[<-hc i hi];simp only[World.cell?];rw[ho b' hne]
def gW (w:World) (b:Nat) (u0 u1:Value):World:=(w.setCell ⟨b,0,none⟩ u0).setCell ⟨b,1,none⟩ u1
def dL (w:World) (b:Nat) (u0 u1 u2 u3:Value):World:=(((w.setCell ⟨b,0,none⟩ u0).setCell ⟨b,1,none⟩ u1).setCell ⟨b,2,none⟩ u2).setCell ⟨b,3,none⟩ u3
def fy (w:World) (b:Nat) (u0 u1 u2 u3 u4 u5 u6 u7:Value):World :=
 (((((((w.setCell ⟨b,0,none⟩ u0).setCell ⟨b,1,none⟩ u1).setCell ⟨b,2,none⟩ u2).setCell ⟨b,3,none⟩ u3).setCell ⟨b,4,none⟩ u4).setCell ⟨b,5,none⟩ u5).setCell ⟨b,6,none⟩ u6).setCell ⟨b,7,none⟩ u7
structure j6 (w w':World) (b:Nat) (t:TypeId) (us:Array Value):Prop where
 row:w'.heap[b]?=some (.cells us t (0,0))
 other:∀ k,k≠b->w'.heap[k]?=w.heap[k]?
 size:w'.heap.size=w.heap.size
 below:∀ n,n<=b->Below n w w'
theorem cP {w:World}{b:Nat}{v0 v1 u0 u1:Value}{t:TypeId} (h:w.heap[b]?=some (.cells #[v0,v1] t (0,0))):j6 w (gW w b u0 u1) b t #[u0,u1]:=by
 have e0:=heap_setCell_same w b 0 _ _ u0 h;have e1:=heap_setCell_same _ b 1 _ _ u1 e0;exact⟨e1,fun k hk=>(heap_setCell_other _ _ _ _ hk).trans (heap_setCell_other _ _ _ _ hk),by simp[gW,World.setCell],fun n hn=>((LN n w).setCell (p:=⟨b,0,none⟩) hn _).setCell (p:=⟨b,1,none⟩) hn _⟩
theorem aR {w:World}{b:Nat}{v0 v1 v2 v3 u0 u1 u2 u3:Value}{t:TypeId} (h:w.heap[b]?=some (.cells #[v0,v1,v2,v3] t (0,0))):j6 w (dL w b u0 u1 u2 u3) b t #[u0,u1,u2,u3]:=by
 have e0:=heap_setCell_same w b 0 _ _ u0 h;have e1:=heap_setCell_same _ b 1 _ _ u1 e0;have e2:=heap_setCell_same _ b 2 _ _ u2 e1;have e3:=heap_setCell_same _ b 3 _ _ u3 e2
 exact⟨e3,fun k hk=>(heap_setCell_other _ _ _ _ hk).trans ((heap_setCell_other _ _ _ _ hk).trans ((heap_setCell_other _ _ _ _ hk).trans (heap_setCell_other _ _ _ _ hk))),by simp[dL,World.setCell],
  fun n hn=>((((LN n w).setCell (p:=⟨b,0,none⟩) hn _).setCell (p:=⟨b,1,none⟩) hn _).setCell (p:=⟨b,2,none⟩) hn _).setCell (p:=⟨b,3,none⟩) hn _⟩
theorem eP {w:World}{b:Nat}{v0 v1 v2 v3 v4 v5 v6 v7 u0 u1 u2 u3 u4 u5 u6 u7:Value}{t:TypeId} (h:w.heap[b]?=some (.cells #[v0,v1,v2,v3,v4,v5,v6,v7] t (0,0))):j6 w (fy w b u0 u1 u2 u3 u4 u5 u6 u7) b t #[u0,u1,u2,u3,u4,u5,u6,u7]:=by
 have e0:(w.setCell ⟨b,0,none⟩ u0).heap[b]?=some (.cells #[u0,v1,v2,v3,v4,v5,v6,v7] t (0,0)):=heap_setCell_same _ b 0 _ _ u0 h;have e1:((w.setCell ⟨b,0,none⟩ u0).setCell ⟨b,1,none⟩ u1).heap[b]?=some (.cells #[u0,u1,v2,v3,v4,v5,v6,v7] t (0,0)):=heap_setCell_same _ b 1 _ _ u1 e0;have e2:(((w.setCell ⟨b,0,none⟩ u0).setCell ⟨b,1,none⟩ u1).setCell ⟨b,2,none⟩ u2).heap[b]?=some (.cells #[u0,u1,u2,v3,v4,v5,v6,v7] t (0,0)):=heap_setCell_same _ b 2 _ _ u2 e1;have e3:((((w.setCell ⟨b,0,none⟩ u0).setCell ⟨b,1,none⟩ u1).setCell ⟨b,2,none⟩ u2).setCell ⟨b,3,none⟩ u3).heap[b]?=some (.cells #[u0,u1,u2,u3,v4,v5,v6,v7] t (0,0)):=heap_setCell_same _ b 3 _ _ u3 e2;have e4:(((((w.setCell ⟨b,0,none⟩ u0).setCell ⟨b,1,none⟩ u1).setCell ⟨b,2,none⟩ u2).setCell ⟨b,3,none⟩ u3).setCell ⟨b,4,none⟩ u4).heap[b]?=some (.cells #[u0,u1,u2,u3,u4,v5,v6,v7] t (0,0)):=heap_setCell_same _ b 4 _ _ u4 e3;have e5:((((((w.setCell ⟨b,0,none⟩ u0).setCell ⟨b,1,none⟩ u1).setCell ⟨b,2,none⟩ u2).setCell ⟨b,3,none⟩ u3).setCell ⟨b,4,none⟩ u4).setCell ⟨b,5,none⟩ u5).heap[b]?=some (.cells #[u0,u1,u2,u3,u4,u5,v6,v7] t (0,0)):=heap_setCell_same _ b 5 _ _ u5 e4;have e6:(((((((w.setCell ⟨b,0,none⟩ u0).setCell ⟨b,1,none⟩ u1).setCell ⟨b,2,none⟩ u2).setCell ⟨b,3,none⟩ u3).setCell ⟨b,4,none⟩ u4).setCell ⟨b,5,none⟩ u5).setCell ⟨b,6,none⟩ u6).heap[b]?=some (.cells #[u0,u1,u2,u3,u4,u5,u6,v7] t (0,0)):=heap_setCell_same _ b 6 _ _ u6 e5;have e7:((((((((w.setCell ⟨b,0,none⟩ u0).setCell ⟨b,1,none⟩ u1).setCell ⟨b,2,none⟩ u2).setCell ⟨b,3,none⟩ u3).setCell ⟨b,4,none⟩ u4).setCell ⟨b,5,none⟩ u5).setCell ⟨b,6,none⟩ u6).setCell ⟨b,7,none⟩ u7).heap[b]?=some (.cells #[u0,u1,u2,u3,u4,u5,u6,u7] t (0,0)):=heap_setCell_same _ b 7 _ _ u7 e6
 refine⟨e7,fun k hk=>?_,by simp[fy,World.setCell],fun n hn=>?_⟩
 ·unfold fy;rw[heap_setCell_other _ _ _ _ hk,heap_setCell_other _ _ _ _ hk,heap_setCell_other _ _ _ _ hk,heap_setCell_other _ _ _ _ hk,heap_setCell_other _ _ _ _ hk,heap_setCell_other _ _ _ _ hk,heap_setCell_other _ _ _ _ hk,heap_setCell_other _ _ _ _ hk]
 ·exact ((((((((LN n w).setCell (p:=⟨b,0,none⟩) hn _).setCell (p:=⟨b,1,none⟩) hn _).setCell (p:=⟨b,2,none⟩) hn _).setCell (p:=⟨b,3,none⟩) hn _).setCell (p:=⟨b,4,none⟩) hn _).setCell (p:=⟨b,5,none⟩) hn _).setCell (p:=⟨b,6,none⟩) hn _).setCell (p:=⟨b,7,none⟩) hn _
theorem j6.isI {w w':World}{b:Nat}{t t0:TypeId}{us cs:Array Value} (h:j6 w w' b t us) (hr:w.heap[b]?=some (.cells cs t0 (0,0))) (hn:∀ (j:Nat) (z:Int),cs[j]?≠some (Value.int .i64 z)) {v:Value}{l:List Nat} (hv:IsI w v l):IsI w' v l :=
 IsI.apart hr hn (Kx h.size.symm) h.other hv
theorem IsZ.puts {w w':World}{b:Nat}{t t0:TypeId}{us cs:Array Value}{v:Value}{z:Int} (hv:IsZ w v z) (h:j6 w w' b t us) (hr:w.heap[b]?=some (.cells cs t0 (0,0))) (hn:∀ (j:Nat) (z:Int),cs[j]?≠some (Value.int .i64 z)):IsZ w' v z:=by
 obtain⟨vd,e,h1⟩:=hv;exact⟨vd,e,h.isI hr hn h1⟩
theorem eA {m:Bool}{p:Option Addr}{n c:Nat}:∀ (j:Nat) (z:Int),(#[Value.bool m,.slice p n c]:Array Value)[j]?≠some (Value.int .i64 z):=by
 intro j z h;have:=Jm h;simp at this
theorem bf {m m':Bool}{p p':Option Addr}{n c n' c':Nat}:∀ (j:Nat) (z:Int),(#[Value.bool m,.slice p n c,.bool m',.slice p' n' c']:Array Value)[j]?≠some (Value.int .i64 z):=by
 intro j z h;have:=Jm h;simp at this
theorem fF {m m' k k':Bool}{p p' q q':Option Addr}{n c n' c' r d r' d':Nat}:∀ (j:Nat) (z:Int),(#[Value.bool m,.slice p n c,.bool m',.slice p' n' c',.bool k,.slice q r d,.bool k',.slice q' r' d']:Array Value)[j]?≠some (Value.int .i64 z):=by
 intro j z h;have:=Jm h;simp at this
structure Hs (w w':World) (o0:Obj):Prop where
 s0:w'.heap[w.heap.size]?=some o0
 size:w'.heap.size=w.heap.size+1
 below:Below w.heap.size w w'
theorem bL (w:World) (o0:Obj):Hs w (w.alloc o0) o0:=⟨heap_alloc_new _ _,by simp,(LN _ _).alloc (Iw _) _⟩
structure Ht (w w':World) (o0 o1:Obj):Prop where
 s0:w'.heap[w.heap.size]?=some o0
 s1:w'.heap[w.heap.size+1]?=some o1
 size:w'.heap.size=w.heap.size+1+1
 below:Below w.heap.size w w'
theorem mq (w:World) (o0 o1:Obj):Ht w ((w.alloc o0).alloc o1) o0 o1:=by
 refine⟨(heap_alloc_old _ _ (by simp)).trans (heap_alloc_new _ _),?_,by simp,((LN _ _).alloc (Iw _) _).alloc (by simp) _⟩;have:=heap_alloc_new (w.alloc o0) o1;simpa using this
structure Hu (w w':World) (o0 o1 o2:Obj):Prop where
 s0:w'.heap[w.heap.size]?=some o0
 s1:w'.heap[w.heap.size+1]?=some o1
 s2:w'.heap[w.heap.size+1+1]?=some o2
 size:w'.heap.size=w.heap.size+1+1+1
 below:Below w.heap.size w w'
theorem nZ (w:World) (o0 o1 o2:Obj):Hu w (((w.alloc o0).alloc o1).alloc o2) o0 o1 o2:=by
 have h:=mq w o0 o1;refine⟨(heap_alloc_old _ _ (by simp;omega)).trans h.s0,(heap_alloc_old _ _ (by simp)).trans h.s1,?_,by simp,h.below.alloc (by simp;omega) _⟩;have:=heap_alloc_new ((w.alloc o0).alloc o1) o2;simpa using this
theorem IsZ.parts {w:World}{v:Value}{z:Int} (h:IsZ w v z):∃ p N c,v=.agg #[.bool (decide (z<0)),.slice p N c]/\Hid (N=(aq RR z.natAbs).length)/\N<=c/\c<=maxLen/\IsD w (.slice p N c) z.natAbs:=by
 obtain⟨vd,rfl,hd⟩:=h;have hd':=hd;obtain⟨p,c,rfl,h1,h2,h3⟩:=hd;exact⟨p,_,c,rfl,rfl,h1,h2,hd'⟩
theorem Ev (z:Int):sgn (!decide (z<0)) z.natAbs=-z:=by
 unfold sgn;by_cases h:z<0
 ·simp[h];omega
 ·simp[h];omega
theorem jv (v:Value) (z:Int) (w:World) (hv:IsZ w v z) :
  Calls Tryz.prog 97 #[v] w fun e w'=>∃ v',e=.returned v'/\IsZ w' v' (-z)/\Below w.heap.size w w':=by
 obtain⟨p,N,c,rfl,hN,hNc,hcm,hd⟩:=hv.parts;have hl:=mq w (.cells #[.bool (decide (z<0)),.slice p N c] 42) (.cells #[.bool false,.slice none 0 0] 42);have HS:=Ip (Ev z);generalize decide (z<0)=m at *
 have x0:=af hl.s0 0;have x1:=af hl.s0 1;have HD:=Ip (hd.below hl.below);clear hv hd;go_enter Tryz.func97,Tryz.ntmps97;go_upto_region 1 with fail
 generalize (w.alloc (.cells #[.bool m,.slice p N c] 42)).alloc (.cells #[.bool false,.slice none 0 0] 42)=w1 at *
 go_wp2_with fail
 refine (dW _ _ (aq RR z.natAbs) w1 HD.out (aQ _).1).mono ?_;rintro e w2 ⟨v',rfl,hz,hb2⟩;rw[aA aH] at hz;obtain⟨p2,N2,c2,rfl,hN2,_,hcm2,hd2⟩:=hz.parts;have HZ:=Ip hz;have r1:=(hb2.block _ (ah hl.s1)).trans hl.s1;have q0:=af r1 0;have q1:=af r1 1;have f0:=LL w2 (w.heap.size+1) 0 _ _ r1;have f1:=LL w2 (w.heap.size+1) 1 _ _ r1;have hb3:=hl.below.trans (hb2.mono hl.below.size);clear hz hd2 hb2 x0 x1;generalize decide (sgn (!m) z.natAbs<0)=m2 at *
 go_wp2_with fail
 (try simp only[Exit.inBlock,Exit.then])
 have hP:=cP (u0:=.bool m2) (u1:=.slice p2 N2 c2) r1;change bodyPost _ _ _ _ _ (gW w2 (w.heap.size+1) (.bool m2) (.slice p2 N2 c2));refine LM (results_cell_row rfl _ _ (w.heap.size+1) _ _ (0,0) _ rfl hP.row Tryz.underlying42 rfl (by kernel_rfl)) rfl ?_;rw[HS.out] at HZ;exact⟨_,rfl,HZ.out.puts hP r1 eA,hb3.trans ((hP.below _ (by omega)))⟩
theorem tW {w:World}{p:Option Addr}{N c n:Nat} (h:IsD w (.slice p N c) n):N=(aq RR n).length:=by
 obtain⟨p',c',e,_⟩:=h;simp at e;exact e.2.1
theorem fE {w:World}{p:Option Addr}{N c n:Nat} (h:IsD w (.slice p N c) n):(N=0↔n=0):=by rw[tW h];exact ju
theorem IsD.parts {w:World}{v:Value}{n:Nat} (h:IsD w v n):∃ p N c,v=.slice p N c/\Hid (N=(aq RR n).length)/\N<=c/\c<=maxLen:=by
 obtain⟨p,c,e,h1,h2,_⟩:=h;exact⟨p,_,c,e,rfl,h1,h2⟩
theorem rA (va vb:Value) (x y:Int) (w:World) (ha:IsZ w va x) (hb:IsZ w vb y) (hfa:bu x.natAbs) (hfb:bu y.natAbs) :
  Calls Tryz.prog 154 #[va,vb] w fun e w'=>∃ v,e=.returned v/\IsZ w' v (Nat.gcd x.natAbs y.natAbs:Nat)/\Below w.heap.size w w':=by
 obtain⟨p,N,c,rfl,hN,hNc,hcm,hd⟩:=ha.parts;obtain⟨p',N',c',rfl,hN',hNc',hcm',hd'⟩:=hb.parts;have hl:=nZ w (.cells #[.bool (decide (x<0)),.slice p N c] 42) (.cells #[.bool (decide (y<0)),.slice p' N' c'] 42) (.cells #[.bool false,.slice none 0 0] 42);generalize decide (x<0)=m at *
 generalize decide (y<0)=m' at *
 have x1:=af hl.s0 1;have y1:=af hl.s1 1;have HD:=Ip (hd.below hl.below);have HD':=Ip (hd'.below hl.below);clear ha hb hd hd';go_enter Tryz.func154,Tryz.ntmps154;go_upto_region 1 with fail
 generalize ((w.alloc (.cells #[.bool m,.slice p N c] 42)).alloc (.cells #[.bool m',.slice p' N' c'] 42)).alloc (.cells #[.bool false,.slice none 0 0] 42)=w1 at *
 go_quiet (fail)
 go_wp2_with fail
 go_loopg [5,6] y.natAbs (fun g s5 s6 wr=>∃ n:Nat,Hid (IsD wr s5 n)/\Hid (IsD wr s6 g)/\Hid (bu n)/\Hid (bu g)/\Hid (Nat.gcd g n=Nat.gcd x.natAbs y.natAbs)/\Below w1.heap.size w1 wr)
 case atStart=>exact⟨x.natAbs,HD.out.below (below_drewN (LN _ _) _),HD'.out.below (below_drewN (LN _ _) _),hfa,hfb,Nat.gcd_comm _ _,below_drewN (LN _ _) _⟩
 case round =>
  obtain⟨n,hx,hy,hfx,hfy,hg,hbl⟩:=hrel;clear x1 y1;have hy':=hy.out;obtain⟨py,Ny,cy,rfl,hNy,_,_⟩:=IsD.parts hy';by_cases h0:gk=0
  ·subst h0;obtain rfl:Ny=0:=(fE hy').2 rfl;obtain⟨px,Nx,cx,rfl,hNx,_,_⟩:=IsD.parts hx.out;have r2:=(hbl.block _ (ah hl.s2)).trans hl.s2;have q0:=af r2 0;have q1:=af r2 1;have f0:=LL wr (w.heap.size+1+1) 0 _ _ r2;have f1:=LL wr (w.heap.size+1+1) 1 _ _ r2;have hP:=cP (u0:=.bool false) (u1:=.slice px Nx cx) r2
   have hZ:Hid (IsZ (gW wr (w.heap.size+1+1) (.bool false) (.slice px Nx cx)) (.agg #[.bool false,.slice px Nx cx]) (Nat.gcd x.natAbs y.natAbs:Nat)):=by
    have hgc:=hg.out;rw[Kr] at hgc;refine⟨_,by rw[show decide (((Nat.gcd x.natAbs y.natAbs:Nat):Int)<0)=false by simp],?_⟩;rw[I0,<-hgc];exact hP.isI r2 eA hx.out
   have hB:=(hl.below.trans (hbl.mono hl.below.size)).trans (hP.below w.heap.size (by omega));clear hy hy';go_wp2_with fail
   (try simp only[Exit.inBlock,Exit.then])
   change bodyPost _ _ _ _ _ (gW wr (w.heap.size+1+1) (.bool false) (.slice px Nx cx));refine LM (results_cell_row rfl _ _ (w.heap.size+1+1) _ _ (0,0) _ rfl hP.row Tryz.underlying42 rfl (by kernel_rfl)) rfl ?_;exact⟨_,rfl,hZ.out,hB⟩
  ·have hpos:0<Ny:=by
    have:=fE hy';omega
   have hmod:n % gk<gk:=Jw _ (JU h0);have HY:=Ip hy';clear hy';go_wp2_with (go_at_call 155;refine (fi _ _ n gk _ hx.out HY.out (by omega) hfx.out hfy.out).mono ?_;rintro e w2 ⟨vq,vr,rfl,hq,hr,hb2⟩)
   go_roundg (n % gk)
   case rel =>
    exact⟨gk,HY.out.below hb2,hr,hfy,bu.mono hfy.out (JI hmod),by unfold Hid;have:=hg.out;rw[Nat.gcd_rec] at this;exact this,LK hbl hb2⟩
   case measure=>exact hmod
end Go.Proofs.YtlhpcoelfhjomaaGreatDoor
