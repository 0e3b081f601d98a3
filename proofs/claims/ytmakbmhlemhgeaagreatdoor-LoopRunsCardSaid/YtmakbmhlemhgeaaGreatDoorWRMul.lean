/- L -/
import Derived.Laws.AppendOwnNone
import Derived.Test.YtmakbmhlemhgeaaGreatDoorWRNat2
import Derived.Test.YtmakbmhlemhgeaaGreatDoorWB
set_option linter.all false
set_option maxRecDepth 100000
set_option maxHeartbeats 8000000
namespace Go.Proofs.YtmakbmhlemhgeaaGreatDoor
open Go.RowKit Dg
theorem oY (z:Int):sgn (decide (z<0)) z.natAbs=z:=by
 unfold sgn;by_cases h:z<0
 ·simp[h];omega
 ·simp[h];omega
theorem Eq (x y:Int):sgn (decide (x<0) != decide (y<0)) (x.natAbs*y.natAbs)=x*y:=by
 have hx:=oY x;have hy:=oY y;generalize decide (x<0)=a at *
 generalize decide (y<0)=b at *
 rw[<-hx,<-hy,iu,iu];unfold sgn
 cases a<;>cases b<;>simp[Int.neg_mul,Int.mul_neg]
def Gd (l m lo:List Nat) (i k c:Nat) (lo1:List Nat):Prop:=(k<=m.length/\RIn lo m (nth l i) i k c lo1)\/(k=m.length+1/\c=0/\rg l m (i+1) lo1)
theorem jh (va vb:Value) (x y:Int) (w:World) (ha:IsZ w va x) (hb:IsZ w vb y) (hla:(av RR x.natAbs).length<1000000) (hlb:(av RR y.natAbs).length<1000000) :
  Calls Tryz.prog 146 #[va,vb] w fun e w'=>∃ v,e=.returned v/\IsZ w' v (x*y)/\Below w.heap.size w w':=by
 obtain⟨vd,rfl,hd⟩:=ha;obtain⟨ve,rfl,he⟩:=hb;obtain⟨l,hl⟩:∃ l,l=av RR x.natAbs:=⟨_,rfl⟩;obtain⟨m,hm⟩:∃ m,m=av RR y.natAbs:=⟨_,rfl⟩;have hvl:val RR l=x.natAbs:=by rw[hl];exact aF aQ _
 have hvm:val RR m=y.natAbs:=by rw[hm];exact aF aQ _
 have hcl:∀ d∈l,d<RR:=by rw[hl];exact (aW _).1
 have hcm:∀ d∈m,d<RR:=by rw[hm];exact (aW _).1
 unfold IsD at hd he;rw[<-hl] at hd hla;rw[<-hm] at he hlb;have HS:=GF (Eq x y);clear hl hm;obtain⟨ma,hma⟩:∃ ma,ma=decide (x<0):=⟨_,rfl⟩;obtain⟨mb,hmb⟩:∃ mb,mb=decide (y<0):=⟨_,rfl⟩;rw[<-hma,<-hmb,<-hvl,<-hvm] at HS;rw[<-hma,<-hmb];clear hma hmb hvl hvm;obtain⟨p,cap,rfl,hlc,hcp,hcell⟩:=hd;obtain⟨p',cap',rfl,hlc',hcp',hcell'⟩:=he;unfold maxLen at hcp hcp';obtain⟨w1,hw1⟩:∃ w1:World,w1=((w.alloc (.cells #[.bool ma,.slice p l.length cap] 85)).alloc (.cells #[.bool mb,.slice p' m.length cap'] 85)).alloc (.cells #[.bool false,.slice none 0 0] 85):=⟨_,rfl⟩;have hb1:Below w.heap.size w w1:=by rw[hw1];exact (((Ki _ _).alloc (GM _) _).alloc (by simp) _).alloc (by simp;omega) _
 have s0:w1.heap[w.heap.size]?=some (.cells #[.bool ma,.slice p l.length cap] 85 (0,0)):=by rw[hw1];exact (heap_alloc_old _ _ (by simp;omega)).trans ((heap_alloc_old _ _ (by simp)).trans (heap_alloc_new _ _))
 have s1:w1.heap[w.heap.size+1]?=some (.cells #[.bool mb,.slice p' m.length cap'] 85 (0,0)):=by
  rw[hw1];refine (heap_alloc_old _ _ (by simp)).trans ?_;have:=heap_alloc_new (w.alloc (.cells #[.bool ma,.slice p l.length cap] 85)) (.cells #[.bool mb,.slice p' m.length cap'] 85);simpa using this
 have s2:w1.heap[w.heap.size+1+1]?=some (.cells #[.bool false,.slice none 0 0] 85 (0,0)):=by
  rw[hw1];have:=heap_alloc_new ((w.alloc (.cells #[.bool ma,.slice p l.length cap] 85)).alloc (.cells #[.bool mb,.slice p' m.length cap'] 85)) (.cells #[.bool false,.slice none 0 0] 85);simpa using this
 have hsz:w1.heap.size=w.heap.size+1+1+1:=by rw[hw1];simp
 have HSZ:=GF hsz;have x0:=ai s0 1;have x1:=ai s1 1;go_enter Tryz.func146,Tryz.ntmps146;go_upto_region 1 with fail
 rw[<-hw1];clear hw1 hsz;go_wp2_with (at_make;refine kV 22 Tryz.underlying22 rfl (.tmp 16) (.tmp 16) rfl _ _ (l.length+m.length) rfl rfl (by simp) (by simp) ?c1 ?_)
 case c1=>omega
 intro w0 hrow hb0 hs0;have hbz:=hb0 _ _ (Ki _ _) (GM _);clear hb0 x0 x1;have HB1:=GF hb1;clear hb1;go_wp2;go_loopw [6] (fun s6 wr=>∃ (i:Nat) (lo:List Nat),i<=l.length/\s6=.int .i64 i/\Hid (rg l m i lo)/\Hid (ff wr w1.heap.size (l.length+m.length) lo)/\Below w1.heap.size w1 wr) (fun s6 _=>l.length-(intOf s6).toNat)
 case atStart=>exact⟨0,_,GY _,rfl,wB l m,hrow,hbz⟩
 case round =>
  obtain⟨i,lo,hi,rfl,hout,hro,hbw⟩:=hrel;clear hrow hbz hs0;have r0:=(hbw.block _ (by have:=HSZ.out;omega)).trans s0;have r1:=(hbw.block _ (by have:=HSZ.out;omega)).trans s1;have x0:=ai r0 1;by_cases h0:i<l.length
  ·obtain⟨b,o,rfl,hbb,hc⟩:=hcell (by omega);have hbb1:b<w1.heap.size:=GN hbb HB1.out.size;have hc0:=(HB1.out.cell (p:=⟨b,o+i,none⟩) hbb).trans (hc i h0);have hx:=cQ hcl h0;rw[ij] at hx;have hlen:=GF hout.out.len;clear hc hcell r0 r1;go_wp2_with fail
   clear x0;go_loopw [7,8] (fun s7 s8 wq=>∃ (k c:Nat) (lo1:List Nat),s7=.int .i64 c/\s8=.int .i64 k/\k<=m.length+1/\Gd l m lo i k c lo1/\Hid (ff wq w1.heap.size (l.length+m.length) lo1)/\Below w1.heap.size w1 wq) (fun _ s8 _=>m.length+1-(intOf s8).toNat)
   case atStart=>exact⟨0,0,lo,rfl,rfl,GY _,Or.inl ⟨GY _,zY lo m _ i hout.out.dig⟩,hro,hbw⟩
   case round =>
    obtain⟨k,c,lo1,rfl,rfl,hk1,hmi,hro1,hbw1⟩:=hrel;clear hbw hro;have r0:=(hbw1.block _ (by have:=HSZ.out;omega)).trans s0;have r1:=(hbw1.block _ (by have:=HSZ.out;omega)).trans s1;have x0:=ai r0 1;have x1:=ai r1 1;clear r0 r1;rcases hmi with ⟨hk,hin⟩ | ⟨rfl,rfl,hend⟩
    ·have hcar:c<10000:=hin.car;have hlen1:lo1.length=l.length+m.length:=by rw[hin.len];exact hlen.out
     by_cases hk0:k<m.length
     ·obtain⟨b',o',rfl,hbb',hc'⟩:=hcell' (by omega);have hc1':=((HB1.out.trans (hbw1.mono HB1.out.size)).cell (p:=⟨b',o'+k,none⟩) hbb').trans (hc' k hk0);have hc1:=(hbw1.cell (p:=⟨b,o+i,none⟩) hbb1).trans hc0;have hik:i+k<lo1.length:=by omega
      have hy:=cQ hcm hk0;have hoc:=cQ hin.dig hik;rw[ij] at hy hoc;have hxy:nth l i*nth m k<=9999*9999:=Hm (by omega) (by omega);have hxy0:0<=(nth l i:Int)*(nth m k:Int):=by omega
      have hxy1:(nth l i:Int)*(nth m k:Int)<=99980001:=by omega
      have hkI:decide ((k:Int)<(m.length:Int))=true:=by simp;omega
      have ho:=hro1.out.cell hik;have hf:=hro1.out.free (i+k);have hst:=GF (CH hin hk0 (by rw[hlen.out];omega) (by rw[ij];exact hx) hcm);simp only[ij] at hst;clear hc' hcell' hin;go_wp2_with fail
      go_quiet (fail)
      go_wp2_with fail
      go_roundw;case rel=>exact⟨k+1,_,_,by go_num,by go_num,by omega,Or.inl ⟨by omega,hst.out⟩,hro1.out.set (i+k) _ _ (by go_num),(below_drewN hbw1 _).setCell (p:=⟨w1.heap.size,i+k,none⟩) (GM _) _⟩
      case measure=>simp[intOf]<;>omega
     ·obtain rfl:k=m.length:=by omega
      have hkI:decide ((m.length:Int)<(m.length:Int))=false:=by simp
      by_cases hc0':0<c
      ·have hcI:decide ((0:Int)<(c:Int))=true:=by simp;omega
       have hik:i+m.length<lo1.length:=by omega
       have hz:=zZ hout.out hin;have ho:=hro1.out.cell hik;rw[hz] at ho;have hf:=hro1.out.free (i+m.length);have hst:=GF (wA hout.out h0 hin);clear hin hz;go_wp2_with fail
       go_roundw;case rel=>exact⟨m.length+1,0,_,by go_num,by go_num,by omega,Or.inr ⟨rfl,rfl,hst.out⟩,hro1.out.set (i+m.length) _ _ (by go_num),hbw1.setCell (p:=⟨w1.heap.size,i+m.length,none⟩) (GM _) _⟩
       case measure=>simp[intOf]<;>omega
      ·obtain rfl:c=0:=by omega
       have hst:=GF (wt hout.out h0 hin);clear hin;go_wp2_with fail
       go_roundw;case rel=>exact⟨i+1,_,by omega,by go_num,hst.out,hro1,hbw1⟩
       case measure=>simp[intOf]<;>omega
    ·have hkI:decide (((m.length+1:Nat):Int)<(m.length:Int))=false:=by simp<;>omega
     have HE:=GF hend;clear hend;go_wp2_with fail
     go_roundw;case rel=>exact⟨i+1,_,by omega,by go_num,HE.out,hro1,hbw1⟩
     case measure=>simp[intOf]<;>omega
  ·obtain rfl:i=l.length:=by omega
   have x1:=ai r1 1;have y0:=ai r0 0;have y1:=ai r1 0;have hiI:decide ((l.length:Int)<(l.length:Int))=false:=by simp
   have hlen:=hout.out.len;have hend:=GF (CJ hout.out);have hdig:=GF hout.out.dig;have r2:=(hbw.block _ (by have:=HSZ.out;omega)).trans s2
   have hib:Hid (IsI wr (.slice (some ⟨w1.heap.size,0,none⟩) (l.length+m.length) (l.length+m.length)) lo):=by
    have:=hro.out.isU;rw[hlen] at this;exact this
   clear h0 hcell hcell' hout hro r0 r1;go_wp2_with fail
   refine (dO (!(ma == mb)) _ lo wr hib.out hdig.out).mono ?_;rintro e w5 ⟨v',rfl,hz,hb5⟩
   have hval:val RR lo=val RR l*val RR m:=by
    have:=congrArg (val RR) hend.out;rw[pz,aF aQ] at this;exact this
   rw[hval] at hz;have hz2:IsZ w5 v' (x*y):=by rw[<-HS.out];exact hz
   obtain⟨vd,rfl,hd5⟩:=hz2;obtain⟨pd,cd,rfl,hcd,hcm⟩:=hd5.slice;have r2':=(hb5.block _ (ak r2)).trans r2;have hbB:=HB1.out.trans (hbw.mono HB1.out.size);have hbC:=hbB.trans (hb5.mono hbB.size);have hsz5:w.heap.size+1+1<w5.heap.size:=ak r2';have q0:=ai r2' 0;have q1:=ai r2' 1;have f0:=Kg w5 (w.heap.size+1+1) 0 _ _ r2';have f1:=Kg w5 (w.heap.size+1+1) 1 _ _ r2';generalize (av RR (x*y).natAbs).length=N at hcd hd5 |-;generalize hsg:decide (x*y<0)=sg at hz |-;have hrow:Hid (((w5.setCell ⟨w.heap.size+1+1,0,none⟩ (.bool sg)).setCell ⟨w.heap.size+1+1,1,none⟩ (.slice pd N cd)).heap[w.heap.size+1+1]?=some (.cells #[.bool sg,.slice pd N cd] 85 (0,0))):=sr r2' _ _;have hfin:Hid (Below w.heap.size w ((w5.setCell ⟨w.heap.size+1+1,0,none⟩ (.bool sg)).setCell ⟨w.heap.size+1+1,1,none⟩ (.slice pd N cd))):=(hbC.setCell (p:=⟨w.heap.size+1+1,0,none⟩) (by show w.heap.size<=w.heap.size+1+1;omega) _).setCell (p:=⟨w.heap.size+1+1,1,none⟩) (by show w.heap.size<=w.heap.size+1+1;omega) _
   have hend5:Hid (IsZ ((w5.setCell ⟨w.heap.size+1+1,0,none⟩ (.bool sg)).setCell ⟨w.heap.size+1+1,1,none⟩ (.slice pd N cd)) (.agg #[.bool sg,.slice pd N cd]) (x*y)) :=
    ⟨_,by rw[hsg],IsI.two r2' (fun z=>by simp) (fun z=>by simp) hd5 _ _⟩
   unfold maxLen at hcm;clear r2 r2' hz hd5 hsg y0 y1 x0 x1 s0 s1 s2 hbC hbB;go_wp2_with fail
   (try simp only[Exit.inBlock,Exit.then])
   refine Kh (results_cell_row rfl _ _ (w.heap.size+1+1) _ _ (0,0) _ rfl hrow.out Tryz.underlying85 rfl (by kernel_rfl)) rfl ?_;exact⟨_,rfl,hend5.out,hfin.out⟩
structure Au (n m:Nat) (out:List Nat):Prop where
 dig:∀ d∈out,d<RR
 eq:val RR out+m*RR ^ out.length=n
 few:out.length+m<=n
theorem BZ (n:Nat):Au n n []:=⟨by simp,by simp[val],by simp⟩
theorem D_ {n m:Nat}{out:List Nat} (h:Au n m out) (hm:0<m):Au n (m / 10000) (out++[m % 10000]):=by
 have h1:=h.few;refine⟨fun d hd=>?_,?_,by simp only[GW,G_,Id];omega⟩
 ·rcases Ik.1 hd with hd | hd
  ·exact h.dig d hd
  ·rw[Io.1 hd];exact Il _ (by decide)
 ·have he:=h.eq;have hd:=H7 m 10000;rw[et,GW,List.length_singleton,G6];have:RR=10000:=rfl;generalize m / 10000=a at *
  generalize m % 10000=b at *
  rw[<-he,<-hd,this];grind
theorem FI {n:Nat}{out:List Nat} (h:Au n 0 out):val RR out=n:=by have:=h.eq;omega
theorem jG (n:Nat) (hn:n<1000000000000) (w:World) :
  Calls Tryz.prog 147 #[.int .i64 n] w fun e w'=>∃ v,e=.returned v/\IsZ w' v (n:Int)/\Below w.heap.size w w':=by
 have hb1:Below w.heap.size w (w.alloc (.cells #[.bool false,.slice none 0 0] 85)):=(Ki _ _).alloc (GM _) _;have s0:(w.alloc (.cells #[.bool false,.slice none 0 0] 85)).heap[w.heap.size]?=some (.cells #[.bool false,.slice none 0 0] 85 (0,0)):=heap_alloc_new _ _;have hd0:decide ((n:Int)<0)=false:=by simp
 go_enter Tryz.func147,Tryz.ntmps147;go_upto_region 1 with fail
 generalize w.alloc (.cells #[.bool false,.slice none 0 0] 85)=w1 at *
 go_wp2_with fail
 go_loopw [0,4] (fun s0 s4 wr=>∃ (m:Nat) (out:List Nat),s0=.int .i64 m/\Hid (Au n m out)/\Hid (ew wr w1.heap.size s4 out)/\Below w1.heap.size w1 wr) (fun s0 _ _=>(intOf s0).toNat)
 case atStart=>exact⟨n,[],rfl,BZ n,World.ownsRow_nil _ _ _ _,Ki _ _⟩
 case round =>
  obtain⟨m,out,rfl,hst,hown,hbw⟩:=hrel;have hfew:=hst.out.few;have hsz:=hbw.size;by_cases hm:m=0
  ·subst hm;have hend:=GF (FI hst.out);have hdig:=GF hst.out.dig;have s1:=(hbw.block _ (ak s0)).trans s0;obtain⟨po,co,rfl,_,_⟩:=(ew.isU hown.out).slice;have hoi:=GF (ew.isU hown.out);have HB:=hb1.trans (hbw.mono hb1.size);clear hst hown hbw hb1 s0;go_wp2_with fail
   refine (dO false _ out wr hoi.out hdig.out).mono ?_;rintro e w5 ⟨v',rfl,hz,hb5⟩;rw[hend.out,show sgn false n=(n:Int) from rfl] at hz;obtain⟨vd,rfl,hd5⟩:=hz;obtain⟨pd,cd,rfl,hcd,hcm⟩:=hd5.slice;have r2:=(hb5.block _ (ak s1)).trans s1;have hbC:=HB.trans (hb5.mono HB.size);have q0:=ai r2 0;have q1:=ai r2 1;have f0:=Kg w5 w.heap.size 0 _ _ r2;have f1:=Kg w5 w.heap.size 1 _ _ r2;generalize (av RR (n:Int).natAbs).length=N at hcd hd5 |-;have hsg:decide ((n:Int)<0)=false:=by simp
   rw[hsg];have hrow:Hid (((w5.setCell ⟨w.heap.size,0,none⟩ (.bool false)).setCell ⟨w.heap.size,1,none⟩ (.slice pd N cd)).heap[w.heap.size]?=some (.cells #[.bool false,.slice pd N cd] 85 (0,0))):=sr r2 _ _;have hfin:Hid (Below w.heap.size w ((w5.setCell ⟨w.heap.size,0,none⟩ (.bool false)).setCell ⟨w.heap.size,1,none⟩ (.slice pd N cd))):=(hbC.setCell (p:=⟨w.heap.size,0,none⟩) (GM _) _).setCell (p:=⟨w.heap.size,1,none⟩) (GM _) _
   have hend5:Hid (IsZ ((w5.setCell ⟨w.heap.size,0,none⟩ (.bool false)).setCell ⟨w.heap.size,1,none⟩ (.slice pd N cd)) (.agg #[.bool false,.slice pd N cd]) (n:Int)) :=
    ⟨_,by rw[hsg],IsI.two r2 (fun z=>by simp) (fun z=>by simp) hd5 _ _⟩
   unfold maxLen at hcm;clear r2 hd5 hbC s1 hsg hd0;go_wp2_with fail
   (try simp only[Exit.inBlock,Exit.then])
   refine Kh (results_cell_row rfl _ _ w.heap.size _ _ (0,0) _ rfl hrow.out Tryz.underlying85 rfl (by kernel_rfl)) rfl ?_;exact⟨_,rfl,hend5.out,hfin.out⟩
  ·have hne:((m:Int) != 0)=true:=by simp;omega
   have hr:(m:Int).tmod 10000=((m % 10000:Nat):Int):=by rw[Iw (by omega)];omega
   have hq:(m:Int).tdiv 10000=((m / 10000:Nat):Int):=by rw[Im (by omega)];omega
   have hlt:decide ((m:Int).tmod 10000<0)=false:=by rw[hr];exact decide_eq_false (by omega)
   have hst2:=GF (D_ hst.out (show 0<m by omega));clear hst;go_wp2_with (at_builtin;refine bG 22 Tryz.underlying22 rfl (.tmp 16) (.tmp 18) rfl w1.heap.size _ out _ (m % 10000) (by omega) rfl hown.out rfl (by omega) hsz ?_)
   intro v' w2 hown' hb';have hb2:=hb' _ _ hbw (GM _);clear hown hbw hb';have HO:=GF hown';clear hown';go_wp2;go_roundw;case rel=>exact⟨m / 10000,_,by go_num,hst2,HO,hb2⟩
   case measure=>simp[intOf];omega
theorem Be (w:World) (sg:Bool) (p:Option Addr) (N c:Nat):(Instr.field 85 (.agg #[.bool sg,.slice p N c]) 1).run Tryz.prog w=.ok (.slice p N c) w:=by kernel_rfl
/-- the product with a small number -/
theorem qW (v:Value) (l:List Nat) (n:Nat) (w:World) (hv:IsI w v l) (hl:CR l) (hn:n<1000000000000) (hlen:l.length<1000000) :
  Calls Tryz.prog 233 #[v,.int .i64 n] w fun e w'=>∃ v',e=.returned v'/\IsD w' v' (val RR l*n)/\Below w.heap.size w w':=by
 obtain⟨p,cap,rfl,_,_⟩:=hv.slice;have hval:=GF (j0 aQ hl);obtain⟨N,hN⟩:∃ N,N=l.length:=⟨_,rfl⟩;rw[<-hN] at hlen |-;have HN:=GF hN;have HV:=GF hv;have HL:=GF hl;clear hN hv hl;go_enter Tryz.func233,Tryz.ntmps233;go_wp2_with fail
 refine (jG n hn w).mono ?_;rintro e w1 ⟨v1,rfl,hz1,hb1⟩
 have hza:IsZ w1 (.agg #[.bool false,.slice p N cap]) (val RR l:Int):=by
  refine⟨_,by rw[show decide ((val RR l:Int)<0)=false by simp],?_⟩;unfold IsD;rw[Hs,hval.out,HN.out];exact HV.out.below hb1
 go_wp2_with fail
 refine (jh _ _ _ _ w1 hza hz1 (by rw[Hs,hval.out,<-HN.out];exact hlen) (by
  rw[Hs];have:=a_ aQ (n:=n) (k:=3) (by unfold RR;omega)
  omega)).mono ?_
 rintro e w2 ⟨v2,rfl,hz2,hb2⟩;obtain⟨vd,rfl,hd2⟩:=hz2;rw[show ((val RR l:Int)*(n:Int)).natAbs=val RR l*n by rw[<-Jb,Hs]] at hd2;obtain⟨pd,cd,rfl,_,_⟩:=hd2.slice;have HD2:=GF hd2;have HB2:=hb1.trans (hb2.mono hb1.size);generalize decide ((val RR l:Int)*(n:Int)<0)=sg;clear hd2 hza hz1 hb1 hb2;have hfd:=fun w=>Be w sg pd (av RR (val RR l*n)).length cd;go_wp2_with fail
 go_ret;exact⟨_,rfl,HD2.out,HB2⟩
def jR (l:List Nat) (k:Nat):Nat->Nat
 | 0=>0
 | j+1=>jR l k j*10000+(if j<=k then nth l (k-j) else 0)
theorem wW {l:List Nat} (hl:∀ d∈l,d<RR) (k:Nat):∀ j,jR l k j<10000 ^ j
 | 0=>by simp[jR]
 | j+1=>by
  have h1:=wW hl k j;have h2:=cH (j:=k-j) hl;have h3:RR=10000:=rfl;rw[jR,G6]
  split<;>omega
theorem AC (l:List Nat) (k:Nat):jR l k 3=km l k:=by
 simp only[jR,km,ij];simp
theorem yv (v:Value) (l:List Nat) (k:Nat) (w:World) (hv:IsI w v l) (hl:∀ d∈l,d<RR) (hk:k<1000000000) :
  Calls Tryz.prog 258 #[v,.int .i64 k] w fun e w'=>e=.returned (.int .i64 (km l k:Nat))/\w'=w:=by
 obtain⟨p,cap,rfl,hlc,hcm,hcell⟩:=hv;unfold maxLen at hcm;have HE:=GF (AC l k);have HB:=GF (fun j=>wW hl k j);have HN:=GF (fun j=>cH (j:=j) hl);rw[<-HE.out];clear hl;go_enter Tryz.func258,Tryz.ntmps258;go_wp2
 go_loop [5,6] (fun s5 s6=>∃ j:Nat,j<=3/\s5=.int .i64 (jR l k j:Nat)/\s6=.int .i64 ((k:Int)-j)) (fun _ s6=>(intOf s6-k+3).toNat)
 case atStart=>exact⟨0,by omega,rfl,by simp⟩
 case round =>
  obtain⟨j,hj,rfl,rfl⟩:=hrel;have hb:=HB.out j;by_cases h3:j=3
  ·subst h3;go_wp2;go_ret;exact⟨rfl,rfl⟩
  ·have hb2:jR l k j<100000000:=by
    have:10000 ^ j<=10000 ^ 2:=G1 (by decide) (by omega);omega
   have hgt:decide ((k:Int)-j > (k:Int)-3)=true:=by simp;omega
   have hgt2:decide ((k:Int)-3<(k:Int)-j)=true:=by simp;omega
   by_cases hjk:j<=k
   ·have hge:decide ((0:Int)<=(k:Int)-j)=true:=by simp;omega
    by_cases hlt:k-j<l.length
    ·obtain⟨b,o,rfl,_,hc⟩:=hcell (by omega);have hc1:=hc (k-j) hlt;have hd:=HN.out (k-j);have hdl:decide ((k:Int)-j<(l.length:Int))=true:=by simp;omega
     have hkj:(k:Int)-j=((k-j:Nat):Int):=by omega
     have hacc:jR l k (j+1)=jR l k j*10000+nth l (k-j):=by rw[jR,if_pos hjk]
     have HA:=GF hacc;rw[ij] at hd;clear hc hcell hacc hb;go_wp2
     go_round
     case rel=>exact⟨j+1,by omega,by rw[HA.out];go_num,by go_num⟩
     case measure=>simp[intOf];omega
    ·have hdl:decide ((k:Int)-j<(l.length:Int))=false:=by simp;omega
     have hacc:jR l k (j+1)=jR l k j*10000:=by rw[jR,if_pos hjk,fV (by omega)];rfl
     have HA:=GF hacc;clear hcell hacc hb;go_wp2
     go_round
     case rel=>exact⟨j+1,by omega,by rw[HA.out];go_num,by go_num⟩
     case measure=>simp[intOf];omega
   ·have hge:decide ((0:Int)<=(k:Int)-j)=false:=by simp;omega
    have hacc:jR l k (j+1)=jR l k j*10000:=by rw[jR,if_neg hjk];rfl
    have HA:=GF hacc;clear hcell hacc hb;go_wp2
    go_round
    case rel=>exact⟨j+1,by omega,by rw[HA.out];go_num,by go_num⟩
    case measure=>simp[intOf];omega
theorem lY (b o j:Nat):(⟨b,o,none⟩:Addr).add j=⟨b,o+j,none⟩:=by
 simp only[Addr.add];by_cases h:j=0<;>simp[h]
def At (v:Value):Prop:=v=.slice none 0 0\/∃ ad n c,v=.slice (some ad) n c
theorem SlB.nor {B:Nat}{v:Value} (h:SlB B v):At v:=by
 rcases h with h | ⟨b,n,c,h,_⟩
 ·exact Or.inl h
 ·exact Or.inr ⟨_,n,c,h⟩
theorem jd {w:World}{ops:Array Oper}{rest:List Oper}{o:Oper}{a:Act}{Q:Exit->Act->World->Prop} (T:TypeId)
  (hT:Tryz.prog.underlying T=some (.slice 3)) (hgd:o.guard=none) (s x:Operand)
  (ho:o.op=.call { callee:=.builtin .append,args:=#[s,x],argTypes:=#[T,T] })
  (base:Nat) (v:Value) (l:List Nat) (hs:a.eval s=v) (hown:ew w base v l)
  (vx:Value) (m:List Nat) (hx:a.eval x=vx) (hi:IsI w vx m) (hnn:At vx) (hlen:l.length+m.length<1000000) (hbase:base<=w.heap.size)
  (h:∀ v' w',ew w' base v' (l++m)->(∀ B w0,Below B w0 w->B<=base->Below B w0 w')->wpList Tryz.prog ops Q rest (a.put o.dst v') w') :
  wpList Tryz.prog ops Q (o :: rest) a w:=by
 obtain⟨i0,hiz,hz0,hz1,hz2⟩:=info_parts By;obtain⟨p,cap,he,hlc,hcm,hcell⟩:=hi;rcases hnn with hn | ⟨ad,n,c,hn⟩
 ·rw[he] at hn;obtain⟨rfl,h0,rfl⟩:p=none/\m.length=0/\cap=0:=by simpa using hn
  obtain rfl:m=[]:=Hu h0;refine wpList_append_own_none hgd s x T ho base 3 i0 1 hT hiz v l.length (iz l) hs hown (by rw[hx,he];rfl) ?_;refine h v w (by rw[Ic];exact hown) (fun B w0 hb _=>hb)
 ·rw[he] at hn;obtain⟨rfl,h0,rfl⟩:p=some ad/\m.length=n/\cap=c:=by simpa using hn
  refine wpList_append_own _ hgd s x T ho base 3 i0 (.int .i64 0) 1 8 hT hiz hz0 hz1 hz2 rfl (by decide) v l.length (iz l) hs hown ad m.length cap (iz m) (by rw[hx,he]) (by rw[mF,Ix]) ?_ ?_ ?_ ?_ hbase ?_
  ·intro j u hj
   have hjl:j<m.length:=by
    have:=(Ig.1 hj).1
    rwa [mF] at this
   obtain⟨b,o',e2,_,hc⟩:=hcell (by omega);obtain rfl:=Option.some.inj e2;have:=hc j hjl;rw[n7 m j hjl] at hj;rw[<-Option.some.inj hj,lY];exact this
  ·intro u hu;unfold iz at hu;obtain⟨d,_,rfl⟩:=JM.1 hu;rfl
  ·unfold maxLen;omega
  ·omega
  ·intro v' w' hown' hg _;refine h v' w' ?_ (fun B w0 hb hB=>?_)
   ·unfold ew;rw[GW,mE];exact hown'
   ·have hbs:=hown.lt;refine hb.grown hg (by omega) ?_;intro k hk;have:=(hbs k hk).1;omega
theorem IsI.tail {w:World}{ad:Addr}{N cap k:Nat}{l:List Nat} (h:IsI w (.slice (some ad) N cap) l) (hk:k<=l.length):IsI w (.slice (some (ad.add k)) (l.length-k) (cap-k)) (l.drop k):=by
 obtain⟨p',cap',he,hlc,hcm,hcell⟩:=h;obtain⟨rfl,rfl,rfl⟩:p'=some ad/\l.length=N/\cap'=cap:=by simp at he;exact⟨he.1.symm,he.2.1.symm,he.2.2.symm⟩
 refine⟨some (ad.add k),cap' - k,by rw[G2],by rw[G2];omega,by omega,fun hl=>?_⟩;rw[G2] at hl;obtain⟨b,o,e,hb,hc⟩:=hcell (by omega);obtain rfl:=Option.some.inj e;refine⟨b,o+k,by rw[lY],hb,fun j hj=>?_⟩;rw[G2] at hj;have:=hc (k+j) (by omega);rw[<-IH] at this;rw[this];congr 2;simp[nth,IL]
theorem IsI.store {w:World}{g j:Nat}{v u:Value}{l:List Nat} (h:IsI w v l) (hb:SlB (g+1) v):IsI (w.setCell ⟨g,j,none⟩ u) v l:=by
 obtain⟨p,cap,he,hlc,hcm,hcell⟩:=h;refine⟨p,cap,he,hlc,hcm,fun hl=>?_⟩;obtain⟨b,o,e,hlt,hc⟩:=hcell hl
 have hne:b≠g:=by
  rcases hb with hb | ⟨b',n,c,hb,hge⟩
  ·rw[he] at hb;rw[e] at hb;simp at hb
  ·rw[he,e] at hb;have:b=b':=by simpa using congrArg (fun v=>match v with | Value.slice (some a) _ _=>a.block | _=>0) hb
   omega
 refine⟨b,o,e,by simpa[World.setCell] using hlt,fun i hi=>?_⟩;rw[World.cell?_setCell_other _ _ _ _ (by intro e3;exact hne (congrArg Addr.block e3).symm)];exact hc i hi
theorem bC.len {n:Nat} (h:bC n):(av RR n).length<100000:=h
theorem Ff {x y:Nat} (h:x<=y):decide (dw x y<=0)=true/\(x<y->dw x y=-1):=by
 unfold dw;refine⟨?_,fun h=>by simp[h]⟩
 split
 ·rfl
 ·split
  ·rfl
  ·omega
theorem Fe {x y:Nat} (h:y<x):dw x y=1:=by unfold dw;rw[if_neg (by omega),if_neg (by omega)]
theorem DH {a:List Nat} (h:CR a) {k:Nat} (hk:val RR a<RR ^ k):a.length<=k:=by
 have:=a_ aQ hk
 rwa [j0 aQ h] at this
theorem pB {a:List Nat} (h:CR a):val RR a<RR ^ a.length:=fJ RR a h.1
theorem y8 (va vb:Value) (a b:List Nat) (w:World) (ha:IsI w va a) (hb:IsI w vb b) (hca:CR a) (hcb:CR b) (h1:1<=b.length) (hlt:val RR a<RR*val RR b) (hlb:b.length<900000) :
  Calls Tryz.prog 232 #[va,vb] w fun e w'=>e=.returned (.int .i64 (val RR a / val RR b:Nat))/\Below w.heap.size w w':=by
 have hla:a.length<=b.length+1:=DH hca (by
  rw[G6]
  exact GN hlt (by rw[G5];exact GX _ (Ha (pB hcb))))
 have hg:=Bm hca.1 hcb.1 h1 hla;have hta:=yu hca.1 b.length;have htb:=yu hcb.1 b.length
 have hB:0<val RR b:=by
  have:=eR hcb (Hc.1 (by omega));have h4:0<RR ^ (b.length-1):=Ij (by decide);omega
 have HTA:=GF (fun w' (hi:IsI w' va a)=>yv va a b.length w' hi hca.1 (by omega));have HTB:=GF (fun w' (hi:IsI w' vb b)=>yv vb b b.length w' hi hcb.1 (by omega));obtain⟨p,cap,rfl,-,-⟩:=ha.slice;obtain⟨p',cap',rfl,-,-⟩:=hb.slice;generalize km a b.length=ta at *
 generalize km b b.length=tb at *
 have HA:=GF ha;have HBb:=GF hb;have HCA:=GF hca;have HCB:=GF hcb;obtain⟨X,hX⟩:∃ X,X=val RR a:=⟨_,rfl⟩;obtain⟨Y,hY⟩:∃ Y,Y=val RR b:=⟨_,rfl⟩;rw[<-hX,<-hY] at hlt hg |-;rw[<-hY] at hB;have HX:=GF hX;have HY:=GF hY;have hz:(((tb:Int)+1) == 0)=false:=by simp;omega
 have hqv:((ta:Int)).tdiv ((tb:Int)+1)=((ta / (tb+1):Nat):Int):=by
  rw[Im (by omega)];push_cast;rfl
 have hqle:ta / (tb+1)<=ta:=IQ _ _;generalize ta / (tb+1)=n0 at *
 have HL1:=GF h1;clear hX hY ha hb hca hcb hla h1;go_enter Tryz.func232,Tryz.ntmps232;go_wp2_with fail
 refine (HTA.out w HA.out).mono ?_;rintro e w1 ⟨rfl,hw1⟩;obtain rfl:=hw1.symm;go_wp2_with fail
 refine (HTB.out _ HBb.out).mono ?_;rintro e w1 ⟨rfl,hw1⟩;obtain rfl:=hw1.symm;go_wp2_with fail
 go_loopw [5] (fun s5 wr=>∃ n:Nat,s5=.int .i64 n/\Hid (n*Y<=X)/\Below w.heap.size w wr) (fun s5 _=>X / Y+1-(intOf s5).toNat)
 case atStart=>exact⟨n0,rfl,hg,Ki _ _⟩
 case round =>
  obtain⟨n,rfl,hn,hbw⟩:=hrel
  have hnR:n<10000:=by
   have h2:=hn.out;have h3:n*Y<RR*Y:=Hf h2 hlt;exact II h3
  go_wp2_with fail
  refine (qW _ b (n+1) wr (HBb.out.below hbw) HCB.out (by omega) (by omega)).mono ?_;rintro e w2 ⟨v2,rfl,hd2,hb2⟩;rw[<-HY.out] at hd2;have hb3:=hbw.trans (hb2.mono hbw.size);go_wp2_with fail
  refine (fj v2 _ _ a w2 hd2 (HA.out.below hb3) (aW _) HCA.out).mono ?_;rintro e w3 ⟨rfl,nq,rfl⟩;rw[aF aQ,<-HX.out];have hb4:Below w.heap.size w (w2.drewN nq):=below_drewN hb3 _;clear hb3 hd2 hb2 hbw;by_cases hle:Y*(n+1)<=X
  ·have hc:=(Ff hle).1;have HN:Hid ((n+1)*Y<=X):=by unfold Hid;rw[G5];exact hle
   have hmx:n+1<=X / Y:=(Nat.le_div_iff_mul_le hB).2 HN.out;clear hle hn;go_wp2_with fail
   go_roundw;case rel=>exact⟨n+1,by go_num,HN,hb4⟩
   case measure=>simp[intOf];omega
  ·have hc:=Fe (show X<Y*(n+1) by omega);have hfin:n=X / Y:=(xX hn.out (by rw[G5];omega)).1;rw[hc];rw[hfin];clear hle hn;go_wp2_with fail
   go_ret;exact⟨rfl,hb4⟩
end Go.Proofs.YtmakbmhlemhgeaaGreatDoor
