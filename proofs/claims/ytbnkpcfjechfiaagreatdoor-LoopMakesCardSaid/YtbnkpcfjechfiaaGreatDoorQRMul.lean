/- Lemmas of this claim. -/
import Derived.Laws.AppendOwnNone
import Derived.Test.YtbnkpcfjechfiaaGreatDoorQRNat2
set_option linter.all false
set_option maxRecDepth 100000
set_option maxHeartbeats 8000000
namespace Go.Proofs.YtbnkpcfjechfiaaGreatDoor
open Go.RowKit Dg
theorem n8 (z:Int):sgn (decide (z<0)) z.natAbs=z:=by
 unfold sgn;by_cases h:z<0
 ·simp[h];omega
 ·simp[h];omega
theorem C3 (x y:Int):sgn (decide (x<0) != decide (y<0)) (x.natAbs*y.natAbs)=x*y:=by
 have hx:=n8 x;have hy:=n8 y;generalize decide (x<0)=a at *
 generalize decide (y<0)=b at *
 rw[←hx,←hy,gI,gI];unfold sgn
 cases a<;>cases b<;>simp[Int.neg_mul,Int.mul_neg]
def ED (l m lo:List Nat) (i k c:Nat) (lo1:List Nat):Prop:=(k≤m.length∧RIn lo m (nth l i) i k c lo1)∨(k=m.length+1∧c=0∧qq l m (i+1) lo1)
theorem fv (va vb:Value) (x y:Int) (w:World) (ha:IsZ w va x) (hb:IsZ w vb y) (hla:(am RR x.natAbs).length<1000000) (hlb:(am RR y.natAbs).length<1000000) :
  Calls Tryz.prog 143 #[va,vb] w fun e w'=>∃ v,e=.returned v∧IsZ w' v (x*y)∧Below w.heap.size w w':=by
 obtain⟨vd,rfl,hd⟩:=ha;obtain⟨ve,rfl,he⟩:=hb;obtain⟨l,hl⟩:∃ l,l=am RR x.natAbs:=⟨_,rfl⟩;obtain⟨m,hm⟩:∃ m,m=am RR y.natAbs:=⟨_,rfl⟩;have hvl:val RR l=x.natAbs:=by rw[hl];exact aw aD _
 have hvm:val RR m=y.natAbs:=by rw[hm];exact aw aD _
 have hcl:∀ d∈l,d<RR:=by rw[hl];exact (aL _).1
 have hcm:∀ d∈m,d<RR:=by rw[hm];exact (aL _).1
 unfold IsD at hd he;rw[←hl] at hd hla;rw[←hm] at he hlb;have HS:=E5 (C3 x y);clear hl hm;obtain⟨ma,hma⟩:∃ ma,ma=decide (x<0):=⟨_,rfl⟩;obtain⟨mb,hmb⟩:∃ mb,mb=decide (y<0):=⟨_,rfl⟩;rw[←hma,←hmb,←hvl,←hvm] at HS;rw[←hma,←hmb];clear hma hmb hvl hvm;obtain⟨p,cap,rfl,hlc,hcp,hcell⟩:=hd;obtain⟨p',cap',rfl,hlc',hcp',hcell'⟩:=he;unfold maxLen at hcp hcp';obtain⟨w1,hw1⟩:∃ w1:World,w1=((w.alloc (.cells #[.bool ma,.slice p l.length cap] 76)).alloc (.cells #[.bool mb,.slice p' m.length cap'] 76)).alloc (.cells #[.bool false,.slice none 0 0] 76):=⟨_,rfl⟩;have hb1:Below w.heap.size w w1:=by rw[hw1];exact (((Below.refl _ _).alloc (Fb _) _).alloc (by simp) _).alloc (by simp;omega) _
 have s0:w1.heap[w.heap.size]?=some (.cells #[.bool ma,.slice p l.length cap] 76 (0,0)):=by rw[hw1];exact (heap_alloc_old _ _ (by simp;omega)).trans ((heap_alloc_old _ _ (by simp)).trans (heap_alloc_new _ _))
 have s1:w1.heap[w.heap.size+1]?=some (.cells #[.bool mb,.slice p' m.length cap'] 76 (0,0)):=by
  rw[hw1];refine (heap_alloc_old _ _ (by simp)).trans ?_;have:=heap_alloc_new (w.alloc (.cells #[.bool ma,.slice p l.length cap] 76)) (.cells #[.bool mb,.slice p' m.length cap'] 76);simpa using this
 have s2:w1.heap[w.heap.size+1+1]?=some (.cells #[.bool false,.slice none 0 0] 76 (0,0)):=by
  rw[hw1];have:=heap_alloc_new ((w.alloc (.cells #[.bool ma,.slice p l.length cap] 76)).alloc (.cells #[.bool mb,.slice p' m.length cap'] 76)) (.cells #[.bool false,.slice none 0 0] 76);simpa using this
 have hsz:w1.heap.size=w.heap.size+1+1+1:=by rw[hw1];simp
 have HSZ:=E5 hsz;have x0:=aa s0 1;have x1:=aa s1 1;go_enter Tryz.func143,Tryz.ntmps143;go_upto_region 1 with fail
 rw[←hw1];clear hw1 hsz;go_wp2_with (at_make;refine j7 74 Tryz.underlying74 rfl (.tmp 16) (.tmp 16) rfl _ _ (l.length+m.length) rfl rfl (by simp) (by simp) ?c1 ?_)
 case c1=>omega
 intro w0 hrow hb0 hs0;have hbz:=hb0 _ _ (Below.refl _ _) (Fb _);clear hb0 x0 x1;have HB1:=E5 hb1;clear hb1;go_wp2;go_loopw [6] (fun s6 wr=>∃ (i:Nat) (lo:List Nat),i≤l.length∧s6=.int .i64 i∧Hid (qq l m i lo)∧Hid (ew wr w1.heap.size (l.length+m.length) lo)∧Below w1.heap.size w1 wr) (fun s6 _=>l.length-(intOf s6).toNat)
 case atStart=>exact⟨0,_,Fk _,rfl,vf l m,hrow,hbz⟩
 case round =>
  obtain⟨i,lo,hi,rfl,hout,hro,hbw⟩:=hrel;clear hrow hbz hs0;have r0:=(hbw.block _ (by have:=HSZ.out;omega)).trans s0;have r1:=(hbw.block _ (by have:=HSZ.out;omega)).trans s1;have x0:=aa r0 1;by_cases h0:i<l.length
  ·obtain⟨b,o,rfl,hbb,hc⟩:=hcell (by omega);have hbb1:b<w1.heap.size:=Fe hbb HB1.out.size;have hc0:=(HB1.out.cell (p:=⟨b,o+i,none⟩) hbb).trans (hc i h0);have hx:=ci hcl h0;rw[gy] at hx;have hlen:=E5 hout.out.len;clear hc hcell r0 r1;go_wp2_with fail
   clear x0;go_loopw [7,8] (fun s7 s8 wq=>∃ (k c:Nat) (lo1:List Nat),s7=.int .i64 c∧s8=.int .i64 k∧k≤m.length+1∧ED l m lo i k c lo1∧Hid (ew wq w1.heap.size (l.length+m.length) lo1)∧Below w1.heap.size w1 wq) (fun _ s8 _=>m.length+1-(intOf s8).toNat)
   case atStart=>exact⟨0,0,lo,rfl,rfl,Fk _,Or.inl ⟨Fk _,yO lo m _ i hout.out.dig⟩,hro,hbw⟩
   case round =>
    obtain⟨k,c,lo1,rfl,rfl,hk1,hmi,hro1,hbw1⟩:=hrel;clear hbw hro;have r0:=(hbw1.block _ (by have:=HSZ.out;omega)).trans s0;have r1:=(hbw1.block _ (by have:=HSZ.out;omega)).trans s1;have x0:=aa r0 1;have x1:=aa r1 1;clear r0 r1;rcases hmi with ⟨hk,hin⟩ | ⟨rfl,rfl,hend⟩
    ·have hcar:c<10000:=hin.car;have hlen1:lo1.length=l.length+m.length:=by rw[hin.len];exact hlen.out
     by_cases hk0:k<m.length
     ·obtain⟨b',o',rfl,hbb',hc'⟩:=hcell' (by omega);have hc1':=((HB1.out.trans (hbw1.mono HB1.out.size)).cell (p:=⟨b',o'+k,none⟩) hbb').trans (hc' k hk0);have hc1:=(hbw1.cell (p:=⟨b,o+i,none⟩) hbb1).trans hc0;have hik:i+k<lo1.length:=by omega
      have hy:=ci hcm hk0;have hoc:=ci hin.dig hik;rw[gy] at hy hoc;have hxy:nth l i*nth m k≤9999*9999:=Gq (by omega) (by omega);have hxy0:0≤(nth l i:Int)*(nth m k:Int):=by omega
      have hxy1:(nth l i:Int)*(nth m k:Int)≤99980001:=by omega
      have hkI:decide ((k:Int)<(m.length:Int))=true:=by simp;omega
      have ho:=hro1.out.cell hik;have hf:=hro1.out.free (i+k);have hst:=E5 (Bm hin hk0 (by rw[hlen.out];omega) (by rw[gy];exact hx) hcm);simp only[gy] at hst;clear hc' hcell' hin;go_wp2_with fail
      go_quiet (fail)
      go_wp2_with fail
      go_roundw;case rel=>exact⟨k+1,_,_,by go_num,by go_num,by omega,Or.inl ⟨by omega,hst.out⟩,hro1.out.set (i+k) _ _ (by go_num),(below_drewN hbw1 _).setCell (p:=⟨w1.heap.size,i+k,none⟩) (Fb _) _⟩
      case measure=>simp[intOf]<;>omega
     ·obtain rfl:k=m.length:=by omega
      have hkI:decide ((m.length:Int)<(m.length:Int))=false:=by simp
      by_cases hc0':0<c
      ·have hcI:decide ((0:Int)<(c:Int))=true:=by simp;omega
       have hik:i+m.length<lo1.length:=by omega
       have hz:=yP hout.out hin;have ho:=hro1.out.cell hik;rw[hz] at ho;have hf:=hro1.out.free (i+m.length);have hst:=E5 (u_ hout.out h0 hin);clear hin hz;go_wp2_with fail
       go_roundw;case rel=>exact⟨m.length+1,0,_,by go_num,by go_num,by omega,Or.inr ⟨rfl,rfl,hst.out⟩,hro1.out.set (i+m.length) _ _ (by go_num),hbw1.setCell (p:=⟨w1.heap.size,i+m.length,none⟩) (Fb _) _⟩
       case measure=>simp[intOf]<;>omega
      ·obtain rfl:c=0:=by omega
       have hst:=E5 (qu9 hout.out h0 hin);clear hin;go_wp2_with fail
       go_roundw;case rel=>exact⟨i+1,_,by omega,by go_num,hst.out,hro1,hbw1⟩
       case measure=>simp[intOf]<;>omega
    ·have hkI:decide (((m.length+1:Nat):Int)<(m.length:Int))=false:=by simp<;>omega
     have HE:=E5 hend;clear hend;go_wp2_with fail
     go_roundw;case rel=>exact⟨i+1,_,by omega,by go_num,HE.out,hro1,hbw1⟩
     case measure=>simp[intOf]<;>omega
  ·obtain rfl:i=l.length:=by omega
   have x1:=aa r1 1;have y0:=aa r0 0;have y1:=aa r1 0;have hiI:decide ((l.length:Int)<(l.length:Int))=false:=by simp
   have hlen:=hout.out.len;have hend:=E5 (Bo hout.out);have hdig:=E5 hout.out.dig;have r2:=(hbw.block _ (by have:=HSZ.out;omega)).trans s2
   have hib:Hid (IsI wr (.slice (some ⟨w1.heap.size,0,none⟩) (l.length+m.length) (l.length+m.length)) lo):=by
    have:=hro.out.isU;rw[hlen] at this;exact this
   clear h0 hcell hcell' hout hro r0 r1;go_wp2_with fail
   refine (dy (!(ma == mb)) _ lo wr hib.out hdig.out).mono ?_;rintro e w5 ⟨v',rfl,hz,hb5⟩
   have hval:val RR lo=val RR l*val RR m:=by
    have:=congrArg (val RR) hend.out;rw[oC,aw aD] at this;exact this
   rw[hval] at hz;have hz2:IsZ w5 v' (x*y):=by rw[←HS.out];exact hz
   obtain⟨vd,rfl,hd5⟩:=hz2;obtain⟨pd,cd,rfl,hcd,hcm⟩:=hd5.slice;have r2':=(hb5.block _ (ag r2)).trans r2;have hbB:=HB1.out.trans (hbw.mono HB1.out.size);have hbC:=hbB.trans (hb5.mono hbB.size);have hsz5:w.heap.size+1+1<w5.heap.size:=ag r2';have q0:=aa r2' 0;have q1:=aa r2' 1;have f0:=frozen_of_row w5 (w.heap.size+1+1) 0 _ _ r2';have f1:=frozen_of_row w5 (w.heap.size+1+1) 1 _ _ r2';generalize (am RR (x*y).natAbs).length=N at hcd hd5 ⊢;generalize hsg:decide (x*y<0)=sg at hz ⊢;have hrow:Hid (((w5.setCell ⟨w.heap.size+1+1,0,none⟩ (.bool sg)).setCell ⟨w.heap.size+1+1,1,none⟩ (.slice pd N cd)).heap[w.heap.size+1+1]?=some (.cells #[.bool sg,.slice pd N cd] 76 (0,0))):=rE r2' _ _;have hfin:Hid (Below w.heap.size w ((w5.setCell ⟨w.heap.size+1+1,0,none⟩ (.bool sg)).setCell ⟨w.heap.size+1+1,1,none⟩ (.slice pd N cd))):=(hbC.setCell (p:=⟨w.heap.size+1+1,0,none⟩) (by show w.heap.size≤w.heap.size+1+1;omega) _).setCell (p:=⟨w.heap.size+1+1,1,none⟩) (by show w.heap.size≤w.heap.size+1+1;omega) _
   have hend5:Hid (IsZ ((w5.setCell ⟨w.heap.size+1+1,0,none⟩ (.bool sg)).setCell ⟨w.heap.size+1+1,1,none⟩ (.slice pd N cd)) (.agg #[.bool sg,.slice pd N cd]) (x*y)) :=
    ⟨_,by rw[hsg],IsI.two r2' (fun z=>by simp) (fun z=>by simp) hd5 _ _⟩
   unfold maxLen at hcm;clear r2 r2' hz hd5 hsg y0 y1 x0 x1 s0 s1 s2 hbC hbB;go_wp2_with fail
   (try simp only[Exit.inBlock,Exit.then])
   refine bodyPost_ret (results_cell_row rfl _ _ (w.heap.size+1+1) _ _ (0,0) _ rfl hrow.out Tryz.underlying76 rfl (by kernel_rfl)) rfl ?_;exact⟨_,rfl,hend5.out,hfin.out⟩
structure zq (n m:Nat) (out:List Nat):Prop where
 dig:∀ d∈out,d<RR
 eq:val RR out+m*RR ^ out.length=n
 few:out.length+m≤n
theorem AR (n:Nat):zq n n []:=⟨by simp,by simp[val],by simp⟩
theorem CL {n m:Nat}{out:List Nat} (h:zq n m out) (hm:0<m):zq n (m / 10000) (out++[m % 10000]):=by
 have h1:=h.few;refine⟨fun d hd=>?_,?_,by simp only[Fl,Fv,FW];omega⟩
 ·rcases F6.1 hd with hd | hd
  ·exact h.dig d hd
  ·rw[Gh.1 hd];exact Gc _ (by decide)
 ·have he:=h.eq;have hd:=FX m 10000;rw[dQ,Fl,List.length_singleton,Ft];have:RR=10000:=rfl;generalize m / 10000=a at *
  generalize m % 10000=b at *
  rw[←he,←hd,this];grind
theorem Ec {n:Nat}{out:List Nat} (h:zq n 0 out):val RR out=n:=by have:=h.eq;omega
theorem iP (n:Nat) (hn:n<1000000000000) (w:World) :
  Calls Tryz.prog 160 #[.int .i64 n] w fun e w'=>∃ v,e=.returned v∧IsZ w' v (n:Int)∧Below w.heap.size w w':=by
 have hb1:Below w.heap.size w (w.alloc (.cells #[.bool false,.slice none 0 0] 76)):=(Below.refl _ _).alloc (Fb _) _;have s0:(w.alloc (.cells #[.bool false,.slice none 0 0] 76)).heap[w.heap.size]?=some (.cells #[.bool false,.slice none 0 0] 76 (0,0)):=heap_alloc_new _ _;have hd0:decide ((n:Int)<0)=false:=by simp
 go_enter Tryz.func160,Tryz.ntmps160;go_upto_region 1 with fail
 generalize w.alloc (.cells #[.bool false,.slice none 0 0] 76)=w1 at *
 go_wp2_with fail
 go_loopw [0,4] (fun s0 s4 wr=>∃ (m:Nat) (out:List Nat),s0=.int .i64 m∧Hid (zq n m out)∧Hid (dR wr w1.heap.size s4 out)∧Below w1.heap.size w1 wr) (fun s0 _ _=>(intOf s0).toNat)
 case atStart=>exact⟨n,[],rfl,AR n,World.ownsRow_nil _ _ _ _,Below.refl _ _⟩
 case round =>
  obtain⟨m,out,rfl,hst,hown,hbw⟩:=hrel;have hfew:=hst.out.few;have hsz:=hbw.size;by_cases hm:m=0
  ·subst hm;have hend:=E5 (Ec hst.out);have hdig:=E5 hst.out.dig;have s1:=(hbw.block _ (ag s0)).trans s0;obtain⟨po,co,rfl,_,_⟩:=(dR.isU hown.out).slice;have hoi:=E5 (dR.isU hown.out);have HB:=hb1.trans (hbw.mono hb1.size);clear hst hown hbw hb1 s0;go_wp2_with fail
   refine (dy false _ out wr hoi.out hdig.out).mono ?_;rintro e w5 ⟨v',rfl,hz,hb5⟩;rw[hend.out,show sgn false n=(n:Int) from rfl] at hz;obtain⟨vd,rfl,hd5⟩:=hz;obtain⟨pd,cd,rfl,hcd,hcm⟩:=hd5.slice;have r2:=(hb5.block _ (ag s1)).trans s1;have hbC:=HB.trans (hb5.mono HB.size);have q0:=aa r2 0;have q1:=aa r2 1;have f0:=frozen_of_row w5 w.heap.size 0 _ _ r2;have f1:=frozen_of_row w5 w.heap.size 1 _ _ r2;generalize (am RR (n:Int).natAbs).length=N at hcd hd5 ⊢;have hsg:decide ((n:Int)<0)=false:=by simp
   rw[hsg];have hrow:Hid (((w5.setCell ⟨w.heap.size,0,none⟩ (.bool false)).setCell ⟨w.heap.size,1,none⟩ (.slice pd N cd)).heap[w.heap.size]?=some (.cells #[.bool false,.slice pd N cd] 76 (0,0))):=rE r2 _ _;have hfin:Hid (Below w.heap.size w ((w5.setCell ⟨w.heap.size,0,none⟩ (.bool false)).setCell ⟨w.heap.size,1,none⟩ (.slice pd N cd))):=(hbC.setCell (p:=⟨w.heap.size,0,none⟩) (Fb _) _).setCell (p:=⟨w.heap.size,1,none⟩) (Fb _) _
   have hend5:Hid (IsZ ((w5.setCell ⟨w.heap.size,0,none⟩ (.bool false)).setCell ⟨w.heap.size,1,none⟩ (.slice pd N cd)) (.agg #[.bool false,.slice pd N cd]) (n:Int)) :=
    ⟨_,by rw[hsg],IsI.two r2 (fun z=>by simp) (fun z=>by simp) hd5 _ _⟩
   unfold maxLen at hcm;clear r2 hd5 hbC s1 hsg hd0;go_wp2_with fail
   (try simp only[Exit.inBlock,Exit.then])
   refine bodyPost_ret (results_cell_row rfl _ _ w.heap.size _ _ (0,0) _ rfl hrow.out Tryz.underlying76 rfl (by kernel_rfl)) rfl ?_;exact⟨_,rfl,hend5.out,hfin.out⟩
  ·have hne:((m:Int) != 0)=true:=by simp;omega
   have hr:(m:Int).tmod 10000=((m % 10000:Nat):Int):=by rw[Gp (by omega)];omega
   have hq:(m:Int).tdiv 10000=((m / 10000:Nat):Int):=by rw[Gd (by omega)];omega
   have hlt:decide ((m:Int).tmod 10000<0)=false:=by rw[hr];exact decide_eq_false (by omega)
   have hst2:=E5 (CL hst.out (show 0<m by omega));clear hst;go_wp2_with (at_builtin;refine bh 74 Tryz.underlying74 rfl (.tmp 16) (.tmp 18) rfl w1.heap.size _ out _ (m % 10000) (by omega) rfl hown.out rfl (by omega) hsz ?_)
   intro v' w2 hown' hb';have hb2:=hb' _ _ hbw (Fb _);clear hown hbw hb';have HO:=E5 hown';clear hown';go_wp2;go_roundw;case rel=>exact⟨m / 10000,_,by go_num,hst2,HO,hb2⟩
   case measure=>simp[intOf];omega
theorem Af (w:World) (sg:Bool) (p:Option Addr) (N c:Nat):(Instr.field 76 (.agg #[.bool sg,.slice p N c]) 1).run Tryz.prog w=.ok (.slice p N c) w:=by kernel_rfl
/-- the product with a small number -/
theorem qf (v:Value) (l:List Nat) (n:Nat) (w:World) (hv:IsI w v l) (hl:CR l) (hn:n<1000000000000) (hlen:l.length<1000000) :
  Calls Tryz.prog 226 #[v,.int .i64 n] w fun e w'=>∃ v',e=.returned v'∧IsD w' v' (val RR l*n)∧Below w.heap.size w w':=by
 obtain⟨p,cap,rfl,_,_⟩:=hv.slice;have hval:=E5 (jf aD hl);obtain⟨N,hN⟩:∃ N,N=l.length:=⟨_,rfl⟩;rw[←hN] at hlen ⊢;have HN:=E5 hN;have HV:=E5 hv;have HL:=E5 hl;clear hN hv hl;go_enter Tryz.func226,Tryz.ntmps226;go_wp2_with fail
 refine (iP n hn w).mono ?_;rintro e w1 ⟨v1,rfl,hz1,hb1⟩
 have hza:IsZ w1 (.agg #[.bool false,.slice p N cap]) (val RR l:Int):=by
  refine⟨_,by rw[show decide ((val RR l:Int)<0)=false by simp],?_⟩;unfold IsD;rw[FR,hval.out,HN.out];exact HV.out.below hb1
 go_wp2_with fail
 refine (fv _ _ _ _ w1 hza hz1 (by rw[FR,hval.out,←HN.out];exact hlen) (by
  rw[FR];have:=aS aD (n:=n) (k:=3) (by unfold RR;omega)
  omega)).mono ?_
 rintro e w2 ⟨v2,rfl,hz2,hb2⟩;obtain⟨vd,rfl,hd2⟩:=hz2;rw[show ((val RR l:Int)*(n:Int)).natAbs=val RR l*n by rw[←Ia,FR]] at hd2;obtain⟨pd,cd,rfl,_,_⟩:=hd2.slice;have HD2:=E5 hd2;have HB2:=hb1.trans (hb2.mono hb1.size);generalize decide ((val RR l:Int)*(n:Int)<0)=sg;clear hd2 hza hz1 hb1 hb2;have hfd:=fun w=>Af w sg pd (am RR (val RR l*n)).length cd;go_wp2_with fail
 go_ret;exact⟨_,rfl,HD2.out,HB2⟩
def iY (l:List Nat) (k:Nat):Nat→Nat
 | 0=>0
 | j+1=>iY l k j*10000+(if j≤k then nth l (k-j) else 0)
theorem vL {l:List Nat} (hl:∀ d∈l,d<RR) (k:Nat):∀ j,iY l k j<10000 ^ j
 | 0=>by simp[iY]
 | j+1=>by
  have h1:=vL hl k j;have h2:=bQ (j:=k-j) hl;have h3:RR=10000:=rfl;rw[iY,Ft]
  split<;>omega
theorem zA (l:List Nat) (k:Nat):iY l k 3=jw l k:=by
 simp only[iY,jw,gy];simp
theorem wY (v:Value) (l:List Nat) (k:Nat) (w:World) (hv:IsI w v l) (hl:∀ d∈l,d<RR) (hk:k<1000000000) :
  Calls Tryz.prog 260 #[v,.int .i64 k] w fun e w'=>e=.returned (.int .i64 (jw l k:Nat))∧w'=w:=by
 obtain⟨p,cap,rfl,hlc,hcm,hcell⟩:=hv;unfold maxLen at hcm;have HE:=E5 (zA l k);have HB:=E5 (fun j=>vL hl k j);have HN:=E5 (fun j=>bQ (j:=j) hl);rw[←HE.out];clear hl;go_enter Tryz.func260,Tryz.ntmps260;go_wp2
 go_loop [5,6] (fun s5 s6=>∃ j:Nat,j≤3∧s5=.int .i64 (iY l k j:Nat)∧s6=.int .i64 ((k:Int)-j)) (fun _ s6=>(intOf s6-k+3).toNat)
 case atStart=>exact⟨0,by omega,rfl,by simp⟩
 case round =>
  obtain⟨j,hj,rfl,rfl⟩:=hrel;have hb:=HB.out j;by_cases h3:j=3
  ·subst h3;go_wp2;go_ret;exact⟨rfl,rfl⟩
  ·have hb2:iY l k j<100000000:=by
    have:10000 ^ j≤10000 ^ 2:=Fs (by decide) (by omega);omega
   have hgt:decide ((k:Int)-j > (k:Int)-3)=true:=by simp;omega
   have hgt2:decide ((k:Int)-3<(k:Int)-j)=true:=by simp;omega
   by_cases hjk:j≤k
   ·have hge:decide ((0:Int)≤(k:Int)-j)=true:=by simp;omega
    by_cases hlt:k-j<l.length
    ·obtain⟨b,o,rfl,_,hc⟩:=hcell (by omega);have hc1:=hc (k-j) hlt;have hd:=HN.out (k-j);have hdl:decide ((k:Int)-j<(l.length:Int))=true:=by simp;omega
     have hkj:(k:Int)-j=((k-j:Nat):Int):=by omega
     have hacc:iY l k (j+1)=iY l k j*10000+nth l (k-j):=by rw[iY,if_pos hjk]
     have HA:=E5 hacc;rw[gy] at hd;clear hc hcell hacc hb;go_wp2
     go_round
     case rel=>exact⟨j+1,by omega,by rw[HA.out];go_num,by go_num⟩
     case measure=>simp[intOf];omega
    ·have hdl:decide ((k:Int)-j<(l.length:Int))=false:=by simp;omega
     have hacc:iY l k (j+1)=iY l k j*10000:=by rw[iY,if_pos hjk,fm (by omega)];rfl
     have HA:=E5 hacc;clear hcell hacc hb;go_wp2
     go_round
     case rel=>exact⟨j+1,by omega,by rw[HA.out];go_num,by go_num⟩
     case measure=>simp[intOf];omega
   ·have hge:decide ((0:Int)≤(k:Int)-j)=false:=by simp;omega
    have hacc:iY l k (j+1)=iY l k j*10000:=by rw[iY,if_neg hjk];rfl
    have HA:=E5 hacc;clear hcell hacc hb;go_wp2
    go_round
    case rel=>exact⟨j+1,by omega,by rw[HA.out];go_num,by go_num⟩
    case measure=>simp[intOf];omega
theorem lh (b o j:Nat):(⟨b,o,none⟩:Addr).add j=⟨b,o+j,none⟩:=by
 simp only[Addr.add];by_cases h:j=0<;>simp[h]
def zp (v:Value):Prop:=v=.slice none 0 0∨∃ ad n c,v=.slice (some ad) n c
theorem SlB.nor {B:Nat}{v:Value} (h:SlB B v):zp v:=by
 rcases h with h | ⟨b,n,c,h,_⟩
 ·exact Or.inl h
 ·exact Or.inr ⟨_,n,c,h⟩
theorem ir {w:World}{ops:Array Oper}{rest:List Oper}{o:Oper}{a:Act}{Q:Exit→Act→World→Prop} (T:TypeId)
  (hT:Tryz.prog.underlying T=some (.slice 3)) (hgd:o.guard=none) (s x:Operand)
  (ho:o.op=.call { callee:=.builtin .append,args:=#[s,x],argTypes:=#[T,T] })
  (base:Nat) (v:Value) (l:List Nat) (hs:a.eval s=v) (hown:dR w base v l)
  (vx:Value) (m:List Nat) (hx:a.eval x=vx) (hi:IsI w vx m) (hnn:zp vx) (hlen:l.length+m.length<1000000) (hbase:base≤w.heap.size)
  (h:∀ v' w',dR w' base v' (l++m)→(∀ B w0,Below B w0 w→B≤base→Below B w0 w')→wpList Tryz.prog ops Q rest (a.put o.dst v') w') :
  wpList Tryz.prog ops Q (o :: rest) a w:=by
 obtain⟨i0,hiz,hz0,hz1,hz2⟩:=info_parts Au;obtain⟨p,cap,he,hlc,hcm,hcell⟩:=hi;rcases hnn with hn | ⟨ad,n,c,hn⟩
 ·rw[he] at hn;obtain⟨rfl,h0,rfl⟩:p=none∧m.length=0∧cap=0:=by simpa using hn
  obtain rfl:m=[]:=FS h0;refine wpList_append_own_none hgd s x T ho base 3 i0 1 hT hiz v l.length (gN l) hs hown (by rw[hx,he];rfl) ?_;refine h v w (by rw[Gf];exact hown) (fun B w0 hb _=>hb)
 ·rw[he] at hn;obtain⟨rfl,h0,rfl⟩:p=some ad∧m.length=n∧cap=c:=by simpa using hn
  refine wpList_append_own _ hgd s x T ho base 3 i0 (.int .i64 0) 1 8 hT hiz hz0 hz1 hz2 rfl (by decide) v l.length (gN l) hs hown ad m.length cap (gN m) (by rw[hx,he]) (by rw[lT,GE]) ?_ ?_ ?_ ?_ hbase ?_
  ·intro j u hj
   have hjl:j<m.length:=by
    have:=(F9.1 hj).1
    rwa [lT] at this
   obtain⟨b,o',e2,_,hc⟩:=hcell (by omega);obtain rfl:=Option.some.inj e2;have:=hc j hjl;rw[ny m j hjl] at hj;rw[←Option.some.inj hj,lh];exact this
  ·intro u hu;unfold gN at hu;obtain⟨d,_,rfl⟩:=G3.1 hu;rfl
  ·unfold maxLen;omega
  ·omega
  ·intro v' w' hown' hg _;refine h v' w' ?_ (fun B w0 hb hB=>?_)
   ·unfold dR;rw[Fl,lS];exact hown'
   ·have hbs:=hown.lt;refine hb.grown hg (by omega) ?_;intro k hk;have:=(hbs k hk).1;omega
theorem IsI.tail {w:World}{ad:Addr}{N cap k:Nat}{l:List Nat} (h:IsI w (.slice (some ad) N cap) l) (hk:k≤l.length):IsI w (.slice (some (ad.add k)) (l.length-k) (cap-k)) (l.drop k):=by
 obtain⟨p',cap',he,hlc,hcm,hcell⟩:=h;obtain⟨rfl,rfl,rfl⟩:p'=some ad∧l.length=N∧cap'=cap:=by simp at he;exact⟨he.1.symm,he.2.1.symm,he.2.2.symm⟩
 refine⟨some (ad.add k),cap' - k,by rw[Fq],by rw[Fq];omega,by omega,fun hl=>?_⟩;rw[Fq] at hl;obtain⟨b,o,e,hb,hc⟩:=hcell (by omega);obtain rfl:=Option.some.inj e;refine⟨b,o+k,by rw[lh],hb,fun j hj=>?_⟩;rw[Fq] at hj;have:=hc (k+j) (by omega);rw[←GL] at this;rw[this];congr 2;simp[nth,GA]
theorem IsI.store {w:World}{g j:Nat}{v u:Value}{l:List Nat} (h:IsI w v l) (hb:SlB (g+1) v):IsI (w.setCell ⟨g,j,none⟩ u) v l:=by
 obtain⟨p,cap,he,hlc,hcm,hcell⟩:=h;refine⟨p,cap,he,hlc,hcm,fun hl=>?_⟩;obtain⟨b,o,e,hlt,hc⟩:=hcell hl
 have hne:b≠g:=by
  rcases hb with hb | ⟨b',n,c,hb,hge⟩
  ·rw[he] at hb;rw[e] at hb;simp at hb
  ·rw[he,e] at hb;have:b=b':=by simpa using congrArg (fun v=>match v with | Value.slice (some a) _ _=>a.block | _=>0) hb
   omega
 refine⟨b,o,e,by simpa[World.setCell] using hlt,fun i hi=>?_⟩;rw[World.cell?_setCell_other _ _ _ _ (by intro e3;exact hne (congrArg Addr.block e3).symm)];exact hc i hi
theorem DN {x y:Nat} (h:x≤y):decide (cS x y≤0)=true∧(x<y→cS x y=-1):=by
 unfold cS;refine⟨?_,fun h=>by simp[h]⟩
 split
 ·rfl
 ·split
  ·rfl
  ·omega
theorem DM {x y:Nat} (h:y<x):cS x y=1:=by unfold cS;rw[if_neg (by omega),if_neg (by omega)]
theorem Cl {a:List Nat} (h:CR a) {k:Nat} (hk:val RR a<RR ^ k):a.length≤k:=by
 have:=aS aD hk
 rwa [jf aD h] at this
theorem oD {a:List Nat} (h:CR a):val RR a<RR ^ a.length:=e_ RR a h.1
theorem xQ (va vb:Value) (a b:List Nat) (w:World) (ha:IsI w va a) (hb:IsI w vb b) (hca:CR a) (hcb:CR b) (h1:1≤b.length) (hlt:val RR a<RR*val RR b) (hlb:b.length<900000) :
  Calls Tryz.prog 225 #[va,vb] w fun e w'=>e=.returned (.int .i64 (val RR a / val RR b:Nat))∧Below w.heap.size w w':=by
 have hla:a.length≤b.length+1:=Cl hca (by
  rw[Ft]
  exact Fe hlt (by rw[Fw];exact Fo _ (FC (oD hcb))))
 have hg:=Am hca.1 hcb.1 h1 hla;have hta:=wX hca.1 b.length;have htb:=wX hcb.1 b.length
 have hB:0<val RR b:=by
  have:=ec hcb (Fz.1 (by omega));have h4:0<RR ^ (b.length-1):=GQ (by decide);omega
 have HTA:=E5 (fun w' (hi:IsI w' va a)=>wY va a b.length w' hi hca.1 (by omega));have HTB:=E5 (fun w' (hi:IsI w' vb b)=>wY vb b b.length w' hi hcb.1 (by omega));obtain⟨p,cap,rfl,-,-⟩:=ha.slice;obtain⟨p',cap',rfl,-,-⟩:=hb.slice;generalize jw a b.length=ta at *
 generalize jw b b.length=tb at *
 have HA:=E5 ha;have HBb:=E5 hb;have HCA:=E5 hca;have HCB:=E5 hcb;obtain⟨X,hX⟩:∃ X,X=val RR a:=⟨_,rfl⟩;obtain⟨Y,hY⟩:∃ Y,Y=val RR b:=⟨_,rfl⟩;rw[←hX,←hY] at hlt hg ⊢;rw[←hY] at hB;have HX:=E5 hX;have HY:=E5 hY;have hz:(((tb:Int)+1) == 0)=false:=by simp;omega
 have hqv:((ta:Int)).tdiv ((tb:Int)+1)=((ta / (tb+1):Nat):Int):=by
  rw[Gd (by omega)];push_cast;rfl
 have hqle:ta / (tb+1)≤ta:=GK _ _;generalize ta / (tb+1)=n0 at *
 have HL1:=E5 h1;clear hX hY ha hb hca hcb hla h1;go_enter Tryz.func225,Tryz.ntmps225;go_wp2_with fail
 refine (HTA.out w HA.out).mono ?_;rintro e w1 ⟨rfl,hw1⟩;obtain rfl:=hw1.symm;go_wp2_with fail
 refine (HTB.out _ HBb.out).mono ?_;rintro e w1 ⟨rfl,hw1⟩;obtain rfl:=hw1.symm;go_wp2_with fail
 go_loopw [5] (fun s5 wr=>∃ n:Nat,s5=.int .i64 n∧Hid (n*Y≤X)∧Below w.heap.size w wr) (fun s5 _=>X / Y+1-(intOf s5).toNat)
 case atStart=>exact⟨n0,rfl,hg,Below.refl _ _⟩
 case round =>
  obtain⟨n,rfl,hn,hbw⟩:=hrel
  have hnR:n<10000:=by
   have h2:=hn.out;have h3:n*Y<RR*Y:=FE h2 hlt;exact Gy h3
  go_wp2_with fail
  refine (qf _ b (n+1) wr (HBb.out.below hbw) HCB.out (by omega) (by omega)).mono ?_;rintro e w2 ⟨v2,rfl,hd2,hb2⟩;rw[←HY.out] at hd2;have hb3:=hbw.trans (hb2.mono hbw.size);go_wp2_with fail
  refine (eD v2 _ _ a w2 hd2 (HA.out.below hb3) (aL _) HCA.out).mono ?_;rintro e w3 ⟨rfl,nq,rfl⟩;rw[aw aD,←HX.out];have hb4:Below w.heap.size w (w2.drewN nq):=below_drewN hb3 _;clear hb3 hd2 hb2 hbw;by_cases hle:Y*(n+1)≤X
  ·have hc:=(DN hle).1;have HN:Hid ((n+1)*Y≤X):=by unfold Hid;rw[Fw];exact hle
   have hmx:n+1≤X / Y:=(Nat.le_div_iff_mul_le hB).2 HN.out;clear hle hn;go_wp2_with fail
   go_roundw;case rel=>exact⟨n+1,by go_num,HN,hb4⟩
   case measure=>simp[intOf];omega
  ·have hc:=DM (show X<Y*(n+1) by omega);have hfin:n=X / Y:=(wM hn.out (by rw[Fw];omega)).1;rw[hc];rw[hfin];clear hle hn;go_wp2_with fail
   go_ret;exact⟨rfl,hb4⟩
end Go.Proofs.YtbnkpcfjechfiaaGreatDoor
