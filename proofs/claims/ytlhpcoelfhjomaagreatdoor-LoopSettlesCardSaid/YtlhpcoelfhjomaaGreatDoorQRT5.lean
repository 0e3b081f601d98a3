/- L -/
import Derived.Test.YtlhpcoelfhjomaaGreatDoorQNatText
import Derived.Test.YtlhpcoelfhjomaaGreatDoorQRQ3
set_option linter.all false
namespace Go.Proofs.YtlhpcoelfhjomaaGreatDoor
open Go.RowKit Dg Dc
theorem IsC.dig {w:World}{m m':Bool}{p0 p1 p2 p3:Option Addr}{n0 c0 n1 c1 n2 c2 n3 c3:Nat}{z:Vl} (h:IsC w (.agg #[.bool m,.slice p0 n0 c0,.bool false,.slice p1 n1 c1,.bool m',.slice p2 n2 c2,.bool false,.slice p3 n3 c3]) z) :
  IsD w (.slice p0 n0 c0) z.x.n/\IsD w (.slice p1 n1 c1) z.x.d/\IsD w (.slice p2 n2 c2) z.y.n/\IsD w (.slice p3 n3 c3) z.y.d:=by
 obtain⟨a,b,c,d,e,h1,h2,h3,h4⟩:=h;simp at e;obtain⟨_,rfl,rfl,_,rfl,rfl⟩:=e;exact⟨h1,h2,h3,h4⟩
theorem oO (v:Value) (z:Vl) (w:World) (hv:IsC w v z) (hfx:bu z.x.n) (hfx':bu z.x.d) (hfy:bu z.y.n) (hfy':bu z.y.d) :
  Calls Tryz.prog 101 #[v] w fun e w'=>e=.returned (.bool (dt z.x||dt z.y))/\Below w.heap.size w w':=by
 obtain⟨p0,n0,c0,p1,n1,c1,p2,n2,c2,p3,n3,c3,rfl,_,_⟩:=hv.parts;obtain⟨HD0,HD1,HD2,HD3⟩:=hv.dig;obtain⟨x,y⟩:=z;simp only at *
 obtain⟨mx,hmx⟩:∃ mx,mx=x.minus:=⟨_,rfl⟩;obtain⟨my,hmy⟩:∃ my,my=y.minus:=⟨_,rfl⟩;rw[<-hmx,<-hmy];have hl:=bL w (.cells #[.bool mx,.slice p0 n0 c0,.bool false,.slice p1 n1 c1,.bool my,.slice p2 n2 c2,.bool false,.slice p3 n3 c3] 80);replace HD0:=HD0.below hl.below;replace HD1:=HD1.below hl.below;replace HD2:=HD2.below hl.below;replace HD3:=HD3.below hl.below;have r0:=hl.s0;have HB:=hl.below;clear hv hl hmx hmy;obtain⟨b0,hb0⟩:∃ b,b=decide (2000<(dec x.n).length):=⟨_,rfl⟩;obtain⟨b1,hb1⟩:∃ b,b=decide (2000<(dec x.d).length):=⟨_,rfl⟩;obtain⟨b2,hb2⟩:∃ b,b=decide (2000<(dec y.n).length):=⟨_,rfl⟩;obtain⟨b3,hb3⟩:∃ b,b=decide (2000<(dec y.d).length):=⟨_,rfl⟩;have HR:Hid ((dt x||dt y)=((b0||b1)||(b2||b3))):=by unfold Hid dt;rw[hb0,hb1,hb2,hb3]
 have B0:=Ip hb0;have B1:=Ip hb1;have B2:=Ip hb2;have B3:=Ip hb3;clear hb0 hb1 hb2 hb3;have q0:=af r0 0;have q1:=af r0 1;have q2:=af r0 2;have q3:=af r0 3;have q4:=af r0 4;have q5:=af r0 5;have q6:=af r0 6;have q7:=af r0 7;go_enter Tryz.func101,Tryz.ntmps101;go_upto_region 1 with fail
 generalize w.alloc (.cells #[.bool mx,.slice p0 n0 c0,.bool false,.slice p1 n1 c1,.bool my,.slice p2 n2 c2,.bool false,.slice p3 n3 c3] 80)=w1 at *
 go_wp2_with fail
 refine (mu _ p0 n0 c0 x.n w1 HD0 hfx).mono ?_;rintro e w2 ⟨rfl,hbb⟩;have r1:=(hbb.block _ (ah r0)).trans r0;have HB1:=LK HB hbb;replace HD0:=HD0.below hbb;replace HD1:=HD1.below hbb;replace HD2:=HD2.below hbb;replace HD3:=HD3.below hbb;clear r0 HB hbb q0 q1 q2 q3 q4 q5 q6 q7;have r0:=r1;have HB:=HB1;clear r1 HB1;have q0:=af r0 0;have q1:=af r0 1;have q2:=af r0 2;have q3:=af r0 3;have q4:=af r0 4;have q5:=af r0 5;have q6:=af r0 6;have q7:=af r0 7;rw[<-B0.out]
 cases b0
 ·go_wp2_with fail
  refine (mu _ p1 n1 c1 x.d w2 HD1 hfx').mono ?_;rintro e w3 ⟨rfl,hbb⟩;have r1:=(hbb.block _ (ah r0)).trans r0;have HB1:=LK HB hbb;replace HD0:=HD0.below hbb;replace HD1:=HD1.below hbb;replace HD2:=HD2.below hbb;replace HD3:=HD3.below hbb;clear r0 HB hbb q0 q1 q2 q3 q4 q5 q6 q7;have r0:=r1;have HB:=HB1;clear r1 HB1;have q0:=af r0 0;have q1:=af r0 1;have q2:=af r0 2;have q3:=af r0 3;have q4:=af r0 4;have q5:=af r0 5;have q6:=af r0 6;have q7:=af r0 7;rw[<-B1.out]
  cases b1
  ·go_wp2_with fail
   refine (mu _ p2 n2 c2 y.n w3 HD2 hfy).mono ?_;rintro e w4 ⟨rfl,hbb⟩;have r1:=(hbb.block _ (ah r0)).trans r0;have HB1:=LK HB hbb;replace HD0:=HD0.below hbb;replace HD1:=HD1.below hbb;replace HD2:=HD2.below hbb;replace HD3:=HD3.below hbb;clear r0 HB hbb q0 q1 q2 q3 q4 q5 q6 q7;have r0:=r1;have HB:=HB1;clear r1 HB1;have q0:=af r0 0;have q1:=af r0 1;have q2:=af r0 2;have q3:=af r0 3;have q4:=af r0 4;have q5:=af r0 5;have q6:=af r0 6;have q7:=af r0 7;rw[<-B2.out]
   cases b2
   ·go_wp2_with fail
    refine (mu _ p3 n3 c3 y.d w4 HD3 hfy').mono ?_;rintro e w5 ⟨rfl,hbb⟩;have r1:=(hbb.block _ (ah r0)).trans r0;have HB1:=LK HB hbb;replace HD0:=HD0.below hbb;replace HD1:=HD1.below hbb;replace HD2:=HD2.below hbb;replace HD3:=HD3.below hbb;clear r0 HB hbb q0 q1 q2 q3 q4 q5 q6 q7;have r0:=r1;have HB:=HB1;clear r1 HB1;have q0:=af r0 0;have q1:=af r0 1;have q2:=af r0 2;have q3:=af r0 3;have q4:=af r0 4;have q5:=af r0 5;have q6:=af r0 6;have q7:=af r0 7;rw[<-B3.out];clear q0 q1 q2 q3 q4 q5 q6 q7;go_wp2_with fail
    go_ret;refine⟨?_,HB⟩;rw[HR.out];rfl
   ·clear q0 q1 q2 q3 q4 q5 q6 q7;go_wp2_with fail
    go_ret;refine⟨?_,HB⟩;rw[HR.out];rfl
  ·clear q0 q1 q2 q3 q4 q5 q6 q7;go_wp2_with fail
   go_ret;refine⟨?_,HB⟩;rw[HR.out];rfl
 ·clear q0 q1 q2 q3 q4 q5 q6 q7;go_wp2_with fail
  go_ret;refine⟨?_,HB⟩;rw[HR.out];rfl
theorem AR (v:Value) (z:Vl) (w:World) (hv:IsC w v z) :
  Calls Tryz.prog 94 #[v] w fun e w'=>e=.returned (.bool (decide (z.y.n=0)))/\Below w.heap.size w w':=by
 obtain⟨p0,n0,c0,p1,n1,c1,p2,n2,c2,p3,n3,c3,rfl,_,hy⟩:=hv.parts;generalize z.x.minus=mx at *
 obtain⟨my,hmy⟩:∃ my,my=z.y.minus:=⟨_,rfl⟩;rw[<-hmy] at hy |-;have hl:=bL w (.cells #[.bool mx,.slice p0 n0 c0,.bool false,.slice p1 n1 c1,.bool my,.slice p2 n2 c2,.bool false,.slice p3 n3 c3] 80);have HY:=Ip (hy.below hl.below);have q4:=af hl.s0 4;have q5:=af hl.s0 5;have q6:=af hl.s0 6;have q7:=af hl.s0 7;have HB:=hl.below;clear hl hv hy hmy;go_enter Tryz.func94,Tryz.ntmps94;go_upto_region 1 with fail
 generalize w.alloc (.cells #[.bool mx,.slice p0 n0 c0,.bool false,.slice p1 n1 c1,.bool my,.slice p2 n2 c2,.bool false,.slice p3 n3 c3] 80)=w1 at *
 go_wp2_with fail
 refine (nE _ z.y w1 HY.out).mono ?_;rintro e w2 ⟨rfl,hb2⟩;have HEND:=LK HB hb2;go_wp2_with fail
 go_ret;exact⟨by rfl,HEND⟩
theorem GL {s:ByteArray} (h:s.data.toList.all bj=true) {i:Nat} (hi:i<s.size):48<=s[i].toNat/\s[i].toNat<=57:=by
 have hl:i<s.data.toList.length:=by simpa using hi
 have:=I5.1 h (s.data.toList[i]) (IS hl);have hb:s.data.toList[i]=s[i]:=rfl;rw[hb] at this;unfold bj at this;simp at this;exact this
theorem CU {l:List UInt8} (h:l.all bj=true) (k:Nat):(l.take k).all bj=true:=by
 rw[I5] at *
 exact fun c hc=>h c (J4 hc)
theorem CT {l:List UInt8} (h:l.all bj=true) (k:Nat):(l.drop k).all bj=true:=by
 rw[I5] at *
 exact fun c hc=>h c (JB hc)
theorem Hp {s:List UInt8}{lo:List Nat}{k:Nat} (h:xH s (s.take k) lo) (hk:k<=s.length) (h0:0<k) (hd:s.all bj=true):xH s (s.take (k-4)) (lo++[aX ((s.take k).drop (k-4))]):=by
 have hl:(s.take k).length=k:=by rw[IY];omega
 have:=Ho (k:=k-4) h (by rw[hl]) (by intro e;rw[e] at hl;simp at hl;omega) (CT (CU hd k) _);rw[Lr,Jp (by omega)] at this;exact this
theorem lk (s:ByteArray) (w:World) (hs:s.size<100000) (hd:s.data.toList.all bj=true) :
  Calls Tryz.prog 225 #[.string s] w fun e w'=>∃ v,e=.returned v/\IsZ w' v (aX s.data.toList:Nat)/\Below w.heap.size w w':=by
 have hl:=bL w (.cells #[.bool false,.slice none 0 0] 42);have HALL:=Ip hd;have hsl:Hid (s.data.toList.length=s.size):=by unfold Hid;simp
 clear hd;go_enter Tryz.func225,Tryz.ntmps225;go_upto_region 1 with fail
 generalize w.alloc (.cells #[.bool false,.slice none 0 0] 42)=w1 at *
 go_wp2_with fail
 go_loopw [3,4] (fun s3 s4 wr=>∃ (z:Int) (lo:List Nat),s4=.int .i64 z/\-4<=z/\z<=s.size/\Hid (xH s.data.toList (s.data.toList.take z.toNat) lo)/\Hid (eJ wr w1.heap.size s3 lo)/\Below w1.heap.size w1 wr) (fun _ s4 _=>(intOf s4+4).toNat)
 case atStart=>exact⟨s.size,[],rfl,by omega,by omega,by unfold Hid;rw[Ko,<-hsl.out,IZ];exact Gc _,World.ownsRow_nil _ _ _ _,LN _ _⟩
 case round =>
  obtain⟨z,lo,rfl,hz1,hz2,hst,hown,hbw⟩:=hrel;have hsz:=hbw.size;by_cases hz0:0<z
  ·obtain⟨k,rfl⟩:∃ k:Nat,z=(k:Int):=⟨z.toNat,by omega⟩;have hks:k<=s.size:=by omega
   have hgt:decide ((0:Int)<(k:Int))=true:=by simp;omega
   have hmax:max (0:Int) ((k:Int)-4)=((k-4:Nat):Int):=by omega
   rw[Ko] at hst;have hfew:=hst.out.few;rw[hsl.out] at hfew;have hnext:=Ip (Hp hst.out (by rw[hsl.out];exact hks) (by omega) HALL.out);have hkl:Hid ((s.data.toList.take k).length=k):=by unfold Hid;rw[IY,hsl.out];omega
   have HZ0:=Ip hz0;have hk0:0<k:=by omega
   clear hz1 hz2 hst hz0;go_wp2_with fail
   go_loopw [5,6] (fun s5 s6 wq=>∃ n i:Nat,s5=.int .i64 n/\s6=.int .i64 i/\k-4<=i/\i<=k/\Hid (NIn (s.data.toList.take k) (k-4) i n)/\wr=wq) (fun _ s6 _=>k-(intOf s6).toNat)
   case atStart=>exact⟨0,k-4,rfl,rfl,Iw _,by omega,nz _ _,rfl⟩
   case round =>
    obtain⟨n,i,rfl,rfl,hi1,hi2,hin,rfl⟩:=hrel;have hn4:=DK hin.out (by rw[hkl.out]) (by rw[hkl.out];exact hi2);by_cases hi:i<k
    ·have his:i<s.size:=by omega
     have hdg:=GL HALL.out his;have hil:i<(s.data.toList.take k).length:=by rw[hkl.out];exact hi
     have hbyte:Hid ((s.data.toList.take k)[i]=s[i]):=by unfold Hid;rw[KW];rfl
     have hst2:=qv hin.out hi1 hil (by rw[hbyte.out];exact kV (by omega) (by omega));rw[hbyte.out] at hst2;have HST2:=Ip hst2;have h48:(48:Int)<=(s[i].toNat:Int):=by omega
     clear hst2;go_wp2;go_roundw;case rel=>exact⟨10*n+(s[i].toNat-48),i+1,by go_num,by go_num,by omega,by omega,HST2,trivial⟩
     case measure=>simp[intOf];omega
    ·obtain rfl:i=k:=by omega
     have hend:Hid (n=aX ((s.data.toList.take i).drop (i-4))):=(tZ (k:=i-4) (n:=n) (by rw[hkl.out];exact hin.out)).2;rw[<-hend.out] at hnext;clear hin hi hi1 hi2;go_wp2_with (at_builtin;refine bC 40 Tryz.underlying40 rfl (.tmp 29) (.tmp 31) rfl w1.heap.size _ lo _ n rfl rfl hown.out rfl (by omega) hsz ?_)
     intro v' w2 hown' hb';have hb2:=hb' _ _ hbw (Iw _);have HO:=Ip hown';clear hown hbw hb' hown';go_wp2;go_roundw;case rel=>exact⟨(i:Int)-4,lo++[n],by go_num,by omega,by omega,by unfold Hid;rw[show ((i:Int)-4).toNat=i-4 by omega];exact hnext.out,HO,hb2⟩
     case measure=>simp[intOf];have:=HZ0.out;omega
  ·have hle:decide ((0:Int)<z)=false:=by simp;omega
   have hz00:z.toNat=0:=by omega
   rw[hz00,IC] at hst
   have hval:Hid (val RR lo=aX s.data.toList):=by
    have h1:=Io hst.out;have h2:=c_ aH hst.out.dig;rw[h1] at h2;have:=congrArg (val RR) h2;rw[aA aH,aA aH] at this;exact this.symm
   have hdig:=Ip hst.out.dig;have hoi:=Ip (eJ.isU hown.out);have s0:=(hbw.block _ (ah hl.s0)).trans hl.s0;have HB:=hl.below.trans (hbw.mono hl.below.size);clear hst hown hbw hl hz00 hz0;go_wp2_with fail
   refine (dW _ _ _ wr hoi.out hdig.out).mono ?_;rintro e w6 ⟨v6,rfl,hz6,hb6⟩;rw[hval.out,show sgn false (aX s.data.toList)=((aX s.data.toList:Nat):Int) from rfl] at hz6;obtain⟨p6,N6,c6,rfl,hN6,hNc6,hcm6,hd6⟩:=hz6.nat;have r6:=(hb6.block _ (ah s0)).trans s0;have HB6:=LK HB hb6;have hP:=cP (u0:=.bool false) (u1:=.slice p6 N6 c6) r6;have HZ:=Ip (hz6.puts hP r6 eA);have hB:=HB6.trans (hP.below w.heap.size (by omega));have q0:=af r6 0;have q1:=af r6 1;have f0:=LL w6 w.heap.size 0 _ _ r6;have f1:=LL w6 w.heap.size 1 _ _ r6;clear hz6 hd6 hb6 HB s0;go_wp2_with fail
   (try simp only[Exit.inBlock,Exit.then])
   change bodyPost _ _ _ _ _ (gW w6 w.heap.size (.bool false) (.slice p6 N6 c6));refine LM (results_cell_row rfl _ _ w.heap.size _ _ (0,0) _ rfl hP.row Tryz.underlying42 rfl (by kernel_rfl)) rfl ?_;exact⟨_,rfl,HZ.out,hB⟩
theorem aJ {P:Program}{fn:Func}{p u:Tmp}{ty:TypeId} (h:fn.results=#[.cell p ty,.tmp u]) (tmps:Array Value) (w:World) (g:Nat) (t:TypeId) (cs:Array Value) (fr:Nat×Nat) (d:TypeDesc)
  (hp:tmps.getD p undef=.pointer (some ⟨g,0,none⟩)) (hg:w.heap[g]?=some (.cells cs t fr))
  (hu:P.underlying ty=some d) (hd:(match d with | .struct _ | .array _ _=>true | _=>false)=true) (hi:(P.info? ty).map (·.size)=some cs.size) :
  (results fn tmps).run P w=.ok (.tuple #[.agg cs,tmps.getD u undef]) w:=by
 have hp':tmps[p]?.getD undef=.pointer (some ⟨g,0,none⟩):=by simpa using hp
 simp[results,h,hp',asAddr,run_loadVar_row w g t ty cs fr d hg hu hd hi]
theorem qz (s:ByteArray) (w:World) :
  Calls Tryz.prog 197 #[.string s] w fun e w'=>∃ v t,e=.returned (.tuple #[v,.string t])/\IsZ w' v ((dM s.data.toList).1:Nat)/\Hid (t.data.toList=(dM s.data.toList).2)/\Below w.heap.size w w':=by
 have hl:=bL w (.cells #[.bool false,.slice none 0 0] 42);have hsl:Hid (s.data.toList.length=s.size):=by unfold Hid;simp
 go_enter Tryz.func197,Tryz.ntmps197;go_upto_region 1 with fail
 generalize w.alloc (.cells #[.bool false,.slice none 0 0] 42)=w1 at *
 go_wp2_with fail
 have hr0:=hl.s0;have HB:=hl.below;clear hl;go_loopw [4] (fun s4 wr=>∃ i:Nat,s4=.int .i64 i/\Hid (i<=dV s.data.toList 2001)/\w1=wr) (fun s4 _=>2001-(intOf s4).toNat)
 case atStart=>exact⟨0,rfl,IF _,rfl⟩
 case round =>
  obtain⟨i,rfl,hi,rfl⟩:=hrel;have hgo:=Ip (kP s.data.toList 2001 i hi.out).2;have hi0:i<=2001:=IB hi.out (e_ _ _).1;by_cases his:i<s.size
  ·by_cases hi1:i<=2000
   ·rcases (by omega:(s[i].toNat:Int)<48\/(57:Int)<(s[i].toNat:Int)\/(48<=(s[i].toNat:Int)/\(s[i].toNat:Int)<=57)) with hc | hc | ⟨hc,hc2⟩
    ·have hcnt:Hid (dV s.data.toList 2001=i):=by
      unfold Hid;have h1:=kP s.data.toList 2001 i hi.out;have hsl1:=hsl.out;refine Ll ?_ hi.out;refine Ly.1 fun h=>?_;obtain⟨h2,h3,h4⟩:=h1.1 h;have h5:s.data.toList[i]=s[i]'(by omega):=rfl;rw[h5] at h4;rw[p_ hc] at h4;cases h4
     have hend:Hid (dM s.data.toList=(aX (s.data.toList.take i),s.data.toList.drop i)):=by unfold Hid dM;rw[hcnt.out]
     have hdg:Hid ((s.extract 0 i).data.toList.all bj=true):=by unfold Hid;rw[ci,<-hcnt.out];exact jb _ _
     have hi2:i<=2001:=IB hi.out (e_ _ _).1;have his2:i<=s.size:=by have:=IB hi.out (e_ s.data.toList 2001).2;rw[hsl.out] at this;exact this
     clear hcnt hi;go_upto_region 4 with fail
     refine wp_mono (ax (Q:=aP _) (fun _=>True) (fun _=>false) (by kernel_rfl) ?_) (fun _ _ _ h=>aY h);have hbd:Below w1.heap.size w1 w1.drew:=(LN _ _).drew;have s0:=(hbd.block _ (ah hr0)).trans hr0;have HB2:=LK HB hbd;clear hbd hr0 HB;generalize w1.drew=w2 at *
     refine LJ 0 (r:=?_)
     refine LJ 1 (r:=?_)
     refine LJ 2 (r:=?_)
     refine LJ 4 (r:=?_)
     refine LJ 5 (r:=?_)
     refine LJ 6 (r:=?_)
     try simp only[Act.put,It,Is,Ir,Iq,Iu,Iv]
     refine ar (i:=3) rfl (by kernel_rfl) rfl (fun K hK=>?_);go_simp;refine (lk _ w2 (by simp;omega) hdg.out).mono ?_;rintro e w3 ⟨v3,rfl,hz3,hb3⟩;rw[ci] at hz3;obtain⟨p6,N6,c6,rfl,hN6,hNc6,hcm6,hd6⟩:=hz3.nat;refine hK _ _ (fun _ _=>trivial) ?_;clear hK K;try simp only[Act.put,It,Is,Ir,Iq,Iu,Iv]
     have r6:=(hb3.block _ (ah s0)).trans s0;have HB6:=LK HB2 hb3;have hP:=cP (u0:=.bool false) (u1:=.slice p6 N6 c6) r6;have HZ:=Ip (hz3.puts hP r6 eA);have hB:=HB6.trans (hP.below w.heap.size (by omega));have q0:=af r6 0;have q1:=af r6 1;have f0:=LL w3 w.heap.size 0 _ _ r6;have f1:=LL w3 w.heap.size 1 _ _ r6;clear hz3 hd6 hb3 s0 HB2;refine ar (i:=7) rfl (by kernel_rfl) rfl (fun K hK=>?_);go_simp;change K _ (gW w3 w.heap.size (.bool false) (.slice p6 N6 c6));refine hK _ _ (fun _ _=>trivial) ?_;clear hK K q0 q1 f0 f1;refine LJ 8 (r:=?_)
     try simp only[Act.put,It,Is,Ir,Iq,Iu,Iv]
     try simp only[Act.put,It,Is,Ir,Iq,Iu,Iv]
     refine aF (by kernel_rfl) ?_ _;simp only[aP];go_wp2_with fail
     (try simp only[Exit.inBlock,Exit.then])
     refine LM (aJ rfl _ _ w.heap.size _ _ (0,0) _ rfl hP.row Tryz.underlying42 rfl (by kernel_rfl)) rfl ?_;refine⟨_,s.extract i s.size,rfl,?_,?_,hB⟩
     ·rw[hend.out];exact HZ.out
     ·unfold Hid;rw[hend.out];simp;exact IE (by rw[IP,hsl.out];omega)
    ·have hcnt:Hid (dV s.data.toList 2001=i):=by
      unfold Hid;have h1:=kP s.data.toList 2001 i hi.out;have hsl1:=hsl.out;refine Ll ?_ hi.out;refine Ly.1 fun h=>?_;obtain⟨h2,h3,h4⟩:=h1.1 h;have h5:s.data.toList[i]=s[i]'(by omega):=rfl;rw[h5] at h4;rw[pZ hc] at h4;cases h4
     have hend:Hid (dM s.data.toList=(aX (s.data.toList.take i),s.data.toList.drop i)):=by unfold Hid dM;rw[hcnt.out]
     have hdg:Hid ((s.extract 0 i).data.toList.all bj=true):=by unfold Hid;rw[ci,<-hcnt.out];exact jb _ _
     have hi2:i<=2001:=IB hi.out (e_ _ _).1;have his2:i<=s.size:=by have:=IB hi.out (e_ s.data.toList 2001).2;rw[hsl.out] at this;exact this
     clear hcnt hi;go_upto_region 4 with fail
     refine wp_mono (ax (Q:=aP _) (fun _=>True) (fun _=>false) (by kernel_rfl) ?_) (fun _ _ _ h=>aY h);have hbd:Below w1.heap.size w1 w1.drew:=(LN _ _).drew;have s0:=(hbd.block _ (ah hr0)).trans hr0;have HB2:=LK HB hbd;clear hbd hr0 HB;generalize w1.drew=w2 at *
     refine LJ 0 (r:=?_)
     refine LJ 1 (r:=?_)
     refine LJ 2 (r:=?_)
     refine LJ 4 (r:=?_)
     refine LJ 5 (r:=?_)
     refine LJ 6 (r:=?_)
     try simp only[Act.put,It,Is,Ir,Iq,Iu,Iv]
     refine ar (i:=3) rfl (by kernel_rfl) rfl (fun K hK=>?_);go_simp;refine (lk _ w2 (by simp;omega) hdg.out).mono ?_;rintro e w3 ⟨v3,rfl,hz3,hb3⟩;rw[ci] at hz3;obtain⟨p6,N6,c6,rfl,hN6,hNc6,hcm6,hd6⟩:=hz3.nat;refine hK _ _ (fun _ _=>trivial) ?_;clear hK K;try simp only[Act.put,It,Is,Ir,Iq,Iu,Iv]
     have r6:=(hb3.block _ (ah s0)).trans s0;have HB6:=LK HB2 hb3;have hP:=cP (u0:=.bool false) (u1:=.slice p6 N6 c6) r6;have HZ:=Ip (hz3.puts hP r6 eA);have hB:=HB6.trans (hP.below w.heap.size (by omega));have q0:=af r6 0;have q1:=af r6 1;have f0:=LL w3 w.heap.size 0 _ _ r6;have f1:=LL w3 w.heap.size 1 _ _ r6;clear hz3 hd6 hb3 s0 HB2;refine ar (i:=7) rfl (by kernel_rfl) rfl (fun K hK=>?_);go_simp;change K _ (gW w3 w.heap.size (.bool false) (.slice p6 N6 c6));refine hK _ _ (fun _ _=>trivial) ?_;clear hK K q0 q1 f0 f1;refine LJ 8 (r:=?_)
     try simp only[Act.put,It,Is,Ir,Iq,Iu,Iv]
     try simp only[Act.put,It,Is,Ir,Iq,Iu,Iv]
     refine aF (by kernel_rfl) ?_ _;simp only[aP];go_wp2_with fail
     (try simp only[Exit.inBlock,Exit.then])
     refine LM (aJ rfl _ _ w.heap.size _ _ (0,0) _ rfl hP.row Tryz.underlying42 rfl (by kernel_rfl)) rfl ?_;refine⟨_,s.extract i s.size,rfl,?_,?_,hB⟩
     ·rw[hend.out];exact HZ.out
     ·unfold Hid;rw[hend.out];simp;exact IE (by rw[IP,hsl.out];omega)
    ·have hdg:=kV (by omega) (by omega) (c:=s[i]);have hnext:Hid (i+1<=dV s.data.toList 2001):=hgo.out ⟨by omega,by have:=hsl.out;omega,hdg⟩;clear hdg hi;go_wp2;go_roundw;case rel=>exact⟨i+1,by go_num,hnext,trivial⟩
     case measure=>simp[intOf];omega
   ·have hcnt:Hid (dV s.data.toList 2001=i):=by
     unfold Hid;have h1:=kP s.data.toList 2001 i hi.out;have hsl1:=hsl.out;refine Ll ?_ hi.out;refine Ly.1 fun h=>?_;obtain⟨h2,h3,h4⟩:=h1.1 h;have h5:s.data.toList[i]=s[i]'(by omega):=rfl;rw[h5] at h4;omega
    have hend:Hid (dM s.data.toList=(aX (s.data.toList.take i),s.data.toList.drop i)):=by unfold Hid dM;rw[hcnt.out]
    have hdg:Hid ((s.extract 0 i).data.toList.all bj=true):=by unfold Hid;rw[ci,<-hcnt.out];exact jb _ _
    have hi2:i<=2001:=IB hi.out (e_ _ _).1;have his2:i<=s.size:=by have:=IB hi.out (e_ s.data.toList 2001).2;rw[hsl.out] at this;exact this
    clear hcnt hi;go_upto_region 4 with fail
    refine wp_mono (ax (Q:=aP _) (fun _=>True) (fun _=>false) (by kernel_rfl) ?_) (fun _ _ _ h=>aY h);have hbd:Below w1.heap.size w1 w1.drew:=(LN _ _).drew;have s0:=(hbd.block _ (ah hr0)).trans hr0;have HB2:=LK HB hbd;clear hbd hr0 HB;generalize w1.drew=w2 at *
    refine LJ 0 (r:=?_)
    refine LJ 1 (r:=?_)
    refine LJ 2 (r:=?_)
    refine LJ 4 (r:=?_)
    refine LJ 5 (r:=?_)
    refine LJ 6 (r:=?_)
    try simp only[Act.put,It,Is,Ir,Iq,Iu,Iv]
    refine ar (i:=3) rfl (by kernel_rfl) rfl (fun K hK=>?_);go_simp;refine (lk _ w2 (by simp;omega) hdg.out).mono ?_;rintro e w3 ⟨v3,rfl,hz3,hb3⟩;rw[ci] at hz3;obtain⟨p6,N6,c6,rfl,hN6,hNc6,hcm6,hd6⟩:=hz3.nat;refine hK _ _ (fun _ _=>trivial) ?_;clear hK K;try simp only[Act.put,It,Is,Ir,Iq,Iu,Iv]
    have r6:=(hb3.block _ (ah s0)).trans s0;have HB6:=LK HB2 hb3;have hP:=cP (u0:=.bool false) (u1:=.slice p6 N6 c6) r6;have HZ:=Ip (hz3.puts hP r6 eA);have hB:=HB6.trans (hP.below w.heap.size (by omega));have q0:=af r6 0;have q1:=af r6 1;have f0:=LL w3 w.heap.size 0 _ _ r6;have f1:=LL w3 w.heap.size 1 _ _ r6;clear hz3 hd6 hb3 s0 HB2;refine ar (i:=7) rfl (by kernel_rfl) rfl (fun K hK=>?_);go_simp;change K _ (gW w3 w.heap.size (.bool false) (.slice p6 N6 c6));refine hK _ _ (fun _ _=>trivial) ?_;clear hK K q0 q1 f0 f1;refine LJ 8 (r:=?_)
    try simp only[Act.put,It,Is,Ir,Iq,Iu,Iv]
    try simp only[Act.put,It,Is,Ir,Iq,Iu,Iv]
    refine aF (by kernel_rfl) ?_ _;simp only[aP];go_wp2_with fail
    (try simp only[Exit.inBlock,Exit.then])
    refine LM (aJ rfl _ _ w.heap.size _ _ (0,0) _ rfl hP.row Tryz.underlying42 rfl (by kernel_rfl)) rfl ?_;refine⟨_,s.extract i s.size,rfl,?_,?_,hB⟩
    ·rw[hend.out];exact HZ.out
    ·unfold Hid;rw[hend.out];simp;exact IE (by rw[IP,hsl.out];omega)
  ·have hcnt:Hid (dV s.data.toList 2001=i):=by
    unfold Hid;have h1:=kP s.data.toList 2001 i hi.out;have hsl1:=hsl.out;refine Ll ?_ hi.out;refine Ly.1 fun h=>?_;obtain⟨h2,h3,h4⟩:=h1.1 h;have h5:s.data.toList[i]=s[i]'(by omega):=rfl;rw[h5] at h4;have:=hsl.out;omega
   have hend:Hid (dM s.data.toList=(aX (s.data.toList.take i),s.data.toList.drop i)):=by unfold Hid dM;rw[hcnt.out]
   have hdg:Hid ((s.extract 0 i).data.toList.all bj=true):=by unfold Hid;rw[ci,<-hcnt.out];exact jb _ _
   have hi2:i<=2001:=IB hi.out (e_ _ _).1;have his2:i<=s.size:=by have:=IB hi.out (e_ s.data.toList 2001).2;rw[hsl.out] at this;exact this
   clear hcnt hi;go_upto_region 4 with fail
   refine wp_mono (ax (Q:=aP _) (fun _=>True) (fun _=>false) (by kernel_rfl) ?_) (fun _ _ _ h=>aY h);have hbd:Below w1.heap.size w1 w1.drew:=(LN _ _).drew;have s0:=(hbd.block _ (ah hr0)).trans hr0;have HB2:=LK HB hbd;clear hbd hr0 HB;generalize w1.drew=w2 at *
   refine LJ 0 (r:=?_)
   refine LJ 1 (r:=?_)
   refine LJ 2 (r:=?_)
   refine LJ 4 (r:=?_)
   refine LJ 5 (r:=?_)
   refine LJ 6 (r:=?_)
   try simp only[Act.put,It,Is,Ir,Iq,Iu,Iv]
   refine ar (i:=3) rfl (by kernel_rfl) rfl (fun K hK=>?_);go_simp;refine (lk _ w2 (by simp;omega) hdg.out).mono ?_;rintro e w3 ⟨v3,rfl,hz3,hb3⟩;rw[ci] at hz3;obtain⟨p6,N6,c6,rfl,hN6,hNc6,hcm6,hd6⟩:=hz3.nat;refine hK _ _ (fun _ _=>trivial) ?_;clear hK K;try simp only[Act.put,It,Is,Ir,Iq,Iu,Iv]
   have r6:=(hb3.block _ (ah s0)).trans s0;have HB6:=LK HB2 hb3;have hP:=cP (u0:=.bool false) (u1:=.slice p6 N6 c6) r6;have HZ:=Ip (hz3.puts hP r6 eA);have hB:=HB6.trans (hP.below w.heap.size (by omega));have q0:=af r6 0;have q1:=af r6 1;have f0:=LL w3 w.heap.size 0 _ _ r6;have f1:=LL w3 w.heap.size 1 _ _ r6;clear hz3 hd6 hb3 s0 HB2;refine ar (i:=7) rfl (by kernel_rfl) rfl (fun K hK=>?_);go_simp;change K _ (gW w3 w.heap.size (.bool false) (.slice p6 N6 c6));refine hK _ _ (fun _ _=>trivial) ?_;clear hK K q0 q1 f0 f1;refine LJ 8 (r:=?_)
   try simp only[Act.put,It,Is,Ir,Iq,Iu,Iv]
   try simp only[Act.put,It,Is,Ir,Iq,Iu,Iv]
   refine aF (by kernel_rfl) ?_ _;simp only[aP];go_wp2_with fail
   (try simp only[Exit.inBlock,Exit.then])
   refine LM (aJ rfl _ _ w.heap.size _ _ (0,0) _ rfl hP.row Tryz.underlying42 rfl (by kernel_rfl)) rfl ?_;refine⟨_,s.extract i s.size,rfl,?_,?_,hB⟩
   ·rw[hend.out];exact HZ.out
   ·unfold Hid;rw[hend.out];simp;exact IE (by rw[IP,hsl.out];omega)
theorem tP {n e m:Nat} (hm:m=501) (he:e<=4*m) (h:n<10 ^ e):bu n:=by
 unfold bu
 have h2:10 ^ e<=RR ^ m:=by
  rw[yD];exact IQ (by omega) he
 have:=aZ aH (Iz h h2);omega
theorem mf (s:List UInt8):bu (dM s).1:=by
 have h1:=gZ _ (jb s 2001);have h2:(s.take (dV s 2001)).length<=2001:=by rw[IY];have:=(e_ s 2001).1;omega
 have h3:aX (s.take (dV s 2001))<_:=h1;exact tP (m:=501) rfl (by omega) h3
theorem Eo (s:List UInt8):(dM s).2.length=s.length-dV s 2001/\dV s 2001<=s.length:=⟨by unfold dM;simp,(e_ s 2001).2⟩
theorem tU {t:ByteArray}{l:List UInt8} (h:t.data.toList=l) (h0:0<t.size):l.head?=some (t[0]'h0):=by
 subst h;rw[List.head?_eq_getElem?,II (by simpa using h0)];rfl
theorem Bz {s:List UInt8} (h:dV s 2001=0):cS s=(⟨false,1,1⟩,s):=by unfold cS;rw[if_pos h]
theorem lQ {s:List UInt8} (h:dV s 2001≠0) (h2:¬ ((dM s).2.head?=some 47/\(dM ((dM s).2.drop 1)).1≠0)):cS s=(⟨false,(dM s).1,1⟩,(dM s).2):=by unfold cS;rw[if_neg h,if_neg h2]
theorem BA {s:List UInt8} (h:dV s 2001≠0) (h2:(dM s).2.head?=some 47/\(dM ((dM s).2.drop 1)).1≠0):cS s=(dP false (dM s).1 (dM ((dM s).2.drop 1)).1,(dM ((dM s).2.drop 1)).2):=by unfold cS;rw[if_neg h,if_pos h2]
set_option maxRecDepth 100000 in
set_option maxHeartbeats 4000000 in
theorem mG (s:ByteArray) (w:World) :
  Calls Tryz.prog 151 #[.string s] w fun e w'=>∃ v t,e=.returned (.tuple #[v,.string t])/\cW w' v (cS s.data.toList).1/\Hid (t.data.toList=(cS s.data.toList).2)/\Below w.heap.size w w':=by
 have hl:=bL w (.cells #[.bool false,.slice none 0 0,.bool false,.slice none 0 0] 44);have hsl:Hid (s.data.toList.length=s.size):=by unfold Hid;simp
 have hrl:=Ip (Eo s.data.toList);go_enter Tryz.func151,Tryz.ntmps151;go_upto_region 1 with fail
 generalize w.alloc (.cells #[.bool false,.slice none 0 0,.bool false,.slice none 0 0] 44)=w1 at *
 go_wp2_with fail
 refine (qz s w1).mono ?_;rintro e w2 ⟨v2,t,rfl,hz2,ht,hb2⟩;obtain⟨p,N,c,rfl,hN,hNc,hcm,hd2⟩:=hz2.nat;have hl2:=bL w2 (.cells #[.bool false,.slice p N c] 42);have hb3:=hb2.trans (hl2.below.mono hb2.size);have HB:=hl.below.trans (hb3.mono hl.below.size);have hr0:=(hb3.block _ (ah hl.s0)).trans hl.s0;have hr4:=hl2.s0;have HN:=Ip (hd2.below hl2.below);have htl:Hid (t.data.toList.length=t.size):=by unfold Hid;simp
 clear hl hl2 hb2 hb3 hz2 hd2;go_upto_region 2 with fail
 generalize w2.alloc (.cells #[.bool false,.slice p N c] 42)=w3 at *
 generalize w2.heap.size=g4 at *
 have hts:Hid (t.size=s.size-dV s.data.toList 2001/\dV s.data.toList 2001<=s.size):=by
  have h1:=hrl.out;rw[<-ht.out,htl.out,hsl.out] at h1;exact h1
 by_cases h0:dV s.data.toList 2001=0
 ·have heq:((t.size:Int) == (s.size:Int))=true:=by have:=hts.out;simp;omega
  have HR:=Ip (Bz h0);clear h0 hr4;go_wp2_with fail
  refine (mL 1 (by omega) w3).mono ?_;rintro e w8 ⟨v8,rfl,hz8,hb8⟩;obtain⟨p8,N8,c8,p9,N9,c9,rfl,hN8,hNc8,hcm8,hN9,hNc9,hcm9,hd8,hd9⟩:=hz8.parts;have u2:=(hb8.block _ (ah hr0)).trans hr0;have HB8:=LK HB hb8;have hP:=aR (u0:=.bool false) (u1:=.slice p8 N8 c8) (u2:=.bool false) (u3:=.slice p9 N9 c9) u2
  have hZ:Hid (cW (dL w8 w.heap.size (.bool false) (.slice p8 N8 c8) (.bool false) (.slice p9 N9 c9)) (.agg #[.bool false,.slice p8 N8 c8,.bool false,.slice p9 N9 c9]) (cS s.data.toList).1):=by
   rw[HR.out];exact hz8.puts hP u2 bf
  have hB:=HB8.trans (hP.below w.heap.size (by omega));have q0:=af u2 0;have q1:=af u2 1;have q2:=af u2 2;have q3:=af u2 3;have f0:=LL w8 w.heap.size 0 _ _ u2;have f1:=LL w8 w.heap.size 1 _ _ u2;have f2:=LL w8 w.heap.size 2 _ _ u2;have f3:=LL w8 w.heap.size 3 _ _ u2;clear HN hz8 hd8 hd9 hr0 hb8;go_wp2_with fail
  (try simp only[Exit.inBlock,Exit.then])
  change bodyPost _ _ _ _ _ (dL w8 w.heap.size (.bool false) (.slice p8 N8 c8) (.bool false) (.slice p9 N9 c9));refine LM (aJ rfl _ _ w.heap.size _ _ (0,0) _ rfl hP.row Tryz.underlying44 rfl (by kernel_rfl)) rfl ?_;exact⟨_,s,rfl,hZ.out,by unfold Hid;rw[HR.out],hB⟩
 ·have heq:((t.size:Int) == (s.size:Int))=false:=by have:=hts.out;simp;omega
  by_cases h1:0<t.size
  ·by_cases h2:t[0]=47
   ·have hb47:((t[0].toNat:Int) == 47)=true:=by rw[h2];rfl
    have hhead:=tU ht.out h1;rw[h2] at hhead;have H2:=Ip h2;clear h2;go_wp2_with fail
    have htx:Hid ((t.extract 1 t.size).data.toList=t.data.toList.drop 1):=by
     unfold Hid;simp;exact IE (Kx (by rw[List.length_tail,htl.out]))
    refine (qz _ w3).mono ?_;rintro e w5 ⟨v5,t5,rfl,hz5,ht5,hb5⟩;rw[htx.out,ht.out] at hz5 ht5;obtain⟨p5,N5,c5,rfl,hN5,hNc5,hcm5,hd5⟩:=hz5.nat;have hl5:=bL w5 (.cells #[.bool false,.slice p5 N5 c5] 42);have hb6:=hb5.trans (hl5.below.mono hb5.size);have hs0:=(hb6.block _ (ah hr0)).trans hr0;have hs4:=(hb6.block _ (ah hr4)).trans hr4;have HB6:=LK HB hb6;have hr6:=hl5.s0;have HN6:=Ip (HN.out.below hb6);have HD6:=Ip (hd5.below hl5.below);clear hl5 hb5 hb6 hz5 hd5 hr0 hr4 HN HB;have hr0:=hs0;have hr4:=hs4;have HN:=HN6;have HB:=HB6;clear hs0 hs4 HN6 HB6;go_upto_region 6 with fail
    generalize w5.alloc (.cells #[.bool false,.slice p5 N5 c5] 42)=w6 at *
    generalize w5.heap.size=g6 at *
    have q1:=af hr6 1;by_cases hN0:N5=0
    ·have hz0:=(fE HD6.out).1 hN0;have HR:=Ip (lQ h0 (fun h=>h.2 hz0));subst hN0;clear hz0 hhead hr6 HD6;go_upto_region 8 with fail
     have hbd:Below w6.heap.size w6 w6.drew:=(LN _ _).drew;have s0:=(hbd.block _ (ah hr0)).trans hr0;have s4:=(hbd.block _ (ah hr4)).trans hr4;have HB2:=LK HB hbd;have HN2:=Ip (HN.out.below hbd);have hS:(fun wx:World=>wx.cell? ⟨g4,0,none⟩=some (.bool false)/\wx.cell? ⟨g4,1,none⟩=some (.slice p N c)) w6.drew:=⟨af s4 0,af s4 1⟩;refine wp_mono (ax (Q:=aP _) (fun wx:World=>wx.cell? ⟨g4,0,none⟩=some (.bool false)/\wx.cell? ⟨g4,1,none⟩=some (.slice p N c)) (fun i=>i == 4) (by kernel_rfl) ?_) (fun _ _ _ h=>aY h);clear hbd hr0 hr4 HB HN;generalize w6.drew=w7 at *
     refine ay (i:=0) (v:=?vvT3) rfl (by kernel_rfl) (fun _ _ _ h=>h) rfl hS ?hyT3 ?restT3
     case hyT3 =>
      intro wy hy;obtain⟨e0,e1⟩:=hy;go_simp;try with_reducible rfl
     refine LJ 3 (r:=?_)
     try simp only[Act.put,It,Is,Ir,Iq,Iu,Iv]
     refine ar (i:=1) rfl (by kernel_rfl) rfl (fun K hK=>?_);go_simp;refine (jT 1 (by omega) w7).mono ?_;rintro e w8 ⟨v8,rfl,hz8,hb8⟩;obtain⟨p8,N8,c8,rfl,hN8,hNc8,hcm8,hd8⟩:=hz8.nat;have hlt4:=ah s4;refine hK _ _ (fun _ hs=>⟨(hb8.cell (p:=⟨_,_,none⟩) hlt4).trans hs.1,(hb8.cell (p:=⟨_,_,none⟩) hlt4).trans hs.2⟩) ?_;clear hK K hS;refine LJ 2 (r:=?_)
     try simp only[Act.put,It,Is,Ir,Iq,Iu,Iv]
     have u2:=(hb8.block _ (ah s0)).trans s0;have HB8:=LK HB2 hb8;have hP:=aR (u0:=.bool false) (u1:=.slice p N c) (u2:=.bool false) (u3:=.slice p8 N8 c8) u2
     have hZ:Hid (cW (dL w8 w.heap.size (.bool false) (.slice p N c) (.bool false) (.slice p8 N8 c8)) (.agg #[.bool false,.slice p N c,.bool false,.slice p8 N8 c8]) (cS s.data.toList).1):=by
      rw[HR.out];exact⟨_,_,rfl,hP.isI u2 bf (HN2.out.below hb8),hP.isI u2 bf hd8⟩
     have hB:=HB8.trans (hP.below w.heap.size (by omega));have q0:=af u2 0;have q1:=af u2 1;have q2:=af u2 2;have q3:=af u2 3;have f0:=LL w8 w.heap.size 0 _ _ u2;have f1:=LL w8 w.heap.size 1 _ _ u2;have f2:=LL w8 w.heap.size 2 _ _ u2;have f3:=LL w8 w.heap.size 3 _ _ u2;clear HN2 hz8 hd8 HB2 s0 s4 hb8;refine ar (i:=4) rfl (by kernel_rfl) rfl (fun K hK=>?_);go_simp;change K _ (dL w8 w.heap.size (.bool false) (.slice p N c) (.bool false) (.slice p8 N8 c8));refine hK _ _ (fun h=>by cases h) ?_;clear hK K q0 q1 q2 q3 f0 f1 f2 f3;refine LJ 5 (r:=?_)
     try simp only[Act.put,It,Is,Ir,Iq,Iu,Iv]
     try simp only[Act.put,It,Is,Ir,Iq,Iu,Iv]
     refine aF (by kernel_rfl) ?_ _;simp only[aP];go_wp2_with fail
     (try simp only[Exit.inBlock,Exit.then])
     refine LM (aJ rfl _ _ w.heap.size _ _ (0,0) _ rfl hP.row Tryz.underlying44 rfl (by kernel_rfl)) rfl ?_;exact⟨_,t,rfl,hZ.out,by unfold Hid;rw[HR.out];exact ht.out,hB⟩
    ·have hz0:(dM ((dM s.data.toList).2.drop 1)).1≠0:=fun h=>hN0 ((fE HD6.out).2 h);have HR:=Ip (BA h0 ⟨hhead,hz0⟩);have hNp:0<N5:=by omega
     have q6:=af hr6 0;have y0:=af hr4 0;have y1:=af hr4 1;have HZ0:=Ip hz0;clear hhead hN0 hz0;go_wp2_with fail
     refine (FH _ _ _ _ w6 (jF HN.out) (jF HD6.out) (JU HZ0.out) (mf _) (mf _)).mono ?_;rintro e w8 ⟨v8,rfl,hz8,hb8⟩;rw[<-show (cS s.data.toList).1=dP false (dM s.data.toList).1 (dM ((dM s.data.toList).2.drop 1)).1 by rw[HR.out]] at hz8;obtain⟨p8,N8,c8,p9,N9,c9,rfl,hN8,hNc8,hcm8,hN9,hNc9,hcm9,hd8,hd9⟩:=hz8.parts;generalize (cS s.data.toList).1.minus=m8 at *
     have u2:=(hb8.block _ (ah hr0)).trans hr0;have HB8:=LK HB hb8;have hP:=aR (u0:=.bool m8) (u1:=.slice p8 N8 c8) (u2:=.bool false) (u3:=.slice p9 N9 c9) u2;have hZ:=Ip (hz8.puts hP u2 bf);have hB:=HB8.trans (hP.below w.heap.size (by omega));have q0:=af u2 0;have q1:=af u2 1;have q2:=af u2 2;have q3:=af u2 3;have f0:=LL w8 w.heap.size 0 _ _ u2;have f1:=LL w8 w.heap.size 1 _ _ u2;have f2:=LL w8 w.heap.size 2 _ _ u2;have f3:=LL w8 w.heap.size 3 _ _ u2;clear HN HD6 hz8 hd8 hd9 hr0 hr4 hr6 hb8 q6 y0 y1;go_wp2_with fail
     (try simp only[Exit.inBlock,Exit.then])
     change bodyPost _ _ _ _ _ (dL w8 w.heap.size (.bool m8) (.slice p8 N8 c8) (.bool false) (.slice p9 N9 c9));refine LM (aJ rfl _ _ w.heap.size _ _ (0,0) _ rfl hP.row Tryz.underlying44 rfl (by kernel_rfl)) rfl ?_;exact⟨_,t5,rfl,hZ.out,by unfold Hid;rw[HR.out];exact ht5.out,hB⟩
   ·have hb47:((t[0].toNat:Int) == 47)=false:=by
     simp only[beq_eq_false_iff_ne,ne_eq];intro e;exact h2 (UInt8.toNat_inj.1 (by have h7:t[0].toNat=47:=(by omega);rw[h7];rfl))
    have HR:=Ip (lQ h0 (fun h=>by have:=tU ht.out h1;rw[this] at h;exact h2 (Option.some.inj h.1)));clear h2;go_upto_region 8 with fail
    have hbd:Below w3.heap.size w3 w3.drew:=(LN _ _).drew;have s0:=(hbd.block _ (ah hr0)).trans hr0;have s4:=(hbd.block _ (ah hr4)).trans hr4;have HB2:=LK HB hbd;have HN2:=Ip (HN.out.below hbd);have hS:(fun wx:World=>wx.cell? ⟨g4,0,none⟩=some (.bool false)/\wx.cell? ⟨g4,1,none⟩=some (.slice p N c)) w3.drew:=⟨af s4 0,af s4 1⟩;refine wp_mono (ax (Q:=aP _) (fun wx:World=>wx.cell? ⟨g4,0,none⟩=some (.bool false)/\wx.cell? ⟨g4,1,none⟩=some (.slice p N c)) (fun i=>i == 4) (by kernel_rfl) ?_) (fun _ _ _ h=>aY h);clear hbd hr0 hr4 HB HN;generalize w3.drew=w7 at *
    refine ay (i:=0) (v:=?vvT1) rfl (by kernel_rfl) (fun _ _ _ h=>h) rfl hS ?hyT1 ?restT1
    case hyT1 =>
     intro wy hy;obtain⟨e0,e1⟩:=hy;go_simp;try with_reducible rfl
    refine LJ 3 (r:=?_)
    try simp only[Act.put,It,Is,Ir,Iq,Iu,Iv]
    refine ar (i:=1) rfl (by kernel_rfl) rfl (fun K hK=>?_);go_simp;refine (jT 1 (by omega) w7).mono ?_;rintro e w8 ⟨v8,rfl,hz8,hb8⟩;obtain⟨p8,N8,c8,rfl,hN8,hNc8,hcm8,hd8⟩:=hz8.nat;have hlt4:=ah s4;refine hK _ _ (fun _ hs=>⟨(hb8.cell (p:=⟨_,_,none⟩) hlt4).trans hs.1,(hb8.cell (p:=⟨_,_,none⟩) hlt4).trans hs.2⟩) ?_;clear hK K hS;refine LJ 2 (r:=?_)
    try simp only[Act.put,It,Is,Ir,Iq,Iu,Iv]
    have u2:=(hb8.block _ (ah s0)).trans s0;have HB8:=LK HB2 hb8;have hP:=aR (u0:=.bool false) (u1:=.slice p N c) (u2:=.bool false) (u3:=.slice p8 N8 c8) u2
    have hZ:Hid (cW (dL w8 w.heap.size (.bool false) (.slice p N c) (.bool false) (.slice p8 N8 c8)) (.agg #[.bool false,.slice p N c,.bool false,.slice p8 N8 c8]) (cS s.data.toList).1):=by
     rw[HR.out];exact⟨_,_,rfl,hP.isI u2 bf (HN2.out.below hb8),hP.isI u2 bf hd8⟩
    have hB:=HB8.trans (hP.below w.heap.size (by omega));have q0:=af u2 0;have q1:=af u2 1;have q2:=af u2 2;have q3:=af u2 3;have f0:=LL w8 w.heap.size 0 _ _ u2;have f1:=LL w8 w.heap.size 1 _ _ u2;have f2:=LL w8 w.heap.size 2 _ _ u2;have f3:=LL w8 w.heap.size 3 _ _ u2;clear HN2 hz8 hd8 HB2 s0 s4 hb8;refine ar (i:=4) rfl (by kernel_rfl) rfl (fun K hK=>?_);go_simp;change K _ (dL w8 w.heap.size (.bool false) (.slice p N c) (.bool false) (.slice p8 N8 c8));refine hK _ _ (fun h=>by cases h) ?_;clear hK K q0 q1 q2 q3 f0 f1 f2 f3;refine LJ 5 (r:=?_)
    try simp only[Act.put,It,Is,Ir,Iq,Iu,Iv]
    try simp only[Act.put,It,Is,Ir,Iq,Iu,Iv]
    refine aF (by kernel_rfl) ?_ _;simp only[aP];go_wp2_with fail
    (try simp only[Exit.inBlock,Exit.then])
    refine LM (aJ rfl _ _ w.heap.size _ _ (0,0) _ rfl hP.row Tryz.underlying44 rfl (by kernel_rfl)) rfl ?_;exact⟨_,t,rfl,hZ.out,by unfold Hid;rw[HR.out];exact ht.out,hB⟩
  ·have HR:=Ip (lQ h0 (fun h=>by
    have h3:(dM s.data.toList).2=[]:=by
     rw[<-ht.out];exact Jc (by have:=htl.out;omega)
    rw[h3] at h;cases h.1))
   go_upto_region 8 with fail
   have hbd:Below w3.heap.size w3 w3.drew:=(LN _ _).drew;have s0:=(hbd.block _ (ah hr0)).trans hr0;have s4:=(hbd.block _ (ah hr4)).trans hr4;have HB2:=LK HB hbd;have HN2:=Ip (HN.out.below hbd);have hS:(fun wx:World=>wx.cell? ⟨g4,0,none⟩=some (.bool false)/\wx.cell? ⟨g4,1,none⟩=some (.slice p N c)) w3.drew:=⟨af s4 0,af s4 1⟩;refine wp_mono (ax (Q:=aP _) (fun wx:World=>wx.cell? ⟨g4,0,none⟩=some (.bool false)/\wx.cell? ⟨g4,1,none⟩=some (.slice p N c)) (fun i=>i == 4) (by kernel_rfl) ?_) (fun _ _ _ h=>aY h);clear hbd hr0 hr4 HB HN;generalize w3.drew=w7 at *
   refine ay (i:=0) (v:=?vvT2) rfl (by kernel_rfl) (fun _ _ _ h=>h) rfl hS ?hyT2 ?restT2
   case hyT2 =>
    intro wy hy;obtain⟨e0,e1⟩:=hy;go_simp;try with_reducible rfl
   refine LJ 3 (r:=?_)
   try simp only[Act.put,It,Is,Ir,Iq,Iu,Iv]
   refine ar (i:=1) rfl (by kernel_rfl) rfl (fun K hK=>?_);go_simp;refine (jT 1 (by omega) w7).mono ?_;rintro e w8 ⟨v8,rfl,hz8,hb8⟩;obtain⟨p8,N8,c8,rfl,hN8,hNc8,hcm8,hd8⟩:=hz8.nat;have hlt4:=ah s4;refine hK _ _ (fun _ hs=>⟨(hb8.cell (p:=⟨_,_,none⟩) hlt4).trans hs.1,(hb8.cell (p:=⟨_,_,none⟩) hlt4).trans hs.2⟩) ?_;clear hK K hS;refine LJ 2 (r:=?_)
   try simp only[Act.put,It,Is,Ir,Iq,Iu,Iv]
   have u2:=(hb8.block _ (ah s0)).trans s0;have HB8:=LK HB2 hb8;have hP:=aR (u0:=.bool false) (u1:=.slice p N c) (u2:=.bool false) (u3:=.slice p8 N8 c8) u2
   have hZ:Hid (cW (dL w8 w.heap.size (.bool false) (.slice p N c) (.bool false) (.slice p8 N8 c8)) (.agg #[.bool false,.slice p N c,.bool false,.slice p8 N8 c8]) (cS s.data.toList).1):=by
    rw[HR.out];exact⟨_,_,rfl,hP.isI u2 bf (HN2.out.below hb8),hP.isI u2 bf hd8⟩
   have hB:=HB8.trans (hP.below w.heap.size (by omega));have q0:=af u2 0;have q1:=af u2 1;have q2:=af u2 2;have q3:=af u2 3;have f0:=LL w8 w.heap.size 0 _ _ u2;have f1:=LL w8 w.heap.size 1 _ _ u2;have f2:=LL w8 w.heap.size 2 _ _ u2;have f3:=LL w8 w.heap.size 3 _ _ u2;clear HN2 hz8 hd8 HB2 s0 s4 hb8;refine ar (i:=4) rfl (by kernel_rfl) rfl (fun K hK=>?_);go_simp;change K _ (dL w8 w.heap.size (.bool false) (.slice p N c) (.bool false) (.slice p8 N8 c8));refine hK _ _ (fun h=>by cases h) ?_;clear hK K q0 q1 q2 q3 f0 f1 f2 f3;refine LJ 5 (r:=?_)
   try simp only[Act.put,It,Is,Ir,Iq,Iu,Iv]
   try simp only[Act.put,It,Is,Ir,Iq,Iu,Iv]
   refine aF (by kernel_rfl) ?_ _;simp only[aP];go_wp2_with fail
   (try simp only[Exit.inBlock,Exit.then])
   refine LM (aJ rfl _ _ w.heap.size _ _ (0,0) _ rfl hP.row Tryz.underlying44 rfl (by kernel_rfl)) rfl ?_;exact⟨_,t,rfl,hZ.out,by unfold Hid;rw[HR.out];exact ht.out,hB⟩
theorem yT {s:List UInt8} (h:s.head?=some 45):cD s=(qM (cS (s.drop 1)).1,(cS (s.drop 1)).2):=by unfold cD;rw[if_pos h]
theorem BU {s:List UInt8} (h:s.head?=some 43):cD s=cS (s.drop 1):=by unfold cD;rw[if_neg (by rw[h];decide),if_pos h]
theorem qV {s:List UInt8} (h:s.head?≠some 45) (h2:s.head?≠some 43):cD s=cS s:=by unfold cD;rw[if_neg h,if_neg h2]
theorem zr {c d:UInt8} (h:c≠d):((c.toNat:Int) == (d.toNat:Int))=false:=by
 simp only[beq_eq_false_iff_ne,ne_eq];intro e;exact h (UInt8.toNat_inj.1 (by omega))
theorem A1 (s:ByteArray):(s.extract 1 s.size).data.toList=s.data.toList.drop 1:=by
 simp;exact IE (Kx (by rw[List.length_tail];simp))
set_option maxRecDepth 100000 in
set_option maxHeartbeats 4000000 in
theorem qW (s:ByteArray) (w:World) :
  Calls Tryz.prog 99 #[.string s] w fun e w'=>∃ v t,e=.returned (.tuple #[v,.string t])/\cW w' v (cD s.data.toList).1/\Hid (t.data.toList=(cD s.data.toList).2)/\Below w.heap.size w w':=by
 have hl:=bL w (.cells #[.bool false,.slice none 0 0,.bool false,.slice none 0 0] 44);have hsl:Hid (s.data.toList.length=s.size):=by unfold Hid;simp
 have hdt:=Ip (A1 s);go_enter Tryz.func99,Tryz.ntmps99;go_upto_region 1 with fail
 generalize w.alloc (.cells #[.bool false,.slice none 0 0,.bool false,.slice none 0 0] 44)=w1 at *
 have hr0:=hl.s0;have HB:=hl.below;clear hl;by_cases h0:0<s.size
 ·have hhead:=tU (l:=s.data.toList) rfl h0;by_cases h1:s[0]=45
  ·have hb45:((s[0].toNat:Int) == 45)=true:=by rw[h1];rfl
   have HR:=Ip (yT (by rw[hhead,h1]));clear h1 hhead;go_wp2_with fail
   refine (mG _ w1).mono ?_;rintro e w2 ⟨v2,t,rfl,hz2,ht,hb2⟩;rw[hdt.out] at hz2 ht;obtain⟨p2,N2,c2,p3,N3,c3,rfl,hN2,hNc2,hcm2,hN3,hNc3,hcm3,hd2,hd3⟩:=hz2.parts;obtain⟨m2,hm2⟩:∃ m,m=(cS (s.data.toList.drop 1)).1.minus:=⟨_,rfl⟩;rw[<-hm2] at hz2 |-;have hl2:=bL w2 (.cells #[.bool m2,.slice p2 N2 c2,.bool false,.slice p3 N3 c3] 44);have hb3:=hb2.trans (hl2.below.mono hb2.size);have hs0:=(hb3.block _ (ah hr0)).trans hr0;have HB3:=LK HB hb3;have HQ:=Ip (hz2.below hl2.below);have y0:=af hl2.s0 0;have y1:=af hl2.s0 1;have y2:=af hl2.s0 2;have y3:=af hl2.s0 3;clear hl2 hb2 hb3 hz2 hd2 hd3 hr0 HB hm2;have hr0:=hs0;have HB:=HB3;clear hs0 HB3;go_upto_region 3 with fail
   generalize w2.alloc (.cells #[.bool m2,.slice p2 N2 c2,.bool false,.slice p3 N3 c3] 44)=w3 at *
   go_wp2_with fail
   refine (wI _ (cS (s.data.toList.drop 1)).1 w3 HQ.out (nm _).sign).mono ?_;rintro e w4 ⟨v4,rfl,hz4,hb4⟩;clear y0 y1 y2 y3 HQ;obtain⟨p8,N8,c8,p9,N9,c9,rfl,hN8,hNc8,hcm8,hN9,hNc9,hcm9,hd8,hd9⟩:=hz4.parts;generalize (qM (cS (s.data.toList.drop 1)).1).minus=m8 at *
   have u2:=(hb4.block _ (ah hr0)).trans hr0;have HB8:=LK HB hb4;have hP:=aR (u0:=.bool m8) (u1:=.slice p8 N8 c8) (u2:=.bool false) (u3:=.slice p9 N9 c9) u2;have hZ:=Ip (hz4.puts hP u2 bf);have hB:=HB8.trans (hP.below w.heap.size (by omega));have q0:=af u2 0;have q1:=af u2 1;have q2:=af u2 2;have q3:=af u2 3;have f0:=LL w4 w.heap.size 0 _ _ u2;have f1:=LL w4 w.heap.size 1 _ _ u2;have f2:=LL w4 w.heap.size 2 _ _ u2;have f3:=LL w4 w.heap.size 3 _ _ u2;clear hz4 hd8 hd9 hr0 hb4 HB;go_wp2_with fail
   (try simp only[Exit.inBlock,Exit.then])
   change bodyPost _ _ _ _ _ (dL w4 w.heap.size (.bool m8) (.slice p8 N8 c8) (.bool false) (.slice p9 N9 c9));refine LM (aJ rfl _ _ w.heap.size _ _ (0,0) _ rfl hP.row Tryz.underlying44 rfl (by kernel_rfl)) rfl ?_;exact⟨_,t,rfl,by rw[HR.out];exact hZ.out,by unfold Hid;rw[HR.out];exact ht.out,hB⟩
  ·have hb45:((s[0].toNat:Int) == 45)=false:=zr h1;by_cases h2:s[0]=43
   ·have hb43:((s[0].toNat:Int) == 43)=true:=by rw[h2];rfl
    have HR:=Ip (BU (by rw[hhead,h2]));clear h1 h2 hhead;go_wp2_with fail
    refine (mG _ w1).mono ?_;rintro e w2 ⟨v2,t,rfl,hz2,ht,hb2⟩;rw[hdt.out] at hz2 ht;obtain⟨p8,N8,c8,p9,N9,c9,rfl,hN8,hNc8,hcm8,hN9,hNc9,hcm9,hd8,hd9⟩:=hz2.parts;generalize (cS (s.data.toList.drop 1)).1.minus=m8 at *
    have u2:=(hb2.block _ (ah hr0)).trans hr0;have HB8:=LK HB hb2;have hP:=aR (u0:=.bool m8) (u1:=.slice p8 N8 c8) (u2:=.bool false) (u3:=.slice p9 N9 c9) u2;have hZ:=Ip (hz2.puts hP u2 bf);have hB:=HB8.trans (hP.below w.heap.size (by omega));have q0:=af u2 0;have q1:=af u2 1;have q2:=af u2 2;have q3:=af u2 3;have f0:=LL w2 w.heap.size 0 _ _ u2;have f1:=LL w2 w.heap.size 1 _ _ u2;have f2:=LL w2 w.heap.size 2 _ _ u2;have f3:=LL w2 w.heap.size 3 _ _ u2;clear hz2 hd8 hd9 hr0 hb2 HB;go_wp2_with fail
    (try simp only[Exit.inBlock,Exit.then])
    change bodyPost _ _ _ _ _ (dL w2 w.heap.size (.bool m8) (.slice p8 N8 c8) (.bool false) (.slice p9 N9 c9));refine LM (aJ rfl _ _ w.heap.size _ _ (0,0) _ rfl hP.row Tryz.underlying44 rfl (by kernel_rfl)) rfl ?_;exact⟨_,t,rfl,by rw[HR.out];exact hZ.out,by unfold Hid;rw[HR.out];exact ht.out,hB⟩
   ·have hb43:((s[0].toNat:Int) == 43)=false:=zr h2;have HR:=Ip (qV (s:=s.data.toList) (by rw[hhead];exact fun e=>h1 (Option.some.inj e)) (by rw[hhead];exact fun e=>h2 (Option.some.inj e)));clear h1 h2 hhead;go_wp2_with fail
    refine (mG _ w1).mono ?_;rintro e w2 ⟨v2,t,rfl,hz2,ht,hb2⟩;obtain⟨p8,N8,c8,p9,N9,c9,rfl,hN8,hNc8,hcm8,hN9,hNc9,hcm9,hd8,hd9⟩:=hz2.parts;generalize (cS s.data.toList).1.minus=m8 at *
    have u2:=(hb2.block _ (ah hr0)).trans hr0;have HB8:=LK HB hb2;have hP:=aR (u0:=.bool m8) (u1:=.slice p8 N8 c8) (u2:=.bool false) (u3:=.slice p9 N9 c9) u2;have hZ:=Ip (hz2.puts hP u2 bf);have hB:=HB8.trans (hP.below w.heap.size (by omega));have q0:=af u2 0;have q1:=af u2 1;have q2:=af u2 2;have q3:=af u2 3;have f0:=LL w2 w.heap.size 0 _ _ u2;have f1:=LL w2 w.heap.size 1 _ _ u2;have f2:=LL w2 w.heap.size 2 _ _ u2;have f3:=LL w2 w.heap.size 3 _ _ u2;clear hz2 hd8 hd9 hr0 hb2 HB;go_wp2_with fail
    (try simp only[Exit.inBlock,Exit.then])
    change bodyPost _ _ _ _ _ (dL w2 w.heap.size (.bool m8) (.slice p8 N8 c8) (.bool false) (.slice p9 N9 c9));refine LM (aJ rfl _ _ w.heap.size _ _ (0,0) _ rfl hP.row Tryz.underlying44 rfl (by kernel_rfl)) rfl ?_;exact⟨_,t,rfl,by rw[HR.out];exact hZ.out,by unfold Hid;rw[HR.out];exact ht.out,hB⟩
 ·have hnil:s.data.toList=[]:=Jc (by have:=hsl.out;omega);have HR:=Ip (qV (s:=s.data.toList) (by rw[hnil];exact fun e=>by cases e) (by rw[hnil];exact fun e=>by cases e));clear hnil;go_wp2_with fail
  refine (mG _ w1).mono ?_;rintro e w2 ⟨v2,t,rfl,hz2,ht,hb2⟩;obtain⟨p8,N8,c8,p9,N9,c9,rfl,hN8,hNc8,hcm8,hN9,hNc9,hcm9,hd8,hd9⟩:=hz2.parts;generalize (cS s.data.toList).1.minus=m8 at *
  have u2:=(hb2.block _ (ah hr0)).trans hr0;have HB8:=LK HB hb2;have hP:=aR (u0:=.bool m8) (u1:=.slice p8 N8 c8) (u2:=.bool false) (u3:=.slice p9 N9 c9) u2;have hZ:=Ip (hz2.puts hP u2 bf);have hB:=HB8.trans (hP.below w.heap.size (by omega));have q0:=af u2 0;have q1:=af u2 1;have q2:=af u2 2;have q3:=af u2 3;have f0:=LL w2 w.heap.size 0 _ _ u2;have f1:=LL w2 w.heap.size 1 _ _ u2;have f2:=LL w2 w.heap.size 2 _ _ u2;have f3:=LL w2 w.heap.size 3 _ _ u2;clear hz2 hd8 hd9 hr0 hb2 HB;go_wp2_with fail
  (try simp only[Exit.inBlock,Exit.then])
  change bodyPost _ _ _ _ _ (dL w2 w.heap.size (.bool m8) (.slice p8 N8 c8) (.bool false) (.slice p9 N9 c9));refine LM (aJ rfl _ _ w.heap.size _ _ (0,0) _ rfl hP.row Tryz.underlying44 rfl (by kernel_rfl)) rfl ?_;exact⟨_,t,rfl,by rw[HR.out];exact hZ.out,by unfold Hid;rw[HR.out];exact ht.out,hB⟩
end Go.Proofs.YtlhpcoelfhjomaaGreatDoor
