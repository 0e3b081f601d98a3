/- L -/
import Derived.Test.YtmakbmhlemhgeaaGreatDoorWNatText
import Derived.Test.YtmakbmhlemhgeaaGreatDoorWRQ3
import Derived.Test.YtmakbmhlemhgeaaGreatDoorWB
set_option linter.all false
set_option maxRecDepth 100000
set_option maxHeartbeats 8000000
namespace Go.Proofs.YtmakbmhlemhgeaaGreatDoor
open Go.RowKit Dg Dc
theorem IsC.dig {w:World}{m m':Bool}{p0 p1 p2 p3:Option Addr}{n0 c0 n1 c1 n2 c2 n3 c3:Nat}{z:Vl} (h:IsC w (.agg #[.bool m,.slice p0 n0 c0,.bool false,.slice p1 n1 c1,.bool m',.slice p2 n2 c2,.bool false,.slice p3 n3 c3]) z) :
  IsD w (.slice p0 n0 c0) z.x.n/\IsD w (.slice p1 n1 c1) z.x.d/\IsD w (.slice p2 n2 c2) z.y.n/\IsD w (.slice p3 n3 c3) z.y.d:=by
 obtain⟨a,b,c,d,e,h1,h2,h3,h4⟩:=h;simp at e;obtain⟨_,rfl,rfl,_,rfl,rfl⟩:=e;exact⟨h1,h2,h3,h4⟩
theorem nh (v:Value) (z:Vl) (w:World) (hv:IsC w v z) (hfx:bC z.x.n) (hfx':bC z.x.d) (hfy:bC z.y.n) (hfy':bC z.y.d) :
  Calls Tryz.prog 105 #[v] w fun e w'=>e=.returned (.bool (b8 z.x||b8 z.y))/\Below w.heap.size w w':=by
 obtain⟨p0,n0,c0,p1,n1,c1,p2,n2,c2,p3,n3,c3,rfl,_,_⟩:=hv.parts;obtain⟨HD0,HD1,HD2,HD3⟩:=hv.dig;obtain⟨x,y⟩:=z;simp only at *
 obtain⟨mx,hmx⟩:∃ mx,mx=x.minus:=⟨_,rfl⟩;obtain⟨my,hmy⟩:∃ my,my=y.minus:=⟨_,rfl⟩;rw[<-hmx,<-hmy];have hl:=bA w (.cells #[.bool mx,.slice p0 n0 c0,.bool false,.slice p1 n1 c1,.bool my,.slice p2 n2 c2,.bool false,.slice p3 n3 c3] 92);replace HD0:=HD0.below hl.below;replace HD1:=HD1.below hl.below;replace HD2:=HD2.below hl.below;replace HD3:=HD3.below hl.below;have r0:=hl.s0;have HB:=hl.below;clear hv hl hmx hmy;obtain⟨b0,hb0⟩:∃ b,b=decide (2000<(dec x.n).length):=⟨_,rfl⟩;obtain⟨b1,hb1⟩:∃ b,b=decide (2000<(dec x.d).length):=⟨_,rfl⟩;obtain⟨b2,hb2⟩:∃ b,b=decide (2000<(dec y.n).length):=⟨_,rfl⟩;obtain⟨b3,hb3⟩:∃ b,b=decide (2000<(dec y.d).length):=⟨_,rfl⟩;have HR:Hid ((b8 x||b8 y)=((b0||b1)||(b2||b3))):=by unfold Hid b8;rw[hb0,hb1,hb2,hb3]
 have B0:=GF hb0;have B1:=GF hb1;have B2:=GF hb2;have B3:=GF hb3;clear hb0 hb1 hb2 hb3;have q0:=ai r0 0;have q1:=ai r0 1;have q2:=ai r0 2;have q3:=ai r0 3;have q4:=ai r0 4;have q5:=ai r0 5;have q6:=ai r0 6;have q7:=ai r0 7;go_enter Tryz.func105,Tryz.ntmps105;go_upto_region 1 with fail
 generalize w.alloc (.cells #[.bool mx,.slice p0 n0 c0,.bool false,.slice p1 n1 c1,.bool my,.slice p2 n2 c2,.bool false,.slice p3 n3 c3] 92)=w1 at *
 go_wp2_with fail
 refine (lF _ p0 n0 c0 x.n w1 HD0 hfx).mono ?_;rintro e w2 ⟨rfl,hbb⟩;have r1:=(hbb.block _ (ak r0)).trans r0;have HB1:=HB.trans (hbb.mono HB.size);replace HD0:=HD0.below hbb;replace HD1:=HD1.below hbb;replace HD2:=HD2.below hbb;replace HD3:=HD3.below hbb;clear r0 HB hbb q0 q1 q2 q3 q4 q5 q6 q7;have r0:=r1;have HB:=HB1;clear r1 HB1;have q0:=ai r0 0;have q1:=ai r0 1;have q2:=ai r0 2;have q3:=ai r0 3;have q4:=ai r0 4;have q5:=ai r0 5;have q6:=ai r0 6;have q7:=ai r0 7;rw[<-B0.out]
 cases b0
 ·go_wp2_with fail
  refine (lF _ p1 n1 c1 x.d w2 HD1 hfx').mono ?_;rintro e w3 ⟨rfl,hbb⟩;have r1:=(hbb.block _ (ak r0)).trans r0;have HB1:=HB.trans (hbb.mono HB.size);replace HD0:=HD0.below hbb;replace HD1:=HD1.below hbb;replace HD2:=HD2.below hbb;replace HD3:=HD3.below hbb;clear r0 HB hbb q0 q1 q2 q3 q4 q5 q6 q7;have r0:=r1;have HB:=HB1;clear r1 HB1;have q0:=ai r0 0;have q1:=ai r0 1;have q2:=ai r0 2;have q3:=ai r0 3;have q4:=ai r0 4;have q5:=ai r0 5;have q6:=ai r0 6;have q7:=ai r0 7;rw[<-B1.out]
  cases b1
  ·go_wp2_with fail
   refine (lF _ p2 n2 c2 y.n w3 HD2 hfy).mono ?_;rintro e w4 ⟨rfl,hbb⟩;have r1:=(hbb.block _ (ak r0)).trans r0;have HB1:=HB.trans (hbb.mono HB.size);replace HD0:=HD0.below hbb;replace HD1:=HD1.below hbb;replace HD2:=HD2.below hbb;replace HD3:=HD3.below hbb;clear r0 HB hbb q0 q1 q2 q3 q4 q5 q6 q7;have r0:=r1;have HB:=HB1;clear r1 HB1;have q0:=ai r0 0;have q1:=ai r0 1;have q2:=ai r0 2;have q3:=ai r0 3;have q4:=ai r0 4;have q5:=ai r0 5;have q6:=ai r0 6;have q7:=ai r0 7;rw[<-B2.out]
   cases b2
   ·go_wp2_with fail
    refine (lF _ p3 n3 c3 y.d w4 HD3 hfy').mono ?_;rintro e w5 ⟨rfl,hbb⟩;have r1:=(hbb.block _ (ak r0)).trans r0;have HB1:=HB.trans (hbb.mono HB.size);replace HD0:=HD0.below hbb;replace HD1:=HD1.below hbb;replace HD2:=HD2.below hbb;replace HD3:=HD3.below hbb;clear r0 HB hbb q0 q1 q2 q3 q4 q5 q6 q7;have r0:=r1;have HB:=HB1;clear r1 HB1;have q0:=ai r0 0;have q1:=ai r0 1;have q2:=ai r0 2;have q3:=ai r0 3;have q4:=ai r0 4;have q5:=ai r0 5;have q6:=ai r0 6;have q7:=ai r0 7;rw[<-B3.out];clear q0 q1 q2 q3 q4 q5 q6 q7;go_wp2_with fail
    go_ret;refine⟨?_,HB⟩;rw[HR.out];rfl
   ·clear q0 q1 q2 q3 q4 q5 q6 q7;go_wp2_with fail
    go_ret;refine⟨?_,HB⟩;rw[HR.out];rfl
  ·clear q0 q1 q2 q3 q4 q5 q6 q7;go_wp2_with fail
   go_ret;refine⟨?_,HB⟩;rw[HR.out];rfl
 ·clear q0 q1 q2 q3 q4 q5 q6 q7;go_wp2_with fail
  go_ret;refine⟨?_,HB⟩;rw[HR.out];rfl
theorem yU (v:Value) (z:Vl) (w:World) (hv:IsC w v z) :
  Calls Tryz.prog 190 #[v] w fun e w'=>e=.returned (.bool (decide (z.y.n=0)))/\Below w.heap.size w w':=by
 obtain⟨p0,n0,c0,p1,n1,c1,p2,n2,c2,p3,n3,c3,rfl,_,hy⟩:=hv.parts;generalize z.x.minus=mx at *
 obtain⟨my,hmy⟩:∃ my,my=z.y.minus:=⟨_,rfl⟩;rw[<-hmy] at hy |-;have hl:=bA w (.cells #[.bool mx,.slice p0 n0 c0,.bool false,.slice p1 n1 c1,.bool my,.slice p2 n2 c2,.bool false,.slice p3 n3 c3] 92);have HY:=GF (hy.below hl.below);have q4:=ai hl.s0 4;have q5:=ai hl.s0 5;have q6:=ai hl.s0 6;have q7:=ai hl.s0 7;have HB:=hl.below;clear hl hv hy hmy;go_enter Tryz.func190,Tryz.ntmps190;go_upto_region 1 with fail
 generalize w.alloc (.cells #[.bool mx,.slice p0 n0 c0,.bool false,.slice p1 n1 c1,.bool my,.slice p2 n2 c2,.bool false,.slice p3 n3 c3] 92)=w1 at *
 go_wp2_with fail
 refine (iW _ z.y w1 HY.out).mono ?_;rintro e w2 ⟨rfl,hb2⟩;have HEND:=HB.trans (hb2.mono HB.size);go_wp2_with fail
 go_ret;exact⟨by rfl,HEND⟩
theorem Fi {s:ByteArray} (h:s.data.toList.all bo=true) {i:Nat} (hi:i<s.size):48<=s[i].toNat/\s[i].toNat<=57:=by
 have hl:i<s.data.toList.length:=by simpa using hi
 have:=Hl.1 h (s.data.toList[i]) (G7 hl);have hb:s.data.toList[i]=s[i]:=rfl;rw[hb] at this;unfold bo at this;simp at this;exact this
theorem A2 {l:List UInt8} (h:l.all bo=true) (k:Nat):(l.take k).all bo=true:=by
 rw[Hl] at *
 exact fun c hc=>h c (IP hc)
theorem A1 {l:List UInt8} (h:l.all bo=true) (k:Nat):(l.drop k).all bo=true:=by
 rw[Hl] at *
 exact fun c hc=>h c (Ia hc)
theorem F8 {s:List UInt8}{lo:List Nat}{k:Nat} (h:qu9 s (s.take k) lo) (hk:k<=s.length) (h0:0<k) (hd:s.all bo=true):qu9 s (s.take (k-4)) (lo++[a8 ((s.take k).drop (k-4))]):=by
 have hl:(s.take k).length=k:=by rw[Hd];omega
 have:=F7 (k:=k-4) h (by rw[hl]) (by intro e;rw[e] at hl;simp at hl;omega) (A1 (A2 hd k) _);rw[JY,Hw (by omega)] at this;exact this
theorem kI (s:ByteArray) (w:World) (hs:s.size<100000) (hd:s.data.toList.all bo=true) :
  Calls Tryz.prog 235 #[.string s] w fun e w'=>∃ v,e=.returned v/\IsZ w' v (a8 s.data.toList:Nat)/\Below w.heap.size w w':=by
 have hl:=bA w (.cells #[.bool false,.slice none 0 0] 85);have HALL:=GF hd;have hsl:Hid (s.data.toList.length=s.size):=by unfold Hid;simp
 clear hd;go_enter Tryz.func235,Tryz.ntmps235;go_upto_region 1 with fail
 generalize w.alloc (.cells #[.bool false,.slice none 0 0] 85)=w1 at *
 go_wp2_with fail
 go_loopw [3,4] (fun s3 s4 wr=>∃ (z:Int) (lo:List Nat),s4=.int .i64 z/\-4<=z/\z<=s.size/\Hid (qu9 s.data.toList (s.data.toList.take z.toNat) lo)/\Hid (ew wr w1.heap.size s3 lo)/\Below w1.heap.size w1 wr) (fun _ s4 _=>(intOf s4+4).toNat)
 case atStart=>exact⟨s.size,[],rfl,by omega,by omega,by unfold Hid;rw[IE,<-hsl.out,He];exact EG _,World.ownsRow_nil _ _ _ _,Ki _ _⟩
 case round =>
  obtain⟨z,lo,rfl,hz1,hz2,hst,hown,hbw⟩:=hrel;have hsz:=hbw.size;by_cases hz0:0<z
  ·obtain⟨k,rfl⟩:∃ k:Nat,z=(k:Int):=⟨z.toNat,by omega⟩;have hks:k<=s.size:=by omega
   have hgt:decide ((0:Int)<(k:Int))=true:=by simp;omega
   have hmax:max (0:Int) ((k:Int)-4)=((k-4:Nat):Int):=by omega
   rw[IE] at hst;have hfew:=hst.out.few;rw[hsl.out] at hfew;have hnext:=GF (F8 hst.out (by rw[hsl.out];exact hks) (by omega) HALL.out);have hkl:Hid ((s.data.toList.take k).length=k):=by unfold Hid;rw[Hd,hsl.out];omega
   have HZ0:=GF hz0;have hk0:0<k:=by omega
   clear hz1 hz2 hst hz0;go_wp2_with fail
   go_loopw [5,6] (fun s5 s6 wq=>∃ n i:Nat,s5=.int .i64 n/\s6=.int .i64 i/\k-4<=i/\i<=k/\Hid (NIn (s.data.toList.take k) (k-4) i n)/\wr=wq) (fun _ s6 _=>k-(intOf s6).toNat)
   case atStart=>exact⟨0,k-4,rfl,rfl,GM _,by omega,l9 _ _,rfl⟩
   case round =>
    obtain⟨n,i,rfl,rfl,hi1,hi2,hin,rfl⟩:=hrel;have hn4:=BT hin.out (by rw[hkl.out]) (by rw[hkl.out];exact hi2);by_cases hi:i<k
    ·have his:i<s.size:=by omega
     have hdg:=Fi HALL.out his;have hil:i<(s.data.toList.take k).length:=by rw[hkl.out];exact hi
     have hbyte:Hid ((s.data.toList.take k)[i]=s[i]):=by unfold Hid;rw[Jz];rfl
     have hst2:=oH hin.out hi1 hil (by rw[hbyte.out];exact ky (by omega) (by omega));rw[hbyte.out] at hst2;have HST2:=GF hst2;have h48:(48:Int)<=(s[i].toNat:Int):=by omega
     clear hst2;go_wp2;go_roundw;case rel=>exact⟨10*n+(s[i].toNat-48),i+1,by go_num,by go_num,by omega,by omega,HST2,trivial⟩
     case measure=>simp[intOf];omega
    ·obtain rfl:i=k:=by omega
     have hend:Hid (n=a8 ((s.data.toList.take i).drop (i-4))):=(rR (k:=i-4) (n:=n) (by rw[hkl.out];exact hin.out)).2;rw[<-hend.out] at hnext;clear hin hi hi1 hi2;go_wp2_with (at_builtin;refine bG 22 Tryz.underlying22 rfl (.tmp 29) (.tmp 31) rfl w1.heap.size _ lo _ n rfl rfl hown.out rfl (by omega) hsz ?_)
     intro v' w2 hown' hb';have hb2:=hb' _ _ hbw (GM _);have HO:=GF hown';clear hown hbw hb' hown';go_wp2;go_roundw;case rel=>exact⟨(i:Int)-4,lo++[n],by go_num,by omega,by omega,by unfold Hid;rw[show ((i:Int)-4).toNat=i-4 by omega];exact hnext.out,HO,hb2⟩
     case measure=>simp[intOf];have:=HZ0.out;omega
  ·have hle:decide ((0:Int)<z)=false:=by simp;omega
   have hz00:z.toNat=0:=by omega
   rw[hz00,GS] at hst
   have hval:Hid (val RR lo=a8 s.data.toList):=by
    have h1:=GE hst.out;have h2:=cU aQ hst.out.dig;rw[h1] at h2;have:=congrArg (val RR) h2;rw[aF aQ,aF aQ] at this;exact this.symm
   have hdig:=GF hst.out.dig;have hoi:=GF (ew.isU hown.out);have s0:=(hbw.block _ (ak hl.s0)).trans hl.s0;have HB:=hl.below.trans (hbw.mono hl.below.size);clear hst hown hbw hl hz00 hz0;go_wp2_with fail
   refine (dO _ _ _ wr hoi.out hdig.out).mono ?_;rintro e w6 ⟨v6,rfl,hz6,hb6⟩;rw[hval.out,show sgn false (a8 s.data.toList)=((a8 s.data.toList:Nat):Int) from rfl] at hz6;obtain⟨p6,N6,c6,rfl,hN6,hNc6,hcm6,hd6⟩:=hz6.nat;have r6:=(hb6.block _ (ak s0)).trans s0;have HB6:=HB.trans (hb6.mono HB.size);have hP:=cL (u0:=.bool false) (u1:=.slice p6 N6 c6) r6;have HZ:=GF (hz6.puts hP r6 dZ);have hB:=HB6.trans (hP.below w.heap.size (by omega));have q0:=ai r6 0;have q1:=ai r6 1;have f0:=Kg w6 w.heap.size 0 _ _ r6;have f1:=Kg w6 w.heap.size 1 _ _ r6;clear hz6 hd6 hb6 HB s0;go_wp2_with fail
   (try simp only[Exit.inBlock,Exit.then])
   change bodyPost _ _ _ _ _ (gD w6 w.heap.size (.bool false) (.slice p6 N6 c6));refine Kh (results_cell_row rfl _ _ w.heap.size _ _ (0,0) _ rfl hP.row Tryz.underlying85 rfl (by kernel_rfl)) rfl ?_;exact⟨_,rfl,HZ.out,hB⟩
theorem aS {P:Program}{fn:Func}{p u:Tmp}{ty:TypeId} (h:fn.results=#[.cell p ty,.tmp u]) (tmps:Array Value) (w:World) (g:Nat) (t:TypeId) (cs:Array Value) (fr:Nat×Nat) (d:TypeDesc)
  (hp:tmps.getD p undef=.pointer (some ⟨g,0,none⟩)) (hg:w.heap[g]?=some (.cells cs t fr))
  (hu:P.underlying ty=some d) (hd:(match d with | .struct _ | .array _ _=>true | _=>false)=true) (hi:(P.info? ty).map (·.size)=some cs.size) :
  (results fn tmps).run P w=.ok (.tuple #[.agg cs,tmps.getD u undef]) w:=by
 have hp':tmps[p]?.getD undef=.pointer (some ⟨g,0,none⟩):=by simpa using hp
 simp[results,h,hp',asAddr,run_loadVar_row w g t ty cs fr d hg hu hd hi]
theorem oJ (s:ByteArray) (w:World) :
  Calls Tryz.prog 203 #[.string s] w fun e w'=>∃ v t,e=.returned (.tuple #[v,.string t])/\IsZ w' v ((dC s.data.toList).1:Nat)/\Hid (t.data.toList=(dC s.data.toList).2)/\Below w.heap.size w w':=by
 have hl:=bA w (.cells #[.bool false,.slice none 0 0] 85);have hsl:Hid (s.data.toList.length=s.size):=by unfold Hid;simp
 go_enter Tryz.func203,Tryz.ntmps203;go_upto_region 1 with fail
 generalize w.alloc (.cells #[.bool false,.slice none 0 0] 85)=w1 at *
 go_wp2_with fail
 have hr0:=hl.s0;have HB:=hl.below;clear hl;go_loopw [4] (fun s4 wr=>∃ i:Nat,s4=.int .i64 i/\Hid (i<=dM s.data.toList 2001)/\w1=wr) (fun s4 _=>2001-(intOf s4).toNat)
 case atStart=>exact⟨0,rfl,GY _,rfl⟩
 case round =>
  obtain⟨i,rfl,hi,rfl⟩:=hrel;have hgo:=GF (ku s.data.toList 2001 i hi.out).2;have hi0:i<=2001:=GV hi.out (eJ _ _).1;by_cases his:i<s.size
  ·by_cases hi1:i<=2000
   ·rcases (by omega:(s[i].toNat:Int)<48\/(57:Int)<(s[i].toNat:Int)\/(48<=(s[i].toNat:Int)/\(s[i].toNat:Int)<=57)) with hc | hc | ⟨hc,hc2⟩
    ·have hcnt:Hid (dM s.data.toList 2001=i):=by
      unfold Hid;have h1:=ku s.data.toList 2001 i hi.out;have hsl1:=hsl.out;refine JR ?_ hi.out;refine J8.1 fun h=>?_;obtain⟨h2,h3,h4⟩:=h1.1 h;have h5:s.data.toList[i]=s[i]'(by omega):=rfl;rw[h5] at h4;rw[n_ hc] at h4;cases h4
     have hend:Hid (dC s.data.toList=(a8 (s.data.toList.take i),s.data.toList.drop i)):=by unfold Hid dC;rw[hcnt.out]
     have hdg:Hid ((s.extract 0 i).data.toList.all bo=true):=by unfold Hid;rw[cf,<-hcnt.out];exact iE _ _
     have hi2:i<=2001:=GV hi.out (eJ _ _).1;have his2:i<=s.size:=by have:=GV hi.out (eJ s.data.toList 2001).2;rw[hsl.out] at this;exact this
     clear hcnt hi;go_upto_region 4 with fail
     refine wp_mono (aD (Q:=aX _) (fun _=>True) (fun _=>false) (by kernel_rfl) ?_) (fun _ _ _ h=>bf h);have hbd:Below w1.heap.size w1 w1.drew:=(Ki _ _).drew;have s0:=(hbd.block _ (ak hr0)).trans hr0;have HB2:=HB.trans (hbd.mono HB.size);clear hbd hr0 HB;generalize w1.drew=w2 at *
     refine Kf 0 (r:=?_)
     try simp only[Act.put,GJ,GI,GH,GG,GL,GK]
     refine Kf 1 (r:=?_)
     try simp only[Act.put,GJ,GI,GH,GG,GL,GK]
     refine Kf 2 (r:=?_)
     try simp only[Act.put,GJ,GI,GH,GG,GL,GK]
     refine Kf 4 (r:=?_)
     try simp only[Act.put,GJ,GI,GH,GG,GL,GK]
     refine Kf 5 (r:=?_)
     try simp only[Act.put,GJ,GI,GH,GG,GL,GK]
     refine Kf 6 (r:=?_)
     try simp only[Act.put,GJ,GI,GH,GG,GL,GK]
     refine aA (i:=3) rfl (by kernel_rfl) rfl (fun K hK=>?_);go_simp;refine (kI _ w2 (by simp;omega) hdg.out).mono ?_;rintro e w3 ⟨v3,rfl,hz3,hb3⟩;rw[cf] at hz3;obtain⟨p6,N6,c6,rfl,hN6,hNc6,hcm6,hd6⟩:=hz3.nat;refine hK _ _ (fun _ _=>trivial) ?_;clear hK K;try simp only[Act.put,GJ,GI,GH,GG,GL,GK]
     have r6:=(hb3.block _ (ak s0)).trans s0;have HB6:=HB2.trans (hb3.mono HB2.size);have hP:=cL (u0:=.bool false) (u1:=.slice p6 N6 c6) r6;have HZ:=GF (hz3.puts hP r6 dZ);have hB:=HB6.trans (hP.below w.heap.size (by omega));have q0:=ai r6 0;have q1:=ai r6 1;have f0:=Kg w3 w.heap.size 0 _ _ r6;have f1:=Kg w3 w.heap.size 1 _ _ r6;clear hz3 hd6 hb3 s0 HB2;refine aA (i:=7) rfl (by kernel_rfl) rfl (fun K hK=>?_);go_simp;change K _ (gD w3 w.heap.size (.bool false) (.slice p6 N6 c6));refine hK _ _ (fun _ _=>trivial) ?_;clear hK K q0 q1 f0 f1;try simp only[Act.put,GJ,GI,GH,GG,GL,GK]
     refine Kf 8 (r:=?_)
     try simp only[Act.put,GJ,GI,GH,GG,GL,GK]
     try simp only[Act.put,GJ,GI,GH,GG,GL,GK]
     refine aK (by kernel_rfl) ?_ _;simp only[aX];go_wp2_with fail
     (try simp only[Exit.inBlock,Exit.then])
     refine Kh (aS rfl _ _ w.heap.size _ _ (0,0) _ rfl hP.row Tryz.underlying85 rfl (by kernel_rfl)) rfl ?_;refine⟨_,s.extract i s.size,rfl,?_,?_,hB⟩
     ·rw[hend.out];exact HZ.out
     ·unfold Hid;rw[hend.out];simp;exact GU (by rw[G2,hsl.out];omega)
    ·have hcnt:Hid (dM s.data.toList 2001=i):=by
      unfold Hid;have h1:=ku s.data.toList 2001 i hi.out;have hsl1:=hsl.out;refine JR ?_ hi.out;refine J8.1 fun h=>?_;obtain⟨h2,h3,h4⟩:=h1.1 h;have h5:s.data.toList[i]=s[i]'(by omega):=rfl;rw[h5] at h4;rw[n9 hc] at h4;cases h4
     have hend:Hid (dC s.data.toList=(a8 (s.data.toList.take i),s.data.toList.drop i)):=by unfold Hid dC;rw[hcnt.out]
     have hdg:Hid ((s.extract 0 i).data.toList.all bo=true):=by unfold Hid;rw[cf,<-hcnt.out];exact iE _ _
     have hi2:i<=2001:=GV hi.out (eJ _ _).1;have his2:i<=s.size:=by have:=GV hi.out (eJ s.data.toList 2001).2;rw[hsl.out] at this;exact this
     clear hcnt hi;go_upto_region 4 with fail
     refine wp_mono (aD (Q:=aX _) (fun _=>True) (fun _=>false) (by kernel_rfl) ?_) (fun _ _ _ h=>bf h);have hbd:Below w1.heap.size w1 w1.drew:=(Ki _ _).drew;have s0:=(hbd.block _ (ak hr0)).trans hr0;have HB2:=HB.trans (hbd.mono HB.size);clear hbd hr0 HB;generalize w1.drew=w2 at *
     refine Kf 0 (r:=?_)
     try simp only[Act.put,GJ,GI,GH,GG,GL,GK]
     refine Kf 1 (r:=?_)
     try simp only[Act.put,GJ,GI,GH,GG,GL,GK]
     refine Kf 2 (r:=?_)
     try simp only[Act.put,GJ,GI,GH,GG,GL,GK]
     refine Kf 4 (r:=?_)
     try simp only[Act.put,GJ,GI,GH,GG,GL,GK]
     refine Kf 5 (r:=?_)
     try simp only[Act.put,GJ,GI,GH,GG,GL,GK]
     refine Kf 6 (r:=?_)
     try simp only[Act.put,GJ,GI,GH,GG,GL,GK]
     refine aA (i:=3) rfl (by kernel_rfl) rfl (fun K hK=>?_);go_simp;refine (kI _ w2 (by simp;omega) hdg.out).mono ?_;rintro e w3 ⟨v3,rfl,hz3,hb3⟩;rw[cf] at hz3;obtain⟨p6,N6,c6,rfl,hN6,hNc6,hcm6,hd6⟩:=hz3.nat;refine hK _ _ (fun _ _=>trivial) ?_;clear hK K;try simp only[Act.put,GJ,GI,GH,GG,GL,GK]
     have r6:=(hb3.block _ (ak s0)).trans s0;have HB6:=HB2.trans (hb3.mono HB2.size);have hP:=cL (u0:=.bool false) (u1:=.slice p6 N6 c6) r6;have HZ:=GF (hz3.puts hP r6 dZ);have hB:=HB6.trans (hP.below w.heap.size (by omega));have q0:=ai r6 0;have q1:=ai r6 1;have f0:=Kg w3 w.heap.size 0 _ _ r6;have f1:=Kg w3 w.heap.size 1 _ _ r6;clear hz3 hd6 hb3 s0 HB2;refine aA (i:=7) rfl (by kernel_rfl) rfl (fun K hK=>?_);go_simp;change K _ (gD w3 w.heap.size (.bool false) (.slice p6 N6 c6));refine hK _ _ (fun _ _=>trivial) ?_;clear hK K q0 q1 f0 f1;try simp only[Act.put,GJ,GI,GH,GG,GL,GK]
     refine Kf 8 (r:=?_)
     try simp only[Act.put,GJ,GI,GH,GG,GL,GK]
     try simp only[Act.put,GJ,GI,GH,GG,GL,GK]
     refine aK (by kernel_rfl) ?_ _;simp only[aX];go_wp2_with fail
     (try simp only[Exit.inBlock,Exit.then])
     refine Kh (aS rfl _ _ w.heap.size _ _ (0,0) _ rfl hP.row Tryz.underlying85 rfl (by kernel_rfl)) rfl ?_;refine⟨_,s.extract i s.size,rfl,?_,?_,hB⟩
     ·rw[hend.out];exact HZ.out
     ·unfold Hid;rw[hend.out];simp;exact GU (by rw[G2,hsl.out];omega)
    ·have hdg:=ky (by omega) (by omega) (c:=s[i]);have hnext:Hid (i+1<=dM s.data.toList 2001):=hgo.out ⟨by omega,by have:=hsl.out;omega,hdg⟩;clear hdg hi;go_wp2;go_roundw;case rel=>exact⟨i+1,by go_num,hnext,trivial⟩
     case measure=>simp[intOf];omega
   ·have hcnt:Hid (dM s.data.toList 2001=i):=by
     unfold Hid;have h1:=ku s.data.toList 2001 i hi.out;have hsl1:=hsl.out;refine JR ?_ hi.out;refine J8.1 fun h=>?_;obtain⟨h2,h3,h4⟩:=h1.1 h;have h5:s.data.toList[i]=s[i]'(by omega):=rfl;rw[h5] at h4;omega
    have hend:Hid (dC s.data.toList=(a8 (s.data.toList.take i),s.data.toList.drop i)):=by unfold Hid dC;rw[hcnt.out]
    have hdg:Hid ((s.extract 0 i).data.toList.all bo=true):=by unfold Hid;rw[cf,<-hcnt.out];exact iE _ _
    have hi2:i<=2001:=GV hi.out (eJ _ _).1;have his2:i<=s.size:=by have:=GV hi.out (eJ s.data.toList 2001).2;rw[hsl.out] at this;exact this
    clear hcnt hi;go_upto_region 4 with fail
    refine wp_mono (aD (Q:=aX _) (fun _=>True) (fun _=>false) (by kernel_rfl) ?_) (fun _ _ _ h=>bf h);have hbd:Below w1.heap.size w1 w1.drew:=(Ki _ _).drew;have s0:=(hbd.block _ (ak hr0)).trans hr0;have HB2:=HB.trans (hbd.mono HB.size);clear hbd hr0 HB;generalize w1.drew=w2 at *
    refine Kf 0 (r:=?_)
    try simp only[Act.put,GJ,GI,GH,GG,GL,GK]
    refine Kf 1 (r:=?_)
    try simp only[Act.put,GJ,GI,GH,GG,GL,GK]
    refine Kf 2 (r:=?_)
    try simp only[Act.put,GJ,GI,GH,GG,GL,GK]
    refine Kf 4 (r:=?_)
    try simp only[Act.put,GJ,GI,GH,GG,GL,GK]
    refine Kf 5 (r:=?_)
    try simp only[Act.put,GJ,GI,GH,GG,GL,GK]
    refine Kf 6 (r:=?_)
    try simp only[Act.put,GJ,GI,GH,GG,GL,GK]
    refine aA (i:=3) rfl (by kernel_rfl) rfl (fun K hK=>?_);go_simp;refine (kI _ w2 (by simp;omega) hdg.out).mono ?_;rintro e w3 ⟨v3,rfl,hz3,hb3⟩;rw[cf] at hz3;obtain⟨p6,N6,c6,rfl,hN6,hNc6,hcm6,hd6⟩:=hz3.nat;refine hK _ _ (fun _ _=>trivial) ?_;clear hK K;try simp only[Act.put,GJ,GI,GH,GG,GL,GK]
    have r6:=(hb3.block _ (ak s0)).trans s0;have HB6:=HB2.trans (hb3.mono HB2.size);have hP:=cL (u0:=.bool false) (u1:=.slice p6 N6 c6) r6;have HZ:=GF (hz3.puts hP r6 dZ);have hB:=HB6.trans (hP.below w.heap.size (by omega));have q0:=ai r6 0;have q1:=ai r6 1;have f0:=Kg w3 w.heap.size 0 _ _ r6;have f1:=Kg w3 w.heap.size 1 _ _ r6;clear hz3 hd6 hb3 s0 HB2;refine aA (i:=7) rfl (by kernel_rfl) rfl (fun K hK=>?_);go_simp;change K _ (gD w3 w.heap.size (.bool false) (.slice p6 N6 c6));refine hK _ _ (fun _ _=>trivial) ?_;clear hK K q0 q1 f0 f1;try simp only[Act.put,GJ,GI,GH,GG,GL,GK]
    refine Kf 8 (r:=?_)
    try simp only[Act.put,GJ,GI,GH,GG,GL,GK]
    try simp only[Act.put,GJ,GI,GH,GG,GL,GK]
    refine aK (by kernel_rfl) ?_ _;simp only[aX];go_wp2_with fail
    (try simp only[Exit.inBlock,Exit.then])
    refine Kh (aS rfl _ _ w.heap.size _ _ (0,0) _ rfl hP.row Tryz.underlying85 rfl (by kernel_rfl)) rfl ?_;refine⟨_,s.extract i s.size,rfl,?_,?_,hB⟩
    ·rw[hend.out];exact HZ.out
    ·unfold Hid;rw[hend.out];simp;exact GU (by rw[G2,hsl.out];omega)
  ·have hcnt:Hid (dM s.data.toList 2001=i):=by
    unfold Hid;have h1:=ku s.data.toList 2001 i hi.out;have hsl1:=hsl.out;refine JR ?_ hi.out;refine J8.1 fun h=>?_;obtain⟨h2,h3,h4⟩:=h1.1 h;have h5:s.data.toList[i]=s[i]'(by omega):=rfl;rw[h5] at h4;have:=hsl.out;omega
   have hend:Hid (dC s.data.toList=(a8 (s.data.toList.take i),s.data.toList.drop i)):=by unfold Hid dC;rw[hcnt.out]
   have hdg:Hid ((s.extract 0 i).data.toList.all bo=true):=by unfold Hid;rw[cf,<-hcnt.out];exact iE _ _
   have hi2:i<=2001:=GV hi.out (eJ _ _).1;have his2:i<=s.size:=by have:=GV hi.out (eJ s.data.toList 2001).2;rw[hsl.out] at this;exact this
   clear hcnt hi;go_upto_region 4 with fail
   refine wp_mono (aD (Q:=aX _) (fun _=>True) (fun _=>false) (by kernel_rfl) ?_) (fun _ _ _ h=>bf h);have hbd:Below w1.heap.size w1 w1.drew:=(Ki _ _).drew;have s0:=(hbd.block _ (ak hr0)).trans hr0;have HB2:=HB.trans (hbd.mono HB.size);clear hbd hr0 HB;generalize w1.drew=w2 at *
   refine Kf 0 (r:=?_)
   try simp only[Act.put,GJ,GI,GH,GG,GL,GK]
   refine Kf 1 (r:=?_)
   try simp only[Act.put,GJ,GI,GH,GG,GL,GK]
   refine Kf 2 (r:=?_)
   try simp only[Act.put,GJ,GI,GH,GG,GL,GK]
   refine Kf 4 (r:=?_)
   try simp only[Act.put,GJ,GI,GH,GG,GL,GK]
   refine Kf 5 (r:=?_)
   try simp only[Act.put,GJ,GI,GH,GG,GL,GK]
   refine Kf 6 (r:=?_)
   try simp only[Act.put,GJ,GI,GH,GG,GL,GK]
   refine aA (i:=3) rfl (by kernel_rfl) rfl (fun K hK=>?_);go_simp;refine (kI _ w2 (by simp;omega) hdg.out).mono ?_;rintro e w3 ⟨v3,rfl,hz3,hb3⟩;rw[cf] at hz3;obtain⟨p6,N6,c6,rfl,hN6,hNc6,hcm6,hd6⟩:=hz3.nat;refine hK _ _ (fun _ _=>trivial) ?_;clear hK K;try simp only[Act.put,GJ,GI,GH,GG,GL,GK]
   have r6:=(hb3.block _ (ak s0)).trans s0;have HB6:=HB2.trans (hb3.mono HB2.size);have hP:=cL (u0:=.bool false) (u1:=.slice p6 N6 c6) r6;have HZ:=GF (hz3.puts hP r6 dZ);have hB:=HB6.trans (hP.below w.heap.size (by omega));have q0:=ai r6 0;have q1:=ai r6 1;have f0:=Kg w3 w.heap.size 0 _ _ r6;have f1:=Kg w3 w.heap.size 1 _ _ r6;clear hz3 hd6 hb3 s0 HB2;refine aA (i:=7) rfl (by kernel_rfl) rfl (fun K hK=>?_);go_simp;change K _ (gD w3 w.heap.size (.bool false) (.slice p6 N6 c6));refine hK _ _ (fun _ _=>trivial) ?_;clear hK K q0 q1 f0 f1;try simp only[Act.put,GJ,GI,GH,GG,GL,GK]
   refine Kf 8 (r:=?_)
   try simp only[Act.put,GJ,GI,GH,GG,GL,GK]
   try simp only[Act.put,GJ,GI,GH,GG,GL,GK]
   refine aK (by kernel_rfl) ?_ _;simp only[aX];go_wp2_with fail
   (try simp only[Exit.inBlock,Exit.then])
   refine Kh (aS rfl _ _ w.heap.size _ _ (0,0) _ rfl hP.row Tryz.underlying85 rfl (by kernel_rfl)) rfl ?_;refine⟨_,s.extract i s.size,rfl,?_,?_,hB⟩
   ·rw[hend.out];exact HZ.out
   ·unfold Hid;rw[hend.out];simp;exact GU (by rw[G2,hsl.out];omega)
end Go.Proofs.YtmakbmhlemhgeaaGreatDoor
