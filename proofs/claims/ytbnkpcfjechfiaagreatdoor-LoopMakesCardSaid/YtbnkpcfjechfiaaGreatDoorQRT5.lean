/- Lemmas of this claim. -/
import Derived.Test.YtbnkpcfjechfiaaGreatDoorQNatText
import Derived.Test.YtbnkpcfjechfiaaGreatDoorQRQ3
set_option linter.all false
set_option maxRecDepth 100000
set_option maxHeartbeats 8000000
namespace Go.Proofs.YtbnkpcfjechfiaaGreatDoor
open Go.RowKit Dg Dc
theorem IsC.dig {w:World}{m m':Bool}{p0 p1 p2 p3:Option Addr}{n0 c0 n1 c1 n2 c2 n3 c3:Nat}{z:Vl} (h:IsC w (.agg #[.bool m,.slice p0 n0 c0,.bool false,.slice p1 n1 c1,.bool m',.slice p2 n2 c2,.bool false,.slice p3 n3 c3]) z) :
  IsD w (.slice p0 n0 c0) z.x.n∧IsD w (.slice p1 n1 c1) z.x.d∧IsD w (.slice p2 n2 c2) z.y.n∧IsD w (.slice p3 n3 c3) z.y.d:=by
 obtain⟨a,b,c,d,e,h1,h2,h3,h4⟩:=h;simp at e;obtain⟨_,rfl,rfl,_,rfl,rfl⟩:=e;exact⟨h1,h2,h3,h4⟩
theorem mt (v:Value) (z:Vl) (w:World) (hv:IsC w v z) (hfx:bf z.x.n) (hfx':bf z.x.d) (hfy:bf z.y.n) (hfy':bf z.y.d) :
  Calls Tryz.prog 120 #[v] w fun e w'=>e=.returned (.bool (cL z.x||cL z.y))∧Below w.heap.size w w':=by
 obtain⟨p0,n0,c0,p1,n1,c1,p2,n2,c2,p3,n3,c3,rfl,_,_⟩:=hv.parts;obtain⟨HD0,HD1,HD2,HD3⟩:=hv.dig;obtain⟨x,y⟩:=z;simp only at *
 obtain⟨mx,hmx⟩:∃ mx,mx=x.minus:=⟨_,rfl⟩;obtain⟨my,hmy⟩:∃ my,my=y.minus:=⟨_,rfl⟩;rw[←hmx,←hmy];have hl:=aT w (.cells #[.bool mx,.slice p0 n0 c0,.bool false,.slice p1 n1 c1,.bool my,.slice p2 n2 c2,.bool false,.slice p3 n3 c3] 83);replace HD0:=HD0.below hl.below;replace HD1:=HD1.below hl.below;replace HD2:=HD2.below hl.below;replace HD3:=HD3.below hl.below;have r0:=hl.s0;have HB:=hl.below;clear hv hl hmx hmy;obtain⟨b0,hb0⟩:∃ b,b=decide (2000<(dec x.n).length):=⟨_,rfl⟩;obtain⟨b1,hb1⟩:∃ b,b=decide (2000<(dec x.d).length):=⟨_,rfl⟩;obtain⟨b2,hb2⟩:∃ b,b=decide (2000<(dec y.n).length):=⟨_,rfl⟩;obtain⟨b3,hb3⟩:∃ b,b=decide (2000<(dec y.d).length):=⟨_,rfl⟩;have HR:Hid ((cL x||cL y)=((b0||b1)||(b2||b3))):=by unfold Hid cL;rw[hb0,hb1,hb2,hb3]
 have B0:=E5 hb0;have B1:=E5 hb1;have B2:=E5 hb2;have B3:=E5 hb3;clear hb0 hb1 hb2 hb3;have q0:=aa r0 0;have q1:=aa r0 1;have q2:=aa r0 2;have q3:=aa r0 3;have q4:=aa r0 4;have q5:=aa r0 5;have q6:=aa r0 6;have q7:=aa r0 7;go_enter Tryz.func120,Tryz.ntmps120;go_upto_region 1 with fail
 generalize w.alloc (.cells #[.bool mx,.slice p0 n0 c0,.bool false,.slice p1 n1 c1,.bool my,.slice p2 n2 c2,.bool false,.slice p3 n3 c3] 83)=w1 at *
 go_wp2_with fail
 refine (kI _ p0 n0 c0 x.n w1 HD0 hfx).mono ?_;rintro e w2 ⟨rfl,hbb⟩;have r1:=(hbb.block _ (ag r0)).trans r0;have HB1:=HB.trans (hbb.mono HB.size);replace HD0:=HD0.below hbb;replace HD1:=HD1.below hbb;replace HD2:=HD2.below hbb;replace HD3:=HD3.below hbb;clear r0 HB hbb q0 q1 q2 q3 q4 q5 q6 q7;have r0:=r1;have HB:=HB1;clear r1 HB1;have q0:=aa r0 0;have q1:=aa r0 1;have q2:=aa r0 2;have q3:=aa r0 3;have q4:=aa r0 4;have q5:=aa r0 5;have q6:=aa r0 6;have q7:=aa r0 7;rw[←B0.out]
 cases b0
 ·go_wp2_with fail
  refine (kI _ p1 n1 c1 x.d w2 HD1 hfx').mono ?_;rintro e w3 ⟨rfl,hbb⟩;have r1:=(hbb.block _ (ag r0)).trans r0;have HB1:=HB.trans (hbb.mono HB.size);replace HD0:=HD0.below hbb;replace HD1:=HD1.below hbb;replace HD2:=HD2.below hbb;replace HD3:=HD3.below hbb;clear r0 HB hbb q0 q1 q2 q3 q4 q5 q6 q7;have r0:=r1;have HB:=HB1;clear r1 HB1;have q0:=aa r0 0;have q1:=aa r0 1;have q2:=aa r0 2;have q3:=aa r0 3;have q4:=aa r0 4;have q5:=aa r0 5;have q6:=aa r0 6;have q7:=aa r0 7;rw[←B1.out]
  cases b1
  ·go_wp2_with fail
   refine (kI _ p2 n2 c2 y.n w3 HD2 hfy).mono ?_;rintro e w4 ⟨rfl,hbb⟩;have r1:=(hbb.block _ (ag r0)).trans r0;have HB1:=HB.trans (hbb.mono HB.size);replace HD0:=HD0.below hbb;replace HD1:=HD1.below hbb;replace HD2:=HD2.below hbb;replace HD3:=HD3.below hbb;clear r0 HB hbb q0 q1 q2 q3 q4 q5 q6 q7;have r0:=r1;have HB:=HB1;clear r1 HB1;have q0:=aa r0 0;have q1:=aa r0 1;have q2:=aa r0 2;have q3:=aa r0 3;have q4:=aa r0 4;have q5:=aa r0 5;have q6:=aa r0 6;have q7:=aa r0 7;rw[←B2.out]
   cases b2
   ·go_wp2_with fail
    refine (kI _ p3 n3 c3 y.d w4 HD3 hfy').mono ?_;rintro e w5 ⟨rfl,hbb⟩;have r1:=(hbb.block _ (ag r0)).trans r0;have HB1:=HB.trans (hbb.mono HB.size);replace HD0:=HD0.below hbb;replace HD1:=HD1.below hbb;replace HD2:=HD2.below hbb;replace HD3:=HD3.below hbb;clear r0 HB hbb q0 q1 q2 q3 q4 q5 q6 q7;have r0:=r1;have HB:=HB1;clear r1 HB1;have q0:=aa r0 0;have q1:=aa r0 1;have q2:=aa r0 2;have q3:=aa r0 3;have q4:=aa r0 4;have q5:=aa r0 5;have q6:=aa r0 6;have q7:=aa r0 7;rw[←B3.out];clear q0 q1 q2 q3 q4 q5 q6 q7;go_wp2_with fail
    go_ret;refine⟨?_,HB⟩;rw[HR.out];rfl
   ·clear q0 q1 q2 q3 q4 q5 q6 q7;go_wp2_with fail
    go_ret;refine⟨?_,HB⟩;rw[HR.out];rfl
  ·clear q0 q1 q2 q3 q4 q5 q6 q7;go_wp2_with fail
   go_ret;refine⟨?_,HB⟩;rw[HR.out];rfl
 ·clear q0 q1 q2 q3 q4 q5 q6 q7;go_wp2_with fail
  go_ret;refine⟨?_,HB⟩;rw[HR.out];rfl
theorem xH (v:Value) (z:Vl) (w:World) (hv:IsC w v z) :
  Calls Tryz.prog 178 #[v] w fun e w'=>e=.returned (.bool (decide (z.y.n=0)))∧Below w.heap.size w w':=by
 obtain⟨p0,n0,c0,p1,n1,c1,p2,n2,c2,p3,n3,c3,rfl,_,hy⟩:=hv.parts;generalize z.x.minus=mx at *
 obtain⟨my,hmy⟩:∃ my,my=z.y.minus:=⟨_,rfl⟩;rw[←hmy] at hy ⊢;have hl:=aT w (.cells #[.bool mx,.slice p0 n0 c0,.bool false,.slice p1 n1 c1,.bool my,.slice p2 n2 c2,.bool false,.slice p3 n3 c3] 83);have HY:=E5 (hy.below hl.below);have q4:=aa hl.s0 4;have q5:=aa hl.s0 5;have q6:=aa hl.s0 6;have q7:=aa hl.s0 7;have HB:=hl.below;clear hl hv hy hmy;go_enter Tryz.func178,Tryz.ntmps178;go_upto_region 1 with fail
 generalize w.alloc (.cells #[.bool mx,.slice p0 n0 c0,.bool false,.slice p1 n1 c1,.bool my,.slice p2 n2 c2,.bool false,.slice p3 n3 c3] 83)=w1 at *
 go_wp2_with fail
 refine (lE _ z.y w1 HY.out).mono ?_;rintro e w2 ⟨rfl,hb2⟩;have HEND:=HB.trans (hb2.mono HB.size);go_wp2_with fail
 go_ret;exact⟨by rfl,HEND⟩
theorem DQ {s:ByteArray} (h:s.data.toList.all a6=true) {i:Nat} (hi:i<s.size):48≤s[i].toNat∧s[i].toNat≤57:=by
 have hl:i<s.data.toList.length:=by simpa using hi
 have:=FH.1 h (s.data.toList[i]) (Fu hl);have hb:s.data.toList[i]=s[i]:=rfl;rw[hb] at this;unfold a6 at this;simp at this;exact this
theorem z6 {l:List UInt8} (h:l.all a6=true) (k:Nat):(l.take k).all a6=true:=by
 rw[FH] at *
 exact fun c hc=>h c (GJ hc)
theorem zZ {l:List UInt8} (h:l.all a6=true) (k:Nat):(l.drop k).all a6=true:=by
 rw[FH] at *
 exact fun c hc=>h c (Gg hc)
theorem Ex {s:List UInt8}{lo:List Nat}{k:Nat} (h:ua s (s.take k) lo) (hk:k≤s.length) (h0:0<k) (hd:s.all a6=true):ua s (s.take (k-4)) (lo++[aR ((s.take k).drop (k-4))]):=by
 have hl:(s.take k).length=k:=by rw[FA];omega
 have:=Ew (k:=k-4) h (by rw[hl]) (by intro e;rw[e] at hl;simp at hl;omega) (zZ (z6 hd k) _);rw[Im,F7 (by omega)] at this;exact this
theorem jT (s:ByteArray) (w:World) (hs:s.size<100000) (hd:s.data.toList.all a6=true) :
  Calls Tryz.prog 257 #[.string s] w fun e w'=>∃ v,e=.returned v∧IsZ w' v (aR s.data.toList:Nat)∧Below w.heap.size w w':=by
 have hl:=aT w (.cells #[.bool false,.slice none 0 0] 76);have HALL:=E5 hd;have hsl:Hid (s.data.toList.length=s.size):=by unfold Hid;simp
 clear hd;go_enter Tryz.func257,Tryz.ntmps257;go_upto_region 1 with fail
 generalize w.alloc (.cells #[.bool false,.slice none 0 0] 76)=w1 at *
 go_wp2_with fail
 go_loopw [3,4] (fun s3 s4 wr=>∃ (z:Int) (lo:List Nat),s4=.int .i64 z∧-4≤z∧z≤s.size∧Hid (ua s.data.toList (s.data.toList.take z.toNat) lo)∧Hid (dR wr w1.heap.size s3 lo)∧Below w1.heap.size w1 wr) (fun _ s4 _=>(intOf s4+4).toNat)
 case atStart=>exact⟨s.size,[],rfl,by omega,by omega,by unfold Hid;rw[G7,←hsl.out,FD];exact Dj _,World.ownsRow_nil _ _ _ _,Below.refl _ _⟩
 case round =>
  obtain⟨z,lo,rfl,hz1,hz2,hst,hown,hbw⟩:=hrel;have hsz:=hbw.size;by_cases hz0:0<z
  ·obtain⟨k,rfl⟩:∃ k:Nat,z=(k:Int):=⟨z.toNat,by omega⟩;have hks:k≤s.size:=by omega
   have hgt:decide ((0:Int)<(k:Int))=true:=by simp;omega
   have hmax:max (0:Int) ((k:Int)-4)=((k-4:Nat):Int):=by omega
   rw[G7] at hst;have hfew:=hst.out.few;rw[hsl.out] at hfew;have hnext:=E5 (Ex hst.out (by rw[hsl.out];exact hks) (by omega) HALL.out);have hkl:Hid ((s.data.toList.take k).length=k):=by unfold Hid;rw[FA,hsl.out];omega
   have HZ0:=E5 hz0;have hk0:0<k:=by omega
   clear hz1 hz2 hst hz0;go_wp2_with fail
   go_loopw [5,6] (fun s5 s6 wq=>∃ n i:Nat,s5=.int .i64 n∧s6=.int .i64 i∧k-4≤i∧i≤k∧Hid (NIn (s.data.toList.take k) (k-4) i n)∧wr=wq) (fun _ s6 _=>k-(intOf s6).toNat)
   case atStart=>exact⟨0,k-4,rfl,rfl,Fb _,by omega,lz _ _,rfl⟩
   case round =>
    obtain⟨n,i,rfl,rfl,hi1,hi2,hin,rfl⟩:=hrel;have hn4:=AO hin.out (by rw[hkl.out]) (by rw[hkl.out];exact hi2);by_cases hi:i<k
    ·have his:i<s.size:=by omega
     have hdg:=DQ HALL.out his;have hil:i<(s.data.toList.take k).length:=by rw[hkl.out];exact hi
     have hbyte:Hid ((s.data.toList.take k)[i]=s[i]):=by unfold Hid;rw[Hv];rfl
     have hst2:=nN hin.out hi1 hil (by rw[hbyte.out];exact jI (by omega) (by omega));rw[hbyte.out] at hst2;have HST2:=E5 hst2;have h48:(48:Int)≤(s[i].toNat:Int):=by omega
     clear hst2;go_wp2;go_roundw;case rel=>exact⟨10*n+(s[i].toNat-48),i+1,by go_num,by go_num,by omega,by omega,HST2,trivial⟩
     case measure=>simp[intOf];omega
    ·obtain rfl:i=k:=by omega
     have hend:Hid (n=aR ((s.data.toList.take i).drop (i-4))):=(qR (k:=i-4) (n:=n) (by rw[hkl.out];exact hin.out)).2;rw[←hend.out] at hnext;clear hin hi hi1 hi2;go_wp2_with (at_builtin;refine bh 74 Tryz.underlying74 rfl (.tmp 29) (.tmp 31) rfl w1.heap.size _ lo _ n rfl rfl hown.out rfl (by omega) hsz ?_)
     intro v' w2 hown' hb';have hb2:=hb' _ _ hbw (Fb _);have HO:=E5 hown';clear hown hbw hb' hown';go_wp2;go_roundw;case rel=>exact⟨(i:Int)-4,lo++[n],by go_num,by omega,by omega,by unfold Hid;rw[show ((i:Int)-4).toNat=i-4 by omega];exact hnext.out,HO,hb2⟩
     case measure=>simp[intOf];have:=HZ0.out;omega
  ·have hle:decide ((0:Int)<z)=false:=by simp;omega
   have hz00:z.toNat=0:=by omega
   rw[hz00,Fg] at hst
   have hval:Hid (val RR lo=aR s.data.toList):=by
    have h1:=E3 hst.out;have h2:=ck aD hst.out.dig;rw[h1] at h2;have:=congrArg (val RR) h2;rw[aw aD,aw aD] at this;exact this.symm
   have hdig:=E5 hst.out.dig;have hoi:=E5 (dR.isU hown.out);have s0:=(hbw.block _ (ag hl.s0)).trans hl.s0;have HB:=hl.below.trans (hbw.mono hl.below.size);clear hst hown hbw hl hz00 hz0;go_wp2_with fail
   refine (dy _ _ _ wr hoi.out hdig.out).mono ?_;rintro e w6 ⟨v6,rfl,hz6,hb6⟩;rw[hval.out,show sgn false (aR s.data.toList)=((aR s.data.toList:Nat):Int) from rfl] at hz6;obtain⟨p6,N6,c6,rfl,hN6,hNc6,hcm6,hd6⟩:=hz6.nat;have r6:=(hb6.block _ (ag s0)).trans s0;have HB6:=HB.trans (hb6.mono HB.size);have hP:=bW (u0:=.bool false) (u1:=.slice p6 N6 c6) r6;have HZ:=E5 (hz6.puts hP r6 dI);have hB:=HB6.trans (hP.below w.heap.size (by omega));have q0:=aa r6 0;have q1:=aa r6 1;have f0:=frozen_of_row w6 w.heap.size 0 _ _ r6;have f1:=frozen_of_row w6 w.heap.size 1 _ _ r6;clear hz6 hd6 hb6 HB s0;go_wp2_with fail
   (try simp only[Exit.inBlock,Exit.then])
   change bodyPost _ _ _ _ _ (fI w6 w.heap.size (.bool false) (.slice p6 N6 c6));refine bodyPost_ret (results_cell_row rfl _ _ w.heap.size _ _ (0,0) _ rfl hP.row Tryz.underlying76 rfl (by kernel_rfl)) rfl ?_;exact⟨_,rfl,HZ.out,hB⟩
theorem aF {P:Program}{fn:Func}{p u:Tmp}{ty:TypeId} (h:fn.results=#[.cell p ty,.tmp u]) (tmps:Array Value) (w:World) (g:Nat) (t:TypeId) (cs:Array Value) (fr:Nat×Nat) (d:TypeDesc)
  (hp:tmps.getD p undef=.pointer (some ⟨g,0,none⟩)) (hg:w.heap[g]?=some (.cells cs t fr))
  (hu:P.underlying ty=some d) (hd:(match d with | .struct _ | .array _ _=>true | _=>false)=true) (hi:(P.info? ty).map (·.size)=some cs.size) :
  (results fn tmps).run P w=.ok (.tuple #[.agg cs,tmps.getD u undef]) w:=by
 have hp':tmps[p]?.getD undef=.pointer (some ⟨g,0,none⟩):=by simpa using hp
 simp[results,h,hp',asAddr,run_loadVar_row w g t ty cs fr d hg hu hd hi]
theorem nQ (s:ByteArray) (w:World) :
  Calls Tryz.prog 219 #[.string s] w fun e w'=>∃ v t,e=.returned (.tuple #[v,.string t])∧IsZ w' v ((de s.data.toList).1:Nat)∧Hid (t.data.toList=(de s.data.toList).2)∧Below w.heap.size w w':=by
 have hl:=aT w (.cells #[.bool false,.slice none 0 0] 76);have hsl:Hid (s.data.toList.length=s.size):=by unfold Hid;simp
 go_enter Tryz.func219,Tryz.ntmps219;go_upto_region 1 with fail
 generalize w.alloc (.cells #[.bool false,.slice none 0 0] 76)=w1 at *
 go_wp2_with fail
 have hr0:=hl.s0;have HB:=hl.below;clear hl;go_loopw [4] (fun s4 wr=>∃ i:Nat,s4=.int .i64 i∧Hid (i≤dx s.data.toList 2001)∧w1=wr) (fun s4 _=>2001-(intOf s4).toNat)
 case atStart=>exact⟨0,rfl,Fk _,rfl⟩
 case round =>
  obtain⟨i,rfl,hi,rfl⟩:=hrel;have hgo:=E5 (jD s.data.toList 2001 i hi.out).2;have hi0:i≤2001:=Fj hi.out (d8 _ _).1;by_cases his:i<s.size
  ·by_cases hi1:i≤2000
   ·rcases (by omega:(s[i].toNat:Int)<48∨(57:Int)<(s[i].toNat:Int)∨(48≤(s[i].toNat:Int)∧(s[i].toNat:Int)≤57)) with hc | hc | ⟨hc,hc2⟩
    ·have hcnt:Hid (dx s.data.toList 2001=i):=by
      unfold Hid;have h1:=jD s.data.toList 2001 i hi.out;have hsl1:=hsl.out;refine If ?_ hi.out;refine Iy.1 fun h=>?_;obtain⟨h2,h3,h4⟩:=h1.1 h;have h5:s.data.toList[i]=s[i]'(by omega):=rfl;rw[h5] at h4;rw[nB hc] at h4;cases h4
     have hend:Hid (de s.data.toList=(aR (s.data.toList.take i),s.data.toList.drop i)):=by unfold Hid de;rw[hcnt.out]
     have hdg:Hid ((s.extract 0 i).data.toList.all a6=true):=by unfold Hid;rw[bI,←hcnt.out];exact gW _ _
     have hi2:i≤2001:=Fj hi.out (d8 _ _).1;have his2:i≤s.size:=by have:=Fj hi.out (d8 s.data.toList 2001).2;rw[hsl.out] at this;exact this
     clear hcnt hi;go_upto_region 4 with fail
     refine wp_mono (av (Q:=aN _) (fun _=>True) (fun _=>false) (by kernel_rfl) ?_) (fun _ _ _ h=>aU h);have hbd:Below w1.heap.size w1 w1.drew:=(Below.refl _ _).drew;have s0:=(hbd.block _ (ag hr0)).trans hr0;have HB2:=HB.trans (hbd.mono HB.size);clear hbd hr0 HB;generalize w1.drew=w2 at *
     refine ai (i:=0) (v:=?vv1) rfl (by kernel_rfl) (fun _ _ _ h=>h) rfl ?hy1 ?rest1;case hy1=>(intro wy;go_simp;try with_reducible rfl)
     try simp only[Act.put,E9,E8,E7,E6,Fa,E_]
     refine ai (i:=1) (v:=?vv2) rfl (by kernel_rfl) (fun _ _ _ h=>h) rfl ?hy2 ?rest2;case hy2=>(intro wy;go_simp;try with_reducible rfl)
     try simp only[Act.put,E9,E8,E7,E6,Fa,E_]
     refine ai (i:=2) (v:=?vv3) rfl (by kernel_rfl) (fun _ _ _ h=>h) rfl ?hy3 ?rest3;case hy3=>(intro wy;go_simp;try with_reducible rfl)
     try simp only[Act.put,E9,E8,E7,E6,Fa,E_]
     refine ai (i:=4) (v:=?vv4) rfl (by kernel_rfl) (fun _ _ _ h=>h) rfl ?hy4 ?rest4;case hy4=>(intro wy;go_simp;try with_reducible rfl)
     try simp only[Act.put,E9,E8,E7,E6,Fa,E_]
     refine ai (i:=5) (v:=?vv5) rfl (by kernel_rfl) (fun _ _ _ h=>h) rfl ?hy5 ?rest5;case hy5=>(intro wy;go_simp;try with_reducible rfl)
     try simp only[Act.put,E9,E8,E7,E6,Fa,E_]
     refine ai (i:=6) (v:=?vv6) rfl (by kernel_rfl) (fun _ _ _ h=>h) rfl ?hy6 ?rest6;case hy6=>(intro wy;go_simp;try with_reducible rfl)
     try simp only[Act.put,E9,E8,E7,E6,Fa,E_]
     refine au (i:=3) rfl (by kernel_rfl) rfl (fun K hK=>?_);go_simp;refine (jT _ w2 (by simp;omega) hdg.out).mono ?_;rintro e w3 ⟨v3,rfl,hz3,hb3⟩;rw[bI] at hz3;obtain⟨p6,N6,c6,rfl,hN6,hNc6,hcm6,hd6⟩:=hz3.nat;refine hK _ _ (fun _ _=>trivial) ?_;clear hK K;try simp only[Act.put,E9,E8,E7,E6,Fa,E_]
     have r6:=(hb3.block _ (ag s0)).trans s0;have HB6:=HB2.trans (hb3.mono HB2.size);have hP:=bW (u0:=.bool false) (u1:=.slice p6 N6 c6) r6;have HZ:=E5 (hz3.puts hP r6 dI);have hB:=HB6.trans (hP.below w.heap.size (by omega));have q0:=aa r6 0;have q1:=aa r6 1;have f0:=frozen_of_row w3 w.heap.size 0 _ _ r6;have f1:=frozen_of_row w3 w.heap.size 1 _ _ r6;clear hz3 hd6 hb3 s0 HB2;refine au (i:=7) rfl (by kernel_rfl) rfl (fun K hK=>?_);go_simp;change K _ (fI w3 w.heap.size (.bool false) (.slice p6 N6 c6));refine hK _ _ (fun _ _=>trivial) ?_;clear hK K q0 q1 f0 f1;try simp only[Act.put,E9,E8,E7,E6,Fa,E_]
     refine ai (i:=8) (v:=?vv7) rfl (by kernel_rfl) (fun _ _ _ h=>h) rfl ?hy7 ?rest7;case hy7=>(intro wy;go_simp;try with_reducible rfl)
     try simp only[Act.put,E9,E8,E7,E6,Fa,E_]
     try simp only[Act.put,E9,E8,E7,E6,Fa,E_]
     refine aG (by kernel_rfl) ?_ _;simp only[aN];go_wp2_with fail
     (try simp only[Exit.inBlock,Exit.then])
     refine bodyPost_ret (aF rfl _ _ w.heap.size _ _ (0,0) _ rfl hP.row Tryz.underlying76 rfl (by kernel_rfl)) rfl ?_;refine⟨_,s.extract i s.size,rfl,?_,?_,hB⟩
     ·rw[hend.out];exact HZ.out
     ·unfold Hid;rw[hend.out];simp;exact Fi (by rw[Fq,hsl.out];omega)
    ·have hcnt:Hid (dx s.data.toList 2001=i):=by
      unfold Hid;have h1:=jD s.data.toList 2001 i hi.out;have hsl1:=hsl.out;refine If ?_ hi.out;refine Iy.1 fun h=>?_;obtain⟨h2,h3,h4⟩:=h1.1 h;have h5:s.data.toList[i]=s[i]'(by omega):=rfl;rw[h5] at h4;rw[nA hc] at h4;cases h4
     have hend:Hid (de s.data.toList=(aR (s.data.toList.take i),s.data.toList.drop i)):=by unfold Hid de;rw[hcnt.out]
     have hdg:Hid ((s.extract 0 i).data.toList.all a6=true):=by unfold Hid;rw[bI,←hcnt.out];exact gW _ _
     have hi2:i≤2001:=Fj hi.out (d8 _ _).1;have his2:i≤s.size:=by have:=Fj hi.out (d8 s.data.toList 2001).2;rw[hsl.out] at this;exact this
     clear hcnt hi;go_upto_region 4 with fail
     refine wp_mono (av (Q:=aN _) (fun _=>True) (fun _=>false) (by kernel_rfl) ?_) (fun _ _ _ h=>aU h);have hbd:Below w1.heap.size w1 w1.drew:=(Below.refl _ _).drew;have s0:=(hbd.block _ (ag hr0)).trans hr0;have HB2:=HB.trans (hbd.mono HB.size);clear hbd hr0 HB;generalize w1.drew=w2 at *
     refine ai (i:=0) (v:=?vv8) rfl (by kernel_rfl) (fun _ _ _ h=>h) rfl ?hy8 ?rest8;case hy8=>(intro wy;go_simp;try with_reducible rfl)
     try simp only[Act.put,E9,E8,E7,E6,Fa,E_]
     refine ai (i:=1) (v:=?vv9) rfl (by kernel_rfl) (fun _ _ _ h=>h) rfl ?hy9 ?rest9;case hy9=>(intro wy;go_simp;try with_reducible rfl)
     try simp only[Act.put,E9,E8,E7,E6,Fa,E_]
     refine ai (i:=2) (v:=?vv10) rfl (by kernel_rfl) (fun _ _ _ h=>h) rfl ?hy10 ?rest10;case hy10=>(intro wy;go_simp;try with_reducible rfl)
     try simp only[Act.put,E9,E8,E7,E6,Fa,E_]
     refine ai (i:=4) (v:=?vv11) rfl (by kernel_rfl) (fun _ _ _ h=>h) rfl ?hy11 ?rest11;case hy11=>(intro wy;go_simp;try with_reducible rfl)
     try simp only[Act.put,E9,E8,E7,E6,Fa,E_]
     refine ai (i:=5) (v:=?vv12) rfl (by kernel_rfl) (fun _ _ _ h=>h) rfl ?hy12 ?rest12;case hy12=>(intro wy;go_simp;try with_reducible rfl)
     try simp only[Act.put,E9,E8,E7,E6,Fa,E_]
     refine ai (i:=6) (v:=?vv13) rfl (by kernel_rfl) (fun _ _ _ h=>h) rfl ?hy13 ?rest13;case hy13=>(intro wy;go_simp;try with_reducible rfl)
     try simp only[Act.put,E9,E8,E7,E6,Fa,E_]
     refine au (i:=3) rfl (by kernel_rfl) rfl (fun K hK=>?_);go_simp;refine (jT _ w2 (by simp;omega) hdg.out).mono ?_;rintro e w3 ⟨v3,rfl,hz3,hb3⟩;rw[bI] at hz3;obtain⟨p6,N6,c6,rfl,hN6,hNc6,hcm6,hd6⟩:=hz3.nat;refine hK _ _ (fun _ _=>trivial) ?_;clear hK K;try simp only[Act.put,E9,E8,E7,E6,Fa,E_]
     have r6:=(hb3.block _ (ag s0)).trans s0;have HB6:=HB2.trans (hb3.mono HB2.size);have hP:=bW (u0:=.bool false) (u1:=.slice p6 N6 c6) r6;have HZ:=E5 (hz3.puts hP r6 dI);have hB:=HB6.trans (hP.below w.heap.size (by omega));have q0:=aa r6 0;have q1:=aa r6 1;have f0:=frozen_of_row w3 w.heap.size 0 _ _ r6;have f1:=frozen_of_row w3 w.heap.size 1 _ _ r6;clear hz3 hd6 hb3 s0 HB2;refine au (i:=7) rfl (by kernel_rfl) rfl (fun K hK=>?_);go_simp;change K _ (fI w3 w.heap.size (.bool false) (.slice p6 N6 c6));refine hK _ _ (fun _ _=>trivial) ?_;clear hK K q0 q1 f0 f1;try simp only[Act.put,E9,E8,E7,E6,Fa,E_]
     refine ai (i:=8) (v:=?vv14) rfl (by kernel_rfl) (fun _ _ _ h=>h) rfl ?hy14 ?rest14;case hy14=>(intro wy;go_simp;try with_reducible rfl)
     try simp only[Act.put,E9,E8,E7,E6,Fa,E_]
     try simp only[Act.put,E9,E8,E7,E6,Fa,E_]
     refine aG (by kernel_rfl) ?_ _;simp only[aN];go_wp2_with fail
     (try simp only[Exit.inBlock,Exit.then])
     refine bodyPost_ret (aF rfl _ _ w.heap.size _ _ (0,0) _ rfl hP.row Tryz.underlying76 rfl (by kernel_rfl)) rfl ?_;refine⟨_,s.extract i s.size,rfl,?_,?_,hB⟩
     ·rw[hend.out];exact HZ.out
     ·unfold Hid;rw[hend.out];simp;exact Fi (by rw[Fq,hsl.out];omega)
    ·have hdg:=jI (by omega) (by omega) (c:=s[i]);have hnext:Hid (i+1≤dx s.data.toList 2001):=hgo.out ⟨by omega,by have:=hsl.out;omega,hdg⟩;clear hdg hi;go_wp2;go_roundw;case rel=>exact⟨i+1,by go_num,hnext,trivial⟩
     case measure=>simp[intOf];omega
   ·have hcnt:Hid (dx s.data.toList 2001=i):=by
     unfold Hid;have h1:=jD s.data.toList 2001 i hi.out;have hsl1:=hsl.out;refine If ?_ hi.out;refine Iy.1 fun h=>?_;obtain⟨h2,h3,h4⟩:=h1.1 h;have h5:s.data.toList[i]=s[i]'(by omega):=rfl;rw[h5] at h4;omega
    have hend:Hid (de s.data.toList=(aR (s.data.toList.take i),s.data.toList.drop i)):=by unfold Hid de;rw[hcnt.out]
    have hdg:Hid ((s.extract 0 i).data.toList.all a6=true):=by unfold Hid;rw[bI,←hcnt.out];exact gW _ _
    have hi2:i≤2001:=Fj hi.out (d8 _ _).1;have his2:i≤s.size:=by have:=Fj hi.out (d8 s.data.toList 2001).2;rw[hsl.out] at this;exact this
    clear hcnt hi;go_upto_region 4 with fail
    refine wp_mono (av (Q:=aN _) (fun _=>True) (fun _=>false) (by kernel_rfl) ?_) (fun _ _ _ h=>aU h);have hbd:Below w1.heap.size w1 w1.drew:=(Below.refl _ _).drew;have s0:=(hbd.block _ (ag hr0)).trans hr0;have HB2:=HB.trans (hbd.mono HB.size);clear hbd hr0 HB;generalize w1.drew=w2 at *
    refine ai (i:=0) (v:=?vv15) rfl (by kernel_rfl) (fun _ _ _ h=>h) rfl ?hy15 ?rest15;case hy15=>(intro wy;go_simp;try with_reducible rfl)
    try simp only[Act.put,E9,E8,E7,E6,Fa,E_]
    refine ai (i:=1) (v:=?vv16) rfl (by kernel_rfl) (fun _ _ _ h=>h) rfl ?hy16 ?rest16;case hy16=>(intro wy;go_simp;try with_reducible rfl)
    try simp only[Act.put,E9,E8,E7,E6,Fa,E_]
    refine ai (i:=2) (v:=?vv17) rfl (by kernel_rfl) (fun _ _ _ h=>h) rfl ?hy17 ?rest17;case hy17=>(intro wy;go_simp;try with_reducible rfl)
    try simp only[Act.put,E9,E8,E7,E6,Fa,E_]
    refine ai (i:=4) (v:=?vv18) rfl (by kernel_rfl) (fun _ _ _ h=>h) rfl ?hy18 ?rest18;case hy18=>(intro wy;go_simp;try with_reducible rfl)
    try simp only[Act.put,E9,E8,E7,E6,Fa,E_]
    refine ai (i:=5) (v:=?vv19) rfl (by kernel_rfl) (fun _ _ _ h=>h) rfl ?hy19 ?rest19;case hy19=>(intro wy;go_simp;try with_reducible rfl)
    try simp only[Act.put,E9,E8,E7,E6,Fa,E_]
    refine ai (i:=6) (v:=?vv20) rfl (by kernel_rfl) (fun _ _ _ h=>h) rfl ?hy20 ?rest20;case hy20=>(intro wy;go_simp;try with_reducible rfl)
    try simp only[Act.put,E9,E8,E7,E6,Fa,E_]
    refine au (i:=3) rfl (by kernel_rfl) rfl (fun K hK=>?_);go_simp;refine (jT _ w2 (by simp;omega) hdg.out).mono ?_;rintro e w3 ⟨v3,rfl,hz3,hb3⟩;rw[bI] at hz3;obtain⟨p6,N6,c6,rfl,hN6,hNc6,hcm6,hd6⟩:=hz3.nat;refine hK _ _ (fun _ _=>trivial) ?_;clear hK K;try simp only[Act.put,E9,E8,E7,E6,Fa,E_]
    have r6:=(hb3.block _ (ag s0)).trans s0;have HB6:=HB2.trans (hb3.mono HB2.size);have hP:=bW (u0:=.bool false) (u1:=.slice p6 N6 c6) r6;have HZ:=E5 (hz3.puts hP r6 dI);have hB:=HB6.trans (hP.below w.heap.size (by omega));have q0:=aa r6 0;have q1:=aa r6 1;have f0:=frozen_of_row w3 w.heap.size 0 _ _ r6;have f1:=frozen_of_row w3 w.heap.size 1 _ _ r6;clear hz3 hd6 hb3 s0 HB2;refine au (i:=7) rfl (by kernel_rfl) rfl (fun K hK=>?_);go_simp;change K _ (fI w3 w.heap.size (.bool false) (.slice p6 N6 c6));refine hK _ _ (fun _ _=>trivial) ?_;clear hK K q0 q1 f0 f1;try simp only[Act.put,E9,E8,E7,E6,Fa,E_]
    refine ai (i:=8) (v:=?vv21) rfl (by kernel_rfl) (fun _ _ _ h=>h) rfl ?hy21 ?rest21;case hy21=>(intro wy;go_simp;try with_reducible rfl)
    try simp only[Act.put,E9,E8,E7,E6,Fa,E_]
    try simp only[Act.put,E9,E8,E7,E6,Fa,E_]
    refine aG (by kernel_rfl) ?_ _;simp only[aN];go_wp2_with fail
    (try simp only[Exit.inBlock,Exit.then])
    refine bodyPost_ret (aF rfl _ _ w.heap.size _ _ (0,0) _ rfl hP.row Tryz.underlying76 rfl (by kernel_rfl)) rfl ?_;refine⟨_,s.extract i s.size,rfl,?_,?_,hB⟩
    ·rw[hend.out];exact HZ.out
    ·unfold Hid;rw[hend.out];simp;exact Fi (by rw[Fq,hsl.out];omega)
  ·have hcnt:Hid (dx s.data.toList 2001=i):=by
    unfold Hid;have h1:=jD s.data.toList 2001 i hi.out;have hsl1:=hsl.out;refine If ?_ hi.out;refine Iy.1 fun h=>?_;obtain⟨h2,h3,h4⟩:=h1.1 h;have h5:s.data.toList[i]=s[i]'(by omega):=rfl;rw[h5] at h4;have:=hsl.out;omega
   have hend:Hid (de s.data.toList=(aR (s.data.toList.take i),s.data.toList.drop i)):=by unfold Hid de;rw[hcnt.out]
   have hdg:Hid ((s.extract 0 i).data.toList.all a6=true):=by unfold Hid;rw[bI,←hcnt.out];exact gW _ _
   have hi2:i≤2001:=Fj hi.out (d8 _ _).1;have his2:i≤s.size:=by have:=Fj hi.out (d8 s.data.toList 2001).2;rw[hsl.out] at this;exact this
   clear hcnt hi;go_upto_region 4 with fail
   refine wp_mono (av (Q:=aN _) (fun _=>True) (fun _=>false) (by kernel_rfl) ?_) (fun _ _ _ h=>aU h);have hbd:Below w1.heap.size w1 w1.drew:=(Below.refl _ _).drew;have s0:=(hbd.block _ (ag hr0)).trans hr0;have HB2:=HB.trans (hbd.mono HB.size);clear hbd hr0 HB;generalize w1.drew=w2 at *
   refine ai (i:=0) (v:=?vv22) rfl (by kernel_rfl) (fun _ _ _ h=>h) rfl ?hy22 ?rest22;case hy22=>(intro wy;go_simp;try with_reducible rfl)
   try simp only[Act.put,E9,E8,E7,E6,Fa,E_]
   refine ai (i:=1) (v:=?vv23) rfl (by kernel_rfl) (fun _ _ _ h=>h) rfl ?hy23 ?rest23;case hy23=>(intro wy;go_simp;try with_reducible rfl)
   try simp only[Act.put,E9,E8,E7,E6,Fa,E_]
   refine ai (i:=2) (v:=?vv24) rfl (by kernel_rfl) (fun _ _ _ h=>h) rfl ?hy24 ?rest24;case hy24=>(intro wy;go_simp;try with_reducible rfl)
   try simp only[Act.put,E9,E8,E7,E6,Fa,E_]
   refine ai (i:=4) (v:=?vv25) rfl (by kernel_rfl) (fun _ _ _ h=>h) rfl ?hy25 ?rest25;case hy25=>(intro wy;go_simp;try with_reducible rfl)
   try simp only[Act.put,E9,E8,E7,E6,Fa,E_]
   refine ai (i:=5) (v:=?vv26) rfl (by kernel_rfl) (fun _ _ _ h=>h) rfl ?hy26 ?rest26;case hy26=>(intro wy;go_simp;try with_reducible rfl)
   try simp only[Act.put,E9,E8,E7,E6,Fa,E_]
   refine ai (i:=6) (v:=?vv27) rfl (by kernel_rfl) (fun _ _ _ h=>h) rfl ?hy27 ?rest27;case hy27=>(intro wy;go_simp;try with_reducible rfl)
   try simp only[Act.put,E9,E8,E7,E6,Fa,E_]
   refine au (i:=3) rfl (by kernel_rfl) rfl (fun K hK=>?_);go_simp;refine (jT _ w2 (by simp;omega) hdg.out).mono ?_;rintro e w3 ⟨v3,rfl,hz3,hb3⟩;rw[bI] at hz3;obtain⟨p6,N6,c6,rfl,hN6,hNc6,hcm6,hd6⟩:=hz3.nat;refine hK _ _ (fun _ _=>trivial) ?_;clear hK K;try simp only[Act.put,E9,E8,E7,E6,Fa,E_]
   have r6:=(hb3.block _ (ag s0)).trans s0;have HB6:=HB2.trans (hb3.mono HB2.size);have hP:=bW (u0:=.bool false) (u1:=.slice p6 N6 c6) r6;have HZ:=E5 (hz3.puts hP r6 dI);have hB:=HB6.trans (hP.below w.heap.size (by omega));have q0:=aa r6 0;have q1:=aa r6 1;have f0:=frozen_of_row w3 w.heap.size 0 _ _ r6;have f1:=frozen_of_row w3 w.heap.size 1 _ _ r6;clear hz3 hd6 hb3 s0 HB2;refine au (i:=7) rfl (by kernel_rfl) rfl (fun K hK=>?_);go_simp;change K _ (fI w3 w.heap.size (.bool false) (.slice p6 N6 c6));refine hK _ _ (fun _ _=>trivial) ?_;clear hK K q0 q1 f0 f1;try simp only[Act.put,E9,E8,E7,E6,Fa,E_]
   refine ai (i:=8) (v:=?vv28) rfl (by kernel_rfl) (fun _ _ _ h=>h) rfl ?hy28 ?rest28;case hy28=>(intro wy;go_simp;try with_reducible rfl)
   try simp only[Act.put,E9,E8,E7,E6,Fa,E_]
   try simp only[Act.put,E9,E8,E7,E6,Fa,E_]
   refine aG (by kernel_rfl) ?_ _;simp only[aN];go_wp2_with fail
   (try simp only[Exit.inBlock,Exit.then])
   refine bodyPost_ret (aF rfl _ _ w.heap.size _ _ (0,0) _ rfl hP.row Tryz.underlying76 rfl (by kernel_rfl)) rfl ?_;refine⟨_,s.extract i s.size,rfl,?_,?_,hB⟩
   ·rw[hend.out];exact HZ.out
   ·unfold Hid;rw[hend.out];simp;exact Fi (by rw[Fq,hsl.out];omega)
end Go.Proofs.YtbnkpcfjechfiaaGreatDoor
