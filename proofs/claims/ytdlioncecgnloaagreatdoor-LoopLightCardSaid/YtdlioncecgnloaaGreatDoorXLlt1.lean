/- Lemmas of this claim. -/
import Derived.Test.YtdlioncecgnloaaGreatDoorTie
import Derived.Test.YtdlioncecgnloaaGreatDoorCards
import Derived.SevenTiedAt
import Derived.Test.YtdlioncecgnloaaGreatDoorXNC8
import Derived.Test.YtdlioncecgnloaaGreatDoorXPS12
import Derived.Test.YtdlioncecgnloaaGreatDoorXLE5
import Derived.Test.YtdlioncecgnloaaGreatDoorXLcs1
import Derived.Test.YtdlioncecgnloaaGreatDoorXLpa2
set_option linter.all false
set_option maxRecDepth 100000
set_option maxHeartbeats 8000000
namespace Go.Proofs.YtdlioncecgnloaaGreatDoor
open Go.RowKit Dc Dg
open Go.ChangeShapes Go.WideShapes
set_option maxRecDepth 100000
section
variable {H : Type} {enc : TypeId × Value → H} {w : World} {sp : Nat → Bool} {held : Bool}
theorem oI {t e:TypeId}{n fuel:Nat}{cs:List Value}{x:DataW H×List MemPlace} (ht:Tryz.prog.underlying t=some (.array n e)) (h:DataW.trod enc Tryz.prog w 0 sp held fuel t cs=some x) {i:Nat} (hi:i<n) :
  ∃ m y,DataW.trod enc Tryz.prog w 0 sp held m e ((cs.drop (i*Tryz.prog.cellsOf e)).take (Tryz.prog.cellsOf e))=some y:=by
 obtain⟨xs,m,_,_,_,hl,hx⟩:=DataW.trod_array ht h
 refine⟨m,xs[i]'(by omega),?_⟩
 rw[hx i hi,Co (by omega)]
theorem mK {fuel:Nat}{cs:List Value}{o:Nat}{x:DataW H×List MemPlace} (h:DataW.trod enc Tryz.prog w 0 sp held fuel 22 ((cs.drop o).take 1)=some x):∃ s,cs[o]?=some (.string s):=by
 obtain⟨s,hs,-,-⟩:=DataW.trod_string zA h
 exact⟨s,xr hs⟩
theorem A0 {v:Value}{d:DataW H}{pl:List MemPlace} (h:DataW.Trod enc Tryz.prog w 0 sp held 25 v d pl) (hf:jB 25 d) (hv:∃ cs,v=.agg cs) :
  ∃ a0 a1 b0 b1 tn,v=.agg #[.string a0,.string a1,.string b0,.string b1,.string tn]:=by
 obtain⟨fuel,h⟩:=h
 obtain⟨n0,y0,f0,-⟩:=ik Tryz.underlying25 h hf (i:=0) rfl
 obtain⟨n1,y1,f1,-⟩:=ik Tryz.underlying25 h hf (i:=1) rfl
 obtain⟨n2,y2,f2,-⟩:=ik Tryz.underlying25 h hf (i:=2) rfl
 obtain⟨xs,_,_,_,hcl,_,_⟩:=DataW.trod_struct Tryz.underlying25 h
 have hc1:Tryz.prog.cellsOf 25=5:=by kernel_rfl
 have hc2:Tryz.prog.cellsOf 23=2:=by kernel_rfl
 have hc3:Tryz.prog.cellsOf 22=1:=by kernel_rfl
 have ua:Tryz.prog.underlying 23=some (.array 2 22):=by kernel_rfl
 obtain⟨cs,rfl⟩:=hv
 rw[hc1] at hcl
 have f0:DataW.trod enc Tryz.prog w 0 sp held n0 23 (((Value.agg cs).cells.toList.drop 0).take 2)=some y0:=by rw[←hc2];exact f0
 have f1:DataW.trod enc Tryz.prog w 0 sp held n1 23 (((Value.agg cs).cells.toList.drop 2).take (Tryz.prog.cellsOf 23))=some y1:=f1
 have f2:DataW.trod enc Tryz.prog w 0 sp held n2 22 (((Value.agg cs).cells.toList.drop 4).take (Tryz.prog.cellsOf 22))=some y2:=f2
 rw[hc2] at f1
 rw[hc3] at f2
 obtain⟨m0,z0,g0⟩:=oI ua f0 (i:=0) (by decide)
 obtain⟨m1,z1,g1⟩:=oI ua f0 (i:=1) (by decide)
 obtain⟨m2,z2,g2⟩:=oI ua f1 (i:=0) (by decide)
 obtain⟨m3,z3,g3⟩:=oI ua f1 (i:=1) (by decide)
 rw[hc3] at g0 g1 g2 g3
 revert hcl g0 g1 g2 g3 f2
 have hk:∀ l:List Value,(Value.agg cs).cells.toList=l→cs.toList=l:=fun l h=>h
 generalize hl:(Value.agg cs).cells.toList=l
 intro hcl f2 g0 g1 g2 g3
 have hcs:=hk l hl
 match l,hcl with
 | [a,b,c,d,e],_ =>
  obtain⟨s0,h0⟩:=mK (cs:=[a,b]) (o:=0) g0
  obtain⟨s1,h1⟩:=mK (cs:=[a,b]) (o:=1) g1
  obtain⟨s2,h2⟩:=mK (cs:=[c,d]) (o:=0) g2
  obtain⟨s3,h3⟩:=mK (cs:=[c,d]) (o:=1) g3
  obtain⟨s4,h4⟩:=mK (cs:=[a,b,c,d,e]) (o:=4) f2
  obtain rfl:a=.string s0:=Option.some.inj h0
  obtain rfl:b=.string s1:=Option.some.inj h1
  obtain rfl:c=.string s2:=Option.some.inj h2
  obtain rfl:d=.string s3:=Option.some.inj h3
  obtain rfl:e=.string s4:=Option.some.inj h4
  exact⟨s0,s1,s2,s3,s4,by rw[←Array.toList_inj.1 (show cs.toList=(#[.string s0,.string s1,.string s2,.string s3,.string s4]:Array Value).toList from hcs)]⟩
end
open Go.RowKit Dg
theorem BN (w:World):tE 73 #[] (fun z=>CQ.real z.norm) w:=by
 refine⟨aP Tryz.func73 rfl (by kernel_rfl),fun x z w0 hw hk=>?_⟩
 obtain⟨a,b,c,d,e,f,rfl,hax,hay⟩:=id hk.v
 show Calls _ _ #[_] _ _
 go_enter Tryz.func73,Tryz.ntmps73
 go_upto_region 1 with fail
 have q1:=bk.new w0 a b c d e f 91
 have m1:=ae w0 (.cells #[a,b,c,d,e,f] 91)
 have z1:=size_alloc w0 (.cells #[a,b,c,d,e,f] 91)
 generalize w0.alloc (.cells #[a,b,c,d,e,f] 91)=w1 at *
 have q3:=bI.new w1 (.bool false) (.slice none 0 0) (.slice none 0 0) (.bool false) (.slice none 0 0) (.slice none 0 0) (by intro z e;cases e) (by intro z e;cases e) (by intro z e;cases e) (by intro z e;cases e) (by intro z e;cases e) (by intro z e;cases e)
 have m3:=ae w1 (.cells #[.bool false,.slice none 0 0,.slice none 0 0,.bool false,.slice none 0 0,.slice none 0 0] 91)
 generalize w1.alloc (.cells #[.bool false,.slice none 0 0,.slice none 0 0,.bool false,.slice none 0 0,.slice none 0 0] 91)=w3 at *
 rw[z1] at q3
 have q1:=q1.below m3
 have a0:=q1.c0;have a1:=q1.c1;have a2:=q1.c2;have a3:=q1.c3;have a4:=q1.c4;have a5:=q1.c5
 have MD:=BZ (m1.trans (m3.mono m1.size))
 have B3:=BZ q3
 have HX:=BZ (hk.below MD.out)
 clear q1 q3 m1 m3 z1 hax hay hk
 go_wp2_with fail
 refine (AL _ _ 10000 _ HX.out.v HX.out.s (by decide)).mono ?_
 rintro e wa ⟨v4,rfl,hv4,hba⟩
 go_wp2_with fail
 refine (de _ _ _ hv4).mono ?_
 rintro e w4 ⟨v4,rfl,hv4,hb4⟩
 have hb4:=hba.trans (hb4.mono hba.size)
 clear hba
 rw[j0] at hv4
 have hv4:IsV w4 v4 (ct (CQ.real z.norm)):=by rw[←bX];exact hv4
 obtain⟨x1,x2,x3,y1,y2,y3,rfl,hx,hy⟩:=hv4
 obtain⟨xm,xp,xl,xc,xq,xk,xd,hxe⟩:=hx.form
 obtain⟨ym,yp,yl,yc,yq,yk,yd,hye⟩:=hy.form
 obtain⟨rfl,rfl,rfl⟩:=cU hxe
 obtain⟨rfl,rfl,rfl⟩:=cU hye
 have B8:=B3.out.below hb4
 have k0:=B8.cell 0;have k1:=B8.cell 1;have k2:=B8.cell 2;have k3:=B8.cell 3;have k4:=B8.cell 4;have k5:=B8.cell 5
 have f0:=B8.fr 0;have f1:=B8.fr 1;have f2:=B8.fr 2;have f3:=B8.fr 3;have f4:=B8.fr 4;have f5:=B8.fr 5
 have P:=BZ (B8.putV hx hy)
 have M8:=BZ (P.out.2.2 _ _ (MD.out.trans (hb4.mono MD.out.size)) (by omega))
 clear hx hy hxe hye B8
 go_wp2_with fail
 have q0:=P.out.1.cell 0;have q1:=P.out.1.cell 1;have q2:=P.out.1.cell 2;have q3:=P.out.1.cell 3;have q4:=P.out.1.cell 4;have q5:=P.out.1.cell 5
 refine bodyPost_ret (v:=.agg #[.bool xm,.slice xp xl xc,.slice xq xk xd,.bool ym,.slice yp yl yc,.slice yq yk yd]) (by simp[results,Tryz.results73,go_sem,cZ] at q0 q1 q2 q3 q4 q5 ⊢;simp[results,Tryz.results73,go_sem,q0,q1,q2,q3,q4,q5]) rfl ⟨_,rfl,P.out.2.1,M8.out⟩
theorem Af (s:ByteArray) (w:World) (hG:Gw w) :
  Calls Tryz.prog 17 #[.string s] w fun e w'=>e=.returned (.tuple #[.string (ofC (fun z=>CQ.real z.norm) s).1,.int .i64 (ofC (fun z=>CQ.real z.norm) s).2])∧Below w.heap.size w w':=by
 have HP:=BZ (yy 73 #[] _ s w hG (BN w))
 go_enter Tryz.func17,Tryz.ntmps17
 go_wp2_with fail
 refine HP.out.mono ?_
 rintro e w2 ⟨rfl,hb2⟩
 go_wp2
 refine bodyPost_ret (v:=.tuple #[.string (ofC (fun z=>CQ.real z.norm) s).1,.int .i64 (ofC (fun z=>CQ.real z.norm) s).2]) (by simp[results,Tryz.results17,go_sem]) rfl ⟨rfl,hb2⟩
theorem vG (w:World) (s t u:ByteArray):IsS (w.alloc (.cells #[.string s,.string t,.string u] 22)) (.slice (some ⟨w.heap.size,0,none⟩) 3 3) [s,t,u]:=by
 refine⟨some ⟨w.heap.size,0,none⟩,3,rfl,by simp,by simp[maxLen],fun _=>⟨w.heap.size,0,rfl,by rw[size_alloc];omega,?_⟩⟩
 intro i hi j u hu
 match i,hi with
 | 0,_ =>
  match j,hu with
  | 0,hu=>simp[cellsOf] at hu;subst hu;exact am w _ _ 0 _ rfl
 | 1,_ =>
  match j,hu with
  | 0,hu=>simp[cellsOf] at hu;subst hu;exact am w _ _ 1 _ rfl
 | 2,_ =>
  match j,hu with
  | 0,hu=>simp[cellsOf] at hu;subst hu;exact am w _ _ 2 _ rfl
theorem sf (a0 a1 b0 b1 tn:ByteArray) (w:World) (hG:Gx w) :
  Calls Tryz.prog 13 #[.agg #[.string a0,.string a1,.string b0,.string b1,.string tn]] w fun e w'=>∃ p1 c1 p2 c2,e=.returned (.tuple #[.agg #[.slice p1 1 c1,.slice p2 3 c2],.bool (decide ((aM (bE CQ.mul) a0 b0).2=0))])∧IsS w' (.slice p1 1 c1) [a1]∧IsS w' (.slice p2 3 c2) [⟨#[49]⟩,⟨#[48]⟩,(aM (bE CQ.mul) a0 b0).1]∧Below w.heap.size w w':=by
 go_enter Tryz.func13,Tryz.ntmps13
 go_upto_region 1 with fail
 have s0:=heap_alloc_new w (.cells #[.string a0,.string a1,.string b0,.string b1,.string tn] 25 (0,0))
 have m0:=ae w (.cells #[.string a0,.string a1,.string b0,.string b1,.string tn] 25)
 have z0:=size_alloc w (.cells #[.string a0,.string a1,.string b0,.string b1,.string tn] 25)
 generalize w.alloc (.cells #[.string a0,.string a1,.string b0,.string b1,.string tn] 25)=wa at *
 have s1:=heap_alloc_new wa (.cells #[.slice none 0 0,.slice none 0 0] 28 (0,0))
 have m1:=ae wa (.cells #[.slice none 0 0,.slice none 0 0] 28)
 have z1:=size_alloc wa (.cells #[.slice none 0 0,.slice none 0 0] 28)
 rw[z0] at s1
 have s0:=(m1.block w.heap.size (by omega)).trans s0
 generalize wa.alloc (.cells #[.slice none 0 0,.slice none 0 0] 28)=w1 at *
 have HB1:=BZ (m0.trans (m1.mono m0.size))
 have hlt:w.heap.size+1<w1.heap.size:=by omega
 have cell5:∀ (wx:World) (g:Nat) (j:Nat),wx.heap[g]?=some (.cells #[.string a0,.string a1,.string b0,.string b1,.string tn] 25 (0,0))→wx.cell? ⟨g,j,none⟩=#[.string a0,.string a1,.string b0,.string b1,.string tn][j]?:=fun wx g j h=>by rw[World.cell?,h];rfl
 have e0:=cell5 w1 w.heap.size 0 s0
 have e1:=cell5 w1 w.heap.size 2 s0
 have HS0:=BZ s0
 have HS1:=BZ s1
 have HC5:=BZ cell5
 have HM:=BZ (sO a0 b0 w1 (hG.below HB1.out).g)
 clear s0 s1 m0 m1 z0 z1 hG cell5
 obtain⟨g,hg⟩:∃ g,g=w.heap.size:=⟨_,rfl⟩
 have HGE:=BZ hg
 rw[←hg] at e0 e1 ⊢
 clear hg
 go_wp2_with fail
 refine HM.out.mono ?_
 rintro e w2 ⟨rfl,hb2⟩
 obtain⟨n,hn⟩:∃ n,n=(aM (bE CQ.mul) a0 b0).1:=⟨_,rfl⟩
 obtain⟨er,her⟩:∃ n,n=(aM (bE CQ.mul) a0 b0).2:=⟨_,rfl⟩
 rw[←hn,←her]
 have HN:=BZ hn
 have HER:=BZ her
 have e2:=HC5.out w2 g 1 (by rw[HGE.out];exact (hb2.block _ (by omega)).trans HS0.out)
 have s1:w2.heap[g+1]?=some (.cells #[.slice none 0 0,.slice none 0 0] 28 (0,0)):=by rw[HGE.out];exact (hb2.block _ (by omega)).trans HS1.out
 have HB2:=BZ (HB1.out.trans (hb2.mono HB1.out.size))
 have hlt2:g+1<w2.heap.size:=by have:=hb2.size;have:=HGE.out;omega
 clear hn her e0 e1 HM hb2 hlt
 go_upto_region 2 with fail
 refine wp_region_lit ?_
 refine wpList_plain rfl (fun K hK=>?_)
 go_simp
 refine hK _ _ ?_
 clear hK K
 refine wpList_plain rfl (fun K hK=>?_)
 go_simp
 refine hK _ _ ?_
 clear hK K
 refine wpList_plain rfl (fun K hK=>?_)
 go_simp
 refine hK _ _ ?_
 clear hK K
 refine wpList_plain rfl (fun K hK=>?_)
 go_simp
 refine hK _ _ ?_
 clear hK K
 have m3:=ae w2 (.cells #[.string a1] 22)
 have z3:=BZ (size_alloc w2 (.cells #[.string a1] 22))
 have i1:=jU w2 a1
 generalize w2.alloc (.cells #[.string a1] 22)=w3 at *
 refine wpList_plain rfl (fun K hK=>?_)
 go_simp
 refine hK _ _ ?_
 clear hK K
 refine wpList_plain rfl (fun K hK=>?_)
 go_simp
 refine hK _ _ ?_
 clear hK K
 have m4:=ae w3 (.cells #[.string ⟨#[49]⟩,.string ⟨#[48]⟩,.string n] 22)
 have i2:=vG w3 ⟨#[49]⟩ ⟨#[48]⟩ n
 generalize w3.alloc (.cells #[.string ⟨#[49]⟩,.string ⟨#[48]⟩,.string n] 22)=w4 at *
 have hB4:=m3.trans (m4.mono m3.size)
 have s4:=(hB4.block (g+1) hlt2).trans s1
 have k0:=ah s4 0
 have k1:=ah s4 1
 have f0:=ay s4 0
 have f1:=ay s4 1
 have h4:g+1<w4.heap.size:=Cg hlt2 hB4.size
 have n1:Value.ownBlock (.slice (some ⟨w2.heap.size,0,none⟩) 1 1)≠some (g+1):=fun e=>by simp[Value.ownBlock] at e;omega
 have n2:Value.ownBlock (.slice (some ⟨w3.heap.size,0,none⟩) 3 3)≠some (g+1):=fun e=>by simp[Value.ownBlock] at e;have:=m3.size;omega
 have P1:=BZ (((i1.below m4).other n1 0 (.slice (some ⟨w2.heap.size,0,none⟩) 1 1)).other n1 1 (.slice (some ⟨w3.heap.size,0,none⟩) 3 3))
 have P2:=BZ ((i2.other n2 0 (.slice (some ⟨w2.heap.size,0,none⟩) 1 1)).other n2 1 (.slice (some ⟨w3.heap.size,0,none⟩) 3 3))
 have g0:=bJ s4 (.slice (some ⟨w2.heap.size,0,none⟩) 1 1) (.slice (some ⟨w3.heap.size,0,none⟩) 3 3)
 have x0:=ah g0 0
 have x1:=ah g0 1
 have M7:=BZ (((HB2.out.trans (hB4.mono HB2.out.size)).setCell (p:=⟨g+1,0,none⟩) (by rw[HGE.out];exact CI _) (.slice (some ⟨w2.heap.size,0,none⟩) 1 1)).setCell (p:=⟨g+1,1,none⟩) (by rw[HGE.out];exact CI _) (.slice (some ⟨w3.heap.size,0,none⟩) 3 3))
 clear n1 n2 s4 g0 m3 m4 z3 i1 i2 hB4 s1 h4 hlt2 e2
 refine wpList_plain rfl (fun K hK=>?_)
 go_simp
 refine hK _ _ ?_
 clear hK K
 refine wpList_plain rfl (fun K hK=>?_)
 go_simp
 refine hK _ _ ?_
 clear hK K
 refine wpList_plain rfl (fun K hK=>?_)
 go_simp
 refine hK _ _ ?_
 clear hK K
 refine wpList_plain rfl (fun K hK=>?_)
 go_simp
 refine hK _ _ ?_
 clear hK K
 refine wpList_plain rfl (fun K hK=>?_)
 go_simp
 refine hK _ _ ?_
 clear hK K
 refine wpList_nil ?_
 go_wp2
 refine bodyPost_ret (v:=.tuple #[.agg #[.slice (some ⟨w2.heap.size,0,none⟩) 1 1,.slice (some ⟨w3.heap.size,0,none⟩) 3 3],.bool (er == 0)]) (by simp at x0 x1;simp[results,Tryz.results13,go_sem,x0,x1]) rfl ⟨_,_,_,_,?_,P1.out,by rw[←HN.out];exact P2.out,M7.out⟩
 rw[←HER.out]
 rfl
theorem ofN (s r:ByteArray) (w:World) (h:ofC (fun z=>CQ.real z.norm) s=(r,0)) (hG:Gw w) :
  Calls Tryz.prog 17 #[.string s] w fun e w'=>e=.returned (.tuple #[.string r,.int .i64 0])∧Below w.heap.size w w':=by
 have:=Af s w hG
 rw[h] at this
 exact this
theorem BV (s t r:ByteArray) (w:World) (h:aM (bE CQ.sub) s t=(r,0)) (hG:Gw w) :
  Calls Tryz.prog 18 #[.string s,.string t] w fun e w'=>e=.returned (.tuple #[.string r,.int .i64 0])∧Below w.heap.size w w':=by
 have:=sP s t w hG
 rw[h] at this
 exact this
theorem vJ (a0 a1 b0 b1 tn:ByteArray) (w:World) (hG:Gx w) :
  Calls Tryz.prog 3 #[.agg #[.string a0,.string a1,.string b0,.string b1,.string tn]] w fun e w'=>e=.returned (.bool true)∧Below w.heap.size w w':=by
 go_enter Tryz.func3,Tryz.ntmps3
 go_upto_region 1 with fail
 have s0:=heap_alloc_new w (.cells #[.string a0,.string a1,.string b0,.string b1,.string tn] 25 (0,0))
 have m0:=ae w (.cells #[.string a0,.string a1,.string b0,.string b1,.string tn] 25)
 generalize w.alloc (.cells #[.string a0,.string a1,.string b0,.string b1,.string tn] 25)=w2 at *
 have cell5:∀ (j:Nat),w2.cell? ⟨w.heap.size,j,none⟩=#[.string a0,.string a1,.string b0,.string b1,.string tn][j]?:=fun j=>by rw[World.cell?,s0];rfl
 have e0:=cell5 0
 have e1:=cell5 1
 have e2:=cell5 2
 have e3:=cell5 3
 have e4:=cell5 4
 have HB:=BZ m0
 have HG:=BZ (hG.below m0)
 clear s0 m0 hG cell5
 obtain⟨n,hn⟩:∃ n,n=(aM (bE CQ.mul) a0 b0).1:=⟨_,rfl⟩
 obtain⟨er,her⟩:∃ n,n=(aM (bE CQ.mul) a0 b0).2:=⟨_,rfl⟩
 have hcf:=sf a0 a1 b0 b1 tn w2 HG.out
 rw[←hn,←her] at hcf
 have HCF:=BZ hcf
 clear hcf hn her
 go_wp2_with fail
 refine HCF.out.mono ?_
 rintro e w3 ⟨p1,c1,p2,c2,rfl,g1,g2,hb⟩
 clear HCF e0 e1 e2 e3 e4
 have HG:=BZ (HG.out.below hb)
 have HB:=BZ (HB.out.trans ((hb).mono HB.out.size))
 try have HK:=BZ (HK.out.below hb)
 clear hb
 obtain⟨K1,hK1⟩:∃ l,l=[a1]:=⟨_,rfl⟩
 obtain⟨K2,hK2⟩:∃ l:List ByteArray,l=[⟨#[49]⟩,⟨#[48]⟩,n]:=⟨_,rfl⟩
 have l1:K1.length=1:=by rw[hK1];rfl
 have l2:K2.length=3:=by rw[hK2];rfl
 rw[←hK1] at g1
 rw[←hK2] at g2
 rw[←l1] at g1 ⊢
 rw[←l2] at g2 ⊢
 have HK1:=BZ hK1
 have HK2:=BZ hK2
 have HLL:=BZ (And.intro l1 l2)
 clear hK1 hK2 l1 l2
 go_upto_region 2 with fail
 have kk:=ap w3 (.slice p1 (K1).length c1) (.slice p2 (K2).length c2)
 have hb:=ae w3 (.cells #[.slice p1 (K1).length c1,.slice p2 (K2).length c2] 28)
 have zz:=size_alloc w3 (.cells #[.slice p1 (K1).length c1,.slice p2 (K2).length c2] 28)
 generalize World.alloc w3 (.cells #[.slice p1 (K1).length c1,.slice p2 (K2).length c2] 28)=w4 at *
 obtain⟨gk,hgc⟩:∃ x,x=(w3).heap.size:=⟨_,rfl⟩
 rw[←hgc] at kk zz ⊢
 have HK:=BZ (show oz w4 gk p1 c1 p2 c2 K1 K2 from⟨kk.1,kk.2,g1.below hb,g2.below hb,by omega⟩)
 clear kk g1 g2 zz hgc
 have HG:=BZ (HG.out.below hb)
 have HB:=BZ (HB.out.trans ((hb).mono HB.out.size))
 try have HK:=BZ (HK.out.below hb)
 clear hb
 have x0:=HK.out.f0
 have x1:=HK.out.f1
 by_cases her:er=0
 ·subst her
  have hck:=dC _ K1 K2 w4 HK.out.F HG.out
  unfold az at hck
  by_cases hc:ar K1 K2=true
  ·rw[if_pos hc] at hck
   have HCK:=BZ hck
   rw[HK1.out,HK2.out] at hc
   have hlv:=vQ hc
   unfold r_ at hlv
   rw[←HK1.out,←HK2.out] at hlv
   clear hck hc
   go_wp2_with fail
   refine HCK.out.mono ?_
   rintro e w5 ⟨rfl,hb⟩
   clear HCK x0 x1
   have HG:=BZ (HG.out.below hb)
   have HB:=BZ (HB.out.trans ((hb).mono HB.out.size))
   try have HK:=BZ (HK.out.below hb)
   clear hb
   have x0:=HK.out.f0
   have x1:=HK.out.f1
   rcases hlv with he | ⟨en,fi,sq,le,hv1,hv2,hv3,hv4,hv5⟩
   ·have hen:=ow _ K1 K2 w5 HK.out.F HG.out
    rw[he] at hen
    have HEN:=BZ hen
    clear hen he
    go_wp2_with fail
    refine HEN.out.mono ?_
    rintro e w6 ⟨rfl,hb⟩
    clear HEN x0 x1
    have HG:=BZ (HG.out.below hb)
    have HB:=BZ (HB.out.trans ((hb).mono HB.out.size))
    try have HK:=BZ (HK.out.below hb)
    clear hb
    go_wp2_with fail
    refine (fB _ HG.out).mono ?_
    rintro e wz ⟨rfl,hz⟩
    have HB:=HB.out.trans (hz.mono HB.out.size)
    clear hz
    go_wp2
    go_ret
    exact⟨rfl,HB⟩
   ·have hen:=ow _ K1 K2 w5 HK.out.F HG.out
    rw[hv1] at hen
    have HEN:=BZ hen
    have H2:=BZ hv2
    have H3:=BZ hv3
    have H4:=BZ hv4
    have H5:=BZ hv5
    clear hen hv1 hv2 hv3 hv4 hv5
    go_wp2_with fail
    refine HEN.out.mono ?_
    rintro e w6 ⟨rfl,hb⟩
    clear HEN x0 x1
    have HG:=BZ (HG.out.below hb)
    have HB:=BZ (HB.out.trans ((hb).mono HB.out.size))
    try have HK:=BZ (HK.out.below hb)
    clear hb
    obtain⟨b1',o1',rfl,hl1,hc1⟩:=HK.out.l0.all (by rw[HLL.out.1];decide)
    obtain⟨b2',o2',rfl,hl2,hc2⟩:=HK.out.l1.all (by rw[HLL.out.2];decide)
    have y1:=hc1 0 (by rw[HLL.out.1];decide)
    have y2:=hc2 2 (by rw[HLL.out.2];decide)
    rw[HK1.out] at y1
    rw[HK2.out] at y2
    change w6.cell? ⟨b1',o1',none⟩=some (.string a1) at y1
    change w6.cell? ⟨b2',o2'+2,none⟩=some (.string n) at y2
    have x0:=HK.out.f0
    have x1:=HK.out.f1
    rw[HLL.out.1] at x0
    rw[HLL.out.2] at x1
    clear hc1 hc2
    go_wp2_with fail
    refine (ofN a1 fi w6 H2.out HG.out.g).mono ?_
    rintro e w7 ⟨rfl,hb⟩
    have y2:=aa hb hl2 y2
    have x1:=aa hb HK.out.lt x1
    clear x0 y1 hl1 hl2
    have HG:=BZ (HG.out.below hb)
    have HB:=BZ (HB.out.trans ((hb).mono HB.out.size))
    try have HK:=BZ (HK.out.below hb)
    clear hb
    go_wp2_with fail
    refine (ofN n sq w7 H3.out HG.out.g).mono ?_
    rintro e w8 ⟨rfl,hb⟩
    clear x1 y2 HK
    have HG:=BZ (HG.out.below hb)
    have HB:=BZ (HB.out.trans ((hb).mono HB.out.size))
    try have HK:=BZ (HK.out.below hb)
    clear hb
    go_wp2_with fail
    refine (BV _ sq le w8 H4.out HG.out.g).mono ?_
    rintro e w9 ⟨rfl,hb⟩
    have HG:=BZ (HG.out.below hb)
    have HB:=BZ (HB.out.trans ((hb).mono HB.out.size))
    try have HK:=BZ (HK.out.below hb)
    clear hb
    go_wp2_with fail
    refine (BL en le fi w9 H5.out HG.out.g).mono ?_
    rintro e w10 ⟨rfl,hb⟩
    have HG:=BZ (HG.out.below hb)
    have HB:=BZ (HB.out.trans ((hb).mono HB.out.size))
    try have HK:=BZ (HK.out.below hb)
    clear hb
    go_wp2_with fail
    refine (fB _ HG.out).mono ?_
    rintro e wz ⟨rfl,hz⟩
    have HB:=HB.out.trans (hz.mono HB.out.size)
    clear hz
    go_wp2
    go_ret
    exact⟨rfl,HB⟩
  ·rw[if_neg hc] at hck
   have HCK:=BZ hck
   clear hck hc
   go_wp2_with fail
   refine HCK.out.mono ?_
   rintro e w5 ⟨rfl,hb⟩
   clear HCK x0 x1
   have HG:=BZ (HG.out.below hb)
   have HB:=BZ (HB.out.trans ((hb).mono HB.out.size))
   try have HK:=BZ (HK.out.below hb)
   clear hb
   go_wp2_with fail
   refine (fB _ HG.out).mono ?_
   rintro e wz ⟨rfl,hz⟩
   have HB:=HB.out.trans (hz.mono HB.out.size)
   clear hz
   go_wp2
   go_ret
   exact⟨rfl,HB⟩
 ·have hne:(decide (er=0))=false:=decide_eq_false her
  clear her HK x0 x1
  go_wp2_with fail
  refine (fB _ HG.out).mono ?_
  rintro e wz ⟨rfl,hz⟩
  have HB:=HB.out.trans (hz.mono HB.out.size)
  clear hz
  go_wp2
  go_ret
  exact⟨rfl,HB⟩
open Go.RowKit Dc Dg
open Go.ChangeShapes Go.WideShapes Go.ChangeAt
set_option maxRecDepth 100000
theorem k9 (os:Os) (started:os.Started) (H:Type) (enc:TypeId×Value→H) :
  ReturnsInHanded {} Tryz.checked os 3 .any (fun w args=>(Rows.loopLightSpec.pre enc Tryz.prog Tryz.f3 [] false w args∧laidMetH Tryz.prog fI w)∧sizedMet enc Tryz.prog Tryz.f3 (OpenSpec.ofChange Rows.loopLightSpec) false w args)
   (Rows.loopLightSpec.post enc Tryz.prog Tryz.f3 false true false false):=by
 refine il (C:=Tryz.checked) (X:=fun w _=>laidMetH Tryz.prog fI w) (fun _ _ _ hh h=>h.of_heap hh) own started (by kernel_rfl) Tryz.func3
  (ChangeSpec.witness_shaped (enc:=enc) (C:=Tryz.checked) (os:=os) (X:=fun w _=>laidMetH Tryz.prog fI w) false (World.laidAll Tryz.prog os fI) #[.agg #[.string ⟨#[48]⟩,.string ⟨#[48]⟩,.string ⟨#[48]⟩,.string ⟨#[48]⟩,.string ⟨#[48]⟩]] 8 (World.laidAll_os _ _ _)
   (World.shaped_of_ZipB (by kernel_rfl) (by kernel_rfl)) (by kernel_rfl) (by kernel_rfl) (by kernel_rfl)
   (by rw[Go.MakeChecks.laidMetH_plain _ _ _ (by kernel_rfl)];exact laidMet_laidAll _ (by kernel_rfl) (by kernel_rfl))) ?_
 intro W base args ds gs before hval0 hW hwt hL hsh
 have hval:∀ (j:Nat) t v,Tryz.f3.params[j]?=some t→args[j]?=some v→Value.okWide Tryz.prog W .any base t v:=hval0
 have hW':=hW
 obtain⟨p,q,hA0,hV,rfl,_,_⟩:=hW
 have hA:DataW.TrodAll enc Tryz.prog W 0 (fun _=>true) true Tryz.f3.params.toList args.toList ds p:=hA0
 rw[Tryz.params3] at hA hval
 have hwt':(DataW.weightsEach Tryz.prog (Tryz.f3.params.toList++[]) (ds++gs)).all (·≤reachBytes)=true:=hwt
 rw[Tryz.params3,C2] at hwt'
 obtain⟨v0,d0,rfl,rfl,h0⟩:=trodAll_one hA
 obtain⟨rfl,rfl⟩:=trodVars_none hV
 simp only[C2] at hW' hwt'
 have hX:=xZ hL hsh
 have fits:∀ (j:Nat) (t:TypeId) (d:DataW H),([25]:List TypeId)[j]?=some t→[d0][j]?=some d→jB t d:=fun j t d ht hd n hn=>by
  have:=Cz.1 hwt' n (DataW.weights_mem_each ht hd n hn)
  exact of_decide_eq_true this
 have hlt:∀ x∈p,x.block<W.heap.size:=fun x hx=>by simpa using hW'.lt x hx
 have ok0:=hval 0 25 v0 rfl rfl
 obtain⟨cs0,hcs0,_⟩:=okWide_struct Tryz.underlying25 ok0
 obtain⟨ca0,cb0,cc0,cd0,ce0,rfl⟩:=A0 h0 (fits 0 _ _ rfl rfl) ⟨cs0,hcs0⟩
 refine (vJ ca0 cb0 cc0 cd0 ce0 W  hX).mono fun e W' ⟨he,hb⟩=>?_
 subst he
 exact⟨_,rfl,_,_,_,[],p,[],hW',trodAll_mk1 (shut_bool Tryz.underlying4 _),trodAll_mk1 (Below.trod laidAll (by kernel_rfl) (of_decide_eq_true (by kernel_rfl)) h0 hb (fun x hx=>hlt x hx)),rfl,hb.frame _,fun h=>by cases h⟩
end Go.Proofs.YtdlioncecgnloaaGreatDoor
