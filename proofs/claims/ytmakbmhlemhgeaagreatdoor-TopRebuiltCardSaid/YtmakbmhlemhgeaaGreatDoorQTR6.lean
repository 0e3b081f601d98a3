/- L -/
import Derived.Test.YtmakbmhlemhgeaaGreatDoorQPS2
import Derived.Test.YtmakbmhlemhgeaaGreatDoorQTR2
import Derived.Test.YtmakbmhlemhgeaaGreatDoorQTR4
import Derived.Test.YtmakbmhlemhgeaaGreatDoorQB
set_option linter.all false
set_option maxRecDepth 100000
set_option maxHeartbeats 8000000
namespace Go.Proofs.YtmakbmhlemhgeaaGreatDoor
open Go.RowKit Dg
theorem q8 (z:Int) (w:World) (h:z.natAbs<=9007199254740991) (hG:Gw w) :
  Calls Tryz.prog 20 #[.int .i64 z,.int .i64 1] w fun e w'=>e=.returned (.tuple #[.string (itz z),.int .i64 0])/\Below w.heap.size w w':=by
 refine (qZ z 1 w (by omega) (by omega) (by decide) (by decide) hG).mono ?_;rintro e w' ⟨rfl,hb⟩;have e1:mkRat z 1=(z:Rat):=by rw[Rat.mkRat_eq_div];grind
 rw[e1,gK (i6 (by omega))];exact⟨rfl,hb⟩
theorem kj (v:Value) (l:List Int) (w:World) (hl:IsZ w v l) (hn:l.length<=1000) (hs:∀ z∈l,z.natAbs<=9007199254740991) (hG:Gw w) :
  Calls Tryz.prog 6 #[v] w fun e w'=>∃ p c,e=.returned (.tuple #[.slice p l.length c,.bool true])/\IsS w' (.slice p l.length c) (l.map itz)/\Below w.heap.size w w':=by
 obtain⟨p,c,rfl,-⟩:=id hl.form;have HL:=ri hl;have HS:=ri hs;have HG:=ri hG;clear hl hs hG;go_enter Tryz.func6,Tryz.ntmps6;go_wp2;go_loopw [4,5] (fun s4 s5 wr=>∃ i:Nat,s5=.int .i64 i/\i<=l.length/\cm wr w.heap.size s4 ((l.map itz).take i)/\Below w.heap.size w wr) (fun _ s5 _=>l.length-(intOf s5).toNat)
 case atStart=>exact⟨0,rfl,rH _,cm.nil _ _,t_ _ _⟩
 case round =>
  obtain⟨i,rfl,hil,hown,hbr⟩:=hrel;by_cases hi:i<l.length
  ·obtain⟨b,o,rfl,hlb,hcs⟩:=(HL.out.below hbr).all (by omega);have c0:=hcs i hi;obtain⟨z,hz⟩:∃ z,z=l.getD i 0:=⟨_,rfl⟩;rw[<-hz] at c0
   have hm:z.natAbs<=9007199254740991:=by
    rw[hz,rs,ry hi];exact HS.out _ (rU hi)
   have HT:=ri (show (l.map itz).take (i+1)=(l.map itz).take i++[itz z] by
    have hl:i<(l.map itz).length:=by rw[rJ];exact hi
    rw[<-rL hl,sm,hz,rs,ry hi];rfl)
   have HP:=ri (q8 z wr hm (HG.out.below hbr));clear hcs hz hm;go_wp2_with fail
   refine HP.out.mono ?_;rintro e w2 ⟨rfl,hb⟩;have hown:=hown.below hb;have hbr:=hbr.trans (hb.mono hbr.size);clear hb c0 HP;go_wp2_with (at_builtin;refine aI 29 Tryz.underlying29 rfl (.tmp 24) (.tmp 26) rfl w.heap.size _ _ (itz z) rfl hown rfl (by simp;omega) hbr.size ?_)
   intro v' w3 hown' hb';rw[<-HT.out] at hown';have hb3:=hb' _ _ hbr (rp _);have HO:=ri hown';have HB:=ri hb3;clear hown hbr hown' hb' hb3;go_wp2;go_roundw;case rel=>exact⟨i+1,by go_num,by omega,HO.out,HB.out⟩
   case measure=>simp[intOf];omega
  ·have hie:i=l.length:=by omega
   rw[rz (by rw[rJ];omega)] at hown;have HO:=ri hown.isS;have HB:=ri hbr;clear hown hbr hi;obtain⟨p4,c4,rfl,-⟩:=id HO.out.form;simp only[rJ] at HO;subst hie;go_wp2;refine t8 (v:=.tuple #[.slice p4 l.length c4,.bool true]) (by simp[results,Tryz.results6,go_sem]) rfl ⟨p4,c4,rfl,HO.out,HB.out⟩
theorem lG (v:Value) (l:List Int) (w:World) (hl:IsS w v (l.map itz)) (hn:l.length<=1000) (hs:∀ z∈l,z.natAbs<=9007199254740991) (hG:Gw w) :
  Calls Tryz.prog 10 #[v] w fun e w'=>∃ p c,e=.returned (.tuple #[.slice p l.length c,.bool true])/\IsZ w' (.slice p l.length c) l/\Below w.heap.size w w':=by
 obtain⟨p,c,rfl,-⟩:=id hl.form;simp only[rJ] at hl |-;have HL:=ri hl;have HS:=ri hs;have HG:=ri hG;clear hl hs hG;go_enter Tryz.func10,Tryz.ntmps10;go_wp2;go_loopw [4,5] (fun s4 s5 wr=>∃ i:Nat,s5=.int .i64 i/\i<=l.length/\dU wr w.heap.size s4 (l.take i)/\Below w.heap.size w wr) (fun _ s5 _=>l.length-(intOf s5).toNat)
 case atStart=>exact⟨0,rfl,rH _,dU.nil _ _,t_ _ _⟩
 case round =>
  obtain⟨i,rfl,hil,hown,hbr⟩:=hrel;by_cases hi:i<l.length
  ·obtain⟨b,o,rfl,hlb,hcs⟩:=(HL.out.below hbr).all (by simp;omega);have c0:=hcs i (by simpa using hi);obtain⟨z,hz⟩:∃ z,z=l.getD i 0:=⟨_,rfl⟩
   have ez:aU (l.map itz) i=itz z:=by
    rw[hz];unfold aU;rw[rs,rs,sD,ry hi];rfl
   rw[ez] at c0
   have hm:z.natAbs<=9007199254740991:=by
    rw[hz,rs,ry hi];exact HS.out _ (rU hi)
   have HT:=ri (show l.take (i+1)=l.take i++[z] by
    rw[<-rL hi,hz,rs,ry hi];rfl)
   have HP:=ri (qx z wr hm (HG.out.below hbr));clear hcs hz hm ez;go_wp2_with fail
   refine HP.out.mono ?_;rintro e w2 ⟨rfl,hb⟩;have hown:=hown.below hb;have hbr:=hbr.trans (hb.mono hbr.size);clear hb c0 HP;go_wp2_with (at_builtin;refine b_ 22 Tryz.underlying22 rfl (.tmp 24) (.tmp 26) rfl w.heap.size _ _ z rfl hown rfl (by simp;omega) hbr.size ?_)
   intro v' w3 hown' hg' hb';rw[<-HT.out] at hown';have hb3:=hb' _ _ hbr (rp _);have HO:=ri hown';have HB:=ri hb3;clear hown hbr hown' hb' hb3 hg';go_wp2;go_roundw;case rel=>exact⟨i+1,by go_num,by omega,HO.out,HB.out⟩
   case measure=>simp[intOf];omega
  ·have hie:i=l.length:=by omega
   rw[rz (by omega)] at hown;have HO:=ri hown.isZ;have HB:=ri hbr;clear hown hbr hi;obtain⟨p4,c4,rfl,-⟩:=id HO.out.form;subst hie;go_wp2;refine t8 (v:=.tuple #[.slice p4 l.length c4,.bool true]) (by simp[results,Tryz.results10,go_sem]) rfl ⟨p4,c4,rfl,HO.out,HB.out⟩
theorem ja (w:World) (T:TypeId) {cs:Array Value}{k:Nat}{es:List Value} (hcs:cs.toList=cM es) (hk:∀ e∈es,(cellsOf e).length=k) (hn:es.length<=1000) :
  bT (w.alloc (.cells cs T)) k (.slice (some ⟨w.heap.size,0,none⟩) es.length es.length) es:=by
 refine⟨some ⟨w.heap.size,0,none⟩,es.length,rfl,rp _,by unfold maxLen;omega,fun _=>⟨w.heap.size,0,rfl,by rw[af];omega,fun i hi j u hu=>?_⟩⟩
 have hj:j<k:=by
  have:=(tl.1 hu).1
  rwa [hk _ (rU hi)] at this
 refine ah w cs T (0+i*k+j) u ?_;rw[sk,<-td,hcs,gp hk hi hj,hu]
theorem eC (w:World) (T:TypeId) {cs:Array Value}{l:List ByteArray} (hcs:cs.toList=l.map .string) (hn:l.length<=1000):IsS (w.alloc (.cells cs T)) (.slice (some ⟨w.heap.size,0,none⟩) l.length l.length) l:=by
 have:=ja w T (cs:=cs) (k:=1) (es:=l.map .string) (by rw[db];exact hcs) (fun e he=>by obtain⟨s,-,rfl⟩:=si.1 he;rfl) (by simpa using hn)
 rwa [rJ] at this
theorem o6 (w:World) (T:TypeId) {cs:Array Value}{l:List Int} (hcs:cs.toList=l.map (.int .i64)) (hn:l.length<=1000):IsZ (w.alloc (.cells cs T)) (.slice (some ⟨w.heap.size,0,none⟩) l.length l.length) l:=by
 have:=ja w T (cs:=cs) (k:=1) (es:=l.map (.int .i64)) (by rw[eT];exact hcs) (fun e he=>by obtain⟨s,-,rfl⟩:=si.1 he;rfl) (by simpa using hn)
 rwa [rJ] at this
theorem nn (w:World) (T:TypeId) {cs:Array Value}{l:List Int} (hcs:cs.toList=cM (l.map two)) (hn:l.length<=1000):d9 (w.alloc (.cells cs T)) (.slice (some ⟨w.heap.size,0,none⟩) l.length l.length) l:=by
 have:=ja w T (cs:=cs) (k:=2) (es:=l.map two) hcs (fun e he=>by obtain⟨s,-,rfl⟩:=si.1 he;rfl) (by simpa using hn)
 rwa [rJ] at this
theorem qi:fp [⟨#[48]⟩,⟨#[49]⟩] [⟨#[49]⟩]=(([⟨#[49]⟩],[⟨#[49]⟩,⟨#[49]⟩]),0):=by decide +kernel
theorem pO:fh [⟨#[49]⟩] [⟨#[49]⟩,⟨#[49]⟩] [⟨#[49]⟩,⟨#[48]⟩,⟨#[48]⟩]=0/\aX [⟨#[49]⟩] [⟨#[49]⟩,⟨#[49]⟩] [⟨#[49]⟩,⟨#[48]⟩,⟨#[48]⟩] 3=[⟨#[49]⟩,⟨#[45,49]⟩,⟨#[49]⟩]:=by decide +kernel
theorem jy:bA [1,-1,1]=0/\aZ [1,1] [1,-1,1]=[1,0,0]:=by decide +kernel
theorem j2 (w:World) (hG:Gx w) :
  Calls Tryz.prog 12 #[] w fun e w'=>e=.returned (.bool true)/\Below w.heap.size w w':=by
 have s1:=eC w 32 (cs:=#[.string ⟨#[48]⟩,.string ⟨#[49]⟩]) (l:=[⟨#[48]⟩,⟨#[49]⟩]) rfl (by decide);have b1:=ae w (.cells #[.string ⟨#[48]⟩,.string ⟨#[49]⟩] 32);have z1:=af w (.cells #[.string ⟨#[48]⟩,.string ⟨#[49]⟩] 32);go_enter Tryz.func12,Tryz.ntmps12;go_wp2_with fail
 generalize w.alloc (.cells #[.string ⟨#[48]⟩,.string ⟨#[49]⟩] 32)=w1 at *
 have s2:=eC w1 32 (cs:=#[.string ⟨#[49]⟩]) (l:=[⟨#[49]⟩]) rfl (by decide);have b2:=ae w1 (.cells #[.string ⟨#[49]⟩] 32);generalize w1.alloc (.cells #[.string ⟨#[49]⟩] 32)=w2 at *
 rw[z1] at s2;have HG:=ri ((hG.below b1).below b2);have HB:=ri (b1.trans (b2.mono b1.size));refine (np _ [⟨#[48]⟩,⟨#[49]⟩] [⟨#[49]⟩] _ _ _ w2 qi ⟨_,_,_,_,rfl,s1.below b2,s2⟩ HG.out).mono ?_;rintro e w3 ⟨p1,c1,p2,c2,rfl,g1,g2,hb⟩;have HG:=ri (HG.out.below hb);have HB:=ri (HB.out.trans (hb.mono HB.out.size));clear hb s1 s2 b1 b2 z1 hG;go_wp2_with fail
 have s3:=eC (w3.alloc (.cells #[.slice p1 1 c1,.slice p2 2 c2] 34)) 32 (cs:=#[.string ⟨#[49]⟩,.string ⟨#[48]⟩,.string ⟨#[48]⟩]) (l:=[⟨#[49]⟩,⟨#[48]⟩,⟨#[48]⟩]) rfl (by decide);have b3:=ae w3 (.cells #[.slice p1 1 c1,.slice p2 2 c2] 34);have z3:=af w3 (.cells #[.slice p1 1 c1,.slice p2 2 c2] 34);generalize w3.alloc (.cells #[.slice p1 1 c1,.slice p2 2 c2] 34)=w4 at *
 have b4:=ae w4 (.cells #[.string ⟨#[49]⟩,.string ⟨#[48]⟩,.string ⟨#[48]⟩] 32);generalize w4.alloc (.cells #[.string ⟨#[49]⟩,.string ⟨#[48]⟩,.string ⟨#[48]⟩] 32)=w5 at *
 rw[z3] at s3;have g1:=(g1.below b3).below b4;have g2:=(g2.below b3).below b4;have HG:=ri (HG.out.below b3);have HB:=ri (HB.out.trans (b3.mono HB.out.size));have HG:=ri (HG.out.below b4);have HB:=ri (HB.out.trans (b4.mono HB.out.size));have hrun:=RunN _ _ [⟨#[49]⟩] [⟨#[49]⟩,⟨#[49]⟩] [⟨#[49]⟩,⟨#[48]⟩,⟨#[48]⟩] w5 ⟨_,_,_,_,rfl,g1,g2⟩ s3 HG.out;rw[pO.1,show ([⟨#[49]⟩,⟨#[48]⟩,⟨#[48]⟩]:List ByteArray).length=3 from rfl,pO.2] at hrun;have HR:=ri hrun;clear b3 b4 z3 g1 g2 s3 hrun;refine HR.out.mono ?_;rintro e w6 ⟨v6,rfl,h6,-,hb⟩;have HG:=ri (HG.out.below hb);have HB:=ri (HB.out.trans (hb.mono HB.out.size));have h6:=h6 rfl;obtain⟨p6,c6,rfl,-⟩:=id h6.form;have H6:=ri h6;clear hb h6 HR;go_wp2_with fail
 have s7:=nn w6 24 (cs:=#[.int .i64 1,.int .i64 1,.int .i64 1,.int .i64 1]) (l:=[1,1]) rfl (by decide);have b7:=ae w6 (.cells #[.int .i64 1,.int .i64 1,.int .i64 1,.int .i64 1] 24);have z7:=af w6 (.cells #[.int .i64 1,.int .i64 1,.int .i64 1,.int .i64 1] 24);generalize w6.alloc (.cells #[.int .i64 1,.int .i64 1,.int .i64 1,.int .i64 1] 24)=w7 at *
 have s8:=o6 w7 3 (cs:=#[.int .i64 1,.int .i64 (-1),.int .i64 1]) (l:=[1,-1,1]) rfl (by decide);have b8:=ae w7 (.cells #[.int .i64 1,.int .i64 (-1),.int .i64 1] 3);generalize w7.alloc (.cells #[.int .i64 1,.int .i64 (-1),.int .i64 1] 3)=w8 at *
 rw[z7] at s8;have H6:=ri ((H6.out.below b7).below b8);have HG:=ri (HG.out.below b7);have HB:=ri (HB.out.trans (b7.mono HB.out.size));have HG:=ri (HG.out.below b8);have HB:=ri (HB.out.trans (b8.mono HB.out.size));have hst:=kX _ _ [1,1] [1,-1,1] w8 (s7.below b8) s8 (by decide) (by decide) (by decide) (by decide);rw[jy.1,jy.2] at hst;have HS:=ri hst;clear hst s7 s8 b7 b8 z7;refine HS.out.mono ?_;rintro e w9 ⟨v9,rfl,h9,-,hb⟩;have HG:=ri (HG.out.below hb);have HB:=ri (HB.out.trans (hb.mono HB.out.size));have h9:=h9 rfl;obtain⟨p9,c9,rfl,-⟩:=id h9.form;have h6:=H6.out.below hb;clear hb HS H6;obtain⟨ba,oa,rfl,hla,hca⟩:=h6.all (by decide);obtain⟨bb,ob,rfl,hlb,hcb⟩:=h9.all (by decide);have k1:w9.cell? ⟨ba,oa+1,none⟩=some (.string ⟨#[45,49]⟩):=hca 1 (by decide);have m00:w9.cell? ⟨bb,ob,none⟩=some (.int .i64 1):=(hcb 0 (by decide)).1;have m01:w9.cell? ⟨bb,ob+1,none⟩=some (.int .i64 1):=(hcb 0 (by decide)).2;have m10:w9.cell? ⟨bb,ob+2,none⟩=some (.int .i64 0):=(hcb 1 (by decide)).1;have m11:w9.cell? ⟨bb,ob+3,none⟩=some (.int .i64 0):=(hcb 1 (by decide)).2;have m20:w9.cell? ⟨bb,ob+4,none⟩=some (.int .i64 0):=(hcb 2 (by decide)).1;have m21:w9.cell? ⟨bb,ob+5,none⟩=some (.int .i64 0):=(hcb 2 (by decide)).2;clear hca hcb h6 h9;simp only[rM,r8];go_wp2;go_ret;exact⟨rfl,HB.out⟩
theorem oZ:(Tryz.prog.info? 24).map (fun i=>(i.zero,i.size,i.bytes))=some (some (two 0),2,16):=by kernel_rfl
structure gd (w wr:World) (bx:Nat) (vi vt:Value) (L1 L2:List Int):Prop where
 own:dU wr w.heap.size vi (0 :: L1)
 taps:cH 24 wr w.heap.size vt (1 :: L2)
 box:wr.heap[bx]?=some (.cells #[vt,.int .i64 0] 27 (0,0))
 bl:Below w.heap.size w wr
 lo:w.heap.size<=bx
theorem dL {w:World}{n:Nat}{e T:TypeId}{size:Nat}{v:Value}{m:Nat}{xs:List Value}{b:Nat}{cs:Array Value}{cc:Nat×Nat} (h:w.ownsRow n e size v m xs) (hb:w.heap[b]?=some (.cells cs T cc)) (he:T≠e):some b≠v.ownBlock:=fun ee=>by
 obtain⟨-,cur',cc',h4⟩:=jW h ee.symm;rw[hb] at h4
 injection h4 with h5
 injection h5 with _ h6 _
 exact he h6
theorem jV {w w':World}{n:Nat}{e:TypeId}{size:Nat}{v:Value}{m:Nat}{xs:List Value} (h:w.ownsRow n e size v m xs) (hk:∀ g,v.ownBlock=some g->w'.heap[g]?=w.heap[g]?):w'.ownsRow n e size v m xs:=by
 refine⟨h.1,?_⟩;rcases h.2 with h2 | ⟨g,cap,cur,rfl,hb,hg,h3⟩
 ·exact Or.inl h2
 ·exact Or.inr ⟨g,cap,cur,rfl,hb,(hk g rfl).trans hg,h3⟩
theorem lz (w:World) (T:TypeId) {cs:Array Value}{k n:Nat}{xs:List Value} (hcs:cs.toList=xs) (hl:xs.length=n*k) (hn:n<=1000) (base:Nat) (hb:base<=w.heap.size):(w.alloc (.cells cs T)).ownsRow base T k (.slice (some ⟨w.heap.size,0,none⟩) n n) n xs :=
 ⟨hl,Or.inr ⟨w.heap.size,n,cs,rfl,hb,heap_alloc_new w _,rp _,by unfold maxLen;omega,by rw[<-hl,<-hcs];simp,by rw[<-hl,<-hcs];exact rz (rp _)⟩⟩
theorem gd.lt {w wr:World}{bx:Nat}{vi vt:Value}{L1 L2:List Int} (h:gd w wr bx vi vt L1 L2):bx<wr.heap.size:=(rD.1 h.box).1
theorem gd.list {w wr w':World}{bx:Nat}{vi vt v':Value}{L1 L2:List Int}{z:Int} (h:gd w wr bx vi vt L1 L2) (ho:dU w' w.heap.size v' ((0 :: L1)++[z])) (hg:World.grownBy (wr.alloc (.cells #[.int .i64 z] 3)) w' vi.ownBlock)
  (hb:∀ B w0,Below B w0 wr->B<=w.heap.size->Below B w0 w'):gd w w' bx v' vt (L1++[z]) L2:=by
 have hlt:=h.lt;have hz:=af wr (.cells #[.int .i64 z] 3);have hbox:=((ae wr (.cells #[.int .i64 z] 3)).block bx hlt).trans h.box;have hi:(wr.alloc (.cells #[.int .i64 z] 3)).ownsRow w.heap.size 3 1 vi (0 :: L1).length ((0 :: L1).map (.int .i64)):=World.ownsRow.alloc h.own _;refine⟨ho,iz (World.ownsRow.alloc h.taps _) hi (by decide) hg,?_,hb _ _ h.bl (rp _),h.lo⟩;exact (hg.block bx (by omega) (dL hi hbox (by decide))).trans hbox
theorem gd.tap {w wr w':World}{bx:Nat}{vi vt v':Value}{L1 L2:List Int}{z:Int} (h:gd w wr bx vi vt L1 L2) (ho:cH 24 w' w.heap.size v' ((1 :: L2)++[z])) (hg:World.grownBy (wr.alloc (.cells #[.int .i64 z,.int .i64 z] 24)) w' vt.ownBlock)
  (hb:∀ B w0,Below B w0 wr->B<=w.heap.size->Below B w0 w') :
  w'.heap[bx]?=some (.cells #[vt,.int .i64 0] 27 (0,0))/\gd w (w'.setCell ⟨bx,0,none⟩ v') bx vi v' L1 (L2++[z]):=by
 have hlt:=h.lt;have hz:=af wr (.cells #[.int .i64 z,.int .i64 z] 24);have hbox:=((ae wr (.cells #[.int .i64 z,.int .i64 z] 24)).block bx hlt).trans h.box;have ht:(wr.alloc (.cells #[.int .i64 z,.int .i64 z] 24)).ownsRow w.heap.size 24 2 vt (1 :: L2).length (cM ((1 :: L2).map two)):=World.ownsRow.alloc h.taps _;have hbox':=(hg.block bx (by omega) (dL ht hbox (by decide))).trans hbox;have hi:w'.ownsRow w.heap.size 3 1 vi (0 :: L1).length ((0 :: L1).map (.int .i64)):=iz (World.ownsRow.alloc h.own _) ht (by decide) hg;refine⟨hbox',jV hi fun g hg=>heap_setCell_other _ _ _ _ fun e=>?_,jV ho fun g hg=>heap_setCell_other _ _ _ _ fun e=>?_,heap_setCell_same w' bx 0 #[vt,.int .i64 0] 27 v' hbox',(hb _ _ h.bl (rp _)).setCell (p:=⟨bx,0,none⟩) h.lo v',h.lo⟩
 ·exact dL hi hbox' (by decide) (by rw[hg,e])
 ·exact dL ho hbox' (by decide) (by rw[hg,e])
def cl (a:Int) (z:Int):Int:=max (-a) (min z a)
def clL (a:Int) (l:List Int) (i:Nat):List Int:=(l.take i).map (cl a)
theorem fR (a:Int) (l:List Int) (i:Nat):(clL a l i).length=min i l.length:=by simp[clL]
theorem jo (a:Int) (l:List Int) {i:Nat} (h:i<l.length):clL a l (i+1)=clL a l i++[cl a (l.getD i 0)]:=by
 unfold clL;rw[<-rL h,sX,rs,ry h];rfl
theorem ia {a:Nat}{l:List Int}{i:Nat}:∀ z∈clL a l i,z.natAbs<=a:=fun z hz=>by
 obtain⟨y,-,rfl⟩:=si.1 hz;unfold cl;omega
theorem k7 {P:Int->Prop}{l:List Int} (h:∀ t,t<l.length->P (l.getD t 0)):∀ z∈l,P z:=fun z hz=>by
 obtain⟨i,hi,rfl⟩:=sR hz;have:=h i hi
 rwa [rs,ry hi] at this
structure Rb2 (w wr:World) (bx:Nat) (vi vt vx:Value) (L X:List Int):Prop where
 i:IsZ wr vi (0 :: L)
 t:d9 wr vt (1 :: L)
 x:IsZ wr vx X
 c0:wr.cell? ⟨bx,0,none⟩=some vt
 c1:wr.cell? ⟨bx,1,none⟩=some (.int .i64 0)
 lt:bx<wr.heap.size
 bl:Below w.heap.size w wr
 g:Gx wr
theorem Rb2.below {w wr w':World}{bx:Nat}{vi vt vx:Value}{L X:List Int} (h:Rb2 w wr bx vi vt vx L X) (hb:Below wr.heap.size wr w'):Rb2 w w' bx vi vt vx L X :=
 ⟨h.i.below hb,h.t.below hb,h.x.below hb,ac hb h.lt h.c0,ac hb h.lt h.c1,rA h.lt hb.size,h.bl.trans (hb.mono h.bl.size),h.g.below hb⟩
theorem qC {w wo wr:World}{bx:Nat}{vi vt vx:Value}{L X:List Int} (h:gd w wo bx vi vt L L) (hb:Below wo.heap.size wo wr) (hx:IsZ wr vx X) (hG:Gx w):Rb2 w wr bx vi vt vx L X:=by
 have h0:=ag h.box 0;have h1:=ag h.box 1;simp only[tg,tw,List.getElem?_cons_succ] at h0 h1;exact⟨h.own.isZ.below hb,h.taps.isZZ.below hb,hx,ac hb h.lt h0,ac hb h.lt h1,rA h.lt hb.size,h.bl.trans (hb.mono h.bl.size),(hG.below h.bl).below hb⟩
theorem j4 {a b:List ByteArray}{X:List Int} (h:ax a b=true) (hx:∀ z∈X,z.natAbs<=100) (hl:X.length<=12):fh a b (X.map itz)=0:=by
 unfold fh;rw[if_pos h,if_neg (by rw[rJ];omega),if_pos (by unfold cK;exact rO.2 (et hx))]
theorem pT (v vx:Value) (a b x y:List ByteArray) (w:World) (h:fh a b x=0) (hy:aX a b x x.length=y) (hF:IsF w v a b) (hX:IsS w vx x) (hG:Gx w) :
  Calls Tryz.prog 9 #[v,vx] w fun e w'=>∃ p c,e=.returned (.tuple #[.slice p y.length c,.int .i64 0])/\IsS w' (.slice p y.length c) y/\Below w.heap.size w w':=by
 have hr:=RunN v vx a b x w hF hX hG;rw[h,hy] at hr;refine hr.mono ?_;rintro e w' ⟨u,rfl,h1,-,hb⟩;have h1:=h1 rfl;obtain⟨p,c,rfl,-⟩:=id h1.form;exact⟨p,c,rfl,h1,hb⟩
end Go.Proofs.YtmakbmhlemhgeaaGreatDoor
