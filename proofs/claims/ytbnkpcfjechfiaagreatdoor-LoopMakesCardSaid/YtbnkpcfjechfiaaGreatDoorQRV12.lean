/- Lemmas of this claim. -/
import Derived.Test.YtbnkpcfjechfiaaGreatDoorQLB5
import Derived.Test.YtbnkpcfjechfiaaGreatDoorQRV5
set_option linter.all false
set_option maxRecDepth 100000
set_option maxHeartbeats 8000000
namespace Go.Proofs.YtbnkpcfjechfiaaGreatDoor
open Go.RowKit Dg
theorem IsS.apart {w w':World}{g:Nat}{cs:Array Value}{t:TypeId} (h:w.heap[g]?=some (.cells cs t (0,0))) (hn:∀ (j:Nat) (s:ByteArray),cs[j]?≠some (Value.string s)) (hs:w.heap.size≤w'.heap.size) (ho:∀ b,b≠g→w'.heap[b]?=w.heap[b]?) {v:Value}{l:List ByteArray} (hv:IsS w v l):IsS w' v l:=by
 obtain⟨p,cap,e,h1,h2,h3⟩:=hv;refine⟨p,cap,e,h1,h2,fun hl=>?_⟩;obtain⟨b,o,e2,hlt,hc⟩:=h3 hl
 have hne:b≠g:=by
  intro e3;subst e3;have h0:=hc 0 hl 0 (.string (l[0]'(by simpa using hl))) (by simp[cellsOf]);rw[aa h] at h0;exact hn _ _ h0
 refine⟨b,o,e2,Fe hlt hs,fun i hi j u hu=>?_⟩;rw[←hc i hi j u hu];simp only[World.cell?];rw[ho b hne]
theorem cZ {p p':Option Addr}{n c n' c':Nat}:∀ (j:Nat) (s:ByteArray),(#[Value.slice p n c,.slice p' n' c']:Array Value)[j]?≠some (Value.string s):=by
 intro j s h;have:=FU h;simp at this
theorem bm {w:World}{g:Nat}{x0 y0 x y:Value}{t:TypeId} (h:w.heap[g]?=some (.cells #[x0,y0] t (0,0))) (hn:∀ (j:Nat) (s:ByteArray),(#[x0,y0]:Array Value)[j]?≠some (Value.string s)) {v:Value}{l:List ByteArray} (hv:IsS w v l) :
  IsS ((w.setCell ⟨g,0,none⟩ x).setCell ⟨g,1,none⟩ y) v l :=
 IsS.apart h hn (by simp[World.setCell]) (fun b hb=>(heap_setCell_other _ _ _ _ hb).trans (heap_setCell_other _ _ _ _ hb)) hv
def jA (r:(List ByteArray×List ByteArray)×Int) (w:World) (e:Ending) (w':World):Prop :=
 ∃ v,e=.returned (.tuple #[v,.int .i64 r.2])∧IsF w' v r.1.1 r.1.2∧Below w.heap.size w w'
structure DC (w:World) (v:Value) (a b:List Rat):Prop where
 ex:∃ p c q d,v=.agg #[.slice p a.length c,.slice q b.length d]∧j8 w (.slice p a.length c) a∧j8 w (.slice q b.length d) b
theorem wP (v:Value) (a b:List Rat) (w:World) (hP:DC w v a b) (ha:∀ q∈a,okQ q) (hb:∀ q∈b,okQ q) (hla:a.length<1000000) (hlb:b.length<1000000) :
  Calls Tryz.prog 74 #[v] w (jA (gE (a.map tq) (b.map tq)) w):=by
 obtain⟨p,c,q,d,rfl,h1,h2⟩:=hP.ex;go_enter Tryz.func74,Tryz.ntmps74;go_upto_region 1 with fail
 have l1:=aT w (.cells #[.slice p a.length c,.slice q b.length d] 102);have z1:=size_alloc w (.cells #[.slice p a.length c,.slice q b.length d] 102);generalize w.alloc (.cells #[.slice p a.length c,.slice q b.length d] 102)=w1 at *
 have l2:=aT w1 (.cells #[.slice none 0 0,.slice none 0 0] 24);have M2:=l1.below.trans (l2.below.mono l1.below.size);have r2:=l2.s0;rw[z1] at r2;have s2:=(l2.below.block _ (ag l1.s0)).trans l1.s0;have HA1:=h1.below M2;have HB1:=h2.below M2;clear l1 l2 h1 h2 hP;generalize w1.alloc (.cells #[.slice none 0 0,.slice none 0 0] 24)=w2 at *
 obtain⟨LA,hLA⟩:∃ LA,LA=a.map tq:=⟨_,rfl⟩;obtain⟨LB,hLB⟩:∃ LB,LB=b.map tq:=⟨_,rfl⟩;rw[←hLA,←hLB];have HLA:=E5 hLA;have HLB:=E5 hLB;have HOA:=E5 ha;have HOB:=E5 hb;have HCL:=E5 (show LA.length<1000000000∧LB.length<1000000000 by rw[hLA,hLB,Fp,Fp];omega);clear ha hb hLA hLB
 go_cut [4] from 5 to 11 (fun s4 wx=>∃ g pA cA pB cB,s4=.pointer (some ⟨g,0,none⟩)∧wx.heap[g]?=some (.cells #[.slice pA LA.length cA,.slice pB LB.length cB] 24 (0,0))∧IsS wx (.slice pA LA.length cA) LA∧IsS wx (.slice pB LB.length cB) LB∧Below w2.heap.size w2 wx)
 case first =>
   have hBd:Below w2.heap.size w2 w2.drew:=(Below.refl _ _).drew;refine wp_mono (av (Q:=aN _) (fun wx:World=>Below w2.drew.heap.size w2.drew wx) (fun t=>t == 8) (by kernel_rfl) ?_) (fun _ _ _ h=>aU h);have s3:=(hBd.block _ (ag s2)).trans s2;have hPA:=HA1.below hBd;have hPB:=HB1.below hBd;have HM:=E5 hBd;clear HA1 HB1 s2 M2 hBd;have hBB:Below w2.drew.heap.size w2.drew w2.drew:=Below.refl _ _;generalize w2.drew=wn at *
   have hlt:=ag s3;have HS3:=E5 s3;clear s3;refine ai (i:=0) (v:=?vv0) rfl (by kernel_rfl) (fun _ _ _ h=>h) rfl ?hy0 ?rest0;case hy0=>(intro wy;go_simp;try with_reducible rfl)
   try simp only[Act.put,E9,E8,E7,E6,Fa,E_]
   refine ax (i:=1) (v:=?vv1) rfl (by kernel_rfl) (fun _ _ _ h=>h) rfl hBB ?hy1 ?rest1
   case hy1 =>
    intro wy hy;have t0:=aa ((hy.block _ hlt).trans HS3.out) 0;clear hy;go_simp;try with_reducible rfl
   try simp only[Act.put,E9,E8,E7,E6,Fa,E_]
   refine ai (i:=3) (v:=?vv3) rfl (by kernel_rfl) (fun _ _ _ h=>h) rfl ?hy3 ?rest3;case hy3=>(intro wy;go_simp;try with_reducible rfl)
   try simp only[Act.put,E9,E8,E7,E6,Fa,E_]
   refine ax (i:=4) (v:=?vv4) rfl (by kernel_rfl) (fun _ _ _ h=>h) rfl hBB ?hy4 ?rest4
   case hy4 =>
    intro wy hy;have t0:=aa ((hy.block _ hlt).trans HS3.out) 1;clear hy;go_simp;try with_reducible rfl
   try simp only[Act.put,E9,E8,E7,E6,Fa,E_]
   clear hlt HS3;have hms:=HM.out.size;have hsz:=Fb wn.heap.size;refine gJ (i:=2) (i':=7) rfl rfl (by kernel_rfl) rfl rfl (fun K hK=>?n0) (fun K hK=>?d0)
   case' n0 =>
    go_simp;refine (mI _ a wn hPA HOA.out hla).mono ?_;rintro e wn ⟨vA,rfl,hA,hb⟩;rw[←HLA.out] at hA;obtain⟨pA,cA,rfl,-,-⟩:=hA.form;replace hPB:=hPB.below hb;clear hPA;have hBn:=hBB.trans (hb.mono hsz);replace hsz:=Fj hsz hb.size;clear hBB;have hBB:=hBn;clear hBn;try replace hr:=(hb.block _ (ag hr)).trans hr
    refine hK _ _ (fun _ _=>hBB) ?_;clear hK K hb;try simp only[Act.put,E9,E8,E7,E6,Fa,E_]
    refine gJ (i:=5) (i':=7) rfl rfl (by kernel_rfl) rfl rfl (fun K hK=>?n1) (fun K hK=>?d1)
    case' n1 =>
     go_simp;refine (mI _ b wn hPB HOB.out hlb).mono ?_;rintro e wn ⟨vB,rfl,hB,hb⟩;rw[←HLB.out] at hB;obtain⟨pB,cB,rfl,-,-⟩:=hB.form;replace hA:=hA.below hb;clear hPB;have hBn:=hBB.trans (hb.mono hsz);replace hsz:=Fj hsz hb.size;clear hBB;have hBB:=hBn;clear hBn;try replace hr:=(hb.block _ (ag hr)).trans hr
     refine hK _ _ (fun _ _=>hBB) ?_;clear hK K hb;try simp only[Act.put,E9,E8,E7,E6,Fa,E_]
     refine ai (i:=6) (v:=.agg #[.slice pA LA.length cA,.slice pB LB.length cB]) rfl (by kernel_rfl) (fun _ _ _ h=>h) rfl ?_ ?_
     ·(intro wy;go_simp;try with_reducible rfl)
     try simp only[Act.put,E9,E8,E7,E6,Fa,E_]
     refine au (i:=7) rfl (by kernel_rfl) rfl (fun K hK=>?d2)
   all_goals
    go_simp;have hla7:=aT wn (.cells #[.slice none 0 0,.slice none 0 0] 24);have hlb7:=hla7.below;have hr:=hla7.s0;have hgd:=hsz;clear hla7;try replace hPA:=hPA.below hlb7
    try replace hPB:=hPB.below hlb7
    try replace hA:=hA.below hlb7
    try replace hB:=hB.below hlb7
    have hBn:=hBB.trans (hlb7.mono hsz);replace hsz:=Fj hsz hlb7.size;clear hBB;have hBB:=hBn;clear hBn;try replace hr:=(hlb7.block _ (ag hr)).trans hr
    refine hK _ _ (fun _ _=>hBB) ?_;clear hK K hlb7;try simp only[Act.put,E9,E8,E7,E6,Fa,E_]
    generalize World.alloc wn (.cells #[.slice none 0 0,.slice none 0 0] 24)=wq at *
    generalize (World.heap wn).size=g7 at *
    rename World=>wn
   case' d0 =>
    refine au (i:=2) rfl (by kernel_rfl) rfl (fun K hK=>?_);go_simp;refine (mI _ a wn hPA HOA.out hla).mono ?_;rintro e wn ⟨vA,rfl,hA,hb⟩;rw[←HLA.out] at hA;obtain⟨pA,cA,rfl,-,-⟩:=hA.form;replace hPB:=hPB.below hb;clear hPA;have hBn:=hBB.trans (hb.mono hsz);replace hsz:=Fj hsz hb.size;clear hBB;have hBB:=hBn;clear hBn;try replace hr:=(hb.block _ (ag hr)).trans hr
    refine hK _ _ (fun _ _=>hBB) ?_;clear hK K hb;try simp only[Act.put,E9,E8,E7,E6,Fa,E_]
   case' d0 | d1 =>
    refine au (i:=5) rfl (by kernel_rfl) rfl (fun K hK=>?_);go_simp;refine (mI _ b wn hPB HOB.out hlb).mono ?_;rintro e wn ⟨vB,rfl,hB,hb⟩;rw[←HLB.out] at hB;obtain⟨pB,cB,rfl,-,-⟩:=hB.form;replace hA:=hA.below hb;clear hPB;have hBn:=hBB.trans (hb.mono hsz);replace hsz:=Fj hsz hb.size;clear hBB;have hBB:=hBn;clear hBn;try replace hr:=(hb.block _ (ag hr)).trans hr
    refine hK _ _ (fun _ _=>hBB) ?_;clear hK K hb;try simp only[Act.put,E9,E8,E7,E6,Fa,E_]
    refine ai (i:=6) (v:=.agg #[.slice pA LA.length cA,.slice pB LB.length cB]) rfl (by kernel_rfl) (fun _ _ _ h=>h) rfl ?_ ?_
    ·(intro wy;go_simp;try with_reducible rfl)
    try simp only[Act.put,E9,E8,E7,E6,Fa,E_]
   all_goals
    have hr8:=aI hr (.slice pA LA.length cA) (.slice pB LB.length cB);have f0:=ap hr 0;have f1:=ap hr 1;have e0:=ae hr 0;have e1:=ae hr 1;refine au (i:=8) rfl (by kernel_rfl) rfl (fun K hK=>?_);go_simp;refine hK _ _ (fun h=>by cases h) ?_;clear hK K e0 e1 f0 f1;refine aG (by kernel_rfl) ?_ _;simp only[aN];have hA8:=bm (x:=.slice pA LA.length cA) (y:=.slice pB LB.length cB) hr cZ hA;have hB8:=bm (x:=.slice pA LA.length cA) (y:=.slice pB LB.length cB) hr cZ hB;have hBP:=((HM.out.trans (hBB.mono hms)).setCell (p:=⟨g7,0,none⟩) (Fj hms hgd) (.slice pA LA.length cA)).setCell (p:=⟨g7,1,none⟩) (Fj hms hgd) (.slice pB LB.length cB);clear hr hA hB hBB;try go_wp2
    go_meet;exact⟨g7,pA,cA,pB,cB,rfl,hr8,hA8,hB8,hBP⟩
 case rest =>
  obtain⟨g7,pA,cA,pB,cB,rfl,hr,hA,hB,hBB⟩:=hcut;rename World=>w3;have hrr:=(hBB.block _ (ag r2)).trans r2;replace hBB:=M2.trans (hBB.mono M2.size);clear HA1 HB1 M2 s2 r2;have q0:=aa hr 0;have q1:=aa hr 1;go_wp2_with fail
  refine (kW _ LA w3 hA HCL.out.1).mono ?_;rintro e w4 ⟨rfl,hb4⟩;replace hBB:=hBB.trans (hb4.mono hBB.size);replace hr:=(hb4.block _ (ag hr)).trans hr;replace hrr:=(hb4.block _ (ag hrr)).trans hrr;replace hA:=hA.below hb4;replace hB:=hB.below hb4;clear hb4 q0 q1;have q0:=aa hr 0;have q1:=aa hr 1;obtain⟨i1,hi1⟩:∃ i1,i1=b_ LA:=⟨_,rfl⟩;rw[←hi1];have HI1:=E5 hi1;clear hi1
  cases i1 with
  | false =>
   have HC1:=E5 (show (b_ LA&&b_ LB)=false from by rw[←HI1.out];rfl);have HE:=E5 (show gE LA LB=(([],[]),8) from by unfold gE;rw[HC1.out];rfl);rw[HLA.out,HLB.out] at HE;have k0:=ae hrr 0;have k1:=ae hrr 1;have f0:=ap hrr 0;have f1:=ap hrr 1;have g0:=aI hrr (.slice none 0 0) (.slice none 0 0);have x0:=ae g0 0;have x1:=ae g0 1;have HBP:=E5 ((hBB.setCell (p:=⟨w.heap.size+1,0,none⟩) (Fx _) (.slice none 0 0)).setCell (p:=⟨w.heap.size+1,1,none⟩) (Fx _) (.slice none 0 0));go_wp2;refine bodyPost_ret (v:=.tuple #[.agg #[.slice none 0 0,.slice none 0 0],.int .i64 8]) (by simp at x0 x1;simp[results,Tryz.results74,go_sem,x0,x1]) rfl ⟨_,by rw[HE.out],?_,HBP.out⟩;rw[HE.out];exact⟨⟨none,0,none,0,rfl,b9.nil _ _,b9.nil _ _⟩⟩
  | true =>
   go_wp2_with fail
   refine (kW _ LB w4 hB HCL.out.2).mono ?_;rintro e w5 ⟨rfl,hb5⟩;replace hBB:=hBB.trans (hb5.mono hBB.size);replace hr:=(hb5.block _ (ag hr)).trans hr;replace hrr:=(hb5.block _ (ag hrr)).trans hrr;replace hA:=hA.below hb5;replace hB:=hB.below hb5;clear hb5 q0 q1;have q0:=aa hr 0;have q1:=aa hr 1;obtain⟨i2,hi2⟩:∃ i2,i2=b_ LB:=⟨_,rfl⟩;rw[←hi2];have HI2:=E5 hi2;clear hi2
   cases i2 with
   | false =>
    have HC1:=E5 (show (b_ LA&&b_ LB)=false from by rw[←HI1.out,←HI2.out];rfl);have HE:=E5 (show gE LA LB=(([],[]),8) from by unfold gE;rw[HC1.out];rfl);rw[HLA.out,HLB.out] at HE;have k0:=ae hrr 0;have k1:=ae hrr 1;have f0:=ap hrr 0;have f1:=ap hrr 1;have g0:=aI hrr (.slice none 0 0) (.slice none 0 0);have x0:=ae g0 0;have x1:=ae g0 1;have HBP:=E5 ((hBB.setCell (p:=⟨w.heap.size+1,0,none⟩) (Fx _) (.slice none 0 0)).setCell (p:=⟨w.heap.size+1,1,none⟩) (Fx _) (.slice none 0 0));go_wp2;refine bodyPost_ret (v:=.tuple #[.agg #[.slice none 0 0,.slice none 0 0],.int .i64 8]) (by simp at x0 x1;simp[results,Tryz.results74,go_sem,x0,x1]) rfl ⟨_,by rw[HE.out],?_,HBP.out⟩;rw[HE.out];exact⟨⟨none,0,none,0,rfl,b9.nil _ _,b9.nil _ _⟩⟩
   | true =>
    have HE:=E5 (show gE LA LB=((LA,LB),0) from by unfold gE;rw[←HI1.out,←HI2.out];rfl);rw[HLA.out,HLB.out] at HE;have k0:=ae hrr 0;have k1:=ae hrr 1;have f0:=ap hrr 0;have f1:=ap hrr 1;have g0:=aI hrr (.slice pA LA.length cA) (.slice pB LB.length cB);have x0:=ae g0 0;have x1:=ae g0 1;have HBP:=E5 ((hBB.setCell (p:=⟨w.heap.size+1,0,none⟩) (Fx _) (.slice pA LA.length cA)).setCell (p:=⟨w.heap.size+1,1,none⟩) (Fx _) (.slice pB LB.length cB));have HZA:=E5 (bm (x:=.slice pA LA.length cA) (y:=.slice pB LB.length cB) hrr cZ hA);have HZB:=E5 (bm (x:=.slice pA LA.length cA) (y:=.slice pB LB.length cB) hrr cZ hB);clear hA hB;go_wp2;refine bodyPost_ret (v:=.tuple #[.agg #[.slice pA LA.length cA,.slice pB LB.length cB],.int .i64 0]) (by simp at x0 x1;simp[results,Tryz.results74,go_sem,x0,x1]) rfl ⟨_,by rw[HE.out],?_,HBP.out⟩;rw[HE.out,←HLA.out,←HLB.out];exact⟨⟨pA,cA,pB,cB,rfl,HZA.out,HZB.out⟩⟩
theorem bk {w:World}{B g:Nat}{vs:Array Value}{T:TypeId} (h:w.heap[g]?=some (.cells vs T (0,0))) (hg:g<B) (i:Nat) {v:Value} (hv:vs[i]?=some v) (z:aC B w):z.w.cell? ⟨g,i,none⟩=some v :=
 (aa ((z.h.block _ hg).trans h) i).trans hv
theorem pP {l:List ByteArray}{qs:List Rat} (h:fU l qs) (h0:0<qs.length):0<qs.length∧qs.length<1000∧∀ q∈qs,Sz 29 (rt q):=⟨h0,by have:=h.len;omega,gG h⟩
theorem eo {w:World}{g:Nat}{x0 y0 x y:Value}{t:TypeId} (h:w.heap[g]?=some (.cells #[x0,y0] t (0,0))) (hn:∀ (j:Nat) (s:ByteArray),(#[x0,y0]:Array Value)[j]?≠some (Value.string s)) {v:Value}{l m:List ByteArray} (hv:IsF w v l m) :
  IsF ((w.setCell ⟨g,0,none⟩ x).setCell ⟨g,1,none⟩ y) v l m:=by
 obtain⟨p,c,q,d,e,h1,h2⟩:=hv.ex;exact⟨⟨p,c,q,d,e,bm h hn h1,bm h hn h2⟩⟩
theorem gD {fa fb ga gb:List ByteArray}{r:Except Int (List ByteArray×List ByteArray)}:(aO fa fb ga gb r).1.1.length≤7∧(aO fa fb ga gb r).1.2.length≤7:=by
 unfold aO
 split
 ·exact⟨Fk _,Fk _⟩
 ·split
  ·exact⟨Fk _,Fk _⟩
  ·cases r with
   | error n=>exact⟨Fk _,Fk _⟩
   | ok ab =>
    obtain⟨l1,l2⟩:=ab
    show (if 7<l1.length∨7<l2.length then (([],[]),3) else if az l1 l2=false then (([],[]),8) else ((l1,l2),0):(List ByteArray×List ByteArray)×Int).1.1.length≤7∧(if 7<l1.length∨7<l2.length then (([],[]),3) else if az l1 l2=false then (([],[]),8) else ((l1,l2),0):(List ByteArray×List ByteArray)×Int).1.2.length≤7
    by_cases h:7<l1.length∨7<l2.length
    ·rw[if_pos h];exact⟨Fk _,Fk _⟩
    ·rw[if_neg h];by_cases h2:az l1 l2=false
     ·rw[if_pos h2];exact⟨Fk _,Fk _⟩
     ·rw[if_neg h2];exact⟨by show l1.length≤7;omega,by show l2.length≤7;omega⟩
theorem mC (v v':Value) (a b:List ByteArray) (e:Int) (w:World) (hF:IsF w v a b) (hF':IsF w v' a b) (ha:a.length<1000) (hb:b.length<1000) :
  Calls Tryz.prog 23 #[v,.int .i64 e,v',.int .i64 e] w fun e w'=>e=.returned (.bool true)∧Below w.heap.size w w':=by
 obtain⟨p,c,q,d,rfl,hfa,hfb⟩:=id hF.ex;obtain⟨p',c',q',d',rfl,hga,hgb⟩:=id hF'.ex;go_enter Tryz.func23,Tryz.ntmps23;go_upto_region 1 with fail
 have l1:=aT w (.cells #[.slice p a.length c,.slice q b.length d] 24);have z1:=size_alloc w (.cells #[.slice p a.length c,.slice q b.length d] 24);generalize w.alloc (.cells #[.slice p a.length c,.slice q b.length d] 24)=w1 at *
 have l2:=aT w1 (.cells #[.slice p' a.length c',.slice q' b.length d'] 24);have hBB:=l1.below.trans (l2.below.mono l1.below.size);have s1:=l2.s0;rw[z1] at s1;have s0:=(l2.below.block _ (ag l1.s0)).trans l1.s0;generalize w1.alloc (.cells #[.slice p' a.length c',.slice q' b.length d'] 24)=w2 at *
 have HS:=E5 (Bu _ _ a b a b w2 (hF.below hBB) (hF'.below hBB) (by omega) (by omega) (by omega) (by omega));rw[decide_eq_true (rfl:a=a),decide_eq_true (rfl:b=b)] at HS;clear l1 l2 z1 hF hF' hfa hfb hga hgb;have q0:=ae s0 0;have q1:=ae s0 1;have q2:=ae s1 0;have q3:=ae s1 1;go_wp2_with fail
 refine HS.out.mono ?_;rintro e2 w3 ⟨rfl,hb3⟩;have hB3:=hBB.trans (hb3.mono hBB.size);clear HS hb3 hBB s0 s1 q0 q1 q2 q3;go_wp2;refine bodyPost_ret (v:=.bool true) (by simp[results,Tryz.results23,go_sem]) rfl ⟨rfl,hB3⟩
theorem uY (v:Value) (a b:List ByteArray) (k:ByteArray) (w:World) (hF:IsF w v a b) :
  Calls Tryz.prog 22 #[v,.string k] w (jA (dS a b k) w):=by
 have HF:=E5 hF;obtain⟨p,c,q,d,rfl,hfa,hfb⟩:=id hF.ex;go_enter Tryz.func22,Tryz.ntmps22;go_upto_region 1 with fail
 have l1:=aT w (.cells #[.slice p a.length c,.slice q b.length d] 24);have z1:=size_alloc w (.cells #[.slice p a.length c,.slice q b.length d] 24);generalize w.alloc (.cells #[.slice p a.length c,.slice q b.length d] 24)=w1 at *
 have l2:=aT w1 (.cells #[.slice none 0 0,.slice none 0 0] 24);have hBB:=l1.below.trans (l2.below.mono l1.below.size);have hrr:=l2.s0;rw[z1] at hrr;have s0:=(l2.below.block _ (ag l1.s0)).trans l1.s0;generalize w1.alloc (.cells #[.slice none 0 0,.slice none 0 0] 24)=w2 at *
 clear l1 l2 z1;have HFA:=E5 hfa;have HFB:=E5 hfb;have q0:=ae s0 0;have q1:=ae s0 1;have H1:=E5 (nZ _ a b w2 (HF.out.below hBB));clear hF hfa hfb;by_cases hck:az a b=true
 ·have hce:ay a b=0:=by unfold ay;rw[if_pos hck]
  rw[hce] at H1;clear hce;go_wp2_with fail
  refine H1.out.mono ?_;rintro e w4 ⟨rfl,hb4⟩;replace hBB:=hBB.trans (hb4.mono hBB.size);replace s0:=(hb4.block _ (ag s0)).trans s0;replace hrr:=(hb4.block _ (ag hrr)).trans hrr;clear q0 q1;have q0:=ae s0 0;have q1:=ae s0 1;clear H1 hb4;obtain⟨ok,hok⟩:∃ ok,ok=bu k.data.toList:=⟨_,rfl⟩;have HK:=E5 (rZ k w4);rw[←hok] at HK;have HOK:=E5 hok;have HCK:=E5 hck;clear hok hck;go_wp2_with fail
  refine HK.out.mono ?_;rintro e w5 ⟨rfl,hb5⟩;replace hBB:=hBB.trans (hb5.mono hBB.size);replace s0:=(hb5.block _ (ag s0)).trans s0;replace hrr:=(hb5.block _ (ag hrr)).trans hrr;clear q0 q1;have q0:=ae s0 0;have q1:=ae s0 1;clear HK hb5
  cases ok with
  | false =>
   have HE:=E5 (vh (k:=k) HCK.out HOK.out.symm);have k0:=ae hrr 0;have k1:=ae hrr 1;have f0:=ap hrr 0;have f1:=ap hrr 1;have g0:=aI hrr (.slice none 0 0) (.slice none 0 0);have x0:=ae g0 0;have x1:=ae g0 1;have HBP:=E5 ((hBB.setCell (p:=⟨w.heap.size+1,0,none⟩) (by show w.heap.size≤w.heap.size+1;omega) (.slice none 0 0)).setCell (p:=⟨w.heap.size+1,1,none⟩) (by show w.heap.size≤w.heap.size+1;omega) (.slice none 0 0));go_wp2;refine bodyPost_ret (v:=.tuple #[.agg #[.slice none 0 0,.slice none 0 0],.int .i64 2]) (by simp at x0 x1;simp[results,Tryz.results22,go_sem,x0,x1]) rfl ⟨_,by rw[HE.out],?_,HBP.out⟩;rw[HE.out];exact⟨⟨none,0,none,0,rfl,b9.nil _ _,b9.nil _ _⟩⟩
  | true =>
   obtain⟨qk,rfl,hqk,hkn,hkd⟩:=mZ HOK.out.symm;obtain⟨qa,qb,pa,pb,la,lb⟩:=kS HCK.out;have hsk:Sz 4 (rt qk):=⟨FE hkn (by decide),qk.den_pos,FE hkd (by decide)⟩;have HE:=E5 (tD (k:=tq qk) HCK.out HOK.out.symm);obtain⟨em,om⟩:=yv (gG pa) hsk (by decide);rw[pa.e,em,pb.e] at HE;obtain⟨ma,hma⟩:∃ ma,ma=qa.map (·*qk):=⟨_,rfl⟩;have HMA:=E5 hma;have HLM:=E5 (show ma.length=qa.length by rw[hma,Fp]);rw[←hma] at HE om;have HOM:=E5 om;have HPA:=E5 pa;have HPB:=E5 pb;have HXA:=E5 (pP pa la);have HSK:=E5 hsk;have HKK:=E5 hqk;clear hma em om pa pb la lb hsk hqk hkn hkd HCK HOK;obtain⟨⟨⟨L1,L2⟩,er⟩,hR0⟩:∃ R0:(List ByteArray×List ByteArray)×Int,R0=gE (ma.map tq) (qb.map tq):=⟨_,rfl⟩;have HM:=fun (v:Value) (wx:World) (h:DC wx v ma qb)=>wP v ma qb wx h HOM.out HPB.out.ok (by have:=HLM.out;have:=HPA.out.len;omega) (by have:=HPB.out.len;omega);rw[←HPA.out.e,←HPB.out.e] at HE;rw[←HPB.out.e] at hR0 HM;rw[←hR0] at HE HM;have HMM:=E5 HM;clear HM hR0;have hBB0:=hBB;have LA:=E5 (fun (wx:World) (h:Below (w.heap.size+1) w5 wx)=>HFA.out.below (hBB0.trans (h.mono (FP _ _))));have LB:=E5 (fun (wx:World) (h:Below (w.heap.size+1) w5 wx)=>HFB.out.below (hBB0.trans (h.mono (FP _ _))));have hz:=show w.heap.size+1<w5.heap.size from ag hrr;clear q0 q1 hBB0;go_upto_region 6 with fail
   have hBw:Below (w.heap.size+1) w5 w5.drew:=(Below.refl _ _).drew;refine aq (fun w'=>∃ z:aC (w.heap.size+1) w5,w'=z.w) (fun i=>i == 2||i == 4||i == 5||i == 8||i == 10||i == 13) (by kernel_rfl) (by kernel_rfl) ⟨⟨_,hBw⟩,rfl⟩ ?_;have hrr:=E5 (show (w5.drew).heap[w.heap.size+1]?=some (.cells #[.slice none 0 0,.slice none 0 0] 24 (0,0)) from hrr);have hz:w.heap.size+1<(w5.drew).heap.size:=hz;have k0:=bk (B:=w.heap.size+1) s0 (by omega) 0 rfl;have k1:=bk (B:=w.heap.size+1) s0 (by omega) 1 rfl;have HBB:=E5 hBB;clear s0 hBB;generalize w5.drew=wn at *
   refine ah 2 0 _ _ _ (by kernel_rfl) ?_;simp only[Fc,Fg,Fd,Ff];repeat (go_big_quiet_step (fail))
   refine wpQuiet_nil ?_;refine aj rfl rfl (fun K hK=>?_);go_simp;refine (kX _ qa wn (by rw[←HPA.out.e];exact LA.out wn hBw) HPA.out.ok (by have:=HPA.out.len;omega)).mono ?_;rintro e wn ⟨v1,rfl,hv1,hb⟩;replace hv1:=hv1.isQs;obtain⟨pp1,cc1,rfl,-,-⟩:=hv1.form;replace hrr:=E5 ((hb.block (w.heap.size+1) hz).trans hrr.out);replace hBw:=hBw.trans (hb.mono (FC hz));replace hz:=Fe hz hb.size;refine hK _ _ ⟨⟨_,hBw⟩,rfl⟩ ?_;clear hK K hb;try simp only[Act.put,E9,E8,E7,E6,Fa,E_]
   refine ah 1 3 _ _ _ (by kernel_rfl) ?_;simp only[Fc,Fg,Fd,Ff];repeat (go_big_quiet_step (fail))
   refine wpQuiet_nil ?_;refine aj rfl rfl (fun K hK=>?_);go_simp;refine (wQ qk wn HKK.out).mono ?_;rintro e wn ⟨v2,rfl,hv2,hb⟩;obtain⟨km,ka,kN,kd,kb,kM,ke,rfl⟩:=hv2.forms;replace hv1:=hv1.below hb;replace hrr:=E5 ((hb.block (w.heap.size+1) hz).trans hrr.out);replace hBw:=hBw.trans (hb.mono (FC hz));replace hz:=Fe hz hb.size;refine hK _ _ ⟨⟨_,hBw⟩,rfl⟩ ?_;clear hK K hb;try simp only[Act.put,E9,E8,E7,E6,Fa,E_]
   refine aj rfl rfl (fun K hK=>?_);go_simp;refine (jR _ _ qa qk 29 4 wn hv1 hv2 HXA.out.2.2 HSK.out (by decide) (by have:=HXA.out.2.1;omega)).mono ?_;rintro e wn ⟨v3,rfl,hv3,hb⟩;replace hv3:=hv3.isQs;rw[←HMA.out] at hv3;obtain⟨pp3,cc3,rfl,-,-⟩:=hv3.form;clear hv1 hv2;replace hrr:=E5 ((hb.block (w.heap.size+1) hz).trans hrr.out);replace hBw:=hBw.trans (hb.mono (FC hz));replace hz:=Fe hz hb.size;refine hK _ _ ⟨⟨_,hBw⟩,rfl⟩ ?_;clear hK K hb;try simp only[Act.put,E9,E8,E7,E6,Fa,E_]
   refine ah 2 6 _ _ _ (by kernel_rfl) ?_;simp only[Fc,Fg,Fd,Ff];repeat (go_big_quiet_step (fail))
   refine wpQuiet_nil ?_;refine aj rfl rfl (fun K hK=>?_);go_simp;refine (kX _ qb wn (by rw[←HPB.out.e];exact LB.out wn hBw) HPB.out.ok (by have:=HPB.out.len;omega)).mono ?_;rintro e wn ⟨v4,rfl,hv4,hb⟩;replace hv4:=hv4.isQs;obtain⟨pp4,cc4,rfl,-,-⟩:=hv4.form;replace hv3:=hv3.below hb;replace hrr:=E5 ((hb.block (w.heap.size+1) hz).trans hrr.out);replace hBw:=hBw.trans (hb.mono (FC hz));replace hz:=Fe hz hb.size;refine hK _ _ ⟨⟨_,hBw⟩,rfl⟩ ?_;clear hK K hb;try simp only[Act.put,E9,E8,E7,E6,Fa,E_]
   refine ah 1 9 _ _ _ (by kernel_rfl) ?_;simp only[Fc,Fg,Fd,Ff];repeat (go_big_quiet_step (fail))
   refine wpQuiet_nil ?_;refine aj rfl rfl (fun K hK=>?_);go_simp;refine (HMM.out _ wn ⟨⟨pp3,cc3,pp4,cc4,rfl,hv3,hv4⟩⟩).mono ?_;rintro e wn ⟨v,rfl,hF,hb⟩;simp only at hF ⊢;obtain⟨p1,c1,p2,c2,rfl,g1,g2⟩:=hF.ex;clear hv3 hv4 hF;replace hrr:=E5 ((hb.block (w.heap.size+1) hz).trans hrr.out);replace hBw:=hBw.trans (hb.mono (FC hz));replace hz:=Fe hz hb.size;refine hK _ _ ⟨⟨_,hBw⟩,rfl⟩ ?_;clear hK K hb;try simp only[Act.put,E9,E8,E7,E6,Fa,E_]
   refine ah 2 11 _ _ _ (by kernel_rfl) ?_;simp only[Fc,Fg,Fd,Ff];repeat (go_big_quiet_step (fail))
   refine wpQuiet_nil ?_;have hBS:=(hBw.setCell (p:=⟨w.heap.size+1,0,none⟩) (Fb _) (.slice p1 L1.length c1)).setCell (p:=⟨w.heap.size+1,1,none⟩) (Fb _) (.slice p2 L2.length c2);have HBP:=E5 (HBB.out.trans (hBS.mono (show w.heap.size≤w.heap.size+1 from FP _ _)));have HZA:=E5 (bm (x:=.slice p1 L1.length c1) (y:=.slice p2 L2.length c2) hrr.out cZ g1);have HZB:=E5 (bm (x:=.slice p1 L1.length c1) (y:=.slice p2 L2.length c2) hrr.out cZ g2);have e0:=ae hrr.out 0;have e1:=ae hrr.out 1;have f0:=ap hrr.out 0;have f1:=ap hrr.out 1;have g0:=aI hrr.out (.slice p1 L1.length c1) (.slice p2 L2.length c2);have x0:=ae g0 0;have x1:=ae g0 1;clear g1 g2 g0 hBw k0 k1;refine aj rfl rfl (fun K hK=>?_);go_simp;refine hK undef _ ⟨⟨_,hBS⟩,rfl⟩ ?_;clear hK K e0 e1 f0 f1 hBS;try simp only[Act.put,E9,E8,E7,E6,Fa,E_]
   refine ah 1 14 _ _ _ (by kernel_rfl) ?_;simp only[Fc,Fg,Fd,Ff];repeat (go_big_quiet_step (fail))
   refine wpQuiet_nil ?_;refine aB ?_;go_wp2;refine bodyPost_ret (v:=.tuple #[.agg #[.slice p1 L1.length c1,.slice p2 L2.length c2],.int .i64 er]) (by simp at x0 x1;simp[results,Tryz.results22,go_sem,x0,x1]) rfl ⟨_,by rw[HE.out],?_,HBP.out⟩;rw[HE.out];exact⟨⟨p1,c1,p2,c2,rfl,HZA.out,HZB.out⟩⟩
 ·have hce:ay a b=30:=by unfold ay;rw[if_neg hck]
  have HE:=E5 (show dS a b k=(([],[]),30) from jb (by simpa using hck));rw[hce] at H1;clear hce;go_wp2_with fail
  refine H1.out.mono ?_;rintro e w4 ⟨rfl,hb4⟩;replace hBB:=hBB.trans (hb4.mono hBB.size);replace s0:=(hb4.block _ (ag s0)).trans s0;replace hrr:=(hb4.block _ (ag hrr)).trans hrr;clear q0 q1;have q0:=ae s0 0;have q1:=ae s0 1;clear H1 hb4;have k0:=ae hrr 0;have k1:=ae hrr 1;have f0:=ap hrr 0;have f1:=ap hrr 1;have g0:=aI hrr (.slice none 0 0) (.slice none 0 0);have x0:=ae g0 0;have x1:=ae g0 1;have HBP:=E5 ((hBB.setCell (p:=⟨w.heap.size+1,0,none⟩) (by show w.heap.size≤w.heap.size+1;omega) (.slice none 0 0)).setCell (p:=⟨w.heap.size+1,1,none⟩) (by show w.heap.size≤w.heap.size+1;omega) (.slice none 0 0));go_wp2;refine bodyPost_ret (v:=.tuple #[.agg #[.slice none 0 0,.slice none 0 0],.int .i64 30]) (by simp at x0 x1;simp[results,Tryz.results22,go_sem,x0,x1]) rfl ⟨_,by rw[HE.out],?_,HBP.out⟩;rw[HE.out];exact⟨⟨none,0,none,0,rfl,b9.nil _ _,b9.nil _ _⟩⟩
end Go.Proofs.YtbnkpcfjechfiaaGreatDoor
