/- Lemmas of this claim. -/
import Derived.Test.YtomkanblohhpfaaGreatDoorZLde1
set_option linter.all false
set_option maxRecDepth 100000
set_option maxHeartbeats 8000000
namespace Go.Proofs.YtomkanblohhpfaaGreatDoor
open Go.RowKit Dg
structure UnP (w:World) (g:Nat) (p q:Option Addr):Prop where
 f0:w.cell? ⟨g,0,none⟩=some (.slice p 1 1)
 f1:w.cell? ⟨g,1,none⟩=some (.slice q 1 1)
 la:IsS w (.slice p 1 1) unA
 lb:IsS w (.slice q 1 1) unB
 G:Gx w
 lt:g<w.heap.size
theorem UnP.below {w w':World}{g:Nat}{p q:Option Addr} (h:UnP w g p q) (hb:Below w.heap.size w w'):UnP w' g p q :=
 ⟨aa hb h.lt h.f0,aa hb h.lt h.f1,h.la.below hb,h.lb.below hb,h.G.below hb,xB h.lt hb.size⟩
theorem UnP.F {w:World}{g:Nat}{p q:Option Addr} (h:UnP w g p q):IsF w (.agg #[.slice p 1 1,.slice q 1 1]) unA unB:=⟨⟨p,1,q,1,rfl,h.la,h.lb⟩⟩
structure HoP (w:World) (g:Nat):Prop where
 h0:w.cell? ⟨g,0,none⟩=some (.bool false)
 h1:w.cell? ⟨g,1,none⟩=some (.bool true)
 h2:w.cell? ⟨g,2,none⟩=some (.bool true)
 lt:g<w.heap.size
theorem HoP.below {w w':World}{g:Nat} (h:HoP w g) (hb:Below w.heap.size w w'):HoP w' g :=
 ⟨aa hb h.lt h.h0,aa hb h.lt h.h1,aa hb h.lt h.h2,xB h.lt hb.size⟩
theorem uI (v vl:Value) (w:World) (hF:IsF w v unA unB) (hl:IsS w vl [⟨#[49]⟩,⟨#[50]⟩,⟨#[48]⟩]) (hG:Gx w) :
  Calls Tryz.prog 31 #[v,vl] w fun e w'=>∃ gb cb,e=.returned (.tuple #[.slice (some ⟨gb,0,none⟩) 3 cb,.int .i64 0])∧HoP w' gb∧Below w.heap.size w w':=by
 refine (rM v vl unA unB _ w hF hl hG).mono ?_
 rintro e w' ⟨u,rfl,ho,hb⟩
 rw[nC.2] at ho
 rw[nC.1]
 have ho':w'.ownsRow w.heap.size 4 1 u 3 [.bool false,.bool true,.bool true]:=ho
 have hlt:=World.ownsRow.lt ho'
 rcases id ho'.2 with ⟨-,h0⟩ | ⟨g,cap,cur,rfl,-,-⟩
 ·cases h0
 ·exact⟨g,cap,rfl,⟨ho'.cells (g:=g) rfl 0 (.bool false) rfl,ho'.cells (g:=g) rfl 1 (.bool true) rfl,ho'.cells (g:=g) rfl 2 (.bool true) rfl,(hlt g rfl).2⟩,hb⟩
theorem lJ (w:World):IsS w (.slice none 0 0) []:=du.nil w 1
theorem dC {w:World}{p q:Option Addr}{n c m d:Nat}{a b:List ByteArray} (ha:IsS w (.slice p n c) a) (hb:IsS w (.slice q m d) b) (hn:n=a.length) (hm:m=b.length):IsF w (.agg #[.slice p n c,.slice q m d]) a b:=by
 subst hn;subst hm
 exact⟨⟨p,c,q,d,rfl,ha,hb⟩⟩
theorem fw {w:World}{v:Value}{a b:List ByteArray} (h:IsF w v a b) (hc:av a b=30) (hG:Gx w):∀ w',Below w.heap.size w w'→Calls Tryz.prog 37 #[v] w' fun e w''=>e=.returned (.int .i64 30)∧Below w'.heap.size w' w'':=fun w' hb=>by
 have:=cJ v a b w' (h.below hb) (hG.below hb)
 rw[hc] at this
 exact this
theorem qL (w:World) (hG:Gx w):Calls Tryz.prog 10 #[] w fun e w'=>e=.returned (.bool true)∧Below w.heap.size w w':=by
 go_enter Tryz.func10,Tryz.ntmps10
 go_upto_region 1 with fail
 refine wp_region_lit ?_
 have HB:=xo (Below.refl w.heap.size w)
 have HG:=xo hG
 clear hG
 refine wpList_plain rfl (fun K hK=>?_)
 go_simp
 refine hK _ _ ?_
 clear hK K
 try simp only[Act.put,xv,xu,xt,xr,xw,xx]
 refine wpList_plain rfl (fun K hK=>?_)
 go_simp
 refine hK _ _ ?_
 clear hK K
 try simp only[Act.put,xv,xu,xt,xr,xw,xx]
 have hm:=ac w (.cells #[.string ⟨#[49]⟩] 31)
 have F1:=xo (aP w ⟨#[49]⟩)
 generalize (w).alloc (.cells #[.string ⟨#[49]⟩] 31)=v1 at *
 have HB:=xo (HB.out.trans (hm.mono HB.out.size))
 have HG:=xo (HG.out.below hm)
 clear hm
 obtain⟨g1,hg⟩:∃ g,g=(w).heap.size:=⟨_,rfl⟩
 rw[←hg] at F1 ⊢
 clear hg
 refine wpList_plain rfl (fun K hK=>?_)
 go_simp
 refine hK _ _ ?_
 clear hK K
 try simp only[Act.put,xv,xu,xt,xr,xw,xx]
 refine wpList_plain rfl (fun K hK=>?_)
 go_simp
 refine hK _ _ ?_
 clear hK K
 try simp only[Act.put,xv,xu,xt,xr,xw,xx]
 have hm:=ac v1 (.cells #[.string ⟨#[49]⟩] 31)
 have F2:=xo (aP v1 ⟨#[49]⟩)
 generalize (v1).alloc (.cells #[.string ⟨#[49]⟩] 31)=v2 at *
 have F1:=xo (F1.out.below hm)
 have HB:=xo (HB.out.trans (hm.mono HB.out.size))
 have HG:=xo (HG.out.below hm)
 clear hm
 obtain⟨g2,hg⟩:∃ g,g=(v1).heap.size:=⟨_,rfl⟩
 rw[←hg] at F2 ⊢
 clear hg
 refine wpList_plain rfl (fun K hK=>?_)
 go_simp
 refine hK _ _ ?_
 clear hK K
 try simp only[Act.put,xv,xu,xt,xr,xw,xx]
 have hm:=ac v2 (.cells #[.string ⟨#[50]⟩] 31)
 have F3:=xo (aP v2 ⟨#[50]⟩)
 generalize (v2).alloc (.cells #[.string ⟨#[50]⟩] 31)=v3 at *
 have F1:=xo (F1.out.below hm)
 have F2:=xo (F2.out.below hm)
 have HB:=xo (HB.out.trans (hm.mono HB.out.size))
 have HG:=xo (HG.out.below hm)
 clear hm
 obtain⟨g3,hg⟩:∃ g,g=(v2).heap.size:=⟨_,rfl⟩
 rw[←hg] at F3 ⊢
 clear hg
 refine wpList_plain rfl (fun K hK=>?_)
 go_simp
 refine hK _ _ ?_
 clear hK K
 try simp only[Act.put,xv,xu,xt,xr,xw,xx]
 refine wpList_plain rfl (fun K hK=>?_)
 go_simp
 refine hK _ _ ?_
 clear hK K
 try simp only[Act.put,xv,xu,xt,xr,xw,xx]
 have hm:=ac v3 (.cells #[.string ⟨#[105]⟩] 31)
 have F4:=xo (aP v3 ⟨#[105]⟩)
 generalize (v3).alloc (.cells #[.string ⟨#[105]⟩] 31)=v4 at *
 have F1:=xo (F1.out.below hm)
 have F2:=xo (F2.out.below hm)
 have F3:=xo (F3.out.below hm)
 have HB:=xo (HB.out.trans (hm.mono HB.out.size))
 have HG:=xo (HG.out.below hm)
 clear hm
 obtain⟨g4,hg⟩:∃ g,g=(v3).heap.size:=⟨_,rfl⟩
 rw[←hg] at F4 ⊢
 clear hg
 refine wpList_plain rfl (fun K hK=>?_)
 go_simp
 refine hK _ _ ?_
 clear hK K
 try simp only[Act.put,xv,xu,xt,xr,xw,xx]
 have hm:=ac v4 (.cells #[.string ⟨#[49]⟩] 31)
 have F5:=xo (aP v4 ⟨#[49]⟩)
 generalize (v4).alloc (.cells #[.string ⟨#[49]⟩] 31)=v5 at *
 have F1:=xo (F1.out.below hm)
 have F2:=xo (F2.out.below hm)
 have F3:=xo (F3.out.below hm)
 have F4:=xo (F4.out.below hm)
 have HB:=xo (HB.out.trans (hm.mono HB.out.size))
 have HG:=xo (HG.out.below hm)
 clear hm
 obtain⟨g5,hg⟩:∃ g,g=(v4).heap.size:=⟨_,rfl⟩
 rw[←hg] at F5 ⊢
 clear hg
 refine wpList_plain rfl (fun K hK=>?_)
 go_simp
 refine hK _ _ ?_
 clear hK K
 try simp only[Act.put,xv,xu,xt,xr,xw,xx]
 refine wpList_plain rfl (fun K hK=>?_)
 go_simp
 refine hK _ _ ?_
 clear hK K
 try simp only[Act.put,xv,xu,xt,xr,xw,xx]
 have hm:=ac v5 (.cells #[.string ⟨#[52,48,57,55]⟩] 31)
 have F6:=xo (aP v5 ⟨#[52,48,57,55]⟩)
 generalize (v5).alloc (.cells #[.string ⟨#[52,48,57,55]⟩] 31)=v6 at *
 have F1:=xo (F1.out.below hm)
 have F2:=xo (F2.out.below hm)
 have F3:=xo (F3.out.below hm)
 have F4:=xo (F4.out.below hm)
 have F5:=xo (F5.out.below hm)
 have HB:=xo (HB.out.trans (hm.mono HB.out.size))
 have HG:=xo (HG.out.below hm)
 clear hm
 obtain⟨g6,hg⟩:∃ g,g=(v5).heap.size:=⟨_,rfl⟩
 rw[←hg] at F6 ⊢
 clear hg
 refine wpList_plain rfl (fun K hK=>?_)
 go_simp
 refine hK _ _ ?_
 clear hK K
 try simp only[Act.put,xv,xu,xt,xr,xw,xx]
 have hm:=ac v6 (.cells #[.string ⟨#[49]⟩] 31)
 have F7:=xo (aP v6 ⟨#[49]⟩)
 generalize (v6).alloc (.cells #[.string ⟨#[49]⟩] 31)=v7 at *
 have F1:=xo (F1.out.below hm)
 have F2:=xo (F2.out.below hm)
 have F3:=xo (F3.out.below hm)
 have F4:=xo (F4.out.below hm)
 have F5:=xo (F5.out.below hm)
 have F6:=xo (F6.out.below hm)
 have HB:=xo (HB.out.trans (hm.mono HB.out.size))
 have HG:=xo (HG.out.below hm)
 clear hm
 obtain⟨g7,hg⟩:∃ g,g=(v6).heap.size:=⟨_,rfl⟩
 rw[←hg] at F7 ⊢
 clear hg
 refine wpList_plain rfl (fun K hK=>?_)
 go_simp
 refine hK _ _ ?_
 clear hK K
 try simp only[Act.put,xv,xu,xt,xr,xw,xx]
 refine a_ 22 Tryz.underlying22 rfl (.const (.int .i64 8)) (.const (.int .i64 8)) rfl _ _ 8 rfl rfl rfl rfl (by decide) ?_
 intro v8 hrs hbs hss
 try simp only[Act.put,xv,xu,xt,xr,xw,xx]
 have hm:=hbs _ _ (Below.refl (v7).heap.size v7) (xy _)
 have F8:=xo hrs.isS
 clear hrs hbs hss
 have F1:=xo (F1.out.below hm)
 have F2:=xo (F2.out.below hm)
 have F3:=xo (F3.out.below hm)
 have F4:=xo (F4.out.below hm)
 have F5:=xo (F5.out.below hm)
 have F6:=xo (F6.out.below hm)
 have F7:=xo (F7.out.below hm)
 have HB:=xo (HB.out.trans (hm.mono HB.out.size))
 have HG:=xo (HG.out.below hm)
 clear hm
 obtain⟨g8,hg⟩:∃ g,g=(v7).heap.size:=⟨_,rfl⟩
 rw[←hg] at F8 ⊢
 clear hg
 refine wpList_plain rfl (fun K hK=>?_)
 go_simp
 refine hK _ _ ?_
 clear hK K
 try simp only[Act.put,xv,xu,xt,xr,xw,xx]
 have hm:=ac v8 (.cells #[.string ⟨#[49]⟩] 31)
 have F9:=xo (aP v8 ⟨#[49]⟩)
 generalize (v8).alloc (.cells #[.string ⟨#[49]⟩] 31)=v9 at *
 have F1:=xo (F1.out.below hm)
 have F2:=xo (F2.out.below hm)
 have F3:=xo (F3.out.below hm)
 have F4:=xo (F4.out.below hm)
 have F5:=xo (F5.out.below hm)
 have F6:=xo (F6.out.below hm)
 have F7:=xo (F7.out.below hm)
 have F8:=xo (F8.out.below hm)
 have HB:=xo (HB.out.trans (hm.mono HB.out.size))
 have HG:=xo (HG.out.below hm)
 clear hm
 obtain⟨g9,hg⟩:∃ g,g=(v8).heap.size:=⟨_,rfl⟩
 rw[←hg] at F9 ⊢
 clear hg
 refine wpList_plain rfl (fun K hK=>?_)
 go_simp
 refine hK _ _ ?_
 clear hK K
 try simp only[Act.put,xv,xu,xt,xr,xw,xx]
 refine wpList_plain rfl (fun K hK=>?_)
 go_simp
 refine hK _ _ ?_
 clear hK K
 try simp only[Act.put,xv,xu,xt,xr,xw,xx]
 have hm:=ac v9 (.cells #[.string ⟨#[50,47,52]⟩] 31)
 have F10:=xo (aP v9 ⟨#[50,47,52]⟩)
 generalize (v9).alloc (.cells #[.string ⟨#[50,47,52]⟩] 31)=v10 at *
 have F1:=xo (F1.out.below hm)
 have F2:=xo (F2.out.below hm)
 have F3:=xo (F3.out.below hm)
 have F4:=xo (F4.out.below hm)
 have F5:=xo (F5.out.below hm)
 have F6:=xo (F6.out.below hm)
 have F7:=xo (F7.out.below hm)
 have F8:=xo (F8.out.below hm)
 have F9:=xo (F9.out.below hm)
 have HB:=xo (HB.out.trans (hm.mono HB.out.size))
 have HG:=xo (HG.out.below hm)
 clear hm
 obtain⟨g10,hg⟩:∃ g,g=(v9).heap.size:=⟨_,rfl⟩
 rw[←hg] at F10 ⊢
 clear hg
 refine wpList_plain rfl (fun K hK=>?_)
 go_simp
 refine hK _ _ ?_
 clear hK K
 try simp only[Act.put,xv,xu,xt,xr,xw,xx]
 have hm:=ac v10 (.cells #[.string ⟨#[49]⟩] 31)
 have F11:=xo (aP v10 ⟨#[49]⟩)
 generalize (v10).alloc (.cells #[.string ⟨#[49]⟩] 31)=v11 at *
 have F1:=xo (F1.out.below hm)
 have F2:=xo (F2.out.below hm)
 have F3:=xo (F3.out.below hm)
 have F4:=xo (F4.out.below hm)
 have F5:=xo (F5.out.below hm)
 have F6:=xo (F6.out.below hm)
 have F7:=xo (F7.out.below hm)
 have F8:=xo (F8.out.below hm)
 have F9:=xo (F9.out.below hm)
 have F10:=xo (F10.out.below hm)
 have HB:=xo (HB.out.trans (hm.mono HB.out.size))
 have HG:=xo (HG.out.below hm)
 clear hm
 obtain⟨g11,hg⟩:∃ g,g=(v10).heap.size:=⟨_,rfl⟩
 rw[←hg] at F11 ⊢
 clear hg
 refine wpList_plain rfl (fun K hK=>?_)
 go_simp
 refine hK _ _ ?_
 clear hK K
 try simp only[Act.put,xv,xu,xt,xr,xw,xx]
 refine wpList_plain rfl (fun K hK=>?_)
 go_simp
 refine hK _ _ ?_
 clear hK K
 try simp only[Act.put,xv,xu,xt,xr,xw,xx]
 have hm:=ac v11 (.cells #[.slice none 0 0,.slice none 0 0,.slice (some ⟨g1,0,none⟩) 1 1,.slice none 0 0,.slice (some ⟨g2,0,none⟩) 1 1,.slice (some ⟨g3,0,none⟩) 1 1,.slice (some ⟨g4,0,none⟩) 1 1,.slice (some ⟨g5,0,none⟩) 1 1,.slice (some ⟨g6,0,none⟩) 1 1,.slice (some ⟨g7,0,none⟩) 1 1,.slice (some ⟨g8,0,none⟩) 8 8,.slice (some ⟨g9,0,none⟩) 1 1,.slice (some ⟨g10,0,none⟩) 1 1,.slice (some ⟨g11,0,none⟩) 1 1] 24)
 have cc:=fun j u h=>ap v11 #[.slice none 0 0,.slice none 0 0,.slice (some ⟨g1,0,none⟩) 1 1,.slice none 0 0,.slice (some ⟨g2,0,none⟩) 1 1,.slice (some ⟨g3,0,none⟩) 1 1,.slice (some ⟨g4,0,none⟩) 1 1,.slice (some ⟨g5,0,none⟩) 1 1,.slice (some ⟨g6,0,none⟩) 1 1,.slice (some ⟨g7,0,none⟩) 1 1,.slice (some ⟨g8,0,none⟩) 8 8,.slice (some ⟨g9,0,none⟩) 1 1,.slice (some ⟨g10,0,none⟩) 1 1,.slice (some ⟨g11,0,none⟩) 1 1] 24 j u h
 have zz:=size_alloc v11 (.cells #[.slice none 0 0,.slice none 0 0,.slice (some ⟨g1,0,none⟩) 1 1,.slice none 0 0,.slice (some ⟨g2,0,none⟩) 1 1,.slice (some ⟨g3,0,none⟩) 1 1,.slice (some ⟨g4,0,none⟩) 1 1,.slice (some ⟨g5,0,none⟩) 1 1,.slice (some ⟨g6,0,none⟩) 1 1,.slice (some ⟨g7,0,none⟩) 1 1,.slice (some ⟨g8,0,none⟩) 8 8,.slice (some ⟨g9,0,none⟩) 1 1,.slice (some ⟨g10,0,none⟩) 1 1,.slice (some ⟨g11,0,none⟩) 1 1] 24)
 generalize (v11).alloc (.cells #[.slice none 0 0,.slice none 0 0,.slice (some ⟨g1,0,none⟩) 1 1,.slice none 0 0,.slice (some ⟨g2,0,none⟩) 1 1,.slice (some ⟨g3,0,none⟩) 1 1,.slice (some ⟨g4,0,none⟩) 1 1,.slice (some ⟨g5,0,none⟩) 1 1,.slice (some ⟨g6,0,none⟩) 1 1,.slice (some ⟨g7,0,none⟩) 1 1,.slice (some ⟨g8,0,none⟩) 8 8,.slice (some ⟨g9,0,none⟩) 1 1,.slice (some ⟨g10,0,none⟩) 1 1,.slice (some ⟨g11,0,none⟩) 1 1] 24)=x0 at *
 have F1:=xo (F1.out.below hm)
 have F2:=xo (F2.out.below hm)
 have F3:=xo (F3.out.below hm)
 have F4:=xo (F4.out.below hm)
 have F5:=xo (F5.out.below hm)
 have F6:=xo (F6.out.below hm)
 have F7:=xo (F7.out.below hm)
 have F8:=xo (F8.out.below hm)
 have F9:=xo (F9.out.below hm)
 have F10:=xo (F10.out.below hm)
 have F11:=xo (F11.out.below hm)
 have HB:=xo (HB.out.trans (hm.mono HB.out.size))
 have HG:=xo (HG.out.below hm)
 clear hm
 obtain⟨gw,hgw⟩:∃ g,g=(v11).heap.size:=⟨_,rfl⟩
 rw[←hgw] at cc ⊢
 have hlt:gw<x0.heap.size:=by omega
 clear zz hgw
 have C0:=xo (fw (dC (lJ _) (lJ _) rfl rfl) ed.1 HG.out)
 have D0:=xo (And.intro (cc 0 _ rfl) (cc 1 _ rfl))
 have C1:=xo (fw (dC F1.out (lJ _) rfl rfl) ed.2.1 HG.out)
 have D1:=xo (And.intro (cc 2 _ rfl) (cc 3 _ rfl))
 have C2:=xo (fw (dC F2.out F3.out rfl rfl) ed.2.2.1 HG.out)
 have D2:=xo (And.intro (cc 4 _ rfl) (cc 5 _ rfl))
 have C3:=xo (fw (dC F4.out F5.out rfl rfl) ed.2.2.2.1 HG.out)
 have D3:=xo (And.intro (cc 6 _ rfl) (cc 7 _ rfl))
 have C4:=xo (fw (dC F6.out F7.out rfl rfl) ed.2.2.2.2.1 HG.out)
 have D4:=xo (And.intro (cc 8 _ rfl) (cc 9 _ rfl))
 have C5:=xo (fw (dC F8.out F9.out rfl rfl) ed.2.2.2.2.2.1 HG.out)
 have D5:=xo (And.intro (cc 10 _ rfl) (cc 11 _ rfl))
 have C6:=xo (fw (dC F10.out F11.out rfl rfl) ed.2.2.2.2.2.2 HG.out)
 have D6:=xo (And.intro (cc 12 _ rfl) (cc 13 _ rfl))
 clear cc F1 F2 F3 F4 F5 F6 F7 F8 F9 F10 F11
 refine wpList_plain rfl (fun K hK=>?_)
 go_simp
 refine hK _ _ ?_
 clear hK K
 try simp only[Act.put,xv,xu,xt,xr,xw,xx]
 refine wpList_nil ?_
 go_wp2
 go_loopw [2] (fun s2 wr=>∃ i:Nat,s2=.int .i64 i∧i≤7∧Below x0.heap.size x0 wr) (fun s2 _=>7-(intOf s2).toNat)
 case atStart=>exact⟨0,rfl,by decide,Below.refl _ _⟩
 case round =>
  obtain⟨i,rfl,hi7,hbr⟩:=hrel
  by_cases hi:i<7
  ·rcases (show i=0∨i=1∨i=2∨i=3∨i=4∨i=5∨i=6 by omega) with rfl | rfl | rfl | rfl | rfl | rfl | rfl
   ·have a0:=aa hbr hlt D0.out.1
    have a1:=aa hbr hlt D0.out.2
    go_wp2_with fail
    refine (C0.out _ hbr).mono ?_
    rintro e w3 ⟨rfl,hb⟩
    have hb3:=hbr.trans (hb.mono hbr.size)
    clear hb hbr a0 a1
    go_wp2
    go_roundw
    case rel=>exact⟨1,by go_num,by omega,hb3⟩
    case measure=>(first | (simp[intOf];done) | (simp[intOf];omega))
   ·have a0:=aa hbr hlt D1.out.1
    have a1:=aa hbr hlt D1.out.2
    go_wp2_with fail
    refine (C1.out _ hbr).mono ?_
    rintro e w3 ⟨rfl,hb⟩
    have hb3:=hbr.trans (hb.mono hbr.size)
    clear hb hbr a0 a1
    go_wp2
    go_roundw
    case rel=>exact⟨2,by go_num,by omega,hb3⟩
    case measure=>(first | (simp[intOf];done) | (simp[intOf];omega))
   ·have a0:=aa hbr hlt D2.out.1
    have a1:=aa hbr hlt D2.out.2
    go_wp2_with fail
    refine (C2.out _ hbr).mono ?_
    rintro e w3 ⟨rfl,hb⟩
    have hb3:=hbr.trans (hb.mono hbr.size)
    clear hb hbr a0 a1
    go_wp2
    go_roundw
    case rel=>exact⟨3,by go_num,by omega,hb3⟩
    case measure=>(first | (simp[intOf];done) | (simp[intOf];omega))
   ·have a0:=aa hbr hlt D3.out.1
    have a1:=aa hbr hlt D3.out.2
    go_wp2_with fail
    refine (C3.out _ hbr).mono ?_
    rintro e w3 ⟨rfl,hb⟩
    have hb3:=hbr.trans (hb.mono hbr.size)
    clear hb hbr a0 a1
    go_wp2
    go_roundw
    case rel=>exact⟨4,by go_num,by omega,hb3⟩
    case measure=>(first | (simp[intOf];done) | (simp[intOf];omega))
   ·have a0:=aa hbr hlt D4.out.1
    have a1:=aa hbr hlt D4.out.2
    go_wp2_with fail
    refine (C4.out _ hbr).mono ?_
    rintro e w3 ⟨rfl,hb⟩
    have hb3:=hbr.trans (hb.mono hbr.size)
    clear hb hbr a0 a1
    go_wp2
    go_roundw
    case rel=>exact⟨5,by go_num,by omega,hb3⟩
    case measure=>(first | (simp[intOf];done) | (simp[intOf];omega))
   ·have a0:=aa hbr hlt D5.out.1
    have a1:=aa hbr hlt D5.out.2
    go_wp2_with fail
    refine (C5.out _ hbr).mono ?_
    rintro e w3 ⟨rfl,hb⟩
    have hb3:=hbr.trans (hb.mono hbr.size)
    clear hb hbr a0 a1
    go_wp2
    go_roundw
    case rel=>exact⟨6,by go_num,by omega,hb3⟩
    case measure=>(first | (simp[intOf];done) | (simp[intOf];omega))
   ·have a0:=aa hbr hlt D6.out.1
    have a1:=aa hbr hlt D6.out.2
    go_wp2_with fail
    refine (C6.out _ hbr).mono ?_
    rintro e w3 ⟨rfl,hb⟩
    have hb3:=hbr.trans (hb.mono hbr.size)
    clear hb hbr a0 a1
    go_wp2
    go_roundw
    case rel=>exact⟨7,by go_num,by omega,hb3⟩
    case measure=>(first | (simp[intOf];done) | (simp[intOf];omega))
  ·obtain rfl:i=7:=by omega
   clear hi hi7
   have HB:=xo (HB.out.trans (hbr.mono HB.out.size))
   have HG:=xo (HG.out.below hbr)
   clear hbr hlt C0 D0 C1 D1 C2 D2 C3 D3 C4 D4 C5 D5 C6 D6
   go_upto_region 8 with fail
   have hm:=ac wr (.cells #[.string ⟨#[45,49]⟩] 31)
   have F1:=aP wr ⟨#[45,49]⟩
   have z1:=size_alloc wr (.cells #[.string ⟨#[45,49]⟩] 31)
   generalize wr.alloc (.cells #[.string ⟨#[45,49]⟩] 31)=y1 at *
   obtain⟨g1,hg⟩:∃ g,g=wr.heap.size:=⟨_,rfl⟩
   rw[←hg] at F1 z1 ⊢
   clear hg
   have HB:=xo (HB.out.trans (hm.mono HB.out.size))
   have HG:=xo (HG.out.below hm)
   replace hm:=ac y1 (.cells #[.string ⟨#[49]⟩] 31)
   have F2:=aP y1 ⟨#[49]⟩
   have z2:=size_alloc y1 (.cells #[.string ⟨#[49]⟩] 31)
   generalize y1.alloc (.cells #[.string ⟨#[49]⟩] 31)=y2 at *
   rw[z1] at F2 z2
   replace F1:=F1.below hm
   have HB:=xo (HB.out.trans (hm.mono HB.out.size))
   have HG:=xo (HG.out.below hm)
   clear hm z1
   have kk:=ar y2 (.slice (some ⟨g1,0,none⟩) 1 1) (.slice (some ⟨g1+1,0,none⟩) 1 1)
   have hm:=ac y2 (.cells #[.slice (some ⟨g1,0,none⟩) 1 1,.slice (some ⟨g1+1,0,none⟩) 1 1] 24)
   have zz:=size_alloc y2 (.cells #[.slice (some ⟨g1,0,none⟩) 1 1,.slice (some ⟨g1+1,0,none⟩) 1 1] 24)
   generalize y2.alloc (.cells #[.slice (some ⟨g1,0,none⟩) 1 1,.slice (some ⟨g1+1,0,none⟩) 1 1] 24)=y3 at *
   rw[z2] at kk zz
   obtain⟨g,hg⟩:∃ g,g=g1+1+1:=⟨_,rfl⟩
   obtain⟨g2,hg2⟩:∃ g2,g2=g1+1:=⟨_,rfl⟩
   rw[←hg] at kk ⊢
   rw[←hg2] at F2 kk ⊢
   clear z2
   have HP:=xo (show UnP y3 g (some ⟨g1,0,none⟩) (some ⟨g2,0,none⟩) from⟨kk.1,kk.2,F1.below hm,F2.below hm,HG.out.below hm,by omega⟩)
   have HB:=xo (HB.out.trans (hm.mono HB.out.size))
   have k0:=HP.out.f0
   have k1:=HP.out.f1
   clear hm hg hg2 zz kk F1 F2 HG
   go_wp2_with fail
   refine (oQ _ unA unB y3 HP.out.F HP.out.G).mono ?_
   rintro e w1 ⟨u,rfl,hu,hb⟩
   rw[rE] at hu ⊢
   obtain⟨p1,c1,p2,c2,rfl,-⟩:=hu.ex
   have HP:=xo (HP.out.below hb)
   have HB:=xo (HB.out.trans ((hb).mono HB.out.size))
   clear hb k0 k1
   have k0:=HP.out.f0
   have k1:=HP.out.f1
   go_upto_region 9 with fail
   have hb:=ac w1 (.cells #[.slice p1 0 c1,.slice p2 0 c2] 24)
   generalize World.alloc w1 (.cells #[.slice p1 0 c1,.slice p2 0 c2] 24)=w2 at *
   have HP:=xo (HP.out.below hb)
   have HB:=xo (HB.out.trans ((hb).mono HB.out.size))
   clear hb k0 k1
   have k0:=HP.out.f0
   have k1:=HP.out.f1
   clear hu
   have hm:=ac w2 (.cells #[.string ⟨#[49]⟩,.string ⟨#[50]⟩,.string ⟨#[48]⟩] 31)
   have HU:=xo (uI _ _ _ (HP.out.F.below hm) (cV w2 [⟨#[49]⟩,⟨#[50]⟩,⟨#[48]⟩] (by decide)) (HP.out.G.below hm))
   have HM:=xo hm
   clear hm
   go_wp2_with fail
   refine HU.out.mono ?_
   rintro e w3 ⟨gb,cb,rfl,HH,hb⟩
   have hb:=HM.out.trans (hb.mono HM.out.size)
   have HH:=xo HH
   clear HU HM
   have HP:=xo (HP.out.below hb)
   have HB:=xo (HB.out.trans ((hb).mono HB.out.size))
   clear hb k0 k1
   have k0:=HP.out.f0
   have k1:=HP.out.f1
   go_wp2_with fail
   refine (hZ _ unA unB ⟨#[50]⟩ ⟨#[51]⟩ 0 w3 HP.out.F HP.out.G rfl (by decide) vE.1).mono ?_
   rintro e w4 ⟨rfl,hb⟩
   rw[vE.2]
   have HH:=xo (HH.out.below hb)
   have HP:=xo (HP.out.below hb)
   have HB:=xo (HB.out.trans ((hb).mono HB.out.size))
   clear hb k0 k1
   have k0:=HP.out.f0
   have k1:=HP.out.f1
   go_wp2_with fail
   refine (hZ _ unA unB ⟨#[48]⟩ ⟨#[50]⟩ 0 w4 HP.out.F HP.out.G rfl (by decide) vF.1).mono ?_
   rintro e w5 ⟨rfl,hb⟩
   rw[vF.2]
   have HH:=xo (HH.out.below hb)
   have HP:=xo (HP.out.below hb)
   have HB:=xo (HB.out.trans ((hb).mono HB.out.size))
   clear hb k0 k1
   have k0:=HP.out.f0
   have k1:=HP.out.f1
   go_wp2_with fail
   refine (l7 false _ unA unB ⟨#[49]⟩ ⟨#[48]⟩ w5 HP.out.F HP.out.G (fun u wx hu hx hck _ _=>iF u unA unB ⟨#[49]⟩ ⟨#[48]⟩ wx hu hx hck (Or.inl vG.1))).mono ?_
   rintro e w6 ⟨rfl,hb⟩
   rw[vG.2]
   have HH:=xo (HH.out.below hb)
   have HP:=xo (HP.out.below hb)
   have HB:=xo (HB.out.trans ((hb).mono HB.out.size))
   clear hb k0 k1
   have k0:=HP.out.f0
   have k1:=HP.out.f1
   go_wp2_with fail
   refine (oV _ unA unB ⟨#[105]⟩ w6 HP.out.F HP.out.G).mono ?_
   rintro e w7 ⟨u,rfl,hu,hb⟩
   rw[tZ.1] at hu ⊢
   obtain⟨p1,c1,p2,c2,rfl,-⟩:=hu.ex
   have HH:=xo (HH.out.below hb)
   have HP:=xo (HP.out.below hb)
   have HB:=xo (HB.out.trans ((hb).mono HB.out.size))
   clear hb k0 k1
   have k0:=HP.out.f0
   have k1:=HP.out.f1
   go_upto_region 14 with fail
   have hb:=ac w7 (.cells #[.slice p1 0 c1,.slice p2 0 c2] 24)
   generalize World.alloc w7 (.cells #[.slice p1 0 c1,.slice p2 0 c2] 24)=w8 at *
   have HH:=xo (HH.out.below hb)
   have HP:=xo (HP.out.below hb)
   have HB:=xo (HB.out.trans ((hb).mono HB.out.size))
   clear hb k0 k1
   have k0:=HP.out.f0
   have k1:=HP.out.f1
   clear hu
   have hm:=ac w8 (.cells #[.string ⟨#[52,48,57,54]⟩] 31)
   have hl:=aP w8 ⟨#[52,48,57,54]⟩
   have hm2:=ac (World.alloc w8 (.cells #[.string ⟨#[52,48,57,54]⟩] 31)) (.cells #[.string ⟨#[49]⟩] 31)
   have hl2:=aP (World.alloc w8 (.cells #[.string ⟨#[52,48,57,54]⟩] 31)) ⟨#[49]⟩
   have hM:=hm.trans (hm2.mono hm.size)
   have HU:=xo (oV _ [⟨#[52,48,57,54]⟩] unB ⟨#[50]⟩ _ (dC (hl.below hm2) hl2 rfl rfl) (HP.out.G.below hM))
   rw[size_alloc] at HU
   have HM:=xo hM
   clear hm hm2 hl hl2 hM
   go_wp2_with fail
   refine HU.out.mono ?_
   rintro e w9 ⟨u,rfl,hu,hb⟩
   rw[tZ.2.1] at hu ⊢
   obtain⟨p1,c1,p2,c2,rfl,-⟩:=hu.ex
   have hb:=HM.out.trans (hb.mono HM.out.size)
   have HH:=xo (HH.out.below hb)
   clear HU HM
   have HP:=xo (HP.out.below hb)
   have HB:=xo (HB.out.trans ((hb).mono HB.out.size))
   clear hb k0 k1
   have k0:=HP.out.f0
   have k1:=HP.out.f1
   go_upto_region 15 with fail
   have hb:=ac w9 (.cells #[.slice p1 0 c1,.slice p2 0 c2] 24)
   generalize World.alloc w9 (.cells #[.slice p1 0 c1,.slice p2 0 c2] 24)=w10 at *
   have HH:=xo (HH.out.below hb)
   have HP:=xo (HP.out.below hb)
   have HB:=xo (HB.out.trans ((hb).mono HB.out.size))
   clear hb k0 k1
   have k0:=HP.out.f0
   have k1:=HP.out.f1
   clear hu
   go_wp2_with fail
   refine (jB _ unA unB 7 w10 HP.out.F HP.out.G).mono ?_
   rintro e w11 ⟨u,rfl,hu,hb⟩
   rw[tZ.2.2] at hu ⊢
   obtain⟨p1,c1,p2,c2,rfl,-⟩:=hu.ex
   have HH:=xo (HH.out.below hb)
   have HP:=xo (HP.out.below hb)
   have HB:=xo (HB.out.trans ((hb).mono HB.out.size))
   clear hb k0 k1
   have k0:=HP.out.f0
   have k1:=HP.out.f1
   go_upto_region 16 with fail
   have hb:=ac w11 (.cells #[.slice p1 0 c1,.slice p2 0 c2] 24)
   generalize World.alloc w11 (.cells #[.slice p1 0 c1,.slice p2 0 c2] 24)=w12 at *
   have HH:=xo (HH.out.below hb)
   have HP:=xo (HP.out.below hb)
   have HB:=xo (HB.out.trans ((hb).mono HB.out.size))
   clear hb k0 k1
   have k0:=HP.out.f0
   have k1:=HP.out.f1
   clear hu
   have h0:=HH.out.h0
   have h1:=HH.out.h1
   have h2:=HH.out.h2
   go_upto_region 18 with fail
   clear h0 h1 h2 HH
   have hm:=ac w12 (.cells #[.string ⟨#[49]⟩] 31)
   have hl:=aP w12 ⟨#[49]⟩
   have hm2:=ac (World.alloc w12 (.cells #[.string ⟨#[49]⟩] 31)) (.cells #[.string ⟨#[49]⟩,.string ⟨#[48]⟩,.string ⟨#[48]⟩] 31)
   have hl2:=cV (World.alloc w12 (.cells #[.string ⟨#[49]⟩] 31)) [⟨#[49]⟩,⟨#[48]⟩,⟨#[48]⟩] (by decide)
   have hM:=hm.trans (hm2.mono hm.size)
   have HU:=xo (nL _ unB [⟨#[49]⟩,⟨#[48]⟩,⟨#[48]⟩] _ (dC (hl.below hm2) hl2 rfl rfl) (HP.out.G.below hM))
   rw[size_alloc] at HU
   have HM:=xo hM
   clear hm hm2 hl hl2 hM
   go_wp2_with fail
   refine HU.out.mono ?_
   rintro e w13 ⟨vp,er,rfl,hcase,hb⟩
   have HPR:er=0∧Hid (IsS w13 vp [⟨#[48]⟩,⟨#[48]⟩]):=by
    rcases hcase with ⟨pf,-,h1,rfl,h2,-⟩ | ⟨-,h1,-⟩ | ⟨h1,-⟩
    ·rw[jV.2] at h1
     cases h1
     exact⟨rfl,h2⟩
    ·rw[jV.2] at h1;cases h1
    ·rw[jV.1] at h1;cases h1
   obtain⟨rfl,HPR⟩:=HPR
   have hb:=HM.out.trans (hb.mono HM.out.size)
   clear HU HM hcase
   have HP:=xo (HP.out.below hb)
   have HB:=xo (HB.out.trans ((hb).mono HB.out.size))
   clear hb k0 k1
   have k0:=HP.out.f0
   have k1:=HP.out.f1
   have hm:=ac w13 (.cells #[.string ⟨#[49]⟩] 31)
   have hl:=aP w13 ⟨#[49]⟩
   have hm2:=ac (World.alloc w13 (.cells #[.string ⟨#[49]⟩] 31)) (.cells #[.string ⟨#[49]⟩,.string ⟨#[48]⟩] 31)
   have hl2:=cV (World.alloc w13 (.cells #[.string ⟨#[49]⟩] 31)) [⟨#[49]⟩,⟨#[48]⟩] (by decide)
   have hM:=hm.trans (hm2.mono hm.size)
   have HU:=xo (oT _ unB [⟨#[49]⟩,⟨#[48]⟩] _ (dC (hl.below hm2) hl2 rfl rfl) (HP.out.G.below hM))
   rw[size_alloc] at HU
   have HM:=xo hM
   clear hm hm2 hl hl2 hM
   go_wp2_with fail
   refine HU.out.mono ?_
   rintro e w14 ⟨nr,er,rfl,hcase,hb⟩
   obtain⟨rfl,rfl⟩:er=0∧nr=1:=by
    rcases hcase with ⟨-,-,rfl,k,rfl,k1,k64,hk,hlt⟩ | ⟨-,h,-⟩ | ⟨h,-⟩
    ·refine⟨rfl,?_⟩
     rcases yr 1 k with h | h
     ·have:=hlt 1 (by decide) h
      rw[n8.2.2] at this;cases this
     ·have:k=1:=by omega
      rw[this];rfl
    ·rw[n8.2.1] at h;cases h
    ·rw[n8.1] at h;cases h
   have hb:=HM.out.trans (hb.mono HM.out.size)
   have HPR:=xo (HPR.out.below hb)
   clear HU HM hcase
   have HP:=xo (HP.out.below hb)
   have HB:=xo (HB.out.trans ((hb).mono HB.out.size))
   clear hb k0 k1
   have k0:=HP.out.f0
   have k1:=HP.out.f1
   have hm:=ac w14 (.cells #[.string ⟨#[51]⟩,.string ⟨#[52]⟩] 31)
   have hl:=cV w14 [⟨#[51]⟩,⟨#[52]⟩] (by decide)
   have hm2:=ac (World.alloc w14 (.cells #[.string ⟨#[51]⟩,.string ⟨#[52]⟩] 31)) (.cells #[.string ⟨#[49]⟩] 31)
   have hl2:=aP (World.alloc w14 (.cells #[.string ⟨#[51]⟩,.string ⟨#[52]⟩] 31)) ⟨#[49]⟩
   have hM:=hm.trans (hm2.mono hm.size)
   have HU:=xo (oS _ [⟨#[51]⟩,⟨#[52]⟩] unB _ (dC (hl.below hm2) hl2 rfl rfl) (HP.out.G.below hM))
   rw[size_alloc] at HU
   have HM:=xo hM
   clear hm hm2 hl hl2 hM
   rw[wV] at HU
   go_wp2_with fail
   refine HU.out.mono ?_
   rintro e w15 ⟨rfl,hb⟩
   have hb:=HM.out.trans (hb.mono HM.out.size)
   have HPR:=xo (HPR.out.below hb)
   clear HU HM
   have HP:=xo (HP.out.below hb)
   have HB:=xo (HB.out.trans ((hb).mono HB.out.size))
   clear hb k0 k1
   have k0:=HP.out.f0
   have k1:=HP.out.f1
   have hm:=ac w15 (.cells #[.string ⟨#[49]⟩] 31)
   have hl:=aP w15 ⟨#[49]⟩
   have hm2:=ac (World.alloc w15 (.cells #[.string ⟨#[49]⟩] 31)) (.cells #[.string ⟨#[49]⟩,.string ⟨#[48]⟩,.string ⟨#[49,47,52]⟩] 31)
   have hl2:=cV (World.alloc w15 (.cells #[.string ⟨#[49]⟩] 31)) [⟨#[49]⟩,⟨#[48]⟩,⟨#[49,47,52]⟩] (by decide)
   have hM:=hm.trans (hm2.mono hm.size)
   have HU:=xo (ur _ unB [⟨#[49]⟩,⟨#[48]⟩,⟨#[49,47,52]⟩] ⟨#[49,47,50]⟩ _ (dC (hl.below hm2) hl2 rfl rfl) (HP.out.G.below hM))
   rw[size_alloc] at HU
   have HM:=xo hM
   clear hm hm2 hl hl2 hM
   rw[wW] at HU
   go_wp2_with fail
   refine HU.out.mono ?_
   rintro e w16 ⟨rfl,hb⟩
   have hb:=HM.out.trans (hb.mono HM.out.size)
   have HPR:=xo (HPR.out.below hb)
   clear HU HM
   have HP:=xo (HP.out.below hb)
   have HB:=xo (HB.out.trans ((hb).mono HB.out.size))
   clear hb k0 k1
   have k0:=HP.out.f0
   have k1:=HP.out.f1
   have hm:=ac w16 (.cells #[.string ⟨#[48]⟩,.string ⟨#[48]⟩] 31)
   have HU:=xo (eV _ _ _ _ _ (HPR.out.below hm) (IsS.two w16 ⟨#[48]⟩ ⟨#[48]⟩) (by decide) (by decide))
   rw[decide_eq_true (rfl:[(⟨#[48]⟩:ByteArray),⟨#[48]⟩]=_)] at HU
   have HM:=xo hm
   clear hm
   go_wp2_with fail
   refine HU.out.mono ?_
   rintro e w17 ⟨rfl,hb⟩
   have hb:=HM.out.trans (hb.mono HM.out.size)
   clear HU HM HPR
   have HP:=xo (HP.out.below hb)
   have HB:=xo (HB.out.trans ((hb).mono HB.out.size))
   clear hb k0 k1
   have k0:=HP.out.f0
   have k1:=HP.out.f1
   go_wp2_with fail
   refine (kr _ HP.out.G).mono ?_
   rintro e wz ⟨rfl,hz⟩
   have HB:=HB.out.trans (hz.mono HB.out.size)
   clear hz
   go_wp2
   go_ret
   exact⟨rfl,HB⟩
end Go.Proofs.YtomkanblohhpfaaGreatDoor
