/- Lemmas of this claim. -/
import Derived.Test.YtdlioncecgnloaaGreatDoorYNC8
import Derived.Test.YtdlioncecgnloaaGreatDoorYPL6
import Derived.Test.YtdlioncecgnloaaGreatDoorYLP10
set_option linter.all false
set_option maxRecDepth 100000
set_option maxHeartbeats 8000000
namespace Go.Proofs.YtdlioncecgnloaaGreatDoor
open Go.RowKit Dg
def io (a b:List ByteArray):(List ByteArray×List ByteArray)×Int:=bB a b a b (eu a a b)
def ns (a b:List ByteArray):(List ByteArray×List ByteArray)×Int:=bB a b a b (eu b a b)
theorem tT (w:World) (a b:List ByteArray) (v:Value) (hP:jL w v a b a b ⟨#[]⟩ 0) (hG:Gx w):Calls Tryz.prog 117 #[.func (.func 123) #[] #[],v] w (fY (io a b) w):=by
 refine nK 123 v a b a b ⟨#[]⟩ 0 _ w hP ⟨aV Tryz.func123 rfl (by kernel_rfl),fun v' w' hw' hP' hc hc2=>?_⟩ hG
 obtain⟨ob1,ob7,oa1,oa7,-⟩:=aG hc
 exact wG v' a b a b ⟨#[]⟩ 0 w' hP' oa1 (by omega) (by omega) (hG.below hw').g
theorem yy (w:World) (a b:List ByteArray) (v:Value) (hP:jL w v a b a b ⟨#[]⟩ 0) (hG:Gx w):Calls Tryz.prog 117 #[.func (.func 125) #[] #[],v] w (fY (ns a b) w):=by
 refine nK 125 v a b a b ⟨#[]⟩ 0 _ w hP ⟨aV Tryz.func125 rfl (by kernel_rfl),fun v' w' hw' hP' hc hc2=>?_⟩ hG
 obtain⟨ob1,ob7,oa1,oa7,-⟩:=aG hc
 exact yZ v' a b a b ⟨#[]⟩ 0 w' hP' oa1 (by omega) (by omega) (hG.below hw').g
theorem wg (v:Value) (a b:List ByteArray) (w:World) (hF:IsF w v a b) (hG:Gx w) :
  Calls Tryz.prog 47 #[v] w (fY (io a b) w):=by
 obtain⟨p,c,q,d,rfl,hfa,hfb⟩:=id hF.ex
 go_enter Tryz.func47,Tryz.ntmps47
 go_upto_region 1 with fail
 have cc:=ar w (.slice p a.length c) (.slice q b.length d)
 have m1:=ae w (.cells #[.slice p a.length c,.slice q b.length d] 28)
 have z1:=size_alloc w (.cells #[.slice p a.length c,.slice q b.length d] 28)
 generalize w.alloc (.cells #[.slice p a.length c,.slice q b.length d] 28)=w1 at *
 have q2:(w1.alloc (.cells #[.slice none 0 0,.slice none 0 0] 28)).heap[w1.heap.size]?=some (.cells #[.slice none 0 0,.slice none 0 0] 28 (0,0)):=heap_alloc_new w1 _
 have m2:=ae w1 (.cells #[.slice none 0 0,.slice none 0 0] 28)
 have z2:=size_alloc w1 (.cells #[.slice none 0 0,.slice none 0 0] 28)
 have c0:=aa m2 (show w.heap.size<w1.heap.size by omega) cc.1
 have c1:=aa m2 (show w.heap.size<w1.heap.size by omega) cc.2
 generalize w1.alloc (.cells #[.slice none 0 0,.slice none 0 0] 28)=w2 at *
 rw[z1] at q2
 have M2:=zf (m1.trans (m2.mono m1.size))
 have hz2:w.heap.size+2=w2.heap.size:=by omega
 have hP:jL w2 (.agg #[.slice p a.length c,.slice q b.length d,.slice p a.length c,.slice q b.length d,.string ⟨#[]⟩,.int .i64 0]) a b a b ⟨#[]⟩ 0 :=
  ⟨⟨p,c,q,d,p,c,q,d,rfl,hfa.below M2.out,hfb.below M2.out,hfa.below M2.out,hfb.below M2.out⟩⟩
 have HC:=zf (tT w2 a b _ hP (hG.below M2.out))
 clear m1 z1 m2 z2 cc hfa hfb hG hF hP
 go_wp2_with fail
 refine HC.out.mono ?_
 rintro e w3 ⟨u,rfl,hu,hb3⟩
 obtain⟨r,hr⟩:∃ r,r=io a b:=⟨_,rfl⟩
 rw[show io a b=r from hr.symm] at hu ⊢
 obtain⟨⟨L1,L2⟩,er⟩:=r
 have HR:=zf hr
 simp only at hu ⊢
 obtain⟨p1,c1',p2,c2,rfl,g1,g2,o1,o2⟩:=hu.ex
 have hn1:Value.ownBlock (.slice p1 L1.length c1')≠some (w.heap.size+1):=fun e=>by have:=o1 _ e;omega
 have hn2:Value.ownBlock (.slice p2 L2.length c2)≠some (w.heap.size+1):=fun e=>by have:=o2 _ e;omega
 have q3:=(hb3.block (w.heap.size+1) (by omega)).trans q2
 have k0:=ai q3 0
 have k1:=ai q3 1
 have f0:=aB q3 0
 have f1:=aB q3 1
 have R1:=zf ((g1.other hn1 0 (.slice p1 L1.length c1')).other hn1 1 (.slice p2 L2.length c2))
 have R2:=zf ((g2.other hn2 0 (.slice p1 L1.length c1')).other hn2 1 (.slice p2 L2.length c2))
 have O1:=zf (show ∀ g,Value.ownBlock (.slice p1 L1.length c1')=some g→w.heap.size≤g from fun g e=>by have:=o1 _ e;omega)
 have O2:=zf (show ∀ g,Value.ownBlock (.slice p2 L2.length c2)=some g→w.heap.size≤g from fun g e=>by have:=o2 _ e;omega)
 have M7:=zf (((M2.out.trans (hb3.mono M2.out.size)).setCell (p:=⟨w.heap.size+1,0,none⟩) (Aa _) (.slice p1 L1.length c1')).setCell (p:=⟨w.heap.size+1,1,none⟩) (Aa _) (.slice p2 L2.length c2))
 have g0:=ci q3 (.slice p1 L1.length c1') (.slice p2 L2.length c2)
 have x0:=ai g0 0
 have x1:=ai g0 1
 clear hn1 hn2 g1 g2 o1 o2 q2 q3 hb3 HC hu hr
 go_wp2
 refine bodyPost_ret (v:=.tuple #[.agg #[.slice p1 L1.length c1',.slice p2 L2.length c2],.int .i64 er]) (by simp at x0 x1;simp[results,Tryz.results47,go_sem,x0,x1]) rfl ⟨_,by rw[←HR.out],?_,M7.out⟩
 rw[←HR.out]
 exact⟨⟨p1,c1',p2,c2,rfl,R1.out,R2.out,O1.out,O2.out⟩⟩
theorem yR (v:Value) (a b:List ByteArray) (w:World) (hF:IsF w v a b) (hG:Gx w) :
  Calls Tryz.prog 49 #[v] w (fY (ns a b) w):=by
 obtain⟨p,c,q,d,rfl,hfa,hfb⟩:=id hF.ex
 go_enter Tryz.func49,Tryz.ntmps49
 go_upto_region 1 with fail
 have cc:=ar w (.slice p a.length c) (.slice q b.length d)
 have m1:=ae w (.cells #[.slice p a.length c,.slice q b.length d] 28)
 have z1:=size_alloc w (.cells #[.slice p a.length c,.slice q b.length d] 28)
 generalize w.alloc (.cells #[.slice p a.length c,.slice q b.length d] 28)=w1 at *
 have q2:(w1.alloc (.cells #[.slice none 0 0,.slice none 0 0] 28)).heap[w1.heap.size]?=some (.cells #[.slice none 0 0,.slice none 0 0] 28 (0,0)):=heap_alloc_new w1 _
 have m2:=ae w1 (.cells #[.slice none 0 0,.slice none 0 0] 28)
 have z2:=size_alloc w1 (.cells #[.slice none 0 0,.slice none 0 0] 28)
 have c0:=aa m2 (show w.heap.size<w1.heap.size by omega) cc.1
 have c1:=aa m2 (show w.heap.size<w1.heap.size by omega) cc.2
 generalize w1.alloc (.cells #[.slice none 0 0,.slice none 0 0] 28)=w2 at *
 rw[z1] at q2
 have M2:=zf (m1.trans (m2.mono m1.size))
 have hz2:w.heap.size+2=w2.heap.size:=by omega
 have hP:jL w2 (.agg #[.slice p a.length c,.slice q b.length d,.slice p a.length c,.slice q b.length d,.string ⟨#[]⟩,.int .i64 0]) a b a b ⟨#[]⟩ 0 :=
  ⟨⟨p,c,q,d,p,c,q,d,rfl,hfa.below M2.out,hfb.below M2.out,hfa.below M2.out,hfb.below M2.out⟩⟩
 have HC:=zf (yy w2 a b _ hP (hG.below M2.out))
 clear m1 z1 m2 z2 cc hfa hfb hG hF hP
 go_wp2_with fail
 refine HC.out.mono ?_
 rintro e w3 ⟨u,rfl,hu,hb3⟩
 obtain⟨r,hr⟩:∃ r,r=ns a b:=⟨_,rfl⟩
 rw[show ns a b=r from hr.symm] at hu ⊢
 obtain⟨⟨L1,L2⟩,er⟩:=r
 have HR:=zf hr
 simp only at hu ⊢
 obtain⟨p1,c1',p2,c2,rfl,g1,g2,o1,o2⟩:=hu.ex
 have hn1:Value.ownBlock (.slice p1 L1.length c1')≠some (w.heap.size+1):=fun e=>by have:=o1 _ e;omega
 have hn2:Value.ownBlock (.slice p2 L2.length c2)≠some (w.heap.size+1):=fun e=>by have:=o2 _ e;omega
 have q3:=(hb3.block (w.heap.size+1) (by omega)).trans q2
 have k0:=ai q3 0
 have k1:=ai q3 1
 have f0:=aB q3 0
 have f1:=aB q3 1
 have R1:=zf ((g1.other hn1 0 (.slice p1 L1.length c1')).other hn1 1 (.slice p2 L2.length c2))
 have R2:=zf ((g2.other hn2 0 (.slice p1 L1.length c1')).other hn2 1 (.slice p2 L2.length c2))
 have O1:=zf (show ∀ g,Value.ownBlock (.slice p1 L1.length c1')=some g→w.heap.size≤g from fun g e=>by have:=o1 _ e;omega)
 have O2:=zf (show ∀ g,Value.ownBlock (.slice p2 L2.length c2)=some g→w.heap.size≤g from fun g e=>by have:=o2 _ e;omega)
 have M7:=zf (((M2.out.trans (hb3.mono M2.out.size)).setCell (p:=⟨w.heap.size+1,0,none⟩) (Aa _) (.slice p1 L1.length c1')).setCell (p:=⟨w.heap.size+1,1,none⟩) (Aa _) (.slice p2 L2.length c2))
 have g0:=ci q3 (.slice p1 L1.length c1') (.slice p2 L2.length c2)
 have x0:=ai g0 0
 have x1:=ai g0 1
 clear hn1 hn2 g1 g2 o1 o2 q2 q3 hb3 HC hu hr
 go_wp2
 refine bodyPost_ret (v:=.tuple #[.agg #[.slice p1 L1.length c1',.slice p2 L2.length c2],.int .i64 er]) (by simp at x0 x1;simp[results,Tryz.results49,go_sem,x0,x1]) rfl ⟨_,by rw[←HR.out],?_,M7.out⟩
 rw[←HR.out]
 exact⟨⟨p1,c1',p2,c2,rfl,R1.out,R2.out,O1.out,O2.out⟩⟩
theorem sZ (q:Rat):(b9 (CQ.real q)).1.size<100000:=by
 unfold b9
 cases h:dl (CQ.real q)
 ·simp only[zI,if_false]
  have h1:cJ (rt q)=false:=by unfold dl CQ.real at h;simp only[AK] at h;exact h.1
  have e:bS (ct (CQ.real q))=aF (rt q):=bE (z:=ct (CQ.real q)) (by show (rt 0).n=0;rw[cZ])
  have hr:=kO ((vu (aF (rt q))).1.2 ⟨_,jY q,h1,rfl⟩)
  unfold txt
  rw[e]
  show (aF (rt q)).toArray.size<100000
  simp;omega
 ·simp only[if_true];decide
theorem oD (X:CQ→Rat) (s:ByteArray):(ofC (fun z=>CQ.real (X z)) s).1.size<100000:=by
 unfold ofC
 split
 ·exact sZ _
 ·decide
theorem yK (s:ByteArray) (w:World) (hG:Gx w) :
  Calls Tryz.prog 104 #[.string s] w fun e w'=>e=.returned (.bool (jm s))∧Below w.heap.size w w':=by
 have HG:=zf hG
 obtain⟨x,hx⟩:∃ x,x=(ofC (fun z=>CQ.real z.re) s).1:=⟨_,rfl⟩
 obtain⟨d,hd⟩:∃ d,d=(ofC (fun z=>CQ.real z.re) s).2:=⟨_,rfl⟩
 obtain⟨y,hy⟩:∃ y,y=(ofC (fun z=>CQ.real z.im) s).1:=⟨_,rfl⟩
 obtain⟨e,he⟩:∃ e,e=(ofC (fun z=>CQ.real z.im) s).2:=⟨_,rfl⟩
 have hxs:x.size<100000:=hx ▸ oD _ s
 have hys:y.size<100000:=hy ▸ oD _ s
 have H1:=zf (y_ s w hG.g)
 have H2:=zf (fun wx (hw:Below w.heap.size w wx)=>y8 s wx (hG.g.below hw))
 rw[←hx,←hd] at H1
 rw[←hy,←he] at H2
 have HS:=zf (show jm s=(decide (d=0)&&decide (e=0)&&eW x.data.toList&&eW y.data.toList) by unfold jm;rw[hx,hd,hy,he])
 clear hx hd hy he hG
 go_enter Tryz.func104,Tryz.ntmps104
 go_wp2_with fail
 refine H1.out.mono ?_
 rintro r w1 ⟨rfl,hb1⟩
 go_wp2_with fail
 refine (H2.out w1 hb1).mono ?_
 rintro r w2 ⟨rfl,hb2⟩
 have hB2:=hb1.trans (hb2.mono hb1.size)
 clear hb1 hb2 H1 H2
 by_cases h1:d=0
 ·subst h1
  by_cases h2:e=0
  ·subst h2
   go_wp2_with fail
   refine (qx x w2 hxs (HG.out.below hB2)).mono ?_
   rintro r w3 ⟨b,rfl,hb,hb3⟩
   have hB3:=hB2.trans (hb3.mono hB2.size)
   clear hb3 hB2
   cases b
   ·have HB:=zf hb.out
    clear hb
    go_wp2
    go_ret
    exact⟨by rw[HS.out,HB.out];simp,hB3⟩
   ·have HB:=zf hb.out
    clear hb
    go_wp2_with fail
    refine (qx y w3 hys (HG.out.below hB3)).mono ?_
    rintro r w4 ⟨b,rfl,hb,hb4⟩
    have HB2:=zf hb.out
    clear hb
    go_wp2
    go_ret
    exact⟨by rw[HS.out,HB.out,HB2.out];simp,hB3.trans (hb4.mono hB3.size)⟩
  ·have hde:decide (e=0)=false:=decide_eq_false h2
   go_wp2
   go_ret
   exact⟨by rw[HS.out];simp[h2],hB2⟩
 ·have hdd:decide (d=0)=false:=decide_eq_false h1
  go_wp2
  go_ret
  exact⟨by rw[HS.out];simp[h1],hB2⟩
theorem yF (F:FuncId) (b:Value) (φ:CQ→CQ) (s:ByteArray) (w:World) (hG:Gw w) (EN:∀ (args:Array Value) (w:World),(callFunc F args).run Tryz.prog w=.ok (.enter F args) w)
  (hF:∀ p,dE s=some p→∀ (x:Value) (w':World),Below w.heap.size w w'→IsV w' x (ct p)→Calls Tryz.prog F #[b,x] w' fun e w''=>∃ v,e=.returned v∧IsV w'' v (ct (φ p))∧Below w'.heap.size w' w'') :
  Calls Tryz.prog 72 #[.string s,.func (.func F) #[b] #[]] w fun e w'=>e=.returned (.tuple #[.string (ofC φ s).1,.int .i64 (ofC φ s).2])∧Below w.heap.size w w':=by
 have HF:=zf hF
 clear hF
 go_enter Tryz.func72,Tryz.ntmps72
 go_wp2_with fail
 refine (gL s w hG).mono ?_
 rintro e w1 ⟨v,ok,rfl,hcase,hb1⟩
 rcases hcase with ⟨z,hz,rfl,hv⟩ | ⟨hz,rfl,rfl⟩
 ·obtain⟨p,rfl,hp1,hp2,-,-⟩:=eS hz
  have HP1:=zf (show ofC φ s=b9 (φ p) by unfold ofC;rw[hp1])
  have HF:=zf (HF.out p hp1)
  clear hz hp1
  have hk:IsK w1 v p:=⟨hv,hp2.mono (by decide)⟩
  obtain⟨xm,xp,xl,xc,xq,xk,xd,ym,yp,yl,yc,yq,yk,yd,rfl⟩:∃ xm xp xl xc xq xk xd ym yp yl yc yq yk yd,v=.agg #[.bool xm,.slice xp xl xc,.slice xq xk xd,.bool ym,.slice yp yl yc,.slice yq yk yd]:=by
   obtain⟨_,_,_,_,_,_,rfl,hx0,hy0⟩:=hk.v
   obtain⟨xm,xp,xl,xc,xq,xk,xd,hxe⟩:=hx0.form
   obtain⟨ym,yp,yl,yc,yq,yk,yd,hye⟩:=hy0.form
   obtain⟨rfl,rfl,rfl⟩:=cC hxe
   obtain⟨rfl,rfl,rfl⟩:=cC hye
   exact⟨_,_,_,_,_,_,_,_,_,_,_,_,_,_,rfl⟩
  go_upto_region 2 with fail
  have q1:=aS.new w1 (.bool xm) (.slice xp xl xc) (.slice xq xk xd) (.bool ym) (.slice yp yl yc) (.slice yq yk yd) 91
  have m1:=ae w1 (.cells #[.bool xm,.slice xp xl xc,.slice xq xk xd,.bool ym,.slice yp yl yc,.slice yq yk yd] 91)
  generalize w1.alloc (.cells #[.bool xm,.slice xp xl xc,.slice xq xk xd,.bool ym,.slice yp yl yc,.slice yq yk yd] 91)=w2 at *
  have a0:=q1.c0;have a1:=q1.c1;have a2:=q1.c2;have a3:=q1.c3;have a4:=q1.c4;have a5:=q1.c5
  have hB2:=hb1.trans (m1.mono hb1.size)
  have HC:=zf (HF.out _ w2 hB2 (hk.v.below m1))
  have HG:=zf (hG.below hB2)
  clear q1 m1 hk hv hb1 HF
  go_wp2_with fail
  refine HC.out.mono ?_
  rintro e w3 ⟨v3,rfl,hv3,hb3⟩
  have hB3:=hB2.trans (hb3.mono hB2.size)
  go_wp2_with fail
  refine (s_ _ _ _ hv3 (HG.out.below hb3)).mono ?_
  rintro e w4 ⟨rfl,hb4⟩
  go_wp2
  refine bodyPost_ret (v:=.tuple #[.string (b9 (φ p)).1,.int .i64 (b9 (φ p)).2]) (by simp[results,Tryz.results72,go_sem]) rfl ⟨by rw[HP1.out],hB3.trans (hb4.mono hB3.size)⟩
 ·have HE:=zf (show ofC φ s=(⟨#[]⟩,10) by unfold ofC;rw[el hz])
  clear hz
  unfold eU
  go_wp2
  refine bodyPost_ret (v:=.tuple #[.string ⟨#[]⟩,.int .i64 10]) (by simp[results,Tryz.results72,go_sem]) rfl ⟨by rw[HE.out],hb1.trans ((ae w1 _).mono hb1.size)⟩
def atT (l:List ByteArray) (s:ByteArray):ByteArray×Int:=match cw l with | .error e=>(⟨#[]⟩,e) | .ok zs=>ofC (atL zs) s
theorem kI {l:List ByteArray}{zs:List CQ} (h:cw l=.ok zs):zs.length≤l.length:=by
 unfold cw at h
 split at h
 ·cases h
 ·split at h
  ·rename_i ys hy
   cases h
   have h1:=cP hy
   have h2:=gM ys
   omega
  ·cases h
theorem xN (v:Value) (l:List ByteArray) (s:ByteArray) (w:World) (hl:IsS w v l) (h7:l.length≤7) (hG:Gw w) :
  Calls Tryz.prog 105 #[v,.string s] w fun e w'=>e=.returned (.tuple #[.string (atT l s).1,.int .i64 (atT l s).2])∧Below w.heap.size w w':=by
 have HP:=zf (j4 v l w hl hG)
 have HG:=zf hG
 clear hl hG
 go_enter Tryz.func105,Tryz.ntmps105
 go_wp2_with fail
 refine HP.out.mono ?_
 rintro e w1 ⟨u,x,rfl,hr,hb1⟩
 cases hpc:cw l with
 | error ea =>
  rw[hpc] at hr
  obtain⟨rfl,rfl⟩:=hr
  have HE:=zf (show atT l s=(⟨#[]⟩,x) by unfold atT;rw[hpc])
  have hd:decide (x=0)=false:=decide_eq_false (by rcases gP hpc with rfl | rfl<;>decide)
  have hd2:(x != 0)=true:=by rcases gP hpc with rfl | rfl<;>decide
  clear hpc HP
  go_wp2
  refine bodyPost_ret (v:=.tuple #[.string ⟨#[]⟩,.int .i64 x]) (by simp[results,Tryz.results105,go_sem]) rfl ⟨by rw[HE.out],hb1⟩
 | ok zs =>
  rw[hpc] at hr
  obtain⟨rfl,hu⟩:=hr
  have s1:=gz hpc
  have l1:=kI hpc
  have HE:=zf (show atT l s=ofC (atL zs) s by unfold atT;rw[hpc])
  have HO:=zf (yF 170 u (atL zs) s w1 (HG.out.below hb1) (aV Tryz.func170 rfl (by kernel_rfl)) (fun p hp x w' hb hx=>atN u x zs p w' (hu.below hb) hx s1 (nU hp).2.2 (by omega)))
  clear hpc HP hu s1 l1 h7
  obtain⟨y,hy⟩:∃ y,y=ofC (atL zs) s:=⟨_,rfl⟩
  rw[←hy] at HO HE
  clear hy
  go_wp2_with fail
  refine HO.out.mono ?_
  rintro e w2 ⟨rfl,hb2⟩
  go_wp2
  refine bodyPost_ret (v:=.tuple #[.string y.1,.int .i64 y.2]) (by simp[results,Tryz.results105,go_sem]) rfl ⟨by rw[HE.out],hb1.trans (hb2.mono hb1.size)⟩
theorem uh {z:ByteArray} (h:z≠⟨#[48]⟩):(z.toList == [48])=false:=by
 refine Ae.2 fun hb=>h ?_
 have e:z.toList=[48]:=by simpa using hb
 rw[am] at e
 exact fF e
def dZ (a b:List ByteArray) (z:ByteArray):ByteArray×Int :=
 if au a b=true then
  if jm z=true then
   if z=⟨#[48]⟩ then (⟨#[]⟩,32)
   else if (atT b (bL ⟨#[49]⟩ z)).1=⟨#[48]⟩ then (⟨#[]⟩,32)
   else (bL (atT a (bL ⟨#[49]⟩ z)).1 (atT b (bL ⟨#[49]⟩ z)).1,0)
  else (⟨#[]⟩,2)
 else (⟨#[]⟩,30)
theorem lA (v:Value) (a b:List ByteArray) (z:ByteArray) (w:World) (hF:IsF w v a b) (hG:Gx w) :
  Calls Tryz.prog 36 #[v,.string z] w fun e w'=>e=.returned (.tuple #[.string (dZ a b z).1,.int .i64 (dZ a b z).2])∧Below w.heap.size w w':=by
 obtain⟨p,c,q,d,rfl,hfa,hfb⟩:=id hF.ex
 go_enter Tryz.func36,Tryz.ntmps36
 go_upto_region 1 with fail
 have cc:=ar w (.slice p a.length c) (.slice q b.length d)
 have m1:=ae w (.cells #[.slice p a.length c,.slice q b.length d] 28)
 have zz:=size_alloc w (.cells #[.slice p a.length c,.slice q b.length d] 28)
 generalize w.alloc (.cells #[.slice p a.length c,.slice q b.length d] 28)=w1 at *
 have HCK:=zf (dD _ a b w1 (hF.below m1) (hG.below m1))
 have HA:=zf (hfa.below m1)
 have HB:=zf (hfb.below m1)
 have HG:=zf (hG.below m1)
 have c0:=cc.1
 have c1:=cc.2
 have hlt:w.heap.size<w1.heap.size:=by omega
 have M1:=zf m1
 clear hfa hfb cc zz m1 hF hG
 by_cases hck:au a b=true
 ·have hce:av a b=0:=by unfold av;rw[if_pos hck]
  rw[hce] at HCK
  obtain⟨ob1,ob7,oa1,oa7,oac,obc,ohd⟩:=aG hck
  clear hce
  go_wp2_with fail
  refine HCK.out.mono ?_
  rintro e w2 ⟨rfl,hb2⟩
  have d0:=aa hb2 hlt c0
  have d1:=aa hb2 hlt c1
  have HA2:=zf (HA.out.below hb2)
  have HB2:=zf (HB.out.below hb2)
  have HG2:=zf (HG.out.below hb2)
  have M2:=zf (M1.out.trans (hb2.mono M1.out.size))
  have hlt2:w.heap.size<w2.heap.size:=zq hlt hb2.size
  clear c0 c1 HA HB HG HCK M1 hb2 hlt
  have HA7:=zf oa7
  have HO7:=zf ob7
  clear oac obc ohd
  go_wp2_with fail
  refine (yK z w2 HG2.out).mono ?_
  rintro e w3 ⟨rfl,hb3⟩
  have e0:=aa hb3 hlt2 d0
  have e1:=aa hb3 hlt2 d1
  have hlt3:w.heap.size<w3.heap.size:=zq hlt2 hb3.size
  have HA3:=zf (HA2.out.below hb3)
  have HB3:=zf (HB2.out.below hb3)
  have HG3:=zf (HG2.out.below hb3)
  have M3:=zf (M2.out.trans (hb3.mono M2.out.size))
  have HT:=zf (show dZ a b z=if jm z=true then if z=⟨#[48]⟩ then (⟨#[]⟩,32) else if (atT b (bL ⟨#[49]⟩ z)).1=⟨#[48]⟩ then (⟨#[]⟩,32) else (bL (atT a (bL ⟨#[49]⟩ z)).1 (atT b (bL ⟨#[49]⟩ z)).1,0) else (⟨#[]⟩,2) by unfold dZ;rw[if_pos hck])
  clear d0 d1 hlt2 HA2 HB2 HG2 M2 hb3 hck ob1 oa1 oa7 ob7
  cases hsz:jm z with
  | false =>
   have HE:=zf (show dZ a b z=(⟨#[]⟩,2) by rw[HT.out,if_neg (by rw[hsz];decide)])
   clear hsz
   go_wp2
   refine bodyPost_ret (v:=.tuple #[.string ⟨#[]⟩,.int .i64 2]) (by simp[results,Tryz.results36,go_sem]) rfl ⟨by rw[HE.out],M3.out⟩
  | true =>
   rw[if_pos hsz] at HT
   clear hsz
   by_cases hz0:z=⟨#[48]⟩
   ·have HE:=zf (show dZ a b z=(⟨#[]⟩,32) by rw[HT.out,if_pos hz0])
    have hzd:(z.toList == [48])=true:=by rw[hz0,am];rfl
    clear hz0
    go_wp2
    refine bodyPost_ret (v:=.tuple #[.string ⟨#[]⟩,.int .i64 32]) (by simp[results,Tryz.results36,go_sem]) rfl ⟨by rw[HE.out],M3.out⟩
   ·rw[if_neg hz0] at HT
    have hzd:=uh hz0
    clear hz0
    go_wp2_with fail
    refine (ed _ _ w3 HG3.out.g).mono ?_
    rintro e w4 ⟨rfl,hb4⟩
    generalize bL ⟨#[49]⟩ z=iv at HT ⊢
    have g0:=aa hb4 hlt3 e0
    have g1:=aa hb4 hlt3 e1
    have hlt4:w.heap.size<w4.heap.size:=zq hlt3 hb4.size
    have HA4:=zf (HA3.out.below hb4)
    have HB4:=zf (HB3.out.below hb4)
    have HG4:=zf (HG3.out.below hb4)
    have M4:=zf (M3.out.trans (hb4.mono M3.out.size))
    obtain⟨ya,hya⟩:∃ ya,ya=atT a iv:=⟨_,rfl⟩
    obtain⟨yb,hyb⟩:∃ yb,yb=atT b iv:=⟨_,rfl⟩
    have N1:=xN _ a iv w4 HA4.out HA7.out HG4.out.g
    have N2:=zf (fun wx (h:Below w4.heap.size w4 wx)=>xN _ b iv wx (HB4.out.below h) HO7.out (HG4.out.below h).g)
    rw[←hya] at N1 HT
    rw[←hyb] at N2 HT
    have N1:=zf N1
    clear e0 e1 hlt3 HA3 HB3 HG3 M3 hb4 hya hyb HA4 HB4
    go_wp2_with fail
    refine N1.out.mono ?_
    rintro e w5 ⟨rfl,hb5⟩
    have e0:=aa hb5 hlt4 g0
    have e1:=aa hb5 hlt4 g1
    go_wp2_with fail
    refine (N2.out w5 hb5).mono ?_
    rintro e w6 ⟨rfl,hb6⟩
    have hB6:=hb5.trans (hb6.mono hb5.size)
    have M6:=zf (M4.out.trans (hB6.mono M4.out.size))
    have HG6:=zf (HG4.out.below hB6)
    clear e0 e1 g0 g1 N1 N2 hb5 hb6 hB6 M4 HG4 hlt4
    obtain⟨yb1,yb2⟩:=yb
    obtain⟨ya1,ya2⟩:=ya
    simp only at HT ⊢
    by_cases hy0:yb1=⟨#[48]⟩
    ·have HE:=zf (show dZ a b z=(⟨#[]⟩,32) by rw[HT.out,if_pos hy0])
     have hyd:(yb1.toList == [48])=true:=by rw[hy0,am];rfl
     clear hy0
     go_wp2
     refine bodyPost_ret (v:=.tuple #[.string ⟨#[]⟩,.int .i64 32]) (by simp[results,Tryz.results36,go_sem]) rfl ⟨by rw[HE.out],M6.out⟩
    ·have HE:=zf (show dZ a b z=(bL ya1 yb1,0) by rw[HT.out,if_neg hy0])
     have hyd:=uh hy0
     clear hy0
     go_wp2_with fail
     refine (ed _ _ w6 HG6.out.g).mono ?_
     rintro e w7 ⟨rfl,hb7⟩
     go_wp2
     refine bodyPost_ret (v:=.tuple #[.string (bL ya1 yb1),.int .i64 0]) (by simp[results,Tryz.results36,go_sem]) rfl ⟨by rw[HE.out],M6.out.trans (hb7.mono M6.out.size)⟩
 ·have HE:=zf (show dZ a b z=(⟨#[]⟩,30) by unfold dZ;rw[if_neg hck])
  have hce:av a b=30:=by unfold av;rw[if_neg hck]
  rw[hce] at HCK
  clear hce
  go_wp2_with fail
  refine HCK.out.mono ?_
  rintro e w2 ⟨rfl,hb2⟩
  go_wp2
  refine bodyPost_ret (v:=.tuple #[.string ⟨#[]⟩,.int .i64 30]) (by simp[results,Tryz.results36,go_sem]) rfl ⟨by rw[HE.out],M1.out.trans (hb2.mono M1.out.size)⟩
end Go.Proofs.YtdlioncecgnloaaGreatDoor
