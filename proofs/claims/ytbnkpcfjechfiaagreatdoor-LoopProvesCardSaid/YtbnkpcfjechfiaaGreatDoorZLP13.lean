/- Lemmas of this claim. -/
import Derived.Test.YtbnkpcfjechfiaaGreatDoorZNC8
import Derived.Test.YtbnkpcfjechfiaaGreatDoorZPL6
import Derived.Test.YtbnkpcfjechfiaaGreatDoorZLP10
set_option linter.all false
set_option maxRecDepth 100000
set_option maxHeartbeats 8000000
namespace Go.Proofs.YtbnkpcfjechfiaaGreatDoor
open Go.RowKit Dg
def ky (a b:List ByteArray):(List ByteArray×List ByteArray)×Int:=da a b a b (gH a a b)
def rP (a b:List ByteArray):(List ByteArray×List ByteArray)×Int:=da a b a b (gH b a b)
theorem Ad (w:World) (a b:List ByteArray) (v:Value) (hP:mu w v a b a b ⟨#[]⟩ 0) (hG:Gx w):Calls Tryz.prog 71 #[.func (.func 79) #[] #[],v] w (jd (ky a b) w):=by
 refine sh 79 v a b a b ⟨#[]⟩ 0 _ w hP ⟨bV Tryz.func79 rfl (by kernel_rfl),fun v' w' hw' hP' hc hc2=>?_⟩ hG
 obtain⟨ob1,ob7,oa1,oa7,-⟩:=bf hc
 exact CC v' a b a b ⟨#[]⟩ 0 w' hP' oa1 (by omega) (by omega) (hG.below hw').g
theorem Eh (w:World) (a b:List ByteArray) (v:Value) (hP:mu w v a b a b ⟨#[]⟩ 0) (hG:Gx w):Calls Tryz.prog 71 #[.func (.func 81) #[] #[],v] w (jd (rP a b) w):=by
 refine sh 81 v a b a b ⟨#[]⟩ 0 _ w hP ⟨bV Tryz.func81 rfl (by kernel_rfl),fun v' w' hw' hP' hc hc2=>?_⟩ hG
 obtain⟨ob1,ob7,oa1,oa7,-⟩:=bf hc
 exact E3 v' a b a b ⟨#[]⟩ 0 w' hP' oa1 (by omega) (by omega) (hG.below hw').g
theorem Cm (v:Value) (a b:List ByteArray) (w:World) (hF:IsF w v a b) (hG:Gx w) :
  Calls Tryz.prog 26 #[v] w (jd (ky a b) w):=by
 obtain⟨p,c,q,d,rfl,hfa,hfb⟩:=id hF.ex
 go_enter Tryz.func26,Tryz.ntmps26
 go_upto_region 1 with fail
 have cc:=aE w (.slice p a.length c) (.slice q b.length d)
 have m1:=aj w (.cells #[.slice p a.length c,.slice q b.length d] 24)
 have z1:=size_alloc w (.cells #[.slice p a.length c,.slice q b.length d] 24)
 generalize w.alloc (.cells #[.slice p a.length c,.slice q b.length d] 24)=w1 at *
 have q2:(w1.alloc (.cells #[.slice none 0 0,.slice none 0 0] 24)).heap[w1.heap.size]?=some (.cells #[.slice none 0 0,.slice none 0 0] 24 (0,0)):=heap_alloc_new w1 _
 have m2:=aj w1 (.cells #[.slice none 0 0,.slice none 0 0] 24)
 have z2:=size_alloc w1 (.cells #[.slice none 0 0,.slice none 0 0] 24)
 have c0:=ag m2 (show w.heap.size<w1.heap.size by omega) cc.1
 have c1:=ag m2 (show w.heap.size<w1.heap.size by omega) cc.2
 generalize w1.alloc (.cells #[.slice none 0 0,.slice none 0 0] 24)=w2 at *
 rw[z1] at q2
 have M2:=Ff (m1.trans (m2.mono m1.size))
 have hz2:w.heap.size+2=w2.heap.size:=by omega
 have hP:mu w2 (.agg #[.slice p a.length c,.slice q b.length d,.slice p a.length c,.slice q b.length d,.string ⟨#[]⟩,.int .i64 0]) a b a b ⟨#[]⟩ 0 :=
  ⟨⟨p,c,q,d,p,c,q,d,rfl,hfa.below M2.out,hfb.below M2.out,hfa.below M2.out,hfb.below M2.out⟩⟩
 have HC:=Ff (Ad w2 a b _ hP (hG.below M2.out))
 clear m1 z1 m2 z2 cc hfa hfb hG hF hP
 go_wp2_with fail
 refine HC.out.mono ?_
 rintro e w3 ⟨u,rfl,hu,hb3⟩
 obtain⟨r,hr⟩:∃ r,r=ky a b:=⟨_,rfl⟩
 rw[show ky a b=r from hr.symm] at hu ⊢
 obtain⟨⟨L1,L2⟩,er⟩:=r
 have HR:=Ff hr
 simp only at hu ⊢
 obtain⟨p1,c1',p2,c2,rfl,g1,g2,o1,o2⟩:=hu.ex
 have hn1:Value.ownBlock (.slice p1 L1.length c1')≠some (w.heap.size+1):=fun e=>by have:=o1 _ e;omega
 have hn2:Value.ownBlock (.slice p2 L2.length c2)≠some (w.heap.size+1):=fun e=>by have:=o2 _ e;omega
 have q3:=(hb3.block (w.heap.size+1) (by omega)).trans q2
 have k0:=ar q3 0
 have k1:=ar q3 1
 have f0:=aQ q3 0
 have f1:=aQ q3 1
 have R1:=Ff ((g1.other hn1 0 (.slice p1 L1.length c1')).other hn1 1 (.slice p2 L2.length c2))
 have R2:=Ff ((g2.other hn2 0 (.slice p1 L1.length c1')).other hn2 1 (.slice p2 L2.length c2))
 have O1:=Ff (show ∀ g,Value.ownBlock (.slice p1 L1.length c1')=some g→w.heap.size≤g from fun g e=>by have:=o1 _ e;omega)
 have O2:=Ff (show ∀ g,Value.ownBlock (.slice p2 L2.length c2)=some g→w.heap.size≤g from fun g e=>by have:=o2 _ e;omega)
 have M7:=Ff (((M2.out.trans (hb3.mono M2.out.size)).setCell (p:=⟨w.heap.size+1,0,none⟩) (FV _) (.slice p1 L1.length c1')).setCell (p:=⟨w.heap.size+1,1,none⟩) (FV _) (.slice p2 L2.length c2))
 have g0:=dL q3 (.slice p1 L1.length c1') (.slice p2 L2.length c2)
 have x0:=ar g0 0
 have x1:=ar g0 1
 clear hn1 hn2 g1 g2 o1 o2 q2 q3 hb3 HC hu hr
 go_wp2
 refine bodyPost_ret (v:=.tuple #[.agg #[.slice p1 L1.length c1',.slice p2 L2.length c2],.int .i64 er]) (by simp at x0 x1;simp[results,Tryz.results26,go_sem,x0,x1]) rfl ⟨_,by rw[←HR.out],?_,M7.out⟩
 rw[←HR.out]
 exact⟨⟨p1,c1',p2,c2,rfl,R1.out,R2.out,O1.out,O2.out⟩⟩
theorem EP (v:Value) (a b:List ByteArray) (w:World) (hF:IsF w v a b) (hG:Gx w) :
  Calls Tryz.prog 28 #[v] w (jd (rP a b) w):=by
 obtain⟨p,c,q,d,rfl,hfa,hfb⟩:=id hF.ex
 go_enter Tryz.func28,Tryz.ntmps28
 go_upto_region 1 with fail
 have cc:=aE w (.slice p a.length c) (.slice q b.length d)
 have m1:=aj w (.cells #[.slice p a.length c,.slice q b.length d] 24)
 have z1:=size_alloc w (.cells #[.slice p a.length c,.slice q b.length d] 24)
 generalize w.alloc (.cells #[.slice p a.length c,.slice q b.length d] 24)=w1 at *
 have q2:(w1.alloc (.cells #[.slice none 0 0,.slice none 0 0] 24)).heap[w1.heap.size]?=some (.cells #[.slice none 0 0,.slice none 0 0] 24 (0,0)):=heap_alloc_new w1 _
 have m2:=aj w1 (.cells #[.slice none 0 0,.slice none 0 0] 24)
 have z2:=size_alloc w1 (.cells #[.slice none 0 0,.slice none 0 0] 24)
 have c0:=ag m2 (show w.heap.size<w1.heap.size by omega) cc.1
 have c1:=ag m2 (show w.heap.size<w1.heap.size by omega) cc.2
 generalize w1.alloc (.cells #[.slice none 0 0,.slice none 0 0] 24)=w2 at *
 rw[z1] at q2
 have M2:=Ff (m1.trans (m2.mono m1.size))
 have hz2:w.heap.size+2=w2.heap.size:=by omega
 have hP:mu w2 (.agg #[.slice p a.length c,.slice q b.length d,.slice p a.length c,.slice q b.length d,.string ⟨#[]⟩,.int .i64 0]) a b a b ⟨#[]⟩ 0 :=
  ⟨⟨p,c,q,d,p,c,q,d,rfl,hfa.below M2.out,hfb.below M2.out,hfa.below M2.out,hfb.below M2.out⟩⟩
 have HC:=Ff (Eh w2 a b _ hP (hG.below M2.out))
 clear m1 z1 m2 z2 cc hfa hfb hG hF hP
 go_wp2_with fail
 refine HC.out.mono ?_
 rintro e w3 ⟨u,rfl,hu,hb3⟩
 obtain⟨r,hr⟩:∃ r,r=rP a b:=⟨_,rfl⟩
 rw[show rP a b=r from hr.symm] at hu ⊢
 obtain⟨⟨L1,L2⟩,er⟩:=r
 have HR:=Ff hr
 simp only at hu ⊢
 obtain⟨p1,c1',p2,c2,rfl,g1,g2,o1,o2⟩:=hu.ex
 have hn1:Value.ownBlock (.slice p1 L1.length c1')≠some (w.heap.size+1):=fun e=>by have:=o1 _ e;omega
 have hn2:Value.ownBlock (.slice p2 L2.length c2)≠some (w.heap.size+1):=fun e=>by have:=o2 _ e;omega
 have q3:=(hb3.block (w.heap.size+1) (by omega)).trans q2
 have k0:=ar q3 0
 have k1:=ar q3 1
 have f0:=aQ q3 0
 have f1:=aQ q3 1
 have R1:=Ff ((g1.other hn1 0 (.slice p1 L1.length c1')).other hn1 1 (.slice p2 L2.length c2))
 have R2:=Ff ((g2.other hn2 0 (.slice p1 L1.length c1')).other hn2 1 (.slice p2 L2.length c2))
 have O1:=Ff (show ∀ g,Value.ownBlock (.slice p1 L1.length c1')=some g→w.heap.size≤g from fun g e=>by have:=o1 _ e;omega)
 have O2:=Ff (show ∀ g,Value.ownBlock (.slice p2 L2.length c2)=some g→w.heap.size≤g from fun g e=>by have:=o2 _ e;omega)
 have M7:=Ff (((M2.out.trans (hb3.mono M2.out.size)).setCell (p:=⟨w.heap.size+1,0,none⟩) (FV _) (.slice p1 L1.length c1')).setCell (p:=⟨w.heap.size+1,1,none⟩) (FV _) (.slice p2 L2.length c2))
 have g0:=dL q3 (.slice p1 L1.length c1') (.slice p2 L2.length c2)
 have x0:=ar g0 0
 have x1:=ar g0 1
 clear hn1 hn2 g1 g2 o1 o2 q2 q3 hb3 HC hu hr
 go_wp2
 refine bodyPost_ret (v:=.tuple #[.agg #[.slice p1 L1.length c1',.slice p2 L2.length c2],.int .i64 er]) (by simp at x0 x1;simp[results,Tryz.results28,go_sem,x0,x1]) rfl ⟨_,by rw[←HR.out],?_,M7.out⟩
 rw[←HR.out]
 exact⟨⟨p1,c1',p2,c2,rfl,R1.out,R2.out,O1.out,O2.out⟩⟩
theorem ze (q:Rat):(dQ (CQ.real q)).1.size<100000:=by
 unfold dQ
 cases h:ee (CQ.real q)
 ·simp only[FL,if_false]
  have h1:cX (rt q)=false:=by unfold ee CQ.real at h;simp only[GY] at h;exact h.1
  have e:bI (ct (CQ.real q))=aK (rt q):=db (z:=ct (CQ.real q)) (by show (rt 0).n=0;rw[dz])
  have hr:=ou ((tD (aK (rt q))).1.2 ⟨_,kH q,h1,rfl⟩)
  unfold txt
  rw[e]
  show (aK (rt q)).toArray.size<100000
  simp;omega
 ·simp only[if_true];decide
theorem sZ (X:CQ→Rat) (s:ByteArray):(ofC (fun z=>CQ.real (X z)) s).1.size<100000:=by
 unfold ofC
 split
 ·exact ze _
 ·decide
theorem EB (s:ByteArray) (w:World) (hG:Gx w) :
  Calls Tryz.prog 59 #[.string s] w fun e w'=>e=.returned (.bool (lN s))∧Below w.heap.size w w':=by
 have HG:=Ff hG
 obtain⟨x,hx⟩:∃ x,x=(ofC (fun z=>CQ.real z.re) s).1:=⟨_,rfl⟩
 obtain⟨d,hd⟩:∃ d,d=(ofC (fun z=>CQ.real z.re) s).2:=⟨_,rfl⟩
 obtain⟨y,hy⟩:∃ y,y=(ofC (fun z=>CQ.real z.im) s).1:=⟨_,rfl⟩
 obtain⟨e,he⟩:∃ e,e=(ofC (fun z=>CQ.real z.im) s).2:=⟨_,rfl⟩
 have hxs:x.size<100000:=hx ▸ sZ _ s
 have hys:y.size<100000:=hy ▸ sZ _ s
 have H1:=Ff (E9 s w hG.g)
 have H2:=Ff (fun wx (hw:Below w.heap.size w wx)=>E7 s wx (hG.g.below hw))
 rw[←hx,←hd] at H1
 rw[←hy,←he] at H2
 have HS:=Ff (show lN s=(decide (d=0)&&decide (e=0)&&gP x.data.toList&&gP y.data.toList) by unfold lN;rw[hx,hd,hy,he])
 clear hx hd hy he hG
 go_enter Tryz.func59,Tryz.ntmps59
 go_wp2_with fail
 refine H1.out.mono ?_
 rintro r w1 ⟨rfl,hb1⟩
 go_wp2_with fail
 refine (H2.out w1 hb1).mono ?_
 rintro r w2 ⟨rfl,hb2⟩
 have hB2:=hb1.trans (hb2.mono hb1.size)
 clear hb1 hb2 H1 H2
 by_cases h1:d=0
 ·subst h1
  by_cases h2:e=0
  ·subst h2
   go_wp2_with fail
   refine (vS x w2 hxs (HG.out.below hB2)).mono ?_
   rintro r w3 ⟨b,rfl,hb,hb3⟩
   have hB3:=hB2.trans (hb3.mono hB2.size)
   clear hb3 hB2
   cases b
   ·have HB:=Ff hb.out
    clear hb
    go_wp2
    go_ret
    exact⟨by rw[HS.out,HB.out];simp,hB3⟩
   ·have HB:=Ff hb.out
    clear hb
    go_wp2_with fail
    refine (vS y w3 hys (HG.out.below hB3)).mono ?_
    rintro r w4 ⟨b,rfl,hb,hb4⟩
    have HB2:=Ff hb.out
    clear hb
    go_wp2
    go_ret
    exact⟨by rw[HS.out,HB.out,HB2.out];simp,hB3.trans (hb4.mono hB3.size)⟩
  ·have hde:decide (e=0)=false:=decide_eq_false h2
   go_wp2
   go_ret
   exact⟨by rw[HS.out];simp[h2],hB2⟩
 ·have hdd:decide (d=0)=false:=decide_eq_false h1
  go_wp2
  go_ret
  exact⟨by rw[HS.out];simp[h1],hB2⟩
theorem Er (F:FuncId) (b:Value) (φ:CQ→CQ) (s:ByteArray) (w:World) (hG:Gw w) (EN:∀ (args:Array Value) (w:World),(callFunc F args).run Tryz.prog w=.ok (.enter F args) w)
  (hF:∀ p,dy s=some p→∀ (x:Value) (w':World),Below w.heap.size w w'→IsV w' x (ct p)→Calls Tryz.prog F #[b,x] w' fun e w''=>∃ v,e=.returned v∧IsV w'' v (ct (φ p))∧Below w'.heap.size w' w'') :
  Calls Tryz.prog 114 #[.string s,.func (.func F) #[b] #[]] w fun e w'=>e=.returned (.tuple #[.string (ofC φ s).1,.int .i64 (ofC φ s).2])∧Below w.heap.size w w':=by
 have HF:=Ff hF
 clear hF
 go_enter Tryz.func114,Tryz.ntmps114
 go_wp2_with fail
 refine (jQ s w hG).mono ?_
 rintro e w1 ⟨v,ok,rfl,hcase,hb1⟩
 rcases hcase with ⟨z,hz,rfl,hv⟩ | ⟨hz,rfl,rfl⟩
 ·obtain⟨p,rfl,hp1,hp2,-,-⟩:=gY hz
  have HP1:=Ff (show ofC φ s=dQ (φ p) by unfold ofC;rw[hp1])
  have HF:=Ff (HF.out p hp1)
  clear hz hp1
  have hk:IsK w1 v p:=⟨hv,hp2.mono (by decide)⟩
  obtain⟨xm,xp,xl,xc,xq,xk,xd,ym,yp,yl,yc,yq,yk,yd,rfl⟩:∃ xm xp xl xc xq xk xd ym yp yl yc yq yk yd,v=.agg #[.bool xm,.slice xp xl xc,.slice xq xk xd,.bool ym,.slice yp yl yc,.slice yq yk yd]:=by
   obtain⟨_,_,_,_,_,_,rfl,hx0,hy0⟩:=hk.v
   obtain⟨xm,xp,xl,xc,xq,xk,xd,hxe⟩:=hx0.form
   obtain⟨ym,yp,yl,yc,yq,yk,yd,hye⟩:=hy0.form
   obtain⟨rfl,rfl,rfl⟩:=eE hxe
   obtain⟨rfl,rfl,rfl⟩:=eE hye
   exact⟨_,_,_,_,_,_,_,_,_,_,_,_,_,_,rfl⟩
  go_upto_region 2 with fail
  have q1:=bW.new w1 (.bool xm) (.slice xp xl xc) (.slice xq xk xd) (.bool ym) (.slice yp yl yc) (.slice yq yk yd) 153
  have m1:=aj w1 (.cells #[.bool xm,.slice xp xl xc,.slice xq xk xd,.bool ym,.slice yp yl yc,.slice yq yk yd] 153)
  generalize w1.alloc (.cells #[.bool xm,.slice xp xl xc,.slice xq xk xd,.bool ym,.slice yp yl yc,.slice yq yk yd] 153)=w2 at *
  have a0:=q1.c0;have a1:=q1.c1;have a2:=q1.c2;have a3:=q1.c3;have a4:=q1.c4;have a5:=q1.c5
  have hB2:=hb1.trans (m1.mono hb1.size)
  have HC:=Ff (HF.out _ w2 hB2 (hk.v.below m1))
  have HG:=Ff (hG.below hB2)
  clear q1 m1 hk hv hb1 HF
  go_wp2_with fail
  refine HC.out.mono ?_
  rintro e w3 ⟨v3,rfl,hv3,hb3⟩
  have hB3:=hB2.trans (hb3.mono hB2.size)
  go_wp2_with fail
  refine (Bp _ _ _ hv3 (HG.out.below hb3)).mono ?_
  rintro e w4 ⟨rfl,hb4⟩
  go_wp2
  refine bodyPost_ret (v:=.tuple #[.string (dQ (φ p)).1,.int .i64 (dQ (φ p)).2]) (by simp[results,Tryz.results114,go_sem]) rfl ⟨by rw[HP1.out],hB3.trans (hb4.mono hB3.size)⟩
 ·have HE:=Ff (show ofC φ s=(⟨#[]⟩,10) by unfold ofC;rw[gy hz])
  clear hz
  unfold ic
  go_wp2
  refine bodyPost_ret (v:=.tuple #[.string ⟨#[]⟩,.int .i64 10]) (by simp[results,Tryz.results114,go_sem]) rfl ⟨by rw[HE.out],hb1.trans ((aj w1 _).mono hb1.size)⟩
def atT (l:List ByteArray) (s:ByteArray):ByteArray×Int:=match dN l with | .error e=>(⟨#[]⟩,e) | .ok zs=>ofC (atL zs) s
theorem n8 {l:List ByteArray}{zs:List CQ} (h:dN l=.ok zs):zs.length≤l.length:=by
 unfold dN at h
 split at h
 ·cases h
 ·split at h
  ·rename_i ys hy
   cases h
   have h1:=gF hy
   have h2:=jS ys
   omega
  ·cases h
theorem DH (v:Value) (l:List ByteArray) (s:ByteArray) (w:World) (hl:IsS w v l) (h7:l.length≤7) (hG:Gw w) :
  Calls Tryz.prog 61 #[v,.string s] w fun e w'=>e=.returned (.tuple #[.string (atT l s).1,.int .i64 (atT l s).2])∧Below w.heap.size w w':=by
 have HP:=Ff (mN v l w hl hG)
 have HG:=Ff hG
 clear hl hG
 go_enter Tryz.func61,Tryz.ntmps61
 go_wp2_with fail
 refine HP.out.mono ?_
 rintro e w1 ⟨u,x,rfl,hr,hb1⟩
 cases hpc:dN l with
 | error ea =>
  rw[hpc] at hr
  obtain⟨rfl,rfl⟩:=hr
  have HE:=Ff (show atT l s=(⟨#[]⟩,x) by unfold atT;rw[hpc])
  have hd:decide (x=0)=false:=decide_eq_false (by rcases jW hpc with rfl | rfl<;>decide)
  have hd2:(x != 0)=true:=by rcases jW hpc with rfl | rfl<;>decide
  clear hpc HP
  go_wp2
  refine bodyPost_ret (v:=.tuple #[.string ⟨#[]⟩,.int .i64 x]) (by simp[results,Tryz.results61,go_sem]) rfl ⟨by rw[HE.out],hb1⟩
 | ok zs =>
  rw[hpc] at hr
  obtain⟨rfl,hu⟩:=hr
  have s1:=jA hpc
  have l1:=n8 hpc
  have HE:=Ff (show atT l s=ofC (atL zs) s by unfold atT;rw[hpc])
  have HO:=Ff (Er 115 u (atL zs) s w1 (HG.out.below hb1) (bV Tryz.func115 rfl (by kernel_rfl)) (fun p hp x w' hb hx=>atN u x zs p w' (hu.below hb) hx s1 (sF hp).2.2 (by omega)))
  clear hpc HP hu s1 l1 h7
  obtain⟨y,hy⟩:∃ y,y=ofC (atL zs) s:=⟨_,rfl⟩
  rw[←hy] at HO HE
  clear hy
  go_wp2_with fail
  refine HO.out.mono ?_
  rintro e w2 ⟨rfl,hb2⟩
  go_wp2
  refine bodyPost_ret (v:=.tuple #[.string y.1,.int .i64 y.2]) (by simp[results,Tryz.results61,go_sem]) rfl ⟨by rw[HE.out],hb1.trans (hb2.mono hb1.size)⟩
theorem DB {z:ByteArray} (h:z≠⟨#[48]⟩):(z.toList == [48])=false:=by
 refine F_.2 fun hb=>h ?_
 have e:z.toList=[48]:=by simpa using hb
 rw[av] at e
 exact iM e
def fW (a b:List ByteArray) (z:ByteArray):ByteArray×Int :=
 if aB a b=true then
  if lN z=true then
   if z=⟨#[48]⟩ then (⟨#[]⟩,32)
   else if (atT b (dl ⟨#[49]⟩ z)).1=⟨#[48]⟩ then (⟨#[]⟩,32)
   else (dl (atT a (dl ⟨#[49]⟩ z)).1 (atT b (dl ⟨#[49]⟩ z)).1,0)
  else (⟨#[]⟩,2)
 else (⟨#[]⟩,30)
theorem pt (v:Value) (a b:List ByteArray) (z:ByteArray) (w:World) (hF:IsF w v a b) (hG:Gx w) :
  Calls Tryz.prog 19 #[v,.string z] w fun e w'=>e=.returned (.tuple #[.string (fW a b z).1,.int .i64 (fW a b z).2])∧Below w.heap.size w w':=by
 obtain⟨p,c,q,d,rfl,hfa,hfb⟩:=id hF.ex
 go_enter Tryz.func19,Tryz.ntmps19
 go_upto_region 1 with fail
 have cc:=aE w (.slice p a.length c) (.slice q b.length d)
 have m1:=aj w (.cells #[.slice p a.length c,.slice q b.length d] 24)
 have zz:=size_alloc w (.cells #[.slice p a.length c,.slice q b.length d] 24)
 generalize w.alloc (.cells #[.slice p a.length c,.slice q b.length d] 24)=w1 at *
 have HCK:=Ff (fm _ a b w1 (hF.below m1) (hG.below m1))
 have HA:=Ff (hfa.below m1)
 have HB:=Ff (hfb.below m1)
 have HG:=Ff (hG.below m1)
 have c0:=cc.1
 have c1:=cc.2
 have hlt:w.heap.size<w1.heap.size:=by omega
 have M1:=Ff m1
 clear hfa hfb cc zz m1 hF hG
 by_cases hck:aB a b=true
 ·have hce:aA a b=0:=by unfold aA;rw[if_pos hck]
  rw[hce] at HCK
  obtain⟨ob1,ob7,oa1,oa7,oac,obc,ohd⟩:=bf hck
  clear hce
  go_wp2_with fail
  refine HCK.out.mono ?_
  rintro e w2 ⟨rfl,hb2⟩
  have d0:=ag hb2 hlt c0
  have d1:=ag hb2 hlt c1
  have HA2:=Ff (HA.out.below hb2)
  have HB2:=Ff (HB.out.below hb2)
  have HG2:=Ff (HG.out.below hb2)
  have M2:=Ff (M1.out.trans (hb2.mono M1.out.size))
  have hlt2:w.heap.size<w2.heap.size:=Fo hlt hb2.size
  clear c0 c1 HA HB HG HCK M1 hb2 hlt
  have HA7:=Ff oa7
  have HO7:=Ff ob7
  clear oac obc ohd
  go_wp2_with fail
  refine (EB z w2 HG2.out).mono ?_
  rintro e w3 ⟨rfl,hb3⟩
  have e0:=ag hb3 hlt2 d0
  have e1:=ag hb3 hlt2 d1
  have hlt3:w.heap.size<w3.heap.size:=Fo hlt2 hb3.size
  have HA3:=Ff (HA2.out.below hb3)
  have HB3:=Ff (HB2.out.below hb3)
  have HG3:=Ff (HG2.out.below hb3)
  have M3:=Ff (M2.out.trans (hb3.mono M2.out.size))
  have HT:=Ff (show fW a b z=if lN z=true then if z=⟨#[48]⟩ then (⟨#[]⟩,32) else if (atT b (dl ⟨#[49]⟩ z)).1=⟨#[48]⟩ then (⟨#[]⟩,32) else (dl (atT a (dl ⟨#[49]⟩ z)).1 (atT b (dl ⟨#[49]⟩ z)).1,0) else (⟨#[]⟩,2) by unfold fW;rw[if_pos hck])
  clear d0 d1 hlt2 HA2 HB2 HG2 M2 hb3 hck ob1 oa1 oa7 ob7
  cases hsz:lN z with
  | false =>
   have HE:=Ff (show fW a b z=(⟨#[]⟩,2) by rw[HT.out,if_neg (by rw[hsz];decide)])
   clear hsz
   go_wp2
   refine bodyPost_ret (v:=.tuple #[.string ⟨#[]⟩,.int .i64 2]) (by simp[results,Tryz.results19,go_sem]) rfl ⟨by rw[HE.out],M3.out⟩
  | true =>
   rw[if_pos hsz] at HT
   clear hsz
   by_cases hz0:z=⟨#[48]⟩
   ·have HE:=Ff (show fW a b z=(⟨#[]⟩,32) by rw[HT.out,if_pos hz0])
    have hzd:(z.toList == [48])=true:=by rw[hz0,av];rfl
    clear hz0
    go_wp2
    refine bodyPost_ret (v:=.tuple #[.string ⟨#[]⟩,.int .i64 32]) (by simp[results,Tryz.results19,go_sem]) rfl ⟨by rw[HE.out],M3.out⟩
   ·rw[if_neg hz0] at HT
    have hzd:=DB hz0
    clear hz0
    go_wp2_with fail
    refine (gh _ _ w3 HG3.out.g).mono ?_
    rintro e w4 ⟨rfl,hb4⟩
    generalize dl ⟨#[49]⟩ z=iv at HT ⊢
    have g0:=ag hb4 hlt3 e0
    have g1:=ag hb4 hlt3 e1
    have hlt4:w.heap.size<w4.heap.size:=Fo hlt3 hb4.size
    have HA4:=Ff (HA3.out.below hb4)
    have HB4:=Ff (HB3.out.below hb4)
    have HG4:=Ff (HG3.out.below hb4)
    have M4:=Ff (M3.out.trans (hb4.mono M3.out.size))
    obtain⟨ya,hya⟩:∃ ya,ya=atT a iv:=⟨_,rfl⟩
    obtain⟨yb,hyb⟩:∃ yb,yb=atT b iv:=⟨_,rfl⟩
    have N1:=DH _ a iv w4 HA4.out HA7.out HG4.out.g
    have N2:=Ff (fun wx (h:Below w4.heap.size w4 wx)=>DH _ b iv wx (HB4.out.below h) HO7.out (HG4.out.below h).g)
    rw[←hya] at N1 HT
    rw[←hyb] at N2 HT
    have N1:=Ff N1
    clear e0 e1 hlt3 HA3 HB3 HG3 M3 hb4 hya hyb HA4 HB4
    go_wp2_with fail
    refine N1.out.mono ?_
    rintro e w5 ⟨rfl,hb5⟩
    have e0:=ag hb5 hlt4 g0
    have e1:=ag hb5 hlt4 g1
    go_wp2_with fail
    refine (N2.out w5 hb5).mono ?_
    rintro e w6 ⟨rfl,hb6⟩
    have hB6:=hb5.trans (hb6.mono hb5.size)
    have M6:=Ff (M4.out.trans (hB6.mono M4.out.size))
    have HG6:=Ff (HG4.out.below hB6)
    clear e0 e1 g0 g1 N1 N2 hb5 hb6 hB6 M4 HG4 hlt4
    obtain⟨yb1,yb2⟩:=yb
    obtain⟨ya1,ya2⟩:=ya
    simp only at HT ⊢
    by_cases hy0:yb1=⟨#[48]⟩
    ·have HE:=Ff (show fW a b z=(⟨#[]⟩,32) by rw[HT.out,if_pos hy0])
     have hyd:(yb1.toList == [48])=true:=by rw[hy0,av];rfl
     clear hy0
     go_wp2
     refine bodyPost_ret (v:=.tuple #[.string ⟨#[]⟩,.int .i64 32]) (by simp[results,Tryz.results19,go_sem]) rfl ⟨by rw[HE.out],M6.out⟩
    ·have HE:=Ff (show fW a b z=(dl ya1 yb1,0) by rw[HT.out,if_neg hy0])
     have hyd:=DB hy0
     clear hy0
     go_wp2_with fail
     refine (gh _ _ w6 HG6.out.g).mono ?_
     rintro e w7 ⟨rfl,hb7⟩
     go_wp2
     refine bodyPost_ret (v:=.tuple #[.string (dl ya1 yb1),.int .i64 0]) (by simp[results,Tryz.results19,go_sem]) rfl ⟨by rw[HE.out],M6.out.trans (hb7.mono M6.out.size)⟩
 ·have HE:=Ff (show fW a b z=(⟨#[]⟩,30) by unfold fW;rw[if_neg hck])
  have hce:aA a b=30:=by unfold aA;rw[if_neg hck]
  rw[hce] at HCK
  clear hce
  go_wp2_with fail
  refine HCK.out.mono ?_
  rintro e w2 ⟨rfl,hb2⟩
  go_wp2
  refine bodyPost_ret (v:=.tuple #[.string ⟨#[]⟩,.int .i64 30]) (by simp[results,Tryz.results19,go_sem]) rfl ⟨by rw[HE.out],M1.out.trans (hb2.mono M1.out.size)⟩
end Go.Proofs.YtbnkpcfjechfiaaGreatDoor
