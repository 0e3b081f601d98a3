/- L -/
import Derived.Test.YtgakllaobooabaaGreatDoorXNC8
import Derived.Test.YtgakllaobooabaaGreatDoorXPL6
import Derived.Test.YtgakllaobooabaaGreatDoorXLP10
import Derived.Test.YtgakllaobooabaaGreatDoorXB
set_option linter.all false
set_option maxRecDepth 100000
set_option maxHeartbeats 8000000
namespace Go.Proofs.YtgakllaobooabaaGreatDoor
open Go.RowKit Dg
def iT (a b:List ByteArray):(List ByteArray×List ByteArray)×Int:=bJ a b a b (eG a a b)
def nY (a b:List ByteArray):(List ByteArray×List ByteArray)×Int:=bJ a b a b (eG b a b)
theorem uT (w:World) (a b:List ByteArray) (v:Value) (hP:j_ w v a b a b ⟨#[]⟩ 0) (hG:Gx w):Calls Tryz.prog 49 #[.func (.func 50) #[] #[],v] w (gz (iT a b) w):=by
 refine ow 50 v a b a b ⟨#[]⟩ 0 _ w hP ⟨aZ Tryz.func50 rfl (by kernel_rfl),fun v' w' hw' hP' hc hc2=>?_⟩ hG;obtain⟨ob1,ob7,oa1,oa7,-⟩:=aN hc;exact xQ v' a b a b ⟨#[]⟩ 0 w' hP' oa1 (by omega) (by omega) (hG.below hw').g
theorem zv (w:World) (a b:List ByteArray) (v:Value) (hP:j_ w v a b a b ⟨#[]⟩ 0) (hG:Gx w):Calls Tryz.prog 49 #[.func (.func 51) #[] #[],v] w (gz (nY a b) w):=by
 refine ow 51 v a b a b ⟨#[]⟩ 0 _ w hP ⟨aZ Tryz.func51 rfl (by kernel_rfl),fun v' w' hw' hP' hc hc2=>?_⟩ hG;obtain⟨ob1,ob7,oa1,oa7,-⟩:=aN hc;exact Ae v' a b a b ⟨#[]⟩ 0 w' hP' oa1 (by omega) (by omega) (hG.below hw').g
theorem xE (v:Value) (a b:List ByteArray) (w:World) (hF:IsF w v a b) (hG:Gx w) :
  Calls Tryz.prog 23 #[v] w (gz (iT a b) w):=by
 obtain⟨p,c,q,d,rfl,hfa,hfb⟩:=id hF.ex;go_enter Tryz.func23,Tryz.ntmps23;go_upto_region 1 with fail
 have cc:=ar w (.slice p a.length c) (.slice q b.length d);have m1:=ac w (.cells #[.slice p a.length c,.slice q b.length d] 24);have z1:=size_alloc w (.cells #[.slice p a.length c,.slice q b.length d] 24);generalize w.alloc (.cells #[.slice p a.length c,.slice q b.length d] 24)=w1 at *
 have q2:(w1.alloc (.cells #[.slice none 0 0,.slice none 0 0] 24)).heap[w1.heap.size]?=some (.cells #[.slice none 0 0,.slice none 0 0] 24 (0,0)):=heap_alloc_new w1 _;have m2:=ac w1 (.cells #[.slice none 0 0,.slice none 0 0] 24);have z2:=size_alloc w1 (.cells #[.slice none 0 0,.slice none 0 0] 24);have c0:=aa m2 (show w.heap.size<w1.heap.size by omega) cc.1;have c1:=aa m2 (show w.heap.size<w1.heap.size by omega) cc.2;generalize w1.alloc (.cells #[.slice none 0 0,.slice none 0 0] 24)=w2 at *
 rw[z1] at q2;have M2:=At (m1.trans (m2.mono m1.size));have hz2:w.heap.size+2=w2.heap.size:=by omega
 have hP:j_ w2 (.agg #[.slice p a.length c,.slice q b.length d,.slice p a.length c,.slice q b.length d,.string ⟨#[]⟩,.int .i64 0]) a b a b ⟨#[]⟩ 0 :=
  ⟨⟨p,c,q,d,p,c,q,d,rfl,hfa.below M2.out,hfb.below M2.out,hfa.below M2.out,hfb.below M2.out⟩⟩
 have HC:=At (uT w2 a b _ hP (hG.below M2.out));clear m1 z1 m2 z2 cc hfa hfb hG hF hP;go_wp2_with fail
 refine HC.out.mono ?_;rintro e w3 ⟨u,rfl,hu,hb3⟩;obtain⟨r,hr⟩:∃ r,r=iT a b:=⟨_,rfl⟩;rw[show iT a b=r from hr.symm] at hu |-;obtain⟨⟨L1,L2⟩,er⟩:=r;have HR:=At hr;simp only at hu |-;obtain⟨p1,c1',p2,c2,rfl,g1,g2,o1,o2⟩:=hu.ex;have hn1:Value.ownBlock (.slice p1 L1.length c1')≠some (w.heap.size+1):=fun e=>by have:=o1 _ e;omega
 have hn2:Value.ownBlock (.slice p2 L2.length c2)≠some (w.heap.size+1):=fun e=>by have:=o2 _ e;omega
 have q3:=(hb3.block (w.heap.size+1) (by omega)).trans q2;have k0:=ah q3 0;have k1:=ah q3 1;have f0:=ay q3 0;have f1:=ay q3 1;have R1:=At ((g1.other hn1 0 (.slice p1 L1.length c1')).other hn1 1 (.slice p2 L2.length c2));have R2:=At ((g2.other hn2 0 (.slice p1 L1.length c1')).other hn2 1 (.slice p2 L2.length c2));have O1:=At (show ∀ g,Value.ownBlock (.slice p1 L1.length c1')=some g->w.heap.size<=g from fun g e=>by have:=o1 _ e;omega);have O2:=At (show ∀ g,Value.ownBlock (.slice p2 L2.length c2)=some g->w.heap.size<=g from fun g e=>by have:=o2 _ e;omega);have M7:=At (((M2.out.trans (hb3.mono M2.out.size)).setCell (p:=⟨w.heap.size+1,0,none⟩) (Bg _) (.slice p1 L1.length c1')).setCell (p:=⟨w.heap.size+1,1,none⟩) (Bg _) (.slice p2 L2.length c2));have g0:=cD q3 (.slice p1 L1.length c1') (.slice p2 L2.length c2);have x0:=ah g0 0;have x1:=ah g0 1;clear hn1 hn2 g1 g2 o1 o2 q2 q3 hb3 HC hu hr;go_wp2;refine Du (v:=.tuple #[.agg #[.slice p1 L1.length c1',.slice p2 L2.length c2],.int .i64 er]) (by simp at x0 x1;simp[results,Tryz.results23,go_sem,x0,x1]) rfl ⟨_,by rw[<-HR.out],?_,M7.out⟩;rw[<-HR.out];exact⟨⟨p1,c1',p2,c2,rfl,R1.out,R2.out,O1.out,O2.out⟩⟩
theorem zY (v:Value) (a b:List ByteArray) (w:World) (hF:IsF w v a b) (hG:Gx w) :
  Calls Tryz.prog 24 #[v] w (gz (nY a b) w):=by
 obtain⟨p,c,q,d,rfl,hfa,hfb⟩:=id hF.ex;go_enter Tryz.func24,Tryz.ntmps24;go_upto_region 1 with fail
 have cc:=ar w (.slice p a.length c) (.slice q b.length d);have m1:=ac w (.cells #[.slice p a.length c,.slice q b.length d] 24);have z1:=size_alloc w (.cells #[.slice p a.length c,.slice q b.length d] 24);generalize w.alloc (.cells #[.slice p a.length c,.slice q b.length d] 24)=w1 at *
 have q2:(w1.alloc (.cells #[.slice none 0 0,.slice none 0 0] 24)).heap[w1.heap.size]?=some (.cells #[.slice none 0 0,.slice none 0 0] 24 (0,0)):=heap_alloc_new w1 _;have m2:=ac w1 (.cells #[.slice none 0 0,.slice none 0 0] 24);have z2:=size_alloc w1 (.cells #[.slice none 0 0,.slice none 0 0] 24);have c0:=aa m2 (show w.heap.size<w1.heap.size by omega) cc.1;have c1:=aa m2 (show w.heap.size<w1.heap.size by omega) cc.2;generalize w1.alloc (.cells #[.slice none 0 0,.slice none 0 0] 24)=w2 at *
 rw[z1] at q2;have M2:=At (m1.trans (m2.mono m1.size));have hz2:w.heap.size+2=w2.heap.size:=by omega
 have hP:j_ w2 (.agg #[.slice p a.length c,.slice q b.length d,.slice p a.length c,.slice q b.length d,.string ⟨#[]⟩,.int .i64 0]) a b a b ⟨#[]⟩ 0 :=
  ⟨⟨p,c,q,d,p,c,q,d,rfl,hfa.below M2.out,hfb.below M2.out,hfa.below M2.out,hfb.below M2.out⟩⟩
 have HC:=At (zv w2 a b _ hP (hG.below M2.out));clear m1 z1 m2 z2 cc hfa hfb hG hF hP;go_wp2_with fail
 refine HC.out.mono ?_;rintro e w3 ⟨u,rfl,hu,hb3⟩;obtain⟨r,hr⟩:∃ r,r=nY a b:=⟨_,rfl⟩;rw[show nY a b=r from hr.symm] at hu |-;obtain⟨⟨L1,L2⟩,er⟩:=r;have HR:=At hr;simp only at hu |-;obtain⟨p1,c1',p2,c2,rfl,g1,g2,o1,o2⟩:=hu.ex;have hn1:Value.ownBlock (.slice p1 L1.length c1')≠some (w.heap.size+1):=fun e=>by have:=o1 _ e;omega
 have hn2:Value.ownBlock (.slice p2 L2.length c2)≠some (w.heap.size+1):=fun e=>by have:=o2 _ e;omega
 have q3:=(hb3.block (w.heap.size+1) (by omega)).trans q2;have k0:=ah q3 0;have k1:=ah q3 1;have f0:=ay q3 0;have f1:=ay q3 1;have R1:=At ((g1.other hn1 0 (.slice p1 L1.length c1')).other hn1 1 (.slice p2 L2.length c2));have R2:=At ((g2.other hn2 0 (.slice p1 L1.length c1')).other hn2 1 (.slice p2 L2.length c2));have O1:=At (show ∀ g,Value.ownBlock (.slice p1 L1.length c1')=some g->w.heap.size<=g from fun g e=>by have:=o1 _ e;omega);have O2:=At (show ∀ g,Value.ownBlock (.slice p2 L2.length c2)=some g->w.heap.size<=g from fun g e=>by have:=o2 _ e;omega);have M7:=At (((M2.out.trans (hb3.mono M2.out.size)).setCell (p:=⟨w.heap.size+1,0,none⟩) (Bg _) (.slice p1 L1.length c1')).setCell (p:=⟨w.heap.size+1,1,none⟩) (Bg _) (.slice p2 L2.length c2));have g0:=cD q3 (.slice p1 L1.length c1') (.slice p2 L2.length c2);have x0:=ah g0 0;have x1:=ah g0 1;clear hn1 hn2 g1 g2 o1 o2 q2 q3 hb3 HC hu hr;go_wp2;refine Du (v:=.tuple #[.agg #[.slice p1 L1.length c1',.slice p2 L2.length c2],.int .i64 er]) (by simp at x0 x1;simp[results,Tryz.results24,go_sem,x0,x1]) rfl ⟨_,by rw[<-HR.out],?_,M7.out⟩;rw[<-HR.out];exact⟨⟨p1,c1',p2,c2,rfl,R1.out,R2.out,O1.out,O2.out⟩⟩
theorem tT (q:Rat):(b8 (CQ.real q)).1.size<100000:=by
 unfold b8
 cases h:cV (CQ.real q)
 ·simp only[AU,if_false];have h1:cO (rt q)=false:=by unfold cV CQ.real at h;simp only[BX] at h;exact h.1
  have e:cr (ct (CQ.real q))=aG (rt q):=bY (z:=ct (CQ.real q)) (by show (rt 0).n=0;rw[dQ]);have hr:=lr ((wJ (aG (rt q))).1.2 ⟨_,kr q,h1,rfl⟩);unfold txt;rw[e]
  show (aG (rt q)).toArray.size<100000
  simp;omega
 ·simp only[if_true];decide
theorem pw (X:CQ->Rat) (s:ByteArray):(ofC (fun z=>CQ.real (X z)) s).1.size<100000:=by
 unfold ofC
 split
 ·exact tT _
 ·decide
theorem zP (s:ByteArray) (w:World) (hG:Gx w) :
  Calls Tryz.prog 47 #[.string s] w fun e w'=>e=.returned (.bool (jP s))/\Below w.heap.size w w':=by
 have HG:=At hG;obtain⟨x,hx⟩:∃ x,x=(ofC (fun z=>CQ.real z.re) s).1:=⟨_,rfl⟩;obtain⟨d,hd⟩:∃ d,d=(ofC (fun z=>CQ.real z.re) s).2:=⟨_,rfl⟩;obtain⟨y,hy⟩:∃ y,y=(ofC (fun z=>CQ.real z.im) s).1:=⟨_,rfl⟩;obtain⟨e,he⟩:∃ e,e=(ofC (fun z=>CQ.real z.im) s).2:=⟨_,rfl⟩;have hxs:x.size<100000:=hx ▸ pw _ s;have hys:y.size<100000:=hy ▸ pw _ s;have H1:=At (Al s w hG.g);have H2:=At (fun wx (hw:Below w.heap.size w wx)=>Aj s wx (hG.g.below hw));rw[<-hx,<-hd] at H1;rw[<-hy,<-he] at H2;have HS:=At (show jP s=(decide (d=0)&&decide (e=0)&&fi x.data.toList&&fi y.data.toList) by unfold jP;rw[hx,hd,hy,he]);clear hx hd hy he hG;go_enter Tryz.func47,Tryz.ntmps47;go_wp2_with fail
 refine H1.out.mono ?_;rintro r w1 ⟨rfl,hb1⟩;go_wp2_with fail
 refine (H2.out w1 hb1).mono ?_;rintro r w2 ⟨rfl,hb2⟩;have hB2:=hb1.trans (hb2.mono hb1.size);clear hb1 hb2 H1 H2;by_cases h1:d=0
 ·subst h1;by_cases h2:e=0
  ·subst h2;go_wp2_with fail
   refine (rx x w2 hxs (HG.out.below hB2)).mono ?_;rintro r w3 ⟨b,rfl,hb,hb3⟩;have hB3:=hB2.trans (hb3.mono hB2.size);clear hb3 hB2
   cases b
   ·have HB:=At hb.out;clear hb;go_wp2;go_ret;exact⟨by rw[HS.out,HB.out];simp,hB3⟩
   ·have HB:=At hb.out;clear hb;go_wp2_with fail
    refine (rx y w3 hys (HG.out.below hB3)).mono ?_;rintro r w4 ⟨b,rfl,hb,hb4⟩;have HB2:=At hb.out;clear hb;go_wp2;go_ret;exact⟨by rw[HS.out,HB.out,HB2.out];simp,hB3.trans (hb4.mono hB3.size)⟩
  ·have hde:decide (e=0)=false:=decide_eq_false h2;go_wp2;go_ret;exact⟨by rw[HS.out];simp[h2],hB2⟩
 ·have hdd:decide (d=0)=false:=decide_eq_false h1;go_wp2;go_ret;exact⟨by rw[HS.out];simp[h1],hB2⟩
theorem zI (F:FuncId) (b:Value) (φ:CQ->CQ) (s:ByteArray) (w:World) (hG:Gw w) (EN:∀ (args:Array Value) (w:World),(callFunc F args).run Tryz.prog w=.ok (.enter F args) w)
  (hF:∀ p,dX s=some p->∀ (x:Value) (w':World),Below w.heap.size w w'->IsV w' x (ct p)->Calls Tryz.prog F #[b,x] w' fun e w''=>∃ v,e=.returned v/\IsV w'' v (ct (φ p))/\Below w'.heap.size w' w'') :
  Calls Tryz.prog 85 #[.string s,.func (.func F) #[b] #[]] w fun e w'=>e=.returned (.tuple #[.string (ofC φ s).1,.int .i64 (ofC φ s).2])/\Below w.heap.size w w':=by
 have HF:=At hF;clear hF;go_enter Tryz.func85,Tryz.ntmps85;go_wp2_with fail
 refine (ib s w hG).mono ?_;rintro e w1 ⟨v,ok,rfl,hcase,hb1⟩;rcases hcase with ⟨z,hz,rfl,hv⟩ | ⟨hz,rfl,rfl⟩
 ·obtain⟨p,rfl,hp1,hp2,-,-⟩:=fX hz;have HP1:=At (show ofC φ s=b8 (φ p) by unfold ofC;rw[hp1]);have HF:=At (HF.out p hp1);clear hz hp1;have hk:IsK w1 v p:=⟨hv,hp2.mono (by decide)⟩
  obtain⟨xm,xp,xl,xc,xq,xk,xd,ym,yp,yl,yc,yq,yk,yd,rfl⟩:∃ xm xp xl xc xq xk xd ym yp yl yc yq yk yd,v=.agg #[.bool xm,.slice xp xl xc,.slice xq xk xd,.bool ym,.slice yp yl yc,.slice yq yk yd]:=by
   obtain⟨_,_,_,_,_,_,rfl,hx0,hy0⟩:=hk.v;obtain⟨xm,xp,xl,xc,xq,xk,xd,hxe⟩:=hx0.form;obtain⟨ym,yp,yl,yc,yq,yk,yd,hye⟩:=hy0.form;obtain⟨rfl,rfl,rfl⟩:=cH hxe;obtain⟨rfl,rfl,rfl⟩:=cH hye;exact⟨_,_,_,_,_,_,_,_,_,_,_,_,_,_,rfl⟩
  go_upto_region 2 with fail
  have q1:=aW.new w1 (.bool xm) (.slice xp xl xc) (.slice xq xk xd) (.bool ym) (.slice yp yl yc) (.slice yq yk yd) 65;have m1:=ac w1 (.cells #[.bool xm,.slice xp xl xc,.slice xq xk xd,.bool ym,.slice yp yl yc,.slice yq yk yd] 65);generalize w1.alloc (.cells #[.bool xm,.slice xp xl xc,.slice xq xk xd,.bool ym,.slice yp yl yc,.slice yq yk yd] 65)=w2 at *
  have a0:=q1.c0;have a1:=q1.c1;have a2:=q1.c2;have a3:=q1.c3;have a4:=q1.c4;have a5:=q1.c5;have hB2:=hb1.trans (m1.mono hb1.size);have HC:=At (HF.out _ w2 hB2 (hk.v.below m1));have HG:=At (hG.below hB2);clear q1 m1 hk hv hb1 HF;go_wp2_with fail
  refine HC.out.mono ?_;rintro e w3 ⟨v3,rfl,hv3,hb3⟩;have hB3:=hB2.trans (hb3.mono hB2.size);go_wp2_with fail
  refine (tU _ _ _ hv3 (HG.out.below hb3)).mono ?_;rintro e w4 ⟨rfl,hb4⟩;go_wp2;refine Du (v:=.tuple #[.string (b8 (φ p)).1,.int .i64 (b8 (φ p)).2]) (by simp[results,Tryz.results85,go_sem]) rfl ⟨by rw[HP1.out],hB3.trans (hb4.mono hB3.size)⟩
 ·have HE:=At (show ofC φ s=(⟨#[]⟩,10) by unfold ofC;rw[eA hz]);clear hz;unfold fh;go_wp2;refine Du (v:=.tuple #[.string ⟨#[]⟩,.int .i64 10]) (by simp[results,Tryz.results85,go_sem]) rfl ⟨by rw[HE.out],hb1.trans ((ac w1 _).mono hb1.size)⟩
def atT (l:List ByteArray) (s:ByteArray):ByteArray×Int:=match cj l with | .error e=>(⟨#[]⟩,e) | .ok zs=>ofC (atL zs) s
theorem ll {l:List ByteArray}{zs:List CQ} (h:cj l=.ok zs):zs.length<=l.length:=by
 unfold cj at h
 split at h
 ·cases h
 ·split at h
  ·rename_i ys hy
   cases h
   have h1:=cU hy;have h2:=ic ys;omega
  ·cases h
theorem yX (v:Value) (l:List ByteArray) (s:ByteArray) (w:World) (hl:IsS w v l) (h7:l.length<=7) (hG:Gw w) :
  Calls Tryz.prog 48 #[v,.string s] w fun e w'=>e=.returned (.tuple #[.string (atT l s).1,.int .i64 (atT l s).2])/\Below w.heap.size w w':=by
 have HP:=At (kx v l w hl hG);have HG:=At hG;clear hl hG;go_enter Tryz.func48,Tryz.ntmps48;go_wp2_with fail
 refine HP.out.mono ?_;rintro e w1 ⟨u,x,rfl,hr,hb1⟩
 cases hpc:cj l with
 | error ea =>
  rw[hpc] at hr;obtain⟨rfl,rfl⟩:=hr;have HE:=At (show atT l s=(⟨#[]⟩,x) by unfold atT;rw[hpc]);have hd:decide (x=0)=false:=decide_eq_false (by rcases ij hpc with rfl | rfl<;>decide);have hd2:(x != 0)=true:=by rcases ij hpc with rfl | rfl<;>decide
  clear hpc HP;go_wp2;refine Du (v:=.tuple #[.string ⟨#[]⟩,.int .i64 x]) (by simp[results,Tryz.results48,go_sem]) rfl ⟨by rw[HE.out],hb1⟩
 | ok zs =>
  rw[hpc] at hr;obtain⟨rfl,hu⟩:=hr;have s1:=gS hpc;have l1:=ll hpc;have HE:=At (show atT l s=ofC (atL zs) s by unfold atT;rw[hpc]);have HO:=At (zI 86 u (atL zs) s w1 (HG.out.below hb1) (aZ Tryz.func86 rfl (by kernel_rfl)) (fun p hp x w' hb hx=>atN u x zs p w' (hu.below hb) hx s1 (oN hp).2.2 (by omega)));clear hpc HP hu s1 l1 h7;obtain⟨y,hy⟩:∃ y,y=ofC (atL zs) s:=⟨_,rfl⟩;rw[<-hy] at HO HE;clear hy;go_wp2_with fail
  refine HO.out.mono ?_;rintro e w2 ⟨rfl,hb2⟩;go_wp2;refine Du (v:=.tuple #[.string y.1,.int .i64 y.2]) (by simp[results,Tryz.results48,go_sem]) rfl ⟨by rw[HE.out],hb1.trans (hb2.mono hb1.size)⟩
theorem yQ {z:ByteArray} (h:z≠⟨#[48]⟩):(z.toList == [48])=false:=by
 refine Bk.2 fun hb=>h ?_;have e:z.toList=[48]:=by simpa using hb
 rw[ak] at e;exact fT e
def d7 (a b:List ByteArray) (z:ByteArray):ByteArray×Int :=
 if aq a b=true then
  if jP z=true then
   if z=⟨#[48]⟩ then (⟨#[]⟩,32)
   else if (atT b (bE ⟨#[49]⟩ z)).1=⟨#[48]⟩ then (⟨#[]⟩,32)
   else (bE (atT a (bE ⟨#[49]⟩ z)).1 (atT b (bE ⟨#[49]⟩ z)).1,0)
  else (⟨#[]⟩,2)
 else (⟨#[]⟩,30)
theorem lZ (v:Value) (a b:List ByteArray) (z:ByteArray) (w:World) (hF:IsF w v a b) (hG:Gx w) :
  Calls Tryz.prog 22 #[v,.string z] w fun e w'=>e=.returned (.tuple #[.string (d7 a b z).1,.int .i64 (d7 a b z).2])/\Below w.heap.size w w':=by
 obtain⟨p,c,q,d,rfl,hfa,hfb⟩:=id hF.ex;go_enter Tryz.func22,Tryz.ntmps22;go_upto_region 1 with fail
 have cc:=ar w (.slice p a.length c) (.slice q b.length d);have m1:=ac w (.cells #[.slice p a.length c,.slice q b.length d] 24);have zz:=size_alloc w (.cells #[.slice p a.length c,.slice q b.length d] 24);generalize w.alloc (.cells #[.slice p a.length c,.slice q b.length d] 24)=w1 at *
 have HCK:=At (dC _ a b w1 (hF.below m1) (hG.below m1));have HA:=At (hfa.below m1);have HB:=At (hfb.below m1);have HG:=At (hG.below m1);have c0:=cc.1;have c1:=cc.2;have hlt:w.heap.size<w1.heap.size:=by omega
 have M1:=At m1;clear hfa hfb cc zz m1 hF hG;by_cases hck:aq a b=true
 ·have hce:au a b=0:=by unfold au;rw[if_pos hck]
  rw[hce] at HCK;obtain⟨ob1,ob7,oa1,oa7,oac,obc,ohd⟩:=aN hck;clear hce;go_wp2_with fail
  refine HCK.out.mono ?_;rintro e w2 ⟨rfl,hb2⟩;have d0:=aa hb2 hlt c0;have d1:=aa hb2 hlt c1;have HA2:=At (HA.out.below hb2);have HB2:=At (HB.out.below hb2);have HG2:=At (HG.out.below hb2);have M2:=At (M1.out.trans (hb2.mono M1.out.size));have hlt2:w.heap.size<w2.heap.size:=AD hlt hb2.size;clear c0 c1 HA HB HG HCK M1 hb2 hlt;have HA7:=At oa7;have HO7:=At ob7;clear oac obc ohd;go_wp2_with fail
  refine (zP z w2 HG2.out).mono ?_;rintro e w3 ⟨rfl,hb3⟩;have e0:=aa hb3 hlt2 d0;have e1:=aa hb3 hlt2 d1;have hlt3:w.heap.size<w3.heap.size:=AD hlt2 hb3.size;have HA3:=At (HA2.out.below hb3);have HB3:=At (HB2.out.below hb3);have HG3:=At (HG2.out.below hb3);have M3:=At (M2.out.trans (hb3.mono M2.out.size));have HT:=At (show d7 a b z=if jP z=true then if z=⟨#[48]⟩ then (⟨#[]⟩,32) else if (atT b (bE ⟨#[49]⟩ z)).1=⟨#[48]⟩ then (⟨#[]⟩,32) else (bE (atT a (bE ⟨#[49]⟩ z)).1 (atT b (bE ⟨#[49]⟩ z)).1,0) else (⟨#[]⟩,2) by unfold d7;rw[if_pos hck]);clear d0 d1 hlt2 HA2 HB2 HG2 M2 hb3 hck ob1 oa1 oa7 ob7
  cases hsz:jP z with
  | false =>
   have HE:=At (show d7 a b z=(⟨#[]⟩,2) by rw[HT.out,if_neg (by rw[hsz];decide)]);clear hsz;go_wp2;refine Du (v:=.tuple #[.string ⟨#[]⟩,.int .i64 2]) (by simp[results,Tryz.results22,go_sem]) rfl ⟨by rw[HE.out],M3.out⟩
  | true =>
   rw[if_pos hsz] at HT;clear hsz;by_cases hz0:z=⟨#[48]⟩
   ·have HE:=At (show d7 a b z=(⟨#[]⟩,32) by rw[HT.out,if_pos hz0]);have hzd:(z.toList == [48])=true:=by rw[hz0,ak];rfl
    clear hz0;go_wp2;refine Du (v:=.tuple #[.string ⟨#[]⟩,.int .i64 32]) (by simp[results,Tryz.results22,go_sem]) rfl ⟨by rw[HE.out],M3.out⟩
   ·rw[if_neg hz0] at HT;have hzd:=yQ hz0;clear hz0;go_wp2_with fail
    refine (ej _ _ w3 HG3.out.g).mono ?_;rintro e w4 ⟨rfl,hb4⟩;generalize bE ⟨#[49]⟩ z=iv at HT |-;have g0:=aa hb4 hlt3 e0;have g1:=aa hb4 hlt3 e1;have hlt4:w.heap.size<w4.heap.size:=AD hlt3 hb4.size;have HA4:=At (HA3.out.below hb4);have HB4:=At (HB3.out.below hb4);have HG4:=At (HG3.out.below hb4);have M4:=At (M3.out.trans (hb4.mono M3.out.size));obtain⟨ya,hya⟩:∃ ya,ya=atT a iv:=⟨_,rfl⟩;obtain⟨yb,hyb⟩:∃ yb,yb=atT b iv:=⟨_,rfl⟩;have N1:=yX _ a iv w4 HA4.out HA7.out HG4.out.g;have N2:=At (fun wx (h:Below w4.heap.size w4 wx)=>yX _ b iv wx (HB4.out.below h) HO7.out (HG4.out.below h).g);rw[<-hya] at N1 HT;rw[<-hyb] at N2 HT;have N1:=At N1;clear e0 e1 hlt3 HA3 HB3 HG3 M3 hb4 hya hyb HA4 HB4;go_wp2_with fail
    refine N1.out.mono ?_;rintro e w5 ⟨rfl,hb5⟩;have e0:=aa hb5 hlt4 g0;have e1:=aa hb5 hlt4 g1;go_wp2_with fail
    refine (N2.out w5 hb5).mono ?_;rintro e w6 ⟨rfl,hb6⟩;have hB6:=hb5.trans (hb6.mono hb5.size);have M6:=At (M4.out.trans (hB6.mono M4.out.size));have HG6:=At (HG4.out.below hB6);clear e0 e1 g0 g1 N1 N2 hb5 hb6 hB6 M4 HG4 hlt4;obtain⟨yb1,yb2⟩:=yb;obtain⟨ya1,ya2⟩:=ya;simp only at HT |-;by_cases hy0:yb1=⟨#[48]⟩
    ·have HE:=At (show d7 a b z=(⟨#[]⟩,32) by rw[HT.out,if_pos hy0]);have hyd:(yb1.toList == [48])=true:=by rw[hy0,ak];rfl
     clear hy0;go_wp2;refine Du (v:=.tuple #[.string ⟨#[]⟩,.int .i64 32]) (by simp[results,Tryz.results22,go_sem]) rfl ⟨by rw[HE.out],M6.out⟩
    ·have HE:=At (show d7 a b z=(bE ya1 yb1,0) by rw[HT.out,if_neg hy0]);have hyd:=yQ hy0;clear hy0;go_wp2_with fail
     refine (ej _ _ w6 HG6.out.g).mono ?_;rintro e w7 ⟨rfl,hb7⟩;go_wp2;refine Du (v:=.tuple #[.string (bE ya1 yb1),.int .i64 0]) (by simp[results,Tryz.results22,go_sem]) rfl ⟨by rw[HE.out],M6.out.trans (hb7.mono M6.out.size)⟩
 ·have HE:=At (show d7 a b z=(⟨#[]⟩,30) by unfold d7;rw[if_neg hck]);have hce:au a b=30:=by unfold au;rw[if_neg hck]
  rw[hce] at HCK;clear hce;go_wp2_with fail
  refine HCK.out.mono ?_;rintro e w2 ⟨rfl,hb2⟩;go_wp2;refine Du (v:=.tuple #[.string ⟨#[]⟩,.int .i64 30]) (by simp[results,Tryz.results22,go_sem]) rfl ⟨by rw[HE.out],M1.out.trans (hb2.mono M1.out.size)⟩
def eZ (fa fb:List ByteArray) (k:ByteArray):List ByteArray:=ix (fa.map (fun a=>cw a k)) fb
def bo (fa fb:List ByteArray) (k:ByteArray):Bool:=if am (eZ fa fb k) 0=⟨#[48]⟩ then false else (aK ((eZ fa fb k).map (fun a=>bE a (am (eZ fa fb k) 0)))).isSome
theorem z6 (k:ByteArray) (g:Nat) (w:World) (hc:w.cell? ⟨g,0,none⟩=some (.string k)) (hg:g<w.heap.size) (hG:Gw w) :
  FnT 129 #[.pointer (some ⟨g,0,none⟩)] (fun a=>cw a k) w:=by
 refine⟨aZ Tryz.func129 rfl (by kernel_rfl),fun x w' hb=>?_⟩;have c0:=aa hb hg hc;have HG:=At (hG.below hb)
 show Calls _ _ #[_,_] _ _
 go_enter Tryz.func129,Tryz.ntmps129;go_wp2_with fail
 refine (dN _ _ w' HG.out).mono ?_;rintro e w1 ⟨rfl,hb1⟩;go_wp2;go_ret;exact⟨rfl,hb1⟩
theorem l6 (fa fb:List ByteArray) (k:ByteArray):(eZ fa fb k).length=max fa.length fb.length:=by unfold eZ;rw[lz,AY]
theorem ka (v:Value) (fa fb:List ByteArray) (k:ByteArray) (w:World) (hF:IsF w v fa fb) (h2:fa.length<1000) (h3:fb.length<1000) (hG:Gw w) :
  Calls Tryz.prog 91 #[v,.string k] w fun e w'=>∃ u,e=.returned u/\IsS w' u (eZ fa fb k)/\Below w.heap.size w w':=by
 obtain⟨p,c,q,d,rfl,hfa,hfb⟩:=id hF.ex;go_enter Tryz.func91,Tryz.ntmps91;go_upto_region 1 with fail
 have cc:=ar w (.slice p fa.length c) (.slice q fb.length d);have m1:=ac w (.cells #[.slice p fa.length c,.slice q fb.length d] 24);have z1:=size_alloc w (.cells #[.slice p fa.length c,.slice q fb.length d] 24);generalize w.alloc (.cells #[.slice p fa.length c,.slice q fb.length d] 24)=w1 at *
 have a0:=ap w1 #[.string k] 25 0 _ rfl;have m2:=ac w1 (.cells #[.string k] 25);have z2:=size_alloc w1 (.cells #[.string k] 25);have b0:=aa m2 (show w.heap.size<w1.heap.size by omega) cc.1;have b1:=aa m2 (show w.heap.size<w1.heap.size by omega) cc.2;generalize w1.alloc (.cells #[.string k] 25)=w2 at *
 rw[z1] at a0;have m3:Below w2.heap.size w2 w2.drew:=(Dv _ _).drew;refine ai (fun w'=>∃ x:ax w2.drew.heap.size w2.drew,w'=x.w) (fun i=>i == 3||i == 6) (by kernel_rfl) (by kernel_rfl) ⟨⟨_,Dv _ _⟩,rfl⟩ ?_;have a0:=aa m3 (show w.heap.size+1<w2.heap.size by omega) a0;have b0:=aa m3 (show w.heap.size<w2.heap.size by omega) b0;have b1:=aa m3 (show w.heap.size<w2.heap.size by omega) b1;have hw2:w.heap.size+1<w2.drew.heap.size:=by have:=m3.size;omega
 have M2:=m1.trans (m2.mono m1.size);have MD:=At (M2.trans (m3.mono M2.size));have HA:=At (hfa.below MD.out);have HB:=At (hfb.below MD.out);have HG:=At (hG.below MD.out);clear m1 m2 m3 z1 z2 cc hfa hfb hG hF M2;generalize w2.drew=wd at *
 have hz:wd.heap.size<=wd.heap.size:=AA _;have HFn:=At (z6 k (w.heap.size+1) wd a0 hw2 HG.out);have d0:=fun x:ax wd.heap.size wd=>aa x.h (show w.heap.size<wd.heap.size by omega) b0;have d1:=fun x:ax wd.heap.size wd=>aa x.h (show w.heap.size<wd.heap.size by omega) b1;have hwd:=MD.out.size;clear a0 b0 b1;refine ae 3 0 _ _ _ (by kernel_rfl) ?_;simp only[AC,AG,AB,AF];repeat (go_big_quiet_step (fail))
 refine wpQuiet_nil ?_;refine af rfl rfl (fun K hK=>?_);go_simp;refine (rQ _ fa _ _ _ wd HA.out (by omega) HFn.out).mono ?_;rintro e w6 ⟨u1,rfl,hu1,hb6⟩;obtain⟨L1,hL1⟩:∃ L,L=fa.map (fun a=>cw a k):=⟨_,rfl⟩;have hl1:L1.length<1000:=by rw[hL1,AY];exact h2
 have HC:=At (show eZ fa fb k=ix L1 fb by unfold eZ;rw[<-hL1]);rw[<-hL1] at hu1;clear hL1;refine hK _ _ ⟨⟨_,hb6.mono hz⟩,rfl⟩ ?_;clear hK K;try simp only[Act.put,Ax,Aw,Av,Au,Ay,Az]
 refine ae 2 4 _ _ _ (by kernel_rfl) ?_;simp only[AC,AG,AB,AF];repeat (go_big_quiet_step (fail))
 refine wpQuiet_nil ?_;refine af rfl rfl (fun K hK=>?_);go_simp;refine (sumN _ _ L1 fb w6 hu1.isS (HB.out.below hb6) (by omega) (by omega) (HG.out.below hb6)).mono ?_;rintro e w7 ⟨u2,rfl,hu2,hb7⟩;have hB7:=hb6.trans (hb7.mono hb6.size);refine hK _ _ ⟨⟨_,hB7.mono hz⟩,rfl⟩ ?_;clear hK K;try simp only[Act.put,Ax,Aw,Av,Au,Ay,Az]
 refine ae 1 7 _ _ _ (by kernel_rfl) ?_;simp only[AC,AG,AB,AF];repeat (go_big_quiet_step (fail))
 refine wpQuiet_nil ?_;refine av ?_;rw[<-HC.out] at hu2;have HU:=At hu2;have hb66:=hb6.size;have MF:=At (MD.out.trans (hB7.mono hwd));clear hu2 hu1 hb7 hB7 d0 d1;go_wp2;go_ret;exact⟨_,rfl,HU.out.isS,MF.out⟩
theorem zq (s:List ByteArray) (h0:0<s.length) (k:Nat) (p:Option Addr) (n c:Nat) (w:World) (hs:IsS w (.slice p n c) s) (hn:n=s.length) (hc:w.cell? ⟨k,0,none⟩=some (.slice p n c)) (hk:k<w.heap.size) (hG:Gw w) :
  FnT 93 #[.pointer (some ⟨k,0,none⟩)] (fun a=>bE a (am s 0)) w:=by
 refine⟨aZ Tryz.func93 rfl (by kernel_rfl),fun x w0 hw=>?_⟩;obtain⟨b,o,rfl,hlt,hcs⟩:=hs.all h0;have c0:=aa hw hk hc;have c1:w0.cell? ⟨b,o,none⟩=some (.string (am s 0)):=by simpa using aa hw hlt (hcs 0 h0)
 have HD:=At (ej x (am s 0) w0 (hG.below hw));have hnp:0<n:=by omega
 clear hcs hs hn
 show Calls _ _ #[_,.pointer (some ⟨k,0,none⟩)] _ _
 go_enter Tryz.func93,Tryz.ntmps93;go_wp2_with fail
 refine HD.out.mono ?_;rintro e w1 ⟨rfl,hb1⟩;go_wp2;go_ret;exact⟨rfl,hb1⟩
theorem iN (v:Value) (fa fb:List ByteArray) (k:ByteArray) (w:World) (hF:IsF w v fa fb) (h1:0<fb.length) (h2:fa.length<1000) (h3:fb.length<1000) (hG:Gw w) :
  Calls Tryz.prog 55 #[v,.string k] w fun e w'=>e=.returned (.bool (bo fa fb k))/\Below w.heap.size w w':=by
 obtain⟨p,c,q,d,rfl,hfa,hfb⟩:=id hF.ex;go_enter Tryz.func55,Tryz.ntmps55;go_upto_region 1 with fail
 have cc:=ar w (.slice p fa.length c) (.slice q fb.length d);have m1:=ac w (.cells #[.slice p fa.length c,.slice q fb.length d] 24);have HC:=At (ka _ fa fb k _ (hF.below m1) h2 h3 (hG.below m1));have HG:=At (hG.below m1);have M1:=At m1;generalize w.alloc (.cells #[.slice p fa.length c,.slice q fb.length d] 24)=w1 at *
 have c0:=cc.1;have c1:=cc.2;have hsl:0<(eZ fa fb k).length:=by rw[l6];omega
 have hsl2:(eZ fa fb k).length<1000:=by rw[l6];omega
 have HT:=At (show bo fa fb k=if am (eZ fa fb k) 0=⟨#[48]⟩ then false else (aK ((eZ fa fb k).map (fun a=>bE a (am (eZ fa fb k) 0)))).isSome from rfl);clear hF hG hfa hfb m1 cc;generalize eZ fa fb k=s at *
 go_wp2_with fail
 refine HC.out.mono ?_;rintro e w2 ⟨u,rfl,hu,hb2⟩;have hi:=hu;obtain⟨pu,cu,rfl,-⟩:=id hi.form;obtain⟨b,o,rfl,hlt,hcs⟩:=hi.all hsl;have hcs0:w2.cell? ⟨b,o,none⟩=some (.string (am s 0)):=by simpa using hcs 0 hsl
 have M2:=M1.out.trans (hb2.mono M1.out.size);clear hu hcs c0 c1 HC;go_upto_region 2 with fail
 have a5:(w2.alloc (.cells #[.slice (some ⟨b,o,none⟩) s.length cu] 22)).cell? ⟨w2.heap.size,0,none⟩=some (.slice (some ⟨b,o,none⟩) s.length cu):=ap w2 _ _ 0 _ rfl;have m3:=ac w2 (.cells #[.slice (some ⟨b,o,none⟩) s.length cu] 22);have z3:=size_alloc w2 (.cells #[.slice (some ⟨b,o,none⟩) s.length cu] 22);generalize w2.alloc (.cells #[.slice (some ⟨b,o,none⟩) s.length cu] 22)=w3 at *
 have e0:=aa m3 hlt hcs0;have M3:=At (M2.trans (m3.mono M2.size));have HG3:=At (HG.out.below (hb2.trans (m3.mono hb2.size)));have HI:=At (hi.below m3);have HFn:=At (zq s hsl w2.heap.size (some ⟨b,o,none⟩) s.length cu w3 HI.out rfl a5 (by omega) HG3.out);clear m3 z3 hi hcs0 M2 M1 hb2 HG hlt;by_cases heq:am s 0=⟨#[48]⟩
 ·have HE:=At (show bo fa fb k=false by rw[HT.out,if_pos heq]);have hd:((am s 0).toList == [48])=true:=by rw[heq,ak];rfl
  clear heq;go_wp2;go_ret;exact⟨by rw[HE.out];rfl,M3.out⟩
 ·have HE:=At (show bo fa fb k=(aK (s.map (fun a=>bE a (am s 0)))).isSome by rw[HT.out,if_neg heq])
  have hd:((am s 0).toList == [48])=false:=by
   rw[Bk];intro h;refine heq (fT ?_);rw[<-ak];simpa using h
  clear heq;go_wp2_with fail
  refine (rQ _ s _ _ _ w3 HI.out (by omega) HFn.out).mono ?_;rintro e w6 ⟨u1,rfl,hu1,hb6⟩;obtain⟨L1,hL1⟩:∃ L,L=s.map (fun a=>bE a (am s 0)):=⟨_,rfl⟩;have hl1:L1.length=s.length:=by rw[hL1,AY]
  rw[<-hL1] at hu1 HE;have HI1:=At hu1.isS;have hl2:0<L1.length:=by omega
  have hl3:L1.length<1000000:=by omega
  clear hL1 hl1 hu1;go_wp2_with fail
  refine (ju _ L1 w6 HI1.out hl2 hl3 (HG3.out.below hb6)).mono ?_;rintro e w7 ⟨rfl,hb7⟩;have MF:=At (M3.out.trans ((hb6.trans (hb7.mono hb6.size)).mono M3.out.size));clear hb6 hb7;go_wp2;go_ret;exact⟨by rw[HE.out];rfl,MF.out⟩
theorem qV (va vb:Value) (a b:List ByteArray) (w:World) (ha:IsS w va a) (hb:IsS w vb b) (hG:Gw w) :
  Calls Tryz.prog 120 #[va,vb] w fun e w'=>∃ v',e=.returned v'/\IsS w' v' (aY CQ.add a b).1/\Below w.heap.size w w':=by
 have HC:=At (v_ va vb a b w ha hb hG);clear ha hb hG;generalize aY CQ.add a b=r at *
 go_enter Tryz.func120,Tryz.ntmps120;go_wp2_with fail
 refine HC.out.mono ?_;rintro e w1 ⟨v,rfl,hv,hb⟩;go_wp2;go_ret;exact⟨_,rfl,hv,hb⟩
theorem ye (va vb:Value) (a b:List ByteArray) (w:World) (ha:IsS w va a) (hb:IsS w vb b) (hG:Gw w) :
  Calls Tryz.prog 121 #[va,vb] w fun e w'=>∃ v',e=.returned v'/\IsS w' v' (aY CQ.sub a b).1/\Below w.heap.size w w':=by
 have HC:=At (wg va vb a b w ha hb hG);clear ha hb hG;generalize aY CQ.sub a b=r at *
 go_enter Tryz.func121,Tryz.ntmps121;go_wp2_with fail
 refine HC.out.mono ?_;rintro e w1 ⟨v,rfl,hv,hb⟩;go_wp2;go_ret;exact⟨_,rfl,hv,hb⟩
def fW (fa fb:List ByteArray) (l:List ByteArray):Int:=if aq fa fb=true then if 32<l.length then 3 else if (l.all fun s=>bN s.data.toList)=true then 0 else 2 else 30
theorem zp (v vl:Value) (a b l:List ByteArray) (w:World) (hF:IsF w v a b) (hl:IsS w vl l) (hG:Gx w) :
  Calls Tryz.prog 54 #[v,vl] w fun e w'=>e=.returned (.int .i64 (fW a b l))/\Below w.heap.size w w':=by
 obtain⟨pl,cl,rfl,-⟩:=id hl.form;have HL:=At hl;have HGG:=At hG;clear hl;obtain⟨p,c,q,d,rfl,hfa,hfb⟩:=id hF.ex;go_enter Tryz.func54,Tryz.ntmps54;go_upto_region 1 with fail
 have cc:=ar w (.slice p a.length c) (.slice q b.length d);have m1:=ac w (.cells #[.slice p a.length c,.slice q b.length d] 24);have zz:=size_alloc w (.cells #[.slice p a.length c,.slice q b.length d] 24);generalize w.alloc (.cells #[.slice p a.length c,.slice q b.length d] 24)=w1 at *
 have HCK:=At (dC _ a b w1 (hF.below m1) (hG.below m1));have HA:=At (hfa.below m1);have HB:=At (hfb.below m1);have HG:=At (hG.below m1);have c0:=cc.1;have c1:=cc.2;have hlt:w.heap.size<w1.heap.size:=by omega
 have M1:=At m1;clear hfa hfb cc zz m1 hF hG;by_cases hck:aq a b=true
 ·have HT:=At (show fW a b l=if 32<l.length then 3 else if (l.all fun s=>bN s.data.toList)=true then 0 else 2 by unfold fW;rw[if_pos hck]);have hce:au a b=0:=by unfold au;rw[if_pos hck]
  rw[hce] at HCK;obtain⟨ob1,ob7,oa1,oa7,oac,obc,ohd⟩:=aN hck;clear hce;go_wp2_with fail
  refine HCK.out.mono ?_;rintro e w2 ⟨rfl,hb2⟩;have d0:=aa hb2 hlt c0;have d1:=aa hb2 hlt c1;have HA2:=At (HA.out.below hb2);have HB2:=At (HB.out.below hb2);have HG2:=At (HG.out.below hb2);have M2:=At (M1.out.trans (hb2.mono M1.out.size));have hlt2:w.heap.size<w2.heap.size:=AD hlt hb2.size;clear c0 c1 HA HB HG HCK M1 hb2 hlt;clear d0 d1 HA2 HB2 hlt2 oac obc ohd ob1 ob7 oa1 oa7 hck;by_cases h32:32<l.length
  ·have HE:=At (show fW a b l=3 by rw[HT.out,if_pos h32]);have hd:decide ((32:Int)<(l.length:Int))=true:=by simp;omega
   clear h32;go_wp2;go_ret;exact⟨by rw[HE.out];rfl,M2.out⟩
  ·rw[if_neg h32] at HT;have hd:decide ((32:Int)<(l.length:Int))=false:=by simp;omega
   go_wp2;go_loopw [18] (fun s18 wr=>∃ i:Nat,s18=.int .i64 i/\i<=l.length/\Below w.heap.size w wr/\Hid (Gx wr)/\Hid (((l.take i).all fun s=>bN s.data.toList)=true)) (fun s18 _=>l.length-(intOf s18).toNat)
   case atStart=>exact⟨0,rfl,AI _,M2.out,HG2.out,rfl⟩
   case round =>
    obtain⟨i,rfl,hin,hbr,HGr,hall⟩:=hrel;by_cases hi:i<l.length
    ·obtain⟨bb,oo,rfl,hlt,hcell⟩:=(HL.out.below hbr).get hi;have HS:=At (i6 hi (fun s=>bN s.data.toList));have HN:=At (m9 hi (fun s=>bN s.data.toList));generalize l[i]=s at *
     go_wp2_with fail
     refine (ot s wr HGr.out).mono ?_;rintro e w3 ⟨ok,rfl,hok,hb3⟩;have hB3:=hbr.trans (hb3.mono hbr.size)
     cases ok
     ·have HE:=At (show fW a b l=2 by rw[HT.out,if_neg (by rw[HN.out hok.out];decide)]);clear HS HN hok hall hcell hd h32;go_wp2;go_ret;exact⟨by rw[HE.out];rfl,hB3⟩
     ·have HA3:=At (show ((l.take (i+1)).all fun s=>bN s.data.toList)=true by rw[HS.out,hall.out,hok.out];rfl);have HG3:=At (HGr.out.below hb3);clear HS HN hok hall hcell hbr HGr hb3;go_wp2;go_roundw;case rel=>exact⟨i+1,by go_num,by omega,hB3,HG3,HA3⟩
      case measure=>simp[intOf]<;>omega
    ·have hin':i=l.length:=by omega
     subst hin'
     have HE:=At (show fW a b l=0 by
      have h:=hall.out;rw[AX] at h
      rw[HT.out,if_pos h])
     clear hi hall hd h32;go_wp2;go_ret;exact⟨by rw[HE.out];rfl,hbr⟩
 ·have HE:=At (show fW a b l=30 by unfold fW;rw[if_neg hck]);have hce:au a b=30:=by unfold au;rw[if_neg hck]
  rw[hce] at HCK;clear hce;go_wp2_with fail
  refine HCK.out.mono ?_;rintro e w2 ⟨rfl,hb2⟩;go_wp2;go_ret;exact⟨by rw[HE.out];rfl,M1.out.trans (hb2.mono M1.out.size)⟩
end Go.Proofs.YtgakllaobooabaaGreatDoor
