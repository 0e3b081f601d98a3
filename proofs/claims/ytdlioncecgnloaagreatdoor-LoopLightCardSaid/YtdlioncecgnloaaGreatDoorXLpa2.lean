/- Lemmas of this claim. -/
import Derived.Test.YtdlioncecgnloaaGreatDoorRows
import Derived.ProofKit
import Derived.LaidMore
import Derived.HandedShaped
import Derived.Shelf.Vars
import Derived.Lay
import Derived.Stop.Joined
import Derived.Test.YtdlioncecgnloaaGreatDoorTie
import Derived.Test.YtdlioncecgnloaaGreatDoorCards
import Derived.SevenTiedAt
import Derived.Test.YtdlioncecgnloaaGreatDoorXCoef
import Derived.Test.YtdlioncecgnloaaGreatDoorXNC8
import Derived.Test.YtdlioncecgnloaaGreatDoorXLcs1
import Derived.Test.YtdlioncecgnloaaGreatDoorXLcs3
set_option linter.all false
set_option maxRecDepth 100000
set_option maxHeartbeats 8000000
namespace Go.Proofs.YtdlioncecgnloaaGreatDoor
open Go.RowKit Dc Dg
open Go.ChangeShapes Go.WideShapes Go.ChangeAt
set_option maxRecDepth 100000
theorem own:ownKnob Tryz.prog.godebug=none:=by kernel_rfl
def fI:List (String×DataW Unit):=[("math/bits.deBruijn32tab", Rows.laid_math_bits_deBruijn32tab),("math/bits.deBruijn64tab", Rows.laid_math_bits_deBruijn64tab),("internal/strconv.uint64pow10", Rows.laid_internal_strconv_uint64pow10),("unicode/utf8.acceptRanges", Rows.laid_unicode_utf8_acceptRanges),("strconv.ErrRange", Rows.laid_strconv_ErrRange),("strconv.ErrSyntax", Rows.laid_strconv_ErrSyntax),("unicode/utf8.first", Rows.laid_unicode_utf8_first)]
theorem il {H:Type}{enc:TypeId×Value→H}{a:Assume}{C:Checked}{os:Os}{f:FuncId}{fn:Func}{s:ChangeSpec}{conds:List PathCond}{apart fresh handsOn again:Bool}{X:World→Array Value→Prop}
  (hX:∀ (w w':World) (args:Array Value),w.heap=w'.heap→X w args→X w' args)
  (own:ownKnob C.prog.godebug=none) (started:os.Started) (noInit:C.prog.inits.idxOf? f=none) (hfn:C.prog.funcs[f]?=some fn)
  (witness:∃ (w:World) (tape:Tape) (i:Input),w.os=os∧(w.forCall tape i).Shaped C.prog∧i.vars=[]∧Input.okWide C.prog (w.forCall tape i) .any w.heap.size f i ∧
   ((s.pre enc C.prog fn conds apart (w.forCall tape i).memory i.args∧X (w.forCall tape i).memory i.args)∧sizedMet enc C.prog fn (OpenSpec.ofChange s) apart (w.forCall tape i).memory i.args)∧a.holds C.prog (lone (Frame.enter C.prog f i.args .normal) [] (w.forCall tape i)))
  (contract:∀ (W:World) (base:Nat) (args:Array Value) (ds gs:List (DataW H)) (before:List MemPlace),
   (∀ (j:Nat) t v,fn.params[j]?=some t→args[j]?=some v→Value.okWide C.prog W .any base t v) →
   DataW.Whole enc C.prog fn.params.toList s.vars apart W args.toList ds gs before →
   (DataW.weightsEach C.prog (fn.params.toList++s.plain.varTypes C.prog) (ds++gs)).all (·≤reachBytes)=true→X W args→W.ShapedOpen C.prog →
   Calls C.prog f args W fun e W'=>∃ v,e=.returned v∧s.post enc C.prog fn apart fresh handsOn again W args v W') :
  ReturnsInHanded a C os f .any (fun w args=>(s.pre enc C.prog fn conds apart w args∧X w args)∧sizedMet enc C.prog fn (OpenSpec.ofChange s) apart w args) (s.post enc C.prog fn apart fresh handsOn again):=by
 refine returnsInHanded_of_calls own started noInit witness ?_
 intro w tape i _ hsh _ hok hpre hholds
 obtain⟨_,_,_,fn',hfn',_,_,_,_,hval⟩:=hok
 have e:fn'=fn:=Option.some.inj (hfn'.symm.trans hfn)
 subst e
 obtain⟨⟨⟨ds,gs,before,hw,hc⟩,hx⟩,hz⟩:=hpre
 have hw':=DataW.Whole.of_heap (w':=w.forCall tape i) (by rfl) hw
 refine (contract (w.forCall tape i) w.heap.size i.args ds gs before hval hw' (hz.weights hw) (hX _ _ _ (by rfl) hx) hsh).mono fun e W' ⟨v,he,hp⟩=>?_
 subst he
 exact ChangeSpec.post_blind hp
theorem qL {H:Type}{enc:TypeId×Value→H}{w:World}{base:Nat}{sp:Nat→Bool}{held:Bool}{fuel:Nat}{t:TypeId}{cs:List Value}{n:String}{d:DataW H}{p:List MemPlace}{ms:Array (String×TypeId)} (ht:Tryz.prog.underlying t=some (.interface ms)) (h:DataW.trod enc Tryz.prog w base sp held fuel t cs=some (.iface n d,p)):∃ u v,cs=[.iface u v]:=by
 cases fuel with
 | zero=>simp[DataW.trod] at h
 | succ fuel =>
  unfold DataW.trod at h
  rw[ht] at h
  split at h<;>first | (cases h;done) | skip
  all_goals first | exact⟨_,_,rfl⟩ | (simp_all;done)
theorem yK:(Rows.laid_internal_strconv_uint64pow10:DataW Unit)=Lib.tabData .u64 Lib.pow10Tab:=by kernel_rfl
theorem xZ {W:World} (hL:laidMetH Tryz.prog fI W) (hsh:W.ShapedOpen Tryz.prog):Gx W:=by
 rw[Go.MakeChecks.laidMetH_plain _ _ _ (by kernel_rfl)] at hL
 obtain⟨ps,hv,_,_⟩:=hL
 unfold fI at hv
 obtain⟨g6,t6,c6,f6,p6,q6,hg6,ht6,hv6,hd6,hv,_⟩:=hv
 obtain⟨g7,t7,c7,f7,p7,q7,hg7,ht7,hv7,hd7,hv,_⟩:=hv
 obtain⟨g5,t5,c5,f5,p5,q5,hg5,ht5,hv5,hd5,hv,_⟩:=hv
 obtain⟨g4,t4,c4,f4,p4,q4,hg4,ht4,hv4,hd4,hv,_⟩:=hv
 obtain⟨g1,t1,c1,f1,p1,q1,hg1,ht1,hv1,hd1,hv,_⟩:=hv
 obtain⟨g0,t0,c0,f0,p0,q0,hg0,ht0,hv0,hd0,_,_⟩:=hv
 have n0:Tryz.prog.globalNamed "strconv.ErrSyntax" = some 0:=by kernel_rfl
 have n1:Tryz.prog.globalNamed "strconv.ErrRange" = some 1:=by kernel_rfl
 have n5:=kQ
 have y0:(Tryz.prog.globals[0]?).map (·.type)=some 208:=by kernel_rfl
 have y1:(Tryz.prog.globals[1]?).map (·.type)=some 208:=by kernel_rfl
 obtain rfl:=Option.some.inj (n0.symm.trans hg0)
 obtain rfl:=Option.some.inj (n1.symm.trans hg1)
 obtain rfl:=Option.some.inj (n5.symm.trans hg5)
 obtain rfl:=Option.some.inj (y0.symm.trans ht0)
 obtain rfl:=Option.some.inj (y1.symm.trans ht1)
 have hif:=Tryz.underlying208
 have k0:=World.var?_cell hg0 hv0 0
 have k1:=World.var?_cell hg1 hv1 0
 obtain⟨u0,v0,e0⟩:=qL hif hd0
 obtain⟨u1,v1,e1⟩:=qL hif hd1
 rw[←D3,e0] at k0
 rw[←D3,e1] at k1
 rw[yK] at hd5
 obtain⟨T,hT,e,hu,he⟩:∃ T,(Tryz.prog.globals[3]?).map (·.type)=some T∧∃ e,Tryz.prog.underlying T=some (.array 20 e)∧(Tryz.prog.underlying e=some (.int .u64)∧Tryz.prog.cellsOf e=1∧Tryz.prog.cellsOf T=20) :=
  ⟨325,by kernel_rfl,215,by kernel_rfl,by kernel_rfl,by kernel_rfl,by kernel_rfl⟩
 obtain rfl:=Option.some.inj (hT.symm.trans ht5)
 have ep:=Lib.cells_of_tab hu he.1 he.2.1 he.2.2 hd5
 have hsz:8≤W.heap.size:=by
  have h7:(((begin Tryz.prog (fun _ _=>0) default).world.heap[7]?).bind Obj.row?).isSome=true:=by kernel_rfl
  obtain⟨⟨zero,t⟩,hz⟩:=Option.isSome_iff_exists.1 h7
  obtain⟨cs,hh,_⟩:=hsh.1 7 zero t (of_decide_eq_true (by kernel_rfl)) hz
  have:=y4 hh
  omega
 refine⟨⟨?_,?_,hsz⟩,⟨u0,v0,k0⟩,⟨u1,v1,k1⟩⟩
 ·unfold pW Lib.TabIs
  rw[hv5,←ep]
 ·exact cell_of_shapedOpen_int (g:=2) (t:=3) (zero:=#[.int .i64 0]) hsh (of_decide_eq_true (by kernel_rfl)) (by kernel_rfl) rfl (by kernel_rfl) (by kernel_rfl) und3
open Go.RowKit Dg
theorem kK (v:Value) (x X:List ByteArray) (w:World) (h:X=x.take 16) (hx:IsS w v x) :
  Calls Tryz.prog 57 #[v] w fun e w'=>∃ u,e=.returned u∧IsS w' u X∧w'=w:=by
 rw[h];exact fewN v x w hx
theorem kA {a b a' b' x:List ByteArray} (h:ar a b=true) (h':ar a' b'=true):gr a b x=gr a' b' x:=by
 unfold gr
 rw[if_pos h,if_pos h']
theorem rC {a b x:List ByteArray} (h:ar a b=true) (hx:x.length≤16):(gr a b x=0∧dK x=true)∨(gr a b x=2∧dK x=false):=by
 unfold gr
 rw[if_pos h,if_neg (by omega)]
 cases hc:dK x
 ·exact Or.inr ⟨rfl,rfl⟩
 ·exact Or.inl ⟨rfl,rfl⟩
theorem rD (v vx:Value) (a b x:List ByteArray) (w:World) (he:gr a b x=0) (hF:IsF w v a b) (hX:IsS w vx x) (hG:Gx w) :
  Calls Tryz.prog 32 #[v,vx] w fun e w'=>∃ p c,e=.returned (.tuple #[.slice p x.length c,.int .i64 0])∧IsS w' (.slice p x.length c) (aH a b x x.length)∧Below w.heap.size w w':=by
 refine (RunN v vx a b x w hF hX hG).mono ?_
 rintro e w' ⟨u,rfl,h1,-,hb⟩
 rw[he] at h1 ⊢
 have h:=h1 rfl
 obtain⟨p,c,rfl,-⟩:=id h.form
 rw[aG] at h ⊢
 exact⟨p,c,rfl,h,hb⟩
theorem y7 (v vx:Value) (a b x:List ByteArray) (w:World) (he:gr a b x=2) (hF:IsF w v a b) (hX:IsS w vx x) (hG:Gx w) :
  Calls Tryz.prog 32 #[v,vx] w fun e w'=>e=.returned (.tuple #[.slice none 0 0,.int .i64 2])∧Below w.heap.size w w':=by
 refine (RunN v vx a b x w hF hX hG).mono ?_
 rintro e w' ⟨u,rfl,-,h2,hb⟩
 rw[he] at h2 ⊢
 rw[h2 (by decide)]
 exact⟨rfl,hb⟩
theorem lU {fa fb ga gb:List ByteArray}{r:Except Int (List ByteArray×List ByteArray)} (h:(aB fa fb ga gb r).2=0):ar fa fb=true∧ar ga gb=true:=by
 unfold aB at h
 split at h
 ·cases h
 ·rename_i h1
  split at h
  ·cases h
  ·rename_i h2
   exact⟨by simpa using h1,by simpa using h2⟩
theorem mp {fa fb ga gb M1 M2:List ByteArray} (h:bo fa fb ga gb=((M1,M2),0)):ar M1 M2=true:=by
 obtain⟨h1,h2⟩:=ie (fa:=fa) (fb:=fb) (ga:=ga) (gb:=gb) (show (aB fa fb ga gb (.ok (cT (bU fa gb) (bU ga fb),bU fb gb))).2=0 from by rw[show aB fa fb ga gb (.ok (cT (bU fa gb) (bU ga fb),bU fb gb))=bo fa fb ga gb from rfl,h])
 rw[show aB fa fb ga gb (.ok (cT (bU fa gb) (bU ga fb),bU fb gb))=bo fa fb ga gb from rfl,h] at h1
 obtain⟨e1,-⟩:=Prod.mk.inj h1
 obtain⟨rfl,rfl⟩:=Prod.mk.inj e1
 exact h2
theorem oZ (v:Value) (fa fb:List ByteArray) (v':Value) (ga gb:List ByteArray) (vx:Value) (xs:List ByteArray) (w:World) (hF:IsF w v fa fb) (hF':IsF w v' ga gb) (hX:IsS w vx xs) (hG:Gx w) :
  Calls Tryz.prog 11 #[v,v',vx] w fun e w'=>e=.returned (.bool true)∧Below w.heap.size w w':=by
 obtain⟨p,c,q,d,rfl,hfa,hfb⟩:=id hF.ex
 obtain⟨p',c',q',d',rfl,hga,hgb⟩:=id hF'.ex
 obtain⟨px,cx,rfl,-⟩:=id hX.form
 go_enter Tryz.func11,Tryz.ntmps11
 go_upto_region 1 with fail
 have cc:=ap w (.slice p fa.length c) (.slice q fb.length d)
 have m1:=ae w (.cells #[.slice p fa.length c,.slice q fb.length d] 28)
 have z1:=size_alloc w (.cells #[.slice p fa.length c,.slice q fb.length d] 28)
 generalize w.alloc (.cells #[.slice p fa.length c,.slice q fb.length d] 28)=w1 at *
 have cc':=ap w1 (.slice p' ga.length c') (.slice q' gb.length d')
 have m2:=ae w1 (.cells #[.slice p' ga.length c',.slice q' gb.length d'] 28)
 have z2:=size_alloc w1 (.cells #[.slice p' ga.length c',.slice q' gb.length d'] 28)
 have hlt:w.heap.size<w1.heap.size:=by omega
 have k0:=aa m2 hlt cc.1
 have k1:=aa m2 hlt cc.2
 have k2:=cc'.1
 have k3:=cc'.2
 rw[z1] at k2 k3
 generalize w1.alloc (.cells #[.slice p' ga.length c',.slice q' gb.length d'] 28)=w2 at *
 have KL:w.heap.size<w2.heap.size:=by omega
 have KL':w.heap.size+1<w2.heap.size:=by omega
 have HB:=BZ (m1.trans (m2.mono m1.size))
 have HF:=BZ (hF.below HB.out)
 have HF':=BZ (hF'.below HB.out)
 have HG:=BZ (hG.below HB.out)
 have HX:=BZ (hX.below HB.out)
 clear hfa hfb hga hgb cc cc' z1 z2 m1 m2 hF hF' hX hG hlt
 obtain⟨X,hXe⟩:∃ X,X=xs.take 16:=⟨_,rfl⟩
 have HXE:=BZ hXe
 have HXL:=BZ (show X.length≤16 by rw[hXe];simp;omega)
 clear hXe
 obtain⟨⟨⟨M1,M2⟩,ep⟩,hp⟩:∃ r,bo fa fb ga gb=r:=⟨_,rfl⟩
 have HPE:=BZ hp
 clear hp
 go_wp2_with fail
 refine (BR _ _ fa fb ga gb M1 M2 ep w2 HPE.out HF.out HF'.out HG.out).mono ?_
 rintro e w3 ⟨p1,c1,p2,c2,rfl,g1,g2,hb⟩
 have HF:=BZ (HF.out.below hb)
 have HF':=BZ (HF'.out.below hb)
 have HX:=BZ (HX.out.below hb)
 have HG:=BZ (HG.out.below hb)
 have HB:=BZ (HB.out.trans ((hb).mono HB.out.size))
 have k0:=aa hb KL k0
 have k1:=aa hb KL k1
 have k2:=aa hb KL' k2
 have k3:=aa hb KL' k3
 have KL:=Cg KL ((hb).size)
 have KL':=Cg KL' ((hb).size)
 clear hb
 go_upto_region 2 with fail
 have kk:=ap w3 (.slice p1 M1.length c1) (.slice p2 M2.length c2)
 have hb:=ae w3 (.cells #[.slice p1 M1.length c1,.slice p2 M2.length c2] 28)
 have zz:=size_alloc w3 (.cells #[.slice p1 M1.length c1,.slice p2 M2.length c2] 28)
 generalize World.alloc w3 (.cells #[.slice p1 M1.length c1,.slice p2 M2.length c2] 28)=w4 at *
 obtain⟨gp,hgc⟩:∃ x,x=(w3).heap.size:=⟨_,rfl⟩
 rw[←hgc] at kk zz ⊢
 have HP:=BZ (show oz w4 gp p1 c1 p2 c2 M1 M2 from⟨kk.1,kk.2,g1.below hb,g2.below hb,by omega⟩)
 clear kk g1 g2 zz hgc
 have HF:=BZ (HF.out.below hb)
 have HF':=BZ (HF'.out.below hb)
 have HX:=BZ (HX.out.below hb)
 have HG:=BZ (HG.out.below hb)
 have HB:=BZ (HB.out.trans ((hb).mono HB.out.size))
 have k0:=aa hb KL k0
 have k1:=aa hb KL k1
 have k2:=aa hb KL' k2
 have k3:=aa hb KL' k3
 have KL:=Cg KL ((hb).size)
 have KL':=Cg KL' ((hb).size)
 clear hb
 have x0:=HP.out.f0
 have x1:=HP.out.f1
 by_cases hep:ep=0
 ·subst hep
  have HCK:=BZ (lU (show (aB fa fb ga gb (d7 fa fb ga gb)).2=0 by rw[show aB fa fb ga gb (d7 fa fb ga gb)=bo fa fb ga gb from rfl,HPE.out]))
  have HCP:=BZ (mp HPE.out)
  go_upto_region 4 with fail
  clear x0 x1
  rcases rC (a:=fa) (b:=fb) (x:=X) HCK.out.1 (HXL.out) with ⟨hr,hco⟩ | ⟨hr,hco⟩
  ·have HR:=BZ hr
   clear hr
   have hd:Below (w4).heap.size w4 (w4).drew:=(Below.refl _ _).drew
   refine ak (fun w'=>∃ x:aw (w4).drew.heap.size (w4).drew,w'=x.w) (fun j=>j == 2||j == 3) (by kernel_rfl) (by kernel_rfl) ⟨⟨_,Below.refl _ _⟩,rfl⟩ ?_
   have HP:=BZ (HP.out.below hd)
   try have HY:=BZ (HY.out.below hd)
   try have HZ:=BZ (HZ.out.below hd)
   have HF:=BZ (HF.out.below hd)
   have HF':=BZ (HF'.out.below hd)
   have HX:=BZ (HX.out.below hd)
   have HG:=BZ (HG.out.below hd)
   have HB:=BZ (HB.out.trans ((hd).mono HB.out.size))
   have k0:=aa hd KL k0
   have k1:=aa hd KL k1
   have k2:=aa hd KL' k2
   have k3:=aa hd KL' k3
   have KL:=Cg KL ((hd).size)
   have KL':=Cg KL' ((hd).size)
   clear hd
   generalize (w4).drew=wd at *
   have d0:=fun x:aw (wd).heap.size wd=>aa x.h KL k0
   have d1:=fun x:aw (wd).heap.size wd=>aa x.h KL k1
   have d2:=fun x:aw (wd).heap.size wd=>aa x.h KL' k2
   have d3:=fun x:aw (wd).heap.size wd=>aa x.h KL' k3
   have d4:=fun x:aw (wd).heap.size wd=>aa x.h HP.out.lt HP.out.f0
   have d5:=fun x:aw (wd).heap.size wd=>aa x.h HP.out.lt HP.out.f1
   refine af 2 0 _ _ _ (by kernel_rfl) ?_
   simp only[Cf,Ch,Ce,Ci]
   repeat (go_big_quiet_step (fail))
   refine wpQuiet_nil ?_
   refine ag rfl rfl (fun K hK=>?_)
   go_simp
   refine (kK _ xs X wd HXE.out HX.out).mono ?_
   rintro e wd ⟨u,rfl,hu,rfl⟩
   refine hK _ _ ⟨⟨_,Below.refl _ _⟩,rfl⟩ ?_
   clear hK K
   try simp only[Act.put,Ca,B_,B9,B4,Cb,Cc]
   refine ag rfl rfl (fun K hK=>?_)
   go_simp
   refine (rD _ _ fa fb X wd HR.out HF.out hu HG.out).mono ?_
   rintro e w5 ⟨p5,c5,rfl,hy,hb⟩
   refine hK _ _ ⟨⟨_,hb⟩,rfl⟩ ?_
   clear hK K hu
   try simp only[Act.put,Ca,B_,B9,B4,Cb,Cc]
   refine af 5 4 _ _ _ (by kernel_rfl) ?_
   simp only[Cf,Ch,Ce,Ci]
   repeat (go_big_quiet_step (fail))
   refine wpQuiet_nil ?_
   refine av ?_
   clear d0 d1 d2 d3 d4 d5
   have HP:=BZ (HP.out.below hb)
   try have HY:=BZ (HY.out.below hb)
   try have HZ:=BZ (HZ.out.below hb)
   have HY:=BZ hy
   clear hy
   have HF:=BZ (HF.out.below hb)
   have HF':=BZ (HF'.out.below hb)
   have HX:=BZ (HX.out.below hb)
   have HG:=BZ (HG.out.below hb)
   have HB:=BZ (HB.out.trans ((hb).mono HB.out.size))
   have k0:=aa hb KL k0
   have k1:=aa hb KL k1
   have k2:=aa hb KL' k2
   have k3:=aa hb KL' k3
   have KL:=Cg KL ((hb).size)
   have KL':=Cg KL' ((hb).size)
   clear hb
   go_upto_region 7 with fail
   have HR2:=BZ (show gr ga gb X=0 by rw[←kA HCK.out.1 HCK.out.2];exact HR.out)
   have hd:Below (w5).heap.size w5 (w5).drew:=(Below.refl _ _).drew
   refine ak (fun w'=>∃ x:aw (w5).drew.heap.size (w5).drew,w'=x.w) (fun j=>j == 2||j == 3) (by kernel_rfl) (by kernel_rfl) ⟨⟨_,Below.refl _ _⟩,rfl⟩ ?_
   have HP:=BZ (HP.out.below hd)
   try have HY:=BZ (HY.out.below hd)
   try have HZ:=BZ (HZ.out.below hd)
   have HF:=BZ (HF.out.below hd)
   have HF':=BZ (HF'.out.below hd)
   have HX:=BZ (HX.out.below hd)
   have HG:=BZ (HG.out.below hd)
   have HB:=BZ (HB.out.trans ((hd).mono HB.out.size))
   have k0:=aa hd KL k0
   have k1:=aa hd KL k1
   have k2:=aa hd KL' k2
   have k3:=aa hd KL' k3
   have KL:=Cg KL ((hd).size)
   have KL':=Cg KL' ((hd).size)
   clear hd
   generalize (w5).drew=we at *
   have d0:=fun x:aw (we).heap.size we=>aa x.h KL k0
   have d1:=fun x:aw (we).heap.size we=>aa x.h KL k1
   have d2:=fun x:aw (we).heap.size we=>aa x.h KL' k2
   have d3:=fun x:aw (we).heap.size we=>aa x.h KL' k3
   have d4:=fun x:aw (we).heap.size we=>aa x.h HP.out.lt HP.out.f0
   have d5:=fun x:aw (we).heap.size we=>aa x.h HP.out.lt HP.out.f1
   refine af 2 0 _ _ _ (by kernel_rfl) ?_
   simp only[Cf,Ch,Ce,Ci]
   repeat (go_big_quiet_step (fail))
   refine wpQuiet_nil ?_
   refine ag rfl rfl (fun K hK=>?_)
   go_simp
   refine (kK _ xs X we HXE.out HX.out).mono ?_
   rintro e we ⟨u,rfl,hu,rfl⟩
   refine hK _ _ ⟨⟨_,Below.refl _ _⟩,rfl⟩ ?_
   clear hK K
   try simp only[Act.put,Ca,B_,B9,B4,Cb,Cc]
   refine ag rfl rfl (fun K hK=>?_)
   go_simp
   refine (rD _ _ ga gb X we HR2.out HF'.out hu HG.out).mono ?_
   rintro e w6 ⟨p6,c6,rfl,hy,hb⟩
   refine hK _ _ ⟨⟨_,hb⟩,rfl⟩ ?_
   clear hK K hu
   try simp only[Act.put,Ca,B_,B9,B4,Cb,Cc]
   refine af 5 4 _ _ _ (by kernel_rfl) ?_
   simp only[Cf,Ch,Ce,Ci]
   repeat (go_big_quiet_step (fail))
   refine wpQuiet_nil ?_
   refine av ?_
   clear d0 d1 d2 d3 d4 d5
   have HP:=BZ (HP.out.below hb)
   try have HY:=BZ (HY.out.below hb)
   try have HZ:=BZ (HZ.out.below hb)
   have HZ:=BZ hy
   clear hy
   have HF:=BZ (HF.out.below hb)
   have HF':=BZ (HF'.out.below hb)
   have HX:=BZ (HX.out.below hb)
   have HG:=BZ (HG.out.below hb)
   have HB:=BZ (HB.out.trans ((hb).mono HB.out.size))
   have k0:=aa hb KL k0
   have k1:=aa hb KL k1
   have k2:=aa hb KL' k2
   have k3:=aa hb KL' k3
   have KL:=Cg KL ((hb).size)
   have KL':=Cg KL' ((hb).size)
   clear hb
   go_upto_region 8 with fail
   have HR3:=BZ (show gr M1 M2 X=0 by rw[←kA HCK.out.1 HCP.out];exact HR.out)
   have hd:Below (w6).heap.size w6 (w6).drew:=(Below.refl _ _).drew
   refine ak (fun w'=>∃ x:aw (w6).drew.heap.size (w6).drew,w'=x.w) (fun j=>j == 2||j == 3) (by kernel_rfl) (by kernel_rfl) ⟨⟨_,Below.refl _ _⟩,rfl⟩ ?_
   have HP:=BZ (HP.out.below hd)
   try have HY:=BZ (HY.out.below hd)
   try have HZ:=BZ (HZ.out.below hd)
   have HF:=BZ (HF.out.below hd)
   have HF':=BZ (HF'.out.below hd)
   have HX:=BZ (HX.out.below hd)
   have HG:=BZ (HG.out.below hd)
   have HB:=BZ (HB.out.trans ((hd).mono HB.out.size))
   have k0:=aa hd KL k0
   have k1:=aa hd KL k1
   have k2:=aa hd KL' k2
   have k3:=aa hd KL' k3
   have KL:=Cg KL ((hd).size)
   have KL':=Cg KL' ((hd).size)
   clear hd
   generalize (w6).drew=wf at *
   have d0:=fun x:aw (wf).heap.size wf=>aa x.h KL k0
   have d1:=fun x:aw (wf).heap.size wf=>aa x.h KL k1
   have d2:=fun x:aw (wf).heap.size wf=>aa x.h KL' k2
   have d3:=fun x:aw (wf).heap.size wf=>aa x.h KL' k3
   have d4:=fun x:aw (wf).heap.size wf=>aa x.h HP.out.lt HP.out.f0
   have d5:=fun x:aw (wf).heap.size wf=>aa x.h HP.out.lt HP.out.f1
   refine af 2 0 _ _ _ (by kernel_rfl) ?_
   simp only[Cf,Ch,Ce,Ci]
   repeat (go_big_quiet_step (fail))
   refine wpQuiet_nil ?_
   refine ag rfl rfl (fun K hK=>?_)
   go_simp
   refine (kK _ xs X wf HXE.out HX.out).mono ?_
   rintro e wf ⟨u,rfl,hu,rfl⟩
   refine hK _ _ ⟨⟨_,Below.refl _ _⟩,rfl⟩ ?_
   clear hK K
   try simp only[Act.put,Ca,B_,B9,B4,Cb,Cc]
   refine ag rfl rfl (fun K hK=>?_)
   go_simp
   refine (rD _ _ M1 M2 X wf HR3.out HP.out.F hu HG.out).mono ?_
   rintro e w7 ⟨p7,c7,rfl,hy,hb⟩
   refine hK _ _ ⟨⟨_,hb⟩,rfl⟩ ?_
   clear hK K hu
   try simp only[Act.put,Ca,B_,B9,B4,Cb,Cc]
   refine af 5 4 _ _ _ (by kernel_rfl) ?_
   simp only[Cf,Ch,Ce,Ci]
   repeat (go_big_quiet_step (fail))
   refine wpQuiet_nil ?_
   refine av ?_
   clear d0 d1 d2 d3 d4 d5
   have HP:=BZ (HP.out.below hb)
   try have HY:=BZ (HY.out.below hb)
   try have HZ:=BZ (HZ.out.below hb)
   have HQ:=BZ hy
   clear hy
   have HF:=BZ (HF.out.below hb)
   have HF':=BZ (HF'.out.below hb)
   have HX:=BZ (HX.out.below hb)
   have HG:=BZ (HG.out.below hb)
   have HB:=BZ (HB.out.trans ((hb).mono HB.out.size))
   have k0:=aa hb KL k0
   have k1:=aa hb KL k1
   have k2:=aa hb KL' k2
   have k3:=aa hb KL' k3
   have KL:=Cg KL ((hb).size)
   have KL':=Cg KL' ((hb).size)
   clear hb
   obtain⟨N,hN⟩:∃ N,N=X.length:=⟨_,rfl⟩
   have hN16:N≤16:=by rw[hN];exact HXL.out
   have hpo:=pB (fa:=fa) (fb:=fb) (ga:=ga) (gb:=gb) (x:=X) (N:=N) HCK.out.1 HCK.out.2 (by rw[HPE.out]) (by unfold dK at hco;exact Cz.1 hco) hN16 hN.symm
   rw[HPE.out] at hpo
   rw[←hN] at HY HZ HQ
   have HADD:=BZ (vI (.slice p5 N c5) (.slice p6 N c6) (aH fa fb X N) (aH ga gb X N) (aH M1 M2 X N) w7 HY.out HZ.out (by rw[aG,aG]) (by rw[aG,aG]) (by rw[aG];omega) (by rw[aG];exact hpo) HG.out)
   rw[←hN]
   clear hpo hco hN HR HR2 HR3 HPE
   go_wp2_with fail
   refine HADD.out.mono ?_
   rintro e w8 ⟨us,rfl,hus,hb⟩
   have HQ:=BZ (HQ.out.below hb)
   have HUS:=BZ hus
   clear hus HADD
   have HF:=BZ (HF.out.below hb)
   have HF':=BZ (HF'.out.below hb)
   have HX:=BZ (HX.out.below hb)
   have HG:=BZ (HG.out.below hb)
   have HB:=BZ (HB.out.trans ((hb).mono HB.out.size))
   have k0:=aa hb KL k0
   have k1:=aa hb KL k1
   have k2:=aa hb KL' k2
   have k3:=aa hb KL' k3
   have KL:=Cg KL ((hb).size)
   have KL':=Cg KL' ((hb).size)
   clear hb
   have HSN:=BZ (fe (.slice p7 N c7) us (aH M1 M2 X N) (aH M1 M2 X N) w8 HQ.out HUS.out (by rw[aG];omega) (by rw[aG];omega))
   rw[decide_eq_true (rfl:aH M1 M2 X N=_)] at HSN
   go_wp2_with fail
   refine HSN.out.mono ?_
   rintro e w9 ⟨rfl,hb⟩
   clear HSN
   have HF:=BZ (HF.out.below hb)
   have HF':=BZ (HF'.out.below hb)
   have HX:=BZ (HX.out.below hb)
   have HG:=BZ (HG.out.below hb)
   have HB:=BZ (HB.out.trans ((hb).mono HB.out.size))
   have k0:=aa hb KL k0
   have k1:=aa hb KL k1
   have k2:=aa hb KL' k2
   have k3:=aa hb KL' k3
   have KL:=Cg KL ((hb).size)
   have KL':=Cg KL' ((hb).size)
   clear hb
   go_wp2_with fail
   refine (fB _ HG.out).mono ?_
   rintro e wz ⟨rfl,hz⟩
   have HB:=HB.out.trans (hz.mono HB.out.size)
   clear hz
   go_wp2
   go_ret
   exact⟨rfl,HB⟩
  ·have HR:=BZ hr
   clear hr
   have hd:Below (w4).heap.size w4 (w4).drew:=(Below.refl _ _).drew
   refine ak (fun w'=>∃ x:aw (w4).drew.heap.size (w4).drew,w'=x.w) (fun j=>j == 2||j == 3) (by kernel_rfl) (by kernel_rfl) ⟨⟨_,Below.refl _ _⟩,rfl⟩ ?_
   have HP:=BZ (HP.out.below hd)
   try have HY:=BZ (HY.out.below hd)
   try have HZ:=BZ (HZ.out.below hd)
   have HF:=BZ (HF.out.below hd)
   have HF':=BZ (HF'.out.below hd)
   have HX:=BZ (HX.out.below hd)
   have HG:=BZ (HG.out.below hd)
   have HB:=BZ (HB.out.trans ((hd).mono HB.out.size))
   have k0:=aa hd KL k0
   have k1:=aa hd KL k1
   have k2:=aa hd KL' k2
   have k3:=aa hd KL' k3
   have KL:=Cg KL ((hd).size)
   have KL':=Cg KL' ((hd).size)
   clear hd
   generalize (w4).drew=wd at *
   have d0:=fun x:aw (wd).heap.size wd=>aa x.h KL k0
   have d1:=fun x:aw (wd).heap.size wd=>aa x.h KL k1
   have d2:=fun x:aw (wd).heap.size wd=>aa x.h KL' k2
   have d3:=fun x:aw (wd).heap.size wd=>aa x.h KL' k3
   have d4:=fun x:aw (wd).heap.size wd=>aa x.h HP.out.lt HP.out.f0
   have d5:=fun x:aw (wd).heap.size wd=>aa x.h HP.out.lt HP.out.f1
   refine af 2 0 _ _ _ (by kernel_rfl) ?_
   simp only[Cf,Ch,Ce,Ci]
   repeat (go_big_quiet_step (fail))
   refine wpQuiet_nil ?_
   refine ag rfl rfl (fun K hK=>?_)
   go_simp
   refine (kK _ xs X wd HXE.out HX.out).mono ?_
   rintro e wd ⟨u,rfl,hu,rfl⟩
   refine hK _ _ ⟨⟨_,Below.refl _ _⟩,rfl⟩ ?_
   clear hK K
   try simp only[Act.put,Ca,B_,B9,B4,Cb,Cc]
   refine ag rfl rfl (fun K hK=>?_)
   go_simp
   refine (y7 _ _ fa fb X wd HR.out HF.out hu HG.out).mono ?_
   rintro e w5 ⟨rfl,hb⟩
   refine hK _ _ ⟨⟨_,hb⟩,rfl⟩ ?_
   clear hK K hu
   try simp only[Act.put,Ca,B_,B9,B4,Cb,Cc]
   refine af 5 4 _ _ _ (by kernel_rfl) ?_
   simp only[Cf,Ch,Ce,Ci]
   repeat (go_big_quiet_step (fail))
   refine wpQuiet_nil ?_
   refine av ?_
   clear d0 d1 d2 d3 d4 d5
   have HP:=BZ (HP.out.below hb)
   try have HY:=BZ (HY.out.below hb)
   try have HZ:=BZ (HZ.out.below hb)
   have HF:=BZ (HF.out.below hb)
   have HF':=BZ (HF'.out.below hb)
   have HX:=BZ (HX.out.below hb)
   have HG:=BZ (HG.out.below hb)
   have HB:=BZ (HB.out.trans ((hb).mono HB.out.size))
   have k0:=aa hb KL k0
   have k1:=aa hb KL k1
   have k2:=aa hb KL' k2
   have k3:=aa hb KL' k3
   have KL:=Cg KL ((hb).size)
   have KL':=Cg KL' ((hb).size)
   clear hb
   go_wp2_with fail
   refine (fB _ HG.out).mono ?_
   rintro e wz ⟨rfl,hz⟩
   have HB:=HB.out.trans (hz.mono HB.out.size)
   clear hz
   go_wp2
   go_ret
   exact⟨rfl,HB⟩
 ·have hee:=ql (fa:=fa) (fb:=fb) (ga:=ga) (gb:=gb) (r:=d7 fa fb ga gb) (show (bo fa fb ga gb).2≠0 by rw[HPE.out];exact hep)
  rw[show aB fa fb ga gb (d7 fa fb ga gb)=bo fa fb ga gb from rfl,HPE.out] at hee
  obtain⟨rfl,rfl⟩:M1=[]∧M2=[]:=Prod.mk.inj hee
  have hne:(ep == 0)=false:=by simpa using hep
  clear hep hee HPE
  go_wp2_with fail
  refine (fB _ HG.out).mono ?_
  rintro e wz ⟨rfl,hz⟩
  have HB:=HB.out.trans (hz.mono HB.out.size)
  clear hz
  go_wp2
  go_ret
  exact⟨rfl,HB⟩
set_option maxRecDepth 100000
theorem js (os:Os) (started:os.Started) (H:Type) (enc:TypeId×Value→H) :
  ReturnsInHanded {} Tryz.checked os 11 .any (fun w args=>(Rows.loopParallelSpec.pre enc Tryz.prog Tryz.f11 [] false w args∧laidMetH Tryz.prog fI w)∧sizedMet enc Tryz.prog Tryz.f11 (OpenSpec.ofChange Rows.loopParallelSpec) false w args)
   (Rows.loopParallelSpec.post enc Tryz.prog Tryz.f11 false true false false):=by
 refine il (C:=Tryz.checked) (X:=fun w _=>laidMetH Tryz.prog fI w) (fun _ _ _ hh h=>h.of_heap hh) own started (by kernel_rfl) Tryz.func11
  (ChangeSpec.witness_shaped (enc:=enc) (C:=Tryz.checked) (os:=os) (X:=fun w _=>laidMetH Tryz.prog fI w) false (World.laidAll Tryz.prog os fI) #[.agg #[.slice none 0 0,.slice none 0 0],.agg #[.slice none 0 0,.slice none 0 0],.slice none 0 0] 8 (World.laidAll_os _ _ _)
   (World.shaped_of_ZipB (by kernel_rfl) (by kernel_rfl)) (by kernel_rfl) (by kernel_rfl) (by kernel_rfl)
   (by rw[Go.MakeChecks.laidMetH_plain _ _ _ (by kernel_rfl)];exact laidMet_laidAll _ (by kernel_rfl) (by kernel_rfl))) ?_
 intro W base args ds gs before hval0 hW hwt hL hsh
 have hval:∀ (j:Nat) t v,Tryz.f11.params[j]?=some t→args[j]?=some v→Value.okWide Tryz.prog W .any base t v:=hval0
 have hW':=hW
 obtain⟨p,q,hA0,hV,rfl,_,_⟩:=hW
 have hA:DataW.TrodAll enc Tryz.prog W 0 (fun _=>true) true Tryz.f11.params.toList args.toList ds p:=hA0
 rw[Tryz.params11] at hA hval
 have hwt':(DataW.weightsEach Tryz.prog (Tryz.f11.params.toList++[]) (ds++gs)).all (·≤reachBytes)=true:=hwt
 rw[Tryz.params11,C2] at hwt'
 obtain⟨v0,v1,v2,d0,d1,d2,p0,p1,p2,rfl,rfl,rfl,h0,h1,h2⟩:=trodAll_three hA
 obtain⟨rfl,rfl⟩:=trodVars_none hV
 simp only[C2] at hW' hwt'
 have hX:=xZ hL hsh
 have fits:∀ (j:Nat) (t:TypeId) (d:DataW H),([28,28,26]:List TypeId)[j]?=some t→[d0,d1,d2][j]?=some d→jB t d:=fun j t d ht hd n hn=>by
  have:=Cz.1 hwt' n (DataW.weights_mem_each ht hd n hn)
  exact of_decide_eq_true this
 have hlt:∀ x∈p0++p1++p2,x.block<W.heap.size:=fun x hx=>by simpa using hW'.lt x hx
 have ok0:=hval 0 28 v0 rfl rfl
 obtain⟨cs0,hcs0,_⟩:=okWide_struct Tryz.underlying28 ok0
 obtain⟨a0,b0,hF0⟩:=kh h0 (fits 0 _ _ rfl rfl) ⟨cs0,hcs0⟩
 have ok1:=hval 1 28 v1 rfl rfl
 obtain⟨cs1,hcs1,_⟩:=okWide_struct Tryz.underlying28 ok1
 obtain⟨a1,b1,hF1⟩:=kh h1 (fits 1 _ _ rfl rfl) ⟨cs1,hcs1⟩
 have ok2:=hval 2 26 v2 rfl rfl
 obtain⟨l2,hF2⟩:=uz h2 (fits 2 _ _ rfl rfl) ok2
 refine (oZ v0 a0 b0 v1 a1 b1 v2 l2 W hF0 hF1 hF2 hX).mono fun e W' ⟨he,hb⟩=>?_
 subst he
 exact⟨_,rfl,_,_,_,[],p0++p1++p2,[],hW',trodAll_mk1 (shut_bool Tryz.underlying4 _),(by rw[CV];exact trodAll_mk3 (Below.trod laidAll (by kernel_rfl) (of_decide_eq_true (by kernel_rfl)) h0 hb (fun x hx=>hlt x (by simp[hx]))) (Below.trod laidAll (by kernel_rfl) (of_decide_eq_true (by kernel_rfl)) h1 hb (fun x hx=>hlt x (by simp[hx]))) (Below.trod laidAll (by kernel_rfl) (of_decide_eq_true (by kernel_rfl)) h2 hb (fun x hx=>hlt x (by simp[hx])))),rfl,hb.frame _,fun h=>by cases h⟩
theorem mU {fa fb K1 K2 L1 L2:List ByteArray} (hk:du fa fb=((K1,K2),0)) (hl:fQ fa fb=((L1,L2),0)):ar fa fb=true∧ar K1 K2=true∧ar L1 L2=true:=by
 obtain⟨qa,qb,qs,c,-,-,-,-,-,-,-,h1,h2,-⟩:=jK hk hl
 obtain⟨hc,-⟩:=kb (l:=fb) (fa:=fa) (fb:=fb) (by rw[show aB fa fb fa fb (ci fb fa fb)=fQ fa fb from rfl,hl])
 exact⟨hc,h2,h1⟩
theorem sI (v:Value) (fa fb:List ByteArray) (vx:Value) (xs:List ByteArray) (w:World) (hF:IsF w v fa fb) (hX:IsS w vx xs) (hG:Gx w) :
  Calls Tryz.prog 12 #[v,vx] w fun e w'=>e=.returned (.bool true)∧Below w.heap.size w w':=by
 obtain⟨p,c,q,d,rfl,hfa,hfb⟩:=id hF.ex
 obtain⟨px,cx,rfl,-⟩:=id hX.form
 go_enter Tryz.func12,Tryz.ntmps12
 go_upto_region 1 with fail
 have cc:=ap w (.slice p fa.length c) (.slice q fb.length d)
 have m1:=ae w (.cells #[.slice p fa.length c,.slice q fb.length d] 28)
 have z1:=size_alloc w (.cells #[.slice p fa.length c,.slice q fb.length d] 28)
 generalize w.alloc (.cells #[.slice p fa.length c,.slice q fb.length d] 28)=w2 at *
 have k0:=cc.1
 have k1:=cc.2
 have KL:w.heap.size<w2.heap.size:=by omega
 have HB:=BZ m1
 have HF:=BZ (hF.below HB.out)
 have HG:=BZ (hG.below HB.out)
 have HX:=BZ (hX.below HB.out)
 clear hfa hfb cc z1 m1 hF hX hG
 obtain⟨X,hXe⟩:∃ X,X=xs.take 16:=⟨_,rfl⟩
 have HXE:=BZ hXe
 have HXL:=BZ (show X.length≤16 by rw[hXe];simp;omega)
 clear hXe
 obtain⟨⟨⟨K1,K2⟩,ek⟩,hk⟩:∃ r,du fa fb=r:=⟨_,rfl⟩
 obtain⟨⟨⟨L1,L2⟩,el⟩,hl⟩:∃ r,fQ fa fb=r:=⟨_,rfl⟩
 have HKE:=BZ hk
 have HLE:=BZ hl
 clear hk hl
 go_wp2_with fail
 refine (xA _ fa fb K1 K2 ek w2 HKE.out HF.out HG.out).mono ?_
 rintro e w3 ⟨p1,c1,p2,c2,rfl,g1,g2,hb⟩
 have HF:=BZ (HF.out.below hb)
 have HX:=BZ (HX.out.below hb)
 have HG:=BZ (HG.out.below hb)
 have HB:=BZ (HB.out.trans ((hb).mono HB.out.size))
 have k0:=aa hb KL k0
 have k1:=aa hb KL k1
 have KL:=Cg KL ((hb).size)
 try have HK:=BZ (HK.out.below hb)
 try have HL:=BZ (HL.out.below hb)
 try have HY:=BZ (HY.out.below hb)
 try have HZ:=BZ (HZ.out.below hb)
 clear hb
 go_upto_region 2 with fail
 have kk:=ap w3 (.slice p1 (K1).length c1) (.slice p2 (K2).length c2)
 have hb:=ae w3 (.cells #[.slice p1 (K1).length c1,.slice p2 (K2).length c2] 28)
 have zz:=size_alloc w3 (.cells #[.slice p1 (K1).length c1,.slice p2 (K2).length c2] 28)
 generalize World.alloc w3 (.cells #[.slice p1 (K1).length c1,.slice p2 (K2).length c2] 28)=w4 at *
 obtain⟨gk,hgc⟩:∃ x,x=(w3).heap.size:=⟨_,rfl⟩
 rw[←hgc] at kk zz ⊢
 have HK:=BZ (show oz w4 gk p1 c1 p2 c2 K1 K2 from⟨kk.1,kk.2,g1.below hb,g2.below hb,by omega⟩)
 clear kk g1 g2 zz hgc
 have HF:=BZ (HF.out.below hb)
 have HX:=BZ (HX.out.below hb)
 have HG:=BZ (HG.out.below hb)
 have HB:=BZ (HB.out.trans ((hb).mono HB.out.size))
 have k0:=aa hb KL k0
 have k1:=aa hb KL k1
 have KL:=Cg KL ((hb).size)
 try have HK:=BZ (HK.out.below hb)
 try have HL:=BZ (HL.out.below hb)
 try have HY:=BZ (HY.out.below hb)
 try have HZ:=BZ (HZ.out.below hb)
 clear hb
 go_wp2_with fail
 refine (Bc _ fa fb L1 L2 el w4 HLE.out HF.out HG.out).mono ?_
 rintro e w5 ⟨p1,c1,p2,c2,rfl,g1,g2,hb⟩
 have HF:=BZ (HF.out.below hb)
 have HX:=BZ (HX.out.below hb)
 have HG:=BZ (HG.out.below hb)
 have HB:=BZ (HB.out.trans ((hb).mono HB.out.size))
 have k0:=aa hb KL k0
 have k1:=aa hb KL k1
 have KL:=Cg KL ((hb).size)
 try have HK:=BZ (HK.out.below hb)
 try have HL:=BZ (HL.out.below hb)
 try have HY:=BZ (HY.out.below hb)
 try have HZ:=BZ (HZ.out.below hb)
 clear hb
 go_upto_region 3 with fail
 have kk:=ap w5 (.slice p1 (L1).length c1) (.slice p2 (L2).length c2)
 have hb:=ae w5 (.cells #[.slice p1 (L1).length c1,.slice p2 (L2).length c2] 28)
 have zz:=size_alloc w5 (.cells #[.slice p1 (L1).length c1,.slice p2 (L2).length c2] 28)
 generalize World.alloc w5 (.cells #[.slice p1 (L1).length c1,.slice p2 (L2).length c2] 28)=w6 at *
 obtain⟨gl,hgc⟩:∃ x,x=(w5).heap.size:=⟨_,rfl⟩
 rw[←hgc] at kk zz ⊢
 have HL:=BZ (show oz w6 gl p1 c1 p2 c2 L1 L2 from⟨kk.1,kk.2,g1.below hb,g2.below hb,by omega⟩)
 clear kk g1 g2 zz hgc
 have HF:=BZ (HF.out.below hb)
 have HX:=BZ (HX.out.below hb)
 have HG:=BZ (HG.out.below hb)
 have HB:=BZ (HB.out.trans ((hb).mono HB.out.size))
 have k0:=aa hb KL k0
 have k1:=aa hb KL k1
 have KL:=Cg KL ((hb).size)
 try have HK:=BZ (HK.out.below hb)
 try have HL:=BZ (HL.out.below hb)
 try have HY:=BZ (HY.out.below hb)
 try have HZ:=BZ (HZ.out.below hb)
 clear hb
 by_cases hek:ek=0
 ·subst hek
  by_cases hel:el=0
  ·subst hel
   obtain⟨c0,c1,c2⟩:=mU HKE.out HLE.out
   have HCK:=BZ (And.intro c0 (And.intro c1 c2))
   clear c0 c1 c2
   go_upto_region 5 with fail
   rcases rC (a:=K1) (b:=K2) (x:=X) HCK.out.2.1 (HXL.out) with ⟨hr,hco⟩ | ⟨hr,hco⟩
   ·have HR:=BZ hr
    clear hr
    have hd:Below (w6).heap.size w6 (w6).drew:=(Below.refl _ _).drew
    refine ak (fun w'=>∃ x:aw (w6).drew.heap.size (w6).drew,w'=x.w) (fun j=>j == 2||j == 3) (by kernel_rfl) (by kernel_rfl) ⟨⟨_,Below.refl _ _⟩,rfl⟩ ?_
    have HF:=BZ (HF.out.below hd)
    have HX:=BZ (HX.out.below hd)
    have HG:=BZ (HG.out.below hd)
    have HB:=BZ (HB.out.trans ((hd).mono HB.out.size))
    have k0:=aa hd KL k0
    have k1:=aa hd KL k1
    have KL:=Cg KL ((hd).size)
    try have HK:=BZ (HK.out.below hd)
    try have HL:=BZ (HL.out.below hd)
    try have HY:=BZ (HY.out.below hd)
    try have HZ:=BZ (HZ.out.below hd)
    clear hd
    generalize (w6).drew=wd at *
    have d0:=fun x:aw (wd).heap.size wd=>aa x.h KL k0
    have d1:=fun x:aw (wd).heap.size wd=>aa x.h KL k1
    have d4:=fun x:aw (wd).heap.size wd=>aa x.h (HK).out.lt (HK).out.f0
    have d5:=fun x:aw (wd).heap.size wd=>aa x.h (HK).out.lt (HK).out.f1
    refine af 2 0 _ _ _ (by kernel_rfl) ?_
    simp only[Cf,Ch,Ce,Ci]
    repeat (go_big_quiet_step (fail))
    refine wpQuiet_nil ?_
    refine ag rfl rfl (fun K hK=>?_)
    go_simp
    refine (kK _ xs X wd HXE.out HX.out).mono ?_
    rintro e wd ⟨u,rfl,hu,rfl⟩
    refine hK _ _ ⟨⟨_,Below.refl _ _⟩,rfl⟩ ?_
    clear hK K
    try simp only[Act.put,Ca,B_,B9,B4,Cb,Cc]
    refine ag rfl rfl (fun K hK=>?_)
    go_simp
    refine (rD _ _ K1 K2 X wd HR.out HK.out.F hu HG.out).mono ?_
    rintro e w7 ⟨p5,c5,rfl,hy,hb⟩
    refine hK _ _ ⟨⟨_,hb⟩,rfl⟩ ?_
    clear hK K hu
    try simp only[Act.put,Ca,B_,B9,B4,Cb,Cc]
    refine af 5 4 _ _ _ (by kernel_rfl) ?_
    simp only[Cf,Ch,Ce,Ci]
    repeat (go_big_quiet_step (fail))
    refine wpQuiet_nil ?_
    refine av ?_
    clear d0 d1 d4 d5
    have HY:=BZ hy
    clear hy
    have HF:=BZ (HF.out.below hb)
    have HX:=BZ (HX.out.below hb)
    have HG:=BZ (HG.out.below hb)
    have HB:=BZ (HB.out.trans ((hb).mono HB.out.size))
    have k0:=aa hb KL k0
    have k1:=aa hb KL k1
    have KL:=Cg KL ((hb).size)
    try have HK:=BZ (HK.out.below hb)
    try have HL:=BZ (HL.out.below hb)
    try have HY:=BZ (HY.out.below hb)
    try have HZ:=BZ (HZ.out.below hb)
    clear hb
    go_upto_region 8 with fail
    have HR2:=BZ (show gr L1 L2 X=0 by rw[←kA HCK.out.2.1 HCK.out.2.2];exact HR.out)
    have hd:Below (w7).heap.size w7 (w7).drew:=(Below.refl _ _).drew
    refine ak (fun w'=>∃ x:aw (w7).drew.heap.size (w7).drew,w'=x.w) (fun j=>j == 2||j == 3) (by kernel_rfl) (by kernel_rfl) ⟨⟨_,Below.refl _ _⟩,rfl⟩ ?_
    have HF:=BZ (HF.out.below hd)
    have HX:=BZ (HX.out.below hd)
    have HG:=BZ (HG.out.below hd)
    have HB:=BZ (HB.out.trans ((hd).mono HB.out.size))
    have k0:=aa hd KL k0
    have k1:=aa hd KL k1
    have KL:=Cg KL ((hd).size)
    try have HK:=BZ (HK.out.below hd)
    try have HL:=BZ (HL.out.below hd)
    try have HY:=BZ (HY.out.below hd)
    try have HZ:=BZ (HZ.out.below hd)
    clear hd
    generalize (w7).drew=we at *
    have d0:=fun x:aw (we).heap.size we=>aa x.h KL k0
    have d1:=fun x:aw (we).heap.size we=>aa x.h KL k1
    have d4:=fun x:aw (we).heap.size we=>aa x.h (HL).out.lt (HL).out.f0
    have d5:=fun x:aw (we).heap.size we=>aa x.h (HL).out.lt (HL).out.f1
    refine af 2 0 _ _ _ (by kernel_rfl) ?_
    simp only[Cf,Ch,Ce,Ci]
    repeat (go_big_quiet_step (fail))
    refine wpQuiet_nil ?_
    refine ag rfl rfl (fun K hK=>?_)
    go_simp
    refine (kK _ xs X we HXE.out HX.out).mono ?_
    rintro e we ⟨u,rfl,hu,rfl⟩
    refine hK _ _ ⟨⟨_,Below.refl _ _⟩,rfl⟩ ?_
    clear hK K
    try simp only[Act.put,Ca,B_,B9,B4,Cb,Cc]
    refine ag rfl rfl (fun K hK=>?_)
    go_simp
    refine (rD _ _ L1 L2 X we HR2.out HL.out.F hu HG.out).mono ?_
    rintro e w8 ⟨p6,c6,rfl,hy,hb⟩
    refine hK _ _ ⟨⟨_,hb⟩,rfl⟩ ?_
    clear hK K hu
    try simp only[Act.put,Ca,B_,B9,B4,Cb,Cc]
    refine af 5 4 _ _ _ (by kernel_rfl) ?_
    simp only[Cf,Ch,Ce,Ci]
    repeat (go_big_quiet_step (fail))
    refine wpQuiet_nil ?_
    refine av ?_
    clear d0 d1 d4 d5
    have HZ:=BZ hy
    clear hy
    have HF:=BZ (HF.out.below hb)
    have HX:=BZ (HX.out.below hb)
    have HG:=BZ (HG.out.below hb)
    have HB:=BZ (HB.out.trans ((hb).mono HB.out.size))
    have k0:=aa hb KL k0
    have k1:=aa hb KL k1
    have KL:=Cg KL ((hb).size)
    try have HK:=BZ (HK.out.below hb)
    try have HL:=BZ (HL.out.below hb)
    try have HY:=BZ (HY.out.below hb)
    try have HZ:=BZ (HZ.out.below hb)
    clear hb
    obtain⟨N,hN⟩:∃ N,N=X.length:=⟨_,rfl⟩
    have hN16:N≤16:=by rw[hN];exact HXL.out
    have hco2:=sn (x:=X) (N:=N) HKE.out HLE.out (by unfold dK at hco;exact Cz.1 hco) hN16 hN.symm
    rw[←hN] at HY HZ
    rw[←hN]
    have HNX:=BZ hN
    have HC1:=BZ hco2.1
    have HC2:=BZ hco2.2
    clear hco hco2 HR HR2 hN
    go_wp2_with fail
    refine (kK _ xs X w8 HXE.out HX.out).mono ?_
    rintro e w9 ⟨u,rfl,hu,rfl⟩
    have HU:=BZ hu
    clear hu
    have hsub:=fun (vy:Value) (hy:IsS w9 vy (aH K1 K2 X N))=>Ab u vy X (aH K1 K2 X N) (aH L1 L2 X N) w9 HU.out hy (by rw[aG];exact HNX.out) (by rw[aG];exact HNX.out) (by rw[←HNX.out];omega) (by rw[←HNX.out];exact HC1.out) HG.out
    have HSUB:=BZ hsub
    clear hsub
    go_wp2_with fail
    refine (HSUB.out _ HY.out).mono ?_
    rintro e w10 ⟨us,rfl,hus,hb⟩
    clear HSUB HU
    have HF:=BZ (HF.out.below hb)
    have HX:=BZ (HX.out.below hb)
    have HG:=BZ (HG.out.below hb)
    have HB:=BZ (HB.out.trans ((hb).mono HB.out.size))
    have k0:=aa hb KL k0
    have k1:=aa hb KL k1
    have KL:=Cg KL ((hb).size)
    try have HK:=BZ (HK.out.below hb)
    try have HL:=BZ (HL.out.below hb)
    try have HY:=BZ (HY.out.below hb)
    try have HZ:=BZ (HZ.out.below hb)
    clear hb
    obtain⟨pr,cr,rfl,-⟩:=id hus.form
    rw[aG] at hus ⊢
    have HUS:=BZ hus
    clear hus
    have HSN:=BZ (fe (.slice pr N cr) (.slice p6 N c6) (aH L1 L2 X N) (aH L1 L2 X N) w10 HUS.out HZ.out (by rw[aG];omega) (by rw[aG];omega))
    rw[decide_eq_true (rfl:aH L1 L2 X N=_)] at HSN
    go_wp2_with fail
    refine HSN.out.mono ?_
    rintro e w11 ⟨rfl,hb⟩
    clear HSN
    have HUS:=BZ (HUS.out.below hb)
    have HF:=BZ (HF.out.below hb)
    have HX:=BZ (HX.out.below hb)
    have HG:=BZ (HG.out.below hb)
    have HB:=BZ (HB.out.trans ((hb).mono HB.out.size))
    have k0:=aa hb KL k0
    have k1:=aa hb KL k1
    have KL:=Cg KL ((hb).size)
    try have HK:=BZ (HK.out.below hb)
    try have HL:=BZ (HL.out.below hb)
    try have HY:=BZ (HY.out.below hb)
    try have HZ:=BZ (HZ.out.below hb)
    clear hb
    have HRC:=BZ (Bo _ fa fb (.slice pr N cr) (.slice p5 N c5) (aH L1 L2 X N) (aH K1 K2 X N) w11 HF.out HUS.out HY.out (by rw[aG,aG]) (by rw[aG];exact hN16) (aD HCK.out.1).2.2.2.1 (aD HCK.out.1).2.1 (by rw[aG];exact HC2.out) HG.out)
    go_wp2_with fail
    refine HRC.out.mono ?_
    rintro e w12 ⟨rfl,hb⟩
    clear HRC HUS
    have HF:=BZ (HF.out.below hb)
    have HX:=BZ (HX.out.below hb)
    have HG:=BZ (HG.out.below hb)
    have HB:=BZ (HB.out.trans ((hb).mono HB.out.size))
    have k0:=aa hb KL k0
    have k1:=aa hb KL k1
    have KL:=Cg KL ((hb).size)
    try have HK:=BZ (HK.out.below hb)
    try have HL:=BZ (HL.out.below hb)
    try have HY:=BZ (HY.out.below hb)
    try have HZ:=BZ (HZ.out.below hb)
    clear hb
    go_wp2_with fail
    refine (fB _ HG.out).mono ?_
    rintro e wz ⟨rfl,hz⟩
    have HB:=HB.out.trans (hz.mono HB.out.size)
    clear hz
    go_wp2
    go_ret
    exact⟨rfl,HB⟩
   ·have HR:=BZ hr
    clear hr
    have hd:Below (w6).heap.size w6 (w6).drew:=(Below.refl _ _).drew
    refine ak (fun w'=>∃ x:aw (w6).drew.heap.size (w6).drew,w'=x.w) (fun j=>j == 2||j == 3) (by kernel_rfl) (by kernel_rfl) ⟨⟨_,Below.refl _ _⟩,rfl⟩ ?_
    have HF:=BZ (HF.out.below hd)
    have HX:=BZ (HX.out.below hd)
    have HG:=BZ (HG.out.below hd)
    have HB:=BZ (HB.out.trans ((hd).mono HB.out.size))
    have k0:=aa hd KL k0
    have k1:=aa hd KL k1
    have KL:=Cg KL ((hd).size)
    try have HK:=BZ (HK.out.below hd)
    try have HL:=BZ (HL.out.below hd)
    try have HY:=BZ (HY.out.below hd)
    try have HZ:=BZ (HZ.out.below hd)
    clear hd
    generalize (w6).drew=wd at *
    have d0:=fun x:aw (wd).heap.size wd=>aa x.h KL k0
    have d1:=fun x:aw (wd).heap.size wd=>aa x.h KL k1
    have d4:=fun x:aw (wd).heap.size wd=>aa x.h (HK).out.lt (HK).out.f0
    have d5:=fun x:aw (wd).heap.size wd=>aa x.h (HK).out.lt (HK).out.f1
    refine af 2 0 _ _ _ (by kernel_rfl) ?_
    simp only[Cf,Ch,Ce,Ci]
    repeat (go_big_quiet_step (fail))
    refine wpQuiet_nil ?_
    refine ag rfl rfl (fun K hK=>?_)
    go_simp
    refine (kK _ xs X wd HXE.out HX.out).mono ?_
    rintro e wd ⟨u,rfl,hu,rfl⟩
    refine hK _ _ ⟨⟨_,Below.refl _ _⟩,rfl⟩ ?_
    clear hK K
    try simp only[Act.put,Ca,B_,B9,B4,Cb,Cc]
    refine ag rfl rfl (fun K hK=>?_)
    go_simp
    refine (y7 _ _ K1 K2 X wd HR.out HK.out.F hu HG.out).mono ?_
    rintro e w5 ⟨rfl,hb⟩
    refine hK _ _ ⟨⟨_,hb⟩,rfl⟩ ?_
    clear hK K hu
    try simp only[Act.put,Ca,B_,B9,B4,Cb,Cc]
    refine af 5 4 _ _ _ (by kernel_rfl) ?_
    simp only[Cf,Ch,Ce,Ci]
    repeat (go_big_quiet_step (fail))
    refine wpQuiet_nil ?_
    refine av ?_
    clear d0 d1 d4 d5
    have HF:=BZ (HF.out.below hb)
    have HX:=BZ (HX.out.below hb)
    have HG:=BZ (HG.out.below hb)
    have HB:=BZ (HB.out.trans ((hb).mono HB.out.size))
    have k0:=aa hb KL k0
    have k1:=aa hb KL k1
    have KL:=Cg KL ((hb).size)
    try have HK:=BZ (HK.out.below hb)
    try have HL:=BZ (HL.out.below hb)
    try have HY:=BZ (HY.out.below hb)
    try have HZ:=BZ (HZ.out.below hb)
    clear hb
    go_wp2_with fail
    refine (fB _ HG.out).mono ?_
    rintro e wz ⟨rfl,hz⟩
    have HB:=HB.out.trans (hz.mono HB.out.size)
    clear hz
    go_wp2
    go_ret
    exact⟨rfl,HB⟩
  ·have hne:(el == 0)=false:=by simpa using hel
   clear hel
   go_wp2_with fail
   refine (fB _ HG.out).mono ?_
   rintro e wz ⟨rfl,hz⟩
   have HB:=HB.out.trans (hz.mono HB.out.size)
   clear hz
   go_wp2
   go_ret
   exact⟨rfl,HB⟩
 ·have hne:(ek == 0)=false:=by simpa using hek
  clear hek
  go_wp2_with fail
  all_goals
   refine (fB _ HG.out).mono ?_
   rintro e wz ⟨rfl,hz⟩
   have HB:=HB.out.trans (hz.mono HB.out.size)
   clear hz
   go_wp2
   go_ret
   exact⟨rfl,HB⟩
set_option maxRecDepth 100000
theorem kq (os:Os) (started:os.Started) (H:Type) (enc:TypeId×Value→H) :
  ReturnsInHanded {} Tryz.checked os 12 .any (fun w args=>(Rows.loopClosesSpec.pre enc Tryz.prog Tryz.f12 [] false w args∧laidMetH Tryz.prog fI w)∧sizedMet enc Tryz.prog Tryz.f12 (OpenSpec.ofChange Rows.loopClosesSpec) false w args)
   (Rows.loopClosesSpec.post enc Tryz.prog Tryz.f12 false true false false):=by
 refine il (C:=Tryz.checked) (X:=fun w _=>laidMetH Tryz.prog fI w) (fun _ _ _ hh h=>h.of_heap hh) own started (by kernel_rfl) Tryz.func12
  (ChangeSpec.witness_shaped (enc:=enc) (C:=Tryz.checked) (os:=os) (X:=fun w _=>laidMetH Tryz.prog fI w) false (World.laidAll Tryz.prog os fI) #[.agg #[.slice none 0 0,.slice none 0 0],.slice none 0 0] 8 (World.laidAll_os _ _ _)
   (World.shaped_of_ZipB (by kernel_rfl) (by kernel_rfl)) (by kernel_rfl) (by kernel_rfl) (by kernel_rfl)
   (by rw[Go.MakeChecks.laidMetH_plain _ _ _ (by kernel_rfl)];exact laidMet_laidAll _ (by kernel_rfl) (by kernel_rfl))) ?_
 intro W base args ds gs before hval0 hW hwt hL hsh
 have hval:∀ (j:Nat) t v,Tryz.f12.params[j]?=some t→args[j]?=some v→Value.okWide Tryz.prog W .any base t v:=hval0
 have hW':=hW
 obtain⟨p,q,hA0,hV,rfl,_,_⟩:=hW
 have hA:DataW.TrodAll enc Tryz.prog W 0 (fun _=>true) true Tryz.f12.params.toList args.toList ds p:=hA0
 rw[Tryz.params12] at hA hval
 have hwt':(DataW.weightsEach Tryz.prog (Tryz.f12.params.toList++[]) (ds++gs)).all (·≤reachBytes)=true:=hwt
 rw[Tryz.params12,C2] at hwt'
 obtain⟨v0,v1,d0,d1,p0,p1,rfl,rfl,rfl,h0,h1⟩:=trodAll_two hA
 obtain⟨rfl,rfl⟩:=trodVars_none hV
 simp only[C2] at hW' hwt'
 have hX:=xZ hL hsh
 have fits:∀ (j:Nat) (t:TypeId) (d:DataW H),([28,26]:List TypeId)[j]?=some t→[d0,d1][j]?=some d→jB t d:=fun j t d ht hd n hn=>by
  have:=Cz.1 hwt' n (DataW.weights_mem_each ht hd n hn)
  exact of_decide_eq_true this
 have hlt:∀ x∈p0++p1,x.block<W.heap.size:=fun x hx=>by simpa using hW'.lt x hx
 have ok0:=hval 0 28 v0 rfl rfl
 obtain⟨cs0,hcs0,_⟩:=okWide_struct Tryz.underlying28 ok0
 obtain⟨a0,b0,hF0⟩:=kh h0 (fits 0 _ _ rfl rfl) ⟨cs0,hcs0⟩
 have ok1:=hval 1 26 v1 rfl rfl
 obtain⟨l1,hF1⟩:=uz h1 (fits 1 _ _ rfl rfl) ok1
 refine (sI v0 a0 b0 v1 l1 W hF0 hF1 hX).mono fun e W' ⟨he,hb⟩=>?_
 subst he
 exact⟨_,rfl,_,_,_,[],p0++p1,[],hW',trodAll_mk1 (shut_bool Tryz.underlying4 _),trodAll_mk2 (Below.trod laidAll (by kernel_rfl) (of_decide_eq_true (by kernel_rfl)) h0 hb (fun x hx=>hlt x (by simp[hx]))) (Below.trod laidAll (by kernel_rfl) (of_decide_eq_true (by kernel_rfl)) h1 hb (fun x hx=>hlt x (by simp[hx]))),rfl,hb.frame _,fun h=>by cases h⟩
end Go.Proofs.YtdlioncecgnloaaGreatDoor
