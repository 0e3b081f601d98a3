/- Lemmas of this claim. -/
import Derived.Test.YtlkniohhalnjjaaGreatDoorKReg
import Derived.Test.YtlkniohhalnjjaaGreatDoorKLock6
import Derived.Test.YtlkniohhalnjjaaGreatDoorKRow
set_option linter.all false
set_option maxRecDepth 100000
set_option maxHeartbeats 8000000
namespace Go.Proofs.YtlkniohhalnjjaaGreatDoor
open Go.RowKit Dc Dg
section
variable {w0 w w' : World} {gs : List Gd} {p : Option Addr} {c mB mb : Nat} {cn cb vmn vmb v6 v7 : Value} {Ln Lb : List (List Int × Value)} {l6 l7 : List Int} {N s : Nat} {f : Nat × Nat → Option Value} {dom : Nat × Nat → Prop} {E : World → Prop}
theorem aL.old (h:aL w0 w gs p c mB mb cn cb vmn vmb v6 v7 Ln Lb l6 l7 N s f dom E):∀ x∈[some mB,some mb,vmn.ownBlock,vmb.ownBlock,v6.ownBlock,v7.ownBlock],∀ k,x=some k→k<w.heap.size:=by
 intro x hx k e
 simp only[uy,ux,or_false] at hx
 rcases hx with rfl | rfl | rfl | rfl | rfl | rfl
 ·cases e;exact h.mB_lt
 ·cases e;exact h.mb_lt
 ·exact (ap h.rn e).2.1
 ·exact (ap h.rb e).2.1
 ·exact (ap h.r6 e).2.1
 ·exact (ap h.r7 e).2.1
theorem aL.lay (h:aL w0 w gs p c mB mb cn cb vmn vmb v6 v7 Ln Lb l6 l7 N s f dom E) (o:Obj):aL w0 (w.alloc o) gs p c mB mb cn cb vmn vmb v6 v7 Ln Lb l6 l7 N s f dom (fun w'=>E w'∧w'.heap[w.heap.size]?=some o):=by
 have hb:Below w.heap.size w (w.alloc o):=(Below.refl _ _).alloc (uo _) _
 have h1:=h.below hb
 have h2:ec [some mB,some mb,vmn.ownBlock,vmb.ownBlock,v6.ownBlock,v7.ownBlock] (w.alloc o) (fun w'=>w'.heap[w.heap.size]?=some o):=by
  intro w'' hs hg
  rw[hg w.heap.size (by simp) (fun hm=>by have:=h.old _ hm _ rfl;omega)]
  exact heap_alloc_new w o
 exact⟨h1.blk,h1.map,h1.rn,h1.rb,h1.r6,h1.r7,h1.n67,h1.nnb,(h1.fin.and h2).mono (fun w hw=>⟨hw.1.1,hw.1.2.1,hw.1.2.2.1,hw.1.2.2.2,hw.2⟩),h1.bl,h1.lo⟩
theorem aL.has (h:aL w0 w gs p c mB mb cn cb vmn vmb v6 v7 Ln Lb l6 l7 N s f dom E):E w:=h.fin.self.2.2.2
theorem aL.less {E':World→Prop} (h:aL w0 w gs p c mB mb cn cb vmn vmb v6 v7 Ln Lb l6 l7 N s f dom E) (hE:∀ w,E w→E' w):aL w0 w gs p c mB mb cn cb vmn vmb v6 v7 Ln Lb l6 l7 N s f dom E' :=
 ⟨h.blk,h.map,h.rn,h.rb,h.r6,h.r7,h.n67,h.nnb,h.fin.mono (fun w hw=>⟨hw.1,hw.2.1,hw.2.2.1,hE w hw.2.2.2⟩),h.bl,h.lo⟩
end
theorem aL.new (w:World) (gs:List Gd) (p:Option Addr) (c:Nat) :
  aL w ((w.alloc (.map #[] 0)).alloc (.cells #[.slice p gs.length c,.slice none 0 0,.slice none 0 0,.map (some w.heap.size)] 95)) gs p c (w.heap.size+1) w.heap.size cL cL cL cL cL cL [] [] [] [] 0 0 (fun _=>none) (fun _=>False) (fun _=>True):=by
 have hb1:Below w.heap.size w (w.alloc (.map #[] 0)):=(Below.refl _ _).alloc (uo _) _
 have hm:=bj.made w Tryz.prog 42 gM pf
 have hz:(w.alloc (.map #[] 0)).heap.size=w.heap.size+1:=by simp
 generalize w.alloc (.map #[] 0)=w1 at *
 have hb2:Below w1.heap.size w1 (w1.alloc (.cells #[.slice p gs.length c,.slice none 0 0,.slice none 0 0,.map (some w.heap.size)] 95)):=(Below.refl _ _).alloc (uo _) _
 have hn:=heap_alloc_new w1 (.cells #[.slice p gs.length c,.slice none 0 0,.slice none 0 0,.map (some w.heap.size)] 95)
 rw[hz] at hn
 refine⟨hn,hm.same (hb2.block _ hm.lt),⟨rfl,Or.inl ⟨rfl,rfl⟩⟩,⟨rfl,Or.inl ⟨rfl,rfl⟩⟩,⟨rfl,Or.inl ⟨rfl,rfl⟩⟩,⟨rfl,Or.inl ⟨rfl,rfl⟩⟩,fun k e=>(by cases e),fun k e=>(by cases e),fun w' _ _=>⟨fun t ht=>(by cases ht),fun t ht=>(by cases ht),fun q hq=>hq.elim,trivial⟩,hb1.trans (hb2.mono hb1.size),fun x hx k e=>?_⟩
 simp only[uy,ux,or_false] at hx
 rcases hx with rfl | rfl | rfl | rfl | rfl | rfl
 ·cases e;omega
 ·cases e;exact uo _
 all_goals cases e
theorem tW:(Tryz.prog.info? 3).map (fun i=>(i.zero,i.size,i.bytes))=some (some (.int .i64 0),1,8):=by kernel_rfl
theorem tX:(Tryz.prog.info? 34).map (fun i=>(i.zero,i.size,i.bytes))=some (some (.slice none 0 0),1,24):=by kernel_rfl
theorem tY:(Tryz.prog.info? 117).map (fun i=>(i.zero,i.size,i.bytes))=some (some (.agg #[.int .i64 0,.slice none 0 0]),2,32):=by kernel_rfl
theorem undI:Tryz.prog.underlying 34=some (.slice 3):=by kernel_rfl
theorem uf:Tryz.prog.underlying 91=some (.slice 34):=by kernel_rfl
theorem ug:Tryz.prog.underlying 115=some (.slice 117):=by kernel_rfl
theorem ky {o:Oper}{a:Act}{w:World}{K:Act→World→Prop}{Q:Exit→Act→World→Prop} (s x:Operand) (ho:o.op=.call { callee:=.builtin .append,args:=#[s,x],argTypes:=#[34,34] })
  (n:Nat) (v:Value) (l:List Int) (hs:a.eval s=v) (hr:aG n w v l) (hl:l.length≤1000000) (hn:n≤w.heap.size) (b:Nat) (z:Int) (hx:a.eval x=.slice (some ⟨b,0,none⟩) 1 1) (hb:w.cell? ⟨b,0,none⟩=some (.int .i64 z))
  (h:∀ v' w',aG n w' v' (l++[z])→w.grownBy w' v.ownBlock→(v'.ownBlock=v.ownBlock∨v'.ownBlock=some w.heap.size)→(∃ g cap,v'=.slice (some ⟨g,0,none⟩) (l++[z]).length cap)→K (a.put o.dst v') w'):o.wp Tryz.prog a w K Q:=by
 obtain⟨i0,hi,hz0,hz1,hz2⟩:=info_parts tW
 refine wp_append_lies w s x 34 ho n 3 i0 (.int .i64 0) 1 8 undI hi hz0 hz1 hz2 rfl (by decide) v l.length _ hs hr ⟨b,0,none⟩ 1 1 [.int .i64 z] hx rfl (fun j u hj=>?_) (fun u hu=>by simp at hu;subst hu;rfl) (by decide) (by unfold maxLen;omega) (by omega) hn _ rfl (fun g cap w' h1 h2 h3 h4=>?_)
 ·match j,hj with
  | 0,hj=>simp at hj;subst hj;simpa[Addr.add] using hb
 ·have e:(l++[z]).length=l.length+1:=by simp
  rw[←e]
  refine h _ w' ?_ h2 (h3.imp (fun e=>e.symm) (fun e=>by rw[e];rfl)) ⟨g,cap,rfl⟩
  unfold aG
  rw[e,uZ]
  exact h1
theorem qR {gs:List Gd}{g:Nat}{l:List Nd} (h:gr gs g l=true):∀ j (hj:j<l.length),(j:Int)≤l[j].guard∧l[j].guard≤(g:Int)-1∧dl gs g l[j]=true:=by
 intro j
 induction j with
 | zero =>
  intro hj
  have h1:=uM.1 h 0 (uL.2 hj)
  rw[fe (uu hj)] at h1
  have h2:=h1
  unfold dl at h2
  simp only[uz,decide_eq_true_eq] at h2
  exact⟨h2.1.1.1,h2.1.1.2,h1⟩
 | succ j ih =>
  intro hj
  have h1:=uM.1 h (j+1) (uL.2 hj)
  rw[cZ (uu hj) (uu (by omega))] at h1
  simp only[uz,ws,decide_eq_false_iff_not] at h1
  have h2:=h1.1
  unfold dl at h2
  simp only[uz,decide_eq_true_eq] at h2
  have h3:=ih (by omega)
  exact⟨by omega,h2.1.1.2,h1.1⟩
theorem lG {rl:List Rg}:∀ (l:List ByteArray) (last:Int),lF rl l last=true→last<rl.length→(l.length:Int)+last+1≤rl.length
 | [],last,_,h=>by simp;omega
 | x :: l,last,h,hl=>by
  rw[lF] at h
  split at h
  ·cases h
  ·rename_i hn
   have hr:=cw rl x.data.toList
   have:=lG l _ h hr.2
   simp only[uG]
   omega
theorem lW {gs:List Gd} (hS:aS gs=true) {g k:Nat} (hg:g<gs.length) (hk:k<(ac gs g).length):(aP gs g k).needs.length≤3∧∀ j (hj:j<(aP gs g k).needs.length),0≤(aP gs g k).needs[j].guard∧(aP gs g k).needs[j].guard≤(g:Int)-1∧(aP gs g k).needs[j].rungs.length≤8:=by
 have h:=gm (aX hS hg) hk
 unfold bd at h
 simp only[uz] at h
 have hup:=qR h.1.2
 have h3:=(bf hS).2
 have hj:∀ j (hj:j<(aP gs g k).needs.length),0≤(aP gs g k).needs[j].guard∧(aP gs g k).needs[j].guard≤(g:Int)-1∧(aP gs g k).needs[j].rungs.length≤8:=by
  intro j hj
  obtain⟨a1,a2,a3⟩:=hup j hj
  refine⟨by omega,a2,?_⟩
  unfold dl at a3
  simp only[uz,decide_eq_true_eq] at a3
  have hl:=(bD (aX hS (show (aP gs g k).needs[j].guard.toNat<gs.length by omega))).2
  have:=lG _ _ a3.2 (by omega)
  omega
 refine⟨?_,hj⟩
 rcases vf 3 (aP gs g k).needs.length with h4 | h4
 ·have:=hup 3 h4
  omega
 ·exact h4
theorem eo {gs:List Gd} (hS:aS gs=true):oo gs:=by
 refine⟨fun g k hg hk=>?_⟩
 obtain⟨h1,h2⟩:=lW hS hg hk
 have h3:=(bf hS).2
 refine⟨?_,fun n hn=>?_⟩
 ·show ((aP gs g k).needs.map (gS gs)).length≤_
  rw[vH];omega
 ·obtain⟨m,hm,rfl⟩:=ve.1 (show n∈(aP gs g k).needs.map (gS gs) from hn)
  obtain⟨j,hj,rfl⟩:=vU.1 hm
  obtain⟨a1,a2,a3⟩:=h2 j hj
  show (aP gs g k).needs[j].guard.toNat<3∧((aP gs g k).needs[j].rungs.map _).length≤1000000
  rw[vH]
  omega
theorem pS {w:World}{ops:Array Oper}{rest:List Oper}{o:Oper}{a:Act}{Q:Exit→Act→World→Prop} (hgd:o.guard=none) (s x:Operand) (ho:o.op=.call { callee:=.builtin .append,args:=#[s,x],argTypes:=#[115,115] })
  (n:Nat) (v:Value) (L:List (Nat×List Int×Value)) (hs:a.eval s=v) (hr:cz n w v L) (hl:L.length≤1000000) (hn:n≤w.heap.size) (b:Nat) (t:Nat×List Int×Value) (hx:a.eval x=.slice (some ⟨b,0,none⟩) 1 1) (hb0:w.cell? ⟨b,0,none⟩=some (.int .i64 t.1)) (hb1:w.cell? ⟨b,1,none⟩=some t.2.2) (h1c:t.2.2.oneCell'=true) (ht:aG n w t.2.2 t.2.1)
  (h:∀ v' w',cz n w' v' (L++[t])→w.grownBy w' v.ownBlock→(∃ g cap,v'=.slice (some ⟨g,0,none⟩) (L++[t]).length cap)→wpList Tryz.prog ops Q rest (a.put o.dst v') w'):wpList Tryz.prog ops Q (o :: rest) a w:=by
 obtain⟨i0,hi,hz0,hz1,hz2⟩:=info_parts tY
 refine wpList_append_lies w hgd s x 115 ho n 117 i0 (.agg #[.int .i64 0,.slice none 0 0]) 2 32 ug hi hz0 hz1 hz2 rfl (by decide) v L.length _ hs hr.row ⟨b,0,none⟩ 1 1 [.int .i64 t.1,t.2.2] hx rfl (fun j u hj=>?_) (fun u hu=>?_) (by decide) (by unfold maxLen;omega) (by omega) hn _ rfl (fun g cap w' h1 h2 h3 h4=>?_)
 ·match j,hj with
  | 0,hj=>simp at hj;subst hj;simpa[Addr.add] using hb0
  | 1,hj=>simp at hj;subst hj;simpa[Addr.add] using hb1
 ·simp at hu
  rcases hu with rfl | rfl
  ·rfl
  ·exact h1c
 ·have e:(L++[t]).length=L.length+1:=by simp
  rw[←e]
  refine h _ w' ⟨?_,?_⟩ h2 ⟨g,cap,rfl⟩
  ·rw[e,vN]
   exact h1
  ·have hk:∀ {v0:Value} {l:List Int},aG n w v0 l→aG n w' v0 l:=fun hi=>hi.same (fun k hk=>by
    obtain⟨_,hlt,_⟩:=ap hi hk
    exact h2.block k hlt (fun e=>dA hi hr.row (by decide) hk e.symm))
   intro u hu
   rcases uV.1 hu with hu | hu
   ·exact hk (hr.ints u hu)
   ·rw[wM.1 hu];exact hk ht
structure XSt (w5 w:World) (b13 ng:Nat) (xv v:Value) (l:List Int):Prop where
 lt:b13<w5.heap.size
 gb:w5.grownBy w (some b13)
 xb:w.heap[b13]?=some (.cells #[.int .i64 ng,xv] 117 (0,0))
 ir:aG w5.heap.size w v l
theorem XSt.cell {w5 w:World}{b13 ng:Nat}{xv v:Value}{l:List Int} (h:XSt w5 w b13 ng xv v l) {b:Nat} (hb:b<w5.heap.size) (hne:b≠b13) (j:Nat):w.cell? ⟨b,j,none⟩=w5.cell? ⟨b,j,none⟩:=by
 rw[World.cell?,World.cell?,h.gb.block b hb (fun e=>hne (Option.some.inj e))]
theorem XSt.below {w5 w w':World}{b13 ng:Nat}{xv v:Value}{l:List Int} (h:XSt w5 w b13 ng xv v l) (hb:Below w.heap.size w w'):XSt w5 w' b13 ng xv v l :=
 ⟨h.lt,⟨hb.os.trans h.gb.os,hb.tape.trans h.gb.tape,hb.output.trans h.gb.output,uB h.gb.size hb.size,fun k hk hne=>(hb.block k (uv hk h.gb.size)).trans (h.gb.block k hk hne)⟩,
  (hb.block b13 (uv h.lt h.gb.size)).trans h.xb,h.ir.same (fun k hk=>hb.block k (ap h.ir hk).2.1)⟩
theorem XSt.app {w5 w w':World}{b13 ng:Nat}{xv v v':Value}{l l':List Int} (h:XSt w5 w b13 ng xv v l) (hg:w.grownBy w' v.ownBlock) (hr:aG w5.heap.size w' v' l'):XSt w5 w' b13 ng xv v' l':=by
 have hk:∀ k,k<w5.heap.size→w'.heap[k]?=w.heap[k]?:=fun k hk=>hg.block k (uv hk h.gb.size) (fun e=>by have:=(ap h.ir e.symm).1;omega)
 exact⟨h.lt,⟨hg.os.trans h.gb.os,hg.tape.trans h.gb.tape,hg.output.trans h.gb.output,uB h.gb.size hg.size,fun k hk2 hne=>(hk k hk2).trans (h.gb.block k hk2 hne)⟩,(hk b13 h.lt).trans h.xb,hr⟩
theorem XSt.store {w5 w:World}{b13 ng:Nat}{xv v:Value}{l:List Int} (h:XSt w5 w b13 ng xv v l):XSt w5 (w.setCell ⟨b13,1,none⟩ v) b13 ng v v l:=by
 have hk:∀ k,k≠b13→(w.setCell ⟨b13,1,none⟩ v).heap[k]?=w.heap[k]?:=fun k hk=>Below.heap_setCell _ _ _ _ hk
 refine⟨h.lt,⟨h.gb.os,h.gb.tape,h.gb.output,by simpa[World.setCell] using h.gb.size,fun k hk2 hne=>(hk k (fun e=>hne (by rw[e]))).trans (h.gb.block k hk2 hne)⟩,?_,h.ir.same (fun k hk2=>hk k (fun e=>by have:=(ap h.ir hk2).1;have:=h.lt;omega))⟩
 rw[heap_setCell_same w b13 1 _ _ v h.xb];rfl
theorem XSt.fr {w5 w:World}{b13 ng:Nat}{xv v:Value}{l:List Int} (h:XSt w5 w b13 ng xv v l) (j:Nat):w.frozen? ⟨b13,j,none⟩=false:=by
 rw[World.frozen?,h.xb];simp
theorem aG.one {n:Nat}{w:World}{v:Value}{l:List Int} (h:aG n w v l):v.oneCell'=true:=by
 rcases h.2 with ⟨rfl,_⟩ | ⟨g,cap,cur,rfl,_⟩<;>rfl
theorem ft {o:Oper}{a:Act}{w:World}{K:Act→World→Prop}{Q:Exit→Act→World→Prop} (s x:Operand) (ho:o.op=.call { callee:=.builtin .append,args:=#[s,x],argTypes:=#[91,91] })
  (v:Value) (L:List (List Int×Value)) (hs:a.eval s=v) (hr:w.ownsRow 0 34 1 v L.length (L.map (·.2))) (hl:L.length≤1000000) (b:Nat) (t:List Int×Value) (hx:a.eval x=.slice (some ⟨b,0,none⟩) 1 1) (hb:w.cell? ⟨b,0,none⟩=some t.2) (h1c:t.2.oneCell'=true)
  (h:∀ v' w',w'.ownsRow 0 34 1 v' (L++[t]).length ((L++[t]).map (·.2))→w.grownBy w' v.ownBlock→(v'.ownBlock=v.ownBlock∨v'.ownBlock=some w.heap.size)→(∃ g cap,v'=.slice (some ⟨g,0,none⟩) (L++[t]).length cap)→K (a.put o.dst v') w'):o.wp Tryz.prog a w K Q:=by
 obtain⟨i0,hi,hz0,hz1,hz2⟩:=info_parts tX
 refine wp_append_lies w s x 91 ho 0 34 i0 (.slice none 0 0) 1 24 uf hi hz0 hz1 hz2 rfl (by decide) v L.length _ hs hr ⟨b,0,none⟩ 1 1 [t.2] hx rfl (fun j u hj=>?_) (fun u hu=>by simp at hu;subst hu;exact h1c) (by decide) (by unfold maxLen;omega) (by omega) (vi _) _ rfl (fun g cap w' h1 h2 h3 h4=>?_)
 ·match j,hj with
  | 0,hj=>simp at hj;subst hj;simpa[Addr.add] using hb
 ·have e:(L++[t]).length=L.length+1:=by simp
  rw[←e]
  refine h _ w' ?_ h2 (h3.imp (fun e=>e.symm) (fun e=>by rw[e];rfl)) ⟨g,cap,rfl⟩
  rw[e,uZ]
  exact h1
theorem aL.st1 {w0 w:World}{gs:List Gd}{p:Option Addr}{c mB mb:Nat}{cn cb vmn vmb v6 v7:Value}{Ln Lb:List (List Int×Value)}{l6 l7:List Int}{N s:Nat}{f:Nat×Nat→Option Value}{dom:Nat×Nat→Prop}{E:World→Prop} (h:aL w0 w gs p c mB mb cn cb vmn vmb v6 v7 Ln Lb l6 l7 N s f dom E) (v:Value) :
  aL w0 (w.setCell ⟨mB,1,none⟩ v) gs p c mB mb v cb vmn vmb v6 v7 Ln Lb l6 l7 N s f dom E :=
 h.setM (fun k hk=>Below.heap_setCell _ _ _ _ hk) (by simp[World.setCell]) (by rw[heap_setCell_same w mB 1 _ _ v h.blk];rfl) (h.bl.setCell (p:=⟨mB,1,none⟩) (h.lo _ (uU ..) mB rfl) _)
theorem aL.st2 {w0 w:World}{gs:List Gd}{p:Option Addr}{c mB mb:Nat}{cn cb vmn vmb v6 v7:Value}{Ln Lb:List (List Int×Value)}{l6 l7:List Int}{N s:Nat}{f:Nat×Nat→Option Value}{dom:Nat×Nat→Prop}{E:World→Prop} (h:aL w0 w gs p c mB mb cn cb vmn vmb v6 v7 Ln Lb l6 l7 N s f dom E) (v:Value) :
  aL w0 (w.setCell ⟨mB,2,none⟩ v) gs p c mB mb cn v vmn vmb v6 v7 Ln Lb l6 l7 N s f dom E :=
 h.setM (fun k hk=>Below.heap_setCell _ _ _ _ hk) (by simp[World.setCell]) (by rw[heap_setCell_same w mB 2 _ _ v h.blk];rfl) (h.bl.setCell (p:=⟨mB,2,none⟩) (h.lo _ (uU ..) mB rfl) _)
theorem aL.fr {w0 w:World}{gs:List Gd}{p:Option Addr}{c mB mb:Nat}{cn cb vmn vmb v6 v7:Value}{Ln Lb:List (List Int×Value)}{l6 l7:List Int}{N s:Nat}{f:Nat×Nat→Option Value}{dom:Nat×Nat→Prop}{E:World→Prop} (h:aL w0 w gs p c mB mb cn cb vmn vmb v6 v7 Ln Lb l6 l7 N s f dom E) (j:Nat):w.frozen? ⟨mB,j,none⟩=false:=by
 rw[World.frozen?,h.blk];simp
def sP (w:World) (m:Nat) (gs:List Gd) (p:Option Addr) (c:Nat) (vn vb:Value) (mb N s:Nat) (f:Nat×Nat→Option Value):Prop :=
 ∀ (b:Nat) (w':World),(b<w.heap.size→∃ cs r,w.heap[b]?=some (.cells cs 71 r))→w.heap.size≤w'.heap.size→(∀ k,k<w.heap.size→k≠b→w'.heap[k]?=w.heap[k]?)→aQ w' p gs→bZ w' m gs p c vn vb mb N s f
theorem aL.machZ {w0 w:World}{gs:List Gd}{p:Option Addr}{c mB mb:Nat}{vmn vmb v6 v7:Value}{Ln Lb:List (List Int×Value)}{l6 l7:List Int}{N s:Nat}{f:Nat×Nat→Option Value}{dom:Nat×Nat→Prop}{E:World→Prop}
  (h:aL w0 w gs p c mB mb vmn vmb vmn vmb v6 v7 Ln Lb l6 l7 N s f dom E) (hn:Ln.map (·.1)=(List.range gs.length).map (eK gs)) (hb:Lb.map (·.1)=(List.range gs.length).map (eI gs)) (hd:∀ g k,g<gs.length→k<(ac gs g).length→dom (g,k)) :
  sP w mB gs p c vmn vmb mb N s f:=by
 intro b w' hty hsz hsame hG
 have hfin:=h.fin.self
 have key:∀ (k:Nat) (o:Obj),w.heap[k]?=some o→(∀ cs r,o≠.cells cs 71 r)→w'.heap[k]?=w.heap[k]?:=fun k o ho hne=>by
  have hlt:=(uw.1 ho).1
  refine hsame k hlt (fun e=>?_)
  subst e
  obtain⟨cs,r,h2⟩:=hty hlt
  rw[ho] at h2
  exact hne cs r (Option.some.inj h2)
 have krow:∀ {n e size v m xs},w.ownsRow n e size v m xs→e≠71→∀ k,v.ownBlock=some k→w'.heap[k]?=w.heap[k]?:=fun hr he k hk=>by
  obtain⟨_,_,cur,h1⟩:=ap hr hk
  exact key k _ h1 (fun cs r e=>he (by cases e;rfl))
 have kint:∀ (v:Value) (l:List Int),aG 0 w v l→aG 0 w' v l:=fun v l hr=>hr.same (krow hr (by decide))
 have hblk:=(key mB _ h.blk (fun cs r e=>by cases e)).trans h.blk
 have cell:∀ j,w'.cell? ⟨mB,j,none⟩=#[Value.slice p gs.length c,vmn,vmb,.map (some mb)][j]?:=fun j=>by rw[World.cell?,hblk];rfl
 have ln:Ln.length=gs.length:=by have:=congrArg List.length hn;simpa using this
 have lb:Lb.length=gs.length:=by have:=congrArg List.length hb;simpa using this
 have gn:∀ i (hi:i<Ln.length),Ln[i].1=eK gs i:=fun i hi=>by
  have:=congrArg (fun l=>l[i]?) hn
  simp only[vQ,uu hi,vZ (by omega:i<gs.length),wI,Option.some.injEq] at this
  exact this
 have gb:∀ i (hi:i<Lb.length),Lb[i].1=eI gs i:=fun i hi=>by
  have:=congrArg (fun l=>l[i]?) hb
  simp only[vQ,uu hi,vZ (by omega:i<gs.length),wI,Option.some.injEq] at this
  exact this
 have q1:=ot.q ⟨bc h.rn (krow h.rn (by decide)),fun t ht=>kint _ _ (hfin.1 t ht)⟩ gn
 have q2:=ot.q ⟨bc h.rb (krow h.rb (by decide)),fun t ht=>kint _ _ (hfin.2.1 t ht)⟩ gb
 rw[ln] at q1
 rw[lb] at q2
 obtain⟨es,clock,hm⟩:=fz h.map
 exact⟨cell 0,cell 1,cell 2,cell 3,uv h.mB_lt hsz,hG,q1,q2,h.map.same (key mb _ hm (fun cs r e=>by cases e)),fun g k hg hk=>by
  obtain⟨v,L,a1,a2,a3⟩:=hfin.2.2.1 (g,k) (hd g k hg hk)
  have a2':cz 0 w' v L:=⟨bc a2.row (krow a2.row (by decide)),fun t ht=>kint _ _ (a2.ints t ht)⟩
  exact⟨v,a1,by rw[←a3];exact a2'.q⟩⟩
end Go.Proofs.YtlkniohhalnjjaaGreatDoor
