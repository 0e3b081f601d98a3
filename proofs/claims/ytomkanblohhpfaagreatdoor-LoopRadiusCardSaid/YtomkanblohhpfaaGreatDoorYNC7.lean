/- Lemmas of this claim. -/
import Derived.Laws.Cover3
import Derived.Test.YtomkanblohhpfaaGreatDoorYNC5
set_option linter.all false
set_option maxRecDepth 100000
set_option maxHeartbeats 8000000
namespace Go.Proofs.YtomkanblohhpfaaGreatDoor
open Go.RowKit Dg
def dx (l:List ByteArray):Except Int (List Rat) :=
 match dj l with
 | none=>.error 10
 | some zs=>match fI zs with
  | none=>.error 13
  | some qs=>.ok qs
def o9 (l:List ByteArray) (w:World) (e:Ending) (w':World):Prop :=
 ∃ v err,e=.returned (.tuple #[v,.int .i64 err])∧((∃ qs,dx l=.ok qs∧err=0∧IsL w' v qs)∨(dx l=.error err∧err≠0∧v=.slice none 0 0))∧Below w.heap.size w w'
theorem su (v:Value) (l:List ByteArray) (w:World) (hl:IsS w v l) (hlen:l.length<1000000000) (hG:Gw w) :
  Calls Tryz.prog 67 #[v] w (o9 l w):=by
 obtain⟨p,c,rfl,-⟩:=id hl.form
 have HA:=vL (qL _ l w hl hlen hG)
 go_enter Tryz.func67,Tryz.ntmps67
 go_wp2_with fail
 refine HA.out.mono ?_
 rintro e w1 ⟨v1,ok,rfl,hcase,hb1⟩
 rcases hcase with ⟨zs,hz,rfl,hp⟩ | ⟨hz,rfl,rfl⟩
 ·obtain⟨p1,c1,rfl,-⟩:=id hp.form
  have hzl:zs.length<1000000000:=by rw[dL hz];exact hlen
  have HB:=vL (ts _ zs w1 hp hzl)
  have HZ:=vL hz
  clear hz hp
  go_wp2_with fail
  refine HB.out.mono ?_
  rintro e w2 ⟨v2,ok,rfl,hcase,hb2⟩
  rcases hcase with ⟨qs,hq,rfl,hp⟩ | ⟨hq,rfl,rfl⟩
  ·obtain⟨p2,c2,rfl,-⟩:=id hp.form
   have HQ:=vL hq
   clear hq
   go_wp2
   refine bodyPost_ret (v:=.tuple #[.slice p2 qs.length c2,.int .i64 0]) (by simp[results,Tryz.results67,go_sem]) rfl ⟨_,_,rfl,Or.inl ⟨qs,by unfold dx;rw[HZ.out];simp only;rw[HQ.out],rfl,hp⟩,hb1.trans (hb2.mono hb1.size)⟩
  ·have HQ:=vL hq
   clear hq
   go_wp2
   refine bodyPost_ret (v:=.tuple #[.slice none 0 0,.int .i64 13]) (by simp[results,Tryz.results67,go_sem]) rfl ⟨_,_,rfl,Or.inr ⟨by unfold dx;rw[HZ.out];simp only;rw[HQ.out],by decide,rfl⟩,hb1.trans (hb2.mono hb1.size)⟩
 ·have HZ:=vL hz
  clear hz
  go_wp2
  refine bodyPost_ret (v:=.tuple #[.slice none 0 0,.int .i64 10]) (by simp[results,Tryz.results67,go_sem]) rfl ⟨_,_,rfl,Or.inr ⟨by unfold dx;rw[HZ.out],by decide,rfl⟩,hb1⟩
def m9 (s t:ByteArray):Int×Int:=match dx [s,t] with
 | .ok [x,y]=>(gQ x y,0)
 | .ok _=>(0,0)
 | .error e=>(0,e)
theorem nI {s t:ByteArray}{qs:List Rat} (h:dx [s,t]=.ok qs):∃ x y,qs=[x,y]:=by
 unfold dx at h
 cases ha:dj [s,t] with
 | none=>rw[ha] at h;cases h
 | some zs =>
  rw[ha] at h
  simp only at h
  have hl:=dL ha
  cases hr:fI zs with
  | none=>rw[hr] at h;cases h
  | some ys =>
   rw[hr] at h
   simp only[Except.ok.injEq] at h
   subst h
   unfold fI at hr
   split at hr
   ·cases hr
    match zs,hl with
    | [a,b],_=>exact⟨a.re,b.re,rfl⟩
   ·cases hr
theorem IsS.two (w:World) (s t:ByteArray):IsS (w.alloc (.cells #[.string s,.string t] 31)) (.slice (some ⟨w.heap.size,0,none⟩) 2 2) [s,t]:=by
 refine⟨some ⟨w.heap.size,0,none⟩,2,rfl,by simp,by simp[maxLen],fun _=>⟨w.heap.size,0,rfl,by rw[size_alloc];omega,?_⟩⟩
 intro i hi j u hu
 match i,hi with
 | 0,_ =>
  match j,hu with
  | 0,hu=>simp[cellsOf] at hu;subst hu;exact ap w _ _ 0 _ rfl
 | 1,_ =>
  match j,hu with
  | 0,hu=>simp[cellsOf] at hu;subst hu;exact ap w _ _ 1 _ rfl
theorem aa {w w':World}{B b:Nat} (h:Below B w w') (hb:b<B) {o:Nat}{v:Value} (hc:w.cell? ⟨b,o,none⟩=some v):w'.cell? ⟨b,o,none⟩=some v:=(h.cell (p:=⟨b,o,none⟩) hb).trans hc
theorem uX (s t:ByteArray) (w:World) (hG:Gw w) :
  Calls Tryz.prog 26 #[.string s,.string t] w fun e w'=>e=.returned (.tuple #[.int .i64 (m9 s t).1,.int .i64 (m9 s t).2])∧Below w.heap.size w w':=by
 have hl:=IsS.two w s t
 have m1:=ac w (.cells #[.string s,.string t] 31)
 have HA:=vL (su _ [s,t] _ hl (by simp) (hG.below m1))
 have M1:=vL m1
 clear hl m1
 go_enter Tryz.func26,Tryz.ntmps26
 go_wp2_with fail
 refine HA.out.mono ?_
 rintro e w1 ⟨v1,err,rfl,hcase,hb1⟩
 have MB:=vL (M1.out.trans (hb1.mono M1.out.size))
 rcases hcase with ⟨qs,hq,rfl,hp⟩ | ⟨hq,hne,rfl⟩
 ·obtain⟨x,y,rfl⟩:=nI hq
  have hc:m9 s t=(gQ x y,0):=by unfold m9;rw[hq]
  have HC:=vL hc
  obtain⟨p1,c1,rfl,-⟩:=id hp.form
  obtain⟨b,o,rfl,hbl,xm,xp,xl,xc,xq,xk,xd,hx,c0,c1',c2⟩:=hp.get (i:=0) (by simp)
  obtain⟨b',o',he,hbl',ym,yp,yl,yc,yq,yk,yd,hy,d0,d1,d2⟩:=hp.get (i:=1) (by simp)
  obtain⟨rfl,rfl⟩:b=b'∧o=o':=by simpa using he
  clear he hbl' hc hq hb1
  simp only[vN,vO,xF,wL,y8] at hx hy c0 c1' c2 d0 d1 d2
  go_upto_region 4 with fail
  have m4:Below w1.heap.size w1 w1.drew:=(Below.refl _ _).drew
  have hcmp:=vL (jl _ _ _ _ _ (hx.v.below m4) (hy.v.below m4) (cS x) (cS y) (hx.s.fewR hy.s (by decide)).f1 (hx.s.fewR hy.s (by decide)).f2 (hx.s.fewR hy.s (by decide)).f3 (hx.s.fewR hy.s (by decide)).f4)
  rw[kX] at hcmp
  refine ai (fun w'=>∃ x:ax w1.heap.size w1.drew,w'=x.w) (fun i=>i == 6) (by kernel_rfl) (by kernel_rfl) ⟨⟨_,Below.refl _ _⟩,rfl⟩ ?_
  have g0:=fun x:ax w1.heap.size w1.drew=>aa (m4.trans x.h) hbl c0
  have g1:=fun x:ax w1.heap.size w1.drew=>aa (m4.trans x.h) hbl c1'
  have g2:=fun x:ax w1.heap.size w1.drew=>aa (m4.trans x.h) hbl c2
  have g3:=fun x:ax w1.heap.size w1.drew=>aa (m4.trans x.h) hbl d0
  have g4:=fun x:ax w1.heap.size w1.drew=>aa (m4.trans x.h) hbl d1
  have g5:=fun x:ax w1.heap.size w1.drew=>aa (m4.trans x.h) hbl d2
  have M4:=vL (MB.out.trans (m4.mono MB.out.size))
  have hz:w1.heap.size≤w1.drew.heap.size:=m4.size
  clear c0 c1' c2 d0 d1 d2 hp hx hy m4
  generalize w1.drew=wd at *
  refine ae 6 0 _ _ _ (by kernel_rfl) ?_
  simp only[vU,vY,vT,vX]
  repeat (go_big_quiet_step (fail))
  refine wpQuiet_nil ?_
  refine af rfl rfl (fun K hK=>?_)
  go_simp
  refine hcmp.out.mono ?_
  rintro e w2 ⟨rfl,hb2⟩
  refine hK _ _ ⟨⟨_,(hb2).mono hz⟩,rfl⟩ ?_
  clear hK K
  try simp only[Act.put,vP,vO,vN,vM,vQ,vR]
  refine ae 2 7 _ _ _ (by kernel_rfl) ?_
  simp only[vU,vY,vT,vX]
  repeat (go_big_quiet_step (fail))
  refine wpQuiet_nil ?_
  refine av ?_
  go_wp2
  refine bodyPost_ret (v:=.tuple #[.int .i64 (gQ x y),.int .i64 0]) (by simp[results,Tryz.results26,go_sem]) rfl ⟨by rw[HC.out],M4.out.trans (hb2.mono M4.out.size)⟩
 ·have hc:m9 s t=(0,err):=by unfold m9;rw[hq]
  have HC:=vL hc
  have hd:(err != 0)=true:=by simpa using hne
  clear hc hq hne
  go_wp2
  refine bodyPost_ret (v:=.tuple #[.int .i64 0,.int .i64 err]) (by simp[results,Tryz.results26,go_sem]) rfl ⟨by rw[HC.out],MB.out⟩
def gh (s t:ByteArray):Int:=(m9 s t).1
theorem fV (s t:ByteArray) (w:World) (hG:Gw w) :
  Calls Tryz.prog 52 #[.string s,.string t] w fun e w'=>e=.returned (.int .i64 (gh s t))∧Below w.heap.size w w':=by
 unfold gh
 have HP:=vL (uX s t w hG)
 go_enter Tryz.func52,Tryz.ntmps52
 go_wp2_with fail
 refine HP.out.mono ?_
 rintro e w2 ⟨rfl,hb2⟩
 go_wp2
 go_ret
 exact⟨rfl,hb2⟩
def dD (s:ByteArray):Bool:=decide (0<gh s ⟨#[45,49]⟩)&&decide (gh s ⟨#[49]⟩<0)
theorem oA (s:ByteArray) (w:World) (hG:Gw w) :
  Calls Tryz.prog 106 #[.string s] w fun e w'=>e=.returned (.bool (dD s))∧Below w.heap.size w w':=by
 have HP:=vL (fV s ⟨#[45,49]⟩ w hG)
 have HP2:=vL (fun wx (h:Below w.heap.size w wx)=>fV s ⟨#[49]⟩ wx (hG.below h))
 obtain⟨a,ha⟩:∃ a,a=gh s ⟨#[45,49]⟩:=⟨_,rfl⟩
 obtain⟨b,hb⟩:∃ b,b=gh s ⟨#[49]⟩:=⟨_,rfl⟩
 unfold dD
 rw[←ha,←hb]
 rw[←ha] at HP
 rw[←hb] at HP2
 clear ha hb
 go_enter Tryz.func106,Tryz.ntmps106
 by_cases h:0<a
 ·have hd:decide (0<a)=true:=decide_eq_true h
  go_wp2_with fail
  refine HP.out.mono ?_
  rintro e w2 ⟨rfl,hb2⟩
  go_wp2_with fail
  refine (HP2.out w2 hb2).mono ?_
  rintro e w3 ⟨rfl,hb3⟩
  go_wp2
  go_ret
  exact⟨by simp[h],hb2.trans (hb3.mono hb2.size)⟩
 ·have hd:decide (0<a)=false:=decide_eq_false h
  go_wp2_with fail
  refine HP.out.mono ?_
  rintro e w2 ⟨rfl,hb2⟩
  go_wp2
  go_ret
  exact⟨by rw[hd];rfl,hb2⟩
def bC (w:World) (g cap:Nat) (l:List ByteArray):Prop:=w.ownsRow g 31 1 (.slice (some ⟨g,0,none⟩) l.length cap) l.length (l.map .string)
theorem bC.own {w:World}{g cap base:Nat}{l:List ByteArray} (h:bC w g cap l) (hb:base≤g):bB w base (.slice (some ⟨g,0,none⟩) l.length cap) l:=by
 obtain⟨h1,h2⟩:=h
 refine⟨h1,?_⟩
 rcases h2 with h2 | ⟨g',cap',cur,e,_,r⟩
 ·exact Or.inl h2
 ·have:g'=g:=by simp at e;exact e.1.symm
  subst this
  exact Or.inr ⟨g',cap',cur,e,hb,r⟩
theorem bC.lt {w:World}{g cap:Nat}{l:List ByteArray} (h:bC w g cap l):g<w.heap.size:=(World.ownsRow.lt h g rfl).2
theorem bC.isS {w:World}{g cap:Nat}{l:List ByteArray} (h:bC w g cap l):IsS w (.slice (some ⟨g,0,none⟩) l.length cap) l:=bB.isS (h.own (vS _))
theorem bC.cell {w:World}{g cap:Nat}{l:List ByteArray} (h:bC w g cap l) {j:Nat} (hj:j<l.length):w.cell? ⟨g,j,none⟩=some (.string l[j]):=by
 rw[World.ownsRow.cellAt h j (by omega)];simp[hj]
theorem bC.free {w:World}{g cap:Nat}{l:List ByteArray} (h:bC w g cap l) (j:Nat):w.frozen? ⟨g,j,none⟩=false:=World.ownsRow.frozenAt h j
theorem bC.set {w:World}{g cap:Nat}{l:List ByteArray} (h:bC w g cap l) (j:Nat) (t:ByteArray):bC (w.setCell ⟨g,j,none⟩ (.string t)) g cap (l.set j t):=by
 have:=(World.ownsRow.stored h j (.string t)).1
 unfold bC
 rw[List.map_set,xT];exact this
theorem bC.below {w w':World}{g cap:Nat}{l:List ByteArray} (h:bC w g cap l) (hb:Below w.heap.size w w'):bC w' g cap l:=eE h hb
theorem bC.past {w w':World}{g cap B:Nat}{l:List ByteArray} (h:bC w g cap l) (hb:Below B w w') (hg:g<B):bC w' g cap l:=by
 obtain⟨hlen,h⟩:=h
 refine⟨hlen,?_⟩
 rcases h with h | ⟨g',cap',cur,e,hg',hh,r⟩
 ·exact Or.inl h
 ·have:g'=g:=by simp at e;exact e.1.symm
  subst this
  exact Or.inr ⟨g',cap',cur,e,hg',by rw[hb.block g' hg];exact hh,r⟩
theorem bC.other {w:World}{g cap:Nat}{l:List ByteArray} (h:bC w g cap l) {g':Nat} (hne:g≠g') (j:Nat) (u:Value):bC (w.setCell ⟨g',j,none⟩ u) g cap l:=by
 obtain⟨hlen,h⟩:=h
 refine⟨hlen,?_⟩
 rcases h with h | ⟨g2,cap',cur,e,hg',hh,r⟩
 ·exact Or.inl h
 ·have:g2=g:=by simp at e;exact e.1.symm
  subst this
  exact Or.inr ⟨g2,cap',cur,e,hg',by rw[Below.heap_setCell _ _ _ _ hne];exact hh,r⟩
theorem IsS.other {w:World}{v:Value}{l:List ByteArray} (h:IsS w v l) {g:Nat} (hne:v.ownBlock≠some g) (j:Nat) (u:Value):IsS (w.setCell ⟨g,j,none⟩ u) v l:=by
 obtain⟨p,cap,rfl,h1,h2,h3⟩:=h
 refine⟨p,cap,rfl,h1,h2,fun hl=>?_⟩
 obtain⟨b,o,rfl,hlt,hc⟩:=h3 hl
 have hne':b≠g:=fun e=>hne (by rw[e];rfl)
 refine⟨b,o,rfl,by simpa[World.setCell] using hlt,fun i hi j' u' hu=>?_⟩
 rw[World.cell?_setCell_other _ _ _ _ (by intro e3;exact hne' (congrArg Addr.block e3).symm)]
 exact hc i hi j' u' hu
theorem bj {w:World}{ops:Array Oper}{rest:List Oper}{o:Oper}{a:Act}{Q:Exit→Act→World→Prop} (T:TypeId)
  (hT:Tryz.prog.underlying T=some (.slice 31)) (hgd:o.guard=none) (lo co:Operand) (hop:o.op=Op.makeSlice T lo co)
  (L C:Int) (n:Nat) (hl:a.eval lo=.int .i64 L) (hc:a.eval co=.int .i64 C) (hL:L=(n:Int)) (hC:C=(n:Int)) (hn:n≤1000000000000)
  (hK:∀ w',bC w' w.heap.size n (List.replicate n ⟨#[]⟩)→(∀ B w0,Below B w0 w→B≤w.heap.size→Below B w0 w')→w.heap.size<w'.heap.size →
   wpList Tryz.prog ops Q rest (a.put o.dst (.slice (some ⟨w.heap.size,0,none⟩) n n)) w') :
  wpList Tryz.prog ops Q (o :: rest) a w:=by
 obtain⟨i0,hi,hz0,hz1,hz2⟩:=info_parts rF
 refine wpList_make_full _ hgd lo co T hop w.heap.size 31 i0 (.string ⟨#[]⟩) 1 hT hi hz0 hz1 .i64 .i64 L C n hl hc hL hC (by rw[hz2];omega) (by unfold maxLen;omega) (vS _) ?_
 intro w' hown hg
 have hr:bC w' w.heap.size n (List.replicate n ⟨#[]⟩):=by
  unfold bC
  have e:(madeCells (Value.string ⟨#[]⟩).cells (n*1)).toList=(List.replicate n (⟨#[]⟩:ByteArray)).map .string:=by
   rw[xK];simp[Value.cells,toList_madeCells_one]
  rw[e] at hown
  rw[x7];exact hown
 refine hK w' hr (fun B w0 hb hB=>hb.grown hg hB (fun k h=>by cases h)) hr.lt
theorem qe (w:World) (base:Nat) (hb:base≤w.heap.size):bB (w.alloc (.cells #[] 31)) base (.slice (some ⟨w.heap.size,0,none⟩) 0 0) [] :=
 ⟨rfl,Or.inr ⟨w.heap.size,0,#[],rfl,hb,heap_alloc_new w _,vS _,by simp[maxLen],rfl,rfl⟩⟩
theorem cZ {w:World}{ops:Array Oper}{rest:List Oper}{o:Oper}{act:Act}{Q:Exit→Act→World→Prop} (T:TypeId)
  (hT:Tryz.prog.underlying T=some (.slice 31)) (hgd:o.guard=none) (s x:Operand)
  (ho:o.op=.call { callee:=.builtin .append,args:=#[s,x],argTypes:=#[T,T] })
  (base:Nat) (v:Value) (l m:List ByteArray) (b off c:Nat) (hs:act.eval s=v) (hown:bB w base v l)
  (hx:act.eval x=.slice (some ⟨b,off,none⟩) m.length c) (hm:IsS w (.slice (some ⟨b,off,none⟩) m.length c) m) (hlen:l.length+m.length<1000000000) (hbase:base≤w.heap.size)
  (h:∀ v' w',bB w' base v' (l++m)→(∀ B w0,Below B w0 w→B≤base→Below B w0 w')→wpList Tryz.prog ops Q rest (act.put o.dst v') w') :
  wpList Tryz.prog ops Q (o :: rest) act w:=by
 obtain⟨i0,hi,hz0,hz1,hz2⟩:=info_parts rF
 refine wpList_append_own _ hgd s x T ho base 31 i0 _ 1 16 hT hi hz0 hz1 hz2 rfl (by decide) v l.length (l.map .string) hs hown ⟨b,off,none⟩ m.length c (m.map .string) hx (by simp) ?_ ?_ ?_ ?_ hbase ?_
 ·intro j u hj
  have hj':j<m.length:=by simpa using (wU.1 hj).1
  obtain⟨b',o',e,hlt,hc⟩:=hm.get hj'
  obtain⟨rfl,rfl⟩:b=b'∧off=o':=by simpa using e
  have ha:(⟨b,off,none⟩:Addr).add j=⟨b,off+j,none⟩:=by
   unfold Addr.add
   split
   ·rename_i h0;subst h0;rfl
   ·rfl
  rw[ha,hc]
  simpa[hj'] using hj
 ·intro u hu
  obtain⟨t,-,rfl⟩:=List.mem_map.1 hu
  rfl
 ·unfold maxLen;omega
 ·omega
 ·intro v' w' hown' hg _
  refine h v' w' ?_ ?_
  ·unfold bB
   rw[wh,List.map_append];exact hown'
  ·intro B w0 hb hB
   have hbs:=World.ownsRow.lt hown
   exact hb.grown hg (by omega) fun k hk=>by have:=(hbs k hk).1;omega
theorem uN (a:Option Addr) (l c:Nat) (w:World):(binOp .eql 22 (.slice a l c) (.slice none 0 0)).run Tryz.prog w=.ok (.bool a.isNone) w:=by
 simp[binOp,run_equal_slice_nil (h:=Tryz.underlying22),Result.andThen]
theorem m8 (v:Value) (l:List ByteArray) (w:World) (hl:IsS w v l) (hpos:0<l.length) (hlen:l.length<100000000) :
  Calls Tryz.prog 105 #[v] w fun e w'=>∃ v',e=.returned v'∧bB w' w.heap.size v' l∧Below w.heap.size w w':=by
 obtain⟨p,c,rfl,hc1,hc2⟩:=id hl.form
 obtain⟨b,o,rfl,hlt,-⟩:=hl.get hpos
 go_enter Tryz.func105,Tryz.ntmps105
 have hb:=ac w (.cells #[] 31)
 have hE:=qe w w.heap.size (vS _)
 have hL2:=hl.below hb
 have EQ:=uN (some ⟨b,o,none⟩) l.length c
 simp only[Option.isNone_some] at EQ
 go_wp2_with (at_builtin;refine cZ 22 Tryz.underlying22 rfl (.tmp 5) (.tmp 6) rfl w.heap.size _ [] l b o c rfl hE rfl hL2 (by simp;omega) (by rw[size_alloc];omega) ?_)
 intro v' w' hw' hb'
 have hB:=hb' _ _ hb (vS _)
 try rw[wP] at hw'
 go_wp2
 go_ret
 exact⟨_,rfl,hw',hB⟩
end Go.Proofs.YtomkanblohhpfaaGreatDoor
