/- Lemmas of this claim. -/
import Derived.Laws.Cover3
import Derived.Test.YtbnkpcfjechfiaaGreatDoorYCoef
import Derived.Test.YtbnkpcfjechfiaaGreatDoorYVec2
set_option linter.all false
set_option maxRecDepth 100000
set_option maxHeartbeats 8000000
namespace Go.Proofs.YtbnkpcfjechfiaaGreatDoor
open Go.RowKit Dg
def fJ (l:List ByteArray):Except Int (List Rat) :=
 match fx l with
 | none=>.error 10
 | some zs=>match jD zs with
  | none=>.error 13
  | some qs=>.ok qs
def xK (l:List ByteArray) (w:World) (e:Ending) (w':World):Prop :=
 ∃ v err,e=.returned (.tuple #[v,.int .i64 err])∧((∃ qs,fJ l=.ok qs∧err=0∧IsL w' v qs)∨(fJ l=.error err∧err≠0∧v=.slice none 0 0))∧Below w.heap.size w w'
theorem BE (v:Value) (l:List ByteArray) (w:World) (hl:IsS w v l) (hlen:l.length<1000000000) (hG:Gw w) :
  Calls Tryz.prog 194 #[v] w (xK l w):=by
 obtain⟨p,c,rfl,-⟩:=id hl.form;have HA:=Fi (zY _ l w hl hlen hG);go_enter Tryz.func194,Tryz.ntmps194;go_wp2_with fail
 refine HA.out.mono ?_;rintro e w1 ⟨v1,ok,rfl,hcase,hb1⟩;rcases hcase with ⟨zs,hz,rfl,hp⟩ | ⟨hz,rfl,rfl⟩
 ·obtain⟨p1,c1,rfl,-⟩:=id hp.form;have hzl:zs.length<1000000000:=by rw[gl hz];exact hlen
  have HB:=Fi (CD _ zs w1 hp hzl);have HZ:=Fi hz;clear hz hp;go_wp2_with fail
  refine HB.out.mono ?_;rintro e w2 ⟨v2,ok,rfl,hcase,hb2⟩;rcases hcase with ⟨qs,hq,rfl,hp⟩ | ⟨hq,rfl,rfl⟩
  ·obtain⟨p2,c2,rfl,-⟩:=id hp.form;have HQ:=Fi hq;clear hq;go_wp2;refine bodyPost_ret (v:=.tuple #[.slice p2 qs.length c2,.int .i64 0]) (by simp[results,Tryz.results194,go_sem]) rfl ⟨_,_,rfl,Or.inl ⟨qs,by unfold fJ;rw[HZ.out];simp only;rw[HQ.out],rfl,hp⟩,hb1.trans (hb2.mono hb1.size)⟩
  ·have HQ:=Fi hq;clear hq;go_wp2;refine bodyPost_ret (v:=.tuple #[.slice none 0 0,.int .i64 13]) (by simp[results,Tryz.results194,go_sem]) rfl ⟨_,_,rfl,Or.inr ⟨by unfold fJ;rw[HZ.out];simp only;rw[HQ.out],by decide,rfl⟩,hb1.trans (hb2.mono hb1.size)⟩
 ·have HZ:=Fi hz;clear hz;go_wp2;refine bodyPost_ret (v:=.tuple #[.slice none 0 0,.int .i64 10]) (by simp[results,Tryz.results194,go_sem]) rfl ⟨_,_,rfl,Or.inr ⟨by unfold fJ;rw[HZ.out],by decide,rfl⟩,hb1⟩
def uC (s t:ByteArray):Int×Int:=match fJ [s,t] with
 | .ok [x,y]=>(kQ x y,0)
 | .ok _=>(0,0)
 | .error e=>(0,e)
theorem vy {s t:ByteArray}{qs:List Rat} (h:fJ [s,t]=.ok qs):∃ x y,qs=[x,y]:=by
 unfold fJ at h
 cases ha:fx [s,t] with
 | none=>rw[ha] at h;cases h
 | some zs =>
  rw[ha] at h
  simp only at h
  have hl:=gl ha
  cases hr:jD zs with
  | none=>rw[hr] at h;cases h
  | some ys =>
   rw[hr] at h
   simp only[Except.ok.injEq] at h
   subst h
   unfold jD at hr
   split at hr
   ·cases hr
    match zs,hl with
    | [a,b],_=>exact⟨a.re,b.re,rfl⟩
   ·cases hr
theorem IsS.two (w:World) (s t:ByteArray):IsS (w.alloc (.cells #[.string s,.string t] 34)) (.slice (some ⟨w.heap.size,0,none⟩) 2 2) [s,t]:=by
 refine⟨some ⟨w.heap.size,0,none⟩,2,rfl,by simp,by simp[maxLen],fun _=>⟨w.heap.size,0,rfl,by rw[size_alloc];omega,?_⟩⟩
 intro i hi j u hu
 match i,hi with
 | 0,_ =>
  match j,hu with
  | 0,hu=>simp[cellsOf] at hu;subst hu;exact aE w _ _ 0 _ rfl
 | 1,_ =>
  match j,hu with
  | 0,hu=>simp[cellsOf] at hu;subst hu;exact aE w _ _ 1 _ rfl
theorem ag {w w':World}{B b:Nat} (h:Below B w w') (hb:b<B) {o:Nat}{v:Value} (hc:w.cell? ⟨b,o,none⟩=some v):w'.cell? ⟨b,o,none⟩=some v:=(h.cell (p:=⟨b,o,none⟩) hb).trans hc
theorem Ep (s t:ByteArray) (w:World) (hG:Gw w) :
  Calls Tryz.prog 151 #[.string s,.string t] w fun e w'=>e=.returned (.tuple #[.int .i64 (uC s t).1,.int .i64 (uC s t).2])∧Below w.heap.size w w':=by
 have hl:=IsS.two w s t;have m1:=aq w (.cells #[.string s,.string t] 34);have HA:=Fi (BE _ [s,t] _ hl (by simp) (hG.below m1));have M1:=Fi m1;clear hl m1;go_enter Tryz.func151,Tryz.ntmps151;go_wp2_with fail
 refine HA.out.mono ?_;rintro e w1 ⟨v1,err,rfl,hcase,hb1⟩;have MB:=Fi (M1.out.trans (hb1.mono M1.out.size));rcases hcase with ⟨qs,hq,rfl,hp⟩ | ⟨hq,hne,rfl⟩
 ·obtain⟨x,y,rfl⟩:=vy hq;have hc:uC s t=(kQ x y,0):=by unfold uC;rw[hq]
  have HC:=Fi hc;obtain⟨p1,c1,rfl,-⟩:=id hp.form;obtain⟨b,o,rfl,hbl,xm,xp,xl,xc,xq,xk,xd,hx,c0,c1',c2⟩:=hp.get (i:=0) (by simp);obtain⟨b',o',he,hbl',ym,yp,yl,yc,yq,yk,yd,hy,d0,d1,d2⟩:=hp.get (i:=1) (by simp);obtain⟨rfl,rfl⟩:b=b'∧o=o':=by simpa using he
  clear he hbl' hc hq hb1;simp only[Fk,Fl,GF,F8,G2] at hx hy c0 c1' c2 d0 d1 d2;go_upto_region 4 with fail
  have m4:Below w1.heap.size w1 w1.drew:=(Below.refl _ _).drew;have hcmp:=Fi (nH _ _ _ _ _ (hx.v.below m4) (hy.v.below m4) (dF x) (dF y) (hx.s.fewR hy.s (by decide)).f1 (hx.s.fewR hy.s (by decide)).f2 (hx.s.fewR hy.s (by decide)).f3 (hx.s.fewR hy.s (by decide)).f4);rw[qQ] at hcmp;refine aw (fun w'=>∃ x:aK w1.heap.size w1.drew,w'=x.w) (fun i=>i == 6) (by kernel_rfl) (by kernel_rfl) ⟨⟨_,Below.refl _ _⟩,rfl⟩ ?_;have g0:=fun x:aK w1.heap.size w1.drew=>ag (m4.trans x.h) hbl c0;have g1:=fun x:aK w1.heap.size w1.drew=>ag (m4.trans x.h) hbl c1';have g2:=fun x:aK w1.heap.size w1.drew=>ag (m4.trans x.h) hbl c2;have g3:=fun x:aK w1.heap.size w1.drew=>ag (m4.trans x.h) hbl d0;have g4:=fun x:aK w1.heap.size w1.drew=>ag (m4.trans x.h) hbl d1;have g5:=fun x:aK w1.heap.size w1.drew=>ag (m4.trans x.h) hbl d2;have M4:=Fi (MB.out.trans (m4.mono MB.out.size));have hz:w1.heap.size≤w1.drew.heap.size:=m4.size;clear c0 c1' c2 d0 d1 d2 hp hx hy m4;generalize w1.drew=wd at *
  refine ak 6 0 _ _ _ (by kernel_rfl) ?_;simp only[Fr,Fv,Fs,Fu];repeat (go_big_quiet_step (fail))
  refine wpQuiet_nil ?_;refine ap rfl rfl (fun K hK=>?_);go_simp;refine hcmp.out.mono ?_;rintro e w2 ⟨rfl,hb2⟩;refine hK _ _ ⟨⟨_,hb2.mono hz⟩,rfl⟩ ?_;clear hK K;try simp only[Act.put,Fm,Fl,Fk,Fj,Fo,Fp]
  refine ak 2 7 _ _ _ (by kernel_rfl) ?_;simp only[Fr,Fv,Fs,Fu];repeat (go_big_quiet_step (fail))
  refine wpQuiet_nil ?_;refine aD ?_;go_wp2;refine bodyPost_ret (v:=.tuple #[.int .i64 (kQ x y),.int .i64 0]) (by simp[results,Tryz.results151,go_sem]) rfl ⟨by rw[HC.out],M4.out.trans (hb2.mono M4.out.size)⟩
 ·have hc:uC s t=(0,err):=by unfold uC;rw[hq]
  have HC:=Fi hc;have hd:(err != 0)=true:=by simpa using hne
  clear hc hq hne;go_wp2;refine bodyPost_ret (v:=.tuple #[.int .i64 0,.int .i64 err]) (by simp[results,Tryz.results151,go_sem]) rfl ⟨by rw[HC.out],MB.out⟩
def mL (s t:ByteArray):Int:=(uC s t).1
theorem m9 (s t:ByteArray) (w:World) (hG:Gw w) :
  Calls Tryz.prog 103 #[.string s,.string t] w fun e w'=>e=.returned (.int .i64 (mL s t))∧Below w.heap.size w w':=by
 unfold mL;have HP:=Fi (Ep s t w hG);go_enter Tryz.func103,Tryz.ntmps103;go_wp2_with fail
 refine HP.out.mono ?_;rintro e w2 ⟨rfl,hb2⟩;go_wp2;go_ret;exact⟨rfl,hb2⟩
def fS (s:ByteArray):Bool:=decide (0<mL s ⟨#[45,49]⟩)&&decide (mL s ⟨#[49]⟩<0)
theorem wI (s:ByteArray) (w:World) (hG:Gw w) :
  Calls Tryz.prog 89 #[.string s] w fun e w'=>e=.returned (.bool (fS s))∧Below w.heap.size w w':=by
 have HP:=Fi (m9 s ⟨#[45,49]⟩ w hG);have HP2:=Fi (fun wx (h:Below w.heap.size w wx)=>m9 s ⟨#[49]⟩ wx (hG.below h));obtain⟨a,ha⟩:∃ a,a=mL s ⟨#[45,49]⟩:=⟨_,rfl⟩;obtain⟨b,hb⟩:∃ b,b=mL s ⟨#[49]⟩:=⟨_,rfl⟩;unfold fS;rw[←ha,←hb];rw[←ha] at HP;rw[←hb] at HP2;clear ha hb;go_enter Tryz.func89,Tryz.ntmps89;by_cases h:0<a
 ·have hd:decide (0<a)=true:=decide_eq_true h;go_wp2_with fail
  refine HP.out.mono ?_;rintro e w2 ⟨rfl,hb2⟩;go_wp2_with fail
  refine (HP2.out w2 hb2).mono ?_;rintro e w3 ⟨rfl,hb3⟩;go_wp2;go_ret;exact⟨by simp[h],hb2.trans (hb3.mono hb2.size)⟩
 ·have hd:decide (0<a)=false:=decide_eq_false h;go_wp2_with fail
  refine HP.out.mono ?_;rintro e w2 ⟨rfl,hb2⟩;go_wp2;go_ret;exact⟨by rw[hd];rfl,hb2⟩
def cR (w:World) (g cap:Nat) (l:List ByteArray):Prop:=w.ownsRow g 34 1 (.slice (some ⟨g,0,none⟩) l.length cap) l.length (l.map .string)
theorem cR.own {w:World}{g cap base:Nat}{l:List ByteArray} (h:cR w g cap l) (hb:base≤g):bW w base (.slice (some ⟨g,0,none⟩) l.length cap) l:=by
 obtain⟨h1,h2⟩:=h;refine⟨h1,?_⟩;rcases h2 with h2 | ⟨g',cap',cur,e,_,r⟩
 ·exact Or.inl h2
 ·have:g'=g:=by simp at e;exact e.1.symm
  subst this;exact Or.inr ⟨g',cap',cur,e,hb,r⟩
theorem cR.lt {w:World}{g cap:Nat}{l:List ByteArray} (h:cR w g cap l):g<w.heap.size:=(World.ownsRow.lt h g rfl).2
theorem cR.isS {w:World}{g cap:Nat}{l:List ByteArray} (h:cR w g cap l):IsS w (.slice (some ⟨g,0,none⟩) l.length cap) l:=bW.isS (h.own (Fq _))
theorem cR.cell {w:World}{g cap:Nat}{l:List ByteArray} (h:cR w g cap l) {j:Nat} (hj:j<l.length):w.cell? ⟨g,j,none⟩=some (.string l[j]):=by
 rw[World.ownsRow.cellAt h j (by omega)];simp[hj]
theorem cR.free {w:World}{g cap:Nat}{l:List ByteArray} (h:cR w g cap l) (j:Nat):w.frozen? ⟨g,j,none⟩=false:=World.ownsRow.frozenAt h j
theorem cR.set {w:World}{g cap:Nat}{l:List ByteArray} (h:cR w g cap l) (j:Nat) (t:ByteArray):cR (w.setCell ⟨g,j,none⟩ (.string t)) g cap (l.set j t):=by
 have:=(World.ownsRow.stored h j (.string t)).1;unfold cR;rw[Ir,GA];exact this
theorem cR.below {w w':World}{g cap:Nat}{l:List ByteArray} (h:cR w g cap l) (hb:Below w.heap.size w w'):cR w' g cap l:=fc h hb
theorem cR.past {w w':World}{g cap B:Nat}{l:List ByteArray} (h:cR w g cap l) (hb:Below B w w') (hg:g<B):cR w' g cap l:=by
 obtain⟨hlen,h⟩:=h;refine⟨hlen,?_⟩;rcases h with h | ⟨g',cap',cur,e,hg',hh,r⟩
 ·exact Or.inl h
 ·have:g'=g:=by simp at e;exact e.1.symm
  subst this;exact Or.inr ⟨g',cap',cur,e,hg',by rw[hb.block g' hg];exact hh,r⟩
theorem cR.other {w:World}{g cap:Nat}{l:List ByteArray} (h:cR w g cap l) {g':Nat} (hne:g≠g') (j:Nat) (u:Value):cR (w.setCell ⟨g',j,none⟩ u) g cap l:=by
 obtain⟨hlen,h⟩:=h;refine⟨hlen,?_⟩;rcases h with h | ⟨g2,cap',cur,e,hg',hh,r⟩
 ·exact Or.inl h
 ·have:g2=g:=by simp at e;exact e.1.symm
  subst this;exact Or.inr ⟨g2,cap',cur,e,hg',by rw[Below.heap_setCell _ _ _ _ hne];exact hh,r⟩
theorem IsS.other {w:World}{v:Value}{l:List ByteArray} (h:IsS w v l) {g:Nat} (hne:v.ownBlock≠some g) (j:Nat) (u:Value):IsS (w.setCell ⟨g,j,none⟩ u) v l:=by
 obtain⟨p,cap,rfl,h1,h2,h3⟩:=h;refine⟨p,cap,rfl,h1,h2,fun hl=>?_⟩;obtain⟨b,o,rfl,hlt,hc⟩:=h3 hl;have hne':b≠g:=fun e=>hne (by rw[e];rfl);refine⟨b,o,rfl,by simpa[World.setCell] using hlt,fun i hi j' u' hu=>?_⟩;rw[World.cell?_setCell_other _ _ _ _ (by intro e3;exact hne' (congrArg Addr.block e3).symm)];exact hc i hi j' u' hu
theorem cD {w:World}{ops:Array Oper}{rest:List Oper}{o:Oper}{a:Act}{Q:Exit→Act→World→Prop} (T:TypeId)
  (hT:Tryz.prog.underlying T=some (.slice 34)) (hgd:o.guard=none) (lo co:Operand) (hop:o.op=Op.makeSlice T lo co)
  (L C:Int) (n:Nat) (hl:a.eval lo=.int .i64 L) (hc:a.eval co=.int .i64 C) (hL:L=(n:Int)) (hC:C=(n:Int)) (hn:n≤1000000000000)
  (hK:∀ w',cR w' w.heap.size n (List.replicate n ⟨#[]⟩)→(∀ B w0,Below B w0 w→B≤w.heap.size→Below B w0 w')→w.heap.size<w'.heap.size →
   wpList Tryz.prog ops Q rest (a.put o.dst (.slice (some ⟨w.heap.size,0,none⟩) n n)) w') :
  wpList Tryz.prog ops Q (o :: rest) a w:=by
 obtain⟨i0,hi,hz0,hz1,hz2⟩:=info_parts AK;refine wpList_make_full _ hgd lo co T hop w.heap.size 34 i0 (.string ⟨#[]⟩) 1 hT hi hz0 hz1 .i64 .i64 L C n hl hc hL hC (by rw[hz2];omega) (by unfold maxLen;omega) (Fq _) ?_;intro w' hown hg
 have hr:cR w' w.heap.size n (List.replicate n ⟨#[]⟩):=by
  unfold cR
  have e:(madeCells (Value.string ⟨#[]⟩).cells (n*1)).toList=(List.replicate n (⟨#[]⟩:ByteArray)).map .string:=by
   rw[G1];simp[Value.cells,toList_madeCells_one]
  rw[e] at hown;rw[Gp];exact hown
 refine hK w' hr (fun B w0 hb hB=>hb.grown hg hB (fun k h=>by cases h)) hr.lt
theorem yX (w:World) (base:Nat) (hb:base≤w.heap.size):bW (w.alloc (.cells #[] 34)) base (.slice (some ⟨w.heap.size,0,none⟩) 0 0) [] :=
 ⟨rfl,Or.inr ⟨w.heap.size,0,#[],rfl,hb,heap_alloc_new w _,Fq _,by simp[maxLen],rfl,rfl⟩⟩
theorem fi {w:World}{ops:Array Oper}{rest:List Oper}{o:Oper}{act:Act}{Q:Exit→Act→World→Prop} (T:TypeId)
  (hT:Tryz.prog.underlying T=some (.slice 34)) (hgd:o.guard=none) (s x:Operand)
  (ho:o.op=.call { callee:=.builtin .append,args:=#[s,x],argTypes:=#[T,T] })
  (base:Nat) (v:Value) (l m:List ByteArray) (b off c:Nat) (hs:act.eval s=v) (hown:bW w base v l)
  (hx:act.eval x=.slice (some ⟨b,off,none⟩) m.length c) (hm:IsS w (.slice (some ⟨b,off,none⟩) m.length c) m) (hlen:l.length+m.length<1000000000) (hbase:base≤w.heap.size)
  (h:∀ v' w',bW w' base v' (l++m)→(∀ B w0,Below B w0 w→B≤base→Below B w0 w')→wpList Tryz.prog ops Q rest (act.put o.dst v') w') :
  wpList Tryz.prog ops Q (o :: rest) act w:=by
 obtain⟨i0,hi,hz0,hz1,hz2⟩:=info_parts AK;refine wpList_append_own _ hgd s x T ho base 34 i0 _ 1 16 hT hi hz0 hz1 hz2 rfl (by decide) v l.length (l.map .string) hs hown ⟨b,off,none⟩ m.length c (m.map .string) hx (by simp) ?_ ?_ ?_ ?_ hbase ?_
 ·intro j u hj;have hj':j<m.length:=by simpa using (Gi.1 hj).1
  obtain⟨b',o',e,hlt,hc⟩:=hm.get hj';obtain⟨rfl,rfl⟩:b=b'∧off=o':=by simpa using e
  have ha:(⟨b,off,none⟩:Addr).add j=⟨b,off+j,none⟩:=by
   unfold Addr.add
   split
   ·rename_i h0;subst h0;rfl
   ·rfl
  rw[ha,hc];simpa[hj'] using hj
 ·intro u hu;obtain⟨t,-,rfl⟩:=IP.1 hu;rfl
 ·unfold maxLen;omega
 ·omega
 ·intro v' w' hown' hg _;refine h v' w' ?_ ?_
  ·unfold bW;rw[FA,List.map_append];exact hown'
  ·intro B w0 hb hB;have hbs:=World.ownsRow.lt hown;exact hb.grown hg (by omega) fun k hk=>by have:=(hbs k hk).1;omega
theorem Ec (a:Option Addr) (l c:Nat) (w:World):(binOp .eql 22 (.slice a l c) (.slice none 0 0)).run Tryz.prog w=.ok (.bool a.isNone) w:=by
 simp[binOp,run_equal_slice_nil (h:=Tryz.underlying22),Result.andThen]
theorem uB (v:Value) (l:List ByteArray) (w:World) (hl:IsS w v l) (hpos:0<l.length) (hlen:l.length<100000000) :
  Calls Tryz.prog 88 #[v] w fun e w'=>∃ v',e=.returned v'∧bW w' w.heap.size v' l∧Below w.heap.size w w':=by
 obtain⟨p,c,rfl,hc1,hc2⟩:=id hl.form;obtain⟨b,o,rfl,hlt,-⟩:=hl.get hpos;go_enter Tryz.func88,Tryz.ntmps88;have hb:=aq w (.cells #[] 34);have hE:=yX w w.heap.size (Fq _);have hL2:=hl.below hb;have EQ:=Ec (some ⟨b,o,none⟩) l.length c;simp only[Option.isNone_some] at EQ;go_wp2_with (at_builtin;refine fi 22 Tryz.underlying22 rfl (.tmp 5) (.tmp 6) rfl w.heap.size _ [] l b o c rfl hE rfl hL2 (by simp;omega) (by rw[size_alloc];omega) ?_)
 intro v' w' hw' hb';have hB:=hb' _ _ hb (Fq _);try rw[F6] at hw'
 go_wp2;go_ret;exact⟨_,rfl,hw',hB⟩
def aF (l:List ByteArray) (i:Nat):ByteArray:=l.getD i ⟨#[]⟩
theorem ek {l:List ByteArray}{i:Nat} (h:i<l.length):l[i]=aF l i:=by simp[aF,h]
def bK (L:List ByteArray) (i:Nat):List ByteArray:=L.take i++List.replicate (L.length-i) ⟨#[]⟩
theorem ie (L:List ByteArray) {i:Nat} (h:i≤L.length):(bK L i).length=L.length:=by simp[bK];omega
theorem ig (L:List ByteArray) {i:Nat} (h:i<L.length):(bK L i).set i L[i]=bK L (i+1):=by
 have e:L.length-i=(L.length-(i+1))+1:=by omega
 have hl:(L.take i).length=i:=by simp;omega
 unfold bK;rw[e,GK,Hv i _ (by omega),hl,Hd,Fo,←FD h,F7];rfl
theorem gw (L:List ByteArray):bK L 0=List.replicate L.length ⟨#[]⟩:=by simp[bK]
theorem gr (L:List ByteArray):bK L L.length=L:=by simp[bK]
def n_ (p:List ByteArray) (j:Nat) (k:ByteArray):List ByteArray:=(List.range j).map fun i=>df (jG (aF p i) (dD k (aF p (j-i)))) (jG ⟨#[49]⟩ (dD k k))
theorem yR (p:List ByteArray) (j:Nat) (k:ByteArray):(n_ p j k).length=j:=by simp[n_]
def lS:Nat→List ByteArray→List ByteArray→Option (List ByteArray)
 | 0,_,pf=>some pf
 | j+1,p,pf=>if fS (aF p (j+1))=true then lS j (n_ p (j+1) (aF p (j+1))) (pf.set j (aF p (j+1))) else none
def b_ (l:List ByteArray):Option (List ByteArray):=lS (l.length-1) l (List.replicate (l.length-1) ⟨#[]⟩)
structure Two (w:World) (v:Value) (p:List ByteArray) (g n:Nat) (pf:List ByteArray):Prop where
 p:IsS w v p
 row:cR w g n pf
 ne:v.ownBlock≠some g
def xJ (l:List ByteArray) (w:World) (e:Ending) (w':World):Prop :=
 ∃ v ok,e=.returned (.tuple #[v,.bool ok])∧((∃ pf,b_ l=some pf∧ok=true∧IsS w' v pf∧pf.length=l.length-1)∨(b_ l=none∧ok=false∧v=.slice none 0 0))∧Below w.heap.size w w'
theorem Bp (v:Value) (l:List ByteArray) (w:World) (hl:IsS w v l) (hpos:0<l.length) (hlen:l.length<1000000) (hG:Gw w) :
  Calls Tryz.prog 39 #[v] w (xJ l w):=by
 obtain⟨p0,c0,rfl,hcl,hcm⟩:=id hl.form;have HC:=Fi (uB _ l w hl hpos (by omega));go_enter Tryz.func39,Tryz.ntmps39;go_wp2_with fail
 refine HC.out.mono ?_;rintro e w1 ⟨v1,rfl,hv1,hb1⟩;obtain⟨p1,c1,rfl,-⟩:=id hv1.isS.form;obtain⟨n,hn⟩:∃ n,l.length=n+1:=⟨l.length-1,by omega⟩;have hG1:=hG.below hb1;clear hl HC;go_wp2_with (at_make;refine cD 22 Tryz.underlying22 rfl (.tmp 15) (.tmp 15) rfl _ _ n rfl rfl (by go_num) (by go_num) (by omega) ?_)
 intro w2 hrow hbm hs;have hb2:=hbm _ _ hb1 hb1.size;have hb12:=hbm _ _ (Below.refl _ _) (Fq _)
 have hne:Value.ownBlock (.slice p1 (n+1) c1)≠some w1.heap.size:=fun e=>by
  have:=(World.ownsRow.lt hv1 _ (by rw[hn];exact e)).2;omega
 have hT:Two w2 (.slice p1 (n+1) c1) l w1.heap.size n (List.replicate n ⟨#[]⟩):=⟨by rw[←hn];exact hv1.isS.below hb12,hrow,hne⟩;have hg0:=hb1.size;have HR:=Fi (show lS n l (List.replicate n ⟨#[]⟩)=b_ l by unfold b_;rw[hn];rfl);have HN:=Fi hn;have hnb:n<1000000:=by omega
 obtain⟨g0,hge⟩:∃ g,g=w1.heap.size:=⟨_,rfl⟩;rw[←hge] at hT hg0 ⊢;have hG2:=hG1.below hb12;clear hrow hbm hs hv1 hne hb1 hb12 hge hG1;go_wp2;go_loopw [4,6] (fun s4 s6 wr=>∃ (j:Nat) (p pf:List ByteArray),s6=.int .i64 j∧j≤n∧p.length=j+1∧Two wr s4 p g0 n pf∧pf.length=n∧Below w.heap.size w wr∧Hid (lS j p pf=b_ l)) (fun _ s6 _=>(intOf s6).toNat)
 case atStart=>exact⟨n,l,_,by go_num,Fq _,HN.out,hT,by simp,hb2,HR.out⟩
 case round =>
  clear hT hb2 HR hG2 hn hpos hlen;obtain⟨j,p,pf,rfl,hjn,hpl,hT,hpfl,hbr,hR⟩:=hrel;have hGr:=hG.below hbr;by_cases hj:0<j
  ·obtain⟨pp,cp,rfl,-⟩:=id hT.p.form;obtain⟨b,o,rfl,hbl,hcell⟩:=hT.p.get (i:=j) (by omega);obtain⟨k,hk⟩:∃ k,k=p[j]'(by omega):=⟨_,rfl⟩;rw[←hk] at hcell;rw[ek] at hk;have HPL:=Fi hpl;obtain⟨m,rfl⟩:∃ m,j=m+1:=⟨j-1,by omega⟩;have HI:=Fi (wI k wr hGr);have HK:=Fi hk;have hdj:decide ((0:Int)<((m+1:Nat):Int))=true:=by simp
   have hR':b_ l=if fS k=true then lS m (n_ p (m+1) k) (pf.set m k) else none:=by rw[←hR.out,hk];rfl
   have HR:=Fi hR';clear hR hR' hk;rw[hpl] at hT ⊢;by_cases hin:fS k=true
   ·rw[hin] at HI;have HR2:=Fi (show lS m (n_ p (m+1) k) (pf.set m k)=b_ l by rw[HR.out,if_pos hin]);clear hin HR hpl;go_wp2_with fail
    refine HI.out.mono ?_;rintro e w3 ⟨rfl,hb3⟩;have hml:m<pf.length:=by omega
    have r0:=hT.row.below hb3;have rc:=r0.cell hml;have rf:=r0.free m;have hT4:Two (w3.setCell ⟨g0,m,none⟩ (.string k)) (.slice (some ⟨b,o,none⟩) (m+1+1) cp) p g0 n (pf.set m k):=⟨(hT.p.below hb3).other hT.ne m _,r0.set m k,hT.ne⟩;have hB4:Below w.heap.size w (w3.setCell ⟨g0,m,none⟩ (.string k)):=(hbr.trans (hb3.mono hbr.size)).setCell (p:=⟨g0,m,none⟩) hg0 _;have hG4:=hG.below hB4;go_upto_region 10 with fail
    generalize w3.setCell ⟨g0,m,none⟩ (.string k)=w4 at *
    have HB4:=Fi hB4;have HT4:=Fi hT4;have HG4:=Fi hG4;clear hT hT4 r0 rc rf hb3 hbr hGr HI hcell hbl hB4 hG4;go_wp2_with fail
    refine (eM k k w4 HG4.out).mono ?_;rintro e w5 ⟨rfl,hb5⟩;go_wp2_with fail
    refine (le _ _ w5 (HG4.out.below hb5)).mono ?_;rintro e w6 ⟨rfl,hb6⟩;have hb6':=hb5.trans (hb6.mono hb5.size);obtain⟨sc,hsc⟩:∃ t,t=jG ⟨#[49]⟩ (dD k k):=⟨_,rfl⟩;rw[←hsc];have HSC:=Fi hsc;clear hsc hb5 hb6;go_wp2_with (at_make;refine cD 22 Tryz.underlying22 rfl (.tmp 40) (.tmp 40) rfl _ _ (m+1) rfl rfl (by go_num) (by go_num) (by omega) ?_)
    intro w7 hrow7 hb7 hs7;have hb67:=hb7 _ _ (Below.refl _ _) (Fq _);have hb47:=hb7 _ _ hb6' hb6'.size;obtain⟨L,hL⟩:∃ L,L=n_ p (m+1) k:=⟨_,rfl⟩;have hLl:L.length=m+1:=by rw[hL,yR]
    have hr7:cR w7 w6.heap.size (m+1) (bK L 0):=by rw[gw,hLl];exact hrow7
    have hle:=hb6'.size;obtain⟨g1,hg1⟩:∃ g,g=w6.heap.size:=⟨_,rfl⟩;rw[←hg1] at hr7 hb67 hle ⊢;obtain⟨b',o',e,hbl,hc0⟩:=HT4.out.p.get (i:=0) (by rw[HPL.out];omega);obtain⟨rfl,rfl⟩:b=b'∧o=o':=by simpa using e
    have hcells:∀ i,i<m+2→w4.cell? ⟨b,o+i,none⟩=some (.string (aF p i)):=fun i hi=>by
     obtain⟨b',o',e,-,hc⟩:=HT4.out.p.get (i:=i) (by rw[HPL.out];omega);obtain⟨rfl,rfl⟩:b=b'∧o=o':=by simpa using e
     rw[hc,ek]
    have HCS:=Fi hcells;have hg04:=HT4.out.row.lt;have HB47:=Fi hb47;have HL:=Fi hL;have hml2:m+1<1000000:=by omega
    have hbm:Below g1 w7 w7:=Below.refl _ _;clear e hc0 hcells hb7 hs7 hrow7 hb6' hb47 hL hg1 hb67 hml HK;go_wp2;go_loopw [44] (fun s44 w8=>∃ i:Nat,s44=.int .i64 i∧i≤m+1∧cR w8 g1 (m+1) (bK L i)∧Below g1 w7 w8) (fun s44 _=>m+1-(intOf s44).toNat)
    case atStart=>exact⟨0,rfl,Fz _,hr7,hbm⟩
    case round =>
     clear hr7 hbm;obtain⟨i,rfl,him,hr8,hb8⟩:=hrel;have hB8:=HB47.out.trans (hb8.mono hle);by_cases hi:i<m+1
     ·have hdi:decide ((i:Int)<(m:Int)+1)=true:=by simp;omega
      have e1:((m+1:Nat):Int)-(i:Int)=((m+1-i:Nat):Int):=by omega
      go_upto_region 15 with fail
      have hx:=HCS.out i (by omega);have hy:=HCS.out (m+1-i) (by omega);have m4:Below wr.heap.size wr wr.drew:=(Below.refl _ _).drew;have HBd:=Fi (hB8.trans (m4.mono hB8.size));have hgr:=hr8.lt;have hG9:=HG4.out.below HBd.out;have hr9:=hr8.below m4;have hbd:=hb8.trans (m4.mono (by omega));refine aw (fun w'=>∃ x:aK g1 wr.drew,w'=x.w) (fun i=>i == 13||i == 14||i == 16||i == 18) (by kernel_rfl) (by kernel_rfl) ⟨⟨_,Below.refl _ _⟩,rfl⟩ ?_;have hz:g1≤wr.drew.heap.size:=by have:=m4.size;omega
      generalize wr.drew=wd at *
      have c0:=fun x:aK g1 wd=>ag (HBd.out.trans (x.h.mono hle)) hbl hx;have c1:=fun x:aK g1 wd=>ag (HBd.out.trans (x.h.mono hle)) hbl hy;clear hx hy m4 hB8 hr8 hb8 hgr;refine ak 13 0 _ _ _ (by kernel_rfl) ?_;simp only[Fr,Fv,Fs,Fu];repeat (go_big_quiet_step (fail))
      refine wpQuiet_nil ?_;clear e1 c0 c1;refine ap rfl rfl (fun K hK=>?_);go_simp;refine (eM k _ wd hG9).mono ?_;rintro e wa ⟨rfl,hba⟩;refine hK _ _ ⟨⟨_,hba.mono hz⟩,rfl⟩ ?_;clear hK K;try simp only[Act.put,Fm,Fl,Fk,Fj,Fo,Fp]
      refine ap rfl rfl (fun K hK=>?_);go_simp;refine (le _ _ wa (hG9.below hba)).mono ?_;rintro e wb ⟨rfl,hbb⟩;have hBb:=hba.trans (hbb.mono hba.size);refine hK _ _ ⟨⟨_,hBb.mono hz⟩,rfl⟩ ?_;clear hK K;try simp only[Act.put,Fm,Fl,Fk,Fj,Fo,Fp]
      refine ak 1 15 _ _ _ (by kernel_rfl) ?_;simp only[Fr,Fv,Fs,Fu];repeat (go_big_quiet_step (fail))
      refine wpQuiet_nil ?_;refine ap rfl rfl (fun K hK=>?_);go_simp;refine (fT _ _ wb (hG9.below hBb)).mono ?_;rintro e wc ⟨rfl,hbc⟩;have hBc:=hBb.trans (hbc.mono hBb.size);refine hK _ _ ⟨⟨_,hBc.mono hz⟩,rfl⟩ ?_;clear hK K;try simp only[Act.put,Fm,Fl,Fk,Fj,Fo,Fp]
      refine ak 1 17 _ _ _ (by kernel_rfl) ?_;simp only[Fr,Fv,Fs,Fu];repeat (go_big_quiet_step (fail))
      refine wpQuiet_nil ?_;have hfl:i<(bK L i).length:=by rw[ie L (by omega)];omega
      have rc:=hr9.below hBc;have rd:=rc.cell hfl;have re:=rc.free i
      have hset:cR (wc.setCell ⟨g1,i,none⟩ (.string (df (jG (aF p i) (dD k (aF p (m+1-i)))) sc))) g1 (m+1) (bK L (i+1)):=by
       have h1:=rc.set i (df (jG (aF p i) (dD k (aF p (m+1-i)))) sc);have h2:=ig L (i:=i) (by omega)
       have h3:L[i]'(by omega)=df (jG (aF p i) (dD k (aF p (m+1-i)))) sc:=by
        have:=HL.out;simp only[this,n_,Gu,ID,←HSC.out]
       rw[h3] at h2;rw[←h2];exact h1
      have hP:Below g1 wd (wc.setCell ⟨g1,i,none⟩ (.string (df (jG (aF p i) (dD k (aF p (m+1-i)))) sc))):=(hBc.mono hz).setCell (p:=⟨g1,i,none⟩) (Fq _) _;refine ap rfl rfl (fun K hK=>?_);go_simp;refine hK undef _ ⟨⟨_,hP⟩,rfl⟩ ?_;clear hK K;try simp only[Act.put,Fm,Fl,Fk,Fj,Fo,Fp]
      refine aD ?_;have hBn:=hbd.trans hP;clear rc rd re hP hbc hbb hba hBb hBc hr9 hG9;generalize wc.setCell ⟨g1,i,none⟩ (.string (df (jG (aF p i) (dD k (aF p (m+1-i)))) sc))=we at *
      go_wp2;go_roundw;case rel=>exact⟨i+1,by go_num,by omega,hset,hBn⟩
      case measure=>(first | (simp[intOf];done) | (simp[intOf];omega))
     ·have hi':i=m+1:=by omega
      subst hi';have hfull:bK L (m+1)=L:=by rw[←hLl];exact gr L
      rw[hfull] at hr8;have hT8:Two wr (.slice (some ⟨g1,0,none⟩) (m+1) (m+1)) L g0 n (pf.set m k):=⟨by have:=hr8.isS;rwa [hLl] at this,HT4.out.row.past hB8 hg04,fun e=>by simp[Value.ownBlock] at e;omega⟩;have hBw:=HB4.out.trans (hB8.mono HB4.out.size);clear hfull hi hr8 hb8 hB8;go_wp2;go_roundw;case rel=>exact⟨m,L,pf.set m k,by go_num,by omega,hLl,hT8,by simp[hpfl],hBw,by rw[HL.out];exact HR2.out⟩
      case measure=>(first | (simp[intOf];done) | (simp[intOf];omega))
   ·have hin':fS k=false:=by simpa using hin
    rw[hin'] at HI;have HR2:=Fi (show b_ l=none by rw[HR.out,if_neg hin]);clear hin hin' HR hpl;go_wp2_with fail
    refine HI.out.mono ?_;rintro e w3 ⟨rfl,hb3⟩;go_wp2;refine bodyPost_ret (v:=.tuple #[.slice none 0 0,.bool false]) (by simp[results,Tryz.results39,go_sem]) rfl ⟨_,_,rfl,Or.inr ⟨HR2.out,rfl,rfl⟩,hbr.trans (hb3.mono hbr.size)⟩
  ·have hj0:j=0:=by omega
   subst hj0;have hend:b_ l=some pf:=hR.out.symm;have hrow:=hT.row.isS;rw[hpfl] at hrow;have HE:=Fi hend;clear hR hend hj;go_wp2;refine bodyPost_ret (v:=.tuple #[.slice (some ⟨g0,0,none⟩) n n,.bool true]) (by simp[results,Tryz.results39,go_sem]) rfl ⟨_,_,rfl,Or.inl ⟨pf,HE.out,rfl,hrow,by rw[hpfl,HN.out];rfl⟩,hbr⟩
theorem rJ (z:Int):rt (z:Rat)=⟨decide (z<0),z.natAbs,1⟩:=by
 unfold rt;rw[Rat.num_intCast,Rat.den_intCast]
theorem wA {n:Nat} (h:n<18446744073709551616):Few n:=nL (k:=20) (by omega) (by decide)
theorem jJ (z:Int) (w:World) (h1:-9223372036854775808≤z) (h2:z≤9223372036854775807) :
  Calls Tryz.prog 147 #[.int .i64 z] w fun e w'=>∃ v,e=.returned v∧IsR w' v (rt (z:Rat))∧Below w.heap.size w w':=by
 rw[rJ];go_enter Tryz.func147,Tryz.ntmps147;go_upto_region 1 with fail
 have q3:=bZ.new w (.bool false) (.slice none 0 0) (.slice none 0 0) (by intro z e;cases e) (by intro z e;cases e) (by intro z e;cases e);have m3:=aq w (.cells #[.bool false,.slice none 0 0,.slice none 0 0] 151);generalize w.alloc (.cells #[.bool false,.slice none 0 0,.slice none 0 0] 151)=w3 at *
 have B3:=Fi q3;have MD:=Fi m3;clear q3 m3;by_cases hz:z<0
 ·have hd:decide (z<0)=true:=decide_eq_true hz;obtain⟨n,rfl⟩:∃ n:Nat,z=-(n:Int)-1:=⟨(-z-1).toNat,by omega⟩;have e1:(-(n:Int)-1)+1=-(n:Int):=by omega
  go_wp2_with fail
  have hp:=jt (n+1) w3 (by omega);try rw[show ((n+1:Nat):Int)=(n:Int)+1 from by omega] at hp
  refine hp.mono ?_;clear hp;rintro e w4 ⟨v4,rfl,hv4,hb4⟩;go_wp2_with fail
  refine (li w4).mono ?_;rintro e w5 ⟨v5,rfl,hv5,hb5⟩;have hn:=(hv4.isU).below hb5;have hB5:=hb4.trans (hb5.mono hb4.size);obtain⟨pn,cn,rfl,-⟩:=id hn;obtain⟨pd,cd,rfl,-⟩:=id hv5;have hR:IsR w5 (.agg #[.bool true,.slice pn _ cn,.slice pd _ cd]) ⟨true,n+1,1⟩:=⟨_,_,rfl,hn,hv5,wA (n:=n+1) (by omega),wA (n:=1) (by decide)⟩;have B8:=B3.out.below hB5;have k0:=B8.c0;have k1:=B8.c1;have k2:=B8.c2;have f0:=B8.fr 0;have f1:=B8.fr 1;have f2:=B8.fr 2;have P:=Fi (B8.putR hR);have M8:=Fi (P.out.2.2 _ w (MD.out.trans (hB5.mono MD.out.size)) (Fq _));have HE:=Fi (show (⟨true,n+1,1⟩:Rt)=⟨decide ((-(n:Int)-1)<0),((-(n:Int)-1)).natAbs,1⟩ from by congr 1<;>(first | omega | (simp;done) | (simp;omega)));clear hR hn hv4 hv5 B8 hb4 hb5 hB5;go_wp2_with fail
  have q0:=P.out.1.c0;have q1:=P.out.1.c1;have q2:=P.out.1.c2;refine bodyPost_ret (v:=.agg #[.bool true,.slice pn (ar BB (n+1)).length cn,.slice pd (ar BB 1).length cd]) (by simp[tS] at q0 q1 q2 ⊢;simp[results,Tryz.results147,go_sem,q0,q1,q2]) rfl ⟨_,rfl,by rw[←HE.out];exact P.out.2.1,M8.out⟩
 ·have hd:decide (z<0)=false:=decide_eq_false hz;obtain⟨n,rfl⟩:∃ n:Nat,z=n:=⟨z.toNat,by omega⟩;go_wp2_with fail
  have hp:=jt (n) w3 (by omega);try rw[show ((n+1:Nat):Int)=(n:Int)+1 from by omega] at hp
  refine hp.mono ?_;clear hp;rintro e w4 ⟨v4,rfl,hv4,hb4⟩;go_wp2_with fail
  refine (li w4).mono ?_;rintro e w5 ⟨v5,rfl,hv5,hb5⟩;have hn:=(hv4.isU).below hb5;have hB5:=hb4.trans (hb5.mono hb4.size);obtain⟨pn,cn,rfl,-⟩:=id hn;obtain⟨pd,cd,rfl,-⟩:=id hv5;have hR:IsR w5 (.agg #[.bool false,.slice pn _ cn,.slice pd _ cd]) ⟨false,n,1⟩:=⟨_,_,rfl,hn,hv5,wA (n:=n) (by omega),wA (n:=1) (by decide)⟩;have B8:=B3.out.below hB5;have k0:=B8.c0;have k1:=B8.c1;have k2:=B8.c2;have f0:=B8.fr 0;have f1:=B8.fr 1;have f2:=B8.fr 2;have P:=Fi (B8.putR hR);have M8:=Fi (P.out.2.2 _ w (MD.out.trans (hB5.mono MD.out.size)) (Fq _));have HE:=Fi (show (⟨false,n,1⟩:Rt)=⟨decide ((n:Int)<0),((n:Int)).natAbs,1⟩ from by congr 1<;>(first | omega | (simp;done) | (simp;omega)));clear hR hn hv4 hv5 B8 hb4 hb5 hB5;go_wp2_with fail
  have q0:=P.out.1.c0;have q1:=P.out.1.c1;have q2:=P.out.1.c2;refine bodyPost_ret (v:=.agg #[.bool false,.slice pn (ar BB (n)).length cn,.slice pd (ar BB 1).length cd]) (by simp[tS] at q0 q1 q2 ⊢;simp[results,Tryz.results147,go_sem,q0,q1,q2]) rfl ⟨_,rfl,by rw[←HE.out];exact P.out.2.1,M8.out⟩
theorem Ds (z:Int):sgz (decide (z<0) != false) z.natAbs=z:=by
 unfold sgz;by_cases h:z<0
 ·simp[h];omega
 ·simp[h];omega
theorem Fa (z:Int) (d:Nat) (w:World) (h1:-9223372036854775808≤z) (h2:z≤9223372036854775807) (hd:0<d) (hd2:d≤9223372036854775807) (hG:Gw w) :
  Calls Tryz.prog 100 #[.int .i64 z,.int .i64 d] w fun e w'=>e=.returned (.tuple #[.string (dQ (CQ.real (mkRat z d))).1,.int .i64 (dQ (CQ.real (mkRat z d))).2])∧Below w.heap.size w w':=by
 have hq:dh (decide (z<0) != false) z.natAbs d=rt (mkRat z d):=by rw[lm _ _ _ hd,Ds]
 have hdd:((d:Int) == 0)=false:=by simp;omega
 have hr2:rt ((d:Int):Rat)=⟨false,d,1⟩:=by rw[rJ];congr 1<;>simp
 have hr1:=rJ z;have HQ:=Fi hq;have HR1:=Fi hr1;have HR2:=Fi hr2;have HD:=Fi hd;clear hq hr1 hr2 hd;go_enter Tryz.func100,Tryz.ntmps100;go_wp2_with fail
 refine (jJ z w h1 h2).mono ?_;rintro e w1 ⟨v1,rfl,hv1,hb1⟩;rw[HR1.out] at hv1;go_wp2_with fail
 refine (jJ d w1 (by omega) (by omega)).mono ?_;rintro e w2 ⟨v2,rfl,hv2,hb2⟩;rw[HR2.out] at hv2;have hv1:=hv1.below hb2;have hB2:=hb1.trans (hb2.mono hb1.size);obtain⟨xm,xp,xl,xc,xq,xk,xd,rfl⟩:=hv1.form;obtain⟨ym,yp,yl,yc,yq,yk,yd,rfl⟩:=hv2.form;clear hb1 hb2;go_upto_region 4 with fail
 have q1:=bZ.new w2 (.bool xm) (.slice xp xl xc) (.slice xq xk xd) (by intro z e;cases e) (by intro z e;cases e) (by intro z e;cases e);have m1:=aq w2 (.cells #[.bool xm,.slice xp xl xc,.slice xq xk xd] 151);have z1:=size_alloc w2 (.cells #[.bool xm,.slice xp xl xc,.slice xq xk xd] 151);generalize w2.alloc (.cells #[.bool xm,.slice xp xl xc,.slice xq xk xd] 151)=w3 at *
 have q2:=bZ.new w3 (.bool ym) (.slice yp yl yc) (.slice yq yk yd) (by intro z e;cases e) (by intro z e;cases e) (by intro z e;cases e);have m2:=aq w3 (.cells #[.bool ym,.slice yp yl yc,.slice yq yk yd] 151);generalize w3.alloc (.cells #[.bool ym,.slice yp yl yc,.slice yq yk yd] 151)=w4 at *
 rw[z1] at q2;have q1:=q1.below m2;have hb4:=m1.trans (m2.mono m1.size);have hB4:=hB2.trans (hb4.mono hB2.size);obtain⟨xn',xd',hxe,hxn,hxd,f1,f2⟩:=hv1.below hb4;obtain⟨yn',yd',hye,hyn,hyd,g1,g2⟩:=hv2.below hb4;simp only at hxn hxd hyn hyd f1 f2 g1 g2;obtain⟨rfl,rfl,rfl⟩:xm=decide (z<0)∧(.slice xp xl xc)=xn'∧(.slice xq xk xd)=xd':=by simpa using hxe
 obtain⟨rfl,rfl,rfl⟩:ym=false∧(.slice yp yl yc)=yn'∧(.slice yq yk yd)=yd':=by simpa using hye
 have HRED:=Fi (fE (decide (z<0) != false) _ _ _ _ w4 hxn hyn f1 g1 HD.out);rw[HQ.out] at HRED;have hG4:=hG.below hB4;have a0:=q1.c0;have a1:=q1.c1;have a2:=q1.c2;have b0:=q2.c0;have b1:=q2.c1;have b2:=q2.c2;clear q1 q2 m1 m2 z1 hb4 hB2 hv1 hv2 hxe hye hxn hxd hyn hyd f1 f2 g1 g2;have hbn:(decide (z<0) != false)=decide (z<0):=by simp
 rw[hbn] at HRED;go_wp2_with fail
 refine HRED.out.mono ?_;rintro e w5 ⟨v5,rfl,hv5,hb5⟩;go_wp2_with fail
 refine (eR _ _ _ hv5).mono ?_;rintro e w6 ⟨v6,rfl,hv6,hb6⟩;rw[dx] at hv6;have hB6:=hb5.trans (hb6.mono hb5.size);go_wp2_with fail
 refine (Bs _ _ w6 hv6 (hG4.below hB6)).mono ?_;rintro e w7 ⟨rfl,hb7⟩;have hB7:=hB6.trans (hb7.mono hB6.size);go_wp2;refine bodyPost_ret (v:=.tuple #[.string (dQ (CQ.real (mkRat z d))).1,.int .i64 (dQ (CQ.real (mkRat z d))).2]) (by simp[results,Tryz.results100,go_sem]) rfl ⟨rfl,hB4.trans (hB7.mono hB4.size)⟩
structure zP (F:FuncId) (cap:Array Value) (φ:CQ→CQ) (w:World):Prop where
 en:∀ (args:Array Value) (w:World),(callFunc F args).run Tryz.prog w=.ok (.enter F args) w
 on:∀ (x:Value) (a:CQ) (w':World),Below w.heap.size w w'→IsK w' x a→Calls Tryz.prog F (#[x]++cap) w' fun e w''=>∃ v,e=.returned v∧IsV w'' v (ct (φ a))∧Below w'.heap.size w' w''
def ofC (φ:CQ→CQ) (s:ByteArray):ByteArray×Int:=match fR s with | some a=>dQ (φ a) | none=>(⟨#[]⟩,10)
theorem DM (F:FuncId) (cap:Array Value) (φ:CQ→CQ) (s:ByteArray) (w:World) (hG:Gw w) (hF:zP F cap φ w) :
  Calls Tryz.prog 114 #[.string s,.func (.func F) #[] cap] w fun e w'=>e=.returned (.tuple #[.string (ofC φ s).1,.int .i64 (ofC φ s).2])∧Below w.heap.size w w':=by
 have HF:=Fi hF;have EN:=hF.en;clear hF;go_enter Tryz.func114,Tryz.ntmps114;go_wp2_with fail
 refine (jS s w hG).mono ?_;rintro e w1 ⟨v,ok,rfl,hcase,hb1⟩;rcases hcase with ⟨z,hz,rfl,hv⟩ | ⟨hz,rfl,rfl⟩
 ·obtain⟨p,rfl,hp1,hp2,-,-⟩:=iL hz;have HP1:=Fi (show ofC φ s=dQ (φ p) by unfold ofC;rw[hp1]);clear hz hp1;have hk:IsK w1 v p:=⟨hv,hp2.mono (by decide)⟩
  obtain⟨xm,xp,xl,xc,xq,xk,xd,ym,yp,yl,yc,yq,yk,yd,rfl⟩:∃ xm xp xl xc xq xk xd ym yp yl yc yq yk yd,v=.agg #[.bool xm,.slice xp xl xc,.slice xq xk xd,.bool ym,.slice yp yl yc,.slice yq yk yd]:=by
   obtain⟨_,_,_,_,_,_,rfl,hx0,hy0⟩:=hk.v;obtain⟨xm,xp,xl,xc,xq,xk,xd,hxe⟩:=hx0.form;obtain⟨ym,yp,yl,yc,yq,yk,yd,hye⟩:=hy0.form;obtain⟨rfl,rfl,rfl⟩:=et hxe;obtain⟨rfl,rfl,rfl⟩:=et hye;exact⟨_,_,_,_,_,_,_,_,_,_,_,_,_,_,rfl⟩
  go_upto_region 2 with fail
  have q1:=bS.new w1 (.bool xm) (.slice xp xl xc) (.slice xq xk xd) (.bool ym) (.slice yp yl yc) (.slice yq yk yd) 153;have m1:=aq w1 (.cells #[.bool xm,.slice xp xl xc,.slice xq xk xd,.bool ym,.slice yp yl yc,.slice yq yk yd] 153);generalize w1.alloc (.cells #[.bool xm,.slice xp xl xc,.slice xq xk xd,.bool ym,.slice yp yl yc,.slice yq yk yd] 153)=w2 at *
  have a0:=q1.c0;have a1:=q1.c1;have a2:=q1.c2;have a3:=q1.c3;have a4:=q1.c4;have a5:=q1.c5;have hB2:=hb1.trans (m1.mono hb1.size);have HC:=Fi (HF.out.on _ _ w2 hB2 (hk.below m1));have HG:=Fi (hG.below hB2);clear q1 m1 hk hv hb1 HF;go_wp2_with fail
  refine HC.out.mono ?_;rintro e w3 ⟨v3,rfl,hv3,hb3⟩;have hB3:=hB2.trans (hb3.mono hB2.size);go_wp2_with fail
  refine (Bs _ _ _ hv3 (HG.out.below hb3)).mono ?_;rintro e w4 ⟨rfl,hb4⟩;go_wp2;refine bodyPost_ret (v:=.tuple #[.string (dQ (φ p)).1,.int .i64 (dQ (φ p)).2]) (by simp[results,Tryz.results114,go_sem]) rfl ⟨by rw[HP1.out],hB3.trans (hb4.mono hB3.size)⟩
 ·have HE:=Fi (show ofC φ s=(⟨#[]⟩,10) by unfold ofC;rw[gg hz]);clear hz;unfold gX;go_wp2;refine bodyPost_ret (v:=.tuple #[.string ⟨#[]⟩,.int .i64 10]) (by simp[results,Tryz.results114,go_sem]) rfl ⟨by rw[HE.out],hb1.trans ((aq w1 _).mono hb1.size)⟩
theorem reF (w:World):zP 161 #[] (fun z=>CQ.real z.re) w:=by
 refine⟨bj Tryz.func161 rfl (by kernel_rfl),fun x z w0 hw hk=>?_⟩;obtain⟨a,b,c,d,e,f,rfl,hax,hay⟩:=id hk.v
 show Calls _ _ #[_] _ _
 go_enter Tryz.func161,Tryz.ntmps161;go_upto_region 1 with fail
 have q1:=bS.new w0 a b c d e f 153;have m1:=aq w0 (.cells #[a,b,c,d,e,f] 153);have z1:=size_alloc w0 (.cells #[a,b,c,d,e,f] 153);generalize w0.alloc (.cells #[a,b,c,d,e,f] 153)=w1 at *
 have q3:=cQ.new w1 (.bool false) (.slice none 0 0) (.slice none 0 0) (.bool false) (.slice none 0 0) (.slice none 0 0) (by intro z e;cases e) (by intro z e;cases e) (by intro z e;cases e) (by intro z e;cases e) (by intro z e;cases e) (by intro z e;cases e);have m3:=aq w1 (.cells #[.bool false,.slice none 0 0,.slice none 0 0,.bool false,.slice none 0 0,.slice none 0 0] 153);generalize w1.alloc (.cells #[.bool false,.slice none 0 0,.slice none 0 0,.bool false,.slice none 0 0,.slice none 0 0] 153)=w3 at *
 rw[z1] at q3;have q1:=q1.below m3;have a0:=q1.c0;have a1:=q1.c1;have a2:=q1.c2;have a3:=q1.c3;have a4:=q1.c4;have a5:=q1.c5;have MD:=Fi (m1.trans (m3.mono m1.size));have B3:=Fi q3;have HX:=Fi (hax.below MD.out);clear q1 q3 m1 m3 z1 hax hay hk;go_wp2_with fail
 refine (eR _ _ _ HX.out).mono ?_;rintro e w4 ⟨v4,rfl,hv4,hb4⟩;have hv4:IsV w4 v4 (ct (CQ.real z.re)):=by rw[←dx];exact hv4
 obtain⟨x1,x2,x3,y1,y2,y3,rfl,hx,hy⟩:=hv4;obtain⟨xm,xp,xl,xc,xq,xk,xd,hxe⟩:=hx.form;obtain⟨ym,yp,yl,yc,yq,yk,yd,hye⟩:=hy.form;obtain⟨rfl,rfl,rfl⟩:=et hxe;obtain⟨rfl,rfl,rfl⟩:=et hye;have B8:=B3.out.below hb4;have k0:=B8.cell 0;have k1:=B8.cell 1;have k2:=B8.cell 2;have k3:=B8.cell 3;have k4:=B8.cell 4;have k5:=B8.cell 5;have f0:=B8.fr 0;have f1:=B8.fr 1;have f2:=B8.fr 2;have f3:=B8.fr 3;have f4:=B8.fr 4;have f5:=B8.fr 5;have P:=Fi (B8.putV hx hy);have M8:=Fi (P.out.2.2 _ _ (MD.out.trans (hb4.mono MD.out.size)) (by omega));clear hx hy hxe hye B8;go_wp2_with fail
 have q0:=P.out.1.cell 0;have q1:=P.out.1.cell 1;have q2:=P.out.1.cell 2;have q3:=P.out.1.cell 3;have q4:=P.out.1.cell 4;have q5:=P.out.1.cell 5;refine bodyPost_ret (v:=.agg #[.bool xm,.slice xp xl xc,.slice xq xk xd,.bool ym,.slice yp yl yc,.slice yq yk yd]) (by simp[results,Tryz.results161,go_sem,dZ] at q0 q1 q2 q3 q4 q5 ⊢;simp[results,Tryz.results161,go_sem,q0,q1,q2,q3,q4,q5]) rfl ⟨_,rfl,P.out.2.1,M8.out⟩
theorem imF (w:World):zP 162 #[] (fun z=>CQ.real z.im) w:=by
 refine⟨bj Tryz.func162 rfl (by kernel_rfl),fun x z w0 hw hk=>?_⟩;obtain⟨a,b,c,d,e,f,rfl,hax,hay⟩:=id hk.v
 show Calls _ _ #[_] _ _
 go_enter Tryz.func162,Tryz.ntmps162;go_upto_region 1 with fail
 have q1:=bS.new w0 a b c d e f 153;have m1:=aq w0 (.cells #[a,b,c,d,e,f] 153);have z1:=size_alloc w0 (.cells #[a,b,c,d,e,f] 153);generalize w0.alloc (.cells #[a,b,c,d,e,f] 153)=w1 at *
 have q3:=cQ.new w1 (.bool false) (.slice none 0 0) (.slice none 0 0) (.bool false) (.slice none 0 0) (.slice none 0 0) (by intro z e;cases e) (by intro z e;cases e) (by intro z e;cases e) (by intro z e;cases e) (by intro z e;cases e) (by intro z e;cases e);have m3:=aq w1 (.cells #[.bool false,.slice none 0 0,.slice none 0 0,.bool false,.slice none 0 0,.slice none 0 0] 153);generalize w1.alloc (.cells #[.bool false,.slice none 0 0,.slice none 0 0,.bool false,.slice none 0 0,.slice none 0 0] 153)=w3 at *
 rw[z1] at q3;have q1:=q1.below m3;have a0:=q1.c0;have a1:=q1.c1;have a2:=q1.c2;have a3:=q1.c3;have a4:=q1.c4;have a5:=q1.c5;have MD:=Fi (m1.trans (m3.mono m1.size));have B3:=Fi q3;have HX:=Fi (hay.below MD.out);clear q1 q3 m1 m3 z1 hax hay hk;go_wp2_with fail
 refine (eR _ _ _ HX.out).mono ?_;rintro e w4 ⟨v4,rfl,hv4,hb4⟩;have hv4:IsV w4 v4 (ct (CQ.real z.im)):=by rw[←dx];exact hv4
 obtain⟨x1,x2,x3,y1,y2,y3,rfl,hx,hy⟩:=hv4;obtain⟨xm,xp,xl,xc,xq,xk,xd,hxe⟩:=hx.form;obtain⟨ym,yp,yl,yc,yq,yk,yd,hye⟩:=hy.form;obtain⟨rfl,rfl,rfl⟩:=et hxe;obtain⟨rfl,rfl,rfl⟩:=et hye;have B8:=B3.out.below hb4;have k0:=B8.cell 0;have k1:=B8.cell 1;have k2:=B8.cell 2;have k3:=B8.cell 3;have k4:=B8.cell 4;have k5:=B8.cell 5;have f0:=B8.fr 0;have f1:=B8.fr 1;have f2:=B8.fr 2;have f3:=B8.fr 3;have f4:=B8.fr 4;have f5:=B8.fr 5;have P:=Fi (B8.putV hx hy);have M8:=Fi (P.out.2.2 _ _ (MD.out.trans (hb4.mono MD.out.size)) (by omega));clear hx hy hxe hye B8;go_wp2_with fail
 have q0:=P.out.1.cell 0;have q1:=P.out.1.cell 1;have q2:=P.out.1.cell 2;have q3:=P.out.1.cell 3;have q4:=P.out.1.cell 4;have q5:=P.out.1.cell 5;refine bodyPost_ret (v:=.agg #[.bool xm,.slice xp xl xc,.slice xq xk xd,.bool ym,.slice yp yl yc,.slice yq yk yd]) (by simp[results,Tryz.results162,go_sem,dZ] at q0 q1 q2 q3 q4 q5 ⊢;simp[results,Tryz.results162,go_sem,q0,q1,q2,q3,q4,q5]) rfl ⟨_,rfl,P.out.2.1,M8.out⟩
theorem Fb (s:ByteArray) (w:World) (hG:Gw w) :
  Calls Tryz.prog 110 #[.string s] w fun e w'=>e=.returned (.tuple #[.string (ofC (fun z=>CQ.real z.re) s).1,.int .i64 (ofC (fun z=>CQ.real z.re) s).2])∧Below w.heap.size w w':=by
 have HP:=Fi (DM 161 #[] _ s w hG (reF w));go_enter Tryz.func110,Tryz.ntmps110;go_wp2_with fail
 refine HP.out.mono ?_;rintro e w2 ⟨rfl,hb2⟩;go_wp2;refine bodyPost_ret (v:=.tuple #[.string (ofC (fun z=>CQ.real z.re) s).1,.int .i64 (ofC (fun z=>CQ.real z.re) s).2]) (by simp[results,Tryz.results110,go_sem]) rfl ⟨rfl,hb2⟩
theorem E_ (s:ByteArray) (w:World) (hG:Gw w) :
  Calls Tryz.prog 111 #[.string s] w fun e w'=>e=.returned (.tuple #[.string (ofC (fun z=>CQ.real z.im) s).1,.int .i64 (ofC (fun z=>CQ.real z.im) s).2])∧Below w.heap.size w w':=by
 have HP:=Fi (DM 162 #[] _ s w hG (imF w));go_enter Tryz.func111,Tryz.ntmps111;go_wp2_with fail
 refine HP.out.mono ?_;rintro e w2 ⟨rfl,hb2⟩;go_wp2;refine bodyPost_ret (v:=.tuple #[.string (ofC (fun z=>CQ.real z.im) s).1,.int .i64 (ofC (fun z=>CQ.real z.im) s).2]) (by simp[results,Tryz.results111,go_sem]) rfl ⟨rfl,hb2⟩
def lW (s:ByteArray):Bool:=decide ((ofC (fun z=>CQ.real z.re) s).2=0)&&decide ((ofC (fun z=>CQ.real z.im) s).2=0)&&gE (ofC (fun z=>CQ.real z.re) s).1.data.toList&&gE (ofC (fun z=>CQ.real z.im) s).1.data.toList
end Go.Proofs.YtbnkpcfjechfiaaGreatDoor
