/- L -/
import Derived.Laws.Cover3
import Derived.Test.YtgakllaobooabaaGreatDoorXVec2
import Derived.Test.YtgakllaobooabaaGreatDoorXB
set_option linter.all false
set_option maxRecDepth 100000
set_option maxHeartbeats 8000000
namespace Go.Proofs.YtgakllaobooabaaGreatDoor
open Go.RowKit Dg
def dj (l:List ByteArray):Except Int (List Rat) :=
 match allC l with
 | none=>.error 10
 | some zs=>match gg zs with
  | none=>.error 13
  | some qs=>.ok qs
def sR (l:List ByteArray) (w:World) (e:Ending) (w':World):Prop :=
 ∃ v err,e=.returned (.tuple #[v,.int .i64 err])/\((∃ qs,dj l=.ok qs/\err=0/\IsL w' v qs)\/(dj l=.error err/\err≠0/\v=.slice none 0 0))/\Below w.heap.size w w'
theorem wL (v:Value) (l:List ByteArray) (w:World) (hl:IsS w v l) (hlen:l.length<1000000000) (hG:Gw w) :
  Calls Tryz.prog 34 #[v] w (sR l w):=by
 obtain⟨p,c,rfl,-⟩:=id hl.form;have HA:=At (m8 _ l w hl hlen hG);go_enter Tryz.func34,Tryz.ntmps34;go_wp2_with fail
 refine HA.out.mono ?_;rintro e w1 ⟨v1,ok,rfl,hcase,hb1⟩;rcases hcase with ⟨zs,hz,rfl,hp⟩ | ⟨hz,rfl,rfl⟩
 ·obtain⟨p1,c1,rfl,-⟩:=id hp.form;have hzl:zs.length<1000000000:=by rw[cU hz];exact hlen
  have HB:=At (xN _ zs w1 hp hzl);have HZ:=At hz;clear hz hp;go_wp2_with fail
  refine HB.out.mono ?_;rintro e w2 ⟨v2,ok,rfl,hcase,hb2⟩;rcases hcase with ⟨qs,hq,rfl,hp⟩ | ⟨hq,rfl,rfl⟩
  ·obtain⟨p2,c2,rfl,-⟩:=id hp.form;have HQ:=At hq;clear hq;go_wp2;refine Du (v:=.tuple #[.slice p2 qs.length c2,.int .i64 0]) (by simp[results,Tryz.results34,go_sem]) rfl ⟨_,_,rfl,Or.inl ⟨qs,by unfold dj;rw[HZ.out];simp only;rw[HQ.out],rfl,hp⟩,hb1.trans (hb2.mono hb1.size)⟩
  ·have HQ:=At hq;clear hq;go_wp2;refine Du (v:=.tuple #[.slice none 0 0,.int .i64 13]) (by simp[results,Tryz.results34,go_sem]) rfl ⟨_,_,rfl,Or.inr ⟨by unfold dj;rw[HZ.out];simp only;rw[HQ.out],by decide,rfl⟩,hb1.trans (hb2.mono hb1.size)⟩
 ·have HZ:=At hz;clear hz;go_wp2;refine Du (v:=.tuple #[.slice none 0 0,.int .i64 10]) (by simp[results,Tryz.results34,go_sem]) rfl ⟨_,_,rfl,Or.inr ⟨by unfold dj;rw[HZ.out],by decide,rfl⟩,hb1⟩
def ir (s t:ByteArray):Int×Int:=match dj [s,t] with
 | .ok [x,y]=>(gy x y,0)
 | .ok _=>(0,0)
 | .error e=>(0,e)
theorem qZ {s t:ByteArray}{qs:List Rat} (h:dj [s,t]=.ok qs):∃ x y,qs=[x,y]:=by
 unfold dj at h
 cases ha:allC [s,t] with
 | none=>rw[ha] at h;cases h
 | some zs =>
  rw[ha] at h
  simp only at h
  have hl:=cU ha
  cases hr:gg zs with
  | none=>rw[hr] at h;cases h
  | some ys =>
   rw[hr] at h
   simp only[Except.ok.injEq] at h
   subst h
   unfold gg at hr
   split at hr
   ·cases hr
    match zs,hl with
    | [a,b],_=>exact⟨a.re,b.re,rfl⟩
   ·cases hr
theorem IsS.two (w:World) (s t:ByteArray):IsS (w.alloc (.cells #[.string s,.string t] 25)) (.slice (some ⟨w.heap.size,0,none⟩) 2 2) [s,t]:=by
 refine⟨some ⟨w.heap.size,0,none⟩,2,rfl,by simp,by simp[maxLen],fun _=>⟨w.heap.size,0,rfl,by rw[size_alloc];omega,?_⟩⟩
 intro i hi j u hu
 match i,hi with
 | 0,_ =>
  match j,hu with
  | 0,hu=>simp[cellsOf] at hu;subst hu;exact ap w _ _ 0 _ rfl
 | 1,_ =>
  match j,hu with
  | 0,hu=>simp[cellsOf] at hu;subst hu;exact ap w _ _ 1 _ rfl
theorem aa {w w':World}{B b:Nat} (h:Below B w w') (hb:b<B) {o:Nat}{v:Value} (hc:w.cell? ⟨b,o,none⟩=some v):w'.cell? ⟨b,o,none⟩=some v:=(h.cell (p:=⟨b,o,none⟩) hb).trans hc
theorem vU (s t:ByteArray) (w:World) (hG:Gw w) :
  Calls Tryz.prog 9 #[.string s,.string t] w fun e w'=>e=.returned (.tuple #[.int .i64 (ir s t).1,.int .i64 (ir s t).2])/\Below w.heap.size w w':=by
 have hl:=IsS.two w s t;have m1:=ac w (.cells #[.string s,.string t] 25);have HA:=At (wL _ [s,t] _ hl (by simp) (hG.below m1));have M1:=At m1;clear hl m1;go_enter Tryz.func9,Tryz.ntmps9;go_wp2_with fail
 refine HA.out.mono ?_;rintro e w1 ⟨v1,err,rfl,hcase,hb1⟩;have MB:=At (M1.out.trans (hb1.mono M1.out.size));rcases hcase with ⟨qs,hq,rfl,hp⟩ | ⟨hq,hne,rfl⟩
 ·obtain⟨x,y,rfl⟩:=qZ hq;have hc:ir s t=(gy x y,0):=by unfold ir;rw[hq]
  have HC:=At hc;obtain⟨p1,c1,rfl,-⟩:=id hp.form;obtain⟨b,o,rfl,hbl,xm,xp,xl,xc,xq,xk,xd,hx,c0,c1',c2⟩:=hp.get (i:=0) (by simp);obtain⟨b',o',he,hbl',ym,yp,yl,yc,yq,yk,yd,hy,d0,d1,d2⟩:=hp.get (i:=1) (by simp);obtain⟨rfl,rfl⟩:b=b'/\o=o':=by simpa using he
  clear he hbl' hc hq hb1;simp only[Av,Aw,BR,Bb,BV] at hx hy c0 c1' c2 d0 d1 d2;go_upto_region 4 with fail
  have m4:Below w1.heap.size w1 w1.drew:=(Dv _ _).drew;have hcmp:=At (kN _ _ _ _ _ (hx.v.below m4) (hy.v.below m4) (dl x) (dl y) (hx.s.fewR hy.s (by decide)).f1 (hx.s.fewR hy.s (by decide)).f2 (hx.s.fewR hy.s (by decide)).f3 (hx.s.fewR hy.s (by decide)).f4);rw[nj] at hcmp;refine ai (fun w'=>∃ x:ax w1.heap.size w1.drew,w'=x.w) (fun i=>i == 6) (by kernel_rfl) (by kernel_rfl) ⟨⟨_,Dv _ _⟩,rfl⟩ ?_;have g0:=fun x:ax w1.heap.size w1.drew=>aa (m4.trans x.h) hbl c0;have g1:=fun x:ax w1.heap.size w1.drew=>aa (m4.trans x.h) hbl c1';have g2:=fun x:ax w1.heap.size w1.drew=>aa (m4.trans x.h) hbl c2;have g3:=fun x:ax w1.heap.size w1.drew=>aa (m4.trans x.h) hbl d0;have g4:=fun x:ax w1.heap.size w1.drew=>aa (m4.trans x.h) hbl d1;have g5:=fun x:ax w1.heap.size w1.drew=>aa (m4.trans x.h) hbl d2;have M4:=At (MB.out.trans (m4.mono MB.out.size));have hz:w1.heap.size<=w1.drew.heap.size:=m4.size;clear c0 c1' c2 d0 d1 d2 hp hx hy m4;generalize w1.drew=wd at *
  refine ae 6 0 _ _ _ (by kernel_rfl) ?_;simp only[AC,AG,AB,AF];repeat (go_big_quiet_step (fail))
  refine wpQuiet_nil ?_;refine af rfl rfl (fun K hK=>?_);go_simp;refine hcmp.out.mono ?_;rintro e w2 ⟨rfl,hb2⟩;refine hK _ _ ⟨⟨_,hb2.mono hz⟩,rfl⟩ ?_;clear hK K;try simp only[Act.put,Ax,Aw,Av,Au,Ay,Az]
  refine ae 2 7 _ _ _ (by kernel_rfl) ?_;simp only[AC,AG,AB,AF];repeat (go_big_quiet_step (fail))
  refine wpQuiet_nil ?_;refine av ?_;go_wp2;refine Du (v:=.tuple #[.int .i64 (gy x y),.int .i64 0]) (by simp[results,Tryz.results9,go_sem]) rfl ⟨by rw[HC.out],M4.out.trans (hb2.mono M4.out.size)⟩
 ·have hc:ir s t=(0,err):=by unfold ir;rw[hq]
  have HC:=At hc;have hd:(err != 0)=true:=by simpa using hne
  clear hc hq hne;go_wp2;refine Du (v:=.tuple #[.int .i64 0,.int .i64 err]) (by simp[results,Tryz.results9,go_sem]) rfl ⟨by rw[HC.out],MB.out⟩
def jb (s t:ByteArray):Int:=(ir s t).1
theorem kv (s t:ByteArray) (w:World) (hG:Gw w) :
  Calls Tryz.prog 52 #[.string s,.string t] w fun e w'=>e=.returned (.int .i64 (jb s t))/\Below w.heap.size w w':=by
 unfold jb;have HP:=At (vU s t w hG);go_enter Tryz.func52,Tryz.ntmps52;go_wp2_with fail
 refine HP.out.mono ?_;rintro e w2 ⟨rfl,hb2⟩;go_wp2;go_ret;exact⟨rfl,hb2⟩
def dx (s:ByteArray):Bool:=decide (0<jb s ⟨#[45,49]⟩)&&decide (jb s ⟨#[49]⟩<0)
theorem r9 (s:ByteArray) (w:World) (hG:Gw w) :
  Calls Tryz.prog 73 #[.string s] w fun e w'=>e=.returned (.bool (dx s))/\Below w.heap.size w w':=by
 have HP:=At (kv s ⟨#[45,49]⟩ w hG);have HP2:=At (fun wx (h:Below w.heap.size w wx)=>kv s ⟨#[49]⟩ wx (hG.below h));obtain⟨a,ha⟩:∃ a,a=jb s ⟨#[45,49]⟩:=⟨_,rfl⟩;obtain⟨b,hb⟩:∃ b,b=jb s ⟨#[49]⟩:=⟨_,rfl⟩;unfold dx;rw[<-ha,<-hb];rw[<-ha] at HP;rw[<-hb] at HP2;clear ha hb;go_enter Tryz.func73,Tryz.ntmps73;by_cases h:0<a
 ·have hd:decide (0<a)=true:=decide_eq_true h;go_wp2_with fail
  refine HP.out.mono ?_;rintro e w2 ⟨rfl,hb2⟩;go_wp2_with fail
  refine (HP2.out w2 hb2).mono ?_;rintro e w3 ⟨rfl,hb3⟩;go_wp2;go_ret;exact⟨by simp[h],hb2.trans (hb3.mono hb2.size)⟩
 ·have hd:decide (0<a)=false:=decide_eq_false h;go_wp2_with fail
  refine HP.out.mono ?_;rintro e w2 ⟨rfl,hb2⟩;go_wp2;go_ret;exact⟨by rw[hd];rfl,hb2⟩
def bV (w:World) (g cap:Nat) (l:List ByteArray):Prop:=w.ownsRow g 25 1 (.slice (some ⟨g,0,none⟩) l.length cap) l.length (l.map .string)
theorem bV.own {w:World}{g cap base:Nat}{l:List ByteArray} (h:bV w g cap l) (hb:base<=g):bU w base (.slice (some ⟨g,0,none⟩) l.length cap) l:=by
 obtain⟨h1,h2⟩:=h;refine⟨h1,?_⟩;rcases h2 with h2 | ⟨g',cap',cur,e,_,r⟩
 ·exact Or.inl h2
 ·have:g'=g:=by simp at e;exact e.1.symm
  subst this;exact Or.inr ⟨g',cap',cur,e,hb,r⟩
theorem bV.lt {w:World}{g cap:Nat}{l:List ByteArray} (h:bV w g cap l):g<w.heap.size:=(World.ownsRow.lt h g rfl).2
theorem bV.isS {w:World}{g cap:Nat}{l:List ByteArray} (h:bV w g cap l):IsS w (.slice (some ⟨g,0,none⟩) l.length cap) l:=bU.isS (h.own (AA _))
theorem bV.cell {w:World}{g cap:Nat}{l:List ByteArray} (h:bV w g cap l) {j:Nat} (hj:j<l.length):w.cell? ⟨g,j,none⟩=some (.string l[j]):=by
 rw[World.ownsRow.cellAt h j (by omega)];simp[hj]
theorem bV.free {w:World}{g cap:Nat}{l:List ByteArray} (h:bV w g cap l) (j:Nat):w.frozen? ⟨g,j,none⟩=false:=World.ownsRow.frozenAt h j
theorem bV.set {w:World}{g cap:Nat}{l:List ByteArray} (h:bV w g cap l) (j:Nat) (t:ByteArray):bV (w.setCell ⟨g,j,none⟩ (.string t)) g cap (l.set j t):=by
 have:=(World.ownsRow.stored h j (.string t)).1;unfold bV;rw[List.map_set,BO];exact this
theorem bV.below {w w':World}{g cap:Nat}{l:List ByteArray} (h:bV w g cap l) (hb:Below w.heap.size w w'):bV w' g cap l:=eC h hb
theorem bV.past {w w':World}{g cap B:Nat}{l:List ByteArray} (h:bV w g cap l) (hb:Below B w w') (hg:g<B):bV w' g cap l:=by
 obtain⟨hlen,h⟩:=h;refine⟨hlen,?_⟩;rcases h with h | ⟨g',cap',cur,e,hg',hh,r⟩
 ·exact Or.inl h
 ·have:g'=g:=by simp at e;exact e.1.symm
  subst this;exact Or.inr ⟨g',cap',cur,e,hg',by rw[hb.block g' hg];exact hh,r⟩
theorem bV.other {w:World}{g cap:Nat}{l:List ByteArray} (h:bV w g cap l) {g':Nat} (hne:g≠g') (j:Nat) (u:Value):bV (w.setCell ⟨g',j,none⟩ u) g cap l:=by
 obtain⟨hlen,h⟩:=h;refine⟨hlen,?_⟩;rcases h with h | ⟨g2,cap',cur,e,hg',hh,r⟩
 ·exact Or.inl h
 ·have:g2=g:=by simp at e;exact e.1.symm
  subst this;exact Or.inr ⟨g2,cap',cur,e,hg',by rw[Below.heap_setCell _ _ _ _ hne];exact hh,r⟩
theorem IsS.other {w:World}{v:Value}{l:List ByteArray} (h:IsS w v l) {g:Nat} (hne:v.ownBlock≠some g) (j:Nat) (u:Value):IsS (w.setCell ⟨g,j,none⟩ u) v l:=by
 obtain⟨p,cap,rfl,h1,h2,h3⟩:=h;refine⟨p,cap,rfl,h1,h2,fun hl=>?_⟩;obtain⟨b,o,rfl,hlt,hc⟩:=h3 hl;have hne':b≠g:=fun e=>hne (by rw[e];rfl);refine⟨b,o,rfl,by simpa[World.setCell] using hlt,fun i hi j' u' hu=>?_⟩;rw[World.cell?_setCell_other _ _ _ _ (by intro e3;exact hne' (congrArg Addr.block e3).symm)];exact hc i hi j' u' hu
theorem bI {w:World}{ops:Array Oper}{rest:List Oper}{o:Oper}{a:Act}{Q:Exit->Act->World->Prop} (T:TypeId)
  (hT:Tryz.prog.underlying T=some (.slice 25)) (hgd:o.guard=none) (lo co:Operand) (hop:o.op=Op.makeSlice T lo co)
  (L C:Int) (n:Nat) (hl:a.eval lo=.int .i64 L) (hc:a.eval co=.int .i64 C) (hL:L=(n:Int)) (hC:C=(n:Int)) (hn:n<=1000000000000)
  (hK:∀ w',bV w' w.heap.size n (List.replicate n ⟨#[]⟩)->(∀ B w0,Below B w0 w->B<=w.heap.size->Below B w0 w')->w.heap.size<w'.heap.size ->
   wpList Tryz.prog ops Q rest (a.put o.dst (.slice (some ⟨w.heap.size,0,none⟩) n n)) w') :
  wpList Tryz.prog ops Q (o :: rest) a w:=by
 obtain⟨i0,hi,hz0,hz1,hz2⟩:=info_parts vE;refine wpList_make_full _ hgd lo co T hop w.heap.size 25 i0 (.string ⟨#[]⟩) 1 hT hi hz0 hz1 .i64 .i64 L C n hl hc hL hC (by rw[hz2];omega) (by unfold maxLen;omega) (AA _) ?_;intro w' hown hg
 have hr:bV w' w.heap.size n (List.replicate n ⟨#[]⟩):=by
  unfold bV
  have e:(madeCells (Value.string ⟨#[]⟩).cells (n*1)).toList=(List.replicate n (⟨#[]⟩:ByteArray)).map .string:=by
   rw[Bu];simp[Value.cells,toList_madeCells_one]
  rw[e] at hown;rw[Cw];exact hown
 refine hK w' hr (fun B w0 hb hB=>hb.grown hg hB (fun k h=>by cases h)) hr.lt
theorem tS (w:World) (base:Nat) (hb:base<=w.heap.size):bU (w.alloc (.cells #[] 25)) base (.slice (some ⟨w.heap.size,0,none⟩) 0 0) [] :=
 ⟨rfl,Or.inr ⟨w.heap.size,0,#[],rfl,hb,heap_alloc_new w _,AA _,by simp[maxLen],rfl,rfl⟩⟩
theorem dH {w:World}{ops:Array Oper}{rest:List Oper}{o:Oper}{act:Act}{Q:Exit->Act->World->Prop} (T:TypeId)
  (hT:Tryz.prog.underlying T=some (.slice 25)) (hgd:o.guard=none) (s x:Operand)
  (ho:o.op=.call { callee:=.builtin .append,args:=#[s,x],argTypes:=#[T,T] })
  (base:Nat) (v:Value) (l m:List ByteArray) (b off c:Nat) (hs:act.eval s=v) (hown:bU w base v l)
  (hx:act.eval x=.slice (some ⟨b,off,none⟩) m.length c) (hm:IsS w (.slice (some ⟨b,off,none⟩) m.length c) m) (hlen:l.length+m.length<1000000000) (hbase:base<=w.heap.size)
  (h:∀ v' w',bU w' base v' (l++m)->(∀ B w0,Below B w0 w->B<=base->Below B w0 w')->wpList Tryz.prog ops Q rest (act.put o.dst v') w') :
  wpList Tryz.prog ops Q (o :: rest) act w:=by
 obtain⟨i0,hi,hz0,hz1,hz2⟩:=info_parts vE;refine wpList_append_own _ hgd s x T ho base 25 i0 _ 1 16 hT hi hz0 hz1 hz2 rfl (by decide) v l.length (l.map .string) hs hown ⟨b,off,none⟩ m.length c (m.map .string) hx (by simp) ?_ ?_ ?_ ?_ hbase ?_
 ·intro j u hj;have hj':j<m.length:=by simpa using (Bv.1 hj).1
  obtain⟨b',o',e,hlt,hc⟩:=hm.get hj';obtain⟨rfl,rfl⟩:b=b'/\off=o':=by simpa using e
  have ha:(⟨b,off,none⟩:Addr).add j=⟨b,off+j,none⟩:=by
   unfold Addr.add
   split
   ·rename_i h0;subst h0;rfl
   ·rfl
  rw[ha,hc];simpa[hj'] using hj
 ·intro u hu;obtain⟨t,-,rfl⟩:=CV.1 hu;rfl
 ·unfold maxLen;omega
 ·omega
 ·intro v' w' hown' hg _;refine h v' w' ?_ ?_
  ·unfold bU;rw[AO,CU];exact hown'
  ·intro B w0 hb hB;have hbs:=World.ownsRow.lt hown;exact hb.grown hg (by omega) fun k hk=>by have:=(hbs k hk).1;omega
theorem zn (a:Option Addr) (l c:Nat) (w:World):(binOp .eql 22 (.slice a l c) (.slice none 0 0)).run Tryz.prog w=.ok (.bool a.isNone) w:=by
 simp[binOp,run_equal_slice_nil (h:=Tryz.underlying22),Result.andThen]
theorem qu (v:Value) (l:List ByteArray) (w:World) (hl:IsS w v l) (hpos:0<l.length) (hlen:l.length<100000000) :
  Calls Tryz.prog 38 #[v] w fun e w'=>∃ v',e=.returned v'/\bU w' w.heap.size v' l/\Below w.heap.size w w':=by
 obtain⟨p,c,rfl,hc1,hc2⟩:=id hl.form;obtain⟨b,o,rfl,hlt,-⟩:=hl.get hpos;go_enter Tryz.func38,Tryz.ntmps38;have hb:=ac w (.cells #[] 25);have hE:=tS w w.heap.size (AA _);have hL2:=hl.below hb;have EQ:=zn (some ⟨b,o,none⟩) l.length c;simp only[Option.isNone_some] at EQ;go_wp2_with (at_builtin;refine dH 22 Tryz.underlying22 rfl (.tmp 5) (.tmp 6) rfl w.heap.size _ [] l b o c rfl hE rfl hL2 (by simp;omega) (by rw[size_alloc];omega) ?_)
 intro v' w' hw' hb';have hB:=hb' _ _ hb (AA _);try rw[A1] at hw'
 go_wp2;go_ret;exact⟨_,rfl,hw',hB⟩
def am (l:List ByteArray) (i:Nat):ByteArray:=l.getD i ⟨#[]⟩
theorem fc {l:List ByteArray}{i:Nat} (h:i<l.length):l[i]=am l i:=by simp[am,h]
def aX (L:List ByteArray) (i:Nat):List ByteArray:=L.take i++List.replicate (L.length-i) ⟨#[]⟩
theorem fx (L:List ByteArray) {i:Nat} (h:i<=L.length):(aX L i).length=L.length:=by simp[aX];omega
theorem fy (L:List ByteArray) {i:Nat} (h:i<L.length):(aX L i).set i L[i]=aX L (i+1):=by
 have e:L.length-i=(L.length-(i+1))+1:=by omega
 have hl:(L.take i).length=i:=by simp;omega
 unfold aX;rw[e,Ck,List.set_append_right i _ (by omega),hl,BL,Ay,<-AM h,Bl];rfl
theorem eL (L:List ByteArray):aX L 0=List.replicate L.length ⟨#[]⟩:=by simp[aX]
theorem eK (L:List ByteArray):aX L L.length=L:=by simp[aX]
def jm (p:List ByteArray) (j:Nat) (k:ByteArray):List ByteArray:=(List.range j).map fun i=>bE (fj (am p i) (cw k (am p (j-i)))) (fj ⟨#[49]⟩ (cw k k))
theorem tK (p:List ByteArray) (j:Nat) (k:ByteArray):(jm p j k).length=j:=by simp[jm]
def gT:Nat->List ByteArray->List ByteArray->Option (List ByteArray)
 | 0,_,pf=>some pf
 | j+1,p,pf=>if dx (am p (j+1))=true then gT j (jm p (j+1) (am p (j+1))) (pf.set j (am p (j+1))) else none
def aK (l:List ByteArray):Option (List ByteArray):=gT (l.length-1) l (List.replicate (l.length-1) ⟨#[]⟩)
structure Two (w:World) (v:Value) (p:List ByteArray) (g n:Nat) (pf:List ByteArray):Prop where
 p:IsS w v p
 row:bV w g n pf
 ne:v.ownBlock≠some g
def sQ (l:List ByteArray) (w:World) (e:Ending) (w':World):Prop :=
 ∃ v ok,e=.returned (.tuple #[v,.bool ok])/\((∃ pf,aK l=some pf/\ok=true/\IsS w' v pf/\pf.length=l.length-1)\/(aK l=none/\ok=false/\v=.slice none 0 0))/\Below w.heap.size w w'
theorem wC (v:Value) (l:List ByteArray) (w:World) (hl:IsS w v l) (hpos:0<l.length) (hlen:l.length<1000000) (hG:Gw w) :
  Calls Tryz.prog 37 #[v] w (sQ l w):=by
 obtain⟨p0,c0,rfl,hcl,hcm⟩:=id hl.form;have HC:=At (qu _ l w hl hpos (by omega));go_enter Tryz.func37,Tryz.ntmps37;go_wp2_with fail
 refine HC.out.mono ?_;rintro e w1 ⟨v1,rfl,hv1,hb1⟩;obtain⟨p1,c1,rfl,-⟩:=id hv1.isS.form;obtain⟨n,hn⟩:∃ n,l.length=n+1:=⟨l.length-1,by omega⟩;have hG1:=hG.below hb1;clear hl HC;go_wp2_with (at_make;refine bI 22 Tryz.underlying22 rfl (.tmp 15) (.tmp 15) rfl _ _ n rfl rfl (by go_num) (by go_num) (by omega) ?_)
 intro w2 hrow hbm hs;have hb2:=hbm _ _ hb1 hb1.size;have hb12:=hbm _ _ (Dv _ _) (AA _)
 have hne:Value.ownBlock (.slice p1 (n+1) c1)≠some w1.heap.size:=fun e=>by
  have:=(World.ownsRow.lt hv1 _ (by rw[hn];exact e)).2;omega
 have hT:Two w2 (.slice p1 (n+1) c1) l w1.heap.size n (List.replicate n ⟨#[]⟩):=⟨by rw[<-hn];exact hv1.isS.below hb12,hrow,hne⟩;have hg0:=hb1.size;have HR:=At (show gT n l (List.replicate n ⟨#[]⟩)=aK l by unfold aK;rw[hn];rfl);have HN:=At hn;have hnb:n<1000000:=by omega
 obtain⟨g0,hge⟩:∃ g,g=w1.heap.size:=⟨_,rfl⟩;rw[<-hge] at hT hg0 |-;have hG2:=hG1.below hb12;clear hrow hbm hs hv1 hne hb1 hb12 hge hG1;go_wp2;go_loopw [4,6] (fun s4 s6 wr=>∃ (j:Nat) (p pf:List ByteArray),s6=.int .i64 j/\j<=n/\p.length=j+1/\Two wr s4 p g0 n pf/\pf.length=n/\Below w.heap.size w wr/\Hid (gT j p pf=aK l)) (fun _ s6 _=>(intOf s6).toNat)
 case atStart=>exact⟨n,l,_,by go_num,AA _,HN.out,hT,by simp,hb2,HR.out⟩
 case round =>
  clear hT hb2 HR hG2 hn hpos hlen;obtain⟨j,p,pf,rfl,hjn,hpl,hT,hpfl,hbr,hR⟩:=hrel;have hGr:=hG.below hbr;by_cases hj:0<j
  ·obtain⟨pp,cp,rfl,-⟩:=id hT.p.form;obtain⟨b,o,rfl,hbl,hcell⟩:=hT.p.get (i:=j) (by omega);obtain⟨k,hk⟩:∃ k,k=p[j]'(by omega):=⟨_,rfl⟩;rw[<-hk] at hcell;rw[fc] at hk;have HPL:=At hpl;obtain⟨m,rfl⟩:∃ m,j=m+1:=⟨j-1,by omega⟩;have HI:=At (r9 k wr hGr);have HK:=At hk;have hdj:decide ((0:Int)<((m+1:Nat):Int))=true:=by simp
   have hR':aK l=if dx k=true then gT m (jm p (m+1) k) (pf.set m k) else none:=by rw[<-hR.out,hk];rfl
   have HR:=At hR';clear hR hR' hk;rw[hpl] at hT |-;by_cases hin:dx k=true
   ·rw[hin] at HI;have HR2:=At (show gT m (jm p (m+1) k) (pf.set m k)=aK l by rw[HR.out,if_pos hin]);clear hin HR hpl;go_wp2_with fail
    refine HI.out.mono ?_;rintro e w3 ⟨rfl,hb3⟩;have hml:m<pf.length:=by omega
    have r0:=hT.row.below hb3;have rc:=r0.cell hml;have rf:=r0.free m;have hT4:Two (w3.setCell ⟨g0,m,none⟩ (.string k)) (.slice (some ⟨b,o,none⟩) (m+1+1) cp) p g0 n (pf.set m k):=⟨(hT.p.below hb3).other hT.ne m _,r0.set m k,hT.ne⟩;have hB4:Below w.heap.size w (w3.setCell ⟨g0,m,none⟩ (.string k)):=(hbr.trans (hb3.mono hbr.size)).setCell (p:=⟨g0,m,none⟩) hg0 _;have hG4:=hG.below hB4;go_upto_region 10 with fail
    generalize w3.setCell ⟨g0,m,none⟩ (.string k)=w4 at *
    have HB4:=At hB4;have HT4:=At hT4;have HG4:=At hG4;clear hT hT4 r0 rc rf hb3 hbr hGr HI hcell hbl hB4 hG4;go_wp2_with fail
    refine (dN k k w4 HG4.out).mono ?_;rintro e w5 ⟨rfl,hb5⟩;go_wp2_with fail
    refine (jk _ _ w5 (HG4.out.below hb5)).mono ?_;rintro e w6 ⟨rfl,hb6⟩;have hb6':=hb5.trans (hb6.mono hb5.size);obtain⟨sc,hsc⟩:∃ t,t=fj ⟨#[49]⟩ (cw k k):=⟨_,rfl⟩;rw[<-hsc];have HSC:=At hsc;clear hsc hb5 hb6;go_wp2_with (at_make;refine bI 22 Tryz.underlying22 rfl (.tmp 40) (.tmp 40) rfl _ _ (m+1) rfl rfl (by go_num) (by go_num) (by omega) ?_)
    intro w7 hrow7 hb7 hs7;have hb67:=hb7 _ _ (Dv _ _) (AA _);have hb47:=hb7 _ _ hb6' hb6'.size;obtain⟨L,hL⟩:∃ L,L=jm p (m+1) k:=⟨_,rfl⟩;have hLl:L.length=m+1:=by rw[hL,tK]
    have hr7:bV w7 w6.heap.size (m+1) (aX L 0):=by rw[eL,hLl];exact hrow7
    have hle:=hb6'.size;obtain⟨g1,hg1⟩:∃ g,g=w6.heap.size:=⟨_,rfl⟩;rw[<-hg1] at hr7 hb67 hle |-;obtain⟨b',o',e,hbl,hc0⟩:=HT4.out.p.get (i:=0) (by rw[HPL.out];omega);obtain⟨rfl,rfl⟩:b=b'/\o=o':=by simpa using e
    have hcells:∀ i,i<m+2->w4.cell? ⟨b,o+i,none⟩=some (.string (am p i)):=fun i hi=>by
     obtain⟨b',o',e,-,hc⟩:=HT4.out.p.get (i:=i) (by rw[HPL.out];omega);obtain⟨rfl,rfl⟩:b=b'/\o=o':=by simpa using e
     rw[hc,fc]
    have HCS:=At hcells;have hg04:=HT4.out.row.lt;have HB47:=At hb47;have HL:=At hL;have hml2:m+1<1000000:=by omega
    have hbm:Below g1 w7 w7:=Dv _ _;clear e hc0 hcells hb7 hs7 hrow7 hb6' hb47 hL hg1 hb67 hml HK;go_wp2;go_loopw [44] (fun s44 w8=>∃ i:Nat,s44=.int .i64 i/\i<=m+1/\bV w8 g1 (m+1) (aX L i)/\Below g1 w7 w8) (fun s44 _=>m+1-(intOf s44).toNat)
    case atStart=>exact⟨0,rfl,AI _,hr7,hbm⟩
    case round =>
     clear hr7 hbm;obtain⟨i,rfl,him,hr8,hb8⟩:=hrel;have hB8:=HB47.out.trans (hb8.mono hle);by_cases hi:i<m+1
     ·have hdi:decide ((i:Int)<(m:Int)+1)=true:=by simp;omega
      have e1:((m+1:Nat):Int)-(i:Int)=((m+1-i:Nat):Int):=by omega
      go_upto_region 15 with fail
      have hx:=HCS.out i (by omega);have hy:=HCS.out (m+1-i) (by omega);have m4:Below wr.heap.size wr wr.drew:=(Dv _ _).drew;have HBd:=At (hB8.trans (m4.mono hB8.size));have hgr:=hr8.lt;have hG9:=HG4.out.below HBd.out;have hr9:=hr8.below m4;have hbd:=hb8.trans (m4.mono (by omega));refine ai (fun w'=>∃ x:ax g1 wr.drew,w'=x.w) (fun i=>i == 13||i == 14||i == 16||i == 18) (by kernel_rfl) (by kernel_rfl) ⟨⟨_,Dv _ _⟩,rfl⟩ ?_;have hz:g1<=wr.drew.heap.size:=by have:=m4.size;omega
      generalize wr.drew=wd at *
      have c0:=fun x:ax g1 wd=>aa (HBd.out.trans (x.h.mono hle)) hbl hx;have c1:=fun x:ax g1 wd=>aa (HBd.out.trans (x.h.mono hle)) hbl hy;clear hx hy m4 hB8 hr8 hb8 hgr;refine ae 13 0 _ _ _ (by kernel_rfl) ?_;simp only[AC,AG,AB,AF];repeat (go_big_quiet_step (fail))
      refine wpQuiet_nil ?_;clear e1 c0 c1;refine af rfl rfl (fun K hK=>?_);go_simp;refine (dN k _ wd hG9).mono ?_;rintro e wa ⟨rfl,hba⟩;refine hK _ _ ⟨⟨_,hba.mono hz⟩,rfl⟩ ?_;clear hK K;try simp only[Act.put,Ax,Aw,Av,Au,Ay,Az]
      refine af rfl rfl (fun K hK=>?_);go_simp;refine (jk _ _ wa (hG9.below hba)).mono ?_;rintro e wb ⟨rfl,hbb⟩;have hBb:=hba.trans (hbb.mono hba.size);refine hK _ _ ⟨⟨_,hBb.mono hz⟩,rfl⟩ ?_;clear hK K;try simp only[Act.put,Ax,Aw,Av,Au,Ay,Az]
      refine ae 1 15 _ _ _ (by kernel_rfl) ?_;simp only[AC,AG,AB,AF];repeat (go_big_quiet_step (fail))
      refine wpQuiet_nil ?_;refine af rfl rfl (fun K hK=>?_);go_simp;refine (ej _ _ wb (hG9.below hBb)).mono ?_;rintro e wc ⟨rfl,hbc⟩;have hBc:=hBb.trans (hbc.mono hBb.size);refine hK _ _ ⟨⟨_,hBc.mono hz⟩,rfl⟩ ?_;clear hK K;try simp only[Act.put,Ax,Aw,Av,Au,Ay,Az]
      refine ae 1 17 _ _ _ (by kernel_rfl) ?_;simp only[AC,AG,AB,AF];repeat (go_big_quiet_step (fail))
      refine wpQuiet_nil ?_;have hfl:i<(aX L i).length:=by rw[fx L (by omega)];omega
      have rc:=hr9.below hBc;have rd:=rc.cell hfl;have re:=rc.free i
      have hset:bV (wc.setCell ⟨g1,i,none⟩ (.string (bE (fj (am p i) (cw k (am p (m+1-i)))) sc))) g1 (m+1) (aX L (i+1)):=by
       have h1:=rc.set i (bE (fj (am p i) (cw k (am p (m+1-i)))) sc);have h2:=fy L (i:=i) (by omega)
       have h3:L[i]'(by omega)=bE (fj (am p i) (cw k (am p (m+1-i)))) sc:=by
        have:=HL.out;simp only[this,jm,BS,List.getElem_range,<-HSC.out]
       rw[h3] at h2;rw[<-h2];exact h1
      have hP:Below g1 wd (wc.setCell ⟨g1,i,none⟩ (.string (bE (fj (am p i) (cw k (am p (m+1-i)))) sc))):=(hBc.mono hz).setCell (p:=⟨g1,i,none⟩) (AA _) _;refine af rfl rfl (fun K hK=>?_);go_simp;refine hK undef _ ⟨⟨_,hP⟩,rfl⟩ ?_;clear hK K;try simp only[Act.put,Ax,Aw,Av,Au,Ay,Az]
      refine av ?_;have hBn:=hbd.trans hP;clear rc rd re hP hbc hbb hba hBb hBc hr9 hG9;generalize wc.setCell ⟨g1,i,none⟩ (.string (bE (fj (am p i) (cw k (am p (m+1-i)))) sc))=we at *
      go_wp2;go_roundw;case rel=>exact⟨i+1,by go_num,by omega,hset,hBn⟩
      case measure=>simp[intOf]<;>omega
     ·have hi':i=m+1:=by omega
      subst hi';have hfull:aX L (m+1)=L:=by rw[<-hLl];exact eK L
      rw[hfull] at hr8;have hT8:Two wr (.slice (some ⟨g1,0,none⟩) (m+1) (m+1)) L g0 n (pf.set m k):=⟨by have:=hr8.isS;rwa [hLl] at this,HT4.out.row.past hB8 hg04,fun e=>by simp[Value.ownBlock] at e;omega⟩;have hBw:=HB4.out.trans (hB8.mono HB4.out.size);clear hfull hi hr8 hb8 hB8;go_wp2;go_roundw;case rel=>exact⟨m,L,pf.set m k,by go_num,by omega,hLl,hT8,by simp[hpfl],hBw,by rw[HL.out];exact HR2.out⟩
      case measure=>simp[intOf]<;>omega
   ·have hin':dx k=false:=by simpa using hin
    rw[hin'] at HI;have HR2:=At (show aK l=none by rw[HR.out,if_neg hin]);clear hin hin' HR hpl;go_wp2_with fail
    refine HI.out.mono ?_;rintro e w3 ⟨rfl,hb3⟩;go_wp2;refine Du (v:=.tuple #[.slice none 0 0,.bool false]) (by simp[results,Tryz.results37,go_sem]) rfl ⟨_,_,rfl,Or.inr ⟨HR2.out,rfl,rfl⟩,hbr.trans (hb3.mono hbr.size)⟩
  ·have hj0:j=0:=by omega
   subst hj0;have hend:aK l=some pf:=hR.out.symm;have hrow:=hT.row.isS;rw[hpfl] at hrow;have HE:=At hend;clear hR hend hj;go_wp2;refine Du (v:=.tuple #[.slice (some ⟨g0,0,none⟩) n n,.bool true]) (by simp[results,Tryz.results37,go_sem]) rfl ⟨_,_,rfl,Or.inl ⟨pf,HE.out,rfl,hrow,by rw[hpfl,HN.out];rfl⟩,hbr⟩
end Go.Proofs.YtgakllaobooabaaGreatDoor
