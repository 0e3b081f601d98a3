/- L -/
import Derived.RangeFuncNested
import Derived.RangeFuncBound
import Derived.RangeFuncCalls
import Derived.RangeFuncLeaves
import Derived.Shelf.Abstract
import Derived.Shelf.RegionOpen
import Derived.OwnWalkIn
import Derived.TacticsInMore
import Derived.LoopNIn
import Derived.LoopIn
import Derived.OwnWalk
import Derived.Test.YtmakbmhlemhgeaaGreatDoorQReg
import Derived.Test.YtmakbmhlemhgeaaGreatDoorQVec2
import Derived.Test.YtmakbmhlemhgeaaGreatDoorQNC7
import Derived.Test.YtmakbmhlemhgeaaGreatDoorQLP13
import Derived.Test.YtmakbmhlemhgeaaGreatDoorQTR1
import Derived.Test.YtmakbmhlemhgeaaGreatDoorQB
set_option linter.all false
set_option maxRecDepth 100000
set_option maxHeartbeats 8000000
namespace Go.Proofs.YtmakbmhlemhgeaaGreatDoor
open Go.RowKit Dg
def two (z:Int):Value:=.agg #[.int .i64 z,.int .i64 z]
def IsZ (w:World) (v:Value) (l:List Int):Prop:=bT w 1 v (l.map (.int .i64))
def dU (w:World) (base:Nat) (v:Value) (l:List Int):Prop:=w.ownsRow base 3 1 v l.length (l.map (.int .i64))
def d9 (w:World) (v:Value) (l:List Int):Prop:=bT w 2 v (l.map two)
def cH (T:TypeId) (w:World) (base:Nat) (v:Value) (l:List Int):Prop:=w.ownsRow base T 2 v l.length (cM (l.map two))
theorem IsZ.below {w w':World}{v:Value}{l:List Int} (h:IsZ w v l) (hb:Below w.heap.size w w'):IsZ w' v l:=bT.below h hb
theorem d9.below {w w':World}{v:Value}{l:List Int} (h:d9 w v l) (hb:Below w.heap.size w w'):d9 w' v l:=bT.below h hb
theorem eT:∀ l:List Int,cM (l.map (.int .i64))=l.map (.int .i64)
 | []=>rfl
 | z :: l=>by
  have:=eT l;simp only[cM,sT,tz,cellsOf] at this |-;rw[this];rfl
theorem dU.isZ {w:World}{base:Nat}{v:Value}{l:List Int} (h:dU w base v l):IsZ w v l :=
 cC (es:=l.map (.int .i64)) (base:=base) (T:=3) (fun e he=>by obtain⟨z,-,rfl⟩:=si.1 he;rfl) (by rw[rJ,eT];exact h)
theorem cH.isZZ {T:TypeId}{w:World}{base:Nat}{v:Value}{l:List Int} (h:cH T w base v l):d9 w v l :=
 cC (es:=l.map two) (base:=base) (T:=T) (fun e he=>by obtain⟨z,-,rfl⟩:=si.1 he;rfl) (by rw[rJ];exact h)
theorem dU.below {w w':World}{base:Nat}{v:Value}{l:List Int} (h:dU w base v l) (hb:Below w.heap.size w w'):dU w' base v l:=cU h hb
theorem cH.below {T:TypeId}{w w':World}{base:Nat}{v:Value}{l:List Int} (h:cH T w base v l) (hb:Below w.heap.size w w'):cH T w' base v l:=cU h hb
theorem dU.nil (w:World) (base:Nat):dU w base (.slice none 0 0) []:=World.ownsRow_nil _ _ _ _
theorem cH.nil (T:TypeId) (w:World) (base:Nat):cH T w base (.slice none 0 0) []:=World.ownsRow_nil _ _ _ _
theorem IsZ.form {w:World}{v:Value}{l:List Int} (h:IsZ w v l):∃ p c,v=.slice p l.length c/\l.length<=c/\c<=maxLen:=by
 obtain⟨p,c,e,h2,h3,-⟩:=h;rw[rJ] at e h2;exact⟨p,c,e,h2,h3⟩
theorem d9.form {w:World}{v:Value}{l:List Int} (h:d9 w v l):∃ p c,v=.slice p l.length c/\l.length<=c/\c<=maxLen:=by
 obtain⟨p,c,e,h2,h3,-⟩:=h;rw[rJ] at e h2;exact⟨p,c,e,h2,h3⟩
theorem IsZ.all {w:World}{p:Option Addr}{n c:Nat}{l:List Int} (h:IsZ w (.slice p n c) l) (h0:0<l.length) :
  ∃ b o,p=some ⟨b,o,none⟩/\b<w.heap.size/\∀ i,i<l.length->w.cell? ⟨b,o+i,none⟩=some (.int .i64 (l.getD i 0)):=by
 obtain⟨p',c',e,h2,h3,h4⟩:=h;obtain⟨rfl,-,-⟩:p=p'/\n=_/\c=c':=by simpa using e
 obtain⟨b,o,rfl,hlt,hc⟩:=h4 (by simpa using h0);refine⟨b,o,rfl,hlt,fun i hi=>?_⟩
 have:=hc i (by simpa using hi) 0 (.int .i64 (l.getD i 0)) (by
  rw[sm,rs,ry hi];rfl)
 rwa [sM,r7] at this
theorem d9.all {w:World}{p:Option Addr}{n c:Nat}{l:List Int} (h:d9 w (.slice p n c) l) (h0:0<l.length) :
  ∃ b o,p=some ⟨b,o,none⟩/\b<w.heap.size/\∀ i,i<l.length->w.cell? ⟨b,o+i*2,none⟩=some (.int .i64 (l.getD i 0))/\w.cell? ⟨b,o+i*2+1,none⟩=some (.int .i64 (l.getD i 0)):=by
 obtain⟨p',c',e,h2,h3,h4⟩:=h;obtain⟨rfl,-,-⟩:p=p'/\n=_/\c=c':=by simpa using e
 obtain⟨b,o,rfl,hlt,hc⟩:=h4 (by simpa using h0);refine⟨b,o,rfl,hlt,fun i hi=>?_⟩
 have e1:(l.map two)[i]'(by simpa using hi)=two (l.getD i 0):=by
  rw[sm,rs,ry hi];rfl
 have a:=hc i (by simpa using hi) 0 (.int .i64 (l.getD i 0)) (by rw[e1];rfl);have b:=hc i (by simpa using hi) 1 (.int .i64 (l.getD i 0)) (by rw[e1];rfl);exact⟨a,b⟩
theorem qj:(Tryz.prog.info? 3).map (fun i=>(i.zero,i.size,i.bytes))=some (some (.int .i64 0),1,8):=by kernel_rfl
theorem jW {w:World}{n:Nat}{e:TypeId}{size:Nat}{v:Value}{m:Nat}{xs:List Value} (h:w.ownsRow n e size v m xs) {k:Nat} (hk:v.ownBlock=some k):k<w.heap.size/\∃ cur cc,w.heap[k]?=some (.cells cur e cc):=by
 rcases h.2 with ⟨rfl,_⟩ | ⟨g,cap,cur,rfl,hb,hg,h3⟩
 ·cases hk
 ·simp only[Value.ownBlock,Option.some.injEq] at hk;subst hk;exact⟨(rD.1 hg).1,cur,_,hg⟩
theorem iz {w w':World}{n n':Nat}{e e':TypeId}{size size':Nat}{v u:Value}{m m':Nat}{xs xs':List Value} (h:w.ownsRow n e size v m xs) (hu:w.ownsRow n' e' size' u m' xs') (he:e≠e') (hg:w.grownBy w' u.ownBlock):w'.ownsRow n e size v m xs:=by
 refine⟨h.1,?_⟩;rcases h.2 with h2 | ⟨g,cap,cur,rfl,hb,hc,h3⟩
 ·exact Or.inl h2
 ·refine Or.inr ⟨g,cap,cur,rfl,hb,(hg.block g (rD.1 hc).1 (fun ee=>?_)).trans hc,h3⟩;obtain⟨-,cur',cc,h4⟩:=jW hu ee.symm;rw[hc] at h4
  injection h4 with h5
  injection h5 with _ h6 _
  exact he h6
theorem b_ {w:World}{ops:Array Oper}{rest:List Oper}{o:Oper}{act:Act}{Q:Exit->Act->World->Prop} (T:TypeId)
  (hT:Tryz.prog.underlying T=some (.slice 3)) (hgd:o.guard=none) (s x:Operand)
  (ho:o.op=.call { callee:=.builtin .append,args:=#[s,x],argTypes:=#[T,T] })
  (base:Nat) (v:Value) (l:List Int) (z:Int) (hs:act.eval s=v) (hown:dU w base v l)
  (hx:act.eval x=.slice (some ⟨w.heap.size,0,none⟩) 1 1) (hlen:l.length<1000000000) (hbase:base<=w.heap.size)
  (h:∀ v' w',dU w' base v' (l++[z])->World.grownBy (w.alloc (.cells #[.int .i64 z] 3)) w' v.ownBlock->(∀ B w0,Below B w0 w->B<=base->Below B w0 w')->wpList Tryz.prog ops Q rest (act.put o.dst v') w') :
  wpList Tryz.prog ops Q (o :: rest) act (w.alloc (.cells #[.int .i64 z] 3)):=by
 obtain⟨i0,hi,hz0,hz1,hz2⟩:=info_parts qj
 refine wpList_append_own _ hgd s x T ho base 3 i0 _ 1 8 hT hi hz0 hz1 hz2 rfl (by decide) v l.length (l.map (.int .i64)) hs (World.ownsRow.alloc hown _) ⟨w.heap.size,0,none⟩ 1 1 [.int .i64 z] hx rfl ?_ ?_ ?_ ?_ ?_ ?_
 ·intro j u hj
  match j,hj with
  | 0,hj =>
   simp at hj
   subst hj
   exact ah w _ _ 0 _ rfl
 ·intro u hu
  simp at hu
  subst hu
  rfl
 ·unfold maxLen;omega
 ·omega
 ·rw[af];omega
 ·intro v' w' hown' hg _
  refine h v' w' ?_ hg ?_
  ·unfold dU
   rw[rE,sX];exact hown'
  ·intro B w0 hb hB
   have hbs:=World.ownsRow.lt hown
   refine (hb.alloc (by omega) _).grown hg (by rw[af];omega) ?_
   intro k hk
   have:=(hbs k hk).1
   omega
theorem bO {w:World}{ops:Array Oper}{rest:List Oper}{o:Oper}{act:Act}{Q:Exit->Act->World->Prop} (T E:TypeId)
  (hT:Tryz.prog.underlying T=some (.slice E)) (hE:(Tryz.prog.info? E).map (fun i=>(i.zero,i.size,i.bytes))=some (some (two 0),2,16)) (hgd:o.guard=none) (s x:Operand)
  (ho:o.op=.call { callee:=.builtin .append,args:=#[s,x],argTypes:=#[T,T] })
  (base:Nat) (v:Value) (l:List Int) (z:Int) (hs:act.eval s=v) (hown:cH E w base v l)
  (hx:act.eval x=.slice (some ⟨w.heap.size,0,none⟩) 1 1) (hlen:l.length<1000000000) (hbase:base<=w.heap.size)
  (h:∀ v' w',cH E w' base v' (l++[z])->World.grownBy (w.alloc (.cells #[.int .i64 z,.int .i64 z] E)) w' v.ownBlock->(∀ B w0,Below B w0 w->B<=base->Below B w0 w')->wpList Tryz.prog ops Q rest (act.put o.dst v') w') :
  wpList Tryz.prog ops Q (o :: rest) act (w.alloc (.cells #[.int .i64 z,.int .i64 z] E)):=by
 obtain⟨i0,hi,hz0,hz1,hz2⟩:=info_parts hE
 refine wpList_append_own _ hgd s x T ho base E i0 _ 2 16 hT hi hz0 hz1 hz2 rfl (by decide) v l.length (cM (l.map two)) hs (World.ownsRow.alloc hown _) ⟨w.heap.size,0,none⟩ 1 1 [.int .i64 z,.int .i64 z] hx rfl ?_ ?_ ?_ ?_ ?_ ?_
 ·intro j u hj
  rw[show (⟨w.heap.size,0,none⟩:Addr).add j=⟨w.heap.size,j,none⟩ by unfold Addr.add;split<;>simp_all]
  match j,hj with
  | 0,hj=>simp at hj;subst hj;exact ah w _ _ 0 _ rfl
  | 1,hj=>simp at hj;subst hj;exact ah w _ _ 1 _ rfl
 ·intro u hu
  simp at hu
  subst hu
  rfl
 ·unfold maxLen;omega
 ·omega
 ·rw[af];omega
 ·intro v' w' hown' hg _
  refine h v' w' ?_ hg ?_
  ·unfold cH
   rw[rE,sX,List.map_singleton,eU];exact hown'
  ·intro B w0 hb hB
   have hbs:=World.ownsRow.lt hown
   refine (hb.alloc (by omega) _).grown hg (by rw[af];omega) ?_
   intro k hk
   have:=(hbs k hk).1
   omega
theorem qc (n low high:Int) (w:World) :
  Calls Tryz.prog 5 #[.int .i64 n,.int .i64 low,.int .i64 high] w fun e w'=>e=.returned (.int .i64 (max low (min n high)))/\w'=w:=by
 go_enter Tryz.func5,Tryz.ntmps5;go_wp2;go_ret;exact⟨rfl,rfl⟩
theorem iE (n low high:Int) (w:World) :
  Calls Tryz.prog 75 #[.int .i64 n,.int .i64 low,.int .i64 high] w fun e w'=>e=.returned (.bool (decide (low<=n)&&decide (n<=high)))/\w'=w:=by
 by_cases h:low<=n
 ·have hd:decide (low<=n)=true:=by simp;omega
  go_enter Tryz.func75,Tryz.ntmps75;go_wp2;go_ret;exact⟨by simp[hd],rfl⟩
 ·have hd:decide (low<=n)=false:=by simp;omega
  go_enter Tryz.func75,Tryz.ntmps75;go_wp2;go_ret;exact⟨by simp[hd],rfl⟩
def du (z:Int):Bool:=!(decide (-8388608<=z)&&decide (z<=8388608))
def bQ:List Int->Nat->Int
 | [],_=>-1
 | z :: l,k=>if du z then (k:Int) else bQ l (k+1)
theorem eB {l:List Int}{i:Nat} (h:i<l.length):bQ (l.drop i) i=if du (l.getD i 0) then (i:Int) else bQ (l.drop (i+1)) (i+1):=by
 rw[ss h,bQ,rs,ry h];rfl
theorem ft:∀ (l:List Int) (k:Nat),decide (0<=bQ l k)=l.any du
 | [],_=>rfl
 | z :: l,k=>by
  rw[bQ,List.any_cons]
  cases h:du z
  ·simpa using ft l (k+1)
  ·simp
theorem qE (z:Int) (w:World) :
  Calls Tryz.prog 134 #[.int .i64 z] w fun e w'=>e=.returned (.bool (du z))/\w'=w:=by
 have HP:=ri (iE z (-8388608) 8388608 w);go_enter Tryz.func134,Tryz.ntmps134;go_wp2_with fail
 refine HP.out.mono ?_;rintro e w2 ⟨rfl,rfl⟩;obtain⟨b,hb⟩:∃ b,b=(decide (-8388608<=z)&&decide (z<=8388608)):=⟨_,rfl⟩;have HB:=ri hb;rw[<-hb];clear hb;go_wp2;go_ret;exact⟨by show Ending.returned (.bool (!b))=_;unfold du;rw[<-HB.out],rfl⟩
theorem ng (v:Value) (l:List Int) (w:World) (hl:IsZ w v l) (hn:l.length<1000000) :
  Calls Tryz.prog 178 #[v,.func (.func 134) #[] #[]] w fun e w'=>e=.returned (.int .i64 (bQ l 0))/\w'=w:=by
 obtain⟨p,c,rfl,-⟩:=id hl.form;go_enter Tryz.func178,Tryz.ntmps178;go_wp2_with fail
 go_loopw [8] (fun s8 wr=>∃ i:Nat,s8=.int .i64 i/\i<=l.length/\wr=w/\Hid (bQ l 0=bQ (l.drop i) i)) (fun s8 _=>l.length-(intOf s8).toNat)
 case atStart=>exact⟨0,rfl,by omega,by trivial,rfl⟩
 case round =>
  obtain⟨i,rfl,hi,rfl,hx⟩:=hrel;by_cases hil:i<l.length
  ·obtain⟨b,o,rfl,hbw,hcs⟩:=hl.all (by omega);have e0:=hcs i hil;obtain⟨z,hz⟩:∃ z,z=l.getD i 0:=⟨_,rfl⟩;rw[<-hz] at e0;have HZ:=ri hz;clear hz hcs;go_wp2_with fail
   refine (qE z wr).mono ?_;rintro e w2 ⟨rfl,rfl⟩
   cases hbb:du z
   ·have HBB:=ri hbb;clear hbb;go_wp2;go_roundw;case rel=>exact⟨i+1,by go_num,by omega,by trivial,by unfold Hid;rw[hx.out,eB hil,<-HZ.out,HBB.out];rfl⟩
    case measure=>simp[intOf];omega
   ·have HBB:=ri hbb;clear hbb;go_wp2;go_ret;exact⟨by rw[hx.out,eB hil,<-HZ.out,HBB.out];rfl,by trivial⟩
  ·have hie:i=l.length:=by omega
   have hx2:=hx.out;rw[hie,List.drop_length] at hx2;have HX:=ri hx2;clear hil hi hx hx2;subst hie;go_wp2;go_ret;exact⟨by rw[HX.out];rfl,by trivial⟩
theorem jt (v:Value) (l:List Int) (w:World) (hl:IsZ w v l) (hn:l.length<1000000) :
  Calls Tryz.prog 133 #[v,.func (.func 134) #[] #[]] w fun e w'=>e=.returned (.bool (l.any du))/\w'=w:=by
 obtain⟨p,c,rfl,-⟩:=id hl.form;go_enter Tryz.func133,Tryz.ntmps133;go_wp2_with fail
 refine (ng _ l w hl hn).mono ?_;rintro e w2 ⟨rfl,rfl⟩;have HA:=ri (ft l 0);generalize bQ l 0=k at *
 go_wp2;go_ret;exact⟨by show Ending.returned (.bool (decide (0<=k)))=_;rw[HA.out],rfl⟩
theorem mj (v:Value) (l:List Int) (w:World) (hl:IsZ w v l) (hn:l.length<=4096) :
  Calls Tryz.prog 77 #[v] w fun e w'=>e=.returned (.bool (!(l.any du)))/\w'=w:=by
 obtain⟨p,c,rfl,-⟩:=id hl.form;have HC:=ri (jt _ l w hl (by omega));go_enter Tryz.func77,Tryz.ntmps77;go_wp2_with fail
 refine HC.out.mono ?_;rintro e w2 ⟨rfl,rfl⟩;obtain⟨b,hb⟩:∃ b,b=l.any du:=⟨_,rfl⟩;have HB:=ri hb;rw[<-hb];clear hb;go_wp2;go_ret;exact⟨by show Ending.returned (.bool (!b))=_;rw[HB.out],rfl⟩
theorem ew (v:Value) (l:List Int) (w:World) (hl:IsZ w v l) (hn:l.length<=4096) :
  Calls Tryz.prog 29 #[v] w fun e w'=>e=.returned (.int .i64 (if l.any du then 55 else 0))/\w'=w:=by
 obtain⟨p,c,rfl,-⟩:=id hl.form;have hc:=mj _ l w hl hn
 cases hb:l.any du
 ·rw[hb] at hc;have HC:=ri hc;clear hc hb;go_enter Tryz.func29,Tryz.ntmps29;go_wp2_with fail
  refine HC.out.mono ?_;rintro e w2 ⟨rfl,rfl⟩;go_wp2;go_ret;exact⟨rfl,rfl⟩
 ·rw[hb] at hc;have HC:=ri hc;clear hc hb;go_enter Tryz.func29,Tryz.ntmps29;go_wp2_with fail
  refine HC.out.mono ?_;rintro e w2 ⟨rfl,rfl⟩;go_wp2;go_ret;exact⟨rfl,rfl⟩
theorem qt (z:Int) (w:World) (h:z.natAbs<=3) :
  Calls Tryz.prog 74 #[two z] w fun e w'=>e=.returned (.bool false)/\Below w.heap.size w w':=by
 have h1:decide (z < -1048576)=false:=by simp;omega
 have h2:decide (1048576<z)=false:=by simp;omega
 unfold two;go_enter Tryz.func74,Tryz.ntmps74;go_wp2;go_ret;exact⟨by simp[h2],ae w _⟩
theorem nh (v:Value) (l:List Int) (w:World) (hl:d9 w v l) (hn:l.length<1000000) (h3:∀ z∈l,z.natAbs<=3) :
  Calls Tryz.prog 132 #[v,.func (.func 74) #[] #[]] w fun e w'=>e=.returned (.int .i64 (-1))/\Below w.heap.size w w':=by
 obtain⟨p,c,rfl,-⟩:=id hl.form;have H3:=ri h3;clear h3;go_enter Tryz.func132,Tryz.ntmps132;go_wp2_with fail
 go_loopw [8] (fun s8 wr=>∃ i:Nat,s8=.int .i64 i/\i<=l.length/\Below w.heap.size w wr) (fun s8 _=>l.length-(intOf s8).toNat)
 case atStart=>exact⟨0,rfl,by omega,t_ _ _⟩
 case round =>
  obtain⟨i,rfl,hi,hb⟩:=hrel;by_cases hil:i<l.length
  ·obtain⟨b,o,rfl,hbw,hcs⟩:=(hl.below hb).all (by omega);obtain⟨e0,e1⟩:=hcs i hil;obtain⟨z,hz⟩:∃ z,z=l.getD i 0:=⟨_,rfl⟩;rw[<-hz] at e0 e1
   have HZ:=ri (show z.natAbs<=3 by
    rw[hz,rs,ry hil];exact H3.out _ (rU hil))
   clear hz hcs;go_wp2_with fail
   refine (qt z wr HZ.out).mono ?_;rintro e w2 ⟨rfl,hb2⟩;have HB:=ri (hb.trans (hb2.mono hb.size));clear e0 e1 hb2 hb;go_wp2;go_roundw;case rel=>exact⟨i+1,by go_num,by omega,HB.out⟩
   case measure=>simp[intOf];omega
  ·have hie:i=l.length:=by omega
   subst hie;clear hil hi;go_wp2;go_ret;exact⟨rfl,hb⟩
theorem ju (v:Value) (l:List Int) (w:World) (hl:d9 w v l) (hn:l.length<1000000) (h3:∀ z∈l,z.natAbs<=3) :
  Calls Tryz.prog 76 #[v,.func (.func 74) #[] #[]] w fun e w'=>e=.returned (.bool false)/\Below w.heap.size w w':=by
 obtain⟨p,c,rfl,-⟩:=id hl.form;have HI:=ri (nh _ l w hl hn h3);clear h3;go_enter Tryz.func76,Tryz.ntmps76;go_wp2_with fail
 refine HI.out.mono ?_;rintro e w2 ⟨rfl,hb⟩;go_wp2;go_ret;exact⟨rfl,hb⟩
theorem iN {n low high:Int} (h1:low<=n) (h2:n<=high) (w:World) :
  Calls Tryz.prog 75 #[.int .i64 n,.int .i64 low,.int .i64 high] w fun e w'=>e=.returned (.bool true)/\w'=w:=by
 refine (iE n low high w).mono ?_;rintro e w2 ⟨rfl,rfl⟩;exact⟨by rw[decide_eq_true h1,decide_eq_true h2];rfl,rfl⟩
theorem jm (v:Value) (l:List Int) (w:World) (hl:d9 w v l) (h1:1<=l.length) (h16:l.length<=16) (h3:∀ z∈l,z.natAbs<=3) :
  Calls Tryz.prog 28 #[.agg #[v,.int .i64 0]] w fun e w'=>e=.returned (.int .i64 0)/\Below w.heap.size w w':=by
 obtain⟨p,c,rfl,-⟩:=id hl.form;have m1:=ae w (.cells #[.slice p l.length c,.int .i64 0] 27);have HI:=ri (ju _ l _ (hl.below m1) (by omega) h3);have HL:=ri (show (1:Int)<=l.length/\(l.length:Int)<=16 by omega);clear h3 h1 h16;go_enter Tryz.func28,Tryz.ntmps28;go_wp2_with fail
 refine (iN HL.out.1 HL.out.2 _).mono ?_;rintro e w2 ⟨rfl,rfl⟩;have k0:(w.alloc (.cells #[.slice p l.length c,.int .i64 0] 27)).cell? ⟨w.heap.size,0,none⟩=some (.slice p l.length c):=ah w _ _ 0 _ rfl;have k1:(w.alloc (.cells #[.slice p l.length c,.int .i64 0] 27)).cell? ⟨w.heap.size,1,none⟩=some (.int .i64 0):=ah w _ _ 1 _ rfl;have M1:=ri m1;have HSZ:=ri (af w (.cells #[.slice p l.length c,.int .i64 0] 27));generalize w.alloc (.cells #[.slice p l.length c,.int .i64 0] 27)=w2 at *
 clear hl m1;go_wp2_with fail
 refine HI.out.mono ?_;rintro e w3 ⟨rfl,hb⟩;have HB:=ri (M1.out.trans (hb.mono M1.out.size));have k1:=ac hb (by rw[HSZ.out];omega) k1;clear hb k0;go_wp2_with fail
 refine (iN (by decide) (by decide) _).mono ?_;rintro e w4 ⟨rfl,rfl⟩;go_wp2;go_ret;exact⟨rfl,HB.out⟩
theorem mg {z:Int} (h:z.natAbs<=2 ^ 64):eg [itz z]=.ok [(z:Rat)]:=by
 unfold eg;rw[show [itz z]=[(z:Rat)].map tq from rfl,k6 _ (fun q hq=>by rw[tu.1 hq];exact i6 h)];rfl
theorem IsS.one (w:World) (s:ByteArray):IsS (w.alloc (.cells #[.string s] 32)) (.slice (some ⟨w.heap.size,0,none⟩) 1 1) [s]:=by
 refine⟨some ⟨w.heap.size,0,none⟩,1,rfl,by simp,by simp[maxLen],fun _=>⟨w.heap.size,0,rfl,by rw[af];omega,?_⟩⟩
 intro i hi j u hu
 match i,hi with
 | 0,_ =>
  match j,hu with
  | 0,hu=>simp[cellsOf] at hu;subst hu;exact ah w _ _ 0 _ rfl
theorem m6 (l:List Nat) {j:Nat} (h:j<l.length):val BB (l.drop j)=val BB (l.drop (j+1))*1000000000+nth l j:=by
 rw[ss h,Dg.val_cons,bL l j h,mB];omega
theorem oV (l:List Nat) (j:Nat):val BB (l.drop j)<=val BB l:=by
 have h:=ck BB l j;have h1:1<=BB ^ min j l.length:=sf (by decide);have h2:=rx (val BB (l.drop j)) h1;omega
theorem qe {a b:Nat} (h:a<=b):bU a b<=0:=by
 unfold bU
 split
 ·decide
 ·rw[if_pos (by omega)];decide
theorem qx (z:Int) (w:World) (h:z.natAbs<=9007199254740991) (hG:Gw w) :
  Calls Tryz.prog 27 #[.string (itz z)] w fun e w'=>e=.returned (.tuple #[.int .i64 z,.int .i64 0])/\Below w.heap.size w w':=by
 have hl:=IsS.one w (itz z)
 have m1:=ae w (.cells #[.string (itz z)] 32)
 have HA:=ri (qD _ [itz z] _ hl (by simp) (hG.below m1))
 have HR:=ri (mg (z:=z) (by omega))
 have M1:=ri m1
 have HZ:=ri h
 clear hl m1 h
 go_enter Tryz.func27,Tryz.ntmps27
 go_wp2_with fail
 refine HA.out.mono ?_
 rintro e w1 ⟨v1,err,rfl,hcase,hb1⟩
 have MB:=ri (M1.out.trans (hb1.mono M1.out.size))
 rcases hcase with ⟨qs,hq,rfl,hp⟩ | ⟨hq,hne,rfl⟩
 ·have hqs:qs=[(z:Rat)]:=by rw[HR.out] at hq;injection hq with e;exact e.symm
  subst hqs
  obtain⟨p1,c1,rfl,-⟩:=id hp.form
  obtain⟨b,o,rfl,hbl,xm,xp,xl,xc,xq,xk,xd,hx,c0,c1',c2⟩:=hp.get (i:=0) (by simp)
  simp only[rk,th,r7] at hx c0 c1' c2
  clear hp hq HA hb1
  have hv:=hx.v
  rw[jb] at hv
  obtain⟨vn,vd,he,hn,hd,-,-⟩:=hv
  simp only[Value.agg.injEq,Array.mk.injEq,List.cons.injEq,and_true,Value.bool.injEq] at he
  obtain⟨rfl,rfl,rfl⟩:=he
  simp only at hn hd
  rw[show IsN w1 (.slice xq xk xd) 1=IsU w1 (.slice xq xk xd) [1] from by unfold IsN;rw[show aa BB 1=[1] by decide +kernel]] at hd
  have HX:=ri hx
  have HN:=ri hn
  have HD:=ri hd
  clear hx hn hd
  simp only[rM,r8]
  go_upto_region 5 with fail
  have m4:=ae w1 (.cells #[.bool (decide (z<0)),.slice xp xl xc,.slice xq xk xd] 106)
  have g0:(w1.alloc (.cells #[.bool (decide (z<0)),.slice xp xl xc,.slice xq xk xd] 106)).cell? ⟨w1.heap.size,0,none⟩=some (.bool (decide (z<0))):=ah w1 _ _ 0 _ rfl
  have g1:(w1.alloc (.cells #[.bool (decide (z<0)),.slice xp xl xc,.slice xq xk xd] 106)).cell? ⟨w1.heap.size,1,none⟩=some (.slice xp xl xc):=ah w1 _ _ 1 _ rfl
  have g2:(w1.alloc (.cells #[.bool (decide (z<0)),.slice xp xl xc,.slice xq xk xd] 106)).cell? ⟨w1.heap.size,2,none⟩=some (.slice xq xk xd):=ah w1 _ _ 2 _ rfl
  have z4:=af w1 (.cells #[.bool (decide (z<0)),.slice xp xl xc,.slice xq xk xd] 106)
  generalize w1.alloc (.cells #[.bool (decide (z<0)),.slice xp xl xc,.slice xq xk xd] 106)=w2 at *
  have HN:=ri (HN.out.below m4)
  have HD:=ri (HD.out.below m4)
  have MB:=ri (MB.out.trans (m4.mono MB.out.size))
  have hlt:w1.heap.size<w2.heap.size:=by omega
  clear m4 z4 c0 c1' c2 HX
  go_wp2_with fail
  refine (iq 9007199254740991 9007199254740991 w2 rfl (by decide)).mono ?_
  rintro e w3 ⟨vm,rfl,hvm,hb3⟩
  have HV:=ri (show IsN w3 vm 9007199254740991 from hvm.isU)
  have HN:=ri (HN.out.below hb3)
  have HD:=ri (HD.out.below hb3)
  have MB:=ri (MB.out.trans (hb3.mono MB.out.size))
  have g0:=ac hb3 hlt g0
  have g1:=ac hb3 hlt g1
  have g2:=ac hb3 hlt g2
  have hlt:=rA hlt hb3.size
  clear hvm hb3
  obtain⟨pv,lv,cv,hve⟩:∃ p n c,vm=.slice p n c:=by
   obtain⟨p,c,e,-⟩:=HV.out
   exact⟨_,_,_,e⟩
  subst hve
  obtain⟨pd,cd,ed,hd1,hd2,hd3⟩:=HD.out
  obtain⟨bd,od,e2,hbd,hcd⟩:=hd3 (by decide)
  have d0:=hcd 0 (by decide)
  injection ed with ed1 ed2 ed3
  have hpd:=ed1.trans e2
  have hl1:xk=1:=ed2
  subst hl1
  subst hpd
  rw[show nth [1] 0=1 from rfl,r7] at d0
  obtain⟨l,hle⟩:∃ l,l=aa BB z.natAbs:=⟨_,rfl⟩
  have HVL:=ri (show val BB l=z.natAbs by rw[hle];exact av al _)
  have HCAN:=ri (show ∀ d∈l,d<BB by rw[hle];exact (ay _).1)
  have hnl:IsU w3 (.slice xp xl xc) l:=by rw[hle];exact HN.out
  obtain⟨px,cx,ex,hx1,hx2,hx3⟩:=id hnl
  injection ex with ex1 ex2 ex3
  have hxl:xl=l.length:=ex2
  subst hxl
  have HL:=ri hnl
  have hll:l.length<=2:=by
   rw[hle]
   refine aD al ?_
   have:=HZ.out
   rw[mB];omega
  have HCMP:=ri (gi _ _ z.natAbs 9007199254740991 w3 HN.out HV.out)
  have HC0:=ri (qe HZ.out)
  clear ed1 ed2 ed3 e2 hd1 hd2 hd3 hcd ex1 ex2 ex3 hx1 hx2 hx3 hnl hle
  go_wp2_with fail
  refine HCMP.out.mono ?_
  rintro e w4 ⟨rfl,hb4⟩
  have hk0:=HC0.out
  generalize bU z.natAbs 9007199254740991=k at hk0 |-
  have HL:=ri (HL.out.below hb4)
  have MB:=ri (MB.out.trans (hb4.mono MB.out.size))
  have g0:=ac hb4 hlt g0
  have g1:=ac hb4 hlt g1
  clear hb4 g2 d0 HN HD HV HCMP HC0
  have hkd:decide (0<k)=false:=by simp;omega
  go_upto_region 8 with fail
  clear hkd hk0 hlt hbl hbd
  go_wp2
  go_loopw [8,9] (fun s8 s9 wr=>∃ j:Nat,s9=.int .i64 ((j:Int)-1)/\j<=l.length/\s8=.int .i64 ((val BB (l.drop j):Nat):Int)/\wr=w4) (fun _ s9 _=>(intOf s9+1).toNat)
  case atStart=>exact⟨l.length,rfl,rp _,by rw[List.drop_length];rfl,rfl⟩
  case round =>
   obtain⟨j,rfl,hjl,rfl,rfl⟩:=hrel
   match j,hjl with
   | 0,hjl =>
    have HV0:=HVL.out
    have hz:=HZ.out
    rw[show val BB (l.drop 0)=z.natAbs from HV0]
    by_cases hs:z<0
    ·have hd:decide (z<0)=true:=by simpa using hs
     rw[hd] at g0
     have HE:=ri (show -(z.natAbs:Int)=z by omega)
     generalize z.natAbs=n at *
     clear hd hs HV0 HVL
     go_wp2
     refine t8 (v:=.tuple #[.int .i64 (-(n:Int)),.int .i64 0]) (by simp[results,Tryz.results27,go_sem]) rfl ⟨by rw[HE.out],MB.out⟩
    ·have hd:decide (z<0)=false:=by simpa using hs
     rw[hd] at g0
     have HE:=ri (show (z.natAbs:Int)=z by omega)
     generalize z.natAbs=n at *
     clear hd hs HV0 HVL
     go_wp2
     refine t8 (v:=.tuple #[.int .i64 (n:Int),.int .i64 0]) (by simp[results,Tryz.results27,go_sem]) rfl ⟨by rw[HE.out],MB.out⟩
   | m+1,hjl =>
    have hm:m<l.length:=by omega
    obtain⟨px,cx,ex,hx1,hx2,hx3⟩:=id HL.out
    injection ex with ex1 ex2 ex3
    obtain⟨bx,ox,e2,hbx,hcx⟩:=hx3 (by omega)
    have hpx:=ex1.trans e2
    subst hpx
    have d0:=hcx m hm
    have h1:=m6 l hm
    have h2:=oV l m
    have h3:=HZ.out
    have h4:=aV HCAN.out hm
    rw[HVL.out] at h2
    rw[mB] at h4
    have e3:((m+1:Nat):Int)-1=(m:Int):=by omega
    rw[e3]
    have HD1:=ri (show ((val BB (l.drop m):Nat):Int)=((val BB (l.drop (m+1)):Nat):Int)*1000000000+((nth l m:Nat):Int) by omega)
    generalize nth l m=d at *
    generalize val BB (l.drop (m+1))=s at *
    have h5:s*1000000000+d<=9007199254740991:=by omega
    clear ex1 ex2 ex3 e2 hx1 hx2 hx3 hcx h1 h2 h3
    go_wp2
    go_roundw
    case rel=>exact⟨m,by go_num,by omega,by rw[HD1.out],by trivial⟩
    case measure=>simp[intOf]<;>omega
 ·rw[HR.out] at hq;cases hq
end Go.Proofs.YtmakbmhlemhgeaaGreatDoor
