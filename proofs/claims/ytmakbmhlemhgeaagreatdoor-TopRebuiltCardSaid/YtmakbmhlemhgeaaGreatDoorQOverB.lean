/- L -/
import Derived.Deep.DeepCutAuto
import Derived.Deep.CutBlock
import Derived.Deep.CutRange
import Derived.StillTailTactics
import Derived.Deep.DeepFit
import Derived.Deep.RegionWith
import Derived.RegionTactic
import Derived.Test.YtmakbmhlemhgeaaGreatDoorQOver
import Derived.Test.YtmakbmhlemhgeaaGreatDoorQB
set_option linter.all false
set_option maxRecDepth 100000
set_option maxHeartbeats 8000000
namespace Go.Proofs.YtmakbmhlemhgeaaGreatDoor
open Go.RowKit Dg
theorem IsU.box (w:World) (z:Int) (d:Nat) (hz:z=d):IsU (w.alloc (.cells #[.int .u64 z] 122)) (.slice (some ⟨w.heap.size,0,none⟩) 1 1) [d]:=by
 subst hz;refine⟨some ⟨w.heap.size,0,none⟩,1,rfl,by simp,by simp[maxLen],fun _=>⟨w.heap.size,0,rfl,by simp,fun j hj=>?_⟩⟩;have:j=0:=by simp at hj;exact hj
 subst this;exact bP w d 0 _ rfl
theorem IsU.drewN {w:World}{v:Value}{l:List Nat} (h:IsU w v l) (n:Nat):IsU (w.drewN n) v l:=h
theorem iq (z:Int) (n:Nat) (w:World) (hz:z=n) (hn:n<18446744073709551616) :
  Calls Tryz.prog 72 #[.int .u64 z] w fun e w'=>∃ v,e=.returned v/\bF w' w.heap.size v (aa BB n)/\Below w.heap.size w w':=by
 subst hz;exact dE n w hn
theorem ay (n:Nat):CB (aa BB n):=eA al n
theorem l_ {m:List Nat} (hm:CB m) (h1:m.length=1):0<nth m 0/\nth m 0<1000000000/\val BB m=nth m 0:=by
 match m,h1 with
 | [d],_ =>
  have h2:=hm.2 (by simp)
  have h3:=hm.1 d (by simp)
  simp[nth] at *
  exact⟨by omega,h3⟩
theorem dX {l m:List Nat} (hl:CB l) (hm:CB m) (h:val BB m<=val BB l):m.length<=l.length:=by
 rcases sj l.length m.length with hh | hh
 ·have:=bu al hl hm hh;omega
 ·exact hh
/-- a is less than b -/
theorem me (va vb:Value) (l m:List Nat) (w:World) (ha:IsU w va l) (hb:IsU w vb m) (hl:CB l) (hm:CB m) (hlt:val BB l<val BB m) :
  Calls Tryz.prog 117 #[va,vb] w fun e w'=>∃ vq vr,e=.returned (.tuple #[vq,vr])/\IsU w' vq (aa BB (val BB l / val BB m))/\IsU w' vr (aa BB (val BB l % val BB m))/\Below w.heap.size w w':=by
 have hc:bU (val BB l) (val BB m)<0:=by simp[bU,hlt]
 have H:=ri hlt;clear hlt;go_enter Tryz.func117,Tryz.ntmps117;go_wp2_with (go_at_call 73;refine (cJ _ _ l m _ ha hb hl hm).mono ?_;rintro e w' ⟨rfl,n,rfl⟩)
 go_ret2
 refine⟨_,_,rfl,?_,?_,below_drewN (t_ _ _) _⟩
 ·rw[se H.out,aE];exact⟨none,0,rfl,by simp,by simp[maxLen],fun h=>by simp at h⟩
 ·rw[sQ H.out,jw al hl];exact ha
/-- b has one digit -/
theorem nG (va vb:Value) (l m:List Nat) (w:World) (ha:IsU w va l) (hb:IsU w vb m) (hl:CB l) (hm:CB m) (hll:l.length<1000000) (h1:m.length=1) (hge:val BB m<=val BB l) :
  Calls Tryz.prog 117 #[va,vb] w fun e w'=>∃ vq vr,e=.returned (.tuple #[vq,vr])/\IsU w' vq (aa BB (val BB l / val BB m))/\IsU w' vr (aa BB (val BB l % val BB m))/\Below w.heap.size w w':=by
 have hc:¬ bU (val BB l) (val BB m)<0:=by simp only[bU];split<;>(try split)<;>omega
 have hb':=hb;obtain⟨p,cap,rfl,hlc,hcm,hcell⟩:=hb';obtain⟨b,o,rfl,hbw,hcl⟩:=hcell (by omega);have hc0:w.cell? ⟨b,o,none⟩=some (.int .u64 (nth m 0)):=hcl 0 (by omega);have h1':((m.length:Int) == 1)=true:=by simp[h1]
 have hd:=l_ hm h1;have hd0:=hd.1;have hd1:=hd.2.1;have HD:=ri hd.2.2;clear hd hcl hcell hge;have H1:=ri h1;clear h1;have hpos:(0:Int)<m.length:=by have:=H1.out;omega
 have hmod:=sB (val BB l) hd0;go_enter Tryz.func117,Tryz.ntmps117;go_wp2_with (first | (go_at_call 73;refine (cJ _ _ l m _ ha hb hl hm).mono ?_;rintro e w' ⟨rfl,n,rfl⟩) | (go_at_call 167;refine (iF _ l (nth m 0) _ (IsU.drewN ha _) hl.1 hll hd0 (by omega)).mono ?_;rintro e w1 ⟨g,cap1,rfl,hg,hr,hb1⟩) | (go_at_call 72;refine (iq _ (val BB l % nth m 0) _ (by go_num) (by omega)).mono ?_;rintro e w2 ⟨v2,rfl,ho2,hb2⟩))
 go_ret2
 refine⟨_,_,rfl,?_,?_,?_⟩
 ·rw[HD.out];exact hr.isU.below hb2
 ·rw[HD.out];exact bF.isU ho2
 ·exact (below_drewN (t_ _ _) _).trans (Below.trans hb1 (hb2.mono hb1.size))
theorem IsU.drew {w:World}{v:Value}{l:List Nat} (h:IsU w v l):IsU w.drew v l:=h
theorem aJ.other {w:World}{g cap:Nat}{l:List Nat} (h:aJ w g cap l) {a:Addr} (ha:g≠a.block) (u:Value):aJ (w.setCell a u) g cap l :=
 ownsRow_setCell_other h (by simp[Value.ownBlock];exact ha) u
theorem aJ.kept {w w':World}{g cap:Nat}{l:List Nat} (h:aJ w g cap l) (hk:w'.heap[g]?=w.heap[g]?):aJ w' g cap l:=by
 obtain⟨h1,h2⟩:=h;refine⟨h1,?_⟩;rcases h2 with h2 | ⟨g',cap',cur,e,hg,hh,r⟩
 ·exact Or.inl h2
 ·have:g'=g:=by simp at e;exact e.1.symm
  subst this;exact Or.inr ⟨g',cap',cur,e,hg,by rw[hk];exact hh,r⟩
structure Mem (w0 wr:World) (gs gu gv go s cu cv co:Nat) (lu lv lo:List Nat):Prop where
 o1:w0.heap.size<=gs
 o2:gs<gu
 o3:gu<gv
 o4:gv<go
 sc:wr.cell? ⟨gs,0,none⟩=some (.int .u64 s)
 ru:aJ wr gu cu lu
 rv:aJ wr gv cv lv
 ro:aJ wr go co lo
 bl:Below w0.heap.size w0 wr
theorem Mem.setU {w0 wr:World}{gs gu gv go s cu cv co:Nat}{lu lv lo:List Nat} (h:Mem w0 wr gs gu gv go s cu cv co lu lv lo) (j d:Nat) (z:Int) (hz:z=d) :
  Mem w0 (wr.setCell ⟨gu,j,none⟩ (.int .u64 z)) gs gu gv go s cu cv co (lu.set j d) lv lo:=by
 have:=h.o1;have:=h.o2;have:=h.o3;have:=h.o4;refine⟨h.o1,h.o2,h.o3,h.o4,?_,h.ru.set j d z hz,h.rv.other (by show gv≠gu;omega) _,h.ro.other (by show go≠gu;omega) _,h.bl.setCell (p:=⟨gu,j,none⟩) (by show w0.heap.size<=gu;omega) _⟩;rw[World.cell?_setCell_other _ _ _ _ (by simp<;>omega)];exact h.sc
theorem Mem.setO {w0 wr:World}{gs gu gv go s cu cv co:Nat}{lu lv lo:List Nat} (h:Mem w0 wr gs gu gv go s cu cv co lu lv lo) (j d:Nat) (z:Int) (hz:z=d) :
  Mem w0 (wr.setCell ⟨go,j,none⟩ (.int .u64 z)) gs gu gv go s cu cv co lu lv (lo.set j d):=by
 have:=h.o1;have:=h.o2;have:=h.o3;have:=h.o4;refine⟨h.o1,h.o2,h.o3,h.o4,?_,h.ru.other (by show gu≠go;omega) _,h.rv.other (by show gv≠go;omega) _,h.ro.set j d z hz,h.bl.setCell (p:=⟨go,j,none⟩) (by show w0.heap.size<=go;omega) _⟩;rw[World.cell?_setCell_other _ _ _ _ (by simp<;>omega)];exact h.sc
theorem Mem.drewN {w0 wr:World}{gs gu gv go s cu cv co:Nat}{lu lv lo:List Nat} (h:Mem w0 wr gs gu gv go s cu cv co lu lv lo) (n:Nat) :
  Mem w0 (wr.drewN n) gs gu gv go s cu cv co lu lv lo:=⟨h.o1,h.o2,h.o3,h.o4,h.sc,h.ru,h.rv,h.ro,below_drewN h.bl n⟩
theorem ek {w:World}{ops:Array Oper}{rest:List Oper}{o:Oper}{a:Act}{Q:Exit->Act->World->Prop} (T:TypeId)
  (hT:Tryz.prog.underlying T=some (.slice 122)) (hgd:o.guard=none) (s x:Operand)
  (ho:o.op=.call { callee:=.builtin .append,args:=#[s,x],argTypes:=#[T,T] })
  (g N cap:Nat) (l:List Nat) (z:Int) (d:Nat) (hz:z=d) (hs:a.eval s=.slice (some ⟨g,0,none⟩) N cap) (hN:N=l.length) (hown:aJ w g cap l)
  (hx:a.eval x=.slice (some ⟨w.heap.size,0,none⟩) 1 1) (hlen:l.length<cap)
  (h:∀ w',aJ w' g cap (l++[d])->(∀ B w0,Below B w0 w->B<=g->Below B w0 w')->(∀ b o,b<w.heap.size->b≠g->w'.heap[b]?=w.heap[b]?/\w'.cell? ⟨b,o,none⟩=w.cell? ⟨b,o,none⟩)->w.heap.size<=w'.heap.size ->
   wpList Tryz.prog ops Q rest (a.put o.dst (.slice (some ⟨g,0,none⟩) (N+1) cap)) w') :
  wpList Tryz.prog ops Q (o :: rest) a (w.alloc (.cells #[.int .u64 z] 122)):=by
 subst hz hN;obtain⟨i0,hi,hz0,hz1,hz2⟩:=info_parts Tryz.info122;refine wpList_append_fits _ hgd s x T ho g 122 i0 1 hT hi hz1 g l.length cap (bZ l) hs (World.ownsRow.alloc hown _) ⟨w.heap.size,0,none⟩ 1 1 [.int .u64 d] hx rfl ?_ ?_ (by omega) ?_
 ·exact bP w d
 ·intro u hu;simp at hu;subst hu;rfl
 ·intro w' hown' hg;have hsz:=hg.size;simp at hsz;refine h w' ?_ ?_ ?_ (by omega)
  ·unfold aJ;have:bZ (l++[d])=bZ l++[.int .u64 d]:=by rw[fF];rfl
   rw[this,rE];exact hown'
  ·intro B w0 hb hB;have:=hown.lt;exact (hb.alloc (by omega) _).grown hg (by simp;omega) (fun k hk=>by cases hk;exact hB)
  ·intro b o hb hbg;have h1:=hg.block b (by simp;omega) (by simp;exact hbg);have h2:=Below.heap_alloc w (.cells #[.int .u64 (d:Int)] 122) b hb;have h3:w'.heap[b]?=w.heap[b]?:=h1.trans h2;exact⟨h3,World.cell?_of_block h3⟩
theorem g9 {m:List Nat}{s:Nat} (hm:CB m) (hne:m≠[]) (hs:1<=s) (hs2:s*(nth m (m.length-1)+1)<=BB):(aa BB (val BB m*s)).length=m.length:=by
 have hpos:0<m.length:=rN.2 hne
 have h1:val BB m<(nth m (m.length-1)+1)*BB ^ (m.length-1):=by
  have e:val BB m=val BB (m.take (m.length-1+1)):=by rw[rz (by omega)]
  rw[aS (by omega)] at e;have:=dp hm.1 (k:=m.length-1) (by omega);rw[rZ,e];omega
 have h2:val BB m*s<BB ^ m.length:=by
  have h3:val BB m*s<(nth m (m.length-1)+1)*BB ^ (m.length-1)*s:=sG h1 hs;have h4:s*(nth m (m.length-1)+1)*BB ^ (m.length-1)<=BB*BB ^ (m.length-1):=rx _ hs2;have e:(nth m (m.length-1)+1)*BB ^ (m.length-1)*s=s*(nth m (m.length-1)+1)*BB ^ (m.length-1):=by grind
  have e2:BB ^ m.length=BB*BB ^ (m.length-1):=by
   obtain⟨p,hp⟩:∃ p,m.length=p+1:=⟨m.length-1,by omega⟩;rw[hp,s_,rK,rQ]
  omega
 have h5:=aD al h2
 have h6:BB ^ (m.length-1)<=val BB m*s:=by
  have:=ch hm hne;have h7:val BB m*1<=val BB m*s:=rY _ hs;omega
 have h8:=bf al (val BB m*s);have h9:BB ^ (m.length-1)<BB ^ (aa BB (val BB m*s)).length:=by omega
 have:=(Nat.pow_lt_pow_iff_right (show 1<BB by decide)).1 h9;omega
theorem nY {l:List Nat}{s:Nat} (hl:CB l) (hs:s<BB):(aa BB (val BB l*s)).length<=l.length+1:=by
 have h1:=dI BB l hl.1;refine aD al ?_;rw[rK];have:(val BB l+1)*s<=BB ^ l.length*s:=rx _ h1;rw[rZ] at this;have h2:BB ^ l.length*(s+1)<=BB ^ l.length*BB:=rY _ hs;rw[Nat.mul_add] at h2;have h3:=nJ l.length;omega
def f_ (n:Nat) (lu:List Nat):Prop:=val BB lu=n/\∀ x∈lu,x<BB
theorem i8 (n:Nat):f_ n (aa BB n):=⟨av al n,(eA al n).1⟩
theorem jX {n:Nat}{lu:List Nat} (h:f_ n lu):f_ n (lu++[0]):=by
 refine⟨by rw[cX,Nat.mul_zero,r7];exact h.1,fun x hx=>?_⟩;rcases tn.1 hx with hx | hx
 ·exact h.2 x hx
 ·simp at hx;subst hx;decide
theorem lW {l m lu:List Nat}{s:Nat} (hl:CB l) (hm:CB m) (hne:m≠[]) (hs:1<=s) (hge:val BB m<=val BB l)
  (hv:(aa BB (val BB m*s)).length=m.length) (hu:f_ (val BB l*s) lu) (hlen:lu.length=l.length+1) :
  dz lu (aa BB (val BB m*s)) (l.length+1-m.length) lu (List.replicate (l.length+1-m.length) 0):=by
 have hml:=dX hl hm hge;refine⟨rfl,hu.2,?_,?_,?_,?_,?_⟩
 ·intro j hj;rw[hv] at hj;simp[nth,sb (show lu.length<=j by omega)]
 ·rw[tB,hv,hlen];omega
 ·intro x hx;rw[sO hx];decide
 ·rw[sh (by simp)];simp
 ·rw[hu.1,av al];have h1:=dI BB l hl.1;have h2:=ch hm hne;have hpos:0<m.length:=rN.2 hne;have e:BB ^ l.length=BB ^ (m.length-1)*BB ^ (l.length+1-m.length):=by rw[<-r0];congr 1;omega
  have h3:BB ^ (m.length-1)*BB ^ (l.length+1-m.length)<=val BB m*BB ^ (l.length+1-m.length):=rx _ h2;have h4:val BB l*s<val BB m*BB ^ (l.length+1-m.length)*s:=sG (by omega) hs;have e2:val BB m*s*BB ^ (l.length+1-m.length)=val BB m*BB ^ (l.length+1-m.length)*s:=by grind
  omega
theorem oU {a b s:Nat}{lu0 lv lu lo:List Nat} (h:dz lu0 lv 0 lu lo) (hu:val BB lu0=a*s) (hv:val BB lv=b*s) (hs:1<=s) :
  val BB lo=a / b/\val BB lu=(a % b)*s:=by
 have e:=h.eq;have hlt:=h.lt;simp only[Nat.pow_zero,tW,rF,sM] at e hlt;rw[hu,hv] at e;rw[hv] at hlt
 have hb:0<b:=by
  cases b with
  | zero=>simp at hlt
  | succ b=>omega
 have hdvd:val BB lu=(a-b*val BB lo)*s:=by
  rw[Nat.sub_mul];have:b*s*val BB lo=b*val BB lo*s:=by grind
  omega
 rw[hdvd] at hlt;have h1:=sJ hlt
 have h2:b*val BB lo<=a:=by
  have h3:b*val BB lo*s<=a*s:=by
   have:b*s*val BB lo=b*val BB lo*s:=by grind
   omega
  exact Nat.le_of_mul_le_mul_right h3 hs
 have h4:a / b=val BB lo:=by
  have:a=(a-b*val BB lo)+b*val BB lo:=by omega
  rw[this,tG _ _ hb,se h1,sk]
 have h5:a % b=a-b*val BB lo:=by
  have:=sA a b;rw[h4] at this;omega
 rw[h4,h5];exact⟨rfl,hdvd⟩
end Go.Proofs.YtmakbmhlemhgeaaGreatDoor
