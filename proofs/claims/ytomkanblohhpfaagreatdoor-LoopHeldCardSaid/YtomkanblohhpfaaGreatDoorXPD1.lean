/- Lemmas of this claim. -/
import Derived.Laws.IdiomCopy
import Derived.Test.YtomkanblohhpfaaGreatDoorXPM2
import Derived.Test.YtomkanblohhpfaaGreatDoorXRng2
import Derived.Test.YtomkanblohhpfaaGreatDoorXLP13
import Derived.Test.YtomkanblohhpfaaGreatDoorXPL3
set_option linter.all false
set_option maxRecDepth 100000
set_option maxHeartbeats 8000000
namespace Go.Proofs.YtomkanblohhpfaaGreatDoor
open Go.RowKit Dg
theorem CQ.norm_ne {c:CQ} (h:c≠⟨0,0⟩):c.norm≠0:=fun e=>h (jv e)
theorem CQ.div_mul {z c:CQ} (h:c≠⟨0,0⟩):(z.div c).mul c=z:=by
 have hn:=CQ.norm_ne h
 obtain⟨a,b⟩:=z
 obtain⟨x,y⟩:=c
 simp only[CQ.div,CQ.mul,CQ.norm,CQ.mk.injEq] at hn ⊢
 constructor<;>grind
theorem CQ.sub_self (z:CQ):z.sub z=⟨0,0⟩:=by
 obtain⟨a,b⟩:=z
 simp only[CQ.sub,CQ.mk.injEq]
 constructor<;>grind
theorem CQ.mul_inv {z:CQ} (h:z≠⟨0,0⟩):z.mul ((CQ.real 1).div z)=CQ.real 1:=by
 have hn:=CQ.norm_ne h
 obtain⟨x,y⟩:=z
 simp only[CQ.div,CQ.mul,CQ.norm,CQ.real,CQ.mk.injEq] at hn ⊢
 constructor<;>grind
theorem CQ.div_one (z:CQ):z.div (CQ.real 1)=z:=by
 obtain⟨x,y⟩:=z
 simp only[CQ.div,CQ.norm,CQ.real]
 congr 1<;>grind
theorem CQ.mul_one (z:CQ):z.mul (CQ.real 1)=z:=by
 obtain⟨x,y⟩:=z
 simp only[CQ.mul,CQ.real]
 congr 1<;>grind
theorem CQ.one_ne:CQ.real 1≠⟨0,0⟩:=by decide
def iI (zs:List CQ) (c:CQ):List CQ:=zs.map fun z=>z.div c
theorem gP (zs:List CQ) (c:CQ):(iI zs c).length=zs.length:=by simp[iI]
theorem ve (zs:List CQ):iI zs (CQ.real 1)=zs:=by
 unfold iI
 rw[show (fun z:CQ=>z.div (CQ.real 1))=id from funext fun z=>z.div_one,List.map_id]
theorem sR (zs:List CQ) (c:CQ) {i:Nat} (h:i<zs.length):(iI zs c).drop i=zs[i].div c :: (iI zs c).drop (i+1):=by
 rw[Ad (by rw[gP];exact h)]
 simp[iI]
theorem jr {c:CQ} (h:c≠⟨0,0⟩):bB [c]=[c]:=by
 have:=fT [] c
 rwa [if_neg h] at this
theorem sB {a c:CQ} (h:c≠⟨0,0⟩):bB [a,c]=[a,c]:=by
 have:=fT [a] c
 rwa [if_neg h] at this
theorem jL:∀ n:Nat,bB (List.replicate n ⟨0,0⟩)=[]
 | 0=>rfl
 | n+1=>by
  rw[A2,fT,if_pos rfl]
  exact jL n
theorem tX (c:CQ):r9 [c]=[]:=rfl
theorem tY {a c:CQ} (h:c≠⟨0,0⟩):r9 [a,c]=[c]:=by
 have e:ik [a,c]=[c]:=by
  show [c.mul (CQ.real (((0+1:Nat):Int):Rat))]=[c]
  rw[show CQ.real (((0+1:Nat):Int):Rat)=CQ.real 1 from rfl,CQ.mul_one]
 unfold r9
 rw[e];exact jr h
theorem oF {c:CQ} (h:c≠⟨0,0⟩):m9 [c] ((CQ.real 1).div c)=[CQ.real 1]:=by
 show bB [c.mul ((CQ.real 1).div c)]=_
 rw[CQ.mul_inv h];exact jr CQ.one_ne
inductive dA:List CQ→Prop
 | one (c:CQ) (h:c≠⟨0,0⟩):dA [c]
 | two (a c:CQ) (h:c≠⟨0,0⟩):dA [a,c]
theorem dA.lean {zs:List CQ} (h:dA zs):bB zs=zs:=by
 cases h with
 | one c h=>exact jr h
 | two a c h=>exact sB h
def aZ (zs:List CQ):List (List CQ):=match zs with
 | []=>[]
 | [c]=>[[c]]
 | [a,c]=>[[a,c],[c]]
 | _=>[]
def gg (s:Int) (p:Int×Int):Int×Int:=if s=0 then p else (if s=-p.2 then p.1+1 else p.1,s)
def iB (x:Rat) (zs:List CQ):Int:=iS (atL zs (CQ.real x)).re 0
def nD (x:Rat) (l:List (List CQ)):Int×Int:=l.foldl (fun p q=>gg (iB x q) p) (0,0)
def bV (zs:List CQ) (x:Rat):Int:=(nD x (aZ zs)).1
theorem r7 (x:Rat) {l:List (List CQ)}{i:Nat} (h:i<l.length):nD x (l.take (i+1))=gg (iB x l[i]) (nD x (l.take i)):=by
 unfold nD
 rw[←zi h,List.foldl_append]
 rfl
structure eZ (w:World) (g cap:Nat) (zs:List CQ):Prop where
 lt:g<w.heap.size
 fr:∀ j,w.frozen? ⟨g,j,none⟩=false
 nu:∀ j z,w.cell? ⟨g,j,none⟩≠some (.int .u64 z)
 row:∃ es:List Value,es.length=zs.length∧(∀ i (h:i<es.length) j u,(cellsOf es[i])[j]?=some u→w.cell? ⟨g,i*6+j,none⟩=some u)∧∀ i (h:i<es.length) (h':i<zs.length),IsK w es[i] zs[i]
 cap:zs.length≤cap∧cap≤maxLen
theorem eZ.isP {w:World}{g cap:Nat}{zs:List CQ} (h:eZ w g cap zs):IsP w (.slice (some ⟨g,0,none⟩) zs.length cap) zs:=by
 obtain⟨es,h1,h2,h3⟩:=h.row
 refine⟨es,h1,⟨_,cap,by rw[h1],by rw[h1];exact h.cap.1,h.cap.2,fun _=>⟨g,0,rfl,h.lt,fun i hi j u hu=>?_⟩⟩,h3⟩
 rw[z6];exact h2 i hi j u hu
theorem eZ.below {w w':World}{g cap:Nat}{zs:List CQ} (h:eZ w g cap zs) (hb:Below w.heap.size w w'):eZ w' g cap zs:=by
 obtain⟨es,h1,h2,h3⟩:=h.row
 have hblk:=hb.block g h.lt
 have hc:∀ j,w'.cell? ⟨g,j,none⟩=w.cell? ⟨g,j,none⟩:=fun j=>World.cell?_of_block (w:=w) (w':=w') (a:=⟨g,j,none⟩) hblk
 refine⟨y_ h.lt hb.size,fun j=>?_,fun j z=>by rw[hc];exact h.nu j z,⟨es,h1,fun i hi j u hu=>by rw[hc];exact h2 i hi j u hu,fun i hi hi'=>(h3 i hi hi').below hb⟩,h.cap⟩
 have:=h.fr j
 unfold World.frozen? at this ⊢
 simp only[hblk]
 exact this
theorem eZ.of_own {w:World}{base:Nat}{v:Value}{zs:List CQ} (h:cw w base v zs) (hz:0<zs.length):∃ g cap,v=.slice (some ⟨g,0,none⟩) zs.length cap∧base≤g∧eZ w g cap zs:=by
 obtain⟨es,h1,h2,h3⟩:=h.p
 have hrow:=eT (iN h1 h3) h2
 rcases h2.2 with ⟨rfl,h0⟩ | ⟨g,cap,cur,rfl,hg,hh,hn,hm,hs,ht⟩
 ·omega
 ·obtain⟨p,c,e,e1,e2,e3⟩:=hrow
  obtain⟨b,o,e4,hlt,hc⟩:=e3 (by omega)
  subst e4
  simp only[Value.slice.injEq,Option.some.injEq,Addr.mk.injEq,and_true] at e
  obtain⟨⟨rfl,rfl⟩,-,rfl⟩:=e
  refine⟨g,cap,by rw[h1],hg,hlt,fun j=>by rw[World.frozen?,hh];simp,fun j z=>h.nu g rfl j z,⟨es,h1,fun i hi j u hu=>?_,h3⟩,by omega,hm⟩
  have:=hc i hi j u hu
  rwa [z6] at this
theorem eZ.set {w:World}{g cap k:Nat}{zs:List CQ}{a b c d e f:Value}{z:CQ} (h:eZ w g cap zs) (hk:k<zs.length) (hK:IsK w (.agg #[a,b,c,d,e,f]) z) :
  eZ (w.setCells g (k*6) [a,b,c,d,e,f]) g cap (zs.set k z)∧(∀ u l,IsU w u l→IsU (w.setCells g (k*6) [a,b,c,d,e,f]) u l)∧Below g w (w.setCells g (k*6) [a,b,c,d,e,f])∧∀ i,i≠g→(w.setCells g (k*6) [a,b,c,d,e,f]).heap[i]?=w.heap[i]?:=by
 obtain⟨es,h1,h2,h3⟩:=h.row
 have h6:=iN h1 h3
 obtain⟨xm,xp,xl,xc,xq,xk,xd,ym,yp,yl,yc,yq,yk,yd,he⟩:=hK.forms
 have hin:∀ j,j<6→(w.cell? ⟨g,k*6+j,none⟩).isSome=true:=fun j hj=>by
  have hlt:j<(cellsOf (es[k]'(by omega))).length:=by rw[h6 _ (zn _)];exact hj
  rw[h2 k (by omega) j _ (zm hlt)];rfl
 have hnot:∀ u∈[a,b,c,d,e,f],∀ z,u≠.int .u64 z:=by
  simp only[Value.agg.injEq,Array.mk.injEq,List.cons.injEq,and_true] at he
  obtain⟨rfl,rfl,rfl,rfl,rfl,rfl⟩:=he
  intro u hu z e
  subst e
  simp at hu
 have hcin:=World.cell?_setCells_in g [a,b,c,d,e,f] (k*6) w hin
 have hcout:=fun x h=>World.cell?_setCells_out g [a,b,c,d,e,f] (k*6) w x h
 have hb:Below g w (w.setCells g (k*6) [a,b,c,d,e,f]) :=
  ((((((Below.refl g w).setCell (p:=⟨g,k*6,none⟩) (y9 _) a).setCell (p:=⟨g,k*6+1,none⟩) (y9 _) b).setCell (p:=⟨g,k*6+1+1,none⟩) (y9 _) c).setCell (p:=⟨g,k*6+1+1+1,none⟩) (y9 _) d).setCell (p:=⟨g,k*6+1+1+1+1,none⟩) (y9 _) e).setCell (p:=⟨g,k*6+1+1+1+1+1,none⟩) (y9 _) f
 have hU:∀ u l,IsU w u l→IsU (w.setCells g (k*6) [a,b,c,d,e,f]) u l:=fun u l hu=>by
  obtain⟨p,cp,e1,e2,e3,e4⟩:=hu
  refine⟨p,cp,e1,e2,e3,fun hl=>?_⟩
  obtain⟨b',o,e5,hlt,hc⟩:=e4 hl
  refine⟨b',o,e5,y_ hlt hb.size,fun j hj=>?_⟩
  rw[hcout ⟨b',o+j,none⟩ (fun (hbb:b'=g) _=>?_)]
  ·exact hc j hj
  ·subst hbb
   exact absurd (hc j hj) (h.nu _ _)
 refine⟨⟨y_ h.lt hb.size,fun j=>?_,fun j z' hc=>?_,⟨es.set k (.agg #[a,b,c,d,e,f]),by simp[h1],fun i hi j u hu=>?_,fun i hi hi'=>?_⟩,by simpa using h.cap⟩,hU,hb,fun i hi=>?_⟩
 ·rw[World.frozen?_setCells];exact h.fr j
 ·by_cases hj:k*6≤j∧j<k*6+6
  ·obtain⟨r,rfl⟩:∃ r,j=k*6+r:=⟨j-k*6,by omega⟩
   have hr:r < [a,b,c,d,e,f].length:=by simp;omega
   rw[hcin r hr] at hc
   exact hnot _ (zn hr) z' (Option.some.inj hc)
  ·rw[hcout ⟨g,j,none⟩ (fun _ _=>by show j<k*6∨k*6+[a,b,c,d,e,f].length≤j;simp;omega)] at hc
   exact h.nu j z' hc
 ·have hi0:i<es.length:=by simpa using hi
  by_cases hik:k=i
  ·subst hik
   rw[Be] at hu
   have hr:j < [a,b,c,d,e,f].length:=(z8.1 hu).1
   rw[hcin j hr]
   rw[←hu];show some _=[a,b,c,d,e,f][j]?;rw[zm hr]
  ·rw[Bl hik] at hu
   have hj:j<6:=by
    have:=(z8.1 hu).1
    rwa [h6 _ (zn hi0)] at this
   rw[hcout ⟨g,i*6+j,none⟩ (fun _ _=>by show i*6+j<k*6∨k*6+[a,b,c,d,e,f].length≤i*6+j;simp;omega)]
   exact h2 i hi0 j u hu
 ·by_cases hik:k=i
  ·subst hik
   rw[Be,Be]
   exact hK.keepU hU
  ·rw[Bl hik,Bl hik]
   exact (h3 i (by simpa using hi) (by simpa using hi')).keepU hU
 ·show ((((((w.setCell ⟨g,k*6,none⟩ a).setCell ⟨g,k*6+1,none⟩ b).setCell ⟨g,k*6+1+1,none⟩ c).setCell ⟨g,k*6+1+1+1,none⟩ d).setCell ⟨g,k*6+1+1+1+1,none⟩ e).setCell ⟨g,k*6+1+1+1+1+1,none⟩ f).heap[i]?=_
  rw[Below.heap_setCell _ _ _ _ hi,Below.heap_setCell _ _ _ _ hi,Below.heap_setCell _ _ _ _ hi,Below.heap_setCell _ _ _ _ hi,Below.heap_setCell _ _ _ _ hi,Below.heap_setCell _ _ _ _ hi]
theorem cw.apart {w w':World}{base g:Nat}{v:Value}{zs:List CQ} (h:cw w base v zs) (hg:g<base) (hk:∀ i,i≠g→w'.heap[i]?=w.heap[i]?) (hU:∀ u l,IsU w u l→IsU w' u l):cw w' base v zs:=by
 obtain⟨es,h1,h2,h3⟩:=h.p
 refine⟨⟨es,h1,⟨h2.1,?_⟩,fun i hi hi'=>(h3 i hi hi').keepU hU⟩,fun b hb j z hc=>?_⟩
 ·rcases h2.2 with h | ⟨b,cap,cur,rfl,hb,hh,r⟩
  ·exact Or.inl h
  ·exact Or.inr ⟨b,cap,cur,rfl,hb,by rw[hk b (by omega)];exact hh,r⟩
 ·have hlt:=(h2.lt b hb).1
  rw[World.cell?_of_block (w:=w) (w':=w') (a:=⟨b,j,none⟩) (hk b (by omega))] at hc
  exact h.nu b hb j z hc
theorem cw.lower {w:World}{base base':Nat}{v:Value}{zs:List CQ} (h:cw w base v zs) (hb:base'≤base):cw w base' v zs:=by
 obtain⟨es,h1,h2,h3⟩:=h.p
 refine⟨⟨es,h1,⟨h2.1,?_⟩,h3⟩,h.nu⟩
 rcases h2.2 with h | ⟨b,cap,cur,rfl,hg,r⟩
 ·exact Or.inl h
 ·exact Or.inr ⟨b,cap,cur,rfl,by omega,r⟩
theorem aX.blk {w w':World}{k:Nat}{a b c d e f:Value} (h:aX w k a b c d e f) (hs:w.heap.size≤w'.heap.size) (hb:w'.heap[k]?=w.heap[k]?):aX w' k a b c d e f:=by
 have hc:∀ j,w'.cell? ⟨k,j,none⟩=w.cell? ⟨k,j,none⟩:=fun j=>World.cell?_of_block (w:=w) (w':=w') (a:=⟨k,j,none⟩) hb
 exact⟨y_ h.lt hs,(hc 0).trans h.c0,(hc 1).trans h.c1,(hc 2).trans h.c2,(hc 3).trans h.c3,(hc 4).trans h.c4,(hc 5).trans h.c5⟩
theorem bE.blk {w w':World}{k:Nat}{a b c d e f:Value} (h:bE w k a b c d e f) (hb:w'.heap[k]?=w.heap[k]?):bE w' k a b c d e f:=⟨hb.trans h.hp,h.na,h.nb,h.nc,h.nd,h.ne,h.nf⟩
theorem uT {w:World}{base:Nat}{a b c d e f:Value}{z:CQ} (hK:IsK w (.agg #[a,b,c,d,e,f]) z) (hb:base≤w.heap.size):cw (w.alloc (.cells #[a,b,c,d,e,f] 83)) base (.slice (some ⟨w.heap.size,0,none⟩) 1 1) [z]:=by
 obtain⟨xm,xp,xl,xc,xq,xk,xd,ym,yp,yl,yc,yq,yk,yd,he⟩:=hK.forms
 simp only[Value.agg.injEq,Array.mk.injEq,List.cons.injEq,and_true] at he
 obtain⟨rfl,rfl,rfl,rfl,rfl,rfl⟩:=he
 refine⟨⟨[.agg #[.bool xm,.slice xp xl xc,.slice xq xk xd,.bool ym,.slice yp yl yc,.slice yq yk yd]],rfl,⟨rfl,Or.inr ⟨w.heap.size,1,_,rfl,hb,heap_alloc_new w _,y9 _,by simp[maxLen],rfl,rfl⟩⟩,fun i hi hi'=>?_⟩,fun g hg j u hc=>?_⟩
 ·simp at hi
  subst hi
  exact hK.below (ae _ _)
 ·simp only[Value.ownBlock,Option.some.injEq] at hg
  subst hg
  rw[World.cell?,heap_alloc_new] at hc
  simp only[zV,zu,if_false] at hc
  have:=z_ hc
  simp at this
open Go.RowKit Dg Dc
def Ov (D M:Nat) (q:Rat):Prop:=∃ n:Int,q=(n:Rat) / (D:Rat)∧n.natAbs≤M
theorem eh {D:Nat} (h:0<D):(D:Rat)≠0:=by
 intro e
 have e2:((D:Int):Rat)=((0:Int):Rat):=e
 have:=Rat.intCast_inj.1 e2
 omega
theorem Ov.mono {D M M':Nat}{q:Rat} (h:Ov D M q) (hM:M≤M'):Ov D M' q:=by
 obtain⟨n,e,hn⟩:=h
 exact⟨n,e,zq hn hM⟩
theorem Ov.wide {D M:Nat}{q:Rat} (h:Ov D M q) (E:Nat) (hD:0<D) (hE:0<E):Ov (D*E) (M*E) q:=by
 obtain⟨n,e,hn⟩:=h
 have h1:=eh hD
 have h2:=eh hE
 refine⟨n*E,?_,?_⟩
 ·rw[e,Rat.intCast_mul,Rat.natCast_mul]
  show (n:Rat) / (D:Rat)=(n:Rat)*((E:Nat):Rat) / ((D:Rat)*(E:Rat))
  grind
 ·rw[A9];exact zg _ hn
theorem Ov.add {D M N:Nat}{a b:Rat} (h1:Ov D M a) (h2:Ov D N b):Ov D (M+N) (a+b):=by
 obtain⟨n,e,hn⟩:=h1
 obtain⟨m,f,hm⟩:=h2
 refine⟨n+m,?_,by omega⟩
 rw[e,f,Rat.intCast_add]
 grind
theorem Ov.neg {D M:Nat}{a:Rat} (h1:Ov D M a):Ov D M (-a):=by
 obtain⟨n,e,hn⟩:=h1
 refine⟨-n,?_,by omega⟩
 rw[e,Rat.intCast_neg]
 grind
theorem Ov.sub {D M N:Nat}{a b:Rat} (h1:Ov D M a) (h2:Ov D N b):Ov D (M+N) (a-b):=by
 rw[Rat.sub_eq_add_neg];exact h1.add h2.neg
theorem Ov.mul {D E M N:Nat}{a b:Rat} (h1:Ov D M a) (h2:Ov E N b) (hD:0<D) (hE:0<E):Ov (D*E) (M*N) (a*b):=by
 obtain⟨n,e,hn⟩:=h1
 obtain⟨m,f,hm⟩:=h2
 have k1:=eh hD
 have k2:=eh hE
 refine⟨n*m,?_,by rw[A9];exact zw hn hm⟩
 rw[e,f,Rat.intCast_mul,Rat.natCast_mul]
 grind
theorem Ov.zero (D:Nat):Ov D 0 0:=⟨0,by rw[show ((0:Int):Rat)=0 from rfl];grind,by simp⟩
theorem rj (q:Rat):(q.num:Rat) / (q.den:Rat)=q:=by rw[←Rat.mkRat_eq_div,Rat.mkRat_self]
theorem Ov.bound {D M:Nat}{q:Rat} (h:Ov D M q) (hD:0<D):q.num.natAbs≤M∧q.den≤D:=by
 obtain⟨n,e,hn⟩:=h
 have k1:=eh hD
 have k2:=eh q.den_pos
 have e2:(q.num:Rat) / (q.den:Rat)=q:=rj q
 have e3:(q.num:Rat)*(D:Rat)=(n:Rat)*(q.den:Rat):=by
  rw[e] at e2
  grind
 have e4:q.num*(D:Int)=n*(q.den:Int):=by
  apply Rat.intCast_inj.1
  rw[Rat.intCast_mul,Rat.intCast_mul]
  exact e3
 have e5:q.num.natAbs*D=n.natAbs*q.den:=by
  have:=congrArg Int.natAbs e4
  rw[A9,A9] at this
  exact this
 have hc:Nat.Coprime q.num.natAbs q.den:=q.reduced
 have d1:q.den ∣ D:=(Nat.Coprime.symm hc).dvd_of_dvd_mul_left ⟨n.natAbs,by rw[e5,zC]⟩
 have d2:q.num.natAbs ∣ n.natAbs:=hc.dvd_of_dvd_mul_right ⟨D,by rw[←e5]⟩
 refine⟨?_,Nat.le_of_dvd hD d1⟩
 rcases Ah n.natAbs with h0 | h0
 ·rw[h0,Ao] at e5
  rcases Nat.mul_eq_zero.1 e5 with h | h
  ·omega
  ·omega
 ·exact zq (Nat.le_of_dvd h0 d2) hn
theorem Ov.of (q:Rat):Ov q.den q.num.natAbs q:=⟨q.num,(rj q).symm,y9 _⟩
theorem Ov.ok {D M:Nat}{q:Rat} (h:Ov D M q) (hD:0<D) (h1:D<10 ^ 2000) (h2:M<10 ^ 2000):okQ q:=by
 obtain⟨b1,b2⟩:=h.bound hD
 exact uP (zE b1 h2) (zE b2 h1)
structure OvC (D M:Nat) (z:CQ):Prop where
 re:Ov D M z.re
 im:Ov D M z.im
 pos:0<D
theorem OvC.mono {D M M':Nat}{z:CQ} (h:OvC D M z) (hM:M≤M'):OvC D M' z:=⟨h.re.mono hM,h.im.mono hM,h.pos⟩
theorem OvC.wide {D M:Nat}{z:CQ} (h:OvC D M z) (E:Nat) (hE:0<E):OvC (D*E) (M*E) z:=⟨h.re.wide E h.pos hE,h.im.wide E h.pos hE,z7 h.pos hE⟩
theorem OvC.add {D M N:Nat}{a b:CQ} (h1:OvC D M a) (h2:OvC D N b):OvC D (M+N) (a.add b):=⟨h1.re.add h2.re,h1.im.add h2.im,h1.pos⟩
theorem OvC.mul {D E M N:Nat}{a b:CQ} (h1:OvC D M a) (h2:OvC E N b):OvC (D*E) (2*(M*N)) (a.mul b) :=
 ⟨((h1.re.mul h2.re h1.pos h2.pos).sub (h1.im.mul h2.im h1.pos h2.pos)).mono (by omega),((h1.re.mul h2.im h1.pos h2.pos).add (h1.im.mul h2.re h1.pos h2.pos)).mono (by omega),z7 h1.pos h2.pos⟩
theorem OvC.real {D M:Nat}{q:Rat} (h:Ov D M q) (hD:0<D):OvC D M (CQ.real q):=⟨h,(Ov.zero D).mono (zj _),hD⟩
theorem OvC.ok {D M:Nat}{z:CQ} (h:OvC D M z) (h1:D<10 ^ 2000) (h2:M<10 ^ 2000):cF z=false:=by
 have k1:=(i7 _).1 (h.re.ok h.pos h1 h2)
 have k2:=(i7 _).1 (h.im.ok h.pos h1 h2)
 unfold cF
 rw[k1,k2];rfl
theorem OvC.div {D E M N:Nat}{a b:CQ} (h1:OvC D M a) (h2:OvC E N b) (hb:b≠⟨0,0⟩):∃ F,F≤D*(2*(N*N))∧OvC F (2*(M*N)*E) (a.div b):=by
 obtain⟨n,e1,hn⟩:=h2.re
 obtain⟨m,e2,hm⟩:=h2.im
 have hE:=eh h2.pos
 have hnorm:=CQ.norm_ne hb
 obtain⟨k,hk⟩:∃ k:Nat,k=n.natAbs*n.natAbs+m.natAbs*m.natAbs:=⟨_,rfl⟩
 have hkI:(k:Int)=n*n+m*m:=by
  rw[hk,Int.natCast_add,A5,A5,Int.natAbs_mul_self',Int.natAbs_mul_self']
 have hkQ:(k:Rat)=(n:Rat)*n+(m:Rat)*m:=by
  have:=congrArg (fun x:Int=>(x:Rat)) hkI
  simp only[Rat.intCast_add,Rat.intCast_mul] at this
  exact this
 have hno:b.norm=(k:Rat) / ((E:Rat)*(E:Rat)):=by
  unfold CQ.norm
  rw[e1,e2,hkQ]
  grind
 have hk0:0<k:=by
  rcases Ah k with h | h
  ·exfalso
   apply hnorm
   rw[hno,h,show ((0:Nat):Rat)=0 from rfl]
   grind
  ·exact h
 have hkc:=eh hk0
 have hkl:k≤2*(N*N):=by
  have:=zw hn hn
  have:=zw hm hm
  omega
 have step:∀ x:Rat,Ov (D*E) (2*(M*N)) x→Ov (D*k) (2*(M*N)*E) (x*b.norm⁻¹):=by
  rintro x ⟨X,ex,hX⟩
  have hDc:=eh h1.pos
  refine⟨X*E,?_,by rw[A9];exact zw hX (by simp)⟩
  rw[hno,ex,Rat.natCast_mul,Rat.natCast_mul,Rat.intCast_mul]
  show (X:Rat) / ((D:Rat)*(E:Rat))*((k:Rat) / ((E:Rat)*(E:Rat)))⁻¹=(X:Rat)*((E:Nat):Rat) / ((D:Rat)*(k:Rat))
  grind
 refine⟨D*k,zp _ hkl,?_,?_,z7 h1.pos hk0⟩
 ·exact step _ (((h1.re.mul h2.re h1.pos h2.pos).add (h1.im.mul h2.im h1.pos h2.pos)).mono (by omega))
 ·exact step _ (((h1.im.mul h2.re h1.pos h2.pos).sub (h1.re.mul h2.im h1.pos h2.pos)).mono (by omega))
theorem mg {t:List UInt8}:∀ {m:Nat},(∀ k c,1≤k→k≤m→t[k]?=some c→c≠43∧c≠45)→bZ t m=none
 | 0,_=>rfl
 | m+1,h=>by
  unfold bZ
  rw[if_neg,mg (fun k c h1 h2 h3=>h k c h1 (by omega) h3)]
  rintro (e | e)
  ·exact (h _ _ (by omega) (y9 _) e).1 rfl
  ·exact (h _ _ (by omega) (y9 _) e).2 rfl
theorem oL {t:List UInt8}{k0:Nat} (h0:1≤k0) (hs:t[k0]?=some 43∨t[k0]?=some 45):∀ {m:Nat},k0≤m→(∀ k c,k0<k→k≤m→t[k]?=some c→c≠43∧c≠45)→bZ t m=some k0
 | 0,hm,_=>by omega
 | m+1,hm,h=>by
  unfold bZ
  by_cases e:m+1=k0
  ·subst e
   rw[if_pos hs]
  ·rw[if_neg,oL h0 hs (by omega) (fun k c h1 h2 h3=>h k c h1 (by omega) h3)]
   rintro (e2 | e2)
   ·exact (h _ _ (by omega) (y9 _) e2).1 rfl
   ·exact (h _ _ (by omega) (y9 _) e2).2 rfl
theorem rU (r:Rt):∀ c∈dP r,c≠43∧c≠45:=by
 intro c hc
 unfold dP at hc
 rcases AA.1 hc with h | h
 ·have:=gE (zF.1 (cV r.n) _ h);exact⟨this.1,this.2.1⟩
 ·split at h
  ·rcases zW.1 h with rfl | h
   ·decide
   ·have:=gE (zF.1 (cV r.d) _ h);exact⟨this.1,this.2.1⟩
  ·cases h
def bT (r:Rt):List UInt8:=if dP r=[49] then [] else dP r
theorem iQ (r:Rt):∀ c∈bT r,c≠43∧c≠45:=by
 intro c hc
 unfold bT at hc
 split at hc
 ·cases hc
 ·exact rU r c hc
theorem ko (r:Rt):cE r=(if r.minus then [45] else [])++bT r:=by
 obtain⟨c,t,e1,e2⟩:=iM r
 have hc:=gE e2
 unfold cE bT
 rw[eE]
 cases r.minus
 ·simp only[zu,if_false,zH]
  by_cases h:dP r=[49]
  ·rw[if_pos (Or.inl h),if_pos h,h];rfl
  ·rw[if_neg,if_neg h]
   rintro (e | e)
   ·exact h e
   ·rw[e1] at e;exact hc.2.1 (List.cons.inj e).1
 ·simp only[if_true,zO,zH]
  by_cases h:dP r=[49]
  ·rw[if_pos (Or.inr (by rw[h])),if_pos h,h];rfl
  ·rw[if_neg,if_neg h]
   rintro (e | e)
   ·exact absurd (List.cons.inj e).1 (by decide)
   ·exact h (List.cons.inj e).2
theorem yF (r:Rt):(if cE r=[]∨cE r=[45] then cE r++[49] else cE r)=aI r:=by
 obtain⟨c,t,e1,e2⟩:=iM r
 have hc:=gE e2
 rw[ko,eE]
 unfold bT
 by_cases h:dP r=[49]
 ·rw[if_pos h,h]
  cases r.minus
  ·rfl
  ·rfl
 ·rw[if_neg h]
  rw[if_neg]
  rintro (e | e)
  ·cases hm:r.minus
   ·rw[hm,e1] at e;cases e
   ·rw[hm] at e;cases e
  ·cases hm:r.minus
   ·rw[hm] at e
    simp only[zu,if_false,zH] at e
    rw[e1] at e
    exact hc.2.1 (List.cons.inj e).1
   ·rw[hm] at e
    simp only[if_true,zO,zH] at e
    have:=(List.cons.inj e).2
    rw[e1] at this;cases this
theorem mR {l:List UInt8}{k:Nat}{c:UInt8} (h:l[k]?=some c):c∈l:=AE h
theorem oB (X l:List UInt8) (d:UInt8) (hX:1≤X.length) (hd:d=43∨d=45) (hl:∀ c∈l,c≠43∧c≠45):jy (X++d :: l)=(X,Lib.trimPrefix (d :: l) [43]):=by
 have hs:bZ (X++d :: l) ((X++d :: l).length-1)=some X.length:=by
  refine oL hX ?_ (by simp) (fun k c h1 _ h3=>?_)
  ·rw[A3 (y9 _),A8]
   rcases hd with rfl | rfl
   ·exact Or.inl rfl
   ·exact Or.inr rfl
  ·rw[A3 (by omega),show k-X.length=(k-X.length-1)+1 from by omega,AM] at h3
   exact hl c (mR h3)
 unfold jy
 rw[hs]
 simp only
 rw[Bh rfl,List.drop_left' rfl]
theorem u4 (l:List UInt8) (hl:∀ k c,1≤k→l[k]?=some c→c≠43∧c≠45):jy l=([48],l):=by
 unfold jy
 rw[mg (fun k c h1 _ h3=>hl k c h1 h3)]
theorem xw (y:Rt):∀ k c,1≤k→(cE y)[k]?=some c→c≠43∧c≠45:=by
 intro k c h1 h3
 rw[ko] at h3
 cases hm:y.minus
 ·rw[hm] at h3
  exact iQ y c (mR h3)
 ·rw[hm] at h3
  simp only[if_true,zO,zH] at h3
  rw[show k=(k-1)+1 from by omega,AM] at h3
  exact iQ y c (mR h3)
theorem yV (x y:Rt) (b:Bool):jy ((if b then [] else aI x++(if y.minus then [] else [43]))++cE y)=(if b then [48] else aI x,cE y):=by
 cases b
 ·simp only[zu,if_false]
  have hX:=oC x
  cases hm:y.minus
  ·simp only[zu,if_false]
   have hy:cE y=bT y:=by rw[ko,hm];rfl
   rw[zS,AV,oB _ _ 43 hX (Or.inl rfl) (by rw[hy];exact iQ y)]
   unfold Lib.trimPrefix
   rw[fW,decide_eq_true rfl];rfl
  ·simp only[if_true,Aa]
   have hy:cE y=45 :: bT y:=by rw[ko,hm];rfl
   rw[hy,oB _ _ 45 hX (Or.inr rfl) (iQ y)]
   unfold Lib.trimPrefix
   rw[fW,decide_eq_false (by decide)];rfl
 ·simp only[if_true,zH]
  exact u4 _ (xw y)
theorem oN (l:List UInt8):Lib.hasSuffix (l++[105]) [105]=true∧Lib.trimSuffix (l++[105]) [105]=l:=by
 have h:Lib.hasSuffix (l++[105]) [105]=true:=by
  unfold Lib.hasSuffix
  rw[Bu]
  exact⟨l,rfl⟩
 refine⟨h,?_⟩
 unfold Lib.trimSuffix
 rw[h]
 simp
theorem dl {z:CQ} (h:cF z=false):dC (txt z)=some z:=by
 by_cases hi:z.im=0
 ·have e:z=CQ.real z.re:=by cases z;simp only at hi;subst hi;rfl
  rw[e] at h ⊢
  exact lO h
 ·have hb:=h
  unfold cF at hb
  simp only[Aj] at hb
  have hyn:(ct z).y.n≠0:=fun e=>hi ((aO _).1 e)
  obtain⟨b,hbx⟩:∃ b:Bool,b=decide ((ct z).x.n=0):=⟨_,rfl⟩
  have hv:b_ (ct z)=((if b then [] else aI (ct z).x++(if (ct z).y.minus then [] else [43]))++cE (ct z).y)++[105]:=by
   unfold b_
   rw[if_neg hyn,hbx]
   simp only[decide_eq_true_eq]
  have hg:eO (b_ (ct z))=some (ct z):=by
   have hl1:=ll hb.1
   have hl2:=ll hb.2
   have hl3:(cE (ct z).y).length≤4002:=by
    unfold cE
    split
    ·rw[zK];have:(aI (ct z).y).length≤4002:=hl2;omega
    ·exact hl2
   have hlen:(b_ (ct z)).length≤8008:=by
    rw[hv]
    have:(aI (ct z).x).length≤4002:=hl1
    simp only[zl,zJ,Ab]
    split<;>(try split)<;>simp<;>omega
   have hp:dW (b_ (ct z))=(if b then [48] else aI (ct z).x,aI (ct z).y):=by
    unfold dW
    rw[hv,(oN _).1,(oN _).2,yV]
    simp only[if_true]
    rw[yF]
   have hx:bH (if b then [48] else aI (ct z).x)=some (ct z).x:=by
    cases b
    ·exact gL (j_ z.re)
    ·have:(ct z).x.n=0:=by simpa using hbx
     have h0:z.re=0:=(aO _).1 this
     show bH [48]=some (rt z.re)
     rw[h0,fe]
     exact jQ
   unfold eO
   rw[if_neg (by omega),hp]
   simp only
   rw[hx,show bH (aI (ct z).y)=some (ct z).y from gL (j_ z.im)]
   simp only
   rw[if_pos ⟨trivial,hb.1,hb.2⟩]
  unfold dC txt
  simp only[Bm]
  rw[hg]
  simp only[Bk]
  show some (⟨toQ (rt z.re),toQ (rt z.im)⟩:CQ)=some z
  rw[qk,qk]
theorem i_ {z:CQ} (h:cF z=false):ck z=(txt z,0):=by unfold ck;rw[if_neg (by rw[h];decide)]
theorem gU:txt ⟨0,0⟩=⟨#[48]⟩:=by decide +kernel
theorem xx:cF ⟨0,0⟩=false:=by decide +kernel
theorem rH {a b:CQ} (ha:cF a=false) (hb:cF b=false) (h:txt a=txt b):a=b:=by
 have e:=dl ha
 rw[h,dl hb] at e
 exact (Option.some.inj e).symm
def evQ (w:CQ) (qs:List Rat):CQ:=qs.foldr (fun q acc=>(acc.mul w).add (CQ.real q)) ⟨0,0⟩
theorem mv (w:CQ):((⟨0,0⟩:CQ).mul w).add ⟨0,0⟩=⟨0,0⟩:=by
 unfold CQ.mul CQ.add
 congr 1<;>grind
theorem wD (x:CQ) (zs:List CQ):atL (bB zs) x=zs.foldr (fun z acc=>(acc.mul x).add z) ⟨0,0⟩:=by
 have key:∀ l:List CQ,(l.dropWhile fun z=>decide (z=⟨0,0⟩)).foldl (fun (acc:CQ) (z:CQ)=>(acc.mul x).add z) (⟨0,0⟩:CQ)=l.foldl (fun (acc:CQ) (z:CQ)=>(acc.mul x).add z) (⟨0,0⟩:CQ):=by
  intro l
  induction l with
  | nil=>rfl
  | cons z l ih =>
   rw[List.dropWhile_cons]
   by_cases h:z=⟨0,0⟩
   ·rw[if_pos (by simpa using h),ih,BI,h,mv]
   ·rw[if_neg (by simpa using h)]
 unfold atL iw bB
 rw[zd,List.foldr_reverse,key,List.foldl_reverse]
theorem xX (qs:List Rat) (w:CQ):atL (bB (qs.map CQ.real)) w=evQ w qs:=by
 rw[wD,List.foldr_map];rfl
theorem pA {s:ByteArray} (h:bm s.data.toList=true):∃ q,s=tq q∧okQ q∧q.num.natAbs≤4096∧q.den≤4096:=by
 obtain⟨q,rfl,hq⟩:=qF h
 refine⟨q,rfl,hq,?_⟩
 unfold bm at h
 simp only[zt] at h
 have e:(tq q).data.toList=aI (rt q):=by
  show b_ (ct (CQ.real q))=_
  rw[cr (z:=ct (CQ.real q)) (by show (rt 0).n=0;rw[fe])];rfl
 have h2:=h.2
 rw[e] at h2
 unfold dZ at h2
 rw[(jF (rt q)).1,mh (rt q) (cQ q)] at h2
 unfold nh at h2
 simp only[zt,decide_eq_true_eq] at h2
 exact h2
theorem kz:∀ l:List ByteArray,(∀ s∈l,bm s.data.toList=true)→∃ qs:List Rat,∃ D,l=qs.map tq∧0<D∧D≤4096 ^ l.length∧(∀ q∈qs,Ov D (4096*4096 ^ l.length) q∧okQ q)
 | [],_=>⟨[],1,rfl,by decide,by simp,fun q h=>by cases h⟩
 | s :: l,h=>by
  obtain⟨q,rfl,hq,hn,hd⟩:=pA (h s (zB ..))
  obtain⟨qs,D,rfl,hD,hDl,hall⟩:=kz l (fun t ht=>h t (zv _ ht))
  have hdp:=q.den_pos
  have hp:(4096:Nat) ^ (qs.map tq).length*4096=4096 ^ (tq q :: qs.map tq).length:=by rw[zJ,zr]
  refine⟨q :: qs,D*q.den,rfl,z7 hD hdp,?_,?_⟩
  ·rw[←hp];exact zw hDl hd
  ·intro r hr
   rcases zW.1 hr with rfl | hr
   ·refine⟨?_,hq⟩
    have h1:=(Ov.of r).wide D hdp hD
    rw[zC r.den D] at h1
    refine h1.mono ?_
    have:=zw hn hDl
    refine zq this ?_
    rw[←hp]
    exact zp _ (Nat.le_mul_of_pos_right _ (by decide))
   ·obtain⟨h1,h2⟩:=hall r hr
    refine⟨(h1.wide q.den hD hdp).mono ?_,h2⟩
    rw[←hp,←AN]
    exact zp _ hd
theorem qB:∀ qs:List Rat,(∀ q∈qs,okQ q)→allC (qs.map tq)=some (qs.map CQ.real)
 | [],_=>rfl
 | q :: qs,h=>by
  show (match dC (tq q),allC (qs.map tq) with | some z,some zs=>some (z :: zs) | _,_=>none)=_
  rw[ff (h q (zB ..)),qB qs (fun r hr=>h r (zv _ hr))]
  rfl
theorem sV {s:ByteArray} (h:eU s=true):∃ z D M,dC s=some z∧OvC D M z∧D≤2 ^ 24∧M≤2 ^ 24:=by
 unfold eU at h
 simp only[zt,decide_eq_true_eq] at h
 obtain⟨⟨⟨h1,h2⟩,h3⟩,h4⟩:=h
 cases hg:dC s with
 | none=>unfold ofC at h1;rw[hg] at h1;cases h1
 | some z =>
  obtain⟨hb,-,-⟩:=iX hg
  unfold cF at hb
  simp only[Aj] at hb
  have k1:okQ z.re:=(i7 _).2 hb.1
  have k2:okQ z.im:=(i7 _).2 hb.2
  have small:∀ q:Rat,okQ q→dZ (ck (CQ.real q)).1.data.toList=true→q.num.natAbs≤4096∧q.den≤4096:=fun q hq hs=>by
   rw[kZ hq] at hs
   have e:(tq q).data.toList=aI (rt q):=by
    show b_ (ct (CQ.real q))=_
    rw[cr (z:=ct (CQ.real q)) (by show (rt 0).n=0;rw[fe])];rfl
   unfold dZ at hs
   rw[show (tq q,(0:Int)).1.data.toList=aI (rt q) from e,(jF (rt q)).1,mh (rt q) (cQ q)] at hs
   unfold nh at hs
   simp only[zt,decide_eq_true_eq] at hs
   exact hs
  unfold ofC at h3 h4
  rw[hg] at h3 h4
  obtain⟨a1,a2⟩:=small _ k1 h3
  obtain⟨b1,b2⟩:=small _ k2 h4
  have p1:=z.re.den_pos
  have p2:=z.im.den_pos
  refine⟨z,z.re.den*z.im.den,4096*4096,rfl,⟨((Ov.of z.re).wide _ p1 p2).mono (zw a1 b2),?_,z7 p1 p2⟩,zq (zw a2 b2) (by decide),by decide⟩
  have:=(Ov.of z.im).wide _ p2 p1
  rw[zC z.im.den] at this
  exact this.mono (zw b1 a2)
theorem qI {w:CQ}{E:Nat}{D M:Nat} (hw:OvC E (2 ^ 49) w) (hE:E≤2 ^ 49) (hD:0<D):∀ qs:List Rat,(∀ q∈qs,Ov D M q)→OvC (D*E ^ qs.length) (qs.length*(M*2 ^ (50*qs.length))) (evQ w qs)
 | [],_=>⟨(Ov.zero _).mono (zj _),(Ov.zero _).mono (zj _),by simpa using hD⟩
 | q :: qs,h=>by
  have ih:=qI hw hE hD qs (fun r hr=>h r (zv _ hr))
  have h1:=ih.mul hw
  have hEp:0<E ^ (qs.length+1):=AH hw.pos
  have h2:=(OvC.real (h q (zB ..)) hD).wide (E ^ (qs.length+1)) hEp
  have e:D*E ^ qs.length*E=D*E ^ (qs.length+1):=by rw[AN,zr]
  rw[e] at h1
  have h3:=h1.add h2
  show OvC (D*E ^ (qs.length+1)) ((qs.length+1)*(M*2 ^ (50*(qs.length+1)))) (((evQ w qs).mul w).add (CQ.real q))
  refine h3.mono ?_
  have p50:(2:Nat) ^ (50*(qs.length+1))=2 ^ (50*qs.length)*2 ^ 50:=by rw[BN,Aw,zQ]
  have a1:2*(qs.length*(M*2 ^ (50*qs.length))*2 ^ 49)=qs.length*(M*2 ^ (50*(qs.length+1))):=by
   rw[p50,show (2:Nat) ^ 50=2*2 ^ 49 from by decide]
   simp only[Nat.mul_left_comm,zC,AN]
  have a2:M*E ^ (qs.length+1)≤M*2 ^ (50*(qs.length+1)):=by
   refine zp _ ?_
   rw[AR]
   exact Bn (zq hE (by decide)) _
  rw[a1,zT,AG]
  exact Nat.add_le_add_left a2 _
end Go.Proofs.YtomkanblohhpfaaGreatDoor
