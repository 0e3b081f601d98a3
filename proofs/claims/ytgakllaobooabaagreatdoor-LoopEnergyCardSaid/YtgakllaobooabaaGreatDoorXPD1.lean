/- L -/
import Derived.Laws.IdiomCopy
import Derived.Test.YtgakllaobooabaaGreatDoorXLP13
import Derived.Test.YtgakllaobooabaaGreatDoorXPM2
import Derived.Test.YtgakllaobooabaaGreatDoorXRng2
import Derived.Test.YtgakllaobooabaaGreatDoorXB
set_option linter.all false
set_option maxRecDepth 100000
set_option maxHeartbeats 8000000
namespace Go.Proofs.YtgakllaobooabaaGreatDoor
open Go.RowKit Dg
theorem CQ.norm_ne {c:CQ} (h:c≠⟨0,0⟩):c.norm≠0:=fun e=>h (jI e)
theorem CQ.div_mul {z c:CQ} (h:c≠⟨0,0⟩):(z.div c).mul c=z:=by
 have hn:=CQ.norm_ne h;obtain⟨a,b⟩:=z;obtain⟨x,y⟩:=c;simp only[CQ.div,CQ.mul,CQ.norm,CQ.mk.injEq] at hn |-;constructor<;>grind
theorem CQ.sub_self (z:CQ):z.sub z=⟨0,0⟩:=by
 obtain⟨a,b⟩:=z;simp only[CQ.sub,CQ.mk.injEq];constructor<;>grind
theorem CQ.mul_inv {z:CQ} (h:z≠⟨0,0⟩):z.mul ((CQ.real 1).div z)=CQ.real 1:=by
 have hn:=CQ.norm_ne h;obtain⟨x,y⟩:=z;simp only[CQ.div,CQ.mul,CQ.norm,CQ.real,CQ.mk.injEq] at hn |-;constructor<;>grind
theorem CQ.div_one (z:CQ):z.div (CQ.real 1)=z:=by
 obtain⟨x,y⟩:=z;simp only[CQ.div,CQ.norm,CQ.real];congr 1<;>grind
theorem CQ.mul_one (z:CQ):z.mul (CQ.real 1)=z:=by
 obtain⟨x,y⟩:=z;simp only[CQ.mul,CQ.real];congr 1<;>grind
theorem CQ.one_ne:CQ.real 1≠⟨0,0⟩:=by decide
def iQ (zs:List CQ) (c:CQ):List CQ:=zs.map fun z=>z.div c
theorem gU (zs:List CQ) (c:CQ):(iQ zs c).length=zs.length:=by simp[iQ]
theorem wF (zs:List CQ):iQ zs (CQ.real 1)=zs:=by
 unfold iQ;rw[show (fun z:CQ=>z.div (CQ.real 1))=id from funext fun z=>z.div_one,List.map_id]
theorem tV (zs:List CQ) (c:CQ) {i:Nat} (h:i<zs.length):(iQ zs c).drop i=zs[i].div c :: (iQ zs c).drop (i+1):=by
 rw[Bi (by rw[gU];exact h)];simp[iQ]
theorem jD {c:CQ} (h:c≠⟨0,0⟩):bA [c]=[c]:=by
 have:=fY [] c
 rwa [if_neg h] at this
theorem tA {a c:CQ} (h:c≠⟨0,0⟩):bA [a,c]=[a,c]:=by
 have:=fY [a] c
 rwa [if_neg h] at this
theorem jX:∀ n:Nat,bA (List.replicate n ⟨0,0⟩)=[]
 | 0=>rfl
 | n+1=>by
  rw[CW,fY,if_pos rfl];exact jX n
theorem qu4 (c:CQ):s_ [c]=[]:=rfl
theorem qu5 {a c:CQ} (h:c≠⟨0,0⟩):s_ [a,c]=[c]:=by
 have e:it [a,c]=[c]:=by
  show [c.mul (CQ.real (((0+1:Nat):Int):Rat))]=[c]
  rw[show CQ.real (((0+1:Nat):Int):Rat)=CQ.real 1 from rfl,CQ.mul_one]
 unfold s_;rw[e];exact jD h
theorem pK {c:CQ} (h:c≠⟨0,0⟩):nN [c] ((CQ.real 1).div c)=[CQ.real 1]:=by
 show bA [c.mul ((CQ.real 1).div c)]=_
 rw[CQ.mul_inv h];exact jD CQ.one_ne
inductive dB:List CQ->Prop
 | one (c:CQ) (h:c≠⟨0,0⟩):dB [c]
 | two (a c:CQ) (h:c≠⟨0,0⟩):dB [a,c]
theorem dB.lean {zs:List CQ} (h:dB zs):bA zs=zs:=by
 cases h with
 | one c h=>exact jD h
 | two a c h=>exact tA h
def a8 (zs:List CQ):List (List CQ):=match zs with
 | []=>[]
 | [c]=>[[c]]
 | [a,c]=>[[a,c],[c]]
 | _=>[]
def gr (s:Int) (p:Int×Int):Int×Int:=if s=0 then p else (if s=-p.2 then p.1+1 else p.1,s)
def iG (x:Rat) (zs:List CQ):Int:=gy (atL zs (CQ.real x)).re 0
def oh (x:Rat) (l:List (List CQ)):Int×Int:=l.foldl (fun p q=>gr (iG x q) p) (0,0)
def ce (zs:List CQ) (x:Rat):Int:=(oh x (a8 zs)).1
theorem sY (x:Rat) {l:List (List CQ)}{i:Nat} (h:i<l.length):oh x (l.take (i+1))=gr (iG x l[i]) (oh x (l.take i)):=by
 unfold oh;rw[<-AM h,List.foldl_append];rfl
open Go.RowKit Dg Dc
def Ov (D M:Nat) (q:Rat):Prop:=∃ n:Int,q=(n:Rat) / (D:Rat)/\n.natAbs<=M
theorem aI {D:Nat} (h:0<D):(D:Rat)≠0:=by
 intro e;have e2:((D:Int):Rat)=((0:Int):Rat):=e;have:=Rat.intCast_inj.1 e2;omega
theorem Ov.mono {D M M':Nat}{q:Rat} (h:Ov D M q) (hM:M<=M'):Ov D M' q:=by
 obtain⟨n,e,hn⟩:=h;exact⟨n,e,AP hn hM⟩
theorem Ov.wide {D M:Nat}{q:Rat} (h:Ov D M q) (E:Nat) (hD:0<D) (hE:0<E):Ov (D*E) (M*E) q:=by
 obtain⟨n,e,hn⟩:=h;have h1:=aI hD;have h2:=aI hE;refine⟨n*E,?_,?_⟩
 ·rw[e,Rat.intCast_mul,Rat.natCast_mul]
  show (n:Rat) / (D:Rat)=(n:Rat)*((E:Nat):Rat) / ((D:Rat)*(E:Rat))
  grind
 ·rw[CK];exact AJ _ hn
theorem Ov.add {D M N:Nat}{a b:Rat} (h1:Ov D M a) (h2:Ov D N b):Ov D (M+N) (a+b):=by
 obtain⟨n,e,hn⟩:=h1;obtain⟨m,f,hm⟩:=h2;refine⟨n+m,?_,by omega⟩;rw[e,f,Rat.intCast_add];grind
theorem Ov.neg {D M:Nat}{a:Rat} (h1:Ov D M a):Ov D M (-a):=by
 obtain⟨n,e,hn⟩:=h1;refine⟨-n,?_,by omega⟩;rw[e,Rat.intCast_neg];grind
theorem Ov.sub {D M N:Nat}{a b:Rat} (h1:Ov D M a) (h2:Ov D N b):Ov D (M+N) (a-b):=by
 rw[Rat.sub_eq_add_neg];exact h1.add h2.neg
theorem Ov.mul {D E M N:Nat}{a b:Rat} (h1:Ov D M a) (h2:Ov E N b) (hD:0<D) (hE:0<E):Ov (D*E) (M*N) (a*b):=by
 obtain⟨n,e,hn⟩:=h1;obtain⟨m,f,hm⟩:=h2;have k1:=aI hD;have k2:=aI hE;refine⟨n*m,?_,by rw[CK];exact Be hn hm⟩;rw[e,f,Rat.intCast_mul,Rat.natCast_mul];grind
theorem Ov.zero (D:Nat):Ov D 0 0:=⟨0,by rw[show ((0:Int):Rat)=0 from rfl];grind,by simp⟩
theorem ny (q:Rat):(q.num:Rat) / (q.den:Rat)=q:=by rw[<-Rat.mkRat_eq_div,Rat.mkRat_self]
theorem Ov.bound {D M:Nat}{q:Rat} (h:Ov D M q) (hD:0<D):q.num.natAbs<=M/\q.den<=D:=by
 obtain⟨n,e,hn⟩:=h;have k1:=aI hD;have k2:=aI q.den_pos;have e2:(q.num:Rat) / (q.den:Rat)=q:=ny q
 have e3:(q.num:Rat)*(D:Rat)=(n:Rat)*(q.den:Rat):=by
  rw[e] at e2;grind
 have e4:q.num*(D:Int)=n*(q.den:Int):=by
  apply Rat.intCast_inj.1
  rw[Rat.intCast_mul,Rat.intCast_mul];exact e3
 have e5:q.num.natAbs*D=n.natAbs*q.den:=by
  have:=congrArg Int.natAbs e4;rw[CK,CK] at this;exact this
 have hc:Nat.Coprime q.num.natAbs q.den:=q.reduced;have d1:q.den ∣ D:=(Nat.Coprime.symm hc).dvd_of_dvd_mul_left ⟨n.natAbs,by rw[e5,AT]⟩;have d2:q.num.natAbs ∣ n.natAbs:=hc.dvd_of_dvd_mul_right ⟨D,by rw[<-e5]⟩;refine⟨?_,Nat.le_of_dvd hD d1⟩;rcases BJ n.natAbs with h0 | h0
 ·rw[h0,BR] at e5;rcases Nat.mul_eq_zero.1 e5 with h | h
  ·omega
  ·omega
 ·exact AP (Nat.le_of_dvd h0 d2) hn
theorem Ov.of (q:Rat):Ov q.den q.num.natAbs q:=⟨q.num,(ny q).symm,AA _⟩
theorem Ov.ok {D M:Nat}{q:Rat} (h:Ov D M q) (hD:0<D) (h1:D<10 ^ 2000) (h2:M<10 ^ 2000):okQ q:=by
 obtain⟨b1,b2⟩:=h.bound hD;exact nB (AZ b1 h2) (AZ b2 h1)
structure OvC (D M:Nat) (z:CQ):Prop where
 re:Ov D M z.re
 im:Ov D M z.im
 pos:0<D
theorem OvC.mono {D M M':Nat}{z:CQ} (h:OvC D M z) (hM:M<=M'):OvC D M' z:=⟨h.re.mono hM,h.im.mono hM,h.pos⟩
theorem OvC.wide {D M:Nat}{z:CQ} (h:OvC D M z) (E:Nat) (hE:0<E):OvC (D*E) (M*E) z:=⟨h.re.wide E h.pos hE,h.im.wide E h.pos hE,AN h.pos hE⟩
theorem OvC.add {D M N:Nat}{a b:CQ} (h1:OvC D M a) (h2:OvC D N b):OvC D (M+N) (a.add b):=⟨h1.re.add h2.re,h1.im.add h2.im,h1.pos⟩
theorem OvC.mul {D E M N:Nat}{a b:CQ} (h1:OvC D M a) (h2:OvC E N b):OvC (D*E) (2*(M*N)) (a.mul b) :=
 ⟨((h1.re.mul h2.re h1.pos h2.pos).sub (h1.im.mul h2.im h1.pos h2.pos)).mono (by omega),((h1.re.mul h2.im h1.pos h2.pos).add (h1.im.mul h2.re h1.pos h2.pos)).mono (by omega),AN h1.pos h2.pos⟩
theorem OvC.real {D M:Nat}{q:Rat} (h:Ov D M q) (hD:0<D):OvC D M (CQ.real q):=⟨h,(Ov.zero D).mono (AI _),hD⟩
theorem OvC.ok {D M:Nat}{z:CQ} (h:OvC D M z) (h1:D<10 ^ 2000) (h2:M<10 ^ 2000):cV z=false:=by
 have k1:=(nA _).1 (h.re.ok h.pos h1 h2);have k2:=(nA _).1 (h.im.ok h.pos h1 h2);unfold cV;rw[k1,k2];rfl
theorem OvC.div {D E M N:Nat}{a b:CQ} (h1:OvC D M a) (h2:OvC E N b) (hb:b≠⟨0,0⟩):∃ F,F<=D*(2*(N*N))/\OvC F (2*(M*N)*E) (a.div b):=by
 obtain⟨n,e1,hn⟩:=h2.re;obtain⟨m,e2,hm⟩:=h2.im;have hE:=aI h2.pos;have hnorm:=CQ.norm_ne hb;obtain⟨k,hk⟩:∃ k:Nat,k=n.natAbs*n.natAbs+m.natAbs*m.natAbs:=⟨_,rfl⟩
 have hkI:(k:Int)=n*n+m*m:=by
  rw[hk,Int.natCast_add,Cm,Cm,CT,CT]
 have hkQ:(k:Rat)=(n:Rat)*n+(m:Rat)*m:=by
  have:=congrArg (fun x:Int=>(x:Rat)) hkI;simp only[Rat.intCast_add,Rat.intCast_mul] at this;exact this
 have hno:b.norm=(k:Rat) / ((E:Rat)*(E:Rat)):=by
  unfold CQ.norm;rw[e1,e2,hkQ];grind
 have hk0:0<k:=by
  rcases BJ k with h | h
  ·exfalso
   apply hnorm
   rw[hno,h,show ((0:Nat):Rat)=0 from rfl];grind
  ·exact h
 have hkc:=aI hk0
 have hkl:k<=2*(N*N):=by
  have:=Be hn hn;have:=Be hm hm;omega
 have step:∀ x:Rat,Ov (D*E) (2*(M*N)) x->Ov (D*k) (2*(M*N)*E) (x*b.norm⁻¹):=by
  rintro x ⟨X,ex,hX⟩;have hDc:=aI h1.pos;refine⟨X*E,?_,by rw[CK];exact Be hX (by simp)⟩;rw[hno,ex,Rat.natCast_mul,Rat.natCast_mul,Rat.intCast_mul]
  show (X:Rat) / ((D:Rat)*(E:Rat))*((k:Rat) / ((E:Rat)*(E:Rat)))⁻¹=(X:Rat)*((E:Nat):Rat) / ((D:Rat)*(k:Rat))
  grind
 refine⟨D*k,AQ _ hkl,?_,?_,AN h1.pos hk0⟩
 ·exact step _ (((h1.re.mul h2.re h1.pos h2.pos).add (h1.im.mul h2.im h1.pos h2.pos)).mono (by omega))
 ·exact step _ (((h1.im.mul h2.re h1.pos h2.pos).sub (h1.re.mul h2.im h1.pos h2.pos)).mono (by omega))
structure eY (w:World) (g cap:Nat) (zs:List CQ):Prop where
 lt:g<w.heap.size
 fr:∀ j,w.frozen? ⟨g,j,none⟩=false
 nu:∀ j z,w.cell? ⟨g,j,none⟩≠some (.int .u64 z)
 row:∃ es:List Value,es.length=zs.length/\(∀ i (h:i<es.length) j u,(cellsOf es[i])[j]?=some u->w.cell? ⟨g,i*6+j,none⟩=some u)/\∀ i (h:i<es.length) (h':i<zs.length),IsK w es[i] zs[i]
 cap:zs.length<=cap/\cap<=maxLen
theorem eY.isP {w:World}{g cap:Nat}{zs:List CQ} (h:eY w g cap zs):IsP w (.slice (some ⟨g,0,none⟩) zs.length cap) zs:=by
 obtain⟨es,h1,h2,h3⟩:=h.row;refine⟨es,h1,⟨_,cap,by rw[h1],by rw[h1];exact h.cap.1,h.cap.2,fun _=>⟨g,0,rfl,h.lt,fun i hi j u hu=>?_⟩⟩,h3⟩;rw[Bp];exact h2 i hi j u hu
theorem eY.below {w w':World}{g cap:Nat}{zs:List CQ} (h:eY w g cap zs) (hb:Below w.heap.size w w'):eY w' g cap zs:=by
 obtain⟨es,h1,h2,h3⟩:=h.row;have hblk:=hb.block g h.lt;have hc:∀ j,w'.cell? ⟨g,j,none⟩=w.cell? ⟨g,j,none⟩:=fun j=>World.cell?_of_block (w:=w) (w':=w') (a:=⟨g,j,none⟩) hblk;refine⟨AD h.lt hb.size,fun j=>?_,fun j z=>by rw[hc];exact h.nu j z,⟨es,h1,fun i hi j u hu=>by rw[hc];exact h2 i hi j u hu,fun i hi hi'=>(h3 i hi hi').below hb⟩,h.cap⟩;have:=h.fr j;unfold World.frozen? at this |-;simp only[hblk];exact this
theorem eY.of_own {w:World}{base:Nat}{v:Value}{zs:List CQ} (h:cC w base v zs) (hz:0<zs.length):∃ g cap,v=.slice (some ⟨g,0,none⟩) zs.length cap/\base<=g/\eY w g cap zs:=by
 obtain⟨es,h1,h2,h3⟩:=h.p;have hrow:=eS (iZ h1 h3) h2;rcases h2.2 with ⟨rfl,h0⟩ | ⟨g,cap,cur,rfl,hg,hh,hn,hm,hs,ht⟩
 ·omega
 ·obtain⟨p,c,e,e1,e2,e3⟩:=hrow;obtain⟨b,o,e4,hlt,hc⟩:=e3 (by omega);subst e4;simp only[Value.slice.injEq,Option.some.injEq,Addr.mk.injEq,and_true] at e;obtain⟨⟨rfl,rfl⟩,-,rfl⟩:=e;refine⟨g,cap,by rw[h1],hg,hlt,fun j=>by rw[World.frozen?,hh];simp,fun j z=>h.nu g rfl j z,⟨es,h1,fun i hi j u hu=>?_,h3⟩,by omega,hm⟩;have:=hc i hi j u hu
  rwa [Bp] at this
theorem eY.set {w:World}{g cap k:Nat}{zs:List CQ}{a b c d e f:Value}{z:CQ} (h:eY w g cap zs) (hk:k<zs.length) (hK:IsK w (.agg #[a,b,c,d,e,f]) z) :
  eY (w.setCells g (k*6) [a,b,c,d,e,f]) g cap (zs.set k z)/\(∀ u l,IsU w u l->IsU (w.setCells g (k*6) [a,b,c,d,e,f]) u l)/\Below g w (w.setCells g (k*6) [a,b,c,d,e,f])/\∀ i,i≠g->(w.setCells g (k*6) [a,b,c,d,e,f]).heap[i]?=w.heap[i]?:=by
 obtain⟨es,h1,h2,h3⟩:=h.row;have h6:=iZ h1 h3;obtain⟨xm,xp,xl,xc,xq,xk,xd,ym,yp,yl,yc,yq,yk,yd,he⟩:=hK.forms
 have hin:∀ j,j<6->(w.cell? ⟨g,k*6+j,none⟩).isSome=true:=fun j hj=>by
  have hlt:j<(cellsOf (es[k]'(by omega))).length:=by rw[h6 _ (AR _)];exact hj
  rw[h2 k (by omega) j _ (AL hlt)];rfl
 have hnot:∀ u∈[a,b,c,d,e,f],∀ z,u≠.int .u64 z:=by
  simp only[Value.agg.injEq,Array.mk.injEq,List.cons.injEq,and_true] at he;obtain⟨rfl,rfl,rfl,rfl,rfl,rfl⟩:=he;intro u hu z e;subst e;simp at hu
 have hcin:=World.cell?_setCells_in g [a,b,c,d,e,f] (k*6) w hin;have hcout:=fun x h=>World.cell?_setCells_out g [a,b,c,d,e,f] (k*6) w x h
 have hb:Below g w (w.setCells g (k*6) [a,b,c,d,e,f]) :=
  ((((((Dv g w).setCell (p:=⟨g,k*6,none⟩) (AA _) a).setCell (p:=⟨g,k*6+1,none⟩) (AA _) b).setCell (p:=⟨g,k*6+1+1,none⟩) (AA _) c).setCell (p:=⟨g,k*6+1+1+1,none⟩) (AA _) d).setCell (p:=⟨g,k*6+1+1+1+1,none⟩) (AA _) e).setCell (p:=⟨g,k*6+1+1+1+1+1,none⟩) (AA _) f
 have hU:∀ u l,IsU w u l->IsU (w.setCells g (k*6) [a,b,c,d,e,f]) u l:=fun u l hu=>by
  obtain⟨p,cp,e1,e2,e3,e4⟩:=hu;refine⟨p,cp,e1,e2,e3,fun hl=>?_⟩;obtain⟨b',o,e5,hlt,hc⟩:=e4 hl;refine⟨b',o,e5,AD hlt hb.size,fun j hj=>?_⟩;rw[hcout ⟨b',o+j,none⟩ (fun (hbb:b'=g) _=>?_)]
  ·exact hc j hj
  ·subst hbb;exact absurd (hc j hj) (h.nu _ _)
 refine⟨⟨AD h.lt hb.size,fun j=>?_,fun j z' hc=>?_,⟨es.set k (.agg #[a,b,c,d,e,f]),by simp[h1],fun i hi j u hu=>?_,fun i hi hi'=>?_⟩,by simpa using h.cap⟩,hU,hb,fun i hi=>?_⟩
 ·rw[World.frozen?_setCells];exact h.fr j
 ·by_cases hj:k*6<=j/\j<k*6+6
  ·obtain⟨r,rfl⟩:∃ r,j=k*6+r:=⟨j-k*6,by omega⟩;have hr:r < [a,b,c,d,e,f].length:=by simp;omega
   rw[hcin r hr] at hc;exact hnot _ (AR hr) z' (Option.some.inj hc)
  ·rw[hcout ⟨g,j,none⟩ (fun _ _=>by show j<k*6\/k*6+[a,b,c,d,e,f].length<=j;simp;omega)] at hc;exact h.nu j z' hc
 ·have hi0:i<es.length:=by simpa using hi
  by_cases hik:k=i
  ·subst hik;rw[Cv] at hu;have hr:j < [a,b,c,d,e,f].length:=(Bv.1 hu).1;rw[hcin j hr];rw[<-hu];show some _=[a,b,c,d,e,f][j]?;rw[AL hr]
  ·rw[C4 hik] at hu
   have hj:j<6:=by
    have:=(Bv.1 hu).1
    rwa [h6 _ (AR hi0)] at this
   rw[hcout ⟨g,i*6+j,none⟩ (fun _ _=>by show i*6+j<k*6\/k*6+[a,b,c,d,e,f].length<=i*6+j;simp;omega)];exact h2 i hi0 j u hu
 ·by_cases hik:k=i
  ·subst hik;rw[Cv,Cv];exact hK.keepU hU
  ·rw[C4 hik,C4 hik];exact (h3 i (by simpa using hi) (by simpa using hi')).keepU hU
 ·show ((((((w.setCell ⟨g,k*6,none⟩ a).setCell ⟨g,k*6+1,none⟩ b).setCell ⟨g,k*6+1+1,none⟩ c).setCell ⟨g,k*6+1+1+1,none⟩ d).setCell ⟨g,k*6+1+1+1+1,none⟩ e).setCell ⟨g,k*6+1+1+1+1+1,none⟩ f).heap[i]?=_
  rw[Below.heap_setCell _ _ _ _ hi,Below.heap_setCell _ _ _ _ hi,Below.heap_setCell _ _ _ _ hi,Below.heap_setCell _ _ _ _ hi,Below.heap_setCell _ _ _ _ hi,Below.heap_setCell _ _ _ _ hi]
theorem cC.apart {w w':World}{base g:Nat}{v:Value}{zs:List CQ} (h:cC w base v zs) (hg:g<base) (hk:∀ i,i≠g->w'.heap[i]?=w.heap[i]?) (hU:∀ u l,IsU w u l->IsU w' u l):cC w' base v zs:=by
 obtain⟨es,h1,h2,h3⟩:=h.p;refine⟨⟨es,h1,⟨h2.1,?_⟩,fun i hi hi'=>(h3 i hi hi').keepU hU⟩,fun b hb j z hc=>?_⟩
 ·rcases h2.2 with h | ⟨b,cap,cur,rfl,hb,hh,r⟩
  ·exact Or.inl h
  ·exact Or.inr ⟨b,cap,cur,rfl,hb,by rw[hk b (by omega)];exact hh,r⟩
 ·have hlt:=(h2.lt b hb).1;rw[World.cell?_of_block (w:=w) (w':=w') (a:=⟨b,j,none⟩) (hk b (by omega))] at hc;exact h.nu b hb j z hc
theorem cC.lower {w:World}{base base':Nat}{v:Value}{zs:List CQ} (h:cC w base v zs) (hb:base'<=base):cC w base' v zs:=by
 obtain⟨es,h1,h2,h3⟩:=h.p;refine⟨⟨es,h1,⟨h2.1,?_⟩,h3⟩,h.nu⟩;rcases h2.2 with h | ⟨b,cap,cur,rfl,hg,r⟩
 ·exact Or.inl h
 ·exact Or.inr ⟨b,cap,cur,rfl,by omega,r⟩
theorem aW.blk {w w':World}{k:Nat}{a b c d e f:Value} (h:aW w k a b c d e f) (hs:w.heap.size<=w'.heap.size) (hb:w'.heap[k]?=w.heap[k]?):aW w' k a b c d e f:=by
 have hc:∀ j,w'.cell? ⟨k,j,none⟩=w.cell? ⟨k,j,none⟩:=fun j=>World.cell?_of_block (w:=w) (w':=w') (a:=⟨k,j,none⟩) hb;exact⟨AD h.lt hs,(hc 0).trans h.c0,(hc 1).trans h.c1,(hc 2).trans h.c2,(hc 3).trans h.c3,(hc 4).trans h.c4,(hc 5).trans h.c5⟩
theorem bm.blk {w w':World}{k:Nat}{a b c d e f:Value} (h:bm w k a b c d e f) (hb:w'.heap[k]?=w.heap[k]?):bm w' k a b c d e f:=⟨hb.trans h.hp,h.na,h.nb,h.nc,h.nd,h.ne,h.nf⟩
theorem vY {w:World}{base:Nat}{a b c d e f:Value}{z:CQ} (hK:IsK w (.agg #[a,b,c,d,e,f]) z) (hb:base<=w.heap.size):cC (w.alloc (.cells #[a,b,c,d,e,f] 65)) base (.slice (some ⟨w.heap.size,0,none⟩) 1 1) [z]:=by
 obtain⟨xm,xp,xl,xc,xq,xk,xd,ym,yp,yl,yc,yq,yk,yd,he⟩:=hK.forms;simp only[Value.agg.injEq,Array.mk.injEq,List.cons.injEq,and_true] at he;obtain⟨rfl,rfl,rfl,rfl,rfl,rfl⟩:=he;refine⟨⟨[.agg #[.bool xm,.slice xp xl xc,.slice xq xk xd,.bool ym,.slice yp yl yc,.slice yq yk yd]],rfl,⟨rfl,Or.inr ⟨w.heap.size,1,_,rfl,hb,heap_alloc_new w _,AA _,by simp[maxLen],rfl,rfl⟩⟩,fun i hi hi'=>?_⟩,fun g hg j u hc=>?_⟩
 ·simp at hi;subst hi;exact hK.below (ac _ _)
 ·simp only[Value.ownBlock,Option.some.injEq] at hg;subst hg;rw[World.cell?,heap_alloc_new] at hc;simp only[Bj,AU,if_false] at hc;have:=BF hc;simp at this
end Go.Proofs.YtgakllaobooabaaGreatDoor
