/- Lemmas of this claim. -/
import Derived.Test.YtbnkpcfjechfiaaGreatDoorQVec2
import Derived.Test.YtbnkpcfjechfiaaGreatDoorQLP2
import Derived.Test.YtbnkpcfjechfiaaGreatDoorQLSc1
import Derived.Test.YtbnkpcfjechfiaaGreatDoorQRS6
import Derived.Test.YtbnkpcfjechfiaaGreatDoorQPM8
import Derived.Test.YtbnkpcfjechfiaaGreatDoorQLB3
import Derived.Test.YtbnkpcfjechfiaaGreatDoorQLE5
set_option linter.all false
set_option maxRecDepth 100000
set_option maxHeartbeats 8000000
namespace Go.Proofs.YtbnkpcfjechfiaaGreatDoor
open Go.RowKit Dg
theorem kX (v:Value) (qs:List Rat) (w:World) (hl:IsS w v (qs.map tq)) (hq:∀ q∈qs,okQ q) (hlen:qs.length<1000000) :
  Calls Tryz.prog 38 #[v] w fun e w'=>∃ v',e=.returned v'∧du w' w.heap.size v' qs∧Below w.heap.size w w':=by
 obtain⟨p,c,rfl,hc1,hc2⟩:=hl.form;rw[Fp] at hc1 hl ⊢;have HL:=E5 hl;have HN:=E5 hlen;clear hl;go_enter Tryz.func38,Tryz.ntmps38;go_wp2;go_loopw [3,4] (fun s3 s4 wr=>∃ (i:Nat),s4=.int .i64 i∧i≤qs.length∧du wr w.heap.size s3 (qs.take i)∧Below w.heap.size w wr) (fun _ s4 _=>qs.length-(intOf s4).toNat)
 case atStart=>exact⟨0,rfl,Fk _,du.nil _ _,Below.refl _ _⟩
 case round =>
  obtain⟨i,rfl,hin,hown,hbr⟩:=hrel;by_cases hi:i<qs.length
  ·obtain⟨b,o,rfl,hlt,hcell⟩:=IsS.get (HL.out.below hbr) (i:=i) (by simpa using hi);rw[Gb] at hcell;have HO:=E5 (hq qs[i] (Fu hi));have HT:=E5 (Fm hi).symm;obtain⟨q,hqe⟩:∃ q,q=qs[i]:=⟨_,rfl⟩;rw[←hqe] at hcell HO HT;clear hqe;generalize htx:tq q=s at hcell;have HS:=E5 htx;clear htx;go_wp2_with fail
   have hCC:=wQ q wr HO.out;rw[HS.out] at hCC;refine hCC.mono ?_;rintro e w2 ⟨v2,rfl,hv2,hb2⟩;obtain⟨m,a,N,d,a',N',d',rfl⟩:=hv2.forms;have hB2:=hbr.trans (hb2.mono hbr.size);have hw2:=hown.below hb2;clear hCC hb2 hown hcell hbr;have m1:=ak w2 (.cells #[.bool m,.slice a N d,.bool false,.slice a' N' d'] 78);have hcx:=heap_alloc_new w2 (.cells #[.bool m,.slice a N d,.bool false,.slice a' N' d'] 78);have hu3:=hv2.below m1;have hw3:=hw2.below m1;have hB3:=hB2.trans (m1.mono hB2.size);have hbs:=hB3.size;have hzl:(qs.take i).length<1000000000:=by have:=HN.out;simp;omega
   clear hv2 hw2 hB2 m1;go_wp2_with (at_builtin;refine ee 51 Tryz.underlying51 rfl (.tmp 11) (.tmp 17) rfl w.heap.size _ _ m a N d a' N' d' q rfl hw3 _ rfl hcx hu3 hzl hbs ?_)
   intro v' w4 hap;have hB4:=hap.below hw3 hB3 (Fb _) hbs;have hw4:=hap.own;rw[←HT.out] at hw4;clear hap hw3 hu3 hcx hB3 hbs hzl;go_wp2;go_roundw;case rel=>exact⟨i+1,by go_num,by omega,hw4,hB4⟩
   case measure=>simp[intOf];omega
  ·have hin':i=qs.length:=by omega
   subst hin';clear hi;rw[FD] at hown;go_wp2;refine bodyPost_ret (v:=_) (by simp[results,Tryz.results38,go_sem]) rfl ⟨_,rfl,hown,hbr⟩
theorem mI (v:Value) (qs:List Rat) (w:World) (hl:j8 w v qs) (hq:∀ q∈qs,okQ q) (hlen:qs.length<1000000) :
  Calls Tryz.prog 41 #[v] w fun e w'=>∃ v',e=.returned v'∧IsS w' v' (qs.map tq)∧Below w.heap.size w w':=by
 obtain⟨p,c,rfl,hc1,hc2⟩:=hl.form;have HL:=E5 hl;have HN:=E5 hlen;clear hl;go_enter Tryz.func41,Tryz.ntmps41;go_wp2;go_loopw [3,4] (fun s3 s4 wr=>∃ (i:Nat),s4=.int .i64 i∧i≤qs.length∧bE wr w.heap.size s3 ((qs.map tq).take i)∧Below w.heap.size w wr) (fun _ s4 _=>qs.length-(intOf s4).toNat)
 case atStart=>exact⟨0,rfl,Fk _,bE.nil _ _,Below.refl _ _⟩
 case round =>
  obtain⟨i,rfl,hin,hown,hbr⟩:=hrel;by_cases hi:i<qs.length
  ·obtain⟨b,o,rfl,hlt,m,a,N,d,a',N',d',hk,c0,c1,c2,c3⟩:=(HL.out.below hbr).get hi;have HO:=E5 (hq qs[i] (Fu hi))
   have HT:=E5 (show (qs.map tq).take (i+1)=(qs.map tq).take i++[tq qs[i]] by
    rw[show (qs.map tq).take (i+1)=(qs.map tq).take i++[(qs.map tq)[i]'(by simpa using hi)] from (Fm _).symm,Gb])
   obtain⟨q,hqe⟩:∃ q,q=qs[i]:=⟨_,rfl⟩;rw[←hqe] at hk HO HT;clear hqe;go_wp2_with fail
   refine (CY _ q wr hk HO.out).mono ?_;rintro e w2 ⟨rfl,hb2⟩;have hB2:=hbr.trans (hb2.mono hbr.size);have hw2:=hown.below hb2;have hbs:=hB2.size;have hzl:((qs.map tq).take i).length<1000000000:=by have:=HN.out;simp;omega
   generalize tq q=s at HT ⊢;clear hb2 hown hbr hk c0 c1 c2 c3;go_wp2_with (at_builtin;refine aX 22 Tryz.underlying22 rfl (.tmp 11) (.tmp 17) rfl w.heap.size _ _ s rfl hw2 rfl hzl hbs ?_)
   intro v' w3 hw3 hb3;have hB3:=hb3 _ _ hB2 (Fb _);rw[←HT.out] at hw3;clear hb3 hB2 hw2 hbs hzl;go_wp2;go_roundw;case rel=>exact⟨i+1,by go_num,by omega,hw3,hB3⟩
   case measure=>simp[intOf];omega
  ·have hin':i=qs.length:=by omega
   subst hin';clear hi;rw[Fi (by simp)] at hown;have hs:=bE.isS hown;go_wp2;refine bodyPost_ret (v:=_) (by simp[results,Tryz.results41,go_sem]) rfl ⟨_,rfl,hs,hbr⟩
open Go.RowKit Dg Dc
def j_:List Rat→List Rat→List Rat
 | [],_=>[]
 | a :: l,[]=>a :: j_ l []
 | a :: l,b :: m=>(a+b) :: j_ l m
theorem mr:∀ l:List Rat,j_ l []=l
 | []=>rfl
 | a :: l=>by rw[j_,mr l]
theorem yZ (x y:ByteArray) (l m:List ByteArray):dH (x :: l) (y :: m)=gT x y :: dH l m:=by
 unfold dH;rw[show (x :: l).length=l.length+1 from rfl,show (y :: m).length=m.length+1 from rfl,List.range_succ_eq_map,Gv,Ib];congr 1;refine Ij fun i _=>?_;simp only[Function.comp,Nat.succ_eq_add_one,Nat.add_lt_add_iff_right];rfl
theorem BG (l:List ByteArray):dH l []=l:=by
 refine IA (by simp[dH]) fun i h1 h2=>?_;simp only[dH,Gb,Iq,FW,Nat.not_lt_zero,if_false];exact (eK h2).symm
theorem vC:∀ l m:List Rat,m.length≤l.length→(∀ q∈l,okQ q)→(∀ q∈m,okQ q)→(∀ a∈l,∀ b∈m,okQ (a+b))→dH (l.map tq) (m.map tq)=(j_ l m).map tq
 | l,[],_,_,_,_=>by rw[Ic,BG,mr]
 | [],_ :: _,h,_,_,_=>by simp at h
 | a :: l,b :: m,h,h1,h2,h3=>by
  rw[Gv,Gv,yZ,j_,Gv,Cf (h1 a (FL ..)) (h2 b (FL ..)) (h3 a (FL ..) b (FL ..)),
   vC l m (by simpa using h) (fun q hq=>h1 q (FN _ hq)) (fun q hq=>h2 q (FN _ hq)) (fun a ha b hb=>h3 a (FN _ ha) b (FN _ hb))]
theorem ub:∀ l m:List Rat,(∀ q∈l,okQ q)→(∀ a∈l,∀ b∈m,okQ (a+b))→∀ q∈j_ l m,okQ q
 | [],_,_,_,q,h=>by cases h
 | a :: l,[],h1,_,q,h=>by rw[mr] at h;exact h1 q h
 | a :: l,b :: m,h1,h2,q,h=>by
  rw[j_] at h;rcases Ge.1 h with rfl | h
  ·exact h2 a (FL ..) b (FL ..)
  ·exact ub l m (fun q hq=>h1 q (FN _ hq)) (fun a ha b hb=>h2 a (FN _ ha) b (FN _ hb)) q h
theorem AT {a b:Rat}{D E:Nat} (ha:Ov D (2 ^ 198) a) (hb:Ov E (2 ^ 198) b) (hD:0<D) (hE:0<E) (hDl:D≤2 ^ 168) (hEl:E≤2 ^ 168):okQ (a+b):=by
 have h2:=hb.wide D hE hD;rw[Fw E D] at h2;have h:=(ha.wide E hD hE).add h2;have b1:D*E≤2 ^ 336:=DZ (x:=D) (y:=E) (a:=168) (b:=168) (c:=336) hDl hEl rfl;have b2:2 ^ 198*E+2 ^ 198*D≤2 ^ 367:=Dd (D:=D) (E:=E) (a:=198) (b:=168) (c:=366) (d:=367) hDl hEl rfl rfl;exact h.ok (GF hD hE) (AH b1 (by decide)) (AH b2 (by decide))
theorem kE {l:List Rat}{k:Nat} (h:k<l.length):l.getD k 0∈l:=by rw[FG,Fr h];exact Fu h
theorem E2 (n:Nat) (h:n≠0):(2:Nat) ^ (33*n)<10 ^ (10*n):=by
 rw[GG,GG];exact Nat.pow_lt_pow_left (by decide) h
theorem EP {x k n t:Nat} (h:x≤2 ^ k) (hk:k≤33*n) (ht:10*n=t) (hn:n≠0):x<10 ^ t:=by
 subst ht;exact FE (Fj h (Es hk)) (E2 n hn)
theorem wD {x k:Nat} (h:x≤2 ^ k) (hk:k≤6600):x<10 ^ 2000:=EP (n:=200) (t:=2000) h (by omega) rfl (by decide)
structure SizP (e:Nat) (p:List Rat):Prop where
 one:p.getD 0 0=1
 ov:∃ D,0<D∧D≤2 ^ e∧∀ q∈p,Ov D (2 ^ e) q
theorem En {e:Nat}{p:List Rat} (hp:SizP e p) (he:e≤6600):∀ q∈p,okQ q:=by
 obtain⟨-,D,hD,hDl,ov⟩:=hp;exact fun q hq=>(ov q hq).ok hD (wD hDl he) (wD (Fb _) he)
def Dk (p:List Rat) (j:Nat):Prop:=∃ e,SizP e p∧(e+1)*2 ^ j≤6600
theorem Dk.ok {p:List Rat}{j:Nat} (h:Dk p j):∀ q∈p,okQ q:=by
 obtain⟨e,h1,h2⟩:=h;have:=Ht (e+1) (Nat.two_pow_pos j);exact En h1 (by omega)
theorem mR {a b:Rat}{k l:Nat} (ha:Sz k (rt a)) (hb:Sz l (rt b)):Sz (k+l) (rt (a*b)):=by
 rw[←gF];exact ha.mul hb
theorem zv {a:Rat}{k:Nat} (ha:Sz k (rt a)) (h:a≠0):Sz k (rt a⁻¹):=by
 rw[←wk h];refine ha.inv ?_;rcases Gi (rt a).n with h0 | h0
 ·exact absurd ((bg _).1 h0) h
 ·exact h0
theorem jN {w:World}{g:Nat}{vs:Array Value}{T:TypeId} (h:w.heap[g]?=some (.cells vs T (0,0))) (i:Nat) {v:Value} (hv:vs[i]?=some v) (z:aC w.heap.size w):z.w.cell? ⟨g,i,none⟩=some v :=
 (aa ((z.h.block _ (ag h)).trans h) i).trans hv
theorem mF {w:World}{b o:Nat}{v:Value} (h:w.cell? ⟨b,o,none⟩=some v) (hlt:b<w.heap.size) (z:aC w.heap.size w):z.w.cell? ⟨b,o,none⟩=some v:=af z.h hlt h
open Go.RowKit Go.Shelf Dg
def nD (ls:List (List ByteArray)):Nat→List ByteArray
 | 0=>[⟨#[49]⟩]
 | i+1=>ls.getD i []
def pD (l:List ByteArray):List ByteArray:=nD (bB l) (bB l).length
def ff (a b l:List ByteArray):Bool×Int:=if az a b=true then if l.length+1=b.length then (decide (pD l=b),0) else (false,0) else (false,30)
theorem lP:∀ (l p q:List ByteArray),q∈fd l p→q.length≤p.length+l.length
 | [],_,_,h=>by simp[fd] at h
 | k :: ks,p,q,h=>by
  unfold fd at h
  split at h
  ·rcases Ge.1 h with rfl | h
   ·rw[lI];simp
   ·have:=lP ks (il k p) q h;rw[lI] at this;simp;omega
  ·cases h
theorem x_ (l:List ByteArray):(pD l).length≤l.length+1:=by
 unfold pD
 cases h:(bB l).length with
 | zero=>simp[nD]
 | succ i =>
  show ((bB l).getD i []).length≤_
  have hi:i<(bB l).length:=by omega
  rw[FG,Fr hi];have:=lP l [⟨#[49]⟩] _ (Fu hi);simp at this ⊢;omega
structure DF (w:World) (g b7:Nat) (x y:Value) (l:List ByteArray) (i:Nat) (W:World):Prop where
 box:∃ v,W.heap[b7]?=some (.cells #[v] 22 (0,0))∧IsS W v (nD (bB l) i)
 fil:W.heap[g]?=some (.cells #[x,y] 24 (0,0))
 bel:Below w.heap.size w W
theorem vQ {w:World}{g:Nat}{v:Value}{T:TypeId} (h:w.heap[g]?=some (.cells #[v] T (0,0))) (hv:∀ s,v≠.string s):rM (fun k=>k=g) BX w:=by
 rintro k rfl j u hc;rw[World.cell?,h] at hc;simp only[FZ,FB,if_false] at hc
 have hj:j=0:=by
  have:=(Fh.1 hc).1;simpa using this
 subst hj;simp at hc;subst hc;rintro⟨s,e⟩;exact hv s e
theorem Ck (v:Value) (l:List ByteArray) (w:World) (hl:IsS w v l) :
  Calls Tryz.prog 43 #[v] w fun e w'=>e=.returned (.func (.func 97) #[] #[.pointer (some ⟨w.heap.size,0,none⟩)])∧w'.heap[w.heap.size]?=some (.cells #[v] 22 (0,0))∧w.heap.size<w'.heap.size∧IsS w' v l∧Below w.heap.size w w':=by
 obtain⟨p,c,rfl,-⟩:=id hl.form;have c0:=heap_alloc_new w (.cells #[.slice p l.length c] 22 (0,0));have m1:=ak w (.cells #[.slice p l.length c] 22);have z1:=size_alloc w (.cells #[.slice p l.length c] 22);have HL:=E5 (hl.below m1);have H0:=E5 (And.intro c0 (And.intro (show w.heap.size<(w.alloc (.cells #[.slice p l.length c] 22)).heap.size by omega) m1));clear c0 m1 z1 hl;go_enter Tryz.func43,Tryz.ntmps43;go_wp2;go_ret;exact⟨rfl,H0.out.1,H0.out.2.1,HL.out,H0.out.2.2⟩
attribute [local go_sem] Oper.semAt_some
theorem B_ (v vl:Value) (a b l:List ByteArray) (w:World) (hF:IsF w v a b) (hl:IsS w vl l) (hG:Gx w) :
  Calls Tryz.prog 12 #[v,vl] w fun e w'=>e=.returned (.tuple #[.bool (ff a b l).1,.int .i64 (ff a b l).2])∧Below w.heap.size w w':=by
 obtain⟨p,c,q,d,rfl,hfa,hfb⟩:=id hF.ex;obtain⟨pl,cl,rfl,-⟩:=id hl.form;have HG0:=E5 hG;have HB0:=E5 hfb;refine (callsIn_wide (n:=9)).1 ?_;refine callsIn_of_wp_marks Tryz.func12 rfl trivial ?_ rfl;simp only[Tryz.ntmps12,Hx,Fv,FW,Nat.reduceAdd,Nat.reduceSub,Hd,He,Hw,Hj,FJ,FT]
 gi_upto_region 1 with fail
 have cc:=aE w (.slice p a.length c) (.slice q b.length d);have m1:=ak w (.cells #[.slice p a.length c,.slice q b.length d] 24);have zz:=size_alloc w (.cells #[.slice p a.length c,.slice q b.length d] 24);have rr:=heap_alloc_new w (.cells #[.slice p a.length c,.slice q b.length d] 24 (0,0));generalize w.alloc (.cells #[.slice p a.length c,.slice q b.length d] 24)=w1 at *
 obtain⟨g,hg⟩:∃ g,g=w.heap.size:=⟨_,rfl⟩;rw[←hg] at cc rr ⊢;have HCK:=E5 (eU _ a b w1 (hF.below m1) (hG.below m1));have HB:=E5 (hfb.below m1);have HL:=E5 (hl.below m1);have c0:=cc.1;have c1:=cc.2;have hlt:g<w1.heap.size:=by omega
 have M1:=E5 m1;have HGE:=E5 hg;clear hfa hfb cc zz m1 hF hG hl hg;by_cases hck:az a b=true
 ·have HT:=E5 (show ff a b l=if l.length+1=b.length then (decide (pD l=b),0) else (false,0) by unfold ff;rw[if_pos hck]);have hce:ay a b=0:=by unfold ay;rw[if_pos hck]
  rw[hce] at HCK;obtain⟨ob1,ob7,-⟩:=aM hck;clear hce hck
  gi_wp2_with fail
  refine⟨trivial,(callsIn_wide.2 HCK.out).mono ?_⟩;rintro e w2 ⟨rfl,hb2⟩;have d0:=af hb2 hlt c0;have d1:=af hb2 hlt c1;have rr2:=(hb2.block g hlt).trans rr;have HB2:=E5 (HB.out.below hb2);have HL2:=E5 (HL.out.below hb2);have M2:=E5 (M1.out.trans (hb2.mono M1.out.size));have hlt2:g<w2.heap.size:=Fe hlt hb2.size;clear c0 c1 rr HB HL HCK M1 hb2 hlt;by_cases hlen:l.length+1=b.length
  ·have hbI:((b.length:Nat):Int)-1=(l.length:Int):=by omega
   have HT:=E5 (show ff a b l=(decide (pD l=b),0) by rw[HT.out,if_pos hlen]);have HLN:=E5 hlen;clear hlen
   gi_wp2_with fail
   have m3:=ak w2 (.cells #[.string ⟨#[49]⟩] 34);have z3:=size_alloc w2 (.cells #[.string ⟨#[49]⟩] 34);have h3:=mB w2 ⟨#[49]⟩;generalize w2.alloc (.cells #[.string ⟨#[49]⟩] 34)=w3 at *
   have m4:=ak w3 (.cells #[.slice (some ⟨w2.heap.size,0,none⟩) 1 1] 22);have r4:=heap_alloc_new w3 (.cells #[.slice (some ⟨w2.heap.size,0,none⟩) 1 1] 22 (0,0));generalize w3.alloc (.cells #[.slice (some ⟨w2.heap.size,0,none⟩) 1 1] 22)=w4 at *
   have hB4:=m3.trans (m4.mono m3.size);have h4:=h3.below m4;rw[z3] at r4;have hl4:=HL2.out.below hB4;have rr4:=(hB4.block g hlt2).trans rr2;obtain⟨b7,hb7⟩:∃ b,b=w2.heap.size+1:=⟨_,rfl⟩;rw[←hb7] at r4 ⊢;have hM4:=M2.out.trans (hB4.mono M2.out.size);have hbw:w.heap.size≤b7:=by have:=M2.out.size;omega
   have hgb:g≠b7:=by omega
   clear d0 d1 rr2 HL2 m3 z3 h3 m4 hB4 M2 hlt2 hb7;refine⟨trivial,(callsIn_wide.2 (Ck _ l w4 hl4)).mono ?_⟩;rintro e w5 ⟨rfl,rb5,hlt5,hl5,hb5⟩;obtain⟨gb,hgb5⟩:∃ g,g=w4.heap.size:=⟨_,rfl⟩;have h5:=h4.below hb5;have r5:=(hb5.block b7 (Fh.1 r4).1).trans r4;have rr5:=(hb5.block g (Fh.1 rr4).1).trans rr4;have hM5:=hM4.trans (hb5.mono hM4.size);have hne5:gb≠b7:=by have:=(Fh.1 r4).1;omega
   have hlt7:b7<w5.heap.size:=(Fh.1 r5).1;rw[←hgb5] at rb5 hlt5 ⊢;have hll:l.length<1000:=by have:=HLN.out;omega
   clear h4 r4 rr4 hl4 hb5 hgb5 hM4
   gi_wp2
   refine mc (gf:=97) (bnd:=#[]) (lb:=#[.pointer (some ⟨gb,0,none⟩)]) (E:=y_ l) (len:=(bB l).length) (Sb:=fun k=>k=b7) (Si:=fun _=>False) (Ok:=fun W=>rM (fun k=>k=b7) BX W∧Gw W) rfl (by omega) rfl trivial ?eg ?hSb ?hSi (qv 8 (by omega) gb _ l w5 _ rb5 hl5 hll hne5) ?hps
    (DF w g b7 (.slice p a.length c) (.slice q b.length d) l) ?hI ?hOk ?h0
    (fun i a1 W=>∃ v ps,a1={ tmps:=#[.agg #[.slice p a.length c,.slice q b.length d],.slice pl l.length cl,.pointer (some ⟨g,0,none⟩),undef,.bool false,.int .i64 0,.int .i64 0,.pointer (some ⟨b7,0,none⟩),v,.agg #[.slice p a.length c,.slice q b.length d],.int .i64 0,.int .i64 0,.bool false,undef,.slice pl l.length cl,.int .i64 l.length,.pointer (some ⟨g,1,none⟩),.slice q b.length d,.int .i64 b.length,.int .i64 l.length,.bool false,.slice (some ⟨w2.heap.size,0,none⟩) 1 1,.slice pl l.length cl,.func (.func 97) #[] #[.pointer (some ⟨gb,0,none⟩)],v,undef,undef,undef,undef,undef],defers:=[] }∧(bB l)[i]?=some ps∧IsS W v ps∧DF w g b7 (.slice p a.length c) (.slice q b.length d) l i W) ?hI1 ?hassign ?hbody ?hdone
   case eg=>exact a_ Tryz.func97 rfl (by kernel_rfl)
   case hSb=>rintro k rfl;exact hlt7
   case hSi=>rintro k hk;exact hk.elim
   case hps=>rintro i W vs ⟨v,ps,rfl,-,-⟩;rfl
   case hI =>
    rintro i W W' ⟨⟨v,h1,h2⟩,h3,h4⟩ hB;exact⟨⟨v,hB.cells h1 id,h2.keep (iV.of_bes hB (fun k hk=>hk.elim))⟩,hB.cells h3 id,hB.below h4 hM5.size h4.size (fun k e=>e.elim)⟩
   case hOk =>
    rintro i W ⟨⟨v,h1,h2⟩,h3,h4⟩;obtain⟨pv,cv,rfl,-⟩:=id h2.form;exact⟨vQ h1 (by intro s e;cases e),(HG0.out.below h4).g⟩
   case h0=>exact⟨⟨_,r5,h5⟩,rr5,hM5⟩
   case hI1 =>
    rintro i a1 W W' ⟨v,ps,e,hv,hs,⟨v',h1,h2⟩,h3,h4⟩ hB;exact⟨v,ps,e,hv,hs.keep (iV.of_bes hB (fun k hk=>hk.elim)),⟨v',hB.cells h1 id,h2.keep (iV.of_bes hB (fun k hk=>hk.elim))⟩,hB.cells h3 id,hB.below h4 hM5.size h4.size (fun k e=>e.elim)⟩
   case hassign =>
    rintro y i hi W vs hI ⟨v,ps,rfl,hv,hs⟩;rw[tX];simp only[E6,Fa,E_]
    gi_wp2
    exact⟨cj.refl _ _,v,ps,rfl,hv,hs,hI⟩
   case hbody =>
    rintro y i hi a1 W ⟨v,ps,rfl,hv,hs,⟨v',h1,h2⟩,h3,h4⟩;obtain⟨pv,cv,rfl,-⟩:=id hs.form;obtain⟨pv',cv',rfl,-⟩:=id h2.form;obtain⟨k7,f7⟩:=dF h1;have hT:=cj.set (S:=fun k=>k=b7) (w:=W) rfl 0 (.slice pv ps.length cv);have hS:=(hs.keep (iV.of_turns hT (vQ h1 (by intro s e;cases e))))
    have hL:nD (bB l) (i+1)=ps:=by
     show (bB l).getD i []=ps
     rw[FG,hv];rfl
    have HRes:=E5 (show cj (fun k=>k=b7) W (W.setCell ⟨b7,0,none⟩ (.slice pv ps.length cv))∧DF w g b7 (.slice p a.length c) (.slice q b.length d) l (i+1) (W.setCell ⟨b7,0,none⟩ (.slice pv ps.length cv)) from
     ⟨hT,⟨_,heap_setCell_same W b7 0 _ _ _ h1,by rw[hL];exact hS⟩,(Below.heap_setCell W ⟨b7,0,none⟩ _ g hgb).trans h3,h4.setCell (p:=⟨b7,0,none⟩) hbw _⟩)
    clear h1 h2 h3 h4 hT hS hs hv hL r5 h5 rr5
    gi_wp2
    exact HRes.out
   case hdone =>
    rintro D W hD ⟨⟨v,h1,h2⟩,h3,h4⟩ hK;have hLB:=x_ l;have hz:=hM5.size;obtain⟨lb,hlb⟩:∃ x,x=pD l:=⟨_,rfl⟩;rw[show nD (bB l) (bB l).length=lb from hlb.symm] at h2;have HTL:=E5 (show ff a b l=(decide (lb=b),0) by rw[HT.out,←hlb]);rw[←hlb] at hLB;obtain⟨pv,cv,rfl,-⟩:=id h2.form;have k7:=(dF h1).1;have c0:=ae h3 0;have c1:=ae h3 1;have HEQ:=E5 (DS _ _ lb b W h2 (HB0.out.below h4) (by omega) (by omega));obtain⟨bq,hbq⟩:∃ x,x=decide (lb=b):=⟨_,rfl⟩;rw[←hbq] at HEQ HTL;have HM:=E5 h4;have HK:=E5 hK;have HD:=E5 (show w.heap.size≤D by omega);simp only[H4,Hq,G5] at c0 c1;clear h1 h2 h3 h4 hK hlb hbq rb5 hl5 h5 r5 rr5 hM5 hLB hz
    gi_wp2_with fail
    refine⟨trivial,(callsIn_wide.2 HEQ.out).mono ?_⟩;rintro e W2 ⟨rfl,hb2⟩;have HK2:=E5 ((hb2.block D (Fh.1 HK.out).1).trans HK.out);have HM2:=E5 (HM.out.trans (hb2.mono HM.out.size));clear hb2 HEQ k7 c0 c1
    gi_wp2
    refine⟨by simp,.inl ⟨_,_,rfl,run_takeDeferred HK2.out,?_⟩⟩;refine⟨.tuple #[.bool bq,.int .i64 0],by simp[results,Tryz.results12,go_sem],by rw[HTL.out],HM2.out.trans ⟨rfl,rfl,rfl,by simp,fun k hk=>World.putObj_heap_other (by have:=HD.out;omega)⟩⟩
  ·have hne:((l.length:Int) != (b.length:Int)-1)=true:=by simp;omega
   have HE:=E5 (show ff a b l=(false,0) by rw[HT.out,if_neg hlen]);clear hlen
   gi_wp2
   refine⟨.tuple #[.bool false,.int .i64 0],by simp[results,Tryz.results12,go_sem],by rw[HE.out],M2.out⟩
 ·have HE:=E5 (show ff a b l=(false,30) by unfold ff;rw[if_neg hck]);have hce:ay a b=30:=by unfold ay;rw[if_neg hck]
  rw[hce] at HCK;clear hce
  gi_wp2_with fail
  refine⟨trivial,(callsIn_wide.2 HCK.out).mono ?_⟩;rintro e w2 ⟨rfl,hb2⟩
  gi_wp2
  refine⟨.tuple #[.bool false,.int .i64 30],by simp[results,Tryz.results12,go_sem],by rw[HE.out],M1.out.trans (hb2.mono M1.out.size)⟩
theorem kF {l:List Rat}{i:Nat} (h:l.length≤i):l.getD i 0=0:=by
 rw[FG,GV h];rfl
structure xr (w:World) (g:Nat) (p:Option Addr) (c:Nat) (q:Option Addr) (d:Nat):Prop where
 f0:w.cell? ⟨g,0,none⟩=some (.slice p 2 c)
 f1:w.cell? ⟨g,1,none⟩=some (.slice q 2 d)
 la:IsS w (.slice p 2 c) aV
 lb:IsS w (.slice q 2 d) aW
 G:Gx w
 lt:g<w.heap.size
theorem xr.below {w w':World}{g:Nat}{p:Option Addr}{c:Nat}{q:Option Addr}{d:Nat} (h:xr w g p c q d) (hb:Below w.heap.size w w'):xr w' g p c q d :=
 ⟨af hb h.lt h.f0,af hb h.lt h.f1,h.la.below hb,h.lb.below hb,h.G.below hb,Fe h.lt hb.size⟩
theorem xr.F {w:World}{g:Nat}{p:Option Addr}{c:Nat}{q:Option Addr}{d:Nat} (h:xr w g p c q d):IsF w (.agg #[.slice p 2 c,.slice q 2 d]) aV aW:=⟨⟨p,c,q,d,rfl,h.la,h.lb⟩⟩
theorem lq:j4 aV aW 4=0∧eL aV aW (gw 4) 4=[⟨#[48]⟩,⟨#[49,47,50]⟩,⟨#[49,47,52]⟩,⟨#[49,47,56]⟩]:=by decide +kernel
theorem gg:bV aW=some [⟨#[45,49,47,50]⟩]∧az aV [⟨#[49]⟩,⟨#[45,50]⟩]=true∧bV [⟨#[49]⟩,⟨#[45,50]⟩]=none:=by decide +kernel
theorem sE:ff aV [⟨#[49]⟩,⟨#[49,47,52]⟩,⟨#[45,49,47,50]⟩] [⟨#[49,47,50]⟩,⟨#[45,49,47,50]⟩]=(true,0):=by decide +kernel
theorem sF:eQ aW (ofT 33)=true∧∀ m,m<33→1≤m→eQ aW (ofT m)=false:=by decide +kernel
theorem fQ:dT aV aW=(⟨#[49,47,51]⟩,0)∧fA aV aW ⟨#[45,49]⟩=(⟨#[45,49,47,51]⟩,0)∧fA aV aW ⟨#[49,47,50]⟩=(⟨#[]⟩,32)∧eE aV aW=(5,0)∧eA aV aW=((aV,[⟨#[49]⟩,⟨#[48]⟩]),0)∧iW aV aW=((aW,[⟨#[49]⟩,⟨#[48]⟩]),0):=by decide +kernel
theorem kH (w:World) (l:List ByteArray) (h:l.length<1000):IsS (w.alloc (.cells (l.map Value.string).toArray 34)) (.slice (some ⟨w.heap.size,0,none⟩) l.length l.length) l :=
 bE.isS (base:=w.heap.size) (by
  refine⟨by simp,Or.inr ⟨w.heap.size,l.length,_,rfl,Fb _,heap_alloc_new w _,Fb _,by unfold maxLen;omega,by simp,by simp[Fi]⟩⟩)
theorem Eu (w:World) (hG:Gx w):Calls Tryz.prog 14 #[] w fun e w'=>e=.returned (.bool true)∧Below w.heap.size w w':=by
 go_enter Tryz.func14,Tryz.ntmps14;go_wp2_with fail
 refine (EJ w).mono ?_;rintro e w1 ⟨v1,rfl,hF,hb1⟩;obtain⟨p,c,q,d,rfl,hA,hB⟩:=id hF.ex;rw[show aV.length=2 from rfl] at hA ⊢;rw[show aW.length=2 from rfl] at hB ⊢;have cc:=aE w1 (.slice p 2 c) (.slice q 2 d);have m2:=ak w1 (.cells #[.slice p 2 c,.slice q 2 d] 24);have z2:=size_alloc w1 (.cells #[.slice p 2 c,.slice q 2 d] 24);go_upto_region 2 with fail
 generalize w1.alloc (.cells #[.slice p 2 c,.slice q 2 d] 24)=w2 at *
 obtain⟨g,hg⟩:∃ g,g=w1.heap.size:=⟨_,rfl⟩;rw[←hg] at cc ⊢;have HP:=E5 (show xr w2 g p c q d from⟨cc.1,cc.2,hA.below m2,hB.below m2,(hG.below hb1).below m2,by omega⟩);have HB:=E5 (hb1.trans (m2.mono hb1.size));have k0:=HP.out.f0;have k1:=HP.out.f1;clear cc m2 z2 hA hB hF hb1 hG hg;go_wp2_with fail
 refine (xv _ aV aW 4 w2 HP.out.F HP.out.G).mono ?_;rintro e w3 ⟨vr,rfl,hvr,-,hb⟩;have HR:=E5 (hvr lq.1);rw[show (4:Int).toNat=4 from rfl,lq.2] at HR;rw[lq.1];clear hvr;have HP:=E5 (HP.out.below hb);have HB:=E5 (HB.out.trans (hb.mono HB.out.size));clear hb k0 k1;have k0:=HP.out.f0;have k1:=HP.out.f1;go_wp2_with fail
 refine (zu _ aV aW w3 HP.out.F HP.out.G).mono ?_;rintro e w4 ⟨vp,er,rfl,hcase,hb⟩
 have HPR:er=0∧Hid (IsS w4 vp [⟨#[45,49,47,50]⟩]):=by
  rcases hcase with ⟨pf,-,h1,rfl,h2,-⟩ | ⟨-,h1,-⟩ | ⟨h1,-⟩
  ·rw[gg.1] at h1
   cases h1
   exact⟨rfl,h2⟩
  ·rw[gg.1] at h1;cases h1
  ·rw[eV] at h1;cases h1
 obtain⟨rfl,HPR⟩:=HPR;have HR:=E5 (HR.out.below hb);clear hcase;have HP:=E5 (HP.out.below hb);have HB:=E5 (HB.out.trans (hb.mono HB.out.size));clear hb k0 k1;have k0:=HP.out.f0;have k1:=HP.out.f1;have hm:=ak w4 (.cells #[.string ⟨#[49]⟩,.string ⟨#[45,50]⟩] 34);have HU:=E5 (zu _ aV [⟨#[49]⟩,⟨#[45,50]⟩] _ ⟨⟨p,c,_,_,rfl,HP.out.la.below hm,IsS.two w4 ⟨#[49]⟩ ⟨#[45,50]⟩⟩⟩ (HP.out.G.below hm));have HM:=E5 hm;clear hm;go_wp2_with fail
 refine HU.out.mono ?_;rintro e w5 ⟨vx,er,rfl,hcase,hb⟩
 obtain rfl:er=31:=by
  rcases hcase with ⟨pf,-,h1,-⟩ | ⟨-,-,h,-⟩ | ⟨h1,-⟩
  ·rw[gg.2.2] at h1;cases h1
  ·exact h
  ·rw[gg.2.1] at h1;cases h1
 have hb:=HM.out.trans (hb.mono HM.out.size);have HR:=E5 (HR.out.below hb);have HPR:=E5 (HPR.out.below hb);clear hcase HU HM;have HP:=E5 (HP.out.below hb);have HB:=E5 (HB.out.trans (hb.mono HB.out.size));clear hb k0 k1;have k0:=HP.out.f0;have k1:=HP.out.f1;have hm:=ak w5 (.cells #[.string ⟨#[49]⟩,.string ⟨#[49,47,52]⟩,.string ⟨#[45,49,47,50]⟩] 34);have hl:=kH w5 [⟨#[49]⟩,⟨#[49,47,52]⟩,⟨#[45,49,47,50]⟩] (by decide);have hm2:=ak (w5.alloc (.cells #[.string ⟨#[49]⟩,.string ⟨#[49,47,52]⟩,.string ⟨#[45,49,47,50]⟩] 34)) (.cells #[.string ⟨#[49,47,50]⟩,.string ⟨#[45,49,47,50]⟩] 34);have hl2:=IsS.two (w5.alloc (.cells #[.string ⟨#[49]⟩,.string ⟨#[49,47,52]⟩,.string ⟨#[45,49,47,50]⟩] 34)) ⟨#[49,47,50]⟩ ⟨#[45,49,47,50]⟩;have hM:=hm.trans (hm2.mono hm.size);have HU:=E5 (B_ _ _ aV [⟨#[49]⟩,⟨#[49,47,52]⟩,⟨#[45,49,47,50]⟩] [⟨#[49,47,50]⟩,⟨#[45,49,47,50]⟩] _ ⟨⟨p,c,_,_,rfl,HP.out.la.below hM,hl.below hm2⟩⟩ hl2 (HP.out.G.below hM));rw[sE] at HU;have HM:=E5 hM;rw[size_alloc] at HU;clear hm hm2 hl hl2 hM;go_wp2_with fail
 refine HU.out.mono ?_;rintro e w6 ⟨rfl,hb⟩;have hb:=HM.out.trans (hb.mono HM.out.size);have HR:=E5 (HR.out.below hb);have HPR:=E5 (HPR.out.below hb);clear HU HM;have HP:=E5 (HP.out.below hb);have HB:=E5 (HB.out.trans (hb.mono HB.out.size));clear hb k0 k1;have k0:=HP.out.f0;have k1:=HP.out.f1;have hm:=ak w6 (.cells #[.string ⟨#[48]⟩,.string ⟨#[49,47,50]⟩,.string ⟨#[49,47,52]⟩,.string ⟨#[49,47,56]⟩] 34);have HU:=E5 (jS _ _ _ _ _ (HR.out.below hm) (kH w6 [⟨#[48]⟩,⟨#[49,47,50]⟩,⟨#[49,47,52]⟩,⟨#[49,47,56]⟩] (by decide)) (by decide) (by decide));rw[decide_eq_true (rfl:[(⟨#[48]⟩:ByteArray),⟨#[49,47,50]⟩,⟨#[49,47,52]⟩,⟨#[49,47,56]⟩]=_)] at HU;have HM:=E5 hm;clear hm;go_wp2_with fail
 refine HU.out.mono ?_;rintro e w7 ⟨rfl,hb⟩;have hb:=HM.out.trans (hb.mono HM.out.size);have HPR:=E5 (HPR.out.below hb);clear HU HM HR;have HP:=E5 (HP.out.below hb);have HB:=E5 (HB.out.trans (hb.mono HB.out.size));clear hb k0 k1;have k0:=HP.out.f0;have k1:=HP.out.f1;have hm:=ak w7 (.cells #[.string ⟨#[45,49,47,50]⟩] 34);have HU:=E5 (jS _ _ _ _ _ (HPR.out.below hm) (kH w7 [⟨#[45,49,47,50]⟩] (by decide)) (by decide) (by decide));rw[decide_eq_true (rfl:[(⟨#[45,49,47,50]⟩:ByteArray)]=_)] at HU;have HM:=E5 hm;clear hm;go_wp2_with fail
 refine HU.out.mono ?_;rintro e w8 ⟨rfl,hb⟩;have hb:=HM.out.trans (hb.mono HM.out.size);clear HU HM HPR;have HP:=E5 (HP.out.below hb);have HB:=E5 (HB.out.trans (hb.mono HB.out.size));clear hb k0 k1;have k0:=HP.out.f0;have k1:=HP.out.f1;go_wp2_with fail
 refine (Cc _ aV aW w8 HP.out.F HP.out.G).mono ?_;rintro e w9 ⟨nr,er,rfl,hcase,hb⟩
 obtain⟨rfl,rfl⟩:er=0∧nr=33:=by
  rcases hcase with ⟨-,-,rfl,k,rfl,k1,k64,hk,hlt⟩ | ⟨-,h,-⟩ | ⟨h,-⟩
  ·refine⟨rfl,?_⟩;rcases Ix k 33 with h | h | h
   ·have:=sF.2 k h k1;rw[hk] at this;cases this
   ·rw[h];rfl
   ·have:=hlt 33 (by decide) h;rw[sF.1] at this;cases this
  ·rw[gg.1] at h;cases h
  ·rw[eV] at h;cases h
 clear hcase;have HP:=E5 (HP.out.below hb);have HB:=E5 (HB.out.trans (hb.mono HB.out.size));clear hb k0 k1;have k0:=HP.out.f0;have k1:=HP.out.f1;go_wp2_with fail
 refine (BZ _ aV aW w9 HP.out.F HP.out.G).mono ?_;rintro e w10 ⟨rfl,hb⟩;rw[fQ.1];have HP:=E5 (HP.out.below hb);have HB:=E5 (HB.out.trans (hb.mono HB.out.size));clear hb k0 k1;have k0:=HP.out.f0;have k1:=HP.out.f1;go_wp2_with fail
 refine (oY _ aV aW _ w10 HP.out.F HP.out.G).mono ?_;rintro e w11 ⟨rfl,hb⟩;rw[fQ.2.1];have HP:=E5 (HP.out.below hb);have HB:=E5 (HB.out.trans (hb.mono HB.out.size));clear hb k0 k1;have k0:=HP.out.f0;have k1:=HP.out.f1;go_wp2_with fail
 refine (oY _ aV aW _ w11 HP.out.F HP.out.G).mono ?_;rintro e w12 ⟨rfl,hb⟩;rw[fQ.2.2.1];have HP:=E5 (HP.out.below hb);have HB:=E5 (HB.out.trans (hb.mono HB.out.size));clear hb k0 k1;have k0:=HP.out.f0;have k1:=HP.out.f1;go_wp2_with fail
 refine (vJ _ aV aW w12 HP.out.F HP.out.G).mono ?_;rintro e w13 ⟨vc,rfl,hfc,hb⟩;rw[fQ.2.2.2.2.1] at hfc ⊢;have HP:=E5 (HP.out.below hb);have HB:=E5 (HB.out.trans (hb.mono HB.out.size));clear hb k0 k1;have k0:=HP.out.f0;have k1:=HP.out.f1;obtain⟨pc,cc,qc,dc,e,hca,hcb,-,-⟩:=hfc.ex;replace e:vc=.agg #[.slice pc 2 cc,.slice qc 2 dc]:=e;replace hca:IsS w13 (.slice pc 2 cc) aV:=hca;replace hcb:IsS w13 (.slice qc 2 dc) [⟨#[49]⟩,⟨#[48]⟩]:=hcb;subst e;clear hfc;go_upto_region 15 with fail
 have kk:=aE w13 (.slice pc 2 cc) (.slice qc 2 dc);have hb:=ak w13 (.cells #[.slice pc 2 cc,.slice qc 2 dc] 24);have zz:=size_alloc w13 (.cells #[.slice pc 2 cc,.slice qc 2 dc] 24);generalize w13.alloc (.cells #[.slice pc 2 cc,.slice qc 2 dc] 24)=w14 at *
 obtain⟨gc,hgc⟩:∃ x,x=w13.heap.size:=⟨_,rfl⟩;rw[←hgc] at kk ⊢;have HC:=E5 (And.intro (show gc<w14.heap.size by omega) (And.intro kk.1 (And.intro kk.2 (And.intro (hca.below hb) (hcb.below hb)))));clear hca hcb kk zz hgc;have HP:=E5 (HP.out.below hb);have HB:=E5 (HB.out.trans (hb.mono HB.out.size));clear hb k0 k1;have k0:=HP.out.f0;have k1:=HP.out.f1;go_wp2_with fail
 refine (Dl _ aV aW w14 HP.out.F HP.out.G).mono ?_;rintro e w15 ⟨vd,rfl,hfc,hb⟩;rw[fQ.2.2.2.2.2] at hfc ⊢;obtain⟨pd,cd,qd,dd,e,hda,hdb,-,-⟩:=hfc.ex;replace e:vd=.agg #[.slice pd 2 cd,.slice qd 2 dd]:=e;replace hda:IsS w15 (.slice pd 2 cd) aW:=hda;replace hdb:IsS w15 (.slice qd 2 dd) [⟨#[49]⟩,⟨#[48]⟩]:=hdb;subst e;have hc:=HC.out;have HC:=E5 (And.intro (Fe hc.1 hb.size) (And.intro (af hb hc.1 hc.2.1) (And.intro (af hb hc.1 hc.2.2.1) (And.intro (hc.2.2.2.1.below hb) (hc.2.2.2.2.below hb)))));clear hfc hc;have HP:=E5 (HP.out.below hb);have HB:=E5 (HB.out.trans (hb.mono HB.out.size));clear hb k0 k1;have k0:=HP.out.f0;have k1:=HP.out.f1;go_upto_region 16 with fail
 have kk:=aE w15 (.slice pd 2 cd) (.slice qd 2 dd);have hb:=ak w15 (.cells #[.slice pd 2 cd,.slice qd 2 dd] 24);have zz:=size_alloc w15 (.cells #[.slice pd 2 cd,.slice qd 2 dd] 24);generalize w15.alloc (.cells #[.slice pd 2 cd,.slice qd 2 dd] 24)=w16 at *
 obtain⟨gd,hgd⟩:∃ x,x=w15.heap.size:=⟨_,rfl⟩;rw[←hgd] at kk ⊢;have HD:=E5 (And.intro (show gd<w16.heap.size by omega) (And.intro kk.1 (And.intro kk.2 (And.intro (hda.below hb) (hdb.below hb)))));have hc:=HC.out;have HC:=E5 (And.intro (Fe hc.1 hb.size) (And.intro (af hb hc.1 hc.2.1) (And.intro (af hb hc.1 hc.2.2.1) (And.intro (hc.2.2.2.1.below hb) (hc.2.2.2.2.below hb)))));clear hda hdb kk zz hgd hc;have HP:=E5 (HP.out.below hb);have HB:=E5 (HB.out.trans (hb.mono HB.out.size));clear hb k0 k1;have k0:=HP.out.f0;have k1:=HP.out.f1;have hm:=ak w16 (.cells #[.string ⟨#[49]⟩,.string ⟨#[48]⟩] 34);have HU:=E5 (Bu (.agg #[.slice pc 2 cc,.slice qc 2 dc]) (.agg #[.slice p 2 c,.slice (some ⟨w16.heap.size,0,none⟩) 2 2]) aV [⟨#[49]⟩,⟨#[48]⟩] aV [⟨#[49]⟩,⟨#[48]⟩] _ ⟨⟨_,_,_,_,rfl,HC.out.2.2.2.1.below hm,HC.out.2.2.2.2.below hm⟩⟩ ⟨⟨_,_,_,_,rfl,HP.out.la.below hm,IsS.two w16 ⟨#[49]⟩ ⟨#[48]⟩⟩⟩ (by decide) (by decide) (by decide) (by decide));rw[show (decide (aV=aV)&&decide ([(⟨#[49]⟩:ByteArray),⟨#[48]⟩]=[⟨#[49]⟩,⟨#[48]⟩]))=true from by decide] at HU;have HM:=E5 hm;have x0:=HC.out.2.1;have x1:=HC.out.2.2.1;clear hm;go_wp2_with fail
 refine HU.out.mono ?_;rintro e w17 ⟨rfl,hb⟩;have hb:=HM.out.trans (hb.mono HM.out.size);have hc:=HD.out;have HD:=E5 (And.intro (Fe hc.1 hb.size) (And.intro (af hb hc.1 hc.2.1) (And.intro (af hb hc.1 hc.2.2.1) (And.intro (hc.2.2.2.1.below hb) (hc.2.2.2.2.below hb)))));clear HU HM hc HC x0 x1;have HP:=E5 (HP.out.below hb);have HB:=E5 (HB.out.trans (hb.mono HB.out.size));clear hb k0 k1;have k0:=HP.out.f0;have k1:=HP.out.f1;have hm:=ak w17 (.cells #[.string ⟨#[49]⟩,.string ⟨#[48]⟩] 34);have HU:=E5 (Bu (.agg #[.slice pd 2 cd,.slice qd 2 dd]) (.agg #[.slice q 2 d,.slice (some ⟨w17.heap.size,0,none⟩) 2 2]) aW [⟨#[49]⟩,⟨#[48]⟩] aW [⟨#[49]⟩,⟨#[48]⟩] _ ⟨⟨_,_,_,_,rfl,HD.out.2.2.2.1.below hm,HD.out.2.2.2.2.below hm⟩⟩ ⟨⟨_,_,_,_,rfl,HP.out.lb.below hm,IsS.two w17 ⟨#[49]⟩ ⟨#[48]⟩⟩⟩ (by decide) (by decide) (by decide) (by decide));rw[show (decide (aW=aW)&&decide ([(⟨#[49]⟩:ByteArray),⟨#[48]⟩]=[⟨#[49]⟩,⟨#[48]⟩]))=true from by decide] at HU;have HM:=E5 hm;have x0:=HD.out.2.1;have x1:=HD.out.2.2.1;clear hm;go_wp2_with fail
 refine HU.out.mono ?_;rintro e w18 ⟨rfl,hb⟩;have hb:=HM.out.trans (hb.mono HM.out.size);clear HU HM HD x0 x1;have HP:=E5 (HP.out.below hb);have HB:=E5 (HB.out.trans (hb.mono HB.out.size));clear hb k0 k1;have k0:=HP.out.f0;have k1:=HP.out.f1;go_wp2_with fail
 refine (rH _ aV aW ⟨#[45,49,47,50]⟩ ⟨#[50]⟩ 1 w18 HP.out.F HP.out.G rfl (by decide) vX.1).mono ?_;rintro e w19 ⟨rfl,hb⟩;rw[vX.2];have HP:=E5 (HP.out.below hb);have HB:=E5 (HB.out.trans (hb.mono HB.out.size));clear hb k0 k1;have k0:=HP.out.f0;have k1:=HP.out.f1;go_wp2_with fail
 refine (rH _ aV aW ⟨#[48]⟩ ⟨#[51]⟩ 1 w19 HP.out.F HP.out.G rfl (by decide) vY.1).mono ?_;rintro e w20 ⟨rfl,hb⟩;rw[vY.2];have HP:=E5 (HP.out.below hb);have HB:=E5 (HB.out.trans (hb.mono HB.out.size));clear hb k0 k1;have k0:=HP.out.f0;have k1:=HP.out.f1;have hm:=ak w20 (.cells #[.string ⟨#[45,50]⟩,.string ⟨#[45,49]⟩,.string ⟨#[48]⟩,.string ⟨#[49]⟩,.string ⟨#[50]⟩,.string ⟨#[51]⟩] 34);have HU:=E5 (vH (.agg #[.slice p 2 c,.slice q 2 d]) (.slice (some ⟨w20.heap.size,0,none⟩) 6 6) _ (HP.out.F.below hm) (kH w20 g_ (by decide)) (HP.out.G.below hm));have HM:=E5 hm;clear hm;go_wp2_with fail
 refine HU.out.mono ?_;rintro e w21 ⟨rfl,hb⟩;have hb:=HM.out.trans (hb.mono HM.out.size);clear HU HM;have HP:=E5 (HP.out.below hb);have HB:=E5 (HB.out.trans (hb.mono HB.out.size));clear hb k0 k1;have k0:=HP.out.f0;have k1:=HP.out.f1;go_upto_region 21 with fail
 have r2:=heap_alloc_new w21 (.cells #[.string ⟨#[48]⟩,.string ⟨#[50]⟩] 67 (0,0));have hb:=ak w21 (.cells #[.string ⟨#[48]⟩,.string ⟨#[50]⟩] 67);have zz:=size_alloc w21 (.cells #[.string ⟨#[48]⟩,.string ⟨#[50]⟩] 67);generalize w21.alloc (.cells #[.string ⟨#[48]⟩,.string ⟨#[50]⟩] 67)=w22 at *
 obtain⟨gm,hgm⟩:∃ x,x=w21.heap.size:=⟨_,rfl⟩;rw[←hgm] at r2 ⊢;clear zz hgm;have HP:=E5 (HP.out.below hb);have HB:=E5 (HB.out.trans (hb.mono HB.out.size));clear hb k0 k1;have k0:=HP.out.f0;have k1:=HP.out.f1;go_wp2_with fail
 refine (BY _ aV aW w22 HP.out.F HP.out.G).mono ?_;rintro e w23 ⟨rfl,hb⟩;rw[fQ.2.2.2.1];have r2:=(hb.block gm (Fh.1 r2).1).trans r2;have y0:=ae r2 0;have y1:=ae r2 1;simp only[H4,Hq,G5] at y0 y1;clear r2;have HP:=E5 (HP.out.below hb);have HB:=E5 (HB.out.trans (hb.mono HB.out.size));clear hb k0 k1;have k0:=HP.out.f0;have k1:=HP.out.f1;go_wp2;go_ret;exact⟨rfl,HB.out⟩
end Go.Proofs.YtbnkpcfjechfiaaGreatDoor
