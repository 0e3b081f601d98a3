/- Lemmas of this claim. -/
import Derived.Test.YtbnkpcfjechfiaaGreatDoorQLP2
set_option linter.all false
set_option maxRecDepth 100000
set_option maxHeartbeats 8000000
namespace Go.Proofs.YtbnkpcfjechfiaaGreatDoor
open Go.RowKit Dg
structure FnT (F:FuncId) (cap:Array Value) (φ:ByteArray→ByteArray) (w:World):Prop where
 en:∀ (args:Array Value) (w:World),(callFunc F args).run Tryz.prog w=.ok (.enter F args) w
 on:∀ (x:ByteArray) (w':World),Below w.heap.size w w'→Calls Tryz.prog F (#[.string x]++cap) w' fun e w''=>e=.returned (.string (φ x))∧Below w'.heap.size w' w''
theorem FnT.below {F:FuncId}{cap:Array Value}{φ:ByteArray→ByteArray}{w w':World} (h:FnT F cap φ w) (hb:Below w.heap.size w w'):FnT F cap φ w' :=
 ⟨h.en,fun x w'' hb'=>h.on x w'' (hb.trans (hb'.mono hb.size))⟩
theorem nj (v:Value) (l:List ByteArray) (F:FuncId) (cap:Array Value) (φ:ByteArray→ByteArray) (w:World) (hl:IsS w v l) (hlen:l.length<1000000) (hF:FnT F cap φ w) :
  Calls Tryz.prog 128 #[v,.func (.func F) #[] cap] w fun e w'=>∃ u,e=.returned u∧bE w' w.heap.size u (l.map φ)∧Below w.heap.size w w':=by
 obtain⟨p,c,rfl,-⟩:=id hl.form;have HL:=E5 hl;have HF:=E5 hF;have EN:=hF.en;clear hl hF;go_enter Tryz.func128,Tryz.ntmps128;go_wp2;go_loopw [5,10] (fun s5 s10 wr=>∃ i:Nat,s10=.int .i64 i∧i≤l.length∧bE wr w.heap.size s5 ((l.map φ).take i)∧Below w.heap.size w wr) (fun _ s10 _=>l.length-(intOf s10).toNat)
 case atStart=>exact⟨0,rfl,Fk _,bE.nil _ _,Below.refl _ _⟩
 case round =>
  obtain⟨i,rfl,hin,hown,hbr⟩:=hrel;by_cases hi:i<l.length
  ·obtain⟨b,o,rfl,hbl,hcs⟩:=(HL.out.below hbr).all (by omega);have hcell:=hcs i hi
   have HT:=E5 (show (l.map φ).take (i+1)=(l.map φ).take i++[φ (aH l i)] by
    rw[show (l.map φ).take (i+1)=(l.map φ).take i++[(l.map φ)[i]'(by simpa using hi)] from (Fm _).symm,Gb,eK])
   clear hcs;go_wp2_with fail
   refine (HF.out.on _ wr hbr).mono ?_;rintro e w1 ⟨rfl,hb1⟩;have hB1:=hbr.trans (hb1.mono hbr.size);have hw1:=hown.below hb1;have hbs:=hB1.size;have hzl:((l.map φ).take i).length<1000000000:=by simp;omega
   clear hb1 hbr hown hcell;go_wp2_with (at_builtin;refine aX 22 Tryz.underlying22 rfl (.tmp 14) (.tmp 18) rfl w.heap.size _ _ _ rfl hw1 rfl hzl hbs ?_)
   intro v' w2 hw2 hb2;have hB2:=hb2 _ _ hB1 (Fb _);rw[←HT.out] at hw2;clear hw1 hb2 hB1;go_wp2;go_roundw;case rel=>exact⟨i+1,by go_num,by omega,hw2,hB2⟩
   case measure=>(first | (simp[intOf];done) | (simp[intOf];omega))
  ·have hin':i=l.length:=by omega
   subst hin';have hw:=hown;rw[show (l.map φ).take l.length=l.map φ from Fi (by simp)] at hw;clear hown hi;go_wp2;go_ret;exact⟨_,rfl,hw,hbr⟩
def dH (a b:List ByteArray):List ByteArray:=(List.range a.length).map fun i=>if i<b.length then gT (aH a i) (aH b i) else aH a i
def gP (a b:List ByteArray):List ByteArray:=if a.length<b.length then dH b a else dH a b
theorem eP (a b:List ByteArray):(dH a b).length=a.length:=by simp[dH]
theorem ou (a b:List ByteArray):(gP a b).length=max a.length b.length:=by
 unfold gP
 split
 ·rw[eP];omega
 ·rw[eP];omega
theorem pX (a b:List ByteArray) {i:Nat} (hi:i<a.length):(dH a b).take (i+1)=(dH a b).take i++[if i<b.length then gT (aH a i) (aH b i) else aH a i]:=by
 have hl:i<(dH a b).length:=by rw[eP];exact hi
 rw[show (dH a b).take (i+1)=(dH a b).take i++[(dH a b)[i]] from (Fm hl).symm];simp[dH]
theorem sumN (va vb:Value) (a b:List ByteArray) (w:World) (ha:IsS w va a) (hb:IsS w vb b) (hal:a.length<1000000) (hbl:b.length<1000000) (hG:Gw w) :
  Calls Tryz.prog 137 #[va,vb,.func (.func 99) #[] #[]] w fun e w'=>∃ u,e=.returned u∧bE w' w.heap.size u (gP a b)∧Below w.heap.size w w':=by
 obtain⟨pa,xa,rfl,-⟩:=id ha.form;obtain⟨pb,xb,rfl,-⟩:=id hb.form;have HG:=E5 hG;go_enter Tryz.func137,Tryz.ntmps137;by_cases hlt:a.length<b.length
 ·have hd0:decide ((a.length:Int)<(b.length:Int))=true:=by simp;omega
  have hd1:decide (a.length<b.length)=true:=decide_eq_true hlt;have HS:=E5 (show gP a b=dH b a by unfold gP;rw[if_pos hlt]);clear hlt;go_wp2;go_loopw [7,19] (fun s7 s19 wr=>∃ i:Nat,s19=.int .i64 i∧i≤b.length∧bE wr w.heap.size s7 ((dH b a).take i)∧Below w.heap.size w wr) (fun _ s19 _=>b.length-(intOf s19).toNat)
  case atStart=>exact⟨0,rfl,Fk _,bE.nil _ _,Below.refl _ _⟩
  case round =>
   obtain⟨i,rfl,hin,hown,hbr⟩:=hrel;by_cases hi:i<b.length
   ·obtain⟨ba,oa,rfl,hba,hca⟩:=(hb.below hbr).all (by omega);have hc:=hca i hi;have HT:=E5 (pX b a hi);clear hca;by_cases hib:i<a.length
    ·have hdb:decide ((i:Int)<((a.length:Nat):Int))=true:=by simp;omega
     obtain⟨bb,ob,rfl,hbb,hcb⟩:=(ha.below hbr).all (by omega);have hd:=hcb i hib;have HT:=E5 (show (dH b a).take (i+1)=(dH b a).take i++[gT (aH b i) (aH a i)] by rw[HT.out,if_pos hib]);clear hcb;go_wp2_with fail
     refine (kJ _ _ wr (HG.out.below hbr)).mono ?_;rintro e w1 ⟨rfl,hb1⟩;have hB1:=hbr.trans (hb1.mono hbr.size);have hw1:=hown.below hb1;have hbs:=hB1.size;have hzl:((dH b a).take i).length<1000000000:=by have h1:=hbl;simp[eP];omega
     clear hb1 hbr hown hc hd;go_wp2_with (at_builtin;refine aX 22 Tryz.underlying22 rfl (.tmp 35) (.tmp 37) rfl w.heap.size _ _ _ rfl hw1 rfl hzl hbs ?_)
     intro v' w2 hw2 hb2;have hB2:=hb2 _ _ hB1 (Fb _);rw[←HT.out] at hw2;clear hw1 hb2 hB1;go_wp2;go_roundw;case rel=>exact⟨i+1,by go_num,by omega,hw2,hB2⟩
     case measure=>(first | (simp[intOf];done) | (simp[intOf];omega))
    ·have hdb:decide ((i:Int)<((a.length:Nat):Int))=false:=by simp;omega
     have HT:=E5 (show (dH b a).take (i+1)=(dH b a).take i++[aH b i] by rw[HT.out,if_neg hib]);have hbs:=hbr.size;have hzl:((dH b a).take i).length<1000000000:=by have h1:=hbl;simp[eP];omega
     go_wp2_with (at_builtin;refine aX 22 Tryz.underlying22 rfl (.tmp 35) (.tmp 37) rfl w.heap.size _ _ _ rfl hown rfl hzl hbs ?_)
     intro v' w2 hw2 hb2;have hB2:=hb2 _ _ hbr (Fb _);rw[←HT.out] at hw2;clear hb2 hbr hc hown;go_wp2;go_roundw;case rel=>exact⟨i+1,by go_num,by omega,hw2,hB2⟩
     case measure=>(first | (simp[intOf];done) | (simp[intOf];omega))
   ·have hin':i=b.length:=by omega
    subst hin';have hw:=hown;rw[show (dH b a).take b.length=dH b a from Fi (by rw[eP];exact Fb _),←HS.out] at hw;clear hown hi;go_wp2;go_ret;exact⟨_,rfl,hw,hbr⟩
 ·have hd0:decide ((a.length:Int)<(b.length:Int))=false:=by simp;omega
  have hd1:decide (a.length<b.length)=false:=decide_eq_false hlt;have HS:=E5 (show gP a b=dH a b by unfold gP;rw[if_neg hlt]);clear hlt;go_wp2;go_loopw [7,19] (fun s7 s19 wr=>∃ i:Nat,s19=.int .i64 i∧i≤a.length∧bE wr w.heap.size s7 ((dH a b).take i)∧Below w.heap.size w wr) (fun _ s19 _=>a.length-(intOf s19).toNat)
  case atStart=>exact⟨0,rfl,Fk _,bE.nil _ _,Below.refl _ _⟩
  case round =>
   obtain⟨i,rfl,hin,hown,hbr⟩:=hrel;by_cases hi:i<a.length
   ·obtain⟨ba,oa,rfl,hba,hca⟩:=(ha.below hbr).all (by omega);have hc:=hca i hi;have HT:=E5 (pX a b hi);clear hca;by_cases hib:i<b.length
    ·have hdb:decide ((i:Int)<((b.length:Nat):Int))=true:=by simp;omega
     obtain⟨bb,ob,rfl,hbb,hcb⟩:=(hb.below hbr).all (by omega);have hd:=hcb i hib;have HT:=E5 (show (dH a b).take (i+1)=(dH a b).take i++[gT (aH a i) (aH b i)] by rw[HT.out,if_pos hib]);clear hcb;go_wp2_with fail
     refine (kJ _ _ wr (HG.out.below hbr)).mono ?_;rintro e w1 ⟨rfl,hb1⟩;have hB1:=hbr.trans (hb1.mono hbr.size);have hw1:=hown.below hb1;have hbs:=hB1.size;have hzl:((dH a b).take i).length<1000000000:=by have h1:=hal;simp[eP];omega
     clear hb1 hbr hown hc hd;go_wp2_with (at_builtin;refine aX 22 Tryz.underlying22 rfl (.tmp 35) (.tmp 37) rfl w.heap.size _ _ _ rfl hw1 rfl hzl hbs ?_)
     intro v' w2 hw2 hb2;have hB2:=hb2 _ _ hB1 (Fb _);rw[←HT.out] at hw2;clear hw1 hb2 hB1;go_wp2;go_roundw;case rel=>exact⟨i+1,by go_num,by omega,hw2,hB2⟩
     case measure=>(first | (simp[intOf];done) | (simp[intOf];omega))
    ·have hdb:decide ((i:Int)<((b.length:Nat):Int))=false:=by simp;omega
     have HT:=E5 (show (dH a b).take (i+1)=(dH a b).take i++[aH a i] by rw[HT.out,if_neg hib]);have hbs:=hbr.size;have hzl:((dH a b).take i).length<1000000000:=by have h1:=hal;simp[eP];omega
     go_wp2_with (at_builtin;refine aX 22 Tryz.underlying22 rfl (.tmp 35) (.tmp 37) rfl w.heap.size _ _ _ rfl hown rfl hzl hbs ?_)
     intro v' w2 hw2 hb2;have hB2:=hb2 _ _ hbr (Fb _);rw[←HT.out] at hw2;clear hb2 hbr hc hown;go_wp2;go_roundw;case rel=>exact⟨i+1,by go_num,by omega,hw2,hB2⟩
     case measure=>(first | (simp[intOf];done) | (simp[intOf];omega))
   ·have hin':i=a.length:=by omega
    subst hin';have hw:=hown;rw[show (dH a b).take a.length=dH a b from Fi (by rw[eP];exact Fb _),←HS.out] at hw;clear hown hi;go_wp2;go_ret;exact⟨_,rfl,hw,hbr⟩
structure Off (g:Nat) (wa:World) where
 w:World
 s:wa.heap.size≤w.heap.size
 h:∀ k,k<wa.heap.size→k≠g→w.heap[k]?=wa.heap[k]?
instance instOff (g:Nat) (wa:World):Nonempty (Off g wa):=⟨⟨wa,Fb _,fun _ _ _=>rfl⟩⟩
theorem Off.cell {g:Nat}{wa:World} (x:Off g wa) {b o:Nat}{v:Value} (hb:b<wa.heap.size) (hne:b≠g) (hc:wa.cell? ⟨b,o,none⟩=some v):x.w.cell? ⟨b,o,none⟩=some v :=
 (World.cell?_of_block (w:=wa) (a:=⟨b,o,none⟩) (x.h b hb hne)).trans hc
theorem Off.below {g:Nat}{wa w':World} (h:Below wa.heap.size wa w'):∃ x:Off g wa,w'=x.w:=⟨⟨w',h.size,fun k hk _=>h.block k hk⟩,rfl⟩
theorem Off.set {g:Nat}{wa w':World} (h:∃ x:Off g wa,w'=x.w) (j:Nat) (u:Value):∃ x:Off g wa,w'.setCell ⟨g,j,none⟩ u=x.w:=by
 obtain⟨x,rfl⟩:=h;exact⟨⟨x.w.setCell ⟨g,j,none⟩ u,by simpa[World.setCell] using x.s,fun k hk hne=>(Below.heap_setCell x.w ⟨g,j,none⟩ u k hne).trans (x.h k hk hne)⟩,rfl⟩
structure iT (w:World) (v:Value) (fa fb ga gb:List ByteArray) (k:ByteArray) (n:Int):Prop where
 ex:∃ p c q d p' c' q' d',v=.agg #[.slice p fa.length c,.slice q fb.length d,.slice p' ga.length c',.slice q' gb.length d',.string k,.int .i64 n] ∧
  IsS w (.slice p fa.length c) fa∧IsS w (.slice q fb.length d) fb∧IsS w (.slice p' ga.length c') ga∧IsS w (.slice q' gb.length d') gb
theorem iT.below {w w':World}{v:Value}{fa fb ga gb:List ByteArray}{k:ByteArray}{n:Int} (h:iT w v fa fb ga gb k n) (hb:Below w.heap.size w w'):iT w' v fa fb ga gb k n:=by
 obtain⟨p,c,q,d,p',c',q',d',e,h1,h2,h3,h4⟩:=h.ex;exact⟨⟨p,c,q,d,p',c',q',d',e,h1.below hb,h2.below hb,h3.below hb,h4.below hb⟩⟩
theorem ae {w:World}{g:Nat}{a b:Value}{T:TypeId} (h:w.heap[g]?=some (.cells #[a,b] T (0,0))) (j:Nat):w.cell? ⟨g,j,none⟩=#[a,b][j]?:=by rw[World.cell?,h];rfl
theorem ap {w:World}{g:Nat}{a b:Value}{T:TypeId} (h:w.heap[g]?=some (.cells #[a,b] T (0,0))) (j:Nat):w.frozen? ⟨g,j,none⟩=false:=by rw[World.frozen?,h];simp
theorem aI {w:World}{g:Nat}{a b:Value}{T:TypeId} (h:w.heap[g]?=some (.cells #[a,b] T (0,0))) (x y:Value):((w.setCell ⟨g,0,none⟩ x).setCell ⟨g,1,none⟩ y).heap[g]?=some (.cells #[x,y] T (0,0)):=by
 have h1:=heap_setCell_same w g 0 #[a,b] T x h;exact heap_setCell_same _ g 1 #[x,b] T y h1
theorem zH (s:List ByteArray) (h0:0<s.length) (k:Nat) (p:Option Addr) (n c:Nat) (w:World) (hs:IsS w (.slice p n c) s) (hn:n=s.length) (hc:w.cell? ⟨k,0,none⟩=some (.slice p n c)) (hk:k<w.heap.size) (hG:Gw w) :
  FnT 179 #[.pointer (some ⟨k,0,none⟩)] (fun a=>cX a (aH s 0)) w:=by
 refine⟨a_ Tryz.func179 rfl (by kernel_rfl),fun x w0 hw=>?_⟩;obtain⟨b,o,rfl,hlt,hcs⟩:=hs.all h0;have c0:=af hw hk hc;have c1:w0.cell? ⟨b,o,none⟩=some (.string (aH s 0)):=by simpa using af hw hlt (hcs 0 h0)
 have HD:=E5 (fG x (aH s 0) w0 (hG.below hw));have hnp:0<n:=by omega
 clear hcs hs hn
 show Calls _ _ #[_,.pointer (some ⟨k,0,none⟩)] _ _
 go_enter Tryz.func179,Tryz.ntmps179;go_wp2_with fail
 refine HD.out.mono ?_;rintro e w1 ⟨rfl,hb1⟩;go_wp2;go_ret;exact⟨rfl,hb1⟩
structure zl (B:Nat) (w:World) (v:Value) (a b:List ByteArray):Prop where
 ex:∃ p c q d,v=.agg #[.slice p a.length c,.slice q b.length d]∧IsS w (.slice p a.length c) a∧IsS w (.slice q b.length d) b ∧
  (∀ g,Value.ownBlock (.slice p a.length c)=some g→B≤g)∧(∀ g,Value.ownBlock (.slice q b.length d)=some g→B≤g)
theorem zl.isF {B:Nat}{w:World}{v:Value}{a b:List ByteArray} (h:zl B w v a b):IsF w v a b:=by
 obtain⟨p,c,q,d,e,h1,h2,-⟩:=h.ex;exact⟨p,c,q,d,e,h1,h2⟩
def AF (e:Int):List PanicEntry:=[{ v:=.iface 136 (.agg #[.int .i64 e]),recovered:=false }]
def gR (r:Except Int (List ByteArray×List ByteArray)) (w:World) (e:Ending) (w':World):Prop :=
 Below w.heap.size w w'∧match r with
 | .ok (a,b)=>∃ v,e=.returned v∧zl w.heap.size w' v a b
 | .error n=>e=.panicked (AF n)
def dh (l fa fb:List ByteArray):Except Int (List ByteArray×List ByteArray) :=
 if aH (gP fa fb) 0=⟨#[48]⟩ then .error 33 else .ok (l.map (fun a=>cX a (aH (gP fa fb) 0)),(gP fa fb).map (fun a=>cX a (aH (gP fa fb) 0)))
theorem rX (v vl:Value) (l fa fb ga gb:List ByteArray) (k:ByteArray) (n:Int) (w:World) (hP:iT w v fa fb ga gb k n) (hl:IsS w vl l) (hll:l.length<1000) (h1:0<fa.length) (h2:fa.length<1000) (h3:fb.length<1000) (hG:Gw w) :
  Calls Tryz.prog 133 #[v,vl] w (gR (dh l fa fb) w):=by
 obtain⟨p,c,q,d,p',c',q',d',rfl,hfa,hfb,-,-⟩:=id hP.ex;obtain⟨pl,cl,rfl,-⟩:=id hl.form;go_enter Tryz.func133,Tryz.ntmps133;go_upto_region 1 with fail
 have m1:=ak w (.cells #[.slice p fa.length c,.slice q fb.length d,.slice p' ga.length c',.slice q' gb.length d',.string k,.int .i64 n] 97);have z1:=size_alloc w (.cells #[.slice p fa.length c,.slice q fb.length d,.slice p' ga.length c',.slice q' gb.length d',.string k,.int .i64 n] 97);have a0:=aA w #[.slice p fa.length c,.slice q fb.length d,.slice p' ga.length c',.slice q' gb.length d',.string k,.int .i64 n] 97 0 _ rfl;have a1:=aA w #[.slice p fa.length c,.slice q fb.length d,.slice p' ga.length c',.slice q' gb.length d',.string k,.int .i64 n] 97 1 _ rfl;generalize w.alloc (.cells #[.slice p fa.length c,.slice q fb.length d,.slice p' ga.length c',.slice q' gb.length d',.string k,.int .i64 n] 97)=w1 at *
 have q2:(w1.alloc (.cells #[.slice none 0 0,.slice none 0 0] 24)).heap[w1.heap.size]?=some (.cells #[.slice none 0 0,.slice none 0 0] 24 (0,0)):=heap_alloc_new w1 _;have m2:=ak w1 (.cells #[.slice none 0 0,.slice none 0 0] 24);have z2:=size_alloc w1 (.cells #[.slice none 0 0,.slice none 0 0] 24);have b0:=af m2 (show w.heap.size<w1.heap.size by omega) a0;have b1:=af m2 (show w.heap.size<w1.heap.size by omega) a1;generalize w1.alloc (.cells #[.slice none 0 0,.slice none 0 0] 24)=w2 at *
 rw[z1] at q2;have M2:=E5 (m1.trans (m2.mono m1.size));have hz2:w.heap.size+1<w2.heap.size:=by omega
 have HS:=E5 (sumN _ _ fa fb w2 (hfa.below M2.out) (hfb.below M2.out) (by omega) (by omega) (hG.below M2.out));have HL:=E5 (hl.below M2.out);have HG:=E5 (hG.below M2.out);have hsl:0<(gP fa fb).length:=by rw[ou];omega
 have hsl2:(gP fa fb).length<1000:=by rw[ou];omega
 obtain⟨s,hs⟩:∃ s,s=gP fa fb:=⟨_,rfl⟩;rw[←hs] at HS hsl hsl2;have HSE:=E5 hs;clear m1 z1 a0 a1 m2 z2 hfa hfb hl hG hP hs;go_wp2_with fail
 refine HS.out.mono ?_;rintro e w3 ⟨u,rfl,hu,hb3⟩
 obtain⟨b,o,hue,hub,hcs⟩:∃ b o,(∃ cu,u=.slice (some ⟨b,o,none⟩) s.length cu)∧b<w3.heap.size∧w3.cell? ⟨b,o,none⟩=some (.string (aH s 0)):=by
  obtain⟨pu,cu,rfl,-⟩:=id hu.isS.form;obtain⟨b,o,rfl,hlt,hc⟩:=hu.isS.all hsl;exact⟨b,o,⟨cu,rfl⟩,hlt,hc 0 hsl⟩
 obtain⟨cu,rfl⟩:=hue;have hIS:=hu.isS;clear hu;go_upto_region 2 with fail
 have a5:(w3.alloc (.cells #[.slice (some ⟨b,o,none⟩) s.length cu] 22)).cell? ⟨w3.heap.size,0,none⟩=some (.slice (some ⟨b,o,none⟩) s.length cu):=aA w3 _ _ 0 _ rfl;have m3:=ak w3 (.cells #[.slice (some ⟨b,o,none⟩) s.length cu] 22);have z3:=size_alloc w3 (.cells #[.slice (some ⟨b,o,none⟩) s.length cu] 22);generalize w3.alloc (.cells #[.slice (some ⟨b,o,none⟩) s.length cu] 22)=w4 at *
 have hcs4:=af m3 hub hcs;have hb4:=hb3.trans (m3.mono hb3.size);have M4:=E5 (M2.out.trans (hb4.mono M2.out.size));have HIS:=E5 (hIS.below m3);have hw34:w3.heap.size<w4.heap.size:=by omega
 have hw23:w2.heap.size≤w3.heap.size:=hb3.size;have q4:=(hb4.block (w.heap.size+1) hz2).trans q2;have HL4:=E5 (HL.out.below hb4);have HG4:=E5 (HG.out.below hb4);clear HS hcs hIS q2 hb3 b0 b1 HL HG m3 z3;obtain⟨x,hx⟩:∃ x,x=aH s 0:=⟨_,rfl⟩;rw[←hx] at hcs4;have HX:=E5 hx;clear hx;by_cases heq:x=⟨#[48]⟩
 ·have hd:(x.toList == [48])=true:=by rw[heq,ar];rfl
  have HC:=E5 (show dh l fa fb=.error 33 by unfold dh;rw[←HSE.out,if_pos (by rw[←HX.out];exact heq)]);clear heq;go_wp2_with fail
  refine⟨rfl,M4.out,?_⟩;rw[HC.out];rfl
 ·have hd:(x.toList == [48])=false:=by
   rw[FY];intro h;refine heq (i6 ?_);rw[←ar];simpa using h
  have HC:=E5 (show dh l fa fb=.ok (l.map (fun a=>cX a (aH s 0)),s.map (fun a=>cX a (aH s 0))) by unfold dh;rw[←HSE.out,if_neg (by rw[←HX.out];exact heq)]);clear heq;go_upto_region 5 with fail
  have m5:Below w4.heap.size w4 w4.drew:=(Below.refl _ _).drew;have HFn:=E5 ((zH s hsl w3.heap.size (some ⟨b,o,none⟩) s.length cu w4 HIS.out rfl a5 hw34 HG4.out).below m5);refine aq (fun w'=>∃ x:Off (w.heap.size+1) w4.drew,w'=x.w) (fun i=>i == 2||i == 5||i == 7) (by kernel_rfl) (by kernel_rfl) ⟨⟨_,Fb _,fun _ _ _=>rfl⟩,rfl⟩ ?_;have c5:=fun x:Off (w.heap.size+1) w4.drew=>x.cell (show w3.heap.size<w4.heap.size from hw34) (by omega) a5;have q5:=(m5.block (w.heap.size+1) (by omega)).trans q4;have M5:=E5 (M4.out.trans (m5.mono M4.out.size));have HL5:=E5 (HL4.out.below m5);have HI5:=E5 (HIS.out.below m5);have hw5:w3.heap.size<w4.drew.heap.size:=hw34;clear m5 a5 hcs4 HIS HL4 q4;generalize w4.drew=wd at *
  refine ah 2 0 _ _ _ (by kernel_rfl) ?_;simp only[Fc,Fg,Fd,Ff];repeat (go_big_quiet_step (fail))
  refine wpQuiet_nil ?_;refine aj rfl rfl (fun K hK=>?_);go_simp;refine (nj _ l _ _ _ wd HL5.out (by omega) HFn.out).mono ?_;rintro e w6 ⟨u1,rfl,hu1,hb6⟩;obtain⟨L1,hL1⟩:∃ L,L=l.map (fun a=>cX a (aH s 0)):=⟨_,rfl⟩;rw[←hL1] at hu1;have HL1:=E5 hL1;clear hL1;refine hK _ _ (Off.below hb6) ?_;clear hK K;try simp only[Act.put,E9,E8,E7,E6,Fa,E_]
  refine ah 2 3 _ _ _ (by kernel_rfl) ?_;simp only[Fc,Fg,Fd,Ff];repeat (go_big_quiet_step (fail))
  refine wpQuiet_nil ?_;refine aj rfl rfl (fun K hK=>?_);go_simp;refine (nj _ s _ _ _ w6 (HI5.out.below hb6) (by omega) (HFn.out.below hb6)).mono ?_;rintro e w7 ⟨u2,rfl,hu2,hb7⟩;obtain⟨L2,hL2⟩:∃ L,L=s.map (fun a=>cX a (aH s 0)):=⟨_,rfl⟩;rw[←hL2] at hu2;have HL2:=E5 hL2;clear hL2;have hB7:=hb6.trans (hb7.mono hb6.size);refine hK _ _ (Off.below hB7) ?_;clear hK K;try simp only[Act.put,E9,E8,E7,E6,Fa,E_]
  have hk1:=hu1.below hb7;obtain⟨p1,c1,rfl,-⟩:=id hk1.isS.form;obtain⟨p2,c2,rfl,-⟩:=id hu2.isS.form;have hn1:Value.ownBlock (.slice p1 L1.length c1)≠some (w.heap.size+1):=fun e=>by have:=(World.ownsRow.lt hk1 _ e).1;omega
  have hn2:Value.ownBlock (.slice p2 L2.length c2)≠some (w.heap.size+1):=fun e=>by have:=(World.ownsRow.lt hu2 _ e).1;have:=hb6.size;omega
  have o1:=E5 (show ∀ g,Value.ownBlock (.slice p1 L1.length c1)=some g→w.heap.size≤g from fun g e=>by have:=(World.ownsRow.lt hk1 _ e).1;omega);have o2:=E5 (show ∀ g,Value.ownBlock (.slice p2 L2.length c2)=some g→w.heap.size≤g from fun g e=>by have:=(World.ownsRow.lt hu2 _ e).1;have:=hb6.size;omega);have q7:=(hB7.block (w.heap.size+1) (by omega)).trans q5;have k0:=ae q7 0;have k1:=ae q7 1;have f0:=ap q7 0;have f1:=ap q7 1;have r1:=(hk1.isS.other hn1 0 (.slice p1 L1.length c1)).other hn1 1 (.slice p2 L2.length c2);have r2:=(hu2.isS.other hn2 0 (.slice p1 L1.length c1)).other hn2 1 (.slice p2 L2.length c2);have R1:=E5 r1;have R2:=E5 r2;have M7:=E5 (((M5.out.trans (hB7.mono M5.out.size)).setCell (p:=⟨w.heap.size+1,0,none⟩) (Fx _) (.slice p1 L1.length c1)).setCell (p:=⟨w.heap.size+1,1,none⟩) (Fx _) (.slice p2 L2.length c2));have hOff:=Off.set (g:=w.heap.size+1) (Off.set (g:=w.heap.size+1) (Off.below hB7) 0 (.slice p1 L1.length c1)) 1 (.slice p2 L2.length c2);have g0:=aI q7 (.slice p1 L1.length c1) (.slice p2 L2.length c2);clear r1 r2 hn1 hn2 hk1 hu2 q7 q5 hB7 hb7 hb6 hu1;refine ah 1 6 _ _ _ (by kernel_rfl) ?_;simp only[Fc,Fg,Fd,Ff];repeat (go_big_quiet_step (fail))
  refine wpQuiet_nil ?_;refine aj rfl rfl (fun K hK=>?_);go_simp;refine hK undef _ hOff ?_;clear hK K;try simp only[Act.put,E9,E8,E7,E6,Fa,E_]
  refine aB ?_;have x0:=ae g0 0;have x1:=ae g0 1;go_wp2_with fail
  refine bodyPost_ret (v:=.agg #[.slice p1 L1.length c1,.slice p2 L2.length c2]) (by simp at x0 x1;simp[results,Tryz.results133,go_sem,x0,x1]) rfl ⟨M7.out,?_⟩;rw[HC.out,←HL1.out,←HL2.out];exact⟨_,rfl,⟨p1,c1,p2,c2,rfl,R1.out,R2.out,o1.out,o2.out⟩⟩
end Go.Proofs.YtbnkpcfjechfiaaGreatDoor
