/- L -/
import Derived.Test.YtmakbmhlemhgeaaGreatDoorQLP5
import Derived.Test.YtmakbmhlemhgeaaGreatDoorQB
set_option linter.all false
set_option maxRecDepth 100000
set_option maxHeartbeats 8000000
namespace Go.Proofs.YtmakbmhlemhgeaaGreatDoor
open Go.RowKit Dg
structure FnT (F:FuncId) (cap:Array Value) (φ:ByteArray->ByteArray) (w:World):Prop where
 en:∀ (args:Array Value) (w:World),(callFunc F args).run Tryz.prog w=.ok (.enter F args) w
 on:∀ (x:ByteArray) (w':World),Below w.heap.size w w'->Calls Tryz.prog F (#[.string x]++cap) w' fun e w''=>e=.returned (.string (φ x))/\Below w'.heap.size w' w''
theorem FnT.below {F:FuncId}{cap:Array Value}{φ:ByteArray->ByteArray}{w w':World} (h:FnT F cap φ w) (hb:Below w.heap.size w w'):FnT F cap φ w' :=
 ⟨h.en,fun x w'' hb'=>h.on x w'' (hb.trans (hb'.mono hb.size))⟩
theorem pN (v:Value) (l:List ByteArray) (F:FuncId) (cap:Array Value) (φ:ByteArray->ByteArray) (w:World) (hl:IsS w v l) (hlen:l.length<1000000) (hF:FnT F cap φ w) :
  Calls Tryz.prog 120 #[v,.func (.func F) #[] cap] w fun e w'=>∃ u,e=.returned u/\cm w' w.heap.size u (l.map φ)/\Below w.heap.size w w':=by
 obtain⟨p,c,rfl,-⟩:=id hl.form;have HL:=ri hl;have HF:=ri hF;have EN:=hF.en;clear hl hF;go_enter Tryz.func120,Tryz.ntmps120;go_wp2;go_loopw [5,10] (fun s5 s10 wr=>∃ i:Nat,s10=.int .i64 i/\i<=l.length/\cm wr w.heap.size s5 ((l.map φ).take i)/\Below w.heap.size w wr) (fun _ s10 _=>l.length-(intOf s10).toNat)
 case atStart=>exact⟨0,rfl,rH _,cm.nil _ _,t_ _ _⟩
 case round =>
  obtain⟨i,rfl,hin,hown,hbr⟩:=hrel;by_cases hi:i<l.length
  ·obtain⟨b,o,rfl,hbl,hcs⟩:=(HL.out.below hbr).all (by omega);have hcell:=hcs i hi
   have HT:=ri (show (l.map φ).take (i+1)=(l.map φ).take i++[φ (aU l i)] by
    rw[show (l.map φ).take (i+1)=(l.map φ).take i++[(l.map φ)[i]'(by simpa using hi)] from (rL _).symm,sm,dT])
   clear hcs;go_wp2_with fail
   refine (HF.out.on _ wr hbr).mono ?_;rintro e w1 ⟨rfl,hb1⟩;have hB1:=hbr.trans (hb1.mono hbr.size);have hw1:=hown.below hb1;have hbs:=hB1.size;have hzl:((l.map φ).take i).length<1000000000:=by simp;omega
   clear hb1 hbr hown hcell;go_wp2_with (at_builtin;refine aI 29 Tryz.underlying29 rfl (.tmp 14) (.tmp 18) rfl w.heap.size _ _ _ rfl hw1 rfl hzl hbs ?_)
   intro v' w2 hw2 hb2;have hB2:=hb2 _ _ hB1 (rp _);rw[<-HT.out] at hw2;clear hw1 hb2 hB1;go_wp2;go_roundw;case rel=>exact⟨i+1,by go_num,by omega,hw2,hB2⟩
   case measure=>simp[intOf]<;>omega
  ·have hin':i=l.length:=by omega
   subst hin';have hw:=hown;rw[show (l.map φ).take l.length=l.map φ from rz (by simp)] at hw;clear hown hi;go_wp2;go_ret;exact⟨_,rfl,hw,hbr⟩
def bm (a b:List ByteArray):List ByteArray:=(List.range a.length).map fun i=>if i<b.length then fJ (aU a i) (aU b i) else aU a i
def dV (a b:List ByteArray):List ByteArray:=if a.length<b.length then bm b a else bm a b
theorem bH (a b:List ByteArray):(bm a b).length=a.length:=by simp[bm]
theorem kc (a b:List ByteArray):(dV a b).length=max a.length b.length:=by
 unfold dV
 split
 ·rw[bH];omega
 ·rw[bH];omega
theorem iG (a b:List ByteArray) {i:Nat} (hi:i<a.length):(bm a b).take (i+1)=(bm a b).take i++[if i<b.length then fJ (aU a i) (aU b i) else aU a i]:=by
 have hl:i<(bm a b).length:=by rw[bH];exact hi
 rw[show (bm a b).take (i+1)=(bm a b).take i++[(bm a b)[i]] from (rL hl).symm];simp[bm]
theorem sumN (va vb:Value) (a b:List ByteArray) (w:World) (ha:IsS w va a) (hb:IsS w vb b) (hal:a.length<1000000) (hbl:b.length<1000000) (hG:Gw w) :
  Calls Tryz.prog 118 #[va,vb,.func (.func 68) #[] #[]] w fun e w'=>∃ u,e=.returned u/\cm w' w.heap.size u (dV a b)/\Below w.heap.size w w':=by
 obtain⟨pa,xa,rfl,-⟩:=id ha.form;obtain⟨pb,xb,rfl,-⟩:=id hb.form;have HG:=ri hG;go_enter Tryz.func118,Tryz.ntmps118;by_cases hlt:a.length<b.length
 ·have hd0:decide ((a.length:Int)<(b.length:Int))=true:=by simp;omega
  have hd1:decide (a.length<b.length)=true:=decide_eq_true hlt;have HS:=ri (show dV a b=bm b a by unfold dV;rw[if_pos hlt]);clear hlt;go_wp2;go_loopw [7,19] (fun s7 s19 wr=>∃ i:Nat,s19=.int .i64 i/\i<=b.length/\cm wr w.heap.size s7 ((bm b a).take i)/\Below w.heap.size w wr) (fun _ s19 _=>b.length-(intOf s19).toNat)
  case atStart=>exact⟨0,rfl,rH _,cm.nil _ _,t_ _ _⟩
  case round =>
   obtain⟨i,rfl,hin,hown,hbr⟩:=hrel;by_cases hi:i<b.length
   ·obtain⟨ba,oa,rfl,hba,hca⟩:=(hb.below hbr).all (by omega);have hc:=hca i hi;have HT:=ri (iG b a hi);clear hca;by_cases hib:i<a.length
    ·have hdb:decide ((i:Int)<((a.length:Nat):Int))=true:=by simp;omega
     obtain⟨bb,ob,rfl,hbb,hcb⟩:=(ha.below hbr).all (by omega);have hd:=hcb i hib;have HT:=ri (show (bm b a).take (i+1)=(bm b a).take i++[fJ (aU b i) (aU a i)] by rw[HT.out,if_pos hib]);clear hcb;go_wp2_with fail
     refine (iW _ _ wr (HG.out.below hbr)).mono ?_;rintro e w1 ⟨rfl,hb1⟩;have hB1:=hbr.trans (hb1.mono hbr.size);have hw1:=hown.below hb1;have hbs:=hB1.size;have hzl:((bm b a).take i).length<1000000000:=by have h1:=hbl;simp[bH];omega
     clear hb1 hbr hown hc hd;go_wp2_with (at_builtin;refine aI 29 Tryz.underlying29 rfl (.tmp 35) (.tmp 37) rfl w.heap.size _ _ _ rfl hw1 rfl hzl hbs ?_)
     intro v' w2 hw2 hb2;have hB2:=hb2 _ _ hB1 (rp _);rw[<-HT.out] at hw2;clear hw1 hb2 hB1;go_wp2;go_roundw;case rel=>exact⟨i+1,by go_num,by omega,hw2,hB2⟩
     case measure=>simp[intOf]<;>omega
    ·have hdb:decide ((i:Int)<((a.length:Nat):Int))=false:=by simp;omega
     have HT:=ri (show (bm b a).take (i+1)=(bm b a).take i++[aU b i] by rw[HT.out,if_neg hib]);have hbs:=hbr.size;have hzl:((bm b a).take i).length<1000000000:=by have h1:=hbl;simp[bH];omega
     go_wp2_with (at_builtin;refine aI 29 Tryz.underlying29 rfl (.tmp 35) (.tmp 37) rfl w.heap.size _ _ _ rfl hown rfl hzl hbs ?_)
     intro v' w2 hw2 hb2;have hB2:=hb2 _ _ hbr (rp _);rw[<-HT.out] at hw2;clear hb2 hbr hc hown;go_wp2;go_roundw;case rel=>exact⟨i+1,by go_num,by omega,hw2,hB2⟩
     case measure=>simp[intOf]<;>omega
   ·have hin':i=b.length:=by omega
    subst hin';have hw:=hown;rw[show (bm b a).take b.length=bm b a from rz (by rw[bH];exact rp _),<-HS.out] at hw;clear hown hi;go_wp2;go_ret;exact⟨_,rfl,hw,hbr⟩
 ·have hd0:decide ((a.length:Int)<(b.length:Int))=false:=by simp;omega
  have hd1:decide (a.length<b.length)=false:=decide_eq_false hlt;have HS:=ri (show dV a b=bm a b by unfold dV;rw[if_neg hlt]);clear hlt;go_wp2;go_loopw [7,19] (fun s7 s19 wr=>∃ i:Nat,s19=.int .i64 i/\i<=a.length/\cm wr w.heap.size s7 ((bm a b).take i)/\Below w.heap.size w wr) (fun _ s19 _=>a.length-(intOf s19).toNat)
  case atStart=>exact⟨0,rfl,rH _,cm.nil _ _,t_ _ _⟩
  case round =>
   obtain⟨i,rfl,hin,hown,hbr⟩:=hrel;by_cases hi:i<a.length
   ·obtain⟨ba,oa,rfl,hba,hca⟩:=(ha.below hbr).all (by omega);have hc:=hca i hi;have HT:=ri (iG a b hi);clear hca;by_cases hib:i<b.length
    ·have hdb:decide ((i:Int)<((b.length:Nat):Int))=true:=by simp;omega
     obtain⟨bb,ob,rfl,hbb,hcb⟩:=(hb.below hbr).all (by omega);have hd:=hcb i hib;have HT:=ri (show (bm a b).take (i+1)=(bm a b).take i++[fJ (aU a i) (aU b i)] by rw[HT.out,if_pos hib]);clear hcb;go_wp2_with fail
     refine (iW _ _ wr (HG.out.below hbr)).mono ?_;rintro e w1 ⟨rfl,hb1⟩;have hB1:=hbr.trans (hb1.mono hbr.size);have hw1:=hown.below hb1;have hbs:=hB1.size;have hzl:((bm a b).take i).length<1000000000:=by have h1:=hal;simp[bH];omega
     clear hb1 hbr hown hc hd;go_wp2_with (at_builtin;refine aI 29 Tryz.underlying29 rfl (.tmp 35) (.tmp 37) rfl w.heap.size _ _ _ rfl hw1 rfl hzl hbs ?_)
     intro v' w2 hw2 hb2;have hB2:=hb2 _ _ hB1 (rp _);rw[<-HT.out] at hw2;clear hw1 hb2 hB1;go_wp2;go_roundw;case rel=>exact⟨i+1,by go_num,by omega,hw2,hB2⟩
     case measure=>simp[intOf]<;>omega
    ·have hdb:decide ((i:Int)<((b.length:Nat):Int))=false:=by simp;omega
     have HT:=ri (show (bm a b).take (i+1)=(bm a b).take i++[aU a i] by rw[HT.out,if_neg hib]);have hbs:=hbr.size;have hzl:((bm a b).take i).length<1000000000:=by have h1:=hal;simp[bH];omega
     go_wp2_with (at_builtin;refine aI 29 Tryz.underlying29 rfl (.tmp 35) (.tmp 37) rfl w.heap.size _ _ _ rfl hown rfl hzl hbs ?_)
     intro v' w2 hw2 hb2;have hB2:=hb2 _ _ hbr (rp _);rw[<-HT.out] at hw2;clear hb2 hbr hc hown;go_wp2;go_roundw;case rel=>exact⟨i+1,by go_num,by omega,hw2,hB2⟩
     case measure=>simp[intOf]<;>omega
   ·have hin':i=a.length:=by omega
    subst hin';have hw:=hown;rw[show (bm a b).take a.length=bm a b from rz (by rw[bH];exact rp _),<-HS.out] at hw;clear hown hi;go_wp2;go_ret;exact⟨_,rfl,hw,hbr⟩
structure Off (g:Nat) (wa:World) where
 w:World
 s:wa.heap.size<=w.heap.size
 h:∀ k,k<wa.heap.size->k≠g->w.heap[k]?=wa.heap[k]?
instance instOff (g:Nat) (wa:World):Nonempty (Off g wa):=⟨⟨wa,rp _,fun _ _ _=>rfl⟩⟩
theorem Off.cell {g:Nat}{wa:World} (x:Off g wa) {b o:Nat}{v:Value} (hb:b<wa.heap.size) (hne:b≠g) (hc:wa.cell? ⟨b,o,none⟩=some v):x.w.cell? ⟨b,o,none⟩=some v :=
 (World.cell?_of_block (w:=wa) (a:=⟨b,o,none⟩) (x.h b hb hne)).trans hc
theorem Off.below {g:Nat}{wa w':World} (h:Below wa.heap.size wa w'):∃ x:Off g wa,w'=x.w:=⟨⟨w',h.size,fun k hk _=>h.block k hk⟩,rfl⟩
theorem Off.set {g:Nat}{wa w':World} (h:∃ x:Off g wa,w'=x.w) (j:Nat) (u:Value):∃ x:Off g wa,w'.setCell ⟨g,j,none⟩ u=x.w:=by
 obtain⟨x,rfl⟩:=h;exact⟨⟨x.w.setCell ⟨g,j,none⟩ u,by simpa[World.setCell] using x.s,fun k hk hne=>(Below.heap_setCell x.w ⟨g,j,none⟩ u k hne).trans (x.h k hk hne)⟩,rfl⟩
structure fI (w:World) (v:Value) (fa fb ga gb:List ByteArray) (k:ByteArray) (n:Int):Prop where
 ex:∃ p c q d p' c' q' d',v=.agg #[.slice p fa.length c,.slice q fb.length d,.slice p' ga.length c',.slice q' gb.length d',.string k,.int .i64 n] /\
  IsS w (.slice p fa.length c) fa/\IsS w (.slice q fb.length d) fb/\IsS w (.slice p' ga.length c') ga/\IsS w (.slice q' gb.length d') gb
theorem fI.below {w w':World}{v:Value}{fa fb ga gb:List ByteArray}{k:ByteArray}{n:Int} (h:fI w v fa fb ga gb k n) (hb:Below w.heap.size w w'):fI w' v fa fb ga gb k n:=by
 obtain⟨p,c,q,d,p',c',q',d',e,h1,h2,h3,h4⟩:=h.ex;exact⟨⟨p,c,q,d,p',c',q',d',e,h1.below hb,h2.below hb,h3.below hb,h4.below hb⟩⟩
theorem ag {w:World}{g:Nat}{a b:Value}{T:TypeId} (h:w.heap[g]?=some (.cells #[a,b] T (0,0))) (j:Nat):w.cell? ⟨g,j,none⟩=#[a,b][j]?:=by rw[World.cell?,h];rfl
theorem an {w:World}{g:Nat}{a b:Value}{T:TypeId} (h:w.heap[g]?=some (.cells #[a,b] T (0,0))) (j:Nat):w.frozen? ⟨g,j,none⟩=false:=by rw[World.frozen?,h];simp
theorem bz {w:World}{g:Nat}{a b:Value}{T:TypeId} (h:w.heap[g]?=some (.cells #[a,b] T (0,0))) (x y:Value):((w.setCell ⟨g,0,none⟩ x).setCell ⟨g,1,none⟩ y).heap[g]?=some (.cells #[x,y] T (0,0)):=by
 have h1:=heap_setCell_same w g 0 #[a,b] T x h;exact heap_setCell_same _ g 1 #[x,b] T y h1
theorem mK (s:List ByteArray) (h0:0<s.length) (k:Nat) (p:Option Addr) (n c:Nat) (w:World) (hs:IsS w (.slice p n c) s) (hn:n=s.length) (hc:w.cell? ⟨k,0,none⟩=some (.slice p n c)) (hk:k<w.heap.size) (hG:Gw w) :
  FnT 119 #[.pointer (some ⟨k,0,none⟩)] (fun a=>eS a (aU s 0)) w:=by
 refine⟨bE Tryz.func119 rfl (by kernel_rfl),fun x w0 hw=>?_⟩;obtain⟨b,o,rfl,hlt,hcs⟩:=hs.all h0;have c0:=ac hw hk hc;have c1:w0.cell? ⟨b,o,none⟩=some (.string (aU s 0)):=by simpa using ac hw hlt (hcs 0 h0)
 have HD:=ri (pc x (aU s 0) w0 (hG.below hw));have hnp:0<n:=by omega
 clear hcs hs hn
 show Calls _ _ #[_,.pointer (some ⟨k,0,none⟩)] _ _
 go_enter Tryz.func119,Tryz.ntmps119;go_wp2_with fail
 refine HD.out.mono ?_;rintro e w1 ⟨rfl,hb1⟩;go_wp2;go_ret;exact⟨rfl,hb1⟩
structure oI (B:Nat) (w:World) (v:Value) (a b:List ByteArray):Prop where
 ex:∃ p c q d,v=.agg #[.slice p a.length c,.slice q b.length d]/\IsS w (.slice p a.length c) a/\IsS w (.slice q b.length d) b /\
  (∀ g,Value.ownBlock (.slice p a.length c)=some g->B<=g)/\(∀ g,Value.ownBlock (.slice q b.length d)=some g->B<=g)
def ns (e:Int):List PanicEntry:=[{ v:=.iface 114 (.agg #[.int .i64 e]),recovered:=false }]
def el (r:Except Int (List ByteArray×List ByteArray)) (w:World) (e:Ending) (w':World):Prop :=
 Below w.heap.size w w'/\match r with
 | .ok (a,b)=>∃ v,e=.returned v/\oI w.heap.size w' v a b
 | .error n=>e=.panicked (ns n)
def bJ (l fa fb:List ByteArray):Except Int (List ByteArray×List ByteArray) :=
 if aU (dV fa fb) 0=⟨#[48]⟩ then .error 33 else .ok (l.map (fun a=>eS a (aU (dV fa fb) 0)),(dV fa fb).map (fun a=>eS a (aU (dV fa fb) 0)))
theorem jp (v vl:Value) (l fa fb ga gb:List ByteArray) (k:ByteArray) (n:Int) (w:World) (hP:fI w v fa fb ga gb k n) (hl:IsS w vl l) (hll:l.length<1000) (h1:0<fa.length) (h2:fa.length<1000) (h3:fb.length<1000) (hG:Gw w) :
  Calls Tryz.prog 65 #[v,vl] w (el (bJ l fa fb) w):=by
 obtain⟨p,c,q,d,p',c',q',d',rfl,hfa,hfb,-,-⟩:=id hP.ex;obtain⟨pl,cl,rfl,-⟩:=id hl.form;go_enter Tryz.func65,Tryz.ntmps65;go_upto_region 1 with fail
 have m1:=ae w (.cells #[.slice p fa.length c,.slice q fb.length d,.slice p' ga.length c',.slice q' gb.length d',.string k,.int .i64 n] 58);have z1:=af w (.cells #[.slice p fa.length c,.slice q fb.length d,.slice p' ga.length c',.slice q' gb.length d',.string k,.int .i64 n] 58);have a0:=ah w #[.slice p fa.length c,.slice q fb.length d,.slice p' ga.length c',.slice q' gb.length d',.string k,.int .i64 n] 58 0 _ rfl;have a1:=ah w #[.slice p fa.length c,.slice q fb.length d,.slice p' ga.length c',.slice q' gb.length d',.string k,.int .i64 n] 58 1 _ rfl;generalize w.alloc (.cells #[.slice p fa.length c,.slice q fb.length d,.slice p' ga.length c',.slice q' gb.length d',.string k,.int .i64 n] 58)=w1 at *
 have q2:(w1.alloc (.cells #[.slice none 0 0,.slice none 0 0] 34)).heap[w1.heap.size]?=some (.cells #[.slice none 0 0,.slice none 0 0] 34 (0,0)):=heap_alloc_new w1 _;have m2:=ae w1 (.cells #[.slice none 0 0,.slice none 0 0] 34);have z2:=af w1 (.cells #[.slice none 0 0,.slice none 0 0] 34);have b0:=ac m2 (show w.heap.size<w1.heap.size by omega) a0;have b1:=ac m2 (show w.heap.size<w1.heap.size by omega) a1;generalize w1.alloc (.cells #[.slice none 0 0,.slice none 0 0] 34)=w2 at *
 rw[z1] at q2;have M2:=ri (m1.trans (m2.mono m1.size));have hz2:w.heap.size+1<w2.heap.size:=by omega
 have HS:=ri (sumN _ _ fa fb w2 (hfa.below M2.out) (hfb.below M2.out) (by omega) (by omega) (hG.below M2.out));have HL:=ri (hl.below M2.out);have HG:=ri (hG.below M2.out);have hsl:0<(dV fa fb).length:=by rw[kc];omega
 have hsl2:(dV fa fb).length<1000:=by rw[kc];omega
 obtain⟨s,hs⟩:∃ s,s=dV fa fb:=⟨_,rfl⟩;rw[<-hs] at HS hsl hsl2;have HSE:=ri hs;clear m1 z1 a0 a1 m2 z2 hfa hfb hl hG hP hs;go_wp2_with fail
 refine HS.out.mono ?_;rintro e w3 ⟨u,rfl,hu,hb3⟩
 obtain⟨b,o,hue,hub,hcs⟩:∃ b o,(∃ cu,u=.slice (some ⟨b,o,none⟩) s.length cu)/\b<w3.heap.size/\w3.cell? ⟨b,o,none⟩=some (.string (aU s 0)):=by
  obtain⟨pu,cu,rfl,-⟩:=id hu.isS.form;obtain⟨b,o,rfl,hlt,hc⟩:=hu.isS.all hsl;exact⟨b,o,⟨cu,rfl⟩,hlt,hc 0 hsl⟩
 obtain⟨cu,rfl⟩:=hue;have hIS:=hu.isS;clear hu;go_upto_region 2 with fail
 have a5:(w3.alloc (.cells #[.slice (some ⟨b,o,none⟩) s.length cu] 29)).cell? ⟨w3.heap.size,0,none⟩=some (.slice (some ⟨b,o,none⟩) s.length cu):=ah w3 _ _ 0 _ rfl;have m3:=ae w3 (.cells #[.slice (some ⟨b,o,none⟩) s.length cu] 29);have z3:=af w3 (.cells #[.slice (some ⟨b,o,none⟩) s.length cu] 29);generalize w3.alloc (.cells #[.slice (some ⟨b,o,none⟩) s.length cu] 29)=w4 at *
 have hcs4:=ac m3 hub hcs;have hb4:=hb3.trans (m3.mono hb3.size);have M4:=ri (M2.out.trans (hb4.mono M2.out.size));have HIS:=ri (hIS.below m3);have hw34:w3.heap.size<w4.heap.size:=by omega
 have hw23:w2.heap.size<=w3.heap.size:=hb3.size;have q4:=(hb4.block (w.heap.size+1) hz2).trans q2;have HL4:=ri (HL.out.below hb4);have HG4:=ri (HG.out.below hb4);clear HS hcs hIS q2 hb3 b0 b1 HL HG m3 z3;obtain⟨x,hx⟩:∃ x,x=aU s 0:=⟨_,rfl⟩;rw[<-hx] at hcs4;have HX:=ri hx;clear hx;by_cases heq:x=⟨#[48]⟩
 ·have hd:(x.toList == [48])=true:=by rw[heq,ak];rfl
  have HC:=ri (show bJ l fa fb=.error 33 by unfold bJ;rw[<-HSE.out,if_pos (by rw[<-HX.out];exact heq)]);clear heq;go_wp2_with fail
  refine⟨rfl,M4.out,?_⟩;rw[HC.out];rfl
 ·have hd:(x.toList == [48])=false:=by
   rw[sC];intro h;refine heq (mL ?_);rw[<-ak];simpa using h
  have HC:=ri (show bJ l fa fb=.ok (l.map (fun a=>eS a (aU s 0)),s.map (fun a=>eS a (aU s 0))) by unfold bJ;rw[<-HSE.out,if_neg (by rw[<-HX.out];exact heq)]);clear heq;go_upto_region 5 with fail
  have m5:Below w4.heap.size w4 w4.drew:=(t_ _ _).drew;have HFn:=ri ((mK s hsl w3.heap.size (some ⟨b,o,none⟩) s.length cu w4 HIS.out rfl a5 hw34 HG4.out).below m5);refine aq (fun w'=>∃ x:Off (w.heap.size+1) w4.drew,w'=x.w) (fun i=>i == 2||i == 5||i == 7) (by kernel_rfl) (by kernel_rfl) ⟨⟨_,rp _,fun _ _ _=>rfl⟩,rfl⟩ ?_;have c5:=fun x:Off (w.heap.size+1) w4.drew=>x.cell (show w3.heap.size<w4.heap.size from hw34) (by omega) a5;have q5:=(m5.block (w.heap.size+1) (by omega)).trans q4;have M5:=ri (M4.out.trans (m5.mono M4.out.size));have HL5:=ri (HL4.out.below m5);have HI5:=ri (HIS.out.below m5);have hw5:w3.heap.size<w4.drew.heap.size:=hw34;clear m5 a5 hcs4 HIS HL4 q4;generalize w4.drew=wd at *
  refine aj 2 0 _ _ _ (by kernel_rfl) ?_;simp only[rC,rG,rB,rF];repeat (go_big_quiet_step (fail))
  refine wpQuiet_nil ?_;refine ai rfl rfl (fun K hK=>?_);go_simp;refine (pN _ l _ _ _ wd HL5.out (by omega) HFn.out).mono ?_;rintro e w6 ⟨u1,rfl,hu1,hb6⟩;obtain⟨L1,hL1⟩:∃ L,L=l.map (fun a=>eS a (aU s 0)):=⟨_,rfl⟩;rw[<-hL1] at hu1;have HL1:=ri hL1;clear hL1;refine hK _ _ (Off.below hb6) ?_;clear hK K;try simp only[Act.put,rm,rl,rk,rj,rr,rq]
  refine aj 2 3 _ _ _ (by kernel_rfl) ?_;simp only[rC,rG,rB,rF];repeat (go_big_quiet_step (fail))
  refine wpQuiet_nil ?_;refine ai rfl rfl (fun K hK=>?_);go_simp;refine (pN _ s _ _ _ w6 (HI5.out.below hb6) (by omega) (HFn.out.below hb6)).mono ?_;rintro e w7 ⟨u2,rfl,hu2,hb7⟩;obtain⟨L2,hL2⟩:∃ L,L=s.map (fun a=>eS a (aU s 0)):=⟨_,rfl⟩;rw[<-hL2] at hu2;have HL2:=ri hL2;clear hL2;have hB7:=hb6.trans (hb7.mono hb6.size);refine hK _ _ (Off.below hB7) ?_;clear hK K;try simp only[Act.put,rm,rl,rk,rj,rr,rq]
  have hk1:=hu1.below hb7;obtain⟨p1,c1,rfl,-⟩:=id hk1.isS.form;obtain⟨p2,c2,rfl,-⟩:=id hu2.isS.form;have hn1:Value.ownBlock (.slice p1 L1.length c1)≠some (w.heap.size+1):=fun e=>by have:=(World.ownsRow.lt hk1 _ e).1;omega
  have hn2:Value.ownBlock (.slice p2 L2.length c2)≠some (w.heap.size+1):=fun e=>by have:=(World.ownsRow.lt hu2 _ e).1;have:=hb6.size;omega
  have o1:=ri (show ∀ g,Value.ownBlock (.slice p1 L1.length c1)=some g->w.heap.size<=g from fun g e=>by have:=(World.ownsRow.lt hk1 _ e).1;omega);have o2:=ri (show ∀ g,Value.ownBlock (.slice p2 L2.length c2)=some g->w.heap.size<=g from fun g e=>by have:=(World.ownsRow.lt hu2 _ e).1;have:=hb6.size;omega);have q7:=(hB7.block (w.heap.size+1) (by omega)).trans q5;have k0:=ag q7 0;have k1:=ag q7 1;have f0:=an q7 0;have f1:=an q7 1;have r1:=(hk1.isS.other hn1 0 (.slice p1 L1.length c1)).other hn1 1 (.slice p2 L2.length c2);have r2:=(hu2.isS.other hn2 0 (.slice p1 L1.length c1)).other hn2 1 (.slice p2 L2.length c2);have R1:=ri r1;have R2:=ri r2;have M7:=ri (((M5.out.trans (hB7.mono M5.out.size)).setCell (p:=⟨w.heap.size+1,0,none⟩) (rT _) (.slice p1 L1.length c1)).setCell (p:=⟨w.heap.size+1,1,none⟩) (rT _) (.slice p2 L2.length c2));have hOff:=Off.set (g:=w.heap.size+1) (Off.set (g:=w.heap.size+1) (Off.below hB7) 0 (.slice p1 L1.length c1)) 1 (.slice p2 L2.length c2);have g0:=bz q7 (.slice p1 L1.length c1) (.slice p2 L2.length c2);clear r1 r2 hn1 hn2 hk1 hu2 q7 q5 hB7 hb7 hb6 hu1;refine aj 1 6 _ _ _ (by kernel_rfl) ?_;simp only[rC,rG,rB,rF];repeat (go_big_quiet_step (fail))
  refine wpQuiet_nil ?_;refine ai rfl rfl (fun K hK=>?_);go_simp;refine hK undef _ hOff ?_;clear hK K;try simp only[Act.put,rm,rl,rk,rj,rr,rq]
  refine aP ?_;have x0:=ag g0 0;have x1:=ag g0 1;go_wp2_with fail
  refine t8 (v:=.agg #[.slice p1 L1.length c1,.slice p2 L2.length c2]) (by simp at x0 x1;simp[results,Tryz.results65,go_sem,x0,x1]) rfl ⟨M7.out,?_⟩;rw[HC.out,<-HL1.out,<-HL2.out];exact⟨_,rfl,⟨p1,c1,p2,c2,rfl,R1.out,R2.out,o1.out,o2.out⟩⟩
end Go.Proofs.YtmakbmhlemhgeaaGreatDoor
