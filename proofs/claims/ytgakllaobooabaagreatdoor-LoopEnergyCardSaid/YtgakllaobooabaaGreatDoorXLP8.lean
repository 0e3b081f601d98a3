/- L -/
import Derived.Test.YtgakllaobooabaaGreatDoorXLP2
import Derived.Test.YtgakllaobooabaaGreatDoorXB
set_option linter.all false
set_option maxRecDepth 100000
set_option maxHeartbeats 8000000
namespace Go.Proofs.YtgakllaobooabaaGreatDoor
open Go.RowKit Dg
structure FnT (F:FuncId) (cap:Array Value) (φ:ByteArray->ByteArray) (w:World):Prop where
 en:∀ (args:Array Value) (w:World),(callFunc F args).run Tryz.prog w=.ok (.enter F args) w
 on:∀ (x:ByteArray) (w':World),Below w.heap.size w w'->Calls Tryz.prog F (#[.string x]++cap) w' fun e w''=>e=.returned (.string (φ x))/\Below w'.heap.size w' w''
theorem FnT.below {F:FuncId}{cap:Array Value}{φ:ByteArray->ByteArray}{w w':World} (h:FnT F cap φ w) (hb:Below w.heap.size w w'):FnT F cap φ w' :=
 ⟨h.en,fun x w'' hb'=>h.on x w'' (hb.trans (hb'.mono hb.size))⟩
theorem rQ (v:Value) (l:List ByteArray) (F:FuncId) (cap:Array Value) (φ:ByteArray->ByteArray) (w:World) (hl:IsS w v l) (hlen:l.length<1000000) (hF:FnT F cap φ w) :
  Calls Tryz.prog 92 #[v,.func (.func F) #[] cap] w fun e w'=>∃ u,e=.returned u/\bU w' w.heap.size u (l.map φ)/\Below w.heap.size w w':=by
 obtain⟨p,c,rfl,-⟩:=id hl.form;have HL:=At hl;have HF:=At hF;have EN:=hF.en;clear hl hF;go_enter Tryz.func92,Tryz.ntmps92;go_wp2;go_loopw [5,10] (fun s5 s10 wr=>∃ i:Nat,s10=.int .i64 i/\i<=l.length/\bU wr w.heap.size s5 ((l.map φ).take i)/\Below w.heap.size w wr) (fun _ s10 _=>l.length-(intOf s10).toNat)
 case atStart=>exact⟨0,rfl,AI _,bU.nil _ _,Dv _ _⟩
 case round =>
  obtain⟨i,rfl,hin,hown,hbr⟩:=hrel;by_cases hi:i<l.length
  ·obtain⟨b,o,rfl,hbl,hcs⟩:=(HL.out.below hbr).all (by omega);have hcell:=hcs i hi
   have HT:=At (show (l.map φ).take (i+1)=(l.map φ).take i++[φ (am l i)] by
    rw[show (l.map φ).take (i+1)=(l.map φ).take i++[(l.map φ)[i]'(by simpa using hi)] from (AM _).symm,BS,fc])
   clear hcs;go_wp2_with fail
   refine (HF.out.on _ wr hbr).mono ?_;rintro e w1 ⟨rfl,hb1⟩;have hB1:=hbr.trans (hb1.mono hbr.size);have hw1:=hown.below hb1;have hbs:=hB1.size;have hzl:((l.map φ).take i).length<1000000000:=by simp;omega
   clear hb1 hbr hown hcell;go_wp2_with (at_builtin;refine aT 22 Tryz.underlying22 rfl (.tmp 14) (.tmp 18) rfl w.heap.size _ _ _ rfl hw1 rfl hzl hbs ?_)
   intro v' w2 hw2 hb2;have hB2:=hb2 _ _ hB1 (AA _);rw[<-HT.out] at hw2;clear hw1 hb2 hB1;go_wp2;go_roundw;case rel=>exact⟨i+1,by go_num,by omega,hw2,hB2⟩
   case measure=>simp[intOf]<;>omega
  ·have hin':i=l.length:=by omega
   subst hin';have hw:=hown;rw[show (l.map φ).take l.length=l.map φ from AK (by simp)] at hw;clear hown hi;go_wp2;go_ret;exact⟨_,rfl,hw,hbr⟩
def dp (a b:List ByteArray):List ByteArray:=(List.range a.length).map fun i=>if i<b.length then eX (am a i) (am b i) else am a i
def ix (a b:List ByteArray):List ByteArray:=if a.length<b.length then dp b a else dp a b
theorem dz (a b:List ByteArray):(dp a b).length=a.length:=by simp[dp]
theorem lz (a b:List ByteArray):(ix a b).length=max a.length b.length:=by
 unfold ix
 split
 ·rw[dz];omega
 ·rw[dz];omega
theorem mO (a b:List ByteArray) {i:Nat} (hi:i<a.length):(dp a b).take (i+1)=(dp a b).take i++[if i<b.length then eX (am a i) (am b i) else am a i]:=by
 have hl:i<(dp a b).length:=by rw[dz];exact hi
 rw[show (dp a b).take (i+1)=(dp a b).take i++[(dp a b)[i]] from (AM hl).symm];simp[dp]
theorem sumN (va vb:Value) (a b:List ByteArray) (w:World) (ha:IsS w va a) (hb:IsS w vb b) (hal:a.length<1000000) (hbl:b.length<1000000) (hG:Gw w) :
  Calls Tryz.prog 118 #[va,vb,.func (.func 13) #[] #[]] w fun e w'=>∃ u,e=.returned u/\bU w' w.heap.size u (ix a b)/\Below w.heap.size w w':=by
 obtain⟨pa,xa,rfl,-⟩:=id ha.form;obtain⟨pb,xb,rfl,-⟩:=id hb.form;have HG:=At hG;go_enter Tryz.func118,Tryz.ntmps118;by_cases hlt:a.length<b.length
 ·have hd0:decide ((a.length:Int)<(b.length:Int))=true:=by simp;omega
  have hd1:decide (a.length<b.length)=true:=decide_eq_true hlt;have HS:=At (show ix a b=dp b a by unfold ix;rw[if_pos hlt]);clear hlt;go_wp2;go_loopw [7,19] (fun s7 s19 wr=>∃ i:Nat,s19=.int .i64 i/\i<=b.length/\bU wr w.heap.size s7 ((dp b a).take i)/\Below w.heap.size w wr) (fun _ s19 _=>b.length-(intOf s19).toNat)
  case atStart=>exact⟨0,rfl,AI _,bU.nil _ _,Dv _ _⟩
  case round =>
   obtain⟨i,rfl,hin,hown,hbr⟩:=hrel;by_cases hi:i<b.length
   ·obtain⟨ba,oa,rfl,hba,hca⟩:=(hb.below hbr).all (by omega);have hc:=hca i hi;have HT:=At (mO b a hi);clear hca;by_cases hib:i<a.length
    ·have hdb:decide ((i:Int)<((a.length:Nat):Int))=true:=by simp;omega
     obtain⟨bb,ob,rfl,hbb,hcb⟩:=(ha.below hbr).all (by omega);have hd:=hcb i hib;have HT:=At (show (dp b a).take (i+1)=(dp b a).take i++[eX (am b i) (am a i)] by rw[HT.out,if_pos hib]);clear hcb;go_wp2_with fail
     refine (ji _ _ wr (HG.out.below hbr)).mono ?_;rintro e w1 ⟨rfl,hb1⟩;have hB1:=hbr.trans (hb1.mono hbr.size);have hw1:=hown.below hb1;have hbs:=hB1.size;have hzl:((dp b a).take i).length<1000000000:=by have h1:=hbl;simp[dz];omega
     clear hb1 hbr hown hc hd;go_wp2_with (at_builtin;refine aT 22 Tryz.underlying22 rfl (.tmp 35) (.tmp 37) rfl w.heap.size _ _ _ rfl hw1 rfl hzl hbs ?_)
     intro v' w2 hw2 hb2;have hB2:=hb2 _ _ hB1 (AA _);rw[<-HT.out] at hw2;clear hw1 hb2 hB1;go_wp2;go_roundw;case rel=>exact⟨i+1,by go_num,by omega,hw2,hB2⟩
     case measure=>simp[intOf]<;>omega
    ·have hdb:decide ((i:Int)<((a.length:Nat):Int))=false:=by simp;omega
     have HT:=At (show (dp b a).take (i+1)=(dp b a).take i++[am b i] by rw[HT.out,if_neg hib]);have hbs:=hbr.size;have hzl:((dp b a).take i).length<1000000000:=by have h1:=hbl;simp[dz];omega
     go_wp2_with (at_builtin;refine aT 22 Tryz.underlying22 rfl (.tmp 35) (.tmp 37) rfl w.heap.size _ _ _ rfl hown rfl hzl hbs ?_)
     intro v' w2 hw2 hb2;have hB2:=hb2 _ _ hbr (AA _);rw[<-HT.out] at hw2;clear hb2 hbr hc hown;go_wp2;go_roundw;case rel=>exact⟨i+1,by go_num,by omega,hw2,hB2⟩
     case measure=>simp[intOf]<;>omega
   ·have hin':i=b.length:=by omega
    subst hin';have hw:=hown;rw[show (dp b a).take b.length=dp b a from AK (by rw[dz];exact AA _),<-HS.out] at hw;clear hown hi;go_wp2;go_ret;exact⟨_,rfl,hw,hbr⟩
 ·have hd0:decide ((a.length:Int)<(b.length:Int))=false:=by simp;omega
  have hd1:decide (a.length<b.length)=false:=decide_eq_false hlt;have HS:=At (show ix a b=dp a b by unfold ix;rw[if_neg hlt]);clear hlt;go_wp2;go_loopw [7,19] (fun s7 s19 wr=>∃ i:Nat,s19=.int .i64 i/\i<=a.length/\bU wr w.heap.size s7 ((dp a b).take i)/\Below w.heap.size w wr) (fun _ s19 _=>a.length-(intOf s19).toNat)
  case atStart=>exact⟨0,rfl,AI _,bU.nil _ _,Dv _ _⟩
  case round =>
   obtain⟨i,rfl,hin,hown,hbr⟩:=hrel;by_cases hi:i<a.length
   ·obtain⟨ba,oa,rfl,hba,hca⟩:=(ha.below hbr).all (by omega);have hc:=hca i hi;have HT:=At (mO a b hi);clear hca;by_cases hib:i<b.length
    ·have hdb:decide ((i:Int)<((b.length:Nat):Int))=true:=by simp;omega
     obtain⟨bb,ob,rfl,hbb,hcb⟩:=(hb.below hbr).all (by omega);have hd:=hcb i hib;have HT:=At (show (dp a b).take (i+1)=(dp a b).take i++[eX (am a i) (am b i)] by rw[HT.out,if_pos hib]);clear hcb;go_wp2_with fail
     refine (ji _ _ wr (HG.out.below hbr)).mono ?_;rintro e w1 ⟨rfl,hb1⟩;have hB1:=hbr.trans (hb1.mono hbr.size);have hw1:=hown.below hb1;have hbs:=hB1.size;have hzl:((dp a b).take i).length<1000000000:=by have h1:=hal;simp[dz];omega
     clear hb1 hbr hown hc hd;go_wp2_with (at_builtin;refine aT 22 Tryz.underlying22 rfl (.tmp 35) (.tmp 37) rfl w.heap.size _ _ _ rfl hw1 rfl hzl hbs ?_)
     intro v' w2 hw2 hb2;have hB2:=hb2 _ _ hB1 (AA _);rw[<-HT.out] at hw2;clear hw1 hb2 hB1;go_wp2;go_roundw;case rel=>exact⟨i+1,by go_num,by omega,hw2,hB2⟩
     case measure=>simp[intOf]<;>omega
    ·have hdb:decide ((i:Int)<((b.length:Nat):Int))=false:=by simp;omega
     have HT:=At (show (dp a b).take (i+1)=(dp a b).take i++[am a i] by rw[HT.out,if_neg hib]);have hbs:=hbr.size;have hzl:((dp a b).take i).length<1000000000:=by have h1:=hal;simp[dz];omega
     go_wp2_with (at_builtin;refine aT 22 Tryz.underlying22 rfl (.tmp 35) (.tmp 37) rfl w.heap.size _ _ _ rfl hown rfl hzl hbs ?_)
     intro v' w2 hw2 hb2;have hB2:=hb2 _ _ hbr (AA _);rw[<-HT.out] at hw2;clear hb2 hbr hc hown;go_wp2;go_roundw;case rel=>exact⟨i+1,by go_num,by omega,hw2,hB2⟩
     case measure=>simp[intOf]<;>omega
   ·have hin':i=a.length:=by omega
    subst hin';have hw:=hown;rw[show (dp a b).take a.length=dp a b from AK (by rw[dz];exact AA _),<-HS.out] at hw;clear hown hi;go_wp2;go_ret;exact⟨_,rfl,hw,hbr⟩
structure Off (g:Nat) (wa:World) where
 w:World
 s:wa.heap.size<=w.heap.size
 h:∀ k,k<wa.heap.size->k≠g->w.heap[k]?=wa.heap[k]?
instance instOff (g:Nat) (wa:World):Nonempty (Off g wa):=⟨⟨wa,AA _,fun _ _ _=>rfl⟩⟩
theorem Off.cell {g:Nat}{wa:World} (x:Off g wa) {b o:Nat}{v:Value} (hb:b<wa.heap.size) (hne:b≠g) (hc:wa.cell? ⟨b,o,none⟩=some v):x.w.cell? ⟨b,o,none⟩=some v :=
 (World.cell?_of_block (w:=wa) (a:=⟨b,o,none⟩) (x.h b hb hne)).trans hc
theorem Off.below {g:Nat}{wa w':World} (h:Below wa.heap.size wa w'):∃ x:Off g wa,w'=x.w:=⟨⟨w',h.size,fun k hk _=>h.block k hk⟩,rfl⟩
theorem Off.set {g:Nat}{wa w':World} (h:∃ x:Off g wa,w'=x.w) (j:Nat) (u:Value):∃ x:Off g wa,w'.setCell ⟨g,j,none⟩ u=x.w:=by
 obtain⟨x,rfl⟩:=h;exact⟨⟨x.w.setCell ⟨g,j,none⟩ u,by simpa[World.setCell] using x.s,fun k hk hne=>(Below.heap_setCell x.w ⟨g,j,none⟩ u k hne).trans (x.h k hk hne)⟩,rfl⟩
structure j_ (w:World) (v:Value) (fa fb ga gb:List ByteArray) (k:ByteArray) (n:Int):Prop where
 ex:∃ p c q d p' c' q' d',v=.agg #[.slice p fa.length c,.slice q fb.length d,.slice p' ga.length c',.slice q' gb.length d',.string k,.int .i64 n] /\
  IsS w (.slice p fa.length c) fa/\IsS w (.slice q fb.length d) fb/\IsS w (.slice p' ga.length c') ga/\IsS w (.slice q' gb.length d') gb
theorem j_.below {w w':World}{v:Value}{fa fb ga gb:List ByteArray}{k:ByteArray}{n:Int} (h:j_ w v fa fb ga gb k n) (hb:Below w.heap.size w w'):j_ w' v fa fb ga gb k n:=by
 obtain⟨p,c,q,d,p',c',q',d',e,h1,h2,h3,h4⟩:=h.ex;exact⟨⟨p,c,q,d,p',c',q',d',e,h1.below hb,h2.below hb,h3.below hb,h4.below hb⟩⟩
theorem ah {w:World}{g:Nat}{a b:Value}{T:TypeId} (h:w.heap[g]?=some (.cells #[a,b] T (0,0))) (j:Nat):w.cell? ⟨g,j,none⟩=#[a,b][j]?:=by rw[World.cell?,h];rfl
theorem ay {w:World}{g:Nat}{a b:Value}{T:TypeId} (h:w.heap[g]?=some (.cells #[a,b] T (0,0))) (j:Nat):w.frozen? ⟨g,j,none⟩=false:=by rw[World.frozen?,h];simp
theorem cD {w:World}{g:Nat}{a b:Value}{T:TypeId} (h:w.heap[g]?=some (.cells #[a,b] T (0,0))) (x y:Value):((w.setCell ⟨g,0,none⟩ x).setCell ⟨g,1,none⟩ y).heap[g]?=some (.cells #[x,y] T (0,0)):=by
 have h1:=heap_setCell_same w g 0 #[a,b] T x h;exact heap_setCell_same _ g 1 #[x,b] T y h1
theorem uP (s:List ByteArray) (h0:0<s.length) (k:Nat) (p:Option Addr) (n c:Nat) (w:World) (hs:IsS w (.slice p n c) s) (hn:n=s.length) (hc:w.cell? ⟨k,0,none⟩=some (.slice p n c)) (hk:k<w.heap.size) (hG:Gw w) :
  FnT 119 #[.pointer (some ⟨k,0,none⟩)] (fun a=>bE a (am s 0)) w:=by
 refine⟨aZ Tryz.func119 rfl (by kernel_rfl),fun x w0 hw=>?_⟩;obtain⟨b,o,rfl,hlt,hcs⟩:=hs.all h0;have c0:=aa hw hk hc;have c1:w0.cell? ⟨b,o,none⟩=some (.string (am s 0)):=by simpa using aa hw hlt (hcs 0 h0)
 have HD:=At (ej x (am s 0) w0 (hG.below hw));have hnp:0<n:=by omega
 clear hcs hs hn
 show Calls _ _ #[_,.pointer (some ⟨k,0,none⟩)] _ _
 go_enter Tryz.func119,Tryz.ntmps119;go_wp2_with fail
 refine HD.out.mono ?_;rintro e w1 ⟨rfl,hb1⟩;go_wp2;go_ret;exact⟨rfl,hb1⟩
structure y_ (B:Nat) (w:World) (v:Value) (a b:List ByteArray):Prop where
 ex:∃ p c q d,v=.agg #[.slice p a.length c,.slice q b.length d]/\IsS w (.slice p a.length c) a/\IsS w (.slice q b.length d) b /\
  (∀ g,Value.ownBlock (.slice p a.length c)=some g->B<=g)/\(∀ g,Value.ownBlock (.slice q b.length d)=some g->B<=g)
def vN (e:Int):List PanicEntry:=[{ v:=.iface 118 (.agg #[.int .i64 e]),recovered:=false }]
def iU (r:Except Int (List ByteArray×List ByteArray)) (w:World) (e:Ending) (w':World):Prop :=
 Below w.heap.size w w'/\match r with
 | .ok (a,b)=>∃ v,e=.returned v/\y_ w.heap.size w' v a b
 | .error n=>e=.panicked (vN n)
def eG (l fa fb:List ByteArray):Except Int (List ByteArray×List ByteArray) :=
 if am (ix fa fb) 0=⟨#[48]⟩ then .error 33 else .ok (l.map (fun a=>bE a (am (ix fa fb) 0)),(ix fa fb).map (fun a=>bE a (am (ix fa fb) 0)))
theorem ol (v vl:Value) (l fa fb ga gb:List ByteArray) (k:ByteArray) (n:Int) (w:World) (hP:j_ w v fa fb ga gb k n) (hl:IsS w vl l) (hll:l.length<1000) (h1:0<fa.length) (h2:fa.length<1000) (h3:fb.length<1000) (hG:Gw w) :
  Calls Tryz.prog 88 #[v,vl] w (iU (eG l fa fb) w):=by
 obtain⟨p,c,q,d,p',c',q',d',rfl,hfa,hfb,-,-⟩:=id hP.ex;obtain⟨pl,cl,rfl,-⟩:=id hl.form;go_enter Tryz.func88,Tryz.ntmps88;go_upto_region 1 with fail
 have m1:=ac w (.cells #[.slice p fa.length c,.slice q fb.length d,.slice p' ga.length c',.slice q' gb.length d',.string k,.int .i64 n] 87);have z1:=size_alloc w (.cells #[.slice p fa.length c,.slice q fb.length d,.slice p' ga.length c',.slice q' gb.length d',.string k,.int .i64 n] 87);have a0:=ap w #[.slice p fa.length c,.slice q fb.length d,.slice p' ga.length c',.slice q' gb.length d',.string k,.int .i64 n] 87 0 _ rfl;have a1:=ap w #[.slice p fa.length c,.slice q fb.length d,.slice p' ga.length c',.slice q' gb.length d',.string k,.int .i64 n] 87 1 _ rfl;generalize w.alloc (.cells #[.slice p fa.length c,.slice q fb.length d,.slice p' ga.length c',.slice q' gb.length d',.string k,.int .i64 n] 87)=w1 at *
 have q2:(w1.alloc (.cells #[.slice none 0 0,.slice none 0 0] 24)).heap[w1.heap.size]?=some (.cells #[.slice none 0 0,.slice none 0 0] 24 (0,0)):=heap_alloc_new w1 _;have m2:=ac w1 (.cells #[.slice none 0 0,.slice none 0 0] 24);have z2:=size_alloc w1 (.cells #[.slice none 0 0,.slice none 0 0] 24);have b0:=aa m2 (show w.heap.size<w1.heap.size by omega) a0;have b1:=aa m2 (show w.heap.size<w1.heap.size by omega) a1;generalize w1.alloc (.cells #[.slice none 0 0,.slice none 0 0] 24)=w2 at *
 rw[z1] at q2;have M2:=At (m1.trans (m2.mono m1.size));have hz2:w.heap.size+1<w2.heap.size:=by omega
 have HS:=At (sumN _ _ fa fb w2 (hfa.below M2.out) (hfb.below M2.out) (by omega) (by omega) (hG.below M2.out));have HL:=At (hl.below M2.out);have HG:=At (hG.below M2.out);have hsl:0<(ix fa fb).length:=by rw[lz];omega
 have hsl2:(ix fa fb).length<1000:=by rw[lz];omega
 obtain⟨s,hs⟩:∃ s,s=ix fa fb:=⟨_,rfl⟩;rw[<-hs] at HS hsl hsl2;have HSE:=At hs;clear m1 z1 a0 a1 m2 z2 hfa hfb hl hG hP hs;go_wp2_with fail
 refine HS.out.mono ?_;rintro e w3 ⟨u,rfl,hu,hb3⟩
 obtain⟨b,o,hue,hub,hcs⟩:∃ b o,(∃ cu,u=.slice (some ⟨b,o,none⟩) s.length cu)/\b<w3.heap.size/\w3.cell? ⟨b,o,none⟩=some (.string (am s 0)):=by
  obtain⟨pu,cu,rfl,-⟩:=id hu.isS.form;obtain⟨b,o,rfl,hlt,hc⟩:=hu.isS.all hsl;exact⟨b,o,⟨cu,rfl⟩,hlt,hc 0 hsl⟩
 obtain⟨cu,rfl⟩:=hue;have hIS:=hu.isS;clear hu;go_upto_region 2 with fail
 have a5:(w3.alloc (.cells #[.slice (some ⟨b,o,none⟩) s.length cu] 22)).cell? ⟨w3.heap.size,0,none⟩=some (.slice (some ⟨b,o,none⟩) s.length cu):=ap w3 _ _ 0 _ rfl;have m3:=ac w3 (.cells #[.slice (some ⟨b,o,none⟩) s.length cu] 22);have z3:=size_alloc w3 (.cells #[.slice (some ⟨b,o,none⟩) s.length cu] 22);generalize w3.alloc (.cells #[.slice (some ⟨b,o,none⟩) s.length cu] 22)=w4 at *
 have hcs4:=aa m3 hub hcs;have hb4:=hb3.trans (m3.mono hb3.size);have M4:=At (M2.out.trans (hb4.mono M2.out.size));have HIS:=At (hIS.below m3);have hw34:w3.heap.size<w4.heap.size:=by omega
 have hw23:w2.heap.size<=w3.heap.size:=hb3.size;have q4:=(hb4.block (w.heap.size+1) hz2).trans q2;have HL4:=At (HL.out.below hb4);have HG4:=At (HG.out.below hb4);clear HS hcs hIS q2 hb3 b0 b1 HL HG m3 z3;obtain⟨x,hx⟩:∃ x,x=am s 0:=⟨_,rfl⟩;rw[<-hx] at hcs4;have HX:=At hx;clear hx;by_cases heq:x=⟨#[48]⟩
 ·have hd:(x.toList == [48])=true:=by rw[heq,ak];rfl
  have HC:=At (show eG l fa fb=.error 33 by unfold eG;rw[<-HSE.out,if_pos (by rw[<-HX.out];exact heq)]);clear heq;go_wp2_with fail
  refine⟨rfl,M4.out,?_⟩;rw[HC.out];rfl
 ·have hd:(x.toList == [48])=false:=by
   rw[Bk];intro h;refine heq (fT ?_);rw[<-ak];simpa using h
  have HC:=At (show eG l fa fb=.ok (l.map (fun a=>bE a (am s 0)),s.map (fun a=>bE a (am s 0))) by unfold eG;rw[<-HSE.out,if_neg (by rw[<-HX.out];exact heq)]);clear heq;go_upto_region 5 with fail
  have m5:Below w4.heap.size w4 w4.drew:=(Dv _ _).drew;have HFn:=At ((uP s hsl w3.heap.size (some ⟨b,o,none⟩) s.length cu w4 HIS.out rfl a5 hw34 HG4.out).below m5);refine ai (fun w'=>∃ x:Off (w.heap.size+1) w4.drew,w'=x.w) (fun i=>i == 2||i == 5||i == 7) (by kernel_rfl) (by kernel_rfl) ⟨⟨_,AA _,fun _ _ _=>rfl⟩,rfl⟩ ?_;have c5:=fun x:Off (w.heap.size+1) w4.drew=>x.cell (show w3.heap.size<w4.heap.size from hw34) (by omega) a5;have q5:=(m5.block (w.heap.size+1) (by omega)).trans q4;have M5:=At (M4.out.trans (m5.mono M4.out.size));have HL5:=At (HL4.out.below m5);have HI5:=At (HIS.out.below m5);have hw5:w3.heap.size<w4.drew.heap.size:=hw34;clear m5 a5 hcs4 HIS HL4 q4;generalize w4.drew=wd at *
  refine ae 2 0 _ _ _ (by kernel_rfl) ?_;simp only[AC,AG,AB,AF];repeat (go_big_quiet_step (fail))
  refine wpQuiet_nil ?_;refine af rfl rfl (fun K hK=>?_);go_simp;refine (rQ _ l _ _ _ wd HL5.out (by omega) HFn.out).mono ?_;rintro e w6 ⟨u1,rfl,hu1,hb6⟩;obtain⟨L1,hL1⟩:∃ L,L=l.map (fun a=>bE a (am s 0)):=⟨_,rfl⟩;rw[<-hL1] at hu1;have HL1:=At hL1;clear hL1;refine hK _ _ (Off.below hb6) ?_;clear hK K;try simp only[Act.put,Ax,Aw,Av,Au,Ay,Az]
  refine ae 2 3 _ _ _ (by kernel_rfl) ?_;simp only[AC,AG,AB,AF];repeat (go_big_quiet_step (fail))
  refine wpQuiet_nil ?_;refine af rfl rfl (fun K hK=>?_);go_simp;refine (rQ _ s _ _ _ w6 (HI5.out.below hb6) (by omega) (HFn.out.below hb6)).mono ?_;rintro e w7 ⟨u2,rfl,hu2,hb7⟩;obtain⟨L2,hL2⟩:∃ L,L=s.map (fun a=>bE a (am s 0)):=⟨_,rfl⟩;rw[<-hL2] at hu2;have HL2:=At hL2;clear hL2;have hB7:=hb6.trans (hb7.mono hb6.size);refine hK _ _ (Off.below hB7) ?_;clear hK K;try simp only[Act.put,Ax,Aw,Av,Au,Ay,Az]
  have hk1:=hu1.below hb7;obtain⟨p1,c1,rfl,-⟩:=id hk1.isS.form;obtain⟨p2,c2,rfl,-⟩:=id hu2.isS.form;have hn1:Value.ownBlock (.slice p1 L1.length c1)≠some (w.heap.size+1):=fun e=>by have:=(World.ownsRow.lt hk1 _ e).1;omega
  have hn2:Value.ownBlock (.slice p2 L2.length c2)≠some (w.heap.size+1):=fun e=>by have:=(World.ownsRow.lt hu2 _ e).1;have:=hb6.size;omega
  have o1:=At (show ∀ g,Value.ownBlock (.slice p1 L1.length c1)=some g->w.heap.size<=g from fun g e=>by have:=(World.ownsRow.lt hk1 _ e).1;omega);have o2:=At (show ∀ g,Value.ownBlock (.slice p2 L2.length c2)=some g->w.heap.size<=g from fun g e=>by have:=(World.ownsRow.lt hu2 _ e).1;have:=hb6.size;omega);have q7:=(hB7.block (w.heap.size+1) (by omega)).trans q5;have k0:=ah q7 0;have k1:=ah q7 1;have f0:=ay q7 0;have f1:=ay q7 1;have r1:=(hk1.isS.other hn1 0 (.slice p1 L1.length c1)).other hn1 1 (.slice p2 L2.length c2);have r2:=(hu2.isS.other hn2 0 (.slice p1 L1.length c1)).other hn2 1 (.slice p2 L2.length c2);have R1:=At r1;have R2:=At r2;have M7:=At (((M5.out.trans (hB7.mono M5.out.size)).setCell (p:=⟨w.heap.size+1,0,none⟩) (Bg _) (.slice p1 L1.length c1)).setCell (p:=⟨w.heap.size+1,1,none⟩) (Bg _) (.slice p2 L2.length c2));have hOff:=Off.set (g:=w.heap.size+1) (Off.set (g:=w.heap.size+1) (Off.below hB7) 0 (.slice p1 L1.length c1)) 1 (.slice p2 L2.length c2);have g0:=cD q7 (.slice p1 L1.length c1) (.slice p2 L2.length c2);clear r1 r2 hn1 hn2 hk1 hu2 q7 q5 hB7 hb7 hb6 hu1;refine ae 1 6 _ _ _ (by kernel_rfl) ?_;simp only[AC,AG,AB,AF];repeat (go_big_quiet_step (fail))
  refine wpQuiet_nil ?_;refine af rfl rfl (fun K hK=>?_);go_simp;refine hK undef _ hOff ?_;clear hK K;try simp only[Act.put,Ax,Aw,Av,Au,Ay,Az]
  refine av ?_;have x0:=ah g0 0;have x1:=ah g0 1;go_wp2_with fail
  refine Du (v:=.agg #[.slice p1 L1.length c1,.slice p2 L2.length c2]) (by simp at x0 x1;simp[results,Tryz.results88,go_sem,x0,x1]) rfl ⟨M7.out,?_⟩;rw[HC.out,<-HL1.out,<-HL2.out];exact⟨_,rfl,⟨p1,c1,p2,c2,rfl,R1.out,R2.out,o1.out,o2.out⟩⟩
end Go.Proofs.YtgakllaobooabaaGreatDoor
