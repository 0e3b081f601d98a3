/- Lemmas of this claim. -/
import Derived.Test.YtbnkpcfjechfiaaGreatDoorQLP13
import Derived.Test.YtbnkpcfjechfiaaGreatDoorQPM2
set_option linter.all false
set_option maxRecDepth 100000
set_option maxHeartbeats 8000000
namespace Go.Proofs.YtbnkpcfjechfiaaGreatDoor
open Go.RowKit Dg
def aJ (fa:List ByteArray) (i:Nat):List ByteArray:=List.replicate i ⟨#[48]⟩++fa
theorem dL (fa:List ByteArray) (i:Nat):(aJ fa i).length=i+fa.length:=by simp[aJ]
theorem qB (fa:List ByteArray) (i:Nat):aJ fa (i+1)=[⟨#[48]⟩]++aJ fa i:=by simp[aJ,G4]
def d_ (fa fb:List ByteArray):Nat→Nat→Nat
 | 0,i=>i
 | n+1,i=>if i+fa.length≤6 then if cz (aJ fa (i+1)) fb ⟨#[49]⟩=true then d_ fa fb n (i+1) else i else i
theorem qC (fa fb:List ByteArray) (n i:Nat):d_ fa fb (n+1) i=if i+fa.length≤6 then if cz (aJ fa (i+1)) fb ⟨#[49]⟩=true then d_ fa fb n (i+1) else i else i:=rfl
def eE (fa fb:List ByteArray):Int×Int:=if az fa fb=true then if cz fa fb ⟨#[49]⟩=true then (((d_ fa fb 7 0:Nat):Int),0) else (0,31) else (0,30)
theorem wL (w:World) (base:Nat) (t:ByteArray) (hb:base≤w.heap.size):bE (w.alloc (.cells #[.string t] 34)) base (.slice (some ⟨w.heap.size,0,none⟩) 1 1) [t] :=
 World.ownsRow_lit w #[.string t] 1 hb (by simp[maxLen]) rfl
theorem BY (v:Value) (a b:List ByteArray) (w:World) (hF:IsF w v a b) (hG:Gx w) :
  Calls Tryz.prog 51 #[v] w fun e w'=>e=.returned (.tuple #[.int .i64 (eE a b).1,.int .i64 (eE a b).2])∧Below w.heap.size w w':=by
 have HF0:=E5 hF;have HG0:=E5 hG;obtain⟨p,c,q,d,rfl,hfa,hfb⟩:=id hF.ex;go_enter Tryz.func51,Tryz.ntmps51;go_upto_region 1 with fail
 have q1:=heap_alloc_new w (.cells #[.slice p a.length c,.slice q b.length d] 24);have m1:=ak w (.cells #[.slice p a.length c,.slice q b.length d] 24);have z1:=size_alloc w (.cells #[.slice p a.length c,.slice q b.length d] 24);generalize w.alloc (.cells #[.slice p a.length c,.slice q b.length d] 24)=w1 at *
 have hlt:w.heap.size<w1.heap.size:=by omega
 have HCK:=E5 (eU _ a b w1 (hF.below m1) (hG.below m1));have c0:=ae q1 0;have c1:=ae q1 1;have M1:=E5 m1;clear hF hG z1 m1;by_cases hck:az a b=true
 ·have HT:=E5 (show eE a b=if cz a b ⟨#[49]⟩=true then (((d_ a b 7 0:Nat):Int),0) else (0,31) by unfold eE;rw[if_pos hck]);have hce:ay a b=0:=by unfold ay;rw[if_pos hck]
  rw[hce] at HCK;obtain⟨ob1,ob7,oa1,oa7,-,-,-⟩:=aM hck;clear hce;go_wp2_with fail
  refine HCK.out.mono ?_;rintro e w2 ⟨rfl,hb2⟩;have q2:=(hb2.block w.heap.size hlt).trans q1;have hlt2:w.heap.size<w2.heap.size:=Fe hlt hb2.size;have M2:=E5 (M1.out.trans (hb2.mono M1.out.size));have HH:=E5 (kh _ a b ⟨#[49]⟩ w2 (HF0.out.below M2.out) ob1 (by omega) (by omega) (HG0.out.below M2.out).g);clear q1 c0 c1 hb2 hlt M1 HCK hck;have c0:=ae q2 0;have c1:=ae q2 1;by_cases hh:cz a b ⟨#[49]⟩=true
  ·rw[hh] at HH;have HT:=E5 (show eE a b=(((d_ a b 7 0:Nat):Int),0) by rw[HT.out,if_pos hh]);clear hh;go_wp2_with fail
   refine HH.out.mono ?_;rintro e w3 ⟨rfl,hb3⟩;have q3:=(hb3.block w.heap.size hlt2).trans q2;have hlt3:w.heap.size<w3.heap.size:=Fe hlt2 hb3.size;have M3:=E5 (M2.out.trans (hb3.mono M2.out.size));obtain⟨bb,oo,rfl,hbl,-⟩:=hfb.get (i:=0) ob1;obtain⟨ba,oa,rfl,hal,-⟩:=hfa.get (i:=0) oa1;clear q2 c0 c1 hb3 hlt2 M2 HH;go_wp2;have HA0:=E5 (hfa.below M3.out);have HBw:=E5 hfb;clear hfa hfb;have HQ3:=E5 q3;clear q3;have ha1:aJ a 0=a:=rfl;have HA1:=E5 ha1;clear ha1;go_loopw [5] (fun s5 wr=>∃ (i:Nat) (px ox cx:Nat),s5=.int .i64 i∧i+a.length≤7∧wr.heap[w.heap.size]?=some (.cells #[.slice (some ⟨px,ox,none⟩) (aJ a i).length cx,.slice (some ⟨bb,oo,none⟩) b.length d] 24 (0,0))∧IsS wr (.slice (some ⟨px,ox,none⟩) (aJ a i).length cx) (aJ a i)∧px≠w.heap.size∧Below w.heap.size w wr∧Hid (d_ a b (7-i) i=d_ a b 7 0)) (fun s5 _=>7-(intOf s5).toNat)
   case atStart=>exact⟨0,ba,oa,c,rfl,by omega,HQ3.out,HA0.out,by omega,M3.out,rfl⟩
   case round =>
    obtain⟨i,px,ox,cx,rfl,hi7,qr,hin,hpx,hbr,hrec⟩:=hrel;have hlr:w.heap.size<wr.heap.size:=(Fh.1 qr).1;have c0:=ae qr 0;have c1:=ae qr 1;have hdl:=dL a i;by_cases h6:i+a.length≤6
    ·have hd:decide (((aJ a i).length:Int)≤6)=true:=by rw[hdl];simp;omega
     have HDL:=E5 hdl;have hrec2:=hrec.out;rw[show 7-i=(6-i)+1 from by omega] at hrec2;rw[qC a b (6-i) i,if_pos h6] at hrec2;have HR:=E5 hrec2;clear hdl hrec2 hrec;go_upto_region 8 with fail
     refine wp_region_lit ?_;refine wpList_plain rfl (fun K hK=>?_);go_simp;refine hK _ _ ?_;clear hK K;try simp only[Act.put,E9,E8,E7,E6,Fa,E_]
     have m5:=ak wr (.cells #[.string ⟨#[48]⟩] 34);have ho:=wL wr (w.heap.size+1) ⟨#[48]⟩ hlr;have z5:=size_alloc wr (.cells #[.string ⟨#[48]⟩] 34);have HI5:=hin.below m5;have q5:=(m5.block w.heap.size hlr).trans qr;have B5:=hbr.trans (m5.mono hbr.size);generalize wr.alloc (.cells #[.string ⟨#[48]⟩] 34)=w5 at *
     generalize Value.slice (some ⟨wr.heap.size,0,none⟩) 1 1=sv at ho ⊢;have c0:=ae q5 0;have c1:=ae q5 1;clear hin qr m5 hbr;refine wpList_plain rfl (fun K hK=>?_);go_simp;refine hK _ _ ?_;clear hK K;try simp only[Act.put,E9,E8,E7,E6,Fa,E_]
     refine wpList_plain rfl (fun K hK=>?_);go_simp;refine hK _ _ ?_;clear hK K;try simp only[Act.put,E9,E8,E7,E6,Fa,E_]
     refine cP 22 Tryz.underlying22 rfl (.tmp 18) (.tmp 20) rfl (w.heap.size+1) _ [⟨#[48]⟩] (aJ a i) px ox cx rfl ho rfl HI5 (by rw[HDL.out];simp;omega) (by omega) ?_;intro v' w6 hw6 hb6;have B6:=hb6 _ _ B5 (by omega);have b6:=hb6 (w.heap.size+1) w5 (Below.refl _ _) (Fb _);have q6:=(b6.block w.heap.size (by omega)).trans q5;rw[←qB] at hw6
     obtain⟨g',c',rfl,hg'⟩:∃ g' c',v'=.slice (some ⟨g',0,none⟩) (aJ a (i+1)).length c'∧w.heap.size+1≤g':=by
      obtain⟨hlen,h⟩:=hw6;rcases h with ⟨rfl,h0⟩ | ⟨g',cap,cur,rfl,hg',-⟩
      ·rw[dL] at h0;omega
      ·exact⟨g',cap,rfl,hg'⟩
     have HI6:=hw6.isS;have hne:Value.ownBlock (.slice (some ⟨g',0,none⟩) (aJ a (i+1)).length c')≠some w.heap.size:=fun e=>by simp[Value.ownBlock] at e;omega
     have HI7:=E5 (HI6.other hne 0 (.slice (some ⟨g',0,none⟩) (aJ a (i+1)).length c'));have c0:=ae q6 0;have c1:=ae q6 1;have f0:=ap q6 0;have B7:=E5 (B6.setCell (p:=⟨w.heap.size,0,none⟩) (Fb _) (.slice (some ⟨g',0,none⟩) (aJ a (i+1)).length c'));have q7:=heap_setCell_same w6 w.heap.size 0 _ 24 (.slice (some ⟨g',0,none⟩) (aJ a (i+1)).length c') q6;clear hw6 hb6 B6 b6 q5 HI5 HI6 ho hne B5 z5;try simp only[Act.put,E9,E8,E7,E6,Fa,E_]
     refine wpList_plain rfl (fun K hK=>?_);go_simp;refine hK _ _ ?_;clear hK K;try simp only[Act.put,E9,E8,E7,E6,Fa,E_]
     refine wpList_plain rfl (fun K hK=>?_);go_simp;refine hK _ _ ?_;clear hK K;try simp only[Act.put,E9,E8,E7,E6,Fa,E_]
     generalize w6.setCell ⟨w.heap.size,0,none⟩ (.slice (some ⟨g',0,none⟩) (aJ a (i+1)).length c')=w7 at *
     have q7:w7.heap[w.heap.size]?=some (.cells #[.slice (some ⟨g',0,none⟩) (aJ a (i+1)).length c',.slice (some ⟨bb,oo,none⟩) b.length d] 24 (0,0)):=q7;clear c0 c1 f0 q6;have c0:=ae q7 0;have c1:=ae q7 1;have hl7:=(Fh.1 q7).1;have hF7:IsF w7 (.agg #[.slice (some ⟨g',0,none⟩) (aJ a (i+1)).length c',.slice (some ⟨bb,oo,none⟩) b.length d]) (aJ a (i+1)) b:=⟨_,_,_,_,rfl,HI7.out,HBw.out.below B7.out⟩;have HH:=E5 (kh _ (aJ a (i+1)) b ⟨#[49]⟩ w7 hF7 ob1 (by rw[dL];omega) (by omega) (HG0.out.below B7.out).g);clear hF7;by_cases hh:cz (aJ a (i+1)) b ⟨#[49]⟩=true
     ·rw[hh] at HH
      have HR:=E5 (show d_ a b (7-(i+1)) (i+1)=d_ a b 7 0 by
       have h:=HR.out;rw[if_pos hh] at h
       rw[show 7-(i+1)=6-i from by omega];exact h)
      clear hh;go_wp2_with fail
      refine HH.out.mono ?_;rintro e w8 ⟨rfl,hb8⟩;have q8:=E5 ((hb8.block w.heap.size hl7).trans q7);have HI8:=E5 (HI7.out.below hb8);have B8:=E5 (B7.out.trans (hb8.mono B7.out.size));clear hb8 q7 c0 c1 HH;go_wp2;go_roundw;case rel=>exact⟨i+1,g',0,c',by go_num,by omega,q8.out,HI8.out,by omega,B8.out,HR.out⟩
      case measure=>(first | (simp[intOf];done) | (simp[intOf];omega))
     ·have hh':cz (aJ a (i+1)) b ⟨#[49]⟩=false:=by simpa using hh
      rw[hh'] at HH
      have HE:=E5 (show eE a b=(((i:Nat):Int),0) by
       have h:=HR.out;rw[if_neg hh] at h
       rw[HT.out,←h])
      clear hh hh';go_wp2_with fail
      refine HH.out.mono ?_;rintro e w8 ⟨rfl,hb8⟩;have B8:=E5 (B7.out.trans (hb8.mono B7.out.size));clear hb8 q7 c0 c1 HH;go_wp2;refine bodyPost_ret (v:=.tuple #[.int .i64 i,.int .i64 0]) (by simp[results,Tryz.results51,go_sem]) rfl ⟨by rw[HE.out],B8.out⟩
    ·have hd:decide (((aJ a i).length:Int)≤6)=false:=by rw[hdl];simp;omega
     have HE:=E5 (show eE a b=(((i:Nat):Int),0) by
      rw[HT.out,←hrec.out]
      have e:∀ n,d_ a b n i=i:=by intro n;cases n with
       | zero=>rfl
       | succ n=>simp only[d_,if_neg h6]
      rw[e])
     clear hdl hrec h6 hin;go_wp2;refine bodyPost_ret (v:=.tuple #[.int .i64 i,.int .i64 0]) (by simp[results,Tryz.results51,go_sem]) rfl ⟨by rw[HE.out],hbr⟩
  ·have hh':cz a b ⟨#[49]⟩=false:=by simpa using hh
   rw[hh'] at HH;have HE:=E5 (show eE a b=(0,31) by rw[HT.out,if_neg hh]);clear hh hh' HT;go_wp2_with fail
   refine HH.out.mono ?_;rintro e w3 ⟨rfl,hb3⟩;go_wp2;refine bodyPost_ret (v:=.tuple #[.int .i64 0,.int .i64 31]) (by simp[results,Tryz.results51,go_sem]) rfl ⟨by rw[HE.out],M2.out.trans (hb3.mono M2.out.size)⟩
 ·have HE:=E5 (show eE a b=(0,30) by unfold eE;rw[if_neg hck]);have hce:ay a b=30:=by unfold ay;rw[if_neg hck]
  rw[hce] at HCK;clear hce;go_wp2_with fail
  refine HCK.out.mono ?_;rintro e w2 ⟨rfl,hb2⟩;go_wp2;refine bodyPost_ret (v:=.tuple #[.int .i64 0,.int .i64 30]) (by simp[results,Tryz.results51,go_sem]) rfl ⟨by rw[HE.out],M1.out.trans (hb2.mono M1.out.size)⟩
theorem E1 (w:World):FnT 132 #[] id w:=by
 refine⟨a_ Tryz.func132 rfl (by kernel_rfl),fun x w' hb=>?_⟩
 show Calls _ _ #[_] _ _
 go_enter Tryz.func132,Tryz.ntmps132;go_wp2;go_ret;exact⟨rfl,Below.refl _ _⟩
def gM (fa fb:List ByteArray) (n:Int):Except Int (List ByteArray×List ByteArray):=if n<0∨6<n then .error 8 else .ok (aJ fa n.toNat,fb)
theorem zW (v:Value) (fa fb ga gb:List ByteArray) (k:ByteArray) (n:Int) (w:World) (hP:iT w v fa fb ga gb k n) (h0:0<fa.length) (h2:fa.length<1000) (h3:fb.length<1000) :
  Calls Tryz.prog 77 #[v] w (gR (gM fa fb n) w):=by
 obtain⟨p,c,q,d,p',c',q',d',rfl,hfa,hfb,-,-⟩:=id hP.ex;obtain⟨ba,oa,rfl,hal,-⟩:=hfa.get (i:=0) h0;go_enter Tryz.func77,Tryz.ntmps77;go_upto_region 1 with fail
 have m1:=ak w (.cells #[.slice (some ⟨ba,oa,none⟩) fa.length c,.slice q fb.length d,.slice p' ga.length c',.slice q' gb.length d',.string k,.int .i64 n] 97);have z1:=size_alloc w (.cells #[.slice (some ⟨ba,oa,none⟩) fa.length c,.slice q fb.length d,.slice p' ga.length c',.slice q' gb.length d',.string k,.int .i64 n] 97);have a0:=aA w #[.slice (some ⟨ba,oa,none⟩) fa.length c,.slice q fb.length d,.slice p' ga.length c',.slice q' gb.length d',.string k,.int .i64 n] 97 0 _ rfl;have a1:=aA w #[.slice (some ⟨ba,oa,none⟩) fa.length c,.slice q fb.length d,.slice p' ga.length c',.slice q' gb.length d',.string k,.int .i64 n] 97 1 _ rfl;have a5:=aA w #[.slice (some ⟨ba,oa,none⟩) fa.length c,.slice q fb.length d,.slice p' ga.length c',.slice q' gb.length d',.string k,.int .i64 n] 97 5 _ rfl;generalize w.alloc (.cells #[.slice (some ⟨ba,oa,none⟩) fa.length c,.slice q fb.length d,.slice p' ga.length c',.slice q' gb.length d',.string k,.int .i64 n] 97)=w1 at *
 have q2:(w1.alloc (.cells #[.slice none 0 0,.slice none 0 0] 24)).heap[w1.heap.size]?=some (.cells #[.slice none 0 0,.slice none 0 0] 24 (0,0)):=heap_alloc_new w1 _;have m2:=ak w1 (.cells #[.slice none 0 0,.slice none 0 0] 24);have z2:=size_alloc w1 (.cells #[.slice none 0 0,.slice none 0 0] 24);have hlt:w.heap.size<w1.heap.size:=by omega
 have b0:=af m2 hlt a0;have b1:=af m2 hlt a1;have b5:=af m2 hlt a5;generalize w1.alloc (.cells #[.slice none 0 0,.slice none 0 0] 24)=w2 at *
 rw[z1] at q2;have M2:=E5 (m1.trans (m2.mono m1.size));have HZ2:=E5 (show w.heap.size+2=w2.heap.size by omega);have hl2:w.heap.size<w2.heap.size:=by omega
 have HQ2:=E5 q2;have HA:=E5 (hfa.below M2.out);have HBB:=E5 (hfb.below M2.out);clear m1 z1 a0 a1 a5 m2 z2 hfa hfb hP hlt q2 hal;by_cases hn:n<0∨6<n
 ·have HD:=E5 (show gM fa fb n=.error 8 by unfold gM;rw[if_pos hn]);by_cases hn0:n<0
  ·have hd:decide (n<0)=true:=by simpa using hn0
   clear hn hn0;go_wp2;refine⟨rfl,M2.out,?_⟩;rw[HD.out];rfl
  ·have hd:decide (n<0)=false:=by simpa using hn0
   have hd6:decide ((6:Int)<n)=true:=by simp;omega
   clear hn hn0;go_wp2;refine⟨rfl,M2.out,?_⟩;rw[HD.out];rfl
 ·obtain⟨m,rfl⟩:∃ m:Nat,n=m:=⟨n.toNat,by omega⟩;have HD:=E5 (show gM fa fb (m:Int)=.ok (aJ fa m,fb) by unfold gM;rw[if_neg hn];rfl);have hm6:m≤6:=by omega
  have hd6:decide ((6:Int)<(m:Int))=false:=by simp;omega
  clear hn;go_wp2;go_loopw [3,16] (fun s3 s16 wr=>∃ i:Nat,s16=.int .i64 i∧i≤m∧bE wr w2.heap.size s3 (List.replicate i ⟨#[48]⟩)∧Below w2.heap.size w2 wr) (fun _ s16 _=>m-(intOf s16).toNat)
  case atStart=>exact⟨0,rfl,Fk _,bE.nil _ _,Below.refl _ _⟩
  case round =>
   obtain⟨i,rfl,hin,hown,hbr⟩:=hrel;by_cases hi:i<m
   ·have hbs:w2.heap.size≤wr.heap.size:=hbr.size;have hzl:(List.replicate i (⟨#[48]⟩:ByteArray)).length<1000000000:=by simp;omega
    go_wp2_with (at_builtin;refine aX 22 Tryz.underlying22 rfl (.tmp 18) (.tmp 19) rfl w2.heap.size _ _ _ rfl hown rfl hzl hbs ?_)
    intro v' w3 hw3 hb3;have hB3:=hb3 _ _ hbr (Fb _);rw[←GZ] at hw3;clear hown hb3 hbr;go_wp2;go_roundw;case rel=>exact⟨i+1,by go_num,by omega,hw3,hB3⟩
    case measure=>(first | (simp[intOf];done) | (simp[intOf];omega))
   ·obtain rfl:i=m:=by omega
    clear hi;go_upto_region 8 with fail
    have hbd:=hbr.drew;have hwd:=hown.below (show Below wr.heap.size wr wr.drew from (Below.refl _ _).drew);refine aq (fun w'=>∃ x:Off (w.heap.size+1) w2,w'=x.w) (fun j=>j == 4||j == 8||j == 10) (by kernel_rfl) (by kernel_rfl) (Off.below hbd) ?_;have c0:=fun x:Off (w.heap.size+1) w2=>x.cell hl2 (by omega) b0;have c1:=fun x:Off (w.heap.size+1) w2=>x.cell hl2 (by omega) b1;clear b0 b1 b5 hbr hown hd6;generalize wr.drew=wd at *
    have HAd:=HA.out.below hbd;have HBd:=HBB.out.below hbd;refine ah 4 0 _ _ _ (by kernel_rfl) ?_;simp only[Fc,Fg,Fd,Ff];repeat (go_big_quiet_step (fail))
    refine wpQuiet_nil ?_;refine aj rfl rfl (fun K hK=>?_);refine dl rfl ?_;refine cP 22 Tryz.underlying22 rfl (.tmp 22) (.tmp 25) rfl w2.heap.size _ (List.replicate i ⟨#[48]⟩) fa ba oa c rfl hwd rfl HAd (by simp;omega) hbd.size ?_;intro v' w4 hw4 hb4;have hB4:=hb4 _ _ hbd (Fb _);refine⟨rfl,hK _ _ (Off.below hB4) ?_⟩;clear hK K;try simp only[Act.put,E9,E8,E7,E6,Fa,E_]
    have HB4:=E5 (HBB.out.below hB4);clear hwd HAd HBd hb4 hbd;refine ah 3 5 _ _ _ (by kernel_rfl) ?_;simp only[Fc,Fg,Fd,Ff];repeat (go_big_quiet_step (fail))
    refine wpQuiet_nil ?_;refine aj rfl rfl (fun K hK=>?_);go_simp;refine (nj _ fb _ _ _ w4 HB4.out (by omega) (E1 w4)).mono ?_;rintro e w6 ⟨u2,rfl,hu2,hb6⟩;rw[IE] at hu2;have hB6:=hB4.trans (hb6.mono hB4.size);refine hK _ _ (Off.below hB6) ?_;clear hK K;try simp only[Act.put,E9,E8,E7,E6,Fa,E_]
    have hk1:bE w6 w2.heap.size v' (aJ fa i):=hw4.below hb6;have hs2:=HZ2.out;have hs4:=hB4.size;obtain⟨p1,c1',rfl,-⟩:=id hk1.isS.form;obtain⟨p2,c2',rfl,-⟩:=id hu2.isS.form;have hn1:Value.ownBlock (.slice p1 (aJ fa i).length c1')≠some (w.heap.size+1):=fun e=>by have:=(World.ownsRow.lt hk1 _ e).1;omega
    have hn2:Value.ownBlock (.slice p2 fb.length c2')≠some (w.heap.size+1):=fun e=>by have:=(World.ownsRow.lt hu2 _ e).1;omega
    have O1:=E5 (show ∀ g,Value.ownBlock (.slice p1 (aJ fa i).length c1')=some g→w.heap.size≤g from fun g e=>by have:=(World.ownsRow.lt hk1 _ e).1;omega);have O2:=E5 (show ∀ g,Value.ownBlock (.slice p2 fb.length c2')=some g→w.heap.size≤g from fun g e=>by have:=(World.ownsRow.lt hu2 _ e).1;omega);have q7:=(hB6.block (w.heap.size+1) (by omega)).trans HQ2.out;have k0:=ae q7 0;have k1:=ae q7 1;have f0:=ap q7 0;have f1:=ap q7 1;have R1:=E5 ((hk1.isS.other hn1 0 (.slice p1 (aJ fa i).length c1')).other hn1 1 (.slice p2 fb.length c2'));have R2:=E5 ((hu2.isS.other hn2 0 (.slice p1 (aJ fa i).length c1')).other hn2 1 (.slice p2 fb.length c2'));have M7:=E5 (((M2.out.trans (hB6.mono M2.out.size)).setCell (p:=⟨w.heap.size+1,0,none⟩) (Fx _) (.slice p1 (aJ fa i).length c1')).setCell (p:=⟨w.heap.size+1,1,none⟩) (Fx _) (.slice p2 fb.length c2'));have hOff:=Off.set (g:=w.heap.size+1) (Off.set (g:=w.heap.size+1) (Off.below hB6) 0 (.slice p1 (aJ fa i).length c1')) 1 (.slice p2 fb.length c2');have g0:=aI q7 (.slice p1 (aJ fa i).length c1') (.slice p2 fb.length c2');clear hn1 hn2 hk1 hu2 q7 hB6 hb6 hw4 hB4 hs2 hs4;refine ah 1 9 _ _ _ (by kernel_rfl) ?_;simp only[Fc,Fg,Fd,Ff];repeat (go_big_quiet_step (fail))
    refine wpQuiet_nil ?_;refine aj rfl rfl (fun K hK=>?_);go_simp;refine hK undef _ hOff ?_;clear hK K;try simp only[Act.put,E9,E8,E7,E6,Fa,E_]
    refine aB ?_;have x0:=ae g0 0;have x1:=ae g0 1;go_wp2_with fail
    refine bodyPost_ret (v:=.agg #[.slice p1 (aJ fa i).length c1',.slice p2 fb.length c2']) (by simp at x0 x1;simp[results,Tryz.results77,go_sem,x0,x1]) rfl ⟨M7.out,?_⟩;rw[HD.out];exact⟨_,rfl,⟨p1,c1',p2,c2',rfl,R1.out,R2.out,O1.out,O2.out⟩⟩
def cR (a b:List ByteArray) (n:Int):(List ByteArray×List ByteArray)×Int:=aO a b a b (gM a b n)
theorem xL (w:World) (a b:List ByteArray) (n:Int) (v:Value) (hP:iT w v a b a b ⟨#[]⟩ n) (hG:Gx w):Calls Tryz.prog 71 #[.func (.func 77) #[] #[],v] w (eB (cR a b n) w):=by
 refine kA 77 v a b a b ⟨#[]⟩ n _ w hP ⟨a_ Tryz.func77 rfl (by kernel_rfl),fun v' w' hw' hP' hc hc2=>?_⟩ hG;obtain⟨ob1,ob7,oa1,oa7,-⟩:=aM hc;exact zW v' a b a b ⟨#[]⟩ n w' hP' (by omega) (by omega) (by omega)
theorem zh (v:Value) (a b:List ByteArray) (n:Int) (w:World) (hF:IsF w v a b) (hG:Gx w) :
  Calls Tryz.prog 24 #[v,.int .i64 n] w (eB (cR a b n) w):=by
 obtain⟨p,c,q,d,rfl,hfa,hfb⟩:=id hF.ex;go_enter Tryz.func24,Tryz.ntmps24;go_upto_region 1 with fail
 have cc:=aE w (.slice p a.length c) (.slice q b.length d);have m1:=ak w (.cells #[.slice p a.length c,.slice q b.length d] 24);have z1:=size_alloc w (.cells #[.slice p a.length c,.slice q b.length d] 24);generalize w.alloc (.cells #[.slice p a.length c,.slice q b.length d] 24)=w1 at *
 have q2:(w1.alloc (.cells #[.slice none 0 0,.slice none 0 0] 24)).heap[w1.heap.size]?=some (.cells #[.slice none 0 0,.slice none 0 0] 24 (0,0)):=heap_alloc_new w1 _;have m2:=ak w1 (.cells #[.slice none 0 0,.slice none 0 0] 24);have z2:=size_alloc w1 (.cells #[.slice none 0 0,.slice none 0 0] 24);have c0:=af m2 (show w.heap.size<w1.heap.size by omega) cc.1;have c1:=af m2 (show w.heap.size<w1.heap.size by omega) cc.2;generalize w1.alloc (.cells #[.slice none 0 0,.slice none 0 0] 24)=w2 at *
 rw[z1] at q2;have M2:=E5 (m1.trans (m2.mono m1.size));have hz2:w.heap.size+2=w2.heap.size:=by omega
 have hP:iT w2 (.agg #[.slice p a.length c,.slice q b.length d,.slice p a.length c,.slice q b.length d,.string ⟨#[]⟩,.int .i64 n]) a b a b ⟨#[]⟩ n :=
  ⟨⟨p,c,q,d,p,c,q,d,rfl,hfa.below M2.out,hfb.below M2.out,hfa.below M2.out,hfb.below M2.out⟩⟩
 have HC:=E5 (xL w2 a b n _ hP (hG.below M2.out));clear m1 z1 m2 z2 cc hfa hfb hG hF hP;go_wp2_with fail
 refine HC.out.mono ?_;rintro e w3 ⟨u,rfl,hu,hb3⟩;obtain⟨r,hr⟩:∃ r,r=cR a b n:=⟨_,rfl⟩;rw[show cR a b n=r from hr.symm] at hu ⊢;obtain⟨⟨L1,L2⟩,er⟩:=r;have HR:=E5 hr;simp only at hu ⊢;obtain⟨p1,c1',p2,c2,rfl,g1,g2,o1,o2⟩:=hu.ex;have hn1:Value.ownBlock (.slice p1 L1.length c1')≠some (w.heap.size+1):=fun e=>by have:=o1 _ e;omega
 have hn2:Value.ownBlock (.slice p2 L2.length c2)≠some (w.heap.size+1):=fun e=>by have:=o2 _ e;omega
 have q3:=(hb3.block (w.heap.size+1) (by omega)).trans q2;have k0:=ae q3 0;have k1:=ae q3 1;have f0:=ap q3 0;have f1:=ap q3 1;have R1:=E5 ((g1.other hn1 0 (.slice p1 L1.length c1')).other hn1 1 (.slice p2 L2.length c2));have R2:=E5 ((g2.other hn2 0 (.slice p1 L1.length c1')).other hn2 1 (.slice p2 L2.length c2));have O1:=E5 (show ∀ g,Value.ownBlock (.slice p1 L1.length c1')=some g→w.heap.size≤g from fun g e=>by have:=o1 _ e;omega);have O2:=E5 (show ∀ g,Value.ownBlock (.slice p2 L2.length c2)=some g→w.heap.size≤g from fun g e=>by have:=o2 _ e;omega);have M7:=E5 (((M2.out.trans (hb3.mono M2.out.size)).setCell (p:=⟨w.heap.size+1,0,none⟩) (Fx _) (.slice p1 L1.length c1')).setCell (p:=⟨w.heap.size+1,1,none⟩) (Fx _) (.slice p2 L2.length c2));have g0:=aI q3 (.slice p1 L1.length c1') (.slice p2 L2.length c2);have x0:=ae g0 0;have x1:=ae g0 1;clear hn1 hn2 g1 g2 o1 o2 q2 q3 hb3 HC hu hr;go_wp2;refine bodyPost_ret (v:=.tuple #[.agg #[.slice p1 L1.length c1',.slice p2 L2.length c2],.int .i64 er]) (by simp at x0 x1;simp[results,Tryz.results24,go_sem,x0,x1]) rfl ⟨_,by rw[←HR.out],?_,M7.out⟩;rw[←HR.out];exact⟨⟨p1,c1',p2,c2,rfl,R1.out,R2.out,O1.out,O2.out⟩⟩
theorem oP {a b:List ByteArray}{i:Nat} (hc:az a b=true) (h:i+a.length≤7):az (aJ a i) b=true:=by
 obtain⟨ob1,ob7,oa1,oa7,oac,obc,ohd⟩:=aM hc;have h0:bu (⟨#[48]⟩:ByteArray).data.toList=true:=by decide +kernel
 unfold az eR at hc ⊢;simp only[Fy,decide_eq_true_eq,FH] at hc ⊢;refine⟨⟨⟨⟨by rw[dL];omega,by rw[dL];omega⟩,fun s hs=>?_⟩,hc.1.2⟩,hc.2⟩;rcases F6.1 hs with h | h
 ·rw[Gl h];exact h0
 ·exact hc.1.1.2 s h
theorem uA {a b:List ByteArray}{i:Nat} (hc:az a b=true) (h:i+a.length≤7):cR a b i=((aJ a i,b),0):=by
 obtain⟨ob1,ob7,oa1,oa7,-⟩:=aM hc;have hc2:=oP hc h;unfold cR aO;rw[if_neg (by rw[hc];decide),if_neg (by rw[hc];decide)];unfold gM;rw[if_neg (by omega)]
 show sR (.ok (aJ a i,b))=_
 show (if 7<(aJ a i).length∨7<b.length then _ else _)=_
 rw[if_neg (by rw[dL];omega),if_neg (by rw[hc2];decide)]
theorem wW {a b:List ByteArray}{i:Nat} (h:a.take i=b.take i) (hi:i<a.length) (hib:i<b.length) (he:a[i]=b[i]):a.take (i+1)=b.take (i+1):=by
 rw[←Fm hi,←Fm hib,h,he]
theorem DS (va vb:Value) (a b:List ByteArray) (w:World) (ha:IsS w va a) (hb:IsS w vb b) (hal:a.length<1000000) (hbl:b.length<1000000) :
  Calls Tryz.prog 44 #[va,vb] w fun e w'=>e=.returned (.bool (decide (a=b)))∧Below w.heap.size w w':=by
 obtain⟨pa,ca,rfl,-⟩:=id ha.form;obtain⟨pb,cb,rfl,-⟩:=id hb.form;have HA:=E5 ha;have HB:=E5 hb;clear ha hb;go_enter Tryz.func44,Tryz.ntmps44;by_cases hle:a.length=b.length
 ·have hd:((a.length:Int) != (b.length:Int))=false:=by simp[hle]
  have HL:=E5 hle;clear hle;go_wp2;go_loopw [13] (fun s13 wr=>∃ i:Nat,s13=.int .i64 i∧i≤a.length∧Below w.heap.size w wr∧Hid (a.take i=b.take i)) (fun s13 _=>a.length-(intOf s13).toNat)
  case atStart=>exact⟨0,rfl,Fk _,Below.refl _ _,rfl⟩
  case round =>
   obtain⟨i,rfl,hin,hbr,heq⟩:=hrel;by_cases hi:i<a.length
   ·have hib:i<b.length:=by rw[←HL.out];exact hi
    obtain⟨ba,oa,rfl,hba,hca⟩:=(HA.out.below hbr).get hi;obtain⟨bb,ob,rfl,hbb,hcb⟩:=(HB.out.below hbr).get hib;have HT:=E5 (fun h:a[i]=b[i]=>wW heq.out hi hib h);have HN:=E5 (fun (h:a[i]≠b[i]) (hab:a=b)=>h (by subst hab;rfl));generalize a[i]=x at *
    generalize b[i]=y at *
    by_cases hxy:x=y
    ·subst hxy;have HT:=E5 (HT.out rfl);clear HN heq;go_upto_region 6 with fail
     have m4:Below wr.heap.size wr wr.drew:=(Below.refl _ _).drew;refine aq (fun w'=>∃ x:aC wr.heap.size wr.drew,w'=x.w) (fun _=>false) (by kernel_rfl) (by kernel_rfl) ⟨⟨_,Below.refl _ _⟩,rfl⟩ ?_;have hbw:=hbr.trans (m4.mono hbr.size);have c0:=fun x:aC wr.heap.size wr.drew=>af (m4.trans x.h) hba hca;have c1:=fun x:aC wr.heap.size wr.drew=>af (m4.trans x.h) hbb hcb;clear hca hcb m4 hbr;generalize wr.drew=wd at *
     refine ah 9 0 _ _ _ (by kernel_rfl) ?_;simp only[Fc,Fg,Fd,Ff];repeat (go_big_quiet_step (fail))
     refine wpQuiet_nil ?_;refine aB ?_;clear c0 c1;go_wp2;go_roundw;case rel=>exact⟨i+1,by go_num,by omega,hbw,HT.out⟩
     case measure=>(first | (simp[intOf];done) | (simp[intOf];omega))
    ·have hd3:(x.toList == y.toList)=false:=by
      refine FY.2 fun hb=>hxy ?_;have e:x.toList=y.toList:=by simpa using hb
      rw[ar,ar] at e;exact (i6 e).trans (i6 rfl).symm
     have HF:=E5 (show decide (a=b)=false from decide_eq_false (HN.out hxy));clear HN HT heq hxy;go_upto_region 6 with fail
     have m4:Below wr.heap.size wr wr.drew:=(Below.refl _ _).drew;refine aq (fun w'=>∃ x:aC wr.heap.size wr.drew,w'=x.w) (fun _=>false) (by kernel_rfl) (by kernel_rfl) ⟨⟨_,Below.refl _ _⟩,rfl⟩ ?_;have hbw:=hbr.trans (m4.mono hbr.size);have c0:=fun x:aC wr.heap.size wr.drew=>af (m4.trans x.h) hba hca;have c1:=fun x:aC wr.heap.size wr.drew=>af (m4.trans x.h) hbb hcb;clear hca hcb m4 hbr;generalize wr.drew=wd at *
     refine ah 9 0 _ _ _ (by kernel_rfl) ?_;simp only[Fc,Fg,Fd,Ff];repeat (go_big_quiet_step (fail))
     refine wpQuiet_nil ?_;refine aB ?_;clear c0 c1;go_wp2;go_ret;exact⟨by rw[HF.out];rfl,hbw⟩
   ·have hin':i=a.length:=by omega
    subst hin';have HF:=E5 (show decide (a=b)=true from decide_eq_true (by have h:=heq.out;rw[FD,HL.out,FD] at h;exact h));clear hi heq;go_wp2;go_ret;exact⟨by rw[HF.out];rfl,hbr⟩
 ·have hd:((a.length:Int) != (b.length:Int))=true:=by simp;omega
  have HF:=E5 (show decide (a=b)=false from decide_eq_false (fun h=>hle (by rw[h])));clear hle;go_wp2;go_ret;exact⟨by rw[HF.out];rfl,Below.refl _ _⟩
theorem jS (va vb:Value) (a b:List ByteArray) (w:World) (ha:IsS w va a) (hb:IsS w vb b) (hal:a.length<1000000) (hbl:b.length<1000000) :
  Calls Tryz.prog 42 #[va,vb] w fun e w'=>e=.returned (.bool (decide (a=b)))∧Below w.heap.size w w':=by
 obtain⟨pa,ca,rfl,-⟩:=id ha.form;obtain⟨pb,cb,rfl,-⟩:=id hb.form;have HA:=E5 ha;have HB:=E5 hb;clear ha hb;go_enter Tryz.func42,Tryz.ntmps42;by_cases hle:a.length=b.length
 ·have hd:((a.length:Int) != (b.length:Int))=false:=by simp[hle]
  have HL:=E5 hle;clear hle;go_wp2;go_loopw [5] (fun s5 wr=>∃ i:Nat,s5=.int .i64 i∧i≤a.length∧Below w.heap.size w wr∧Hid (a.take i=b.take i)) (fun s5 _=>a.length-(intOf s5).toNat)
  case atStart=>exact⟨0,rfl,Fk _,Below.refl _ _,rfl⟩
  case round =>
   obtain⟨i,rfl,hin,hbr,heq⟩:=hrel;by_cases hi:i<a.length
   ·have hib:i<b.length:=by rw[←HL.out];exact hi
    obtain⟨ba,oa,rfl,hba,hca⟩:=(HA.out.below hbr).get hi;obtain⟨bb,ob,rfl,hbb,hcb⟩:=(HB.out.below hbr).get hib;have HT:=E5 (fun h:a[i]=b[i]=>wW heq.out hi hib h);have HN:=E5 (fun (h:a[i]≠b[i]) (hab:a=b)=>h (by subst hab;rfl));generalize a[i]=x at *
    generalize b[i]=y at *
    by_cases hxy:x=y
    ·subst hxy;have HT:=E5 (HT.out rfl);clear HN heq;go_upto_region 6 with fail
     have m4:Below wr.heap.size wr wr.drew:=(Below.refl _ _).drew;refine aq (fun w'=>∃ x:aC wr.heap.size wr.drew,w'=x.w) (fun _=>false) (by kernel_rfl) (by kernel_rfl) ⟨⟨_,Below.refl _ _⟩,rfl⟩ ?_;have hbw:=hbr.trans (m4.mono hbr.size);have c0:=fun x:aC wr.heap.size wr.drew=>af (m4.trans x.h) hba hca;have c1:=fun x:aC wr.heap.size wr.drew=>af (m4.trans x.h) hbb hcb;clear hca hcb m4 hbr;generalize wr.drew=wd at *
     refine ah 9 0 _ _ _ (by kernel_rfl) ?_;simp only[Fc,Fg,Fd,Ff];repeat (go_big_quiet_step (fail))
     refine wpQuiet_nil ?_;refine aB ?_;clear c0 c1;go_wp2;go_roundw;case rel=>exact⟨i+1,by go_num,by omega,hbw,HT.out⟩
     case measure=>(first | (simp[intOf];done) | (simp[intOf];omega))
    ·have hd3:(x.toList == y.toList)=false:=by
      refine FY.2 fun hb=>hxy ?_;have e:x.toList=y.toList:=by simpa using hb
      rw[ar,ar] at e;exact (i6 e).trans (i6 rfl).symm
     have HF:=E5 (show decide (a=b)=false from decide_eq_false (HN.out hxy));clear HN HT heq hxy;go_upto_region 6 with fail
     have m4:Below wr.heap.size wr wr.drew:=(Below.refl _ _).drew;refine aq (fun w'=>∃ x:aC wr.heap.size wr.drew,w'=x.w) (fun _=>false) (by kernel_rfl) (by kernel_rfl) ⟨⟨_,Below.refl _ _⟩,rfl⟩ ?_;have hbw:=hbr.trans (m4.mono hbr.size);have c0:=fun x:aC wr.heap.size wr.drew=>af (m4.trans x.h) hba hca;have c1:=fun x:aC wr.heap.size wr.drew=>af (m4.trans x.h) hbb hcb;clear hca hcb m4 hbr;generalize wr.drew=wd at *
     refine ah 9 0 _ _ _ (by kernel_rfl) ?_;simp only[Fc,Fg,Fd,Ff];repeat (go_big_quiet_step (fail))
     refine wpQuiet_nil ?_;refine aB ?_;clear c0 c1;go_wp2;go_ret;exact⟨by rw[HF.out];rfl,hbw⟩
   ·have hin':i=a.length:=by omega
    subst hin';have HF:=E5 (show decide (a=b)=true from decide_eq_true (by have h:=heq.out;rw[FD,HL.out,FD] at h;exact h));clear hi heq;go_wp2;go_ret;exact⟨by rw[HF.out];rfl,hbr⟩
 ·have hd:((a.length:Int) != (b.length:Int))=true:=by simp;omega
  have HF:=E5 (show decide (a=b)=false from decide_eq_false (fun h=>hle (by rw[h])));clear hle;go_wp2;go_ret;exact⟨by rw[HF.out];rfl,Below.refl _ _⟩
theorem Bu (va vb:Value) (a b c d:List ByteArray) (w:World) (ha:IsF w va a b) (hb:IsF w vb c d) (h1:a.length<1000000) (h2:b.length<1000000) (h3:c.length<1000000) (h4:d.length<1000000) :
  Calls Tryz.prog 48 #[va,vb] w fun e w'=>e=.returned (.bool (decide (a=c)&&decide (b=d)))∧Below w.heap.size w w':=by
 obtain⟨p,x,q,y,rfl,hfa,hfb⟩:=id ha.ex;obtain⟨p',x',q',y',rfl,hfc,hfd⟩:=id hb.ex;go_enter Tryz.func48,Tryz.ntmps48;go_upto_region 1 with fail
 have cc:=aE w (.slice p a.length x) (.slice q b.length y);have m1:=ak w (.cells #[.slice p a.length x,.slice q b.length y] 24);have z1:=size_alloc w (.cells #[.slice p a.length x,.slice q b.length y] 24);generalize w.alloc (.cells #[.slice p a.length x,.slice q b.length y] 24)=w1 at *
 have dd:=aE w1 (.slice p' c.length x') (.slice q' d.length y');have m2:=ak w1 (.cells #[.slice p' c.length x',.slice q' d.length y'] 24);have z2:=size_alloc w1 (.cells #[.slice p' c.length x',.slice q' d.length y'] 24);have b0:=af m2 (show w.heap.size<w1.heap.size by omega) cc.1;have b1:=af m2 (show w.heap.size<w1.heap.size by omega) cc.2;generalize w1.alloc (.cells #[.slice p' c.length x',.slice q' d.length y'] 24)=w2 at *
 rw[z1] at dd;have d0:=dd.1;have d1:=dd.2;have M2:=E5 (m1.trans (m2.mono m1.size));have H1:=E5 (jS _ _ a c w2 (hfa.below M2.out) (hfc.below M2.out) h1 h3);have H2:=E5 (fun wx (h:Below w2.heap.size w2 wx)=>jS _ _ b d wx ((hfb.below M2.out).below h) ((hfd.below M2.out).below h) h2 h4);have hl1:w.heap.size<w2.heap.size:=by omega
 have hl2:w.heap.size+1<w2.heap.size:=by omega
 clear cc dd m1 m2 z1 z2 hfa hfb hfc hfd ha hb;by_cases h:a=c
 ·have hd:decide (a=c)=true:=decide_eq_true h;obtain⟨bb,hbb⟩:∃ bb,bb=decide (b=d):=⟨_,rfl⟩;have HE:=E5 (show (decide (a=c)&&decide (b=d))=bb by rw[hd,hbb];rfl);rw[hd] at H1;rw[←hbb] at H2;clear h hd hbb;go_wp2_with fail
  refine H1.out.mono ?_;rintro e w3 ⟨rfl,hb3⟩;have e0:=af hb3 hl1 b0;have e1:=af hb3 hl1 b1;have g0:=af hb3 hl2 d0;have g1:=af hb3 hl2 d1;clear b0 b1 d0 d1;go_wp2_with fail
  refine (H2.out w3 hb3).mono ?_;rintro e w4 ⟨rfl,hb4⟩;go_wp2;go_ret;exact⟨by rw[HE.out];rfl,M2.out.trans ((hb3.trans (hb4.mono hb3.size)).mono M2.out.size)⟩
 ·have hd:decide (a=c)=false:=decide_eq_false h;have HE:=E5 (show (decide (a=c)&&decide (b=d))=false by rw[hd];rfl);rw[hd] at H1;clear h hd;go_wp2_with fail
  refine H1.out.mono ?_;rintro e w3 ⟨rfl,hb3⟩;go_wp2;go_ret;exact⟨by rw[HE.out];rfl,M2.out.trans (hb3.mono M2.out.size)⟩
def aV:List ByteArray:=[⟨#[48]⟩,⟨#[49,47,50]⟩]
def aW:List ByteArray:=[⟨#[49]⟩,⟨#[45,49,47,50]⟩]
theorem wt (w:World) (s t:ByteArray):IsS (w.alloc (.cells #[.string s,.string t] 34)) (.slice (some ⟨w.heap.size,0,none⟩) 2 2) [s,t] :=
 bE.isS (base:=0) (World.ownsRow_lit w #[.string s,.string t] 2 (Fk _) (by simp[maxLen]) rfl)
theorem EJ (w:World):Calls Tryz.prog 45 #[] w fun e w'=>∃ v,e=.returned v∧IsF w' v aV aW∧Below w.heap.size w w':=by
 go_enter Tryz.func45,Tryz.ntmps45;go_upto_region 1 with fail
 have q1:=heap_alloc_new w (.cells #[.slice none 0 0,.slice none 0 0] 24);have m1:=ak w (.cells #[.slice none 0 0,.slice none 0 0] 24);have z1:=size_alloc w (.cells #[.slice none 0 0,.slice none 0 0] 24);generalize w.alloc (.cells #[.slice none 0 0,.slice none 0 0] 24)=w1 at *
 have i2:=wt w1 ⟨#[48]⟩ ⟨#[49,47,50]⟩;have m2:=ak w1 (.cells #[.string ⟨#[48]⟩,.string ⟨#[49,47,50]⟩] 34);have z2:=size_alloc w1 (.cells #[.string ⟨#[48]⟩,.string ⟨#[49,47,50]⟩] 34);have i3:=wt (w1.alloc (.cells #[.string ⟨#[48]⟩,.string ⟨#[49,47,50]⟩] 34)) ⟨#[49]⟩ ⟨#[45,49,47,50]⟩;have m3:=ak (w1.alloc (.cells #[.string ⟨#[48]⟩,.string ⟨#[49,47,50]⟩] 34)) (.cells #[.string ⟨#[49]⟩,.string ⟨#[45,49,47,50]⟩] 34);have q2:=(m2.block w.heap.size (by omega)).trans q1;have q3:=(m3.block w.heap.size (by omega)).trans q2;have c0:=ae q3 0;have c1:=ae q3 1;have f0:=ap q3 0;have f1:=ap q3 1;have i2:=i2.below m3;have M2:=m1.trans (m2.mono m1.size);have M3:=M2.trans (m3.mono M2.size);rw[z1] at i2;rw[z2,z1] at i3;have n1:Value.ownBlock (.slice (some ⟨w.heap.size+1,0,none⟩) 2 2)≠some w.heap.size:=fun e=>by simp[Value.ownBlock] at e
 have n2:Value.ownBlock (.slice (some ⟨w.heap.size+1+1,0,none⟩) 2 2)≠some w.heap.size:=fun e=>by simp[Value.ownBlock] at e;omega
 clear m1 m2 m3 q1 q2 z2 M2;refine wp_region_lit ?_;refine wpList_plain rfl (fun K hK=>?_);go_simp;refine hK _ _ ?_;clear hK K;try simp only[Act.put,E9,E8,E7,E6,Fa,E_]
 refine wpList_plain rfl (fun K hK=>?_);go_simp;refine hK _ _ ?_;clear hK K;try simp only[Act.put,E9,E8,E7,E6,Fa,E_]
 try rw[z1]
 generalize (w1.alloc (.cells #[.string ⟨#[48]⟩,.string ⟨#[49,47,50]⟩] 34)).alloc (.cells #[.string ⟨#[49]⟩,.string ⟨#[45,49,47,50]⟩] 34)=w3 at *
 clear z1;have I2:=E5 ((i2.other n1 0 (.slice (some ⟨w.heap.size+1,0,none⟩) 2 2)).other n1 1 (.slice (some ⟨w.heap.size+1+1,0,none⟩) 2 2));have I3:=E5 ((i3.other n2 0 (.slice (some ⟨w.heap.size+1,0,none⟩) 2 2)).other n2 1 (.slice (some ⟨w.heap.size+1+1,0,none⟩) 2 2));have BB:=E5 ((M3.setCell (p:=⟨w.heap.size,0,none⟩) (Fb _) (.slice (some ⟨w.heap.size+1,0,none⟩) 2 2)).setCell (p:=⟨w.heap.size,1,none⟩) (Fb _) (.slice (some ⟨w.heap.size+1+1,0,none⟩) 2 2));have q4:=aI q3 (.slice (some ⟨w.heap.size+1,0,none⟩) 2 2) (.slice (some ⟨w.heap.size+1+1,0,none⟩) 2 2);have s0:_=some (Value.slice (some ⟨w.heap.size+1,0,none⟩) 2 2):=ae q4 0;have s1:_=some (Value.slice (some ⟨w.heap.size+1+1,0,none⟩) 2 2):=ae q4 1;have r0:=E5 s0;have r1:=E5 s1;clear i2 i3 M3 q3 q4 n1 n2 s0 s1;go_wp2;have s0:=r0.out;have s1:=r1.out;refine bodyPost_ret (v:=.agg #[(.slice (some ⟨w.heap.size+1,0,none⟩) 2 2),(.slice (some ⟨w.heap.size+1+1,0,none⟩) 2 2)]) (by simp[results,Tryz.results45,go_sem,s0,s1]) rfl ⟨_,rfl,⟨⟨_,_,_,_,rfl,I2.out,I3.out⟩⟩,BB.out⟩
def eM (l:List ByteArray) (n:Nat):List ByteArray:=l++List.replicate (n-l.length) ⟨#[48]⟩
theorem ic (l:List ByteArray) (n:Nat):(eM l n).length=max l.length n:=by unfold eM;simp;omega
def Dp:Value→Nat
 | .slice _ n _=>n
 | _=>0
theorem mE (v:Value) (l:List ByteArray) (n:Nat) (w:World) (hl:IsS w v l) (hpos:0<l.length) (hlen:l.length<1000000) (hn:n<1000000) :
  Calls Tryz.prog 102 #[v,.int .i64 n] w fun e w'=>∃ u,e=.returned u∧bE w' w.heap.size u (eM l n)∧Below w.heap.size w w':=by
 have HC:=E5 (ui v l w hl hpos (by omega));clear hl;go_enter Tryz.func102,Tryz.ntmps102;go_wp2_with fail
 refine HC.out.mono ?_;rintro e w1 ⟨u,rfl,hu,hb1⟩;have HU:=E5 hu;have HB1:=E5 hb1;clear hu hb1 HC;go_wp2_with fail
 go_loopw [5] (fun s5 wr=>∃ i:Nat,bE wr w.heap.size s5 (eM l i)∧(i=0∨i≤n)∧Below w.heap.size w wr) (fun s5 _=>n-Dp s5)
 case atStart=>exact⟨0,by unfold eM;simpa using HU.out,Or.inl rfl,HB1.out⟩
 case round =>
  obtain⟨i,hown,hi,hbr⟩:=hrel;have hpl:=ic l i;obtain⟨p,c,rfl,hcc,-⟩:=hown.isS.form;obtain⟨m,hm⟩:∃ m,m=(eM l i).length:=⟨_,rfl⟩;rw[←hm] at hpl hcc hown ⊢;by_cases hlt:m<n
  ·have hi2:i≤n:=by omega
   obtain⟨j,hj⟩:∃ j,j=m:=⟨_,rfl⟩
   have hpj:eM l (m+1)=eM l i++[⟨#[48]⟩]:=by
    unfold eM;rw[FO];congr 1;have e:m+1-l.length=(i-l.length)+1:=by omega
    rw[e,GZ]
   have hd:decide ((m:Int)<(n:Int))=true:=by simp;omega
   have hd2:decide (m<n)=true:=decide_eq_true hlt;have HT:=E5 hpj;have HM:=E5 (And.intro hm (And.intro hlt hpl));have hzl:(eM l i).length<1000000000:=by omega
   have hbs:=hbr.size;clear hpj hm hpl hi hi2 hj hlt hcc j;go_upto_region 3 with fail
   generalize Value.slice p m c=sv at hown ⊢;go_wp2_with (at_builtin;refine aX 22 Tryz.underlying22 rfl (.tmp 12) (.tmp 13) rfl w.heap.size _ _ _ rfl hown rfl hzl hbs ?_)
   intro v' w2 hw2 hb2;have hB2:=hb2 _ _ hbr (Fb _);rw[←HT.out] at hw2;obtain⟨p',c',rfl,-⟩:=hw2.isS.form;clear hown hb2 hbr;go_wp2;go_roundw;case rel=>exact⟨m+1,hw2,Or.inr HM.out.2.1,hB2⟩
   case measure =>
    have h1:=HM.out.2.1;have h2:=HM.out.2.2;have h3:=ic l (m+1);simp only[Dp];omega
  ·have hd:decide ((m:Int)<(n:Int))=false:=by simp;omega
   have hd2:decide (m<n)=false:=decide_eq_false hlt
   have HE:=E5 (show eM l i=eM l n by
    unfold eM;congr 2;omega)
   have HO:=E5 hown;have HM:=E5 hm;clear hpl hi hlt hcc hown hm;go_wp2;go_ret;exact⟨_,rfl,by have h:=HO.out;rw[HE.out] at h;exact h,hbr⟩
def gX (a l:List ByteArray) (k:Nat):List ByteArray:=(List.range k).map fun i=>jv (aH l i) (dz (cX (aH l k) (aH a 0)) (aH a (k-i)))
theorem lk (a l:List ByteArray) (k:Nat):(gX a l k).length=k:=by simp[gX]
theorem xT (a l:List ByteArray) {k i:Nat} (h:i<(gX a l k).length):(gX a l k)[i]=jv (aH l i) (dz (cX (aH l k) (aH a 0)) (aH a (k-i))):=by simp[gX]
theorem nh (a l:List ByteArray) {k i:Nat} (h:i<k):(bJ (gX a l k) i).set i (jv (aH l i) (dz (cX (aH l k) (aH a 0)) (aH a (k-i))))=bJ (gX a l k) (i+1):=by
 have hl:i<(gX a l k).length:=by rw[lk];exact h
 have:=g9 (gX a l k) hl;rw[xT a l hl] at this;exact this
def jF:Nat→List ByteArray→List ByteArray→ByteArray→ByteArray
 | 0,_,_,e=>e
 | k+1,a,b,e=>jF k (gX a a k) (gX a b k) (gT e (cX (dz (aH b k) (aH b k)) (aH a 0)))
def dT (fa fb:List ByteArray):ByteArray×Int :=
 if az fa fb=true then if (bV fb).isSome=true then (jF (max fa.length fb.length) (eM fb (max fa.length fb.length)) (eM fa (max fa.length fb.length)) ⟨#[48]⟩,0) else (⟨#[]⟩,31) else (⟨#[]⟩,30)
set_option maxRecDepth 100000 in
example : dT aV aW = (⟨#[49, 47, 51]⟩, 0) := by decide +kernel
end Go.Proofs.YtbnkpcfjechfiaaGreatDoor
