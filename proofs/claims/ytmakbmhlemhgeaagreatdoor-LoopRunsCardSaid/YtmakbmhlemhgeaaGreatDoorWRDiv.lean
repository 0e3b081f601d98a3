/- L -/
import Derived.Laws.OwnMore
import Derived.Test.YtmakbmhlemhgeaaGreatDoorWReg
import Derived.Test.YtmakbmhlemhgeaaGreatDoorWRMul
import Derived.Test.YtmakbmhlemhgeaaGreatDoorWB
set_option linter.all false
set_option maxRecDepth 100000
set_option maxHeartbeats 8000000
namespace Go.Proofs.YtmakbmhlemhgeaaGreatDoor
open Go.RowKit Dg
theorem BC (w:World):IsD w (.slice none 0 0) 0:=by
 unfold IsD;rw[cC];exact⟨none,0,rfl,GM _,by unfold maxLen;omega,fun h=>by simp at h⟩
theorem Ft {w:World}{v:Value}{l:List Nat} (h:IsI w v l) (hl:CR l):IsD w v (val RR l):=by
 unfold IsD;rw[j0 aQ hl];exact h
theorem n8 {w:World}{p:Option Addr}{N cap:Nat}{l:List Nat} (h:IsI w (.slice p N cap) l) (hl:∀ d∈l,d<RR):IsD w (.slice p (lean l).length cap) (val RR l):=by
 unfold IsD;rw[<-cU aQ hl];exact h.lean
theorem Eb (w:World) (T:Int) (d:Nat) (hT:T=d):ew (w.alloc (.cells #[.int .i64 T] 3)) w.heap.size (.slice (some ⟨w.heap.size,0,none⟩) 1 1) [d]:=by
 subst hT;refine⟨rfl,Or.inr ⟨w.heap.size,1,#[.int .i64 d],rfl,GM _,heap_alloc_new _ _,GM _,by unfold maxLen;omega,rfl,rfl⟩⟩
theorem vG {a b q:List Nat}{k R:Nat} (ha:∀ d∈a,d<RR) (h:li a b k q R):nth a (k-1)+RR*R<RR*val RR b:=by
 have:=h.lt;have hd:=cH (j:=k-1) ha;have h4:RR*(R+1)<=RR*val RR b:=G3 _ this;rw[IU] at h4;omega
theorem ti {b:List Nat}{X:Nat} (hcb:CR b) (h:X<RR*val RR b):(av RR X).length<=b.length+1:=by
 refine a_ aQ ?_;rw[G6];exact GN h (by rw[G5];exact GX _ (Ha (pB hcb)))
theorem IsI.end_ {w:World}{p:Option Addr}{k:Nat}{l:List Nat} (h:l.length<=k):IsI w (.slice p (l.length-k) 0) (l.drop k) :=
 ⟨p,0,by rw[G2],by rw[G2];omega,by unfold maxLen;omega,fun hl=>by rw[G2] at hl;omega⟩
theorem IsD.slice {w:World}{v:Value}{n:Nat} (h:IsD w v n):∃ p N cap,v=.slice p N cap/\N=(av RR n).length:=by
 obtain⟨p,cap,e,_,_⟩:=IsI.slice h;exact⟨p,_,cap,e,rfl⟩
theorem z6 (w:World) (a b:List Nat) (hca:CR a) (hcb:CR b) (hge:val RR b<=val RR a):b.length<=a.length:=by
 rcases It a.length b.length with h | h
 ·have:=cN aQ hca hcb h;omega
 ·exact h
theorem DN {d:Nat}{l:List Nat} (hd:d<RR) (hl:∀ x∈l,x<RR):∀ x∈[d]++l,x<RR:=by
 intro x hx;rcases Ik.1 hx with h | h
 ·rw[Io.1 h];exact hd
 ·exact hl x h
theorem rC {x y:Nat} (h:x<y):dw x y=-1:=by simp[dw,h]
theorem vo {x y:Nat} (h:y<=x):decide (0<=dw x y)=true/\decide (dw x y<0)=false:=by
 unfold dw;rw[if_neg (by omega)]
 split<;>exact⟨rfl,rfl⟩
theorem tj (va vb:Value) (a b:List Nat) (w:World) (ha:IsI w va a) (hb:IsI w vb b) (hca:CR a) (hcb:CR b) (h1:1<=b.length) (hla:a.length<100000) (hlb:b.length<100000) (hge:val RR b<=val RR a) :
  Calls Tryz.prog 192 #[va,vb] w fun e w'=>∃ v1 v2,e=.returned (.tuple #[v1,v2])/\IsD w' v1 (val RR a / val RR b)/\IsD w' v2 (val RR a % val RR b)/\Below w.heap.size w w':=by
 have hab:=z6 w a b hca hcb hge;obtain⟨p,cap,rfl,hlc,hcm,hcell⟩:=ha;obtain⟨p',cap',rfl,hlc',hcm',hcell'⟩:=hb;obtain⟨b0,o0,rfl,hb0,hc⟩:=hcell (by omega);unfold maxLen at hcm hcm';obtain⟨k0,hk0⟩:∃ k0,k0=a.length-b.length+1:=⟨_,rfl⟩;obtain⟨t,ht⟩:∃ t,t=a.drop k0:=⟨_,rfl⟩;have HA:Hid (IsI w (.slice (some ⟨b0,o0,none⟩) a.length cap) a):=⟨_,_,rfl,hlc,by unfold maxLen;omega,fun _=>⟨b0,o0,rfl,hb0,hc⟩⟩;have HB:Hid (IsI w (.slice p' b.length cap') b):=⟨_,_,rfl,hlc',by unfold maxLen;omega,hcell'⟩;have HC:Hid (∀ j,j<a.length->w.cell? ⟨b0,o0+j,none⟩=some (.int .i64 (nth a j))):=hc;have HCA:=GF hca;have HCB:=GF hcb;have HST:=GF (vH hca.1 hcb h1 hab);rw[<-hk0,<-ht] at HST;have hcmp:decide (dw (val RR a) (val RR b)<0)=false:=(vo hge).2;have hfrom:(a.length:Int)-(b.length:Int)=((k0-1:Nat):Int):=by omega
 have hto:((k0-1:Nat):Int)+1=(k0:Int):=by omega
 have hka:k0<=a.length:=by omega
 have hk1:1<=k0:=by omega
 have hT1:Hid (∀ w',Below w.heap.size w w'->IsI w' (.slice (some ⟨b0,o0+k0,none⟩) (a.length-k0) (cap-k0)) t):=fun w' hb=>by
  have:=(HA.out.below hb).tail hka;rw[lY,<-ht] at this;exact this
 have hT2:Hid (cap=k0->∀ w',IsI w' (.slice (some ⟨b0,o0,none⟩) (a.length-k0) 0) t):=fun hcap w'=>by rw[ht];exact IsI.end_ (by omega)
 have hTd:Hid (∀ d∈t,d<RR):=fun d hd=>hca.1 d (Ia (by rw[<-ht];exact hd));have hTl:Hid (t.length<100000):=by unfold Hid;rw[ht,G2];omega
 have HAB:=GF hab;clear hc hcell hcell' hca hcb ht hk0 hab;go_enter Tryz.func192,Tryz.ntmps192;go_wp2_with fail
 refine (fj _ _ a b w HA.out HB.out HCA.out HCB.out).mono ?_;rintro e w1 ⟨rfl,n1,rfl⟩;generalize hcv:dw (val RR a) (val RR b)=cv at hcmp |-;clear hcv;go_wp2_with (at_make;refine kV 22 Tryz.underlying22 rfl (.tmp 17) (.tmp 17) rfl _ _ a.length rfl rfl (by simp) (by simp) ?c1 ?_)
 case c1=>omega
 intro w0 hrow hb0' hs0;have hbz:=hb0' _ _ (below_drewN (Ki w.heap.size w) n1) (GM _);clear hb0';have hrow':Hid (ff w0 w.heap.size a.length (List.replicate a.length 0)):=hrow;clear hrow;go_wp2_with (at_builtin;refine jd 22 Tryz.underlying22 rfl (.tmp 24) (.tmp 28) rfl w0.heap.size _ [] rfl (World.ownsRow_nil _ _ _ _) _ t rfl ?c2 ?c3 ?c4 (GM _) ?_)
 all_goals try first | exact hT1.out _ hbz | exact hT2.out (by assumption) _ | exact Or.inr ⟨_,_,_,rfl⟩ | (have:=hTl.out;simp;omega;done)
 all_goals
  intro v1 w1 hown1 hbb1;have hbe:=hbb1 _ _ hbz (Ha hs0);have hrow1:Hid (ff w1 w.heap.size a.length (List.replicate a.length 0)):=hrow'.out.below (hbb1 _ _ (Ki _ _) (GM _));obtain⟨po,co,rfl,_,_⟩:=(ew.isU hown1).slice;have hoi:=GF (ew.isU hown1);have hsb:=GF ((ew.slb hown1 (m:=(lean t).length) (bS t)).base hs0);clear hown1 hbb1 hbz hrow' hs0;go_wp2_with fail
  refine (i_ po t.length co t w1 hoi.out).mono ?_;rintro e w2 ⟨rfl,rfl⟩;have hd1:=GF (n8 hoi.out hTd.out);generalize (lean t).length=nt at *
  clear hoi;go_wp2_with fail
  clear hcmp;go_loopw [8,9] (fun s8 s9 wr=>∃ (k:Nat) (qs:List Nat) (R:Nat),k<=a.length/\s9=.int .i64 ((k:Int)-1)/\Hid (li a b k qs R)/\Hid (ff wr w.heap.size a.length qs)/\Hid (IsD wr s8 R)/\Hid (SlB (w.heap.size+1) s8)/\Below w.heap.size w wr) (fun _ s9 _=>(intOf s9+1).toNat)
  case atStart=>exact⟨k0,_,_,hka,by go_num,HST,hrow1,hd1,hsb,hbe⟩
  case round =>
   clear hrow1 hd1 hsb hbe HST hfrom hto hka hk1 hT1 hT2 hTd hTl;obtain⟨k,qs,R,hk,rfl,hst,hrow,hd,hsb,hbw⟩:=hrel;by_cases h0:k=0
   ·subst h0;have hend:=GF (A3 hst.out);have hql:=hst.out.len;have hqd:=GF hst.out.dig;have hqi:=GF hrow.out.isU;rw[hql] at hqi;go_wp2_with fail
    refine (i_ _ _ _ qs _ hqi.out).mono ?_;rintro e w2 ⟨rfl,rfl⟩;have hdq:=GF (n8 hqi.out hqd.out);generalize (lean qs).length=nq at *
    go_wp2_with fail
    go_ret2
    exact⟨_,_,rfl,by rw[<-hend.out.1];exact hdq.out,by rw[<-hend.out.2.1];exact hd.out,hbw⟩
   ·have hbound:=vG HCA.out.1 hst.out;have hdx:=cH (j:=k-1) HCA.out.1;have hc1:=(hbw.cell (p:=⟨b0,o0+(k-1),none⟩) hb0).trans (HC.out (k-1) (by omega));have hbl:Hid (b.length<=a.length):=HAB;obtain⟨d,hde⟩:∃ d,d=nth a (k-1):=⟨_,rfl⟩;rw[<-hde] at hbound hdx hc1;have HDE:=GF hde;clear hde;obtain⟨X,hX⟩:∃ X,X=d+RR*R:=⟨_,rfl⟩;rw[<-hX] at hbound;have HX:=GF hX;clear hX;have hrl:=hrow.out.lt;have hdr:=hd.out;have hlen:(av RR R).length<=b.length+1:=ti HCB.out (GN hst.out.lt (JC _ (by decide)));have hba1:Below wr.heap.size wr (wr.alloc (.cells #[.int .i64 d] 3)):=(Ki _ _).alloc (GM _) _;have hsa:(wr.alloc (.cells #[.int .i64 d] 3)).heap.size=wr.heap.size+1:=by simp
    have hk1:1<=k:=by omega
    have hge:decide ((0:Int)<=(k:Int)-1)=true:=by simp;omega
    go_wp2_with (at_builtin;refine jd 22 Tryz.underlying22 rfl (.tmp 40) (.tmp 41) rfl wr.heap.size _ [d] rfl (Eb wr d d rfl) _ (av RR R) rfl (IsI.below hdr hba1) hsb.out.nor (by simp only[G_,Id];omega) (by rw[hsa];omega) ?_)
    intro v3 w3 hown3 hbb3;have hb3:Below wr.heap.size wr w3:=hbb3 _ _ hba1 (GM _);have hbw3:=hbw.trans (hb3.mono hbw.size);have hrow3:=GF (hrow.out.below hb3);obtain⟨pr,cr,rfl,_,_⟩:=(ew.isU hown3).slice;obtain⟨L,hL⟩:∃ L,L=d :: av RR R:=⟨_,rfl⟩;rw[<-hL] at hown3 |-;have hoi:=GF (ew.isU hown3);have hsb3:=GF ((ew.slb hown3 (m:=(lean L).length) (bS L)).base hrl);have hLd:Hid (∀ x∈L,x<RR):=by rw[hL];exact DN hdx (aW _).1
    have hLv:Hid (val RR L=X):=by unfold Hid;rw[hL,HX.out,eo,aF aQ]
    have hXl:Hid ((av RR X).length<1000000):=by have:=ti HCB.out hbound;unfold Hid;omega
    clear hown3 hbb3 hba1 hsa hd hdr hsb hrow hbw hb3 hc1 hL hlen;go_wp2_with fail
    refine (i_ pr L.length cr L w3 hoi.out).mono ?_;rintro e w4 ⟨rfl,rfl⟩;have HD3:=GF (n8 hoi.out hLd.out);rw[hLv.out] at HD3;generalize (lean L).length=nl at *
    clear hoi hLd hLv;go_wp2_with fail
    refine (fj _ _ (av RR X) b w3 HD3.out (HB.out.below hbw3) (aW _) HCB.out).mono ?_;rintro e w5 ⟨rfl,n5,rfl⟩;rw[aF aQ];have hb5:=below_drewN hbw3 n5;have hrow5:Hid (ff (w3.drewN n5) w.heap.size a.length qs):=hrow3.out.drewN n5;have HD5:Hid (IsD (w3.drewN n5) (.slice pr nl cr) X):=HD3.out.below (below_drewN (Ki _ _) n5);clear hrow3 HD3 hbw3;generalize w3.drewN n5=w5 at *
    by_cases hlt:X<val RR b
    ·have hst2:Hid (li a b (k-1) qs X):=by
      have:=DS hst.out (by omega) hk (by rw[<-HDE.out,<-HX.out];exact hlt);rw[<-HDE.out,<-HX.out] at this;exact this
     rw[rC hlt];clear hlt hst;go_wp2_with fail
     go_roundw;case rel=>exact⟨k-1,qs,X,by omega,by go_num,hst2,hrow5,HD5,hsb3,hb5⟩
     case measure=>simp[intOf];omega
    ·have hcg:=(vo (show val RR b<=X by omega)).1;obtain⟨cw,hcw⟩:∃ cw,cw=dw X (val RR b):=⟨_,rfl⟩;rw[<-hcw] at hcg |-;clear hcw;go_wp2_with fail
     refine (y8 _ _ (av RR X) b w5 HD5.out (HB.out.below hb5) (aW _) HCB.out h1 (by rw[aF aQ];exact hbound) (by omega)).mono ?_;rintro e w6 ⟨rfl,hb6⟩;rw[aF aQ];obtain⟨n,hn⟩:∃ n,n=X / val RR b:=⟨_,rfl⟩;have hdh:=A8 HCA.out.1 hst.out (by omega) hk (n:=n) (by rw[hn,HX.out,HDE.out]);rw[<-HDE.out,<-HX.out] at hdh;rw[<-hn];have hnR:=hdh.1;have hst2:=GF hdh.2;have hle:Hid (val RR b*n<=X/\X-val RR b*n=X % val RR b):=⟨by rw[hn];exact Nat.mul_div_le _ _,by rw[hn];have:=H7 X (val RR b);omega⟩;rw[ij] at hnR;have hbw6:=hb5.trans (hb6.mono hb5.size);have hrow6:=hrow5.out.below hb6;have HD6:=HD5.out.below hb6;have hqk:k-1<qs.length:=by rw[hst.out.len];omega
     have ho:=hrow6.cell hqk;have hf:=hrow6.free (k-1);have hrow7:Hid (ff (w6.setCell ⟨w.heap.size,k-1,none⟩ (.int .i64 n)) w.heap.size a.length (qs.set (k-1) n)):=hrow6.set _ _ _ rfl;have HD7:Hid (IsD (w6.setCell ⟨w.heap.size,k-1,none⟩ (.int .i64 n)) (.slice pr nl cr) X):=IsI.store HD6 hsb3.out;have hb7:=hbw6.setCell (p:=⟨w.heap.size,k-1,none⟩) (GM _) (.int .i64 n);clear hn hdh hrow5 hrow6 HD5 HD6 hb5 hb6 hbw6 hst hbound hqk;go_wp2_with fail
     generalize w6.setCell ⟨w.heap.size,k-1,none⟩ (.int .i64 n)=w7 at *
     refine (qW _ b n w7 (HB.out.below hb7) HCB.out (by omega) (by omega)).mono ?_;rintro e w8 ⟨v8,rfl,hd8,hb8⟩;have HD8:=HD7.out.below hb8;have hb9:=hb7.trans (hb8.mono hb7.size);have hrow8:=GF (hrow7.out.below hb8);clear hb7 hb8 hrow7 HD7;go_wp2_with fail
     refine (oA _ _ (av RR X) (av RR (val RR b*n)) w8 HD8 hd8 (aW _).1 (aW _).1 (ow hle.out.1) (by rw[aF aQ,aF aQ];exact hle.out.1) hXl.out).mono ?_;rintro e w9 ⟨v9,rfl,hd9,hsl9,hb9'⟩;rw[aF aQ,aF aQ,hle.out.2] at hd9;have hrow9:=GF (hrow8.out.below hb9');have hsz8:=hb9.size;have hsb9:=GF (hsl9.base (show w.heap.size+1<=w8.heap.size from hrow8.out.lt));have HD9:=GF hd9;have hb10:=hb9.trans (hb9'.mono hb9.size);clear hd9 hsl9 hb9 hb9' HD8 hd8 hrow8;go_wp2_with fail
     go_roundw;case rel=>exact⟨k-1,_,_,by omega,by go_num,hst2,hrow9,HD9,hsb9,hb10⟩
     case measure=>simp[intOf];omega
theorem rG (va vb:Value) (a b:List Nat) (w:World) (ha:IsI w va a) (hb:IsI w vb b) (hca:CR a) (hcb:CR b) (hlt:val RR a<val RR b) :
  Calls Tryz.prog 192 #[va,vb] w fun e w'=>∃ v1 v2,e=.returned (.tuple #[v1,v2])/\IsD w' v1 (val RR a / val RR b)/\IsD w' v2 (val RR a % val RR b)/\Below w.heap.size w w':=by
 have h0:val RR a / val RR b=0:=Iv hlt;have h1:val RR a % val RR b=val RR a:=IT hlt;rw[h0,h1];have hc:=rC hlt;have HA:=GF ha;have HCA:=GF hca;clear h0 h1 hlt;go_enter Tryz.func192,Tryz.ntmps192;go_wp2_with fail
 refine (fj _ _ a b w ha hb hca hcb).mono ?_;rintro e w1 ⟨rfl,n1,rfl⟩;rw[hc];have hb1:=below_drewN (Ki w.heap.size w) n1;have HD:Hid (IsD (w.drewN n1) va (val RR a)):=Ft (HA.out.below hb1) HCA.out;clear ha hb hca hcb hc;generalize w.drewN n1=w1 at *
 go_wp2_with fail
 go_ret2
 exact⟨_,_,rfl,BC _,HD.out,hb1⟩
theorem eV (va vb:Value) (m n:Nat) (w:World) (ha:IsD w va m) (hb:IsD w vb n) (hn:0<n) (hfm:bC m) (hfn:bC n) :
  Calls Tryz.prog 192 #[va,vb] w fun e w'=>∃ v1 v2,e=.returned (.tuple #[v1,v2])/\IsD w' v1 (m / n)/\IsD w' v2 (m % n)/\Below w.heap.size w w':=by
 have em:=aF aQ m;have en:=aF aQ n;rcases It m n with h | h
 ·have:=rG va vb (av RR m) (av RR n) w ha hb (aW _) (aW _) (by rw[em,en];exact h)
  rwa [em,en] at this
 ·have:=tj va vb (av RR m) (av RR n) w ha hb (aW _) (aW _) (by
   have:=jg (n:=n)
   omega) hfm hfn (by rw[em,en];exact h)
  rwa [em,en] at this
theorem IsI.apart {w w':World}{g:Nat}{cs:Array Value}{t:TypeId} (h:w.heap[g]?=some (.cells cs t (0,0))) (hn:∀ (j:Nat) (z:Int),cs[j]?≠some (Value.int .i64 z)) (hs:w.heap.size<=w'.heap.size) (ho:∀ b,b≠g->w'.heap[b]?=w.heap[b]?) {v:Value}{l:List Nat} (hv:IsI w v l):IsI w' v l:=by
 obtain⟨p,cap,e,h1,h2,h3⟩:=hv;refine⟨p,cap,e,h1,h2,fun hl=>?_⟩;obtain⟨b',o,e2,hlt,hc⟩:=h3 hl
 have hne:b'≠g:=by
  intro e3;subst e3;have h0:=hc 0 hl;rw[ai h] at h0;exact hn _ _ h0
 refine⟨b',o,e2,GN hlt hs,fun i hi=>?_⟩;rw[<-hc i hi];simp only[World.cell?];rw[ho b' hne]
def gD (w:World) (b:Nat) (u0 u1:Value):World:=(w.setCell ⟨b,0,none⟩ u0).setCell ⟨b,1,none⟩ u1
def d7 (w:World) (b:Nat) (u0 u1 u2 u3:Value):World:=(((w.setCell ⟨b,0,none⟩ u0).setCell ⟨b,1,none⟩ u1).setCell ⟨b,2,none⟩ u2).setCell ⟨b,3,none⟩ u3
def cS (w:World) (b:Nat) (u0 u1 u2 u3 u4 u5 u6 u7:Value):World :=
 (((((((w.setCell ⟨b,0,none⟩ u0).setCell ⟨b,1,none⟩ u1).setCell ⟨b,2,none⟩ u2).setCell ⟨b,3,none⟩ u3).setCell ⟨b,4,none⟩ u4).setCell ⟨b,5,none⟩ u5).setCell ⟨b,6,none⟩ u6).setCell ⟨b,7,none⟩ u7
structure kJ (w w':World) (b:Nat) (t:TypeId) (us:Array Value):Prop where
 row:w'.heap[b]?=some (.cells us t (0,0))
 other:∀ k,k≠b->w'.heap[k]?=w.heap[k]?
 size:w'.heap.size=w.heap.size
 below:∀ n,n<=b->Below n w w'
theorem cL {w:World}{b:Nat}{v0 v1 u0 u1:Value}{t:TypeId} (h:w.heap[b]?=some (.cells #[v0,v1] t (0,0))):kJ w (gD w b u0 u1) b t #[u0,u1]:=by
 have e0:=heap_setCell_same w b 0 _ _ u0 h;have e1:=heap_setCell_same _ b 1 _ _ u1 e0;exact⟨e1,fun k hk=>(heap_setCell_other _ _ _ _ hk).trans (heap_setCell_other _ _ _ _ hk),by simp[gD,World.setCell],fun n hn=>((Ki n w).setCell (p:=⟨b,0,none⟩) hn _).setCell (p:=⟨b,1,none⟩) hn _⟩
theorem bj {w:World}{b:Nat}{v0 v1 v2 v3 u0 u1 u2 u3:Value}{t:TypeId} (h:w.heap[b]?=some (.cells #[v0,v1,v2,v3] t (0,0))):kJ w (d7 w b u0 u1 u2 u3) b t #[u0,u1,u2,u3]:=by
 have e0:=heap_setCell_same w b 0 _ _ u0 h;have e1:=heap_setCell_same _ b 1 _ _ u1 e0;have e2:=heap_setCell_same _ b 2 _ _ u2 e1;have e3:=heap_setCell_same _ b 3 _ _ u3 e2
 exact⟨e3,fun k hk=>(heap_setCell_other _ _ _ _ hk).trans ((heap_setCell_other _ _ _ _ hk).trans ((heap_setCell_other _ _ _ _ hk).trans (heap_setCell_other _ _ _ _ hk))),by simp[d7,World.setCell],
  fun n hn=>((((Ki n w).setCell (p:=⟨b,0,none⟩) hn _).setCell (p:=⟨b,1,none⟩) hn _).setCell (p:=⟨b,2,none⟩) hn _).setCell (p:=⟨b,3,none⟩) hn _⟩
theorem bK {w:World}{b:Nat}{v0 v1 v2 v3 v4 v5 v6 v7 u0 u1 u2 u3 u4 u5 u6 u7:Value}{t:TypeId} (h:w.heap[b]?=some (.cells #[v0,v1,v2,v3,v4,v5,v6,v7] t (0,0))):kJ w (cS w b u0 u1 u2 u3 u4 u5 u6 u7) b t #[u0,u1,u2,u3,u4,u5,u6,u7]:=by
 have e0:(w.setCell ⟨b,0,none⟩ u0).heap[b]?=some (.cells #[u0,v1,v2,v3,v4,v5,v6,v7] t (0,0)):=heap_setCell_same _ b 0 _ _ u0 h;have e1:((w.setCell ⟨b,0,none⟩ u0).setCell ⟨b,1,none⟩ u1).heap[b]?=some (.cells #[u0,u1,v2,v3,v4,v5,v6,v7] t (0,0)):=heap_setCell_same _ b 1 _ _ u1 e0;have e2:(((w.setCell ⟨b,0,none⟩ u0).setCell ⟨b,1,none⟩ u1).setCell ⟨b,2,none⟩ u2).heap[b]?=some (.cells #[u0,u1,u2,v3,v4,v5,v6,v7] t (0,0)):=heap_setCell_same _ b 2 _ _ u2 e1;have e3:((((w.setCell ⟨b,0,none⟩ u0).setCell ⟨b,1,none⟩ u1).setCell ⟨b,2,none⟩ u2).setCell ⟨b,3,none⟩ u3).heap[b]?=some (.cells #[u0,u1,u2,u3,v4,v5,v6,v7] t (0,0)):=heap_setCell_same _ b 3 _ _ u3 e2;have e4:(((((w.setCell ⟨b,0,none⟩ u0).setCell ⟨b,1,none⟩ u1).setCell ⟨b,2,none⟩ u2).setCell ⟨b,3,none⟩ u3).setCell ⟨b,4,none⟩ u4).heap[b]?=some (.cells #[u0,u1,u2,u3,u4,v5,v6,v7] t (0,0)):=heap_setCell_same _ b 4 _ _ u4 e3;have e5:((((((w.setCell ⟨b,0,none⟩ u0).setCell ⟨b,1,none⟩ u1).setCell ⟨b,2,none⟩ u2).setCell ⟨b,3,none⟩ u3).setCell ⟨b,4,none⟩ u4).setCell ⟨b,5,none⟩ u5).heap[b]?=some (.cells #[u0,u1,u2,u3,u4,u5,v6,v7] t (0,0)):=heap_setCell_same _ b 5 _ _ u5 e4;have e6:(((((((w.setCell ⟨b,0,none⟩ u0).setCell ⟨b,1,none⟩ u1).setCell ⟨b,2,none⟩ u2).setCell ⟨b,3,none⟩ u3).setCell ⟨b,4,none⟩ u4).setCell ⟨b,5,none⟩ u5).setCell ⟨b,6,none⟩ u6).heap[b]?=some (.cells #[u0,u1,u2,u3,u4,u5,u6,v7] t (0,0)):=heap_setCell_same _ b 6 _ _ u6 e5;have e7:((((((((w.setCell ⟨b,0,none⟩ u0).setCell ⟨b,1,none⟩ u1).setCell ⟨b,2,none⟩ u2).setCell ⟨b,3,none⟩ u3).setCell ⟨b,4,none⟩ u4).setCell ⟨b,5,none⟩ u5).setCell ⟨b,6,none⟩ u6).setCell ⟨b,7,none⟩ u7).heap[b]?=some (.cells #[u0,u1,u2,u3,u4,u5,u6,u7] t (0,0)):=heap_setCell_same _ b 7 _ _ u7 e6
 refine⟨e7,fun k hk=>?_,by simp[cS,World.setCell],fun n hn=>?_⟩
 ·unfold cS;rw[heap_setCell_other _ _ _ _ hk,heap_setCell_other _ _ _ _ hk,heap_setCell_other _ _ _ _ hk,heap_setCell_other _ _ _ _ hk,heap_setCell_other _ _ _ _ hk,heap_setCell_other _ _ _ _ hk,heap_setCell_other _ _ _ _ hk,heap_setCell_other _ _ _ _ hk]
 ·exact ((((((((Ki n w).setCell (p:=⟨b,0,none⟩) hn _).setCell (p:=⟨b,1,none⟩) hn _).setCell (p:=⟨b,2,none⟩) hn _).setCell (p:=⟨b,3,none⟩) hn _).setCell (p:=⟨b,4,none⟩) hn _).setCell (p:=⟨b,5,none⟩) hn _).setCell (p:=⟨b,6,none⟩) hn _).setCell (p:=⟨b,7,none⟩) hn _
theorem kJ.isI {w w':World}{b:Nat}{t t0:TypeId}{us cs:Array Value} (h:kJ w w' b t us) (hr:w.heap[b]?=some (.cells cs t0 (0,0))) (hn:∀ (j:Nat) (z:Int),cs[j]?≠some (Value.int .i64 z)) {v:Value}{l:List Nat} (hv:IsI w v l):IsI w' v l :=
 IsI.apart hr hn (Ji h.size.symm) h.other hv
theorem IsZ.puts {w w':World}{b:Nat}{t t0:TypeId}{us cs:Array Value}{v:Value}{z:Int} (hv:IsZ w v z) (h:kJ w w' b t us) (hr:w.heap[b]?=some (.cells cs t0 (0,0))) (hn:∀ (j:Nat) (z:Int),cs[j]?≠some (Value.int .i64 z)):IsZ w' v z:=by
 obtain⟨vd,e,h1⟩:=hv;exact⟨vd,e,h.isI hr hn h1⟩
theorem dZ {m:Bool}{p:Option Addr}{n c:Nat}:∀ (j:Nat) (z:Int),(#[Value.bool m,.slice p n c]:Array Value)[j]?≠some (Value.int .i64 z):=by
 intro j z h;have:=Ib h;simp at this
theorem bU {m m':Bool}{p p':Option Addr}{n c n' c':Nat}:∀ (j:Nat) (z:Int),(#[Value.bool m,.slice p n c,.bool m',.slice p' n' c']:Array Value)[j]?≠some (Value.int .i64 z):=by
 intro j z h;have:=Ib h;simp at this
theorem bJ {m m' k k':Bool}{p p' q q':Option Addr}{n c n' c' r d r' d':Nat}:∀ (j:Nat) (z:Int),(#[Value.bool m,.slice p n c,.bool m',.slice p' n' c',.bool k,.slice q r d,.bool k',.slice q' r' d']:Array Value)[j]?≠some (Value.int .i64 z):=by
 intro j z h;have:=Ib h;simp at this
structure F_ (w w':World) (o0:Obj):Prop where
 s0:w'.heap[w.heap.size]?=some o0
 size:w'.heap.size=w.heap.size+1
 below:Below w.heap.size w w'
theorem bA (w:World) (o0:Obj):F_ w (w.alloc o0) o0:=⟨heap_alloc_new _ _,by simp,(Ki _ _).alloc (GM _) _⟩
structure Ga (w w':World) (o0 o1:Obj):Prop where
 s0:w'.heap[w.heap.size]?=some o0
 s1:w'.heap[w.heap.size+1]?=some o1
 size:w'.heap.size=w.heap.size+1+1
 below:Below w.heap.size w w'
theorem jH (w:World) (o0 o1:Obj):Ga w ((w.alloc o0).alloc o1) o0 o1:=by
 refine⟨(heap_alloc_old _ _ (by simp)).trans (heap_alloc_new _ _),?_,by simp,((Ki _ _).alloc (GM _) _).alloc (by simp) _⟩;have:=heap_alloc_new (w.alloc o0) o1;simpa using this
structure Gb (w w':World) (o0 o1 o2:Obj):Prop where
 s0:w'.heap[w.heap.size]?=some o0
 s1:w'.heap[w.heap.size+1]?=some o1
 s2:w'.heap[w.heap.size+1+1]?=some o2
 size:w'.heap.size=w.heap.size+1+1+1
 below:Below w.heap.size w w'
theorem j1 (w:World) (o0 o1 o2:Obj):Gb w (((w.alloc o0).alloc o1).alloc o2) o0 o1 o2:=by
 have h:=jH w o0 o1;refine⟨(heap_alloc_old _ _ (by simp;omega)).trans h.s0,(heap_alloc_old _ _ (by simp)).trans h.s1,?_,by simp,h.below.alloc (by simp;omega) _⟩;have:=heap_alloc_new ((w.alloc o0).alloc o1) o2;simpa using this
theorem IsZ.parts {w:World}{v:Value}{z:Int} (h:IsZ w v z):∃ p N c,v=.agg #[.bool (decide (z<0)),.slice p N c]/\Hid (N=(av RR z.natAbs).length)/\N<=c/\c<=maxLen/\IsD w (.slice p N c) z.natAbs:=by
 obtain⟨vd,rfl,hd⟩:=h;have hd':=hd;obtain⟨p,c,rfl,h1,h2,h3⟩:=hd;exact⟨p,_,c,rfl,rfl,h1,h2,hd'⟩
theorem CO (z:Int):sgn (!decide (z<0)) z.natAbs=-z:=by
 unfold sgn;by_cases h:z<0
 ·simp[h];omega
 ·simp[h];omega
theorem ji (v:Value) (z:Int) (w:World) (hv:IsZ w v z) :
  Calls Tryz.prog 158 #[v] w fun e w'=>∃ v',e=.returned v'/\IsZ w' v' (-z)/\Below w.heap.size w w':=by
 obtain⟨p,N,c,rfl,hN,hNc,hcm,hd⟩:=hv.parts;have hl:=jH w (.cells #[.bool (decide (z<0)),.slice p N c] 85) (.cells #[.bool false,.slice none 0 0] 85);have HS:=GF (CO z);generalize decide (z<0)=m at *
 have x0:=ai hl.s0 0;have x1:=ai hl.s0 1;have HD:=GF (hd.below hl.below);clear hv hd;go_enter Tryz.func158,Tryz.ntmps158;go_upto_region 1 with fail
 generalize (w.alloc (.cells #[.bool m,.slice p N c] 85)).alloc (.cells #[.bool false,.slice none 0 0] 85)=w1 at *
 go_wp2_with fail
 refine (dO _ _ (av RR z.natAbs) w1 HD.out (aW _).1).mono ?_;rintro e w2 ⟨v',rfl,hz,hb2⟩;rw[aF aQ] at hz;obtain⟨p2,N2,c2,rfl,hN2,_,hcm2,hd2⟩:=hz.parts;have HZ:=GF hz;have r1:=(hb2.block _ (ak hl.s1)).trans hl.s1;have q0:=ai r1 0;have q1:=ai r1 1;have f0:=Kg w2 (w.heap.size+1) 0 _ _ r1;have f1:=Kg w2 (w.heap.size+1) 1 _ _ r1;have hb3:=hl.below.trans (hb2.mono hl.below.size);clear hz hd2 hb2 x0 x1;generalize decide (sgn (!m) z.natAbs<0)=m2 at *
 go_wp2_with fail
 (try simp only[Exit.inBlock,Exit.then])
 have hP:=cL (u0:=.bool m2) (u1:=.slice p2 N2 c2) r1;change bodyPost _ _ _ _ _ (gD w2 (w.heap.size+1) (.bool m2) (.slice p2 N2 c2));refine Kh (results_cell_row rfl _ _ (w.heap.size+1) _ _ (0,0) _ rfl hP.row Tryz.underlying85 rfl (by kernel_rfl)) rfl ?_;rw[HS.out] at HZ;exact⟨_,rfl,HZ.out.puts hP r1 dZ,hb3.trans ((hP.below _ (by omega)))⟩
theorem rM {w:World}{p:Option Addr}{N c n:Nat} (h:IsD w (.slice p N c) n):N=(av RR n).length:=by
 obtain⟨p',c',e,_⟩:=h;simp at e;exact e.2.1
theorem fp {w:World}{p:Option Addr}{N c n:Nat} (h:IsD w (.slice p N c) n):(N=0↔n=0):=by rw[rM h];exact jg
theorem IsD.parts {w:World}{v:Value}{n:Nat} (h:IsD w v n):∃ p N c,v=.slice p N c/\Hid (N=(av RR n).length)/\N<=c/\c<=maxLen:=by
 obtain⟨p,c,e,h1,h2,_⟩:=h;exact⟨p,_,c,e,rfl,h1,h2⟩
theorem pF (va vb:Value) (x y:Int) (w:World) (ha:IsZ w va x) (hb:IsZ w vb y) (hfa:bC x.natAbs) (hfb:bC y.natAbs) :
  Calls Tryz.prog 191 #[va,vb] w fun e w'=>∃ v,e=.returned v/\IsZ w' v (Nat.gcd x.natAbs y.natAbs:Nat)/\Below w.heap.size w w':=by
 obtain⟨p,N,c,rfl,hN,hNc,hcm,hd⟩:=ha.parts;obtain⟨p',N',c',rfl,hN',hNc',hcm',hd'⟩:=hb.parts;have hl:=j1 w (.cells #[.bool (decide (x<0)),.slice p N c] 85) (.cells #[.bool (decide (y<0)),.slice p' N' c'] 85) (.cells #[.bool false,.slice none 0 0] 85);generalize decide (x<0)=m at *
 generalize decide (y<0)=m' at *
 have x1:=ai hl.s0 1;have y1:=ai hl.s1 1;have HD:=GF (hd.below hl.below);have HD':=GF (hd'.below hl.below);clear ha hb hd hd';go_enter Tryz.func191,Tryz.ntmps191;go_upto_region 1 with fail
 generalize ((w.alloc (.cells #[.bool m,.slice p N c] 85)).alloc (.cells #[.bool m',.slice p' N' c'] 85)).alloc (.cells #[.bool false,.slice none 0 0] 85)=w1 at *
 go_quiet (fail)
 go_wp2_with fail
 go_loopg [5,6] y.natAbs (fun g s5 s6 wr=>∃ n:Nat,Hid (IsD wr s5 n)/\Hid (IsD wr s6 g)/\Hid (bC n)/\Hid (bC g)/\Hid (Nat.gcd g n=Nat.gcd x.natAbs y.natAbs)/\Below w1.heap.size w1 wr)
 case atStart=>exact⟨x.natAbs,HD.out.below (below_drewN (Ki _ _) _),HD'.out.below (below_drewN (Ki _ _) _),hfa,hfb,Nat.gcd_comm _ _,below_drewN (Ki _ _) _⟩
 case round =>
  obtain⟨n,hx,hy,hfx,hfy,hg,hbl⟩:=hrel;clear x1 y1;have hy':=hy.out;obtain⟨py,Ny,cy,rfl,hNy,_,_⟩:=IsD.parts hy';by_cases h0:gk=0
  ·subst h0;obtain rfl:Ny=0:=(fp hy').2 rfl;obtain⟨px,Nx,cx,rfl,hNx,_,_⟩:=IsD.parts hx.out;have r2:=(hbl.block _ (ak hl.s2)).trans hl.s2;have q0:=ai r2 0;have q1:=ai r2 1;have f0:=Kg wr (w.heap.size+1+1) 0 _ _ r2;have f1:=Kg wr (w.heap.size+1+1) 1 _ _ r2;have hP:=cL (u0:=.bool false) (u1:=.slice px Nx cx) r2
   have hZ:Hid (IsZ (gD wr (w.heap.size+1+1) (.bool false) (.slice px Nx cx)) (.agg #[.bool false,.slice px Nx cx]) (Nat.gcd x.natAbs y.natAbs:Nat)):=by
    have hgc:=hg.out;rw[I1] at hgc;refine⟨_,by rw[show decide (((Nat.gcd x.natAbs y.natAbs:Nat):Int)<0)=false by simp],?_⟩;rw[Hs,<-hgc];exact hP.isI r2 dZ hx.out
   have hB:=(hl.below.trans (hbl.mono hl.below.size)).trans (hP.below w.heap.size (by omega));clear hy hy';go_wp2_with fail
   (try simp only[Exit.inBlock,Exit.then])
   change bodyPost _ _ _ _ _ (gD wr (w.heap.size+1+1) (.bool false) (.slice px Nx cx));refine Kh (results_cell_row rfl _ _ (w.heap.size+1+1) _ _ (0,0) _ rfl hP.row Tryz.underlying85 rfl (by kernel_rfl)) rfl ?_;exact⟨_,rfl,hZ.out,hB⟩
  ·have hpos:0<Ny:=by
    have:=fp hy';omega
   have hmod:n % gk<gk:=Il _ (IC h0);have HY:=GF hy';clear hy';go_wp2_with (go_at_call 192;refine (eV _ _ n gk _ hx.out HY.out (by omega) hfx.out hfy.out).mono ?_;rintro e w2 ⟨vq,vr,rfl,hq,hr,hb2⟩)
   go_roundg (n % gk)
   case rel =>
    exact⟨gk,HY.out.below hb2,hr,hfy,bC.mono hfy.out (Ha hmod),by unfold Hid;have:=hg.out;rw[Nat.gcd_rec] at this;exact this,hbl.trans (hb2.mono hbl.size)⟩
   case measure=>exact hmod
end Go.Proofs.YtmakbmhlemhgeaaGreatDoor
