/- L -/
import Derived.Sort.CutIn
import Derived.Test.YtlhpcoelfhjomaaGreatDoorQLP3
import Derived.Test.YtlhpcoelfhjomaaGreatDoorQLP10
import Derived.Test.YtlhpcoelfhjomaaGreatDoorQLH1
import Derived.Test.YtlhpcoelfhjomaaGreatDoorQRS6
set_option linter.all false
set_option maxRecDepth 100000
set_option maxHeartbeats 8000000
namespace Go.Proofs.YtlhpcoelfhjomaaGreatDoor
open Go.RowKit Dg Dc
theorem In (n:Nat) (h:n≠0):(2:Nat) ^ (33*n)<10 ^ (10*n):=by
 rw[JP,JP];exact Nat.pow_lt_pow_left (by decide) h
theorem Ie {x k n t:Nat} (h:x<=2 ^ k) (hk:k<=33*n) (ht:10*n=t) (hn:n≠0):x<10 ^ t:=by
 subst ht;exact Jb (IB h (fq hk)) (In n hn)
theorem bQ {x k:Nat} (h:x<=2 ^ k) (hk:k<=6600):x<10 ^ 2000:=Ie (n:=200) (t:=2000) h (by omega) rfl (by decide)
def ew (p:List Rat) (j:Nat) (k:Rat):List Rat:=(List.range j).map fun i=>(p.getD i 0-k*p.getD (j-i) 0) / (1-k*k)
def bg:Nat->List Rat->Option (List Rat)
 | 0,_=>some []
 | j+1,p=>if -1<p.getD (j+1) 0/\p.getD (j+1) 0<1 then (bg j (ew p (j+1) (p.getD (j+1) 0))).map fun l=>l++[p.getD (j+1) 0] else none
theorem fT (p:List Rat) (j:Nat) (k:Rat):(ew p j k).length=j:=by simp[ew]
theorem k8 (p:List Rat) (j:Nat) (k:Rat) (i:Nat) (h:i<j):(ew p j k).getD i 0=(p.getD i 0-k*p.getD (j-i) 0) / (1-k*k):=by
 unfold ew;rw[IK,J6,List.getElem?_range h];rfl
structure rE (e:Nat) (p:List Rat):Prop where
 one:p.getD 0 0=1
 ov:∃ D,0<D/\D<=2 ^ e/\∀ q∈p,Ov D (2 ^ e) q
theorem nJ {k:Rat} (h1:-1<k) (h2:k<1):0<1-k*k:=by
 have e:1-k*k=(1-k)*(1+k):=by grind
 rw[e];exact Rat.mul_pos (by grind) (by grind)
theorem fz {D:Nat} (h:0<D):(0:Rat)<(D:Rat):=by
 have:=Rat.intCast_lt_intCast.2 (show (0:Int)<(D:Int) by omega);exact this
theorem CO {D M:Nat}{k:Rat} (hD:0<D) (hk:Ov D M k) (h1:-1<k) (h2:k<1):∃ F:Nat,0<F/\F<=D*D/\1-k*k=(F:Rat) / ((D:Rat)*(D:Rat)):=by
 obtain⟨K,e,-⟩:=hk;have hDc:=aO hD;have hDp:=fz hD;obtain⟨X,hX⟩:∃ X:Int,X=(D:Int)*D-K*K:=⟨_,rfl⟩
 have hXQ:(X:Rat)=(D:Rat)*(D:Rat)-(K:Rat)*(K:Rat):=by
  have:=congrArg (fun x:Int=>(x:Rat)) hX;simp only[Rat.intCast_sub,Rat.intCast_mul] at this;exact this
 have e1:1-k*k=(X:Rat) / ((D:Rat)*(D:Rat)):=by
  rw[hXQ,e];grind
 have hp:=nJ h1 h2
 have e2:(X:Rat)=(1-k*k)*((D:Rat)*(D:Rat)):=by
  rw[e1];grind
 have hX0:(0:Rat)<(X:Rat):=by
  rw[e2];exact Rat.mul_pos hp (Rat.mul_pos hDp hDp)
 have hX1:0<X:=Rat.intCast_lt_intCast.1 hX0
 have hKK:0<=K*K:=by
  rw[<-Lh];exact Int.natCast_nonneg _
 obtain⟨F,hF⟩:∃ F:Nat,X=(F:Int):=⟨X.toNat,by omega⟩;refine⟨F,by omega,?_,?_⟩
 ·have:(F:Int)<=((D*D:Nat):Int):=by rw[Kd];omega
  omega
 ·rw[e1,hF];rfl
theorem D_ {D F M:Nat}{x y:Rat} (hD:0<D) (hF:0<F) (hx:Ov (D*D) M x) (hy:y=(F:Rat) / ((D:Rat)*(D:Rat))):Ov F M (x / y):=by
 obtain⟨n,e,hn⟩:=hx;have h1:=aO hD;have h2:=aO hF;refine⟨n,?_,hn⟩;rw[e,hy,Rat.natCast_mul]
 show (n:Rat) / ((D:Rat)*(D:Rat)) / ((F:Rat) / ((D:Rat)*(D:Rat)))=(n:Rat) / (F:Rat)
 grind
theorem x8 {e:Nat}:2 ^ e*2 ^ e+2 ^ e*2 ^ e<=2 ^ (2*e+1):=by
 rw[<-JX,IN,Nat.mul_two,show e+e=2*e from by omega];exact Iw _
theorem xf {e:Nat}:2 ^ e*2 ^ e<=2 ^ (2*e+1):=IB (Nat.le_add_right _ _) x8
theorem tY {p:List Rat}{e j:Nat} (hp:rE e p) (hl:p.length=j+2) (he:2*e+1<=6600) (h1:-1<p.getD (j+1) 0) (h2:p.getD (j+1) 0<1) :
  mD (p.map tq) (j+1) (tq (p.getD (j+1) 0))=(ew p (j+1) (p.getD (j+1) 0)).map tq/\rE (2*e+1) (ew p (j+1) (p.getD (j+1) 0)):=by
 obtain⟨one,D,hD,hDl,ov⟩:=hp;have hg:∀ i,i<j+2->Ov D (2 ^ e) (p.getD i 0):=fun i hi=>ov _ (eE (by omega));have hk:=hg (j+1) (by omega);obtain⟨k,hke⟩:∃ k,k=p.getD (j+1) 0:=⟨_,rfl⟩;rw[<-hke] at h1 h2 hk |-;obtain⟨F,hF,hFl,hFe⟩:=CO hD hk h1 h2;have hDD:D*D<=2 ^ (2*e+1):=IB (Je hDl hDl) xf;have hDp:=IH hD hD;have big:=fun (n:Nat) (h:n<=2 ^ (2*e+1))=>bQ h he;have small:2 ^ e<=2 ^ (2*e+1):=fq (by omega);have ok1:∀ i,i<j+2->okQ (p.getD i 0):=fun i hi=>(hg i hi).ok hD (big _ (IB hDl small)) (big _ small);have okk:okQ k:=by rw[hke];exact ok1 _ (by omega)
 have m1:∀ i,i<j+2->Ov (D*D) (2 ^ e*2 ^ e) (k*p.getD i 0):=fun i hi=>hk.mul (hg i hi) hD hD
 have s1:∀ i,i<j+2->∀ l,l<j+2->Ov (D*D) (2 ^ (2*e+1)) (p.getD i 0-k*p.getD l 0):=fun i hi l hl' =>
  (((hg i hi).wide D hD hD).sub (m1 l hl')).mono (IB (Nat.add_le_add_right (IV _ hDl) _) x8)
 have kk:Ov (D*D) (2 ^ e*2 ^ e) (k*k):=hk.mul hk hD hD
 have one1:Ov (D*D) (D*D) 1:=⟨((D*D:Nat):Int),by
  have:=aO hDp
  show (1:Rat)=((D*D:Nat):Rat) / ((D*D:Nat):Rat)
  grind,Kx (I0 _)⟩
 have s2:Ov (D*D) (2 ^ (2*e+1)) (1-k*k):=(one1.sub kk).mono (IB (Nat.add_le_add_right (Je hDl hDl) _) x8);have hne:1-k*k≠0:=by have:=nJ h1 h2;grind
 have q1:∀ i,i<j+2->∀ l,l<j+2->Ov F (2 ^ (2*e+1)) ((p.getD i 0-k*p.getD l 0) / (1-k*k)):=fun i hi l hl'=>D_ hD hF (s1 i hi l hl') hFe;have hFb:F<=2 ^ (2*e+1):=IB hFl hDD;have b0:=big _ (Iw _);have bD:=big _ hDD;have bF:=big _ hFb;refine⟨?_,?_,F,hF,hFb,?_⟩
 ·unfold mD ew;rw[List.map_map];refine Lo fun i hi=>?_;have hi:=JG.1 hi
  show dw (iY (aD (p.map tq) i) (d_ (tq k) (aD (p.map tq) (j+1-i)))) (iY ⟨#[49]⟩ (d_ (tq k) (tq k)))=tq _
  rw[ld (by omega),ld (by omega),<-kH]
  rw[iR okk (ok1 _ (by omega)) ((m1 _ (by omega)).ok hDp bD (big _ xf)),iR okk okk (kk.ok hDp bD (big _ xf)),
   uA (ok1 _ (by omega)) ((m1 _ (by omega)).ok hDp bD (big _ xf)) ((s1 i (by omega) (j+1-i) (by omega)).ok hDp bD b0),
   uA fe (kk.ok hDp bD (big _ xf)) (s2.ok hDp bD b0),
   jB ((s1 i (by omega) (j+1-i) (by omega)).ok hDp bD b0) (s2.ok hDp bD b0) hne ((q1 i (by omega) (j+1-i) (by omega)).ok hF bF b0)]
 ·rw[k8 _ _ _ _ (by omega),JY,<-hke,one];grind
 ·intro q hq;unfold ew at hq;obtain⟨i,hi,rfl⟩:=Kv.1 hq;have hi:=JG.1 hi;exact q1 i (by omega) _ (by omega)
theorem qX {e:Nat}{p:List Rat} (hp:rE e p) (he:e<=6600):∀ q∈p,okQ q:=by
 obtain⟨-,D,hD,hDl,ov⟩:=hp;exact fun q hq=>(ov q hq).ok hD (bQ hDl he) (bQ (Iw _) he)
theorem yF (j:Nat):1<=2 ^ j:=I9 (by decide)
theorem GS {e j:Nat} (h:(e+1)*2 ^ (j+1)<=6600):2*e+1<=6600/\(2*e+1+1)*2 ^ j<=6600:=by
 have h1:(2*e+1+1)*2 ^ j=(e+1)*2 ^ (j+1):=by
  rw[IN,show 2*e+1+1=(e+1)*2 from by omega,Jz,IM 2]
 have h2:=IV (2*e+1+1) (yF j);omega
theorem sL:∀ (j:Nat) (p:List Rat) (e:Nat) (pf:List ByteArray),p.length=j+1->rE e p->(e+1)*2 ^ j<=6600->j<=pf.length->iC j (p.map tq) pf=(bg j p).map fun l=>l.map tq++pf.drop j
 | 0,_,_,_,_,_,_,_=>rfl
 | j+1,p,e,pf,hl,hp,he,hpf=>by
  obtain⟨g1,g2⟩:=GS he;have okk:okQ (p.getD (j+1) 0):=qX hp (by omega) _ (eE (by omega));rw[iC,bg,ld (by omega),lO okk];by_cases h:-1<p.getD (j+1) 0/\p.getD (j+1) 0<1
  ·obtain⟨n1,n2⟩:=tY hp hl g1 h.1 h.2;rw[if_pos h,if_pos (by rw[decide_eq_true h.1,decide_eq_true h.2];rfl),n1,sL j _ (2*e+1) _ (fT ..) n2 g2 (by rw[JK];omega)];rw[Option.map_map];congr 1;funext l
   have hd:(pf.set j (tq (p.getD (j+1) 0))).drop j=tq (p.getD (j+1) 0) :: pf.drop (j+1):=by
    rw[Jr (by rw[JK];omega),Ku,List.drop_set_of_lt (by omega)]
   show l.map tq++(pf.set j _).drop j=(l++[p.getD (j+1) 0]).map tq++pf.drop (j+1)
   rw[hd,LF,I_];rfl
  ·rw[if_neg h,if_neg (by simp only[IR,decide_eq_true_eq];exact h)];rfl
theorem wZ {b:List ByteArray}{qb:List Rat} (h:eR b qb) (h1:qb.getD 0 0=1):rE 96 qb:=by
 obtain⟨D,hD,hDl,ov⟩:=h.ov;exact⟨h1,D,hD,IB hDl (fq (by decide)),ov⟩
theorem sZ {j:Nat} (h:j<=6):(96+1)*2 ^ j<=6600:=by
 have:2 ^ j<=2 ^ 6:=fq h;omega
theorem qI {b:List ByteArray}{qb:List Rat} (h:eR b qb) (h1:qb.getD 0 0=1) (hl:0<qb.length):bA b=(bg (qb.length-1) qb).map fun l=>l.map tq:=by
 obtain⟨n,hn⟩:∃ n,qb.length=n+1:=⟨qb.length-1,by omega⟩;have h7:=h.len;unfold bA;rw[h.e,IX,hn,JC,sL n qb 96 _ hn (wZ h h1) (sZ (by omega)) (by simp)];congr 1;funext l;rw[List.drop_of_length_le (by simp),Ju]
open Go.RowKit Go.Shelf Dg
def jo (k:ByteArray) (p:List ByteArray):List ByteArray:=(List.range (p.length+1)).map fun i=>iH (aD (p++[⟨#[48]⟩]) i) (d_ k (aD (p++[⟨#[48]⟩]) (p.length-i)))
theorem nK (k:ByteArray) (p:List ByteArray):(jo k p).length=p.length+1:=by simp[jo]
theorem BW (k:ByteArray) (p:List ByteArray) {i:Nat} (h:i<(jo k p).length):(jo k p)[i]=iH (aD (p++[⟨#[48]⟩]) i) (d_ k (aD (p++[⟨#[48]⟩]) (p.length-i))):=by simp[jo]
def gh:List ByteArray->List ByteArray->List (List ByteArray)
 | [],_=>[]
 | k :: ks,p=>if iT k.data.toList=true/\fD k=true then jo k p :: gh ks (jo k p) else []
def bP (l:List ByteArray):List (List ByteArray):=gh l [⟨#[49]⟩]
def Cc (l:List ByteArray) (i:Nat) (W:World) (vs:Array Value):Prop:=∃ v p,vs=#[v]/\(bP l)[i]?=some p/\IsS W v p
attribute [local go_sem] Oper.semAt_some
theorem tE (n:Nat) (hn:3<=n) (g:Nat) (v:Value) (l:List ByteArray) (w:World) (Sb:Nat->Prop) (hbox:w.heap[g]?=some (.cells #[v] 22 (0,0))) (hl:IsS w v l) (hlen:l.length<1000) (hsb:¬ Sb g) :
  xC Fence.wide n Tryz.prog 121 #[] #[.pointer (some ⟨g,0,none⟩)] (Cc l) (bP l).length Sb (fun _=>False) (fun W=>uO Sb EW W/\Gw W) w:=by
 intro y J W hW hJ hOk hY h0;have hgl:g<w.heap.size:=(ID.1 hbox).1;have hb0:=(hW.block g hgl).trans hbox;have hlW:=hl.below hW;have HY:=Ip hY;have HJ:=Ip hJ;have HOK:=Ip hOk;obtain⟨p,c,rfl,-⟩:=id hlW.form;have HL:=Ip hlW;have hgW:=(ID.1 hb0).1;have m1:=aj W (.cells #[.string ⟨#[49]⟩] 25);have c0:=ag m1 hgW (eo hb0).1;have hp0:=oT W ⟨#[49]⟩;have hl0:=hlW.below m1;have hj0:=hJ _ _ _ h0 (cR.of_below m1);clear hW hY hJ hOk hbox hl hlW hb0 m1 h0 HL;refine callsIn_of_wp Tryz.func121 rfl trivial ?_ rfl;simp only[Tryz.ntmps121,KY,IT,Jn,Nat.reduceAdd,Nat.reduceSub,Ky,Kz,KX,KI,I8,Jf]
 gi_wp2_with fail
 generalize W.alloc (.cells #[.string ⟨#[49]⟩] 25)=W0 at *
 gi_loopw [3,12] (fun s3 s12 wr=>∃ (i:Nat) (ps:List ByteArray),s12=.int .i64 i/\i<=l.length/\i<=(bP l).length/\IsS wr s3 ps/\ps.length=i+1/\IsS wr (.slice p l.length c) l/\J i wr/\Hid (gh (l.drop i) ps=(bP l).drop i)) (fun _ s12 _=>l.length-(intOf s12).toNat)
 case atStart=>exact⟨0,_,rfl,by omega,by omega,hp0,rfl,hl0,hj0,rfl⟩
 case round =>
  clear hp0 hl0 hj0 c0;obtain⟨i,ps,rfl,hil,hib,hp,hpl,hl,hJi,hbd⟩:=hrel;by_cases hi:i<l.length
  ·obtain⟨b,o,rfl,hlt,hc⟩:=hl.get hi;obtain⟨pp,cp,rfl,-⟩:=id hp.form;have HBD:=Ip (show (if iT l[i].data.toList=true/\fD l[i]=true then jo l[i] ps :: gh (l.drop (i+1)) (jo l[i] ps) else [])=(bP l).drop i by rw[<-hbd.out,Jr hi];rfl);generalize l[i]=k at hc HBD;have hG:=(HOK.out _ _ hJi).2;have HIR:=Ip (zQ k wr hG);have HP:=Ip hp;have HL:=Ip hl;have HJi:=Ip hJi;rw[hpl] at HP |-;clear hbd hp hl hJi hG
   gi_wp2_with fail
   refine⟨trivial,fun _=>by omega,(callsIn_wide.2 HIR.out).mono ?_⟩;rintro e w2 ⟨br,rfl,hbr,hb2⟩;have HJi:=Ip (HJ.out _ _ _ HJi.out (cR.of_below hb2));have HP:=Ip (HP.out.below hb2);have HL:=Ip (HL.out.below hb2);clear HIR hc hb2
   cases br with
   | false =>
    have hlen:(bP l).length=i:=by
     have h:=HBD.out;rw[if_neg (fun h=>by rw[hbr.out] at h;cases h.1)] at h;have:=congrArg List.length h;simp at this;omega
    gi_wp2
    refine⟨trivial,?_⟩
    gi_wp2
    refine LM (v:=.tuple #[]) (by simp[results,Tryz.results121,go_sem]) rfl ⟨⟨_,rfl⟩,by rw[hlen];exact HJi.out⟩
   | true =>
    have HIN:=Ip (zO k w2 (HOK.out _ _ HJi.out).2);obtain⟨bi,hbi⟩:∃ b,b=fD k:=⟨_,rfl⟩;rw[<-hbi] at HIN
    gi_wp2_with fail
    refine⟨trivial,fun _=>by omega,(callsIn_wide.2 HIN.out).mono ?_⟩;rintro e w3 ⟨rfl,hb3⟩;have HJi:=Ip (HJ.out _ _ _ HJi.out (cR.of_below hb3));have HP:=Ip (HP.out.below hb3);have HL:=Ip (HL.out.below hb3);clear HIN hb3
    cases bi with
    | false =>
     have hlen:(bP l).length=i:=by
      have h:=HBD.out;rw[if_neg (fun h=>by rw[<-hbi] at h;cases h.2)] at h;have:=congrArg List.length h;simp at this;omega
     gi_wp2
     refine LM (v:=.tuple #[]) (by simp[results,Tryz.results121,go_sem]) rfl ⟨⟨_,rfl⟩,by rw[hlen];exact HJi.out⟩
    | true =>
     have HBD:=Ip (show jo k ps :: gh (l.drop (i+1)) (jo k ps)=(bP l).drop i by
      have h:=HBD.out
      rwa [if_pos ⟨hbr.out,hbi.symm⟩] at h)
     clear hbr hbi
     gi_upto_region 5 with fail
     rw[wpIn_wide];go_wp2_with fail
     refine (xK _ ps w3 HP.out (by omega) (by omega)).mono ?_;rintro e w4 ⟨v4,rfl,hv4,hb4⟩;have hm5:=aj w4 (.cells #[.string ⟨#[48]⟩] 25);have hv5:=hv4.below hm5;have hx5:=oT w4 ⟨#[48]⟩;have hB5:=LK hb4 hm5;have hpb:ps.length+[(⟨#[48]⟩:ByteArray)].length<1000000000:=by rw[hpl];simp;omega
     have hlt3:w3.heap.size<=(w4.alloc (.cells #[.string ⟨#[48]⟩] 25)).heap.size:=hB5.size;clear hb4 hm5 hv4;go_wp2_with (at_builtin;refine gg 22 Tryz.underlying22 rfl (.tmp 25) (.tmp 26) rfl w3.heap.size _ ps [⟨#[48]⟩] w4.heap.size 0 1 rfl hv5 rfl hx5 hpb hlt3 ?_)
     intro v6 w6 hw6 hb6;have hB6:=hb6 _ _ hB5 (Iw _);obtain⟨p6,c6,rfl,-⟩:=id hw6.isS.form;obtain⟨q,hq⟩:∃ q,q=ps++[(⟨#[48]⟩:ByteArray)]:=⟨_,rfl⟩;have hql:q.length=i+2:=by rw[hq];simp[hpl]
     have hqs:=hw6.isS;rw[<-hq,hql] at hqs;rw[show (ps++[(⟨#[48]⟩:ByteArray)]).length=i+2 by rw[<-hq];exact hql];have HQ:=Ip hqs;have HQE:=Ip hq;have HJi:=Ip (HJ.out _ _ _ HJi.out (cR.of_below hB6));have HL:=Ip (HL.out.below hB6);clear hw6 hb6 hv5 hx5 hB5 hpb hlt3 hB6 hq hqs HP;go_wp2
     gi_upto_region 6 with fail
     rw[wpIn_wide];have hi2:((i+2:Nat):Int)=(i:Int)+2:=rfl;go_wp2_with (at_make;refine dz 22 Tryz.underlying22 rfl (.tmp 29) (.tmp 29) rfl _ _ (i+2) rfl rfl (by go_num) (by go_num) (by omega) ?_)
     intro w7 hr7 hb7 hs7;have hB7:=hb7 _ _ (LN _ _) (Iw _);obtain⟨L,hL⟩:∃ L,L=jo k ps:=⟨_,rfl⟩;have hLl:L.length=i+2:=by rw[hL,nK,hpl]
     have hr0:dO w7 w6.heap.size (i+2) (cj L 0):=by rw[iw,hLl];exact hr7
     obtain⟨g7,hg7⟩:∃ g,g=w6.heap.size:=⟨_,rfl⟩;rw[<-hg7] at hr0 hB7 |-;have HB67:=Ip hB7;have HGE:=Ip hg7;have HG6:=Ip (HOK.out _ _ HJi.out).2;have HLE:=Ip hL;obtain⟨bq,oq,rfl,hlq,hcq⟩:=HQ.out.all (by omega);rw[hql] at hcq;have HCQ:=Ip (fun j (h:j<i+2)=>ag hB7 (by rw[hg7];exact hlq) (hcq j h));have hlq7:bq<g7:=by rw[hg7];exact hlq
     have hB77:Below g7 w7 w7:=LN _ _;have hnb:i+2<1000000:=by omega
     clear hb7 hs7 hr7 hL hg7 hB7 hcq hlq HQ hi2;go_wp2
     gi_wp2
     gi_loopw [33] (fun s33 w8=>∃ j:Nat,s33=.int .i64 j/\j<=i+2/\dO w8 g7 (i+2) (cj L j)/\Below g7 w7 w8) (fun s33 _=>i+2-(intOf s33).toNat)
     case atStart=>exact⟨0,rfl,IF _,hr0,hB77⟩
     case round =>
      clear hr0 hB77;obtain⟨j,rfl,hji,hr8,hb8⟩:=hrel;by_cases hj:j<i+2
      ·have hjI:(j:Int)<(i:Int)+2:=by omega
       have e1:(i:Int)+2-1-(j:Int)=((i+1-j:Nat):Int):=by omega
       have e2:(i:Int)+1-(j:Int)=((i+1-j:Nat):Int):=by omega
       gi_upto_region 10 with fail
       rw[wpIn_wide];have hx:=HCQ.out j hj;have hy:=HCQ.out (i+1-j) (by omega);have m4:Below wr.heap.size wr wr.drew:=(LN _ _).drew;have hgr:=hr8.lt;have HBd:=Ip (hb8.trans (m4.mono (by omega)));have HR9:=Ip (hr8.below m4);refine av (fun w'=>∃ x:az g7 wr.drew,w'=x.w) (fun i=>i == 15||i == 16||i == 18) (by kernel_rfl) (by kernel_rfl) ⟨⟨_,LN _ _⟩,rfl⟩ ?_;have hz:g7<=wr.drew.heap.size:=by have:=m4.size;omega
       generalize wr.drew=wd at *
       have c0:=fun x:az g7 wd=>ag (HBd.out.trans x.h) hlq7 hx;have c1:=fun x:az g7 wd=>ag (HBd.out.trans x.h) hlq7 hy;have HG9:=Ip (HG6.out.below (by have h:=HB67.out.trans HBd.out;rw[HGE.out] at h;exact h));clear hx hy m4 hr8 hb8 hgr;refine ak 15 0 _ _ _ (by kernel_rfl) ?_;simp only[Ix,IC,Iy,IA];repeat (go_big_quiet_step (fail))
       refine wpQuiet_nil ?_;clear c0 c1 e1 e2;refine ap rfl rfl (fun K hK=>?_);go_simp;refine (gp k _ wd HG9.out).mono ?_;rintro e wa ⟨rfl,hba⟩;refine hK _ _ ⟨⟨_,hba.mono hz⟩,rfl⟩ ?_;clear hK K;try simp only[Act.put,It,Is,Ir,Iq,Iu,Iv]
       refine ap rfl rfl (fun K hK=>?_);go_simp;refine (mv _ _ wa (HG9.out.below hba)).mono ?_;rintro e wb ⟨rfl,hbb⟩;have hBb:=LK hba hbb;refine hK _ _ ⟨⟨_,hBb.mono hz⟩,rfl⟩ ?_;clear hK K;try simp only[Act.put,It,Is,Ir,Iq,Iu,Iv]
       refine ak 1 17 _ _ _ (by kernel_rfl) ?_;simp only[Ix,IC,Iy,IA];repeat (go_big_quiet_step (fail))
       refine wpQuiet_nil ?_;have hfl:j<(cj L j).length:=by rw[jd L (by omega)];omega
       have rc:=HR9.out.below hBb;have rd:=rc.cell hfl;have re:=rc.free j
       have hset:dO (wb.setCell ⟨g7,j,none⟩ (.string (iH (aD q j) (d_ k (aD q (i+1-j)))))) g7 (i+2) (cj L (j+1)):=by
        have h1:=rc.set j (iH (aD q j) (d_ k (aD q (i+1-j))));have h2:=je L (i:=j) (by omega)
        have h3:L[j]'(by omega)=iH (aD q j) (d_ k (aD q (i+1-j))):=by
         have hE:=HLE.out;subst hE;rw[BW,HQE.out,hpl]
        rw[h3] at h2;rw[<-h2];exact h1
       have hP:Below g7 wd (wb.setCell ⟨g7,j,none⟩ (.string (iH (aD q j) (d_ k (aD q (i+1-j)))))):=(hBb.mono hz).setCell (p:=⟨g7,j,none⟩) (Iw _) _;refine ap rfl rfl (fun K hK=>?_);go_simp;refine hK undef _ ⟨⟨_,hP⟩,rfl⟩ ?_;clear hK K;try simp only[Act.put,It,Is,Ir,Iq,Iu,Iv]
       refine aE ?_;have hBn:=HBd.out.trans hP;clear rc rd re hP hbb hba hBb HR9 HG9 HBd hz;generalize wb.setCell ⟨g7,j,none⟩ (.string (iH (aD q j) (d_ k (aD q (i+1-j)))))=we at *
       go_wp2
       gi_wp2
       go_roundw;case rel=>exact⟨j+1,by go_num,by omega,hset,hBn⟩
       case measure=>simp[intOf]<;>omega
      ·obtain rfl:j=i+2:=by omega
       have hfull:cj L (i+2)=L:=by rw[<-hLl];exact iu L
       rw[hfull] at hr8;have hB6:=HB67.out.trans hb8;have hB6':Below w6.heap.size w6 wr:=by have h:=hB6;rw[HGE.out] at h;exact h
       have HJr:=Ip (HJ.out _ _ _ HJi.out (cR.of_below hB6'));have HLr:=Ip (HL.out.below hB6')
       have hil:i<(bP l).length:=by
        have:=congrArg List.length HBD.out;simp at this;omega
       have hget:(bP l)[i]?=some L:=by
        have h:=J1 (xs:=bP l) (i:=i) (j:=0);rw[<-HBD.out] at h;rw[HLE.out];simpa using h.symm
       have HD2:=Ip (show gh (l.drop (i+1)) L=(bP l).drop (i+1) by
        have h:=congrArg (List.drop 1) HBD.out;rw[List.drop_drop] at h;rw[HLE.out]
        exact h)
       have hLS:=hr8.isS;obtain⟨fn,tmps,assign,body,hy,hR⟩:=HY.out i hil wr #[.slice (some ⟨g7,0,none⟩) L.length (i+2)] HJr.out ⟨_,L,rfl,hget,hLS⟩;have hsafe:=(HOK.out _ _ HJr.out).1;rw[hLl] at hy hLS;have HLS:=Ip hLS;clear hb8 hr8 hfull hB6 hB6' hget hLS hj hji hib
       gi_wp2
       refine⟨fun _=>by omega,hR.mono ?_⟩;rintro e W' ⟨rfl,hJ',hT⟩;have hkeep:=jY.of_turns hT hsafe;have hls:=HLS.out.keep hkeep;have hll:=HLr.out.keep hkeep;clear hR hy hT hsafe hkeep HLS HLr HJr
       gi_wp2
       go_roundw;case rel=>exact⟨i+1,L,by go_num,by omega,by omega,hls,hLl,hll,hJ',HD2.out⟩
       case measure=>simp[intOf]<;>omega
  ·obtain rfl:i=l.length:=by omega
   have hlen:(bP l).length=l.length:=by
    have h:=hbd.out;rw[K_] at h;have:=congrArg List.length h;simp[gh] at this;omega
   clear hbd hp hl hpl hib hil
   gi_wp2
   go_end0
   exact⟨⟨_,rfl⟩,by rw[hlen];exact hJi⟩
def qe (ls:List (List ByteArray)):Nat->List ByteArray
 | 0=>[⟨#[49]⟩]
 | i+1=>ls.getD i []
def su (l:List ByteArray):List ByteArray:=qe (bP l) (bP l).length
def gr (a b l:List ByteArray):Bool×Int:=if aC a b=true then if l.length+1=b.length then (decide (su l=b),0) else (false,0) else (false,30)
theorem nS:∀ (l p q:List ByteArray),q∈gh l p->q.length<=p.length+l.length
 | [],_,_,h=>by simp[gh] at h
 | k :: ks,p,q,h=>by
  unfold gh at h
  split at h
  ·rcases Jv.1 h with rfl | h
   ·rw[nK];simp
   ·have:=nS ks (jo k p) q h;rw[nK] at this;simp;omega
  ·cases h
theorem Ba (l:List ByteArray):(su l).length<=l.length+1:=by
 unfold su
 cases h:(bP l).length with
 | zero=>simp[qe]
 | succ i =>
  show ((bP l).getD i []).length<=_
  have hi:i<(bP l).length:=by omega
  rw[IK,II hi];have:=nS l [⟨#[49]⟩] _ (IS hi);simp at this |-;omega
structure Gz (w:World) (g b7:Nat) (x y:Value) (l:List ByteArray) (i:Nat) (W:World):Prop where
 box:∃ v,W.heap[b7]?=some (.cells #[v] 22 (0,0))/\IsS W v (qe (bP l) i)
 fil:W.heap[g]?=some (.cells #[x,y] 24 (0,0))
 bel:Below w.heap.size w W
theorem zq {w:World}{g:Nat}{v:Value}{T:TypeId} (h:w.heap[g]?=some (.cells #[v] T (0,0))) (hv:∀ s,v≠.string s):uO (fun k=>k=g) EW w:=by
 rintro k rfl j u hc;rw[World.cell?,h] at hc;simp only[Jl,IW,if_false] at hc
 have hj:j=0:=by
  have:=(ID.1 hc).1;simpa using this
 subst hj;simp at hc;subst hc;rintro⟨s,e⟩;exact hv s e
theorem Fa (v:Value) (l:List ByteArray) (w:World) (hl:IsS w v l) :
  Calls Tryz.prog 77 #[v] w fun e w'=>e=.returned (.func (.func 121) #[] #[.pointer (some ⟨w.heap.size,0,none⟩)])/\w'.heap[w.heap.size]?=some (.cells #[v] 22 (0,0))/\w.heap.size<w'.heap.size/\IsS w' v l/\Below w.heap.size w w':=by
 obtain⟨p,c,rfl,-⟩:=id hl.form;have c0:=heap_alloc_new w (.cells #[.slice p l.length c] 22 (0,0));have m1:=aj w (.cells #[.slice p l.length c] 22);have z1:=size_alloc w (.cells #[.slice p l.length c] 22);have HL:=Ip (hl.below m1);have H0:=Ip (And.intro c0 (And.intro (show w.heap.size<(w.alloc (.cells #[.slice p l.length c] 22)).heap.size by omega) m1));clear c0 m1 z1 hl;go_enter Tryz.func77,Tryz.ntmps77;go_wp2;go_ret;exact⟨rfl,H0.out.1,H0.out.2.1,HL.out,H0.out.2.2⟩
attribute [local go_sem] Oper.semAt_some
theorem E2 (v vl:Value) (a b l:List ByteArray) (w:World) (hF:IsF w v a b) (hl:IsS w vl l) (hG:Gx w) :
  Calls Tryz.prog 38 #[v,vl] w fun e w'=>e=.returned (.tuple #[.bool (gr a b l).1,.int .i64 (gr a b l).2])/\Below w.heap.size w w':=by
 obtain⟨p,c,q,d,rfl,hfa,hfb⟩:=id hF.ex;obtain⟨pl,cl,rfl,-⟩:=id hl.form;have HG0:=Ip hG;have HB0:=Ip hfb;refine (callsIn_wide (n:=9)).1 ?_;refine callsIn_of_wp_marks Tryz.func38 rfl trivial ?_ rfl;simp only[Tryz.ntmps38,KY,IT,Jn,Nat.reduceAdd,Nat.reduceSub,Ky,Kz,KX,KI,I8,Jf]
 gi_upto_region 1 with fail
 have cc:=aG w (.slice p a.length c) (.slice q b.length d);have m1:=aj w (.cells #[.slice p a.length c,.slice q b.length d] 24);have zz:=size_alloc w (.cells #[.slice p a.length c,.slice q b.length d] 24);have rr:=heap_alloc_new w (.cells #[.slice p a.length c,.slice q b.length d] 24 (0,0));generalize w.alloc (.cells #[.slice p a.length c,.slice q b.length d] 24)=w1 at *
 obtain⟨g,hg⟩:∃ g,g=w.heap.size:=⟨_,rfl⟩;rw[<-hg] at cc rr |-;have HCK:=Ip (fP _ a b w1 (hF.below m1) (hG.below m1));have HB:=Ip (hfb.below m1);have HL:=Ip (hl.below m1);have c0:=cc.1;have c1:=cc.2;have hlt:g<w1.heap.size:=by omega
 have M1:=Ip m1;have HGE:=Ip hg;clear hfa hfb cc zz m1 hF hG hl hg;by_cases hck:aC a b=true
 ·have HT:=Ip (show gr a b l=if l.length+1=b.length then (decide (su l=b),0) else (false,0) by unfold gr;rw[if_pos hck]);have hce:aB a b=0:=by unfold aB;rw[if_pos hck]
  rw[hce] at HCK;obtain⟨ob1,ob7,-⟩:=bv hck;clear hce hck
  gi_wp2_with fail
  refine⟨trivial,(callsIn_wide.2 HCK.out).mono ?_⟩;rintro e w2 ⟨rfl,hb2⟩;have d0:=ag hb2 hlt c0;have d1:=ag hb2 hlt c1;have rr2:=(hb2.block g hlt).trans rr;have HB2:=Ip (HB.out.below hb2);have HL2:=Ip (HL.out.below hb2);have M2:=Ip (LK M1.out hb2);have hlt2:g<w2.heap.size:=Iz hlt hb2.size;clear c0 c1 rr HB HL HCK M1 hb2 hlt;by_cases hlen:l.length+1=b.length
  ·have hbI:((b.length:Nat):Int)-1=(l.length:Int):=by omega
   have HT:=Ip (show gr a b l=(decide (su l=b),0) by rw[HT.out,if_pos hlen]);have HLN:=Ip hlen;clear hlen
   gi_wp2_with fail
   have m3:=aj w2 (.cells #[.string ⟨#[49]⟩] 25);have z3:=size_alloc w2 (.cells #[.string ⟨#[49]⟩] 25);have h3:=oT w2 ⟨#[49]⟩;generalize w2.alloc (.cells #[.string ⟨#[49]⟩] 25)=w3 at *
   have m4:=aj w3 (.cells #[.slice (some ⟨w2.heap.size,0,none⟩) 1 1] 22);have r4:=heap_alloc_new w3 (.cells #[.slice (some ⟨w2.heap.size,0,none⟩) 1 1] 22 (0,0));generalize w3.alloc (.cells #[.slice (some ⟨w2.heap.size,0,none⟩) 1 1] 22)=w4 at *
   have hB4:=LK m3 m4;have h4:=h3.below m4;rw[z3] at r4;have hl4:=HL2.out.below hB4;have rr4:=(hB4.block g hlt2).trans rr2;obtain⟨b7,hb7⟩:∃ b,b=w2.heap.size+1:=⟨_,rfl⟩;rw[<-hb7] at r4 |-;have hM4:=LK M2.out hB4;have hbw:w.heap.size<=b7:=by have:=M2.out.size;omega
   have hgb:g≠b7:=by omega
   clear d0 d1 rr2 HL2 m3 z3 h3 m4 hB4 M2 hlt2 hb7;refine⟨trivial,(callsIn_wide.2 (Fa _ l w4 hl4)).mono ?_⟩;rintro e w5 ⟨rfl,rb5,hlt5,hl5,hb5⟩;obtain⟨gb,hgb5⟩:∃ g,g=w4.heap.size:=⟨_,rfl⟩;have h5:=h4.below hb5;have r5:=(hb5.block b7 (ID.1 r4).1).trans r4;have rr5:=(hb5.block g (ID.1 rr4).1).trans rr4;have hM5:=LK hM4 hb5;have hne5:gb≠b7:=by have:=(ID.1 r4).1;omega
   have hlt7:b7<w5.heap.size:=(ID.1 r5).1;rw[<-hgb5] at rb5 hlt5 |-;have hll:l.length<1000:=by have:=HLN.out;omega
   clear h4 r4 rr4 hl4 hb5 hgb5 hM4
   gi_wp2
   refine oE (gf:=121) (bnd:=#[]) (lb:=#[.pointer (some ⟨gb,0,none⟩)]) (E:=Cc l) (len:=(bP l).length) (Sb:=fun k=>k=b7) (Si:=fun _=>False) (Ok:=fun W=>uO (fun k=>k=b7) EW W/\Gw W) rfl (by omega) rfl trivial ?eg ?hSb ?hSi (tE 8 (by omega) gb _ l w5 _ rb5 hl5 hll hne5) ?hps
    (Gz w g b7 (.slice p a.length c) (.slice q b.length d) l) ?hI ?hOk ?h0
    (fun i a1 W=>∃ v ps,a1={ tmps:=#[.agg #[.slice p a.length c,.slice q b.length d],.slice pl l.length cl,.pointer (some ⟨g,0,none⟩),undef,.bool false,.int .i64 0,.int .i64 0,.pointer (some ⟨b7,0,none⟩),v,.agg #[.slice p a.length c,.slice q b.length d],.int .i64 0,.int .i64 0,.bool false,undef,.slice pl l.length cl,.int .i64 l.length,.pointer (some ⟨g,1,none⟩),.slice q b.length d,.int .i64 b.length,.int .i64 l.length,.bool false,.slice (some ⟨w2.heap.size,0,none⟩) 1 1,.slice pl l.length cl,.func (.func 121) #[] #[.pointer (some ⟨gb,0,none⟩)],v,undef,undef,undef,undef,undef],defers:=[] }/\(bP l)[i]?=some ps/\IsS W v ps/\Gz w g b7 (.slice p a.length c) (.slice q b.length d) l i W) ?hI1 ?hassign ?hbody ?hdone
   case eg=>exact cA Tryz.func121 rfl (by kernel_rfl)
   case hSb=>rintro k rfl;exact hlt7
   case hSi=>rintro k hk;exact hk.elim
   case hps=>rintro i W vs ⟨v,ps,rfl,-,-⟩;rfl
   case hI =>
    rintro i W W' ⟨⟨v,h1,h2⟩,h3,h4⟩ hB;exact⟨⟨v,hB.cells h1 id,h2.keep (jY.of_bes hB (fun k hk=>hk.elim))⟩,hB.cells h3 id,hB.below h4 hM5.size h4.size (fun k e=>e.elim)⟩
   case hOk =>
    rintro i W ⟨⟨v,h1,h2⟩,h3,h4⟩;obtain⟨pv,cv,rfl,-⟩:=id h2.form;exact⟨zq h1 (by intro s e;cases e),(HG0.out.below h4).g⟩
   case h0=>exact⟨⟨_,r5,h5⟩,rr5,hM5⟩
   case hI1 =>
    rintro i a1 W W' ⟨v,ps,e,hv,hs,⟨v',h1,h2⟩,h3,h4⟩ hB;exact⟨v,ps,e,hv,hs.keep (jY.of_bes hB (fun k hk=>hk.elim)),⟨v',hB.cells h1 id,h2.keep (jY.of_bes hB (fun k hk=>hk.elim))⟩,hB.cells h3 id,hB.below h4 hM5.size h4.size (fun k e=>e.elim)⟩
   case hassign =>
    rintro y i hi W vs hI ⟨v,ps,rfl,hv,hs⟩;rw[xA];simp only[Iq,Iu,Iv]
    gi_wp2
    exact⟨cR.refl _ _,v,ps,rfl,hv,hs,hI⟩
   case hbody =>
    rintro y i hi a1 W ⟨v,ps,rfl,hv,hs,⟨v',h1,h2⟩,h3,h4⟩;obtain⟨pv,cv,rfl,-⟩:=id hs.form;obtain⟨pv',cv',rfl,-⟩:=id h2.form;obtain⟨k7,f7⟩:=eo h1;have hT:=cR.set (S:=fun k=>k=b7) (w:=W) rfl 0 (.slice pv ps.length cv);have hS:=(hs.keep (jY.of_turns hT (zq h1 (by intro s e;cases e))))
    have hL:qe (bP l) (i+1)=ps:=by
     show (bP l).getD i []=ps
     rw[IK,hv];rfl
    have HRes:=Ip (show cR (fun k=>k=b7) W (W.setCell ⟨b7,0,none⟩ (.slice pv ps.length cv))/\Gz w g b7 (.slice p a.length c) (.slice q b.length d) l (i+1) (W.setCell ⟨b7,0,none⟩ (.slice pv ps.length cv)) from
     ⟨hT,⟨_,heap_setCell_same W b7 0 _ _ _ h1,by rw[hL];exact hS⟩,(Below.heap_setCell W ⟨b7,0,none⟩ _ g hgb).trans h3,h4.setCell (p:=⟨b7,0,none⟩) hbw _⟩)
    clear h1 h2 h3 h4 hT hS hs hv hL r5 h5 rr5
    gi_wp2
    exact HRes.out
   case hdone =>
    rintro D W hD ⟨⟨v,h1,h2⟩,h3,h4⟩ hK;have hLB:=Ba l;have hz:=hM5.size;obtain⟨lb,hlb⟩:∃ x,x=su l:=⟨_,rfl⟩;rw[show qe (bP l) (bP l).length=lb from hlb.symm] at h2;have HTL:=Ip (show gr a b l=(decide (lb=b),0) by rw[HT.out,<-hlb]);rw[<-hlb] at hLB;obtain⟨pv,cv,rfl,-⟩:=id h2.form;have k7:=(eo h1).1;have c0:=au h3 0;have c1:=au h3 1;have HEQ:=Ip (GP _ _ lb b W h2 (HB0.out.below h4) (by omega) (by omega));obtain⟨bq,hbq⟩:∃ x,x=decide (lb=b):=⟨_,rfl⟩;rw[<-hbq] at HEQ HTL;have HM:=Ip h4;have HK:=Ip hK;have HD:=Ip (show w.heap.size<=D by omega);simp only[Le,KT,Kk] at c0 c1;clear h1 h2 h3 h4 hK hlb hbq rb5 hl5 h5 r5 rr5 hM5 hLB hz
    gi_wp2_with fail
    refine⟨trivial,(callsIn_wide.2 HEQ.out).mono ?_⟩;rintro e W2 ⟨rfl,hb2⟩;have HK2:=Ip ((hb2.block D (ID.1 HK.out).1).trans HK.out);have HM2:=Ip (LK HM.out hb2);clear hb2 HEQ k7 c0 c1
    gi_wp2
    refine⟨by simp,.inl ⟨_,_,rfl,run_takeDeferred HK2.out,?_⟩⟩;refine⟨.tuple #[.bool bq,.int .i64 0],by simp[results,Tryz.results38,go_sem],by rw[HTL.out],HM2.out.trans ⟨rfl,rfl,rfl,by simp,fun k hk=>World.putObj_heap_other (by have:=HD.out;omega)⟩⟩
  ·have hne:((l.length:Int) != (b.length:Int)-1)=true:=by simp;omega
   have HE:=Ip (show gr a b l=(false,0) by rw[HT.out,if_neg hlen]);clear hlen
   gi_wp2
   refine⟨.tuple #[.bool false,.int .i64 0],by simp[results,Tryz.results38,go_sem],by rw[HE.out],M2.out⟩
 ·have HE:=Ip (show gr a b l=(false,30) by unfold gr;rw[if_neg hck]);have hce:aB a b=30:=by unfold aB;rw[if_neg hck]
  rw[hce] at HCK;clear hce
  gi_wp2_with fail
  refine⟨trivial,(callsIn_wide.2 HCK.out).mono ?_⟩;rintro e w2 ⟨rfl,hb2⟩
  gi_wp2
  refine⟨.tuple #[.bool false,.int .i64 30],by simp[results,Tryz.results38,go_sem],by rw[HE.out],LK M1.out hb2⟩
open Go.RowKit Dg
def eS (l:List ByteArray) (n:Nat):List ByteArray:=l++List.replicate (n-l.length) ⟨#[48]⟩
theorem ji (l:List ByteArray) (n:Nat):(eS l n).length=max l.length n:=by unfold eS;simp;omega
def Gh:Value->Nat
 | .slice _ n _=>n
 | _=>0
theorem oU (v:Value) (l:List ByteArray) (n:Nat) (w:World) (hl:IsS w v l) (hpos:0<l.length) (hlen:l.length<1000000) (hn:n<1000000) :
  Calls Tryz.prog 27 #[v,.int .i64 n] w fun e w'=>∃ u,e=.returned u/\dh w' w.heap.size u (eS l n)/\Below w.heap.size w w':=by
 have HC:=Ip (xK v l w hl hpos (by omega));clear hl;go_enter Tryz.func27,Tryz.ntmps27;go_wp2_with fail
 refine HC.out.mono ?_;rintro e w1 ⟨u,rfl,hu,hb1⟩;have HU:=Ip hu;have HB1:=Ip hb1;clear hu hb1 HC;go_wp2_with fail
 go_loopw [5] (fun s5 wr=>∃ i:Nat,dh wr w.heap.size s5 (eS l i)/\(i=0\/i<=n)/\Below w.heap.size w wr) (fun s5 _=>n-Gh s5)
 case atStart=>exact⟨0,by unfold eS;simpa using HU.out,Or.inl rfl,HB1.out⟩
 case round =>
  obtain⟨i,hown,hi,hbr⟩:=hrel;have hpl:=ji l i;obtain⟨p,c,rfl,hcc,-⟩:=hown.isS.form;obtain⟨m,hm⟩:∃ m,m=(eS l i).length:=⟨_,rfl⟩;rw[<-hm] at hpl hcc hown |-;by_cases hlt:m<n
  ·have hi2:i<=n:=by omega
   obtain⟨j,hj⟩:∃ j,j=m:=⟨_,rfl⟩
   have hpj:eS l (m+1)=eS l i++[⟨#[48]⟩]:=by
    unfold eS;rw[I_];congr 1;have e:m+1-l.length=(i-l.length)+1:=by omega
    rw[e,Li]
   have hd:decide ((m:Int)<(n:Int))=true:=by simp;omega
   have hd2:decide (m<n)=true:=decide_eq_true hlt;have HT:=Ip hpj;have HM:=Ip (And.intro hm (And.intro hlt hpl));have hzl:(eS l i).length<1000000000:=by omega
   have hbs:=hbr.size;clear hpj hm hpl hi hi2 hj hlt hcc j;go_upto_region 3 with fail
   generalize Value.slice p m c=sv at hown |-;go_wp2_with (at_builtin;refine bR 22 Tryz.underlying22 rfl (.tmp 12) (.tmp 13) rfl w.heap.size _ _ _ rfl hown rfl hzl hbs ?_)
   intro v' w2 hw2 hb2;have hB2:=hb2 _ _ hbr (Iw _);rw[<-HT.out] at hw2;obtain⟨p',c',rfl,-⟩:=hw2.isS.form;clear hown hb2 hbr;go_wp2;go_roundw;case rel=>exact⟨m+1,hw2,Or.inr HM.out.2.1,hB2⟩
   case measure =>
    have h1:=HM.out.2.1;have h2:=HM.out.2.2;have h3:=ji l (m+1);simp only[Gh];omega
  ·have hd:decide ((m:Int)<(n:Int))=false:=by simp;omega
   have hd2:decide (m<n)=false:=decide_eq_false hlt
   have HE:=Ip (show eS l i=eS l n by
    unfold eS;congr 2;omega)
   have HO:=Ip hown;have HM:=Ip hm;clear hpl hi hlt hcc hown hm;go_wp2;go_ret;exact⟨_,rfl,by have h:=HO.out;rw[HE.out] at h;exact h,hbr⟩
def eC (a l:List ByteArray) (k:Nat):List ByteArray:=(List.range k).map fun i=>iY (aD l i) (d_ (dw (aD l k) (aD a 0)) (aD a (k-i)))
theorem kR (a l:List ByteArray) (k:Nat):(eC a l k).length=k:=by simp[eC]
theorem r_ (a l:List ByteArray) {k i:Nat} (h:i<(eC a l k).length):(eC a l k)[i]=iY (aD l i) (d_ (dw (aD l k) (aD a 0)) (aD a (k-i))):=by simp[eC]
theorem pJ (a l:List ByteArray) {k i:Nat} (h:i<k):(cj (eC a l k) i).set i (iY (aD l i) (d_ (dw (aD l k) (aD a 0)) (aD a (k-i))))=cj (eC a l k) (i+1):=by
 have hl:i<(eC a l k).length:=by rw[kR];exact h
 have:=je (eC a l k) hl;rw[r_ a l hl] at this;exact this
def gl:Nat->List ByteArray->List ByteArray->ByteArray->ByteArray
 | 0,_,_,e=>e
 | k+1,a,b,e=>gl k (eC a a k) (eC a b k) (iH e (dw (d_ (aD b k) (aD b k)) (aD a 0)))
def cf (fa fb:List ByteArray):ByteArray×Int :=
 if aC fa fb=true then if (bA fb).isSome=true then (gl (max fa.length fb.length) (eS fb (max fa.length fb.length)) (eS fa (max fa.length fb.length)) ⟨#[48]⟩,0) else (⟨#[]⟩,31) else (⟨#[]⟩,30)
set_option maxRecDepth 100000 in
example : cf a8 a_ = (⟨#[49, 47, 51]⟩, 0) := by decide +kernel
def Fr (D:Nat) (q:Rat):Prop:=∃ n:Int,q=(n:Rat) / (D:Rat)
def Bd (V q:Rat):Prop:=-V<=q/\q<=V
theorem Bd.mono {V W q:Rat} (h:Bd V q) (hw:V<=W):Bd W q:=⟨by have:=h.1;grind,by have:=h.2;grind⟩
theorem Bd.add {V W a b:Rat} (h:Bd V a) (h2:Bd W b):Bd (V+W) (a+b):=⟨by have:=h.1;have:=h2.1;grind,by have:=h.2;have:=h2.2;grind⟩
theorem Bd.sub {V W a b:Rat} (h:Bd V a) (h2:Bd W b):Bd (V+W) (a-b):=⟨by have:=h.1;have:=h2.2;grind,by have:=h.2;have:=h2.1;grind⟩
theorem Bd.mul {V W a b:Rat} (h:Bd V a) (h2:Bd W b):Bd (V*W) (a*b):=by
 obtain⟨a1,a2⟩:=h;obtain⟨b1,b2⟩:=h2;have k1:0<=(V-a)*(W-b):=Rat.mul_nonneg (by grind) (by grind);have k2:0<=(V-a)*(W+b):=Rat.mul_nonneg (by grind) (by grind);have k3:0<=(V+a)*(W-b):=Rat.mul_nonneg (by grind) (by grind);have k4:0<=(V+a)*(W+b):=Rat.mul_nonneg (by grind) (by grind);exact⟨by grind,by grind⟩
theorem Fr.wide {D:Nat}{q:Rat} (h:Fr D q) (E:Nat) (hD:0<D) (hE:0<E):Fr (D*E) q:=by
 obtain⟨n,e⟩:=h;have h1:=aO hD;have h2:=aO hE;refine⟨n*E,?_⟩;rw[e,Rat.intCast_mul,Rat.natCast_mul]
 show (n:Rat) / (D:Rat)=(n:Rat)*((E:Nat):Rat) / ((D:Rat)*(E:Rat))
 grind
theorem Fr.add {D:Nat}{a b:Rat} (h:Fr D a) (h2:Fr D b):Fr D (a+b):=by
 obtain⟨n,e⟩:=h;obtain⟨m,f⟩:=h2;refine⟨n+m,?_⟩;rw[e,f,Rat.intCast_add];grind
theorem Fr.sub {D:Nat}{a b:Rat} (h:Fr D a) (h2:Fr D b):Fr D (a-b):=by
 obtain⟨n,e⟩:=h;obtain⟨m,f⟩:=h2;refine⟨n-m,?_⟩;rw[e,f,Rat.intCast_sub];grind
theorem Fr.mul {D E:Nat}{a b:Rat} (h:Fr D a) (h2:Fr E b) (hD:0<D) (hE:0<E):Fr (D*E) (a*b):=by
 obtain⟨n,e⟩:=h;obtain⟨m,f⟩:=h2;have h1:=aO hD;have h2:=aO hE;refine⟨n*m,?_⟩;rw[e,f,Rat.intCast_mul,Rat.natCast_mul];grind
theorem Fr.over {D M A:Nat}{q c:Rat} (h:Fr (D*M) q) (hc:c=(A:Rat) / (M:Rat)) (hD:0<D) (hM:0<M) (hA:0<A):Fr (D*A) (q / c):=by
 obtain⟨n,e⟩:=h;have h1:=aO hD;have h2:=aO hM;have h3:=aO hA;refine⟨n,?_⟩;rw[e,hc,Rat.natCast_mul,Rat.natCast_mul];grind
theorem Fr.ov {D V:Nat}{q:Rat} (h:Fr D q) (hb:Bd (V:Rat) q) (hD:0<D):Ov D (V*D) q:=by
 obtain⟨n,e⟩:=h;refine⟨n,e,?_⟩;have hp:=fz hD;have h1:=aO hD;have en:(n:Rat)=q*(D:Rat):=by rw[e];grind
 obtain⟨b1,b2⟩:=hb;have k1:0<=((V:Rat)-q)*(D:Rat):=Rat.mul_nonneg (by grind) (by grind);have k2:0<=((V:Rat)+q)*(D:Rat):=Rat.mul_nonneg (by grind) (by grind)
 have l1:(n:Rat)<=(((V*D:Nat):Int):Rat):=by
  rw[en]
  show q*(D:Rat)<=((V*D:Nat):Rat)
  rw[Rat.natCast_mul];grind
 have l2:(((-((V*D:Nat):Int)):Int):Rat)<=(n:Rat):=by
  rw[en,Rat.intCast_neg]
  show -((V*D:Nat):Rat)<=q*(D:Rat)
  rw[Rat.natCast_mul];grind
 have m1:=Rat.intCast_le_intCast.1 l1;have m2:=Rat.intCast_le_intCast.1 l2;omega
theorem Fr.ok {D V:Nat}{q:Rat} (h:Fr D q) (hb:Bd (V:Rat) q) (hD:0<D) (h1:D<10 ^ 2000) (h2:V*D<10 ^ 2000):okQ q:=(h.ov hb hD).ok hD h1 h2
theorem Fr.ok2 {D V M A:Nat}{q c:Rat} (h:Fr (D*A) q) (hc:c=(A:Rat) / (M:Rat)) (hM:0<M) (hA:0<A) (hb:Bd (V:Rat) (q*c)) (hD:0<D) (h1:D*A<10 ^ 2000) (h2:V*(D*M)<10 ^ 2000):okQ q:=by
 obtain⟨n,e⟩:=h;have k1:=aO hD;have k2:=aO hM;have k3:=aO hA;have hqc:Fr (D*M) (q*c):=⟨n,by rw[e,hc,Rat.natCast_mul,Rat.natCast_mul];grind⟩;obtain⟨n2,e2,hn2⟩:=hqc.ov hb (IH hD hM)
 have en:(n:Rat)=(n2:Rat):=by
  have e3:(n2:Rat)=q*c*((D*M:Nat):Rat):=by
   rw[e2,Rat.natCast_mul];grind
  rw[e3,e,hc,Rat.natCast_mul,Rat.natCast_mul];grind
 have:n=n2:=Rat.intCast_inj.1 en;subst this;exact Ov.ok ⟨n,e,hn2⟩ (IH hD hA) h1 h2
theorem jE:∀ {n:Nat}{a a':Nat->Rat},(∀ i,i<=n->a i=a' i)->dl n a->dl n a'
 | 0,_,_,h,g=>by
  have g0:(0:Rat)<_:=g
  show 0<_
  rw[<-h 0 (Iw _)];exact g0
 | n+1,_,_,h,g=>⟨by rw[<-h 0 (IF _)];exact g.1,jE (fun i hi=>l_ h h i (by omega)) g.2⟩
theorem Df {n:Nat}{a:Nat->Rat} (g:dl n a) (h:a (n+1)=0):dl (n+1) a :=
 ⟨g.pos,jE (a:=a) (fun i _=>by unfold dnE;rw[h];grind) g⟩
theorem sj {a:Nat->Rat}{n:Nat} (g:dl n a) (h:∀ i,n<i->a i=0):∀ k,dl (n+k) a
 | 0=>g
 | k+1=>Df (sj g h k) (h (n+k+1) (by omega))
theorem lL:∀ (n:Nat) (a:Nat->Rat) (p:List Rat),0<a 0->(∀ i,i<=n->a i=a 0*p.getD i 0)->(bg n p).isSome=true->dl n a
 | 0,a,p,h0,_,_=>h0
 | n+1,a,p,h0,ha,hs=>by
  refine⟨h0,?_⟩;rw[bg] at hs
  split at hs
  ·rename_i hk
   have hd:=nJ hk.1 hk.2;have hne:1-p.getD (n+1) 0*p.getD (n+1) 0≠0:=by grind
   rw[Ks] at hs;have hp0:p.getD 0 0=1:=by have:=ha 0 (IF _);grind
   have e0:dnE (n+1) a a 0=a 0*(1-p.getD (n+1) 0*p.getD (n+1) 0):=by
    unfold dnE;rw[JY,ha (n+1) (Iw _)];grind
   refine lL n (dnE (n+1) a a) (ew p (n+1) (p.getD (n+1) 0)) (by rw[e0];exact Rat.mul_pos h0 hd) (fun i hi=>?_) hs;rw[e0,k8 _ _ _ _ (by omega)];unfold dnE;rw[ha (n+1) (Iw _),ha i (by omega),ha (n+1-i) (by omega)];grind
  ·cases hs
def lp:Nat->Rat
 | 0=>1
 | n+1=>2*lp n
theorem xt:∀ n,0<lp n
 | 0=>by decide
 | n+1=>by have:=xt n;unfold lp;grind
theorem Cx {A0 k c c' W x y:Rat} (hk:0<A0*(1-k*k)) (h1:-(W*(A0*(1-k*k)))<=c/\c<=W*(A0*(1-k*k))) (h2:-(W*(A0*(1-k*k)))<=c'/\c'<=W*(A0*(1-k*k)))
  (e1:c=x-k*y) (e2:c'=y-k*x) (hW:0<W) (hk1:-1<k) (hk2:k<1):-(2*W*A0)<=x/\x<=2*W*A0:=by
 have hd:0<1-k*k:=nJ hk1 hk2;have ex:x*(1-k*k)=c+k*c':=by rw[e1,e2];grind
 have hT:0<W*(A0*(1-k*k)):=Rat.mul_pos hW hk;obtain⟨T,eT⟩:∃ T,T=W*(A0*(1-k*k)):=⟨_,rfl⟩;rw[<-eT] at h1 h2 hT
 have b1:k*c'<=T:=by
  have p1:=Rat.mul_nonneg (show 0<=1-k by grind) (show 0<=T+c' by grind);have p2:=Rat.mul_nonneg (show 0<=1+k by grind) (show 0<=T-c' by grind);grind
 have b2:-T<=k*c':=by
  have p1:=Rat.mul_nonneg (show 0<=1-k by grind) (show 0<=T-c' by grind);have p2:=Rat.mul_nonneg (show 0<=1+k by grind) (show 0<=T+c' by grind);grind
 have u1:0<=(2*W*A0-x)*(1-k*k):=by
  have:(2*W*A0-x)*(1-k*k)=2*T-(c+k*c'):=by rw[<-ex,eT];grind
  rw[this];grind
 have u2:0<=(2*W*A0+x)*(1-k*k):=by
  have:(2*W*A0+x)*(1-k*k)=2*T+(c+k*c'):=by rw[<-ex,eT];grind
  rw[this];grind
 have v1:0<=2*W*A0-x:=by
  rcases (Rat.le_total:0<=2*W*A0-x\/2*W*A0-x<=0) with h | h
  ·exact h
  ·have p:=Rat.mul_nonneg (show 0<=-(2*W*A0-x) by grind) (Rat.le_of_lt hd);have:(2*W*A0-x)*(1-k*k)=0:=by grind
   rcases Rat.mul_eq_zero.1 this with h | h<;>grind
 have v2:0<=2*W*A0+x:=by
  rcases (Rat.le_total:0<=2*W*A0+x\/2*W*A0+x<=0) with h | h
  ·exact h
  ·have p:=Rat.mul_nonneg (show 0<=-(2*W*A0+x) by grind) (Rat.le_of_lt hd);have:(2*W*A0+x)*(1-k*k)=0:=by grind
   rcases Rat.mul_eq_zero.1 this with h | h<;>grind
 constructor<;>grind
theorem Gs {k:Rat} (h:0<1-k*k):-1<k/\k<1:=by
 constructor
 ·rcases (Rat.le_total:k<=-1\/-1<=k) with h1 | h1
  ·have:=Rat.mul_nonneg (show 0<=-1-k by grind) (show 0<=1-k by grind);grind
  ·rcases Decidable.em (k=-1) with e | e
   ·subst e;grind
   ·grind
 ·rcases (Rat.le_total:1<=k\/k<=1) with h1 | h1
  ·have:=Rat.mul_nonneg (show 0<=k-1 by grind) (show 0<=1+k by grind);grind
  ·rcases Decidable.em (k=1) with e | e
   ·subst e;grind
   ·grind
theorem pT:∀ {n:Nat}{a:Nat->Rat},dl n a->∀ i,i<=n->-(lp n*a 0)<=a i/\a i<=lp n*a 0
 | 0,a,g,i,hi=>by
  have g0:0<a 0:=g;obtain rfl:i=0:=by omega
  unfold lp;constructor<;>grind
 | n+1,a,g,i,hi=>by
  have g0:=g.1;obtain⟨k,hk⟩:∃ k,k=a (n+1) / a 0:=⟨_,rfl⟩;have ek:a (n+1)=k*a 0:=by rw[hk];grind
  have ec:∀ j,dnE (n+1) a a j=a j-k*a (n+1-j):=fun j=>by unfold dnE;rw[hk]
  have ec0:dnE (n+1) a a 0=a 0*(1-k*k):=by rw[ec,JY,ek];grind
  have c0:=g.2.pos;rw[ec0] at c0
  have hd:0<1-k*k:=by
   rcases (Rat.le_total:0<=1-k*k\/1-k*k<=0) with h | h
   ·rcases Decidable.em (1-k*k=0) with e | e
    ·rw[e] at c0;grind
    ·grind
   ·have:=Rat.mul_nonneg (Rat.le_of_lt g0) (show 0<=-(1-k*k) by grind);grind
  obtain⟨hk1,hk2⟩:=Gs hd;have hW:=xt n;have ih:=pT g.2;rw[ec0] at ih;by_cases hin:i<=n
  ·by_cases h0:i=0
   ·subst h0
    have hW1:1<=lp (n+1):=by
     have:∀ m,1<=lp m:=fun m=>by
      induction m with
      | zero=>exact (by decide:(1:Rat)<=1)
      | succ m ih=>unfold lp;grind
     exact this _
    have:=Rat.mul_nonneg (show 0<=lp (n+1)-1 by grind) (Rat.le_of_lt g0);constructor<;>grind
   ·have h1:=ih i hin;have h2:=ih (n+1-i) (by omega);exact Cx c0 h1 h2 (ec i) (by rw[ec,show n+1-(n+1-i)=i by omega]) hW hk1 hk2
  ·obtain rfl:i=n+1:=by omega
   have hW1:1<=lp (n+1):=by
    have:∀ m,1<=lp m:=fun m=>by
     induction m with
     | zero=>exact (by decide:(1:Rat)<=1)
     | succ m ih=>unfold lp;grind
    exact this _
   rw[ek];have p:=Rat.mul_nonneg (show 0<=lp (n+1)-1 by grind) (Rat.le_of_lt g0);have p1:=Rat.mul_nonneg (show 0<=1-k by grind) (Rat.le_of_lt g0);have p2:=Rat.mul_nonneg (show 0<=1+k by grind) (Rat.le_of_lt g0);constructor<;>grind
theorem k_ {x d:Rat} (hd:0<d) (h:0<=x*d):0<=x:=by
 rcases (Rat.le_total:0<=x\/x<=0) with h1 | h1
 ·exact h1
 ·have p:=Rat.mul_nonneg (show 0<=-x by grind) (Rat.le_of_lt hd);have:x*d=0:=by grind
  rcases Rat.mul_eq_zero.1 this with h | h<;>grind
theorem Bd.div {V q c:Rat} (hc:0<c) (h:Bd (V*c) q):Bd V (q / c):=by
 have e:q / c*c=q:=by grind
 constructor
 ·have:0<=q / c+V:=k_ hc (by have:=h.1;grind);grind
 ·have:0<=V-q / c:=k_ hc (by have:=h.2;grind);grind
theorem Fr.of_ov {D M:Nat}{q:Rat} (h:Ov D M q):Fr D q:=by
 obtain⟨n,e,-⟩:=h;exact⟨n,e⟩
theorem Fr.to {D E:Nat}{q:Rat} (h:Fr D q) (e:D=E):Fr E q:=e ▸ h
theorem Ov.to {D E M:Nat}{q:Rat} (h:Ov D M q) (e:D=E):Ov E M q:=e ▸ h
theorem Fr.nat {M:Nat}{q:Rat} (h:Fr M q) (hM:0<M) (h0:0<q) (h1:q<=1):∃ A:Nat,0<A/\A<=M/\q=(A:Rat) / (M:Rat):=by
 obtain⟨n,e⟩:=h;have hp:=fz hM;have k:=aO hM;have en:(n:Rat)=q*(M:Rat):=by rw[e];grind
 have n0:(0:Rat)<(n:Rat):=by rw[en];exact Rat.mul_pos h0 hp
 have n1:0<n:=Rat.intCast_lt_intCast.1 n0
 have m1:(n:Rat)<=((M:Int):Rat):=by
  rw[en]
  show q*(M:Rat)<=(M:Rat)
  have:=Rat.mul_nonneg (show 0<=1-q by grind) (Rat.le_of_lt hp);grind
 have m2:=Rat.intCast_le_intCast.1 m1;refine⟨n.toNat,by omega,by omega,?_⟩;rw[e]
 have:((n.toNat:Nat):Rat)=(n:Rat):=by
  show (((n.toNat:Nat):Int):Rat)=_
  rw[Int.toNat_of_nonneg (by omega)]
 rw[this]
theorem Fr.ov2 {D V M A:Nat}{q c:Rat} (h:Fr (D*A) q) (hc:c=(A:Rat) / (M:Rat)) (hM:0<M) (hA:0<A) (hb:Bd (V:Rat) (q*c)) (hD:0<D):Ov (D*A) (V*(D*M)) q:=by
 obtain⟨n,e⟩:=h;have k1:=aO hD;have k2:=aO hM;have k3:=aO hA;have hqc:Fr (D*M) (q*c):=⟨n,by rw[e,hc,Rat.natCast_mul,Rat.natCast_mul];grind⟩;obtain⟨n2,e2,hn2⟩:=hqc.ov hb (IH hD hM)
 have en:(n:Rat)=(n2:Rat):=by
  have e3:(n2:Rat)=q*c*((D*M:Nat):Rat):=by
   rw[e2,Rat.natCast_mul];grind
  rw[e3,e,hc,Rat.natCast_mul,Rat.natCast_mul];grind
 have:n=n2:=Rat.intCast_inj.1 en;subst this;exact⟨n,e,hn2⟩
structure EnS (n:Nat) (a b:Nat->Rat) (D M B:Nat):Prop where
 D0:0<D
 M0:0<M
 fa:∀ i,i<=n->Fr M (a i)
 fb:∀ i,i<=n->Fr (D*M) (b i)
 good:dl n a
 one:a 0<=1
 n6:n<=6
 bb:∀ i,i<=n->Bd (B:Rat) (b i)
theorem F9:∀ n,n<=6->lp n<=64:=fun n hn=>by
 match n,hn with
 | 0,_=>exact (by decide +kernel)
 | 1,_=>exact (by decide +kernel)
 | 2,_=>exact (by decide +kernel)
 | 3,_=>exact (by decide +kernel)
 | 4,_=>exact (by decide +kernel)
 | 5,_=>exact (by decide +kernel)
 | 6,_=>exact (by decide +kernel)
theorem jn {n:Nat}{a:Nat->Rat} (g:dl n a) (h6:n<=6) {i:Nat} (hi:i<=n):Bd (64*a 0) (a i):=by
 obtain⟨h1,h2⟩:=pT g i hi;have p:=Rat.mul_nonneg (show 0<=64-lp n by have:=F9 n h6;grind) (Rat.le_of_lt g.pos);constructor<;>grind
theorem EnS.step {n:Nat}{a b:Nat->Rat}{D M B:Nat} (h:EnS (n+1) a b D M B) {A:Nat} (hA:0<A) (hc:a 0=(A:Rat) / (M:Rat)):EnS n (dnE (n+1) a a) (dnE (n+1) a b) D (M*A) (65*B):=by
 have g0:=h.good.1;have hD:=h.D0;have hM:=h.M0;refine⟨hD,IH hM hA,fun i hi=>?_,fun i hi=>?_,h.good.2,?_,by have:=h.n6;omega,fun i hi=>?_⟩
 ·have f1:=(Fr.over (D:=1) ((h.fa (n+1) (Iw _)).to (JV M).symm) hc (by decide) hM hA).mul (h.fa (n+1-i) (by omega)) (by rw[JV];exact hA) hM;have f2:=(h.fa i (by omega)).wide A hM hA;exact f2.sub (f1.to (by rw[JV,IM]))
 ·have f1:=(Fr.over (h.fb (n+1) (Iw _)) hc hD hM hA).mul (h.fa (n+1-i) (by omega)) (IH hD hA) hM;have f2:=(h.fb i (by omega)).wide A (IH hD hM) hA;exact (f2.to (Jz D M A)).sub (f1.to (by rw[Jz,IM A M]))
 ·have e:dnE (n+1) a a 0=a 0-a (n+1)*a (n+1) / a 0:=by unfold dnE;rw[JY];grind
  have p:=kp.sq_div_pos (x:=a (n+1)) g0;have:=h.one;rw[e];grind
 ·have hb1:=h.bb i (by omega);have hb2:=h.bb (n+1) (Iw _);have hs:=Bd.div g0 (jn h.good h.n6 (show n+1-i<=n+1 by omega));have hm:=hb2.mul hs;have e:dnE (n+1) a b i=b i-b (n+1)*(a (n+1-i) / a 0):=by unfold dnE;grind
  rw[e];have:=hb1.sub hm;refine this.mono ?_;rw[Rat.natCast_mul];have:((65:Nat):Rat)=65:=rfl;rw[this];grind
theorem qG:∀ (j:Nat) (p:List Rat) (e:Nat) (pf:List ByteArray),p.length=j+1->rE e p->(j=0\/(e+1)*2 ^ (j-1)<=6600)->j<=pf.length->(iC j (p.map tq) pf).isSome=(bg j p).isSome
 | 0,_,_,_,_,_,_,_=>rfl
 | 1,p,e,pf,hl,hp,he,hpf=>by
  have he2:e<=6600:=by rcases he with h | h;omega;simp at h;omega
  have okk:okQ (p.getD 1 0):=qX hp he2 _ (eE (by omega));rw[iC,bg,ld (by omega),lO okk];by_cases h:-1<p.getD 1 0/\p.getD 1 0<1
  ·rw[if_pos h,if_pos (by rw[decide_eq_true h.1,decide_eq_true h.2];rfl)];rfl
  ·rw[if_neg h,if_neg (by simp only[IR,decide_eq_true_eq];exact h)];rfl
 | j+2,p,e,pf,hl,hp,he,hpf=>by
  have he1:(e+1)*2 ^ (j+1)<=6600:=by rcases he with h | h;omega;exact h
  obtain⟨g1,g2⟩:=GS he1;have okk:okQ (p.getD (j+2) 0):=qX hp (by omega) _ (eE (by omega));rw[iC,bg,ld (by omega),lO okk];by_cases h:-1<p.getD (j+2) 0/\p.getD (j+2) 0<1
  ·obtain⟨n1,n2⟩:=tY hp hl g1 h.1 h.2;rw[if_pos h,if_pos (by rw[decide_eq_true h.1,decide_eq_true h.2];rfl),n1,qG (j+1) _ (2*e+1) _ (fT ..) n2 (Or.inr g2) (by rw[JK];omega),Ks]
  ·rw[if_neg h,if_neg (by simp only[IR,decide_eq_true_eq];exact h)];rfl
def bW (r:Rat):Nat->Rat
 | 0=>1
 | i+1=>bW r i*r
theorem qF {r:Rat}{u v:Nat} (h:r=(u:Rat) / (v:Rat)) (hv:0<v):∀ i,bW r i=((u ^ i:Nat):Rat) / ((v ^ i:Nat):Rat)
 | 0=>by
  show (1:Rat)=((1:Nat):Rat) / ((1:Nat):Rat)
  rw[show ((1:Nat):Rat)=1 from rfl];grind
 | i+1=>by
  have h1:=aO hv;have h2:=aO (I9 (n:=i) hv);rw[bW,qF h hv i,IN,IN,Rat.natCast_mul,Rat.natCast_mul,h];grind
theorem uf {u v:Nat}:Ov v u ((u:Rat) / (v:Rat)):=⟨(u:Int),rfl,Kx (I0 u)⟩
theorem Hc {D M u v:Nat}{q c:Rat} (h:Ov D M q) (hc:c=(u:Rat) / (v:Rat)) (hD:0<D) (hu:0<u) (hv:0<v):Ov (D*u) (M*v) (q / c):=by
 obtain⟨n,e,hn⟩:=h;have h1:=aO hD;have h2:=aO hu;have h3:=aO hv;refine⟨n*(v:Int),?_,?_⟩
 ·rw[e,hc,Rat.intCast_mul,Rat.natCast_mul,show (((v:Nat):Int):Rat)=(v:Rat) from rfl];grind
 ·rw[Jx,I0];exact IJ v hn
theorem lR {u:Nat} (h:u<=4096) (i:Nat):u ^ i<=2 ^ (12*i):=by
 rw[JP];exact KJ (IB h (by decide)) i
def cG (qs:List Rat) (r:Rat):List Rat:=(List.range qs.length).map fun i=>qs.getD i 0 / bW r i
theorem jN (qs:List Rat) (r:Rat):(cG qs r).length=qs.length:=by simp[cG]
theorem lU (qs:List Rat) (r:Rat) {i:Nat} (h:i<qs.length):(cG qs r).getD i 0=qs.getD i 0 / bW r i:=by
 unfold cG;rw[IK,J6,List.getElem?_range h];rfl
section
variable {r : Rat} {u v : Nat}
theorem yE (h:r=(u:Rat) / (v:Rat)) (hv:0<v) (hu4:u<=4096) (hv4:v<=4096) {i:Nat} (hi:i<=7):okQ (bW r i):=by
 rw[qF h hv];exact uf.ok (I9 hv) (bQ (lR hv4 i) (by omega)) (bQ (lR hu4 i) (by omega))
theorem wR (h:r=(u:Rat) / (v:Rat)) (hv:0<v) (hu4:u<=4096) (hv4:v<=4096) (hr:okQ r):∀ i,i<=7->kE (tq r) i=tq (bW r i)
 | 0,_=>kH.symm
 | i+1,hi=>by
  rw[kE,wR h hv hu4 hv4 hr i (by omega),iR (yE h hv hu4 hv4 (by omega)) hr (yE (i:=i+1) h hv hu4 hv4 hi)];rfl
theorem nH (h:r=(u:Rat) / (v:Rat)) (hu:0<u) (hv:0<v) (hu4:u<=4096) (hv4:v<=4096) {b:List ByteArray}{qs:List Rat} (pb:eR b qs) (h1:qs.getD 0 0=1) (hl:0<qs.length):rE 168 (cG qs r):=by
 obtain⟨D,hD,hDl,ov⟩:=pb.ov;refine⟨?_,D*u ^ 6,IH hD (I9 hu),IB (aV (a:=84) (b:=12*6) (c:=84+12*6) hDl (lR hu4 6) rfl) (fq (by decide)),fun q hq=>?_⟩
 ·rw[lU _ _ hl,h1];show (1:Rat) / 1=1;grind
 ·obtain⟨i,hi,rfl⟩:=Kv.1 hq;have hi7:i<qs.length:=JG.1 hi;have hi6:i<=6:=by have:=pb.len;omega
  have o1:=Hc (ov _ (eE hi7)) (qF h hv i) hD (I9 hu) (I9 hv);have o2:=o1.wide (u ^ (6-i)) (IH hD (I9 hu)) (I9 hu);rw[Jz D,<-JX,Nat.add_sub_of_le hi6] at o2;refine o2.mono ?_;have s1:=aV (a:=96) (b:=12*i) (c:=96+12*i) (Iw (2 ^ 96)) (lR hv4 i) rfl;exact IB (aV s1 (lR hu4 (6-i)) rfl) (fq (by omega))
theorem ts (h:r=(u:Rat) / (v:Rat)) (hu:0<u) (hv:0<v) (hu4:u<=4096) (hv4:v<=4096) (hr:okQ r) {b:List ByteArray}{qs:List Rat} (pb:eR b qs) (h1:qs.getD 0 0=1) (hl:0<qs.length) :
  cU b (tq r)=(bg (qs.length-1) (cG qs r)).isSome:=by
 have hs:=nH h hu hv hu4 hv4 pb h1 hl;have h7:=pb.len;have hbl:b.length=qs.length:=by rw[pb.e,IX]
 have ok:∀ q∈cG qs r,okQ q:=qX hs (by decide)
 have e:dH b (tq r)=(cG qs r).map tq:=by
  unfold dH cG;rw[List.map_map,hbl];refine Lo fun i hi=>?_;have hi7:i<qs.length:=JG.1 hi
  have hne:bW r i≠0:=by
   rw[qF h hv i];have k1:=aO (I9 (n:=i) hu);have k2:=aO (I9 (n:=i) hv);grind
  rw[pb.e,ld hi7,wR h hv hu4 hv4 hr i (by omega),jB (pb.ok _ (eE hi7)) (yE h hv hu4 hv4 (by omega)) hne (ok _ (Kv.2 ⟨i,hi,rfl⟩))];rfl
 unfold cU bA;rw[e,IX,jN];obtain⟨n,hn⟩:∃ n,qs.length=n+1:=⟨qs.length-1,by omega⟩;rw[hn,JC]
 have h5:n=0\/(168+1)*2 ^ (n-1)<=6600:=by
  rcases Jd n with h | h
  ·exact Or.inl h
  ·have:2 ^ (n-1)<=2 ^ 5:=fq (by omega);exact Or.inr (by omega)
 exact qG n _ 168 _ (by rw[jN,hn]) hs h5 (by simp)
end
end Go.Proofs.YtlhpcoelfhjomaaGreatDoor
