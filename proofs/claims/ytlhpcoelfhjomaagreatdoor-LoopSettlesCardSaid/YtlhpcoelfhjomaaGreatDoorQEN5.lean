/- L -/
import Derived.Test.YtlhpcoelfhjomaaGreatDoorQLP3
import Derived.Test.YtlhpcoelfhjomaaGreatDoorQRS6
import Derived.Test.YtlhpcoelfhjomaaGreatDoorQLB4
set_option linter.all false
set_option maxRecDepth 100000
set_option maxHeartbeats 8000000
namespace Go.Proofs.YtlhpcoelfhjomaaGreatDoor
open Go.RowKit Dg
theorem wO (v:Value) (x:List ByteArray) (w:World) (hl:IsS w v x) (hlen:x.length<1000000000) :
  Calls Tryz.prog 51 #[v] w fun e w'=>e=.returned (.bool (fQ x))/\Below w.heap.size w w':=by
 obtain⟨p,c,rfl,hc1,hc2⟩:=hl.form;have HL:=Ip hl;clear hl;go_enter Tryz.func51,Tryz.ntmps51;go_wp2;go_loopw [3] (fun s3 wr=>∃ (i:Nat),s3=.int .i64 i/\i<=x.length/\Below w.heap.size w wr/\Hid (fQ (x.take i)=true)) (fun s3 _=>x.length-(intOf s3).toNat)
 case atStart=>exact⟨0,rfl,IF _,LN _ _,Ip rfl⟩
 case round =>
  obtain⟨i,rfl,hin,hbr,hall⟩:=hrel;by_cases hi:i<x.length
  ·obtain⟨b,o,rfl,hlt,hcell⟩:=IsS.get (HL.out.below hbr) (i:=i) hi;rw[fG hi] at hcell;have hst:=Ip (xQ hi);have hbd:=Ip (fun h=>AQ hi h);generalize aD x i=s at hcell hst hbd;go_wp2_with fail
   refine (uZ s wr).mono ?_;rintro e w2 ⟨rfl,hb2⟩;have hB2:=LK hbr hb2;obtain⟨ok,hok⟩:∃ ok,ok=bU s.data.toList:=⟨_,rfl⟩;rw[<-hok] at hst hbd |-;clear hok hb2 hbr hcell
   cases ok with
   | false =>
    have hf:=hbd.out rfl;have HF:=Ip hf;clear hf;go_wp2;refine LM (v:=.bool false) (by simp[results,Tryz.results51,go_sem]) rfl ⟨by rw[HF.out],hB2⟩
   | true =>
    have hn:fQ (x.take (i+1))=true:=by rw[hst.out,hall.out];rfl
    have HN:=Ip hn;clear hn;go_wp2;go_roundw;case rel=>exact⟨i+1,by go_num,by omega,hB2,HN⟩
    case measure=>first | (simp[intOf];done) | (simp[intOf];omega)
  ·have hin':i=x.length:=by omega
   subst hin';clear hi;have hh:=hall.out;rw[IZ] at hh;have HH:=Ip hh;clear hh;go_wp2;refine LM (v:=.bool true) (by simp[results,Tryz.results51,go_sem]) rfl ⟨by rw[HH.out],hbr⟩
theorem inRq (n low high:Int) (w:World) :
  Calls Tryz.prog 50 #[.int .i64 n,.int .i64 low,.int .i64 high] w fun e w'=>e=.returned (.bool (decide (low<=n)&&decide (n<=high)))/\w'=w:=by
 by_cases h:low<=n
 ·have hd:decide (low<=n)=true:=by simp;omega
  go_enter Tryz.func50,Tryz.ntmps50;go_wp2;go_ret;exact⟨by simp[hd],rfl⟩
 ·have hd:decide (low<=n)=false:=by simp;omega
  go_enter Tryz.func50,Tryz.ntmps50;go_wp2;go_ret;exact⟨by simp[hd],rfl⟩
theorem uU (a b:List ByteArray):aC a b=((decide ((1:Int)<=(a.length:Int))&&decide ((a.length:Int)<=7))&&(decide ((1:Int)<=(b.length:Int))&&decide ((b.length:Int)<=7))&&fQ a&&fQ b&&decide (pU b=some [49])):=by
 unfold aC gQ fQ
 rw[show decide ((1:Int)<=(a.length:Int))=decide (1<=a.length) from decide_eq_decide.2 (by omega),show decide ((a.length:Int)<=7)=decide (a.length<=7) from decide_eq_decide.2 (by omega),
  show decide ((1:Int)<=(b.length:Int))=decide (1<=b.length) from decide_eq_decide.2 (by omega),show decide ((b.length:Int)<=7)=decide (b.length<=7) from decide_eq_decide.2 (by omega)]
 generalize decide (1<=a.length)=x1;generalize decide (a.length<=7)=x2;generalize decide (1<=b.length)=x3;generalize decide (b.length<=7)=x4;generalize a.all _=x5;generalize b.all _=x6;generalize decide (pU b=some [49])=x7
 cases x1<;>cases x2<;>cases x3<;>cases x4<;>cases x5<;>cases x6<;>cases x7<;>rfl
theorem qP (v:Value) (a b:List ByteArray) (w:World) (hF:IsF w v a b) :
  Calls Tryz.prog 15 #[v] w fun e w'=>e=.returned (.int .i64 (aB a b))/\Below w.heap.size w w':=by
 obtain⟨p,c,q,d,rfl,hfa,hfb⟩:=id hF.ex;go_enter Tryz.func15,Tryz.ntmps15;go_upto_region 1 with fail
 have hl:=bL w (.cells #[.slice p a.length c,.slice q b.length d] 24);have HA:=hfa.below hl.below;have HB':=hfb.below hl.below;have HB:=hl.below;have s0:=hl.s0;have CHK:=Ip (uU a b);clear hF hfa hfb hl;generalize w.alloc (.cells #[.slice p a.length c,.slice q b.length d] 24)=w1 at *
 have q0:=af s0 0;have q1:=af s0 1;go_wp2_with fail
 refine (inRq a.length 1 7 w1).mono ?_;rintro e w2 ⟨rfl,rfl⟩;rename World=>w2;have HI1:=Ip (show (decide ((1:Int)<=(a.length:Int))&&decide ((a.length:Int)<=7))=true->a.length<1000000000 from fun h=>by simp at h;omega);generalize (decide ((1:Int)<=(a.length:Int))&&decide ((a.length:Int)<=7))=i1 at *
 cases i1 with
 | false =>
  have he:aB a b=30:=by unfold aB;rw[CHK.out];simp
  have HE:=Ip he;clear he;go_wp2;refine LM (v:=.int .i64 30) (by simp[results,Tryz.results15,go_sem]) rfl ⟨by rw[HE.out],HB⟩
 | true =>
  go_wp2_with fail
  refine (inRq b.length 1 7 w2).mono ?_;rintro e w3 ⟨rfl,rfl⟩;rename World=>w3;have HI2:=Ip (show (decide ((1:Int)<=(b.length:Int))&&decide ((b.length:Int)<=7))=true->0<b.length/\b.length<1000000000 from fun h=>by simp at h;omega);generalize (decide ((1:Int)<=(b.length:Int))&&decide ((b.length:Int)<=7))=i2 at *
  cases i2 with
  | false =>
   have he:aB a b=30:=by unfold aB;rw[CHK.out];simp
   have HE:=Ip he;clear he;go_wp2;refine LM (v:=.int .i64 30) (by simp[results,Tryz.results15,go_sem]) rfl ⟨by rw[HE.out],HB⟩
  | true =>
   obtain⟨hb0,hb7⟩:=HI2.out (by first | trivial | rfl);have ha7:=HI1.out (by first | trivial | rfl);go_wp2_with fail
   refine (wO _ a w3 HA ha7).mono ?_;rintro e w4 ⟨rfl,hb4⟩;replace HB':=HB'.below hb4;replace HB:=LK HB hb4;replace s0:=(hb4.block _ (ah s0)).trans s0;clear q0 q1 hb4 HA;have q0:=af s0 0;have q1:=af s0 1;generalize fQ a=i3 at *
   cases i3 with
   | false =>
    have he:aB a b=30:=by unfold aB;rw[CHK.out];simp
    have HE:=Ip he;clear he;go_wp2;refine LM (v:=.int .i64 30) (by simp[results,Tryz.results15,go_sem]) rfl ⟨by rw[HE.out],HB⟩
   | true =>
    go_wp2_with fail
    refine (wO _ b w4 HB' hb7).mono ?_;rintro e w5 ⟨rfl,hb5⟩;replace HB':=HB'.below hb5;replace HB:=LK HB hb5;replace s0:=(hb5.block _ (ah s0)).trans s0;clear q0 q1 hb5;have q0:=af s0 0;have q1:=af s0 1;generalize fQ b=i4 at *
    cases i4 with
    | false =>
     have he:aB a b=30:=by unfold aB;rw[CHK.out];simp
     have HE:=Ip he;clear he;go_wp2;refine LM (v:=.int .i64 30) (by simp[results,Tryz.results15,go_sem]) rfl ⟨by rw[HE.out],HB⟩
    | true =>
     obtain⟨bb,ob,rfl,hlt,hcell⟩:=HB'.get (i:=0) hb0;have hcell:w5.cell? ⟨bb,ob,none⟩=some (.string b[0]):=by simpa using hcell
     have HH:=Ip (tV hb0);generalize b[0]=s at hcell HH;by_cases hs:s.data.toList=[49]
     ·have hd:(s.toList == [49])=true:=by rw[aw,hs];rfl
      have he:aB a b=0:=by unfold aB;rw[CHK.out,HH.out,decide_eq_true hs];rfl
      have HE:=Ip he;clear he hs;go_wp2;refine LM (v:=.int .i64 0) (by simp[results,Tryz.results15,go_sem]) rfl ⟨by rw[HE.out],HB⟩
     ·have hd:(s.toList == [49])=false:=by rw[aw];exact beq_eq_false_iff_ne.2 hs
      have he:aB a b=30:=by unfold aB;rw[CHK.out,HH.out,decide_eq_false hs];rfl
      have HE:=Ip he;clear he hs;go_wp2;refine LM (v:=.int .i64 30) (by simp[results,Tryz.results15,go_sem]) rfl ⟨by rw[HE.out],HB⟩
def Co (qs:List Rat) (w:World) (e:Ending) (w':World):Prop :=
 ∃ v ok,e=.returned (.tuple #[v,.bool ok])/\((∃ l,bg (qs.length-1) qs=some l/\ok=true/\jw w' v l)\/(bg (qs.length-1) qs=none/\ok=false/\v=.slice none 0 0))/\Below w.heap.size w w'
theorem cZ {q:Rat} (h:okQ q):Sz 2000 (rt q):=⟨(DQ h).1,dQ _,(DQ h).2⟩
theorem yG {n j:Nat}{qs p l:List Rat} (h:bg n qs=(bg (j+1) p).map fun x=>x++l.reverse) (h1:-1<p.getD (j+1) 0) (h2:p.getD (j+1) 0<1) :
  bg n qs=(bg j (ew p (j+1) (p.getD (j+1) 0))).map fun x=>x++(l++[p.getD (j+1) 0]).reverse:=by
 rw[h,bg,if_pos ⟨h1,h2⟩,Option.map_map];congr 1;funext x;simp
theorem yH {n j:Nat}{qs p l:List Rat} (h:bg n qs=(bg (j+1) p).map fun x=>x++l.reverse) (h1:(decide (-1<p.getD (j+1) 0)&&decide (p.getD (j+1) 0<1))=false):bg n qs=none:=by
 rw[h,bg,if_neg]
 ·rfl
 ·rintro⟨a,b⟩;rw[decide_eq_true a,decide_eq_true b] at h1
  cases h1
def iJ (p:List Rat) (j:Nat):Prop:=∃ e,rE e p/\(j=0\/(e+1)*2 ^ (j-1)<=6600)
theorem iJ.of {p:List Rat}{e j:Nat} (h:rE e p) (h2:(e+1)*2 ^ j<=6600):iJ p j:=by
 refine⟨e,h,?_⟩;rcases Jd j with h0 | h0
 ·exact Or.inl h0
 ·have:=IV (e+1) (show 2 ^ (j-1)<=2 ^ j from IQ (by decide) (by omega));exact Or.inr (by omega)
theorem iJ.ok {p:List Rat}{j:Nat} (h:iJ p (j+1)):∀ q∈p,okQ q:=by
 obtain⟨e,h1,h2⟩:=h;have h3:(e+1)*2 ^ j<=6600:=by rcases h2 with h2 | h2;omega;exact h2
 have:=J8 (e+1) (Nat.two_pow_pos j);exact qX h1 (by omega)
theorem iJ.next {p:List Rat}{j:Nat} (h:iJ p (j+1)) (hl:p.length=j+2) (h1:-1<p.getD (j+1) 0) (h2:p.getD (j+1) 0<1):iJ (ew p (j+1) (p.getD (j+1) 0)) j:=by
 obtain⟨e,g1,g2⟩:=h
 match j,hl,h1,h2,g2 with
 | 0,hl,h1,h2,_ =>
  have hd:=nJ h1 h2
  have e1:ew p (0+1) (p.getD (0+1) 0)=[1]:=by
   show [(p.getD 0 0-p.getD 1 0*p.getD 1 0) / (1-p.getD 1 0*p.getD 1 0)]=[1]
   rw[g1.one]
   congr 1
   grind
  rw[e1]
  exact⟨1,⟨rfl,1,by decide,by decide,fun q hq=>by rw[Jj.1 hq];exact⟨1,by decide +kernel,by decide⟩⟩,Or.inl rfl⟩
 | i+1,hl,h1,h2,g2 =>
  have g3:(e+1)*2 ^ (i+1)<=6600:=by rcases g2 with g2 | g2;omega;exact g2
  obtain⟨f1,f2⟩:=GS g3
  exact⟨_,(tY g1 hl f1 h1 h2).2,Or.inr f2⟩
theorem GA {a b:Rat}{k l:Nat} (ha:Sz k (rt a)) (hb:Sz l (rt b)):Sz (k+l+1) (rt (a-b)):=by
 have h:=ha.plus hb.neg;rw[gq,gE] at h;rw[show a-b=a+-b by grind];exact h
theorem GB {a b:Rat}{k l:Nat} (ha:Sz k (rt a)) (hb:Sz l (rt b)):Sz (k+l) (rt (a*b)):=by
 rw[<-gU];exact ha.mul hb
theorem xF {a:Rat}{k:Nat} (ha:Sz k (rt a)) (h:a≠0):Sz k (rt a⁻¹):=by
 rw[<-zP h];refine ha.inv ?_;rcases Jd (rt a).n with h0 | h0
 ·exact absurd ((bB _).1 h0) h
 ·exact h0
theorem ft {w:World}{g:Nat}{vs:Array Value}{T:TypeId} (h:w.heap[g]?=some (.cells vs T (0,0))) (i:Nat) {v:Value} (hv:vs[i]?=some v) (z:az w.heap.size w):z.w.cell? ⟨g,i,none⟩=some v :=
 (af ((z.h.block _ (ah h)).trans h) i).trans hv
theorem iS {w:World}{b o:Nat}{v:Value} (h:w.cell? ⟨b,o,none⟩=some v) (hlt:b<w.heap.size) (z:az w.heap.size w):z.w.cell? ⟨b,o,none⟩=some v:=ag z.h hlt h
theorem yw (p:List Rat) (j:Nat) (k:Rat) {i:Nat} (h:i<j):(ew p j k).take (i+1)=(ew p j k).take i++[(1-k*k)⁻¹*(p.getD i 0-k*p.getD (j-i) 0)]:=by
 have hl:i<(ew p j k).length:=by rw[fT];exact h
 rw[show (ew p j k).take (i+1)=(ew p j k).take i++[(ew p j k)[i]] from (IL hl).symm];have e:(ew p j k)[i]=(ew p j k).getD i 0:=by simp[IK,II hl]
 rw[e,k8 _ _ _ _ h,Rat.div_def,Rat.mul_comm]
theorem El (v:Value) (qs:List Rat) (w:World) (hl:jw w v qs) (hpos:0<qs.length) (hlen:qs.length<1000000) (hd:iJ qs (qs.length-1)) :
  Calls Tryz.prog 70 #[v] w (Co qs w):=by
 unfold Co;obtain⟨n,hn⟩:∃ n,qs.length=n+1:=⟨qs.length-1,by omega⟩;rw[show qs.length-1=n by omega] at hd |-;have HN:=Ip hn;have HD:=Ip hd;obtain⟨pv,cv,rfl,hc1,hc2⟩:=hl.form;have HL:=Ip hl;rw[hn] at hc1 HL hlen |-;have HN32:=Ip hlen;clear hl hd hn hpos;go_enter Tryz.func70,Tryz.ntmps70;go_wp2;go_loopw [0,4,5] (fun s0 s4 s5 wr=>∃ (j:Nat) (p l:List Rat),s5=.int .i64 j/\p.length=j+1/\jw wr s0 p/\bG wr w.heap.size s4 l/\(∀ g,s4.ownBlock=some g->s0.ownBlock≠some g)/\Below w.heap.size w wr/\Hid (iJ p j)/\Hid (bg n qs=(bg j p).map fun x=>x++l.reverse)/\Hid (l.length+j=n)) (fun _ _ s5 _=>(intOf s5).toNat)
 case atStart =>
  refine⟨n,qs,[],?_,HN.out,HL.out,bG.nil _ _,?_,LN _ _,HD,Ip ?_,Ip (by simp)⟩
  ·go_num
  ·intro g h
   cases h
  ·simp
 case round =>
  obtain⟨j,p,l,rfl,hpl,hp,hown,hne,hbr,hdeep,hpq,hln⟩:=hrel
  cases j with
  | zero =>
   have HPQ:=Ip (show bg n qs=some l.reverse by rw[hpq.out];rfl);have HLN:=hln;have hb0:=hown.isQs;obtain⟨pb,cb,rfl,hb1,hb2⟩:=hb0.form;have HBK:=Ip hb0;clear hdeep hpq hln hp hown hne hpl hb0 hb1 hb2;rename World=>wo;rw[show ((0:Nat):Int)=0 from rfl];have hll:l.length<1000000:=by have:=HLN.out;omega
   go_wp2;go_loopw [10,11] (fun s10 s11 wr=>∃ m:Nat,s11=.int .i64 ((m:Int)-1)/\m<=l.length/\bG wr wo.heap.size s10 ((l.drop m).reverse)/\Below wo.heap.size wo wr) (fun _ s11 _=>((intOf s11)+1).toNat)
   case atStart =>
    refine⟨l.length,?_,Iw _,?_,LN _ _⟩
    ·first | rfl | go_num
    ·rw[K_];exact bG.nil _ _
   case round =>
    obtain⟨m,rfl,hml,hout,hbx⟩:=hrel
    cases m with
    | zero =>
     rw[IA] at hout;have hq:=hout.isQs;have hB:=LK hbr hbx;clear hout hbx;go_wp2;refine LM (v:=.tuple #[_,.bool true]) (by simp[results,Tryz.results70,go_sem]) rfl ⟨_,_,rfl,Or.inl ⟨l.reverse,HPQ.out,rfl,hq⟩,hB⟩
    | succ m =>
     obtain⟨ba,oa,rfl,hlta,xm,xa,xN,xd,xb,xM,xe,hx,x0,x1,x2,x3⟩:=(HBK.out.below hbx).get (i:=m) (by omega);have HT:=Ip (show (l.drop m).reverse=(l.drop (m+1)).reverse++[l[m]] by rw[Jr (by omega),List.reverse_cons]);generalize l[m]=x at hx HT;have m1:=aj wr (.cells #[.bool xm,.slice xa xN xd,.bool false,.slice xb xM xe] 44);have hcx:=heap_alloc_new wr (.cells #[.bool xm,.slice xa xN xd,.bool false,.slice xb xM xe] 44);have hx3:=hx.below m1;have hw3:=hout.below m1;have hB3:=LK hbx m1;have hbs:=hB3.size;have hzl:((l.drop (m+1)).reverse).length<1000000000:=by simp;omega
     clear hx hout hbx m1;go_wp2_with (at_builtin;refine cE 48 Tryz.underlying48 rfl (.tmp 67) (.tmp 72) rfl wo.heap.size _ _ xm xa xN xd xb xM xe x rfl hw3 _ rfl hcx hx3 hzl hbs ?_)
     intro v' w4 hap;have hB4:=hap.below hw3 hB3 (Iw _) hbs;have hw4:=hap.own;rw[<-HT.out] at hw4;clear hap hw3 hx3 hcx hB3 hbs hzl;go_wp2;go_roundw;case rel=>exact⟨m,by first | rfl | go_num,by omega,hw4,hB4⟩
     case measure=>first | (simp[intOf];done) | (simp[intOf];omega)
  | succ j =>
   have HD2:=hdeep;have HPQ:=hpq;have HLN:=hln;clear hdeep hpq hln;obtain⟨pa,ca,rfl,ha1,ha2⟩:=hp.form;rw[hpl] at hp ha1 hne |-;obtain⟨b,o,rfl,hlt,m,a,N,d,a',N',d',hk,c0,c1,c2,c3⟩:=hp.get (i:=j+1) (by omega);have hkm:=eE (l:=p) (k:=j+1) (by omega);have hke:p[j+1]=p.getD (j+1) 0:=by simp[IK,II,hpl]
   rw[hke] at hk;have HPL:=Ip hpl;clear hke hpl;have hok:=HD2.out.ok _ hkm;have HK2:=Ip (cZ hok);obtain⟨k,hkk⟩:∃ k,k=p.getD (j+1) 0:=⟨_,rfl⟩;rw[<-hkk] at hk HK2;have HKK:=Ip hkk;clear hkk hkm hok;go_upto_region 6 with fail
   have hl1:=bL wr (.cells #[.bool m,.slice a N d,.bool false,.slice a' N' d'] 44);have hk1:=hk.below hl1.below;have hp1:=hp.below hl1.below;have hw1:=hown.below hl1.below;have hB1:=hbr.trans (hl1.below.mono hbr.size);have s1:=hl1.s0;have hge:=hbr.size;have hgk:∀ g,u4.ownBlock=some g->g<wr.heap.size:=fun g h=>(hown.lt g h).2;clear hk hp hown hbr hl1 c0 c1 c2 c3 hlt;generalize wr.alloc (.cells #[.bool m,.slice a N d,.bool false,.slice a' N' d'] 44)=w1 at *
   generalize wr.heap.size=kb at *
   have q0:=af s1 0;have q1:=af s1 1;have q2:=af s1 2;have q3:=af s1 3;go_wp2_with fail
   refine (BI _ k 2000 w1 hk1 HK2.out (by decide)).mono ?_;rintro e w2 ⟨rfl,hb2⟩;obtain⟨is,his⟩:∃ is,is=(decide (-1<k)&&decide (k<1)):=⟨_,rfl⟩;rw[<-his];have HIS:=Ip his;have hB2:=LK hB1 hb2;have hk2:=hk1.below hb2;have hp2:=hp1.below hb2;have hw2:=hw1.below hb2;have s2:=(hb2.block _ (ah s1)).trans s1;clear his hB1 hk1 hp1 hw1 hb2 s1 q0 q1 q2 q3
   cases is with
   | false =>
    have hst:=yH HPQ.out (by rw[<-HKK.out];exact HIS.out.symm);have HST:=Ip hst;clear hst;go_wp2;refine LM (v:=.tuple #[.slice none 0 0,.bool false]) (by simp[results,Tryz.results70,go_sem]) rfl ⟨_,_,rfl,Or.inr ⟨HST.out,rfl,rfl⟩,hB2⟩
   | true =>
    have hk12:-1<k/\k<1:=by
     have:=HIS.out;simp at this;exact this
    have HI:=Ip hk12;have HDN:=Ip (HD2.out.next HPL.out (by rw[<-HKK.out];exact hk12.1) (by rw[<-HKK.out];exact hk12.2));have HPN:=Ip (yG HPQ.out (by rw[<-HKK.out];exact hk12.1) (by rw[<-HKK.out];exact hk12.2));rw[<-HKK.out] at HDN HPN;clear hk12 HIS HPQ;have q0:=af s2 0;have q1:=af s2 1;have q2:=af s2 2;have q3:=af s2 3;go_upto_region 8 with fail
    have hl3:=bL w2 (.cells #[.bool m,.slice a N d,.bool false,.slice a' N' d'] 44);have hcx:=heap_alloc_new w2 (.cells #[.bool m,.slice a N d,.bool false,.slice a' N' d'] 44);have hk3:=hk2.below hl3.below;have hp3:=hp2.below hl3.below;have hw3:=hw2.below hl3.below;have hB3:=hB2.trans (hl3.below.mono hB2.size);have s3:=(hl3.below.block _ (ah s2)).trans s2;have hbs:=hB3.size;have hzl:l.length<1000000000:=by have:=HLN.out;omega
    clear hk2 hp2 hw2 hB2 s2 hl3 ;go_wp2_with (at_builtin;refine cE 48 Tryz.underlying48 rfl (.tmp 26) (.tmp 28) rfl w.heap.size _ _ m a N d a' N' d' k rfl hw3 _ rfl hcx hk3 hzl hbs ?_)
    intro v4 w4 hap;have hB4:=hap.below hw3 hB3 (Iw _) hbs;have hw4:=hap.own;have hp4:=hap.row hp3 hne;have hk4:=hap.keep hk3;have s4:=(hap.grown.block kb (ah s3) (fun e=>by have:=hgk kb e.symm;omega)).trans s3;clear hap hp3 hw3 hk3 hB3 s3 hcx hbs hzl q0 q1 q2 q3 hge hne;have HSM:=Ip (show Sz 4000 (rt (k*k)) from by rw[<-gU];exact HK2.out.mul HK2.out)
    have HSI:=Ip (show Sz 4002 (rt (1-k*k)) from by
     have h:=mY.plus HSM.out.neg;rw[gq,gE] at h;rw[show 1-k*k=1+-(k*k) by grind]
     exact h.mono (by decide))
    have HNZ:=Ip (show 1-k*k≠0 from by have:=nJ HI.out.1 HI.out.2;grind);go_upto_region 9 with fail
    go_cut [7] from 30 to 35 (fun s7 wx=>∃ g m a N d a' N' d',s7=.pointer (some ⟨g,0,none⟩)/\wx.heap[g]?=some (.cells #[.bool m,.slice a N d,.bool false,.slice a' N' d'] 44 (0,0))/\b9 wx (.agg #[.bool m,.slice a N d,.bool false,.slice a' N' d']) ((1-k*k)⁻¹)/\Below w4.heap.size w4 wx)
    case first =>
     have hBd:Below w4.heap.size w4 w4.drew:=(LN _ _).drew;refine wp_mono (ax (Q:=aP _) (fun wx:World=>Below w4.drew.heap.size w4.drew wx) (fun i=>i == 7) (by kernel_rfl) ?_) (fun _ _ _ h=>aY h);have hBB:Below w4.drew.heap.size w4.drew w4.drew:=LN _ _;have hQ:=hk4.below hBd;have HE:=Ip ((hBd.block _ (ah s4)).trans s4);have hlt:kb<w4.drew.heap.size:=ah HE.out;have HBd:=Ip hBd;clear hBd hk4 hp4 hw4 hB4 s4;generalize w4.drew=wn at *
     refine ay (i:=1) (v:=?vv1) rfl (by kernel_rfl) (fun _ _ _ h=>h) rfl hBB ?hy1 ?rest1
     case hy1 =>
      intro wy hy;have e0:=af ((hy.block _ hlt).trans HE.out) 0;have e1:=af ((hy.block _ hlt).trans HE.out) 1;have e2:=af ((hy.block _ hlt).trans HE.out) 2;have e3:=af ((hy.block _ hlt).trans HE.out) 3;clear hy;go_simp;try with_reducible rfl
     refine ay (i:=2) (v:=?vv2) rfl (by kernel_rfl) (fun _ _ _ h=>h) rfl hBB ?hy2 ?rest2
     case hy2 =>
      intro wy hy;have e0:=af ((hy.block _ hlt).trans HE.out) 0;have e1:=af ((hy.block _ hlt).trans HE.out) 1;have e2:=af ((hy.block _ hlt).trans HE.out) 2;have e3:=af ((hy.block _ hlt).trans HE.out) 3;clear hy;go_simp;try with_reducible rfl
     try simp only[Act.put,It,Is,Ir,Iq,Iu,Iv]
     clear hlt HE;have hs4:=HBd.out.size;have hsz:=Iw wn.heap.size;refine dN (i:=0) (i':=6) rfl rfl (by kernel_rfl) rfl rfl (fun K hK=>?n0) (fun K hK=>?d0)
     case' n0 =>
      go_simp;refine (BD wn).mono ?_;rintro e wn ⟨vO,rfl,hO,hb⟩;obtain⟨mO,pO,NO,cO,pO',NO',cO',rfl⟩:=hO.forms;replace hQ:=hQ.below hb;have hBn:=hBB.trans (hb.mono hsz);replace hsz:=IB hsz hb.size;clear hBB;have hBB:=hBn;clear hBn;try replace hr:=(hb.block _ (ah hr)).trans hr
      refine hK _ _ (fun _ _=>hBB) ?_;clear hK K hb;try simp only[Act.put,It,Is,Ir,Iq,Iu,Iv]
      refine dN (i:=3) (i':=6) rfl rfl (by kernel_rfl) rfl rfl (fun K hK=>?n3) (fun K hK=>?d3)
      case' n3 =>
       go_simp;refine (eY _ _ k k 2000 2000 wn hQ hQ HK2.out HK2.out (by decide)).mono ?_;rintro e wn ⟨vM,rfl,hM,hb⟩;obtain⟨mM,pM,NM,cM,pM',NM',cM',rfl⟩:=hM.forms;replace hQ:=hQ.below hb;replace hO:=hO.below hb;have hBn:=hBB.trans (hb.mono hsz);replace hsz:=IB hsz hb.size;clear hBB;have hBB:=hBn;clear hBn;try replace hr:=(hb.block _ (ah hr)).trans hr
       refine hK _ _ (fun _ _=>hBB) ?_;clear hK K hb;try simp only[Act.put,It,Is,Ir,Iq,Iu,Iv]
       refine dN (i:=4) (i':=6) rfl rfl (by kernel_rfl) rfl rfl (fun K hK=>?n4) (fun K hK=>?d4)
       case' n4 =>
        go_simp;refine (qJ _ _ 1 (k*k) 1 4000 wn hO hM mY HSM.out (by decide)).mono ?_;rintro e wn ⟨vI,rfl,hI,hb⟩;obtain⟨mI,pI,NI,cI,pI',NI',cI',rfl⟩:=hI.forms;clear hO hM;have hBn:=hBB.trans (hb.mono hsz);replace hsz:=IB hsz hb.size;clear hBB;have hBB:=hBn;clear hBn;try replace hr:=(hb.block _ (ah hr)).trans hr
        refine hK _ _ (fun _ _=>hBB) ?_;clear hK K hb;try simp only[Act.put,It,Is,Ir,Iq,Iu,Iv]
        refine dN (i:=5) (i':=6) rfl rfl (by kernel_rfl) rfl rfl (fun K hK=>?n5) (fun K hK=>?d5)
        case' n5 =>
         go_simp;refine (mP _ (1-k*k) 4002 wn hI HNZ.out HSI.out (by decide)).mono ?_;rintro e wn ⟨vV,rfl,hV,hb⟩;obtain⟨mV,pV,NV,cV,pV',NV',cV',rfl⟩:=hV.forms;clear hI;have hBn:=hBB.trans (hb.mono hsz);replace hsz:=IB hsz hb.size;clear hBB;have hBB:=hBn;clear hBn;try replace hr:=(hb.block _ (ah hr)).trans hr
         refine hK _ _ (fun _ _=>hBB) ?_;clear hK K hb;try simp only[Act.put,It,Is,Ir,Iq,Iu,Iv]
         refine ar (i:=6) rfl (by kernel_rfl) rfl (fun K hK=>?d6)
     all_goals
      go_simp;have hla:=bL wn (.cells #[.bool false,.slice none 0 0,.bool false,.slice none 0 0] 44);have hlb:=hla.below;have hr:=hla.s0;have hgd:=hsz;clear hla;try replace hQ:=hQ.below hlb
      try replace hO:=hO.below hlb
      try replace hM:=hM.below hlb
      try replace hI:=hI.below hlb
      try replace hV:=hV.below hlb
      have hBn:=hBB.trans (hlb.mono hsz);replace hsz:=IB hsz hlb.size;clear hBB;have hBB:=hBn;clear hBn;try replace hr:=(hlb.block _ (ah hr)).trans hr
      refine hK _ _ (fun _ _=>hBB) ?_;clear hK K hlb;try simp only[Act.put,It,Is,Ir,Iq,Iu,Iv]
      generalize World.alloc wn (.cells #[.bool false,.slice none 0 0,.bool false,.slice none 0 0] 44)=wq at *
      generalize (World.heap wn).size=g7 at *
      rename World=>wn
     case' d0 =>
      refine ar (i:=0) rfl (by kernel_rfl) rfl (fun K hK=>?_);go_simp;refine (BD wn).mono ?_;rintro e wn ⟨vO,rfl,hO,hb⟩;obtain⟨mO,pO,NO,cO,pO',NO',cO',rfl⟩:=hO.forms;replace hQ:=hQ.below hb;have hBn:=hBB.trans (hb.mono hsz);replace hsz:=IB hsz hb.size;clear hBB;have hBB:=hBn;clear hBn;try replace hr:=(hb.block _ (ah hr)).trans hr
      refine hK _ _ (fun _ _=>hBB) ?_;clear hK K hb;try simp only[Act.put,It,Is,Ir,Iq,Iu,Iv]
     case' d0 | d3 =>
      refine ar (i:=3) rfl (by kernel_rfl) rfl (fun K hK=>?_);go_simp;refine (eY _ _ k k 2000 2000 wn hQ hQ HK2.out HK2.out (by decide)).mono ?_;rintro e wn ⟨vM,rfl,hM,hb⟩;obtain⟨mM,pM,NM,cM,pM',NM',cM',rfl⟩:=hM.forms;replace hQ:=hQ.below hb;replace hO:=hO.below hb;have hBn:=hBB.trans (hb.mono hsz);replace hsz:=IB hsz hb.size;clear hBB;have hBB:=hBn;clear hBn;try replace hr:=(hb.block _ (ah hr)).trans hr
      refine hK _ _ (fun _ _=>hBB) ?_;clear hK K hb;try simp only[Act.put,It,Is,Ir,Iq,Iu,Iv]
     case' d0 | d3 | d4 =>
      refine ar (i:=4) rfl (by kernel_rfl) rfl (fun K hK=>?_);go_simp;refine (qJ _ _ 1 (k*k) 1 4000 wn hO hM mY HSM.out (by decide)).mono ?_;rintro e wn ⟨vI,rfl,hI,hb⟩;obtain⟨mI,pI,NI,cI,pI',NI',cI',rfl⟩:=hI.forms;clear hO hM;have hBn:=hBB.trans (hb.mono hsz);replace hsz:=IB hsz hb.size;clear hBB;have hBB:=hBn;clear hBn;try replace hr:=(hb.block _ (ah hr)).trans hr
      refine hK _ _ (fun _ _=>hBB) ?_;clear hK K hb;try simp only[Act.put,It,Is,Ir,Iq,Iu,Iv]
     case' d0 | d3 | d4 | d5 =>
      refine ar (i:=5) rfl (by kernel_rfl) rfl (fun K hK=>?_);go_simp;refine (mP _ (1-k*k) 4002 wn hI HNZ.out HSI.out (by decide)).mono ?_;rintro e wn ⟨vV,rfl,hV,hb⟩;obtain⟨mV,pV,NV,cV,pV',NV',cV',rfl⟩:=hV.forms;clear hI;have hBn:=hBB.trans (hb.mono hsz);replace hsz:=IB hsz hb.size;clear hBB;have hBB:=hBn;clear hBn;try replace hr:=(hb.block _ (ah hr)).trans hr
      refine hK _ _ (fun _ _=>hBB) ?_;clear hK K hb;try simp only[Act.put,It,Is,Ir,Iq,Iu,Iv]
     all_goals
      have q0:=af hr 0;have q1:=af hr 1;have q2:=af hr 2;have q3:=af hr 3;have f0:=LL wn g7 0 _ _ hr;have f1:=LL wn g7 1 _ _ hr;have f2:=LL wn g7 2 _ _ hr;have f3:=LL wn g7 3 _ _ hr;have hP:=aR (u0:=.bool mV) (u1:=.slice pV NV cV) (u2:=.bool false) (u3:=.slice pV' NV' cV') hr;refine ar (i:=7) rfl (by kernel_rfl) rfl (fun K hK=>?_);go_simp;change K _ (dL wn g7 (.bool mV) (.slice pV NV cV) (.bool false) (.slice pV' NV' cV'));refine hK _ _ (fun h=>by cases h) ?_;clear hK K q0 q1 q2 q3 f0 f1 f2 f3;refine aF (by kernel_rfl) ?_ _;simp only[aP];have hrow:=hP.row;have hZ:=cW.puts hV hP hr bf;have hBP:=hBB.trans (hP.below _ hgd);clear hP hr hV hQ hBB;try go_wp2
      go_meet;exact⟨g7,mV,pV,NV,cV,pV',NV',cV',rfl,hrow,hZ,HBd.out.trans (hBP.mono hs4)⟩
    case rest =>
     obtain⟨gb,m2,a2,N2,d2,b2,M2,e2,rfl,hbx,hbq,hB45⟩:=hcut;rename World=>w5;have hp5:=hp4.below hB45;have hw5:=hw4.below hB45;have hk5:=hk4.below hB45;have s5:=(hB45.block _ (ah s4)).trans s4;have hB5:=LK hB4 hB45;have HSV:=Ip (xF HSI.out HNZ.out);clear hp4 hw4 hk4 s4 hB4 hB45 HSI HNZ hgk;have hjb:j+1<1000000:=by have:=HLN.out;omega
     go_wp2;go_loopw [8,9] (fun s8 s9 wr=>∃ i:Nat,s9=.int .i64 i/\i<=j+1/\bG wr w5.heap.size s8 ((ew p (j+1) k).take i)/\Below w5.heap.size w5 wr) (fun _ s9 _=>j+1-(intOf s9).toNat)
     case atStart=>exact⟨0,rfl,IF _,bG.nil _ _,LN _ _⟩
     case round =>
      obtain⟨i,rfl,hin,hownn,hbr⟩:=hrel;by_cases hi:i<j+1
      ·obtain⟨ba,oa,eqa,hlta,xm,xa,xN,xd,xb,xM,xe,hx,x0,x1,x2,x3⟩:=hp5.get (i:=i) (by rw[HPL.out];omega);obtain⟨bb,ob,eqb,hltb,ym,ya,yN,yd,yb,yM,ye,hy,y0,y1,y2,y3⟩:=hp5.get (i:=j+1-i) (by rw[HPL.out];omega);obtain⟨rfl,rfl⟩:ba=b/\oa=o:=by simpa using eqa.symm
       obtain⟨rfl,rfl⟩:bb=ba/\ob=oa:=by simpa using eqb.symm
       have hji:j+1-i<p.length:=by rw[HPL.out];omega
       have hpi:i<p.length:=by rw[HPL.out];omega
       rw[show p[i]=p.getD i 0 by simp[IK,II hpi]] at hx;rw[show p[j+1-i]=p.getD (j+1-i) 0 by simp[IK,II hji]] at hy;have HX2:=Ip (cZ (HD2.out.ok _ (eE hpi)));have HY2:=Ip (cZ (HD2.out.ok _ (eE hji)));have HT:=Ip (yw p (j+1) k hi);generalize p.getD i 0=x at hx HX2 HT;generalize p.getD (j+1-i) 0=y at hy HY2 HT;have HMY:=Ip (GB HK2.out HY2.out);have HMM:=Ip (GA HX2.out HMY.out);clear eqa eqb hji hpi hltb;have hijI:((j+1-i:Nat):Int)=(j:Int)+1-(i:Int):=by omega
       have hdI:decide ((i:Int)<(j:Int)+1)=true:=decide_eq_true (by omega);go_upto_region 14 with fail
       clear hdI;have hBw:Below w5.heap.size w5 wr.drew:=hbr.trans ((LN _ _).drew.mono hbr.size);have hon:=hownn.below (below_drewN (LN _ _) 1);refine av (fun w'=>∃ z:az w5.heap.size w5,w'=z.w) (fun i=>i == 13||i == 14||i == 15||i == 16||i == 17) (by kernel_rfl) (by kernel_rfl) ⟨⟨_,hBw⟩,rfl⟩ ?_;change bG wr.drew _ _ _ at hon;generalize wr.drew=wd at *
       have g0:=ft hbx 0 rfl;have g1:=ft hbx 1 rfl;have g2:=ft hbx 2 rfl;have g3:=ft hbx 3 rfl;have k0:=ft s5 0 rfl;have k1:=ft s5 1 rfl;have k2:=ft s5 2 rfl;have k3:=ft s5 3 rfl;have r0:=iS x0 hlta;have r1:=iS x1 hlta;have r2:=iS x2 hlta;have r3:=iS x3 hlta;have t0:=iS y0 hlta;have t1:=iS y1 hlta;have t2:=iS y2 hlta;have t3:=iS y3 hlta;have hsub:((j:Int)+1-(i:Int)).toNat=j+1-i:=by omega
       have HON:=Ip hon;have HBW:=Ip hBw;have HKI:=Ip hk5;have HXI:=Ip hx;have HYI:=Ip hy;have HVI:=Ip hbq;clear x0 x1 x2 x3 y0 y1 y2 y3 hon hBw hownn hbr hijI;refine ak 13 0 _ _ _ (by kernel_rfl) ?_;simp only[Ix,IC,Iy,IA];repeat (go_big_quiet_step (fail))
       refine wpQuiet_nil ?_;clear g0 g1 g2 g3 k0 k1 k2 k3 r0 r1 r2 r3 t0 t1 t2 t3 hsub;refine ap rfl rfl (fun K hK=>?_);go_simp;refine (eY _ _ k y 2000 2000 wd (HKI.out.below HBW.out) (HYI.out.below HBW.out) HK2.out HY2.out (by decide)).mono ?_;rintro e w6 ⟨v6,rfl,hv6,hb6⟩;obtain⟨am,aa,aN,ad,ab,aM,ae,rfl⟩:=hv6.forms;have hB6:=LK HBW.out hb6;have hon6:=HON.out.below hb6;clear hb6;refine hK _ _ ⟨⟨_,hB6⟩,rfl⟩ ?_;clear hK K;try simp only[Act.put,It,Is,Ir,Iq,Iu,Iv]
       refine ap rfl rfl (fun K hK=>?_);go_simp;refine (qJ _ _ x (k*y) 2000 (2000+2000) w6 (HXI.out.below hB6) hv6 HX2.out HMY.out (by decide)).mono ?_;rintro e w7 ⟨v7,rfl,hv7,hb7⟩;obtain⟨bm,ba,bN,bd,bz,bM,be,rfl⟩:=hv7.forms;have hB7:=LK hB6 hb7;have hon7:=hon6.below hb7;clear hb7 hv6 hB6 hon6;refine hK _ _ ⟨⟨_,hB7⟩,rfl⟩ ?_;clear hK K;try simp only[Act.put,It,Is,Ir,Iq,Iu,Iv]
       refine ap rfl rfl (fun K hK=>?_);go_simp;refine (eY _ _ _ _ 4002 (2000+(2000+2000)+1) w7 (HVI.out.below hB7) hv7 HSV.out HMM.out (by decide)).mono ?_;rintro e w8 ⟨v8,rfl,hv8,hb8⟩;obtain⟨cm,cax,cN,cd,cb,cM,ce,rfl⟩:=hv8.forms;have hB8:=LK hB7 hb8;have hon8:=hon7.below hb8;clear hb8 hv7 hB7 hon7;refine hK _ _ ⟨⟨_,hB8⟩,rfl⟩ ?_;clear hK K;try simp only[Act.put,It,Is,Ir,Iq,Iu,Iv]
       have m9:=aj w8 (.cells #[.bool cm,.slice cax cN cd,.bool false,.slice cb cM ce] 44);have hcx:=heap_alloc_new w8 (.cells #[.bool cm,.slice cax cN cd,.bool false,.slice cb cM ce] 44);have hv9:=hv8.below m9;have hon9:=hon8.below m9;have hB9:=LK hB8 m9;have hbs:=hB9.size;have hzl:((ew p (j+1) k).take i).length<1000000000:=by rw[IY,fT];omega
       clear m9;refine ap rfl rfl (fun K hK=>?_);go_simp;refine hK _ _ ⟨⟨_,hB9⟩,rfl⟩ ?_;clear hK K;try simp only[Act.put,It,Is,Ir,Iq,Iu,Iv]
       refine ap rfl rfl (fun K hK=>?_);refine dR rfl ?_;refine cE 48 Tryz.underlying48 rfl (.tmp 41) (.tmp 57) rfl w5.heap.size _ _ cm cax cN cd cb cM ce _ rfl hon9 _ rfl hcx hv9 hzl hbs ?_;intro v' w10 hap;have hB10:=hap.below hon9 hB9 (Iw _) hbs;have hw10:=hap.own;refine⟨rfl,hK _ _ ⟨⟨_,hB10⟩,rfl⟩ ?_⟩;clear hK K;try simp only[Act.put,It,Is,Ir,Iq,Iu,Iv]
       rw[<-HT.out] at hw10;have HW10:=Ip hw10;clear hap hw10 hv9 hv8 hon8 hon9 hB8 hB9 hbs hcx hzl;refine ak 1 18 _ _ _ (by kernel_rfl) ?_;simp only[Ix,IC,Iy,IA];repeat (go_big_quiet_step (fail))
       refine wpQuiet_nil ?_;refine aE ?_;go_wp2;go_roundw;case rel=>exact⟨i+1,by go_num,by omega,HW10.out,hB10⟩
       case measure=>first | (simp[intOf];done) | (simp[intOf];omega)
      ·have hij:i=j+1:=by omega
       subst hij;clear hi hin;rw[IE (by rw[fT];exact Iw _)] at hownn;have hB6:=LK hB5 hbr;have hw6:=hw5.below hbr;have hs6:=hownn.isQs
       have hne6:∀ g,v4.ownBlock=some g->u8.ownBlock≠some g:=fun g h1 h2=>by
        have:=(hw5.lt g h1).2;have:=(hownn.lt g h2).1;omega
       have hl6:=fT p (j+1) k;have HL6:=Ip (show (l++[k]).length+j=n by have:=HLN.out;simp;omega);clear hownn hbr hp5 hw5 hk5 s5 hB5 hbx hbq;go_wp2;go_roundw;case rel=>exact⟨j,ew p (j+1) k,l++[k],by go_num,hl6,hs6,hw6,hne6,hB6,HDN,HPN,HL6⟩
       case measure=>first | (simp[intOf];done) | (simp[intOf];omega)
theorem bG.lower {w:World}{base base':Nat}{v:Value}{qs:List Rat} (h:bG w base v qs) (hb:base'<=base):bG w base' v qs:=by
 obtain⟨es,h1,⟨hlen,h2⟩,h3⟩:=h.ex;refine⟨⟨es,h1,⟨hlen,?_⟩,h3⟩,h.nx⟩;rcases h2 with h2 | ⟨g,cap,cur,rfl,hg,r⟩
 ·exact Or.inl h2
 ·exact Or.inr ⟨g,cap,cur,rfl,IB hb hg,r⟩
theorem FM (v:Value) (qs:List Rat) (i:Nat) (w:World) (hl:jw w v qs) (hi:i<1000000) :
  Calls Tryz.prog 119 #[v,.int .i64 i] w fun e w'=>∃ v',e=.returned v'/\b9 w' v' (qs.getD i 0)/\Below w.heap.size w w':=by
 obtain⟨p,c,rfl,hc1,hc2⟩:=hl.form;have h1:=bL w (.cells #[.bool false,.slice none 0 0,.bool false,.slice none 0 0] 44);have hl1:=hl.below h1.below;have M1:=Ip h1.below;have s1:=h1.s0;clear hl h1;by_cases hin:i<qs.length
 ·have hd:decide ((i:Int)<(qs.length:Int))=true:=decide_eq_true (by omega);obtain⟨b,o,rfl,hlt,m,a,N,d,a',N',d',hq,c0,c1,c2,c3⟩:=hl1.get hin;have hp:=Ip (show qs[i]=qs.getD i 0 by simp[IK,II hin]);rw[hp.out] at hq;go_enter Tryz.func119,Tryz.ntmps119;go_upto_region 1 with fail
  clear hl1;generalize w.alloc (.cells #[.bool false,.slice none 0 0,.bool false,.slice none 0 0] 44)=w1 at *
  have hP:=aR (u0:=.bool m) (u1:=.slice a N d) (u2:=.bool false) (u3:=.slice a' N' d') s1;have hZ:=Ip (cW.puts hq hP s1 bf);have hBF:=Ip (M1.out.trans (hP.below w.heap.size (Iw _)));have q0:=af s1 0;have q1:=af s1 1;have q2:=af s1 2;have q3:=af s1 3;have f0:=LL _ w.heap.size 0 _ _ s1;have f1:=LL _ w.heap.size 1 _ _ s1;have f2:=LL _ w.heap.size 2 _ _ s1;have f3:=LL _ w.heap.size 3 _ _ s1;clear s1 hq hp;go_wp2_with fail
  (try simp only[Exit.inBlock,Exit.then])
  change bodyPost _ _ _ _ _ (dL w1 w.heap.size (.bool m) (.slice a N d) (.bool false) (.slice a' N' d'));refine LM (results_cell_row rfl _ _ w.heap.size _ _ (0,0) _ rfl hP.row Tryz.underlying44 rfl (by kernel_rfl)) rfl ?_;exact⟨_,rfl,hZ.out,hBF.out⟩
 ·have hd:decide ((i:Int)<(qs.length:Int))=false:=decide_eq_false (by omega);have hd':decide (i<qs.length)=false:=decide_eq_false (by omega);have hp:=Ip (show (0:Rat)=qs.getD i 0 by simp[IK,JF (Nat.le_of_not_lt hin)]);go_enter Tryz.func119,Tryz.ntmps119;go_upto_region 1 with fail
  clear hl1 hin;generalize w.alloc (.cells #[.bool false,.slice none 0 0,.bool false,.slice none 0 0] 44)=w1 at *
  go_wp2_with fail
  refine (Ea w1).mono ?_;rintro e w2 ⟨v2,rfl,hv2,hb2⟩;obtain⟨m,a,N,d,a',N',d',rfl⟩:=hv2.forms;rw[hp.out] at hv2;have s2:=(hb2.block _ (ah s1)).trans s1;have M2:=LK M1.out hb2;have hP:=aR (u0:=.bool m) (u1:=.slice a N d) (u2:=.bool false) (u3:=.slice a' N' d') s2;have hZ:=Ip (cW.puts hv2 hP s2 bf);have hBF:=Ip (M2.trans (hP.below w.heap.size (Iw _)));have q0:=af s2 0;have q1:=af s2 1;have q2:=af s2 2;have q3:=af s2 3;have f0:=LL _ w.heap.size 0 _ _ s2;have f1:=LL _ w.heap.size 1 _ _ s2;have f2:=LL _ w.heap.size 2 _ _ s2;have f3:=LL _ w.heap.size 3 _ _ s2;clear s1 s2 hv2 hp M2 hb2;go_wp2_with fail
  (try simp only[Exit.inBlock,Exit.then])
  change bodyPost _ _ _ _ _ (dL w2 w.heap.size (.bool m) (.slice a N d) (.bool false) (.slice a' N' d'));refine LM (results_cell_row rfl _ _ w.heap.size _ _ (0,0) _ rfl hP.row Tryz.underlying44 rfl (by kernel_rfl)) rfl ?_;exact⟨_,rfl,hZ.out,hBF.out⟩
theorem Ad (va vb:Value) (a b:Rat) (k l:Nat) (w:World) (ha:b9 w va a) (hb:b9 w vb b) (hk:Sz k (rt a)) (hl:Sz l (rt b)) (h0:b≠0) (hkl:k+l<=390000) :
  Calls Tryz.prog 25 #[va,vb] w fun e w'=>∃ v,e=.returned v/\b9 w' v (a / b)/\Below w.heap.size w w':=by
 have HA0:=Ip ha;have HB0:=Ip hb;obtain⟨m,p,N,c,p',N',c',rfl,hn,hd⟩:=ha.open;obtain⟨m2,q,M,d,q',M',d',rfl,hn2,hd2⟩:=hb.open;have hl3:=nZ w (.cells #[.bool m,.slice p N c,.bool false,.slice p' N' c'] 44) (.cells #[.bool m2,.slice q M d,.bool false,.slice q' M' d'] 44) (.cells #[.bool false,.slice none 0 0,.bool false,.slice none 0 0] 44);go_enter Tryz.func25,Tryz.ntmps25;go_upto_region 1 with fail
 generalize ((w.alloc (.cells #[.bool m,.slice p N c,.bool false,.slice p' N' c'] 44)).alloc (.cells #[.bool m2,.slice q M d,.bool false,.slice q' M' d'] 44)).alloc (.cells #[.bool false,.slice none 0 0,.bool false,.slice none 0 0] 44)=w1 at *
 refine av (fun w'=>∃ x:az (w.heap.size+1+1) w1.drew,w'=x.w) (fun j=>j == 2||j == 3||j == 4) (by kernel_rfl) (by kernel_rfl) ⟨⟨_,LN _ _⟩,rfl⟩ ?_;have hBd:Below w1.heap.size w1 w1.drew:=(LN _ _).drew;have s0:=(hBd.block _ (ah hl3.s0)).trans hl3.s0;have s1:=(hBd.block _ (ah hl3.s1)).trans hl3.s1;have s2:=(hBd.block _ (ah hl3.s2)).trans hl3.s2;have M1:=Ip (hl3.below.trans (hBd.mono hl3.below.size));have hBz:=hl3.below.trans (hBd.mono hl3.below.size);have HN:=Ip (hn.below hBz);have HD:=Ip (hd.below hBz);have HN2:=Ip (hn2.below hBz);have HD2:=Ip (hd2.below hBz);have HLT:=Ip (ah s2);clear hl3 hBd hBz hn hd hn2 hd2 ha hb;generalize w1.drew=wd at *
 have hB0:Below (w.heap.size+1+1) wd wd:=LN _ _;have e0:=af s0 0;have e1:=af s0 1;have e2:=af s0 2;have e3:=af s0 3;have g0:=af s1 0;have g1:=af s1 1;have g2:=af s1 2;have g3:=af s1 3;have d0:=fun x:az (w.heap.size+1+1) wd=>(x.h.cell (p:=⟨w.heap.size,0,none⟩) (by show w.heap.size<_;omega)).trans e0;have d1:=fun x:az (w.heap.size+1+1) wd=>(x.h.cell (p:=⟨w.heap.size,1,none⟩) (by show w.heap.size<_;omega)).trans e1;have d2:=fun x:az (w.heap.size+1+1) wd=>(x.h.cell (p:=⟨w.heap.size,2,none⟩) (by show w.heap.size<_;omega)).trans e2;have d3:=fun x:az (w.heap.size+1+1) wd=>(x.h.cell (p:=⟨w.heap.size,3,none⟩) (by show w.heap.size<_;omega)).trans e3;have b0:=fun x:az (w.heap.size+1+1) wd=>(x.h.cell (p:=⟨w.heap.size+1,0,none⟩) (by show w.heap.size+1<_;omega)).trans g0;have b1:=fun x:az (w.heap.size+1+1) wd=>(x.h.cell (p:=⟨w.heap.size+1,1,none⟩) (by show w.heap.size+1<_;omega)).trans g1;have b2:=fun x:az (w.heap.size+1+1) wd=>(x.h.cell (p:=⟨w.heap.size+1,2,none⟩) (by show w.heap.size+1<_;omega)).trans g2;have b3:=fun x:az (w.heap.size+1+1) wd=>(x.h.cell (p:=⟨w.heap.size+1,3,none⟩) (by show w.heap.size+1<_;omega)).trans g3;clear e0 e1 e2 e3 g0 g1 g2 g3 s0 s1;have hle:w.heap.size+1+1<=wd.heap.size:=JI HLT.out;have HA:=Ip (HA0.out.below M1.out);have HB:=Ip (HB0.out.below M1.out);refine ak 2 0 _ _ _ (by kernel_rfl) ?_;simp only[Ix,IC,Iy,IA];repeat (go_big_quiet_step (fail))
 refine wpQuiet_nil ?_;refine ap rfl rfl (fun K hK=>?_);go_simp;refine (mP _ b l wd HB.out h0 hl (by omega)).mono ?_;rintro e w2 ⟨v2,rfl,hz2,hb2⟩;obtain⟨y1,y2,y3,y4,y5,y6,y7,rfl⟩:=hz2.forms;refine hK _ _ ⟨⟨_,hb2.mono hle⟩,rfl⟩ ?_;clear hK K;try simp only[Act.put,It,Is,Ir,Iq,Iu,Iv]
 refine ap rfl rfl (fun K hK=>?_);go_simp;have hsb:Sz l (rt b⁻¹):=xF hl h0;refine (eY _ _ a b⁻¹ k l w2 (HA.out.below hb2) hz2 hk hsb hkl).mono ?_;rintro e w4 ⟨v4,rfl,hv4,hb4⟩;have hB4:=LK hb2 hb4;rw[<-Rat.div_def] at hv4;refine hK _ _ ⟨⟨_,hB4.mono hle⟩,rfl⟩ ?_;clear hK K;try simp only[Act.put,It,Is,Ir,Iq,Iu,Iv]
 clear hz2 hb2 hb4;obtain⟨mo,po,No,co,po',No',co',rfl,ho,ho'⟩:=hv4.open;have u2:=(hB4.block _ HLT.out).trans s2;have hP:=aR (u0:=.bool mo) (u1:=.slice po No co) (u2:=.bool false) (u3:=.slice po' No' co') u2;have hZ:=Ip (cW.puts (hv4) hP u2 bf);have hBF:=Ip ((M1.out.trans (hB4.mono (IB (I1 _) (IB (I1 _) hle)))).trans (hP.below w.heap.size (by omega)));have hBG:=(hB4.mono hle).trans (hP.below (w.heap.size+1+1) (Iw _));have q0:=af u2 0;have q1:=af u2 1;have q2:=af u2 2;have q3:=af u2 3;have f0:=LL w4 (w.heap.size+1+1) 0 _ _ u2;have f1:=LL w4 (w.heap.size+1+1) 1 _ _ u2;have f2:=LL w4 (w.heap.size+1+1) 2 _ _ u2;have f3:=LL w4 (w.heap.size+1+1) 3 _ _ u2;refine ap rfl rfl (fun K hK=>?_);go_simp;change K _ (dL w4 (w.heap.size+1+1) (.bool mo) (.slice po No co) (.bool false) (.slice po' No' co'));refine hK undef _ ⟨⟨_,hBG⟩,rfl⟩ ?_;clear hK K d0 d1 d2 d3 b0 b1 b2 b3 q0 q1 q2 q3 f0 f1 f2 f3 hBG;try simp only[Act.put,It,Is,Ir,Iq,Iu,Iv]
 refine aE ?_;go_wp2_with fail
 (try simp only[Exit.inBlock,Exit.then])
 refine LM (results_cell_row rfl _ _ (w.heap.size+1+1) _ _ (0,0) _ rfl hP.row Tryz.underlying44 rfl (by kernel_rfl)) rfl ?_;exact⟨_,rfl,hZ.out,hBF.out⟩
theorem zv:∀ (j:Nat) (p l:List Rat),p.length=j+1->iJ p j->bg j p=some l->∀ k∈l,okQ k
 | 0,_,l,_,_,h=>by cases h;intro k hk;cases hk
 | j+1,p,l,hl,hd,h=>by
  rw[bg] at h
  split at h
  ·rename_i hk
   cases hq:bg j (ew p (j+1) (p.getD (j+1) 0)) with
   | none=>rw[hq] at h;cases h
   | some l' =>
    rw[hq] at h
    cases h
    intro k hm;rcases Jo.1 hm with hm | hm
    ·exact zv j _ _ (fT ..) (hd.next hl hk.1 hk.2) hq k hm
    ·rw[Jj.1 hm];exact hd.ok _ (eE (by omega))
  ·cases h
theorem By {a b:List ByteArray} (hc:aC a b=true):∃ qb:List Rat,b=qb.map tq/\(∀ q∈qb,okQ q)/\0<qb.length/\qb.length<=7/\iJ qb (qb.length-1) /\
  bA b=(bg (qb.length-1) qb).map (fun l=>l.map tq)/\(∀ l,bg (qb.length-1) qb=some l->∀ k∈l,okQ k):=by
 obtain⟨qa,qb,pa,pb,la,lb⟩:=mJ hc;obtain⟨b',hb'⟩:=kq hc pb;have h1:qb.getD 0 0=1:=by rw[hb'];rfl
 have h7:=pb.len;have hd:iJ qb (qb.length-1):=iJ.of (wZ pb h1) (sZ (by omega));exact⟨qb,pb.e,pb.ok,lb,h7,hd,qI pb h1 lb,fun l hl=>zv _ qb l (by omega) hd hl⟩
theorem sS (v:Value) (qs:List Rat) (w:World) (hl:jw w v qs) (hpos:0<qs.length) (hlen:qs.length<1000000) (hd:iJ qs (qs.length-1)) :
  Calls Tryz.prog 32 #[v] w fun e w'=>e=.returned (.bool (bg (qs.length-1) qs).isSome)/\Below w.heap.size w w':=by
 obtain⟨p,c,rfl,-,-⟩:=id hl.form;have HP:=Ip (El _ qs w hl hpos hlen hd);clear hl hpos hlen hd;go_enter Tryz.func32,Tryz.ntmps32;go_wp2_with fail
 refine HP.out.mono ?_;rintro e w2 ⟨v2,ok,rfl,hcase,hb⟩;have HOK:=Ip (show ok=(bg (qs.length-1) qs).isSome by rcases hcase with ⟨l,h,rfl,-⟩ | ⟨h,rfl,-⟩<;>rw[h]<;>rfl);clear hcase;go_wp2;refine LM (v:=.bool ok) (by simp[results,Tryz.results32,go_sem]) rfl ⟨by rw[HOK.out],hb⟩
open Go.RowKit Dg Dc
theorem oS {k:Nat}{la l:List ByteArray}{a x:Nat->Rat} (h0:a 0≠0) (hla:∀ i,i<=k->aD la i=tq (a i)) (oa:∀ i,i<=k->okQ (a i)) (hl:∀ i,i<=k->aD l i=tq (x i)) (ox:∀ i,i<=k->okQ (x i))
  (ok3:okQ (x k / a 0)) (ok4:∀ i,i<k->okQ (x k / a 0*a (k-i))) (ok5:∀ i,i<k->okQ (dnE k a x i)):∀ i,i<k->aD (eC la l k) i=tq (dnE k a x i):=by
 intro i hi;have hlen:i<(eC la l k).length:=by rw[kR];exact hi
 rw[<-fG hlen,r_,hl k (Iw _),hla 0 (IF _),jB (ox k (Iw _)) (oa 0 (IF _)) h0 ok3,hla (k-i) (Nat.sub_le _ _),iR ok3 (oa _ (Nat.sub_le _ _)) (ok4 i hi),hl i (by omega),
  uA (ox i (by omega)) (ok4 i hi) (ok5 i hi)]
 rfl
theorem EnS.a64 {n:Nat}{a b:Nat->Rat}{D M B:Nat} (h:EnS n a b D M B) {i:Nat} (hi:i<=n):Bd ((64:Nat):Rat) (a i):=by
 refine (jn h.good h.n6 hi).mono ?_;have:=h.one;have e:((64:Nat):Rat)=64:=rfl;rw[e];grind
theorem eG {D V k l:Nat}{q:Rat} (h:Fr D q) (hb:Bd (V:Rat) q) (hD:0<D) (h1:D<=2 ^ k) (h2:V<=2 ^ l) (hk:k+l<=6600):okQ q :=
 h.ok hb hD (bQ h1 (by omega)) (bQ (aV (c:=l+k) h2 h1 rfl) (by omega))
theorem jR:64<=2 ^ 6:=by decide
structure SzS (n:Nat) (a b:Nat->Rat) (D M B m t:Nat):Prop where
 s:EnS n a b D M B
 hd:D<=2 ^ 84
 hm:M<=2 ^ m
 hb:B<=2 ^ t
 lim:2*t+169+2*m<=6600
section
variable {n : Nat} {a b : Nat -> Rat} {D M B m t : Nat}
theorem SzS.dm (h:SzS n a b D M B m t):D*M<=2 ^ (84+m):=aV h.hd h.hm rfl
theorem SzS.oa (h:SzS n a b D M B m t) {i:Nat} (hi:i<=n):okQ (a i):=eG (h.s.fa i hi) (h.s.a64 hi) h.s.M0 h.hm jR (by have:=h.lim;omega)
theorem SzS.ob (h:SzS n a b D M B m t) {i:Nat} (hi:i<=n):okQ (b i):=eG (h.s.fb i hi) (h.s.bb i hi) (IH h.s.D0 h.s.M0) h.dm h.hb (by have:=h.lim;omega)
theorem SzS.a0 (h:SzS n a b D M B m t):∃ A:Nat,0<A/\A<=M/\a 0=(A:Rat) / (M:Rat):=(h.s.fa 0 (IF _)).nat h.s.M0 h.s.good.pos h.s.one
theorem SzS.bsq (h:SzS n a b D M B m t):Bd ((B*B:Nat):Rat) (b n*b n):=by
 rw[Rat.natCast_mul];exact (h.s.bb n (Iw _)).mul (h.s.bb n (Iw _))
theorem SzS.bb2 (h:SzS n a b D M B m t):B*B<=2 ^ (t+t):=aV h.hb h.hb rfl
theorem SzS.fsq (h:SzS n a b D M B m t):Fr (D*D*M*M) (b n*b n) :=
 ((h.s.fb n (Iw _)).mul (h.s.fb n (Iw _)) (IH h.s.D0 h.s.M0) (IH h.s.D0 h.s.M0)).to (by simp[IM,K7])
theorem SzS.ddm (h:SzS n a b D M B m t):D*D*M<=2 ^ (168+m):=aV (a:=168) (aV (a:=84) (b:=84) (c:=168) h.hd h.hd rfl) h.hm rfl
theorem SzS.ddmp (h:SzS n a b D M B m t):0<D*D*M:=IH (IH h.s.D0 h.s.D0) h.s.M0
theorem SzS.osq (h:SzS n a b D M B m t):okQ (b n*b n):=eG h.fsq h.bsq (IH h.ddmp h.s.M0) (aV h.ddm h.hm rfl) h.bb2 (by have:=h.lim;omega)
theorem SzS.add (h:SzS n a b D M B m t) {A:Nat} (hA:0<A) (hc:a 0=(A:Rat) / (M:Rat)):Ov (D*D*M*A) (2 ^ (2*t+168+2*m)) (b n*b n / a 0):=by
 have h1:=Fr.over (D:=D*D*M) h.fsq hc h.ddmp h.s.M0 hA;have h2:=Fr.ov2 h1 hc h.s.M0 hA (by have:=h.s.good.pos;rw[show b n*b n / a 0*a 0=b n*b n by grind];exact h.bsq) h.ddmp;refine h2.mono ?_;exact aV h.bb2 (aV h.ddm h.hm rfl) (by omega)
theorem SzS.sum (h:SzS n a b D M B m t) {A:Nat} (hA:0<A) (hAM:A<=M) (hc:a 0=(A:Rat) / (M:Rat)) {e:Rat} (he:Ov (D*D*M) (2 ^ (2*t+168+m)) e) :
  Ov (D*D*M*A) (2 ^ (2*t+169+2*m)) (e+b n*b n / a 0):=by
 have h1:=(he.wide A h.ddmp hA).add (h.add hA hc);refine h1.mono ?_;have h2:2 ^ (2*t+168+m)*A<=2 ^ (2*t+168+2*m):=aV (Iw _) (IB hAM h.hm) (by omega);have h3:2 ^ (2*t+169+2*m)=2 ^ (2*t+168+2*m)*2:=by rw[<-IN];congr 1;omega
 omega
theorem SzS.osum (h:SzS n a b D M B m t) {A:Nat} (hA:0<A) (hAM:A<=M) (hc:a 0=(A:Rat) / (M:Rat)) {e:Rat} (he:Ov (D*D*M) (2 ^ (2*t+168+m)) e):okQ (e+b n*b n / a 0)/\okQ (b n*b n / a 0):=by
 have hd:D*D*M*A<=2 ^ (168+m+m):=aV h.ddm (IB hAM h.hm) rfl;have hl:=h.lim
 exact⟨(h.sum hA hAM hc he).ok (IH h.ddmp hA) (bQ hd (by omega)) (bQ (Iw _) (by omega)),
  (h.add hA hc).ok (IH h.ddmp hA) (bQ hd (by omega)) (bQ (Iw _) (by omega))⟩
end
theorem SzS.texts {n:Nat}{a b:Nat->Rat}{D M B m t:Nat} (h:SzS (n+1) a b D M B m t) {A:Nat} (hA:0<A) (hAM:A<=M) (hc:a 0=(A:Rat) / (M:Rat)) {la lb:List ByteArray} (hla:∀ i,i<=n+1->aD la i=tq (a i)) (hlb:∀ i,i<=n+1->aD lb i=tq (b i)) :
  (∀ i,i<=n->aD (eC la la (n+1)) i=tq (dnE (n+1) a a i))/\(∀ i,i<=n->aD (eC la lb (n+1)) i=tq (dnE (n+1) a b i)):=by
 have st:=h.s.step hA hc;have hl:=h.lim;have hD:=h.s.D0;have hM:=h.s.M0;have h0:a 0≠0:=by have:=h.s.good.pos;grind
 have g0:=h.s.good.pos;have hA2:A<=2 ^ m:=IB hAM h.hm;have hMA:M*A<=2 ^ (m+m):=aV h.hm hA2 rfl;have fk:=(Fr.over (D:=1) ((h.s.fa (n+1) (Iw _)).to (JV M).symm) hc (by decide) hM hA).to (JV A);have bk:∀ i,i<=n+1->Bd ((64:Nat):Rat) (a i / a 0):=fun i hi=>Bd.div g0 (jn h.s.good h.s.n6 hi);have fb:=Fr.over (h.s.fb (n+1) (Iw _)) hc hD hM hA;have hDA:D*A<=2 ^ (84+m):=aV h.hd hA2 rfl;have e64:(64:Nat)*64<=2 ^ 12:=by decide
 have hB64:B*64<=2 ^ (t+6):=aV h.hb jR rfl;have hB65:65*B<=2 ^ (7+t):=aV (show 65<=2 ^ 7 by decide) h.hb rfl;constructor
 ·intro i hi;refine oS h0 hla (fun i hi=>h.oa hi) hla (fun i hi=>h.oa hi) (eG fk (bk _ (Iw _)) hA hA2 jR (by omega)) (fun i hi=>?_) (fun i hi=>?_) i (by omega)
  ·exact eG (fk.mul (h.s.fa (n+1-i) (by omega)) hA hM) (V:=64*64) (by rw[Rat.natCast_mul];exact (bk _ (Iw _)).mul (h.s.a64 (by omega))) (IH hA hM) (aV hA2 h.hm rfl) e64 (by omega)
  ·exact eG (st.fa i (by omega)) (st.a64 (by omega)) (IH hM hA) hMA jR (by omega)
 ·intro i hi;refine oS h0 hla (fun i hi=>h.oa hi) hlb (fun i hi=>h.ob hi) ?_ (fun i hi=>?_) (fun i hi=>?_) i (by omega)
  ·exact Fr.ok2 fb hc hM hA (V:=B) (by rw[show b (n+1) / a 0*a 0=b (n+1) by grind];exact h.s.bb _ (Iw _)) hD (bQ hDA (by omega)) (bQ (aV h.hb h.dm rfl) (by omega))
  ·refine eG (fb.mul (h.s.fa (n+1-i) (by omega)) (IH hD hA) hM) (V:=B*64) ?_ (IH (IH hD hA) hM) (aV hDA h.hm rfl) hB64 (by omega);rw[Rat.natCast_mul,show b (n+1) / a 0*a (n+1-i)=b (n+1)*(a (n+1-i) / a 0) by grind];exact (h.s.bb _ (Iw _)).mul (bk _ (by omega))
  ·exact eG (st.fb i (by omega)) (st.bb i (by omega)) (IH hD (IH hM hA)) (aV h.hd hMA rfl) hB65 (by omega)
theorem lJ:∀ (n:Nat) (a b:Nat->Rat) (D M B m t:Nat) (la lb:List ByteArray) (e:Rat),EnS n a b D M B->D<=2 ^ 84->M<=2 ^ m->B<=2 ^ t->2*t+14*n+169+2*(m*2 ^ n)<=6600->Ov (D*D*M) (2 ^ (2*t+168+m)) e->okQ e ->
  (∀ i,i<=n->aD la i=tq (a i))->(∀ i,i<=n->aD lb i=tq (b i))->gl (n+1) la lb (tq e)=tq (e+aS n a b b)/\okQ (e+aS n a b b)
 | 0,a,b,D,M,B,m,t,la,lb,e,hs,hd,hm,hb,hl,he,ho,hla,hlb=>by
  have S:SzS 0 a b D M B m t:=⟨hs,hd,hm,hb,by rw[Nat.pow_zero] at hl;omega⟩;obtain⟨A,hA,hAM,hc⟩:=S.a0;obtain⟨o1,o2⟩:=S.osum hA hAM hc he;have h0:a 0≠0:=by have:=hs.good.pos;grind
  have z:=Iw 0;refine⟨?_,o1⟩
  show iH (tq e) (dw (d_ (aD lb 0) (aD lb 0)) (aD la 0))=_
  rw[hla 0 z,hlb 0 z,iR (S.ob z) (S.ob z) S.osq,jB S.osq (S.oa z) h0 o2,tC ho o2 o1];rfl
 | n+1,a,b,D,M,B,m,t,la,lb,e,hs,hd,hm,hb,hl,he,ho,hla,hlb=>by
  have hp:1<=2 ^ n:=I9 (by decide);have hmp:m<=m*2 ^ n:=J8 m hp;have e2:m*2 ^ (n+1)=2*(m*2 ^ n):=by rw[IN,IM (2 ^ n) 2,K7]
  have S:SzS (n+1) a b D M B m t:=⟨hs,hd,hm,hb,by omega⟩;obtain⟨A,hA,hAM,hc⟩:=S.a0;obtain⟨o1,o2⟩:=S.osum hA hAM hc he;have h0:a 0≠0:=by have:=hs.good.pos;grind
  have z:=Iw (n+1);obtain⟨t1,t2⟩:=S.texts hA hAM hc hla hlb
  have ih:=lJ n (dnE (n+1) a a) (dnE (n+1) a b) D (M*A) (65*B) (m+m) (7+t) (eC la la (n+1)) (eC la lb (n+1)) (e+b (n+1)*b (n+1) / a 0)
   (hs.step hA hc) hd (aV hm (IB hAM hm) rfl) (aV (show 65<=2 ^ 7 by decide) hb rfl) (by have e3:(m+m)*2 ^ n=2*(m*2 ^ n):=(by rw[Jg];omega);omega)
   (((S.sum hA hAM hc he).mono (fq (by omega))).to (Jz _ _ _)) o1 t1 t2
  have ef:e+b (n+1)*b (n+1) / a 0+aS n (dnE (n+1) a a) (dnE (n+1) a b) (dnE (n+1) a b)=e+aS (n+1) a b b:=by
   show _=e+(b (n+1)*b (n+1) / a 0+aS n (dnE (n+1) a a) (dnE (n+1) a b) (dnE (n+1) a b))
   grind
  rw[ef] at ih;refine⟨?_,ih.2⟩;rw[<-ih.1]
  show gl (n+1) _ _ (iH (tq e) (dw (d_ (aD lb (n+1)) (aD lb (n+1))) (aD la 0)))=_
  rw[hla 0 (IF _),hlb _ z,iR (S.ob z) (S.ob z) S.osq,jB S.osq (S.oa (IF _)) h0 o2,tC ho o2 o1]
open Go.RowKit Dg Dc
theorem Cy {q:Rat} (h:q.num.natAbs<=4096):Bd ((4096:Nat):Rat) q:=by
 have hd:=fz q.den_pos
 have e:q*(q.den:Rat)=(q.num:Rat):=by
  have h1:=le q;have h2:=aO q.den_pos;grind
 have d1:(1:Rat)<=(q.den:Rat):=by
  have:=Rat.intCast_le_intCast.2 (show (1:Int)<=(q.den:Int) by have:=q.den_pos;omega);exact this
 have n1:(q.num:Rat)<=4096:=Rat.intCast_le_intCast.2 (show q.num<=4096 by omega)
 have n2:-4096<=(q.num:Rat):=by
  have:=Rat.intCast_le_intCast.2 (show (-4096:Int)<=q.num by omega);exact this
 have e4:((4096:Nat):Rat)=4096:=rfl;rw[e4];have e5:(q+4096)*(q.den:Rat)=(q.num:Rat)+4096*(q.den:Rat):=by rw[<-e];grind
 have e6:(4096-q)*(q.den:Rat)=4096*(q.den:Rat)-(q.num:Rat):=by rw[<-e];grind
 constructor
 ·have:0<=q+4096:=k_ hd (by rw[e5];grind);grind
 ·have:0<=4096-q:=k_ hd (by rw[e6];grind);grind
theorem pD:∀ l:List ByteArray,(∀ s∈l,bU s.data.toList=true)->∃ qs:List Rat,∃ D,l=qs.map tq/\0<D/\D<=4096 ^ l.length/\∀ q∈qs,Fr D q/\Bd ((4096:Nat):Rat) q/\okQ q/\q.den<=4096
 | [],_=>⟨[],1,rfl,by decide,by simp,fun q h=>by cases h⟩
 | s :: l,h=>by
  obtain⟨q,rfl,hq,hn,hd⟩:=lH (h s (JA ..));obtain⟨qs,D,rfl,hD,hDl,hall⟩:=pD l (fun t ht=>h t (JL _ ht));have hdp:=q.den_pos;refine⟨q :: qs,D*q.den,rfl,IH hD hdp,?_,?_⟩
  ·rw[IT,IN];exact Je hDl hd
  ·intro r hr;rcases Jv.1 hr with rfl | hr
   ·have h1:=(Fr.of_ov (Ov.of r)).wide D hdp hD;rw[IM r.den D] at h1;exact⟨h1,Cy hn,hq,hd⟩
   ·obtain⟨h1,h2⟩:=hall r hr;exact⟨h1.wide q.den hD hdp,h2⟩
theorem Fr.zero (D:Nat):Fr D 0:=⟨0,by rw[show ((0:Int):Rat)=0 from rfl];grind⟩
theorem Bd.zero (V:Nat):Bd (V:Rat) 0:=by
 have:(0:Rat)<=(V:Rat):=Rat.intCast_le_intCast.2 (show (0:Int)<=(V:Int) by omega);constructor<;>grind
theorem et {P:Rat->Prop}{l:List Rat} (h:∀ q∈l,P q) (h0:P 0) (i:Nat):P (l.getD i 0):=by
 rw[IK];by_cases hi:i<l.length
 ·rw[II hi];exact h _ (IS hi)
 ·rw[JF (by omega)];exact h0
theorem DU (qs:List Rat) {m i:Nat} (hi:i<m):aD (eS (qs.map tq) m) i=tq (qs.getD i 0):=by
 unfold aD eS;by_cases h:i<qs.length
 ·rw[IK,KK (by rw[IX];exact h),J6,IK,II h];rfl
 ·rw[IK,Kf (by rw[IX];omega),Kl,IX,if_pos (by omega),IK,JF (by omega)];exact xu.symm
theorem tO {a b:Nat->Rat}{n D M:Nat} (h6:n<=6) (hg:dl n a) (h1:a 0=1) (hD:0<D) (hDl:D<=2 ^ 84) (hM:0<M) (hMl:M<=2 ^ 84) (fa:∀ i,Fr M (a i)) (fb:∀ i,Fr D (b i)) (bb:∀ i,Bd ((4096:Nat):Rat) (b i))
  (oa:∀ i,okQ (a i)) (ob:∀ i,okQ (b i)) (hd:∀ i,(a i).den<=4096) {la lb:List ByteArray} (hla:∀ i,i<=n->aD la i=tq (a i)) (hlb:∀ i,i<=n->aD lb i=tq (b i)) :
  gl (n+1) la lb ⟨#[48]⟩=tq (aS n a b b)/\okQ (aS n a b b):=by
 have z0:(⟨#[48]⟩:ByteArray)=tq 0:=xu.symm
 have d1:∀ q:Rat,q / a 0=q:=fun q=>by rw[h1];grind
 have h0:a 0≠0:=by rw[h1];decide
 have hDD:D*D<=2 ^ 168:=aV (a:=84) (b:=84) (c:=168) hDl hDl rfl
 have t12:(4096:Nat)<=2 ^ 12:=by decide
 rw[z0]
 match n,h6,hg,hla,hlb with
 | 0,_,hg,hla,hlb =>
  have f0:∀ i,i<=0->Fr 1 (a i):=fun i hi=>by
   obtain rfl:i=0:=by omega
   rw[h1]
   exact⟨1,by rw[show ((1:Int):Rat)=1 from rfl,show ((1:Nat):Rat)=1 from rfl];grind⟩
  have hs:EnS 0 a b D 1 4096:=⟨hD,by decide,f0,fun i _=>(fb i).to (JO D).symm,hg,by rw[h1];exact (by decide),by decide,fun i _=>bb i⟩
  have r:=lJ 0 a b D 1 4096 0 12 la lb 0 hs hDl (by decide) t12 (by decide) ((Ov.zero _).mono (IF _)) eX hla hlb
  rw[show (0:Rat)+aS 0 a b b=aS 0 a b b by grind] at r
  exact r
 | k+1,h6,hg,hla,hlb =>
  have hk:k<=5:=by omega
  have z:=Iw (k+1)
  obtain⟨d,hdd⟩:∃ d,d=(a (k+1)).den:=⟨_,rfl⟩
  have hd1:0<d:=by rw[hdd];exact (a (k+1)).den_pos
  have hd2:d<=2 ^ 12:=by rw[hdd];exact IB (hd _) t12
  have fk:Fr d (a (k+1)):=by rw[hdd];exact Fr.of_ov (Ov.of _)
  have b64:∀ i,i<=k+1->Bd ((64:Nat):Rat) (a i):=fun i hi=>by
   have:=jn hg (by omega) hi
   rw[h1] at this
   exact this.mono (by rw[show ((64:Nat):Rat)=64 from rfl];grind)
  have hMd:M*d<=2 ^ 96:=aV (a:=84) (b:=12) (c:=96) hMl hd2 rfl
  have hMd0:0<M*d:=IH hM hd1
  have ec:∀ i,dnE (k+1) a a i=a i-a (k+1)*a (k+1-i):=fun i=>by unfold dnE;rw[d1]
  have ed:∀ i,dnE (k+1) a b i=b i-b (k+1)*a (k+1-i):=fun i=>by unfold dnE;rw[d1]
  have b4:∀ i,i<=k+1->Bd ((4096*64:Nat):Rat) (b (k+1)*a i):=fun i hi=>by rw[Rat.natCast_mul];exact (bb _).mul (b64 i hi)
  have hDM:D*M<=2 ^ 168:=aV (a:=84) (b:=84) (c:=168) hDl hMl rfl
  have hs:EnS k (dnE (k+1) a a) (dnE (k+1) a b) D (M*d) (65*4096):=by
   refine⟨hD,hMd0,fun i _=>?_,fun i _=>?_,hg.2,?_,by omega,fun i hi=>?_⟩
   ·rw[ec];exact ((fa i).wide d hM hd1).sub ((fk.mul (fa _) hd1 hM).to (IM d M))
   ·rw[ed]
    exact (((fb i).wide (M*d) hD hMd0)).sub ((((fb _).mul (fa _) hD hM).wide d (IH hD hM) hd1).to (Jz D M d))
   ·rw[ec,h1]
    have p:=kp.sq_div_pos (x:=a (k+1)) (show (0:Rat)<1 by decide)
    rw[JY]
    have:a (k+1)*a (k+1) / 1=a (k+1)*a (k+1):=by grind
    rw[this] at p
    grind
   ·rw[ed]
    refine ((bb i).sub (b4 _ (by omega))).mono ?_
    rw[show ((4096:Nat):Rat)=4096 from rfl,show ((4096*64:Nat):Rat)=262144 from rfl,show ((65*4096:Nat):Rat)=266240 from rfl]
    grind
  have fsq:Fr (D*D) (b (k+1)*b (k+1)):=(fb _).mul (fb _) hD hD
  have bsq:Bd ((4096*4096:Nat):Rat) (b (k+1)*b (k+1)):=by rw[Rat.natCast_mul];exact (bb _).mul (bb _)
  have t24:(4096:Nat)*4096<=2 ^ 24:=by decide
  have osq:okQ (b (k+1)*b (k+1)):=eG fsq bsq (IH hD hD) hDD t24 (by decide)
  have he:Ov (D*D*(M*d)) (2 ^ (2*19+168+96)) (b (k+1)*b (k+1)):=by
   have h2:=(fsq.ov bsq (IH hD hD)).wide (M*d) (IH hD hD) hMd0
   obtain⟨c,hc⟩:∃ c,24+168+96=c:=⟨_,rfl⟩
   obtain⟨g,hg⟩:∃ g,2*19+168+96=g:=⟨_,rfl⟩
   rw[hg]
   exact h2.mono (IB (aV (a:=24+168) (b:=96) (c:=c) (aV (a:=24) (b:=168) t24 hDD rfl) hMd hc) (fq (by omega)))
  have t1:∀ i,i<k+1->aD (eC la la (k+1)) i=tq (dnE (k+1) a a i):=oS h0 hla (fun i _=>oa i) hla (fun i _=>oa i) (by rw[d1];exact oa _)
   (fun i hi=>by
    rw[d1]
    exact eG ((fk.mul (fa _) hd1 hM).to (IM d M)) (V:=64*64) (by rw[Rat.natCast_mul];exact (b64 _ z).mul (b64 _ (by omega))) hMd0 hMd (show 64*64<=2 ^ 12 by decide) (by decide))
   (fun i hi=>eG (hs.fa i (by omega)) (hs.a64 (by omega)) hMd0 hMd jR (by decide))
  have t2:∀ i,i<k+1->aD (eC la lb (k+1)) i=tq (dnE (k+1) a b i):=oS h0 hla (fun i _=>oa i) hlb (fun i _=>ob i) (by rw[d1];exact ob _)
   (fun i hi=>by
    rw[d1]
    exact eG ((fb _).mul (fa _) hD hM) (b4 _ (by omega)) (IH hD hM) hDM (show 4096*64<=2 ^ 18 by decide) (by decide))
   (fun i hi=>eG (hs.fb i (by omega)) (hs.bb i (by omega)) (IH hD hMd0) (aV (a:=84) (b:=96) (c:=180) hDl hMd rfl) (show 65*4096<=2 ^ 19 by decide) (by decide))
  have hp:2 ^ k<=2 ^ 5:=fq hk
  have r:=lJ k (dnE (k+1) a a) (dnE (k+1) a b) D (M*d) (65*4096) 96 19 (eC la la (k+1)) (eC la lb (k+1)) (b (k+1)*b (k+1)) hs hDl hMd (by decide) (by omega) he osq (fun i hi=>t1 i (by omega)) (fun i hi=>t2 i (by omega))
  have ef:b (k+1)*b (k+1)+aS k (dnE (k+1) a a) (dnE (k+1) a b) (dnE (k+1) a b)=aS (k+1) a b b:=by
   show _=b (k+1)*b (k+1) / a 0+_
   rw[d1]
  rw[ef] at r
  refine⟨?_,r.2⟩
  rw[<-r.1]
  show gl (k+1) _ _ (iH (tq 0) (dw (d_ (aD lb (k+1)) (aD lb (k+1))) (aD la 0)))=_
  rw[hla 0 (IF _),hlb _ z,iR (ob _) (ob _) osq,jB osq (oa 0) h0 (by rw[d1];exact osq),d1,tC eX osq (by rw[Rat.zero_add];exact osq),Rat.zero_add]
theorem Ab {l:List ByteArray}{qs:List Rat}{D:Nat} (e:l=qs.map tq) (hD:0<D) (hDl:D<=2 ^ 84) (hl:l.length<=7) (h:∀ q∈qs,Fr D q/\Bd ((4096:Nat):Rat) q/\okQ q/\q.den<=4096):eR l qs :=
 ⟨e,⟨D,hD,hDl,fun q hq=>((h q hq).1.ov (h q hq).2.1 hD).mono (aV (a:=12) (b:=84) (c:=96) (by decide) hDl rfl)⟩,fun q hq=>(h q hq).2.2.1,by rw[e,IX] at hl;exact hl⟩
def rR:Nat->(Nat->Rat)->(Nat->Rat)->Rat->Prop
 | 0,_,_,e=>okQ e
 | k+1,a,b,e=>a 0≠0/\okQ (1 / a 0)/\(∀ i,i<=k->okQ (a i)/\okQ (b i))/\okQ (b k*b k)/\okQ (b k*b k / a 0)/\okQ e/\okQ (a k / a 0)/\okQ (b k / a 0) /\
   (∀ i,i<k->okQ (a k / a 0*a (k-i))/\okQ (b k / a 0*a (k-i))/\okQ (dnE k a a i)/\okQ (dnE k a b i))/\rR k (dnE k a a) (dnE k a b) (e+b k*b k / a 0)
theorem Dr {q:Rat}{A M k:Nat} (hc:q=(A:Rat) / (M:Rat)) (hA:0<A) (hM:0<M) (hAM:A<=2 ^ k) (hMk:M<=2 ^ k) (hk:k<=6600):okQ (1 / q):=by
 have h1:=aO hA;have h2:=aO hM;have e:1 / q=(M:Rat) / (A:Rat):=by rw[hc];grind
 rw[e];exact Ov.ok (D:=A) (M:=M) ⟨(M:Int),rfl,Kx (I0 M)⟩ hA (bQ hAM hk) (bQ hMk hk)
theorem SzS.deep {n:Nat}{a b:Nat->Rat}{D M B m t:Nat} (h:SzS (n+1) a b D M B m t) {A:Nat} (hA:0<A) (hAM:A<=M) (hc:a 0=(A:Rat) / (M:Rat)) :
  okQ (a (n+1) / a 0)/\okQ (b (n+1) / a 0)/\∀ i,i<n+1->okQ (a (n+1) / a 0*a (n+1-i))/\okQ (b (n+1) / a 0*a (n+1-i))/\okQ (dnE (n+1) a a i)/\okQ (dnE (n+1) a b i):=by
 have st:=h.s.step hA hc;have hl:=h.lim;have hD:=h.s.D0;have hM:=h.s.M0;have g0:=h.s.good.pos;have hA2:A<=2 ^ m:=IB hAM h.hm;have hMA:M*A<=2 ^ (m+m):=aV h.hm hA2 rfl;have fk:=(Fr.over (D:=1) ((h.s.fa (n+1) (Iw _)).to (JV M).symm) hc (by decide) hM hA).to (JV A);have bk:∀ i,i<=n+1->Bd ((64:Nat):Rat) (a i / a 0):=fun i hi=>Bd.div g0 (jn h.s.good h.s.n6 hi);have fb:=Fr.over (h.s.fb (n+1) (Iw _)) hc hD hM hA;have hDA:D*A<=2 ^ (84+m):=aV h.hd hA2 rfl;have e64:(64:Nat)*64<=2 ^ 12:=by decide
 have hB64:B*64<=2 ^ (t+6):=aV h.hb jR rfl;have hB65:65*B<=2 ^ (7+t):=aV (show 65<=2 ^ 7 by decide) h.hb rfl;refine⟨eG fk (bk _ (Iw _)) hA hA2 jR (by omega),?_,fun i hi=>⟨?_,?_,?_,?_⟩⟩
 ·exact Fr.ok2 fb hc hM hA (V:=B) (by rw[show b (n+1) / a 0*a 0=b (n+1) by grind];exact h.s.bb _ (Iw _)) hD (bQ hDA (by omega)) (bQ (aV h.hb h.dm rfl) (by omega))
 ·exact eG (fk.mul (h.s.fa (n+1-i) (by omega)) hA hM) (V:=64*64) (by rw[Rat.natCast_mul];exact (bk _ (Iw _)).mul (h.s.a64 (by omega))) (IH hA hM) (aV hA2 h.hm rfl) e64 (by omega)
 ·refine eG (fb.mul (h.s.fa (n+1-i) (by omega)) (IH hD hA) hM) (V:=B*64) ?_ (IH (IH hD hA) hM) (aV hDA h.hm rfl) hB64 (by omega);rw[Rat.natCast_mul,show b (n+1) / a 0*a (n+1-i)=b (n+1)*(a (n+1-i) / a 0) by grind];exact (h.s.bb _ (Iw _)).mul (bk _ (by omega))
 ·exact eG (st.fa i (by omega)) (st.a64 (by omega)) (IH hM hA) hMA jR (by omega)
 ·exact eG (st.fb i (by omega)) (st.bb i (by omega)) (IH hD (IH hM hA)) (aV h.hd hMA rfl) hB65 (by omega)
theorem pH:∀ (n:Nat) (a b:Nat->Rat) (D M B m t:Nat) (e:Rat),EnS n a b D M B->D<=2 ^ 84->M<=2 ^ m->B<=2 ^ t->2*t+14*n+169+2*(m*2 ^ n)<=6600->Ov (D*D*M) (2 ^ (2*t+168+m)) e->okQ e->rR (n+1) a b e
 | 0,a,b,D,M,B,m,t,e,hs,hd,hm,hb,hl,he,ho=>by
  have S:SzS 0 a b D M B m t:=⟨hs,hd,hm,hb,by rw[Nat.pow_zero] at hl;omega⟩;obtain⟨A,hA,hAM,hc⟩:=S.a0;obtain⟨o1,o2⟩:=S.osum hA hAM hc he;have hlm:=S.lim;have g0:=hs.good.pos;have z:=Iw 0;have e1:a 0 / a 0=1:=by grind
  have fb:=Fr.over (hs.fb 0 z) hc hs.D0 hs.M0 hA;refine⟨by grind,Dr hc hA hs.M0 (IB hAM hm) hm (by omega),fun i hi=>⟨S.oa hi,S.ob hi⟩,S.osq,o2,ho,by rw[e1];exact fe,?_,fun i hi=>absurd hi (Nat.not_lt_zero i),o1⟩;exact Fr.ok2 fb hc hs.M0 hA (V:=B) (by rw[show b 0 / a 0*a 0=b 0 by grind];exact hs.bb _ z) hs.D0 (bQ (aV (c:=84+m) hd (IB hAM hm) rfl) (by omega)) (bQ (aV hb S.dm rfl) (by omega))
 | n+1,a,b,D,M,B,m,t,e,hs,hd,hm,hb,hl,he,ho=>by
  have hp:1<=2 ^ n:=I9 (by decide);have hmp:m<=m*2 ^ n:=J8 m hp;have e2:m*2 ^ (n+1)=2*(m*2 ^ n):=by rw[IN,IM (2 ^ n) 2,K7]
  have S:SzS (n+1) a b D M B m t:=⟨hs,hd,hm,hb,by omega⟩;obtain⟨A,hA,hAM,hc⟩:=S.a0;obtain⟨o1,o2⟩:=S.osum hA hAM hc he;have hlm:=S.lim;have g0:=hs.good.pos;obtain⟨d1,d2,d3⟩:=S.deep hA hAM hc;refine⟨by grind,Dr hc hA hs.M0 (IB hAM hm) hm (by omega),fun i hi=>⟨S.oa hi,S.ob hi⟩,S.osq,o2,ho,d1,d2,d3,?_⟩
  exact pH n (dnE (n+1) a a) (dnE (n+1) a b) D (M*A) (65*B) (m+m) (7+t) (e+b (n+1)*b (n+1) / a 0)
   (hs.step hA hc) hd (aV hm (IB hAM hm) rfl) (aV (show 65<=2 ^ 7 by decide) hb rfl) (by have e3:(m+m)*2 ^ n=2*(m*2 ^ n):=(by rw[Jg];omega);omega)
   (((S.sum hA hAM hc he).mono (fq (by omega))).to (Jz _ _ _)) o1
theorem xW {a b:Nat->Rat}{n D M:Nat} (h6:n<=6) (hg:dl n a) (h1:a 0=1) (hD:0<D) (hDl:D<=2 ^ 84) (hM:0<M) (hMl:M<=2 ^ 84) (fa:∀ i,Fr M (a i)) (fb:∀ i,Fr D (b i)) (bb:∀ i,Bd ((4096:Nat):Rat) (b i))
  (oa:∀ i,okQ (a i)) (ob:∀ i,okQ (b i)) (hd:∀ i,(a i).den<=4096) :
  rR (n+1) a b 0:=by
 have d1:∀ q:Rat,q / a 0=q:=fun q=>by rw[h1];grind
 have h0:a 0≠0:=by rw[h1];decide
 have hDD:D*D<=2 ^ 168:=aV (a:=84) (b:=84) (c:=168) hDl hDl rfl
 have t12:(4096:Nat)<=2 ^ 12:=by decide
 match n,h6,hg with
 | 0,_,hg =>
  have f0:∀ i,i<=0->Fr 1 (a i):=fun i hi=>by
   obtain rfl:i=0:=by omega
   rw[h1]
   exact⟨1,by rw[show ((1:Int):Rat)=1 from rfl,show ((1:Nat):Rat)=1 from rfl];grind⟩
  have hs:EnS 0 a b D 1 4096:=⟨hD,by decide,f0,fun i _=>(fb i).to (JO D).symm,hg,by rw[h1];exact (by decide),by decide,fun i _=>bb i⟩
  exact pH 0 a b D 1 4096 0 12 0 hs hDl (by decide) t12 (by decide) ((Ov.zero _).mono (IF _)) eX
 | k+1,h6,hg =>
  have hk:k<=5:=by omega
  have z:=Iw (k+1)
  obtain⟨d,hdd⟩:∃ d,d=(a (k+1)).den:=⟨_,rfl⟩
  have hd1:0<d:=by rw[hdd];exact (a (k+1)).den_pos
  have hd2:d<=2 ^ 12:=by rw[hdd];exact IB (hd _) t12
  have fk:Fr d (a (k+1)):=by rw[hdd];exact Fr.of_ov (Ov.of _)
  have b64:∀ i,i<=k+1->Bd ((64:Nat):Rat) (a i):=fun i hi=>by
   have:=jn hg (by omega) hi
   rw[h1] at this
   exact this.mono (by rw[show ((64:Nat):Rat)=64 from rfl];grind)
  have hMd:M*d<=2 ^ 96:=aV (a:=84) (b:=12) (c:=96) hMl hd2 rfl
  have hMd0:0<M*d:=IH hM hd1
  have ec:∀ i,dnE (k+1) a a i=a i-a (k+1)*a (k+1-i):=fun i=>by unfold dnE;rw[d1]
  have ed:∀ i,dnE (k+1) a b i=b i-b (k+1)*a (k+1-i):=fun i=>by unfold dnE;rw[d1]
  have b4:∀ i,i<=k+1->Bd ((4096*64:Nat):Rat) (b (k+1)*a i):=fun i hi=>by rw[Rat.natCast_mul];exact (bb _).mul (b64 i hi)
  have hDM:D*M<=2 ^ 168:=aV (a:=84) (b:=84) (c:=168) hDl hMl rfl
  have hs:EnS k (dnE (k+1) a a) (dnE (k+1) a b) D (M*d) (65*4096):=by
   refine⟨hD,hMd0,fun i _=>?_,fun i _=>?_,hg.2,?_,by omega,fun i hi=>?_⟩
   ·rw[ec];exact ((fa i).wide d hM hd1).sub ((fk.mul (fa _) hd1 hM).to (IM d M))
   ·rw[ed]
    exact (((fb i).wide (M*d) hD hMd0)).sub ((((fb _).mul (fa _) hD hM).wide d (IH hD hM) hd1).to (Jz D M d))
   ·rw[ec,h1]
    have p:=kp.sq_div_pos (x:=a (k+1)) (show (0:Rat)<1 by decide)
    rw[JY]
    have:a (k+1)*a (k+1) / 1=a (k+1)*a (k+1):=by grind
    rw[this] at p
    grind
   ·rw[ed]
    refine ((bb i).sub (b4 _ (by omega))).mono ?_
    rw[show ((4096:Nat):Rat)=4096 from rfl,show ((4096*64:Nat):Rat)=262144 from rfl,show ((65*4096:Nat):Rat)=266240 from rfl]
    grind
  have fsq:Fr (D*D) (b (k+1)*b (k+1)):=(fb _).mul (fb _) hD hD
  have bsq:Bd ((4096*4096:Nat):Rat) (b (k+1)*b (k+1)):=by rw[Rat.natCast_mul];exact (bb _).mul (bb _)
  have t24:(4096:Nat)*4096<=2 ^ 24:=by decide
  have osq:okQ (b (k+1)*b (k+1)):=eG fsq bsq (IH hD hD) hDD t24 (by decide)
  have he:Ov (D*D*(M*d)) (2 ^ (2*19+168+96)) (b (k+1)*b (k+1)):=by
   have h2:=(fsq.ov bsq (IH hD hD)).wide (M*d) (IH hD hD) hMd0
   obtain⟨c,hc⟩:∃ c,24+168+96=c:=⟨_,rfl⟩
   obtain⟨g,hg⟩:∃ g,2*19+168+96=g:=⟨_,rfl⟩
   rw[hg]
   exact h2.mono (IB (aV (a:=24+168) (b:=96) (c:=c) (aV (a:=24) (b:=168) t24 hDD rfl) hMd hc) (fq (by omega)))
  have d3:∀ i,i<k+1->okQ (a (k+1) / a 0*a (k+1-i))/\okQ (b (k+1) / a 0*a (k+1-i))/\okQ (dnE (k+1) a a i)/\okQ (dnE (k+1) a b i):=fun i hi=>by
   refine⟨?_,?_,eG (hs.fa i (by omega)) (hs.a64 (by omega)) hMd0 hMd jR (by decide),eG (hs.fb i (by omega)) (hs.bb i (by omega)) (IH hD hMd0) (aV (a:=84) (b:=96) (c:=180) hDl hMd rfl) (show 65*4096<=2 ^ 19 by decide) (by decide)⟩
   ·rw[d1]
    exact eG ((fk.mul (fa _) hd1 hM).to (IM d M)) (V:=64*64) (by rw[Rat.natCast_mul];exact (b64 _ z).mul (b64 _ (by omega))) hMd0 hMd (show 64*64<=2 ^ 12 by decide) (by decide)
   ·rw[d1]
    exact eG ((fb _).mul (fa _) hD hM) (b4 _ (by omega)) (IH hD hM) hDM (show 4096*64<=2 ^ 18 by decide) (by decide)
  have hp:2 ^ k<=2 ^ 5:=fq hk
  have r:=pH k (dnE (k+1) a a) (dnE (k+1) a b) D (M*d) (65*4096) 96 19 (b (k+1)*b (k+1)) hs hDl hMd (by decide) (by omega) he osq
  have e0:(0:Rat)+b (k+1)*b (k+1) / a 0=b (k+1)*b (k+1):=by rw[d1];grind
  refine⟨h0,by rw[h1,show (1:Rat) / 1=1 by grind];exact fe,fun i _=>⟨oa i,ob i⟩,osq,by rw[d1];exact osq,eX,by rw[d1];exact oa _,by rw[d1];exact ob _,d3,?_⟩
  rw[e0]
  exact r
theorem vA {fa fb:List ByteArray} (hc:aC fa fb=true) (hp:(bA fb).isSome=true) :
  ∃ (qa tl:List Rat) (n:Nat),eR fa qa/\eR fb (1 :: tl)/\n<=6/\qa.length<=n+1/\(1 :: tl).length<=n+1/\max fa.length fb.length=n+1/\rR (n+1) (fun i=>(1 :: tl).getD i 0) (fun i=>qa.getD i 0) 0/\dl n (fun i=>(1 :: tl).getD i 0)/\(∀ q∈qa,Bd ((4096:Nat):Rat) q) /\
   cf fa fb=(tq (aS n (fun i=>(1 :: tl).getD i 0) (fun i=>qa.getD i 0) (fun i=>qa.getD i 0)),0)/\okQ (aS n (fun i=>(1 :: tl).getD i 0) (fun i=>qa.getD i 0) (fun i=>qa.getD i 0)):=by
 obtain⟨b0,b7,a0,a7,ca,cb,-⟩:=bv hc;have e84:(4096:Nat) ^ 7=2 ^ 84:=by decide
 obtain⟨qa,D,ea,hD,hDl,hqa⟩:=pD fa ca;obtain⟨qb,M,eb,hM,hMl,hqb⟩:=pD fb cb;have hDl2:D<=2 ^ 84:=by rw[<-e84];exact IB hDl (IQ (by decide) a7)
 have hMl2:M<=2 ^ 84:=by rw[<-e84];exact IB hMl (IQ (by decide) b7)
 have pa:=Ab ea hD hDl2 a7 hqa;have pb:=Ab eb hM hMl2 b7 hqb;obtain⟨tl,rfl⟩:=kq hc pb;have la:fa.length=qa.length:=by rw[ea,IX]
 have lb:fb.length=(1 :: tl).length:=by rw[eb,IX]
 obtain⟨n,hn⟩:∃ n,max fa.length fb.length=n+1:=⟨max fa.length fb.length-1,by omega⟩;have lt1:(1 :: tl).length=tl.length+1:=rfl;have hps:=hp;rw[qI pb rfl (by simp),Ks] at hps;have g1:dl tl.length (fun i=>(1 :: tl).getD i 0):=lL tl.length _ (1 :: tl) (by show (0:Rat)<1;decide) (fun i _=>by show _=1*_;grind) hps
 have g2:dl n (fun i=>(1 :: tl).getD i 0):=by
  have:=sj g1 (fun i hi=>by
   show (1 :: tl).getD i 0=0
   rw[IK,JF (by rw[lt1];omega)];rfl) (n-tl.length)
  rwa [show tl.length+(n-tl.length)=n by omega] at this
 have r:=tO (a:=fun i=>(1 :: tl).getD i 0) (b:=fun i=>qa.getD i 0) (n:=n) (by omega) g2 rfl hD hDl2 hM hMl2
  (et (fun q hq=>(hqb q hq).1) (Fr.zero M)) (et (fun q hq=>(hqa q hq).1) (Fr.zero D)) (et (fun q hq=>(hqa q hq).2.1) (Bd.zero _)) (et (fun q hq=>(hqb q hq).2.2.1) eX)
  (et (fun q hq=>(hqa q hq).2.2.1) eX) (et (P:=fun q=>q.den<=4096) (fun q hq=>(hqb q hq).2.2.2) (by decide))
  (la:=eS fb (n+1)) (lb:=eS fa (n+1)) (fun i hi=>by rw[eb];exact DU _ (by omega)) (fun i hi=>by rw[ea];exact DU _ (by omega))
 have dp:=xW (a:=fun i=>(1 :: tl).getD i 0) (b:=fun i=>qa.getD i 0) (n:=n) (by omega) g2 rfl hD hDl2 hM hMl2
  (et (fun q hq=>(hqb q hq).1) (Fr.zero M)) (et (fun q hq=>(hqa q hq).1) (Fr.zero D)) (et (fun q hq=>(hqa q hq).2.1) (Bd.zero _)) (et (fun q hq=>(hqb q hq).2.2.1) eX)
  (et (fun q hq=>(hqa q hq).2.2.1) eX) (et (P:=fun q=>q.den<=4096) (fun q hq=>(hqb q hq).2.2.2) (by decide))
 refine⟨qa,tl,n,pa,pb,by omega,by omega,by omega,hn,dp,g2,fun q hq=>(hqa q hq).2.1,?_,r.2⟩;unfold cf;rw[if_pos hc,if_pos hp,hn,r.1]
def gj:Nat->(Nat->Rat)->(Nat->Rat)->Rat->Rat
 | 0,_,_,e=>e
 | k+1,a,b,e=>gj k (dnE k a a) (dnE k a b) (e+b k*b k / a 0)
theorem mc:∀ (n:Nat) (a b:Nat->Rat) (e:Rat),gj (n+1) a b e=e+aS n a b b
 | 0,_,_,_=>rfl
 | n+1,a,b,e=>by
  rw[gj,mc n]
  show e+b (n+1)*b (n+1) / a 0+_=e+(b (n+1)*b (n+1) / a 0+_)
  grind
def dJ (f:Nat->Rat) (k:Nat):List Rat:=(List.range k).map f
theorem bI (f:Nat->Rat) (k:Nat):(dJ f k).length=k:=by simp[dJ]
theorem mt (f:Nat->Rat) {k i:Nat} (h:i<(dJ f k).length):(dJ f k)[i]=f i:=by simp[dJ]
theorem jH (f:Nat->Rat) (k:Nat):dJ f (k+1)=dJ f k++[f k]:=by simp[dJ,List.range_succ]
def lK (r:Rat) (i:Nat):Rat:=(bW r i)⁻¹
theorem A2 (r:Rat) (i:Nat):lK r (i+1)=lK r i*r⁻¹:=by
 unfold lK
 show (bW r i*r)⁻¹=(bW r i)⁻¹*r⁻¹
 grind
theorem A3 (r:Rat):lK r 0=1:=by
 unfold lK
 show (1:Rat)⁻¹=1
 grind
theorem Hh (qs:List Rat) (r:Rat):cG qs r=dJ (fun i=>qs.getD i 0*lK r i) qs.length:=by
 unfold cG dJ lK;refine Lo fun i _=>?_;rw[Rat.div_def]
theorem GQ {r:Rat}{u v:Nat} (h:r=(u:Rat) / (v:Rat)) (hu:0<u) (hv:0<v) (hu4:u<=4096) (hv4:v<=4096) {i:Nat} (hi:i<=7):okQ (lK r i):=by
 have e:lK r i=((v ^ i:Nat):Rat) / ((u ^ i:Nat):Rat):=by
  unfold lK;rw[qF h hv i];have h1:=aO (I9 (n:=i) hv);have h2:=aO (I9 (n:=i) hu);grind
 rw[e];exact uf.ok (I9 hu) (bQ (lR hu4 i) (by omega)) (bQ (lR hv4 i) (by omega))
theorem BG {q:Rat} (h0:0<q):∃ u v:Nat,q=(u:Rat) / (v:Rat)/\0<u/\0<v/\u=q.num.natAbs/\v=q.den:=by
 have hn:0<q.num:=by
  have e:q*(q.den:Rat)=(q.num:Rat):=by
   have h1:=le q;have h2:=aO q.den_pos;grind
  have h:=Rat.mul_pos h0 (fz q.den_pos);rw[e] at h;exact Rat.intCast_lt_intCast.1 h
 refine⟨q.num.natAbs,q.den,?_,by omega,q.den_pos,rfl,rfl⟩
 have e:((q.num.natAbs:Nat):Rat)=(q.num:Rat):=by
  rw[show ((q.num.natAbs:Nat):Rat)=((((q.num.natAbs:Nat):Int)):Rat) from rfl];congr 1;omega
 rw[e];exact (le q).symm
open Go.RowKit Dg
theorem sR (v:Value) (qs:List Rat) (n:Nat) (w:World) (hl:jw w v qs) (hlen:n<1000000) :
  Calls Tryz.prog 73 #[v,.int .i64 n] w fun e w'=>∃ v',e=.returned v'/\bG w' w.heap.size v' (dJ (fun i=>qs.getD i 0) n)/\Below w.heap.size w w':=by
 obtain⟨p,c,rfl,hc1,hc2⟩:=hl.form;obtain⟨f,hf⟩:∃ f:Nat->Rat,(fun i=>qs.getD i 0)=f:=⟨_,rfl⟩;have HQ:=Ip (fun i=>show qs.getD i 0=f i by rw[<-hf]);rw[hf];clear hf;have HL:=Ip hl;have HN:=Ip hlen;clear hl;go_enter Tryz.func73,Tryz.ntmps73;go_wp2;go_loopw [5,6] (fun s5 s6 wr=>∃ (i:Nat),s6=.int .i64 i/\i<=n/\bG wr w.heap.size s5 (dJ f i)/\Below w.heap.size w wr) (fun _ s6 _=>n-(intOf s6).toNat)
 case atStart=>exact⟨0,rfl,IF _,bG.nil _ _,LN _ _⟩
 case round =>
  obtain⟨i,rfl,hin,hown,hbr⟩:=hrel;by_cases hi:i<n
  ·have HT:=Ip (show dJ f (i+1)=dJ f i++[f i] from jH _ _);have HC:=Ip (FM _ qs i wr (HL.out.below hbr) (by omega));rw[HQ.out] at HC;obtain⟨q,hqe⟩:∃ q,q=f i:=⟨_,rfl⟩;rw[<-hqe] at HC HT;clear hqe;go_wp2_with fail
   refine HC.out.mono ?_;rintro e w2 ⟨v2,rfl,hv2,hb2⟩;obtain⟨m,a,N,d,a',N',d',rfl⟩:=hv2.forms;have hB2:=LK hbr hb2;have hw2:=hown.below hb2;clear HC hb2 hown hbr;have m1:=aj w2 (.cells #[.bool m,.slice a N d,.bool false,.slice a' N' d'] 44);have hcx:=heap_alloc_new w2 (.cells #[.bool m,.slice a N d,.bool false,.slice a' N' d'] 44);have hu3:=hv2.below m1;have hw3:=hw2.below m1;have hB3:=LK hB2 m1;have hbs:=hB3.size;have hzl:(dJ f i).length<1000000000:=by have:=HN.out;rw[bI];omega
   clear hv2 hw2 hB2 m1;go_wp2_with (at_builtin;refine cE 48 Tryz.underlying48 rfl (.tmp 12) (.tmp 16) rfl w.heap.size _ _ m a N d a' N' d' q rfl hw3 _ rfl hcx hu3 hzl hbs ?_)
   intro v' w4 hap;have hB4:=hap.below hw3 hB3 (Iw _) hbs;have hw4:=hap.own;rw[<-HT.out] at hw4;clear hap hw3 hu3 hcx hB3 hbs hzl;go_wp2;go_roundw;case rel=>exact⟨i+1,by go_num,by omega,hw4,hB4⟩
   case measure=>simp[intOf];omega
  ·have hin':i=n:=by omega
   subst hin';clear hi;go_wp2;refine LM (v:=_) (by simp[results,Tryz.results73,go_sem]) rfl ⟨_,rfl,hown,hbr⟩
end Go.Proofs.YtlhpcoelfhjomaaGreatDoor
