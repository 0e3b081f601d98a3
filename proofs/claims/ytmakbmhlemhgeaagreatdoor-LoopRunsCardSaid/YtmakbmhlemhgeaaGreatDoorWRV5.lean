/- L -/
import Derived.Test.YtmakbmhlemhgeaaGreatDoorWNC7
import Derived.Test.YtmakbmhlemhgeaaGreatDoorWNC8
import Derived.Test.YtmakbmhlemhgeaaGreatDoorWNT2
import Derived.Test.YtmakbmhlemhgeaaGreatDoorWLP12
import Derived.Test.YtmakbmhlemhgeaaGreatDoorWPM2
import Derived.Test.YtmakbmhlemhgeaaGreatDoorWLH1
import Derived.Test.YtmakbmhlemhgeaaGreatDoorWRS6
import Derived.Test.YtmakbmhlemhgeaaGreatDoorWLE2
import Derived.Test.YtmakbmhlemhgeaaGreatDoorWLB4
import Derived.Test.YtmakbmhlemhgeaaGreatDoorWB
set_option linter.all false
set_option maxRecDepth 100000
set_option maxHeartbeats 8000000
namespace Go.Proofs.YtmakbmhlemhgeaaGreatDoor
open Go.RowKit Dg Dc
theorem FX {a b:Rat} (ha:okQ a) (hb:okQ b) (h:tq a=tq b):a=b:=congrArg CQ.re (yx ha hb h)
def inQ (a x:List Rat) (t:Nat):Nat->Rat
 | 0=>0
 | k+1=>if k<=t then inQ a x t k+a.getD k 0*x.getD (t-k) 0 else inQ a x t k
def fA (b y:List Rat) (t:Nat) (n:Rat):Nat->Rat
 | 0=>n
 | k+1=>if 0<k/\k<=t then fA b y t n k-b.getD k 0*y.getD (t-k) 0 else fA b y t n k
def bD (a b x:List Rat):Nat->List Rat
 | 0=>[]
 | t+1=>bD a b x t++[fA b (bD a b x t) t (inQ a x t a.length) b.length]
theorem fc (a b x:List Rat):∀ t,(bD a b x t).length=t
 | 0=>rfl
 | t+1=>by rw[bD,GW,fc a b x t];rfl
theorem iL {l:List Rat}{k:Nat} (h:k<l.length):l.getD k 0∈l:=by rw[Hb,G4 h];exact G7 h
theorem Bn {a b:List ByteArray}{qb:List Rat} (h:aI a b=true) (hb:dH b qb):∃ b',qb=1 :: b':=by
 obtain⟨b1,-,-,-,-,bc,hh⟩:=bv h
 have hl:=hb.e
 subst hl
 match qb,hb,b1,hh with
 | q :: b',hb,_,hh =>
  have e:(tq q).data.toList=[49]:=by
   unfold nZ at hh
   simpa using hh
  have:tq q=tq 1:=by
   rw[mt]
   exact jl e
  exact⟨b',by rw[FX (hb.ok q (Hy ..)) iq this]⟩
theorem GC (n:Nat) (h:n≠0):(2:Nat) ^ (33*n)<10 ^ (10*n):=by
 rw[Ip,Ip];exact Nat.pow_lt_pow_left (by decide) h
theorem Gr {x k n t:Nat} (h:x<=2 ^ k) (hk:k<=33*n) (ht:10*n=t) (hn:n≠0):x<10 ^ t:=by
 subst ht;exact Hf (GV h (wS hk)) (GC n hn)
theorem xK {x k:Nat} (h:x<=2 ^ k) (hk:k<=6600):x<10 ^ 2000:=Gr (n:=200) (t:=2000) h (by omega) rfl (by decide)
structure SizP (e:Nat) (p:List Rat):Prop where
 one:p.getD 0 0=1
 ov:∃ D,0<D/\D<=2 ^ e/\∀ q∈p,Ov D (2 ^ e) q
theorem FU {e:Nat}{p:List Rat} (hp:SizP e p) (he:e<=6600):∀ q∈p,okQ q:=by
 obtain⟨-,D,hD,hDl,ov⟩:=hp;exact fun q hq=>(ov q hq).ok hD (xK hDl he) (xK (GM _) he)
open Go.RowKit Dg
theorem me {q:Rat} (h:okQ q):Sz 2000 (rt q):=⟨(B4 h).1,dz _,(B4 h).2⟩
def EH (p:List Rat) (j:Nat):Prop:=∃ e,SizP e p/\(e+1)*2 ^ j<=6600
theorem EH.ok {p:List Rat}{j:Nat} (h:EH p j):∀ q∈p,okQ q:=by
 obtain⟨e,h1,h2⟩:=h;have:=I_ (e+1) (Nat.two_pow_pos j);exact FU h1 (by omega)
theorem ix {a b:Rat}{k l:Nat} (ha:Sz k (rt a)) (hb:Sz l (rt b)):Sz (k+l) (rt (a*b)):=by
 rw[<-ip];exact ha.mul hb
theorem Ay {a:Rat}{k:Nat} (ha:Sz k (rt a)) (h:a≠0):Sz k (rt a⁻¹):=by
 rw[<-xE h];refine ha.inv ?_;rcases Ii (rt a).n with h0 | h0
 ·exact absurd ((bk _).1 h0) h
 ·exact h0
theorem oW (v:Value) (x:List ByteArray) (w:World) (hl:IsS w v x) (hlen:x.length<1000000000) :
  Calls Tryz.prog 41 #[v] w fun e w'=>e=.returned (.bool (dB x))/\Below w.heap.size w w':=by
 obtain⟨p,c,rfl,hc1,hc2⟩:=hl.form;have HL:=GF hl;clear hl;go_enter Tryz.func41,Tryz.ntmps41;go_wp2;go_loopw [3] (fun s3 wr=>∃ (i:Nat),s3=.int .i64 i/\i<=x.length/\Below w.heap.size w wr/\Hid (dB (x.take i)=true)) (fun s3 _=>x.length-(intOf s3).toNat)
 case atStart=>exact⟨0,rfl,GY _,Ki _ _,GF rfl⟩
 case round =>
  obtain⟨i,rfl,hin,hbr,hall⟩:=hrel;by_cases hi:i<x.length
  ·obtain⟨b,o,rfl,hlt,hcell⟩:=IsS.get (HL.out.below hbr) (i:=i) hi;rw[fQ hi] at hcell;have hst:=GF (nO hi);have hbd:=GF (fun h=>qg hi h);generalize aT x i=s at hcell hst hbd;go_wp2_with fail
   refine (AT s wr).mono ?_;rintro e w2 ⟨rfl,hb2⟩;have hB2:=hbr.trans (hb2.mono hbr.size);obtain⟨ok,hok⟩:∃ ok,ok=ce s.data.toList:=⟨_,rfl⟩;rw[<-hok] at hst hbd |-;clear hok hb2 hbr hcell
   cases ok with
   | false =>
    have hf:=hbd.out rfl;have HF:=GF hf;clear hf;go_wp2;refine Kh (v:=.bool false) (by simp[results,Tryz.results41,go_sem]) rfl ⟨by rw[HF.out],hB2⟩
   | true =>
    have hn:dB (x.take (i+1))=true:=by rw[hst.out,hall.out];rfl
    have HN:=GF hn;clear hn;go_wp2;go_roundw;case rel=>exact⟨i+1,by go_num,by omega,hB2,HN⟩
    case measure=>first | (simp[intOf];done) | (simp[intOf];omega)
  ·have hin':i=x.length:=by omega
   subst hin';clear hi;have hh:=hall.out;rw[He] at hh;have HH:=GF hh;clear hh;go_wp2;refine Kh (v:=.bool true) (by simp[results,Tryz.results41,go_sem]) rfl ⟨by rw[HH.out],hbr⟩
theorem Fq (n low high:Int) (w:World) :
  Calls Tryz.prog 45 #[.int .i64 n,.int .i64 low,.int .i64 high] w fun e w'=>e=.returned (.bool (decide (low<=n)&&decide (n<=high)))/\w'=w:=by
 by_cases h:low<=n
 ·have hd:decide (low<=n)=true:=by simp;omega
  go_enter Tryz.func45,Tryz.ntmps45;go_wp2;go_ret;exact⟨by simp[hd],rfl⟩
 ·have hd:decide (low<=n)=false:=by simp;omega
  go_enter Tryz.func45,Tryz.ntmps45;go_wp2;go_ret;exact⟨by simp[hd],rfl⟩
theorem sR (a b:List ByteArray):aI a b=((decide ((1:Int)<=(a.length:Int))&&decide ((a.length:Int)<=7))&&(decide ((1:Int)<=(b.length:Int))&&decide ((b.length:Int)<=7))&&dB a&&dB b&&decide (nZ b=some [49])):=by
 unfold aI gi dB
 rw[show decide ((1:Int)<=(a.length:Int))=decide (1<=a.length) from decide_eq_decide.2 (by omega),show decide ((a.length:Int)<=7)=decide (a.length<=7) from decide_eq_decide.2 (by omega),
  show decide ((1:Int)<=(b.length:Int))=decide (1<=b.length) from decide_eq_decide.2 (by omega),show decide ((b.length:Int)<=7)=decide (b.length<=7) from decide_eq_decide.2 (by omega)]
 generalize decide (1<=a.length)=x1;generalize decide (a.length<=7)=x2;generalize decide (1<=b.length)=x3;generalize decide (b.length<=7)=x4;generalize a.all _=x5;generalize b.all _=x6;generalize decide (nZ b=some [49])=x7
 cases x1<;>cases x2<;>cases x3<;>cases x4<;>cases x5<;>cases x6<;>cases x7<;>rfl
theorem oV (v:Value) (a b:List ByteArray) (w:World) (hF:IsF w v a b) :
  Calls Tryz.prog 40 #[v] w fun e w'=>e=.returned (.int .i64 (aG a b))/\Below w.heap.size w w':=by
 obtain⟨p,c,q,d,rfl,hfa,hfb⟩:=id hF.ex;go_enter Tryz.func40,Tryz.ntmps40;go_upto_region 1 with fail
 have hl:=bA w (.cells #[.slice p a.length c,.slice q b.length d] 34);have HA:=hfa.below hl.below;have HB':=hfb.below hl.below;have HB:=hl.below;have s0:=hl.s0;have CHK:=GF (sR a b);clear hF hfa hfb hl;generalize w.alloc (.cells #[.slice p a.length c,.slice q b.length d] 34)=w1 at *
 have q0:=ai s0 0;have q1:=ai s0 1;go_wp2_with fail
 refine (Fq a.length 1 7 w1).mono ?_;rintro e w2 ⟨rfl,rfl⟩;rename World=>w2;have HI1:=GF (show (decide ((1:Int)<=(a.length:Int))&&decide ((a.length:Int)<=7))=true->a.length<1000000000 from fun h=>by simp at h;omega);generalize (decide ((1:Int)<=(a.length:Int))&&decide ((a.length:Int)<=7))=i1 at *
 cases i1 with
 | false =>
  have he:aG a b=30:=by unfold aG;rw[CHK.out];simp
  have HE:=GF he;clear he;go_wp2;refine Kh (v:=.int .i64 30) (by simp[results,Tryz.results40,go_sem]) rfl ⟨by rw[HE.out],HB⟩
 | true =>
  go_wp2_with fail
  refine (Fq b.length 1 7 w2).mono ?_;rintro e w3 ⟨rfl,rfl⟩;rename World=>w3;have HI2:=GF (show (decide ((1:Int)<=(b.length:Int))&&decide ((b.length:Int)<=7))=true->0<b.length/\b.length<1000000000 from fun h=>by simp at h;omega);generalize (decide ((1:Int)<=(b.length:Int))&&decide ((b.length:Int)<=7))=i2 at *
  cases i2 with
  | false =>
   have he:aG a b=30:=by unfold aG;rw[CHK.out];simp
   have HE:=GF he;clear he;go_wp2;refine Kh (v:=.int .i64 30) (by simp[results,Tryz.results40,go_sem]) rfl ⟨by rw[HE.out],HB⟩
  | true =>
   obtain⟨hb0,hb7⟩:=HI2.out (by first | trivial | rfl);have ha7:=HI1.out (by first | trivial | rfl);go_wp2_with fail
   refine (oW _ a w3 HA ha7).mono ?_;rintro e w4 ⟨rfl,hb4⟩;replace HB':=HB'.below hb4;replace HB:=HB.trans (hb4.mono HB.size);replace s0:=(hb4.block _ (ak s0)).trans s0;clear q0 q1 hb4 HA;have q0:=ai s0 0;have q1:=ai s0 1;generalize dB a=i3 at *
   cases i3 with
   | false =>
    have he:aG a b=30:=by unfold aG;rw[CHK.out];simp
    have HE:=GF he;clear he;go_wp2;refine Kh (v:=.int .i64 30) (by simp[results,Tryz.results40,go_sem]) rfl ⟨by rw[HE.out],HB⟩
   | true =>
    go_wp2_with fail
    refine (oW _ b w4 HB' hb7).mono ?_;rintro e w5 ⟨rfl,hb5⟩;replace HB':=HB'.below hb5;replace HB:=HB.trans (hb5.mono HB.size);replace s0:=(hb5.block _ (ak s0)).trans s0;clear q0 q1 hb5;have q0:=ai s0 0;have q1:=ai s0 1;generalize dB b=i4 at *
    cases i4 with
    | false =>
     have he:aG a b=30:=by unfold aG;rw[CHK.out];simp
     have HE:=GF he;clear he;go_wp2;refine Kh (v:=.int .i64 30) (by simp[results,Tryz.results40,go_sem]) rfl ⟨by rw[HE.out],HB⟩
    | true =>
     obtain⟨bb,ob,rfl,hlt,hcell⟩:=HB'.get (i:=0) hb0;have hcell:w5.cell? ⟨bb,ob,none⟩=some (.string b[0]):=by simpa using hcell
     have HH:=GF (rL hb0);generalize b[0]=s at hcell HH;by_cases hs:s.data.toList=[49]
     ·have hd:(s.toList == [49])=true:=by rw[aC,hs];rfl
      have he:aG a b=0:=by unfold aG;rw[CHK.out,HH.out,decide_eq_true hs];rfl
      have HE:=GF he;clear he hs;go_wp2;refine Kh (v:=.int .i64 0) (by simp[results,Tryz.results40,go_sem]) rfl ⟨by rw[HE.out],HB⟩
     ·have hd:(s.toList == [49])=false:=by rw[aC];exact beq_eq_false_iff_ne.2 hs
      have he:aG a b=30:=by unfold aG;rw[CHK.out,HH.out,decide_eq_false hs];rfl
      have HE:=GF he;clear he hs;go_wp2;refine Kh (v:=.int .i64 30) (by simp[results,Tryz.results40,go_sem]) rfl ⟨by rw[HE.out],HB⟩
theorem ej.lower {w:World}{base base':Nat}{v:Value}{qs:List Rat} (h:ej w base v qs) (hb:base'<=base):ej w base' v qs:=by
 obtain⟨es,h1,⟨hlen,h2⟩,h3⟩:=h.ex;refine⟨⟨es,h1,⟨hlen,?_⟩,h3⟩,h.nx⟩;rcases h2 with h2 | ⟨g,cap,cur,rfl,hg,r⟩
 ·exact Or.inl h2
 ·exact Or.inr ⟨g,cap,cur,rfl,GV hb hg,r⟩
theorem zj {e:Value}{u0 u1 u2 u3:Value} (he:cellsOf e=[u0,u1,u2,u3]):∀ (es:List Value) (i:Nat),(∀ x∈es,(cellsOf x).length=4)->i<es.length ->
  ((((dy es).set (i*4) u0).set (i*4+1) u1).set (i*4+2) u2).set (i*4+3) u3=dy (es.set i e)
 | [],i,_,h=>by simp at h
 | x :: es,0,hl,_=>by
  have h4:=hl x (Hy ..)
  match hx:cellsOf x,h4 with
  | [a,b,c,d],_=>simp[dy,hx,he]
 | x :: es,i+1,hl,h=>by
  have h4:=hl x (Hy ..)
  have ih:=zj he es i (fun y hy=>hl y (In _ hy)) (by simpa using h)
  match hx:cellsOf x,h4 with
  | [a,b,c,d],_ =>
   have e1:dy (x :: es)=a :: b :: c :: d :: dy es:=by simp[dy,hx]
   have e2:dy ((x :: es).set (i+1) e)=a :: b :: c :: d :: dy (es.set i e):=by simp[dy,hx]
   rw[e1,e2,<-ih,show (i+1)*4=i*4+4 from by omega]
   simp[GK]
theorem qk:∀ (es:List Value) (i j:Nat) (h:i<es.length),(∀ x∈es,(cellsOf x).length=4)->j<4->(dy es)[i*4+j]?=(cellsOf es[i])[j]?
 | [],i,_,h,_,_=>by simp at h
 | x :: es,0,j,_,hl,hj=>by
  have h4:=hl x (Hy ..);have e:dy (x :: es)=cellsOf x++dy es:=by simp[dy]
  rw[e,I4 (by omega),Iu,Hp];rfl
 | x :: es,i+1,j,h,hl,hj=>by
  have h4:=hl x (Hy ..);have ih:=qk es i j (by simpa using h) (fun y hy=>hl y (In _ hy)) hj;have e:dy (x :: es)=cellsOf x++dy es:=by simp[dy]
  rw[e,IG (by omega),show (i+1)*4+j-(cellsOf x).length=i*4+j from by omega,ih];rfl
def EZ:Value:=.agg #[.bool false,.slice none 0 0,.bool false,.slice none 0 0]
def QO (w:World) (v:Value):Option Rat->Prop
 | some q=>cW w v q
 | none=>v=EZ
theorem QO.len {w:World}{v:Value}{o:Option Rat} (h:QO w v o):(cellsOf v).length=4:=by
 cases o with
 | some q=>exact cW.len h
 | none=>rw[show v=EZ from h];rfl
structure Dz (w:World) (g n:Nat) (os:List (Option Rat)):Prop where
 ex:∃ es:List Value,es.length=n/\w.ownsRow g 87 4 (.slice (some ⟨g,0,none⟩) n n) n (dy es)/\∀ i (h:i<es.length) (h':i<os.length),QO w es[i] os[i]
 ln:os.length=n
 nx:NoX d9 w (.slice (some ⟨g,0,none⟩) n n)
theorem Dz.four {w:World}{es:List Value}{os:List (Option Rat)} (hl:es.length=os.length) (h:∀ i (h:i<es.length) (h':i<os.length),QO w es[i] os[i]):∀ e∈es,(cellsOf e).length=4:=by
 intro e he;obtain⟨i,hi,rfl⟩:=Ht he;exact (h i hi (by omega)).len
theorem Dz.cells {w:World}{g n:Nat}{os:List (Option Rat)} (h:Dz w g n os) {i:Nat} (hi:i<n):∃ u0 u1 u2 u3,w.cell? ⟨g,i*4,none⟩=some u0/\w.cell? ⟨g,i*4+1,none⟩=some u1/\w.cell? ⟨g,i*4+2,none⟩=some u2/\w.cell? ⟨g,i*4+3,none⟩=some u3:=by
 obtain⟨es,h1,h2,h3⟩:=h.ex
 have h4:=Dz.four (by rw[h1,h.ln]) h3
 have hx:=h4 _ (G7 (show i<es.length by omega))
 have key:∀ j,j<4->w.cell? ⟨g,i*4+j,none⟩=(cellsOf (es[i]'(by omega)))[j]?:=fun j hj=>by
  rw[World.ownsRow.cellAt h2 (i*4+j) (by omega),qk es i j (by omega) h4 hj]
 match hc:cellsOf (es[i]'(by omega)),hx with
 | [a,b,c,d],_ =>
  refine⟨a,b,c,d,?_,?_,?_,?_⟩
  ·rw[show i*4=i*4+0 from rfl,key 0 (by decide),hc];rfl
  ·rw[key 1 (by decide),hc];rfl
  ·rw[key 2 (by decide),hc];rfl
  ·rw[key 3 (by decide),hc];rfl
theorem aw {w:World}{B g:Nat}{vs:Array Value}{T:TypeId} (h:w.heap[g]?=some (.cells vs T (0,0))) (hg:g<B) (i:Nat) {v:Value} (hv:vs[i]?=some v) (z:aL B w):z.w.cell? ⟨g,i,none⟩=some v :=
 (ai ((z.h.block _ hg).trans h) i).trans hv
theorem dec_lt (n:Nat):n<10 ^ (dec n).length:=J_ fun h=>by have:=iy h;omega
theorem FY (q:Rat):(tq q).data.toList=aJ (rt q):=by
 show bE (ct (CQ.real q))=_
 rw[cz (z:=ct (CQ.real q)) (by show (rt 0).n=0;rw[dU])];rfl
theorem Ed (a b:Nat):10 ^ a+10 ^ b<=10 ^ (a+b+1):=by
 have p1:0<10 ^ a:=Ij (by decide);have p2:0<10 ^ b:=Ij (by decide);have h1:10 ^ a<=10 ^ a*10 ^ b:=I_ _ p2;have h2:10 ^ b<=10 ^ a*10 ^ b:=JC _ p1;rw[G6,H6];omega
theorem C_ (q:Rat):q.num.natAbs+q.den<=10 ^ (tq q).size:=by
 have hz:(tq q).size=(aJ (rt q)).length:=by rw[<-FY q];rfl
 rw[hz];have hn:=dec_lt q.num.natAbs;have hd:=dec_lt q.den;have hp:=q.den_pos
 have e:(aJ (rt q)).length=(if (rt q).minus then [45] else ([]:List UInt8)).length+(dec q.num.natAbs).length+(if 1<q.den then 47 :: dec q.den else []).length:=by
  unfold aJ;rw[GW,GW];rfl
 by_cases h:1<q.den
 ·rw[if_pos h,G_] at e;refine GV ?_ (G1 (by decide) (show (dec q.num.natAbs).length+(dec q.den).length+1<=(aJ (rt q)).length by omega));exact GV (by omega) (Ed _ _)
 ·refine GV ?_ (G1 (by decide) (show (dec q.num.natAbs).length<=(aJ (rt q)).length by omega));omega
def dp (l:List ByteArray):Nat:=(l.map ByteArray.size).sum
theorem pY:∀ qs:List Rat,∃ E,∃ ms:List Nat,0<E/\ms.length=qs.length/\(∀ i,i<qs.length->Ov E (ms.getD i 0) (qs.getD i 0))/\E+ms.sum<=10 ^ dp (qs.map tq)
 | []=>⟨1,[],by decide,rfl,fun i h=>by simp at h,by simp[dp]⟩
 | q :: qs=>by
  obtain⟨E,ms,hE,hl,ho,hs⟩:=pY qs;have hp:=q.den_pos;refine⟨E*q.den,(q.num.natAbs*E) :: ms.map (·*q.den),H4 hE hp,by simp[hl],fun i hi=>?_,?_⟩
  ·cases i with
   | zero =>
    have h1:=(Ov.of q).wide E hp hE;rw[G5 q.den E] at h1;exact h1
   | succ i =>
    simp only[G_] at hi;have h1:=(ho i (by omega)).wide q.den hE hp;simp only[List.getD_cons_succ]
    have e:(ms.map (·*q.den)).getD i 0=ms.getD i 0*q.den:=by
     rw[Hb,Jy,Hb,G4 (by omega)];rfl
    rw[e];exact h1
  ·have e1:∀ (l:List Nat) (d:Nat),(l.map (·*d)).sum=l.sum*d:=by
    intro l d
    induction l with
    | nil=>simp
    | cons a l ih=>rw[Ja,List.sum_cons,List.sum_cons,ih,Hv]
   rw[List.sum_cons,e1];have h2:=C_ q;have h3:=Hm h2 hs;rw[<-H6] at h3;have e2:dp ((q :: qs).map tq)=(tq q).size+dp (qs.map tq):=rfl;rw[e2];refine GV ?_ h3;rw[Hv,IU,IU,G5 ms.sum q.den,G5 E q.den];omega
theorem wj {G n t m:Nat} (hG:G<=10 ^ n) (ht:t*n<=m):G ^ t<=10 ^ m:=by
 have h1:G ^ t<=(10 ^ n) ^ t:=Iy hG t;rw[<-Ip] at h1;refine GV h1 (G1 (by decide) ?_);rw[G5];exact ht
theorem Bt {D E M N K:Nat}{a x:List Rat}{t:Nat} (hD:0<D) (hE:0<E) (hDE:D*E<10 ^ 2000) (ha:∀ q∈a,Ov D M q/\okQ q) (hx:∀ q∈x,Ov E N q/\okQ q) (hal:a.length<=7) (ht:t<x.length) (hK:M*N<=K) (h8:8*K<10 ^ 2000) :
  ∀ k,k<=a.length->inT (a.map tq) (x.map tq) t k=tq (inQ a x t k)/\Ov (D*E) (k*K) (inQ a x t k)/\okQ (inQ a x t k)
 | 0,_=>⟨lS.symm,(Ov.zero _).mono (GY _),tV⟩
 | k+1,hk=>by
  obtain⟨h1,h2,h4⟩:=Bt hD hE hDE ha hx hal ht hK h8 k (by omega);have hDp:=H4 hD hE;rw[inT,inQ];by_cases hkt:k<=t
  ·rw[if_pos hkt,if_pos hkt];have m1:=ha _ (iL (show k<a.length by omega));have m2:=hx _ (iL (show t-k<x.length by omega));have o2:=(m1.1.mul m2.1 hD hE).mono hK;have o3:=h2.add o2;have e3:k*K+K=(k+1)*K:=by rw[Hv,Jd]
   rw[e3] at o3;have b3:(k+1)*K<10 ^ 2000:=Hf (GX K (show k+1<=8 by omega)) h8;have b2:K<10 ^ 2000:=Hf (JC K (by decide)) h8;have k2:=o2.ok hDp hDE b2;have k3:=o3.ok hDp hDE b3;refine⟨?_,o3,k3⟩;rw[h1,nn (by omega),nn (by omega),rP m1.2 m2.2 k2,DA h4 k2 k3]
  ·rw[if_neg hkt,if_neg hkt];exact⟨h1,h2.mono (GX _ (Ho k)),h4⟩
def ii (m:Nat->Nat):Nat->Nat
 | 0=>0
 | k+1=>if 0<k then ii m k+m k else ii m k
theorem qE (b y:List Rat) (n:Rat):∀ k,fA b y 0 n k=n
 | 0=>rfl
 | k+1=>by rw[fA,if_neg (by omega),qE b y n k]
theorem qF (b y:List ByteArray) (n:ByteArray):∀ k,lJ b y 0 n k=n
 | 0=>rfl
 | k+1=>by rw[lJ,if_neg (by omega),qF b y n k]
theorem xS {W E I G:Nat}{m:Nat->Nat}{b y:List Rat}{t:Nat}{n:Rat} (hW:0<W) (hE:0<E) (hb:∀ k,0<k->k<b.length->Ov E (m k) (b.getD k 0)) (hbo:∀ k,k<b.length->okQ (b.getD k 0)) (hyl:y.length=t+1) (hEG:E<=G) (hG:E+ii m b.length<=G)
  (hy:∀ s,s<t+1->Ov (W*E ^ s) (I*G ^ s) (y.getD s 0)) (hn:Ov W I n) (hs1:W*E ^ (t+1)<10 ^ 2000) (hs2:I*G ^ (t+1)<10 ^ 2000) (hno:okQ n) (hyo:∀ s,s<t+1->okQ (y.getD s 0)) :
  ∀ k,k<=b.length->lJ (b.map tq) (y.map tq) (t+1) (tq n) k=tq (fA b y (t+1) n k)/\Ov (W*E ^ (t+1)) (I*(G ^ t*(E+ii m k))) (fA b y (t+1) n k)/\okQ (fA b y (t+1) n k)/\ii m k<=ii m b.length
 | 0,_=>by
  refine⟨rfl,?_,hno,GY _⟩;refine (hn.wide (E ^ (t+1)) hW (Ij hE)).mono (G3 _ ?_);rw[G6];exact Hm (Iy hEG t) (H_ _ _)
 | k+1,hk=>by
  obtain⟨h1,h2,h4,h5⟩:=xS hW hE hb hbo hyl hEG hG hy hn hs1 hs2 hno hyo k (by omega);have hEt:0<E ^ (t+1):=Ij hE;have hDp:=H4 hW hEt
  have mono:∀ j,ii m j<=ii m (j+1):=fun j=>by
   rw[ii];split<;>omega
  have up:∀ j i,ii m j<=ii m (j+i):=fun j i=>by
   induction i with
   | zero=>exact GM _
   | succ i ih=>exact GV ih (mono _)
  have h5':ii m (k+1)<=ii m b.length:=by
   have:=up (k+1) (b.length-(k+1))
   rwa [show k+1+(b.length-(k+1))=b.length by omega] at this
  rw[lJ,fA];by_cases hkt:0<k/\k<=t+1
  ·rw[if_pos hkt,if_pos hkt];have m1:=hb k hkt.1 (by omega);have m2:=hy (t+1-k) (by omega);have hEs:0<E ^ (t+1-k):=Ij hE;have o1:=(m1.mul m2 hE (H4 hW hEs)).wide (E ^ (k-1)) (H4 hE (H4 hW hEs)) (Ij hE)
   have eD:E*(W*E ^ (t+1-k))*E ^ (k-1)=W*E ^ (t+1):=by
    have e:E ^ (t+1)=E*E ^ (t+1-k)*E ^ (k-1):=by
     rw[<-Nat.pow_succ',<-H6];congr 1;omega
    rw[e];simp only[J7,G5,IR]
   rw[eD] at o1
   have o2:Ov (W*E ^ (t+1)) (I*(G ^ t*m k)) (b.getD k 0*y.getD (t+1-k) 0):=o1.mono (by
    have g1:E ^ (k-1)<=G ^ (k-1):=Iy hEG _;have g2:G ^ (t+1-k)*G ^ (k-1)=G ^ t:=by rw[<-H6];congr 1;omega
    have g3:=G3 (m k*(I*G ^ (t+1-k))) g1;refine GV g3 (Ji ?_);rw[<-g2]
    simp only[J7,G5,IR])
   have o3:=h2.sub o2
   have e3:I*(G ^ t*(E+ii m k))+I*(G ^ t*m k)=I*(G ^ t*(E+ii m (k+1))):=by
    rw[<-IU,<-IU,ii,if_pos hkt.1,IH]
   rw[e3] at o3
   have b3:I*(G ^ t*(E+ii m (k+1)))<=I*G ^ (t+1):=by
    rw[G6];exact G3 _ (G3 _ (by omega))
   have b2:I*(G ^ t*m k)<=I*(G ^ t*(E+ii m (k+1))):=by rw[<-e3];exact Nat.le_add_left _ _
   have k3:=o3.ok hDp hs1 (Hf b3 hs2);have k2:=o2.ok hDp hs1 (Hf (GV b2 b3) hs2);refine⟨?_,o3,k3,h5'⟩;rw[h1,nn (by omega),nn (by omega),rP (hbo k (by omega)) (hyo _ (by omega)) k2,Ev h4 k2 k3]
  ·rw[if_neg hkt,if_neg hkt];exact⟨h1,h2.mono (G3 _ (G3 _ (by have:=mono k;omega))),h4,h5'⟩
theorem EC (m:Nat):2 ^ (3*m)<=10 ^ m:=by rw[Ip];exact Iy (by decide) m
theorem C7 {x k m:Nat} (h:x<=2 ^ k) (hk:k<=3*m):x<=10 ^ m:=GV h (GV (G1 (by decide) hk) (EC m))
theorem uK {x y a b c:Nat} (hx:x<=10 ^ a) (hy:y<=10 ^ b) (hc:a+b<c):x*y<10 ^ c:=by
 have h:=Hm hx hy;rw[<-H6] at h;exact Hf h (JS (by decide) hc)
theorem qR (ms:List Nat):∀ j,ii (fun k=>ms.getD (k-1) 0) (j+1)=(ms.take j).sum
 | 0=>by simp[ii]
 | j+1=>by
  rw[ii,if_pos (by omega),qR ms j,List.take_add_one,List.sum_append,IB,Hb]
  cases ms[j]?<;>simp
theorem zT {a b c:Nat} (h:3+(a+b)=c):8*(2 ^ a*2 ^ b)=2 ^ c:=by
 rw[<-H6,show (8:Nat)=2 ^ 3 from rfl,<-H6,h]
theorem zG {x y K:Nat} (h:x<=8) (hK:8*K=y):x*K<=y:=by rw[<-hK];exact GX K h
theorem Ba {a b c m:Nat} (h:3+(a+b)=c) (hc:c<=3*m):8*(2 ^ a*2 ^ b)<=10 ^ m:=C7 (k:=c) (Ji (zT h)) hc
theorem D5 {x:Nat} (h:x<=10 ^ 300):x<10 ^ 2000:=Hf h (JS (a:=10) (m:=300) (n:=2000) (by decide) (by decide))
theorem FS {a b x:List ByteArray}{qa tl xs:List Rat}{N:Nat} (hN:8*(2 ^ 96*N)<=10 ^ 300) (ha:dH a qa) (hb:dH b (1 :: tl)) (hx:x=xs.map tq) (hxo:∃ D,0<D/\D<=2 ^ 768/\∀ q∈xs,Ov D N q/\okQ q) (hsz:xs.length*dp (tl.map tq)<=700) :
  ∃ W E G I,0<W/\0<E/\∀ t,t<=xs.length->cj a b x t=(bD qa (1 :: tl) xs t).map tq/\(∀ s,s<t->Ov (W*E ^ s) (I*G ^ s) ((bD qa (1 :: tl) xs t).getD s 0)/\okQ ((bD qa (1 :: tl) xs t).getD s 0)) /\
   ∀ s,s<t->(∀ k,k<=qa.length->okQ (inQ qa xs s k))/\∀ k,k<=(1 :: tl).length->okQ (fA (1 :: tl) (bD qa (1 :: tl) xs s) s (inQ qa xs s qa.length) k):=by
 obtain⟨Da,hDa,hDal,oa⟩:=ha.ov;obtain⟨Dx,hDx,hDxl,ox⟩:=hxo;obtain⟨E,ms,hE,hml,hmo,hms⟩:=pY tl;have hW:Da*Dx<=2 ^ 852:=rN (x:=Da) (y:=Dx) (a:=84) (b:=768) (c:=852) hDal hDxl rfl;have hWp:=H4 hDa hDx;have hW2:=jv hW (by decide);have hW3:=C7 (x:=Da*Dx) (k:=852) (m:=300) hW (by decide);obtain⟨I,hI8⟩:∃ I,8*(2 ^ 96*N)=I:=⟨_,rfl⟩;have h8:=D5 hN;rw[hI8] at hN;have hI3:=hN;generalize hG:10 ^ dp (tl.map tq)=G at hms;have hEG:E<=G:=by omega
 have hbl:=hb.len
 have hb1:∀ k,0<k->k<(1 :: tl).length->Ov E ((fun k=>ms.getD (k-1) 0) k) ((1 :: tl).getD k 0):=fun k h0 hk=>by
  obtain⟨j,rfl⟩:∃ j,k=j+1:=⟨k-1,by omega⟩;exact hmo j (by simpa using hk)
 have hbo:∀ k,k<(1 :: tl).length->okQ ((1 :: tl).getD k 0):=fun k hk=>hb.ok _ (iL hk)
 have hsum:E+ii (fun k=>ms.getD (k-1) 0) (1 :: tl).length<=G:=by
  rw[G_,qR,<-hml,He];exact hms
 have big:∀ t,t<=xs.length->G ^ t<=10 ^ 700:=fun t ht=>by
  rw[<-hG];exact wj (m:=700) (GM _) (GV (GX _ ht) hsz)
 have bigE:∀ t,t<=xs.length->E ^ t<=10 ^ 700:=fun t ht=>GV (Iy hEG t) (big t ht);refine⟨Da*Dx,E,G,I,hWp,hE,fun t=>?_⟩
 induction t with
 | zero=>exact fun _=>⟨rfl,fun s hs=>by omega,fun s hs=>by omega⟩
 | succ t ih =>
  intro ht;obtain⟨h1,h2,h3⟩:=ih (by omega);have hl:=fc qa (1 :: tl) xs t;have hin:=Bt (K:=2 ^ 96*N) (t:=t) hDa hDx hW2 (fun q hq=>⟨oa q hq,ha.ok q hq⟩) ox ha.len (by omega) (GM _) h8;obtain⟨i1,i2,i3⟩:=hin qa.length (GM _);have i2:=i2.mono (zG (y:=I) (by have:=ha.len;omega) hI8)
  have key:∀ k,k<=(1 :: tl).length->lJ ((1 :: tl).map tq) ((bD qa (1 :: tl) xs t).map tq) t (tq (inQ qa xs t qa.length)) k=tq (fA (1 :: tl) (bD qa (1 :: tl) xs t) t (inQ qa xs t qa.length) k) /\
    Ov (Da*Dx*E ^ t) (I*G ^ t) (fA (1 :: tl) (bD qa (1 :: tl) xs t) t (inQ qa xs t qa.length) k)/\okQ (fA (1 :: tl) (bD qa (1 :: tl) xs t) t (inQ qa xs t qa.length) k):=by
   intro k hk
   cases t with
   | zero =>
    rw[qE,qF];exact⟨rfl,by rw[Nat.pow_zero,Nat.pow_zero,Ix,Ix];exact i2,i3⟩
   | succ t =>
    obtain⟨g1,g2,g3,g4⟩:=xS (t:=t) (m:=fun k=>ms.getD (k-1) 0) hWp hE hb1 hbo hl hEG hsum (fun s hs=>(h2 s hs).1) i2 (uK (a:=300) (b:=700) (c:=2000) hW3 (bigE _ (by omega)) (by decide)) (uK (a:=300) (b:=700) (c:=2000) hI3 (big _ (by omega)) (by decide)) i3 (fun s hs=>(h2 s hs).2) k hk;refine⟨g1,g2.mono ?_,g3⟩;rw[G6];exact G3 _ (G3 _ (by omega))
  obtain⟨k1,k2,k3⟩:=key _ (GM _);refine⟨?_,fun s hs=>?_,fun s hs=>?_⟩
  ·rw[cj,bD,Kb,h1];congr 1;unfold nw;rw[ha.e,hb.e,hx,Hj,Hj,i1,k1];rfl
  ·rw[bD,Hb];by_cases h:s<t
   ·rw[I4 (by omega),<-Hb];exact h2 s h
   ·obtain rfl:s=t:=by omega
    rw[IG (by omega),hl,IX];exact⟨k2,k3⟩
  ·by_cases h:s<t
   ·exact h3 s h
   ·obtain rfl:s=t:=by omega
    exact⟨fun k hk=>(hin k hk).2.2,fun k hk=>(key k hk).2.2⟩
theorem BW (va vb:Value) (l:List ByteArray) (x:Int) (w:World) (ha:IsS w va l) (hb:IsS w vb l) (hl:l.length<1000000) :
  Calls Tryz.prog 15 #[va,.int .i64 x,vb,.int .i64 x] w fun e w'=>e=.returned (.bool true)/\Below w.heap.size w w':=by
 obtain⟨pa,ca,rfl,-⟩:=id ha.form;obtain⟨pb,cb,rfl,-⟩:=id hb.form;have HS:=GF (iZ _ _ l l w ha hb hl hl);rw[decide_eq_true rfl] at HS;clear ha hb hl;go_enter Tryz.func15,Tryz.ntmps15;go_wp2_with fail
 refine HS.out.mono ?_;rintro e w2 ⟨rfl,hb⟩;go_wp2;refine Kh (v:=.bool true) (by simp[results,Tryz.results15,go_sem]) rfl ⟨rfl,hb⟩
end Go.Proofs.YtmakbmhlemhgeaaGreatDoor
