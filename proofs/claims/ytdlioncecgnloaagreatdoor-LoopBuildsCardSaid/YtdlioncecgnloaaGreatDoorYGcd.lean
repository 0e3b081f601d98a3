/- Lemmas of this claim. -/
import Derived.Test.YtdlioncecgnloaaGreatDoorYOverC
import Derived.Test.YtdlioncecgnloaaGreatDoorYFmt
set_option linter.all false
set_option maxRecDepth 100000
set_option maxHeartbeats 8000000
namespace Go.Proofs.YtdlioncecgnloaaGreatDoor
open Go.RowKit Dg
def IsN (w:World) (v:Value) (n:Nat):Prop:=IsU w v (ah BB n)
theorem IsN.below {w w':World}{v:Value}{n:Nat} (h:IsN w v n) (hb:Below w.heap.size w w'):IsN w' v n:=IsU.below h hb
def Few (n:Nat):Prop:=(ah BB n).length<100000
theorem Few.mono {m n:Nat} (h:Few n) (hm:m≤n):Few m:=by
 unfold Few at *
 have h1:=b_ az n
 have:=bC az (n:=m) (k:=(ah BB n).length) (by omega)
 omega
theorem oF (va vb:Value) (a b:Nat) (w:World) (ha:IsN w va a) (hb:IsN w vb b) (hfa:Few a) (hfb:Few b) (h0:0<b) :
  Calls Tryz.prog 218 #[va,vb] w fun e w'=>∃ vq vr,e=.returned (.tuple #[vq,vr])∧IsN w' vq (a / b)∧IsN w' vr (a % b)∧Below w.heap.size w w':=by
 have va1:=aR az a
 have vb1:=aR az b
 unfold Few at hfa hfb
 unfold IsN at *
 have hpos:0<(ah BB b).length:=by
  apply zP.2
  intro e
  have:=(bK az).1 e
  omega
 rcases Ax a b with hlt | hge
 ·have:=sV va vb (ah BB a) (ah BB b) w ha hb (aZ a) (aZ b) (by rw[va1,vb1];exact hlt)
  rw[va1,vb1] at this;exact this
 ·by_cases h1:(ah BB b).length=1
  ·have:=uQ va vb (ah BB a) (ah BB b) w ha hb (aZ a) (aZ b) (by omega) h1 (by rw[va1,vb1];exact hge)
   rw[va1,vb1] at this;exact this
  ·have:=sW va vb (ah BB a) (ah BB b) w ha hb (aZ a) (aZ b) hfa hfb (by omega) (by rw[va1,vb1];exact hge)
   rw[va1,vb1] at this;exact this
theorem pK (va vb:Value) (a b:Nat) (w:World) (ha:IsN w va a) (hb:IsN w vb b) (hfa:Few a) (hfb:Few b) :
  Calls Tryz.prog 217 #[va,vb] w fun e w'=>∃ v,e=.returned v∧IsN w' v (Nat.gcd a b)∧Below w.heap.size w w':=by
 go_enter Tryz.func217,Tryz.ntmps217
 go_wp2
 go_loopg [0,1] b (fun g s0 s1 wr=>∃ x:Nat,Hid (IsN wr s0 x)∧Hid (IsN wr s1 g)∧Hid (Few x)∧Hid (Few g)∧Hid (Nat.gcd g x=Nat.gcd a b)∧Below w.heap.size w wr)
 case atStart=>exact⟨a,ha,hb,hfa,hfb,Nat.gcd_comm b a,Below.refl _ _⟩
 case round =>
  obtain⟨x,hx,hy,hfx,hfy,hg,hbl⟩:=hrel
  have hy':=hy.out
  obtain⟨p,cap,rfl,hlc,hcm,_⟩:=hy'
  by_cases h0:gk=0
  ·subst h0
   have hl:(ah BB 0).length=0:=by rw[bh];rfl
   go_wp2
   go_ret
   refine⟨_,rfl,?_,hbl⟩
   have:=hg.out
   rw[Nat.gcd_zero_left] at this
   rw[←this];exact hx.out
  ·have hpos:0<(ah BB gk).length:=by
    apply zP.2
    intro e
    exact h0 ((bK az).1 e)
   have hmod:x % gk<gk:=Az _ (Ba h0)
   go_wp2_with (go_at_call 218;refine (oF _ _ x gk _ hx.out hy.out hfx.out hfy.out (by omega)).mono ?_;rintro e w1 ⟨vq,vr,rfl,hq,hr,hb1⟩)
   go_roundg (x % gk)
   case rel =>
    exact⟨gk,IsN.below hy.out hb1,hr,hfy,Few.mono hfy.out (By hmod),by unfold Hid;have:=hg.out;rw[Nat.gcd_rec] at this;exact this,hbl.trans (hb1.mono hbl.size)⟩
   case measure=>exact hmod
open Go.RowKit Dc Dg
theorem wO {n:Nat} (h:Few n):(dec n).length≤1000000:=by
 unfold Few at h
 have h1:=b_ az n
 have h3:BB=10 ^ 9:=by decide
 have h4:BB ^ (ah BB n).length=10 ^ (9*(ah BB n).length):=by rw[h3,←Bt]
 have h5:n<10 ^ (9*(ah BB n).length+1):=by
  rw[zH,←h4]
  have:0<BB ^ (ah BB n).length:=AP (by decide)
  omega
 have:=bP (k:=9*(ah BB n).length+1) (by omega) h5
 omega
theorem vP (va:Value) (n:Nat) (w:World) (ha:IsN w va n) (hf:Few n) (hG:Gw w) :
  Calls Tryz.prog 268 #[va] w fun e w'=>∃ t:ByteArray,e=.returned (.string t)∧Hid (t.data.toList=dec n)∧t.size≤1000000∧Below w.heap.size w w':=by
 have h:=vQ va (ah BB n) w ha (aZ n) hf hG
 rw[aR az] at h
 refine h.mono ?_
 rintro e w' ⟨rfl,hb⟩
 exact⟨_,rfl,rfl,wO hf,hb⟩
theorem vI {l:List Nat} (hl:CB l) (h:0<l.length):(dec (val BB l)).length=9*(l.length-1)+(dec (nth l (l.length-1))).length:=by
 have hne:l≠[]:=zP.1 h
 have hp:=eh hl hne
 have hB:(10:Nat) ^ (9*(l.length-1))=BB ^ (l.length-1):=by rw[Bt];rfl
 have e:val BB l=val BB (l.take (l.length-1))+nth l (l.length-1)*BB ^ (l.length-1):=by
  have:val BB l=val BB (l.take (l.length-1+1)):=by rw[zA (by omega)]
  rw[this,bO (by omega)]
 have ht:val BB (l.take (l.length-1))<BB ^ (l.length-1):=fP hl.1 (by omega)
 rw[lG (9*(l.length-1)) (val BB l) (by rw[hB];exact hp),zw,pY,hB]
 have hpos:0<BB ^ (l.length-1):=AP (by decide)
 have:val BB l / BB ^ (l.length-1)=nth l (l.length-1):=by
  rw[e,BG _ _ hpos,Aw ht,Ad]
 rw[this];omega
theorem xS (va:Value) (n:Nat) (w:World) (ha:IsN w va n) (hf:Few n) (hG:Gw w) :
  Calls Tryz.prog 234 #[va] w fun e w'=>e=.returned (.int .i64 ((dec n).length:Nat))∧Below w.heap.size w w':=by
 have ha':=ha
 obtain⟨p,cap,rfl,hlc,hcm,hcell⟩:=ha'
 unfold maxLen at hcm
 unfold Few at hf
 have hv:=aR az n
 have hcan:=aZ n
 obtain⟨l,hl⟩:∃ l,l=ah BB n:=⟨_,rfl⟩
 rw[←hl] at hlc hcell hf hv hcan ⊢
 have HV:=zf hv
 clear hl hv ha
 by_cases h0:l.length=0
 ·have hnil:l=[]:=Av h0
  have H:=zf hnil
  clear hnil
  have h0':((l.length:Int) == 0)=true:=by simp[h0]
  go_enter Tryz.func234,Tryz.ntmps234
  go_wp2
  go_ret
  refine⟨?_,Below.refl _ _⟩
  rw[←HV.out,H.out,val_nil,da (by omega)];rfl
 ·have h0':((l.length:Int) == 0)=false:=by simp;intro e;rw[e] at h0;simp at h0
  have hpos:0<l.length:=by omega
  obtain⟨b,o,rfl,hbw,hc⟩:=hcell hpos
  have hc1:=hc (l.length-1) (by omega)
  have hb1':nth l (l.length-1)<1000000000:=bY hcan.1 (show l.length-1<l.length by omega)
  clear h0 hc hcell
  have hsl:=zf (vI hcan hpos)
  go_enter Tryz.func234,Tryz.ntmps234
  go_wp2_with (go_at_call 269;refine (kt _ _ rfl (by omega) w hG).mono ?_;rintro e w3 ⟨t3,rfl,ht3,htsz3,ht20,hb3⟩)
  go_ret
  refine⟨?_,hb3⟩
  rw[←HV.out,hsl.out,←htsz3.out]
  show Ending.returned (.int .i64 (9*((l.length:Int)-1)+(t3.size:Int)))=_
  congr 2
  omega
theorem aq (w:World) (cs:Array Value) (T:TypeId) (j:Nat) (v:Value) (h:cs[j]?=some v):(w.alloc (.cells cs T)).cell? ⟨w.heap.size,j,none⟩=some v:=by
 rw[World.cell?_alloc_new];exact h
structure Rt where
 minus:Bool
 n:Nat
 d:Nat
def IsR (w:World) (v:Value) (r:Rt):Prop:=∃ vn vd,v=.agg #[.bool r.minus,vn,vd]∧IsN w vn r.n∧IsN w vd r.d∧Few r.n∧Few r.d
theorem IsR.below {w w':World}{v:Value}{r:Rt} (h:IsR w v r) (hb:Below w.heap.size w w'):IsR w' v r:=by
 obtain⟨vn,vd,e,h1,h2,h3,h4⟩:=h
 exact⟨vn,vd,e,h1.below hb,h2.below hb,h3,h4⟩
def aF (r:Rt):List UInt8:=(if r.minus then [45] else [])++dec r.n++(if 1<r.d then 47 :: dec r.d else [])
def cJ (r:Rt):Bool:=decide (2000<(dec r.n).length)||decide (2000<(dec r.d).length)
theorem uu {d:Nat} (h0:0<d):(1<(ah BB d).length∨((ah BB d).length=1∧1<nth (ah BB d) 0))↔1<d:=by
 have hv:=aR az d
 have hc:=aZ d
 generalize ah BB d=l at *
 match l,hv,hc with
 | [],hv,_=>simp at hv;omega
 | [x],hv,_=>simp at hv;subst hv;simp[nth]
 | x :: y :: l,hv,hc =>
  have:=eh hc (by simp)
  simp only[zU] at this ⊢
  have h2:BB ^ 1≤BB ^ (l.length+1+1-1):=zQ (by decide) (by omega)
  have:2≤BB ^ 1:=by decide
  rw[hv] at *
  omega
theorem vH:(⟨#[47]⟩:ByteArray).size=1:=rfl
theorem qw:(⟨#[45]⟩:ByteArray).size=1:=rfl
theorem fx (va:Value) (r:Rt) (w:World) (ha:IsR w va r) (h0:0<r.d) (hG:Gw w) :
  Calls Tryz.prog 233 #[va] w fun e w'=>∃ t:ByteArray,e=.returned (.string t)∧Hid (t.data.toList=aF r)∧t.size≤3000000∧Below w.heap.size w w':=by
 obtain⟨mi,n,d⟩:=r
 obtain⟨vn,vd,rfl,hn,hd,hfn,hfd⟩:=ha
 simp only at hn hd hfn hfd h0
 have hg1:=uu h0
 have hvd:=hd
 obtain⟨p,cap,rfl,hlc,hcm,hcell⟩:=hvd
 go_enter Tryz.func233,Tryz.ntmps233
 go_wp2_with fail
 have hb0:Below w.heap.size w (w.alloc (.cells #[.bool mi,vn,.slice p (ah BB d).length cap] 89)):=(Below.refl _ _).alloc (zn _) _
 have c0:=aq w #[.bool mi,vn,.slice p (ah BB d).length cap] 89 0 _ rfl
 have c2:=aq w #[.bool mi,vn,.slice p (ah BB d).length cap] 89 2 _ rfl
 have hsz0:(w.alloc (.cells #[.bool mi,vn,.slice p (ah BB d).length cap] 89)).heap.size=w.heap.size+1:=by simp
 generalize w.alloc (.cells #[.bool mi,vn,.slice p (ah BB d).length cap] 89)=w0 at hb0 c0 c2 hsz0 ⊢
 refine (vP _ n w0 (hn.below hb0) hfn (hG.below hb0)).mono ?_
 rintro e w1 ⟨t1,rfl,ht1,ht1s,hb1⟩
 have d0:=(hb1.cell (p:=⟨w.heap.size,0,none⟩) (by show w.heap.size<_;omega)).trans c0
 have d2:=(hb1.cell (p:=⟨w.heap.size,2,none⟩) (by show w.heap.size<_;omega)).trans c2
 have hbl1:=hb0.trans (hb1.mono hb0.size)
 have HBL1:=zf hbl1
 have hdd:=zf (hd.below hbl1)
 have hGG:=zf (hG.below hbl1)
 have hat:=zf (AtU.below hcell hbl1 (zn _))
 have hsz1:=hb1.size
 rw[hsz0] at hsz1
 clear hb0 hb1 c0 c2 hcell hbl1 hsz0 hd hn hG
 unfold maxLen at hcm
 by_cases hone:1<d
 ·have hlen:=hg1.2 hone
  clear hg1
  rcases hlen with hlen | ⟨hlen,hdig⟩
  ·have hgt:decide ((1:Int)<((ah BB d).length:Int))=true:=by simp;omega
   cases mi
   all_goals
    go_wp2_with (go_at_call 268;refine (vP _ d _ (by exact hdd.out) hfd (by exact hGG.out)).mono ?_;rintro e w2 ⟨t2,rfl,ht2,ht2s,hb2⟩)
    go_ret
    refine⟨_,rfl,?_,?_,HBL1.out.trans (hb2.mono HBL1.out.size)⟩
    ·unfold Hid aF;rw[if_pos hone];simp[ht1.out,ht2.out]
    ·simp[qw,vH];omega
  ·obtain⟨b,o,rfl,hbw,hc⟩:=hat.out (by omega)
   have hc0:w1.cell? ⟨b,o,none⟩=some (.int .u64 (nth (ah BB d) 0)):=hc 0 (by omega)
   have hgt:decide ((1:Int)<((ah BB d).length:Int))=false:=by simp;omega
   have hgt2:decide ((1:Int)<((nth (ah BB d) 0):Int))=true:=by simp;omega
   have hpos:(0:Int)<((ah BB d).length:Int):=by omega
   have HLEN:=zf hlen
   clear hc hlen
   cases mi
   all_goals
    go_wp2_with (go_at_call 268;refine (vP _ d _ (by exact hdd.out) hfd (by exact hGG.out)).mono ?_;rintro e w2 ⟨t2,rfl,ht2,ht2s,hb2⟩)
    go_ret
    refine⟨_,rfl,?_,?_,HBL1.out.trans (hb2.mono HBL1.out.size)⟩
    ·unfold Hid aF;rw[if_pos hone];simp[ht1.out,ht2.out]
    ·simp[qw,vH];omega
 ·have hnl:¬ (1<(ah BB d).length∨((ah BB d).length=1∧1<nth (ah BB d) 0)):=fun h=>hone (hg1.1 h)
  have hl1:(ah BB d).length=1:=by
   have:0<(ah BB d).length:=by
    apply zP.2
    intro e
    have:=(bK az).1 e
    omega
   omega
  have hd1:nth (ah BB d) 0≤1:=by omega
  obtain⟨b,o,rfl,hbw,hc⟩:=hat.out (by omega)
  have hc0:w1.cell? ⟨b,o,none⟩=some (.int .u64 (nth (ah BB d) 0)):=hc 0 (by omega)
  have hgt:decide ((1:Int)<((ah BB d).length:Int))=false:=by simp;omega
  have hgt2:decide ((1:Int)<((nth (ah BB d) 0):Int))=false:=by simp;omega
  have hpos:(0:Int)<((ah BB d).length:Int):=by omega
  have HLEN:=zf hl1
  clear hc hl1 hg1 hnl
  cases mi
  all_goals
   go_wp2
   go_ret
   refine⟨_,rfl,?_,?_,HBL1.out⟩
   ·unfold Hid aF;rw[if_neg hone];simp[ht1.out]
   ·first | omega | (simp[qw];omega)
theorem mF (va:Value) (r:Rt) (w:World) (ha:IsR w va r) (hG:Gw w) :
  Calls Tryz.prog 199 #[va] w fun e w'=>e=.returned (.bool (cJ r))∧Below w.heap.size w w':=by
 obtain⟨mi,n,d⟩:=r
 obtain⟨vn,vd,rfl,hn,hd,hfn,hfd⟩:=ha
 simp only at hn hd hfn hfd
 go_enter Tryz.func199,Tryz.ntmps199
 go_wp2_with fail
 have hb0:Below w.heap.size w (w.alloc (.cells #[.bool mi,vn,vd] 89)):=(Below.refl _ _).alloc (zn _) _
 have c2:=aq w #[.bool mi,vn,vd] 89 2 _ rfl
 have hsz0:(w.alloc (.cells #[.bool mi,vn,vd] 89)).heap.size=w.heap.size+1:=by simp
 generalize w.alloc (.cells #[.bool mi,vn,vd] 89)=w0 at hb0 c2 hsz0 ⊢
 refine (xS _ n w0 (hn.below hb0) hfn (hG.below hb0)).mono ?_
 rintro e w1 ⟨rfl,hb1⟩
 have d2:=(hb1.cell (p:=⟨w.heap.size,2,none⟩) (by show w.heap.size<_;omega)).trans c2
 have hbl1:=hb0.trans (hb1.mono hb0.size)
 have HBL1:=zf hbl1
 have hdd:=zf (hd.below hbl1)
 have hGG:=zf (hG.below hbl1)
 clear hb0 hb1 c2 hbl1 hsz0 hd hn hG
 by_cases hbig:2000<(dec n).length
 ·have hq:decide ((2000:Int)<(((dec n).length:Nat):Int))=true:=by simp;omega
  go_wp2
  go_ret
  exact⟨by unfold cJ;rw[decide_eq_true hbig];rfl,HBL1.out⟩
 ·have hq:decide ((2000:Int)<(((dec n).length:Nat):Int))=false:=by simp;omega
  go_wp2_with (go_at_call 234;refine (xS _ d _ (by exact hdd.out) hfd (by exact hGG.out)).mono ?_;rintro e w2 ⟨rfl,hb2⟩)
  go_ret
  refine⟨?_,HBL1.out.trans (hb2.mono HBL1.out.size)⟩
  unfold cJ;rw[decide_eq_false hbig]
  have:decide ((2000:Int)<(((dec d).length:Nat):Int))=decide (2000<(dec d).length):=by
   by_cases h:2000<(dec d).length
   ·rw[decide_eq_true h];simp;omega
   ·rw[decide_eq_false h];simp;omega
  show Ending.returned (.bool _)=_
  rw[this];rfl
structure Vl where
 x:Rt
 y:Rt
def IsV (w:World) (v:Value) (z:Vl):Prop:=∃ a b c d e f,v=.agg #[a,b,c,d,e,f]∧IsR w (.agg #[a,b,c]) z.x∧IsR w (.agg #[d,e,f]) z.y
theorem IsV.below {w w':World}{v:Value}{z:Vl} (h:IsV w v z) (hb:Below w.heap.size w w'):IsV w' v z:=by
 obtain⟨a,b,c,d,e,f,e1,h1,h2⟩:=h
 exact⟨a,b,c,d,e,f,e1,h1.below hb,h2.below hb⟩
theorem eN (va:Value) (r:Rt) (w:World) (ha:IsR w va r) :
  Calls Tryz.prog 183 #[va] w fun e w'=>e=.returned (.bool (decide (r.n=0)))∧Below w.heap.size w w':=by
 obtain⟨mi,n,d⟩:=r
 obtain⟨vn,vd,rfl,hn,hd,hfn,hfd⟩:=ha
 simp only at hn
 obtain⟨p,cap,rfl,hlc,hcm,hcell⟩:=hn
 have hz:((((ah BB n).length:Nat):Int) == 0)=decide (n=0):=by
  by_cases h:n=0
  ·subst h;simp[bh]
  ·have:0<(ah BB n).length:=zP.2 fun e=>h ((bK az).1 e)
   simp[h];intro e;rw[e] at this;simp at this
 have HZ:=zf hz
 clear hz
 go_enter Tryz.func183,Tryz.ntmps183
 go_wp2
 go_ret
 exact⟨by rw[←HZ.out];rfl,(Below.refl _ _).alloc (zn _) _⟩
theorem db (va:Value) (z:Vl) (w:World) (ha:IsV w va z) :
  Calls Tryz.prog 150 #[va] w fun e w'=>e=.returned (.bool (decide (z.y.n=0)))∧Below w.heap.size w w':=by
 obtain⟨a,b,c,d,e,f,rfl,hx,hy⟩:=ha
 have hb0:Below w.heap.size w (w.alloc (.cells #[a,b,c,d,e,f] 91)):=(Below.refl _ _).alloc (zn _) _
 have HB:=zf hb0
 have hy':=zf (hy.below hb0)
 clear hb0
 go_enter Tryz.func150,Tryz.ntmps150
 go_wp2_with (go_at_call 183;refine (eN _ z.y _ (by exact hy'.out)).mono ?_;rintro e w1 ⟨rfl,hb1⟩)
 go_ret
 exact⟨rfl,HB.out.trans (hb1.mono (by simp))⟩
def cA (r:Rt):List UInt8:=if aF r=[49]∨aF r=[45,49] then (aF r).take ((aF r).length-1) else aF r
def bS (z:Vl):List UInt8 :=
 if z.y.n=0 then aF z.x else
  (if z.x.n=0 then [] else aF z.x++(if z.y.minus then [] else [43]))++cA z.y++[105]
theorem oN (r:Rt):0<(aF r).length:=by
 unfold aF
 have:=eA r.n
 simp only[zw];omega
theorem jo {t:ByteArray}{r:Rt} (h:Hid (t.data.toList=aF r)):1≤t.size:=by
 have h1:t.data.toList.length=t.size:=by simp
 rw[←h1,h.out];exact oN r
theorem am (s:ByteArray):s.toList=s.data.toList:=ByteArray.toList_eq s
theorem iQ:(⟨#[]⟩:ByteArray).size=0:=rfl
theorem a8 (t:ByteArray):t.data.toList.dropLast=List.take (t.size-1) t.data.toList:=by rw[List.dropLast_eq_take];simp
theorem fO:(⟨#[43]⟩:ByteArray).size=1:=rfl
theorem aJ:(⟨#[105]⟩:ByteArray).size=1:=rfl
structure aS (w:World) (k:Nat) (a b c d e f:Value):Prop where
 lt:k<w.heap.size
 c0:w.cell? ⟨k,0,none⟩=some a
 c1:w.cell? ⟨k,1,none⟩=some b
 c2:w.cell? ⟨k,2,none⟩=some c
 c3:w.cell? ⟨k,3,none⟩=some d
 c4:w.cell? ⟨k,4,none⟩=some e
 c5:w.cell? ⟨k,5,none⟩=some f
theorem aS.below {w w':World}{k:Nat}{a b c d e f:Value} (h:aS w k a b c d e f) (hb:Below w.heap.size w w'):aS w' k a b c d e f :=
 ⟨zq h.lt hb.size,(hb.cell (p:=⟨k,0,none⟩) h.lt).trans h.c0,(hb.cell (p:=⟨k,1,none⟩) h.lt).trans h.c1,(hb.cell (p:=⟨k,2,none⟩) h.lt).trans h.c2,(hb.cell (p:=⟨k,3,none⟩) h.lt).trans h.c3,(hb.cell (p:=⟨k,4,none⟩) h.lt).trans h.c4,(hb.cell (p:=⟨k,5,none⟩) h.lt).trans h.c5⟩
theorem aS.new (w:World) (a b c d e f:Value) (T:TypeId):aS (w.alloc (.cells #[a,b,c,d,e,f] T)) w.heap.size a b c d e f :=
 ⟨by simp,aq w _ T 0 _ rfl,aq w _ T 1 _ rfl,aq w _ T 2 _ rfl,aq w _ T 3 _ rfl,aq w _ T 4 _ rfl,aq w _ T 5 _ rfl⟩
structure VSt (w0 w:World) (k:Nat) (a b c d e f:Value) (z:Vl):Prop where
 box:aS w k a b c d e f
 hx:IsR w (.agg #[a,b,c]) z.x
 hy:IsR w (.agg #[d,e,f]) z.y
 hG:Gw w
 bl:Below w0.heap.size w0 w
theorem VSt.below {w0 w w':World}{k:Nat}{a b c d e f:Value}{z:Vl} (h:VSt w0 w k a b c d e f z) (hb:Below w.heap.size w w'):VSt w0 w' k a b c d e f z :=
 ⟨h.box.below hb,h.hx.below hb,h.hy.below hb,h.hG.below hb,h.bl.trans (hb.mono h.bl.size)⟩
theorem mq (va:Value) (z:Vl) (w:World) (ha:IsV w va z) (hdx:0<z.x.d) (hdy:0<z.y.d) (hG:Gw w) :
  Calls Tryz.prog 198 #[va] w fun e w'=>∃ t:ByteArray,e=.returned (.string t)∧Hid (t.data.toList=bS z)∧t.size≤10000000∧Below w.heap.size w w':=by
 have ha':=ha
 obtain⟨a,b,c,d,e,f,rfl,hx,hy⟩:=ha
 have hb0:Below w.heap.size w (w.alloc (.cells #[a,b,c,d,e,f] 91)):=(Below.refl _ _).alloc (zn _) _
 have HV:=zf (ha'.below hb0)
 have S0:VSt w (w.alloc (.cells #[a,b,c,d,e,f] 91)) w.heap.size a b c d e f z:=⟨aS.new w a b c d e f _,hx.below hb0,hy.below hb0,hG.below hb0,hb0⟩
 have hd:d=.bool z.y.minus:=by
  obtain⟨vn,vd,e1,_⟩:=hy
  simp at e1;exact e1.1
 subst hd
 clear hb0 hx hy hG ha'
 go_enter Tryz.func198,Tryz.ntmps198
 go_wp2_with fail
 generalize w.alloc (.cells #[a,b,c,.bool z.y.minus,e,f] 91)=w0 at HV S0 ⊢
 refine (db _ z w0 HV.out).mono ?_
 rintro e1 w1 ⟨rfl,hb1⟩
 have S1:=S0.below hb1
 clear S0 hb1 HV
 have k0:=S1.box.c0;have k1:=S1.box.c1;have k2:=S1.box.c2;have k3:=S1.box.c3;have k4:=S1.box.c4;have k5:=S1.box.c5
 by_cases hy0:z.y.n=0
 ·have hq:decide (z.y.n=0)=true:=by simp[hy0]
  have H:=zf hy0
  clear hy0
  go_wp2_with (go_at_call 233;refine (fx _ z.x _ (by exact S1.hx) hdx S1.hG).mono ?_;rintro e2 w2 ⟨t,rfl,ht,hts,hb2⟩)
  go_ret
  exact⟨t,rfl,by unfold Hid bS;rw[if_pos H.out];exact ht.out,by omega,(S1.below hb2).bl⟩
 ·have hq:decide (z.y.n=0)=false:=by simp[hy0]
  have H:=zf hy0
  clear hy0
  go_wp2_with fail
  refine (eN _ z.x _ S1.hx).mono ?_
  rintro e2 w2 ⟨rfl,hb2⟩
  have S2:=S1.below hb2
  clear S1 hb2 k0 k1 k2 k3 k4 k5
  have k0:=S2.box.c0;have k1:=S2.box.c1;have k2:=S2.box.c2;have k3:=S2.box.c3;have k4:=S2.box.c4;have k5:=S2.box.c5
  by_cases hx0:z.x.n=0
  ·have hqx:decide (z.x.n=0)=true:=by simp[hx0]
   have HX:=zf hx0
   clear hx0
   go_wp2_with fail
   refine (fx _ z.y _ S2.hy hdy S2.hG).mono ?_
   rintro e3 w3 ⟨t,rfl,ht,hts,hb3⟩
   have S3:=S2.below hb3
   clear S2 hb3 k0 k1 k2 k3 k4 k5
   have hlen:=jo ht
   have hpos:(1:Int)≤(t.size:Int):=by omega
   by_cases h1:t.toList=[49]
   ·have q1:(t.toList == [49])=true:=by rw[h1];rfl
    have h1':=zf h1
    clear h1
    go_wp2
    go_ret
    refine⟨_,rfl,?_,?_,S3.bl⟩
    ·unfold Hid bS cA;rw[if_neg H.out,if_pos HX.out];rw[if_pos (Or.inl (by rw[←ht.out,←am];exact h1'.out)),←ht.out];simp[a8]
    ·first | (simp[aJ,iQ];omega) | (simp[fO,aJ];omega) | (simp[aJ];omega)
   ·have q1:(t.toList == [49])=false:=by simpa using h1
    have h1':=zf h1
    clear h1
    by_cases h2:t.toList=[45,49]
    ·have q2:(t.toList == [45,49])=true:=by rw[h2];rfl
     have h2':=zf h2
     clear h2
     go_wp2
     go_ret
     refine⟨_,rfl,?_,?_,S3.bl⟩
     ·unfold Hid bS cA;rw[if_neg H.out,if_pos HX.out];rw[if_pos (Or.inr (by rw[←ht.out,←am];exact h2'.out)),←ht.out];simp[a8]
     ·first | (simp[aJ,iQ];omega) | (simp[fO,aJ];omega) | (simp[aJ];omega)
    ·have q2:(t.toList == [45,49])=false:=by simpa using h2
     have h2':=zf h2
     clear h2
     go_wp2
     go_ret
     refine⟨_,rfl,?_,?_,S3.bl⟩
     ·unfold Hid bS cA;rw[if_neg H.out,if_pos HX.out];rw[if_neg (fun h=>h.elim (fun h=>h1'.out (by rw[am,ht.out];exact h)) (fun h=>h2'.out (by rw[am,ht.out];exact h))),←ht.out];simp[a8]
     ·first | (simp[aJ,iQ];omega) | (simp[fO,aJ];omega) | (simp[aJ];omega)
  ·have hqx:decide (z.x.n=0)=false:=by simp[hx0]
   have HX:=zf hx0
   clear hx0
   go_wp2_with fail
   refine (fx _ z.x _ S2.hx hdx S2.hG).mono ?_
   rintro e4 w4 ⟨tx,rfl,htx,htxs,hb4⟩
   have S4:=S2.below hb4
   clear S2 hb4 k0 k1 k2 k3 k4 k5
   have k0:=S4.box.c0;have k1:=S4.box.c1;have k2:=S4.box.c2;have k3:=S4.box.c3;have k4:=S4.box.c4;have k5:=S4.box.c5
   rcases Bool.eq_false_or_eq_true z.y.minus with hm | hm
   ·rw[hm] at k3 S4
    have HM:=zf hm
    clear hm
    go_wp2_with fail
    refine (fx _ z.y _ S4.hy hdy S4.hG).mono ?_
    rintro e3 w3 ⟨t,rfl,ht,hts,hb3⟩
    have S3:=S4.below hb3
    clear S4 hb3 k0 k1 k2 k3 k4 k5
    have hlen:=jo ht
    have hpos:(1:Int)≤(t.size:Int):=by omega
    by_cases h1:t.toList=[49]
    ·have q1:(t.toList == [49])=true:=by rw[h1];rfl
     have h1':=zf h1
     clear h1
     go_wp2
     go_ret
     refine⟨_,rfl,?_,?_,S3.bl⟩
     ·unfold Hid bS cA;rw[if_neg H.out,if_neg HX.out,HM.out,if_pos rfl];rw[if_pos (Or.inl (by rw[←ht.out,←am];exact h1'.out)),←ht.out];rw[←htx.out];simp[a8]
     ·first | (simp[aJ,iQ];omega) | (simp[fO,aJ];omega) | (simp[aJ];omega)
    ·have q1:(t.toList == [49])=false:=by simpa using h1
     have h1':=zf h1
     clear h1
     by_cases h2:t.toList=[45,49]
     ·have q2:(t.toList == [45,49])=true:=by rw[h2];rfl
      have h2':=zf h2
      clear h2
      go_wp2
      go_ret
      refine⟨_,rfl,?_,?_,S3.bl⟩
      ·unfold Hid bS cA;rw[if_neg H.out,if_neg HX.out,HM.out,if_pos rfl];rw[if_pos (Or.inr (by rw[←ht.out,←am];exact h2'.out)),←ht.out];rw[←htx.out];simp[a8]
      ·first | (simp[aJ,iQ];omega) | (simp[fO,aJ];omega) | (simp[aJ];omega)
     ·have q2:(t.toList == [45,49])=false:=by simpa using h2
      have h2':=zf h2
      clear h2
      go_wp2
      go_ret
      refine⟨_,rfl,?_,?_,S3.bl⟩
      ·unfold Hid bS cA;rw[if_neg H.out,if_neg HX.out,HM.out,if_pos rfl];rw[if_neg (fun h=>h.elim (fun h=>h1'.out (by rw[am,ht.out];exact h)) (fun h=>h2'.out (by rw[am,ht.out];exact h))),←ht.out];rw[←htx.out];simp[a8]
      ·first | (simp[aJ,iQ];omega) | (simp[fO,aJ];omega) | (simp[aJ];omega)
   ·rw[hm] at k3 S4
    have HM:=zf hm
    clear hm
    go_wp2_with fail
    refine (fx _ z.y _ S4.hy hdy S4.hG).mono ?_
    rintro e3 w3 ⟨t,rfl,ht,hts,hb3⟩
    have S3:=S4.below hb3
    clear S4 hb3 k0 k1 k2 k3 k4 k5
    have hlen:=jo ht
    have hpos:(1:Int)≤(t.size:Int):=by omega
    by_cases h1:t.toList=[49]
    ·have q1:(t.toList == [49])=true:=by rw[h1];rfl
     have h1':=zf h1
     clear h1
     go_wp2
     go_ret
     refine⟨_,rfl,?_,?_,S3.bl⟩
     ·unfold Hid bS cA;rw[if_neg H.out,if_neg HX.out,HM.out,if_neg AQ];rw[if_pos (Or.inl (by rw[←ht.out,←am];exact h1'.out)),←ht.out];rw[←htx.out];simp[a8]
     ·first | (simp[aJ,iQ];omega) | (simp[fO,aJ];omega) | (simp[aJ];omega)
    ·have q1:(t.toList == [49])=false:=by simpa using h1
     have h1':=zf h1
     clear h1
     by_cases h2:t.toList=[45,49]
     ·have q2:(t.toList == [45,49])=true:=by rw[h2];rfl
      have h2':=zf h2
      clear h2
      go_wp2
      go_ret
      refine⟨_,rfl,?_,?_,S3.bl⟩
      ·unfold Hid bS cA;rw[if_neg H.out,if_neg HX.out,HM.out,if_neg AQ];rw[if_pos (Or.inr (by rw[←ht.out,←am];exact h2'.out)),←ht.out];rw[←htx.out];simp[a8]
      ·first | (simp[aJ,iQ];omega) | (simp[fO,aJ];omega) | (simp[aJ];omega)
     ·have q2:(t.toList == [45,49])=false:=by simpa using h2
      have h2':=zf h2
      clear h2
      go_wp2
      go_ret
      refine⟨_,rfl,?_,?_,S3.bl⟩
      ·unfold Hid bS cA;rw[if_neg H.out,if_neg HX.out,HM.out,if_neg AQ];rw[if_neg (fun h=>h.elim (fun h=>h1'.out (by rw[am,ht.out];exact h)) (fun h=>h2'.out (by rw[am,ht.out];exact h))),←ht.out];rw[←htx.out];simp[a8]
      ·first | (simp[aJ,iQ];omega) | (simp[fO,aJ];omega) | (simp[aJ];omega)
end Go.Proofs.YtdlioncecgnloaaGreatDoor
