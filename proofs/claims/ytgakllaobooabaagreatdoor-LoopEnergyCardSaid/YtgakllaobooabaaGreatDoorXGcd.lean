/- L -/
import Derived.Test.YtgakllaobooabaaGreatDoorXOverC
import Derived.Test.YtgakllaobooabaaGreatDoorXFmt
import Derived.Test.YtgakllaobooabaaGreatDoorXB
set_option linter.all false
set_option maxRecDepth 100000
set_option maxHeartbeats 8000000
namespace Go.Proofs.YtgakllaobooabaaGreatDoor
open Go.RowKit Dg
def IsN (w:World) (v:Value) (n:Nat):Prop:=IsU w v (ag BB n)
theorem IsN.below {w w':World}{v:Value}{n:Nat} (h:IsN w v n) (hb:Below w.heap.size w w'):IsN w' v n:=IsU.below h hb
def Few (n:Nat):Prop:=(ag BB n).length<100000
theorem Few.mono {m n:Nat} (h:Few n) (hm:m<=n):Few m:=by
 unfold Few at *
 have h1:=bK aw n;have:=bh aw (n:=m) (k:=(ag BB n).length) (by omega);omega
theorem pA (va vb:Value) (a b:Nat) (w:World) (ha:IsN w va a) (hb:IsN w vb b) (hfa:Few a) (hfb:Few b) (h0:0<b) :
  Calls Tryz.prog 114 #[va,vb] w fun e w'=>∃ vq vr,e=.returned (.tuple #[vq,vr])/\IsN w' vq (a / b)/\IsN w' vr (a % b)/\Below w.heap.size w w':=by
 have va1:=aV aw a;have vb1:=aV aw b;unfold Few at hfa hfb;unfold IsN at *
 have hpos:0<(ag BB b).length:=by
  apply A3.2
  intro e;have:=(bP aw).1 e;omega
 rcases BK a b with hlt | hge
 ·have:=tP va vb (ag BB a) (ag BB b) w ha hb (bd a) (bd b) (by rw[va1,vb1];exact hlt);rw[va1,vb1] at this;exact this
 ·by_cases h1:(ag BB b).length=1
  ·have:=vX va vb (ag BB a) (ag BB b) w ha hb (bd a) (bd b) (by omega) h1 (by rw[va1,vb1];exact hge);rw[va1,vb1] at this;exact this
  ·have:=tQ va vb (ag BB a) (ag BB b) w ha hb (bd a) (bd b) hfa hfb (by omega) (by rw[va1,vb1];exact hge);rw[va1,vb1] at this;exact this
theorem qx (va vb:Value) (a b:Nat) (w:World) (ha:IsN w va a) (hb:IsN w vb b) (hfa:Few a) (hfb:Few b) :
  Calls Tryz.prog 113 #[va,vb] w fun e w'=>∃ v,e=.returned v/\IsN w' v (Nat.gcd a b)/\Below w.heap.size w w':=by
 go_enter Tryz.func113,Tryz.ntmps113;go_wp2
 go_loopg [0,1] b (fun g s0 s1 wr=>∃ x:Nat,Hid (IsN wr s0 x)/\Hid (IsN wr s1 g)/\Hid (Few x)/\Hid (Few g)/\Hid (Nat.gcd g x=Nat.gcd a b)/\Below w.heap.size w wr)
 case atStart=>exact⟨a,ha,hb,hfa,hfb,Nat.gcd_comm b a,Dv _ _⟩
 case round =>
  obtain⟨x,hx,hy,hfx,hfy,hg,hbl⟩:=hrel;have hy':=hy.out;obtain⟨p,cap,rfl,hlc,hcm,_⟩:=hy';by_cases h0:gk=0
  ·subst h0;have hl:(ag BB 0).length=0:=by rw[bn];rfl
   go_wp2;go_ret;refine⟨_,rfl,?_,hbl⟩;have:=hg.out;rw[Nat.gcd_zero_left] at this;rw[<-this];exact hx.out
  ·have hpos:0<(ag BB gk).length:=by
    apply A3.2
    intro e;exact h0 ((bP aw).1 e)
   have hmod:x % gk<gk:=BN _ (Cp h0);go_wp2_with (go_at_call 114;refine (pA _ _ x gk _ hx.out hy.out hfx.out hfy.out (by omega)).mono ?_;rintro e w1 ⟨vq,vr,rfl,hq,hr,hb1⟩)
   go_roundg (x % gk)
   case rel =>
    exact⟨gk,IsN.below hy.out hb1,hr,hfy,Few.mono hfy.out (Cy hmod),by unfold Hid;have:=hg.out;rw[Nat.gcd_rec] at this;exact this,hbl.trans (hb1.mono hbl.size)⟩
   case measure=>exact hmod
open Go.RowKit Dc Dg
theorem xX {n:Nat} (h:Few n):(dec n).length<=1000000:=by
 unfold Few at h;have h1:=bK aw n;have h3:BB=10 ^ 9:=by decide
 have h4:BB ^ (ag BB n).length=10 ^ (9*(ag BB n).length):=by rw[h3,<-BW]
 have h5:n<10 ^ (9*(ag BB n).length+1):=by
  rw[AS,<-h4];have:0<BB ^ (ag BB n).length:=Bh (by decide);omega
 have:=bW (k:=9*(ag BB n).length+1) (by omega) h5;omega
theorem xo (va:Value) (n:Nat) (w:World) (ha:IsN w va n) (hf:Few n) (hG:Gw w) :
  Calls Tryz.prog 135 #[va] w fun e w'=>∃ t:ByteArray,e=.returned (.string t)/\Hid (t.data.toList=dec n)/\t.size<=1000000/\Below w.heap.size w w':=by
 have h:=xr va (ag BB n) w ha (bd n) hf hG;rw[aV aw] at h;refine h.mono ?_;rintro e w' ⟨rfl,hb⟩;exact⟨_,rfl,rfl,xX hf,hb⟩
theorem wZ {l:List Nat} (hl:CB l) (h:0<l.length):(dec (val BB l)).length=9*(l.length-1)+(dec (nth l (l.length-1))).length:=by
 have hne:l≠[]:=A3.1 h;have hp:=eu hl hne;have hB:(10:Nat) ^ (9*(l.length-1))=BB ^ (l.length-1):=by rw[BW];rfl
 have e:val BB l=val BB (l.take (l.length-1))+nth l (l.length-1)*BB ^ (l.length-1):=by
  have:val BB l=val BB (l.take (l.length-1+1)):=by rw[AK (by omega)]
  rw[this,bS (by omega)]
 have ht:val BB (l.take (l.length-1))<BB ^ (l.length-1):=gj hl.1 (by omega);rw[l8 (9*(l.length-1)) (val BB l) (by rw[hB];exact hp),AO,qP,hB];have hpos:0<BB ^ (l.length-1):=Bh (by decide)
 have:val BB l / BB ^ (l.length-1)=nth l (l.length-1):=by
  rw[e,CS _ _ hpos,BI ht,Bp]
 rw[this];omega
theorem y6 (va:Value) (n:Nat) (w:World) (ha:IsN w va n) (hf:Few n) (hG:Gw w) :
  Calls Tryz.prog 101 #[va] w fun e w'=>e=.returned (.int .i64 ((dec n).length:Nat))/\Below w.heap.size w w':=by
 have ha':=ha;obtain⟨p,cap,rfl,hlc,hcm,hcell⟩:=ha';unfold maxLen at hcm;unfold Few at hf;have hv:=aV aw n;have hcan:=bd n;obtain⟨l,hl⟩:∃ l,l=ag BB n:=⟨_,rfl⟩;rw[<-hl] at hlc hcell hf hv hcan |-;have HV:=At hv;clear hl hv ha;by_cases h0:l.length=0
 ·have hnil:l=[]:=BG h0;have H:=At hnil;clear hnil;have h0':((l.length:Int) == 0)=true:=by simp[h0]
  go_enter Tryz.func101,Tryz.ntmps101;go_wp2;go_ret;refine⟨?_,Dv _ _⟩;rw[<-HV.out,H.out,val_nil,dec_lt (by omega)];rfl
 ·have h0':((l.length:Int) == 0)=false:=by simp;intro e;rw[e] at h0;simp at h0
  have hpos:0<l.length:=by omega
  obtain⟨b,o,rfl,hbw,hc⟩:=hcell hpos;have hc1:=hc (l.length-1) (by omega);have hb1':nth l (l.length-1)<1000000000:=cf hcan.1 (show l.length-1<l.length by omega);clear h0 hc hcell;have hsl:=At (wZ hcan hpos);go_enter Tryz.func101,Tryz.ntmps101;go_wp2_with (go_at_call 136;refine (kT _ _ rfl (by omega) w hG).mono ?_;rintro e w3 ⟨t3,rfl,ht3,htsz3,ht20,hb3⟩)
  go_ret;refine⟨?_,hb3⟩;rw[<-HV.out,hsl.out,<-htsz3.out]
  show Ending.returned (.int .i64 (9*((l.length:Int)-1)+(t3.size:Int)))=_
  congr 2;omega
theorem ap (w:World) (cs:Array Value) (T:TypeId) (j:Nat) (v:Value) (h:cs[j]?=some v):(w.alloc (.cells cs T)).cell? ⟨w.heap.size,j,none⟩=some v:=by
 rw[World.cell?_alloc_new];exact h
structure Rt where
 minus:Bool
 n:Nat
 d:Nat
def IsR (w:World) (v:Value) (r:Rt):Prop:=∃ vn vd,v=.agg #[.bool r.minus,vn,vd]/\IsN w vn r.n/\IsN w vd r.d/\Few r.n/\Few r.d
theorem IsR.below {w w':World}{v:Value}{r:Rt} (h:IsR w v r) (hb:Below w.heap.size w w'):IsR w' v r:=by
 obtain⟨vn,vd,e,h1,h2,h3,h4⟩:=h;exact⟨vn,vd,e,h1.below hb,h2.below hb,h3,h4⟩
def aG (r:Rt):List UInt8:=(if r.minus then [45] else [])++dec r.n++(if 1<r.d then 47 :: dec r.d else [])
def cO (r:Rt):Bool:=decide (2000<(dec r.n).length)||decide (2000<(dec r.d).length)
theorem vw {d:Nat} (h0:0<d):(1<(ag BB d).length\/((ag BB d).length=1/\1<nth (ag BB d) 0))↔1<d:=by
 have hv:=aV aw d
 have hc:=bd d
 generalize ag BB d=l at *
 match l,hv,hc with
 | [],hv,_=>simp at hv;omega
 | [x],hv,_=>simp at hv;subst hv;simp[nth]
 | x :: y :: l,hv,hc =>
  have:=eu hc (by simp)
  simp only[A2] at this |-
  have h2:BB ^ 1<=BB ^ (l.length+1+1-1):=AW (by decide) (by omega)
  have:2<=BB ^ 1:=by decide
  rw[hv] at *
  omega
theorem wY:(⟨#[47]⟩:ByteArray).size=1:=rfl
theorem rj:(⟨#[45]⟩:ByteArray).size=1:=rfl
theorem fK (va:Value) (r:Rt) (w:World) (ha:IsR w va r) (h0:0<r.d) (hG:Gw w) :
  Calls Tryz.prog 100 #[va] w fun e w'=>∃ t:ByteArray,e=.returned (.string t)/\Hid (t.data.toList=aG r)/\t.size<=3000000/\Below w.heap.size w w':=by
 obtain⟨mi,n,d⟩:=r;obtain⟨vn,vd,rfl,hn,hd,hfn,hfd⟩:=ha;simp only at hn hd hfn hfd h0;have hg1:=vw h0;have hvd:=hd;obtain⟨p,cap,rfl,hlc,hcm,hcell⟩:=hvd;go_enter Tryz.func100,Tryz.ntmps100;go_wp2_with fail
 have hb0:Below w.heap.size w (w.alloc (.cells #[.bool mi,vn,.slice p (ag BB d).length cap] 63)):=(Dv _ _).alloc (AA _) _;have c0:=ap w #[.bool mi,vn,.slice p (ag BB d).length cap] 63 0 _ rfl;have c2:=ap w #[.bool mi,vn,.slice p (ag BB d).length cap] 63 2 _ rfl;have hsz0:(w.alloc (.cells #[.bool mi,vn,.slice p (ag BB d).length cap] 63)).heap.size=w.heap.size+1:=by simp
 generalize w.alloc (.cells #[.bool mi,vn,.slice p (ag BB d).length cap] 63)=w0 at hb0 c0 c2 hsz0 |-;refine (xo _ n w0 (hn.below hb0) hfn (hG.below hb0)).mono ?_;rintro e w1 ⟨t1,rfl,ht1,ht1s,hb1⟩;have d0:=(hb1.cell (p:=⟨w.heap.size,0,none⟩) (by show w.heap.size<_;omega)).trans c0;have d2:=(hb1.cell (p:=⟨w.heap.size,2,none⟩) (by show w.heap.size<_;omega)).trans c2;have hbl1:=hb0.trans (hb1.mono hb0.size);have HBL1:=At hbl1;have hdd:=At (hd.below hbl1);have hGG:=At (hG.below hbl1);have hat:=At (AtU.below hcell hbl1 (AA _));have hsz1:=hb1.size;rw[hsz0] at hsz1;clear hb0 hb1 c0 c2 hcell hbl1 hsz0 hd hn hG;unfold maxLen at hcm;by_cases hone:1<d
 ·have hlen:=hg1.2 hone;clear hg1;rcases hlen with hlen | ⟨hlen,hdig⟩
  ·have hgt:decide ((1:Int)<((ag BB d).length:Int))=true:=by simp;omega
   cases mi
   all_goals
    go_wp2_with (go_at_call 135;refine (xo _ d _ (by exact hdd.out) hfd (by exact hGG.out)).mono ?_;rintro e w2 ⟨t2,rfl,ht2,ht2s,hb2⟩)
    go_ret;refine⟨_,rfl,?_,?_,HBL1.out.trans (hb2.mono HBL1.out.size)⟩
    ·unfold Hid aG;rw[if_pos hone];simp[ht1.out,ht2.out]
    ·simp[rj,wY];omega
  ·obtain⟨b,o,rfl,hbw,hc⟩:=hat.out (by omega);have hc0:w1.cell? ⟨b,o,none⟩=some (.int .u64 (nth (ag BB d) 0)):=hc 0 (by omega);have hgt:decide ((1:Int)<((ag BB d).length:Int))=false:=by simp;omega
   have hgt2:decide ((1:Int)<((nth (ag BB d) 0):Int))=true:=by simp;omega
   have hpos:(0:Int)<((ag BB d).length:Int):=by omega
   have HLEN:=At hlen;clear hc hlen
   cases mi
   all_goals
    go_wp2_with (go_at_call 135;refine (xo _ d _ (by exact hdd.out) hfd (by exact hGG.out)).mono ?_;rintro e w2 ⟨t2,rfl,ht2,ht2s,hb2⟩)
    go_ret;refine⟨_,rfl,?_,?_,HBL1.out.trans (hb2.mono HBL1.out.size)⟩
    ·unfold Hid aG;rw[if_pos hone];simp[ht1.out,ht2.out]
    ·simp[rj,wY];omega
 ·have hnl:¬ (1<(ag BB d).length\/((ag BB d).length=1/\1<nth (ag BB d) 0)):=fun h=>hone (hg1.1 h)
  have hl1:(ag BB d).length=1:=by
   have:0<(ag BB d).length:=by
    apply A3.2
    intro e;have:=(bP aw).1 e;omega
   omega
  have hd1:nth (ag BB d) 0<=1:=by omega
  obtain⟨b,o,rfl,hbw,hc⟩:=hat.out (by omega);have hc0:w1.cell? ⟨b,o,none⟩=some (.int .u64 (nth (ag BB d) 0)):=hc 0 (by omega);have hgt:decide ((1:Int)<((ag BB d).length:Int))=false:=by simp;omega
  have hgt2:decide ((1:Int)<((nth (ag BB d) 0):Int))=false:=by simp;omega
  have hpos:(0:Int)<((ag BB d).length:Int):=by omega
  have HLEN:=At hl1;clear hc hl1 hg1 hnl
  cases mi
  all_goals
   go_wp2;go_ret;refine⟨_,rfl,?_,?_,HBL1.out⟩
   ·unfold Hid aG;rw[if_neg hone];simp[ht1.out]
   ·first | omega | (simp[rj];omega)
theorem m_ (va:Value) (r:Rt) (w:World) (ha:IsR w va r) (hG:Gw w) :
  Calls Tryz.prog 60 #[va] w fun e w'=>e=.returned (.bool (cO r))/\Below w.heap.size w w':=by
 obtain⟨mi,n,d⟩:=r;obtain⟨vn,vd,rfl,hn,hd,hfn,hfd⟩:=ha;simp only at hn hd hfn hfd;go_enter Tryz.func60,Tryz.ntmps60;go_wp2_with fail
 have hb0:Below w.heap.size w (w.alloc (.cells #[.bool mi,vn,vd] 63)):=(Dv _ _).alloc (AA _) _;have c2:=ap w #[.bool mi,vn,vd] 63 2 _ rfl;have hsz0:(w.alloc (.cells #[.bool mi,vn,vd] 63)).heap.size=w.heap.size+1:=by simp
 generalize w.alloc (.cells #[.bool mi,vn,vd] 63)=w0 at hb0 c2 hsz0 |-;refine (y6 _ n w0 (hn.below hb0) hfn (hG.below hb0)).mono ?_;rintro e w1 ⟨rfl,hb1⟩;have d2:=(hb1.cell (p:=⟨w.heap.size,2,none⟩) (by show w.heap.size<_;omega)).trans c2;have hbl1:=hb0.trans (hb1.mono hb0.size);have HBL1:=At hbl1;have hdd:=At (hd.below hbl1);have hGG:=At (hG.below hbl1);clear hb0 hb1 c2 hbl1 hsz0 hd hn hG;by_cases hbig:2000<(dec n).length
 ·have hq:decide ((2000:Int)<(((dec n).length:Nat):Int))=true:=by simp;omega
  go_wp2;go_ret;exact⟨by unfold cO;rw[decide_eq_true hbig];rfl,HBL1.out⟩
 ·have hq:decide ((2000:Int)<(((dec n).length:Nat):Int))=false:=by simp;omega
  go_wp2_with (go_at_call 101;refine (y6 _ d _ (by exact hdd.out) hfd (by exact hGG.out)).mono ?_;rintro e w2 ⟨rfl,hb2⟩)
  go_ret;refine⟨?_,HBL1.out.trans (hb2.mono HBL1.out.size)⟩;unfold cO;rw[decide_eq_false hbig]
  have:decide ((2000:Int)<(((dec d).length:Nat):Int))=decide (2000<(dec d).length):=by
   by_cases h:2000<(dec d).length
   ·rw[decide_eq_true h];simp;omega
   ·rw[decide_eq_false h];simp;omega
  show Ending.returned (.bool _)=_
  rw[this];rfl
structure Vl where
 x:Rt
 y:Rt
def IsV (w:World) (v:Value) (z:Vl):Prop:=∃ a b c d e f,v=.agg #[a,b,c,d,e,f]/\IsR w (.agg #[a,b,c]) z.x/\IsR w (.agg #[d,e,f]) z.y
theorem IsV.below {w w':World}{v:Value}{z:Vl} (h:IsV w v z) (hb:Below w.heap.size w w'):IsV w' v z:=by
 obtain⟨a,b,c,d,e,f,e1,h1,h2⟩:=h;exact⟨a,b,c,d,e,f,e1,h1.below hb,h2.below hb⟩
theorem eW (va:Value) (r:Rt) (w:World) (ha:IsR w va r) :
  Calls Tryz.prog 70 #[va] w fun e w'=>e=.returned (.bool (decide (r.n=0)))/\Below w.heap.size w w':=by
 obtain⟨mi,n,d⟩:=r;obtain⟨vn,vd,rfl,hn,hd,hfn,hfd⟩:=ha;simp only at hn;obtain⟨p,cap,rfl,hlc,hcm,hcell⟩:=hn
 have hz:((((ag BB n).length:Nat):Int) == 0)=decide (n=0):=by
  by_cases h:n=0
  ·subst h;simp[bn]
  ·have:0<(ag BB n).length:=A3.2 fun e=>h ((bP aw).1 e);simp[h];intro e;rw[e] at this;simp at this
 have HZ:=At hz;clear hz;go_enter Tryz.func70,Tryz.ntmps70;go_wp2;go_ret;exact⟨by rw[<-HZ.out];rfl,(Dv _ _).alloc (AA _) _⟩
theorem dh (va:Value) (z:Vl) (w:World) (ha:IsV w va z) :
  Calls Tryz.prog 67 #[va] w fun e w'=>e=.returned (.bool (decide (z.y.n=0)))/\Below w.heap.size w w':=by
 obtain⟨a,b,c,d,e,f,rfl,hx,hy⟩:=ha;have hb0:Below w.heap.size w (w.alloc (.cells #[a,b,c,d,e,f] 65)):=(Dv _ _).alloc (AA _) _;have HB:=At hb0;have hy':=At (hy.below hb0);clear hb0;go_enter Tryz.func67,Tryz.ntmps67;go_wp2_with (go_at_call 70;refine (eW _ z.y _ (by exact hy'.out)).mono ?_;rintro e w1 ⟨rfl,hb1⟩)
 go_ret;exact⟨rfl,HB.out.trans (hb1.mono (by simp))⟩
def cG (r:Rt):List UInt8:=if aG r=[49]\/aG r=[45,49] then (aG r).take ((aG r).length-1) else aG r
def cr (z:Vl):List UInt8 :=
 if z.y.n=0 then aG z.x else
  (if z.x.n=0 then [] else aG z.x++(if z.y.minus then [] else [43]))++cG z.y++[105]
theorem pF (r:Rt):0<(aG r).length:=by
 unfold aG;have:=eI r.n;simp only[AO];omega
theorem jR {t:ByteArray}{r:Rt} (h:Hid (t.data.toList=aG r)):1<=t.size:=by
 have h1:t.data.toList.length=t.size:=by simp
 rw[<-h1,h.out];exact pF r
theorem ak (s:ByteArray):s.toList=s.data.toList:=ByteArray.toList_eq s
theorem jt:(⟨#[]⟩:ByteArray).size=0:=rfl
theorem bg (t:ByteArray):t.data.toList.dropLast=List.take (t.size-1) t.data.toList:=by rw[List.dropLast_eq_take];simp
theorem gi:(⟨#[43]⟩:ByteArray).size=1:=rfl
theorem aL:(⟨#[105]⟩:ByteArray).size=1:=rfl
structure aW (w:World) (k:Nat) (a b c d e f:Value):Prop where
 lt:k<w.heap.size
 c0:w.cell? ⟨k,0,none⟩=some a
 c1:w.cell? ⟨k,1,none⟩=some b
 c2:w.cell? ⟨k,2,none⟩=some c
 c3:w.cell? ⟨k,3,none⟩=some d
 c4:w.cell? ⟨k,4,none⟩=some e
 c5:w.cell? ⟨k,5,none⟩=some f
theorem aW.below {w w':World}{k:Nat}{a b c d e f:Value} (h:aW w k a b c d e f) (hb:Below w.heap.size w w'):aW w' k a b c d e f :=
 ⟨AD h.lt hb.size,(hb.cell (p:=⟨k,0,none⟩) h.lt).trans h.c0,(hb.cell (p:=⟨k,1,none⟩) h.lt).trans h.c1,(hb.cell (p:=⟨k,2,none⟩) h.lt).trans h.c2,(hb.cell (p:=⟨k,3,none⟩) h.lt).trans h.c3,(hb.cell (p:=⟨k,4,none⟩) h.lt).trans h.c4,(hb.cell (p:=⟨k,5,none⟩) h.lt).trans h.c5⟩
theorem aW.new (w:World) (a b c d e f:Value) (T:TypeId):aW (w.alloc (.cells #[a,b,c,d,e,f] T)) w.heap.size a b c d e f :=
 ⟨by simp,ap w _ T 0 _ rfl,ap w _ T 1 _ rfl,ap w _ T 2 _ rfl,ap w _ T 3 _ rfl,ap w _ T 4 _ rfl,ap w _ T 5 _ rfl⟩
structure VSt (w0 w:World) (k:Nat) (a b c d e f:Value) (z:Vl):Prop where
 box:aW w k a b c d e f
 hx:IsR w (.agg #[a,b,c]) z.x
 hy:IsR w (.agg #[d,e,f]) z.y
 hG:Gw w
 bl:Below w0.heap.size w0 w
theorem VSt.below {w0 w w':World}{k:Nat}{a b c d e f:Value}{z:Vl} (h:VSt w0 w k a b c d e f z) (hb:Below w.heap.size w w'):VSt w0 w' k a b c d e f z :=
 ⟨h.box.below hb,h.hx.below hb,h.hy.below hb,h.hG.below hb,h.bl.trans (hb.mono h.bl.size)⟩
theorem mW (va:Value) (z:Vl) (w:World) (ha:IsV w va z) (hdx:0<z.x.d) (hdy:0<z.y.d) (hG:Gw w) :
  Calls Tryz.prog 59 #[va] w fun e w'=>∃ t:ByteArray,e=.returned (.string t)/\Hid (t.data.toList=cr z)/\t.size<=10000000/\Below w.heap.size w w':=by
 have ha':=ha;obtain⟨a,b,c,d,e,f,rfl,hx,hy⟩:=ha;have hb0:Below w.heap.size w (w.alloc (.cells #[a,b,c,d,e,f] 65)):=(Dv _ _).alloc (AA _) _;have HV:=At (ha'.below hb0);have S0:VSt w (w.alloc (.cells #[a,b,c,d,e,f] 65)) w.heap.size a b c d e f z:=⟨aW.new w a b c d e f _,hx.below hb0,hy.below hb0,hG.below hb0,hb0⟩
 have hd:d=.bool z.y.minus:=by
  obtain⟨vn,vd,e1,_⟩:=hy;simp at e1;exact e1.1
 subst hd;clear hb0 hx hy hG ha';go_enter Tryz.func59,Tryz.ntmps59;go_wp2_with fail
 generalize w.alloc (.cells #[a,b,c,.bool z.y.minus,e,f] 65)=w0 at HV S0 |-;refine (dh _ z w0 HV.out).mono ?_;rintro e1 w1 ⟨rfl,hb1⟩;have S1:=S0.below hb1;clear S0 hb1 HV;have k0:=S1.box.c0;have k1:=S1.box.c1;have k2:=S1.box.c2;have k3:=S1.box.c3;have k4:=S1.box.c4;have k5:=S1.box.c5;by_cases hy0:z.y.n=0
 ·have hq:decide (z.y.n=0)=true:=by simp[hy0]
  have H:=At hy0;clear hy0;go_wp2_with (go_at_call 100;refine (fK _ z.x _ (by exact S1.hx) hdx S1.hG).mono ?_;rintro e2 w2 ⟨t,rfl,ht,hts,hb2⟩)
  go_ret;exact⟨t,rfl,by unfold Hid cr;rw[if_pos H.out];exact ht.out,by omega,(S1.below hb2).bl⟩
 ·have hq:decide (z.y.n=0)=false:=by simp[hy0]
  have H:=At hy0;clear hy0;go_wp2_with fail
  refine (eW _ z.x _ S1.hx).mono ?_;rintro e2 w2 ⟨rfl,hb2⟩;have S2:=S1.below hb2;clear S1 hb2 k0 k1 k2 k3 k4 k5;have k0:=S2.box.c0;have k1:=S2.box.c1;have k2:=S2.box.c2;have k3:=S2.box.c3;have k4:=S2.box.c4;have k5:=S2.box.c5;by_cases hx0:z.x.n=0
  ·have hqx:decide (z.x.n=0)=true:=by simp[hx0]
   have HX:=At hx0;clear hx0;go_wp2_with fail
   refine (fK _ z.y _ S2.hy hdy S2.hG).mono ?_;rintro e3 w3 ⟨t,rfl,ht,hts,hb3⟩;have S3:=S2.below hb3;clear S2 hb3 k0 k1 k2 k3 k4 k5;have hlen:=jR ht;have hpos:(1:Int)<=(t.size:Int):=by omega
   by_cases h1:t.toList=[49]
   ·have q1:(t.toList == [49])=true:=by rw[h1];rfl
    have h1':=At h1;clear h1;go_wp2;go_ret;refine⟨_,rfl,?_,?_,S3.bl⟩
    ·unfold Hid cr cG;rw[if_neg H.out,if_pos HX.out];rw[if_pos (Or.inl (by rw[<-ht.out,<-ak];exact h1'.out)),<-ht.out];simp[bg]
    ·first | (simp[aL,jt];omega) | (simp[gi,aL];omega) | (simp[aL];omega)
   ·have q1:(t.toList == [49])=false:=by simpa using h1
    have h1':=At h1;clear h1;by_cases h2:t.toList=[45,49]
    ·have q2:(t.toList == [45,49])=true:=by rw[h2];rfl
     have h2':=At h2;clear h2;go_wp2;go_ret;refine⟨_,rfl,?_,?_,S3.bl⟩
     ·unfold Hid cr cG;rw[if_neg H.out,if_pos HX.out];rw[if_pos (Or.inr (by rw[<-ht.out,<-ak];exact h2'.out)),<-ht.out];simp[bg]
     ·first | (simp[aL,jt];omega) | (simp[gi,aL];omega) | (simp[aL];omega)
    ·have q2:(t.toList == [45,49])=false:=by simpa using h2
     have h2':=At h2;clear h2;go_wp2;go_ret;refine⟨_,rfl,?_,?_,S3.bl⟩
     ·unfold Hid cr cG;rw[if_neg H.out,if_pos HX.out];rw[if_neg (fun h=>h.elim (fun h=>h1'.out (by rw[ak,ht.out];exact h)) (fun h=>h2'.out (by rw[ak,ht.out];exact h))),<-ht.out];simp[bg]
     ·first | (simp[aL,jt];omega) | (simp[gi,aL];omega) | (simp[aL];omega)
  ·have hqx:decide (z.x.n=0)=false:=by simp[hx0]
   have HX:=At hx0;clear hx0;go_wp2_with fail
   refine (fK _ z.x _ S2.hx hdx S2.hG).mono ?_;rintro e4 w4 ⟨tx,rfl,htx,htxs,hb4⟩;have S4:=S2.below hb4;clear S2 hb4 k0 k1 k2 k3 k4 k5;have k0:=S4.box.c0;have k1:=S4.box.c1;have k2:=S4.box.c2;have k3:=S4.box.c3;have k4:=S4.box.c4;have k5:=S4.box.c5;rcases Bool.eq_false_or_eq_true z.y.minus with hm | hm
   ·rw[hm] at k3 S4;have HM:=At hm;clear hm;go_wp2_with fail
    refine (fK _ z.y _ S4.hy hdy S4.hG).mono ?_;rintro e3 w3 ⟨t,rfl,ht,hts,hb3⟩;have S3:=S4.below hb3;clear S4 hb3 k0 k1 k2 k3 k4 k5;have hlen:=jR ht;have hpos:(1:Int)<=(t.size:Int):=by omega
    by_cases h1:t.toList=[49]
    ·have q1:(t.toList == [49])=true:=by rw[h1];rfl
     have h1':=At h1;clear h1;go_wp2;go_ret;refine⟨_,rfl,?_,?_,S3.bl⟩
     ·unfold Hid cr cG;rw[if_neg H.out,if_neg HX.out,HM.out,if_pos rfl];rw[if_pos (Or.inl (by rw[<-ht.out,<-ak];exact h1'.out)),<-ht.out];rw[<-htx.out];simp[bg]
     ·first | (simp[aL,jt];omega) | (simp[gi,aL];omega) | (simp[aL];omega)
    ·have q1:(t.toList == [49])=false:=by simpa using h1
     have h1':=At h1;clear h1;by_cases h2:t.toList=[45,49]
     ·have q2:(t.toList == [45,49])=true:=by rw[h2];rfl
      have h2':=At h2;clear h2;go_wp2;go_ret;refine⟨_,rfl,?_,?_,S3.bl⟩
      ·unfold Hid cr cG;rw[if_neg H.out,if_neg HX.out,HM.out,if_pos rfl];rw[if_pos (Or.inr (by rw[<-ht.out,<-ak];exact h2'.out)),<-ht.out];rw[<-htx.out];simp[bg]
      ·first | (simp[aL,jt];omega) | (simp[gi,aL];omega) | (simp[aL];omega)
     ·have q2:(t.toList == [45,49])=false:=by simpa using h2
      have h2':=At h2;clear h2;go_wp2;go_ret;refine⟨_,rfl,?_,?_,S3.bl⟩
      ·unfold Hid cr cG;rw[if_neg H.out,if_neg HX.out,HM.out,if_pos rfl];rw[if_neg (fun h=>h.elim (fun h=>h1'.out (by rw[ak,ht.out];exact h)) (fun h=>h2'.out (by rw[ak,ht.out];exact h))),<-ht.out];rw[<-htx.out];simp[bg]
      ·first | (simp[aL,jt];omega) | (simp[gi,aL];omega) | (simp[aL];omega)
   ·rw[hm] at k3 S4;have HM:=At hm;clear hm;go_wp2_with fail
    refine (fK _ z.y _ S4.hy hdy S4.hG).mono ?_;rintro e3 w3 ⟨t,rfl,ht,hts,hb3⟩;have S3:=S4.below hb3;clear S4 hb3 k0 k1 k2 k3 k4 k5;have hlen:=jR ht;have hpos:(1:Int)<=(t.size:Int):=by omega
    by_cases h1:t.toList=[49]
    ·have q1:(t.toList == [49])=true:=by rw[h1];rfl
     have h1':=At h1;clear h1;go_wp2;go_ret;refine⟨_,rfl,?_,?_,S3.bl⟩
     ·unfold Hid cr cG;rw[if_neg H.out,if_neg HX.out,HM.out,if_neg B4];rw[if_pos (Or.inl (by rw[<-ht.out,<-ak];exact h1'.out)),<-ht.out];rw[<-htx.out];simp[bg]
     ·first | (simp[aL,jt];omega) | (simp[gi,aL];omega) | (simp[aL];omega)
    ·have q1:(t.toList == [49])=false:=by simpa using h1
     have h1':=At h1;clear h1;by_cases h2:t.toList=[45,49]
     ·have q2:(t.toList == [45,49])=true:=by rw[h2];rfl
      have h2':=At h2;clear h2;go_wp2;go_ret;refine⟨_,rfl,?_,?_,S3.bl⟩
      ·unfold Hid cr cG;rw[if_neg H.out,if_neg HX.out,HM.out,if_neg B4];rw[if_pos (Or.inr (by rw[<-ht.out,<-ak];exact h2'.out)),<-ht.out];rw[<-htx.out];simp[bg]
      ·first | (simp[aL,jt];omega) | (simp[gi,aL];omega) | (simp[aL];omega)
     ·have q2:(t.toList == [45,49])=false:=by simpa using h2
      have h2':=At h2;clear h2;go_wp2;go_ret;refine⟨_,rfl,?_,?_,S3.bl⟩
      ·unfold Hid cr cG;rw[if_neg H.out,if_neg HX.out,HM.out,if_neg B4];rw[if_neg (fun h=>h.elim (fun h=>h1'.out (by rw[ak,ht.out];exact h)) (fun h=>h2'.out (by rw[ak,ht.out];exact h))),<-ht.out];rw[<-htx.out];simp[bg]
      ·first | (simp[aL,jt];omega) | (simp[gi,aL];omega) | (simp[aL];omega)
end Go.Proofs.YtgakllaobooabaaGreatDoor
