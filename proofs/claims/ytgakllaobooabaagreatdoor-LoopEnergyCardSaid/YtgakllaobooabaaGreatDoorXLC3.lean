/- L -/
import Derived.Test.YtgakllaobooabaaGreatDoorXReg
import Derived.Test.YtgakllaobooabaaGreatDoorXPM8
import Derived.Test.YtgakllaobooabaaGreatDoorXLB3
import Derived.Test.YtgakllaobooabaaGreatDoorXB
set_option linter.all false
set_option maxRecDepth 100000
set_option maxHeartbeats 8000000
namespace Go.Proofs.YtgakllaobooabaaGreatDoor
open Go.RowKit Dg
structure m6 (l:List ByteArray):Prop where
 ex:∃ zs,cj l=.ok zs/\dB zs/\SzL 300 zs/\gV zs=true
def uW (l:List ByteArray) (x y:Rat):Int:=match cj l with
 | .ok zs=>ce zs x-ce zs y
 | .error _=>0
def ja (ls:List (List ByteArray)) (x y:Rat):Bool:=ls.all fun l=>decide (uW l x y<=0)
theorem m6.pos {l:List ByteArray} (h:m6 l):0<l.length:=by
 obtain⟨zs,h1,h2,-⟩:=h.ex;have:=ll h1
 cases h2<;>simp at this<;>omega
theorem n_ (fa fb:List ByteArray) {n:Nat} (hn:n<=1):(cZ fa fb n).length<=4:=by
 unfold cZ
 split<;>simp
theorem qq (v:Value) (a b:List ByteArray) (lo hi:ByteArray) (n:Nat) (x y:Rat) (w:World) (hF:IsF w v a b) (hG:Gx w) (hck:aq a b=true) (hn:max a.length b.length=n+1) (hn1:n<=1)
  (hlo:bo a b lo=true) (hhi:bo a b hi=true) (hr:dj [lo,hi]=.ok [x,y]) (hsx:Sz 2000 (rt x)) (hsy:Sz 2000 (rt y)) (hxy:gy x y<=0) (hall:∀ l∈cZ a b n,m6 l) :
  Calls Tryz.prog 53 #[v,.string lo,.string hi] w fun e w'=>e=.returned (.bool (ja (cZ a b n) x y))/\Below w.heap.size w w':=by
 obtain⟨ob1,ob7,oa1,oa7,-,-,-⟩:=aN hck;obtain⟨p,c,q,d,rfl,hfa,hfb⟩:=id hF.ex;go_enter Tryz.func53,Tryz.ntmps53;go_upto_region 1 with fail
 have cc:=ar w (.slice p a.length c) (.slice q b.length d);have m1:=ac w (.cells #[.slice p a.length c,.slice q b.length d] 24);have z1:=size_alloc w (.cells #[.slice p a.length c,.slice q b.length d] 24);generalize w.alloc (.cells #[.slice p a.length c,.slice q b.length d] 24)=w1 at *
 have H1:=At (iN _ a b lo w1 (hF.below m1) ob1 (by omega) (by omega) (hG.below m1).g);have H2:=At (fun wx (h:Below w1.heap.size w1 wx)=>iN _ a b hi wx ((hF.below m1).below h) ob1 (by omega) (by omega) ((hG.below m1).below h).g);have HBD:=At (fun wx (h:Below w1.heap.size w1 wx)=>n9 _ a b n wx ((hF.below m1).below h) oa1 ob1 hn hn1 ((hG.below m1).below h).g);have HG:=At (hG.below m1).g;have HALL:=At hall;have HR:=At hr;have hln:=n_ a b hn1;rw[hlo] at H1;rw[hhi] at H2;have c0:=cc.1;have c1:=cc.2;have hlt:w.heap.size<w1.heap.size:=by omega
 have M1:=At m1;clear cc m1 z1 hF hG hfa hfb hck ob7 oa1 oa7 ob1 hn hn1 hlo hhi hr hall;go_wp2_with fail
 refine H1.out.mono ?_;rintro e w2 ⟨rfl,hb2⟩;have d0:=aa hb2 hlt c0;have d1:=aa hb2 hlt c1;clear c0 c1;go_wp2_with fail
 refine (H2.out w2 hb2).mono ?_;rintro e w3 ⟨rfl,hb3⟩;have hB3:=hb2.trans (hb3.mono hb2.size);have e0:=aa hb3 (show w.heap.size<w2.heap.size by have:=hb2.size;omega) d0;have e1:=aa hb3 (show w.heap.size<w2.heap.size by have:=hb2.size;omega) d1;clear d0 d1;go_wp2_with fail
 refine (HBD.out w3 hB3).mono ?_;rintro e w4 ⟨u,rfl,hu,hb4⟩;have hB4:=hB3.trans (hb4.mono hB3.size);obtain⟨ls,hls⟩:∃ ls,ls=cZ a b n:=⟨_,rfl⟩;rw[<-hls] at hu HALL hln;have HLS:=At hls;obtain⟨pu,cu,rfl,-⟩:=id hu.form;have HU:=At hu;have HG4:=At (HG.out.below hB4);have HB4:=At (M1.out.trans (hB4.mono M1.out.size));clear hls hu e0 e1 hb2 hb3 hb4 hB3 hB4 H1 H2 HBD HG M1 hlt;go_wp2;rename World=>wl;go_loopw [24] (fun s24 wr=>∃ i:Nat,s24=.int .i64 i/\i<=ls.length/\Hid (ja (ls.take i) x y=true)/\Below wl.heap.size wl wr) (fun s24 _=>ls.length-(intOf s24).toNat)
 case atStart=>exact⟨0,rfl,AI _,rfl,Dv _ _⟩
 case round =>
  obtain⟨i,rfl,hin,hcert,hbr⟩:=hrel;by_cases hil:i<ls.length
  ·obtain⟨bc,oc,uc,rfl,hlc,hcc,huc⟩:=HU.out.get (i:=i) hil;have hok:=HALL.out _ (AR hil)
   have HCT:=At (show ja (ls.take (i+1)) x y=decide (uW ls[i] x y<=0) by
    have h:=hcert.out;unfold ja at h |-
    rw[<-AM hil,BY,h];simp)
   have HCF:=At (show ¬ uW ls[i] x y<=0->ja ls x y=false from fun h=>by
    unfold ja;rw[Cr]
    exact⟨ls[i],AR hil,by simpa using h⟩)
   generalize ls[i]=l at huc hok HCT HCF;have hcc:=aa hbr hlc hcc;obtain⟨pl,cl,rfl,-⟩:=id huc.form;have hpos:=hok.pos;have hlz:((l.length:Int) == 0)=false:=beq_eq_false_iff_ne.2 (by omega);obtain⟨zs,z1,z2,z3,z4⟩:=hok.ex;have HCN:=At (y9 _ lo hi l zs x y wr (huc.below hbr) (HG4.out.below hbr) z1 z2 z3 z4 HR.out hsx hsy hxy);obtain⟨cn,hcn⟩:∃ z,z=uW l x y:=⟨_,rfl⟩;rw[show ce zs x-ce zs y=cn by rw[hcn];unfold uW;rw[z1]] at HCN;rw[<-hcn] at HCT HCF;clear z1 z2 z3 z4 hok huc hcn hpos hcert;go_wp2_with fail
   refine HCN.out.mono ?_;rintro e w5 ⟨rfl,hb5⟩;have hB5:=hbr.trans (hb5.mono hbr.size);have HBN:=At (HB4.out.trans (hB5.mono HB4.out.size));by_cases hc0:cn<=0
   ·have hd:decide (0<cn)=false:=decide_eq_false (by omega);have HC:=At (show ja (ls.take (i+1)) x y=true by rw[HCT.out];exact decide_eq_true hc0);clear hc0 HCF HCT hb5 hbr hcc HCN;go_wp2;go_roundw;case rel=>exact⟨i+1,by go_num,by omega,HC.out,hB5⟩
    case measure=>simp[intOf]<;>omega
   ·have hd:decide (0<cn)=true:=decide_eq_true (by omega);have HC:=At (HCF.out (by omega));clear hc0 HCF HCT hb5 hbr hcc HCN hB5;go_wp2;refine Du (v:=.bool false) (by simp[results,Tryz.results53,go_sem]) rfl ⟨by rw[<-HLS.out,HC.out],HBN.out⟩
  ·obtain rfl:i=ls.length:=by omega
   have HC:=At (show ja ls x y=true by have h:=hcert.out;rwa [AX] at h);have HBN:=At (HB4.out.trans (hbr.mono HB4.out.size));clear hcert hil hbr;go_wp2;refine Du (v:=.bool true) (by simp[results,Tryz.results53,go_sem]) rfl ⟨by rw[<-HLS.out,HC.out],HBN.out⟩
def szQ (q:Rat):Bool:=decide (q.num.natAbs<10 ^ 10)&&decide (q.den<10 ^ 10)
theorem nR {q:Rat} (h:szQ q=true):Sz 10 (rt q):=by
 unfold szQ at h;simp only[AV,decide_eq_true_eq] at h;exact⟨h.1,dl _,h.2⟩
def wV:List CQ->Bool
 | [c]=>decide (c≠⟨0,0⟩)
 | [_,c]=>decide (c≠⟨0,0⟩)
 | _=>false
theorem tY {zs:List CQ} (h:wV zs=true):dB zs:=by
 match zs,h with
 | [c],h=>exact .one c (of_decide_eq_true h)
 | [a,c],h=>exact .two a c (of_decide_eq_true h)
def zJ (l:List ByteArray):Bool:=match cj l with
 | .ok zs=>wV zs&&(zs.all fun z=>szQ z.re&&szQ z.im)&&gV zs
 | .error _=>false
theorem yi {l:List ByteArray} (h:zJ l=true):m6 l:=by
 unfold zJ at h
 split at h
 case h_1 zs hz =>
  simp only[AV,A5] at h;exact⟨zs,hz,tY h.1.1,fun z hm=>⟨(nR (h.1.2 z hm).1).mono (by decide),(nR (h.1.2 z hm).2).mono (by decide)⟩,h.2⟩
 case h_2=>cases h
def fv (a b:List ByteArray) (lo hi:ByteArray) (n:Nat):Bool:=bo a b lo&&bo a b hi&&match dj [lo,hi] with
 | .ok [x,y]=>ja (cZ a b n) x y
 | _=>false
def fU (a b:List ByteArray) (lo hi:ByteArray) (n:Nat):Bool:=match dj [lo,hi] with
 | .ok [x,y]=>szQ x&&szQ y&&decide (gy x y<=0)&&(cZ a b n).all zJ
 | _=>false
theorem gF (v:Value) (a b:List ByteArray) (lo hi:ByteArray) (n:Nat) (w:World) (hF:IsF w v a b) (hG:Gx w) (hck:aq a b=true) (hn:max a.length b.length=n+1) (hn1:n<=1) (hok:fU a b lo hi n=true) :
  Calls Tryz.prog 53 #[v,.string lo,.string hi] w fun e w'=>e=.returned (.bool (fv a b lo hi n))/\Below w.heap.size w w':=by
 by_cases h1:bo a b lo=true
 ·by_cases h2:bo a b hi=true
  ·unfold fU at hok
   split at hok
   case h_1 x y hr =>
    simp only[AV,decide_eq_true_eq,A5] at hok;obtain⟨⟨⟨s1,s2⟩,s3⟩,s4⟩:=hok;have:=qq v a b lo hi n x y w hF hG hck hn hn1 h1 h2 hr ((nR s1).mono (by decide)) ((nR s2).mono (by decide)) s3 (fun l hl=>yi (s4 l hl));unfold fv;rw[h1,h2,hr];exact this
   case h_2=>cases hok
  ·have:=l5 v a b lo hi w hF hG hck (Or.inr (by simpa using h2));unfold fv;rw[show bo a b hi=false by simpa using h2,Bool.and_false,Bool.false_and];exact this
 ·have:=l5 v a b lo hi w hF hG hck (Or.inl (by simpa using h1));unfold fv;rw[show bo a b lo=false by simpa using h1,Bool.false_and,Bool.false_and];exact this
theorem nV (v:Value) (a b:List ByteArray) (lo hi:ByteArray) (n:Nat) (w:World) (hF:IsF w v a b) (hG:Gx w) (hn:max a.length b.length=n+1) (hn1:n<=1) (hok:fU a b lo hi n=true) :
  Calls Tryz.prog 26 #[v,.string lo,.string hi] w fun e w'=>e=.returned (.tuple #[.bool (bv (fv a b lo hi n) a b lo hi).1,.int .i64 (bv (fv a b lo hi n) a b lo hi).2])/\Below w.heap.size w w' :=
 uv (fv a b lo hi n) v a b lo hi w hF hG fun u wx hu hx hck _ _=>gF u a b lo hi n wx hu hx hck hn hn1 hok
theorem rV:fU aD aE ⟨#[45,49,47,50]⟩ ⟨#[50]⟩ 1=true/\bv (fv aD aE ⟨#[45,49,47,50]⟩ ⟨#[50]⟩ 1) aD aE ⟨#[45,49,47,50]⟩ ⟨#[50]⟩=(true,0):=by decide +kernel
theorem rW:fU aD aE ⟨#[48]⟩ ⟨#[51]⟩ 1=true/\bv (fv aD aE ⟨#[48]⟩ ⟨#[51]⟩ 1) aD aE ⟨#[48]⟩ ⟨#[51]⟩=(false,0):=by decide +kernel
theorem rX:fU aD aE ⟨#[45,49]⟩ ⟨#[49]⟩ 1=true/\fv aD aE ⟨#[45,49]⟩ ⟨#[49]⟩ 1=false:=by decide +kernel
theorem rY:fU aD aE ⟨#[48]⟩ ⟨#[49]⟩ 1=true/\fv aD aE ⟨#[48]⟩ ⟨#[49]⟩ 1=true:=by decide +kernel
theorem rZ:fU aD aE ⟨#[49]⟩ ⟨#[50]⟩ 1=true/\fv aD aE ⟨#[49]⟩ ⟨#[50]⟩ 1=true:=by decide +kernel
theorem r7:fU aD aE ⟨#[49]⟩ ⟨#[51]⟩ 1=true/\fv aD aE ⟨#[49]⟩ ⟨#[51]⟩ 1=false:=by decide +kernel
def fz:List ByteArray:=[⟨#[45,50]⟩,⟨#[45,49]⟩,⟨#[48]⟩,⟨#[49]⟩,⟨#[50]⟩,⟨#[51]⟩]
theorem x7:fW aD aE fz=0:=by decide +kernel
theorem vu:∀ i,i<5->jb (am fz i) (am fz (i+1))=-1:=by decide +kernel
theorem qH:bo aD aE ⟨#[49]⟩=true:=by decide +kernel
theorem dD:aq aD aE=true:=by decide +kernel
structure m7 (w:World) (g:Nat) (p:Option Addr) (c:Nat) (q:Option Addr) (d b o cl:Nat):Prop where
 f0:w.cell? ⟨g,0,none⟩=some (.slice p 2 c)
 f1:w.cell? ⟨g,1,none⟩=some (.slice q 2 d)
 m:w.heap[g+1]?=some (.cells #[.string ⟨#[]⟩,.string ⟨#[]⟩] 53 (0,0))
 F:IsF w (.agg #[.slice p 2 c,.slice q 2 d]) aD aE
 L:IsS w (.slice (some ⟨b,o,none⟩) 6 cl) fz
 G:Gx w
theorem m7.below {w w':World}{g:Nat}{p:Option Addr}{c:Nat}{q:Option Addr}{d b o cl:Nat} (h:m7 w g p c q d b o cl) (hb:Below w.heap.size w w'):m7 w' g p c q d b o cl:=by
 have hg:g+1<w.heap.size:=(AE.1 h.m).1;exact⟨aa hb (by omega) h.f0,aa hb (by omega) h.f1,(hb.block _ hg).trans h.m,h.F.below hb,h.L.below hb,h.G.below hb⟩
theorem m7.cells {w:World}{g:Nat}{p:Option Addr}{c:Nat}{q:Option Addr}{d b o cl:Nat} (h:m7 w g p c q d b o cl):g+1<w.heap.size/\b<w.heap.size/\∀ i,i<6->w.cell? ⟨b,o+i,none⟩=some (.string (am fz i)):=by
 obtain⟨b',o',e,hlt,hc⟩:=h.L.all (by decide);obtain⟨rfl,rfl⟩:b=b'/\o=o':=by simpa using e
 exact⟨(AE.1 h.m).1,hlt,fun i hi=>hc i hi⟩
theorem rE (v vl:Value) (w:World) (hF:IsF w v aD aE) (hl:IsS w vl fz) (hG:Gx w) :
  Calls Tryz.prog 27 #[v,vl,.int .i64 3] w fun e w'=>e=.returned (.tuple #[.agg #[.string ⟨#[48]⟩,.string ⟨#[50]⟩],.int .i64 0])/\Below w.heap.size w w':=by
 obtain⟨p,c,q,d,rfl,-,-⟩:=id hF.ex;rw[show aD.length=2 from rfl,show aE.length=2 from rfl] at hF |-;obtain⟨pl,cl,rfl,-⟩:=id hl.form;obtain⟨b,o,rfl,hbw,-⟩:=hl.all (by decide);rw[show fz.length=6 from rfl] at hl |-;go_enter Tryz.func27,Tryz.ntmps27;go_upto_region 1 with fail
 have cc:=ar w (.slice p 2 c) (.slice q 2 d);have m1:=ac w (.cells #[.slice p 2 c,.slice q 2 d] 24);have z1:=size_alloc w (.cells #[.slice p 2 c,.slice q 2 d] 24);generalize w.alloc (.cells #[.slice p 2 c,.slice q 2 d] 24)=w1 at *
 have c0:=cc.1;have c1:=cc.2;have m2:=ac w1 (.cells #[.string ⟨#[]⟩,.string ⟨#[]⟩] 53);have r2:=heap_alloc_new w1 (.cells #[.string ⟨#[]⟩,.string ⟨#[]⟩] 53 (0,0));generalize w1.alloc (.cells #[.string ⟨#[]⟩,.string ⟨#[]⟩] 53)=w2 at *
 rw[z1] at r2;have hB2:=m1.trans (m2.mono m1.size);have hP:m7 w2 w.heap.size p c q d b o cl:=⟨aa m2 (by omega) c0,aa m2 (by omega) c1,r2,hF.below hB2,hl.below hB2,hG.below hB2⟩;obtain⟨g,hg⟩:∃ g,g=w.heap.size:=⟨_,rfl⟩;rw[<-hg] at hP hbw |-;have HB2:=At hB2;have HGW:=At hg;clear cc m1 z1 c0 c1 m2 r2 hB2 hF hl hG hg;have HGA:=At (zp _ _ aD aE fz w2 hP.F hP.L hP.G);rw[x7] at HGA;have HP:=At hP;have q0:=hP.f0;have q1:=hP.f1;clear hP;go_wp2_with fail
 refine HGA.out.mono ?_;rintro e w3 ⟨rfl,hb3⟩;have HP:=At (HP.out.below hb3);have HB3:=At (HB2.out.trans (hb3.mono HB2.out.size));clear hb3 HGA q0 q1;go_wp2;go_loopw [9] (fun s9 wr=>∃ (i:Nat) (z:Int),s9=.int .i64 z/\z=(i:Int)+1/\i<=5/\m7 wr g p c q d b o cl/\Below w.heap.size w wr) (fun s9 _=>6-(intOf s9).toNat)
 case atStart=>exact⟨0,_,rfl,rfl,by omega,HP.out,HB3.out⟩
 case round =>
  clear HP HB3;obtain⟨i,z,rfl,hz,hi5,hP,hbr⟩:=hrel;by_cases hi:i<5
  ·subst hz;have hcm:=vu i hi;obtain⟨hgw,hltb,hcs⟩:=hP.cells;have hx:=hcs i (by omega);have hy:=hcs (i+1) (by omega);have HC:=At (fun wx (h:Below wr.heap.size wr wx)=>kv (am fz i) (am fz (i+1)) wx (hP.G.below h).g);rw[hcm] at HC;generalize am fz i=tx at hx HC;generalize am fz (i+1)=ty at hy HC;have e1:IntKind.i64.wrap ((i:Int)+1)=(i:Int)+1:=IntWalk.i64_in _ (by omega);have e2:IntKind.i64.wrap ((i:Int)+1-1)=(i:Int):=by rw[show (i:Int)+1-1=(i:Int) by omega];exact IntWalk.i64_in _ (by omega)
   have hi1:(i:Int)+1<6:=by omega
   have hi2:(i:Int)<6:=by omega
   have HP:=At hP;clear hcs hcm hP;go_upto_region 7 with fail
   have m4:Below wr.heap.size wr wr.drew:=(Dv _ _).drew;refine ai (fun w'=>∃ x:ax wr.heap.size wr.drew,w'=x.w) (fun i=>i == 9) (by kernel_rfl) (by kernel_rfl) ⟨⟨_,Dv _ _⟩,rfl⟩ ?_;have hz:wr.heap.size<=wr.drew.heap.size:=m4.size;have f0:=fun x:ax wr.heap.size wr.drew=>aa (m4.trans x.h) hltb hx;have f1:=fun x:ax wr.heap.size wr.drew=>aa (m4.trans x.h) hltb hy;have HC:=At (HC.out wr.drew m4);have HP:=At (HP.out.below m4);have HB:=At (hbr.trans (m4.mono hbr.size));clear m4 hx hy hbr;generalize wr.drew=wd at *
   refine ae 9 0 _ _ _ (by kernel_rfl) ?_;simp only[AC,AG,AB,AF];repeat (go_big_quiet_step (fail))
   refine wpQuiet_nil ?_;refine af rfl rfl (fun K hK=>?_);go_simp;refine HC.out.mono ?_;rintro e w5 ⟨rfl,hb5⟩;refine hK _ _ ⟨⟨_,hb5.mono hz⟩,rfl⟩ ?_;clear hK K;try simp only[Act.put,Ax,Aw,Av,Au,Ay,Az]
   refine ae 1 10 _ _ _ (by kernel_rfl) ?_;simp only[AC,AG,AB,AF];repeat (go_big_quiet_step (fail))
   refine wpQuiet_nil ?_;refine av ?_;have HP:=At (HP.out.below hb5);have HB:=At (HB.out.trans (hb5.mono HB.out.size));clear f0 f1 HC hb5 hz e2;go_wp2;go_roundw;case rel=>exact⟨i+1,_,rfl,by go_num,by omega,HP.out,HB.out⟩
   case measure=>simp[intOf]<;>omega
  ·obtain rfl:i=5:=by omega
   obtain rfl:z=6:=by omega
   have HP:=At hP;have HB:=At hbr;obtain⟨hgw,hltb,hcs⟩:=hP.cells;have k0:=hP.f0;have k1:=hP.f1;have x3:wr.cell? ⟨b,o+3,none⟩=some (.string ⟨#[49]⟩):=hcs 3 (by omega);have HHO:=At (fun wx (h:Below wr.heap.size wr wx)=>iN _ aD aE ⟨#[49]⟩ wx (hP.F.below h) (by decide) (by decide) (by decide) (hP.G.below h).g);rw[qH] at HHO;clear hz hi hi5 hP hbr hcs;go_upto_region 11 with fail
   have m4:Below wr.heap.size wr wr.drew:=(Dv _ _).drew;refine ai (fun w'=>∃ x:ax wr.heap.size wr.drew,w'=x.w) (fun i=>i == 5) (by kernel_rfl) (by kernel_rfl) ⟨⟨_,Dv _ _⟩,rfl⟩ ?_;have hz:wr.heap.size<=wr.drew.heap.size:=m4.size;have f0:=fun x:ax wr.heap.size wr.drew=>aa (m4.trans x.h) (show g<wr.heap.size by omega) k0;have f1:=fun x:ax wr.heap.size wr.drew=>aa (m4.trans x.h) (show g<wr.heap.size by omega) k1;have f2:=fun x:ax wr.heap.size wr.drew=>aa (m4.trans x.h) hltb x3;have HH:=At (HHO.out wr.drew m4);have HP:=At (HP.out.below m4);have HB:=At (HB.out.trans (m4.mono HB.out.size));clear m4 k0 k1 x3 HHO;generalize wr.drew=wd at *
   refine ae 5 0 _ _ _ (by kernel_rfl) ?_;simp only[AC,AG,AB,AF];repeat (go_big_quiet_step (fail))
   refine wpQuiet_nil ?_;refine af rfl rfl (fun K hK=>?_);go_simp;refine HH.out.mono ?_;rintro e w5 ⟨rfl,hb5⟩;refine hK _ _ ⟨⟨_,hb5.mono hz⟩,rfl⟩ ?_;clear hK K;try simp only[Act.put,Ax,Aw,Av,Au,Ay,Az]
   refine ae 1 6 _ _ _ (by kernel_rfl) ?_;simp only[AC,AG,AB,AF];repeat (go_big_quiet_step (fail))
   refine wpQuiet_nil ?_;refine av ?_;have HP:=At (HP.out.below hb5);have HB:=At (HB.out.trans (hb5.mono HB.out.size));clear f0 f1 f2 HH hb5 hz hgw hltb;go_wp2;go_loopw [10] (fun s10 wr=>(s10=.int .i64 3\/s10=.int .i64 2)/\m7 wr g p c q d b o cl/\Below w.heap.size w wr) (fun s10 _=>(intOf s10).toNat)
   case atStart=>exact⟨Or.inl rfl,HP.out,HB.out⟩
   case round =>
    clear HP HB;obtain⟨h10,hP,hbr⟩:=hrel;have HP:=At hP;have HB:=At hbr;obtain⟨hgw,hltb,hcs⟩:=hP.cells;have q0:=hP.f0;have q1:=hP.f1;have hltF:g<wr.heap.size:=by omega
    rcases h10 with rfl | rfl
    ·have r2:wr.cell? ⟨b,o+2,none⟩=some (.string ⟨#[48]⟩):=hcs 2 (by omega);have r3:wr.cell? ⟨b,o+3,none⟩=some (.string ⟨#[49]⟩):=hcs 3 (by omega);have k0:=fun y:aM wr=>aa y.h hltF q0;have k1:=fun y:aM wr=>aa y.h hltF q1;have xa:=fun y:aM wr=>aa y.h hltb r2;have xb:=fun y:aM wr=>aa y.h hltb r3
     have HN:=At (show mX wr 53 #[.agg #[.slice p 2 c,.slice q 2 d],.string ⟨#[48]⟩,.string ⟨#[49]⟩] ((.bool true)) from fun y=>aM.calls (by
      have:=gF _ aD aE ⟨#[48]⟩ ⟨#[49]⟩ 1 y.w (HP.out.F.below y.h) (HP.out.G.below y.h) dD rfl (by decide) rY.1;rw[rY.2] at this
      exact this))
     clear hP hbr hcs q0 q1 r2 r3 hgw;go_upto_region 14 with fail
     refine cR (by kernel_rfl) (by kernel_rfl) ?_;repeat (go_big_quiet_step ((go_at_call 53;exact HN.out _)))
     refine wpQuiet_nil ?_;rintro _ ⟨⟨wN,hbN⟩,rfl⟩;clear HN k0 k1 xa xb;have HPN:=At (HP.out.below hbN);have HBN:=At (HB.out.trans (hbN.mono HB.out.size));clear hbN;go_wp2;go_roundw;case rel=>exact⟨Or.inr rfl,HPN.out,HBN.out⟩
     case measure=>simp[intOf]<;>omega
    ·have r2:wr.cell? ⟨b,o+1,none⟩=some (.string ⟨#[45,49]⟩):=hcs 1 (by omega);have r3:wr.cell? ⟨b,o+3,none⟩=some (.string ⟨#[49]⟩):=hcs 3 (by omega);have k0:=fun y:aM wr=>aa y.h hltF q0;have k1:=fun y:aM wr=>aa y.h hltF q1;have xa:=fun y:aM wr=>aa y.h hltb r2;have xb:=fun y:aM wr=>aa y.h hltb r3
     have HN:=At (show mX wr 53 #[.agg #[.slice p 2 c,.slice q 2 d],.string ⟨#[45,49]⟩,.string ⟨#[49]⟩] ((.bool false)) from fun y=>aM.calls (by
      have:=gF _ aD aE ⟨#[45,49]⟩ ⟨#[49]⟩ 1 y.w (HP.out.F.below y.h) (HP.out.G.below y.h) dD rfl (by decide) rX.1;rw[rX.2] at this
      exact this))
     clear hP hbr hcs q0 q1 r2 r3 hgw;go_upto_region 14 with fail
     refine cR (by kernel_rfl) (by kernel_rfl) ?_;repeat (go_big_quiet_step ((go_at_call 53;exact HN.out _)))
     refine wpQuiet_nil ?_;rintro _ ⟨⟨wN,hbN⟩,rfl⟩;clear HN k0 k1 xa xb;have HPN:=At (HP.out.below hbN);have HBN:=At (HB.out.trans (hbN.mono HB.out.size));clear hbN;go_wp2;go_loopw [11] (fun s11 wr=>(s11=.int .i64 3\/s11=.int .i64 4)/\m7 wr g p c q d b o cl/\Below w.heap.size w wr) (fun s11 _=>(5-intOf s11).toNat)
     case atStart=>exact⟨Or.inl rfl,HPN.out,HBN.out⟩
     case round =>
      clear HPN HBN HP HB;obtain⟨h11,hP,hbr⟩:=hrel;have HP:=At hP;have HB:=At hbr;obtain⟨hgw,hltb,hcs⟩:=hP.cells;have q0:=hP.f0;have q1:=hP.f1;have hltF:g<wr.heap.size:=by omega
      rcases h11 with rfl | rfl
      ·have r2:wr.cell? ⟨b,o+3,none⟩=some (.string ⟨#[49]⟩):=hcs 3 (by omega);have r3:wr.cell? ⟨b,o+4,none⟩=some (.string ⟨#[50]⟩):=hcs 4 (by omega);have k0:=fun y:aM wr=>aa y.h hltF q0;have k1:=fun y:aM wr=>aa y.h hltF q1;have xa:=fun y:aM wr=>aa y.h hltb r2;have xb:=fun y:aM wr=>aa y.h hltb r3
       have HN:=At (show mX wr 53 #[.agg #[.slice p 2 c,.slice q 2 d],.string ⟨#[49]⟩,.string ⟨#[50]⟩] ((.bool true)) from fun y=>aM.calls (by
        have:=gF _ aD aE ⟨#[49]⟩ ⟨#[50]⟩ 1 y.w (HP.out.F.below y.h) (HP.out.G.below y.h) dD rfl (by decide) rZ.1;rw[rZ.2] at this
        exact this))
       clear hP hbr hcs q0 q1 r2 r3 hgw;go_upto_region 16 with fail
       refine cR (by kernel_rfl) (by kernel_rfl) ?_;repeat (go_big_quiet_step ((go_at_call 53;exact HN.out _)))
       refine wpQuiet_nil ?_;rintro _ ⟨⟨wN,hbN⟩,rfl⟩;clear HN k0 k1 xa xb;have HPN:=At (HP.out.below hbN);have HBN:=At (HB.out.trans (hbN.mono HB.out.size));clear hbN;go_wp2;go_roundw;case rel=>exact⟨Or.inr rfl,HPN.out,HBN.out⟩
       case measure=>simp[intOf]<;>omega
      ·have r2:wr.cell? ⟨b,o+3,none⟩=some (.string ⟨#[49]⟩):=hcs 3 (by omega);have r3:wr.cell? ⟨b,o+5,none⟩=some (.string ⟨#[51]⟩):=hcs 5 (by omega);have k0:=fun y:aM wr=>aa y.h hltF q0;have k1:=fun y:aM wr=>aa y.h hltF q1;have xa:=fun y:aM wr=>aa y.h hltb r2;have xb:=fun y:aM wr=>aa y.h hltb r3
       have HN:=At (show mX wr 53 #[.agg #[.slice p 2 c,.slice q 2 d],.string ⟨#[49]⟩,.string ⟨#[51]⟩] ((.bool false)) from fun y=>aM.calls (by
        have:=gF _ aD aE ⟨#[49]⟩ ⟨#[51]⟩ 1 y.w (HP.out.F.below y.h) (HP.out.G.below y.h) dD rfl (by decide) r7.1;rw[r7.2] at this
        exact this))
       clear hP hbr hcs q0 q1 r2 r3 hgw;go_upto_region 16 with fail
       refine cR (by kernel_rfl) (by kernel_rfl) ?_;repeat (go_big_quiet_step ((go_at_call 53;exact HN.out _)))
       refine wpQuiet_nil ?_;rintro _ ⟨⟨wN,hbN⟩,rfl⟩;clear HN k0 k1 xa xb;have HPN:=At (HP.out.below hbN);have HBN:=At (HB.out.trans (hbN.mono HB.out.size));clear hbN;go_wp2;rename World=>wz;have hP:=HPN.out;obtain⟨hgw,hltb,hcs⟩:=hP.cells;have r2:wz.cell? ⟨b,o+2,none⟩=some (.string ⟨#[48]⟩):=hcs 2 (by omega);have r4:wz.cell? ⟨b,o+4,none⟩=some (.string ⟨#[50]⟩):=hcs 4 (by omega);have m4:Below wz.heap.size wz wz.drew:=(Dv _ _).drew;have r2:=aa m4 hltb r2;have r4:=aa m4 hltb r4;have hM:=At ((m4.block _ hgw).trans hP.m);have HB:=At (HBN.out.trans (m4.mono HBN.out.size));have hgw:=AD hgw m4.size;have hltb:=AD hltb m4.size;have hne:b≠g+1:=by omega
       clear hP hcs HPN HBN m4;refine ai (fun w'=>∃ x:Off (g+1) wz.drew,w'=x.w) (fun i=>i == 9) (by kernel_rfl) (by kernel_rfl) (Off.below (Dv _ _)) ?_;generalize wz.drew=wd at *
       have f0:=fun x:Off (g+1) wd=>x.cell hltb hne r2;have f1:=fun x:Off (g+1) wd=>x.cell hltb hne r4;refine ae 9 0 _ _ _ (by kernel_rfl) ?_;simp only[AC,AG,AB,AF];repeat (go_big_quiet_step (fail))
       refine wpQuiet_nil ?_;clear f0 f1 r2 r4;obtain⟨e0,e1⟩:wd.cell? ⟨g+1,0,none⟩=some (.string ⟨#[]⟩)/\wd.cell? ⟨g+1,1,none⟩=some (.string ⟨#[]⟩):=⟨by rw[ah hM.out 0];rfl,by rw[ah hM.out 1];rfl⟩;have f0:=ay hM.out 0;have f1:=ay hM.out 1;refine af rfl rfl (fun K hK=>?_);go_simp;refine hK undef _ (Off.set (Off.set (Off.below (Dv _ _)) 0 _) 1 _) ?_;clear hK K e0 e1 f0 f1;try simp only[Act.put,Ax,Aw,Av,Au,Ay,Az]
       refine ae 1 10 _ _ _ (by kernel_rfl) ?_;simp only[AC,AG,AB,AF];repeat (go_big_quiet_step (fail))
       refine wpQuiet_nil ?_;refine av ?_;have hS:=cD hM.out (.string ⟨#[48]⟩) (.string ⟨#[50]⟩);have y0:=ah hS 0;have y1:=ah hS 1;have hBF:=At ((HB.out.setCell (p:=⟨g+1,0,none⟩) (by have:=HGW.out;show w.heap.size<=g+1;omega) (.string ⟨#[48]⟩)).setCell (p:=⟨g+1,1,none⟩) (by have:=HGW.out;show w.heap.size<=g+1;omega) (.string ⟨#[50]⟩));clear hM hS HB;generalize (wd.setCell ⟨g+1,0,none⟩ (.string ⟨#[48]⟩)).setCell ⟨g+1,1,none⟩ (.string ⟨#[50]⟩)=we at *
       go_wp2;refine Du (v:=.tuple #[.agg #[.string ⟨#[48]⟩,.string ⟨#[50]⟩],.int .i64 0]) (by simp at y0 y1;simp[results,Tryz.results27,go_sem,y0,y1]) rfl ⟨rfl,hBF.out⟩
end Go.Proofs.YtgakllaobooabaaGreatDoor
