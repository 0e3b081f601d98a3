/-
  Texts of this claim: RNat3, RApp, RNat4.
-/
import Derived.Laws.AppendOwnNone
import Derived.Test.YtnkgbocdpngldaaGreatDoorVRNat2
import Derived.Test.YtnkgbocdpngldaaGreatDoorVA
set_option linter.unusedVariables false
set_option linter.unusedSimpArgs false
set_option maxRecDepth 100000
set_option maxHeartbeats 8000000

namespace Go.Proofs.YtnkgbocdpngldaaGreatDoor
open Go.RowKit Dg
structure wF (n m:Nat) (out:List Nat):Prop where
 dig:∀ d∈out,d<RR
 eq:val RR out+m*RR ^ out.length=n
 few:out.length+m≤n
theorem yr (n:Nat):wF n n []:=⟨by simp,by simp [val],by simp⟩
theorem Ad {n m:Nat} {out:List Nat} (h:wF n m out) (hm:0<m):wF n (m / 10000) (out++[m % 10000]):=by
 have h1:=h.few
 refine ⟨fun d hd=>?_,?_,by simp only [Ch,Cn,C6];omega⟩
 ·rcases CC.1 hd with hd | hd
  ·exact h.dig d hd
  ·rw [Db.1 hd];exact Dn _ (by decide)
 ·have he:=h.eq
  have hd:=CQ m 10000
  rw [eb,Ch,List.length_singleton,Ct]
  have:RR=10000:=rfl
  generalize m / 10000=a at *
  generalize m % 10000=b at *
  rw [←he,←hd,this]
  grind
theorem A7 {n:Nat} {out:List Nat} (h:wF n 0 out):val RR out=n:=by have:=h.eq;omega
theorem gZ (n:Nat) (hn:n<1000000000000) (w:World) :
  Calls Tryz.prog 120 #[.int .i64 n] w fun e w'=>∃ v,e=.returned v∧IsZ w' v (n:Int)∧Below w.heap.size w w':=by
 have hb1:Below w.heap.size w (w.alloc (.cells #[.bool false,.slice none 0 0] 171)):=(Below.refl _ _).alloc (Ca _) _
 have s0:(w.alloc (.cells #[.bool false,.slice none 0 0] 171)).heap[w.heap.size]?=some (.cells #[.bool false,.slice none 0 0] 171 (0,0)):=heap_alloc_new _ _
 have hd0:decide ((n:Int)<0)=false:=by simp
 go_enter Tryz.func120,Tryz.ntmps120
 go_upto_region 1 with fail
 generalize w.alloc (.cells #[.bool false,.slice none 0 0] 171)=w1 at *
 go_wp2_with fail
 go_loopw [0,4] (fun s0 s4 wr=>∃ (m:Nat) (out:List Nat),s0=.int .i64 m∧Hid (wF n m out)∧Hid (dz wr w1.heap.size s4 out)∧Below w1.heap.size w1 wr) (fun s0 _ _=>(intOf s0).toNat)
 case atStart=>exact ⟨n,[],rfl,yr n,World.ownsRow_nil _ _ _ _,Below.refl _ _⟩
 case round =>
  obtain ⟨m,out,rfl,hst,hown,hbw⟩:=hrel
  have hfew:=hst.out.few
  have hsz:=hbw.size
  by_cases hm:m=0
  ·subst hm
   have hend:=B8 (A7 hst.out)
   have hdig:=B8 hst.out.dig
   have s1:=(hbw.block _ (ac s0)).trans s0
   obtain ⟨po,co,rfl,_,_⟩:=(dz.isU hown.out).slice
   have hoi:=B8 (dz.isU hown.out)
   have HB:=hb1.trans (hbw.mono hb1.size)
   clear hst hown hbw hb1 s0
   go_wp2_with fail
   refine (dZ false _ out wr hoi.out hdig.out).mono ?_
   rintro e w5 ⟨v',rfl,hz,hb5⟩
   rw [hend.out,show sgn false n=(n:Int) from rfl] at hz
   obtain ⟨vd,rfl,hd5⟩:=hz
   obtain ⟨pd,cd,rfl,hcd,hcm⟩:=hd5.slice
   have r2:=(hb5.block _ (ac s1)).trans s1
   have hbC:=HB.trans (hb5.mono HB.size)
   have q0:=aa r2 0
   have q1:=aa r2 1
   have f0:=frozen_of_row w5 w.heap.size 0 _ _ r2
   have f1:=frozen_of_row w5 w.heap.size 1 _ _ r2
   generalize (ar RR (n:Int).natAbs).length=N at hcd hd5 ⊢
   have hsg:decide ((n:Int)<0)=false:=by simp
   rw [hsg]
   have hrow:Hid (((w5.setCell ⟨w.heap.size,0,none⟩ (.bool false)).setCell ⟨w.heap.size,1,none⟩ (.slice pd N cd)).heap[w.heap.size]?=some (.cells #[.bool false,.slice pd N cd] 171 (0,0))):=pP r2 _ _
   have hfin:Hid (Below w.heap.size w ((w5.setCell ⟨w.heap.size,0,none⟩ (.bool false)).setCell ⟨w.heap.size,1,none⟩ (.slice pd N cd))):=(hbC.setCell (p:=⟨w.heap.size,0,none⟩) (Ca _) _).setCell (p:=⟨w.heap.size,1,none⟩) (Ca _) _
   have hend5:Hid (IsZ ((w5.setCell ⟨w.heap.size,0,none⟩ (.bool false)).setCell ⟨w.heap.size,1,none⟩ (.slice pd N cd)) (.agg #[.bool false,.slice pd N cd]) (n:Int)) :=
    ⟨_,by rw [hsg],IsI.two r2 (fun z=>by simp) (fun z=>by simp) hd5 _ _⟩
   unfold maxLen at hcm
   clear r2 hd5 hbC s1 hsg hd0
   go_wp2_with fail
   (try simp only [Exit.inBlock,Exit.then])
   refine bodyPost_ret (results_cell_row rfl _ _ w.heap.size _ _ (0,0) _ rfl hrow.out Tryz.underlying171 rfl (by kernel_rfl)) rfl ?_
   exact ⟨_,rfl,hend5.out,hfin.out⟩
  ·have hne:((m:Int) != 0)=true:=by simp;omega
   have hr:(m:Int).tmod 10000=((m % 10000:Nat):Int):=by rw [Dj (by omega)];omega
   have hq:(m:Int).tdiv 10000=((m / 10000:Nat):Int):=by rw [CT (by omega)];omega
   have hlt:decide ((m:Int).tmod 10000<0)=false:=by rw [hr];exact decide_eq_false (by omega)
   have hst2:=B8 (Ad hst.out (show 0<m by omega))
   clear hst
   go_wp2_with (at_builtin;refine a6 39 Tryz.underlying39 rfl (.tmp 16) (.tmp 18) rfl w1.heap.size _ out _ (m % 10000) (by omega) rfl hown.out rfl (by omega) hsz ?_)
   intro v' w2 hown' hb'
   have hb2:=hb' _ _ hbw (Ca _)
   clear hown hbw hb'
   have HO:=B8 hown'
   clear hown'
   go_wp2
   go_roundw
   case rel=>exact ⟨m / 10000,_,by go_num,hst2,HO,hb2⟩
   case measure=>simp [intOf];omega
theorem xB (w:World) (sg:Bool) (p:Option Addr) (N c:Nat):(Instr.field 171 (.agg #[.bool sg,.slice p N c]) 1).run Tryz.prog w=.ok (.slice p N c) w:=by kernel_rfl
/-- the product with a small number -/
theorem oS (v:Value) (l:List Nat) (n:Nat) (w:World) (hv:IsI w v l) (hl:CR l) (hn:n<1000000000000) (hlen:l.length<1000000) :
  Calls Tryz.prog 190 #[v,.int .i64 n] w fun e w'=>∃ v',e=.returned v'∧IsD w' v' (val RR l*n)∧Below w.heap.size w w':=by
 obtain ⟨p,cap,rfl,_,_⟩:=hv.slice
 have hval:=B8 (iz aE hl)
 obtain ⟨N,hN⟩:∃ N,N=l.length:=⟨_,rfl⟩
 rw [←hN] at hlen ⊢
 have HN:=B8 hN
 have HV:=B8 hv
 have HL:=B8 hl
 clear hN hv hl
 go_enter Tryz.func190,Tryz.ntmps190
 go_wp2_with fail
 refine (gZ n hn w).mono ?_
 rintro e w1 ⟨v1,rfl,hz1,hb1⟩
 have hza:IsZ w1 (.agg #[.bool false,.slice p N cap]) (val RR l:Int):=by
  refine ⟨_,by rw [show decide ((val RR l:Int)<0)=false by simp],?_⟩
  unfold IsD
  rw [Da,hval.out,HN.out]
  exact HV.out.below hb1
 go_wp2_with fail
 refine (zz _ _ _ _ w1 hza hz1 (by rw [Da,hval.out,←HN.out];exact hlen) (by
  rw [Da]
  have:=aT aE (n:=n) (k:=3) (by unfold RR;omega)
  omega)).mono ?_
 rintro e w2 ⟨v2,rfl,hz2,hb2⟩
 obtain ⟨vd,rfl,hd2⟩:=hz2
 rw [show ((val RR l:Int)*(n:Int)).natAbs=val RR l*n by rw [←Int.natCast_mul,Da]] at hd2
 obtain ⟨pd,cd,rfl,_,_⟩:=hd2.slice
 have HD2:=B8 hd2
 have HB2:=hb1.trans (hb2.mono hb1.size)
 generalize decide ((val RR l:Int)*(n:Int)<0)=sg
 clear hd2 hza hz1 hb1 hb2
 have hfd:=fun w=>xB w sg pd (ar RR (val RR l*n)).length cd
 go_wp2_with fail
 go_ret
 exact ⟨_,rfl,HD2.out,HB2⟩
def im (l:List Nat) (k:Nat):Nat→Nat
 | 0=>0
 | j+1=>im l k j*10000+(if j≤k then nth l (k-j) else 0)
theorem tI {l:List Nat} (hl:∀ d∈l,d<RR) (k:Nat):∀ j,im l k j<10000 ^ j
 | 0=>by simp [im]
 | j+1=>by
  have h1:=tI hl k j
  have h2:=bK (j:=k-j) hl
  have h3:RR=10000:=rfl
  rw [im,Ct]
  split<;>omega
theorem wI (l:List Nat) (k:Nat):im l k 3=iO l k:=by
 simp only [im,iO,fD]
 simp
theorem uq (v:Value) (l:List Nat) (k:Nat) (w:World) (hv:IsI w v l) (hl:∀ d∈l,d<RR) (hk:k<1000000000) :
  Calls Tryz.prog 207 #[v,.int .i64 k] w fun e w'=>e=.returned (.int .i64 (iO l k:Nat))∧w'=w:=by
 obtain ⟨p,cap,rfl,hlc,hcm,hcell⟩:=hv
 unfold maxLen at hcm
 have HE:=B8 (wI l k)
 have HB:=B8 (fun j=>tI hl k j)
 have HN:=B8 (fun j=>bK (j:=j) hl)
 rw [←HE.out]
 clear hl
 go_enter Tryz.func207,Tryz.ntmps207
 go_wp2
 go_loop [5,6] (fun s5 s6=>∃ j:Nat,j≤3∧s5=.int .i64 (im l k j:Nat)∧s6=.int .i64 ((k:Int)-j)) (fun _ s6=>(intOf s6-k+3).toNat)
 case atStart=>exact ⟨0,by omega,rfl,by simp⟩
 case round =>
  obtain ⟨j,hj,rfl,rfl⟩:=hrel
  have hb:=HB.out j
  by_cases h3:j=3
  ·subst h3
   go_wp2
   go_ret
   exact ⟨rfl,rfl⟩
  ·have hb2:im l k j<100000000:=by
    have:10000 ^ j≤10000 ^ 2:=CI (by decide) (by omega)
    omega
   have hgt:decide ((k:Int)-j > (k:Int)-3)=true:=by simp;omega
   have hgt2:decide ((k:Int)-3<(k:Int)-j)=true:=by simp;omega
   by_cases hjk:j≤k
   ·have hge:decide ((0:Int)≤(k:Int)-j)=true:=by simp;omega
    by_cases hlt:k-j<l.length
    ·obtain ⟨b,o,rfl,_,hc⟩:=hcell (by omega)
     have hc1:=hc (k-j) hlt
     have hd:=HN.out (k-j)
     have hdl:decide ((k:Int)-j<(l.length:Int))=true:=by simp;omega
     have hkj:(k:Int)-j=((k-j:Nat):Int):=by omega
     have hacc:im l k (j+1)=im l k j*10000+nth l (k-j):=by rw [im,if_pos hjk]
     have HA:=B8 hacc
     rw [fD] at hd
     clear hc hcell hacc hb
     go_wp2
     go_round
     case rel=>exact ⟨j+1,by omega,by rw [HA.out];go_num,by go_num⟩
     case measure=>simp [intOf];omega
    ·have hdl:decide ((k:Int)-j<(l.length:Int))=false:=by simp;omega
     have hacc:im l k (j+1)=im l k j*10000:=by rw [im,if_pos hjk,eL (by omega)];rfl
     have HA:=B8 hacc
     clear hcell hacc hb
     go_wp2
     go_round
     case rel=>exact ⟨j+1,by omega,by rw [HA.out];go_num,by go_num⟩
     case measure=>simp [intOf];omega
   ·have hge:decide ((0:Int)≤(k:Int)-j)=false:=by simp;omega
    have hacc:im l k (j+1)=im l k j*10000:=by rw [im,if_neg hjk];rfl
    have HA:=B8 hacc
    clear hcell hacc hb
    go_wp2
    go_round
    case rel=>exact ⟨j+1,by omega,by rw [HA.out];go_num,by go_num⟩
    case measure=>simp [intOf];omega
end Go.Proofs.YtnkgbocdpngldaaGreatDoor

namespace Go.Proofs.YtnkgbocdpngldaaGreatDoor
open Go.RowKit Dg
theorem iS (b o j:Nat):(⟨b,o,none⟩:Addr).add j=⟨b,o+j,none⟩:=by
 simp only [Addr.add];by_cases h:j=0<;>simp [h]
def wE (v:Value):Prop:=v=.slice none 0 0∨∃ ad n c,v=.slice (some ad) n c
theorem SlB.nor {B:Nat} {v:Value} (h:SlB B v):wE v:=by
 rcases h with h | ⟨b,n,c,h,_⟩
 ·exact Or.inl h
 ·exact Or.inr ⟨_,n,c,h⟩
theorem gA {w:World} {ops:Array Oper} {rest:List Oper} {o:Oper} {a:Act} {Q:Exit→Act→World→Prop} (T:TypeId)
  (hT:Tryz.prog.underlying T=some (.slice 3)) (hgd:o.guard=none) (s x:Operand)
  (ho:o.op=.call { callee:=.builtin .append,args:=#[s,x],argTypes:=#[T,T] })
  (base:Nat) (v:Value) (l:List Nat) (hs:a.eval s=v) (hown:dz w base v l)
  (vx:Value) (m:List Nat) (hx:a.eval x=vx) (hi:IsI w vx m) (hnn:wE vx) (hlen:l.length+m.length<1000000) (hbase:base≤w.heap.size)
  (h:∀ v' w',dz w' base v' (l++m)→(∀ B w0,Below B w0 w→B≤base→Below B w0 w')→wpList Tryz.prog ops Q rest (a.put o.dst v') w') :
  wpList Tryz.prog ops Q (o :: rest) a w:=by
 obtain ⟨i0,hiz,hz0,hz1,hz2⟩:=info_parts xQ
 obtain ⟨p,cap,he,hlc,hcm,hcell⟩:=hi
 rcases hnn with hn | ⟨ad,n,c,hn⟩
 ·rw [he] at hn
  obtain ⟨rfl,h0,rfl⟩:p=none∧m.length=0∧cap=0:=by simpa using hn
  obtain rfl:m=[]:=Cv h0
  refine wpList_append_own_none hgd s x T ho base 3 i0 1 hT hiz v l.length (fN l) hs hown (by rw [hx,he];rfl) ?_
  refine h v w (by rw [CV];exact hown) (fun B w0 hb _=>hb)
 ·rw [he] at hn
  obtain ⟨rfl,h0,rfl⟩:p=some ad∧m.length=n∧cap=c:=by simpa using hn
  refine wpList_append_own _ hgd s x T ho base 3 i0 (.int .i64 0) 1 8 hT hiz hz0 hz1 hz2 rfl (by decide) v l.length (fN l) hs hown ad m.length cap (fN m) (by rw [hx,he]) (by rw [lw,DG]) ?_ ?_ ?_ ?_ hbase ?_
  ·intro j u hj
   have hjl:j<m.length:=by
    have:=(Cg.1 hj).1
    rwa [lw] at this
   obtain ⟨b,o',e2,_,hc⟩:=hcell (by omega)
   obtain rfl:=Option.some.inj e2
   have:=hc j hjl
   rw [mD m j hjl] at hj
   rw [←Option.some.inj hj,iS]
   exact this
  ·intro u hu
   unfold fN at hu
   obtain ⟨d,_,rfl⟩:=CM.1 hu
   rfl
  ·unfold maxLen;omega
  ·omega
  ·intro v' w' hown' hg _
   refine h v' w' ?_ (fun B w0 hb hB=>?_)
   ·unfold dz
    rw [Ch,ls];exact hown'
   ·have hbs:=hown.lt
    refine hb.grown hg (by omega) ?_
    intro k hk
    have:=(hbs k hk).1
    omega
theorem IsI.tail {w:World} {ad:Addr} {N cap k:Nat} {l:List Nat} (h:IsI w (.slice (some ad) N cap) l) (hk:k≤l.length):IsI w (.slice (some (ad.add k)) (l.length-k) (cap-k)) (l.drop k):=by
 obtain ⟨p',cap',he,hlc,hcm,hcell⟩:=h
 obtain ⟨rfl,rfl,rfl⟩:p'=some ad∧l.length=N∧cap'=cap:=by simp at he;exact ⟨he.1.symm,he.2.1.symm,he.2.2.symm⟩
 refine ⟨some (ad.add k),cap' - k,by rw [Cj],by rw [Cj];omega,by omega,fun hl=>?_⟩
 rw [Cj] at hl
 obtain ⟨b,o,e,hb,hc⟩:=hcell (by omega)
 obtain rfl:=Option.some.inj e
 refine ⟨b,o+k,by rw [iS],hb,fun j hj=>?_⟩
 rw [Cj] at hj
 have:=hc (k+j) (by omega)
 rw [←CU] at this
 rw [this]
 congr 2
 simp [nth,D3]
theorem IsI.store {w:World} {g j:Nat} {v u:Value} {l:List Nat} (h:IsI w v l) (hb:SlB (g+1) v):IsI (w.setCell ⟨g,j,none⟩ u) v l:=by
 obtain ⟨p,cap,he,hlc,hcm,hcell⟩:=h
 refine ⟨p,cap,he,hlc,hcm,fun hl=>?_⟩
 obtain ⟨b,o,e,hlt,hc⟩:=hcell hl
 have hne:b≠g:=by
  rcases hb with hb | ⟨b',n,c,hb,hge⟩
  ·rw [he] at hb;rw [e] at hb;simp at hb
  ·rw [he,e] at hb
   have:b=b':=by simpa using congrArg (fun v=>match v with | Value.slice (some a) _ _=>a.block | _=>0) hb
   omega
 refine ⟨b,o,e,by simpa [World.setCell] using hlt,fun i hi=>?_⟩
 rw [World.cell?_setCell_other _ _ _ _ (by intro e3;exact hne (congrArg Addr.block e3).symm)]
 exact hc i hi
theorem bF.len {n:Nat} (h:bF n):(ar RR n).length<100000:=h
end Go.Proofs.YtnkgbocdpngldaaGreatDoor

namespace Go.Proofs.YtnkgbocdpngldaaGreatDoor
open Go.RowKit Dg
theorem AU {x y:Nat} (h:x≤y):decide (cY x y≤0)=true∧(x<y→cY x y=-1):=by
 unfold cY
 refine ⟨?_,fun h=>by simp [h]⟩
 split
 ·rfl
 ·split
  ·rfl
  ·omega
theorem AT {x y:Nat} (h:y<x):cY x y=1:=by unfold cY;rw [if_neg (by omega),if_neg (by omega)]
theorem zL {a:List Nat} (h:CR a) {k:Nat} (hk:val RR a<RR ^ k):a.length≤k:=by
 have:=aT aE hk
 rwa [iz aE h] at this
theorem nC {a:List Nat} (h:CR a):val RR a<RR ^ a.length:=eR RR a h.1
theorem uO (va vb:Value) (a b:List Nat) (w:World) (ha:IsI w va a) (hb:IsI w vb b) (hca:CR a) (hcb:CR b) (h1:1≤b.length) (hlt:val RR a<RR*val RR b) (hlb:b.length<900000) :
  Calls Tryz.prog 189 #[va,vb] w fun e w'=>e=.returned (.int .i64 (val RR a / val RR b:Nat))∧Below w.heap.size w w':=by
 have hla:a.length≤b.length+1:=zL hca (by
  rw [Ct]
  exact Cc hlt (by rw [Cy];exact Ck _ (Cx (nC hcb))))
 have hg:=xI hca.1 hcb.1 h1 hla
 have hta:=up hca.1 b.length
 have htb:=up hcb.1 b.length
 have hB:0<val RR b:=by
  have:=d_ hcb (Cq.1 (by omega))
  have h4:0<RR ^ (b.length-1):=DS (by decide)
  omega
 have HTA:=B8 (fun w' (hi:IsI w' va a)=>uq va a b.length w' hi hca.1 (by omega))
 have HTB:=B8 (fun w' (hi:IsI w' vb b)=>uq vb b b.length w' hi hcb.1 (by omega))
 obtain ⟨p,cap,rfl,-,-⟩:=ha.slice
 obtain ⟨p',cap',rfl,-,-⟩:=hb.slice
 generalize iO a b.length=ta at *
 generalize iO b b.length=tb at *
 have HA:=B8 ha
 have HBb:=B8 hb
 have HCA:=B8 hca
 have HCB:=B8 hcb
 obtain ⟨X,hX⟩:∃ X,X=val RR a:=⟨_,rfl⟩
 obtain ⟨Y,hY⟩:∃ Y,Y=val RR b:=⟨_,rfl⟩
 rw [←hX,←hY] at hlt hg ⊢
 rw [←hY] at hB
 have HX:=B8 hX
 have HY:=B8 hY
 have hz:(((tb:Int)+1) == 0)=false:=by simp;omega
 have hqv:((ta:Int)).tdiv ((tb:Int)+1)=((ta / (tb+1):Nat):Int):=by
  rw [CT (by omega)];push_cast;rfl
 have hqle:ta / (tb+1)≤ta:=DQ _ _
 generalize ta / (tb+1)=n0 at *
 have HL1:=B8 h1
 clear hX hY ha hb hca hcb hla h1
 go_enter Tryz.func189,Tryz.ntmps189
 go_wp2_with fail
 refine (HTA.out w HA.out).mono ?_
 rintro e w1 ⟨rfl,hw1⟩
 obtain rfl:=hw1.symm
 go_wp2_with fail
 refine (HTB.out _ HBb.out).mono ?_
 rintro e w1 ⟨rfl,hw1⟩
 obtain rfl:=hw1.symm
 go_wp2_with fail
 go_loopw [5] (fun s5 wr=>∃ n:Nat,s5=.int .i64 n∧Hid (n*Y≤X)∧Below w.heap.size w wr) (fun s5 _=>X / Y+1-(intOf s5).toNat)
 case atStart=>exact ⟨n0,rfl,hg,Below.refl _ _⟩
 case round =>
  obtain ⟨n,rfl,hn,hbw⟩:=hrel
  have hnR:n<10000:=by
   have h2:=hn.out
   have h3:n*Y<RR*Y:=Dd h2 hlt
   exact Dw h3
  go_wp2_with fail
  refine (oS _ b (n+1) wr (HBb.out.below hbw) HCB.out (by omega) (by omega)).mono ?_
  rintro e w2 ⟨v2,rfl,hd2,hb2⟩
  rw [←HY.out] at hd2
  have hb3:=hbw.trans (hb2.mono hbw.size)
  go_wp2_with fail
  refine (dU v2 _ _ a w2 hd2 (HA.out.below hb3) (aN _) HCA.out).mono ?_
  rintro e w3 ⟨rfl,nq,rfl⟩
  rw [az aE,←HX.out]
  have hb4:Below w.heap.size w (w2.drewN nq):=below_drewN hb3 _
  clear hb3 hd2 hb2 hbw
  by_cases hle:Y*(n+1)≤X
  ·have hc:=(AU hle).1
   have HN:Hid ((n+1)*Y≤X):=by unfold Hid;rw [Cy];exact hle
   have hmx:n+1≤X / Y:=(Nat.le_div_iff_mul_le hB).2 HN.out
   clear hle hn
   go_wp2_with fail
   go_roundw
   case rel=>exact ⟨n+1,by go_num,HN,hb4⟩
   case measure=>simp [intOf];omega
  ·have hc:=AT (show X<Y*(n+1) by omega)
   have hfin:n=X / Y:=(uh hn.out (by rw [Cy];omega)).1
   rw [hc]
   rw [hfin]
   clear hle hn
   go_wp2_with fail
   go_ret
   exact ⟨rfl,hb4⟩
end Go.Proofs.YtnkgbocdpngldaaGreatDoor
