/- Lemmas of this claim. -/
import Derived.Test.YtdlioncecgnloaaGreatDoorYLB4
import Derived.Test.YtdlioncecgnloaaGreatDoorYPS2
set_option linter.all false
set_option maxRecDepth 100000
set_option maxHeartbeats 8000000
namespace Go.Proofs.YtdlioncecgnloaaGreatDoor
open Go.RowKit Dg Dc
def inK (k:Rat):Prop:=-1<k∧k<1
theorem vj {q:Rat} (h:okQ q):eI (tq q).data.toList=true:=by
 have h1:=cE h
 unfold dE at h1
 unfold eI
 cases hg:ec (tq q).data.toList with
 | none=>rw[hg] at h1;cases h1
 | some z =>
  obtain⟨c,rfl,hc,-,-,-⟩:=eS hg
  have h2:dE (tq q)=some (CQ.real q):=cE h
  rw[h2] at hc
  obtain rfl:=Option.some.inj hc
  exact decide_eq_true (show (rt (0:Rat)).n=0 by rw[cZ])
def cR (k:Rat) (p:List Rat):List Rat:=(List.range (p.length+1)).map fun i=>p.getD i 0+k*p.getD (p.length-i) 0
def upQ:List Rat→List Rat→List Rat
 | [],p=>p
 | k :: ks,p=>upQ ks (cR k p)
theorem gS (k:Rat) (p:List Rat):(cR k p).length=p.length+1:=by simp[cR]
theorem et (k:Rat) (p:List Rat) (i:Nat) (h:i≤p.length):(cR k p).getD i 0=p.getD i 0+k*p.getD (p.length-i) 0:=by
 unfold cR
 rw[zC,AU,List.getElem?_range (by omega)]
 rfl
theorem iD {l:List Rat}{i:Nat} (h:l.length≤i):l.getD i 0=0:=by
 rw[zC,AG h];rfl
theorem ot {l m:List Rat} (hl:l.length=m.length) (h:∀ i,i<l.length→l.getD i 0=m.getD i 0):l=m:=by
 refine List.ext_getElem hl fun i h1 h2=>?_
 have:=h i h1
 rw[zC,zC,zE h1,zE h2] at this
 exact this
theorem xH {k:Rat} (h:inK k):1-k*k≠0:=by have:=qy h.1 h.2;grind
theorem xC {p:List Rat}{j:Nat}{k:Rat} (hl:p.length=j+2) (h0:p.getD 0 0=1) (hk:p.getD (j+1) 0=k) (hd:1-k*k≠0):cR k (d9 p (j+1) k)=p:=by
 refine ot (by rw[gS,cz,hl]) fun i hi=>?_
 rw[gS,cz] at hi
 rw[et _ _ _ (by rw[cz];omega),cz]
 by_cases i0:i=0
 ·subst i0
  rw[dH _ _ _ _ (by omega),BO,lU _ _ _ _ (zn _),h0,hk]
  grind
 ·by_cases i1:i=j+1
  ·subst i1
   rw[lU _ _ _ _ (zn _),Bj,dH _ _ _ _ (by omega),BO,h0,hk]
   grind
  ·rw[dH _ _ _ _ (by omega),dH _ _ _ _ (by omega),show j+1-(j+1-i)=i from by omega]
   grind
theorem wX {p:List Rat}{j:Nat}{k:Rat} (hl:p.length=j+1) (h0:p.getD 0 0=1) (hd:1-k*k≠0):(cR k p).getD (j+1) 0=k∧(cR k p).getD 0 0=1∧d9 (cR k p) (j+1) k=p:=by
 refine⟨?_,?_,ot (by rw[cz,hl]) fun i hi=>?_⟩
 ·rw[et _ _ _ (by omega),iD (by omega),hl,Bj,h0]
  grind
 ·rw[et _ _ _ (by omega),h0,BO,iD (zn _)]
  grind
 ·rw[cz] at hi
  rw[dH _ _ _ _ hi,et _ _ _ (by omega),et _ _ _ (by omega),hl,show j+1-(j+1-i)=i from by omega]
  grind
theorem iS (k:Rat):∀ (l p:List Rat),upQ (l++[k]) p=cR k (upQ l p)
 | [],_=>rfl
 | _ :: l,p=>by rw[zT,upQ,upQ,iS k l]
theorem oM:∀ (j:Nat) (p l:List Rat),p.length=j+1→p.getD 0 0=1→cG j p=some l→upQ l [1]=p∧∀ k∈l,inK k
 | 0,p,l,hl,h0,h=>by
  cases h
  refine⟨?_,fun k hk=>by cases hk⟩
  match p,hl,h0 with
  | [x],_,h0 =>
   have:x=1:=h0
   rw[this];rfl
 | j+1,p,l,hl,h0,h=>by
  rw[cG] at h
  split at h
  ·rename_i hin
   have hd:=xH hin
   have n0:(d9 p (j+1) (p.getD (j+1) 0)).getD 0 0=1:=by
    rw[dH _ _ _ _ (by omega),BO,h0]
    grind
   cases hq:cG j (d9 p (j+1) (p.getD (j+1) 0)) with
   | none=>rw[hq] at h;cases h
   | some l' =>
    rw[hq] at h
    cases h
    obtain⟨e1,e2⟩:=oM j _ l' (cz ..) n0 hq
    refine⟨?_,fun k hk=>?_⟩
    ·rw[iS,e1,xC hl h0 rfl hd]
    ·rcases AM.1 hk with hk | hk
     ·exact e2 k hk
     ·rw[Ao.1 hk];exact hin
  ·cases h
theorem k8:∀ (j:Nat) (l:List Rat),l.length=j→(∀ k∈l,inK k)→cG j (upQ l [1])=some l∧(upQ l [1]).length=j+1∧(upQ l [1]).getD 0 0=1
 | 0,l,hl,_=>by
  obtain rfl:=List.length_eq_zero_iff.1 hl
  exact⟨rfl,rfl,rfl⟩
 | j+1,l,hl,h=>by
  obtain⟨l',k,rfl⟩:∃ l' k,l=l'++[k]:=by
   rcases List.eq_nil_or_concat l with e | ⟨l',k,e⟩
   ·rw[e] at hl;cases hl
   ·exact⟨l',k,by rw[e,List.concat_eq_append]⟩
  rw[zw,AH] at hl
  obtain⟨e1,e2,e3⟩:=k8 j l' (by omega) fun k hk=>h k (BJ _ hk)
  have hin:=h k (List.mem_append_right _ (Ao.2 rfl))
  obtain⟨u1,u2,u3⟩:=wX e2 e3 (xH hin)
  rw[iS]
  refine⟨?_,by rw[gS,e2],u2⟩
  rw[cG,u1,if_pos (show -1<k∧k<1 from hin),u3,e1]
  rfl
def szL (l:List Rat):Nat:=l.foldr (fun k n=>2*k.den*n) 1
theorem bN (k:Rat) (l:List Rat):szL (k :: l)=2*k.den*szL l:=rfl
theorem o8 (k:Rat):∀ l:List Rat,szL (l++[k])=szL l*(2*k.den)
 | []=>by show 2*k.den*1=1*_;rw[Ay,Bp]
 | a :: l=>by rw[zT,bN,bN,o8 k l,AO (2*a.den)]
theorem oL:∀ (j:Nat) (p:List Rat) (e:Nat) (l:List Rat),p.length=j+1→r9 e p→(e+1)*2 ^ j≤6600→cG j p=some l→szL l≤2 ^ ((e+1)*(2 ^ j-1))
 | 0,_,_,l,_,_,_,h=>by cases h;exact AP (by decide)
 | j+1,p,e,l,hl,hp,he,h=>by
  obtain⟨g1,g2⟩:=grow he
  rw[cG] at h
  split at h
  ·rename_i hin
   obtain⟨n1,n2⟩:=rC hp hl g1 hin.1 hin.2
   cases hq:cG j (d9 p (j+1) (p.getD (j+1) 0)) with
   | none=>rw[hq] at h;cases h
   | some l' =>
    rw[hq] at h
    cases h
    have h1:=oL j _ _ l' (cz ..) n2 g2 hq
    obtain⟨-,D,hD,hDl,ov⟩:=hp
    have h2:(p.getD (j+1) 0).den≤2 ^ e:=zF ((ov _ (cD (by omega))).bound hD).2 hDl
    have h3:2*(p.getD (j+1) 0).den≤2 ^ (e+1):=by rw[zH,zK];exact zv _ h2
    rw[o8]
    refine yx h1 h3 ?_
    have h4:=kJ j
    obtain⟨n,hn⟩:∃ n,2 ^ j=n+1:=⟨2 ^ j-1,by omega⟩
    rw[zH,hn,show (n+1)*2-1=2*n+1 from by omega,show n+1-1=n from by omega,show 2*e+1+1=(e+1)*2 from by omega,AO,Ci (e+1),Ay]
  ·cases h
theorem qu5 {b:List ByteArray}{qb l:List Rat} (h:jr b qb) (h1:qb.getD 0 0=1) (hl:0<qb.length) (hp:cG (qb.length-1) qb=some l):∃ s,s≤6111∧szL l≤2 ^ s:=by
 obtain⟨n,hn⟩:∃ n,qb.length=n+1:=⟨qb.length-1,by omega⟩
 have h7:=h.len
 rw[hn,Aj] at hp
 refine⟨_,?_,oL n qb 96 l hn (oX h h1) (mc (by omega)) hp⟩
 have:2 ^ n≤2 ^ 6:=kZ (show n≤6 by omega)
 omega
theorem gT:∀ l:List Rat,1≤szL l
 | []=>zn _
 | k :: l=>by
  rw[bN]
  exact Ak (Ak (by decide) k.den_pos) (gT l)
theorem yu {k:Rat} (h:inK k):k.num.natAbs≤k.den:=by
 have hd:=nB k.den_pos
 have e:=mS k
 have e2:(k.num:Rat)=k*(k.den:Rat):=by
  have:=dp k.den_pos
  grind
 have b1:k.num<(k.den:Int):=by
  apply Rat.intCast_lt_intCast.1
  rw[e2]
  have:k*(k.den:Rat)<1*(k.den:Rat):=Rat.mul_lt_mul_of_pos_right h.2 hd
  rw[Rat.one_mul] at this
  exact this
 have b2:-(k.den:Int)<k.num:=by
  apply Rat.intCast_lt_intCast.1
  rw[e2,Rat.intCast_neg]
  have:(-1)*(k.den:Rat)<k*(k.den:Rat):=Rat.mul_lt_mul_of_pos_right h.1 hd
  rw[Rat.neg_mul,Rat.one_mul] at this
  exact this
 omega
theorem pT {k:Rat} (h:inK k):Ov k.den k.den k:=(Ov.of k).mono (yu h)
theorem xw {k:Rat}{p:List Rat}{E M:Nat} (hE:0<E) (hk:inK k) (hp:∀ q∈p,Ov E M q) (h1:E*(2*k.den)<10 ^ 2000) (h2:M*(2*k.den)<10 ^ 2000) :
  eK (tq k) (p.map tq)=(cR k p).map tq∧∀ q∈cR k p,Ov (E*k.den) (M*(2*k.den)) q:=by
 have hkd:=k.den_pos
 have e1:E*(2*k.den)=E*k.den*2:=by rw[B_,zK]
 have e2:M*(2*k.den)=M*k.den+M*k.den:=by rw[B_,Nat.two_mul]
 have hEk:=Ak hE hkd
 have hg:∀ i,Ov E M (p.getD i 0):=fun i=>by
  by_cases hi:i<p.length
  ·exact hp _ (cD hi)
  ·rw[iD (by omega)];exact (Ov.zero E).mono (zD _)
 have hE1:E≤E*k.den:=Ah _ hkd
 have hM1:M≤M*k.den:=Ah _ hkd
 have okp:∀ i,okQ (p.getD i 0):=fun i=>(hg i).ok hE (by omega) (by omega)
 have hk1:k.den≤E*k.den:=Bc _ hE
 have okk:okQ k:=(pT hk).ok hkd (by omega) (by omega)
 have mm:∀ i,Ov (E*k.den) (M*k.den) (k*p.getD i 0):=fun i=>by
  have:=(pT hk).mul (hg i) hkd hE
  rw[zK k.den E,zK k.den M] at this
  exact this
 have ss:∀ i l,Ov (E*k.den) (M*(2*k.den)) (p.getD i 0+k*p.getD l 0):=fun i l=>by
  rw[e2]
  exact ((hg i).wide _ hE hkd).add (mm l)
 refine⟨?_,fun q hq=>?_⟩
 ·have ez:p.map tq++[(⟨#[48]⟩:ByteArray)]=(p++[0]).map tq:=by rw[A_,Ap,A2,j7]
  have eg:∀ i,(p++[0]).getD i 0=p.getD i 0:=fun i=>by
   rw[zC,zC]
   by_cases hi:i<p.length
   ·rw[AV hi]
   ·rw[AD (by omega),AG (l:=p) (by omega)]
    cases hh:i-p.length with
    | zero=>rfl
    | succ n=>rfl
  unfold eK cR
  rw[List.map_map,zJ,ez]
  refine List.map_congr_left fun i hi=>?_
  have hi:=Aq.1 hi
  show fd (ap ((p++[0]).map tq) i) (ck (tq k) (ap ((p++[0]).map tq) (p.length-i)))=tq _
  rw[cX (by rw[zw,AH];omega),cX (by rw[zw,AH];omega),eg,eg,
   j0 okk (okp _) ((mm _).ok hEk (by omega) (by omega)),wD (okp _) ((mm _).ok hEk (by omega) (by omega)) ((ss _ _).ok hEk (by omega) (by omega))]
 ·unfold cR at hq
  obtain⟨i,-,rfl⟩:=BK.1 hq
  exact ss _ _
theorem sH (ls:List (List ByteArray)):ja ls ls.length=ls.getLastD [⟨#[49]⟩]:=by
 cases ls with
 | nil=>rfl
 | cons a t =>
  show (a :: t).getD t.length []=_
  rw[List.getLastD_eq_getLast?,List.getLast?_eq_getElem?,zC]
  simp
theorem qe {k:Rat} (h:inK k) (h2:2*k.den<10 ^ 2000):okQ k:=(pT h).ok k.den_pos (by omega) (by omega)
theorem vU:∀ (ks p:List Rat) (E M:Nat),0<E→(∀ q∈p,Ov E M q)→E*szL ks<10 ^ 2000→M*szL ks<10 ^ 2000→(∀ k∈ks,inK k) →
  (cU (ks.map tq) (p.map tq)).getLastD (p.map tq)=(upQ ks p).map tq∧(∀ q∈upQ ks p,okQ q)
 | [],p,E,M,hE,hp,h1,h2,_=>⟨rfl,fun q hq=>(hp q hq).ok hE (by rw[show szL []=1 from rfl,Ay] at h1;exact h1) (by rw[show szL []=1 from rfl,Ay] at h2;exact h2)⟩
 | k :: ks,p,E,M,hE,hp,h1,h2,hk=>by
  have hin:=hk k (z_ ..)
  have hs:=gT ks
  have hkd:=k.den_pos
  rw[bN] at h1 h2
  rw[←AO] at h1 h2
  have l1:E*(2*k.den)≤E*(2*k.den)*szL ks:=Ah _ hs
  have l2:M*(2*k.den)≤M*(2*k.den)*szL ks:=Ah _ hs
  have l3:2*k.den≤E*(2*k.den):=Bc _ hE
  have l4:E*k.den≤E*(2*k.den):=zM _ (by omega)
  obtain⟨s1,s2⟩:=xw hE hin hp (by omega) (by omega)
  have okk:okQ k:=qe hin (by omega)
  obtain⟨u1,u2⟩:=vU ks (cR k p) (E*k.den) (M*(2*k.den)) (Ak hE hkd) s2 (zY (zv _ l4) h1) h2 (fun x hx=>hk x (Ai _ hx))
  refine⟨?_,u2⟩
  rw[Ap,cU,if_pos ⟨vj okk,by rw[kv okk,decide_eq_true hin.1,decide_eq_true hin.2];rfl⟩,List.getLastD_cons,s1,u1]
  rfl
theorem yH:∀ q∈([1]:List Rat),Ov 1 1 q:=fun q hq=>by
 rw[Ao.1 hq]
 exact⟨1,by show (1:Rat)=(1:Rat) / (1:Rat);grind,by decide⟩
theorem mP {ks:List Rat} (h:szL ks<10 ^ 2000) (hk:∀ k∈ks,inK k):gl (ks.map tq)=(upQ ks [1]).map tq∧∀ q∈upQ ks [1],okQ q:=by
 obtain⟨h1,h2⟩:=vU ks [1] 1 1 (by decide) yH (by rw[Bp];exact h) (by rw[Bp];exact h) hk
 refine⟨?_,h2⟩
 unfold gl
 rw[sH]
 unfold aK
 rw[←h1,Ap,A2,eY]
theorem sY {a b:List ByteArray}{pf:List ByteArray} (hc:au a b=true) (hp:aQ b=some pf) :
  ∃ ks qb:List Rat,jr b qb∧qb.getD 0 0=1∧pf=ks.map tq∧ks.length+1=b.length∧(∃ s,s≤6111∧szL ks≤2 ^ s)∧(∀ k∈ks,inK k)∧upQ ks [1]=qb ∧
   ∀ ls:List Rat,ls.length=ks.length→(∀ k∈ls,inK k)→ls≠ks→szL ls<10 ^ 2000→gl (ls.map tq)≠b:=by
 obtain⟨qa,qb,pa,pb,la,lb⟩:=uV hc
 obtain⟨b',hb'⟩:=uw hc pb
 have h1:qb.getD 0 0=1:=by rw[hb'];rfl
 obtain⟨n,hn⟩:∃ n,qb.length=n+1:=⟨qb.length-1,by omega⟩
 rw[u_ pb h1 lb] at hp
 cases hq:cG (qb.length-1) qb with
 | none=>rw[hq] at hp;cases hp
 | some ks =>
  rw[hq] at hp
  cases hp
  have hsz:=qu5 pb h1 lb hq
  rw[hn,Aj] at hq
  obtain⟨u1,u2⟩:=oM n qb ks hn h1 hq
  have hkl:=kK n qb ks hq
  refine⟨ks,qb,pb,h1,rfl,by rw[pb.e,zJ];omega,hsz,u2,u1,fun ls hl hin hne hs he=>hne ?_⟩
  obtain⟨e1,e2⟩:=mP hs hin
  obtain⟨v1,-,-⟩:=k8 n ls (by omega) hin
  have e3:upQ ls [1]=qb:=rQ e2 pb.ok (by rw[←e1,he,pb.e])
  rw[e3,hq] at v1
  exact (Option.some.inj v1).symm
theorem qN {a b:Rat} (ha:okQ a) (hb:okQ b):jN (tq a) (tq b)=(fX a b,0):=by
 unfold jN dy
 simp only[cO,cE ha,cE hb,eV]
 simp[CQ.real]
theorem xj:rt (1 / 2)=⟨false,1,2⟩:=by
 have e1:(1 / 2:Rat).num=1:=by decide +kernel
 have e2:(1 / 2:Rat).den=2:=by decide +kernel
 unfold rt
 rw[e1,e2]
 rfl
theorem rP:tq (1 / 2)=⟨#[49,47,50]⟩:=by
 unfold tq txt
 have e:bS (ct (CQ.real (1 / 2)))=[49,47,50]:=by
  rw[bE (z:=ct (CQ.real (1 / 2))) (by show (rt 0).n=0;rw[cZ])]
  show aF (rt (1 / 2))=_
  rw[xj]
  unfold aF
  rw[da (show 1<10 by decide),da (show 2<10 by decide)];rfl
 rw[e]
theorem kU:∀ (l:List Rat) (j:Nat),szL (l.take j)≤szL l
 | [],_=>by rw[List.take_nil];exact zn _
 | k :: l,0=>by rw[zu];exact gT _
 | k :: l,j+1=>by
  rw[zo,bN,bN]
  exact zM _ (kU l j)
theorem rN (x:Rat):∀ (l:List Rat) (j:Nat),x.den≤2*(l.getD j 0).den→szL (l.set j x)≤2*szL l
 | [],_,_=>by rw[List.set_nil];have:=gT [];omega
 | k :: l,0,h=>by
  rw[zl,bN,bN]
  have h1:x.den≤2*k.den:=h
  rw[AO 2 x.den]
  exact zM 2 (zv (szL l) h1)
 | k :: l,j+1,h=>by
  rw[zm,bN,bN]
  have h1:=rN x l j (by simpa using h)
  have h2:=zM (2*k.den) h1
  have e:2*k.den*(2*szL l)=2*(2*k.den*szL l):=B_ _ _ _
  omega
theorem me (p:List Rat) (i:Nat):(p++[0]).getD i 0=p.getD i 0:=by
 rw[zC,zC]
 by_cases hi:i<p.length
 ·rw[AV hi]
 ·rw[AD (by omega),AG (l:=p) (by omega)]
  cases hh:i-p.length with
  | zero=>rfl
  | succ n=>rfl
theorem tO {k:Rat}{p:List Rat} (hk:okQ k) (hp:∀ q∈p,okQ q) (hs:∀ q∈cR k p,okQ q) (i:Nat) (hi:i<p.length+1) :
  iY [⟨#[49]⟩,tq k] [ap (p.map tq++[⟨#[48]⟩]) i,ap (p.map tq++[⟨#[48]⟩]) (p.length-i)]=(ap ((cR k p).map tq) i,0):=by
 have ez:p.map tq++[(⟨#[48]⟩:ByteArray)]=(p++[0]).map tq:=by rw[A_,Ap,A2,j7]
 have okp:∀ j,okQ (p.getD j 0):=fun j=>by
  by_cases hj:j<p.length
  ·exact hp _ (cD hj)
  ·rw[iD (by omega)];exact oE
 have hl:i<(cR k p).length:=by rw[gS];exact hi
 have e1:pO [1,k] [p.getD i 0,p.getD (p.length-i) 0] 2=(cR k p).getD i 0:=by
  rw[et k p i (by omega)]
  show 0+1*p.getD i 0+k*p.getD (p.length-i) 0=_
  grind
 have h:=yi (a:=[1,k]) (b:=[p.getD i 0,p.getD (p.length-i) 0]) (fun q hq=>by
  rcases Ac.1 hq with rfl | hq
  ·exact dP
  ·rw[Ao.1 hq];exact hk) (fun q hq=>by
  rcases Ac.1 hq with rfl | hq
  ·exact okp _
  ·rw[Ao.1 hq];exact okp _) (by
  show okQ (pO _ _ 2)
  rw[e1]
  exact hs _ (cD hl))
 rw[ez,cX (by rw[zw,AH];omega),cX (by rw[zw,AH];omega),me,me,cX hl,←eY,←e1]
 exact h
theorem ra {k:Rat} (h:inK k):inK (k*(1 / 2)):=by
 obtain⟨h1,h2⟩:=h
 constructor<;>grind
theorem uv (k:Rat):(k*(1 / 2)).den≤2*k.den:=by
 have h:=(Ov.of k).mul (Ov.of (1 / 2)) k.den_pos (1 / 2:Rat).den_pos
 have h2:=(h.bound (Ak k.den_pos (1 / 2:Rat).den_pos)).2
 have e:(1 / 2:Rat).den=2:=by decide +kernel
 rw[e,zK] at h2
 exact h2
theorem vE {l:List Rat}{j:Nat}{x:Rat} (hj:j<l.length) (h:x≠l.getD j 0):l.set j x≠l:=fun e=>h (by
 have:=congrArg (fun m=>m.getD j 0) e
 rw[zC,List.getElem?_set_self hj] at this
 exact this)
theorem wS:inK (1 / 2):=by constructor<;>decide +kernel
theorem pE {a b:List ByteArray}{pf:List ByteArray} (hc:au a b=true) (hp:aQ b=some pf) :
  ∃ P:Nat→List ByteArray,P 0=[⟨#[49]⟩]∧P pf.length=b∧pf.length+1=b.length∧gl pf=b∧(∀ j,j≤pf.length→(P j).length=j+1) ∧
   (∀ j,j<pf.length→∀ i,i<(P j).length+1→iY [⟨#[49]⟩,ap pf j] [ap (P j++[⟨#[48]⟩]) i,ap (P j++[⟨#[48]⟩]) ((P j).length-i)]=(ap (P (j+1)) i,0)) ∧
   (∀ j,j<pf.length→jN (ap pf j) ⟨#[49]⟩=(-1,0)∧jN (ap pf j) ⟨#[45,49]⟩=(1,0)) ∧
   (∀ j,j<pf.length→∃ n,bn (dA CQ.mul) (ap pf j) ⟨#[49,47,50]⟩=(n,0)∧gl (pf.set j (if ap pf j=⟨#[48]⟩ then ⟨#[49,47,50]⟩ else n))≠b):=by
 obtain⟨ks,qb,pb,h1,rfl,hl,⟨s,hs,hsz⟩,hin,hup,hno⟩:=sY hc hp
 have big:∀ x:Nat,x≤2 ^ s→x<10 ^ 2000:=fun x h=>iK h (by omega)
 have okk:∀ k∈ks,okQ k:=fun k hk=>qe (hin k hk) (big _ (zF (by
  obtain⟨i,hi,rfl⟩:=z8 hk
  have e:∀ (l:List Rat) (j:Nat) (h:j<l.length),2*l[j].den≤szL l:=fun l=>by
   induction l with
   | nil=>intro j h;cases h
   | cons x l ih =>
    intro j h
    cases j with
    | zero=>rw[bN];exact Ah _ (gT l)
    | succ j =>
     rw[bN]
     exact zF (ih j (by simpa using h)) (Bc _ (Ak (by decide) x.den_pos))
  exact e ks i hi) hsz))
 have hup2:∀ j,∀ q∈upQ (ks.take j) [1],okQ q:=fun j=>(mP (big _ (zF (kU ks j) hsz)) (fun k hk=>hin k (AN hk))).2
 have hlen:∀ j,j≤ks.length→(upQ (ks.take j) [1]).length=j+1:=fun j hj=>by
  have:=(k8 j (ks.take j) (by rw[zX];omega) (fun k hk=>hin k (AN hk))).2.1
  exact this
 have hstep:∀ j,j<ks.length→upQ (ks.take (j+1)) [1]=cR (ks.getD j 0) (upQ (ks.take j) [1]):=fun j hj=>by
  rw[show ks.take (j+1)=ks.take j++[ks.getD j 0] from by
   rw[zC,zE hj]
   exact (zB hj).symm,iS]
 refine⟨fun j=>(upQ (ks.take j) [1]).map tq,?_,?_,?_,?_,fun j hj=>?_,fun j hj i hi=>?_,fun j hj=>?_,fun j hj=>?_⟩
 ·show (upQ (ks.take 0) [1]).map tq=_
  rw[zu,upQ,Ap,A2,eY]
 ·show (upQ (ks.take (ks.map tq).length) [1]).map tq=b
  rw[zJ,zO,hup,pb.e]
 ·rw[zJ];exact hl
 ·rw[(mP (big _ hsz) hin).1,hup,pb.e]
 ·rw[zJ] at hj ⊢
  exact hlen j hj
 ·rw[zJ] at hj
  rw[zJ] at hi ⊢
  rw[cX hj]
  have hs2:∀ q∈cR (ks.getD j 0) (upQ (ks.take j) [1]),okQ q:=by rw[←hstep j hj];exact hup2 (j+1)
  have:=tO (okk _ (cD hj)) (hup2 j) hs2 i hi
  rw[←hstep j hj] at this
  exact this
 ·rw[zJ] at hj
  have hk:=hin _ (cD hj)
  have ho:=okk _ (cD hj)
  rw[cX hj,←eY,←kY,qN ho dP,qN ho jy]
  obtain⟨k1,k2⟩:=hk
  generalize ks.getD j 0=k at *
  unfold fX
  have n1:k≠1:=by grind
  have n2:k≠-1:=by grind
  have n3:¬ k < -1:=by grind
  rw[if_neg n1,if_pos k2,if_neg n2,if_neg n3]
  exact⟨rfl,rfl⟩
 ·rw[zJ] at hj
  have hk:=hin _ (cD hj)
  have ho:=okk _ (cD hj)
  have hh:okQ (1 / 2):=by
   refine kE ?_ ?_
   ·exact zY (show (1 / 2:Rat).num.natAbs≤1 by decide +kernel) fQ
   ·exact big _ (zF (show (1 / 2:Rat).den≤2 by decide +kernel) (zF (by
     have e:=kU ks 1
     have e2:szL (ks.take 1)=2*(ks.getD 0 0).den:=by
      match ks,hj with
      | x :: l,_=>show 2*x.den*1=2*x.den;omega
     have e3:=(ks.getD 0 0).den_pos
     omega) hsz))
  have hd:=uv (ks.getD j 0)
  have hsz2:∀ x:Rat,x.den≤2*(ks.getD j 0).den→szL (ks.set j x)<10 ^ 2000:=fun x hx=>by
   have e1:=rN x ks j hx
   have e2:2*szL ks≤2 ^ (s+1):=by rw[zH,zK];exact zv _ hsz
   exact iK (zF e1 e2) (by omega)
  have hok:okQ (ks.getD j 0*(1 / 2)):=by
   have h2:=hsz2 _ hd
   refine qe (ra hk) (zY ?_ h2)
   have e:∀ (l:List Rat) (i:Nat) (h:i<l.length) (x:Rat),2*x.den≤szL (l.set i x):=fun l=>by
    induction l with
    | nil=>intro i h;cases h
    | cons y l ih =>
     intro i h x
     cases i with
     | zero=>rw[zl,bN];exact Ah _ (gT l)
     | succ i =>
      rw[zm,bN]
      exact zF (ih i (by simpa using h) x) (Bc _ (Ak (by decide) y.den_pos))
   exact e ks j hj _
  have inset:∀ x:Rat,inK x→∀ k∈ks.set j x,inK k:=fun x hx k hk=>by
   rcases AX hk with h | h
   ·exact hin k h
   ·rw[h];exact hx
  refine⟨tq (ks.getD j 0*(1 / 2)),?_,?_⟩
  ·rw[cX hj,←rP]
   unfold bn dA
   rw[cE ho,cE hh]
   simp only[if_true]
   rw[kP]
   exact ij hok
  ·rw[cX hj]
   by_cases h0:ks.getD j 0=0
   ·rw[if_pos (by rw[h0,j7]),←rP,←Ca]
    refine hno _ (by rw[z7]) (inset _ wS) (vE hj (by rw[h0];decide +kernel)) (hsz2 _ ?_)
    have e:(1 / 2:Rat).den=2:=by decide +kernel
    have:=(ks.getD j 0).den_pos
    omega
   ·have hne:tq (ks.getD j 0)≠⟨#[48]⟩:=fun e=>h0 (qE ho oE (by rw[e,j7]))
    rw[if_neg hne,←Ca]
    refine hno _ (by rw[z7]) (inset _ (ra hk)) (vE hj ?_) (hsz2 _ hd)
    intro e
    apply h0
    grind
end Go.Proofs.YtdlioncecgnloaaGreatDoor
