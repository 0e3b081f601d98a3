/- Lemmas of this claim. -/
import Derived.Test.YtbnkpcfjechfiaaGreatDoorYNC7
import Derived.Test.YtbnkpcfjechfiaaGreatDoorYRV3
set_option linter.all false
set_option maxRecDepth 100000
set_option maxHeartbeats 8000000
namespace Go.Proofs.YtbnkpcfjechfiaaGreatDoor
open Go.RowKit Dg
theorem Dn {w:World}{n n':Nat}{e:TypeId}{size:Nat}{v:Value}{m:Nat}{xs:List Value} (h:w.ownsRow n e size v m xs) (hn:n'≤n):w.ownsRow n' e size v m xs:=by
 refine⟨h.1,?_⟩;rcases h.2 with h2 | ⟨g,cap,cur,rfl,hb,hg,h3⟩
 ·exact Or.inl h2
 ·exact Or.inr ⟨g,cap,cur,rfl,FB hn hb,hg,h3⟩
theorem xh {w:World}{n:Nat}{e:TypeId}{size:Nat}{v:Value}{m:Nat}{xs:List Value} (h:w.ownsRow n e size v m xs) {k:Nat} (hk:v.ownBlock=some k):∃ cur,w.heap[k]?=some (.cells cur e (0,0)):=by
 rcases h.2 with ⟨rfl,_⟩ | ⟨g,cap,cur,rfl,hb,hg,h3⟩
 ·cases hk
 ·simp only[Value.ownBlock,Option.some.injEq] at hk;subst hk;exact⟨cur,hg⟩
theorem ry {w:World}{g:Nat}{cs:Array Value}{t:TypeId}{n c:Nat} (h:w.heap[g]?=some (.cells cs t (0,0))):NoX dC w (.slice (some ⟨g,0,none⟩) n c)↔∀ (j:Nat) u,cs[j]?=some u→¬ dC u:=by
 constructor
 ·intro hn j u hj;exact hn g rfl j u (by rw[af h];exact hj)
 ·intro hn g' hg j u hj;have hg:g=g':=by simpa[Value.ownBlock] using hg
  subst hg;rw[af h] at hj;exact hn j u hj
theorem rx {cs:Array Value}{k:Nat}{x:Value} (h:∀ (j:Nat) u,cs[j]?=some u→¬ dC u) (hx:¬ dC x):∀ (j:Nat) u,(cs.setIfInBounds k x)[j]?=some u→¬ dC u:=by
 intro j u hj;rw[Array.getElem?_setIfInBounds] at hj
 split at hj
 ·split at hj
  ·cases hj;exact hx
  ·cases hj
 ·exact h j u hj
def mB (w:World) (g k:Nat) (u0 u1 u2 u3:Value):World:=(((w.setCell ⟨g,k,none⟩ u0).setCell ⟨g,k+1,none⟩ u1).setCell ⟨g,k+2,none⟩ u2).setCell ⟨g,k+3,none⟩ u3
theorem pQ {e:Value}{u0 u1 u2 u3:Value} (he:cellsOf e=[u0,u1,u2,u3]):∀ (es:List Value) (i:Nat),(∀ x∈es,(cellsOf x).length=4)→i<es.length →
  ((((cO es).set (i*4) u0).set (i*4+1) u1).set (i*4+2) u2).set (i*4+3) u3=cO (es.set i e)
 | [],i,_,h=>by simp at h
 | x :: es,0,hl,_=>by
  have h4:=hl x (FW ..)
  match hx:cellsOf x,h4 with
  | [a,b,c,d],_=>simp[cO,hx,he]
 | x :: es,i+1,hl,h=>by
  have h4:=hl x (FW ..)
  have ih:=pQ he es i (fun y hy=>hl y (FZ _ hy)) (by simpa using h)
  match hx:cellsOf x,h4 with
  | [a,b,c,d],_ =>
   have e1:cO (x :: es)=a :: b :: c :: d :: cO es:=by simp[cO,hx]
   have e2:cO ((x :: es).set (i+1) e)=a :: b :: c :: d :: cO (es.set i e):=by simp[cO,hx]
   rw[e1,e2,←ih,show (i+1)*4=i*4+4 from by omega]
   simp[Fp]
theorem ii:∀ (es:List Value) (i j:Nat) (h:i<es.length),(∀ x∈es,(cellsOf x).length=4)→j<4→(cO es)[i*4+j]?=(cellsOf es[i])[j]?
 | [],i,_,h,_,_=>by simp at h
 | x :: es,0,j,_,hl,hj=>by
  have h4:=hl x (FW ..);have e:cO (x :: es)=cellsOf x++cO es:=by simp[cO]
  rw[e,Ia (by omega),GF,Gq];rfl
 | x :: es,i+1,j,h,hl,hj=>by
  have h4:=hl x (FW ..);have ih:=ii es i j (by simpa using h) (fun y hy=>hl y (FZ _ hy)) hj;have e:cO (x :: es)=cellsOf x++cO es:=by simp[cO]
  rw[e,Hh (by omega),show (i+1)*4+j-(cellsOf x).length=i*4+j from by omega,ih];rfl
theorem pP:∀ es:List Value,(∀ x∈es,(cellsOf x).length=4)→(cO es).length=es.length*4
 | [],_=>rfl
 | x :: es,hl=>by
  have h4:=hl x (FW ..);have ih:=pP es (fun y hy=>hl y (FZ _ hy));have e:cO (x :: es)=cellsOf x++cO es:=by simp[cO]
  rw[e,FA,ih,FK];omega
def gU:Value:=.agg #[.bool false,.slice none 0 0,.bool false,.slice none 0 0]
theorem yL (n:Nat):(madeCells gU.cells (n*4)).toList=cO (List.replicate n gU):=by
 have h4:∀ x∈List.replicate n gU,(cellsOf x).length=4:=fun x hx=>by rw[Gd hx];rfl
 refine List.ext_getElem? fun j=>?_
 by_cases hj:j<n*4
 ·have e:=ii (List.replicate n gU) (j / 4) (j % 4) (by simp;omega) h4 (Gm _ (by decide))
  rw[show j / 4*4+j % 4=j from by omega,Ho] at e
  rw[e]
  have hm:j % 4<4:=Gm _ (by decide)
  have e2:(madeCells gU.cells (n*4)).toList[j]?=some (gU.cells[j % 4]?.getD default):=by
   simp[madeCells,hj,gU,Value.cells]
  rw[e2]
  generalize j % 4=k at hm
  match k,hm with
  | 0,_=>rfl
  | 1,_=>rfl
  | 2,_=>rfl
  | 3,_=>rfl
 ·rw[GM (by simp[madeCells];omega),GM (by rw[pP _ h4,Gp];omega)]
def QO (w:World) (v:Value):Option Rat→Prop
 | some q=>dl w v q
 | none=>v=gU
theorem QO.len {w:World}{v:Value}{o:Option Rat} (h:QO w v o):(cellsOf v).length=4:=by
 cases o with
 | some q=>exact dl.len h
 | none=>rw[show v=gU from h];rfl
theorem QO.below {w w':World}{v:Value}{o:Option Rat} (h:QO w v o) (hb:Below w.heap.size w w'):QO w' v o:=by
 cases o with
 | some q=>exact dl.below h hb
 | none=>exact h
structure eW (w:World) (g n:Nat) (os:List (Option Rat)):Prop where
 ex:∃ es:List Value,es.length=n∧w.ownsRow g 78 4 (.slice (some ⟨g,0,none⟩) n n) n (cO es)∧∀ i (h:i<es.length) (h':i<os.length),QO w es[i] os[i]
 ln:os.length=n
 nx:NoX dC w (.slice (some ⟨g,0,none⟩) n n)
theorem eW.four {w:World}{es:List Value}{os:List (Option Rat)} (hl:es.length=os.length) (h:∀ i (h:i<es.length) (h':i<os.length),QO w es[i] os[i]):∀ e∈es,(cellsOf e).length=4:=by
 intro e he;obtain⟨i,hi,rfl⟩:=Gh he;exact (h i hi (by omega)).len
theorem eW.lt {w:World}{g n:Nat}{os:List (Option Rat)} (h:eW w g n os):g<w.heap.size:=by
 obtain⟨es,h1,h2,h3⟩:=h.ex;exact (World.ownsRow.lt h2 g rfl).2
theorem eW.below {w w':World}{g n:Nat}{os:List (Option Rat)} (h:eW w g n os) (hb:Below w.heap.size w w'):eW w' g n os:=by
 obtain⟨es,h1,h2,h3⟩:=h.ex;exact⟨⟨es,h1,fc h2 hb,fun i hi hi'=>(h3 i hi hi').below hb⟩,h.ln,h.nx.below h2 hb⟩
theorem eW.free {w:World}{g n:Nat}{os:List (Option Rat)} (h:eW w g n os) (j:Nat):w.frozen? ⟨g,j,none⟩=false:=by
 obtain⟨es,h1,h2,h3⟩:=h.ex;exact World.ownsRow.frozenAt h2 j
theorem eW.cells {w:World}{g n:Nat}{os:List (Option Rat)} (h:eW w g n os) {i:Nat} (hi:i<n):∃ u0 u1 u2 u3,w.cell? ⟨g,i*4,none⟩=some u0∧w.cell? ⟨g,i*4+1,none⟩=some u1∧w.cell? ⟨g,i*4+2,none⟩=some u2∧w.cell? ⟨g,i*4+3,none⟩=some u3:=by
 obtain⟨es,h1,h2,h3⟩:=h.ex
 have h4:=eW.four (by rw[h1,h.ln]) h3
 have hx:=h4 _ (FG (show i<es.length by omega))
 have key:∀ j,j<4→w.cell? ⟨g,i*4+j,none⟩=(cellsOf (es[i]'(by omega)))[j]?:=fun j hj=>by
  rw[World.ownsRow.cellAt h2 (i*4+j) (by omega),ii es i j (by omega) h4 hj]
 match hc:cellsOf (es[i]'(by omega)),hx with
 | [a,b,c,d],_ =>
  refine⟨a,b,c,d,?_,?_,?_,?_⟩
  ·rw[show i*4=i*4+0 from rfl,key 0 (by decide),hc];rfl
  ·rw[key 1 (by decide),hc];rfl
  ·rw[key 2 (by decide),hc];rfl
  ·rw[key 3 (by decide),hc];rfl
theorem eW.get {w:World}{g n:Nat}{os:List (Option Rat)} (h:eW w g n os) {i:Nat}{q:Rat} (hi:os[i]?=Option.some (Option.some q)):∃ m a N d a' N' d',dl w (.agg #[.bool m,.slice a N d,.bool false,.slice a' N' d']) q ∧
  w.cell? ⟨g,i*4,none⟩=some (.bool m)∧w.cell? ⟨g,i*4+1,none⟩=some (.slice a N d)∧w.cell? ⟨g,i*4+2,none⟩=some (.bool false)∧w.cell? ⟨g,i*4+3,none⟩=some (.slice a' N' d'):=by
 obtain⟨es,h1,h2,h3⟩:=h.ex;have h4:=eW.four (by rw[h1,h.ln]) h3;obtain⟨hio,hq⟩:=Gi.1 hi;have hie:i<es.length:=by rw[h1,←h.ln];exact hio
 have hk:=h3 i hie hio;rw[hq] at hk;obtain⟨m,a,N,d,a',N',d',he⟩:=dl.forms hk
 have key:∀ j,j<4→w.cell? ⟨g,i*4+j,none⟩=(cellsOf es[i])[j]?:=fun j hj=>by
  rw[World.ownsRow.cellAt h2 (i*4+j) (by omega),ii es i j hie h4 hj]
 rw[he] at key hk;exact⟨m,a,N,d,a',N',d',hk,key 0 (by decide),key 1 (by decide),key 2 (by decide),key 3 (by decide)⟩
theorem eW.put {w:World}{g n:Nat}{os:List (Option Rat)} (h:eW w g n os) {i:Nat}{q:Rat} (hi:i<n) {m:Bool}{a:Option Addr}{N d:Nat}{a':Option Addr}{N' d':Nat} (hq:dl w (.agg #[.bool m,.slice a N d,.bool false,.slice a' N' d']) q) :
  eW (mB w g (i*4) (.bool m) (.slice a N d) (.bool false) (.slice a' N' d')) g n (os.set i (some q))∧(∀ B w0,Below B w0 w→B≤g→Below B w0 (mB w g (i*4) (.bool m) (.slice a N d) (.bool false) (.slice a' N' d'))):=by
 obtain⟨es,h1,h2,h3⟩:=h.ex;have h4:=eW.four (by rw[h1,h.ln]) h3;have hie:i<es.length:=by omega
 have s0:=(World.ownsRow.stored h2 (i*4) (.bool m)).1;have s1:=(World.ownsRow.stored s0 (i*4+1) (.slice a N d)).1;have s2:=(World.ownsRow.stored s1 (i*4+2) (.bool false)).1;have s3:=(World.ownsRow.stored s2 (i*4+3) (.slice a' N' d')).1;rw[pQ (e:=.agg #[.bool m,.slice a N d,.bool false,.slice a' N' d']) rfl es i h4 hie] at s3
 obtain⟨cur,hg⟩:∃ cur,w.heap[g]?=some (.cells cur 78 (0,0)):=by
  obtain⟨cur,hc⟩:=xh h2 (k:=g) rfl;exact⟨cur,hc⟩
 have n0:=(ry hg).1 h.nx;have g0:=heap_setCell_same w g (i*4) _ _ (.bool m) hg;have g1:=heap_setCell_same _ g (i*4+1) _ _ (.slice a N d) g0;have g2:=heap_setCell_same _ g (i*4+2) _ _ (.bool false) g1;have g3:=heap_setCell_same _ g (i*4+3) _ _ (.slice a' N' d') g2;have nb:∀ b:Bool,¬ dC (.bool b):=fun b ⟨z,e⟩=>by cases e
 have ns:∀ (p:Option Addr) (x y:Nat),¬ dC (.slice p x y):=fun p x y ⟨z,e⟩=>by cases e
 have n3:=rx (k:=i*4+3) (rx (k:=i*4+2) (rx (k:=i*4+1) (rx (k:=i*4) n0 (nb m)) (ns a N d)) (nb false)) (ns a' N' d')
 have hoth:∀ b,b≠g→(mB w g (i*4) (.bool m) (.slice a N d) (.bool false) (.slice a' N' d')).heap[b]?=w.heap[b]?:=fun b hb=>by
  unfold mB;rw[heap_setCell_other _ _ _ _ hb,heap_setCell_other _ _ _ _ hb,heap_setCell_other _ _ _ _ hb,heap_setCell_other _ _ _ _ hb]
 have hsz:w.heap.size≤(mB w g (i*4) (.bool m) (.slice a N d) (.bool false) (.slice a' N' d')).heap.size:=by simp[mB,World.setCell]
 have keep:∀ v r,dl w v r→dl (mB w g (i*4) (.bool m) (.slice a N d) (.bool false) (.slice a' N' d')) v r:=fun v r ⟨vn,vd,e,k1,k2⟩ =>
  ⟨vn,vd,e,IsI.apart hg (fun j z hj=>n0 j _ hj ⟨z,rfl⟩) hsz hoth k1,IsI.apart hg (fun j z hj=>n0 j _ hj ⟨z,rfl⟩) hsz hoth k2⟩
 refine⟨⟨⟨es.set i (.agg #[.bool m,.slice a N d,.bool false,.slice a' N' d']),by rw[GA];exact h1,s3,fun k hk hk'=>?_⟩,by rw[GA];exact h.ln,(ry g3).2 n3⟩,fun B w0 hb hB=>?_⟩
 ·by_cases hik:i=k
  ·subst hik;rw[Hg,Hg];exact keep _ _ hq
  ·rw[Hl hik,Hl hik];have hk1:k<es.length:=by simpa using hk
   have hk2:k<os.length:=by simpa using hk'
   have:=h3 k hk1 hk2
   revert this
   generalize es[k]=e;generalize os[k]=o;intro this
   cases o with
   | some r=>exact keep _ _ this
   | none=>exact this
 ·exact (((hb.setCell (p:=⟨g,i*4,none⟩) hB _).setCell (p:=⟨g,i*4+1,none⟩) hB _).setCell (p:=⟨g,i*4+2,none⟩) hB _).setCell (p:=⟨g,i*4+3,none⟩) hB _
theorem eW.own {w:World}{g n base:Nat}{qs:List Rat} (h:eW w g n (qs.map Option.some)) (hb:base≤g):d7 w base (.slice (some ⟨g,0,none⟩) n n) qs:=by
 obtain⟨es,h1,h2,h3⟩:=h.ex;have hl:=h.ln;rw[FJ] at hl;refine⟨⟨es,by omega,by rw[h1];exact Dn h2 hb,fun i hi hi'=>?_⟩,h.nx⟩;have:=h3 i hi (by simpa using hi');rw[Gu] at this;exact this
theorem pC {w:World}{ops:Array Oper}{rest:List Oper}{o:Oper}{a:Act}{Q:Exit→Act→World→Prop} (T:TypeId)
  (hT:Tryz.prog.underlying T=some (.slice 78)) (hgd:o.guard=none) (lo co:Operand) (hop:o.op=Op.makeSlice T lo co)
  (L C:Int) (n:Nat) (hl:a.eval lo=.int .i64 L) (hc:a.eval co=.int .i64 C) (hL:L=(n:Int)) (hC:C=(n:Int)) (hn:n≤1000000000)
  (hK:∀ w',eW w' w.heap.size n (List.replicate n none)→(∀ B w0,Below B w0 w→B≤w.heap.size→Below B w0 w')→w.heap.size<w'.heap.size →
   wpList Tryz.prog ops Q rest (a.put o.dst (.slice (some ⟨w.heap.size,0,none⟩) n n)) w') :
  wpList Tryz.prog ops Q (o :: rest) a w:=by
 obtain⟨i0,hi,hz0,hz1,hz2⟩:=info_parts DH;refine wpList_make_full _ hgd lo co T hop w.heap.size 78 i0 gU 4 hT hi hz0 hz1 .i64 .i64 L C n hl hc hL hC (by rw[hz2];omega) (by unfold maxLen;omega) (Fq _) ?_;intro w' hown hg;rw[yL] at hown
 have hr:eW w' w.heap.size n (List.replicate n none):=by
  refine⟨⟨List.replicate n gU,Gp,hown,fun i hi hi'=>?_⟩,Gp,?_⟩
  ·rw[Ho,Ho];rfl
  ·obtain⟨cur,hc⟩:=xh hown (k:=w.heap.size) rfl;refine (ry hc).2 fun j u hj ⟨z,e⟩=>?_;have hx:w'.cell? ⟨w.heap.size,j,none⟩=some u:=by rw[af hc];exact hj
   have hjn:j<n*4:=by
    rcases hown.2 with ⟨h',_⟩ | ⟨g',cap',cur',h',_,hg',hnc,hcm,hcs,htake⟩
    ·simp at h'
    ·simp only[Value.slice.injEq,Option.some.injEq,Addr.mk.injEq,and_true,true_and] at h';obtain⟨rfl,rfl⟩:=h';rw[hc] at hg';have:cur=cur':=by simpa using hg'
     subst this;have:=(Fw.1 hj).1;omega
   rw[World.ownsRow.cellAt hown j hjn] at hx;have h4:∀ x∈List.replicate n gU,(cellsOf x).length=4:=fun x hx=>by rw[Gd hx];rfl
   have e2:=ii (List.replicate n gU) (j / 4) (j % 4) (by simp;omega) h4 (Gm _ (by decide));rw[show j / 4*4+j % 4=j from by omega,Ho,hx] at e2;have:=G5 e2.symm;rw[e] at this;simp[gU,cellsOf,Value.cells] at this
 refine hK w' hr (fun B w0 hb hB=>hb.grown hg hB (fun k h=>by cases h)) hr.lt
def mf (n i:Nat):List (Option Rat):=List.replicate i (some 0)++List.replicate (n-i) none
theorem yt {n i:Nat} (h:i<n):(mf n i).set i (some 0)=mf n (i+1):=by
 unfold mf;rw[Hv _ _ (by simp),Gp,Hd,show n-i=(n-(i+1))+1 from by omega,GK,Fo,Hi,F7];rfl
theorem yr (n:Nat):mf n n=(List.replicate n (0:Rat)).map some:=by simp[mf]
theorem gD (va vb:Value) (a b:List Rat) (n m:Nat) (w:World) (ha:jc w va a) (hb:jc w vb b) (h0:0<a.length) (h1:0<b.length) (ha1:a.length<1000) (hb1:b.length<1000) (hs:∀ q∈a,Sz n (rt q)) (ht:∀ q∈b,Sz m (rt q))
  (hc:a.length*b.length*(n+m+1)+n+m+2≤390000) :
  Calls Tryz.prog 85 #[va,vb] w fun e w'=>∃ v',e=.returned v'∧d7 w' w.heap.size v' (ck a b)∧Below w.heap.size w w':=by
 obtain⟨pa,ca,rfl,-,-⟩:=id ha.form;obtain⟨pb,cb,rfl,-,-⟩:=id hb.form;have HA:=Fi ha;have HB:=Fi hb;have HS:=Fi hs;have HT:=Fi ht;have HC:=Fi hc;clear ha hb hs ht hc;obtain⟨N,hn⟩:∃ N,N=a.length+b.length-1:=⟨_,rfl⟩;have hnI:((a.length:Int)+(b.length:Int))-1=(N:Int):=by omega
 have HN:=Fi hn;have hn1:N<2000:=by omega
 clear hn;go_enter Tryz.func85,Tryz.ntmps85;go_wp2_with (refine pC 51 Tryz.underlying51 rfl (.tmp 14) (.tmp 14) rfl _ _ N rfl rfl (by go_num) (by go_num) (by omega) ?_)
 intro w2 hr2 hb2 hs2;have M2:=hb2 _ _ (Below.refl w.heap.size w) (Fq _);have HR2:=Fi (show eW w2 w.heap.size N (mf N 0) from by rw[show mf N 0=List.replicate N none from rfl];exact hr2);clear hr2 hb2 hs2;go_wp2;go_loopw [6] (fun s6 wr=>∃ i:Nat,s6=.int .i64 i∧i≤N∧eW wr w.heap.size N (mf N i)∧Below w.heap.size w wr) (fun s6 _=>N-(intOf s6).toNat)
 case atStart=>exact⟨0,rfl,Fz _,HR2.out,M2⟩
 case round =>
  obtain⟨i,rfl,hin,hrow,hbr⟩:=hrel;by_cases hi:i<N
  ·go_wp2_with fail
   refine (DQ wr).mono ?_;rintro e w3 ⟨v3,rfl,hv3,hb3⟩;obtain⟨xm,xa,xN,xd,xb,xM,xe,rfl⟩:=hv3.forms;have hr3:=hrow.below hb3;have hB3:=hbr.trans (hb3.mono hbr.size);obtain⟨y0,y1,y2,y3,c0,c1,c2,c3⟩:=hr3.cells hi;have f0:=hr3.free (i*4);have f1:=hr3.free (i*4+1);have f2:=hr3.free (i*4+2);have f3:=hr3.free (i*4+3);obtain⟨hp,hpb⟩:=hr3.put hi hv3;rw[yt hi] at hp;have HP:=Fi hp;have HBP:=Fi (hpb _ _ hB3 (Fq _));clear hp hpb hr3 hB3 hrow hbr hv3 hb3;go_wp2;go_roundw;case rel=>exact⟨i+1,by go_num,by omega,HP.out,HBP.out⟩
   case measure=>first | (simp[intOf];done) | (simp[intOf];omega)
  ·obtain rfl:i=N:=by omega
   have hrow:=Fi (show eW wr w.heap.size i ((dy a b 0).map some) from by
    rw[yr] at hrow;rw[show dy a b 0=List.replicate i 0 from by rw[dy,HN.out]]
    exact hrow)
   have HZ0:=Fi (show ∀ q∈dy a b 0,Sz (1+0*b.length*(n+m+1)) (rt q) from fun q hq=>by
    rw[dy] at hq;rw[Gd hq,dN]
    exact Sz.zero (by omega))
   clear hi hin M2 HR2;rename World=>w3;go_wp2;go_loopw [7] (fun s7 wr=>∃ j:Nat,s7=.int .i64 j∧j≤a.length∧eW wr w.heap.size i ((dy a b j).map some)∧Below w.heap.size w wr∧Hid (∀ q∈dy a b j,Sz (1+j*b.length*(n+m+1)) (rt q))) (fun s7 _=>a.length-(intOf s7).toNat)
   case atStart=>exact⟨0,rfl,Fz _,hrow.out,hbr,HZ0⟩
   case round =>
    clear hrow hbr HZ0;obtain⟨j,rfl,hjn,hrow,hbr,HZ⟩:=hrel;by_cases hj:j<a.length
    ·rename World=>wo;go_wp2;go_loopw [8] (fun s8 wr=>∃ k:Nat,s8=.int .i64 k∧k≤b.length∧eW wr w.heap.size i ((gY (dy a b j) (a.getD j 0) b j k).map some)∧Below w.heap.size w wr∧Hid (∀ q∈gY (dy a b j) (a.getD j 0) b j k,Sz (1+(j*b.length+k)*(n+m+1)) (rt q))) (fun s8 _=>b.length-(intOf s8).toNat)
     case atStart=>exact⟨0,rfl,Fz _,hrow,hbr,HZ⟩
     case round =>
      clear hrow hbr HZ;obtain⟨k,rfl,hkn,hrow,hbr,HZ⟩:=hrel;by_cases hk:k<b.length
      ·obtain⟨ba,oa,rfl,hla,am,aa,aN,ad,ab,aM,ae,hqa,a0,a1,a2,a3⟩:=(HA.out.below hbr).get hj;obtain⟨bb,ob,rfl,hlb,bm,ba',bN,bd,bb',bM,be,hqb,b0,b1,b2,b3⟩:=(HB.out.below hbr).get hk;rw[show a[j]=a.getD j 0 by simp[FF,FC hj]] at hqa;rw[show b[k]=b.getD k 0 by simp[FF,FC hk]] at hqb;have HSA:=Fi (HS.out _ (kW hj));have HSB:=Fi (HT.out _ (kW hk));obtain⟨L,hL⟩:∃ L,L=gY (dy a b j) (a.getD j 0) b j k:=⟨_,rfl⟩;have HNX:=Fi (show gY (dy a b j) (a.getD j 0) b j (k+1)=L.set (j+k) (L.getD (j+k) 0+a.getD j 0*b.getD k 0) by rw[gY,←hL]);have HLL:=Fi (show L.length=i by rw[hL,jE,iq,HN.out]);rw[←hL] at hrow HZ;clear hL;generalize a.getD j 0=x at *
       generalize b.getD k 0=y at *
       have hjk:j+k<i:=by have:=HN.out;omega
       have HJ2:=Fi (show j+k<L.length by rw[HLL.out];exact hjk);have HZL:=Fi (HZ.out _ (kW HJ2.out))
       have HLO:=Fi (show (L.map some)[j+k]?=some (some (L.getD (j+k) 0)) from by
        rw[Hs,FC HJ2.out,FF,FC HJ2.out];rfl)
       generalize L.getD (j+k) 0=z at HNX HZL HLO
       have HSZ:=Fi (show 1+(j*b.length+k)*(n+m+1)+(n+m)+1≤390000 from by
        have h1:=HC.out
        have h2:j*b.length+k≤a.length*b.length:=by
         have:=Fy b.length (show j+1≤a.length from hj);rw[Ga,G2] at this;omega
        have h3:=Fy (n+m+1) h2
        omega)
       have HZN:=Fi (show ∀ q∈L.set (j+k) (z+x*y),Sz (1+(j*b.length+(k+1))*(n+m+1)) (rt q) from fun q hq=>by
        have e:1+(j*b.length+(k+1))*(n+m+1)=1+(j*b.length+k)*(n+m+1)+(n+m)+1:=by
         rw[←GP (j*b.length) k 1,Ga (j*b.length+k) 1,G2];omega
        rw[e];rcases GZ hq with h | h
        ·exact (HZ.out q h).mono (by omega)
        ·rw[h];exact DY HZL.out (zS HSA.out HSB.out))
       have hin2:=IntWalk.i64_in ((j:Int)+(k:Int)) (by omega);have hix:0≤(j:Int)+(k:Int):=by omega
       have hix2:(j:Int)+(k:Int)<(i:Int):=by omega
       have hta:(((j:Int)+(k:Int))).toNat=j+k:=by omega
       go_upto_region 12 with fail
       have hBd:Below wr.heap.size wr wr.drew:=(Below.refl _ _).drew;refine ay (fun wx:World=>Below wr.drew.heap.size wr.drew wx) (fun t=>t == 21) (by kernel_rfl) ?_;have hrowd:=hrow.below hBd;have hbd:=hbr.trans (hBd.mono hbr.size);have qa:=hqa.below hBd;have qb:=hqb.below hBd;have ka0:=ag hBd hla a0;have ka1:=ag hBd hla a1;have ka2:=ag hBd hla a2;have ka3:=ag hBd hla a3;have kb0:=ag hBd hlb b0;have kb1:=ag hBd hlb b1;have kb2:=ag hBd hlb b2;have kb3:=ag hBd hlb b3;have kla:=Ft hla hBd.size;have klb:=Ft hlb hBd.size;have HCA:=Fi (And.intro kla (And.intro ka0 (And.intro ka1 (And.intro ka2 ka3))));have HCB:=Fi (And.intro klb (And.intro kb0 (And.intro kb1 (And.intro kb2 kb3))));clear a0 a1 a2 a3 b0 b1 b2 b3 hla hlb hqa hqb hrow hbr hBd ka0 ka1 ka2 ka3 kb0 kb1 kb2 kb3 kla klb;generalize wr.drew=wd at *
       have hS:Below wd.heap.size wd wd:=Below.refl _ _;have HRW:=Fi hrowd;obtain⟨zm,za,zN,zd,zb,zM,ze,hqz,z0,z1,z2,z3⟩:=hrowd.get HLO.out;have hlz:=hrowd.lt;have HCZ:=Fi (And.intro hlz (And.intro z0 (And.intro z1 (And.intro z2 z3))));have HQZ:=Fi hqz;have HQA:=Fi qa;have HQB:=Fi qb;have HBD:=Fi hbd;clear z0 z1 z2 z3 hlz hqz qa qb hbd hrowd;refine aj (i:=0) (v:=?vv0) rfl (by kernel_rfl) (fun _ _ _ h=>h) rfl ?hy0 ?rest0;case hy0=>(intro wy;go_simp;try with_reducible rfl)
       try simp only[Act.put,Fm,Fl,Fk,Fj,Fo,Fp]
       refine aj (i:=1) (v:=?vv1) rfl (by kernel_rfl) (fun _ _ _ h=>h) rfl ?hy1 ?rest1;case hy1=>(intro wy;go_simp;try with_reducible rfl)
       try simp only[Act.put,Fm,Fl,Fk,Fj,Fo,Fp]
       refine aj (i:=2) (v:=?vv2) rfl (by kernel_rfl) (fun _ _ _ h=>h) rfl ?hy2 ?rest2;case hy2=>(intro wy;go_simp;try with_reducible rfl)
       try simp only[Act.put,Fm,Fl,Fk,Fj,Fo,Fp]
       refine aj (i:=3) (v:=?vv3) rfl (by kernel_rfl) (fun _ _ _ h=>h) rfl ?hy3 ?rest3;case hy3=>(intro wy;go_simp;try with_reducible rfl)
       try simp only[Act.put,Fm,Fl,Fk,Fj,Fo,Fp]
       refine aj (i:=4) (v:=?vv4) rfl (by kernel_rfl) (fun _ _ _ h=>h) rfl ?hy4 ?rest4;case hy4=>(intro wy;go_simp;try with_reducible rfl)
       try simp only[Act.put,Fm,Fl,Fk,Fj,Fo,Fp]
       refine aj (i:=5) (v:=?vv5) rfl (by kernel_rfl) (fun _ _ _ h=>h) rfl ?hy5 ?rest5;case hy5=>(intro wy;go_simp;try with_reducible rfl)
       try simp only[Act.put,Fm,Fl,Fk,Fj,Fo,Fp]
       refine aj (i:=6) (v:=?vv6) rfl (by kernel_rfl) (fun _ _ _ h=>h) rfl ?hy6 ?rest6;case hy6=>(intro wy;go_simp;try with_reducible rfl)
       try simp only[Act.put,Fm,Fl,Fk,Fj,Fo,Fp]
       refine aj (i:=7) (v:=?vv7) rfl (by kernel_rfl) (fun _ _ _ h=>h) rfl ?hy7 ?rest7;case hy7=>(intro wy;go_simp;try with_reducible rfl)
       try simp only[Act.put,Fm,Fl,Fk,Fj,Fo,Fp]
       refine aj (i:=8) (v:=?vv8) rfl (by kernel_rfl) (fun _ _ _ h=>h) rfl ?hy8 ?rest8;case hy8=>(intro wy;go_simp;try with_reducible rfl)
       try simp only[Act.put,Fm,Fl,Fk,Fj,Fo,Fp]
       refine az (i:=9) (v:=?vv9) rfl (by kernel_rfl) (fun _ _ _ h=>h) rfl hS ?hy9 ?rest9
       case hy9 =>
        intro wy hy;have t0:=ag hy HCZ.out.1 HCZ.out.2.1;have t1:=ag hy HCZ.out.1 HCZ.out.2.2.1;have t2:=ag hy HCZ.out.1 HCZ.out.2.2.2.1;have t3:=ag hy HCZ.out.1 HCZ.out.2.2.2.2;clear hy;go_simp;try with_reducible rfl
       try simp only[Act.put,Fm,Fl,Fk,Fj,Fo,Fp]
       refine aj (i:=10) (v:=?vv10) rfl (by kernel_rfl) (fun _ _ _ h=>h) rfl ?hy10 ?rest10;case hy10=>(intro wy;go_simp;try with_reducible rfl)
       try simp only[Act.put,Fm,Fl,Fk,Fj,Fo,Fp]
       refine aj (i:=11) (v:=?vv11) rfl (by kernel_rfl) (fun _ _ _ h=>h) rfl ?hy11 ?rest11;case hy11=>(intro wy;go_simp;try with_reducible rfl)
       try simp only[Act.put,Fm,Fl,Fk,Fj,Fo,Fp]
       refine aj (i:=12) (v:=?vv12) rfl (by kernel_rfl) (fun _ _ _ h=>h) rfl ?hy12 ?rest12;case hy12=>(intro wy;go_simp;try with_reducible rfl)
       try simp only[Act.put,Fm,Fl,Fk,Fj,Fo,Fp]
       refine az (i:=13) (v:=?vv13) rfl (by kernel_rfl) (fun _ _ _ h=>h) rfl hS ?hy13 ?rest13
       case hy13 =>
        intro wy hy;have t0:=ag hy HCA.out.1 HCA.out.2.1;have t1:=ag hy HCA.out.1 HCA.out.2.2.1;have t2:=ag hy HCA.out.1 HCA.out.2.2.2.1;have t3:=ag hy HCA.out.1 HCA.out.2.2.2.2;clear hy;go_simp;try with_reducible rfl
       try simp only[Act.put,Fm,Fl,Fk,Fj,Fo,Fp]
       refine aj (i:=14) (v:=?vv14) rfl (by kernel_rfl) (fun _ _ _ h=>h) rfl ?hy14 ?rest14;case hy14=>(intro wy;go_simp;try with_reducible rfl)
       try simp only[Act.put,Fm,Fl,Fk,Fj,Fo,Fp]
       refine aj (i:=15) (v:=?vv15) rfl (by kernel_rfl) (fun _ _ _ h=>h) rfl ?hy15 ?rest15;case hy15=>(intro wy;go_simp;try with_reducible rfl)
       try simp only[Act.put,Fm,Fl,Fk,Fj,Fo,Fp]
       refine aj (i:=16) (v:=?vv16) rfl (by kernel_rfl) (fun _ _ _ h=>h) rfl ?hy16 ?rest16;case hy16=>(intro wy;go_simp;try with_reducible rfl)
       try simp only[Act.put,Fm,Fl,Fk,Fj,Fo,Fp]
       refine az (i:=17) (v:=?vv17) rfl (by kernel_rfl) (fun _ _ _ h=>h) rfl hS ?hy17 ?rest17
       case hy17 =>
        intro wy hy;have t0:=ag hy HCB.out.1 HCB.out.2.1;have t1:=ag hy HCB.out.1 HCB.out.2.2.1;have t2:=ag hy HCB.out.1 HCB.out.2.2.2.1;have t3:=ag hy HCB.out.1 HCB.out.2.2.2.2;clear hy;go_simp;try with_reducible rfl
       try simp only[Act.put,Fm,Fl,Fk,Fj,Fo,Fp]
       refine au (i:=18) rfl (by kernel_rfl) rfl (fun K hK=>?_);go_simp;refine (Bu _ _ x y n m wd HQA.out HQB.out HSA.out HSB.out (by have:=HSZ.out;omega)).mono ?_;rintro e w5 ⟨v5,rfl,hv5,hb5⟩;obtain⟨pm,paa,pN,pd,pbb,pM,pe,rfl⟩:=hv5.forms;refine hK _ _ (fun _ _=>hb5) ?_;clear hK K;try simp only[Act.put,Fm,Fl,Fk,Fj,Fo,Fp]
       refine au (i:=19) rfl (by kernel_rfl) rfl (fun K hK=>?_);go_simp;refine (oz _ _ z (x*y) _ (n+m) w5 (HQZ.out.below hb5) hv5 HZL.out (zS HSA.out HSB.out) HSZ.out).mono ?_;rintro e w6 ⟨v6,rfl,hv6,hb6⟩;obtain⟨sm,sa,sN,sd,sb,sM,se,rfl⟩:=hv6.forms;have hB6:=hb5.trans (hb6.mono hb5.size);refine hK _ _ (fun _ _=>hB6) ?_;clear hK K;try simp only[Act.put,Fm,Fl,Fk,Fj,Fo,Fp]
       refine aj (i:=20) (v:=?vv20) rfl (by kernel_rfl) (fun _ _ _ h=>h) rfl ?hy20 ?rest20;case hy20=>(intro wy;go_simp;try with_reducible rfl)
       try simp only[Act.put,Fm,Fl,Fk,Fj,Fo,Fp]
       have hr6:=HRW.out.below hB6;obtain⟨y0,y1,y2,y3,c0,c1,c2,c3⟩:=hr6.cells hjk;have f0:=hr6.free ((j+k)*4);have f1:=hr6.free ((j+k)*4+1);have f2:=hr6.free ((j+k)*4+2);have f3:=hr6.free ((j+k)*4+3);obtain⟨hp,hpb⟩:=hr6.put hjk hv6;rw[←Ir,←HNX.out] at hp;rw[←HNX.out] at HZN;have HP:=Fi hp;have HBP:=Fi (hpb _ _ (HBD.out.trans (hB6.mono HBD.out.size)) (Fq _));clear hr6 hp hpb hB6 hb6 hb5 hS hv5 hv6 HRW HQA HQB HQZ HCA HCB HCZ;refine au (i:=21) rfl (by kernel_rfl) rfl (fun K hK=>?_);go_simp;change K _ (mB w6 w.heap.size ((j+k)*4) (.bool sm) (.slice sa sN sd) (.bool false) (.slice sb sM se));refine hK _ _ (fun h=>by cases h) ?_;clear hK K;try simp only[Act.put,Fm,Fl,Fk,Fj,Fo,Fp]
       refine aI (by kernel_rfl) ?_ _;clear c0 c1 c2 c3 f0 f1 f2 f3;go_wp2;go_roundw;case rel=>exact⟨k+1,by go_num,by omega,HP.out,HBP.out,HZN⟩
       case measure=>(first | (simp[intOf];done) | (simp[intOf];omega))
      ·obtain rfl:k=b.length:=by omega
       have HR:=Fi (show eW wr w.heap.size i ((dy a b (j+1)).map some) from hrow)
       have HZ2:=Fi (show ∀ q∈dy a b (j+1),Sz (1+(j+1)*b.length*(n+m+1)) (rt q) from by
        rw[Ga,G2];exact HZ.out)
       clear hk hkn hrow HZ;go_wp2;go_roundw;case rel=>exact⟨j+1,by go_num,by omega,HR.out,hbr,HZ2⟩
       case measure=>first | (simp[intOf];done) | (simp[intOf];omega)
    ·obtain rfl:j=a.length:=by omega
     have HO:=Fi (show d7 wr w.heap.size (.slice (some ⟨w.heap.size,0,none⟩) i i) (ck a b) from hrow.own (Fq _));clear hj hjn hrow HZ;go_wp2;refine bodyPost_ret (v:=_) (by simp[results,Tryz.results85,go_sem]) rfl ⟨_,rfl,HO.out,hbr⟩
theorem IsS.apart {w w':World}{g:Nat}{cs:Array Value}{t:TypeId} (h:w.heap[g]?=some (.cells cs t (0,0))) (hn:∀ (j:Nat) (s:ByteArray),cs[j]?≠some (Value.string s)) (hs:w.heap.size≤w'.heap.size) (ho:∀ b,b≠g→w'.heap[b]?=w.heap[b]?) {v:Value}{l:List ByteArray} (hv:IsS w v l):IsS w' v l:=by
 obtain⟨p,cap,e,h1,h2,h3⟩:=hv;refine⟨p,cap,e,h1,h2,fun hl=>?_⟩;obtain⟨b,o,e2,hlt,hc⟩:=h3 hl
 have hne:b≠g:=by
  intro e3;subst e3;have h0:=hc 0 hl 0 (.string (l[0]'(by simpa using hl))) (by simp[cellsOf]);rw[af h] at h0;exact hn _ _ h0
 refine⟨b,o,e2,Ft hlt hs,fun i hi j u hu=>?_⟩;rw[←hc i hi j u hu];simp only[World.cell?];rw[ho b hne]
theorem fG {p p':Option Addr}{n c n' c':Nat}:∀ (j:Nat) (s:ByteArray),(#[Value.slice p n c,.slice p' n' c']:Array Value)[j]?≠some (Value.string s):=by
 intro j s h;have:=Gg h;simp at this
theorem c_ {w:World}{g:Nat}{x0 y0 x y:Value}{t:TypeId} (h:w.heap[g]?=some (.cells #[x0,y0] t (0,0))) (hn:∀ (j:Nat) (s:ByteArray),(#[x0,y0]:Array Value)[j]?≠some (Value.string s)) {v:Value}{l:List ByteArray} (hv:IsS w v l) :
  IsS ((w.setCell ⟨g,0,none⟩ x).setCell ⟨g,1,none⟩ y) v l :=
 IsS.apart h hn (by simp[World.setCell]) (fun b hb=>(heap_setCell_other _ _ _ _ hb).trans (heap_setCell_other _ _ _ _ hb)) hv
def mV (r:(List ByteArray×List ByteArray)×Int) (w:World) (e:Ending) (w':World):Prop :=
 ∃ v,e=.returned (.tuple #[v,.int .i64 r.2])∧IsF w' v r.1.1 r.1.2∧Below w.heap.size w w'
structure zI (w:World) (v:Value) (a b:List Rat):Prop where
 ex:∃ p c q d,v=.agg #[.slice p a.length c,.slice q b.length d]∧jc w (.slice p a.length c) a∧jc w (.slice q b.length d) b
theorem Dj (v:Value) (a b:List Rat) (w:World) (hP:zI w v a b) (ha:∀ q∈a,okQ q) (hb:∀ q∈b,okQ q) (hla:a.length<1000000) (hlb:b.length<1000000) :
  Calls Tryz.prog 74 #[v] w (mV (iX (a.map tq) (b.map tq)) w):=by
 obtain⟨p,c,q,d,rfl,h1,h2⟩:=hP.ex;go_enter Tryz.func74,Tryz.ntmps74;go_upto_region 1 with fail
 have l1:=aY w (.cells #[.slice p a.length c,.slice q b.length d] 102);have z1:=size_alloc w (.cells #[.slice p a.length c,.slice q b.length d] 102);generalize w.alloc (.cells #[.slice p a.length c,.slice q b.length d] 102)=w1 at *
 have l2:=aY w1 (.cells #[.slice none 0 0,.slice none 0 0] 24);have M2:=l1.below.trans (l2.below.mono l1.below.size);have r2:=l2.s0;rw[z1] at r2;have s2:=(l2.below.block _ (ai l1.s0)).trans l1.s0;have HA1:=h1.below M2;have HB1:=h2.below M2;clear l1 l2 h1 h2 hP;generalize w1.alloc (.cells #[.slice none 0 0,.slice none 0 0] 24)=w2 at *
 obtain⟨LA,hLA⟩:∃ LA,LA=a.map tq:=⟨_,rfl⟩;obtain⟨LB,hLB⟩:∃ LB,LB=b.map tq:=⟨_,rfl⟩;rw[←hLA,←hLB];have HLA:=Fi hLA;have HLB:=Fi hLB;have HOA:=Fi ha;have HOB:=Fi hb;have HCL:=Fi (show LA.length<1000000000∧LB.length<1000000000 by rw[hLA,hLB,FJ,FJ];omega);clear ha hb hLA hLB
 go_cut [4] from 5 to 11 (fun s4 wx=>∃ g pA cA pB cB,s4=.pointer (some ⟨g,0,none⟩)∧wx.heap[g]?=some (.cells #[.slice pA LA.length cA,.slice pB LB.length cB] 24 (0,0))∧IsS wx (.slice pA LA.length cA) LA∧IsS wx (.slice pB LB.length cB) LB∧Below w2.heap.size w2 wx)
 case first =>
   have hBd:Below w2.heap.size w2 w2.drew:=(Below.refl _ _).drew;refine wp_mono (ay (Q:=aP _) (fun wx:World=>Below w2.drew.heap.size w2.drew wx) (fun t=>t == 8) (by kernel_rfl) ?_) (fun _ _ _ h=>aV h);have s3:=(hBd.block _ (ai s2)).trans s2;have hPA:=HA1.below hBd;have hPB:=HB1.below hBd;have HM:=Fi hBd;clear HA1 HB1 s2 M2 hBd;have hBB:Below w2.drew.heap.size w2.drew w2.drew:=Below.refl _ _;generalize w2.drew=wn at *
   have hlt:=ai s3;have HS3:=Fi s3;clear s3;refine aj (i:=0) (v:=?vv0) rfl (by kernel_rfl) (fun _ _ _ h=>h) rfl ?hy0 ?rest0;case hy0=>(intro wy;go_simp;try with_reducible rfl)
   try simp only[Act.put,Fm,Fl,Fk,Fj,Fo,Fp]
   refine az (i:=1) (v:=?vv1) rfl (by kernel_rfl) (fun _ _ _ h=>h) rfl hBB ?hy1 ?rest1
   case hy1 =>
    intro wy hy;have t0:=af ((hy.block _ hlt).trans HS3.out) 0;clear hy;go_simp;try with_reducible rfl
   try simp only[Act.put,Fm,Fl,Fk,Fj,Fo,Fp]
   refine aj (i:=3) (v:=?vv3) rfl (by kernel_rfl) (fun _ _ _ h=>h) rfl ?hy3 ?rest3;case hy3=>(intro wy;go_simp;try with_reducible rfl)
   try simp only[Act.put,Fm,Fl,Fk,Fj,Fo,Fp]
   refine az (i:=4) (v:=?vv4) rfl (by kernel_rfl) (fun _ _ _ h=>h) rfl hBB ?hy4 ?rest4
   case hy4 =>
    intro wy hy;have t0:=af ((hy.block _ hlt).trans HS3.out) 1;clear hy;go_simp;try with_reducible rfl
   try simp only[Act.put,Fm,Fl,Fk,Fj,Fo,Fp]
   clear hlt HS3;have hms:=HM.out.size;have hsz:=Fq wn.heap.size;refine gT (i:=2) (i':=7) rfl rfl (by kernel_rfl) rfl rfl (fun K hK=>?n0) (fun K hK=>?d0)
   case' n0 =>
    go_simp;refine (ni _ a wn hPA HOA.out hla).mono ?_;rintro e wn ⟨vA,rfl,hA,hb⟩;rw[←HLA.out] at hA;obtain⟨pA,cA,rfl,-,-⟩:=hA.form;replace hPB:=hPB.below hb;clear hPA;have hBn:=hBB.trans (hb.mono hsz);replace hsz:=FB hsz hb.size;clear hBB;have hBB:=hBn;clear hBn;try replace hr:=(hb.block _ (ai hr)).trans hr
    refine hK _ _ (fun _ _=>hBB) ?_;clear hK K hb;try simp only[Act.put,Fm,Fl,Fk,Fj,Fo,Fp]
    refine gT (i:=5) (i':=7) rfl rfl (by kernel_rfl) rfl rfl (fun K hK=>?n1) (fun K hK=>?d1)
    case' n1 =>
     go_simp;refine (ni _ b wn hPB HOB.out hlb).mono ?_;rintro e wn ⟨vB,rfl,hB,hb⟩;rw[←HLB.out] at hB;obtain⟨pB,cB,rfl,-,-⟩:=hB.form;replace hA:=hA.below hb;clear hPB;have hBn:=hBB.trans (hb.mono hsz);replace hsz:=FB hsz hb.size;clear hBB;have hBB:=hBn;clear hBn;try replace hr:=(hb.block _ (ai hr)).trans hr
     refine hK _ _ (fun _ _=>hBB) ?_;clear hK K hb;try simp only[Act.put,Fm,Fl,Fk,Fj,Fo,Fp]
     refine aj (i:=6) (v:=.agg #[.slice pA LA.length cA,.slice pB LB.length cB]) rfl (by kernel_rfl) (fun _ _ _ h=>h) rfl ?_ ?_
     ·(intro wy;go_simp;try with_reducible rfl)
     try simp only[Act.put,Fm,Fl,Fk,Fj,Fo,Fp]
     refine au (i:=7) rfl (by kernel_rfl) rfl (fun K hK=>?d2)
   all_goals
    go_simp;have hla7:=aY wn (.cells #[.slice none 0 0,.slice none 0 0] 24);have hlb7:=hla7.below;have hr:=hla7.s0;have hgd:=hsz;clear hla7;try replace hPA:=hPA.below hlb7
    try replace hPB:=hPB.below hlb7
    try replace hA:=hA.below hlb7
    try replace hB:=hB.below hlb7
    have hBn:=hBB.trans (hlb7.mono hsz);replace hsz:=FB hsz hlb7.size;clear hBB;have hBB:=hBn;clear hBn;try replace hr:=(hlb7.block _ (ai hr)).trans hr
    refine hK _ _ (fun _ _=>hBB) ?_;clear hK K hlb7;try simp only[Act.put,Fm,Fl,Fk,Fj,Fo,Fp]
    generalize World.alloc wn (.cells #[.slice none 0 0,.slice none 0 0] 24)=wq at *
    generalize (World.heap wn).size=g7 at *
    rename World=>wn
   case' d0 =>
    refine au (i:=2) rfl (by kernel_rfl) rfl (fun K hK=>?_);go_simp;refine (ni _ a wn hPA HOA.out hla).mono ?_;rintro e wn ⟨vA,rfl,hA,hb⟩;rw[←HLA.out] at hA;obtain⟨pA,cA,rfl,-,-⟩:=hA.form;replace hPB:=hPB.below hb;clear hPA;have hBn:=hBB.trans (hb.mono hsz);replace hsz:=FB hsz hb.size;clear hBB;have hBB:=hBn;clear hBn;try replace hr:=(hb.block _ (ai hr)).trans hr
    refine hK _ _ (fun _ _=>hBB) ?_;clear hK K hb;try simp only[Act.put,Fm,Fl,Fk,Fj,Fo,Fp]
   case' d0 | d1 =>
    refine au (i:=5) rfl (by kernel_rfl) rfl (fun K hK=>?_);go_simp;refine (ni _ b wn hPB HOB.out hlb).mono ?_;rintro e wn ⟨vB,rfl,hB,hb⟩;rw[←HLB.out] at hB;obtain⟨pB,cB,rfl,-,-⟩:=hB.form;replace hA:=hA.below hb;clear hPB;have hBn:=hBB.trans (hb.mono hsz);replace hsz:=FB hsz hb.size;clear hBB;have hBB:=hBn;clear hBn;try replace hr:=(hb.block _ (ai hr)).trans hr
    refine hK _ _ (fun _ _=>hBB) ?_;clear hK K hb;try simp only[Act.put,Fm,Fl,Fk,Fj,Fo,Fp]
    refine aj (i:=6) (v:=.agg #[.slice pA LA.length cA,.slice pB LB.length cB]) rfl (by kernel_rfl) (fun _ _ _ h=>h) rfl ?_ ?_
    ·(intro wy;go_simp;try with_reducible rfl)
    try simp only[Act.put,Fm,Fl,Fk,Fj,Fo,Fp]
   all_goals
    have hr8:=aT hr (.slice pA LA.length cA) (.slice pB LB.length cB);have f0:=av hr 0;have f1:=av hr 1;have e0:=ah hr 0;have e1:=ah hr 1;refine au (i:=8) rfl (by kernel_rfl) rfl (fun K hK=>?_);go_simp;refine hK _ _ (fun h=>by cases h) ?_;clear hK K e0 e1 f0 f1;refine aI (by kernel_rfl) ?_ _;simp only[aP];have hA8:=c_ (x:=.slice pA LA.length cA) (y:=.slice pB LB.length cB) hr fG hA;have hB8:=c_ (x:=.slice pA LA.length cA) (y:=.slice pB LB.length cB) hr fG hB;have hBP:=((HM.out.trans (hBB.mono hms)).setCell (p:=⟨g7,0,none⟩) (FB hms hgd) (.slice pA LA.length cA)).setCell (p:=⟨g7,1,none⟩) (FB hms hgd) (.slice pB LB.length cB);clear hr hA hB hBB;try go_wp2
    go_meet;exact⟨g7,pA,cA,pB,cB,rfl,hr8,hA8,hB8,hBP⟩
 case rest =>
  obtain⟨g7,pA,cA,pB,cB,rfl,hr,hA,hB,hBB⟩:=hcut;rename World=>w3;have hrr:=(hBB.block _ (ai r2)).trans r2;replace hBB:=M2.trans (hBB.mono M2.size);clear HA1 HB1 M2 s2 r2;have q0:=af hr 0;have q1:=af hr 1;go_wp2_with fail
  refine (lp _ LA w3 hA HCL.out.1).mono ?_;rintro e w4 ⟨rfl,hb4⟩;replace hBB:=hBB.trans (hb4.mono hBB.size);replace hr:=(hb4.block _ (ai hr)).trans hr;replace hrr:=(hb4.block _ (ai hrr)).trans hrr;replace hA:=hA.below hb4;replace hB:=hB.below hb4;clear hb4 q0 q1;have q0:=af hr 0;have q1:=af hr 1;obtain⟨i1,hi1⟩:∃ i1,i1=cE LA:=⟨_,rfl⟩;rw[←hi1];have HI1:=Fi hi1;clear hi1
  cases i1 with
  | false =>
   have HC1:=Fi (show (cE LA&&cE LB)=false from by rw[←HI1.out];rfl);have HE:=Fi (show iX LA LB=(([],[]),8) from by unfold iX;rw[HC1.out];rfl);rw[HLA.out,HLB.out] at HE;have k0:=ah hrr 0;have k1:=ah hrr 1;have f0:=av hrr 0;have f1:=av hrr 1;have g0:=aT hrr (.slice none 0 0) (.slice none 0 0);have x0:=ah g0 0;have x1:=ah g0 1;have HBP:=Fi ((hBB.setCell (p:=⟨w.heap.size+1,0,none⟩) (FS _) (.slice none 0 0)).setCell (p:=⟨w.heap.size+1,1,none⟩) (FS _) (.slice none 0 0));go_wp2;refine bodyPost_ret (v:=.tuple #[.agg #[.slice none 0 0,.slice none 0 0],.int .i64 8]) (by simp at x0 x1;simp[results,Tryz.results74,go_sem,x0,x1]) rfl ⟨_,by rw[HE.out],?_,HBP.out⟩;rw[HE.out];exact⟨⟨none,0,none,0,rfl,cL.nil _ _,cL.nil _ _⟩⟩
  | true =>
   go_wp2_with fail
   refine (lp _ LB w4 hB HCL.out.2).mono ?_;rintro e w5 ⟨rfl,hb5⟩;replace hBB:=hBB.trans (hb5.mono hBB.size);replace hr:=(hb5.block _ (ai hr)).trans hr;replace hrr:=(hb5.block _ (ai hrr)).trans hrr;replace hA:=hA.below hb5;replace hB:=hB.below hb5;clear hb5 q0 q1;have q0:=af hr 0;have q1:=af hr 1;obtain⟨i2,hi2⟩:∃ i2,i2=cE LB:=⟨_,rfl⟩;rw[←hi2];have HI2:=Fi hi2;clear hi2
   cases i2 with
   | false =>
    have HC1:=Fi (show (cE LA&&cE LB)=false from by rw[←HI1.out,←HI2.out];rfl);have HE:=Fi (show iX LA LB=(([],[]),8) from by unfold iX;rw[HC1.out];rfl);rw[HLA.out,HLB.out] at HE;have k0:=ah hrr 0;have k1:=ah hrr 1;have f0:=av hrr 0;have f1:=av hrr 1;have g0:=aT hrr (.slice none 0 0) (.slice none 0 0);have x0:=ah g0 0;have x1:=ah g0 1;have HBP:=Fi ((hBB.setCell (p:=⟨w.heap.size+1,0,none⟩) (FS _) (.slice none 0 0)).setCell (p:=⟨w.heap.size+1,1,none⟩) (FS _) (.slice none 0 0));go_wp2;refine bodyPost_ret (v:=.tuple #[.agg #[.slice none 0 0,.slice none 0 0],.int .i64 8]) (by simp at x0 x1;simp[results,Tryz.results74,go_sem,x0,x1]) rfl ⟨_,by rw[HE.out],?_,HBP.out⟩;rw[HE.out];exact⟨⟨none,0,none,0,rfl,cL.nil _ _,cL.nil _ _⟩⟩
   | true =>
    have HE:=Fi (show iX LA LB=((LA,LB),0) from by unfold iX;rw[←HI1.out,←HI2.out];rfl);rw[HLA.out,HLB.out] at HE;have k0:=ah hrr 0;have k1:=ah hrr 1;have f0:=av hrr 0;have f1:=av hrr 1;have g0:=aT hrr (.slice pA LA.length cA) (.slice pB LB.length cB);have x0:=ah g0 0;have x1:=ah g0 1;have HBP:=Fi ((hBB.setCell (p:=⟨w.heap.size+1,0,none⟩) (FS _) (.slice pA LA.length cA)).setCell (p:=⟨w.heap.size+1,1,none⟩) (FS _) (.slice pB LB.length cB));have HZA:=Fi (c_ (x:=.slice pA LA.length cA) (y:=.slice pB LB.length cB) hrr fG hA);have HZB:=Fi (c_ (x:=.slice pA LA.length cA) (y:=.slice pB LB.length cB) hrr fG hB);clear hA hB;go_wp2;refine bodyPost_ret (v:=.tuple #[.agg #[.slice pA LA.length cA,.slice pB LB.length cB],.int .i64 0]) (by simp at x0 x1;simp[results,Tryz.results74,go_sem,x0,x1]) rfl ⟨_,by rw[HE.out],?_,HBP.out⟩;rw[HE.out,←HLA.out,←HLB.out];exact⟨⟨pA,cA,pB,cB,rfl,HZA.out,HZB.out⟩⟩
theorem oE (v:Value) (a b:List Rat) (w:World) (hP:zI w v a b) (ha:∀ q∈a,okQ q) (hb:∀ q∈b,okQ q) (hla:a.length<1000000) (hlb:b.length<1000000) :
  Calls Tryz.prog 84 #[v] w (mV (mN (a.map tq) (b.map tq)) w):=by
 obtain⟨p,c,q,d,rfl,h1,h2⟩:=hP.ex;go_enter Tryz.func84,Tryz.ntmps84;go_upto_region 1 with fail
 have l1:=aY w (.cells #[.slice p a.length c,.slice q b.length d] 102);have z1:=size_alloc w (.cells #[.slice p a.length c,.slice q b.length d] 102);generalize w.alloc (.cells #[.slice p a.length c,.slice q b.length d] 102)=w1 at *
 have l2:=aY w1 (.cells #[.slice none 0 0,.slice none 0 0] 24);have hBB:=l1.below.trans (l2.below.mono l1.below.size);have hrr:=l2.s0;rw[z1] at hrr;have s2:=(l2.below.block _ (ai l1.s0)).trans l1.s0;have hPP:zI (w1.alloc (.cells #[.slice none 0 0,.slice none 0 0] 24)) (.agg #[.slice p a.length c,.slice q b.length d]) a b:=⟨⟨p,c,q,d,rfl,h1.below hBB,h2.below hBB⟩⟩;have q0:=ah s2 0;have q1:=ah s2 1;generalize w1.alloc (.cells #[.slice none 0 0,.slice none 0 0] 24)=w2 at *
 have HM:=Fi (Dj _ a b w2 hPP ha hb hla hlb);have HLL:=Fi (show mN (a.map tq) (b.map tq)=if 7<a.length∨7<b.length then (([],[]),3) else iX (a.map tq) (b.map tq) from by unfold mN;rw[FJ,FJ]);clear l1 l2 h1 h2 hP ha hb hPP s2 z1;by_cases h7:7<a.length
 ·have hd:decide ((7:Int)<(a.length:Int))=true:=decide_eq_true (by omega);have HE:=Fi (show mN (a.map tq) (b.map tq)=(([],[]),3) from by rw[HLL.out,if_pos (Or.inl h7)]);clear HM HLL h7;have k0:=ah hrr 0;have k1:=ah hrr 1;have f0:=av hrr 0;have f1:=av hrr 1;have g0:=aT hrr (.slice none 0 0) (.slice none 0 0);have x0:=ah g0 0;have x1:=ah g0 1;have HBP:=Fi ((hBB.setCell (p:=⟨w.heap.size+1,0,none⟩) (by show w.heap.size≤w.heap.size+1;omega) (.slice none 0 0)).setCell (p:=⟨w.heap.size+1,1,none⟩) (by show w.heap.size≤w.heap.size+1;omega) (.slice none 0 0));go_wp2;refine bodyPost_ret (v:=.tuple #[.agg #[.slice none 0 0,.slice none 0 0],.int .i64 3]) (by simp at x0 x1;simp[results,Tryz.results84,go_sem,x0,x1]) rfl ⟨_,by rw[HE.out],?_,HBP.out⟩;rw[HE.out];exact⟨⟨none,0,none,0,rfl,cL.nil _ _,cL.nil _ _⟩⟩
 ·have hd:decide ((7:Int)<(a.length:Int))=false:=decide_eq_false (by omega);by_cases h8:7<b.length
  ·have hd2:decide ((7:Int)<(b.length:Int))=true:=decide_eq_true (by omega);have HE:=Fi (show mN (a.map tq) (b.map tq)=(([],[]),3) from by rw[HLL.out,if_pos (Or.inr h8)]);clear HM HLL h7 h8;have k0:=ah hrr 0;have k1:=ah hrr 1;have f0:=av hrr 0;have f1:=av hrr 1;have g0:=aT hrr (.slice none 0 0) (.slice none 0 0);have x0:=ah g0 0;have x1:=ah g0 1;have HBP:=Fi ((hBB.setCell (p:=⟨w.heap.size+1,0,none⟩) (by show w.heap.size≤w.heap.size+1;omega) (.slice none 0 0)).setCell (p:=⟨w.heap.size+1,1,none⟩) (by show w.heap.size≤w.heap.size+1;omega) (.slice none 0 0));go_wp2;refine bodyPost_ret (v:=.tuple #[.agg #[.slice none 0 0,.slice none 0 0],.int .i64 3]) (by simp at x0 x1;simp[results,Tryz.results84,go_sem,x0,x1]) rfl ⟨_,by rw[HE.out],?_,HBP.out⟩;rw[HE.out];exact⟨⟨none,0,none,0,rfl,cL.nil _ _,cL.nil _ _⟩⟩
  ·have hd2:decide ((7:Int)<(b.length:Int))=false:=decide_eq_false (by omega);have HE:=Fi (show mN (a.map tq) (b.map tq)=iX (a.map tq) (b.map tq) from by rw[HLL.out,if_neg (by omega)]);obtain⟨R0,hR0⟩:∃ R0,R0=iX (a.map tq) (b.map tq):=⟨_,rfl⟩;rw[←hR0] at HE HM;clear HLL h7 h8 hR0;go_wp2_with fail
   refine HM.out.mono ?_;rintro e w3 ⟨v,rfl,hF,hb9⟩;obtain⟨r,hr⟩:∃ r,r=R0:=⟨_,rfl⟩;rw[←hr] at hF ⊢;obtain⟨⟨L1,L2⟩,er⟩:=r;have HR:=Fi hr;clear hr;simp only at hF ⊢;obtain⟨p1,c1,p2,c2,rfl,g1,g2⟩:=hF.ex;replace hrr:=(hb9.block _ (ai hrr)).trans hrr;replace hBB:=hBB.trans (hb9.mono hBB.size);clear hF hb9;have k0:=ah hrr 0;have k1:=ah hrr 1;have f0:=av hrr 0;have f1:=av hrr 1;have g0:=aT hrr (.slice p1 L1.length c1) (.slice p2 L2.length c2);have x0:=ah g0 0;have x1:=ah g0 1;have HBP:=Fi ((hBB.setCell (p:=⟨w.heap.size+1,0,none⟩) (by show w.heap.size≤w.heap.size+1;omega) (.slice p1 L1.length c1)).setCell (p:=⟨w.heap.size+1,1,none⟩) (by show w.heap.size≤w.heap.size+1;omega) (.slice p2 L2.length c2));have HZA:=Fi (c_ (x:=.slice p1 L1.length c1) (y:=.slice p2 L2.length c2) hrr fG g1);have HZB:=Fi (c_ (x:=.slice p1 L1.length c1) (y:=.slice p2 L2.length c2) hrr fG g2);clear g1 g2;go_wp2;refine bodyPost_ret (v:=.tuple #[.agg #[.slice p1 L1.length c1,.slice p2 L2.length c2],.int .i64 er]) (by simp at x0 x1;simp[results,Tryz.results84,go_sem,x0,x1]) rfl ⟨_,by rw[HE.out,←HR.out],?_,HBP.out⟩;rw[HE.out,←HR.out];exact⟨⟨p1,c1,p2,c2,rfl,HZA.out,HZB.out⟩⟩
end Go.Proofs.YtbnkpcfjechfiaaGreatDoor
