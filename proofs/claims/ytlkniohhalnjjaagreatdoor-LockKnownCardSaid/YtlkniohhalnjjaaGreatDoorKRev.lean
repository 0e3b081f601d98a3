/- Lemmas of this claim. -/
import Derived.Test.YtlkniohhalnjjaaGreatDoorKMach
import Derived.Test.YtlkniohhalnjjaaGreatDoorKMade3
set_option linter.all false
set_option maxRecDepth 100000
set_option maxHeartbeats 8000000
namespace Go.Proofs.YtlkniohhalnjjaaGreatDoor
open Go.RowKit Dc Dg
def cD (v:Ev):List Value:=[.int .i64 v.g,.int .i64 v.k]
def EvR (n:Nat) (w:World) (v:Value) (l:List Ev):Prop:=w.ownsRow n 31 2 v l.length (l.flatMap cD)
theorem nR:∀ (L:List Ev) (i:Nat) (h:i<L.length),(L.flatMap cD)[i*2]?=some (.int .i64 L[i].g)∧(L.flatMap cD)[i*2+1]?=some (.int .i64 L[i].k)
 | [],i,h=>by simp at h
 | x :: L,0,h=>by simp[cD]
 | x :: L,i+1,h=>by
  have:=nR L i (by simpa using h)
  rw[u5,show (i+1)*2=(i*2)+1+1 from by omega]
  simpa[cD] using this
theorem qp:∀ (L:List Ev) (i:Nat) (x:Ev),i<L.length→((L.flatMap cD).set (i*2) (.int .i64 x.g)).set (i*2+1) (.int .i64 x.k)=(L.set i x).flatMap cD
 | [],i,_,h=>by simp at h
 | y :: L,0,x,h=>by simp[cD]
 | y :: L,i+1,x,h=>by
  have:=qp L i x (by simpa using h)
  rw[u5,show (i+1)*2=(i*2)+1+1 from by omega,ul,u5,←this]
  simp[cD]
theorem qr (L:List Ev):(L.flatMap cD).length=L.length*2:=by
 induction L with
 | nil=>rfl
 | cons x L ih=>rw[u5,uF,ih];simp[cD];omega
def evW (w:World) (g i:Nat) (x:Ev):World:=(w.setCell ⟨g,i*2,none⟩ (.int .i64 x.g)).setCell ⟨g,i*2+1,none⟩ (.int .i64 x.k)
theorem EvR.set {n:Nat}{w:World}{g cap len:Nat}{l:List Ev} (h:EvR n w (.slice (some ⟨g,0,none⟩) len cap) l) {i:Nat} (hi:i<l.length) (x:Ev):EvR n (evW w g i x) (.slice (some ⟨g,0,none⟩) len cap) (l.set i x):=by
 have hl:len=l.length:=by
  rcases h.2 with ⟨e,_⟩ | ⟨g',cap',cur,e,_⟩
  ·cases e
  ·simp only[Value.slice.injEq] at e;omega
 refine⟨by rw[qr,vD],?_⟩
 rcases h.2 with ⟨e,_⟩ | ⟨g',cap',cur,e,hb,hg,hnc,hcm,hcs,htk⟩
 ·cases e
 ·simp only[Value.slice.injEq,Option.some.injEq,Addr.mk.injEq,and_true] at e
  obtain⟨rfl,-,rfl⟩:=e
  have h1:(w.setCell ⟨g,i*2,none⟩ (.int .i64 x.g)).heap[g]?=some (.cells (cur.setIfInBounds (i*2) (.int .i64 x.g)) 31 (0,0)):=heap_setCell_same w g (i*2) cur _ _ hg
  have h2:(evW w g i x).heap[g]?=some (.cells ((cur.setIfInBounds (i*2) (.int .i64 x.g)).setIfInBounds (i*2+1) (.int .i64 x.k)) 31 (0,0)):=heap_setCell_same _ g (i*2+1) _ _ _ h1
  refine Or.inr ⟨g,cap,_,by rw[vD,←hl],hb,h2,by rw[vD];exact hnc,hcm,by simpa using hcs,?_⟩
  rw[wN,wN,vD,List.take_set,List.take_set,htk,qp l i x hi]
theorem EvR.cell {n:Nat}{w:World}{g cap len:Nat}{l:List Ev} (h:EvR n w (.slice (some ⟨g,0,none⟩) len cap) l) {i:Nat} (hi:i<l.length):w.cell? ⟨g,i*2,none⟩=some (.int .i64 l[i].g)∧w.cell? ⟨g,i*2+1,none⟩=some (.int .i64 l[i].k):=by
 obtain⟨f1,f2⟩:=nR l i hi
 have c1:=World.ownsRow.cells h (g:=g) rfl _ _ f1
 have c2:=World.ownsRow.cells h (g:=g) rfl _ _ f2
 rw[cC,vh] at c1 c2
 exact⟨c1,c2⟩
theorem EvR.fr {n:Nat}{w:World}{g cap len:Nat}{l:List Ev} (h:EvR n w (.slice (some ⟨g,0,none⟩) len cap) l) (j:Nat):w.frozen? ⟨g,j,none⟩=false:=by
 rcases h.2 with ⟨e,_⟩ | ⟨g',cap',cur,e,hb,hg,_⟩
 ·cases e
 ·simp only[Value.slice.injEq,Option.some.injEq,Addr.mk.injEq,and_true] at e
  obtain⟨rfl,-,rfl⟩:=e
  rw[World.frozen?,hg];simp
theorem EvR.below {n:Nat}{w w':World}{v:Value}{l:List Ev} (h:EvR n w v l) (hb:Below w.heap.size w w'):EvR n w' v l:=bc h (fun k hk=>hb.block k (ap h hk).2.1)
theorem oJ {w:World}{g i k:Nat}{x:Ev} (h:k≠g):(evW w g i x).heap[k]?=w.heap[k]?:=by
 unfold evW
 rw[Below.heap_setCell _ _ _ _ h,Below.heap_setCell _ _ _ _ h]
theorem j5 {w:World}{g i:Nat}{x:Ev}:w.grownBy (evW w g i x) (some g):=⟨rfl,rfl,rfl,by simp[evW,World.setCell],fun k _ hk=>oJ (fun e=>hk (by rw[e]))⟩
structure cS (l m:List Ev) (i:Nat):Prop where
 len:m.length=l.length
 at_:∀ t (h:t<l.length) (h':t<m.length),m[t]=if t<i∨l.length≤t+i then l[l.length-1-t]'(by omega) else l[t]
theorem cS.start (l:List Ev):cS l l 0:=⟨rfl,fun t h _=>by rw[if_neg (by omega)]⟩
theorem cS.step {l m:List Ev}{i:Nat} (h:cS l m i) (hi:2*i+1<l.length) (hi1:i<m.length) (hj1:l.length-1-i<m.length):cS l ((m.set i m[l.length-1-i]).set (l.length-1-i) m[i]) (i+1):=by
 have hl:=h.len
 refine⟨by simp[hl],fun t ht ht'=>?_⟩
 rw[List.getElem_set,List.getElem_set]
 by_cases h1:l.length-1-i=t
 ·rw[if_pos h1,if_pos (by omega),h.at_ i (by omega) hi1,if_neg (by omega)]
  congr 1
  omega
 ·rw[if_neg h1]
  by_cases h2:i=t
  ·subst h2
   rw[if_pos rfl,if_pos (by omega),h.at_ _ (by omega) hj1,if_neg (by omega)]
  ·rw[if_neg h2,h.at_ t ht (by omega)]
   by_cases h3:t<i∨l.length≤t+i
   ·rw[if_pos h3,if_pos (by omega)]
   ·rw[if_neg h3,if_neg (by omega)]
theorem cS.done {l m:List Ev}{i:Nat} (h:cS l m i) (hi:l.length≤2*i+1):m=l.reverse:=by
 refine List.ext_getElem (by simp[h.len]) (fun t h1 h2=>?_)
 have hl:=h.len
 rw[List.getElem_reverse,h.at_ t (by omega) h1]
 split
 ·rfl
 ·congr 1;omega
theorem re (v:Value) (l:List Ev) (n:Nat) (w:World) (h:EvR n w v l) (hl:l.length≤1000000000) :
  Calls Tryz.prog 45 #[v] w (fun e w'=>e=.returned (.tuple #[])∧EvR n w' v l.reverse∧w.grownBy w' v.ownBlock):=by
 rcases h.2 with ⟨rfl,hn⟩ | ⟨g,cap,cur,rfl,-⟩
 ·obtain rfl:l=[]:=uQ hn
  go_enter Tryz.func45,Tryz.ntmps45
  go_wp2_with fail
  go_loopw [2,3] (fun s2 s3 wr=>s2=.int .i64 0∧s3=.int .i64 (-1)∧wr=w) (fun _ _ _=>0)
  case atStart=>exact⟨by rfl,by rfl,rfl⟩
  case round =>
   obtain⟨rfl,rfl,rfl⟩:=hrel
   go_wp2
   go_end0
   exact⟨by rfl,h,⟨rfl,rfl,rfl,uo _,fun _ _ _=>rfl⟩⟩
 ·go_enter Tryz.func45,Tryz.ntmps45
  go_wp2_with fail
  go_loopw [2,3] (fun s2 s3 wr=>∃ (i:Nat) (m:List Ev) (j:Int),s2=.int .i64 i∧s3=.int .i64 j∧j=(l.length:Int)-1-i∧i≤l.length∧EvR n wr (.slice (some ⟨g,0,none⟩) l.length cap) m∧cS l m i∧w.grownBy wr (some g)) (fun s2 _ _=>l.length-(intOf s2).toNat)
  case atStart=>exact⟨0,l,_,rfl,rfl,by simp,by omega,h,cS.start l,⟨rfl,rfl,rfl,uo _,fun _ _ _=>rfl⟩⟩
  case round =>
   clear h
   obtain⟨i,m,j,rfl,rfl,hj,hi,hE,hT,hg⟩:=hrel
   have hml:=hT.len
   by_cases hil:2*i+1<l.length
   ·obtain⟨jn,hjn⟩:∃ jn:Nat,jn=l.length-1-i:=⟨_,rfl⟩
    obtain rfl:j=(jn:Int):=by omega
    clear hj
    have him:i<m.length:=by omega
    have hjm:jn<m.length:=by omega
    obtain⟨x,hx⟩:∃ x,x=m[i]:=⟨_,rfl⟩
    obtain⟨y,hy⟩:∃ y,y=m[jn]:=⟨_,rfl⟩
    obtain⟨i0,i1⟩:=hE.cell him
    obtain⟨j0,j1⟩:=hE.cell hjm
    rw[←hx] at i0 i1
    rw[←hy] at j0 j1
    have hij:(i:Int)<(jn:Int):=by omega
    have hjI:(jn:Int)<((l.length:Nat):Int):=by omega
    have hiI:(i:Int)<((l.length:Nat):Int):=by omega
    have HT:=uk (show cS l ((m.set i y).set jn x) (i+1) by rw[hx,hy];subst hjn;exact hT.step hil him (by omega))
    have hE1:=hE.set him y
    have hE2:=hE1.set (i:=jn) (by simpa using hjm) x
    have HE2:=uk hE2
    have HG:=uk (show w.grownBy (evW (evW wr g i y) g jn x) (some g) from (hg.trans j5).trans j5)
    have HF1:=uk hE
    have HF2:=uk hE1
    have HJN:=uk hjn
    clear hE hE1 hE2 hT hx hy hg hml hjn
    go_wp2_with fail
    have hS:(fun wy:World=>wy.cell? ⟨g,i*2,none⟩=some (.int .i64 x.g)∧wy.cell? ⟨g,i*2+1,none⟩=some (.int .i64 x.k)∧wy.cell? ⟨g,jn*2,none⟩=some (.int .i64 y.g)∧wy.cell? ⟨g,jn*2+1,none⟩=some (.int .i64 y.k)) wr.drew:=⟨i0,i1,j0,j1⟩
    refine ax (fun wy:World=>wy.cell? ⟨g,i*2,none⟩=some (.int .i64 x.g)∧wy.cell? ⟨g,i*2+1,none⟩=some (.int .i64 x.k)∧wy.cell? ⟨g,jn*2,none⟩=some (.int .i64 y.g)∧wy.cell? ⟨g,jn*2+1,none⟩=some (.int .i64 y.k)) (fun i=>Nat.beq i 13||Nat.beq i 15) (by kernel_rfl) ?_
    refine ae (i:=0) (v:=?vv1) rfl (by kernel_rfl) (fun _ _ _ h=>h) rfl ?hy1 ?rest1
    case hy1=>(intro wy;go_simp;try with_reducible rfl)
    try simp only[Act.put,uj,um,ul]
    refine ae (i:=1) (v:=?vv2) rfl (by kernel_rfl) (fun _ _ _ h=>h) rfl ?hy2 ?rest2
    case hy2=>(intro wy;go_simp;try with_reducible rfl)
    try simp only[Act.put,uj,um,ul]
    refine ae (i:=2) (v:=?vv3) rfl (by kernel_rfl) (fun _ _ _ h=>h) rfl ?hy3 ?rest3
    case hy3=>(intro wy;go_simp;try with_reducible rfl)
    try simp only[Act.put,uj,um,ul]
    refine ae (i:=3) (v:=?vv4) rfl (by kernel_rfl) (fun _ _ _ h=>h) rfl ?hy4 ?rest4
    case hy4=>(intro wy;go_simp;try with_reducible rfl)
    try simp only[Act.put,uj,um,ul]
    refine ae (i:=4) (v:=?vv5) rfl (by kernel_rfl) (fun _ _ _ h=>h) rfl ?hy5 ?rest5
    case hy5=>(intro wy;go_simp;try with_reducible rfl)
    try simp only[Act.put,uj,um,ul]
    refine ae (i:=5) (v:=?vv6) rfl (by kernel_rfl) (fun _ _ _ h=>h) rfl ?hy6 ?rest6
    case hy6=>(intro wy;go_simp;try with_reducible rfl)
    try simp only[Act.put,uj,um,ul]
    refine ae (i:=6) (v:=?vv7) rfl (by kernel_rfl) (fun _ _ _ h=>h) rfl ?hy7 ?rest7
    case hy7=>(intro wy;go_simp;try with_reducible rfl)
    try simp only[Act.put,uj,um,ul]
    refine ak (i:=7) (v:=?vv8) rfl (by kernel_rfl) (fun _ _ _ h=>h) rfl hS ?hy8 ?rest8
    case hy8=>(intro wy hy;(try dsimp only at hy);go_simp;try with_reducible rfl)
    try simp only[Act.put,uj,um,ul]
    refine ae (i:=8) (v:=?vv9) rfl (by kernel_rfl) (fun _ _ _ h=>h) rfl ?hy9 ?rest9
    case hy9=>(intro wy;go_simp;try with_reducible rfl)
    try simp only[Act.put,uj,um,ul]
    refine ae (i:=9) (v:=?vv10) rfl (by kernel_rfl) (fun _ _ _ h=>h) rfl ?hy10 ?rest10
    case hy10=>(intro wy;go_simp;try with_reducible rfl)
    try simp only[Act.put,uj,um,ul]
    refine ae (i:=10) (v:=?vv11) rfl (by kernel_rfl) (fun _ _ _ h=>h) rfl ?hy11 ?rest11
    case hy11=>(intro wy;go_simp;try with_reducible rfl)
    try simp only[Act.put,uj,um,ul]
    refine ak (i:=11) (v:=?vv12) rfl (by kernel_rfl) (fun _ _ _ h=>h) rfl hS ?hy12 ?rest12
    case hy12=>(intro wy hy;(try dsimp only at hy);go_simp;try with_reducible rfl)
    try simp only[Act.put,uj,um,ul]
    refine ae (i:=12) (v:=?vv13) rfl (by kernel_rfl) (fun _ _ _ h=>h) rfl ?hy13 ?rest13
    case hy13=>(intro wy;go_simp;try with_reducible rfl)
    try simp only[Act.put,uj,um,ul]
    have f1:=HF1.out.fr (i*2)
    have f2:=HF1.out.fr (i*2+1)
    refine an (i:=13) rfl (by kernel_rfl) rfl (fun K hK=>?_)
    go_simp
    change K _ (evW wr.drew g i y)
    refine hK _ _ (fun h=>by cases h) ?_
    clear hK K hS f1 f2
    try simp only[Act.put,uj,um,ul]
    have E2:EvR n (evW wr.drew g i y) (.slice (some ⟨g,0,none⟩) l.length cap) (m.set i y):=HF2.out
    generalize hw2:evW wr.drew g i y=w2 at E2 ⊢
    refine ae (i:=14) (v:=?vv14) rfl (by kernel_rfl) (fun _ _ _ h=>h) rfl ?hy14 ?rest14
    case hy14=>(intro wy;go_simp;try with_reducible rfl)
    try simp only[Act.put,uj,um,ul]
    obtain⟨k0,k1⟩:=E2.cell (i:=jn) (by simpa using hjm)
    have f1:=E2.fr (jn*2)
    have f2:=E2.fr (jn*2+1)
    refine an (i:=15) rfl (by kernel_rfl) rfl (fun K hK=>?_)
    go_simp
    change K _ (evW w2 g jn x)
    refine hK _ _ (fun h=>by cases h) ?_
    clear hK K k0 k1 f1 f2
    refine aW (by kernel_rfl) ?_ _
    have E3:EvR n (evW w2 g jn x) (.slice (some ⟨g,0,none⟩) l.length cap) ((m.set i y).set jn x):=by rw[←hw2];exact HE2.out
    have G3:w.grownBy (evW w2 g jn x) (some g):=by rw[←hw2];exact⟨HG.out.os,HG.out.tape,HG.out.output,HG.out.size,HG.out.block⟩
    clear hw2 E2
    generalize evW w2 g jn x=w3 at E3 G3 ⊢
    go_wp2
    go_roundw
    case rel=>exact⟨i+1,_,_,by go_num,rfl,by have:=HJN.out;omega,by omega,E3,HT.out,G3⟩
    case measure=>simp[intOf];omega
   ·obtain⟨-⟩:True:=trivial
    have HR:=uk (hT.done (by omega))
    have hdl:decide ((i:Int)<j)=false:=by simp;omega
    have hnl:¬ (i:Int)<j:=by omega
    go_wp2
    go_end0
    exact⟨by rfl,by rw[←HR.out];exact hE,hg⟩
def fD (s:av):Array Value:=#[Value.int .i64 s.src.a0,Value.int .i64 s.src.a1,Value.int .i64 s.src.a2,Value.int .i64 s.src.f0,Value.int .i64 s.src.f1,Value.int .i64 s.src.f2,Value.int .i64 s.ev.g,Value.int .i64 s.ev.k,.bool s.first]
def av.val (s:av):Value:=.agg (fD s)
def gA (R:List (St×av)) (x:St):Option Value:=(Tab.get R x).map av.val
def fM (w:World) (mt N s:Nat) (R:List (St×av)):Prop:=bj Tryz.prog 71 St.val St.Small w mt N s (gA R)
theorem jA:Tryz.prog.underlying 81=some (.map 71 121):=by kernel_rfl
theorem mA (w:World):(zeroValue 121).run Tryz.prog w=.ok (.agg #[.int .i64 0,.int .i64 0,.int .i64 0,.int .i64 0,.int .i64 0,.int .i64 0,.int .i64 0,.int .i64 0,.bool false]) w:=by kernel_rfl
theorem jF {w:World}{ops:Array Oper}{rest:List Oper}{o:Oper}{a:Act}{Q:Exit→Act→World→Prop} (hg:o.guard=none) (m x:Operand) (hop:o.op=Op.lookup 81 m x false) (mt N n:Nat) (R:List (St×av))
  (hm:a.eval m=.map (some mt)) (hT:fM w mt N n R) (k:St) (hk:k.Small) (s:av) (hs:Tab.get R k=some s) (hx:a.eval x=.agg #[.int .i64 k.a0,.int .i64 k.a1,.int .i64 k.a2,.int .i64 k.f0,.int .i64 k.f1,.int .i64 k.f2])
  (hK:wpList Tryz.prog ops Q rest (a.put o.dst (.agg #[Value.int .i64 s.src.a0,Value.int .i64 s.src.a1,Value.int .i64 s.src.a2,Value.int .i64 s.src.f0,Value.int .i64 s.src.f1,Value.int .i64 s.src.f2,Value.int .i64 s.ev.g,Value.int .i64 s.ev.k,.bool s.first])) w):wpList Tryz.prog ops Q (o :: rest) a w:=by
 refine mz w hg m x _ hop 71 121 mt N n (gA R) qm jA _ (mA w) hm hT k hk hx ?_
 have e:gA R k=some s.val:=by unfold gA;rw[hs];rfl
 rw[e]
 exact hK
def dU (w:World) (b:Nat) (s:av):Prop:=w.heap[b]?=some (.cells #[Value.int .i64 s.src.a0,Value.int .i64 s.src.a1,Value.int .i64 s.src.a2,Value.int .i64 s.src.f0,Value.int .i64 s.src.f1,Value.int .i64 s.src.f2,Value.int .i64 s.ev.g,Value.int .i64 s.ev.k,.bool s.first] 121 (0,0))
theorem dU.lt {w:World}{b:Nat}{s:av} (h:dU w b s):b<w.heap.size:=(uw.1 h).1
theorem dU.fr {w:World}{b:Nat}{s:av} (h:dU w b s) (j:Nat):w.frozen? ⟨b,j,none⟩=false:=by
 rw[World.frozen?,h];simp
def eB (w:World) (b:Nat) (s:av):World:=(((((((((w.setCell ⟨b,0,none⟩ (.int .i64 s.src.a0)).setCell ⟨b,1,none⟩ (.int .i64 s.src.a1)).setCell ⟨b,2,none⟩ (.int .i64 s.src.a2)).setCell ⟨b,3,none⟩ (.int .i64 s.src.f0)).setCell ⟨b,4,none⟩ (.int .i64 s.src.f1)).setCell ⟨b,5,none⟩ (.int .i64 s.src.f2)).setCell ⟨b,6,none⟩ (.int .i64 s.ev.g)).setCell ⟨b,7,none⟩ (.int .i64 s.ev.k)).setCell ⟨b,8,none⟩ (.bool s.first))
theorem dU.put {w:World}{b:Nat}{x:av} (h:dU w b x) (s:av):dU (eB w b s) b s:=by
 have h1:((w.setCell ⟨b,0,none⟩ (.int .i64 s.src.a0))).heap[b]?=some (.cells #[(.int .i64 s.src.a0),(.int .i64 x.src.a1),(.int .i64 x.src.a2),(.int .i64 x.src.f0),(.int .i64 x.src.f1),(.int .i64 x.src.f2),(.int .i64 x.ev.g),(.int .i64 x.ev.k),(.bool x.first)] 121 (0,0)):=by rw[heap_setCell_same _ b 0 _ _ _ h];rfl
 have h2:(((w.setCell ⟨b,0,none⟩ (.int .i64 s.src.a0)).setCell ⟨b,1,none⟩ (.int .i64 s.src.a1))).heap[b]?=some (.cells #[(.int .i64 s.src.a0),(.int .i64 s.src.a1),(.int .i64 x.src.a2),(.int .i64 x.src.f0),(.int .i64 x.src.f1),(.int .i64 x.src.f2),(.int .i64 x.ev.g),(.int .i64 x.ev.k),(.bool x.first)] 121 (0,0)):=by rw[heap_setCell_same _ b 1 _ _ _ h1];rfl
 have h3:((((w.setCell ⟨b,0,none⟩ (.int .i64 s.src.a0)).setCell ⟨b,1,none⟩ (.int .i64 s.src.a1)).setCell ⟨b,2,none⟩ (.int .i64 s.src.a2))).heap[b]?=some (.cells #[(.int .i64 s.src.a0),(.int .i64 s.src.a1),(.int .i64 s.src.a2),(.int .i64 x.src.f0),(.int .i64 x.src.f1),(.int .i64 x.src.f2),(.int .i64 x.ev.g),(.int .i64 x.ev.k),(.bool x.first)] 121 (0,0)):=by rw[heap_setCell_same _ b 2 _ _ _ h2];rfl
 have h4:(((((w.setCell ⟨b,0,none⟩ (.int .i64 s.src.a0)).setCell ⟨b,1,none⟩ (.int .i64 s.src.a1)).setCell ⟨b,2,none⟩ (.int .i64 s.src.a2)).setCell ⟨b,3,none⟩ (.int .i64 s.src.f0))).heap[b]?=some (.cells #[(.int .i64 s.src.a0),(.int .i64 s.src.a1),(.int .i64 s.src.a2),(.int .i64 s.src.f0),(.int .i64 x.src.f1),(.int .i64 x.src.f2),(.int .i64 x.ev.g),(.int .i64 x.ev.k),(.bool x.first)] 121 (0,0)):=by rw[heap_setCell_same _ b 3 _ _ _ h3];rfl
 have h5:((((((w.setCell ⟨b,0,none⟩ (.int .i64 s.src.a0)).setCell ⟨b,1,none⟩ (.int .i64 s.src.a1)).setCell ⟨b,2,none⟩ (.int .i64 s.src.a2)).setCell ⟨b,3,none⟩ (.int .i64 s.src.f0)).setCell ⟨b,4,none⟩ (.int .i64 s.src.f1))).heap[b]?=some (.cells #[(.int .i64 s.src.a0),(.int .i64 s.src.a1),(.int .i64 s.src.a2),(.int .i64 s.src.f0),(.int .i64 s.src.f1),(.int .i64 x.src.f2),(.int .i64 x.ev.g),(.int .i64 x.ev.k),(.bool x.first)] 121 (0,0)):=by rw[heap_setCell_same _ b 4 _ _ _ h4];rfl
 have h6:(((((((w.setCell ⟨b,0,none⟩ (.int .i64 s.src.a0)).setCell ⟨b,1,none⟩ (.int .i64 s.src.a1)).setCell ⟨b,2,none⟩ (.int .i64 s.src.a2)).setCell ⟨b,3,none⟩ (.int .i64 s.src.f0)).setCell ⟨b,4,none⟩ (.int .i64 s.src.f1)).setCell ⟨b,5,none⟩ (.int .i64 s.src.f2))).heap[b]?=some (.cells #[(.int .i64 s.src.a0),(.int .i64 s.src.a1),(.int .i64 s.src.a2),(.int .i64 s.src.f0),(.int .i64 s.src.f1),(.int .i64 s.src.f2),(.int .i64 x.ev.g),(.int .i64 x.ev.k),(.bool x.first)] 121 (0,0)):=by rw[heap_setCell_same _ b 5 _ _ _ h5];rfl
 have h7:((((((((w.setCell ⟨b,0,none⟩ (.int .i64 s.src.a0)).setCell ⟨b,1,none⟩ (.int .i64 s.src.a1)).setCell ⟨b,2,none⟩ (.int .i64 s.src.a2)).setCell ⟨b,3,none⟩ (.int .i64 s.src.f0)).setCell ⟨b,4,none⟩ (.int .i64 s.src.f1)).setCell ⟨b,5,none⟩ (.int .i64 s.src.f2)).setCell ⟨b,6,none⟩ (.int .i64 s.ev.g))).heap[b]?=some (.cells #[(.int .i64 s.src.a0),(.int .i64 s.src.a1),(.int .i64 s.src.a2),(.int .i64 s.src.f0),(.int .i64 s.src.f1),(.int .i64 s.src.f2),(.int .i64 s.ev.g),(.int .i64 x.ev.k),(.bool x.first)] 121 (0,0)):=by rw[heap_setCell_same _ b 6 _ _ _ h6];rfl
 have h8:(((((((((w.setCell ⟨b,0,none⟩ (.int .i64 s.src.a0)).setCell ⟨b,1,none⟩ (.int .i64 s.src.a1)).setCell ⟨b,2,none⟩ (.int .i64 s.src.a2)).setCell ⟨b,3,none⟩ (.int .i64 s.src.f0)).setCell ⟨b,4,none⟩ (.int .i64 s.src.f1)).setCell ⟨b,5,none⟩ (.int .i64 s.src.f2)).setCell ⟨b,6,none⟩ (.int .i64 s.ev.g)).setCell ⟨b,7,none⟩ (.int .i64 s.ev.k))).heap[b]?=some (.cells #[(.int .i64 s.src.a0),(.int .i64 s.src.a1),(.int .i64 s.src.a2),(.int .i64 s.src.f0),(.int .i64 s.src.f1),(.int .i64 s.src.f2),(.int .i64 s.ev.g),(.int .i64 s.ev.k),(.bool x.first)] 121 (0,0)):=by rw[heap_setCell_same _ b 7 _ _ _ h7];rfl
 unfold eB dU;rw[heap_setCell_same _ b 8 _ _ _ h8];rfl
theorem jN {w:World}{n b:Nat}{s:av} (hb:n≤b):Below n w (eB w b s):=by
 unfold eB
 exact ((((((((((Below.refl n w).setCell (p:=⟨b,0,none⟩) hb _).setCell (p:=⟨b,1,none⟩) hb _).setCell (p:=⟨b,2,none⟩) hb _).setCell (p:=⟨b,3,none⟩) hb _).setCell (p:=⟨b,4,none⟩) hb _).setCell (p:=⟨b,5,none⟩) hb _).setCell (p:=⟨b,6,none⟩) hb _).setCell (p:=⟨b,7,none⟩) hb _).setCell (p:=⟨b,8,none⟩) hb _)
theorem jO {w:World}{b i:Nat}{s:av} (h:i≠b):(eB w b s).heap[i]?=w.heap[i]?:=by
 unfold eB
 rw[Below.heap_setCell _ _ _ _ h,Below.heap_setCell _ _ _ _ h,Below.heap_setCell _ _ _ _ h,Below.heap_setCell _ _ _ _ h,Below.heap_setCell _ _ _ _ h,Below.heap_setCell _ _ _ _ h,Below.heap_setCell _ _ _ _ h,Below.heap_setCell _ _ _ _ h,Below.heap_setCell _ _ _ _ h]
theorem tV:(Tryz.prog.info? 31).map (fun i=>(i.zero,i.size,i.bytes))=some (some (.agg #[.int .i64 0,.int .i64 0]),2,16):=by kernel_rfl
theorem undE:Tryz.prog.underlying 32=some (.slice 31):=by kernel_rfl
theorem pR {w:World}{ops:Array Oper}{rest:List Oper}{o:Oper}{a:Act}{Q:Exit→Act→World→Prop} (hgd:o.guard=none) (s x:Operand) (ho:o.op=.call { callee:=.builtin .append,args:=#[s,x],argTypes:=#[32,32] })
  (n:Nat) (v:Value) (l:List Ev) (hs:a.eval s=v) (hr:EvR n w v l) (hl:l.length≤1000000) (hn:n≤w.heap.size) (b:Nat) (t:Ev) (hx:a.eval x=.slice (some ⟨b,0,none⟩) 1 1) (hb0:w.cell? ⟨b,0,none⟩=some (.int .i64 t.g)) (hb1:w.cell? ⟨b,1,none⟩=some (.int .i64 t.k))
  (h:∀ g cap w',EvR n w' (.slice (some ⟨g,0,none⟩) (l.length+1) cap) (l++[t])→w.grownBy w' v.ownBlock→wpList Tryz.prog ops Q rest (a.put o.dst (.slice (some ⟨g,0,none⟩) (l.length+1) cap)) w'):wpList Tryz.prog ops Q (o :: rest) a w:=by
 obtain⟨i0,hi,hz0,hz1,hz2⟩:=info_parts tV
 refine wpList_append_lies w hgd s x 32 ho n 31 i0 (.agg #[.int .i64 0,.int .i64 0]) 2 16 undE hi hz0 hz1 hz2 rfl (by decide) v l.length _ hs hr ⟨b,0,none⟩ 1 1 [.int .i64 t.g,.int .i64 t.k] hx rfl (fun j u hj=>?_) (fun u hu=>?_) (by decide) (by unfold maxLen;omega) (by omega) hn _ rfl (fun g cap w' h1 h2 h3 h4=>?_)
 ·match j,hj with
  | 0,hj=>simp at hj;subst hj;simpa[Addr.add] using hb0
  | 1,hj=>simp at hj;subst hj;simpa[Addr.add] using hb1
 ·simp at hu
  rcases hu with rfl | rfl<;>rfl
 ·refine h g cap w' ?_ h2
  have e:(l++[t]).length=l.length+1:=by simp
  unfold EvR
  rw[e,vN]
  exact h1
def tr:Value→Nat
 | .slice _ n _=>n
 | _=>0
theorem EvR.len {n:Nat}{w:World}{v:Value}{l:List Ev} (h:EvR n w v l):tr v=l.length:=by
 rcases h.2 with ⟨rfl,hn⟩ | ⟨g,cap,cur,rfl,_⟩
 ·exact hn.symm
 ·rfl
theorem ub (M:ar) (G:M.Good) (al:Ev→Bool) (fd:St→Bool) (x0:St) (R:List (St×av)) (i:Nat) (hI:Inv M al fd x0 R i) (j0:Nat) (y:St) (sy:av) (hj0:R[j0]?=some (y,sy)) (w:World) (bt mt N s:Nat) (hbt:w.cell? ⟨bt,0,none⟩=some (.map (some mt))) (hlt:bt<w.heap.size) (hT:fM w mt N s R) :
  Calls Tryz.prog 44 #[.agg #[.int .i64 y.a0,.int .i64 y.a1,.int .i64 y.a2,.int .i64 y.f0,.int .i64 y.f1,.int .i64 y.f2],.pointer (some ⟨bt,0,none⟩)] w (fun e w'=>∃ v,e=.returned v∧EvR w.heap.size w' v (iS R y)∧Below w.heap.size w w'):=by
 have HI:=uk hI
 have hR:=dr G hI
 have hsm:∀ (j:Nat) (p:St×av),R[j]?=some p→p.1.Small:=fun j p hp=>(hI.at_ p.1 (ve.2 ⟨p,vV hp,rfl⟩)).small G
 have HSM:=uk hsm
 have hget:Tab.get R y=some sy:=by
  obtain⟨hl,e⟩:=uD.1 hj0
  have:=ie hI.nd hl
  rw[e] at this
  exact this
 have hb1:Below w.heap.size w (w.alloc (.cells #[.int .i64 y.a0,.int .i64 y.a1,.int .i64 y.a2,.int .i64 y.f0,.int .i64 y.f1,.int .i64 y.f2] 71)):=(Below.refl _ _).alloc (uo _) _
 have c0:=(hb1.cell (p:=⟨bt,0,none⟩) hlt).trans hbt
 have T1:fM (w.alloc (.cells #[.int .i64 y.a0,.int .i64 y.a1,.int .i64 y.a2,.int .i64 y.f0,.int .i64 y.f1,.int .i64 y.f2] 71)) mt N s R:=hT.same (hb1.block _ hT.lt)
 have hys:=hsm j0 _ hj0
 have hj0l:=(uD.1 hj0).1
 have HA:=uk (qI hI hj0)
 have HT:=uk hT
 have HBT:=uk hbt
 clear hI hsm hT hbt
 have hz2:((w.alloc (.cells #[.int .i64 y.a0,.int .i64 y.a1,.int .i64 y.a2,.int .i64 y.f0,.int .i64 y.f1,.int .i64 y.f2] 71)).alloc (.cells #[Value.int .i64 sy.src.a0,Value.int .i64 sy.src.a1,Value.int .i64 sy.src.a2,Value.int .i64 sy.src.f0,Value.int .i64 sy.src.f1,Value.int .i64 sy.src.f2,Value.int .i64 sy.ev.g,Value.int .i64 sy.ev.k,.bool sy.first] 121)).heap.size=w.heap.size+1+1:=by simp
 have hP2:dU ((w.alloc (.cells #[.int .i64 y.a0,.int .i64 y.a1,.int .i64 y.a2,.int .i64 y.f0,.int .i64 y.f1,.int .i64 y.f2] 71)).alloc (.cells #[Value.int .i64 sy.src.a0,Value.int .i64 sy.src.a1,Value.int .i64 sy.src.a2,Value.int .i64 sy.src.f0,Value.int .i64 sy.src.f1,Value.int .i64 sy.src.f2,Value.int .i64 sy.ev.g,Value.int .i64 sy.ev.k,.bool sy.first] 121)) (w.heap.size+1) sy:=by
  have:=heap_alloc_new (w.alloc (.cells #[.int .i64 y.a0,.int .i64 y.a1,.int .i64 y.a2,.int .i64 y.f0,.int .i64 y.f1,.int .i64 y.f2] 71)) (.cells #[Value.int .i64 sy.src.a0,Value.int .i64 sy.src.a1,Value.int .i64 sy.src.a2,Value.int .i64 sy.src.f0,Value.int .i64 sy.src.f1,Value.int .i64 sy.src.f2,Value.int .i64 sy.ev.g,Value.int .i64 sy.ev.k,.bool sy.first] 121)
  rw[show (w.alloc (.cells #[.int .i64 y.a0,.int .i64 y.a1,.int .i64 y.a2,.int .i64 y.f0,.int .i64 y.f1,.int .i64 y.f2] 71)).heap.size=w.heap.size+1 by simp] at this
  exact this
 have hb2:Below w.heap.size w ((w.alloc (.cells #[.int .i64 y.a0,.int .i64 y.a1,.int .i64 y.a2,.int .i64 y.f0,.int .i64 y.f1,.int .i64 y.f2] 71)).alloc (.cells #[Value.int .i64 sy.src.a0,Value.int .i64 sy.src.a1,Value.int .i64 sy.src.a2,Value.int .i64 sy.src.f0,Value.int .i64 sy.src.f1,Value.int .i64 sy.src.f2,Value.int .i64 sy.ev.g,Value.int .i64 sy.ev.k,.bool sy.first] 121)):=hb1.alloc (by simp) _
 go_enter Tryz.func44,Tryz.ntmps44
 go_wp2_with (at_lookup;refine jF rfl _ _ rfl mt N s R rfl T1 y hys sy hget rfl ?_)
 generalize (w.alloc (.cells #[.int .i64 y.a0,.int .i64 y.a1,.int .i64 y.a2,.int .i64 y.f0,.int .i64 y.f1,.int .i64 y.f2] 71)).alloc (.cells #[Value.int .i64 sy.src.a0,Value.int .i64 sy.src.a1,Value.int .i64 sy.src.a2,Value.int .i64 sy.src.f0,Value.int .i64 sy.src.f1,Value.int .i64 sy.src.f2,Value.int .i64 sy.ev.g,Value.int .i64 sy.ev.k,.bool sy.first] 121)=w2 at hz2 hP2 hb2 ⊢
 clear T1 c0 hb1
 go_loopw [5,4] (fun s5 s4 wr=>∃ (j:Nat) (p:St×av) (b5:Nat) (out:List Ev),s5=.pointer (some ⟨b5,0,none⟩)∧R[j]?=some p∧dU wr b5 p.2∧EvR w.heap.size wr s4 out∧Below w.heap.size w wr∧Hid (bU R R.length y=out++bU R (j+1) p.1)∧w.heap.size≤b5∧out.length+j<R.length) (fun _ s4 _=>R.length-tr s4)
 case atStart=>exact⟨j0,(y,sy),w.heap.size+1,[],rfl,hj0,hP2,⟨rfl,Or.inl ⟨rfl,rfl⟩⟩,hb2,HA.out,by omega,by simpa using hj0l⟩
 case round =>
  clear hP2 hb2 hz2 hj0 hget hys hj0l
  obtain⟨j,p,b5,out,rfl,hp,hP,hE,hB,hx,hb5,hlen⟩:=hrel
  have k8:=aa hP 8
  obtain⟨q,t⟩:=p
  simp only at hP hx k8
  obtain⟨pv,cv,ev⟩:∃ pv cv,u4=.slice pv out.length cv:=by
   rcases hE.2 with ⟨e,hn⟩ | ⟨g,cap,cur,e,_⟩
   ·exact⟨none,0,by rw[e,hn]⟩
   ·exact⟨some ⟨g,0,none⟩,cap,e⟩
  subst ev
  cases hf:t.first
  ·rw[hf] at k8
   obtain⟨k,q',hkj,hq',hsrc,hg',hbk⟩:=oW HI.out hp hf
   have HBK:=uk hbk
   have HG':=uk hg'
   have HF:=uk hf
   have hsm':=HSM.out k q' hq'
   clear hbk hg' hf
   go_upto_region 5 with fail
   have k6:=aa hP 6
   have k7:=aa hP 7
   refine wp_region_lit ?_
   refine wpList_plain rfl (fun K hK=>?_)
   go_simp
   refine hK _ _ ?_
   clear hK K
   try simp only[Act.put,uj,um,ul]
   refine wpList_plain rfl (fun K hK=>?_)
   go_simp
   refine hK _ _ ?_
   clear hK K
   try simp only[Act.put,uj,um,ul]
   refine wpList_plain rfl (fun K hK=>?_)
   go_simp
   refine hK _ _ ?_
   clear hK K
   try simp only[Act.put,uj,um,ul]
   refine wpList_plain rfl (fun K hK=>?_)
   go_simp
   refine hK _ _ ?_
   clear hK K
   try simp only[Act.put,uj,um,ul]
   have hbA:=(Below.refl wr.heap.size wr).alloc (uo _) (.cells #[.int .i64 t.ev.g,.int .i64 t.ev.k] 31)
   have ca0:=af wr #[.int .i64 t.ev.g,.int .i64 t.ev.k] 31 0 _ rfl
   have ca1:=af wr #[.int .i64 t.ev.g,.int .i64 t.ev.k] 31 1 _ rfl
   have hEa:=hE.below hbA
   have hPa:dU (wr.alloc (.cells #[.int .i64 t.ev.g,.int .i64 t.ev.k] 31)) b5 t:=(hbA.block b5 hP.lt).trans hP
   have hBa:=hB.trans (hbA.mono hB.size)
   refine pR rfl _ _ rfl w.heap.size _ out rfl hEa (by omega) hBa.size wr.heap.size t.ev rfl ca0 ca1 ?_
   intro ge ce w6 hE6 hg6
   have hB6:=hBa.grown hg6 hBa.size (fun k e=>(ap hEa e).1)
   have hP6:dU w6 b5 t:=(hg6.block b5 hPa.lt (fun e=>by
    obtain⟨_,_,cur,h1⟩:=ap hEa e.symm
    rw[hPa] at h1;cases h1)).trans hPa
   clear hbA ca0 ca1 hEa hPa hBa hg6 hE hP hB k6 k7 k8
   try simp only[Act.put,uj,um,ul]
   have k0:=aa hP6 0;have k1:=aa hP6 1;have k2:=aa hP6 2;have k3:=aa hP6 3;have k4:=aa hP6 4;have k5:=aa hP6 5;have k6:=aa hP6 6;have k7:=aa hP6 7;have k8:=aa hP6 8
   go_upto_region 4 with fail
   have hbA:=(Below.refl w6.heap.size w6).alloc (uo _) (.cells #[Value.int .i64 t.src.a0,Value.int .i64 t.src.a1,Value.int .i64 t.src.a2,Value.int .i64 t.src.f0,Value.int .i64 t.src.f1,Value.int .i64 t.src.f2,Value.int .i64 t.ev.g,Value.int .i64 t.ev.k,.bool t.first] 121)
   have hE7:=hE6.below hbA
   have hP7:dU (w6.alloc (.cells #[Value.int .i64 t.src.a0,Value.int .i64 t.src.a1,Value.int .i64 t.src.a2,Value.int .i64 t.src.f0,Value.int .i64 t.src.f1,Value.int .i64 t.src.f2,Value.int .i64 t.ev.g,Value.int .i64 t.ev.k,.bool t.first] 121)) w6.heap.size t:=heap_alloc_new w6 _
   have hB7:=hB6.trans (hbA.mono hB6.size)
   have h67:=hB6.size
   clear hbA hE6 hP6 hB6 k0 k1 k2 k3 k4 k5 k6 k7 k8
   generalize w6.alloc (.cells #[Value.int .i64 t.src.a0,Value.int .i64 t.src.a1,Value.int .i64 t.src.a2,Value.int .i64 t.src.f0,Value.int .i64 t.src.f1,Value.int .i64 t.src.f2,Value.int .i64 t.ev.g,Value.int .i64 t.ev.k,.bool t.first] 121)=w7 at hE7 hP7 hB7 ⊢
   generalize w6.heap.size=b7 at hP7 h67 ⊢
   have c0:=(hB7.cell (p:=⟨bt,0,none⟩) hlt).trans HBT.out
   have T7:fM w7 mt N s R:=HT.out.same (hB7.block _ HT.out.lt)
   have k0:=aa hP7 0;have k1:=aa hP7 1;have k2:=aa hP7 2;have k3:=aa hP7 3;have k4:=aa hP7 4;have k5:=aa hP7 5;have k6:=aa hP7 6;have k7:=aa hP7 7;have k8:=aa hP7 8
   have f0:=hP7.fr 0;have f1:=hP7.fr 1;have f2:=hP7.fr 2;have f3:=hP7.fr 3;have f4:=hP7.fr 4;have f5:=hP7.fr 5;have f6:=hP7.fr 6;have f7:=hP7.fr 7;have f8:=hP7.fr 8
   obtain⟨q2,t2⟩:=q'
   simp only at hsrc hsm' HG' HBK
   rw[hsrc] at k0 k1 k2 k3 k4 k5
   go_wp2_with (at_lookup;refine jF rfl _ _ rfl mt N s R rfl T7 q2 hsm' t2 HG'.out rfl ?_)
   have hP8:=hP7.put t2
   have hB8:=hB7.trans (jN (w:=w7) (n:=w.heap.size) (b:=b7) (s:=t2) h67)
   have hE8:EvR w.heap.size (eB w7 b7 t2) _ _:=bc hE7 (fun k hk=>jO (fun e=>by
    subst e
    obtain⟨_,_,cur,h1⟩:=ap hE7 hk
    rw[hP7] at h1;cases h1))
   go_roundw
   case rel=>exact⟨k,(q2,t2),b7,out++[t.ev],by rfl,hq',hP8,hE8,hB8,by unfold Hid;rw[hx.out,HBK.out];simp,h67,by simp;omega⟩
   case measure=>simp[tr];omega
  ·rw[hf] at k8
   have HL:=uk (qJ HI.out hp hf)
   clear hf
   go_wp2_with fail
   refine (re _ out w.heap.size wr hE (by omega)).mono ?_
   rintro e w5 ⟨rfl,hE5,hg5⟩
   go_wp2
   go_ret
   refine⟨_,rfl,?_,hB.grown hg5 hB.size (fun k e=>(ap hE e).1)⟩
   unfold iS
   rw[hx.out]
   rw[show bU R (j+1) q=[] from HL.out,wT]
   exact hE5
end Go.Proofs.YtlkniohhalnjjaaGreatDoor
