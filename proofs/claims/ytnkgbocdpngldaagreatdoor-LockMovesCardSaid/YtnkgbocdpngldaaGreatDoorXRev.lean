/- Lemmas of this claim. -/
import Derived.Test.YtnkgbocdpngldaaGreatDoorXMach
import Derived.Test.YtnkgbocdpngldaaGreatDoorXMade3
set_option linter.all false
set_option maxRecDepth 100000
set_option maxHeartbeats 8000000
namespace Go.Proofs.YtnkgbocdpngldaaGreatDoor
open Go.RowKit Dc Dg
def eh (v:Ev):List Value:=[.int .i64 v.g,.int .i64 v.k]
def EvR (n:Nat) (w:World) (v:Value) (l:List Ev):Prop:=w.ownsRow n 53 2 v l.length (l.flatMap eh)
theorem uH:∀ (L:List Ev) (i:Nat) (h:i<L.length),(L.flatMap eh)[i*2]?=some (.int .i64 L[i].g)∧(L.flatMap eh)[i*2+1]?=some (.int .i64 L[i].k)
 | [],i,h=>by simp at h
 | x :: L,0,h=>by simp[eh]
 | x :: L,i+1,h=>by
  have:=uH L i (by simpa using h)
  rw[DN,show (i+1)*2=(i*2)+1+1 from by omega]
  simpa[eh] using this
theorem yw:∀ (L:List Ev) (i:Nat) (x:Ev),i<L.length→((L.flatMap eh).set (i*2) (.int .i64 x.g)).set (i*2+1) (.int .i64 x.k)=(L.set i x).flatMap eh
 | [],i,_,h=>by simp at h
 | y :: L,0,x,h=>by simp[eh]
 | y :: L,i+1,x,h=>by
  have:=yw L i x (by simpa using h)
  rw[DN,show (i+1)*2=(i*2)+1+1 from by omega,CZ,DN,←this]
  simp[eh]
theorem yB (L:List Ev):(L.flatMap eh).length=L.length*2:=by
 induction L with
 | nil=>rfl
 | cons x L ih=>rw[DN,Dd,ih];simp[eh];omega
def evW (w:World) (g i:Nat) (x:Ev):World:=(w.setCell ⟨g,i*2,none⟩ (.int .i64 x.g)).setCell ⟨g,i*2+1,none⟩ (.int .i64 x.k)
theorem EvR.set {n:Nat}{w:World}{g cap len:Nat}{l:List Ev} (h:EvR n w (.slice (some ⟨g,0,none⟩) len cap) l) {i:Nat} (hi:i<l.length) (x:Ev):EvR n (evW w g i x) (.slice (some ⟨g,0,none⟩) len cap) (l.set i x):=by
 have hl:len=l.length:=by
  rcases h.2 with ⟨e,_⟩ | ⟨g',cap',cur,e,_⟩
  ·cases e
  ·simp only[Value.slice.injEq] at e;omega
 refine⟨by rw[yB,DX],?_⟩
 rcases h.2 with ⟨e,_⟩ | ⟨g',cap',cur,e,hb,hg,hnc,hcm,hcs,htk⟩
 ·cases e
 ·simp only[Value.slice.injEq,Option.some.injEq,Addr.mk.injEq,and_true] at e
  obtain⟨rfl,-,rfl⟩:=e
  have h1:(w.setCell ⟨g,i*2,none⟩ (.int .i64 x.g)).heap[g]?=some (.cells (cur.setIfInBounds (i*2) (.int .i64 x.g)) 53 (0,0)):=heap_setCell_same w g (i*2) cur _ _ hg
  have h2:(evW w g i x).heap[g]?=some (.cells ((cur.setIfInBounds (i*2) (.int .i64 x.g)).setIfInBounds (i*2+1) (.int .i64 x.k)) 53 (0,0)):=heap_setCell_same _ g (i*2+1) _ _ _ h1
  refine Or.inr ⟨g,cap,_,by rw[DX,←hl],hb,h2,by rw[DX];exact hnc,hcm,by simpa using hcs,?_⟩
  rw[FF,FF,DX,List.take_set,List.take_set,htk,yw l i x hi]
theorem EvR.cell {n:Nat}{w:World}{g cap len:Nat}{l:List Ev} (h:EvR n w (.slice (some ⟨g,0,none⟩) len cap) l) {i:Nat} (hi:i<l.length):w.cell? ⟨g,i*2,none⟩=some (.int .i64 l[i].g)∧w.cell? ⟨g,i*2+1,none⟩=some (.int .i64 l[i].k):=by
 obtain⟨f1,f2⟩:=uH l i hi
 have c1:=World.ownsRow.cells h (g:=g) rfl _ _ f1
 have c2:=World.ownsRow.cells h (g:=g) rfl _ _ f2
 rw[ec,D5] at c1 c2
 exact⟨c1,c2⟩
theorem EvR.fr {n:Nat}{w:World}{g cap len:Nat}{l:List Ev} (h:EvR n w (.slice (some ⟨g,0,none⟩) len cap) l) (j:Nat):w.frozen? ⟨g,j,none⟩=false:=by
 rcases h.2 with ⟨e,_⟩ | ⟨g',cap',cur,e,hb,hg,_⟩
 ·cases e
 ·simp only[Value.slice.injEq,Option.some.injEq,Addr.mk.injEq,and_true] at e
  obtain⟨rfl,-,rfl⟩:=e
  rw[World.frozen?,hg];simp
theorem EvR.below {n:Nat}{w w':World}{v:Value}{l:List Ev} (h:EvR n w v l) (hb:Below w.heap.size w w'):EvR n w' v l:=cI h (fun k hk=>hb.block k (av h hk).2.1)
theorem vT {w:World}{g i k:Nat}{x:Ev} (h:k≠g):(evW w g i x).heap[k]?=w.heap[k]?:=by
 unfold evW
 rw[Below.heap_setCell _ _ _ _ h,Below.heap_setCell _ _ _ _ h]
theorem oZ {w:World}{g i:Nat}{x:Ev}:w.grownBy (evW w g i x) (some g):=⟨rfl,rfl,rfl,by simp[evW,World.setCell],fun k _ hk=>vT (fun e=>hk (by rw[e]))⟩
structure eP (l m:List Ev) (i:Nat):Prop where
 len:m.length=l.length
 at_:∀ t (h:t<l.length) (h':t<m.length),m[t]=if t<i∨l.length≤t+i then l[l.length-1-t]'(by omega) else l[t]
theorem eP.start (l:List Ev):eP l l 0:=⟨rfl,fun t h _=>by rw[if_neg (by omega)]⟩
theorem eP.step {l m:List Ev}{i:Nat} (h:eP l m i) (hi:2*i+1<l.length) (hi1:i<m.length) (hj1:l.length-1-i<m.length):eP l ((m.set i m[l.length-1-i]).set (l.length-1-i) m[i]) (i+1):=by
 have hl:=h.len
 refine⟨by simp[hl],fun t ht ht'=>?_⟩
 rw[List.getElem_set,List.getElem_set]
 by_cases h1:l.length-1-i=t
 ·rw[if_pos h1,if_pos (by omega),h.at_ i (by omega) hi1,if_neg (by omega)]
  congr 1
  omega
 ·rw[if_neg h1]
  by_cases h2:i=t
  ·subst h2
   rw[if_pos rfl,if_pos (by omega),h.at_ _ (by omega) hj1,if_neg (by omega)]
  ·rw[if_neg h2,h.at_ t ht (by omega)]
   by_cases h3:t<i∨l.length≤t+i
   ·rw[if_pos h3,if_pos (by omega)]
   ·rw[if_neg h3,if_neg (by omega)]
theorem eP.done {l m:List Ev}{i:Nat} (h:eP l m i) (hi:l.length≤2*i+1):m=l.reverse:=by
 refine List.ext_getElem (by simp[h.len]) (fun t h1 h2=>?_)
 have hl:=h.len
 rw[List.getElem_reverse,h.at_ t (by omega) h1]
 split
 ·rfl
 ·congr 1;omega
theorem zJ (v:Value) (l:List Ev) (n:Nat) (w:World) (h:EvR n w v l) (hl:l.length≤1000000000) :
  Calls Tryz.prog 82 #[v] w (fun e w'=>e=.returned (.tuple #[])∧EvR n w' v l.reverse∧w.grownBy w' v.ownBlock):=by
 rcases h.2 with ⟨rfl,hn⟩ | ⟨g,cap,cur,rfl,-⟩
 ·obtain rfl:l=[]:=Du hn
  go_enter Tryz.func82,Tryz.ntmps82
  go_wp2_with fail
  go_loopw [2,3] (fun s2 s3 wr=>s2=.int .i64 0∧s3=.int .i64 (-1)∧wr=w) (fun _ _ _=>0)
  case atStart=>exact⟨by rfl,by rfl,rfl⟩
  case round =>
   obtain⟨rfl,rfl,rfl⟩:=hrel
   go_wp2
   go_end0
   exact⟨by rfl,h,⟨rfl,rfl,rfl,C6 _,fun _ _ _=>rfl⟩⟩
 ·go_enter Tryz.func82,Tryz.ntmps82
  go_wp2_with fail
  go_loopw [2,3] (fun s2 s3 wr=>∃ (i:Nat) (m:List Ev) (j:Int),s2=.int .i64 i∧s3=.int .i64 j∧j=(l.length:Int)-1-i∧i≤l.length∧EvR n wr (.slice (some ⟨g,0,none⟩) l.length cap) m∧eP l m i∧w.grownBy wr (some g)) (fun s2 _ _=>l.length-(intOf s2).toNat)
  case atStart=>exact⟨0,l,_,rfl,rfl,by simp,by omega,h,eP.start l,⟨rfl,rfl,rfl,C6 _,fun _ _ _=>rfl⟩⟩
  case round =>
   clear h
   obtain⟨i,m,j,rfl,rfl,hj,hi,hE,hT,hg⟩:=hrel
   have hml:=hT.len
   by_cases hil:2*i+1<l.length
   ·obtain⟨jn,hjn⟩:∃ jn:Nat,jn=l.length-1-i:=⟨_,rfl⟩
    obtain rfl:j=(jn:Int):=by omega
    clear hj
    have him:i<m.length:=by omega
    have hjm:jn<m.length:=by omega
    obtain⟨x,hx⟩:∃ x,x=m[i]:=⟨_,rfl⟩
    obtain⟨y,hy⟩:∃ y,y=m[jn]:=⟨_,rfl⟩
    obtain⟨i0,i1⟩:=hE.cell him
    obtain⟨j0,j1⟩:=hE.cell hjm
    rw[←hx] at i0 i1
    rw[←hy] at j0 j1
    have hij:(i:Int)<(jn:Int):=by omega
    have hjI:(jn:Int)<((l.length:Nat):Int):=by omega
    have hiI:(i:Int)<((l.length:Nat):Int):=by omega
    have HT:=C5 (show eP l ((m.set i y).set jn x) (i+1) by rw[hx,hy];subst hjn;exact hT.step hil him (by omega))
    have hE1:=hE.set him y
    have hE2:=hE1.set (i:=jn) (by simpa using hjm) x
    have HE2:=C5 hE2
    have HG:=C5 (show w.grownBy (evW (evW wr g i y) g jn x) (some g) from (hg.trans oZ).trans oZ)
    have HF1:=C5 hE
    have HF2:=C5 hE1
    have HJN:=C5 hjn
    clear hE hE1 hE2 hT hx hy hg hml hjn
    go_wp2_with fail
    have hS:(fun wy:World=>wy.cell? ⟨g,i*2,none⟩=some (.int .i64 x.g)∧wy.cell? ⟨g,i*2+1,none⟩=some (.int .i64 x.k)∧wy.cell? ⟨g,jn*2,none⟩=some (.int .i64 y.g)∧wy.cell? ⟨g,jn*2+1,none⟩=some (.int .i64 y.k)) wr.drew:=⟨i0,i1,j0,j1⟩
    refine au (fun wy:World=>wy.cell? ⟨g,i*2,none⟩=some (.int .i64 x.g)∧wy.cell? ⟨g,i*2+1,none⟩=some (.int .i64 x.k)∧wy.cell? ⟨g,jn*2,none⟩=some (.int .i64 y.g)∧wy.cell? ⟨g,jn*2+1,none⟩=some (.int .i64 y.k)) (fun i=>Nat.beq i 13||Nat.beq i 15) (by kernel_rfl) ?_
    refine af (i:=0) (v:=?vv1) rfl (by kernel_rfl) (fun _ _ _ h=>h) rfl ?hy1 ?rest1
    case hy1=>(intro wy;go_simp;try with_reducible rfl)
    try simp only[Act.put,CY,C1,CZ]
    refine af (i:=1) (v:=?vv2) rfl (by kernel_rfl) (fun _ _ _ h=>h) rfl ?hy2 ?rest2
    case hy2=>(intro wy;go_simp;try with_reducible rfl)
    try simp only[Act.put,CY,C1,CZ]
    refine af (i:=2) (v:=?vv3) rfl (by kernel_rfl) (fun _ _ _ h=>h) rfl ?hy3 ?rest3
    case hy3=>(intro wy;go_simp;try with_reducible rfl)
    try simp only[Act.put,CY,C1,CZ]
    refine af (i:=3) (v:=?vv4) rfl (by kernel_rfl) (fun _ _ _ h=>h) rfl ?hy4 ?rest4
    case hy4=>(intro wy;go_simp;try with_reducible rfl)
    try simp only[Act.put,CY,C1,CZ]
    refine af (i:=4) (v:=?vv5) rfl (by kernel_rfl) (fun _ _ _ h=>h) rfl ?hy5 ?rest5
    case hy5=>(intro wy;go_simp;try with_reducible rfl)
    try simp only[Act.put,CY,C1,CZ]
    refine af (i:=5) (v:=?vv6) rfl (by kernel_rfl) (fun _ _ _ h=>h) rfl ?hy6 ?rest6
    case hy6=>(intro wy;go_simp;try with_reducible rfl)
    try simp only[Act.put,CY,C1,CZ]
    refine af (i:=6) (v:=?vv7) rfl (by kernel_rfl) (fun _ _ _ h=>h) rfl ?hy7 ?rest7
    case hy7=>(intro wy;go_simp;try with_reducible rfl)
    try simp only[Act.put,CY,C1,CZ]
    refine ak (i:=7) (v:=?vv8) rfl (by kernel_rfl) (fun _ _ _ h=>h) rfl hS ?hy8 ?rest8
    case hy8=>(intro wy hy;(try dsimp only at hy);go_simp;try with_reducible rfl)
    try simp only[Act.put,CY,C1,CZ]
    refine af (i:=8) (v:=?vv9) rfl (by kernel_rfl) (fun _ _ _ h=>h) rfl ?hy9 ?rest9
    case hy9=>(intro wy;go_simp;try with_reducible rfl)
    try simp only[Act.put,CY,C1,CZ]
    refine af (i:=9) (v:=?vv10) rfl (by kernel_rfl) (fun _ _ _ h=>h) rfl ?hy10 ?rest10
    case hy10=>(intro wy;go_simp;try with_reducible rfl)
    try simp only[Act.put,CY,C1,CZ]
    refine af (i:=10) (v:=?vv11) rfl (by kernel_rfl) (fun _ _ _ h=>h) rfl ?hy11 ?rest11
    case hy11=>(intro wy;go_simp;try with_reducible rfl)
    try simp only[Act.put,CY,C1,CZ]
    refine ak (i:=11) (v:=?vv12) rfl (by kernel_rfl) (fun _ _ _ h=>h) rfl hS ?hy12 ?rest12
    case hy12=>(intro wy hy;(try dsimp only at hy);go_simp;try with_reducible rfl)
    try simp only[Act.put,CY,C1,CZ]
    refine af (i:=12) (v:=?vv13) rfl (by kernel_rfl) (fun _ _ _ h=>h) rfl ?hy13 ?rest13
    case hy13=>(intro wy;go_simp;try with_reducible rfl)
    try simp only[Act.put,CY,C1,CZ]
    have f1:=HF1.out.fr (i*2)
    have f2:=HF1.out.fr (i*2+1)
    refine am (i:=13) rfl (by kernel_rfl) rfl (fun K hK=>?_)
    go_simp
    change K _ (evW wr.drew g i y)
    refine hK _ _ (fun h=>by cases h) ?_
    clear hK K hS f1 f2
    try simp only[Act.put,CY,C1,CZ]
    have E2:EvR n (evW wr.drew g i y) (.slice (some ⟨g,0,none⟩) l.length cap) (m.set i y):=HF2.out
    generalize hw2:evW wr.drew g i y=w2 at E2 ⊢
    refine af (i:=14) (v:=?vv14) rfl (by kernel_rfl) (fun _ _ _ h=>h) rfl ?hy14 ?rest14
    case hy14=>(intro wy;go_simp;try with_reducible rfl)
    try simp only[Act.put,CY,C1,CZ]
    obtain⟨k0,k1⟩:=E2.cell (i:=jn) (by simpa using hjm)
    have f1:=E2.fr (jn*2)
    have f2:=E2.fr (jn*2+1)
    refine am (i:=15) rfl (by kernel_rfl) rfl (fun K hK=>?_)
    go_simp
    change K _ (evW w2 g jn x)
    refine hK _ _ (fun h=>by cases h) ?_
    clear hK K k0 k1 f1 f2
    refine aA (by kernel_rfl) ?_ _
    have E3:EvR n (evW w2 g jn x) (.slice (some ⟨g,0,none⟩) l.length cap) ((m.set i y).set jn x):=by rw[←hw2];exact HE2.out
    have G3:w.grownBy (evW w2 g jn x) (some g):=by rw[←hw2];exact⟨HG.out.os,HG.out.tape,HG.out.output,HG.out.size,HG.out.block⟩
    clear hw2 E2
    generalize evW w2 g jn x=w3 at E3 G3 ⊢
    go_wp2
    go_roundw
    case rel=>exact⟨i+1,_,_,by go_num,rfl,by have:=HJN.out;omega,by omega,E3,HT.out,G3⟩
    case measure=>simp[intOf];omega
   ·obtain⟨-⟩:True:=trivial
    have HR:=C5 (hT.done (by omega))
    have hdl:decide ((i:Int)<j)=false:=by simp;omega
    have hnl:¬ (i:Int)<j:=by omega
    go_wp2
    go_end0
    exact⟨by rfl,by rw[←HR.out];exact hE,hg⟩
def jF (s:aM):Array Value:=#[Value.int .i64 s.src.a0,Value.int .i64 s.src.a1,Value.int .i64 s.src.a2,Value.int .i64 s.src.f0,Value.int .i64 s.src.f1,Value.int .i64 s.src.f2,Value.int .i64 s.ev.g,Value.int .i64 s.ev.k,.bool s.first]
def aM.val (s:aM):Value:=.agg (jF s)
def kt (R:List (St×aM)) (x:St):Option Value:=(Tab.get R x).map aM.val
def jO (w:World) (mt N s:Nat) (R:List (St×aM)):Prop:=cY Tryz.prog 87 St.val St.Small w mt N s (kt R)
theorem n_:Tryz.prog.underlying 81=some (.map 87 142):=by kernel_rfl
theorem sY (w:World):(zeroValue 142).run Tryz.prog w=.ok (.agg #[.int .i64 0,.int .i64 0,.int .i64 0,.int .i64 0,.int .i64 0,.int .i64 0,.int .i64 0,.int .i64 0,.bool false]) w:=by kernel_rfl
theorem or {w:World}{ops:Array Oper}{rest:List Oper}{o:Oper}{a:Act}{Q:Exit→Act→World→Prop} (hg:o.guard=none) (m x:Operand) (hop:o.op=Op.lookup 81 m x false) (mt N n:Nat) (R:List (St×aM))
  (hm:a.eval m=.map (some mt)) (hT:jO w mt N n R) (k:St) (hk:k.Small) (s:aM) (hs:Tab.get R k=some s) (hx:a.eval x=.agg #[.int .i64 k.a0,.int .i64 k.a1,.int .i64 k.a2,.int .i64 k.f0,.int .i64 k.f1,.int .i64 k.f2])
  (hK:wpList Tryz.prog ops Q rest (a.put o.dst (.agg #[Value.int .i64 s.src.a0,Value.int .i64 s.src.a1,Value.int .i64 s.src.a2,Value.int .i64 s.src.f0,Value.int .i64 s.src.f1,Value.int .i64 s.src.f2,Value.int .i64 s.ev.g,Value.int .i64 s.ev.k,.bool s.first])) w):wpList Tryz.prog ops Q (o :: rest) a w:=by
 refine sX w hg m x _ hop 87 142 mt N n (kt R) yt n_ _ (sY w) hm hT k hk hx ?_
 have e:kt R k=some s.val:=by unfold kt;rw[hs];rfl
 rw[e]
 exact hK
def gm (w:World) (b:Nat) (s:aM):Prop:=w.heap[b]?=some (.cells #[Value.int .i64 s.src.a0,Value.int .i64 s.src.a1,Value.int .i64 s.src.a2,Value.int .i64 s.src.f0,Value.int .i64 s.src.f1,Value.int .i64 s.src.f2,Value.int .i64 s.ev.g,Value.int .i64 s.ev.k,.bool s.first] 142 (0,0))
theorem gm.lt {w:World}{b:Nat}{s:aM} (h:gm w b s):b<w.heap.size:=(C_.1 h).1
theorem gm.fr {w:World}{b:Nat}{s:aM} (h:gm w b s) (j:Nat):w.frozen? ⟨b,j,none⟩=false:=by
 rw[World.frozen?,h];simp
def ii (w:World) (b:Nat) (s:aM):World:=(((((((((w.setCell ⟨b,0,none⟩ (.int .i64 s.src.a0)).setCell ⟨b,1,none⟩ (.int .i64 s.src.a1)).setCell ⟨b,2,none⟩ (.int .i64 s.src.a2)).setCell ⟨b,3,none⟩ (.int .i64 s.src.f0)).setCell ⟨b,4,none⟩ (.int .i64 s.src.f1)).setCell ⟨b,5,none⟩ (.int .i64 s.src.f2)).setCell ⟨b,6,none⟩ (.int .i64 s.ev.g)).setCell ⟨b,7,none⟩ (.int .i64 s.ev.k)).setCell ⟨b,8,none⟩ (.bool s.first))
theorem gm.put {w:World}{b:Nat}{x:aM} (h:gm w b x) (s:aM):gm (ii w b s) b s:=by
 have h1:((w.setCell ⟨b,0,none⟩ (.int .i64 s.src.a0))).heap[b]?=some (.cells #[(.int .i64 s.src.a0),(.int .i64 x.src.a1),(.int .i64 x.src.a2),(.int .i64 x.src.f0),(.int .i64 x.src.f1),(.int .i64 x.src.f2),(.int .i64 x.ev.g),(.int .i64 x.ev.k),(.bool x.first)] 142 (0,0)):=by rw[heap_setCell_same _ b 0 _ _ _ h];rfl
 have h2:(((w.setCell ⟨b,0,none⟩ (.int .i64 s.src.a0)).setCell ⟨b,1,none⟩ (.int .i64 s.src.a1))).heap[b]?=some (.cells #[(.int .i64 s.src.a0),(.int .i64 s.src.a1),(.int .i64 x.src.a2),(.int .i64 x.src.f0),(.int .i64 x.src.f1),(.int .i64 x.src.f2),(.int .i64 x.ev.g),(.int .i64 x.ev.k),(.bool x.first)] 142 (0,0)):=by rw[heap_setCell_same _ b 1 _ _ _ h1];rfl
 have h3:((((w.setCell ⟨b,0,none⟩ (.int .i64 s.src.a0)).setCell ⟨b,1,none⟩ (.int .i64 s.src.a1)).setCell ⟨b,2,none⟩ (.int .i64 s.src.a2))).heap[b]?=some (.cells #[(.int .i64 s.src.a0),(.int .i64 s.src.a1),(.int .i64 s.src.a2),(.int .i64 x.src.f0),(.int .i64 x.src.f1),(.int .i64 x.src.f2),(.int .i64 x.ev.g),(.int .i64 x.ev.k),(.bool x.first)] 142 (0,0)):=by rw[heap_setCell_same _ b 2 _ _ _ h2];rfl
 have h4:(((((w.setCell ⟨b,0,none⟩ (.int .i64 s.src.a0)).setCell ⟨b,1,none⟩ (.int .i64 s.src.a1)).setCell ⟨b,2,none⟩ (.int .i64 s.src.a2)).setCell ⟨b,3,none⟩ (.int .i64 s.src.f0))).heap[b]?=some (.cells #[(.int .i64 s.src.a0),(.int .i64 s.src.a1),(.int .i64 s.src.a2),(.int .i64 s.src.f0),(.int .i64 x.src.f1),(.int .i64 x.src.f2),(.int .i64 x.ev.g),(.int .i64 x.ev.k),(.bool x.first)] 142 (0,0)):=by rw[heap_setCell_same _ b 3 _ _ _ h3];rfl
 have h5:((((((w.setCell ⟨b,0,none⟩ (.int .i64 s.src.a0)).setCell ⟨b,1,none⟩ (.int .i64 s.src.a1)).setCell ⟨b,2,none⟩ (.int .i64 s.src.a2)).setCell ⟨b,3,none⟩ (.int .i64 s.src.f0)).setCell ⟨b,4,none⟩ (.int .i64 s.src.f1))).heap[b]?=some (.cells #[(.int .i64 s.src.a0),(.int .i64 s.src.a1),(.int .i64 s.src.a2),(.int .i64 s.src.f0),(.int .i64 s.src.f1),(.int .i64 x.src.f2),(.int .i64 x.ev.g),(.int .i64 x.ev.k),(.bool x.first)] 142 (0,0)):=by rw[heap_setCell_same _ b 4 _ _ _ h4];rfl
 have h6:(((((((w.setCell ⟨b,0,none⟩ (.int .i64 s.src.a0)).setCell ⟨b,1,none⟩ (.int .i64 s.src.a1)).setCell ⟨b,2,none⟩ (.int .i64 s.src.a2)).setCell ⟨b,3,none⟩ (.int .i64 s.src.f0)).setCell ⟨b,4,none⟩ (.int .i64 s.src.f1)).setCell ⟨b,5,none⟩ (.int .i64 s.src.f2))).heap[b]?=some (.cells #[(.int .i64 s.src.a0),(.int .i64 s.src.a1),(.int .i64 s.src.a2),(.int .i64 s.src.f0),(.int .i64 s.src.f1),(.int .i64 s.src.f2),(.int .i64 x.ev.g),(.int .i64 x.ev.k),(.bool x.first)] 142 (0,0)):=by rw[heap_setCell_same _ b 5 _ _ _ h5];rfl
 have h7:((((((((w.setCell ⟨b,0,none⟩ (.int .i64 s.src.a0)).setCell ⟨b,1,none⟩ (.int .i64 s.src.a1)).setCell ⟨b,2,none⟩ (.int .i64 s.src.a2)).setCell ⟨b,3,none⟩ (.int .i64 s.src.f0)).setCell ⟨b,4,none⟩ (.int .i64 s.src.f1)).setCell ⟨b,5,none⟩ (.int .i64 s.src.f2)).setCell ⟨b,6,none⟩ (.int .i64 s.ev.g))).heap[b]?=some (.cells #[(.int .i64 s.src.a0),(.int .i64 s.src.a1),(.int .i64 s.src.a2),(.int .i64 s.src.f0),(.int .i64 s.src.f1),(.int .i64 s.src.f2),(.int .i64 s.ev.g),(.int .i64 x.ev.k),(.bool x.first)] 142 (0,0)):=by rw[heap_setCell_same _ b 6 _ _ _ h6];rfl
 have h8:(((((((((w.setCell ⟨b,0,none⟩ (.int .i64 s.src.a0)).setCell ⟨b,1,none⟩ (.int .i64 s.src.a1)).setCell ⟨b,2,none⟩ (.int .i64 s.src.a2)).setCell ⟨b,3,none⟩ (.int .i64 s.src.f0)).setCell ⟨b,4,none⟩ (.int .i64 s.src.f1)).setCell ⟨b,5,none⟩ (.int .i64 s.src.f2)).setCell ⟨b,6,none⟩ (.int .i64 s.ev.g)).setCell ⟨b,7,none⟩ (.int .i64 s.ev.k))).heap[b]?=some (.cells #[(.int .i64 s.src.a0),(.int .i64 s.src.a1),(.int .i64 s.src.a2),(.int .i64 s.src.f0),(.int .i64 s.src.f1),(.int .i64 s.src.f2),(.int .i64 s.ev.g),(.int .i64 s.ev.k),(.bool x.first)] 142 (0,0)):=by rw[heap_setCell_same _ b 7 _ _ _ h7];rfl
 unfold ii gm;rw[heap_setCell_same _ b 8 _ _ _ h8];rfl
theorem oH {w:World}{n b:Nat}{s:aM} (hb:n≤b):Below n w (ii w b s):=by
 unfold ii
 exact ((((((((((Below.refl n w).setCell (p:=⟨b,0,none⟩) hb _).setCell (p:=⟨b,1,none⟩) hb _).setCell (p:=⟨b,2,none⟩) hb _).setCell (p:=⟨b,3,none⟩) hb _).setCell (p:=⟨b,4,none⟩) hb _).setCell (p:=⟨b,5,none⟩) hb _).setCell (p:=⟨b,6,none⟩) hb _).setCell (p:=⟨b,7,none⟩) hb _).setCell (p:=⟨b,8,none⟩) hb _)
theorem oI {w:World}{b i:Nat}{s:aM} (h:i≠b):(ii w b s).heap[i]?=w.heap[i]?:=by
 unfold ii
 rw[Below.heap_setCell _ _ _ _ h,Below.heap_setCell _ _ _ _ h,Below.heap_setCell _ _ _ _ h,Below.heap_setCell _ _ _ _ h,Below.heap_setCell _ _ _ _ h,Below.heap_setCell _ _ _ _ h,Below.heap_setCell _ _ _ _ h,Below.heap_setCell _ _ _ _ h,Below.heap_setCell _ _ _ _ h]
theorem CH:(Tryz.prog.info? 53).map (fun i=>(i.zero,i.size,i.bytes))=some (some (.agg #[.int .i64 0,.int .i64 0]),2,16):=by kernel_rfl
theorem undE:Tryz.prog.underlying 29=some (.slice 53):=by kernel_rfl
theorem xN {w:World}{ops:Array Oper}{rest:List Oper}{o:Oper}{a:Act}{Q:Exit→Act→World→Prop} (hgd:o.guard=none) (s x:Operand) (ho:o.op=.call { callee:=.builtin .append,args:=#[s,x],argTypes:=#[29,29] })
  (n:Nat) (v:Value) (l:List Ev) (hs:a.eval s=v) (hr:EvR n w v l) (hl:l.length≤1000000) (hn:n≤w.heap.size) (b:Nat) (t:Ev) (hx:a.eval x=.slice (some ⟨b,0,none⟩) 1 1) (hb0:w.cell? ⟨b,0,none⟩=some (.int .i64 t.g)) (hb1:w.cell? ⟨b,1,none⟩=some (.int .i64 t.k))
  (h:∀ g cap w',EvR n w' (.slice (some ⟨g,0,none⟩) (l.length+1) cap) (l++[t])→w.grownBy w' v.ownBlock→wpList Tryz.prog ops Q rest (a.put o.dst (.slice (some ⟨g,0,none⟩) (l.length+1) cap)) w'):wpList Tryz.prog ops Q (o :: rest) a w:=by
 obtain⟨i0,hi,hz0,hz1,hz2⟩:=info_parts CH
 refine wpList_append_lies w hgd s x 29 ho n 53 i0 (.agg #[.int .i64 0,.int .i64 0]) 2 16 undE hi hz0 hz1 hz2 rfl (by decide) v l.length _ hs hr ⟨b,0,none⟩ 1 1 [.int .i64 t.g,.int .i64 t.k] hx rfl (fun j u hj=>?_) (fun u hu=>?_) (by decide) (by unfold maxLen;omega) (by omega) hn _ rfl (fun g cap w' h1 h2 h3 h4=>?_)
 ·match j,hj with
  | 0,hj=>simp at hj;subst hj;simpa[Addr.add] using hb0
  | 1,hj=>simp at hj;subst hj;simpa[Addr.add] using hb1
 ·simp at hu
  rcases hu with rfl | rfl<;>rfl
 ·refine h g cap w' ?_ h2
  have e:(l++[t]).length=l.length+1:=by simp
  unfold EvR
  rw[e,En]
  exact h1
def lenV:Value→Nat
 | .slice _ n _=>n
 | _=>0
theorem CM (M:aH) (G:M.Good) (al:Ev→Bool) (fd:St→Bool) (x0:St) (R:List (St×aM)) (i:Nat) (hI:Inv M al fd x0 R i) (j0:Nat) (y:St) (sy:aM) (hj0:R[j0]?=some (y,sy)) (w:World) (bt mt N s:Nat) (hbt:w.cell? ⟨bt,0,none⟩=some (.map (some mt))) (hlt:bt<w.heap.size) (hT:jO w mt N s R) :
  Calls Tryz.prog 81 #[.agg #[.int .i64 y.a0,.int .i64 y.a1,.int .i64 y.a2,.int .i64 y.f0,.int .i64 y.f1,.int .i64 y.f2],.pointer (some ⟨bt,0,none⟩)] w (fun e w'=>∃ v,e=.returned v∧EvR w.heap.size w' v (oM R y)∧Below w.heap.size w w'):=by
 have HI:=C5 hI
 have hR:=fy G hI
 have hsm:∀ (j:Nat) (p:St×aM),R[j]?=some p→p.1.Small:=fun j p hp=>(hI.at_ p.1 (DO.2 ⟨p,Eu hp,rfl⟩)).small G
 have HSM:=C5 hsm
 have hget:Tab.get R y=some sy:=by
  obtain⟨hl,e⟩:=De.1 hj0
  have:=ly hI.nd hl
  rw[e] at this
  exact this
 have hb1:Below w.heap.size w (w.alloc (.cells #[.int .i64 y.a0,.int .i64 y.a1,.int .i64 y.a2,.int .i64 y.f0,.int .i64 y.f1,.int .i64 y.f2] 87)):=(Below.refl _ _).alloc (C6 _) _
 have c0:=(hb1.cell (p:=⟨bt,0,none⟩) hlt).trans hbt
 have T1:jO (w.alloc (.cells #[.int .i64 y.a0,.int .i64 y.a1,.int .i64 y.a2,.int .i64 y.f0,.int .i64 y.f1,.int .i64 y.f2] 87)) mt N s R:=hT.same (hb1.block _ hT.lt)
 have hys:=hsm j0 _ hj0
 have hj0l:=(De.1 hj0).1
 have HA:=C5 (yT hI hj0)
 have HT:=C5 hT
 have HBT:=C5 hbt
 clear hI hsm hT hbt
 have hz2:((w.alloc (.cells #[.int .i64 y.a0,.int .i64 y.a1,.int .i64 y.a2,.int .i64 y.f0,.int .i64 y.f1,.int .i64 y.f2] 87)).alloc (.cells #[Value.int .i64 sy.src.a0,Value.int .i64 sy.src.a1,Value.int .i64 sy.src.a2,Value.int .i64 sy.src.f0,Value.int .i64 sy.src.f1,Value.int .i64 sy.src.f2,Value.int .i64 sy.ev.g,Value.int .i64 sy.ev.k,.bool sy.first] 142)).heap.size=w.heap.size+1+1:=by simp
 have hP2:gm ((w.alloc (.cells #[.int .i64 y.a0,.int .i64 y.a1,.int .i64 y.a2,.int .i64 y.f0,.int .i64 y.f1,.int .i64 y.f2] 87)).alloc (.cells #[Value.int .i64 sy.src.a0,Value.int .i64 sy.src.a1,Value.int .i64 sy.src.a2,Value.int .i64 sy.src.f0,Value.int .i64 sy.src.f1,Value.int .i64 sy.src.f2,Value.int .i64 sy.ev.g,Value.int .i64 sy.ev.k,.bool sy.first] 142)) (w.heap.size+1) sy:=by
  have:=heap_alloc_new (w.alloc (.cells #[.int .i64 y.a0,.int .i64 y.a1,.int .i64 y.a2,.int .i64 y.f0,.int .i64 y.f1,.int .i64 y.f2] 87)) (.cells #[Value.int .i64 sy.src.a0,Value.int .i64 sy.src.a1,Value.int .i64 sy.src.a2,Value.int .i64 sy.src.f0,Value.int .i64 sy.src.f1,Value.int .i64 sy.src.f2,Value.int .i64 sy.ev.g,Value.int .i64 sy.ev.k,.bool sy.first] 142)
  rw[show (w.alloc (.cells #[.int .i64 y.a0,.int .i64 y.a1,.int .i64 y.a2,.int .i64 y.f0,.int .i64 y.f1,.int .i64 y.f2] 87)).heap.size=w.heap.size+1 by simp] at this
  exact this
 have hb2:Below w.heap.size w ((w.alloc (.cells #[.int .i64 y.a0,.int .i64 y.a1,.int .i64 y.a2,.int .i64 y.f0,.int .i64 y.f1,.int .i64 y.f2] 87)).alloc (.cells #[Value.int .i64 sy.src.a0,Value.int .i64 sy.src.a1,Value.int .i64 sy.src.a2,Value.int .i64 sy.src.f0,Value.int .i64 sy.src.f1,Value.int .i64 sy.src.f2,Value.int .i64 sy.ev.g,Value.int .i64 sy.ev.k,.bool sy.first] 142)):=hb1.alloc (by simp) _
 go_enter Tryz.func81,Tryz.ntmps81
 go_wp2_with (at_lookup;refine or rfl _ _ rfl mt N s R rfl T1 y hys sy hget rfl ?_)
 generalize (w.alloc (.cells #[.int .i64 y.a0,.int .i64 y.a1,.int .i64 y.a2,.int .i64 y.f0,.int .i64 y.f1,.int .i64 y.f2] 87)).alloc (.cells #[Value.int .i64 sy.src.a0,Value.int .i64 sy.src.a1,Value.int .i64 sy.src.a2,Value.int .i64 sy.src.f0,Value.int .i64 sy.src.f1,Value.int .i64 sy.src.f2,Value.int .i64 sy.ev.g,Value.int .i64 sy.ev.k,.bool sy.first] 142)=w2 at hz2 hP2 hb2 ⊢
 clear T1 c0 hb1
 go_loopw [5,4] (fun s5 s4 wr=>∃ (j:Nat) (p:St×aM) (b5:Nat) (out:List Ev),s5=.pointer (some ⟨b5,0,none⟩)∧R[j]?=some p∧gm wr b5 p.2∧EvR w.heap.size wr s4 out∧Below w.heap.size w wr∧Hid (dJ R R.length y=out++dJ R (j+1) p.1)∧w.heap.size≤b5∧out.length+j<R.length) (fun _ s4 _=>R.length-lenV s4)
 case atStart=>exact⟨j0,(y,sy),w.heap.size+1,[],rfl,hj0,hP2,⟨rfl,Or.inl ⟨rfl,rfl⟩⟩,hb2,HA.out,by omega,by simpa using hj0l⟩
 case round =>
  clear hP2 hb2 hz2 hj0 hget hys hj0l
  obtain⟨j,p,b5,out,rfl,hp,hP,hE,hB,hx,hb5,hlen⟩:=hrel
  have k8:=ac hP 8
  obtain⟨q,t⟩:=p
  simp only at hP hx k8
  obtain⟨pv,cv,ev⟩:∃ pv cv,u4=.slice pv out.length cv:=by
   rcases hE.2 with ⟨e,hn⟩ | ⟨g,cap,cur,e,_⟩
   ·exact⟨none,0,by rw[e,hn]⟩
   ·exact⟨some ⟨g,0,none⟩,cap,e⟩
  subst ev
  cases hf:t.first
  ·rw[hf] at k8
   obtain⟨k,q',hkj,hq',hsrc,hg',hbk⟩:=wB HI.out hp hf
   have HBK:=C5 hbk
   have HG':=C5 hg'
   have HF:=C5 hf
   have hsm':=HSM.out k q' hq'
   clear hbk hg' hf
   go_upto_region 5 with fail
   have k6:=ac hP 6
   have k7:=ac hP 7
   refine wp_region_lit ?_
   refine wpList_plain rfl (fun K hK=>?_)
   go_simp
   refine hK _ _ ?_
   clear hK K
   try simp only[Act.put,CY,C1,CZ]
   refine wpList_plain rfl (fun K hK=>?_)
   go_simp
   refine hK _ _ ?_
   clear hK K
   try simp only[Act.put,CY,C1,CZ]
   refine wpList_plain rfl (fun K hK=>?_)
   go_simp
   refine hK _ _ ?_
   clear hK K
   try simp only[Act.put,CY,C1,CZ]
   refine wpList_plain rfl (fun K hK=>?_)
   go_simp
   refine hK _ _ ?_
   clear hK K
   try simp only[Act.put,CY,C1,CZ]
   have hbA:=(Below.refl wr.heap.size wr).alloc (C6 _) (.cells #[.int .i64 t.ev.g,.int .i64 t.ev.k] 53)
   have ca0:=an wr #[.int .i64 t.ev.g,.int .i64 t.ev.k] 53 0 _ rfl
   have ca1:=an wr #[.int .i64 t.ev.g,.int .i64 t.ev.k] 53 1 _ rfl
   have hEa:=hE.below hbA
   have hPa:gm (wr.alloc (.cells #[.int .i64 t.ev.g,.int .i64 t.ev.k] 53)) b5 t:=(hbA.block b5 hP.lt).trans hP
   have hBa:=hB.trans (hbA.mono hB.size)
   refine xN rfl _ _ rfl w.heap.size _ out rfl hEa (by omega) hBa.size wr.heap.size t.ev rfl ca0 ca1 ?_
   intro ge ce w6 hE6 hg6
   have hB6:=hBa.grown hg6 hBa.size (fun k e=>(av hEa e).1)
   have hP6:gm w6 b5 t:=(hg6.block b5 hPa.lt (fun e=>by
    obtain⟨_,_,cur,h1⟩:=av hEa e.symm
    rw[hPa] at h1;cases h1)).trans hPa
   clear hbA ca0 ca1 hEa hPa hBa hg6 hE hP hB k6 k7 k8
   try simp only[Act.put,CY,C1,CZ]
   have k0:=ac hP6 0;have k1:=ac hP6 1;have k2:=ac hP6 2;have k3:=ac hP6 3;have k4:=ac hP6 4;have k5:=ac hP6 5;have k6:=ac hP6 6;have k7:=ac hP6 7;have k8:=ac hP6 8
   go_upto_region 4 with fail
   have hbA:=(Below.refl w6.heap.size w6).alloc (C6 _) (.cells #[Value.int .i64 t.src.a0,Value.int .i64 t.src.a1,Value.int .i64 t.src.a2,Value.int .i64 t.src.f0,Value.int .i64 t.src.f1,Value.int .i64 t.src.f2,Value.int .i64 t.ev.g,Value.int .i64 t.ev.k,.bool t.first] 142)
   have hE7:=hE6.below hbA
   have hP7:gm (w6.alloc (.cells #[Value.int .i64 t.src.a0,Value.int .i64 t.src.a1,Value.int .i64 t.src.a2,Value.int .i64 t.src.f0,Value.int .i64 t.src.f1,Value.int .i64 t.src.f2,Value.int .i64 t.ev.g,Value.int .i64 t.ev.k,.bool t.first] 142)) w6.heap.size t:=heap_alloc_new w6 _
   have hB7:=hB6.trans (hbA.mono hB6.size)
   have h67:=hB6.size
   clear hbA hE6 hP6 hB6 k0 k1 k2 k3 k4 k5 k6 k7 k8
   generalize w6.alloc (.cells #[Value.int .i64 t.src.a0,Value.int .i64 t.src.a1,Value.int .i64 t.src.a2,Value.int .i64 t.src.f0,Value.int .i64 t.src.f1,Value.int .i64 t.src.f2,Value.int .i64 t.ev.g,Value.int .i64 t.ev.k,.bool t.first] 142)=w7 at hE7 hP7 hB7 ⊢
   generalize w6.heap.size=b7 at hP7 h67 ⊢
   have c0:=(hB7.cell (p:=⟨bt,0,none⟩) hlt).trans HBT.out
   have T7:jO w7 mt N s R:=HT.out.same (hB7.block _ HT.out.lt)
   have k0:=ac hP7 0;have k1:=ac hP7 1;have k2:=ac hP7 2;have k3:=ac hP7 3;have k4:=ac hP7 4;have k5:=ac hP7 5;have k6:=ac hP7 6;have k7:=ac hP7 7;have k8:=ac hP7 8
   have f0:=hP7.fr 0;have f1:=hP7.fr 1;have f2:=hP7.fr 2;have f3:=hP7.fr 3;have f4:=hP7.fr 4;have f5:=hP7.fr 5;have f6:=hP7.fr 6;have f7:=hP7.fr 7;have f8:=hP7.fr 8
   obtain⟨q2,t2⟩:=q'
   simp only at hsrc hsm' HG' HBK
   rw[hsrc] at k0 k1 k2 k3 k4 k5
   go_wp2_with (at_lookup;refine or rfl _ _ rfl mt N s R rfl T7 q2 hsm' t2 HG'.out rfl ?_)
   have hP8:=hP7.put t2
   have hB8:=hB7.trans (oH (w:=w7) (n:=w.heap.size) (b:=b7) (s:=t2) h67)
   have hE8:EvR w.heap.size (ii w7 b7 t2) _ _:=cI hE7 (fun k hk=>oI (fun e=>by
    subst e
    obtain⟨_,_,cur,h1⟩:=av hE7 hk
    rw[hP7] at h1;cases h1))
   go_roundw
   case rel=>exact⟨k,(q2,t2),b7,out++[t.ev],by rfl,hq',hP8,hE8,hB8,by unfold Hid;rw[hx.out,HBK.out];simp,h67,by simp;omega⟩
   case measure=>simp[lenV];omega
  ·rw[hf] at k8
   have HL:=C5 (yU HI.out hp hf)
   clear hf
   go_wp2_with fail
   refine (zJ _ out w.heap.size wr hE (by omega)).mono ?_
   rintro e w5 ⟨rfl,hE5,hg5⟩
   go_wp2
   go_ret
   refine⟨_,rfl,?_,hB.grown hg5 hB.size (fun k e=>(av hE e).1)⟩
   unfold oM
   rw[hx.out]
   rw[show dJ R (j+1) q=[] from HL.out,DR]
   exact hE5
end Go.Proofs.YtnkgbocdpngldaaGreatDoor
