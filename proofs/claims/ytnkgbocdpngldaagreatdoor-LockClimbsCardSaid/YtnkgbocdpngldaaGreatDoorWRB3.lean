/- Lemmas of this claim. -/
import Derived.Test.YtnkgbocdpngldaaGreatDoorWRev
import Derived.Test.YtnkgbocdpngldaaGreatDoorWCnt
import Derived.Test.YtnkgbocdpngldaaGreatDoorWMeet
import Derived.Test.YtnkgbocdpngldaaGreatDoorWRun
import Derived.Test.YtnkgbocdpngldaaGreatDoorWSta3
import Derived.Test.YtnkgbocdpngldaaGreatDoorWRB1
set_option linter.all false
set_option maxRecDepth 100000
set_option maxHeartbeats 8000000
namespace Go.Proofs.YtnkgbocdpngldaaGreatDoor
open Go.RowKit Dc Dg
theorem Bq {gs:List Gd} (hS:a8 gs=true) {x:St} (hx:(ah gs).At x) {al:Ev→Bool}{L:List (St×Int×Ev)} (h:ib x (eK (ah gs) x al) L):∀ j (h:j<L.length),(ah gs).At L[j].1:=fun j hj=>by
 refine (nM (aV hS) hx (al:=al)).at_ _ ?_
 rw[←h.key]
 exact DY.2 ⟨_,DH hj,rfl⟩
theorem uS {w:World}{o:Oper}{a:Act}{K:Act→World→Prop}{Q:Exit→Act→World→Prop} (s x:Operand) (ho:o.op=.call { callee:=.builtin .append,args:=#[s,x],argTypes:=#[29,29] })
  (n:Nat) (v:Value) (l:List Ev) (hs:a.eval s=v) (hr:EvR n w v l) (hl:l.length≤1000000) (hn:n≤w.heap.size) (b:Nat) (t:Ev) (hx:a.eval x=.slice (some ⟨b,0,none⟩) 1 1) (hb0:w.cell? ⟨b,0,none⟩=some (.int .i64 t.g)) (hb1:w.cell? ⟨b,1,none⟩=some (.int .i64 t.k))
  (h:∀ g cap w',EvR n w' (.slice (some ⟨g,0,none⟩) (l.length+1) cap) (l++[t])→w.grownBy w' v.ownBlock→K (a.put o.dst (.slice (some ⟨g,0,none⟩) (l.length+1) cap)) w'):o.wp Tryz.prog a w K Q:=by
 obtain⟨i0,hi,hz0,hz1,hz2⟩:=info_parts BO
 refine wp_append_lies w s x 29 ho n 53 i0 (.agg #[.int .i64 0,.int .i64 0]) 2 16 undE hi hz0 hz1 hz2 rfl (by decide) v l.length _ hs hr ⟨b,0,none⟩ 1 1 [.int .i64 t.g,.int .i64 t.k] hx rfl (fun j u hj=>?_) (fun u hu=>?_) (by decide) (by unfold maxLen;omega) (by omega) hn _ rfl (fun g cap w' h1 h2 h3 h4=>?_)
 ·match j,hj with
  | 0,hj=>simp at hj;subst hj;simpa[Addr.add] using hb0
  | 1,hj=>simp at hj;subst hj;simpa[Addr.add] using hb1
 ·simp at hu
  rcases hu with rfl | rfl<;>rfl
 ·refine h g cap w' ?_ h2
  have e:(l++[t]).length=l.length+1:=by simp
  unfold EvR
  rw[e,Eo]
  exact h1
theorem tE (L:List (St×Int×Ev)):∀ m i,(j5 L m i).length≤m
 | 0,_=>Dp _
 | m+1,i=>by
  rw[j5]
  split
  ·exact DM _
  ·rename_i p _
   split
   ·exact DM _
   ·have:=tE L m p.2.1.toNat
    rw[Dx,EQ]
    omega
theorem BE (n:Nat) (pv:Option Addr) (cv N:Nat) (L:List (St×Int×Ev)) (hN:N=L.length) (hl:L.length≤32768) (hsrc:∀ j (h:j<L.length),L[j].2.1<0∨∃ k:Nat,k<j∧L[j].2.1=(k:Int)):∀ (i:Nat),i<L.length→∀ m,i<m→m≤1000000→∀ (w:World),iS n w (.slice pv N cv) L →
  Calls Tryz.prog 52 #[.slice pv N cv,.int .i64 i] w fun e w'=>∃ v,e=.returned v∧EvR w.heap.size w' v (j5 L m i)∧Below w.heap.size w w':=by
 have HSR:=Do hsrc
 have HN:=Do hN
 clear hsrc hN
 intro i
 induction i using Nat.strongRecOn with
 | ind i ih =>
  intro hi m hm hm6 w hQ
  obtain⟨j,rfl⟩:∃ j,m=j+1:=⟨m-1,by omega⟩
  have hstep:j5 L (j+1) i=if L[i].2.1<0 then [] else j5 L j L[i].2.1.toNat++[L[i].2.2]:=by
   rw[j5,Dq hi]
  obtain⟨b,o,u1,u2,rfl,hbw,-,-,q2,q3,q4,-,-⟩:=hQ.get hi
  have HQ:=Do hQ
  have HIH:=Do ih
  have HST:=Do hstep
  have HI:=Do hi
  have hiI:(i:Int)<(N:Int):=by have:=HN.out;omega
  clear hQ ih hstep
  rcases HSR.out i hi with hneg | ⟨k,hk,hke⟩
  ·have hd:decide (L[i].2.1<0)=true:=by simp;omega
   have HW:Hid (j5 L (j+1) i=[]):=by unfold Hid;rw[HST.out,if_pos hneg]
   clear hneg hm
   generalize L[i].2.1=fr at *
   go_enter Tryz.func52,Tryz.ntmps52
   go_wp2
   go_ret
   exact⟨_,rfl,by rw[HW.out];exact World.ownsRow_nil _ _ _ _,Below.refl _ _⟩
  ·have HW:Hid (j5 L (j+1) i=j5 L j k++[L[i].2.2]):=by unfold Hid;rw[HST.out,if_neg (by omega)];simp only[hke,DC];rfl
   have HC:=Do (fun wx hx=>HIH.out k hk (by omega) j (by omega) (by omega) wx (HQ.out.below hx))
   rw[hke] at q2
   have hlen:(j5 L j k).length≤1000000:=by have:=tE L j k;omega
   have hd:decide ((k:Int)<0)=false:=decide_eq_false (by omega)
   generalize L[i].2.2=t at *
   clear hke hm hm6
   go_enter Tryz.func52,Tryz.ntmps52
   go_upto_region 3 with fail
   have hS:Below w.heap.size w w.drew:=(Below.refl _ _).drew
   refine wp_mono (au (Q:=aK _) (fun wx:World=>Below w.heap.size w wx) (fun i=>false) (by kernel_rfl) ?_) (fun _ _ _ h=>aN h)
   generalize w.drew=wd at *
   refine ae (i:=0) (v:=?vv1) rfl (by kernel_rfl) (fun _ _ _ h=>h) rfl ?hy1 ?rest1
   case hy1=>(intro wy;go_simp;try with_reducible rfl)
   try simp only[Act.put,Dn,Dl,Dm,Di,Dk,Dj]
   refine ae (i:=1) (v:=?vv2) rfl (by kernel_rfl) (fun _ _ _ h=>h) rfl ?hy2 ?rest2
   case hy2=>(intro wy;go_simp;try with_reducible rfl)
   try simp only[Act.put,Dn,Dl,Dm,Di,Dk,Dj]
   refine ae (i:=2) (v:=?vv3) rfl (by kernel_rfl) (fun _ _ _ h=>h) rfl ?hy3 ?rest3
   case hy3=>(intro wy;go_simp;try with_reducible rfl)
   try simp only[Act.put,Dn,Dl,Dm,Di,Dk,Dj]
   refine ae (i:=3) (v:=?vv4) rfl (by kernel_rfl) (fun _ _ _ h=>h) rfl ?hy4 ?rest4
   case hy4=>(intro wy;go_simp;try with_reducible rfl)
   try simp only[Act.put,Dn,Dl,Dm,Di,Dk,Dj]
   refine ae (i:=4) (v:=?vv5) rfl (by kernel_rfl) (fun _ _ _ h=>h) rfl ?hy5 ?rest5
   case hy5=>(intro wy;go_simp;try with_reducible rfl)
   try simp only[Act.put,Dn,Dl,Dm,Di,Dk,Dj]
   refine ak (i:=5) (v:=?vvA) rfl (by kernel_rfl) (fun _ _ _ h=>h) rfl hS ?hyA ?restA
   case hyA =>
    intro wy hy
    have e2:=(hy.cell (p:=⟨b,_,none⟩) hbw).trans q2
    have e3:=(hy.cell (p:=⟨b,_,none⟩) hbw).trans q3
    have e4:=(hy.cell (p:=⟨b,_,none⟩) hbw).trans q4
    clear hy
    go_simp
    try with_reducible rfl
   try simp only[Act.put,Dn,Dl,Dm,Di,Dk,Dj]
   refine ae (i:=7) (v:=?vv6) rfl (by kernel_rfl) (fun _ _ _ h=>h) rfl ?hy6 ?rest6
   case hy6=>(intro wy;go_simp;try with_reducible rfl)
   try simp only[Act.put,Dn,Dl,Dm,Di,Dk,Dj]
   refine ae (i:=8) (v:=?vv7) rfl (by kernel_rfl) (fun _ _ _ h=>h) rfl ?hy7 ?rest7
   case hy7=>(intro wy;go_simp;try with_reducible rfl)
   try simp only[Act.put,Dn,Dl,Dm,Di,Dk,Dj]
   refine ae (i:=9) (v:=?vv8) rfl (by kernel_rfl) (fun _ _ _ h=>h) rfl ?hy8 ?rest8
   case hy8=>(intro wy;go_simp;try with_reducible rfl)
   try simp only[Act.put,Dn,Dl,Dm,Di,Dk,Dj]
   refine ae (i:=10) (v:=?vv9) rfl (by kernel_rfl) (fun _ _ _ h=>h) rfl ?hy9 ?rest9
   case hy9=>(intro wy;go_simp;try with_reducible rfl)
   try simp only[Act.put,Dn,Dl,Dm,Di,Dk,Dj]
   refine ak (i:=11) (v:=?vvB) rfl (by kernel_rfl) (fun _ _ _ h=>h) rfl hS ?hyB ?restB
   case hyB =>
    intro wy hy
    have e2:=(hy.cell (p:=⟨b,_,none⟩) hbw).trans q2
    have e3:=(hy.cell (p:=⟨b,_,none⟩) hbw).trans q3
    have e4:=(hy.cell (p:=⟨b,_,none⟩) hbw).trans q4
    clear hy
    go_simp
    try with_reducible rfl
   try simp only[Act.put,Dn,Dl,Dm,Di,Dk,Dj]
   refine iF (i:=6) (i':=12) rfl rfl (by kernel_rfl) rfl rfl (fun K hK=>?_) (fun K hK=>?_)
   ·go_simp
    refine (HC.out wd hS).mono ?_
    rintro e w4 ⟨v4,rfl,hE4,hb4⟩
    have hS4:=hS.trans (hb4.mono hS.size)
    have hEb:=hS.size
    refine hK _ _ (fun _ _=>hS4) ?_
    clear hK K
    try simp only[Act.put,Dn,Dl,Dm,Di,Dk,Dj]
    refine am (i:=12) rfl (by kernel_rfl) rfl (fun K hK=>?_)
    go_simp
    have l5:=bj w4 (.cells #[.int .i64 t.g,.int .i64 t.k] 53)
    have hBw:=hS4.trans (l5.below.mono hS4.size)
    have hEv:=eD (bD hE4 (fun q hq=>l5.below.block q (av hE4 hq).2.1)) hEb
    have hc0:=aa l5.s0 0
    have hc1:=aa l5.s0 1
    refine hK _ _ (fun _ _=>hBw) ?_
    clear hK K hS hS4 hE4 hb4 l5 hEb
    try simp only[Act.put,Dn,Dl,Dm,Di,Dk,Dj]
    generalize w4.alloc (.cells #[.int .i64 t.g,.int .i64 t.k] 53)=w5 at *
    refine am (i:=13) rfl (by kernel_rfl) rfl (fun K hK=>?_)
    refine uS _ _ rfl w.heap.size _ (j5 L j k) rfl hEv (by have:=hlen;omega) hBw.size w4.heap.size t rfl hc0 hc1 ?_
    intro gn cn w9 hE9 hg9
    have hB9:Below w.heap.size w w9:=hBw.grown hg9 hBw.size (fun q hq=>(av hEv hq).1)
    refine hK _ _ (fun _ _=>hB9) ?_
    clear hK K hEv hBw hg9 hc0 hc1
    try simp only[Act.put,Dn,Dl,Dm,Di,Dk,Dj]
    refine ae (i:=14) (v:=?vv10) rfl (by kernel_rfl) (fun _ _ _ h=>h) rfl ?hy10 ?rest10
    case hy10=>(intro wy;go_simp;try with_reducible rfl)
    try simp only[Act.put,Dn,Dl,Dm,Di,Dk,Dj]
    try simp only[Act.put,Dn,Dl,Dm,Di,Dk,Dj]
    refine aA (by kernel_rfl) ?_ _
    simp only[aK]
    go_wp2_with fail
    go_ret
    exact⟨_,rfl,by rw[HW.out];exact hE9,hB9⟩
   ·go_simp
    have l5:=bj wd (.cells #[.int .i64 t.g,.int .i64 t.k] 53)
    have hS5:=hS.trans (l5.below.mono hS.size)
    refine hK _ _ (fun _ _=>hS5) ?_
    clear hK K
    try simp only[Act.put,Dn,Dl,Dm,Di,Dk,Dj]
    refine am (i:=6) rfl (by kernel_rfl) rfl (fun K hK=>?_)
    go_simp
    refine (HC.out _ hS5).mono ?_
    rintro e w4 ⟨v4,rfl,hE4,hb4⟩
    have hBw:=hS5.trans (hb4.mono hS5.size)
    have hEv:=eD hE4 hS5.size
    have r5:=(hb4.block _ (ac l5.s0)).trans l5.s0
    have hc0:=aa r5 0
    have hc1:=aa r5 1
    refine hK _ _ (fun _ _=>hBw) ?_
    clear hK K hS hS5 hE4 hb4 l5 r5
    try simp only[Act.put,Dn,Dl,Dm,Di,Dk,Dj]
    refine am (i:=13) rfl (by kernel_rfl) rfl (fun K hK=>?_)
    refine uS _ _ rfl w.heap.size _ (j5 L j k) rfl hEv (by have:=hlen;omega) hBw.size wd.heap.size t rfl hc0 hc1 ?_
    intro gn cn w9 hE9 hg9
    have hB9:Below w.heap.size w w9:=hBw.grown hg9 hBw.size (fun q hq=>(av hEv hq).1)
    refine hK _ _ (fun _ _=>hB9) ?_
    clear hK K hEv hBw hg9 hc0 hc1
    try simp only[Act.put,Dn,Dl,Dm,Di,Dk,Dj]
    refine ae (i:=14) (v:=?vv11) rfl (by kernel_rfl) (fun _ _ _ h=>h) rfl ?hy11 ?rest11
    case hy11=>(intro wy;go_simp;try with_reducible rfl)
    try simp only[Act.put,Dn,Dl,Dm,Di,Dk,Dj]
    try simp only[Act.put,Dn,Dl,Dm,Di,Dk,Dj]
    refine aA (by kernel_rfl) ?_ _
    simp only[aK]
    go_wp2_with fail
    go_ret
    exact⟨_,rfl,by rw[HW.out];exact hE9,hB9⟩
theorem ib.at_key {x0:St}{R:List (St×aD)}{L:List (St×Int×Ev)} (h:ib x0 R L) {j:Nat} (hj:j<L.length):∃ q,R[j]?=some q∧q.1=L[j].1:=by
 have hl:=h.len
 have hk:=congrArg (fun l=>l[j]?) h.key
 simp only[az,DN,Dq hj,Dq (show j<R.length by omega),Fc] at hk
 exact⟨R[j],Dq (by omega),(Option.some.inj hk).symm⟩
theorem ib.srcs {x0:St}{R:List (St×aD)}{L:List (St×Int×Ev)} (h:ib x0 R L):∀ j (hj:j<L.length),L[j].2.1<0∨∃ k:Nat,k<j∧L[j].2.1=(k:Int):=by
 intro j hj
 by_cases h0:j=0
 ·subst h0
  obtain⟨v,hv⟩:=h.zero
  rw[Dq hj] at hv
  left
  rw[Option.some.inj hv]
  show (-1:Int)<0
  decide
 ·right
  obtain⟨k,h1,h2,_⟩:=h.src j _ (by omega) (Dq hj)
  exact⟨k,h1,h2⟩
theorem rc {M:aB} (G:M.Good) {al:Ev→Bool}{fd:St→Bool}{x:St} (hx:M.At x) {L:List (St×Int×Ev)} (hL:ib x (eK M x al) L) {i:Nat} (hi:i<L.length) (hf:fd L[i].1=true) (hn:∀ j (h:j<L.length),j<i→fd L[j].1=false) :
  (match aY M x al fd with | (some y,R)=>(gW R y,(0:Int)) | (none,_)=>([],4))=(j5 L (i+1) i,0):=by
 obtain⟨q,hq,hqk⟩:=hL.at_key hi
 rcases lj G (al:=al) (fd:=fd) hx with ⟨i0,p,h1,h2,h3,R,h4,h5⟩ | ⟨h1,R,h4⟩
 ·have hi0:i0=i:=by
   rcases F6 i0 i with h | h | h
   ·exfalso
    obtain⟨q0,hq0,hk0⟩:=hL.at_key (show i0<L.length by omega)
    rw[h1] at hq0
    have e:=Option.some.inj hq0
    have:=hn i0 (by omega) h
    rw[←hk0,←e,h2] at this
    cases this
   ·exact h
   ·exfalso
    have:=h3 i q h hq
    rw[hqk,hf] at this
    cases this
  subst hi0
  rw[h4]
  simp only
  rw[h5,CA (nM G hx) hL i0 p h1 (i0+1) (by omega)]
 ·exfalso
  have:=h1 i q hq
  rw[hqk,hf] at this
  cases this
theorem tg {M:aB} (G:M.Good) {al:Ev→Bool}{fd:St→Bool}{x:St} (hx:M.At x) {L:List (St×Int×Ev)} (hL:ib x (eK M x al) L) (hn:∀ j (h:j<L.length),fd L[j].1=false) :
  (match aY M x al fd with | (some y,R)=>(gW R y,(0:Int)) | (none,_)=>([],4))=([],4):=by
 rcases lj G (al:=al) (fd:=fd) hx with ⟨i0,p,h1,h2,h3,R,h4,h5⟩ | ⟨h1,R,h4⟩
 ·exfalso
  have hl:=hL.len
  have hi0:=(Du.1 h1).1
  obtain⟨q,hq,hk⟩:=hL.at_key (show i0<L.length by omega)
  rw[h1] at hq
  have:=hn i0 (by omega)
  rw[←hk,←Option.some.inj hq,h2] at this
  cases this
 ·rw[h4]
def lA (M:aB) (g:Nat) (w:World) (bk:Nat):Prop:=∃ cur,w.heap[bk]?=some (.cells cur 3 (0,0))∧∀ k f l,k<8→f<4→l≤8→∃ v,cur[(k*4+f)*9+l]?=some (.int .i64 v)∧(v=-1∨v=aI M g k f l)
theorem lA.get {M:aB}{g:Nat}{w:World}{bk:Nat} (h:lA M g w bk) {k f l:Nat} (hk:k<8) (hf:f<4) (hl:l≤8):∃ v,w.cell? ⟨bk,(k*4+f)*9+l,none⟩=some (.int .i64 v)∧(v=-1∨v=aI M g k f l):=by
 obtain⟨cur,h1,h2⟩:=h
 obtain⟨v,h3,h4⟩:=h2 k f l hk hf hl
 exact⟨v,(cell_of_row w bk _ cur _ _ h1).trans h3,h4⟩
theorem lA.same {M:aB}{g:Nat}{w w':World}{bk:Nat} (h:lA M g w bk) (hs:w'.heap[bk]?=w.heap[bk]?):lA M g w' bk:=by
 obtain⟨cur,h1,h2⟩:=h
 exact⟨cur,hs.trans h1,h2⟩
theorem lA.lt {M:aB}{g:Nat}{w:World}{bk:Nat} (h:lA M g w bk):bk<w.heap.size:=by
 obtain⟨cur,h1,h2⟩:=h
 exact aw h1
theorem lA.put {M:aB}{g:Nat}{w:World}{bk:Nat} (h:lA M g w bk) {k f l:Nat} (hk:k<8) (hf:f<4) (hl:l≤8):lA M g (w.setCell ⟨bk,(k*4+f)*9+l,none⟩ (.int .i64 (aI M g k f l))) bk:=by
 obtain⟨cur,h1,h2⟩:=h
 refine⟨_,heap_setCell_same w bk _ _ _ _ h1,fun k2 f2 l2 hk2 hf2 hl2=>?_⟩
 obtain⟨v,h3,h4⟩:=h2 k2 f2 l2 hk2 hf2 hl2
 by_cases e:(k2*4+f2)*9+l2=(k*4+f)*9+l
 ·have e1:k2=k:=by omega
  have e2:f2=f:=by omega
  have e3:l2=l:=by omega
  subst e1 e2 e3
  have:=(Dt.1 h3).1
  exact⟨_,by simp[FP,this],Or.inr rfl⟩
 ·exact⟨v,by rw[FK (fun e2=>e e2.symm)];exact h3,h4⟩
structure iH (w0 w:World) (gs:List Gd) (g:Nat) (q:Option Addr) (cq bT bk ck:Nat) (nm:ByteArray):Prop where
 bl:Below w0.heap.size w0 w
 row:w.heap[bT]?=some (.cells #[.string nm,.slice q (ag gs g).length cq,.slice (some ⟨bk,0,none⟩) 288 ck] 123 (0,0))
 hT:w0.heap.size≤bT
 hk:w0.heap.size≤bk
 ne:bT≠bk
 tab:lA (ah gs) g w bk
theorem iH.below {w0 w w':World}{gs:List Gd}{g:Nat}{q:Option Addr}{cq bT bk ck:Nat}{nm:ByteArray} (h:iH w0 w gs g q cq bT bk ck nm) (hb:Below w.heap.size w w'):iH w0 w' gs g q cq bT bk ck nm :=
 ⟨h.bl.trans (hb.mono h.bl.size),(hb.block _ (aw h.row)).trans h.row,h.hT,h.hk,h.ne,h.tab.same (hb.block _ h.tab.lt)⟩
theorem iH.go {w0 w w':World}{gs:List Gd}{g:Nat}{q:Option Addr}{cq bT bk ck:Nat}{nm:ByteArray} (h:iH w0 w gs g q cq bT bk ck nm) (hg:w.grownBy w' (some bk)) (ht:lA (ah gs) g w' bk):iH w0 w' gs g q cq bT bk ck nm :=
 ⟨h.bl.grown hg h.bl.size (fun k hk=>by cases hk;exact h.hk),(hg.block _ (aw h.row) (fun e=>h.ne (Option.some.inj e))).trans h.row,h.hT,h.hk,h.ne,ht⟩
structure nj (w:World) (bT b9:Nat) (RT R9:Array Value):Prop where
 rT:w.heap[bT]?=some (.cells RT 123 (0,0))
 r9:w.heap[b9]?=some (.cells R9 59 (0,0))
theorem nj.below {w w':World}{bT b9:Nat}{RT R9:Array Value} (h:nj w bT b9 RT R9) (hb:Below w.heap.size w w'):nj w' bT b9 RT R9:=⟨(hb.block _ (aw h.rT)).trans h.rT,(hb.block _ (aw h.r9)).trans h.r9⟩
theorem nj.go {w w':World}{bT b9 bk:Nat}{RT R9:Array Value} (h:nj w bT b9 RT R9) (hg:w.grownBy w' (some bk)) (h1:bT≠bk) (h2:b9≠bk):nj w' bT b9 RT R9 :=
 ⟨(hg.block _ (aw h.rT) (fun e=>h1 (Option.some.inj e))).trans h.rT,(hg.block _ (aw h.r9) (fun e=>h2 (Option.some.inj e))).trans h.r9⟩
theorem nO (w:World) (a:Addr) (u:Value):w.grownBy (w.setCell a u) (some a.block) :=
 ⟨rfl,rfl,rfl,by simp[World.setCell],fun k _ hk=>heap_setCell_other _ _ _ _ (fun e=>hk (by rw[e]))⟩
def WRQ (gs:List Gd) (g k f left bk:Nat) (w:World) (e:Ending) (w':World):Prop :=
 e=.returned (.int .i64 (aI (ah gs) g k f left))∧w.grownBy w' (some bk)∧lA (ah gs) g w' bk
theorem uN (gs:List Gd) (hS:a8 gs=true) (g:Nat) (hg:g<gs.length) (w0:World) (q:Option Addr) (cq bT bk ck:Nat) (nm:ByteArray) (hR:cQ w0 q (ag gs g)) :
  ∀ (n:Nat) (k f left:Nat),k<(ag gs g).length→(f:Int)<(ah gs).tries g k→left≤8→fX (ah gs) g (k,f,left)=n→∀ (w:World),iH w0 w gs g q cq bT bk ck nm →
   Calls Tryz.prog 65 #[.pointer (some ⟨bT,0,none⟩),.int .i64 k,.int .i64 f,.int .i64 left] w (WRQ gs g k f left bk w):=by
 intro n
 induction n using Nat.strongRecOn with
 | ind n IH =>
 intro k f left hk hf hl hn w E
 have IH':=Do IH
 have HR:=Do hR
 have G:=Do (aV hS)
 have Ld:=Do (sE hS hg)
 have hkr:k<(ah gs).rungs g:=hk
 have hk8:k<8:=by have:=G.out.r8 g hg;omega
 have htr:=G.out.tries g k hg hkr
 have hf4:f<4:=by omega
 have HWS:=Do (fun h=>fj Ld.out hkr (f:=f) (left:=left) h)
 have HWG:=Do (fun h=>mN (M:=ah gs) (g:=g) (k:=k) (f:=f) (left:=left) h)
 obtain⟨b,o,rfl,hb,hc⟩:=hR.at_ (by omega)
 obtain⟨q1,c1,q2,c2,hr⟩:=hc _ hk
 rw[←lh hk] at hr
 obtain⟨r,hre⟩:∃ r,r=aO gs g k:=⟨_,rfl⟩
 rw[←hre] at hr
 have HRG:=Do hre
 have HN:=Do hn
 have hrw:=hr.below hb E.bl
 have hb:=Dr hb E.bl.size
 have d0:=hrw.d0;have d1:=hrw.d1;have d2:=hrw.d2;have d3:=hrw.d3;have d4:=hrw.d4;have d5:=hrw.d5;have d6:=hrw.d6
 have x0:=aa E.row 0;have x1:=aa E.row 1;have x2:=aa E.row 2
 have hkI:(k:Int)<((ag gs g).length:Int):=by omega
 have l1:=bj w (.cells #[.string r.name,.string r.next,.string r.back,.int .i64 r.tries,.int .i64 r.minutes,.slice q1 r.needs.length c1,.slice q2 r.loops.length c2] 59)
 clear hn IH hR hre hc hr hrw
 go_enter Tryz.func65,Tryz.ntmps65
 go_upto_region 2 with fail
 have E1:=E.below l1.below
 have hg1:w.grownBy (w.alloc (.cells #[.string r.name,.string r.next,.string r.back,.int .i64 r.tries,.int .i64 r.minutes,.slice q1 r.needs.length c1,.slice q2 r.loops.length c2] 59)) (some bk):=eF l1.below
 have s9:=l1.s0
 clear d0 d1 d2 d3 d4 d5 d6 x0 x1 x2 E l1 hkI hb
 generalize w.alloc (.cells #[.string r.name,.string r.next,.string r.back,.int .i64 r.tries,.int .i64 r.minutes,.slice q1 r.needs.length c1,.slice q2 r.loops.length c2] 59)=w1 at *
 generalize w.heap.size=b9 at *
 have z1:=aa s9 1
 have HNI:=Do (show r.next.data.toList=[]↔(ah gs).next g k<0 by rw[HRG.out];exact oc hS hg hk)
 by_cases hne:r.next.data.toList=[]
 ·have y1:(r.next.toList == [])=true:=by rw[aj];simpa using hne
  have y2:(r.next.toList != [])=false:=by rw[aj];simpa using hne
  have HNN:=Do (HWG.out (HNI.out.1 hne))
  clear hne
  go_wp2_with fail
  go_ret
  exact⟨by rw[HNN.out];rfl,hg1,E1.tab⟩
 ·have y1:(r.next.toList == [])=false:=by rw[aj];simpa using hne
  have y2:(r.next.toList != [])=true:=by rw[aj];simpa using hne
  have HNN:=Do (show 0≤(ah gs).next g k from F7.1 (fun h=>hne (HNI.out.2 h)))
  clear hne
  obtain⟨ix,hix0⟩:∃ ix,ix=(k*4+f)*9+left:=⟨_,rfl⟩
  have hix:((k:Int)*4+f)*9+left=(ix:Int):=by rw[hix0];push_cast;rfl
  have HIX:=Do hix0
  have hix2:ix<288:=by omega
  have hix3:(ix:Int)<288:=by omega
  obtain⟨v,hv,hv2⟩:=E1.tab.get hk8 hf4 hl
  rw[←hix0] at hv
  have HV:=Do hv2
  have x1:=aa E1.row 1
  have x2:=aa E1.row 2
  clear hix0 hv2
  by_cases hv0:0≤v
  ·have hd:decide (0≤v)=true:=decide_eq_true hv0
   have HVW:=Do (show v=aI (ah gs) g k f left by rcases HV.out with h | h;omega;exact h)
   clear hv0
   go_wp2_with fail
   go_ret
   exact⟨by rw[←HVW.out];rfl,hg1,E1.tab⟩
  ·have hd:decide (0≤v)=false:=decide_eq_false hv0
   clear hv0
   have hne9:b9≠bk:=fun e=>by
    obtain⟨cur,h1,_⟩:=E1.tab
    rw[←e,s9] at h1
    cases h1
   obtain⟨nk,hnk⟩:∃ nk:Nat,(ah gs).next g k=(nk:Int):=⟨((ah gs).next g k).toNat,by have:=HNN.out;omega⟩
   have hnkl:nk<(ag gs g).length:=by have:=G.out.next g k hg hkr;rw[hnk] at this;have h2:(ah gs).rungs g=(ag gs g).length:=rfl;omega
   have HNK:=Do hnk
   have HFN:Hid (aG (ag gs g) r.next.data.toList=(nk:Int)):=by unfold Hid;rw[←hnk,HRG.out];rfl
   have hstep:=mH Ld.out hkr HNN.out
   rw[hnk,DC] at hstep
   have hlt1:fX (ah gs) g (nk,0,left)<n:=by rw[←HN.out];unfold fX;simp only;omega
   have htr1:=G.out.tries g nk hg hnkl
   have HI1:Hid (∀ w,iH w0 w gs g (some ⟨b,o,none⟩) cq bT bk ck nm→Calls Tryz.prog 65 #[.pointer (some ⟨bT,0,none⟩),.int .i64 nk,.int .i64 0,.int .i64 left] w (WRQ gs g nk 0 left bk w)):=fun w E=>IH'.out _ hlt1 nk 0 left hnkl (by omega) hl rfl w E
   have HR1:=Do (cZ Ld.out (k:=nk) (f:=0) (left:=left) hnkl hl)
   clear hnk hstep hlt1 htr1
   go_upto_region 7 with fail
   clear x1 x2 y1 y2 z1 hv hd hix
   have hS:nj w1.drew bT b9 #[.string nm,.slice (some ⟨b,o,none⟩) (ag gs g).length cq,.slice (some ⟨bk,0,none⟩) 288 ck] #[.string r.name,.string r.next,.string r.back,.int .i64 r.tries,.int .i64 r.minutes,.slice q1 r.needs.length c1,.slice q2 r.loops.length c2]:=(nj.mk E1.row s9).below (Below.refl _ _).drew
   have E2:=E1.below (Below.refl w1.heap.size w1).drew
   have hg2:=hg1.trans (eF (Below.refl w1.heap.size w1).drew)
   refine wp_mono (au (Q:=aK _) (fun wx:World=>nj wx bT b9 #[.string nm,.slice (some ⟨b,o,none⟩) (ag gs g).length cq,.slice (some ⟨bk,0,none⟩) 288 ck] #[.string r.name,.string r.next,.string r.back,.int .i64 r.tries,.int .i64 r.minutes,.slice q1 r.needs.length c1,.slice q2 r.loops.length c2]) (fun i=>false) (by kernel_rfl) ?_) (fun _ _ _ h=>aN h)
   clear E1 hg1 s9
   generalize w1.drew=wd at *
   refine ae (i:=0) (v:=?vv1) rfl (by kernel_rfl) (fun _ _ _ h=>h) rfl ?hy1 ?rest1
   case hy1=>(intro wy;go_simp;try with_reducible rfl)
   try simp only[Act.put,Dn,Dl,Dm,Di,Dk,Dj]
   refine ae (i:=1) (v:=?vv2) rfl (by kernel_rfl) (fun _ _ _ h=>h) rfl ?hy2 ?rest2
   case hy2=>(intro wy;go_simp;try with_reducible rfl)
   try simp only[Act.put,Dn,Dl,Dm,Di,Dk,Dj]
   refine ae (i:=8) (v:=?vv3) rfl (by kernel_rfl) (fun _ _ _ h=>h) rfl ?hy3 ?rest3
   case hy3=>(intro wy;go_simp;try with_reducible rfl)
   try simp only[Act.put,Dn,Dl,Dm,Di,Dk,Dj]
   refine ak (i:=2) (v:=?vvA) rfl (by kernel_rfl) (fun _ _ _ h=>h) rfl hS ?hyA ?restA
   case hyA =>
    intro wy hy
    have e0:=aa hy.rT 0;have e1:=aa hy.rT 1;have e2:=aa hy.r9 1;have e3:=aa hy.r9 2
    clear hy
    go_simp
    try with_reducible rfl
   try simp only[Act.put,Dn,Dl,Dm,Di,Dk,Dj]
   refine ak (i:=3) (v:=?vvB) rfl (by kernel_rfl) (fun _ _ _ h=>h) rfl hS ?hyB ?restB
   case hyB =>
    intro wy hy
    have e0:=aa hy.rT 0;have e1:=aa hy.rT 1;have e2:=aa hy.r9 1;have e3:=aa hy.r9 2
    clear hy
    go_simp
    try with_reducible rfl
   try simp only[Act.put,Dn,Dl,Dm,Di,Dk,Dj]
   refine ak (i:=4) (v:=?vvC) rfl (by kernel_rfl) (fun _ _ _ h=>h) rfl hS ?hyC ?restC
   case hyC =>
    intro wy hy
    have e0:=aa hy.rT 0;have e1:=aa hy.rT 1;have e2:=aa hy.r9 1;have e3:=aa hy.r9 2
    clear hy
    go_simp
    try with_reducible rfl
   try simp only[Act.put,Dn,Dl,Dm,Di,Dk,Dj]
   refine ak (i:=5) (v:=?vvD) rfl (by kernel_rfl) (fun _ _ _ h=>h) rfl hS ?hyD ?restD
   case hyD =>
    intro wy hy
    have e0:=aa hy.rT 0;have e1:=aa hy.rT 1;have e2:=aa hy.r9 1;have e3:=aa hy.r9 2
    clear hy
    go_simp
    try with_reducible rfl
   try simp only[Act.put,Dn,Dl,Dm,Di,Dk,Dj]
   refine ak (i:=6) (v:=?vvE) rfl (by kernel_rfl) (fun _ _ _ h=>h) rfl hS ?hyE ?restE
   case hyE =>
    intro wy hy
    have e0:=aa hy.rT 0;have e1:=aa hy.rT 1;have e2:=aa hy.r9 1;have e3:=aa hy.r9 2
    clear hy
    go_simp
    try with_reducible rfl
   try simp only[Act.put,Dn,Dl,Dm,Di,Dk,Dj]
   refine am (i:=7) rfl (by kernel_rfl) rfl (fun K hK=>?_)
   go_simp
   refine (ej nm (some ⟨b,o,none⟩) cq (ag gs g) r.next wd (HR.out.below E2.bl) (by have h1:=G.out.r8 g hg;have h2:(ah gs).rungs g=(ag gs g).length:=rfl;omega)).mono ?_
   rintro e w3 ⟨rfl,hb3⟩
   rw[HFN.out]
   have E3:=E2.below hb3
   have hS3:=hS.below hb3
   have hg3:=hg2.trans (eF hb3)
   refine hK _ _ (fun _ _=>hS3) ?_
   clear hK K hS hb3 E2 hg2
   have hS:=hS3
   clear hS3
   try simp only[Act.put,Dn,Dl,Dm,Di,Dk,Dj]
   refine am (i:=9) rfl (by kernel_rfl) rfl (fun K hK=>?_)
   go_simp
   refine (HI1.out w3 E3).mono ?_
   rintro e w4 ⟨rfl,hg4,ht4⟩
   have E4:=E3.go hg4 ht4
   have hS4:=hS.go hg4 E3.ne hne9
   have hg4:=hg3.trans hg4
   refine hK _ _ (fun _ _=>hS4) ?_
   clear hK K hS ht4 E3 hg3
   try simp only[Act.put,Dn,Dl,Dm,Di,Dk,Dj]
   refine ae (i:=10) (v:=?vv4) rfl (by kernel_rfl) (fun _ _ _ h=>h) rfl ?hy4 ?rest4
   case hy4=>(intro wy;go_simp;try with_reducible rfl)
   try simp only[Act.put,Dn,Dl,Dm,Di,Dk,Dj]
   try simp only[Act.put,Dn,Dl,Dm,Di,Dk,Dj]
   refine aA (by kernel_rfl) ?_ _
   simp only[aK]
   obtain⟨ta,hta⟩:∃ ta,ta=aI (ah gs) g nk 0 left:=⟨_,rfl⟩
   rw[←hta]
   have HTA:=Do hta
   have hta1:0≤ta∧ta≤5000:=by rw[hta];exact HR1.out
   have hmn:=G.out.mins g k hg hkr
   have HMN:Hid ((ah gs).mins g k=r.minutes):=by unfold Hid;rw[HRG.out];rfl
   rw[HMN.out] at hmn
   clear hta
   by_cases hl0:left=0
   ·have hd:decide (0<left)=false:=decide_eq_false (by omega)
    have HEND:Hid (ta+r.minutes=aI (ah gs) g k f left):=by
     unfold Hid
     have:=oQ (f:=f) Ld.out hkr HNN.out hl0
     rw[HNK.out,DC] at this
     rw[this,HTA.out,HMN.out]
    clear hl0
    go_upto_region 13 with fail
    have x2:=aa E4.row 2
    have z4:=aa hS4.r9 4
    obtain⟨cur,ht1,ht2⟩:=E4.tab
    obtain⟨v2,ht3,_⟩:=ht2 k f left hk8 hf4 hl
    rw[←HIX.out] at ht3
    have hv:=(cell_of_row w4 bk ix cur _ _ ht1).trans ht3
    have hfr:=frozen_of_row w4 bk ix _ _ ht1
    have hws:IntKind.i64.wrap (ta+r.minutes)=ta+r.minutes:=IntWalk.i64_in _ (by omega)
    clear ht2 ht3
    go_wp2_with fail
    go_ret
    have htb:=E4.tab.put hk8 hf4 hl
    rw[←HIX.out,←HEND.out] at htb
    exact⟨by rw[←HEND.out];rfl,hg4.trans (nO w4 ⟨bk,ix,none⟩ _),htb⟩
   ·obtain⟨l,hll⟩:∃ l,left=l+1:=⟨left-1,by omega⟩
    have hd:decide (0<left)=true:=decide_eq_true (by omega)
    have hlm:(left:Int)-1=(l:Int):=by omega
    have hl8:l≤8:=by omega
    have HLL:=Do hll
    have hrk:∀ k2 f2:Nat,fX (ah gs) g (k2,f2,l)<n:=fun k2 f2=>by
     rw[←HN.out];unfold fX;simp only
     have:=@qh (ah gs) g k2
     have:=@oE (ah gs) g k
     omega
    have HRK:=Do hrk
    have hr0:0<(ag gs g).length:=by omega
    have HI2:Hid (∀ w,iH w0 w gs g (some ⟨b,o,none⟩) cq bT bk ck nm→Calls Tryz.prog 65 #[.pointer (some ⟨bT,0,none⟩),.int .i64 0,.int .i64 0,.int .i64 l] w (WRQ gs g 0 0 l bk w)):=fun w E=>IH'.out _ (HRK.out 0 0) 0 0 l hr0 (by have:=G.out.tries g 0 hg hr0;omega) hl8 rfl w E
    have htb:=cZ Ld.out (k:=0) (f:=0) (left:=l) hr0 hl8
    clear hll hrk hl0
    go_wp2_with fail
    refine (HI2.out w4 E4).mono ?_
    rintro e w5 ⟨rfl,hg5,ht5⟩
    have E5:=E4.go hg5 ht5
    have hS5:=hS4.go hg5 E4.ne hne9
    have hg5:=hg4.trans hg5
    clear E4 hS4 hg4 ht5
    obtain⟨tb,htb2⟩:∃ tb,tb=aI (ah gs) g 0 0 l:=⟨_,rfl⟩
    rw[←htb2]
    rw[←htb2] at htb
    have HTB:=Do htb2
    obtain⟨tc,htc⟩:∃ tc,tc=max ta tb:=⟨_,rfl⟩
    have htc2:0≤tc∧tc≤5000:=by omega
    have hmx:max ta tb=tc:=htc.symm
    have HTC:=Do htc
    have z3:=aa hS5.r9 3
    clear htb2 htc
    have HTR:Hid ((ah gs).tries g k=r.tries):=by unfold Hid;rw[HRG.out];rfl
    by_cases hft:(f:Int)+1=r.tries
    ·have hd2:((f:Int)+1 == r.tries)=true:=by simp[hft]
     have hbk:=BL G.out hg hkr
     obtain⟨nb,hnb⟩:∃ nb:Nat,(ah gs).back g k=(nb:Int):=⟨((ah gs).back g k).toNat,by omega⟩
     have hnbl:nb<(ag gs g).length:=by have h2:(ah gs).rungs g=(ag gs g).length:=rfl;omega
     have HNB:=Do hnb
     have HFB:Hid (aG (ag gs g) r.back.data.toList=(nb:Int)):=by unfold Hid;rw[←hnb,HRG.out];rfl
     have HI3:Hid (∀ w,iH w0 w gs g (some ⟨b,o,none⟩) cq bT bk ck nm→Calls Tryz.prog 65 #[.pointer (some ⟨bT,0,none⟩),.int .i64 nb,.int .i64 0,.int .i64 l] w (WRQ gs g nb 0 l bk w)):=fun w E=>IH'.out _ (HRK.out nb 0) nb 0 l hnbl (by have:=G.out.tries g nb hg hnbl;omega) hl8 rfl w E
     have htd:=cZ Ld.out (k:=nb) (f:=0) (left:=l) hnbl hl8
     have HEN0:Hid (max (max (aI (ah gs) g nk 0 left) (aI (ah gs) g 0 0 l)) (aI (ah gs) g nb 0 l)+r.minutes=aI (ah gs) g k f left):=by
      unfold Hid
      have:=oR (f:=f) Ld.out hkr HNN.out HLL.out (by rw[HTR.out];omega)
      rw[HNK.out,DC,hnb,DC] at this
      rw[this,HMN.out]
     clear hft hbk hnb
     go_upto_region 11 with fail
     clear z3 hd2 hd hmx
     have hS:nj w5.drew bT b9 #[.string nm,.slice (some ⟨b,o,none⟩) (ag gs g).length cq,.slice (some ⟨bk,0,none⟩) 288 ck] #[.string r.name,.string r.next,.string r.back,.int .i64 r.tries,.int .i64 r.minutes,.slice q1 r.needs.length c1,.slice q2 r.loops.length c2]:=hS5.below (Below.refl _ _).drew
     have E6:=E5.below (Below.refl w5.heap.size w5).drew
     have hg6:=hg5.trans (eF (Below.refl w5.heap.size w5).drew)
     refine wp_mono (au (Q:=aK _) (fun wx:World=>nj wx bT b9 #[.string nm,.slice (some ⟨b,o,none⟩) (ag gs g).length cq,.slice (some ⟨bk,0,none⟩) 288 ck] #[.string r.name,.string r.next,.string r.back,.int .i64 r.tries,.int .i64 r.minutes,.slice q1 r.needs.length c1,.slice q2 r.loops.length c2]) (fun i=>false) (by kernel_rfl) ?_) (fun _ _ _ h=>aN h)
     clear E5 hg5 hS5
     generalize w5.drew=wd at *
     refine ae (i:=0) (v:=?vv5) rfl (by kernel_rfl) (fun _ _ _ h=>h) rfl ?hy5 ?rest5
     case hy5=>(intro wy;go_simp;try with_reducible rfl)
     try simp only[Act.put,Dn,Dl,Dm,Di,Dk,Dj]
     refine ae (i:=1) (v:=?vv6) rfl (by kernel_rfl) (fun _ _ _ h=>h) rfl ?hy6 ?rest6
     case hy6=>(intro wy;go_simp;try with_reducible rfl)
     try simp only[Act.put,Dn,Dl,Dm,Di,Dk,Dj]
     refine ae (i:=2) (v:=?vv7) rfl (by kernel_rfl) (fun _ _ _ h=>h) rfl ?hy7 ?rest7
     case hy7=>(intro wy;go_simp;try with_reducible rfl)
     try simp only[Act.put,Dn,Dl,Dm,Di,Dk,Dj]
     refine ae (i:=9) (v:=?vv8) rfl (by kernel_rfl) (fun _ _ _ h=>h) rfl ?hy8 ?rest8
     case hy8=>(intro wy;go_simp;try with_reducible rfl)
     try simp only[Act.put,Dn,Dl,Dm,Di,Dk,Dj]
     refine ae (i:=10) (v:=?vv9) rfl (by kernel_rfl) (fun _ _ _ h=>h) rfl ?hy9 ?rest9
     case hy9=>(intro wy;go_simp;try with_reducible rfl)
     try simp only[Act.put,Dn,Dl,Dm,Di,Dk,Dj]
     clear hlm
     refine ak (i:=3) (v:=?vvF) rfl (by kernel_rfl) (fun _ _ _ h=>h) rfl hS ?hyF ?restF
     case hyF =>
      intro wy hy
      have e0:=aa hy.rT 0;have e1:=aa hy.rT 1;have e2:=aa hy.r9 1;have e3:=aa hy.r9 2
      clear hy
      go_simp
      try with_reducible rfl
     try simp only[Act.put,Dn,Dl,Dm,Di,Dk,Dj]
     refine ak (i:=4) (v:=?vvG) rfl (by kernel_rfl) (fun _ _ _ h=>h) rfl hS ?hyG ?restG
     case hyG =>
      intro wy hy
      have e0:=aa hy.rT 0;have e1:=aa hy.rT 1;have e2:=aa hy.r9 1;have e3:=aa hy.r9 2
      clear hy
      go_simp
      try with_reducible rfl
     try simp only[Act.put,Dn,Dl,Dm,Di,Dk,Dj]
     refine ak (i:=5) (v:=?vvH) rfl (by kernel_rfl) (fun _ _ _ h=>h) rfl hS ?hyH ?restH
     case hyH =>
      intro wy hy
      have e0:=aa hy.rT 0;have e1:=aa hy.rT 1;have e2:=aa hy.r9 1;have e3:=aa hy.r9 2
      clear hy
      go_simp
      try with_reducible rfl
     try simp only[Act.put,Dn,Dl,Dm,Di,Dk,Dj]
     refine ak (i:=6) (v:=?vvI) rfl (by kernel_rfl) (fun _ _ _ h=>h) rfl hS ?hyI ?restI
     case hyI =>
      intro wy hy
      have e0:=aa hy.rT 0;have e1:=aa hy.rT 1;have e2:=aa hy.r9 1;have e3:=aa hy.r9 2
      clear hy
      go_simp
      try with_reducible rfl
     try simp only[Act.put,Dn,Dl,Dm,Di,Dk,Dj]
     refine ak (i:=7) (v:=?vvJ) rfl (by kernel_rfl) (fun _ _ _ h=>h) rfl hS ?hyJ ?restJ
     case hyJ =>
      intro wy hy
      have e0:=aa hy.rT 0;have e1:=aa hy.rT 1;have e2:=aa hy.r9 1;have e3:=aa hy.r9 2
      clear hy
      go_simp
      try with_reducible rfl
     try simp only[Act.put,Dn,Dl,Dm,Di,Dk,Dj]
     refine am (i:=8) rfl (by kernel_rfl) rfl (fun K hK=>?_)
     go_simp
     refine (ej nm (some ⟨b,o,none⟩) cq (ag gs g) r.back wd (HR.out.below E6.bl) (by have h1:=G.out.r8 g hg;have h2:(ah gs).rungs g=(ag gs g).length:=rfl;omega)).mono ?_
     rintro e w7 ⟨rfl,hb7⟩
     rw[HFB.out]
     have E7:=E6.below hb7
     have hS7:=hS.below hb7
     have hg7:=hg6.trans (eF hb7)
     refine hK _ _ (fun _ _=>hS7) ?_
     clear hK K hS hb7 E6 hg6
     have hS:=hS7
     clear hS7
     try simp only[Act.put,Dn,Dl,Dm,Di,Dk,Dj]
     refine am (i:=11) rfl (by kernel_rfl) rfl (fun K hK=>?_)
     go_simp
     rw[show IntKind.i64.wrap (l:Int)=(l:Int) from IntWalk.i64_in _ (by omega)]
     refine (HI3.out w7 E7).mono ?_
     rintro e w8 ⟨rfl,hg8,ht8⟩
     have E8:=E7.go hg8 ht8
     have hS8:=hS.go hg8 E7.ne hne9
     have hg8:=hg7.trans hg8
     refine hK _ _ (fun _ _=>hS8) ?_
     clear hK K hS ht8 E7 hg7
     obtain⟨td,htd2⟩:∃ td,td=aI (ah gs) g nb 0 l:=⟨_,rfl⟩
     rw[←htd2]
     rw[←htd2] at htd
     have HTD:=Do htd2
     obtain⟨te,hte⟩:∃ te,te=max tc td:=⟨_,rfl⟩
     have hte2:0≤te∧te≤5000:=by omega
     have hmx2:max tc td=te:=hte.symm
     have HEND:Hid (te+r.minutes=aI (ah gs) g k f left):=by
      unfold Hid
      rw[←HEN0.out,hte,HTC.out,HTA.out,HTB.out,HTD.out]
     clear htd2 hte
     try simp only[Act.put,Dn,Dl,Dm,Di,Dk,Dj]
     refine ae (i:=12) (v:=?vv10) rfl (by kernel_rfl) (fun _ _ _ h=>h) rfl ?hy10 ?rest10
     case hy10=>(intro wy;go_simp;try with_reducible rfl)
     try simp only[Act.put,Dn,Dl,Dm,Di,Dk,Dj]
     refine ae (i:=13) (v:=?vv11) rfl (by kernel_rfl) (fun _ _ _ h=>h) rfl ?hy11 ?rest11
     case hy11=>(intro wy;go_simp;try with_reducible rfl)
     try simp only[Act.put,Dn,Dl,Dm,Di,Dk,Dj]
     try simp only[Act.put,Dn,Dl,Dm,Di,Dk,Dj]
     refine aA (by kernel_rfl) ?_ _
     simp only[aK]
     clear hmx2
     have x2:=aa E8.row 2
     have z4:=aa hS8.r9 4
     obtain⟨cur,ht1,ht2⟩:=E8.tab
     obtain⟨v2,ht3,_⟩:=ht2 k f left hk8 hf4 hl
     rw[←HIX.out] at ht3
     have hv:=(cell_of_row w8 bk ix cur _ _ ht1).trans ht3
     have hfr:=frozen_of_row w8 bk ix _ _ ht1
     have hws:IntKind.i64.wrap (te+r.minutes)=te+r.minutes:=IntWalk.i64_in _ (by omega)
     clear ht2 ht3
     go_wp2_with fail
     go_ret
     have htb:=E8.tab.put hk8 hf4 hl
     rw[←HIX.out,←HEND.out] at htb
     exact⟨by rw[←HEND.out];rfl,hg8.trans (nO w8 ⟨bk,ix,none⟩ _),htb⟩
    ·have hd2:((f:Int)+1 == r.tries)=false:=by simp[hft]
     have hf5:((f+1:Nat):Int)<(ah gs).tries g k:=by have:=HTR.out;omega
     have HI3:Hid (∀ w,iH w0 w gs g (some ⟨b,o,none⟩) cq bT bk ck nm→Calls Tryz.prog 65 #[.pointer (some ⟨bT,0,none⟩),.int .i64 k,.int .i64 ((f:Int)+1),.int .i64 l] w (WRQ gs g k (f+1) l bk w)):=fun w E=>IH'.out _ (HRK.out k (f+1)) k (f+1) l hk hf5 hl8 rfl w E
     have htd:=cZ Ld.out (k:=k) (f:=f+1) (left:=l) hkr hl8
     have HEN0:Hid (max (max (aI (ah gs) g nk 0 left) (aI (ah gs) g 0 0 l)) (aI (ah gs) g k (f+1) l)+r.minutes=aI (ah gs) g k f left):=by
      unfold Hid
      have:=oS (f:=f) Ld.out hkr HNN.out HLL.out (by rw[HTR.out];omega)
      rw[HNK.out,DC] at this
      rw[this,HMN.out]
     clear hft hf5
     go_upto_region 12 with fail
     clear z3 hd2 hd hmx
     go_wp2_with fail
     clear hlm
     refine (HI3.out w5 E5).mono ?_
     rintro e w8 ⟨rfl,hg8,ht8⟩
     have E8:=E5.go hg8 ht8
     have hS8:=hS5.go hg8 E5.ne hne9
     have hg8:=hg5.trans hg8
     clear ht8 E5 hg5 hS5
     obtain⟨td,htd2⟩:∃ td,td=aI (ah gs) g k (f+1) l:=⟨_,rfl⟩
     rw[←htd2]
     rw[←htd2] at htd
     have HTD:=Do htd2
     obtain⟨te,hte⟩:∃ te,te=max tc td:=⟨_,rfl⟩
     have hte2:0≤te∧te≤5000:=by omega
     have hmx2:max tc td=te:=hte.symm
     have HEND:Hid (te+r.minutes=aI (ah gs) g k f left):=by
      unfold Hid
      rw[←HEN0.out,hte,HTC.out,HTA.out,HTB.out,HTD.out]
     clear htd2 hte
     have x2:=aa E8.row 2
     have z4:=aa hS8.r9 4
     obtain⟨cur,ht1,ht2⟩:=E8.tab
     obtain⟨v2,ht3,_⟩:=ht2 k f left hk8 hf4 hl
     rw[←HIX.out] at ht3
     have hv:=(cell_of_row w8 bk ix cur _ _ ht1).trans ht3
     have hfr:=frozen_of_row w8 bk ix _ _ ht1
     have hws:IntKind.i64.wrap (te+r.minutes)=te+r.minutes:=IntWalk.i64_in _ (by omega)
     clear ht2 ht3
     go_wp2_with fail
     go_ret
     have htb:=E8.tab.put hk8 hf4 hl
     rw[←HIX.out,←HEND.out] at htb
     exact⟨by rw[←HEND.out];rfl,hg8.trans (nO w8 ⟨bk,ix,none⟩ _),htb⟩
theorem wL (gs:List Gd) (p:Option Addr) (c:Nat) (pa:Option Addr) (ca:Nat) (pf:Option Addr) (nf cf:Nat) (y:St) (w:World) (hP:fm w p c gs) (hA:aU w (.slice pa gs.length ca) (atL gs.length y)) (hS:a8 gs=true) (hy:(ah gs).At y) :
  Calls Tryz.prog 63 #[.agg #[.slice p gs.length c],.agg #[.slice pa gs.length ca,.slice pf nf cf]] w fun e w'=>e=.returned (.bool (fB (ah gs) y))∧Below w.heap.size w w':=by
 have hl:=j_ w (.cells #[.slice p gs.length c] 24) (.cells #[.slice pa gs.length ca,.slice pf nf cf] 41)
 have HP:=Do (hP.below hl.below)
 have HA:=Do (hA.below hl.below)
 have HSy:=Do hS
 have HY:=Do hy
 obtain⟨hn1,hn3⟩:=bN hS
 clear hP hA hS hy
 go_enter Tryz.func63,Tryz.ntmps63
 go_upto_region 1 with fail
 generalize (w.alloc (.cells #[.slice p gs.length c] 24)).alloc (.cells #[.slice pa gs.length ca,.slice pf nf cf] 41)=w1 at *
 have r0:=hl.s0
 have r1:=hl.s1
 have HB1:=hl.below
 clear hl
 go_wp2_with fail
 go_loopw [5] (fun s5 wx=>∃ i:Nat,s5=.int .i64 i∧i≤gs.length∧Below w1.heap.size w1 wx∧Hid (∀ j,j<i→(ah gs).next j (y.a j).toNat<0)) (fun s5 _=>gs.length-(intOf s5).toNat)
 case atStart=>exact⟨0,rfl,by omega,Below.refl _ _,fun j hj=>by omega⟩
 case round =>
  obtain⟨i,rfl,hi,hb,hnx⟩:=hrel
  have k0:=(hb.block _ (ac r0)).trans r0
  have k1:=(hb.block _ (ac r1)).trans r1
  have x0:=aa k0 0
  have x1:=aa k1 0
  have x2:=aa k1 1
  by_cases hil:i<gs.length
  ·have hiI:(i:Int)<(gs.length:Int):=by omega
   obtain⟨qa,da,qb,db,_,_,HC⟩:=np (pf:=pf) (nf:=nf) (cf:=cf) (c:=c) (HP.out.below hb).G (HA.out.below hb) HSy.out HY.out hil
   have hkr:(y.a i).toNat<(ag gs i).length:=(qz HSy.out HY.out hil).2
   have HNI:=Do (oc HSy.out hil hkr)
   obtain⟨r,hr⟩:∃ r,r=aO gs i (y.a i).toNat:=⟨_,rfl⟩
   rw[←hr] at HC HNI
   clear hr hkr
   have hfd:=fun wx:World=>wG wx r.name r.next r.back r.tries r.minutes qa r.needs.length da qb r.loops.length db
   clear k0 k1
   go_wp2_with fail
   refine (HC _ (Below.refl _ _)).mono ?_
   rintro e w3 ⟨rfl,hb3⟩
   have hb:=hb.trans (hb3.mono hb.size)
   clear HC x0 x1 x2 hb3
   by_cases hne:r.next.data.toList=[]
   ·have z1:(r.next.toList == [])=true:=by rw[aj];simpa using hne
    have z2:(r.next.toList != [])=false:=by rw[aj];simpa using hne
    have HNN:=Do (HNI.out.1 hne)
    clear hne
    go_wp2_with fail
    exact⟨⟨i+1,by first | rfl | go_num,by omega,hb,fun j hj=>by
     by_cases h:j=i
     ·subst h;exact HNN.out
     ·exact hnx.out j (by omega)⟩,by simp[intOf];omega⟩
   ·have z1:(r.next.toList == [])=false:=by rw[aj];simpa using hne
    have z2:(r.next.toList != [])=true:=by rw[aj];simpa using hne
    have HNN:=Do (show fB (ah gs) y=false from sf hil (fun h=>hne (HNI.out.2 h)))
    clear hne
    go_wp2_with fail
    go_ret
    exact⟨by rw[HNN.out];rfl,HB1.trans (hb.mono HB1.size)⟩
  ·obtain rfl:i=gs.length:=by omega
   have HNN:=Do (show fB (ah gs) y=true from pN hnx.out)
   clear hil hi k0 k1 hnx
   go_wp2
   go_ret
   exact⟨by rw[HNN.out];rfl,HB1.trans (hb.mono HB1.size)⟩
theorem pF (R:List (St×aD)):∀ m x,(dc R m x).length≤m
 | 0,_=>Dp _
 | m+1,x=>by
  rw[dc]
  split
  ·exact DM _
  ·split
   ·exact DM _
   ·rw[DE];have:=pF R m;rename_i s _ _;have:=this s.src;omega
theorem uD {M:aB} (G:M.Good) {al:Ev→Bool}{fd:St→Bool}{x:St} (hx:M.At x):(match aY M x al fd with | (some y,R)=>(gW R y,(0:Int)) | (none,_)=>([],4)).1.length≤1000000:=by
 have h:=gi G (al:=al) (fd:=fd) hx
 revert h
 generalize aY M x al fd=res
 obtain⟨r,R⟩:=res
 cases r with
 | none=>intro _;exact DM _
 | some y =>
  intro h
  obtain⟨i,s,hI,_⟩:=h.ex
  have h1:=dI G hI
  have h2:=pF R R.length y
  show (gW R y).length≤_
  unfold gW
  rw[List.length_reverse]
  omega
def CQ (w:World) (e:Ending) (w':World):Prop:=e=.returned (.bool true)∧Below w.heap.size w w'
end Go.Proofs.YtnkgbocdpngldaaGreatDoor
