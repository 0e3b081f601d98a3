/- Lemmas of this claim. -/
import Derived.Test.YtnkgbocdpngldaaGreatDoorXSys
import Derived.Test.YtnkgbocdpngldaaGreatDoorXRS5
import Derived.Test.YtnkgbocdpngldaaGreatDoorXRQ6
set_option linter.all false
set_option maxRecDepth 100000
set_option maxHeartbeats 8000000
namespace Go.Proofs.YtnkgbocdpngldaaGreatDoor
open Go.RowKit Dc Dg
def dx (l:List Rg):Nat→Nat→Bool
 | 0,_=>false
 | m+1,k=>match l[k]? with
  | none=>false
  | some r=>if r.next.data.toList=[] then true else if aE l r.next.data.toList<0 then false else dx l m (aE l r.next.data.toList).toNat
theorem g9 {l:List Rg}{m k:Nat} (h:k<l.length):dx l (m+1) k=if l[k].next.data.toList=[] then true else if aE l l[k].next.data.toList<0 then false else dx l m (aE l l[k].next.data.toList).toNat:=by
 rw[dx,C7 h]
def fQ (l:List Rg) (k:Nat) (r:Rg):Bool :=
 !(decide (k=0)&&(!decide (aE l r.back.data.toList=0)||decide (0<r.needs.length))||decide (0<k)&&!(decide (0≤aE l r.back.data.toList)&&decide (aE l r.back.data.toList≤(k:Int)-1)))
def dL (gs:List Gd) (i k:Nat) (l:List Rg) (r:Rg):Bool:=cS l k r&&dx l l.length k&&fQ l k r&&ez gs i r.needs&&eJ r.loops
def fp (gs:List Gd) (i k:Nat):Bool:=match (ag gs i)[k]? with | some r=>dL gs i k (ag gs i) r | none=>false
def wO (gs:List Gd) (i:Nat):Bool:=(List.range (ag gs i).length).all (fp gs i)
def eo (gs:List Gd) (i:Nat):Bool :=
 bF (ej gs i).name.data.toList&&(decide (1≤(ag gs i).length)&&decide ((ag gs i).length≤8))&&!jc gs i&&wO gs i
def Bi (gs:List Gd):Bool:=(decide (1≤gs.length)&&decide (gs.length≤3))&&(List.range gs.length).all (eo gs)
theorem uF {l:List Rg}:∀ (m k:Nat),k<l.length→dx l m k=true→iw l m k=true
 | 0,_,_,h=>by cases h
 | m+1,k,hk,h=>by
  rw[g9 hk] at h
  rw[fF hk]
  split
  ·rfl
  ·rename_i h1
   rw[if_neg h1] at h
   split at h
   ·cases h
   ·rename_i h2
    have:=bH l l[k].next.data.toList
    exact uF m _ (by omega) h
theorem uG {l:List Rg} (hok:∀ j (h:j<l.length),l[j].next.data.toList=[]∨0≤aE l l[j].next.data.toList):∀ (m k:Nat),k<l.length→iw l m k=true→dx l m k=true
 | 0,_,_,h=>by cases h
 | m+1,k,hk,h=>by
  rw[fF hk] at h
  rw[g9 hk]
  split
  ·rfl
  ·rename_i h1
   rw[if_neg h1] at h
   have h2:=(hok k hk).resolve_left h1
   have:=bH l l[k].next.data.toList
   rw[if_neg (by omega)]
   exact uG hok m _ (by omega) h
theorem om {l:List Rg}{k:Nat}{r:Rg}:bV l k r=true↔(r.next.data.toList=[]∨0≤aE l r.next.data.toList)∧fQ l k r=true:=by
 have hr:=bH l r.back.data.toList
 unfold bV fQ
 generalize aE l r.back.data.toList=b at *
 by_cases h1:r.next.data.toList=[]<;>by_cases h2:aE l r.next.data.toList<0<;>by_cases hk:k=0<;>by_cases hn:r.needs.length=0<;>simp[h1,h2,hk,hn]<;>omega
theorem jh {n:Nat}{f:Nat→Bool}:(List.range n).all f=true↔∀ k,k<n→f k=true:=by
 rw[Dq]
 exact⟨fun h k hk=>h k (Dv.2 hk),fun h k hk=>h k (Dv.1 hk)⟩
theorem A9 {gs:List Gd}{i:Nat}:wO gs i=true↔sj gs i=true∧fE gs i=true:=by
 have e1:∀ k,k<(ag gs i).length→(fp gs i k=dL gs i k (ag gs i) (aK gs i k)∧eT gs i k=bN gs i k (ag gs i) (aK gs i k)):=by
  intro k hk
  unfold fp eT aK
  rw[C7 hk]
  exact⟨rfl,rfl⟩
 have e2:∀ k (hk:k<(ag gs i).length),aK gs i k=(ag gs i)[k]:=by
  intro k hk;unfold aK;rw[C7 hk]
 unfold wO sj fE
 rw[jh,jh,jh]
 constructor
 ·intro h
  have hends:∀ k,k<(ag gs i).length→dx (ag gs i) (ag gs i).length k=true:=fun k hk=>by
   have:=h k hk
   rw[(e1 k hk).1] at this
   unfold dL at this
   simp only[Da] at this
   exact this.1.1.1.2
  refine⟨fun k hk=>?_,fun k hk=>uF _ k hk (hends k hk)⟩
  have:=h k hk
  rw[(e1 k hk).1] at this
  rw[(e1 k hk).2]
  unfold dL at this
  unfold bN
  simp only[Da] at this ⊢
  refine⟨⟨⟨this.1.1.1.1,om.2 ⟨?_,this.1.1.2⟩⟩,this.1.2⟩,this.2⟩
  have he:=hends k hk
  obtain⟨m,hm⟩:∃ m,(ag gs i).length=m+1:=⟨(ag gs i).length-1,by omega⟩
  rw[hm,g9 hk,←e2 k hk] at he
  by_cases h1:(aK gs i k).next.data.toList=[]
  ·exact Or.inl h1
  ·rw[if_neg h1] at he
   split at he
   ·cases he
   ·exact Or.inr (by omega)
 ·rintro⟨h1,h2⟩ k hk
  have h3:=h1 k hk
  have hok:=sk (gs:=gs) (i:=i) (jh.2 h1)
  rw[(e1 k hk).2] at h3
  rw[(e1 k hk).1]
  unfold bN at h3
  unfold dL
  simp only[Da] at h3 ⊢
  exact⟨⟨⟨⟨h3.1.1.1,uG hok _ k hk (h2 k hk)⟩,(om.1 h3.1.1.2).2⟩,h3.1.2⟩,h3.2⟩
theorem wl (gs:List Gd) (i:Nat):eo gs i=cC gs i:=by
 rw[D6]
 unfold eo cC
 simp only[Da]
 rw[A9]
 constructor
 ·rintro⟨⟨⟨a,b⟩,c⟩,d,e⟩;exact⟨⟨⟨⟨a,c⟩,b⟩,d⟩,e⟩
 ·rintro⟨⟨⟨⟨a,c⟩,b⟩,d⟩,e⟩;exact⟨⟨⟨a,b⟩,c⟩,d,e⟩
theorem vf (gs:List Gd):Bi gs=aX gs:=by
 unfold Bi aX
 congr 2
 funext i
 exact wl gs i
open Go.RowKit Dg Dc
theorem qO (x y:Int):decide (dy x y≤0)=decide (x≤y):=by
 unfold dy
 rw[decide_eq_decide]
 split
 ·omega
 ·split<;>omega
theorem uf (m:Bool) (n d:Nat):((decide (sgn m n≤4096)&&decide (-(sgn m n)≤4096))&&decide ((d:Int)≤4096))=(decide (n≤4096)&&decide (d≤4096)):=by
 unfold sgn
 rw[D6]
 cases m<;>simp<;>omega
theorem m_:bO 4096:=by
 unfold bO
 have:=aY aD (n:=4096) (k:=1) (by unfold RR;omega)
 omega
theorem nW (v:Value) (r:Rt) (w:World) (hv:IsQ w v r) (hc:r.minus=true→r.n≠0) (hfn:bO r.n) (hfd:bO r.d) :
  Calls Tryz.prog 111 #[v] w fun e w'=>e=.returned (.bool (dX r))∧Below w.heap.size w w':=by
 obtain⟨p,N,c,p',N',c',rfl,hN,hNc,hcm,hN',hNc',hcm',hdn,hdd⟩:=hv.parts
 obtain⟨m,n,d⟩:=r
 simp only at *
 have hl:=bL w (.cells #[.bool m,.slice p N c,.bool false,.slice p' N' c'] 173)
 have HN:=C5 ((tK (m:=m) hdn hc).below hl.below)
 have HD:=C5 ((jv hdd).below hl.below)
 have hr0:=hl.s0
 have HB:=hl.below
 have HR:Hid (((decide (sgn m n≤4096)&&decide (-(sgn m n)≤4096))&&decide ((d:Int)≤4096))=dX ⟨m,n,d⟩):=uf m n d
 have HFN:Hid (bO (sgn m n).natAbs):=by unfold Hid;rw[jD];exact hfn
 have HFN2:Hid (bO (-(sgn m n)).natAbs):=by unfold Hid;rw[Fy,jD];exact hfn
 have HFD:Hid (bO (d:Int).natAbs):=by unfold Hid;rw[D8];exact hfd
 clear hv hl hdn hdd hc hfn hfd
 go_enter Tryz.func111,Tryz.ntmps111
 go_upto_region 1 with fail
 generalize w.alloc (.cells #[.bool m,.slice p N c,.bool false,.slice p' N' c'] 173)=w1 at *
 go_wp2_with fail
 refine (iq 4096 (by omega) w1).mono ?_
 rintro e w2 ⟨v2,rfl,hz2,hb2⟩
 obtain⟨p2,N2,c2,rfl,hN2,hNc2,hcm2,hd2⟩:=hz2.nat
 have hl2:=bL w2 (.cells #[.bool false,.slice p2 N2 c2] 171)
 have hb3:=hb2.trans (hl2.below.mono hb2.size)
 have hr1:=(hb3.block _ (ae hr0)).trans hr0
 have HB3:=HB.trans (hb3.mono HB.size)
 have HN3:=C5 (HN.out.below hb3)
 have HD3:=C5 (HD.out.below hb3)
 have HM3:=C5 ((jv hd2).below hl2.below)
 have hr3:=hl2.s0
 clear hl2 hb2 hb3 hz2 hd2 hr0 HB HN HD
 go_upto_region 2 with fail
 generalize w2.alloc (.cells #[.bool false,.slice p2 N2 c2] 171)=w3 at *
 generalize w2.heap.size=g3 at *
 have hbd:Below w3.heap.size w3 w3.drew:=(Below.refl _ _).drew
 have hS:(fun wx:World=>wx.heap[w.heap.size]?=some (.cells #[.bool m,.slice p N c,.bool false,.slice p' N' c'] 173 (0,0))∧wx.heap[g3]?=some (.cells #[.bool false,.slice p2 N2 c2] 171 (0,0))) w3.drew:=⟨(hbd.block _ (ae hr1)).trans hr1,(hbd.block _ (ae hr3)).trans hr3⟩
 have HB:=HB3.trans (hbd.mono HB3.size)
 have HN:=C5 (HN3.out.below hbd)
 have HD:=C5 (HD3.out.below hbd)
 have HM:=C5 (HM3.out.below hbd)
 refine wp_mono (au (Q:=aL _) (fun wx:World=>wx.heap[w.heap.size]?=some (.cells #[.bool m,.slice p N c,.bool false,.slice p' N' c'] 173 (0,0))∧wx.heap[g3]?=some (.cells #[.bool false,.slice p2 N2 c2] 171 (0,0))) (fun _=>false) (by kernel_rfl) ?_) (fun _ _ _ h=>aV h)
 clear hbd hr1 hr3 HB3 HN3 HD3 HM3
 generalize w3.drew=w4 at *
 refine af (i:=0) (v:=?vv1) rfl (by kernel_rfl) (fun _ _ _ h=>h) rfl ?hy1 ?rest1
 case hy1=>(intro wy;go_simp;try with_reducible rfl)
 try simp only[Act.put,C4,C2,C3,CY,C1,CZ]
 refine ak (i:=1) (v:=?vvA1) rfl (by kernel_rfl) (fun _ _ _ h=>h) (by rfl) hS ?hyA1 ?restA1
 case hyA1 =>
  intro wy hy
  have q0:=aa hy.1 0
  have q1:=aa hy.1 1
  have q2:=aa hy.1 2
  have q3:=aa hy.1 3
  have e0:=aa hy.2 0
  have e1:=aa hy.2 1
  clear hy
  go_simp
  try with_reducible rfl
 try simp only[Act.put,C4,C2,C3,CY,C1,CZ]
 refine ak (i:=2) (v:=?vvA2) rfl (by kernel_rfl) (fun _ _ _ h=>h) (by rfl) hS ?hyA2 ?restA2
 case hyA2 =>
  intro wy hy
  have q0:=aa hy.1 0
  have q1:=aa hy.1 1
  have q2:=aa hy.1 2
  have q3:=aa hy.1 3
  have e0:=aa hy.2 0
  have e1:=aa hy.2 1
  clear hy
  go_simp
  try with_reducible rfl
 try simp only[Act.put,C4,C2,C3,CY,C1,CZ]
 refine am (i:=3) rfl (by kernel_rfl) rfl (fun K hK=>?_)
 go_simp
 refine (ow _ _ _ _ w4 HN.out HM.out (C8 HFN.out (by omega)) (C8 m_ (by omega))).mono ?_
 rintro e w5 ⟨rfl,hb5⟩
 have hS':=And.intro ((hb5.block _ (ae hS.1)).trans hS.1) ((hb5.block _ (ae hS.2)).trans hS.2)
 refine hK _ _ (fun _ _=>hS') ?_
 clear hK K
 try simp only[Act.put,C4,C2,C3,CY,C1,CZ]
 replace HB:=HB.trans (hb5.mono HB.size)
 have HN':=C5 (HN.out.below hb5)
 have HD':=C5 (HD.out.below hb5)
 have HM':=C5 (HM.out.below hb5)
 clear hS HN HD HM
 have hS:=hS'
 have HN:=HN'
 have HD:=HD'
 have HM:=HM'
 clear hS' HN' HD' HM'
 clear hb5
 have hc1:=qO (sgn m n) (4096:Nat)
 obtain⟨z1,hz1⟩:∃ z,z=dy (sgn m n) (4096:Nat):=⟨_,rfl⟩
 rw[←hz1] at hc1 ⊢
 clear hz1
 obtain⟨b1,hb1⟩:∃ b,b=decide (sgn m n≤4096):=⟨_,rfl⟩
 rw[show decide (sgn m n≤((4096:Nat):Int))=b1 from hb1.symm] at hc1
 rw[←hb1] at HR
 clear hb1
 cases b1
 ·refine af (i:=4) (v:=?vv2) rfl (by kernel_rfl) (fun _ _ _ h=>h) rfl ?hy2 ?rest2
  case hy2=>(intro wy;go_simp;try with_reducible rfl)
  try simp only[Act.put,C4,C2,C3,CY,C1,CZ]
  refine af (i:=5) (v:=?vv3) rfl (by kernel_rfl) (fun _ _ _ h=>h) rfl ?hy3 ?rest3
  case hy3=>(intro wy;go_simp;try with_reducible rfl)
  try simp only[Act.put,C4,C2,C3,CY,C1,CZ]
  refine a8 (i:=6) rfl (by kernel_rfl) (fun _ _ _ h=>h) (by rfl) ?_
  try simp only[Act.put,C4,C2,C3,CY,C1,CZ]
  refine a8 (i:=7) rfl (by kernel_rfl) (fun _ _ _ h=>h) (by rfl) ?_
  try simp only[Act.put,C4,C2,C3,CY,C1,CZ]
  refine a8 (i:=8) rfl (by kernel_rfl) (fun _ _ _ h=>h) (by rfl) ?_
  try simp only[Act.put,C4,C2,C3,CY,C1,CZ]
  refine a8 (i:=9) rfl (by kernel_rfl) (fun _ _ _ h=>h) (by rfl) ?_
  try simp only[Act.put,C4,C2,C3,CY,C1,CZ]
  refine a8 (i:=10) rfl (by kernel_rfl) (fun _ _ _ h=>h) (by rfl) ?_
  try simp only[Act.put,C4,C2,C3,CY,C1,CZ]
  refine a8 (i:=11) rfl (by kernel_rfl) (fun _ _ _ h=>h) (by rfl) ?_
  try simp only[Act.put,C4,C2,C3,CY,C1,CZ]
  refine af (i:=12) (v:=?vv4) rfl (by kernel_rfl) (fun _ _ _ h=>h) rfl ?hy4 ?rest4
  case hy4=>(intro wy;go_simp;try with_reducible rfl)
  try simp only[Act.put,C4,C2,C3,CY,C1,CZ]
  refine af (i:=13) (v:=?vv5) rfl (by kernel_rfl) (fun _ _ _ h=>h) rfl ?hy5 ?rest5
  case hy5=>(intro wy;go_simp;try with_reducible rfl)
  try simp only[Act.put,C4,C2,C3,CY,C1,CZ]
  refine a8 (i:=14) rfl (by kernel_rfl) (fun _ _ _ h=>h) (by rfl) ?_
  try simp only[Act.put,C4,C2,C3,CY,C1,CZ]
  refine a8 (i:=15) rfl (by kernel_rfl) (fun _ _ _ h=>h) (by rfl) ?_
  try simp only[Act.put,C4,C2,C3,CY,C1,CZ]
  refine a8 (i:=16) rfl (by kernel_rfl) (fun _ _ _ h=>h) (by rfl) ?_
  try simp only[Act.put,C4,C2,C3,CY,C1,CZ]
  refine a8 (i:=17) rfl (by kernel_rfl) (fun _ _ _ h=>h) (by rfl) ?_
  try simp only[Act.put,C4,C2,C3,CY,C1,CZ]
  refine a8 (i:=18) rfl (by kernel_rfl) (fun _ _ _ h=>h) (by rfl) ?_
  try simp only[Act.put,C4,C2,C3,CY,C1,CZ]
  refine af (i:=19) (v:=?vv6) rfl (by kernel_rfl) (fun _ _ _ h=>h) rfl ?hy6 ?rest6
  case hy6=>(intro wy;go_simp;try with_reducible rfl)
  try simp only[Act.put,C4,C2,C3,CY,C1,CZ]
  refine af (i:=20) (v:=?vv7) rfl (by kernel_rfl) (fun _ _ _ h=>h) rfl ?hy7 ?rest7
  case hy7=>(intro wy;go_simp;try with_reducible rfl)
  try simp only[Act.put,C4,C2,C3,CY,C1,CZ]
  try simp only[Act.put,C4,C2,C3,CY,C1,CZ]
  refine aA (by kernel_rfl) ?_ _
  simp only[aL]
  go_wp2_with fail
  go_ret
  refine⟨?_,HB⟩
  rw[←HR.out]
  rfl
 ·refine af (i:=4) (v:=?vv8) rfl (by kernel_rfl) (fun _ _ _ h=>h) rfl ?hy8 ?rest8
  case hy8=>(intro wy;go_simp;try with_reducible rfl)
  try simp only[Act.put,C4,C2,C3,CY,C1,CZ]
  refine af (i:=5) (v:=?vv9) rfl (by kernel_rfl) (fun _ _ _ h=>h) rfl ?hy9 ?rest9
  case hy9=>(intro wy;go_simp;try with_reducible rfl)
  try simp only[Act.put,C4,C2,C3,CY,C1,CZ]
  refine bT (i:=6) (v:=?vvB1) rfl (by kernel_rfl) (fun _ _ _ h=>h) (by rfl) hS ?hyB1 ?restB1
  case hyB1 =>
   intro wy hy
   have q0:=aa hy.1 0
   have q1:=aa hy.1 1
   have q2:=aa hy.1 2
   have q3:=aa hy.1 3
   have e0:=aa hy.2 0
   have e1:=aa hy.2 1
   clear hy
   go_simp
   try with_reducible rfl
  try simp only[Act.put,C4,C2,C3,CY,C1,CZ]
  refine bT (i:=7) (v:=?vvB2) rfl (by kernel_rfl) (fun _ _ _ h=>h) (by rfl) hS ?hyB2 ?restB2
  case hyB2 =>
   intro wy hy
   have q0:=aa hy.1 0
   have q1:=aa hy.1 1
   have q2:=aa hy.1 2
   have q3:=aa hy.1 3
   have e0:=aa hy.2 0
   have e1:=aa hy.2 1
   clear hy
   go_simp
   try with_reducible rfl
  try simp only[Act.put,C4,C2,C3,CY,C1,CZ]
  refine bT (i:=9) (v:=?vvB3) rfl (by kernel_rfl) (fun _ _ _ h=>h) (by rfl) hS ?hyB3 ?restB3
  case hyB3 =>
   intro wy hy
   have q0:=aa hy.1 0
   have q1:=aa hy.1 1
   have q2:=aa hy.1 2
   have q3:=aa hy.1 3
   have e0:=aa hy.2 0
   have e1:=aa hy.2 1
   clear hy
   go_simp
   try with_reducible rfl
  try simp only[Act.put,C4,C2,C3,CY,C1,CZ]
  refine gP (i:=8) rfl (by kernel_rfl) (by rfl) (fun K hK=>?_)
  go_simp
  refine (lc _ _ w5 HN.out).mono ?_
  rintro e w6 ⟨v6,rfl,hz6,hb6⟩
  obtain⟨p6,N6,c6,rfl,hN6,hNc6,hcm6,hd6⟩:=hz6.parts
  generalize decide (-sgn m n<0)=m6 at *
  clear hd6
  have hS':=And.intro ((hb6.block _ (ae hS.1)).trans hS.1) ((hb6.block _ (ae hS.2)).trans hS.2)
  refine hK _ _ (fun _ _=>hS') ?_
  clear hK K
  try simp only[Act.put,C4,C2,C3,CY,C1,CZ]
  replace HB:=HB.trans (hb6.mono HB.size)
  have HN':=C5 (HN.out.below hb6)
  have HD':=C5 (HD.out.below hb6)
  have HM':=C5 (HM.out.below hb6)
  clear hS HN HD HM
  have hS:=hS'
  have HN:=HN'
  have HD:=HD'
  have HM:=HM'
  clear hS' HN' HD' HM'
  have HZ6:=C5 hz6
  clear hb6 hz6
  refine gP (i:=10) rfl (by kernel_rfl) (by rfl) (fun K hK=>?_)
  go_simp
  refine (ow _ _ _ _ w6 HZ6.out HM.out (C8 HFN2.out (by omega)) (C8 m_ (by omega))).mono ?_
  rintro e w7 ⟨rfl,hb7⟩
  have hS':=And.intro ((hb7.block _ (ae hS.1)).trans hS.1) ((hb7.block _ (ae hS.2)).trans hS.2)
  refine hK _ _ (fun _ _=>hS') ?_
  clear hK K
  try simp only[Act.put,C4,C2,C3,CY,C1,CZ]
  replace HB:=HB.trans (hb7.mono HB.size)
  have HN':=C5 (HN.out.below hb7)
  have HD':=C5 (HD.out.below hb7)
  have HM':=C5 (HM.out.below hb7)
  clear hS HN HD HM
  have hS:=hS'
  have HN:=HN'
  have HD:=HD'
  have HM:=HM'
  clear hS' HN' HD' HM'
  clear hb7 HZ6 hc1
  have hc2:=qO (-(sgn m n)) (4096:Nat)
  obtain⟨z2,hz2⟩:∃ z,z=dy (-(sgn m n)) (4096:Nat):=⟨_,rfl⟩
  rw[←hz2] at hc2 ⊢
  clear hz2
  obtain⟨b2,hb2⟩:∃ b,b=decide (-(sgn m n)≤4096):=⟨_,rfl⟩
  rw[show decide (-(sgn m n)≤((4096:Nat):Int))=b2 from hb2.symm] at hc2
  rw[←hb2] at HR
  clear hb2
  cases b2
  ·refine bT (i:=11) (v:=?vvC1) rfl (by kernel_rfl) (fun _ _ _ h=>h) (by rfl) hS ?hyC1 ?restC1
   case hyC1 =>
    intro wy hy
    have q0:=aa hy.1 0
    have q1:=aa hy.1 1
    have q2:=aa hy.1 2
    have q3:=aa hy.1 3
    have e0:=aa hy.2 0
    have e1:=aa hy.2 1
    clear hy
    go_simp
    try with_reducible rfl
   try simp only[Act.put,C4,C2,C3,CY,C1,CZ]
   refine af (i:=12) (v:=?vv10) rfl (by kernel_rfl) (fun _ _ _ h=>h) rfl ?hy10 ?rest10
   case hy10=>(intro wy;go_simp;try with_reducible rfl)
   try simp only[Act.put,C4,C2,C3,CY,C1,CZ]
   refine af (i:=13) (v:=?vv11) rfl (by kernel_rfl) (fun _ _ _ h=>h) rfl ?hy11 ?rest11
   case hy11=>(intro wy;go_simp;try with_reducible rfl)
   try simp only[Act.put,C4,C2,C3,CY,C1,CZ]
   refine a8 (i:=14) rfl (by kernel_rfl) (fun _ _ _ h=>h) (by rfl) ?_
   try simp only[Act.put,C4,C2,C3,CY,C1,CZ]
   refine a8 (i:=15) rfl (by kernel_rfl) (fun _ _ _ h=>h) (by rfl) ?_
   try simp only[Act.put,C4,C2,C3,CY,C1,CZ]
   refine a8 (i:=16) rfl (by kernel_rfl) (fun _ _ _ h=>h) (by rfl) ?_
   try simp only[Act.put,C4,C2,C3,CY,C1,CZ]
   refine a8 (i:=17) rfl (by kernel_rfl) (fun _ _ _ h=>h) (by rfl) ?_
   try simp only[Act.put,C4,C2,C3,CY,C1,CZ]
   refine a8 (i:=18) rfl (by kernel_rfl) (fun _ _ _ h=>h) (by rfl) ?_
   try simp only[Act.put,C4,C2,C3,CY,C1,CZ]
   refine af (i:=19) (v:=?vv12) rfl (by kernel_rfl) (fun _ _ _ h=>h) rfl ?hy12 ?rest12
   case hy12=>(intro wy;go_simp;try with_reducible rfl)
   try simp only[Act.put,C4,C2,C3,CY,C1,CZ]
   refine af (i:=20) (v:=?vv13) rfl (by kernel_rfl) (fun _ _ _ h=>h) rfl ?hy13 ?rest13
   case hy13=>(intro wy;go_simp;try with_reducible rfl)
   try simp only[Act.put,C4,C2,C3,CY,C1,CZ]
   try simp only[Act.put,C4,C2,C3,CY,C1,CZ]
   refine aA (by kernel_rfl) ?_ _
   simp only[aL]
   go_wp2_with fail
   go_ret
   refine⟨?_,HB⟩
   rw[←HR.out]
   rfl
  ·refine bT (i:=11) (v:=?vvD1) rfl (by kernel_rfl) (fun _ _ _ h=>h) (by rfl) hS ?hyD1 ?restD1
   case hyD1 =>
    intro wy hy
    have q0:=aa hy.1 0
    have q1:=aa hy.1 1
    have q2:=aa hy.1 2
    have q3:=aa hy.1 3
    have e0:=aa hy.2 0
    have e1:=aa hy.2 1
    clear hy
    go_simp
    try with_reducible rfl
   try simp only[Act.put,C4,C2,C3,CY,C1,CZ]
   refine af (i:=12) (v:=?vv14) rfl (by kernel_rfl) (fun _ _ _ h=>h) rfl ?hy14 ?rest14
   case hy14=>(intro wy;go_simp;try with_reducible rfl)
   try simp only[Act.put,C4,C2,C3,CY,C1,CZ]
   refine af (i:=13) (v:=?vv15) rfl (by kernel_rfl) (fun _ _ _ h=>h) rfl ?hy15 ?rest15
   case hy15=>(intro wy;go_simp;try with_reducible rfl)
   try simp only[Act.put,C4,C2,C3,CY,C1,CZ]
   refine bT (i:=14) (v:=?vvD2) rfl (by kernel_rfl) (fun _ _ _ h=>h) (by rfl) hS ?hyD2 ?restD2
   case hyD2 =>
    intro wy hy
    have q0:=aa hy.1 0
    have q1:=aa hy.1 1
    have q2:=aa hy.1 2
    have q3:=aa hy.1 3
    have e0:=aa hy.2 0
    have e1:=aa hy.2 1
    clear hy
    go_simp
    try with_reducible rfl
   try simp only[Act.put,C4,C2,C3,CY,C1,CZ]
   refine bT (i:=15) (v:=?vvD3) rfl (by kernel_rfl) (fun _ _ _ h=>h) (by rfl) hS ?hyD3 ?restD3
   case hyD3 =>
    intro wy hy
    have q0:=aa hy.1 0
    have q1:=aa hy.1 1
    have q2:=aa hy.1 2
    have q3:=aa hy.1 3
    have e0:=aa hy.2 0
    have e1:=aa hy.2 1
    clear hy
    go_simp
    try with_reducible rfl
   try simp only[Act.put,C4,C2,C3,CY,C1,CZ]
   refine bT (i:=16) (v:=?vvD4) rfl (by kernel_rfl) (fun _ _ _ h=>h) (by rfl) hS ?hyD4 ?restD4
   case hyD4 =>
    intro wy hy
    have q0:=aa hy.1 0
    have q1:=aa hy.1 1
    have q2:=aa hy.1 2
    have q3:=aa hy.1 3
    have e0:=aa hy.2 0
    have e1:=aa hy.2 1
    clear hy
    go_simp
    try with_reducible rfl
   try simp only[Act.put,C4,C2,C3,CY,C1,CZ]
   refine gP (i:=17) rfl (by kernel_rfl) (by rfl) (fun K hK=>?_)
   go_simp
   refine (ow _ _ _ _ w7 HD.out HM.out (C8 HFD.out (by omega)) (C8 m_ (by omega))).mono ?_
   rintro e w8 ⟨rfl,hb8⟩
   have hS':=And.intro ((hb8.block _ (ae hS.1)).trans hS.1) ((hb8.block _ (ae hS.2)).trans hS.2)
   refine hK _ _ (fun _ _=>hS') ?_
   clear hK K
   try simp only[Act.put,C4,C2,C3,CY,C1,CZ]
   replace HB:=HB.trans (hb8.mono HB.size)
   have HN':=C5 (HN.out.below hb8)
   have HD':=C5 (HD.out.below hb8)
   have HM':=C5 (HM.out.below hb8)
   clear hS HN HD HM
   have hS:=hS'
   have HN:=HN'
   have HD:=HD'
   have HM:=HM'
   clear hS' HN' HD' HM'
   clear hb8 hc2
   have hc3:=qO (d:Int) (4096:Nat)
   obtain⟨z3,hz3⟩:∃ z,z=dy (d:Int) (4096:Nat):=⟨_,rfl⟩
   rw[←hz3] at hc3 ⊢
   clear hz3
   obtain⟨b3,hb3⟩:∃ b,b=decide ((d:Int)≤4096):=⟨_,rfl⟩
   rw[show decide ((d:Int)≤((4096:Nat):Int))=b3 from hb3.symm] at hc3
   rw[←hb3] at HR
   clear hb3
   refine bT (i:=18) (v:=?vvD5) rfl (by kernel_rfl) (fun _ _ _ h=>h) (by rfl) hS ?hyD5 ?restD5
   case hyD5 =>
    intro wy hy
    have q0:=aa hy.1 0
    have q1:=aa hy.1 1
    have q2:=aa hy.1 2
    have q3:=aa hy.1 3
    have e0:=aa hy.2 0
    have e1:=aa hy.2 1
    clear hy
    go_simp
    try with_reducible rfl
   try simp only[Act.put,C4,C2,C3,CY,C1,CZ]
   refine af (i:=19) (v:=?vv16) rfl (by kernel_rfl) (fun _ _ _ h=>h) rfl ?hy16 ?rest16
   case hy16=>(intro wy;go_simp;try with_reducible rfl)
   try simp only[Act.put,C4,C2,C3,CY,C1,CZ]
   refine af (i:=20) (v:=?vv17) rfl (by kernel_rfl) (fun _ _ _ h=>h) rfl ?hy17 ?rest17
   case hy17=>(intro wy;go_simp;try with_reducible rfl)
   try simp only[Act.put,C4,C2,C3,CY,C1,CZ]
   try simp only[Act.put,C4,C2,C3,CY,C1,CZ]
   refine aA (by kernel_rfl) ?_ _
   simp only[aL]
   go_wp2_with fail
   go_ret
   refine⟨?_,HB⟩
   rw[←HR.out]
   rfl
theorem tL (s:ByteArray) (w:World) :
  Calls Tryz.prog 104 #[.string s] w fun e w'=>e=.returned (.bool (jX s.data.toList))∧Below w.heap.size w w':=by
 go_enter Tryz.func104,Tryz.ntmps104
 go_wp2_with fail
 refine (uN s w).mono ?_
 rintro e w2 ⟨v2,rfl,hz2,hb2⟩
 obtain⟨p0,k0,d0,p1,k1,d1,p2,k2,d2,p3,k3,d3,rfl,_,_⟩:=hz2.parts
 generalize (aP s.data.toList).x.minus=m0 at *
 generalize (aP s.data.toList).y.minus=m1 at *
 have HR:Hid (jX s.data.toList=(rOK s.data.toList&&decide ((aP s.data.toList).y.n=0))):=rfl
 generalize rOK s.data.toList=ok at HR ⊢
 have hl2:=bL w2 (.cells #[.bool m0,.slice p0 k0 d0,.bool false,.slice p1 k1 d1,.bool m1,.slice p2 k2 d2,.bool false,.slice p3 k3 d3] 175)
 have hb3:=hb2.trans (hl2.below.mono hb2.size)
 have HC:=C5 (hz2.below hl2.below)
 have r0:=hl2.s0
 clear hl2 hb2 hz2
 go_upto_region 2 with fail
 generalize w2.alloc (.cells #[.bool m0,.slice p0 k0 d0,.bool false,.slice p1 k1 d1,.bool m1,.slice p2 k2 d2,.bool false,.slice p3 k3 d3] 175)=w3 at *
 cases ok
 ·go_wp2_with fail
  go_ret
  exact⟨by rw[HR.out];rfl,hb3⟩
 ·have q0:=aa r0 0
  have q1:=aa r0 1
  have q2:=aa r0 2
  have q3:=aa r0 3
  have q4:=aa r0 4
  have q5:=aa r0 5
  have q6:=aa r0 6
  have q7:=aa r0 7
  go_wp2_with fail
  refine (vL _ (aP s.data.toList) w3 HC.out).mono ?_
  rintro e w4 ⟨rfl,hb4⟩
  have HEND:=hb3.trans (hb4.mono hb3.size)
  go_wp2_with fail
  go_ret
  exact⟨by rw[HR.out];rfl,HEND⟩
theorem IsC.two {w:World}{m m':Bool}{p0 p1 p2 p3:Option Addr}{n0 c0 n1 c1 n2 c2 n3 c3:Nat}{z:Vl} (h:IsC w (.agg #[.bool m,.slice p0 n0 c0,.bool false,.slice p1 n1 c1,.bool m',.slice p2 n2 c2,.bool false,.slice p3 n3 c3]) z) :
  IsQ w (.agg #[.bool m,.slice p0 n0 c0,.bool false,.slice p1 n1 c1]) z.x∧IsQ w (.agg #[.bool m',.slice p2 n2 c2,.bool false,.slice p3 n3 c3]) z.y:=by
 obtain⟨a,b,c,d,e,h1,h2,h3,h4⟩:=h
 simp only[Value.agg.injEq,Array.mk.injEq,List.cons.injEq,and_true,true_and] at e
 obtain⟨rfl',rfl,rfl,rfl'',rfl,rfl⟩:=e
 exact⟨⟨_,_,by rw[rfl'],h1,h2⟩,⟨_,_,by rw[rfl''],h3,h4⟩⟩
theorem xh (s:ByteArray) (w:World) :
  Calls Tryz.prog 105 #[.string s] w fun e w'=>e=.returned (.bool (rOK s.data.toList&&dX (aP s.data.toList).x&&dX (aP s.data.toList).y))∧Below w.heap.size w w':=by
 have HCX:=C5 (gw s.data.toList).1.sign
 have HCY:=C5 (gw s.data.toList).2.sign
 have HFX:=C5 (gC s.data.toList).1
 have HFY:=C5 (gC s.data.toList).2
 go_enter Tryz.func105,Tryz.ntmps105
 go_wp2_with fail
 refine (uN s w).mono ?_
 rintro e w2 ⟨v2,rfl,hz2,hb2⟩
 obtain⟨p0,k0,d0,p1,k1,d1,p2,k2,d2,p3,k3,d3,rfl,_,_⟩:=hz2.parts
 generalize (aP s.data.toList).x.minus=m0 at hz2 ⊢
 generalize (aP s.data.toList).y.minus=m1 at hz2 ⊢
 obtain⟨ok,hok⟩:∃ b,b=rOK s.data.toList:=⟨_,rfl⟩
 obtain⟨b0,hb0⟩:∃ b,b=dX (aP s.data.toList).x:=⟨_,rfl⟩
 obtain⟨b1,hb1⟩:∃ b,b=dX (aP s.data.toList).y:=⟨_,rfl⟩
 rw[←hok]
 have HR:Hid ((rOK s.data.toList&&dX (aP s.data.toList).x&&dX (aP s.data.toList).y)=((ok&&b0)&&b1)):=by unfold Hid;rw[hok,hb0,hb1]
 have B0:=C5 hb0
 have B1:=C5 hb1
 clear hok hb0 hb1
 have hl2:=bL w2 (.cells #[.bool m0,.slice p0 k0 d0,.bool false,.slice p1 k1 d1,.bool m1,.slice p2 k2 d2,.bool false,.slice p3 k3 d3] 175)
 have hb3:=hb2.trans (hl2.below.mono hb2.size)
 have HC:=C5 (hz2.below hl2.below)
 have r0:=hl2.s0
 clear hl2 hb2 hz2
 go_upto_region 2 with fail
 generalize w2.alloc (.cells #[.bool m0,.slice p0 k0 d0,.bool false,.slice p1 k1 d1,.bool m1,.slice p2 k2 d2,.bool false,.slice p3 k3 d3] 175)=w3 at *
 cases ok
 ·go_wp2_with fail
  go_ret
  exact⟨by rw[HR.out];rfl,hb3⟩
 ·have q0:=aa r0 0
  have q1:=aa r0 1
  have q2:=aa r0 2
  have q3:=aa r0 3
  go_wp2_with fail
  refine (nW _ (aP s.data.toList).x w3 HC.out.two.1 HCX.out HFX.out.1 HFX.out.2).mono ?_
  rintro e w4 ⟨rfl,hb4⟩
  have HB4:=hb3.trans (hb4.mono hb3.size)
  have r1:=(hb4.block _ (ae r0)).trans r0
  have HC4:=C5 (HC.out.below hb4)
  rw[←B0.out]
  clear q0 q1 q2 q3 HC r0 hb4
  cases b0
  ·go_wp2_with fail
   go_ret
   exact⟨by rw[HR.out];rfl,HB4⟩
  ·have q4:=aa r1 4
   have q5:=aa r1 5
   have q6:=aa r1 6
   have q7:=aa r1 7
   go_wp2_with fail
   refine (nW _ (aP s.data.toList).y w4 HC4.out.two.2 HCY.out HFY.out.1 HFY.out.2).mono ?_
   rintro e w5 ⟨rfl,hb5⟩
   have HEND:=HB4.trans (hb5.mono HB4.size)
   rw[←B1.out]
   go_wp2_with fail
   go_ret
   exact⟨by rw[HR.out];rfl,HEND⟩
theorem yb (s:ByteArray) (w:World) :
  Calls Tryz.prog 95 #[.string s] w fun e w'=>e=.returned (.bool (dz s.data.toList))∧Below w.heap.size w w':=by
 rw[←AP]
 have HR:Hid (x_ s.data.toList=(jX s.data.toList&&(rOK s.data.toList&&dX (aP s.data.toList).x&&dX (aP s.data.toList).y))):=rfl
 go_enter Tryz.func95,Tryz.ntmps95
 go_wp2_with fail
 refine (tL s w).mono ?_
 rintro e w2 ⟨rfl,hb2⟩
 generalize jX s.data.toList=b0 at HR ⊢
 cases b0
 ·go_wp2_with fail
  go_ret
  exact⟨by rw[HR.out];rfl,hb2⟩
 ·go_wp2_with fail
  refine (xh s w2).mono ?_
  rintro e w3 ⟨rfl,hb3⟩
  have HEND:=hb2.trans (hb3.mono hb2.size)
  go_wp2_with fail
  go_ret
  exact⟨by rw[HR.out];rfl,HEND⟩
theorem iS (n low high:Int) (w:World) :
  Calls Tryz.prog 33 #[.int .i64 n,.int .i64 low,.int .i64 high] w fun e w'=>e=.returned (.bool (decide (low≤n)&&decide (n≤high)))∧w'=w:=by
 by_cases h:low≤n
 ·have hd:decide (low≤n)=true:=by simp;omega
  go_enter Tryz.func33,Tryz.ntmps33
  go_wp2
  go_ret
  exact⟨by simp[hd],rfl⟩
 ·have hd:decide (low≤n)=false:=by simp;omega
  go_enter Tryz.func33,Tryz.ntmps33
  go_wp2
  go_ret
  exact⟨by simp[hd],rfl⟩
def dt:List ByteArray→List UInt8→Nat→Int
 | [],_,_=>-1
 | r :: l,s,k=>if r.data.toList=s then (k:Int) else dt l s (k+1)
theorem oN {l:List ByteArray}{s:List UInt8}{i:Nat} (h:i<l.length):dt (l.drop i) s i=if l[i].data.toList=s then (i:Int) else dt (l.drop (i+1)) s (i+1):=by
 rw[DD h];rfl
theorem k9:∀ (l:List ByteArray) (s:List UInt8) (k:Nat),decide (dt l s k<0)=!(l.any fun r=>decide (r.data.toList=s))
 | [],_,_=>rfl
 | r :: l,s,k=>by
  rw[dt,List.any_cons]
  split
  ·rename_i h;simp[h]
  ·rename_i h;rw[k9 l s (k+1)];simp[h]
theorem gt {s t:ByteArray}:(s.toList == t.toList)=decide (s.data.toList=t.data.toList):=by
 rw[aj,aj,D6];simp
theorem qp (q:Option Addr) (c:Nat) (l:List ByteArray) (s:ByteArray) (w:World) (hl:cV w q l) (hn:l.length≤1000000000000000) :
  Calls Tryz.prog 30 #[.slice q l.length c,.string s] w fun e w'=>e=.returned (.int .i64 (dt l s.data.toList 0))∧w'=w:=by
 go_enter Tryz.func30,Tryz.ntmps30
 go_wp2
 go_loop [5] (fun s5=>∃ i:Nat,s5=.int .i64 i∧i≤l.length∧Hid (dt l s.data.toList 0=dt (l.drop i) s.data.toList i)) (fun s5=>l.length-(intOf s5).toNat)
 case atStart=>exact⟨0,rfl,by omega,rfl⟩
 case round =>
  obtain⟨i,rfl,hi,hx⟩:=hrel
  by_cases hil:i<l.length
  ·obtain⟨b,o,rfl,hbw,hcs⟩:=hl.at_ (by omega)
   have hc:=hcs i hil
   obtain⟨r,hr⟩:∃ r,r=l[i]:=⟨_,rfl⟩
   rw[←hr] at hc
   have hstep:=oN (s:=s.data.toList) hil
   rw[←hr] at hstep
   clear hcs hl hr
   by_cases heq:r.data.toList=s.data.toList
   ·have z1:(r.toList == s.toList)=true:=by rw[gt];simp[heq]
    rw[if_pos heq] at hstep
    have HS:=C5 (hx.out.trans hstep)
    clear heq hstep
    go_wp2
    go_ret
    exact⟨by rw[HS.out];rfl,rfl⟩
   ·have z1:(r.toList == s.toList)=false:=by rw[gt];simp[heq]
    rw[if_neg heq] at hstep
    have HS:=C5 (hx.out.trans hstep)
    clear heq hstep
    go_wp2
    go_round
    case rel=>exact⟨i+1,by go_num,by omega,HS⟩
    case measure=>simp[intOf];omega
  ·obtain rfl:i=l.length:=by omega
   have HS:Hid (dt l s.data.toList 0=-1):=by unfold Hid;rw[hx.out,Ey];rfl
   clear hil hl
   go_wp2
   go_ret
   exact⟨by rw[HS.out];rfl,rfl⟩
theorem fG (g:ByteArray) (p:Option Addr) (c:Nat) (l:List Rg) (s:ByteArray) (w:World) (hl:cT w p l) (hn:l.length<1000000) :
  Calls Tryz.prog 87 #[.agg #[.string g,.slice p l.length c],.string s] w fun e w'=>e=.returned (.int .i64 (aE l s.data.toList))∧Below w.heap.size w w':=by
 have hl1:Below w.heap.size w (w.alloc (.cells #[.string g,.slice p l.length c] 62)):=(Below.refl _ _).alloc (C6 _) _
 have hr0:=heap_alloc_new w (.cells #[.string g,.slice p l.length c] 62)
 have x1:(w.alloc (.cells #[.string g,.slice p l.length c] 62)).cell? ⟨w.heap.size,1,none⟩=some (.slice p l.length c):=aa hr0 1
 have HL:=hl.below hl1
 clear hl hr0
 go_enter Tryz.func87,Tryz.ntmps87
 go_upto_region 1 with fail
 generalize w.alloc (.cells #[.string g,.slice p l.length c] 62)=w1 at *
 go_wp2
 go_loop [5] (fun s5=>∃ i:Nat,s5=.int .i64 i∧i≤l.length∧Hid (aE l s.data.toList=cJ (l.drop i) s.data.toList i)) (fun s5=>l.length-(intOf s5).toNat)
 case atStart=>exact⟨0,rfl,by omega,rfl⟩
 case round =>
  obtain⟨i,rfl,hi,hx⟩:=hrel
  by_cases hil:i<l.length
  ·obtain⟨b,o,rfl,hbw,hcs⟩:=HL.at_ (by omega)
   obtain⟨q1,c1,q2,c2,hr⟩:=hcs i hil
   have hc:=hr.d0
   obtain⟨r,hre⟩:∃ r,r=l[i]:=⟨_,rfl⟩
   rw[←hre] at hc
   have hstep:=gd (s:=s.data.toList) hil
   rw[←hre] at hstep
   clear hcs HL hre hr
   by_cases heq:r.name.data.toList=s.data.toList
   ·have z1:(r.name.toList == s.toList)=true:=by rw[gt];simp[heq]
    rw[if_pos heq] at hstep
    have HS:=C5 (hx.out.trans hstep)
    clear heq hstep
    go_wp2
    go_ret
    exact⟨by rw[HS.out];rfl,hl1⟩
   ·have z1:(r.name.toList == s.toList)=false:=by rw[gt];simp[heq]
    rw[if_neg heq] at hstep
    have HS:=C5 (hx.out.trans hstep)
    clear heq hstep
    go_wp2
    go_round
    case rel=>exact⟨i+1,by go_num,by omega,HS⟩
    case measure=>simp[intOf];omega
  ·obtain rfl:i=l.length:=by omega
   have HS:Hid (aE l s.data.toList=-1):=by unfold Hid;rw[hx.out,Ey];rfl
   clear hil HL
   go_wp2
   go_ret
   exact⟨by rw[HS.out];rfl,hl1⟩
end Go.Proofs.YtnkgbocdpngldaaGreatDoor
