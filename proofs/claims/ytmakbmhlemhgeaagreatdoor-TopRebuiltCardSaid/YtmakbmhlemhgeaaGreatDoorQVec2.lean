/- L -/
import Derived.Test.YtmakbmhlemhgeaaGreatDoorQNC4
set_option linter.all false
set_option maxRecDepth 100000
set_option maxHeartbeats 8000000
namespace Go.Proofs.YtmakbmhlemhgeaaGreatDoor
open Go.RowKit Dg
def jj (u:Value):Prop:=∀ z,u≠.int .u64 z
def NoU (w:World) (v:Value):Prop:=∀ g,v.ownBlock=some g->∀ j z,w.cell? ⟨g,j,none⟩≠some (.int .u64 z)
theorem lN {zs:Array Value}{n:Nat} (h:∀ u∈zs,jj u):∀ u∈Builtin.zeroCells zs n,jj u:=by
 intro u hu;unfold Builtin.zeroCells at hu;obtain⟨i,hi,rfl⟩:=Array.mem_map.1 hu;have hi2:i<n*zs.size:=by simpa using hi
 have hp:0<zs.size:=by
  rcases ta zs.size with h0 | h0
  ·rw[h0] at hi2;simp at hi2
  ·exact h0
 have hm:=sB i hp;rw[getElem!_pos zs (i % zs.size) hm];exact h _ (Array.getElem_mem hm)
theorem iw {w:World}{cs:Array Value}{e:TypeId}{n c:Nat} (h:∀ u∈cs,jj u):NoU (w.alloc (.cells cs e)) (.slice (some ⟨w.heap.size,0,none⟩) n c):=by
 intro g hg j z hc;simp only[Value.ownBlock,Option.some.injEq] at hg;subst hg;rw[World.cell?,heap_alloc_new] at hc;simp only[tv,so,if_false] at hc;exact h _ (tA hc) z rfl
section
variable {P : Program} (w : World)
theorem jc (base:Nat) (t ty e:TypeId) (i:TypeInfo) (z:Value) (size bytes:Nat) (ht:P.underlying t=some (.slice e)) (hi:P.info? e=some i) (hz:i.zero=some z)
  (hsize:i.size=size) (hby:i.bytes=bytes) (hzs:z.cells.size=size) (hsz:0<size) (hzn:∀ u∈z.cells,jj u)
  (v:Value) (n:Nat) (xs:List Value) (hown:w.ownsRow base e size v n xs) (hnu:NoU w v)
  (a:Addr) (c:Nat) (news:List Value) (hl:news.length=size) (hnews:∀ j u,news[j]?=some u->w.cell? (a.add j)=some u) (h1:∀ u∈news,u.oneCell'=true) (hn1:∀ u∈news,jj u)
  (h63:n+1<=maxLen) (hbytes:(n+1)*bytes<=140737488355328) (hbase:base<=w.heap.size) :
  ∃ v' w',(Builtin.append_ #[t,t] ty #[v,.slice (some a) 1 c]).run P w=.ok v' w'/\w'.ownsRow base e size v' (n+1) (xs++news)/\w.grownBy w' v.ownBlock/\NoU w' v':=by
 obtain⟨v',w',hr,h2,h3,-⟩:=run_append_own (P:=P) w base t ty e i z size bytes ht hi hz hsize hby hzs hsz v n xs hown a 1 c news (by omega) hnews h1 h63 hbytes hbase;refine⟨v',w',hr,h2,h3,?_⟩;have hsmall:n+1<=9223372036854775807:=by simp only[maxLen] at h63;omega
 subst hsize;subst hby;rcases hown.2 with ⟨rfl,rfl⟩ | ⟨g,cap,cur,rfl,hbg,hg,hnc,hcm,hcs,htake⟩
 ·have hr':=run_append_nil (P:=P) w t ty e i z ht hi hz a 1 c news (by omega) hnews (by omega) (by omega) (by omega);rw[hr'] at hr
  cases hr
  exact iw (w:=w.drew) fun u hu=>by
   rcases tL.1 hu with h | h
   ·exact hn1 u (by simpa using h)
   ·exact lN hzn u h
 ·by_cases hroom:n+1<=cap
  ·have hfit:n*i.size+news.length<=cur.size:=by rw[hl,hcs,<-tQ];exact rx _ hroom
   have hr':=run_append_room (P:=P) w t ty e i ht hi g n cap cur hg a 1 c news (by omega) hnews h1 hroom hfit;rw[hr'] at hr
   cases hr
   intro g' hg' j y hc;simp only[Value.ownBlock,Option.some.injEq] at hg';subst hg';rw[World.cell?,setRow_heap w g cur _ e _ hg] at hc;simp only[tv,so,if_false] at hc;have hm:=tA hc
   have old:∀ u∈cur.toList,jj u:=fun u hu z' h'=>by
    obtain⟨k,hk,he⟩:=sR hu;refine hnu g rfl k z' ?_;rw[World.cell?,hg];simp only[tv,so,if_false];rw[Array.getElem?_eq_getElem (by simpa using hk),<-h',<-he];simp
   simp only[List.mem_toArray,tn] at hm;rcases hm with (h | h) | h
   ·exact old _ (tF h) y rfl
   ·exact hn1 _ h y rfl
   ·exact old _ (tE h) y rfl
  ·have holds:∀ j u,xs[j]?=some u->w.cell? ((⟨g,0,none⟩:Addr).add j)=some u:=hown.cells (g:=g) rfl;have hr':=run_append_grow (P:=P) w t ty e i z ht hi hz ⟨g,0,none⟩ n cap xs hown.1 holds a 1 c news (by omega) hnews (by omega) (by omega) (growslice_fits (by omega) hbytes);rw[hr'] at hr
   cases hr
   exact iw (w:=w.drew) fun u hu=>by
    rcases tL.1 hu with h | h
    ·rcases tL.1 h with h | h
     ·intro z' h';obtain⟨k,hk,he⟩:=sR (show u∈xs by simpa using h);have:=holds k u (by rw[ry hk,he]);have ha:(⟨g,0,none⟩:Addr).add k=⟨g,k,none⟩:=by unfold Addr.add;split<;>simp_all
      rw[ha,h'] at this;exact hnu g rfl k z' this
     ·exact hn1 u (by simpa using h)
    ·exact lN hzn u h
theorem dr {ops:Array Oper}{rest:List Oper}{o:Oper}{a:Act}{Q:Exit->Act->World->Prop} (hgd:o.guard=none) (s x:Operand) (t:TypeId)
  (ho:o.op=.call { callee:=.builtin .append,args:=#[s,x],argTypes:=#[t,t] })
  (base:Nat) (e:TypeId) (i:TypeInfo) (z:Value) (size bytes:Nat) (ht:P.underlying t=some (.slice e)) (hi:P.info? e=some i) (hz:i.zero=some z)
  (hsize:i.size=size) (hby:i.bytes=bytes) (hzs:z.cells.size=size) (hsz:0<size) (hzn:∀ u∈z.cells,jj u)
  (v:Value) (n:Nat) (xs:List Value) (hs:a.eval s=v) (hown:w.ownsRow base e size v n xs) (hnu:NoU w v)
  (ad:Addr) (c:Nat) (news:List Value) (hx:a.eval x=.slice (some ad) 1 c) (hl:news.length=size) (hnews:∀ j u,news[j]?=some u->w.cell? (ad.add j)=some u) (h1:∀ u∈news,u.oneCell'=true) (hn1:∀ u∈news,jj u)
  (h63:n+1<=maxLen) (hbytes:(n+1)*bytes<=140737488355328) (hbase:base<=w.heap.size)
  (h:∀ v' w',w'.ownsRow base e size v' (n+1) (xs++news)->w.grownBy w' v.ownBlock->NoU w' v'->wpList P ops Q rest (a.put o.dst v') w'):wpList P ops Q (o :: rest) a w:=by
 refine wpList_plain hgd fun K hK=>?_;obtain⟨v',w',hr,h2,h3,h4⟩:=jc (P:=P) w base t o.type e i z size bytes ht hi hz hsize hby hzs hsz hzn v n xs hown hnu ad c news hl hnews h1 hn1 h63 hbytes hbase;unfold Oper.wp execOp;simp only[ho,resolve,invoke,builtin,Sem.run_bind,Sem.run_pure,Result.andThen_ok,List.map_toArray,sT,List.map_nil,hs,hx,hr];exact hK _ _ (h v' w' h2 h3 h4)
end
theorem IsU.grown {w w':World}{u v:Value}{l:List Nat} (h:IsU w u l) (hnu:NoU w v) (hg:w.grownBy w' v.ownBlock):IsU w' u l:=by
 obtain⟨p,cap,e,h1,h2,h3⟩:=h;refine⟨p,cap,e,h1,h2,fun hl=>?_⟩;obtain⟨b,o,e2,hlt,hc⟩:=h3 hl;have hne:some b≠v.ownBlock:=fun e3=>hnu b e3.symm (o+0) _ (hc 0 hl);exact⟨b,o,e2,rA hlt hg.size,fun j hj=>hg.cell (hc j hj) hne⟩
theorem IsR.keepU {w w':World}{v:Value}{r:Rt} (h:IsR w v r) (hk:∀ u l,IsU w u l->IsU w' u l):IsR w' v r:=by
 obtain⟨n,d,e,h1,h2,h3,h4⟩:=h;exact⟨n,d,e,hk _ _ h1,hk _ _ h2,h3,h4⟩
theorem IsV.keepU {w w':World}{v:Value}{z:Vl} (h:IsV w v z) (hk:∀ u l,IsU w u l->IsU w' u l):IsV w' v z:=by
 obtain⟨a,b,c,d,e,f,e1,h1,h2⟩:=h;exact⟨a,b,c,d,e,f,e1,h1.keepU hk,h2.keepU hk⟩
theorem IsK.keepU {w w':World}{v:Value}{z:CQ} (h:IsK w v z) (hk:∀ u l,IsU w u l->IsU w' u l):IsK w' v z:=⟨h.v.keepU hk,h.s⟩
theorem qU:(Tryz.prog.info? 110).map (fun i=>(i.zero,i.size,i.bytes))=some (some (.agg #[.bool false,.slice none 0 0,.slice none 0 0,.bool false,.slice none 0 0,.slice none 0 0]),6,112):=by kernel_rfl
theorem qT:(Tryz.prog.info? 106).map (fun i=>(i.zero,i.size,i.bytes))=some (some (.agg #[.bool false,.slice none 0 0,.slice none 0 0]),3,56):=by kernel_rfl
theorem qS:(Tryz.prog.info? 32).map (fun i=>(i.zero,i.size,i.bytes))=some (some (.string ⟨#[]⟩),1,16):=by kernel_rfl
structure f9 (w:World) (base:Nat) (v:Value) (zs:List CQ):Prop where
 p:iO w base v zs
 nu:NoU w v
theorem NoU.below {w w':World}{v:Value}{base:Nat}{T:TypeId}{k n:Nat}{xs:List Value} (h:NoU w v) (ho:w.ownsRow base T k v n xs) (hb:Below w.heap.size w w'):NoU w' v:=by
 intro g hg j z hc;rw[hb.cell (p:=⟨g,j,none⟩) (ho.lt g hg).2] at hc;exact h g hg j z hc
theorem f9.below {w w':World}{base:Nat}{v:Value}{zs:List CQ} (h:f9 w base v zs) (hb:Below w.heap.size w w'):f9 w' base v zs:=by
 obtain⟨es,h1,h2,h3⟩:=h.p;exact⟨h.p.below hb,h.nu.below h2 hb⟩
theorem f9.nil (w:World) (base:Nat):f9 w base (.slice none 0 0) []:=⟨iO.nil w base,fun g hg=>by cases hg⟩
theorem f9.isP {w:World}{base:Nat}{v:Value}{zs:List CQ} (h:f9 w base v zs):IsP w v zs:=h.p.isP
theorem mN (w:World) (a b c d e f:Value) (T:TypeId):∀ (j:Nat) (u:Value),[a,b,c,d,e,f][j]?=some u->(w.alloc (.cells #[a,b,c,d,e,f] T)).cell? ((⟨w.heap.size,0,none⟩:Addr).add j)=some u:=by
 intro j u hj;have ha:(⟨w.heap.size,0,none⟩:Addr).add j=⟨w.heap.size,j,none⟩:=by unfold Addr.add;split<;>simp_all
 rw[ha];exact ah w _ T j u (by simpa using hj)
theorem fO {w:World}{ops:Array Oper}{rest:List Oper}{o:Oper}{act:Act}{Q:Exit->Act->World->Prop} (T:TypeId)
  (hT:Tryz.prog.underlying T=some (.slice 110)) (hgd:o.guard=none) (s x:Operand)
  (ho:o.op=.call { callee:=.builtin .append,args:=#[s,x],argTypes:=#[T,T] })
  (base:Nat) (v:Value) (zs:List CQ) (a b c d e f:Value) (z:CQ) (hs:act.eval s=v) (hown:f9 w base v zs) (hk:IsK w (.agg #[a,b,c,d,e,f]) z)
  (hx:act.eval x=.slice (some ⟨w.heap.size,0,none⟩) 1 1) (hlen:zs.length<1000000000) (hbase:base<=w.heap.size)
  (h:∀ v' w',f9 w' base v' (zs++[z])->(∀ B w0,Below B w0 w->B<=base->Below B w0 w')->(∀ u l,IsU w u l->IsU w' u l)->wpList Tryz.prog ops Q rest (act.put o.dst v') w') :
  wpList Tryz.prog ops Q (o :: rest) act (w.alloc (.cells #[a,b,c,d,e,f] 110)):=by
 obtain⟨es,h1,h2,h3⟩:=hown.p;obtain⟨i0,hi,hz0,hz1,hz2⟩:=info_parts qU;have hb:=ae w (.cells #[a,b,c,d,e,f] 110);obtain⟨xm,xp,xl,xc,xq,xk,xd,ym,yp,yl,yc,yq,yk,yd,he⟩:=hk.forms;obtain⟨rfl,rfl,rfl,rfl,rfl,rfl⟩:a=.bool xm/\b=.slice xp xl xc/\c=.slice xq xk xd/\d=.bool ym/\e=.slice yp yl yc/\f=.slice yq yk yd:=by simpa using he
 have hnu:=hown.nu.below h2 hb;refine dr _ hgd s x T ho base 110 i0 _ 6 112 hT hi hz0 hz1 hz2 rfl (by decide) ?_ v es.length (cM es) hs (h2.alloc _) hnu ⟨w.heap.size,0,none⟩ 1 [.bool xm,.slice xp xl xc,.slice xq xk xd,.bool ym,.slice yp yl yc,.slice yq yk yd] hx rfl (mN w _ _ _ _ _ _ _) ?_ ?_ ?_ ?_ ?_ ?_
 ·intro u hu z' e';subst e';simp[Value.cells] at hu
 ·intro u hu;simp at hu;rcases hu with rfl | rfl | rfl | rfl | rfl | rfl<;>rfl
 ·intro u hu z' e';subst e';simp at hu
 ·unfold maxLen;omega
 ·omega
 ·rw[af];omega
 ·intro v' w' g1 g2 g3;have hkeep:∀ u l,IsU w u l->IsU w' u l:=fun u l hu=>(hu.below hb).grown hnu g2;refine h v' w' ⟨⟨es++[.agg #[.bool xm,.slice xp xl xc,.slice xq xk xd,.bool ym,.slice yp yl yc,.slice yq yk yd]],by simp[h1],?_,?_⟩,g3⟩ ?_ hkeep
  ·rw[rE,eU];exact g1
  ·intro i hi' hi2;by_cases hlt:i<es.length
   ·rw[sy hlt,sy (by omega)];exact (h3 i hlt (by omega)).keepU hkeep
   ·have hie:i=es.length:=by simp at hi';omega
    subst hie;rw[sv (rp _),sv (by omega)];simpa[h1] using hk.keepU hkeep
  ·intro B w0 hB hBb;refine (hB.alloc (by have:=hbase;omega) _).grown g2 (by rw[af];omega) ?_;intro k hk';have:=(h2.lt k hk').1;omega
structure IsQ (w:World) (v:Value) (q:Rat):Prop where
 v:IsR w v (rt q)
 s:Sz 10000 (rt q)
theorem IsQ.below {w w':World}{v:Value}{q:Rat} (h:IsQ w v q) (hb:Below w.heap.size w w'):IsQ w' v q:=⟨h.v.below hb,h.s⟩
theorem IsQ.keepU {w w':World}{v:Value}{q:Rat} (h:IsQ w v q) (hk:∀ u l,IsU w u l->IsU w' u l):IsQ w' v q:=⟨h.v.keepU hk,h.s⟩
theorem IsQ.forms {w:World}{v:Value}{q:Rat} (h:IsQ w v q):∃ xm xp xl xc xq xk xd,v=.agg #[.bool xm,.slice xp xl xc,.slice xq xk xd]:=h.v.form
theorem IsQ.len {w:World}{v:Value}{q:Rat} (h:IsQ w v q):(cellsOf v).length=3:=by
 obtain⟨xm,xp,xl,xc,xq,xk,xd,rfl⟩:=h.forms;rfl
def IsL (w:World) (v:Value) (qs:List Rat):Prop:=∃ es:List Value,es.length=qs.length/\bT w 3 v es/\∀ i (h:i<es.length) (h':i<qs.length),IsQ w es[i] qs[i]
structure f8 (w:World) (base:Nat) (v:Value) (qs:List Rat):Prop where
 p:∃ es:List Value,es.length=qs.length/\w.ownsRow base 106 3 v es.length (cM es)/\∀ i (h:i<es.length) (h':i<qs.length),IsQ w es[i] qs[i]
 nu:NoU w v
theorem f8.below {w w':World}{base:Nat}{v:Value}{qs:List Rat} (h:f8 w base v qs) (hb:Below w.heap.size w w'):f8 w' base v qs:=by
 obtain⟨es,h1,h2,h3⟩:=h.p;exact⟨⟨es,h1,cU h2 hb,fun i hi hi'=>(h3 i hi hi').below hb⟩,h.nu.below h2 hb⟩
theorem f8.nil (w:World) (base:Nat):f8 w base (.slice none 0 0) []:=⟨⟨[],rfl,World.ownsRow_nil _ _ _ _,fun i h=>by simp at h⟩,fun g hg=>by cases hg⟩
theorem f8.isL {w:World}{base:Nat}{v:Value}{qs:List Rat} (h:f8 w base v qs):IsL w v qs:=by
 obtain⟨es,h1,h2,h3⟩:=h.p;refine⟨es,h1,cC (fun e he=>?_) h2,h3⟩;obtain⟨i,hi,rfl⟩:=sR he;exact (h3 i hi (by omega)).len
theorem IsL.get {w:World}{p:Option Addr}{n c:Nat}{qs:List Rat} (h:IsL w (.slice p n c) qs) {i:Nat} (hi:i<qs.length) :
  ∃ B o,p=some ⟨B,o,none⟩/\B<w.heap.size/\∃ xm xp xl xc xq xk xd,IsQ w (.agg #[.bool xm,.slice xp xl xc,.slice xq xk xd]) qs[i] /\
   w.cell? ⟨B,o+i*3,none⟩=some (.bool xm)/\w.cell? ⟨B,o+i*3+1,none⟩=some (.slice xp xl xc)/\w.cell? ⟨B,o+i*3+2,none⟩=some (.slice xq xk xd):=by
 obtain⟨es,h1,⟨p',cap,e,h2,h3,h4⟩,h5⟩:=h;obtain⟨rfl,-,-⟩:p=p'/\n=es.length/\c=cap:=by simpa using e
 obtain⟨b,o,e2,hlt,hc⟩:=h4 (by omega);have hk:=h5 i (by omega) hi;obtain⟨xm,xp,xl,xc,xq,xk,xd,he⟩:=hk.forms;have hc:=hc i (by omega);rw[he] at hk hc;exact⟨b,o,e2,hlt,_,_,_,_,_,_,_,hk,hc 0 _ rfl,hc 1 _ rfl,hc 2 _ rfl⟩
theorem IsL.form {w:World}{v:Value}{qs:List Rat} (h:IsL w v qs):∃ p c,v=.slice p qs.length c/\qs.length<=c/\c<=maxLen:=by
 obtain⟨es,h1,⟨p,c,e,h2,h3,-⟩,-⟩:=h;rw[h1] at e h2;exact⟨p,c,e,h2,h3⟩
theorem kv (w:World) (a b c:Value) (T:TypeId):∀ (j:Nat) (u:Value),[a,b,c][j]?=some u->(w.alloc (.cells #[a,b,c] T)).cell? ((⟨w.heap.size,0,none⟩:Addr).add j)=some u:=by
 intro j u hj;have ha:(⟨w.heap.size,0,none⟩:Addr).add j=⟨w.heap.size,j,none⟩:=by unfold Addr.add;split<;>simp_all
 rw[ha];exact ah w _ T j u (by simpa using hj)
theorem fN {w:World}{ops:Array Oper}{rest:List Oper}{o:Oper}{act:Act}{Q:Exit->Act->World->Prop} (T:TypeId)
  (hT:Tryz.prog.underlying T=some (.slice 106)) (hgd:o.guard=none) (s x:Operand)
  (ho:o.op=.call { callee:=.builtin .append,args:=#[s,x],argTypes:=#[T,T] })
  (base:Nat) (v:Value) (qs:List Rat) (a b c:Value) (q:Rat) (hs:act.eval s=v) (hown:f8 w base v qs) (hk:IsQ w (.agg #[a,b,c]) q)
  (hx:act.eval x=.slice (some ⟨w.heap.size,0,none⟩) 1 1) (hlen:qs.length<1000000000) (hbase:base<=w.heap.size)
  (h:∀ v' w',f8 w' base v' (qs++[q])->(∀ B w0,Below B w0 w->B<=base->Below B w0 w')->(∀ u l,IsU w u l->IsU w' u l)->wpList Tryz.prog ops Q rest (act.put o.dst v') w') :
  wpList Tryz.prog ops Q (o :: rest) act (w.alloc (.cells #[a,b,c] 106)):=by
 obtain⟨es,h1,h2,h3⟩:=hown.p;obtain⟨i0,hi,hz0,hz1,hz2⟩:=info_parts qT;have hb:=ae w (.cells #[a,b,c] 106);obtain⟨xm,xp,xl,xc,xq,xk,xd,he⟩:=hk.forms;obtain⟨rfl,rfl,rfl⟩:=eN he;have hnu:=hown.nu.below h2 hb;refine dr _ hgd s x T ho base 106 i0 _ 3 56 hT hi hz0 hz1 hz2 rfl (by decide) ?_ v es.length (cM es) hs (h2.alloc _) hnu ⟨w.heap.size,0,none⟩ 1 [.bool xm,.slice xp xl xc,.slice xq xk xd] hx rfl (kv w _ _ _ _) ?_ ?_ ?_ ?_ ?_ ?_
 ·intro u hu z' e';subst e';simp[Value.cells] at hu
 ·intro u hu;simp at hu;rcases hu with rfl | rfl | rfl<;>rfl
 ·intro u hu z' e';subst e';simp at hu
 ·unfold maxLen;omega
 ·omega
 ·rw[af];omega
 ·intro v' w' g1 g2 g3;have hkeep:∀ u l,IsU w u l->IsU w' u l:=fun u l hu=>(hu.below hb).grown hnu g2;refine h v' w' ⟨⟨es++[.agg #[.bool xm,.slice xp xl xc,.slice xq xk xd]],by simp[h1],?_,?_⟩,g3⟩ ?_ hkeep
  ·rw[rE,eU];exact g1
  ·intro i hi' hi2;by_cases hlt:i<es.length
   ·rw[sy hlt,sy (by omega)];exact (h3 i hlt (by omega)).keepU hkeep
   ·have hie:i=es.length:=by simp at hi';omega
    subst hie;rw[sv (rp _),sv (by omega)];simpa[h1] using hk.keepU hkeep
  ·intro B w0 hB hBb;refine (hB.alloc (by have:=hbase;omega) _).grown g2 (by rw[af];omega) ?_;intro k hk';have:=(h2.lt k hk').1;omega
theorem aI {w:World}{ops:Array Oper}{rest:List Oper}{o:Oper}{act:Act}{Q:Exit->Act->World->Prop} (T:TypeId)
  (hT:Tryz.prog.underlying T=some (.slice 32)) (hgd:o.guard=none) (s x:Operand)
  (ho:o.op=.call { callee:=.builtin .append,args:=#[s,x],argTypes:=#[T,T] })
  (base:Nat) (v:Value) (l:List ByteArray) (t:ByteArray) (hs:act.eval s=v) (hown:cm w base v l)
  (hx:act.eval x=.slice (some ⟨w.heap.size,0,none⟩) 1 1) (hlen:l.length<1000000000) (hbase:base<=w.heap.size)
  (h:∀ v' w',cm w' base v' (l++[t])->(∀ B w0,Below B w0 w->B<=base->Below B w0 w')->wpList Tryz.prog ops Q rest (act.put o.dst v') w') :
  wpList Tryz.prog ops Q (o :: rest) act (w.alloc (.cells #[.string t] 32)):=by
 obtain⟨i0,hi,hz0,hz1,hz2⟩:=info_parts qS
 refine wpList_append_own _ hgd s x T ho base 32 i0 _ 1 16 hT hi hz0 hz1 hz2 rfl (by decide) v l.length (l.map .string) hs (World.ownsRow.alloc hown _) ⟨w.heap.size,0,none⟩ 1 1 [.string t] hx rfl ?_ ?_ ?_ ?_ ?_ ?_
 ·intro j u hj
  match j,hj with
  | 0,hj =>
   simp at hj
   subst hj
   exact ah w _ _ 0 _ rfl
 ·intro u hu
  simp at hu
  subst hu
  rfl
 ·unfold maxLen;omega
 ·omega
 ·rw[af];omega
 ·intro v' w' hown' hg _
  refine h v' w' ?_ ?_
  ·unfold cm
   rw[rE,sX];exact hown'
  ·intro B w0 hb hB
   have hbs:=World.ownsRow.lt hown
   refine (hb.alloc (by omega) _).grown hg (by rw[af];omega) ?_
   intro k hk
   have:=(hbs k hk).1
   omega
end Go.Proofs.YtmakbmhlemhgeaaGreatDoor
