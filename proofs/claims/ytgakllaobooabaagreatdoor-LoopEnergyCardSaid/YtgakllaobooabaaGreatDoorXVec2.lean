/- L -/
import Derived.Test.YtgakllaobooabaaGreatDoorXNC4
import Derived.Test.YtgakllaobooabaaGreatDoorXB
set_option linter.all false
set_option maxRecDepth 100000
set_option maxHeartbeats 8000000
namespace Go.Proofs.YtgakllaobooabaaGreatDoor
open Go.RowKit Dg
def mZ (u:Value):Prop:=∀ z,u≠.int .u64 z
def NoU (w:World) (v:Value):Prop:=∀ g,v.ownBlock=some g->∀ j z,w.cell? ⟨g,j,none⟩≠some (.int .u64 z)
theorem sM {zs:Array Value}{n:Nat} (h:∀ u∈zs,mZ u):∀ u∈Builtin.zeroCells zs n,mZ u:=by
 intro u hu;unfold Builtin.zeroCells at hu;obtain⟨i,hi,rfl⟩:=Array.mem_map.1 hu;have hi2:i<n*zs.size:=by simpa using hi
 have hp:0<zs.size:=by
  rcases BJ zs.size with h0 | h0
  ·rw[h0] at hi2;simp at hi2
  ·exact h0
 have hm:=BN i hp;rw[getElem!_pos zs (i % zs.size) hm];exact h _ (Da hm)
theorem mD {w:World}{cs:Array Value}{e:TypeId}{n c:Nat} (h:∀ u∈cs,mZ u):NoU (w.alloc (.cells cs e)) (.slice (some ⟨w.heap.size,0,none⟩) n c):=by
 intro g hg j z hc;simp only[Value.ownBlock,Option.some.injEq] at hg;subst hg;rw[World.cell?,heap_alloc_new] at hc;simp only[Bj,AU,if_false] at hc;exact h _ (BF hc) z rfl
section
variable {P : Program} (w : World)
theorem nL (base:Nat) (t ty e:TypeId) (i:TypeInfo) (z:Value) (size bytes:Nat) (ht:P.underlying t=some (.slice e)) (hi:P.info? e=some i) (hz:i.zero=some z)
  (hsize:i.size=size) (hby:i.bytes=bytes) (hzs:z.cells.size=size) (hsz:0<size) (hzn:∀ u∈z.cells,mZ u)
  (v:Value) (n:Nat) (xs:List Value) (hown:w.ownsRow base e size v n xs) (hnu:NoU w v)
  (a:Addr) (c:Nat) (news:List Value) (hl:news.length=size) (hnews:∀ j u,news[j]?=some u->w.cell? (a.add j)=some u) (h1:∀ u∈news,u.oneCell'=true) (hn1:∀ u∈news,mZ u)
  (h63:n+1<=maxLen) (hbytes:(n+1)*bytes<=140737488355328) (hbase:base<=w.heap.size) :
  ∃ v' w',(Builtin.append_ #[t,t] ty #[v,.slice (some a) 1 c]).run P w=.ok v' w'/\w'.ownsRow base e size v' (n+1) (xs++news)/\w.grownBy w' v.ownBlock/\NoU w' v':=by
 obtain⟨v',w',hr,h2,h3,-⟩:=run_append_own (P:=P) w base t ty e i z size bytes ht hi hz hsize hby hzs hsz v n xs hown a 1 c news (by omega) hnews h1 h63 hbytes hbase;refine⟨v',w',hr,h2,h3,?_⟩;have hsmall:n+1<=9223372036854775807:=by simp only[maxLen] at h63;omega
 subst hsize;subst hby;rcases hown.2 with ⟨rfl,rfl⟩ | ⟨g,cap,cur,rfl,hbg,hg,hnc,hcm,hcs,htake⟩
 ·have hr':=run_append_nil (P:=P) w t ty e i z ht hi hz a 1 c news (by omega) hnews (by omega) (by omega) (by omega);rw[hr'] at hr
  cases hr
  exact mD (w:=w.drew) fun u hu=>by
   rcases Cf.1 hu with h | h
   ·exact hn1 u (by simpa using h)
   ·exact sM hzn u h
 ·by_cases hroom:n+1<=cap
  ·have hfit:n*i.size+news.length<=cur.size:=by rw[hl,hcs,<-Cz];exact AJ _ hroom
   have hr':=run_append_room (P:=P) w t ty e i ht hi g n cap cur hg a 1 c news (by omega) hnews h1 hroom hfit;rw[hr'] at hr
   cases hr
   intro g' hg' j y hc;simp only[Value.ownBlock,Option.some.injEq] at hg';subst hg';rw[World.cell?,setRow_heap w g cur _ e _ hg] at hc;simp only[Bj,AU,if_false] at hc;have hm:=BF hc
   have old:∀ u∈cur.toList,mZ u:=fun u hu z' h'=>by
    obtain⟨k,hk,he⟩:=A_ hu;refine hnu g rfl k z' ?_;rw[World.cell?,hg];simp only[Bj,AU,if_false];rw[BD (by simpa using hk),<-h',<-he];simp
   simp only[List.mem_toArray,B_] at hm;rcases hm with (h | h) | h
   ·exact old _ (CF h) y rfl
   ·exact hn1 _ h y rfl
   ·exact old _ (CE h) y rfl
  ·have holds:∀ j u,xs[j]?=some u->w.cell? ((⟨g,0,none⟩:Addr).add j)=some u:=hown.cells (g:=g) rfl;have hr':=run_append_grow (P:=P) w t ty e i z ht hi hz ⟨g,0,none⟩ n cap xs hown.1 holds a 1 c news (by omega) hnews (by omega) (by omega) (growslice_fits (by omega) hbytes);rw[hr'] at hr
   cases hr
   exact mD (w:=w.drew) fun u hu=>by
    rcases Cf.1 hu with h | h
    ·rcases Cf.1 h with h | h
     ·intro z' h';obtain⟨k,hk,he⟩:=A_ (show u∈xs by simpa using h);have:=holds k u (by rw[AL hk,he]);have ha:(⟨g,0,none⟩:Addr).add k=⟨g,k,none⟩:=by unfold Addr.add;split<;>simp_all
      rw[ha,h'] at this;exact hnu g rfl k z' this
     ·exact hn1 u (by simpa using h)
    ·exact sM hzn u h
theorem d9 {ops:Array Oper}{rest:List Oper}{o:Oper}{a:Act}{Q:Exit->Act->World->Prop} (hgd:o.guard=none) (s x:Operand) (t:TypeId)
  (ho:o.op=.call { callee:=.builtin .append,args:=#[s,x],argTypes:=#[t,t] })
  (base:Nat) (e:TypeId) (i:TypeInfo) (z:Value) (size bytes:Nat) (ht:P.underlying t=some (.slice e)) (hi:P.info? e=some i) (hz:i.zero=some z)
  (hsize:i.size=size) (hby:i.bytes=bytes) (hzs:z.cells.size=size) (hsz:0<size) (hzn:∀ u∈z.cells,mZ u)
  (v:Value) (n:Nat) (xs:List Value) (hs:a.eval s=v) (hown:w.ownsRow base e size v n xs) (hnu:NoU w v)
  (ad:Addr) (c:Nat) (news:List Value) (hx:a.eval x=.slice (some ad) 1 c) (hl:news.length=size) (hnews:∀ j u,news[j]?=some u->w.cell? (ad.add j)=some u) (h1:∀ u∈news,u.oneCell'=true) (hn1:∀ u∈news,mZ u)
  (h63:n+1<=maxLen) (hbytes:(n+1)*bytes<=140737488355328) (hbase:base<=w.heap.size)
  (h:∀ v' w',w'.ownsRow base e size v' (n+1) (xs++news)->w.grownBy w' v.ownBlock->NoU w' v'->wpList P ops Q rest (a.put o.dst v') w'):wpList P ops Q (o :: rest) a w:=by
 refine wpList_plain hgd fun K hK=>?_;obtain⟨v',w',hr,h2,h3,h4⟩:=nL (P:=P) w base t o.type e i z size bytes ht hi hz hsize hby hzs hsz hzn v n xs hown hnu ad c news hl hnews h1 hn1 h63 hbytes hbase;unfold Oper.wp execOp;simp only[ho,resolve,invoke,builtin,Sem.run_bind,Sem.run_pure,Result.andThen_ok,Df,C_,List.map_nil,hs,hx,hr];exact hK _ _ (h v' w' h2 h3 h4)
end
theorem IsU.grown {w w':World}{u v:Value}{l:List Nat} (h:IsU w u l) (hnu:NoU w v) (hg:w.grownBy w' v.ownBlock):IsU w' u l:=by
 obtain⟨p,cap,e,h1,h2,h3⟩:=h;refine⟨p,cap,e,h1,h2,fun hl=>?_⟩;obtain⟨b,o,e2,hlt,hc⟩:=h3 hl;have hne:some b≠v.ownBlock:=fun e3=>hnu b e3.symm (o+0) _ (hc 0 hl);exact⟨b,o,e2,AD hlt hg.size,fun j hj=>hg.cell (hc j hj) hne⟩
theorem IsR.keepU {w w':World}{v:Value}{r:Rt} (h:IsR w v r) (hk:∀ u l,IsU w u l->IsU w' u l):IsR w' v r:=by
 obtain⟨n,d,e,h1,h2,h3,h4⟩:=h;exact⟨n,d,e,hk _ _ h1,hk _ _ h2,h3,h4⟩
theorem IsV.keepU {w w':World}{v:Value}{z:Vl} (h:IsV w v z) (hk:∀ u l,IsU w u l->IsU w' u l):IsV w' v z:=by
 obtain⟨a,b,c,d,e,f,e1,h1,h2⟩:=h;exact⟨a,b,c,d,e,f,e1,h1.keepU hk,h2.keepU hk⟩
theorem IsK.keepU {w w':World}{v:Value}{z:CQ} (h:IsK w v z) (hk:∀ u l,IsU w u l->IsU w' u l):IsK w' v z:=⟨h.v.keepU hk,h.s⟩
theorem vF:(Tryz.prog.info? 65).map (fun i=>(i.zero,i.size,i.bytes))=some (some (.agg #[.bool false,.slice none 0 0,.slice none 0 0,.bool false,.slice none 0 0,.slice none 0 0]),6,112):=by kernel_rfl
theorem Ac:(Tryz.prog.info? 63).map (fun i=>(i.zero,i.size,i.bytes))=some (some (.agg #[.bool false,.slice none 0 0,.slice none 0 0]),3,56):=by kernel_rfl
theorem vE:(Tryz.prog.info? 25).map (fun i=>(i.zero,i.size,i.bytes))=some (some (.string ⟨#[]⟩),1,16):=by kernel_rfl
structure cC (w:World) (base:Nat) (v:Value) (zs:List CQ):Prop where
 p:m0 w base v zs
 nu:NoU w v
theorem NoU.below {w w':World}{v:Value}{base:Nat}{T:TypeId}{k n:Nat}{xs:List Value} (h:NoU w v) (ho:w.ownsRow base T k v n xs) (hb:Below w.heap.size w w'):NoU w' v:=by
 intro g hg j z hc;rw[hb.cell (p:=⟨g,j,none⟩) (ho.lt g hg).2] at hc;exact h g hg j z hc
theorem cC.below {w w':World}{base:Nat}{v:Value}{zs:List CQ} (h:cC w base v zs) (hb:Below w.heap.size w w'):cC w' base v zs:=by
 obtain⟨es,h1,h2,h3⟩:=h.p;exact⟨h.p.below hb,h.nu.below h2 hb⟩
theorem cC.nil (w:World) (base:Nat):cC w base (.slice none 0 0) []:=⟨m0.nil w base,fun g hg=>by cases hg⟩
theorem cC.isP {w:World}{base:Nat}{v:Value}{zs:List CQ} (h:cC w base v zs):IsP w v zs:=h.p.isP
theorem od (w:World) (a b c d e f:Value) (T:TypeId):∀ (j:Nat) (u:Value),[a,b,c,d,e,f][j]?=some u->(w.alloc (.cells #[a,b,c,d,e,f] T)).cell? ((⟨w.heap.size,0,none⟩:Addr).add j)=some u:=by
 intro j u hj;have ha:(⟨w.heap.size,0,none⟩:Addr).add j=⟨w.heap.size,j,none⟩:=by unfold Addr.add;split<;>simp_all
 rw[ha];exact ap w _ T j u (by simpa using hj)
theorem df {w:World}{ops:Array Oper}{rest:List Oper}{o:Oper}{act:Act}{Q:Exit->Act->World->Prop} (T:TypeId)
  (hT:Tryz.prog.underlying T=some (.slice 65)) (hgd:o.guard=none) (s x:Operand)
  (ho:o.op=.call { callee:=.builtin .append,args:=#[s,x],argTypes:=#[T,T] })
  (base:Nat) (v:Value) (zs:List CQ) (a b c d e f:Value) (z:CQ) (hs:act.eval s=v) (hown:cC w base v zs) (hk:IsK w (.agg #[a,b,c,d,e,f]) z)
  (hx:act.eval x=.slice (some ⟨w.heap.size,0,none⟩) 1 1) (hlen:zs.length<1000000000) (hbase:base<=w.heap.size)
  (h:∀ v' w',cC w' base v' (zs++[z])->(∀ B w0,Below B w0 w->B<=base->Below B w0 w')->(∀ u l,IsU w u l->IsU w' u l)->wpList Tryz.prog ops Q rest (act.put o.dst v') w') :
  wpList Tryz.prog ops Q (o :: rest) act (w.alloc (.cells #[a,b,c,d,e,f] 65)):=by
 obtain⟨es,h1,h2,h3⟩:=hown.p;obtain⟨i0,hi,hz0,hz1,hz2⟩:=info_parts vF;have hb:=ac w (.cells #[a,b,c,d,e,f] 65);obtain⟨xm,xp,xl,xc,xq,xk,xd,ym,yp,yl,yc,yq,yk,yd,he⟩:=hk.forms;obtain⟨rfl,rfl,rfl,rfl,rfl,rfl⟩:a=.bool xm/\b=.slice xp xl xc/\c=.slice xq xk xd/\d=.bool ym/\e=.slice yp yl yc/\f=.slice yq yk yd:=by simpa using he
 have hnu:=hown.nu.below h2 hb;refine d9 _ hgd s x T ho base 65 i0 _ 6 112 hT hi hz0 hz1 hz2 rfl (by decide) ?_ v es.length (dW es) hs (h2.alloc _) hnu ⟨w.heap.size,0,none⟩ 1 [.bool xm,.slice xp xl xc,.slice xq xk xd,.bool ym,.slice yp yl yc,.slice yq yk yd] hx rfl (od w _ _ _ _ _ _ _) ?_ ?_ ?_ ?_ ?_ ?_
 ·intro u hu z' e';subst e';simp[Value.cells] at hu
 ·intro u hu;simp at hu;rcases hu with rfl | rfl | rfl | rfl | rfl | rfl<;>rfl
 ·intro u hu z' e';subst e';simp at hu
 ·unfold maxLen;omega
 ·omega
 ·rw[size_alloc];omega
 ·intro v' w' g1 g2 g3;have hkeep:∀ u l,IsU w u l->IsU w' u l:=fun u l hu=>(hu.below hb).grown hnu g2;refine h v' w' ⟨⟨es++[.agg #[.bool xm,.slice xp xl xc,.slice xq xk xd,.bool ym,.slice yp yl yc,.slice yq yk yd]],by simp[h1],?_,?_⟩,g3⟩ ?_ hkeep
  ·rw[AO,jz];exact g1
  ·intro i hi' hi2;by_cases hlt:i<es.length
   ·rw[A8 hlt,A8 (by omega)];exact (h3 i hlt (by omega)).keepU hkeep
   ·have hie:i=es.length:=by simp at hi';omega
    subst hie;rw[A4 (AA _),A4 (by omega)];simpa[h1] using hk.keepU hkeep
  ·intro B w0 hB hBb;refine (hB.alloc (by have:=hbase;omega) _).grown g2 (by rw[size_alloc];omega) ?_;intro k hk';have:=(h2.lt k hk').1;omega
structure IsQ (w:World) (v:Value) (q:Rat):Prop where
 v:IsR w v (rt q)
 s:Sz 10000 (rt q)
theorem IsQ.below {w w':World}{v:Value}{q:Rat} (h:IsQ w v q) (hb:Below w.heap.size w w'):IsQ w' v q:=⟨h.v.below hb,h.s⟩
theorem IsQ.keepU {w w':World}{v:Value}{q:Rat} (h:IsQ w v q) (hk:∀ u l,IsU w u l->IsU w' u l):IsQ w' v q:=⟨h.v.keepU hk,h.s⟩
theorem IsQ.forms {w:World}{v:Value}{q:Rat} (h:IsQ w v q):∃ xm xp xl xc xq xk xd,v=.agg #[.bool xm,.slice xp xl xc,.slice xq xk xd]:=h.v.form
theorem IsQ.len {w:World}{v:Value}{q:Rat} (h:IsQ w v q):(cellsOf v).length=3:=by
 obtain⟨xm,xp,xl,xc,xq,xk,xd,rfl⟩:=h.forms;rfl
def IsL (w:World) (v:Value) (qs:List Rat):Prop:=∃ es:List Value,es.length=qs.length/\d_ w 3 v es/\∀ i (h:i<es.length) (h':i<qs.length),IsQ w es[i] qs[i]
structure kE (w:World) (base:Nat) (v:Value) (qs:List Rat):Prop where
 p:∃ es:List Value,es.length=qs.length/\w.ownsRow base 63 3 v es.length (dW es)/\∀ i (h:i<es.length) (h':i<qs.length),IsQ w es[i] qs[i]
 nu:NoU w v
theorem IsL.below {w w':World}{v:Value}{qs:List Rat} (h:IsL w v qs) (hb:Below w.heap.size w w'):IsL w' v qs:=by
 obtain⟨es,h1,h2,h3⟩:=h;exact⟨es,h1,h2.below hb,fun i hi hi'=>(h3 i hi hi').below hb⟩
theorem kE.below {w w':World}{base:Nat}{v:Value}{qs:List Rat} (h:kE w base v qs) (hb:Below w.heap.size w w'):kE w' base v qs:=by
 obtain⟨es,h1,h2,h3⟩:=h.p;exact⟨⟨es,h1,eC h2 hb,fun i hi hi'=>(h3 i hi hi').below hb⟩,h.nu.below h2 hb⟩
theorem kE.nil (w:World) (base:Nat):kE w base (.slice none 0 0) []:=⟨⟨[],rfl,World.ownsRow_nil _ _ _ _,fun i h=>by simp at h⟩,fun g hg=>by cases hg⟩
theorem kE.isL {w:World}{base:Nat}{v:Value}{qs:List Rat} (h:kE w base v qs):IsL w v qs:=by
 obtain⟨es,h1,h2,h3⟩:=h.p;refine⟨es,h1,eS (fun e he=>?_) h2,h3⟩;obtain⟨i,hi,rfl⟩:=A_ he;exact (h3 i hi (by omega)).len
theorem IsL.get {w:World}{p:Option Addr}{n c:Nat}{qs:List Rat} (h:IsL w (.slice p n c) qs) {i:Nat} (hi:i<qs.length) :
  ∃ B o,p=some ⟨B,o,none⟩/\B<w.heap.size/\∃ xm xp xl xc xq xk xd,IsQ w (.agg #[.bool xm,.slice xp xl xc,.slice xq xk xd]) qs[i] /\
   w.cell? ⟨B,o+i*3,none⟩=some (.bool xm)/\w.cell? ⟨B,o+i*3+1,none⟩=some (.slice xp xl xc)/\w.cell? ⟨B,o+i*3+2,none⟩=some (.slice xq xk xd):=by
 obtain⟨es,h1,⟨p',cap,e,h2,h3,h4⟩,h5⟩:=h;obtain⟨rfl,-,-⟩:p=p'/\n=es.length/\c=cap:=by simpa using e
 obtain⟨b,o,e2,hlt,hc⟩:=h4 (by omega);have hk:=h5 i (by omega) hi;obtain⟨xm,xp,xl,xc,xq,xk,xd,he⟩:=hk.forms;have hc:=hc i (by omega);rw[he] at hk hc;exact⟨b,o,e2,hlt,_,_,_,_,_,_,_,hk,hc 0 _ rfl,hc 1 _ rfl,hc 2 _ rfl⟩
theorem IsL.form {w:World}{v:Value}{qs:List Rat} (h:IsL w v qs):∃ p c,v=.slice p qs.length c/\qs.length<=c/\c<=maxLen:=by
 obtain⟨es,h1,⟨p,c,e,h2,h3,-⟩,-⟩:=h;rw[h1] at e h2;exact⟨p,c,e,h2,h3⟩
theorem qo (w:World) (a b c:Value) (T:TypeId):∀ (j:Nat) (u:Value),[a,b,c][j]?=some u->(w.alloc (.cells #[a,b,c] T)).cell? ((⟨w.heap.size,0,none⟩:Addr).add j)=some u:=by
 intro j u hj;have ha:(⟨w.heap.size,0,none⟩:Addr).add j=⟨w.heap.size,j,none⟩:=by unfold Addr.add;split<;>simp_all
 rw[ha];exact ap w _ T j u (by simpa using hj)
theorem ki {w:World}{ops:Array Oper}{rest:List Oper}{o:Oper}{act:Act}{Q:Exit->Act->World->Prop} (T:TypeId)
  (hT:Tryz.prog.underlying T=some (.slice 63)) (hgd:o.guard=none) (s x:Operand)
  (ho:o.op=.call { callee:=.builtin .append,args:=#[s,x],argTypes:=#[T,T] })
  (base:Nat) (v:Value) (qs:List Rat) (a b c:Value) (q:Rat) (hs:act.eval s=v) (hown:kE w base v qs) (hk:IsQ w (.agg #[a,b,c]) q)
  (hx:act.eval x=.slice (some ⟨w.heap.size,0,none⟩) 1 1) (hlen:qs.length<1000000000) (hbase:base<=w.heap.size)
  (h:∀ v' w',kE w' base v' (qs++[q])->(∀ B w0,Below B w0 w->B<=base->Below B w0 w')->(∀ u l,IsU w u l->IsU w' u l)->wpList Tryz.prog ops Q rest (act.put o.dst v') w') :
  wpList Tryz.prog ops Q (o :: rest) act (w.alloc (.cells #[a,b,c] 63)):=by
 obtain⟨es,h1,h2,h3⟩:=hown.p;obtain⟨i0,hi,hz0,hz1,hz2⟩:=info_parts Ac;have hb:=ac w (.cells #[a,b,c] 63);obtain⟨xm,xp,xl,xc,xq,xk,xd,he⟩:=hk.forms;obtain⟨rfl,rfl,rfl⟩:=cH he;have hnu:=hown.nu.below h2 hb;refine d9 _ hgd s x T ho base 63 i0 _ 3 56 hT hi hz0 hz1 hz2 rfl (by decide) ?_ v es.length (dW es) hs (h2.alloc _) hnu ⟨w.heap.size,0,none⟩ 1 [.bool xm,.slice xp xl xc,.slice xq xk xd] hx rfl (qo w _ _ _ _) ?_ ?_ ?_ ?_ ?_ ?_
 ·intro u hu z' e';subst e';simp[Value.cells] at hu
 ·intro u hu;simp at hu;rcases hu with rfl | rfl | rfl<;>rfl
 ·intro u hu z' e';subst e';simp at hu
 ·unfold maxLen;omega
 ·omega
 ·rw[size_alloc];omega
 ·intro v' w' g1 g2 g3;have hkeep:∀ u l,IsU w u l->IsU w' u l:=fun u l hu=>(hu.below hb).grown hnu g2;refine h v' w' ⟨⟨es++[.agg #[.bool xm,.slice xp xl xc,.slice xq xk xd]],by simp[h1],?_,?_⟩,g3⟩ ?_ hkeep
  ·rw[AO,jz];exact g1
  ·intro i hi' hi2;by_cases hlt:i<es.length
   ·rw[A8 hlt,A8 (by omega)];exact (h3 i hlt (by omega)).keepU hkeep
   ·have hie:i=es.length:=by simp at hi';omega
    subst hie;rw[A4 (AA _),A4 (by omega)];simpa[h1] using hk.keepU hkeep
  ·intro B w0 hB hBb;refine (hB.alloc (by have:=hbase;omega) _).grown g2 (by rw[size_alloc];omega) ?_;intro k hk';have:=(h2.lt k hk').1;omega
theorem aT {w:World}{ops:Array Oper}{rest:List Oper}{o:Oper}{act:Act}{Q:Exit->Act->World->Prop} (T:TypeId)
  (hT:Tryz.prog.underlying T=some (.slice 25)) (hgd:o.guard=none) (s x:Operand)
  (ho:o.op=.call { callee:=.builtin .append,args:=#[s,x],argTypes:=#[T,T] })
  (base:Nat) (v:Value) (l:List ByteArray) (t:ByteArray) (hs:act.eval s=v) (hown:bU w base v l)
  (hx:act.eval x=.slice (some ⟨w.heap.size,0,none⟩) 1 1) (hlen:l.length<1000000000) (hbase:base<=w.heap.size)
  (h:∀ v' w',bU w' base v' (l++[t])->(∀ B w0,Below B w0 w->B<=base->Below B w0 w')->wpList Tryz.prog ops Q rest (act.put o.dst v') w') :
  wpList Tryz.prog ops Q (o :: rest) act (w.alloc (.cells #[.string t] 25)):=by
 obtain⟨i0,hi,hz0,hz1,hz2⟩:=info_parts vE
 refine wpList_append_own _ hgd s x T ho base 25 i0 _ 1 16 hT hi hz0 hz1 hz2 rfl (by decide) v l.length (l.map .string) hs (World.ownsRow.alloc hown _) ⟨w.heap.size,0,none⟩ 1 1 [.string t] hx rfl ?_ ?_ ?_ ?_ ?_ ?_
 ·intro j u hj
  match j,hj with
  | 0,hj =>
   simp at hj
   subst hj
   exact ap w _ _ 0 _ rfl
 ·intro u hu
  simp at hu
  subst hu
  rfl
 ·unfold maxLen;omega
 ·omega
 ·rw[size_alloc];omega
 ·intro v' w' hown' hg _
  refine h v' w' ?_ ?_
  ·unfold bU
   rw[AO,CU];exact hown'
  ·intro B w0 hb hB
   have hbs:=World.ownsRow.lt hown
   refine (hb.alloc (by omega) _).grown hg (by rw[size_alloc];omega) ?_
   intro k hk
   have:=(hbs k hk).1
   omega
open Go.RowKit Dg
def allC:List ByteArray->Option (List CQ)
 | []=>some []
 | s :: l=>match dX s,allC l with
  | some z,some zs=>some (z :: zs)
  | _,_=>none
theorem sU {l:List ByteArray}{s:ByteArray}:allC (l++[s])=match allC l,dX s with | some zs,some z=>some (zs++[z]) | _,_=>none:=by
 induction l with
 | nil=>simp only[A1,allC];cases dX s<;>rfl
 | cons a l ih =>
  simp only[A9,allC,ih]
  cases dX a<;>cases allC l<;>cases dX s<;>rfl
theorem sV {l:List ByteArray}{i:Nat} (hi:i<l.length):allC (l.take (i+1))=match allC (l.take i),dX l[i] with | some zs,some z=>some (zs++[z]) | _,_=>none:=by
 rw[show l.take (i+1)=l.take i++[l[i]] from (AM hi).symm,sU]
theorem uK {l:List ByteArray}{i:Nat} (hi:i<l.length) (h:dX l[i]=none):allC l=none:=by
 induction l generalizing i with
 | nil=>simp at hi
 | cons a l ih =>
  cases i with
  | zero =>
   simp only[Av] at h;simp only[allC,h]
  | succ i =>
   have:=ih (i:=i) (by simpa using hi) (by simpa using h);simp only[allC,this]
   cases dX a<;>rfl
theorem cU:∀ {l:List ByteArray}{zs:List CQ},allC l=some zs->zs.length=l.length
 | [],zs,h=>by cases h;rfl
 | a :: l,zs,h=>by
  simp only[allC] at h
  cases ha:dX a with
  | none=>rw[ha] at h;cases h
  | some z =>
   cases hl:allC l with
   | none=>rw[ha,hl] at h;cases h
   | some ys =>
    rw[ha,hl] at h
    cases h
    simp[cU hl]
theorem m8 (v:Value) (l:List ByteArray) (w:World) (hl:IsS w v l) (hlen:l.length<1000000000) (hG:Gw w) :
  Calls Tryz.prog 30 #[v,.func (.func 31) #[] #[]] w fun e w'=>∃ v' ok,e=.returned (.tuple #[v',.bool ok])/\((∃ zs,allC l=some zs/\ok=true/\IsP w' v' zs)\/(allC l=none/\ok=false/\v'=.slice none 0 0))/\Below w.heap.size w w':=by
 obtain⟨p,c,rfl,hc1,hc2⟩:=hl.form;have HL:=At hl;have HG:=At hG;clear hl hG;go_enter Tryz.func30,Tryz.ntmps30;go_wp2;go_loopw [6,13] (fun s6 s13 wr=>∃ (i:Nat) (zs:List CQ),s13=.int .i64 i/\i<=l.length/\cC wr w.heap.size s6 zs/\Below w.heap.size w wr/\Hid (allC (l.take i)=some zs)) (fun _ s13 _=>l.length-(intOf s13).toNat)
 case atStart=>exact⟨0,[],rfl,AI _,cC.nil _ _,Dv _ _,rfl⟩
 case round =>
  obtain⟨i,zs,rfl,hin,hown,hbr,hall⟩:=hrel;by_cases hi:i<l.length
  ·obtain⟨b,o,rfl,hbl,hcell⟩:=(HL.out.below hbr).get hi;obtain⟨s,hs⟩:∃ s,s=l[i]:=⟨_,rfl⟩;rw[<-hs] at hcell;have HS:=At hs;clear hs;go_wp2_with fail
   refine (ib s wr (HG.out.below hbr)).mono ?_;rintro e w1 ⟨v1,ok,rfl,hcase,hb1⟩;have hB1:=hbr.trans (hb1.mono hbr.size);rcases hcase with ⟨z,hz,rfl,hv⟩ | ⟨hz,rfl,rfl⟩
   ·obtain⟨q,rfl,hp1,hp2,-,-⟩:=fX hz;have hk:IsK w1 v1 q:=⟨hv,hp2.mono (by decide)⟩;have hstep:allC (l.take (i+1))=some (zs++[q]):=by rw[sV hi,hall.out,<-HS.out,hp1]
    have HT:=At hstep;obtain⟨xm,xp,xl,xc,xq,xk,xd,ym,yp,yl,yc,yq,yk,yd,rfl⟩:=hk.forms;have hw1:=hown.below hb1;clear hz hv hp1 hp2 hstep hown hb1 hbr hcell hall;go_upto_region 6 with fail
    have q1:=aW.new w1 (.bool xm) (.slice xp xl xc) (.slice xq xk xd) (.bool ym) (.slice yp yl yc) (.slice yq yk yd) 65;have m1:=ac w1 (.cells #[.bool xm,.slice xp xl xc,.slice xq xk xd,.bool ym,.slice yp yl yc,.slice yq yk yd] 65);generalize w1.alloc (.cells #[.bool xm,.slice xp xl xc,.slice xq xk xd,.bool ym,.slice yp yl yc,.slice yq yk yd] 65)=w2 at *
    have a0:=q1.c0;have a1:=q1.c1;have a2:=q1.c2;have a3:=q1.c3;have a4:=q1.c4;have a5:=q1.c5;have hB2:=hB1.trans (m1.mono hB1.size);have hk2:=hk.below m1;have hw2:=hw1.below m1;have hbs:=hB2.size;have hzl:zs.length<1000000000:=by have:=cU HT.out;simp at this;omega
    clear q1 m1 hB1 hk hw1;go_wp2_with (at_builtin;refine df 57 Tryz.underlying57 rfl (.tmp 25) (.tmp 27) rfl w.heap.size _ zs _ _ _ _ _ _ q rfl hw2 hk2 rfl hzl hbs ?_)
    intro v' w3 hw3 hb3 _;have hB3:=hb3 _ _ hB2 (AA _);clear hw2 hk2 hb3 hB2 a0 a1 a2 a3 a4 a5;go_wp2;go_roundw;case rel=>exact⟨i+1,zs++[q],by go_num,by omega,hw3,hB3,HT.out⟩
    case measure=>simp[intOf];omega
   ·have hbad:allC l=none:=uK hi (by rw[<-HS.out];exact eA hz);have HT:=At hbad;clear hz hbad hcell hown;unfold fh;go_wp2;refine Du (v:=.tuple #[.slice none 0 0,.bool false]) (by simp[results,Tryz.results30,go_sem]) rfl ⟨_,_,rfl,Or.inr ⟨HT.out,rfl,rfl⟩,hB1.trans ((ac w1 _).mono hB1.size)⟩
  ·have hin':i=l.length:=by omega
   subst hin';clear hi;have hp:=hown.isP;have HT:=hall.out;rw[AX] at HT;go_wp2;refine Du (v:=.tuple #[_,.bool true]) (by simp[results,Tryz.results30,go_sem]) rfl ⟨_,_,rfl,Or.inl ⟨zs,HT,rfl,hp⟩,hbr⟩
theorem yu (v:Value) (z:CQ) (w:World) (hk:IsK w v z) :
  Calls Tryz.prog 66 #[v] w fun e w'=>∃ u,e=.returned (.tuple #[u,.bool (decide (z.im=0))])/\IsQ w' u z.re/\Below w.heap.size w w':=by
 obtain⟨a,b,c,d,e,f,rfl,hax,hay⟩:=id hk.v;go_enter Tryz.func66,Tryz.ntmps66;go_upto_region 1 with fail
 have q1:=aW.new w a b c d e f 65;have m1:=ac w (.cells #[a,b,c,d,e,f] 65);have z1:=size_alloc w (.cells #[a,b,c,d,e,f] 65);generalize w.alloc (.cells #[a,b,c,d,e,f] 65)=w1 at *
 have q3:=a_.new w1 (.bool false) (.slice none 0 0) (.slice none 0 0) nofun nofun nofun;have m3:=ac w1 (.cells #[.bool false,.slice none 0 0,.slice none 0 0] 63);generalize w1.alloc (.cells #[.bool false,.slice none 0 0,.slice none 0 0] 63)=w3 at *
 have m4:Below w3.heap.size w3 w3.drew:=(Dv _ _).drew;rw[z1] at q3;refine ai (fun w'=>∃ x:ax (w.heap.size+1) w3.drew,w'=x.w) (fun i=>i == 3||i == 4) (by kernel_rfl) (by kernel_rfl) ⟨⟨_,Dv _ _⟩,rfl⟩ ?_;generalize w3.drew=wd at *
 have hB0:Below wd.heap.size wd wd:=Dv _ _;have M13:=m1.trans (m3.mono m1.size);have MD:=At (M13.trans (m4.mono M13.size));have B1:=(q1.below m3).below m4;have B3:=At (q3.below m4);have hz:w.heap.size+1<=wd.heap.size:=by have:=B3.out.lt;omega
 have e1:=fun x:ax (w.heap.size+1) wd=>B1.at x.h (by omega);have a0:=fun x=>(e1 x).c0;have a01:=fun x=>(e1 x).c1;have a02:=fun x=>(e1 x).c2;have a03:=fun x=>(e1 x).c3;have a04:=fun x=>(e1 x).c4;have a05:=fun x=>(e1 x).c5;have HK:=At (hk.below MD.out);have HX:=At (hax.below MD.out);clear e1 q1 q3 m1 m3 m4 z1 M13 hax hay B1 hk;refine ae 3 0 _ _ _ (by kernel_rfl) ?_;simp only[AC,AG,AB,AF];repeat (go_big_quiet_step (fail))
 refine wpQuiet_nil ?_;refine af rfl rfl (fun K hK=>?_);go_simp;refine (dh _ _ _ HK.out.v).mono ?_;rintro e w4 ⟨rfl,hb4⟩;refine hK _ _ ⟨⟨_,hb4.mono hz⟩,rfl⟩ ?_;clear hK K;try simp only[Act.put,Ax,Aw,Av,Au,Ay,Az]
 have hv4:=HX.out.below hb4;obtain⟨xm,xp,xl,xc,xq,xk,xd,hxe⟩:=hv4.form;obtain⟨rfl,rfl,rfl⟩:a=.bool xm/\b=.slice xp xl xc/\c=.slice xq xk xd:=by simpa using hxe
 clear hxe;have B8:=B3.out.below hb4;have k0:=B8.c0;have k1:=B8.c1;have k2:=B8.c2;have f0:=B8.fr 0;have f1:=B8.fr 1;have f2:=B8.fr 2;have P:=At (B8.putR hv4);refine af rfl rfl (fun K hK=>?_);go_simp;refine hK undef _ ⟨⟨_,P.out.2.2 _ _ (hb4.mono hz) (AA _)⟩,rfl⟩ ?_;clear hK K;try simp only[Act.put,Ax,Aw,Av,Au,Ay,Az]
 refine ae 1 5 _ _ _ (by kernel_rfl) ?_;simp only[AC,AG,AB,AF];repeat (go_big_quiet_step (fail))
 refine wpQuiet_nil ?_;refine av ?_;have M8:=At (P.out.2.2 _ w (MD.out.trans (hb4.mono MD.out.size)) (by omega));have HS:=At HK.out.s.x;have hd:decide ((ct z).y.n=0)=decide (z.im=0):=by show decide ((rt z.im).n=0)=_;simp only[aP]
 have HD:=At hd;clear hd;go_wp2_with fail
 have q0:=P.out.1.c0;have q1:=P.out.1.c1;have q2:=P.out.1.c2;refine Du (v:=.tuple #[.agg #[.bool xm,.slice xp xl xc,.slice xq xk xd],.bool (decide ((ct z).y.n=0))]) (by simp[pM] at q0 q1 q2 |-;simp[results,Tryz.results66,go_sem,q0,q1,q2]) rfl ⟨_,by rw[HD.out],⟨P.out.2.1,HS.out⟩,M8.out⟩
def gg (zs:List CQ):Option (List Rat):=if zs.all (fun z=>decide (z.im=0)) then some (zs.map CQ.re) else none
theorem xN (v:Value) (zs:List CQ) (w:World) (hl:IsP w v zs) (hlen:zs.length<1000000000) :
  Calls Tryz.prog 65 #[v,.func (.func 66) #[] #[]] w fun e w'=>∃ v' ok,e=.returned (.tuple #[v',.bool ok])/\((∃ qs,gg zs=some qs/\ok=true/\IsL w' v' qs)\/(gg zs=none/\ok=false/\v'=.slice none 0 0))/\Below w.heap.size w w':=by
 obtain⟨p,c,rfl,hc1,hc2⟩:=hl.form;have HL:=At hl;clear hl;go_enter Tryz.func65,Tryz.ntmps65;go_wp2;go_loopw [6,13] (fun s6 s13 wr=>∃ (i:Nat),s13=.int .i64 i/\i<=zs.length/\kE wr w.heap.size s6 ((zs.map CQ.re).take i)/\Below w.heap.size w wr/\Hid ((zs.take i).all (fun z=>decide (z.im=0))=true)) (fun _ s13 _=>zs.length-(intOf s13).toNat)
 case atStart=>exact⟨0,rfl,AI _,kE.nil _ _,Dv _ _,rfl⟩
 case round =>
  obtain⟨i,rfl,hin,hown,hbr,hall⟩:=hrel;by_cases hi:i<zs.length
  ·obtain⟨b,o,rfl,hbl,xm,xp,xl,xc,xq,xk,xd,ym,yp,yl,yc,yq,yk,yd,hk,c0,c1,c2,c3,c4,c5⟩:=(HL.out.below hbr).get hi;obtain⟨z,hz⟩:∃ z,z=zs[i]:=⟨_,rfl⟩;rw[<-hz] at hk;have HZ:=At hz;clear hz;go_upto_region 5 with fail
   have q1:=aW.new wr (.bool xm) (.slice xp xl xc) (.slice xq xk xd) (.bool ym) (.slice yp yl yc) (.slice yq yk yd) 65;have m1:=ac wr (.cells #[.bool xm,.slice xp xl xc,.slice xq xk xd,.bool ym,.slice yp yl yc,.slice yq yk yd] 65);generalize wr.alloc (.cells #[.bool xm,.slice xp xl xc,.slice xq xk xd,.bool ym,.slice yp yl yc,.slice yq yk yd] 65)=w2 at *
   have a0:=q1.c0;have a1:=q1.c1;have a2:=q1.c2;have a3:=q1.c3;have a4:=q1.c4;have a5:=q1.c5;have hB2:=hbr.trans (m1.mono hbr.size);have hk2:=hk.below m1;have hw2:=hown.below m1;clear q1 m1 hbr hk hown c0 c1 c2 c3 c4 c5;go_wp2_with fail
   refine (yu _ z w2 hk2).mono ?_;rintro e w3 ⟨u,rfl,hu,hb3⟩;have hB3:=hB2.trans (hb3.mono hB2.size);have hw3:=hw2.below hb3;obtain⟨um,up,ul,uc,uq,uk,ud,rfl⟩:=hu.forms;clear hb3 hB2 hk2 hw2 a0 a1 a2 a3 a4 a5;by_cases him:z.im=0
   ·have hstep:(zs.take (i+1)).all (fun z=>decide (z.im=0))=true:=by
     rw[show zs.take (i+1)=zs.take i++[zs[i]] from (AM hi).symm,BY,hall.out,<-HZ.out];simp[him]
    have hmap:(zs.map CQ.re).take (i+1)=(zs.map CQ.re).take i++[z.re]:=by
     rw[show (zs.map CQ.re).take (i+1)=(zs.map CQ.re).take i++[(zs.map CQ.re)[i]'(by simpa using hi)] from (AM _).symm,BS,<-HZ.out]
    have HT:=At hstep;have HM:=At hmap;rw[decide_eq_true him];clear hstep hmap him hall;go_upto_region 6 with fail
    have q1:=a_.new w3 (.bool um) (.slice up ul uc) (.slice uq uk ud) nofun nofun nofun;have m1:=ac w3 (.cells #[.bool um,.slice up ul uc,.slice uq uk ud] 63);generalize w3.alloc (.cells #[.bool um,.slice up ul uc,.slice uq uk ud] 63)=w4 at *
    have a0:=q1.c0;have a1:=q1.c1;have a2:=q1.c2;have hB4:=hB3.trans (m1.mono hB3.size);have hu4:=hu.below m1;have hw4:=hw3.below m1;have hbs:=hB4.size;have hzl:((zs.map CQ.re).take i).length<1000000000:=by simp;omega
    clear q1 m1 hB3 hu hw3;go_wp2_with (at_builtin;refine ki 69 Tryz.underlying69 rfl (.tmp 25) (.tmp 27) rfl w.heap.size _ _ _ _ _ z.re rfl hw4 hu4 rfl hzl hbs ?_)
    intro v' w5 hw5 hb5 _;have hB5:=hb5 _ _ hB4 (AA _);rw[<-HM.out] at hw5;clear hw4 hu4 hb5 hB4 a0 a1 a2;go_wp2;go_roundw;case rel=>exact⟨i+1,by go_num,by omega,hw5,hB5,HT.out⟩
    case measure=>simp[intOf];omega
   ·have hbad:gg zs=none:=by
     unfold gg;rw[if_neg];rw[Bool.not_eq_true,Cr];exact⟨zs[i],AR hi,by rw[<-HZ.out];simpa using him⟩
    have HT:=At hbad;rw[decide_eq_false him];clear hbad him hall hw3;go_wp2;refine Du (v:=.tuple #[.slice none 0 0,.bool false]) (by simp[results,Tryz.results65,go_sem]) rfl ⟨_,_,rfl,Or.inr ⟨HT.out,rfl,rfl⟩,hB3.trans ((ac w3 _).mono hB3.size)⟩
  ·have hin':i=zs.length:=by omega
   subst hin';clear hi;have hp:=hown.isL;have HT:=hall.out;rw[AX] at HT;rw[show zs.length=(zs.map CQ.re).length by simp,AX] at hp;go_wp2;refine Du (v:=.tuple #[_,.bool true]) (by simp[results,Tryz.results65,go_sem]) rfl ⟨_,_,rfl,Or.inl ⟨zs.map CQ.re,by unfold gg;rw[if_pos HT],rfl,hp⟩,hbr⟩
end Go.Proofs.YtgakllaobooabaaGreatDoor
