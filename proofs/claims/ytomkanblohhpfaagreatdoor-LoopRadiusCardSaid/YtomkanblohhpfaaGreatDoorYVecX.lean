/- Lemmas of this claim. -/
import Derived.Laws.AppendOwnNone
import Derived.Test.YtomkanblohhpfaaGreatDoorYRng2
set_option linter.all false
set_option maxRecDepth 100000
set_option maxHeartbeats 8000000
namespace Go.Proofs.YtomkanblohhpfaaGreatDoor
open Go.RowKit Dg
def NoX (C:Value→Prop) (w:World) (v:Value):Prop:=∀ g,v.ownBlock=some g→∀ j u,w.cell? ⟨g,j,none⟩=some u→¬ C u
theorem o6 {C:Value→Prop}{zs:Array Value}{n:Nat} (h:∀ u∈zs,¬ C u):∀ u∈Builtin.zeroCells zs n,¬ C u:=by
 intro u hu
 unfold Builtin.zeroCells at hu
 obtain⟨i,hi,rfl⟩:=Array.mem_map.1 hu
 have hi2:i<n*zs.size:=by simpa using hi
 have hp:0<zs.size:=by
  rcases xD zs.size with h0 | h0
  ·rw[h0] at hi2;simp at hi2
  ·exact h0
 have hm:=xr i hp
 rw[getElem!_pos zs (i % zs.size) hm]
 exact h _ (yO hm)
theorem kz {C:Value→Prop}{w:World}{cs:Array Value}{e:TypeId}{n c:Nat} (h:∀ u∈cs,¬ C u):NoX C (w.alloc (.cells cs e)) (.slice (some ⟨w.heap.size,0,none⟩) n c):=by
 intro g hg j u hc
 simp only[Value.ownBlock,Option.some.injEq] at hg
 subst hg
 rw[World.cell?,heap_alloc_new] at hc
 simp only[wO,wt,if_false] at hc
 exact h _ (xg hc)
theorem NoX.below {C:Value→Prop}{w w':World}{v:Value}{base:Nat}{T:TypeId}{k n:Nat}{xs:List Value} (h:NoX C w v) (ho:w.ownsRow base T k v n xs) (hb:Below w.heap.size w w'):NoX C w' v:=by
 intro g hg j u hc
 rw[hb.cell (p:=⟨g,j,none⟩) (ho.lt g hg).2] at hc
 exact h g hg j u hc
section
variable {P : Program} (w : World)
theorem lm (C:Value→Prop) (base:Nat) (t ty e:TypeId) (i:TypeInfo) (z:Value) (size bytes:Nat) (ht:P.underlying t=some (.slice e)) (hi:P.info? e=some i) (hz:i.zero=some z)
  (hsize:i.size=size) (hby:i.bytes=bytes) (hzs:z.cells.size=size) (hsz:0<size) (hzn:∀ u∈z.cells,¬ C u)
  (v:Value) (n:Nat) (xs:List Value) (hown:w.ownsRow base e size v n xs) (hnu:NoX C w v)
  (a:Addr) (m c:Nat) (news:List Value) (hm0:0<m) (hl:news.length=m*size) (hnews:∀ j u,news[j]?=some u→w.cell? (a.add j)=some u) (h1:∀ u∈news,u.oneCell'=true) (hn1:∀ u∈news,¬ C u)
  (h63:n+m≤maxLen) (hbytes:(n+m)*bytes≤140737488355328) (hbase:base≤w.heap.size) :
  ∃ v' w',(Builtin.append_ #[t,t] ty #[v,.slice (some a) m c]).run P w=.ok v' w'∧w'.ownsRow base e size v' (n+m) (xs++news)∧w.grownBy w' v.ownBlock∧NoX C w' v':=by
 obtain⟨v',w',hr,h2,h3,-⟩:=run_append_own (P:=P) w base t ty e i z size bytes ht hi hz hsize hby hzs hsz v n xs hown a m c news hl hnews h1 h63 hbytes hbase
 refine⟨v',w',hr,h2,h3,?_⟩
 have hsmall:n+m≤9223372036854775807:=by simp only[maxLen] at h63;omega
 subst hsize
 subst hby
 rcases hown.2 with ⟨rfl,rfl⟩ | ⟨g,cap,cur,rfl,hbg,hg,hnc,hcm,hcs,htake⟩
 ·have hr':=run_append_nil (P:=P) w t ty e i z ht hi hz a m c news hl hnews hm0 (by omega) (by rw[wX] at hbytes;omega)
  rw[hr'] at hr
  cases hr
  exact kz (w:=w.drew) fun u hu=>by
   rcases xL.1 hu with h | h
   ·exact hn1 u (by simpa using h)
   ·exact o6 hzn u h
 ·by_cases hroom:n+m≤cap
  ·have hfit:n*i.size+news.length≤cur.size:=by rw[hl,hcs,←wT];exact v_ _ hroom
   have hr':=run_append_room (P:=P) w t ty e i ht hi g n cap cur hg a m c news hl hnews h1 hroom hfit
   rw[hr'] at hr
   cases hr
   intro g' hg' j y hc
   simp only[Value.ownBlock,Option.some.injEq] at hg'
   subst hg'
   rw[World.cell?,setRow_heap w g cur _ e _ hg] at hc
   simp only[wO,wt,if_false] at hc
   have hm:=xg hc
   have old:∀ u∈cur.toList,¬ C u:=fun u hu=>by
    obtain⟨k,hk,he⟩:=wR hu
    refine hnu g rfl k u ?_
    rw[World.cell?,hg]
    simp only[wO,wt,if_false]
    rw[xy (by simpa using hk),←he];simp
   simp only[List.mem_toArray,xU] at hm
   rcases hm with (h | h) | h
   ·exact old _ (yi h)
   ·exact hn1 _ h
   ·exact old _ (yh h)
  ·have holds:∀ j u,xs[j]?=some u→w.cell? ((⟨g,0,none⟩:Addr).add j)=some u:=hown.cells (g:=g) rfl
   have hr':=run_append_grow (P:=P) w t ty e i z ht hi hz ⟨g,0,none⟩ n cap xs hown.1 holds a m c news hl hnews (by omega) (by omega) (growslice_fits (by omega) hbytes)
   rw[hr'] at hr
   cases hr
   exact kz (w:=w.drew) fun u hu=>by
    rcases xL.1 hu with h | h
    ·rcases xL.1 h with h | h
     ·obtain⟨k,hk,he⟩:=wR (show u∈xs by simpa using h)
      have:=holds k u (by rw[wm hk,he])
      have ha:(⟨g,0,none⟩:Addr).add k=⟨g,k,none⟩:=by unfold Addr.add;split<;>simp_all
      rw[ha] at this
      exact hnu g rfl k u this
     ·exact hn1 u (by simpa using h)
    ·exact o6 hzn u h
omit w in
theorem gO {t t' ty e e':TypeId} (ht:P.underlying t=some (.slice e)) (ht':P.underlying t'=some (.slice e')) (a b:Option Addr) (n c m d:Nat) (w:World):(Builtin.append_ #[t,t'] ty #[.slice a n c,.slice b m d]).run P w=(Builtin.append_ #[t,t] ty #[.slice a n c,.slice b m d]).run P w:=by
 unfold Builtin.append_
 simp[run_underlying ht,run_underlying ht']
theorem fi {ops:Array Oper}{rest:List Oper}{o:Oper}{a:Act}{Q:Exit→Act→World→Prop} (C:Value→Prop) (hgd:o.guard=none) (s x:Operand) (t t':TypeId)
  (ho:o.op=.call { callee:=.builtin .append,args:=#[s,x],argTypes:=#[t,t'] })
  (base:Nat) (e:TypeId) (i:TypeInfo) (z:Value) (size bytes:Nat) (ht:P.underlying t=some (.slice e)) (ht':P.underlying t'=some (.slice e)) (hi:P.info? e=some i) (hz:i.zero=some z)
  (hsize:i.size=size) (hby:i.bytes=bytes) (hzs:z.cells.size=size) (hsz:0<size) (hzn:∀ u∈z.cells,¬ C u)
  (v:Value) (n:Nat) (xs:List Value) (hs:a.eval s=v) (hown:w.ownsRow base e size v n xs) (hnu:NoX C w v)
  (ad:Addr) (m c:Nat) (news:List Value) (hm0:0<m) (hx:a.eval x=.slice (some ad) m c) (hl:news.length=m*size) (hnews:∀ j u,news[j]?=some u→w.cell? (ad.add j)=some u) (h1:∀ u∈news,u.oneCell'=true) (hn1:∀ u∈news,¬ C u)
  (h63:n+m≤maxLen) (hbytes:(n+m)*bytes≤140737488355328) (hbase:base≤w.heap.size)
  (h:∀ v' w',w'.ownsRow base e size v' (n+m) (xs++news)→w.grownBy w' v.ownBlock→NoX C w' v'→wpList P ops Q rest (a.put o.dst v') w'):wpList P ops Q (o :: rest) a w:=by
 refine wpList_plain hgd fun K hK=>?_
 obtain⟨v',w',hr,h2,h3,h4⟩:=lm (P:=P) w C base t o.type e i z size bytes ht hi hz hsize hby hzs hsz hzn v n xs hown hnu ad m c news hm0 hl hnews h1 hn1 h63 hbytes hbase
 unfold Oper.wp execOp
 obtain⟨pv,nv,cv,rfl⟩:∃ p n c,v=.slice p n c:=by
  rcases hown.2 with ⟨rfl,-⟩ | ⟨g,cap,cur,rfl,-⟩<;>exact⟨_,_,_,rfl⟩
 rw[←gO ht ht'] at hr
 simp only[ho,resolve,invoke,builtin,Sem.run_bind,Sem.run_pure,Result.andThen_ok,yS,yN,List.map_nil,hs,hx,hr]
 exact hK _ _ (h v' w' h2 h3 h4)
end
def qD (u:Value):Prop:=∃ s,u=.string s
theorem IsS.grownX {w w':World}{u v:Value}{l:List ByteArray} (h:IsS w u l) (hnx:NoX qD w v) (hg:w.grownBy w' v.ownBlock):IsS w' u l:=by
 obtain⟨p,cap,e,h1,h2,h3⟩:=h
 refine⟨p,cap,e,h1,h2,fun hl=>?_⟩
 obtain⟨b,o,e2,hlt,hc⟩:=h3 hl
 refine⟨b,o,e2,vV hlt hg.size,fun i hi j u hu=>?_⟩
 have hm:=yg hu
 rw[xA] at hm
 simp only[cellsOf,yy] at hm
 have hcc:=hc i hi j u hu
 exact hg.cell hcc (fun e3=>hnx b e3.symm _ _ hcc ⟨_,hm⟩)
theorem vD:(Tryz.prog.info? 22).map (fun i=>(i.zero,i.size,i.bytes))=some (some (.slice none 0 0),1,24):=by kernel_rfl
def kN (w:World) (v:Value) (ls:List (List ByteArray)):Prop:=∃ us:List Value,us.length=ls.length∧dB w 1 v us∧∀ i (h:i<us.length) (h':i<ls.length),IsS w us[i] ls[i]
structure eo (w:World) (base:Nat) (v:Value) (ls:List (List ByteArray)):Prop where
 p:∃ us:List Value,us.length=ls.length∧w.ownsRow base 22 1 v us.length us∧∀ i (h:i<us.length) (h':i<ls.length),IsS w us[i] ls[i]
 nx:NoX qD w v
theorem kW {w:World}{us:List Value}{ls:List (List ByteArray)} (hl:us.length=ls.length) (h:∀ i (h:i<us.length) (h':i<ls.length),IsS w us[i] ls[i]):∀ e∈us,cellsOf e=[e]:=by
 intro e he
 obtain⟨i,hi,rfl⟩:=wR he
 obtain⟨p,c,hv,-⟩:=(h i hi (by omega)).form
 rw[hv];rfl
theorem og:∀ {us:List Value},(∀ e∈us,cellsOf e=[e])→dt us=us
 | [],_=>rfl
 | e :: us,h=>by
  have h1:=h e (by simp)
  have h2:=og (us:=us) fun x hx=>h x (by simp[hx])
  simp only[dt,xZ] at h2 ⊢
  rw[h1,h2];rfl
theorem eo.isPS {w:World}{base:Nat}{v:Value}{ls:List (List ByteArray)} (h:eo w base v ls):kN w v ls:=by
 obtain⟨us,h1,h2,h3⟩:=h.p
 have hc:=kW h1 h3
 refine⟨us,h1,dX (fun e he=>by rw[hc e he];rfl) (by rw[og hc];exact h2),h3⟩
theorem eo.below {w w':World}{base:Nat}{v:Value}{ls:List (List ByteArray)} (h:eo w base v ls) (hb:Below w.heap.size w w'):eo w' base v ls:=by
 obtain⟨us,h1,h2,h3⟩:=h.p
 exact⟨⟨us,h1,eE h2 hb,fun i hi hi'=>(h3 i hi hi').below hb⟩,h.nx.below h2 hb⟩
theorem kN.below {w w':World}{v:Value}{ls:List (List ByteArray)} (h:kN w v ls) (hb:Below w.heap.size w w'):kN w' v ls:=by
 obtain⟨us,h1,h2,h3⟩:=h
 exact⟨us,h1,h2.below hb,fun i hi hi'=>(h3 i hi hi').below hb⟩
theorem eo.nil (w:World) (base:Nat):eo w base (.slice none 0 0) []:=⟨⟨[],rfl,World.ownsRow_nil _ _ _ _,fun i h=>by simp at h⟩,fun g hg=>by cases hg⟩
theorem kN.form {w:World}{v:Value}{ls:List (List ByteArray)} (h:kN w v ls):∃ p c,v=.slice p ls.length c∧ls.length≤c∧c≤maxLen:=by
 obtain⟨us,h1,⟨p,c,e,h2,h3,-⟩,-⟩:=h
 rw[h1] at e h2
 exact⟨p,c,e,h2,h3⟩
theorem kN.get {w:World}{p:Option Addr}{n c:Nat}{ls:List (List ByteArray)} (h:kN w (.slice p n c) ls) {i:Nat} (hi:i<ls.length) :
  ∃ b o u,p=some ⟨b,o,none⟩∧b<w.heap.size∧w.cell? ⟨b,o+i,none⟩=some u∧IsS w u ls[i]:=by
 obtain⟨us,h1,⟨p',cap,e,h2,h3,h4⟩,h5⟩:=h
 obtain⟨rfl,-,-⟩:p=p'∧n=us.length∧c=cap:=by simpa using e
 obtain⟨b,o,e2,hlt,hc⟩:=h4 (by omega)
 have hk:=h5 i (by omega) hi
 obtain⟨pp,cc,hv,-⟩:=id hk.form
 have:=hc i (by omega) 0 us[i] (by rw[hv];rfl)
 exact⟨b,o,us[i],e2,hlt,by simpa using this,hk⟩
theorem eO {w:World}{ops:Array Oper}{rest:List Oper}{o:Oper}{act:Act}{Q:Exit→Act→World→Prop} (T:TypeId)
  (hT:Tryz.prog.underlying T=some (.slice 22)) (hgd:o.guard=none) (s x:Operand)
  (ho:o.op=.call { callee:=.builtin .append,args:=#[s,x],argTypes:=#[T,T] })
  (base:Nat) (v:Value) (ls ms:List (List ByteArray)) (us:List Value) (b off m c:Nat) (hs:act.eval s=v) (hown:eo w base v ls)
  (hx:act.eval x=.slice (some ⟨b,off,none⟩) m c) (hm:m=us.length) (hm0:0<us.length) (hml:us.length=ms.length) (hcs:∀ i (h:i<us.length),w.cell? ⟨b,off+i,none⟩=some us[i]) (hms:∀ i (h:i<us.length) (h':i<ms.length),IsS w us[i] ms[i])
  (hlen:ls.length+ms.length<1000000000) (hbase:base≤w.heap.size)
  (h:∀ v' w',eo w' base v' (ls++ms)→(∀ B w0,Below B w0 w→B≤base→Below B w0 w')→(∀ u l,IsS w u l→IsS w' u l)→w.grownBy w' v.ownBlock→wpList Tryz.prog ops Q rest (act.put o.dst v') w') :
  wpList Tryz.prog ops Q (o :: rest) act w:=by
 subst hm
 obtain⟨vs,h1,h2,h3⟩:=hown.p
 obtain⟨i0,hi,hz0,hz1,hz2⟩:=info_parts vD
 have hsl:∀ u∈us,∃ p n c,u=.slice p n c:=fun u hu=>by
  obtain⟨i,hi,rfl⟩:=wR hu
  obtain⟨p,c,hv,-⟩:=(hms i hi (by omega)).form
  exact⟨_,_,_,hv⟩
 refine fi _ qD hgd s x T T ho base 22 i0 _ 1 24 hT hT hi hz0 hz1 hz2 rfl (by decide) ?_ v vs.length vs hs h2 hown.nx ⟨b,off,none⟩ us.length c us hm0 hx (by omega) ?_ ?_ ?_ (by unfold maxLen;omega) (by omega) hbase ?_
 ·rintro u hu ⟨s',rfl⟩
  simp[Value.cells] at hu
 ·intro j u hj
  have hjl:=(wU.1 hj).1
  have ha:(⟨b,off,none⟩:Addr).add j=⟨b,off+j,none⟩:=by
   unfold Addr.add
   split
   ·rename_i h0;subst h0;rfl
   ·rfl
  rw[ha,hcs j hjl,←hj,wm hjl]
 ·intro u hu
  obtain⟨p,n,c,rfl⟩:=hsl u hu
  rfl
 ·rintro u hu ⟨s',rfl⟩
  obtain⟨p,n,c,e⟩:=hsl _ hu
  cases e
 ·intro v' w' g1 g2 g3
  have hkeep:∀ u l,IsS w u l→IsS w' u l:=fun u l hu=>hu.grownX hown.nx g2
  refine h v' w' ⟨⟨vs++us,by simp[h1,hml],?_,?_⟩,g3⟩ ?_ hkeep g2
  ·rw[wh];exact g1
  ·intro i hi' hi2
   by_cases hlt:i<vs.length
   ·rw[wE hlt,wE (by omega)]
    exact hkeep _ _ (h3 i hlt (by omega))
   ·rw[wC (by omega),wC (by omega)]
    have hi3:i-vs.length<us.length:=by simp at hi';omega
    have:=hkeep _ _ (hms (i-vs.length) hi3 (by omega))
    simpa[h1] using this
  ·intro B w0 hB hBb
   refine hB.grown g2 (by omega) ?_
   intro k hk'
   have:=(h2.lt k hk').1
   omega
theorem tH {w:World}{k b o:Nat}{es:List Value} (hk0:0<k) (hk:∀ e∈es,(cellsOf e).length=k) (h:∀ i (h:i<es.length) j u,(cellsOf es[i])[j]?=some u→w.cell? ⟨b,o+i*k+j,none⟩=some u) :
  ∀ j u,(dt es)[j]?=some u→w.cell? ((⟨b,o,none⟩:Addr).add j)=some u:=by
 intro j u hj
 have hjl:=(wU.1 hj).1
 rw[jr hk] at hjl
 have hi:j / k<es.length:=Nat.div_lt_of_lt_mul (by rw[wF];exact hjl)
 have hr:j % k<k:=xr _ hk0
 have he:j=j / k*k+j % k:=by rw[wF];exact (xu j k).symm
 have hg:=jq hk hi hr
 rw[←he,hj] at hg
 have:=h _ hi _ u hg.symm
 have ha:(⟨b,o,none⟩:Addr).add j=⟨b,o+j,none⟩:=by
  unfold Addr.add
  split
  ·rename_i h0;rw[h0];rfl
  ·rfl
 rw[ha,he,←xR]
 exact this
theorem kA {w:World}{es:List Value}{zs:List CQ} (hl:es.length=zs.length) (h:∀ i (h:i<es.length) (h':i<zs.length),IsK w es[i] zs[i]):∀ u∈dt es,u.oneCell'=true∧kO u:=by
 intro u hu
 obtain⟨e,he,hue⟩:=List.mem_flatMap.1 hu
 obtain⟨i,hi,rfl⟩:=wR he
 obtain⟨xm,xp,xl,xc,xq,xk,xd,ym,yp,yl,yc,yq,yk,yd,hv⟩:=(h i hi (by omega)).forms
 rw[hv] at hue
 simp only[cellsOf,xo,yj,or_false] at hue
 rcases hue with rfl | rfl | rfl | rfl | rfl | rfl<;>exact⟨rfl,fun z e=>by cases e⟩
def vu (u:Value):Prop:=∃ z,u=.int .u64 z
theorem eP {w:World}{ops:Array Oper}{rest:List Oper}{o:Oper}{act:Act}{Q:Exit→Act→World→Prop} (T T':TypeId)
  (hT:Tryz.prog.underlying T=some (.slice 83)) (hT':Tryz.prog.underlying T'=some (.slice 83)) (hgd:o.guard=none) (s x:Operand)
  (ho:o.op=.call { callee:=.builtin .append,args:=#[s,x],argTypes:=#[T,T'] })
  (base:Nat) (v vx:Value) (zs ms:List CQ) (hs:act.eval s=v) (hown:bS w base v zs) (hx:act.eval x=vx) (hm:IsP w vx ms) (hnn:ms=[]→vx=.slice none 0 0)
  (hlen:zs.length+ms.length<1000000000) (hbase:base≤w.heap.size)
  (h:∀ v' w',bS w' base v' (zs++ms)→(∀ B w0,Below B w0 w→B≤base→Below B w0 w')→(∀ u l,IsU w u l→IsU w' u l)→w.grownBy w' v.ownBlock→wpList Tryz.prog ops Q rest (act.put o.dst v') w') :
  wpList Tryz.prog ops Q (o :: rest) act w:=by
 obtain⟨es,h1,h2,h3⟩:=hown.p
 obtain⟨i0,hi,hz0,hz1,hz2⟩:=info_parts rG
 by_cases hme:ms=[]
 ·subst hme
  refine wpList_plain hgd fun K hK=>?_
  have hr:=run_append_owned_none (P:=Tryz.prog) (w:=w) base T o.type 83 i0 6 hT hi v es.length (dt es) h2
  obtain⟨pv,nv,cv,rfl⟩:∃ p n c,v=.slice p n c:=by
   rcases h2.2 with ⟨rfl,-⟩ | ⟨g,cap,cur,rfl,-⟩<;>exact⟨_,_,_,rfl⟩
  rw[←gO hT hT'] at hr
  unfold Oper.wp execOp
  simp only[ho,resolve,invoke,builtin,Sem.run_bind,Sem.run_pure,Result.andThen_ok,yS,yN,List.map_nil,hs,hx,hnn rfl,hr]
  exact hK _ _ <| h _ w (by rw[xG];exact hown) (fun B w0 hb _=>hb) (fun _ _ h=>h) ⟨rfl,rfl,rfl,vS _,fun _ _ _=>rfl⟩
 ·obtain⟨fs,f1,⟨p,c,e,f2,f3,f4⟩,f5⟩:=id hm
  have hpos:0<fs.length:=by rw[f1];exact wB.2 hme
  obtain⟨b,off,rfl,hlt,hc⟩:=f4 hpos
  have h6:=gM f1 f5
  refine fi _ vu hgd s x T T' ho base 83 i0 _ 6 112 hT hT' hi hz0 hz1 hz2 rfl (by decide) ?_ v es.length (dt es) hs h2 (fun g hg j u hc ⟨z,e⟩=>hown.nu g hg j z (by rw[←e];exact hc)) ⟨b,off,none⟩ fs.length c (dt fs) hpos (by rw[hx,e]) (jr h6) (tH (by decide) h6 hc) (fun u hu=>(kA f1 f5 u hu).1) (fun u hu ⟨z,e⟩=>(kA f1 f5 u hu).2 z e) (by unfold maxLen;omega) (by omega) hbase ?_
  ·rintro u hu ⟨z,rfl⟩
   simp[Value.cells] at hu
  ·intro v' w' g1 g2 g3
   have hkeep:∀ u l,IsU w u l→IsU w' u l:=fun u l hu=>hu.grown hown.nu g2
   refine h v' w' ⟨⟨es++fs,by simp[h1,f1],?_,?_⟩,fun g hg j z hc=>g3 g hg j _ hc ⟨z,rfl⟩⟩ ?_ hkeep g2
   ·rw[wh]
    simpa[dt] using g1
   ·intro i hi' hi2
    by_cases hl:i<es.length
    ·rw[wE hl,wE (by omega)]
     exact (h3 i hl (by omega)).keepU hkeep
    ·rw[wC (by omega),wC (by omega)]
     have hi3:i-es.length<fs.length:=by simp at hi';omega
     have:=(f5 (i-es.length) hi3 (by omega)).keepU hkeep
     simpa[h1] using this
   ·intro B w0 hB hBb
    refine hB.grown g2 (by omega) ?_
    intro k hk'
    have:=(h2.lt k hk').1
    omega
theorem nA (w:World) (base:Nat) (hb:base≤w.heap.size):bS (w.alloc (.cells #[] 83)) base (.slice (some ⟨w.heap.size,0,none⟩) 0 0) [] :=
 ⟨⟨[],rfl,⟨rfl,Or.inr ⟨w.heap.size,0,#[],rfl,hb,heap_alloc_new w _,vS _,by simp[maxLen],rfl,rfl⟩⟩,fun i h=>by simp at h⟩,fun g hg j z hc=>by
  simp only[Value.ownBlock,Option.some.injEq] at hg
  subst hg
  rw[World.cell?,heap_alloc_new] at hc
  simp at hc⟩
end Go.Proofs.YtomkanblohhpfaaGreatDoor
