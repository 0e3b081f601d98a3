/- Lemmas of this claim. -/
import Derived.Test.YtbnkpcfjechfiaaGreatDoorQReg
import Derived.Test.YtbnkpcfjechfiaaGreatDoorQNC8
import Derived.Test.YtbnkpcfjechfiaaGreatDoorQRQ6
import Derived.Test.YtbnkpcfjechfiaaGreatDoorQRQ8
import Derived.Test.YtbnkpcfjechfiaaGreatDoorQRng2
import Derived.Test.YtbnkpcfjechfiaaGreatDoorQPM2
import Derived.Test.YtbnkpcfjechfiaaGreatDoorQRS5
import Derived.Test.YtbnkpcfjechfiaaGreatDoorQLSc1
set_option linter.all false
set_option maxRecDepth 100000
set_option maxHeartbeats 8000000
namespace Go.Proofs.YtbnkpcfjechfiaaGreatDoor
open Go.RowKit Dg
section
variable {P : Program} (w : World)
theorem rh (base:Nat) (t ty e:TypeId) (i:TypeInfo) (z:Value) (size bytes:Nat) (ht:P.underlying t=some (.slice e)) (hi:P.info? e=some i) (hz:i.zero=some z)
  (hsize:i.size=size) (hby:i.bytes=bytes) (hzs:z.cells.size=size) (hsz:0<size)
  (v:Value) (n:Nat) (xs:List Value) (hown:w.ownsRow base e size v n xs)
  (a:Addr) (m c:Nat) (news:List Value) (hm0:0<m) (hl:news.length=m*size) (hnews:∀ j u,news[j]?=some u→w.cell? (a.add j)=some u) (h1:∀ u∈news,u.oneCell'=true)
  (h63:n+m≤maxLen) (hbytes:(n+m)*bytes≤140737488355328) (hbase:base≤w.heap.size) :
  ∃ v' w',(Builtin.append_ #[t,t] ty #[v,.slice (some a) m c]).run P w=.ok v' w'∧w'.ownsRow base e size v' (n+m) (xs++news)∧w.grownBy w' v.ownBlock∧(v'.ownBlock=v.ownBlock∨∃ g,v'.ownBlock=some g∧w.heap.size≤g):=by
 obtain⟨v',w',hr,h2,h3,-⟩:=run_append_own (P:=P) w base t ty e i z size bytes ht hi hz hsize hby hzs hsz v n xs hown a m c news hl hnews h1 h63 hbytes hbase;refine⟨v',w',hr,h2,h3,?_⟩;have hsmall:n+m≤9223372036854775807:=by simp only[maxLen] at h63;omega
 subst hsize;subst hby;rcases hown.2 with ⟨rfl,rfl⟩ | ⟨g,cap,cur,rfl,hbg,hg,hnc,hcm,hcs,htake⟩
 ·have hr':=run_append_nil (P:=P) w t ty e i z ht hi hz a m c news hl hnews hm0 (by omega) (by rw[F8] at hbytes;omega);rw[hr'] at hr
  cases hr
  exact Or.inr ⟨_,rfl,Fb _⟩
 ·by_cases hroom:n+m≤cap
  ·have hfit:n*i.size+news.length≤cur.size:=by rw[hl,hcs,←Ga];exact Fo _ hroom
   have hr':=run_append_room (P:=P) w t ty e i ht hi g n cap cur hg a m c news hl hnews h1 hroom hfit;rw[hr'] at hr
   cases hr
   exact Or.inl rfl
  ·have holds:∀ j u,xs[j]?=some u→w.cell? ((⟨g,0,none⟩:Addr).add j)=some u:=hown.cells (g:=g) rfl;have hr':=run_append_grow (P:=P) w t ty e i z ht hi hz ⟨g,0,none⟩ n cap xs hown.1 holds a m c news hl hnews (by omega) (by omega) (growslice_fits (by omega) hbytes);rw[hr'] at hr
   cases hr
   exact Or.inr ⟨_,rfl,Fb _⟩
end
structure DH (w:World) (B:Nat) (v:Value) (l:List ByteArray) (v':Value) (l':List ByteArray):Prop where
 o1:bE w B v l
 o2:bE w B v' l'
 ne:∀ g,v.ownBlock=some g→v'.ownBlock≠some g
theorem DH.alloc {w:World}{B:Nat}{v v':Value}{l l':List ByteArray} (h:DH w B v l v' l') (o:Obj):DH (w.alloc o) B v l v' l':=⟨World.ownsRow.alloc h.o1 o,World.ownsRow.alloc h.o2 o,h.ne⟩
open Go.RowKit Dg
def gx (u:Value):Prop:=∃ z,u=.int .i64 z
theorem IsI.grownX {w w':World}{u v:Value}{l:List Nat} (h:IsI w u l) (hnx:NoX gx w v) (hg:w.grownBy w' v.ownBlock):IsI w' u l:=by
 obtain⟨p,cap,e,h1,h2,h3⟩:=h;refine⟨p,cap,e,h1,h2,fun hl=>?_⟩;obtain⟨b,o,e2,hlt,hc⟩:=h3 hl;refine⟨b,o,e2,Fe hlt hg.size,fun i hi=>?_⟩;have hcc:=hc i hi;exact hg.cell hcc (fun e3=>hnx b e3.symm _ _ hcc ⟨_,rfl⟩)
theorem cV.grownX {w w':World}{u v:Value}{q:Rat} (h:cV w u q) (hnx:NoX gx w v) (hg:w.grownBy w' v.ownBlock):cV w' u q:=by
 obtain⟨vn,vd,e,h1,h2⟩:=h;exact⟨vn,vd,e,IsI.grownX h1 hnx hg,IsI.grownX h2 hnx hg⟩
theorem cV.forms {w:World}{v:Value}{q:Rat} (h:cV w v q):∃ m p N c p' N' c',v=.agg #[.bool m,.slice p N c,.bool false,.slice p' N' c']:=by
 obtain⟨m,p,N,c,p',N',c',e,-⟩:=h.open;exact⟨m,p,N,c,p',N',c',e⟩
theorem cV.len {w:World}{v:Value}{q:Rat} (h:cV w v q):(cellsOf v).length=4:=by
 obtain⟨m,p,N,c,p',N',c',rfl⟩:=h.forms;rfl
def j8 (w:World) (v:Value) (qs:List Rat):Prop:=∃ es:List Value,es.length=qs.length∧b9 w 4 v es∧∀ i (h:i<es.length) (h':i<qs.length),cV w es[i] qs[i]
structure du (w:World) (base:Nat) (v:Value) (qs:List Rat):Prop where
 ex:∃ es:List Value,es.length=qs.length∧w.ownsRow base 78 4 v es.length (cY es)∧∀ i (h:i<es.length) (h':i<qs.length),cV w es[i] qs[i]
 nx:NoX gx w v
theorem zG {w:World}{es:List Value}{qs:List Rat} (hl:es.length=qs.length) (h:∀ i (h:i<es.length) (h':i<qs.length),cV w es[i] qs[i]):∀ e∈es,(cellsOf e).length=4:=by
 intro e he;obtain⟨i,hi,rfl⟩:=FV he;exact (h i hi (by omega)).len
theorem j8.below {w w':World}{v:Value}{qs:List Rat} (h:j8 w v qs) (hb:Below w.heap.size w w'):j8 w' v qs:=by
 obtain⟨es,h1,h2,h3⟩:=h;exact⟨es,h1,h2.below hb,fun i hi hi'=>(h3 i hi hi').below hb⟩
theorem du.isQs {w:World}{base:Nat}{v:Value}{qs:List Rat} (h:du w base v qs):j8 w v qs:=by
 obtain⟨es,h1,h2,h3⟩:=h.ex;exact⟨es,h1,eX (zG h1 h3) h2,h3⟩
theorem du.below {w w':World}{base:Nat}{v:Value}{qs:List Rat} (h:du w base v qs) (hb:Below w.heap.size w w'):du w' base v qs:=by
 obtain⟨es,h1,h2,h3⟩:=h.ex;exact⟨⟨es,h1,fR h2 hb,fun i hi hi'=>(h3 i hi hi').below hb⟩,h.nx.below h2 hb⟩
theorem du.nil (w:World) (base:Nat):du w base (.slice none 0 0) []:=⟨⟨[],rfl,World.ownsRow_nil _ _ _ _,fun i h=>by simp at h⟩,fun g h=>by cases h⟩
theorem j8.form {w:World}{v:Value}{qs:List Rat} (h:j8 w v qs):∃ p c,v=.slice p qs.length c∧qs.length≤c∧c≤maxLen:=by
 obtain⟨es,h1,⟨p,c,e,h2,h3,-⟩,-⟩:=h;rw[h1] at e h2;exact⟨p,c,e,h2,h3⟩
theorem du.lt {w:World}{base:Nat}{v:Value}{qs:List Rat} (h:du w base v qs):∀ g,v.ownBlock=some g→base≤g∧g<w.heap.size:=by
 obtain⟨es,h1,h2,h3⟩:=h.ex;exact World.ownsRow.lt h2
theorem j8.get {w:World}{p:Option Addr}{n c:Nat}{qs:List Rat} (h:j8 w (.slice p n c) qs) {i:Nat} (hi:i<qs.length) :
  ∃ B o,p=some ⟨B,o,none⟩∧B<w.heap.size∧∃ m a N d a' N' d',cV w (.agg #[.bool m,.slice a N d,.bool false,.slice a' N' d']) qs[i] ∧
   w.cell? ⟨B,o+i*4,none⟩=some (.bool m)∧w.cell? ⟨B,o+i*4+1,none⟩=some (.slice a N d)∧w.cell? ⟨B,o+i*4+2,none⟩=some (.bool false)∧w.cell? ⟨B,o+i*4+3,none⟩=some (.slice a' N' d'):=by
 obtain⟨es,h1,⟨p',cap,e,h2,h3,h4⟩,h5⟩:=h;obtain⟨rfl,-,-⟩:p=p'∧n=es.length∧c=cap:=by simpa using e
 obtain⟨b,o,e2,hlt,hc⟩:=h4 (by omega);have hk:=h5 i (by omega) hi;obtain⟨m,a,N,d,a',N',d',he⟩:=hk.forms;have hc:=hc i (by omega);rw[he] at hk hc;exact⟨b,o,e2,hlt,_,_,_,_,_,_,_,hk,hc 0 _ rfl,hc 1 _ rfl,hc 2 _ rfl,hc 3 _ rfl⟩
theorem EL:(Tryz.prog.info? 78).map (fun i=>(i.zero,i.size,i.bytes))=some (some (.agg #[.bool false,.slice none 0 0,.bool false,.slice none 0 0]),4,64):=by kernel_rfl
structure DA (w w':World) (B:Nat) (v v':Value) (qs:List Rat):Prop where
 own:du w' B v' qs
 grown:w.grownBy w' v.ownBlock
 blk:v'.ownBlock=v.ownBlock∨∃ g,v'.ownBlock=some g∧w.heap.size≤g
 old:NoX gx w v
theorem DA.below {w w':World}{B:Nat}{v v':Value}{qs q0:List Rat} (h:DA w w' B v v' qs) (ho:du w B v q0) {B':Nat}{w0:World} (hb:Below B' w0 w) (hB:B'≤B) (hs:B≤w.heap.size):Below B' w0 w':=by
 refine hb.grown h.grown (Fj hB hs) fun k hk=>?_;have:=(ho.lt k hk).1;omega
theorem ee {w:World}{ops:Array Oper}{rest:List Oper}{o:Oper}{act:Act}{Q:Exit→Act→World→Prop} (T:TypeId)
  (hT:Tryz.prog.underlying T=some (.slice 78)) (hgd:o.guard=none) (s x:Operand)
  (ho:o.op=.call { callee:=.builtin .append,args:=#[s,x],argTypes:=#[T,T] })
  (base:Nat) (v:Value) (qs:List Rat) (m:Bool) (a:Option Addr) (N d:Nat) (a':Option Addr) (N' d':Nat) (q:Rat) (hs:act.eval s=v) (hown:du w base v qs) (bx:Nat)
  (hx:act.eval x=.slice (some ⟨bx,0,none⟩) 1 1) (hcx:w.heap[bx]?=some (.cells #[.bool m,.slice a N d,.bool false,.slice a' N' d'] 78 (0,0)))
  (hq:cV w (.agg #[.bool m,.slice a N d,.bool false,.slice a' N' d']) q) (hlen:qs.length<1000000000) (hbase:base≤w.heap.size)
  (h:∀ v' w',DA w w' base v v' (qs++[q])→wpList Tryz.prog ops Q rest (act.put o.dst v') w') :
  wpList Tryz.prog ops Q (o :: rest) act w:=by
 obtain⟨es,h1,h2,h3⟩:=hown.ex;obtain⟨i0,hi,hz0,hz1,hz2⟩:=info_parts EL
 have hcell:∀ (j:Nat) (u:Value),[Value.bool m,.slice a N d,.bool false,.slice a' N' d'][j]?=some u→w.cell? ((⟨bx,0,none⟩:Addr).add j)=some u:=by
  intro j u hj;have e:(⟨bx,0,none⟩:Addr).add j=⟨bx,j,none⟩:=by unfold Addr.add;split<;>simp_all
  rw[e,World.cell?,hcx];simp only[FZ,FB,if_false];rw[←hj,←GT]
 have hone:∀ u∈[Value.bool m,.slice a N d,.bool false,.slice a' N' d'],u.oneCell'=true:=by
  intro u hu;simp at hu;rcases hu with rfl | rfl | rfl | rfl<;>rfl
 have hnd:∀ u∈[Value.bool m,.slice a N d,.bool false,.slice a' N' d'],¬ gx u:=by
  rintro u hu ⟨z,rfl⟩;simp at hu
 have hzn:∀ u∈(Value.agg #[.bool false,.slice none 0 0,.bool false,.slice none 0 0]).cells,¬ gx u:=by
  rintro u hu ⟨z,rfl⟩;simp[Value.cells] at hu
 have h63:es.length+1≤maxLen:=by unfold maxLen;omega
 refine wpList_plain hgd fun K hK=>?_;obtain⟨v',w',hr,g1,g2,g3⟩:=kY (P:=Tryz.prog) w gx base T o.type 78 i0 _ 4 64 hT hi hz0 hz1 hz2 rfl (by decide) hzn v es.length (cY es) h2 hown.nx ⟨bx,0,none⟩ 1 1 [.bool m,.slice a N d,.bool false,.slice a' N' d'] (by decide) rfl hcell hone hnd h63 (by omega) hbase;obtain⟨v2,w2,hr2,-,-,g4⟩:=rh (P:=Tryz.prog) w base T o.type 78 i0 _ 4 64 hT hi hz0 hz1 hz2 rfl (by decide) v es.length (cY es) h2 ⟨bx,0,none⟩ 1 1 [.bool m,.slice a N d,.bool false,.slice a' N' d'] (by decide) rfl hcell hone h63 (by omega) hbase;rw[hr] at hr2
 cases hr2
 unfold Oper.wp execOp
 obtain⟨pv,nv,cv,rfl⟩:∃ p n c,v=.slice p n c:=by
  rcases h2.2 with ⟨rfl,-⟩ | ⟨g,cap,cur,rfl,-⟩<;>exact⟨_,_,_,rfl⟩
 simp only[ho,resolve,invoke,builtin,Sem.run_bind,Sem.run_pure,Result.andThen_ok,Hy,Gv,Ic,hs,hx,hr];refine hK _ _ (h v' w' ⟨⟨⟨es++[.agg #[.bool m,.slice a N d,.bool false,.slice a' N' d']],by simp[h1],?_,?_⟩,g3⟩,g2,g4,hown.nx⟩)
 ·rw[Fl,jG];exact g1
 ·intro i hi hi';by_cases hin:i<es.length
  ·rw[FK hin,FK (by omega)];exact (h3 i hin (by omega)).grownX hown.nx g2
  ·have hie:i=es.length:=by simp at hi;omega
   subst hie;rw[FI (by omega),FI (by omega)];simp only[Hc,h1,E7];exact hq.grownX hown.nx g2
theorem Dv (n:Nat) (hn:n<1000000000000) (w:World):Calls Tryz.prog 109 #[.int .i64 n] w fun e w'=>∃ v,e=.returned v∧cV w' v (n:Rat)∧Below w.heap.size w w':=by
 have h:=kT n hn w
 have e:rt ((n:Nat):Rat)=⟨false,n,1⟩:=by
  have:=rb (n:Int);rw[decide_eq_false (by omega),FR] at this;exact this
 rw[←e] at h;exact h
theorem qone (w:World):Calls Tryz.prog 57 #[] w fun e w'=>∃ v,e=.returned v∧cV w' v 1∧Below w.heap.size w w':=by
 have hl:=aT w (.cells #[.bool false,.slice none 0 0,.bool false,.slice none 0 0] 78);go_enter Tryz.func57,Tryz.ntmps57;go_upto_region 1 with fail
 generalize w.alloc (.cells #[.bool false,.slice none 0 0,.bool false,.slice none 0 0] 78)=w1 at *
 have s0:=hl.s0;have M1:=E5 hl.below;clear hl;go_wp2_with fail
 refine (Dv 1 (by decide) w1).mono ?_;rintro e w2 ⟨v2,rfl,hv2,hb2⟩;have hv2:cV w2 v2 (1:Rat):=hv2;obtain⟨mo,po,No,co,po',No',co',rfl,ho,ho'⟩:=hv2.open;have u2:=(hb2.block _ (ag s0)).trans s0;have hP:=aY (u0:=.bool mo) (u1:=.slice po No co) (u2:=.bool false) (u3:=.slice po' No' co') u2;have hZ:=E5 (dq.puts hv2 hP u2 bF);have hBF:=E5 ((M1.out.trans (hb2.mono M1.out.size)).trans (hP.below w.heap.size (by omega)));have q0:=aa u2 0;have q1:=aa u2 1;have q2:=aa u2 2;have q3:=aa u2 3;have f0:=frozen_of_row w2 (w.heap.size) 0 _ _ u2;have f1:=frozen_of_row w2 (w.heap.size) 1 _ _ u2;have f2:=frozen_of_row w2 (w.heap.size) 2 _ _ u2;have f3:=frozen_of_row w2 (w.heap.size) 3 _ _ u2;clear hv2 ho ho' hb2 s0;go_wp2_with fail
 (try simp only[Exit.inBlock,Exit.then])
 change bodyPost _ _ _ _ _ (dX w2 (w.heap.size) (.bool mo) (.slice po No co) (.bool false) (.slice po' No' co'));refine bodyPost_ret (results_cell_row rfl _ _ (w.heap.size) _ _ (0,0) _ rfl hP.row Tryz.underlying78 rfl (by kernel_rfl)) rfl ?_;exact⟨_,rfl,hZ.out,hBF.out⟩
theorem Dw (w:World):Calls Tryz.prog 58 #[] w fun e w'=>∃ v,e=.returned v∧cV w' v 0∧Below w.heap.size w w':=by
 have hl:=aT w (.cells #[.bool false,.slice none 0 0,.bool false,.slice none 0 0] 78);go_enter Tryz.func58,Tryz.ntmps58;go_upto_region 1 with fail
 generalize w.alloc (.cells #[.bool false,.slice none 0 0,.bool false,.slice none 0 0] 78)=w1 at *
 have s0:=hl.s0;have M1:=E5 hl.below;clear hl;go_wp2_with fail
 refine (Dv 0 (by decide) w1).mono ?_;rintro e w2 ⟨v2,rfl,hv2,hb2⟩;have hv2:cV w2 v2 (0:Rat):=hv2;obtain⟨mo,po,No,co,po',No',co',rfl,ho,ho'⟩:=hv2.open;have u2:=(hb2.block _ (ag s0)).trans s0;have hP:=aY (u0:=.bool mo) (u1:=.slice po No co) (u2:=.bool false) (u3:=.slice po' No' co') u2;have hZ:=E5 (dq.puts hv2 hP u2 bF);have hBF:=E5 ((M1.out.trans (hb2.mono M1.out.size)).trans (hP.below w.heap.size (by omega)));have q0:=aa u2 0;have q1:=aa u2 1;have q2:=aa u2 2;have q3:=aa u2 3;have f0:=frozen_of_row w2 (w.heap.size) 0 _ _ u2;have f1:=frozen_of_row w2 (w.heap.size) 1 _ _ u2;have f2:=frozen_of_row w2 (w.heap.size) 2 _ _ u2;have f3:=frozen_of_row w2 (w.heap.size) 3 _ _ u2;clear hv2 ho ho' hb2 s0;go_wp2_with fail
 (try simp only[Exit.inBlock,Exit.then])
 change bodyPost _ _ _ _ _ (dX w2 (w.heap.size) (.bool mo) (.slice po No co) (.bool false) (.slice po' No' co'));refine bodyPost_ret (results_cell_row rfl _ _ (w.heap.size) _ _ (0,0) _ rfl hP.row Tryz.underlying78 rfl (by kernel_rfl)) rfl ?_;exact⟨_,rfl,hZ.out,hBF.out⟩
open Go.RowKit Dg Dc
theorem rG (x y:Int):decide (dC x y≤0)=decide (x≤y):=by
 unfold dC;rw[decide_eq_decide]
 split
 ·omega
 ·split<;>omega
theorem vo (m:Bool) (n d:Nat):((decide (sgn m n≤4096)&&decide (-(sgn m n)≤4096))&&decide ((d:Int)≤4096))=(decide (n≤4096)&&decide (d≤4096)):=by
 unfold sgn;rw[GU]
 cases m<;>simp<;>omega
theorem nm:bf 4096:=by
 unfold bf;have:=aS aD (n:=4096) (k:=1) (by unfold RR;omega);omega
theorem n_ (v:Value) (r:Rt) (w:World) (hv:dq w v r) (hc:r.minus=true→r.n≠0) (hfn:bf r.n) (hfd:bf r.d) :
  Calls Tryz.prog 116 #[v] w fun e w'=>e=.returned (.bool (dZ r))∧Below w.heap.size w w':=by
 obtain⟨p,N,c,p',N',c',rfl,hN,hNc,hcm,hN',hNc',hcm',hdn,hdd⟩:=hv.parts;obtain⟨m,n,d⟩:=r;simp only at *
 have hl:=aT w (.cells #[.bool m,.slice p N c,.bool false,.slice p' N' c'] 78);have HN:=E5 ((uH (m:=m) hdn hc).below hl.below);have HD:=E5 ((iD hdd).below hl.below);have hr0:=hl.s0;have HB:=hl.below;have HR:Hid (((decide (sgn m n≤4096)&&decide (-(sgn m n)≤4096))&&decide ((d:Int)≤4096))=dZ ⟨m,n,d⟩):=vo m n d;have HFN:Hid (bf (sgn m n).natAbs):=by unfold Hid;rw[gI];exact hfn
 have HFN2:Hid (bf (-(sgn m n)).natAbs):=by unfold Hid;rw[Ha,gI];exact hfn
 have HFD:Hid (bf (d:Int).natAbs):=by unfold Hid;rw[FR];exact hfd
 clear hv hl hdn hdd hc hfn hfd;go_enter Tryz.func116,Tryz.ntmps116;go_upto_region 1 with fail
 generalize w.alloc (.cells #[.bool m,.slice p N c,.bool false,.slice p' N' c'] 78)=w1 at *
 go_wp2_with fail
 refine (iP 4096 (by omega) w1).mono ?_;rintro e w2 ⟨v2,rfl,hz2,hb2⟩;obtain⟨p2,N2,c2,rfl,hN2,hNc2,hcm2,hd2⟩:=hz2.nat;have hl2:=aT w2 (.cells #[.bool false,.slice p2 N2 c2] 76);have hb3:=hb2.trans (hl2.below.mono hb2.size);have hr1:=(hb3.block _ (ag hr0)).trans hr0;have HB3:=HB.trans (hb3.mono HB.size);have HN3:=E5 (HN.out.below hb3);have HD3:=E5 (HD.out.below hb3);have HM3:=E5 ((iD hd2).below hl2.below);have hr3:=hl2.s0;clear hl2 hb2 hb3 hz2 hd2 hr0 HB HN HD;go_upto_region 2 with fail
 generalize w2.alloc (.cells #[.bool false,.slice p2 N2 c2] 76)=w3 at *
 generalize w2.heap.size=g3 at *
 have hbd:Below w3.heap.size w3 w3.drew:=(Below.refl _ _).drew;have hS:(fun wx:World=>wx.heap[w.heap.size]?=some (.cells #[.bool m,.slice p N c,.bool false,.slice p' N' c'] 78 (0,0))∧wx.heap[g3]?=some (.cells #[.bool false,.slice p2 N2 c2] 76 (0,0))) w3.drew:=⟨(hbd.block _ (ag hr1)).trans hr1,(hbd.block _ (ag hr3)).trans hr3⟩;have HB:=HB3.trans (hbd.mono HB3.size);have HN:=E5 (HN3.out.below hbd);have HD:=E5 (HD3.out.below hbd);have HM:=E5 (HM3.out.below hbd);refine wp_mono (av (Q:=aN _) (fun wx:World=>wx.heap[w.heap.size]?=some (.cells #[.bool m,.slice p N c,.bool false,.slice p' N' c'] 78 (0,0))∧wx.heap[g3]?=some (.cells #[.bool false,.slice p2 N2 c2] 76 (0,0))) (fun _=>false) (by kernel_rfl) ?_) (fun _ _ _ h=>aU h);clear hbd hr1 hr3 HB3 HN3 HD3 HM3;generalize w3.drew=w4 at *
 refine ai (i:=0) (v:=?vv1) rfl (by kernel_rfl) (fun _ _ _ h=>h) rfl ?hy1 ?rest1;case hy1=>(intro wy;go_simp;try with_reducible rfl)
 try simp only[Act.put,E9,E8,E7,E6,Fa,E_]
 refine ax (i:=1) (v:=?vvA1) rfl (by kernel_rfl) (fun _ _ _ h=>h) (by rfl) hS ?hyA1 ?restA1
 case hyA1 =>
  intro wy hy;have q0:=aa hy.1 0;have q1:=aa hy.1 1;have q2:=aa hy.1 2;have q3:=aa hy.1 3;have e0:=aa hy.2 0;have e1:=aa hy.2 1;clear hy;go_simp;try with_reducible rfl
 try simp only[Act.put,E9,E8,E7,E6,Fa,E_]
 refine ax (i:=2) (v:=?vvA2) rfl (by kernel_rfl) (fun _ _ _ h=>h) (by rfl) hS ?hyA2 ?restA2
 case hyA2 =>
  intro wy hy;have q0:=aa hy.1 0;have q1:=aa hy.1 1;have q2:=aa hy.1 2;have q3:=aa hy.1 3;have e0:=aa hy.2 0;have e1:=aa hy.2 1;clear hy;go_simp;try with_reducible rfl
 try simp only[Act.put,E9,E8,E7,E6,Fa,E_]
 refine au (i:=3) rfl (by kernel_rfl) rfl (fun K hK=>?_);go_simp;refine (le _ _ _ _ w4 HN.out HM.out (Fe HFN.out (by omega)) (Fe nm (by omega))).mono ?_;rintro e w5 ⟨rfl,hb5⟩;have hS':=And.intro ((hb5.block _ (ag hS.1)).trans hS.1) ((hb5.block _ (ag hS.2)).trans hS.2);refine hK _ _ (fun _ _=>hS') ?_;clear hK K;try simp only[Act.put,E9,E8,E7,E6,Fa,E_]
 replace HB:=HB.trans (hb5.mono HB.size);have HN':=E5 (HN.out.below hb5);have HD':=E5 (HD.out.below hb5);have HM':=E5 (HM.out.below hb5);clear hS HN HD HM;have hS:=hS';have HN:=HN';have HD:=HD';have HM:=HM';clear hS' HN' HD' HM';clear hb5;have hc1:=rG (sgn m n) (4096:Nat);obtain⟨z1,hz1⟩:∃ z,z=dC (sgn m n) (4096:Nat):=⟨_,rfl⟩;rw[←hz1] at hc1 ⊢;clear hz1;obtain⟨b1,hb1⟩:∃ b,b=decide (sgn m n≤4096):=⟨_,rfl⟩;rw[show decide (sgn m n≤((4096:Nat):Int))=b1 from hb1.symm] at hc1;rw[←hb1] at HR;clear hb1
 cases b1
 ·refine ai (i:=4) (v:=?vv2) rfl (by kernel_rfl) (fun _ _ _ h=>h) rfl ?hy2 ?rest2;case hy2=>(intro wy;go_simp;try with_reducible rfl)
  try simp only[Act.put,E9,E8,E7,E6,Fa,E_]
  refine ai (i:=5) (v:=?vv3) rfl (by kernel_rfl) (fun _ _ _ h=>h) rfl ?hy3 ?rest3;case hy3=>(intro wy;go_simp;try with_reducible rfl)
  try simp only[Act.put,E9,E8,E7,E6,Fa,E_]
  refine a8 (i:=6) rfl (by kernel_rfl) (fun _ _ _ h=>h) (by rfl) ?_;try simp only[Act.put,E9,E8,E7,E6,Fa,E_]
  refine a8 (i:=7) rfl (by kernel_rfl) (fun _ _ _ h=>h) (by rfl) ?_;try simp only[Act.put,E9,E8,E7,E6,Fa,E_]
  refine a8 (i:=8) rfl (by kernel_rfl) (fun _ _ _ h=>h) (by rfl) ?_;try simp only[Act.put,E9,E8,E7,E6,Fa,E_]
  refine a8 (i:=9) rfl (by kernel_rfl) (fun _ _ _ h=>h) (by rfl) ?_;try simp only[Act.put,E9,E8,E7,E6,Fa,E_]
  refine a8 (i:=10) rfl (by kernel_rfl) (fun _ _ _ h=>h) (by rfl) ?_;try simp only[Act.put,E9,E8,E7,E6,Fa,E_]
  refine a8 (i:=11) rfl (by kernel_rfl) (fun _ _ _ h=>h) (by rfl) ?_;try simp only[Act.put,E9,E8,E7,E6,Fa,E_]
  refine ai (i:=12) (v:=?vv4) rfl (by kernel_rfl) (fun _ _ _ h=>h) rfl ?hy4 ?rest4;case hy4=>(intro wy;go_simp;try with_reducible rfl)
  try simp only[Act.put,E9,E8,E7,E6,Fa,E_]
  refine ai (i:=13) (v:=?vv5) rfl (by kernel_rfl) (fun _ _ _ h=>h) rfl ?hy5 ?rest5;case hy5=>(intro wy;go_simp;try with_reducible rfl)
  try simp only[Act.put,E9,E8,E7,E6,Fa,E_]
  refine a8 (i:=14) rfl (by kernel_rfl) (fun _ _ _ h=>h) (by rfl) ?_;try simp only[Act.put,E9,E8,E7,E6,Fa,E_]
  refine a8 (i:=15) rfl (by kernel_rfl) (fun _ _ _ h=>h) (by rfl) ?_;try simp only[Act.put,E9,E8,E7,E6,Fa,E_]
  refine a8 (i:=16) rfl (by kernel_rfl) (fun _ _ _ h=>h) (by rfl) ?_;try simp only[Act.put,E9,E8,E7,E6,Fa,E_]
  refine a8 (i:=17) rfl (by kernel_rfl) (fun _ _ _ h=>h) (by rfl) ?_;try simp only[Act.put,E9,E8,E7,E6,Fa,E_]
  refine a8 (i:=18) rfl (by kernel_rfl) (fun _ _ _ h=>h) (by rfl) ?_;try simp only[Act.put,E9,E8,E7,E6,Fa,E_]
  refine ai (i:=19) (v:=?vv6) rfl (by kernel_rfl) (fun _ _ _ h=>h) rfl ?hy6 ?rest6;case hy6=>(intro wy;go_simp;try with_reducible rfl)
  try simp only[Act.put,E9,E8,E7,E6,Fa,E_]
  refine ai (i:=20) (v:=?vv7) rfl (by kernel_rfl) (fun _ _ _ h=>h) rfl ?hy7 ?rest7;case hy7=>(intro wy;go_simp;try with_reducible rfl)
  try simp only[Act.put,E9,E8,E7,E6,Fa,E_]
  try simp only[Act.put,E9,E8,E7,E6,Fa,E_]
  refine aG (by kernel_rfl) ?_ _;simp only[aN];go_wp2_with fail
  go_ret;refine⟨?_,HB⟩;rw[←HR.out];rfl
 ·refine ai (i:=4) (v:=?vv8) rfl (by kernel_rfl) (fun _ _ _ h=>h) rfl ?hy8 ?rest8;case hy8=>(intro wy;go_simp;try with_reducible rfl)
  try simp only[Act.put,E9,E8,E7,E6,Fa,E_]
  refine ai (i:=5) (v:=?vv9) rfl (by kernel_rfl) (fun _ _ _ h=>h) rfl ?hy9 ?rest9;case hy9=>(intro wy;go_simp;try with_reducible rfl)
  try simp only[Act.put,E9,E8,E7,E6,Fa,E_]
  refine bY (i:=6) (v:=?vvB1) rfl (by kernel_rfl) (fun _ _ _ h=>h) (by rfl) hS ?hyB1 ?restB1
  case hyB1 =>
   intro wy hy;have q0:=aa hy.1 0;have q1:=aa hy.1 1;have q2:=aa hy.1 2;have q3:=aa hy.1 3;have e0:=aa hy.2 0;have e1:=aa hy.2 1;clear hy;go_simp;try with_reducible rfl
  try simp only[Act.put,E9,E8,E7,E6,Fa,E_]
  refine bY (i:=7) (v:=?vvB2) rfl (by kernel_rfl) (fun _ _ _ h=>h) (by rfl) hS ?hyB2 ?restB2
  case hyB2 =>
   intro wy hy;have q0:=aa hy.1 0;have q1:=aa hy.1 1;have q2:=aa hy.1 2;have q3:=aa hy.1 3;have e0:=aa hy.2 0;have e1:=aa hy.2 1;clear hy;go_simp;try with_reducible rfl
  try simp only[Act.put,E9,E8,E7,E6,Fa,E_]
  refine bY (i:=9) (v:=?vvB3) rfl (by kernel_rfl) (fun _ _ _ h=>h) (by rfl) hS ?hyB3 ?restB3
  case hyB3 =>
   intro wy hy;have q0:=aa hy.1 0;have q1:=aa hy.1 1;have q2:=aa hy.1 2;have q3:=aa hy.1 3;have e0:=aa hy.2 0;have e1:=aa hy.2 1;clear hy;go_simp;try with_reducible rfl
  try simp only[Act.put,E9,E8,E7,E6,Fa,E_]
  refine iq (i:=8) rfl (by kernel_rfl) (by rfl) (fun K hK=>?_);go_simp;refine (ix _ _ w5 HN.out).mono ?_;rintro e w6 ⟨v6,rfl,hz6,hb6⟩;obtain⟨p6,N6,c6,rfl,hN6,hNc6,hcm6,hd6⟩:=hz6.parts;generalize decide (-sgn m n<0)=m6 at *
  clear hd6;have hS':=And.intro ((hb6.block _ (ag hS.1)).trans hS.1) ((hb6.block _ (ag hS.2)).trans hS.2);refine hK _ _ (fun _ _=>hS') ?_;clear hK K;try simp only[Act.put,E9,E8,E7,E6,Fa,E_]
  replace HB:=HB.trans (hb6.mono HB.size);have HN':=E5 (HN.out.below hb6);have HD':=E5 (HD.out.below hb6);have HM':=E5 (HM.out.below hb6);clear hS HN HD HM;have hS:=hS';have HN:=HN';have HD:=HD';have HM:=HM';clear hS' HN' HD' HM';have HZ6:=E5 hz6;clear hb6 hz6;refine iq (i:=10) rfl (by kernel_rfl) (by rfl) (fun K hK=>?_);go_simp;refine (le _ _ _ _ w6 HZ6.out HM.out (Fe HFN2.out (by omega)) (Fe nm (by omega))).mono ?_;rintro e w7 ⟨rfl,hb7⟩;have hS':=And.intro ((hb7.block _ (ag hS.1)).trans hS.1) ((hb7.block _ (ag hS.2)).trans hS.2);refine hK _ _ (fun _ _=>hS') ?_;clear hK K;try simp only[Act.put,E9,E8,E7,E6,Fa,E_]
  replace HB:=HB.trans (hb7.mono HB.size);have HN':=E5 (HN.out.below hb7);have HD':=E5 (HD.out.below hb7);have HM':=E5 (HM.out.below hb7);clear hS HN HD HM;have hS:=hS';have HN:=HN';have HD:=HD';have HM:=HM';clear hS' HN' HD' HM';clear hb7 HZ6 hc1;have hc2:=rG (-(sgn m n)) (4096:Nat);obtain⟨z2,hz2⟩:∃ z,z=dC (-(sgn m n)) (4096:Nat):=⟨_,rfl⟩;rw[←hz2] at hc2 ⊢;clear hz2;obtain⟨b2,hb2⟩:∃ b,b=decide (-(sgn m n)≤4096):=⟨_,rfl⟩;rw[show decide (-(sgn m n)≤((4096:Nat):Int))=b2 from hb2.symm] at hc2;rw[←hb2] at HR;clear hb2
  cases b2
  ·refine bY (i:=11) (v:=?vvC1) rfl (by kernel_rfl) (fun _ _ _ h=>h) (by rfl) hS ?hyC1 ?restC1
   case hyC1 =>
    intro wy hy;have q0:=aa hy.1 0;have q1:=aa hy.1 1;have q2:=aa hy.1 2;have q3:=aa hy.1 3;have e0:=aa hy.2 0;have e1:=aa hy.2 1;clear hy;go_simp;try with_reducible rfl
   try simp only[Act.put,E9,E8,E7,E6,Fa,E_]
   refine ai (i:=12) (v:=?vv10) rfl (by kernel_rfl) (fun _ _ _ h=>h) rfl ?hy10 ?rest10;case hy10=>(intro wy;go_simp;try with_reducible rfl)
   try simp only[Act.put,E9,E8,E7,E6,Fa,E_]
   refine ai (i:=13) (v:=?vv11) rfl (by kernel_rfl) (fun _ _ _ h=>h) rfl ?hy11 ?rest11;case hy11=>(intro wy;go_simp;try with_reducible rfl)
   try simp only[Act.put,E9,E8,E7,E6,Fa,E_]
   refine a8 (i:=14) rfl (by kernel_rfl) (fun _ _ _ h=>h) (by rfl) ?_;try simp only[Act.put,E9,E8,E7,E6,Fa,E_]
   refine a8 (i:=15) rfl (by kernel_rfl) (fun _ _ _ h=>h) (by rfl) ?_;try simp only[Act.put,E9,E8,E7,E6,Fa,E_]
   refine a8 (i:=16) rfl (by kernel_rfl) (fun _ _ _ h=>h) (by rfl) ?_;try simp only[Act.put,E9,E8,E7,E6,Fa,E_]
   refine a8 (i:=17) rfl (by kernel_rfl) (fun _ _ _ h=>h) (by rfl) ?_;try simp only[Act.put,E9,E8,E7,E6,Fa,E_]
   refine a8 (i:=18) rfl (by kernel_rfl) (fun _ _ _ h=>h) (by rfl) ?_;try simp only[Act.put,E9,E8,E7,E6,Fa,E_]
   refine ai (i:=19) (v:=?vv12) rfl (by kernel_rfl) (fun _ _ _ h=>h) rfl ?hy12 ?rest12;case hy12=>(intro wy;go_simp;try with_reducible rfl)
   try simp only[Act.put,E9,E8,E7,E6,Fa,E_]
   refine ai (i:=20) (v:=?vv13) rfl (by kernel_rfl) (fun _ _ _ h=>h) rfl ?hy13 ?rest13;case hy13=>(intro wy;go_simp;try with_reducible rfl)
   try simp only[Act.put,E9,E8,E7,E6,Fa,E_]
   try simp only[Act.put,E9,E8,E7,E6,Fa,E_]
   refine aG (by kernel_rfl) ?_ _;simp only[aN];go_wp2_with fail
   go_ret;refine⟨?_,HB⟩;rw[←HR.out];rfl
  ·refine bY (i:=11) (v:=?vvD1) rfl (by kernel_rfl) (fun _ _ _ h=>h) (by rfl) hS ?hyD1 ?restD1
   case hyD1 =>
    intro wy hy;have q0:=aa hy.1 0;have q1:=aa hy.1 1;have q2:=aa hy.1 2;have q3:=aa hy.1 3;have e0:=aa hy.2 0;have e1:=aa hy.2 1;clear hy;go_simp;try with_reducible rfl
   try simp only[Act.put,E9,E8,E7,E6,Fa,E_]
   refine ai (i:=12) (v:=?vv14) rfl (by kernel_rfl) (fun _ _ _ h=>h) rfl ?hy14 ?rest14;case hy14=>(intro wy;go_simp;try with_reducible rfl)
   try simp only[Act.put,E9,E8,E7,E6,Fa,E_]
   refine ai (i:=13) (v:=?vv15) rfl (by kernel_rfl) (fun _ _ _ h=>h) rfl ?hy15 ?rest15;case hy15=>(intro wy;go_simp;try with_reducible rfl)
   try simp only[Act.put,E9,E8,E7,E6,Fa,E_]
   refine bY (i:=14) (v:=?vvD2) rfl (by kernel_rfl) (fun _ _ _ h=>h) (by rfl) hS ?hyD2 ?restD2
   case hyD2 =>
    intro wy hy;have q0:=aa hy.1 0;have q1:=aa hy.1 1;have q2:=aa hy.1 2;have q3:=aa hy.1 3;have e0:=aa hy.2 0;have e1:=aa hy.2 1;clear hy;go_simp;try with_reducible rfl
   try simp only[Act.put,E9,E8,E7,E6,Fa,E_]
   refine bY (i:=15) (v:=?vvD3) rfl (by kernel_rfl) (fun _ _ _ h=>h) (by rfl) hS ?hyD3 ?restD3
   case hyD3 =>
    intro wy hy;have q0:=aa hy.1 0;have q1:=aa hy.1 1;have q2:=aa hy.1 2;have q3:=aa hy.1 3;have e0:=aa hy.2 0;have e1:=aa hy.2 1;clear hy;go_simp;try with_reducible rfl
   try simp only[Act.put,E9,E8,E7,E6,Fa,E_]
   refine bY (i:=16) (v:=?vvD4) rfl (by kernel_rfl) (fun _ _ _ h=>h) (by rfl) hS ?hyD4 ?restD4
   case hyD4 =>
    intro wy hy;have q0:=aa hy.1 0;have q1:=aa hy.1 1;have q2:=aa hy.1 2;have q3:=aa hy.1 3;have e0:=aa hy.2 0;have e1:=aa hy.2 1;clear hy;go_simp;try with_reducible rfl
   try simp only[Act.put,E9,E8,E7,E6,Fa,E_]
   refine iq (i:=17) rfl (by kernel_rfl) (by rfl) (fun K hK=>?_);go_simp;refine (le _ _ _ _ w7 HD.out HM.out (Fe HFD.out (by omega)) (Fe nm (by omega))).mono ?_;rintro e w8 ⟨rfl,hb8⟩;have hS':=And.intro ((hb8.block _ (ag hS.1)).trans hS.1) ((hb8.block _ (ag hS.2)).trans hS.2);refine hK _ _ (fun _ _=>hS') ?_;clear hK K;try simp only[Act.put,E9,E8,E7,E6,Fa,E_]
   replace HB:=HB.trans (hb8.mono HB.size);have HN':=E5 (HN.out.below hb8);have HD':=E5 (HD.out.below hb8);have HM':=E5 (HM.out.below hb8);clear hS HN HD HM;have hS:=hS';have HN:=HN';have HD:=HD';have HM:=HM';clear hS' HN' HD' HM';clear hb8 hc2;have hc3:=rG (d:Int) (4096:Nat);obtain⟨z3,hz3⟩:∃ z,z=dC (d:Int) (4096:Nat):=⟨_,rfl⟩;rw[←hz3] at hc3 ⊢;clear hz3;obtain⟨b3,hb3⟩:∃ b,b=decide ((d:Int)≤4096):=⟨_,rfl⟩;rw[show decide ((d:Int)≤((4096:Nat):Int))=b3 from hb3.symm] at hc3;rw[←hb3] at HR;clear hb3;refine bY (i:=18) (v:=?vvD5) rfl (by kernel_rfl) (fun _ _ _ h=>h) (by rfl) hS ?hyD5 ?restD5
   case hyD5 =>
    intro wy hy;have q0:=aa hy.1 0;have q1:=aa hy.1 1;have q2:=aa hy.1 2;have q3:=aa hy.1 3;have e0:=aa hy.2 0;have e1:=aa hy.2 1;clear hy;go_simp;try with_reducible rfl
   try simp only[Act.put,E9,E8,E7,E6,Fa,E_]
   refine ai (i:=19) (v:=?vv16) rfl (by kernel_rfl) (fun _ _ _ h=>h) rfl ?hy16 ?rest16;case hy16=>(intro wy;go_simp;try with_reducible rfl)
   try simp only[Act.put,E9,E8,E7,E6,Fa,E_]
   refine ai (i:=20) (v:=?vv17) rfl (by kernel_rfl) (fun _ _ _ h=>h) rfl ?hy17 ?rest17;case hy17=>(intro wy;go_simp;try with_reducible rfl)
   try simp only[Act.put,E9,E8,E7,E6,Fa,E_]
   try simp only[Act.put,E9,E8,E7,E6,Fa,E_]
   refine aG (by kernel_rfl) ?_ _;simp only[aN];go_wp2_with fail
   go_ret;refine⟨?_,HB⟩;rw[←HR.out];rfl
theorem uI (s:ByteArray) (w:World) :
  Calls Tryz.prog 131 #[.string s] w fun e w'=>e=.returned (.bool (j3 s.data.toList))∧Below w.heap.size w w':=by
 go_enter Tryz.func131,Tryz.ntmps131;go_wp2_with fail
 refine (qH s w).mono ?_;rintro e w2 ⟨v2,rfl,hz2,hb2⟩;obtain⟨p0,k0,d0,p1,k1,d1,p2,k2,d2,p3,k3,d3,rfl,_,_⟩:=hz2.parts;generalize (aQ s.data.toList).x.minus=m0 at *
 generalize (aQ s.data.toList).y.minus=m1 at *
 have HR:Hid (j3 s.data.toList=(rOK s.data.toList&&decide ((aQ s.data.toList).y.n=0))):=rfl;generalize rOK s.data.toList=ok at HR ⊢;have hl2:=aT w2 (.cells #[.bool m0,.slice p0 k0 d0,.bool false,.slice p1 k1 d1,.bool m1,.slice p2 k2 d2,.bool false,.slice p3 k3 d3] 83);have hb3:=hb2.trans (hl2.below.mono hb2.size);have HC:=E5 (hz2.below hl2.below);have r0:=hl2.s0;clear hl2 hb2 hz2;go_upto_region 2 with fail
 generalize w2.alloc (.cells #[.bool m0,.slice p0 k0 d0,.bool false,.slice p1 k1 d1,.bool m1,.slice p2 k2 d2,.bool false,.slice p3 k3 d3] 83)=w3 at *
 cases ok
 ·go_wp2_with fail
  go_ret;exact⟨by rw[HR.out];rfl,hb3⟩
 ·have q0:=aa r0 0;have q1:=aa r0 1;have q2:=aa r0 2;have q3:=aa r0 3;have q4:=aa r0 4;have q5:=aa r0 5;have q6:=aa r0 6;have q7:=aa r0 7;go_wp2_with fail
  refine (xH _ (aQ s.data.toList) w3 HC.out).mono ?_;rintro e w4 ⟨rfl,hb4⟩;have HEND:=hb3.trans (hb4.mono hb3.size);go_wp2_with fail
  go_ret;exact⟨by rw[HR.out];rfl,HEND⟩
theorem IsC.two {w:World}{m m':Bool}{p0 p1 p2 p3:Option Addr}{n0 c0 n1 c1 n2 c2 n3 c3:Nat}{z:Vl} (h:IsC w (.agg #[.bool m,.slice p0 n0 c0,.bool false,.slice p1 n1 c1,.bool m',.slice p2 n2 c2,.bool false,.slice p3 n3 c3]) z) :
  dq w (.agg #[.bool m,.slice p0 n0 c0,.bool false,.slice p1 n1 c1]) z.x∧dq w (.agg #[.bool m',.slice p2 n2 c2,.bool false,.slice p3 n3 c3]) z.y:=by
 obtain⟨a,b,c,d,e,h1,h2,h3,h4⟩:=h;simp only[Value.agg.injEq,Array.mk.injEq,List.cons.injEq,and_true,true_and] at e;obtain⟨rfl',rfl,rfl,rfl'',rfl,rfl⟩:=e;exact⟨⟨_,_,by rw[rfl'],h1,h2⟩,⟨_,_,by rw[rfl''],h3,h4⟩⟩
theorem yT (s:ByteArray) (w:World) :
  Calls Tryz.prog 62 #[.string s] w fun e w'=>e=.returned (.bool (rOK s.data.toList&&dZ (aQ s.data.toList).x&&dZ (aQ s.data.toList).y))∧Below w.heap.size w w':=by
 have HCX:=E5 (gU s.data.toList).1.sign;have HCY:=E5 (gU s.data.toList).2.sign;have HFX:=E5 (gY s.data.toList).1;have HFY:=E5 (gY s.data.toList).2;go_enter Tryz.func62,Tryz.ntmps62;go_wp2_with fail
 refine (qH s w).mono ?_;rintro e w2 ⟨v2,rfl,hz2,hb2⟩;obtain⟨p0,k0,d0,p1,k1,d1,p2,k2,d2,p3,k3,d3,rfl,_,_⟩:=hz2.parts;generalize (aQ s.data.toList).x.minus=m0 at hz2 ⊢;generalize (aQ s.data.toList).y.minus=m1 at hz2 ⊢;obtain⟨ok,hok⟩:∃ b,b=rOK s.data.toList:=⟨_,rfl⟩;obtain⟨b0,hb0⟩:∃ b,b=dZ (aQ s.data.toList).x:=⟨_,rfl⟩;obtain⟨b1,hb1⟩:∃ b,b=dZ (aQ s.data.toList).y:=⟨_,rfl⟩;rw[←hok];have HR:Hid ((rOK s.data.toList&&dZ (aQ s.data.toList).x&&dZ (aQ s.data.toList).y)=((ok&&b0)&&b1)):=by unfold Hid;rw[hok,hb0,hb1]
 have B0:=E5 hb0;have B1:=E5 hb1;clear hok hb0 hb1;have hl2:=aT w2 (.cells #[.bool m0,.slice p0 k0 d0,.bool false,.slice p1 k1 d1,.bool m1,.slice p2 k2 d2,.bool false,.slice p3 k3 d3] 83);have hb3:=hb2.trans (hl2.below.mono hb2.size);have HC:=E5 (hz2.below hl2.below);have r0:=hl2.s0;clear hl2 hb2 hz2;go_upto_region 2 with fail
 generalize w2.alloc (.cells #[.bool m0,.slice p0 k0 d0,.bool false,.slice p1 k1 d1,.bool m1,.slice p2 k2 d2,.bool false,.slice p3 k3 d3] 83)=w3 at *
 cases ok
 ·go_wp2_with fail
  go_ret;exact⟨by rw[HR.out];rfl,hb3⟩
 ·have q0:=aa r0 0;have q1:=aa r0 1;have q2:=aa r0 2;have q3:=aa r0 3;go_wp2_with fail
  refine (n_ _ (aQ s.data.toList).x w3 HC.out.two.1 HCX.out HFX.out.1 HFX.out.2).mono ?_;rintro e w4 ⟨rfl,hb4⟩;have HB4:=hb3.trans (hb4.mono hb3.size);have r1:=(hb4.block _ (ag r0)).trans r0;have HC4:=E5 (HC.out.below hb4);rw[←B0.out];clear q0 q1 q2 q3 HC r0 hb4
  cases b0
  ·go_wp2_with fail
   go_ret;exact⟨by rw[HR.out];rfl,HB4⟩
  ·have q4:=aa r1 4;have q5:=aa r1 5;have q6:=aa r1 6;have q7:=aa r1 7;go_wp2_with fail
   refine (n_ _ (aQ s.data.toList).y w4 HC4.out.two.2 HCY.out HFY.out.1 HFY.out.2).mono ?_;rintro e w5 ⟨rfl,hb5⟩;have HEND:=HB4.trans (hb5.mono HB4.size);rw[←B1.out];go_wp2_with fail
   go_ret;exact⟨by rw[HR.out];rfl,HEND⟩
theorem rZ (s:ByteArray) (w:World) :
  Calls Tryz.prog 73 #[.string s] w fun e w'=>e=.returned (.bool (bu s.data.toList))∧Below w.heap.size w w':=by
 rw[←Cp];have HR:Hid (zS s.data.toList=(j3 s.data.toList&&(rOK s.data.toList&&dZ (aQ s.data.toList).x&&dZ (aQ s.data.toList).y))):=rfl;go_enter Tryz.func73,Tryz.ntmps73;go_wp2_with fail
 refine (uI s w).mono ?_;rintro e w2 ⟨rfl,hb2⟩;generalize j3 s.data.toList=b0 at HR ⊢
 cases b0
 ·go_wp2_with fail
  go_ret;exact⟨by rw[HR.out];rfl,hb2⟩
 ·go_wp2_with fail
  refine (yT s w2).mono ?_;rintro e w3 ⟨rfl,hb3⟩;have HEND:=hb2.trans (hb3.mono hb2.size);go_wp2_with fail
  go_ret;exact⟨by rw[HR.out];rfl,HEND⟩
theorem Ei (v:Value) (q:Rat) (w:World) (hv:IsC w v (ct (CQ.real q))) (hq:okQ q) :
  Calls Tryz.prog 69 #[v] w fun e w'=>e=.returned (.tuple #[.string (tq q),.int .i64 0])∧Below w.heap.size w w':=by
 obtain⟨h1,h2⟩:=Ee hq;have F0:=E5 (show bf (ct (CQ.real q)).x.n from cf h1 (by decide));have F1:=E5 (show bf (ct (CQ.real q)).x.d from cf h2 (by decide));have F2:=E5 (show bf (ct (CQ.real q)).y.n from cf (k:=1) (show (rt (0:Rat)).n<10 ^ 1 by rw[dK];decide) (by decide));have F3:=E5 (show bf (ct (CQ.real q)).y.d from cf (k:=1) (show (rt (0:Rat)).d<10 ^ 1 by rw[dK];decide) (by decide));have HBG:=E5 (show (cL (ct (CQ.real q)).x||cL (ct (CQ.real q)).y)=false from hq);obtain⟨z,hz⟩:∃ z,z=ct (CQ.real q):=⟨_,rfl⟩;have HT:=E5 (show (⟨(bL z).toArray⟩:ByteArray)=tq q by rw[hz];rfl);have hdx:0<z.x.d:=by rw[hz];exact dJ _
 have hdy:0<z.y.d:=by rw[hz];exact dJ _
 rw[←hz] at hv F0 F1 F2 F3 HBG;clear hz h1 h2;obtain⟨p0,n0,c0,p1,n1,c1,p2,n2,c2,p3,n3,c3,rfl,_,_⟩:=hv.parts;have hl:=aT w (.cells #[.bool z.x.minus,.slice p0 n0 c0,.bool false,.slice p1 n1 c1,.bool z.y.minus,.slice p2 n2 c2,.bool false,.slice p3 n3 c3] 83);have HC:=E5 (hv.below hl.below);have r0:=hl.s0;have M1:=E5 hl.below;have q0:=aa r0 0;have q1:=aa r0 1;have q2:=aa r0 2;have q3:=aa r0 3;have q4:=aa r0 4;have q5:=aa r0 5;have q6:=aa r0 6;have q7:=aa r0 7;clear hl hv;generalize z.x.minus=mx at *
 generalize z.y.minus=my at *
 go_enter Tryz.func69,Tryz.ntmps69;go_upto_region 1 with fail
 generalize w.alloc (.cells #[.bool mx,.slice p0 n0 c0,.bool false,.slice p1 n1 c1,.bool my,.slice p2 n2 c2,.bool false,.slice p3 n3 c3] 83)=w1 at *
 go_wp2_with fail
 refine (mt _ z w1 HC.out F0.out F1.out F2.out F3.out).mono ?_;rintro e w2 ⟨rfl,hb⟩;rw[HBG.out];have r0:=(hb.block _ (ag r0)).trans r0;have HC:=E5 (HC.out.below hb);have M1:=E5 (M1.out.trans (hb.mono M1.out.size));clear hb q0 q1 q2 q3 q4 q5 q6 q7;have q0:=aa r0 0;have q1:=aa r0 1;have q2:=aa r0 2;have q3:=aa r0 3;have q4:=aa r0 4;have q5:=aa r0 5;have q6:=aa r0 6;have q7:=aa r0 7;go_wp2_with fail
 refine (k9 _ z w2 HC.out hdx hdy F0.out F1.out F2.out F3.out).mono ?_;rintro e w3 ⟨rfl,hb⟩;have M2:=E5 (M1.out.trans (hb.mono M1.out.size));rw[HT.out];clear hb q0 q1 q2 q3 q4 q5 q6 q7 r0;go_wp2_with fail
 refine bodyPost_ret (v:=.tuple #[.string (tq q),.int .i64 0]) (by simp[results,Tryz.results69,go_sem]) rfl ⟨rfl,M2.out⟩
theorem CY (v:Value) (q:Rat) (w:World) (hv:cV w v q) (hq:okQ q) :
  Calls Tryz.prog 96 #[v] w fun e w'=>e=.returned (.string (tq q))∧Below w.heap.size w w':=by
 obtain⟨m,p,N,c,p',N',c',rfl⟩:=hv.forms;have hl:=aT w (.cells #[.bool m,.slice p N c,.bool false,.slice p' N' c'] 78);have HV:=E5 (hv.below hl.below);have r0:=hl.s0;have M1:=E5 hl.below;have q0:=aa r0 0;have q1:=aa r0 1;have q2:=aa r0 2;have q3:=aa r0 3;clear hl hv;go_enter Tryz.func96,Tryz.ntmps96;go_upto_region 1 with fail
 generalize w.alloc (.cells #[.bool m,.slice p N c,.bool false,.slice p' N' c'] 78)=w1 at *
 go_wp2_with fail
 refine (tu _ (rt q) w1 HV.out).mono ?_;rintro e w2 ⟨v2,rfl,hv2,hb⟩;have M2:=E5 (M1.out.trans (hb.mono M1.out.size));clear hb q0 q1 q2 q3
 have hv2:IsC w2 v2 (ct (CQ.real q)):=by
  have e:(⟨rt q,⟨false,0,1⟩⟩:Vl)=ct (CQ.real q):=by
   show _=(⟨rt q,rt 0⟩:Vl)
   rw[dK]
  rw[←e];exact hv2
 go_wp2_with fail
 refine (Ei v2 q w2 hv2 hq).mono ?_;rintro e w3 ⟨rfl,hb⟩;go_wp2_with fail
 refine bodyPost_ret (v:=.string (tq q)) (by simp[results,Tryz.results96,go_sem]) rfl ⟨rfl,M2.out.trans (hb.mono M2.out.size)⟩
theorem CT {q:Rat} (h:okQ q):aQ (tq q).data.toList=ct (CQ.real q):=by
 have e:(tq q).data.toList=aK (rt q):=by
  show bL (ct (CQ.real q))=_
  rw[dD (z:=ct (CQ.real q)) (by show (rt 0).n=0;rw[dK])];rfl
 rw[e,ko (ky q) ((kO q).1 h)]
 show (⟨rt q,eS⟩:Vl)=⟨rt q,rt 0⟩
 rw[dK];rfl
theorem wQ (q:Rat) (w:World) (hq:okQ q) :
  Calls Tryz.prog 76 #[.string (tq q)] w fun e w'=>∃ v,e=.returned v∧cV w' v q∧Below w.heap.size w w':=by
 have HR:=E5 (CT hq);obtain⟨s,hs⟩:∃ s,s=tq q:=⟨_,rfl⟩;rw[←hs] at HR ⊢;clear hs;have hl:=aT w (.cells #[.bool false,.slice none 0 0,.bool false,.slice none 0 0] 78);have s0:=hl.s0;have M1:=E5 hl.below;clear hl;go_enter Tryz.func76,Tryz.ntmps76;go_upto_region 1 with fail
 generalize w.alloc (.cells #[.bool false,.slice none 0 0,.bool false,.slice none 0 0] 78)=w1 at *
 go_wp2_with fail
 refine (qH s w1).mono ?_;rintro e w2 ⟨v2,rfl,hv2,hb⟩;rw[HR.out] at hv2;obtain⟨p0,n0,c0,p1,n1,c1,p2,n2,c2,p3,n3,c3,rfl,_,_⟩:=hv2.parts;obtain⟨D0,D1,-,-⟩:=hv2.dig;have HQ:=E5 (show cV w2 (.agg #[.bool (ct (CQ.real q)).x.minus,.slice p0 n0 c0,.bool false,.slice p1 n1 c1]) q from⟨_,_,rfl,D0,D1⟩);have s0:=(hb.block _ (ag s0)).trans s0;have M1:=E5 (M1.out.trans (hb.mono M1.out.size));generalize (ct (CQ.real q)).x.minus=mx at *
 generalize (ct (CQ.real q)).y.minus=my at *
 clear hv2 D0 D1 hb HR;go_upto_region 2 with fail
 have hl2:=aT w2 (.cells #[.bool mx,.slice p0 n0 c0,.bool false,.slice p1 n1 c1,.bool my,.slice p2 n2 c2,.bool false,.slice p3 n3 c3] 83);generalize w2.alloc (.cells #[.bool mx,.slice p0 n0 c0,.bool false,.slice p1 n1 c1,.bool my,.slice p2 n2 c2,.bool false,.slice p3 n3 c3] 83)=w3 at *
 have e0:=aa hl2.s0 0;have e1:=aa hl2.s0 1;have e2:=aa hl2.s0 2;have e3:=aa hl2.s0 3;have u2:=(hl2.below.block _ (ag s0)).trans s0;have hP:=aY (u0:=.bool mx) (u1:=.slice p0 n0 c0) (u2:=.bool false) (u3:=.slice p1 n1 c1) u2;have hZ:=E5 (dq.puts (HQ.out.below hl2.below) hP u2 bF);have hBF:=E5 ((M1.out.trans (hl2.below.mono M1.out.size)).trans (hP.below w.heap.size (Fb _)));have q0:=aa u2 0;have q1:=aa u2 1;have q2:=aa u2 2;have q3:=aa u2 3;have f0:=frozen_of_row w3 w.heap.size 0 _ _ u2;have f1:=frozen_of_row w3 w.heap.size 1 _ _ u2;have f2:=frozen_of_row w3 w.heap.size 2 _ _ u2;have f3:=frozen_of_row w3 w.heap.size 3 _ _ u2;clear hl2 s0;go_wp2_with fail
 (try simp only[Exit.inBlock,Exit.then])
 change bodyPost _ _ _ _ _ (dX w3 w.heap.size (.bool mx) (.slice p0 n0 c0) (.bool false) (.slice p1 n1 c1));refine bodyPost_ret (results_cell_row rfl _ _ w.heap.size _ _ (0,0) _ rfl hP.row Tryz.underlying78 rfl (by kernel_rfl)) rfl ?_;exact⟨_,rfl,hZ.out,hBF.out⟩
theorem C_:Sz 1 (rt (1:Rat)):=⟨by decide +kernel,by decide +kernel,by decide +kernel⟩
end Go.Proofs.YtbnkpcfjechfiaaGreatDoor
