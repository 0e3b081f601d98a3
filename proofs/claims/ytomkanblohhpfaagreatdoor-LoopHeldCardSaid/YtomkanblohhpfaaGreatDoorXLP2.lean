/- Lemmas of this claim. -/
import Derived.Deep.Slices
import Derived.OpenShut
import Derived.Test.YtomkanblohhpfaaGreatDoorRows
import Derived.ProofKit
import Derived.LaidMore
import Derived.HandedShaped
import Derived.Shelf.Vars
import Derived.Lay
import Derived.Stop.Joined
import Derived.Test.YtomkanblohhpfaaGreatDoorXCoef
import Derived.Test.YtomkanblohhpfaaGreatDoorXNC7
import Derived.Test.YtomkanblohhpfaaGreatDoorXNC8
set_option linter.all false
set_option maxRecDepth 100000
set_option maxHeartbeats 8000000
namespace Go.Proofs.YtomkanblohhpfaaGreatDoor
open Go.RowKit Dg
theorem je (v:Value) (l:List ByteArray) (w:World) (hl:IsS w v l) (hpos:0<l.length) (hlen:l.length<1000000) (hG:Gw w) :
  Calls Tryz.prog 41 #[v] w fun e w'=>e=.returned (.bool (a_ l).isSome)∧Below w.heap.size w w':=by
 have HP:=yX (u7 v l w hl hpos hlen hG)
 obtain⟨p,c,rfl,-⟩:=hl.form
 go_enter Tryz.func41,Tryz.ntmps41
 go_wp2_with fail
 refine HP.out.mono ?_
 rintro e w1 ⟨v1,ok,rfl,hcase,hb1⟩
 rcases hcase with ⟨pf,hq,rfl,hp,-⟩ | ⟨hq,rfl,rfl⟩
 ·have HQ:=yX hq
  obtain⟨p1,c1,rfl,-⟩:=hp.form
  clear hq hp
  go_wp2
  go_ret
  exact⟨by rw[HQ.out];rfl,hb1⟩
 ·have HQ:=yX hq
  clear hq
  go_wp2
  go_ret
  exact⟨by rw[HQ.out];rfl,hb1⟩
structure IsF (w:World) (v:Value) (a b:List ByteArray):Prop where
 ex:∃ p c q d,v=.agg #[.slice p a.length c,.slice q b.length d]∧IsS w (.slice p a.length c) a∧IsS w (.slice q b.length d) b
theorem IsF.below {w w':World}{v:Value}{a b:List ByteArray} (h:IsF w v a b) (hb:Below w.heap.size w w'):IsF w' v a b:=by
 obtain⟨p,c,q,d,e,h1,h2⟩:=h.ex
 exact⟨p,c,q,d,e,h1.below hb,h2.below hb⟩
theorem IsS.words {w:World}{p:Option Addr}{n c:Nat}{l:List ByteArray} (h:IsS w (.slice p n c) l):dT w p l:=by
 refine⟨fun hl=>?_⟩
 obtain⟨b,o,rfl,hlt,-⟩:=h.get hl
 refine⟨b,o,rfl,hlt,fun i hi=>?_⟩
 obtain⟨b',o',e,-,hc⟩:=h.get hi
 obtain⟨rfl,rfl⟩:b=b'∧o=o':=by simpa using e
 exact hc
def ax (a b:List ByteArray):Int:=if au a b=true then 0 else 30
theorem dB (v:Value) (a b:List ByteArray) (w:World) (h:IsF w v a b) (hG:Gx w) :
  Calls Tryz.prog 37 #[v] w fun e w'=>e=.returned (.int .i64 (ax a b))∧Below w.heap.size w w':=by
 obtain⟨p,c,q,d,rfl,h1,h2⟩:=h.ex
 refine (xZ p q c d a b w h1.words h2.words hG).mono ?_
 rintro e w' ⟨n,rfl,hn,hb⟩
 refine⟨?_,hb⟩
 rcases hn with ⟨rfl,hc⟩ | ⟨rfl,hc⟩
 ·unfold ax;rw[hc.out];rfl
 ·unfold ax;rw[hc.out];rfl
theorem aC {a b:List ByteArray} (h:au a b=true):1≤b.length∧b.length≤7∧1≤a.length∧a.length≤7∧(∀ s∈a,bm s.data.toList=true)∧(∀ s∈b,bm s.data.toList=true)∧qS b=some [49]:=by
 unfold au eS at h
 simp only[zt,decide_eq_true_eq,zF] at h
 exact⟨h.1.2.1.1,h.1.2.1.2,h.1.1.1.1,h.1.1.1.2,h.1.1.2,h.1.2.2,h.2⟩
theorem am (w:World) (x y:Value):(w.alloc (.cells #[x,y] 24)).cell? ⟨w.heap.size,0,none⟩=some x∧(w.alloc (.cells #[x,y] 24)).cell? ⟨w.heap.size,1,none⟩=some y :=
 ⟨ar w _ _ 0 _ rfl,ar w _ _ 1 _ rfl⟩
def jC (r:ByteArray):Nat→ByteArray
 | 0=>⟨#[49]⟩
 | i+1=>cj (jC r i) r
def bU (out:List ByteArray) (r:ByteArray):List ByteArray:=(List.range out.length).map fun i=>aY (aq out i) (jC r i)
theorem nl (out:List ByteArray) (r:ByteArray) {i:Nat} (h:i<out.length):(bU out r).take (i+1)=(bU out r).take i++[aY (aq out i) (jC r i)]:=by
 have hl:i<(bU out r).length:=by simp[bU,h]
 rw[show (bU out r).take (i+1)=(bU out r).take i++[(bU out r)[i]] from (zi hl).symm]
 simp[bU]
def dz (out:List ByteArray) (r:ByteArray):Bool:=(a_ (bU out r)).isSome
theorem xu (v:Value) (l:List ByteArray) (r:ByteArray) (w:World) (hl:IsS w v l) (hpos:0<l.length) (hlen:l.length<1000000) (hG:Gw w) :
  Calls Tryz.prog 42 #[v,.string r] w fun e w'=>e=.returned (.bool (dz l r))∧Below w.heap.size w w':=by
 obtain⟨p,c,rfl,-⟩:=id hl.form
 have HL:=yX hl
 have HG:=yX hG
 clear hl hG
 go_enter Tryz.func42,Tryz.ntmps42
 go_wp2
 go_loopw [5,6,11] (fun s5 s6 s11 wr=>∃ i:Nat,s5=.string (jC r i)∧s11=.int .i64 i∧i≤l.length∧bj wr w.heap.size s6 ((bU l r).take i)∧Below w.heap.size w wr) (fun _ _ s11 _=>l.length-(intOf s11).toNat)
 case atStart=>exact⟨0,rfl,rfl,zj _,bj.nil _ _,Below.refl _ _⟩
 case round =>
  obtain⟨i,rfl,rfl,hin,hown,hbr⟩:=hrel
  by_cases hi:i<l.length
  ·obtain⟨b,o,rfl,hbl,hcell⟩:=(HL.out.below hbr).get hi
   rw[eo] at hcell
   have HT:=yX (nl l r hi)
   go_wp2_with fail
   refine (em _ _ wr (HG.out.below hbr)).mono ?_
   rintro e w1 ⟨rfl,hb1⟩
   have hB1:=hbr.trans (hb1.mono hbr.size)
   have hw1:=hown.below hb1
   have hbs:=hB1.size
   have hzl:((bU l r).take i).length<1000000000:=by simp;omega
   clear hb1 hbr hown hcell
   go_wp2_with (at_builtin;refine aR 22 Tryz.underlying22 rfl (.tmp 15) (.tmp 19) rfl w.heap.size _ _ _ rfl hw1 rfl hzl hbs ?_)
   intro v' w2 hw2 hb2
   have hB2:=hb2 _ _ hB1 (y9 _)
   rw[←HT.out] at hw2
   clear hw1 hb2 hB1
   go_wp2_with fail
   refine (dq _ _ w2 (HG.out.below hB2)).mono ?_
   rintro e w3 ⟨rfl,hb3⟩
   have hB3:=hB2.trans (hb3.mono hB2.size)
   have hw3:=hw2.below hb3
   clear hb3 hB2 hw2
   go_wp2
   go_roundw
   case rel=>exact⟨i+1,rfl,by go_num,by omega,hw3,hB3⟩
   case measure=>(first | (simp[intOf];done) | (simp[intOf];omega))
  ·have hin':i=l.length:=by omega
   subst hin'
   have hlw:(bU l r).length=l.length:=by simp[bU]
   rw[←hlw,zD] at hown
   have hs:=hown.isS
   have HS:=yX (je _ _ wr hs (by omega) (by omega) (HG.out.below hbr))
   obtain⟨q,d,rfl,-⟩:=hs.form
   clear hown hs hi hlw
   go_wp2_with fail
   refine HS.out.mono ?_
   rintro e w1 ⟨rfl,hb1⟩
   go_wp2
   go_ret
   exact⟨rfl,hbr.trans (hb1.mono hbr.size)⟩
open Go.RowKit Dc Dg
open Go.ChangeShapes Go.WideShapes
set_option maxRecDepth 100000
theorem laidAll:laidOutB Tryz.prog=true:=by kernel_rfl
theorem und3:Tryz.prog.underlying 3=some (.int .i64):=by kernel_rfl
theorem qq:Tryz.prog.underlying 31=some .string:=by kernel_rfl
theorem rI:Tryz.prog.underlying 22=some (.slice 31):=by kernel_rfl
theorem vy {w:World}{b:Nat}{o:Obj} (h:w.heap[b]?=some o):b<w.heap.size:=(zf.1 h).1
theorem qY {α:Type}:∀ (n:Nat) (p:Nat→α→Prop),(∀ i,i<n→∃ x,p i x)→∃ l:List α,l.length=n∧∀ i (h:i<l.length),p i l[i]
 | 0,_,_=>⟨[],rfl,fun i h=>by simp at h⟩
 | n+1,p,h=>by
  obtain⟨l,hl,hp⟩:=qY n p (fun i hi=>h i (by omega))
  obtain⟨x,hx⟩:=h n (by omega)
  refine⟨l++[x],by simp[hl],fun i hi=>?_⟩
  by_cases hin:i<l.length
  ·rw[zM hin];exact hp i hin
  ·have hie:i=n:=by simp at hi;omega
   subst hie
   rw[zI (by omega)]
   simp only[hl,A8,yZ]
   exact hx
section
variable {H : Type} {enc : TypeId × Value → H} {w : World} {sp : Nat → Bool} {held : Bool}
def kp (t:TypeId) (d:DataW H):Prop:=∀ n∈d.weights Tryz.prog t,n≤140737488351232
theorem gW {e:TypeId}:∀ {l:List (DataW H)}{d:DataW H},d∈l→∀ n∈d.weights Tryz.prog e,n∈DataW.weightsAll Tryz.prog e l
 | [],_,h,_,_=>by cases h
 | x :: l,d,h,n,hn=>by
  unfold DataW.weightsAll
  rcases zW.1 h with rfl | h
  ·exact List.mem_append_left _ hn
  ·exact List.mem_append_right _ (gW h n hn)
theorem vH {t e:TypeId}{k fuel:Nat}{cs:List Value}{x:DataW H×List MemPlace} (ht:Tryz.prog.underlying t=some (.slice e)) (hk:Tryz.prog.cellsOf e=k) (hk0:0<k) (hby:1≤Tryz.prog.bytesOf e) (h:DataW.trod enc Tryz.prog w 0 sp held fuel t cs=some x) (hf:kp t x.1) :
  ∃ (p:Option Addr) (len cap:Nat),cs=[.slice p len cap]∧len≤cap∧cap≤maxLen∧len≤140737488351232∧(0<len→∃ b o,p=some ⟨b,o,none⟩∧b<w.heap.size∧∀ i,i<len→∃ (ecs:List Value) (n:Nat) (y:DataW H×List MemPlace),ecs.length=k∧(∀ j,j<k→w.cell? ⟨b,o+i*k+j,none⟩=ecs[j]?)∧DataW.trod enc Tryz.prog w 0 sp held n e ecs=some y∧kp e y.1):=by
 rcases Go.Deep.open_slice ht h with ⟨rfl,_⟩ | ⟨a,len,cap,m,n,D,Pl,rfl,_,hl,hm,hmm,hxe,hx⟩
 ·exact⟨none,0,0,rfl,y9 _,zj _,zj _,fun h=>absurd h (Nat.lt_irrefl 0)⟩
 ·have hlm:len≤m:=by rw[hmm];split<;>omega
  have hfe:∀ i,i<len→kp e (D i):=fun i hi n hn=>hf n (by
   rw[hxe]
   show n∈DataW.weights Tryz.prog t (.slice _ _)
   unfold DataW.weights
   rw[ht]
   exact zv _ (List.mem_append_left _ (gW (List.mem_map.2 ⟨i,Av.2 hi,rfl⟩) n hn)))
  have hlr:len≤140737488351232:=by
   have h1:=hf ((((List.range len).map D).length+((List.range (m-len)).map fun j=>D (len+j)).length)*Tryz.prog.bytesOf e) (by
    rw[hxe]
    show _∈DataW.weights Tryz.prog t (.slice _ _)
    unfold DataW.weights
    rw[ht]
    exact zB ..)
   simp only[zA,List.length_range] at h1
   have h2:len*1≤(len+(m-len))*Tryz.prog.bytesOf e:=zw (by omega) hby
   omega
  refine⟨some a,len,cap,rfl,hl,hm,hlr,fun h0=>?_⟩
  rw[hk] at hx
  have cellAt:∀ i,i<len→∃ (ecs:List Value),ecs.length=k∧(∀ j,j<k→w.cell? ((a.add (i*k)).add j)=ecs[j]?)∧∃ y,DataW.trod enc Tryz.prog w 0 sp held n e ecs=some y∧kp e y.1:=fun i hi=>by
   obtain⟨ecs,h1,h2⟩:=hx i (by omega)
   obtain⟨_,hlen,hc⟩:=World.cells?_some h1
   exact⟨ecs,hlen,fun j hj=>hc j hj,_,h2,hfe i hi⟩
  obtain⟨ecs,hlen,hc,_⟩:=cellAt 0 h0
  have h00:=hc 0 hk0
  rw[Ao] at h00
  have hsp:a.spot=none∧a.block<w.heap.size:=by
   have e0:(a.add 0).add 0=a:=by simp[Addr.add]
   rw[e0,zm (by omega)] at h00
   unfold World.cell? at h00
   split at h00
   ·rename_i c _ _ hb
    split at h00
    ·cases h00
    ·rename_i hs
     exact⟨by simpa using hs,vy hb⟩
   ·cases h00
  obtain⟨hs,hb⟩:=hsp
  obtain⟨b,o,s⟩:=a
  simp only at hs hb
  subst hs
  refine⟨b,o,rfl,hb,fun i hi=>?_⟩
  obtain⟨ecs,hlen,hc,y,hy⟩:=cellAt i hi
  refine⟨ecs,n,y,hlen,fun j hj=>?_,hy⟩
  have ea:((⟨b,o,none⟩:Addr).add (i*k)).add j=⟨b,o+i*k+j,none⟩:=by
   rw[Go.Deep.add_add]
   unfold Addr.add
   split
   ·rename_i hz
    rw[AC,hz,zU]
   ·rw[AC]
  rw[←hc j hj,ea]
theorem sY {t:TypeId}{fuel:Nat}{cs:List Value}{x:DataW H×List MemPlace} (ht:Tryz.prog.underlying t=some .string) (h:DataW.trod enc Tryz.prog w 0 sp held fuel t cs=some x) (hf:kp t x.1):∃ s:ByteArray,cs=[.string s]∧s.size≤140737488351232:=by
 obtain⟨s,e,hx,hs⟩:=DataW.trod_string ht h
 refine⟨s,e,?_⟩
 have:=hf s.data.toList.length (by rw[hx];unfold DataW.weights;exact zB ..)
 simpa using this
theorem nQ {t:TypeId}{fs:Array Field}{fuel:Nat}{cs:List Value}{x:DataW H×List MemPlace} (ht:Tryz.prog.underlying t=some (.struct fs)) (h:DataW.trod enc Tryz.prog w 0 sp held fuel t cs=some x) (hw:kp t x.1) {i:Nat}{f:Field} (hf:fs[i]?=some f) :
  ∃ n y,DataW.trod enc Tryz.prog w 0 sp held n f.type ((cs.drop f.offset).take (Tryz.prog.cellsOf f.type))=some y∧kp f.type y.1:=by
 obtain⟨xs,n,_,hxe,_,hl,hx⟩:=DataW.trod_struct ht h
 have h1:=hx i f hf
 have hi:i<xs.length:=by rw[hl];exact (zf.1 hf).1
 rw[zm hi] at h1
 refine⟨n,_,h1,fun m hm=>hw m ?_⟩
 rw[hxe]
 show m∈DataW.weights Tryz.prog t (.agg _)
 unfold DataW.weights
 rw[ht]
 exact DataW.weights_mem_each (j:=i) (by simp only[By,AU,hf,Bk]) (by simp only[By,zm hi,Bk]) m hm
theorem xz {cs:List Value}{o k:Nat}{v:Value} (h:(cs.drop o).take k=[v]):cs[o]?=some v:=by
 have h1:=congrArg (·[0]?) h
 simp only[Bp,AO,A_,zU] at h1
 split at h1
 ·exact h1
 ·cases h1
theorem lj {t:TypeId}{fuel:Nat}{cs:List Value}{x:DataW H×List MemPlace} (ht:Tryz.prog.underlying t=some (.slice 31)) (h:DataW.trod enc Tryz.prog w 0 sp held fuel t cs=some x) (hf:kp t x.1) :
  ∃ (p:Option Addr) (cap:Nat) (l:List ByteArray),cs=[.slice p l.length cap]∧IsS w (.slice p l.length cap) l:=by
 obtain⟨p,len,cap,rfl,hl,hm,hr,hx⟩:=vH ht (by kernel_rfl:Tryz.prog.cellsOf 31=1) (by decide) (of_decide_eq_true (by kernel_rfl)) h hf
 by_cases h0:0<len
 ·obtain⟨b,o,rfl,hb,hx⟩:=hx h0
  obtain⟨l,rfl,hp⟩:=qY len (fun i (s:ByteArray)=>w.cell? ⟨b,o+i,none⟩=some (.string s)) (fun i hi=>by
   obtain⟨ecs,n,y,h1,h2,h3,h4⟩:=hx i hi
   obtain⟨s,rfl,-⟩:=sY qq h3 h4
   exact⟨s,by have:=h2 0 (by omega);rw[Aw,zU] at this;exact this⟩)
  refine⟨_,cap,l,rfl,⟨_,cap,by rw[zA],by rw[zA];exact hl,hm,fun _=>⟨b,o,rfl,hb,fun i hi j u hu=>?_⟩⟩⟩
  have hi':i<l.length:=by simpa using hi
  rw[Af] at hu
  have hj:j=0:=by
   rcases j with _ | j
   ·rfl
   ·simp[cellsOf] at hu
  subst hj
  have hu':Value.string l[i]=u:=by simpa[cellsOf] using hu
  rw[←hu',Aw,zU]
  exact hp i hi'
 ·obtain rfl:len=0:=by omega
  exact⟨p,cap,[],rfl,⟨p,cap,rfl,zj _,hm,fun h=>absurd h (Nat.lt_irrefl 0)⟩⟩
theorem g_ {v:Value}{d:DataW H}{pl:List MemPlace} (h:DataW.Trod enc Tryz.prog w 0 sp held 24 v d pl) (hf:kp 24 d) (hv:∃ cs,v=.agg cs):∃ a b,IsF w v a b:=by
 obtain⟨fuel,h⟩:=h
 obtain⟨n0,y0,f0,gf0⟩:=nQ Tryz.underlying24 h hf (i:=0) rfl
 obtain⟨n1,y1,f1,gf1⟩:=nQ Tryz.underlying24 h hf (i:=1) rfl
 obtain⟨xs,_,_,_,hcl,_,_⟩:=DataW.trod_struct Tryz.underlying24 h
 have hc1:Tryz.prog.cellsOf 24=2:=by kernel_rfl
 obtain⟨p1,c1,al,e1,hq1⟩:=lj rI f0 gf0
 obtain⟨p2,c2,fl,e2,hq2⟩:=lj rI f1 gf1
 have g1:=xz e1
 have g2:=xz e2
 obtain⟨cs,rfl⟩:=hv
 rw[hc1] at hcl
 have hcs:(Value.agg cs).cells.toList=[.slice p1 al.length c1,.slice p2 fl.length c2]:=by
  revert hcl g1 g2
  generalize (Value.agg cs).cells.toList=l
  intro hcl g1 g2
  match l,hcl,g1,g2 with
  | [a,b],_,g1,g2 =>
   have ha:a=.slice p1 al.length c1:=by
    have h1:[a,b][0]?=some (Value.slice p1 al.length c1):=g1
    simpa using h1
   have hb:b=.slice p2 fl.length c2:=by
    have h1:[a,b][1]?=some (Value.slice p2 fl.length c2):=g2
    simpa using h1
   rw[ha,hb]
 refine⟨al,fl,⟨p1,c1,p2,c2,?_,hq1,hq2⟩⟩
 have:cs.toList=[.slice p1 al.length c1,.slice p2 fl.length c2]:=hcs
 rw[show cs=#[.slice p1 al.length c1,.slice p2 fl.length c2] from Array.toList_inj.1 this]
end
open Go.RowKit Dc Dg
open Go.ChangeShapes Go.WideShapes Go.ChangeAt
set_option maxRecDepth 100000
theorem own:ownKnob Tryz.prog.godebug=none:=by kernel_rfl
def ix:List (String×DataW Unit):=[("math/bits.deBruijn32tab", Rows.laid_math_bits_deBruijn32tab),("math/bits.deBruijn64tab", Rows.laid_math_bits_deBruijn64tab),("internal/strconv.uint64pow10", Rows.laid_internal_strconv_uint64pow10),("unicode/utf8.acceptRanges", Rows.laid_unicode_utf8_acceptRanges),("strconv.ErrRange", Rows.laid_strconv_ErrRange),("strconv.ErrSyntax", Rows.laid_strconv_ErrSyntax),("unicode/utf8.first", Rows.laid_unicode_utf8_first)]
theorem jM {H:Type}{enc:TypeId×Value→H}{a:Assume}{C:Checked}{os:Os}{f:FuncId}{fn:Func}{s:ChangeSpec}{conds:List PathCond}{apart fresh handsOn again:Bool}{X:World→Array Value→Prop}
  (hX:∀ (w w':World) (args:Array Value),w.heap=w'.heap→X w args→X w' args)
  (own:ownKnob C.prog.godebug=none) (started:os.Started) (noInit:C.prog.inits.idxOf? f=none) (hfn:C.prog.funcs[f]?=some fn)
  (witness:∃ (w:World) (tape:Tape) (i:Input),w.os=os∧(w.forCall tape i).Shaped C.prog∧i.vars=[]∧Input.okWide C.prog (w.forCall tape i) .any w.heap.size f i ∧
   ((s.pre enc C.prog fn conds apart (w.forCall tape i).memory i.args∧X (w.forCall tape i).memory i.args)∧sizedMet enc C.prog fn (OpenSpec.ofChange s) apart (w.forCall tape i).memory i.args)∧a.holds C.prog (lone (Frame.enter C.prog f i.args .normal) [] (w.forCall tape i)))
  (contract:∀ (W:World) (base:Nat) (args:Array Value) (ds gs:List (DataW H)) (before:List MemPlace),
   (∀ (j:Nat) t v,fn.params[j]?=some t→args[j]?=some v→Value.okWide C.prog W .any base t v) →
   DataW.Whole enc C.prog fn.params.toList s.vars apart W args.toList ds gs before →
   (DataW.weightsEach C.prog (fn.params.toList++s.plain.varTypes C.prog) (ds++gs)).all (·≤reachBytes)=true→X W args→W.ShapedOpen C.prog →
   Calls C.prog f args W fun e W'=>∃ v,e=.returned v∧s.post enc C.prog fn apart fresh handsOn again W args v W') :
  ReturnsInHanded a C os f .any (fun w args=>(s.pre enc C.prog fn conds apart w args∧X w args)∧sizedMet enc C.prog fn (OpenSpec.ofChange s) apart w args) (s.post enc C.prog fn apart fresh handsOn again):=by
 refine returnsInHanded_of_calls own started noInit witness ?_
 intro w tape i _ hsh _ hok hpre hholds
 obtain⟨_,_,_,fn',hfn',_,_,_,_,hval⟩:=hok
 have e:fn'=fn:=Option.some.inj (hfn'.symm.trans hfn)
 subst e
 obtain⟨⟨⟨ds,gs,before,hw,hc⟩,hx⟩,hz⟩:=hpre
 have hw':=DataW.Whole.of_heap (w':=w.forCall tape i) (by rfl) hw
 refine (contract (w.forCall tape i) w.heap.size i.args ds gs before hval hw' (hz.weights hw) (hX _ _ _ (by rfl) hx) hsh).mono fun e W' ⟨v,he,hp⟩=>?_
 subst he
 exact ChangeSpec.post_blind hp
theorem nX {H:Type}{enc:TypeId×Value→H}{w:World}{base:Nat}{sp:Nat→Bool}{held:Bool}{fuel:Nat}{t:TypeId}{cs:List Value}{n:String}{d:DataW H}{p:List MemPlace}{ms:Array (String×TypeId)} (ht:Tryz.prog.underlying t=some (.interface ms)) (h:DataW.trod enc Tryz.prog w base sp held fuel t cs=some (.iface n d,p)):∃ u v,cs=[.iface u v]:=by
 cases fuel with
 | zero=>simp[DataW.trod] at h
 | succ fuel =>
  unfold DataW.trod at h
  rw[ht] at h
  split at h<;>first | (cases h;done) | skip
  all_goals first | exact⟨_,_,rfl⟩ | (simp_all;done)
theorem uX:(Rows.laid_internal_strconv_uint64pow10:DataW Unit)=Lib.tabData .u64 Lib.pow10Tab:=by kernel_rfl
theorem xB {W:World} (hL:laidMetH Tryz.prog ix W) (hsh:W.ShapedOpen Tryz.prog):Gx W:=by
 rw[Go.MakeChecks.laidMetH_plain _ _ _ (by kernel_rfl)] at hL
 obtain⟨ps,hv,_,_⟩:=hL
 unfold ix at hv
 obtain⟨g6,t6,c6,f6,p6,q6,hg6,ht6,hv6,hd6,hv,_⟩:=hv
 obtain⟨g7,t7,c7,f7,p7,q7,hg7,ht7,hv7,hd7,hv,_⟩:=hv
 obtain⟨g5,t5,c5,f5,p5,q5,hg5,ht5,hv5,hd5,hv,_⟩:=hv
 obtain⟨g4,t4,c4,f4,p4,q4,hg4,ht4,hv4,hd4,hv,_⟩:=hv
 obtain⟨g1,t1,c1,f1,p1,q1,hg1,ht1,hv1,hd1,hv,_⟩:=hv
 obtain⟨g0,t0,c0,f0,p0,q0,hg0,ht0,hv0,hd0,_,_⟩:=hv
 have n0:Tryz.prog.globalNamed "strconv.ErrSyntax" = some 0:=by kernel_rfl
 have n1:Tryz.prog.globalNamed "strconv.ErrRange" = some 1:=by kernel_rfl
 have n5:=jR
 have y0:(Tryz.prog.globals[0]?).map (·.type)=some 157:=by kernel_rfl
 have y1:(Tryz.prog.globals[1]?).map (·.type)=some 157:=by kernel_rfl
 obtain rfl:=Option.some.inj (n0.symm.trans hg0)
 obtain rfl:=Option.some.inj (n1.symm.trans hg1)
 obtain rfl:=Option.some.inj (n5.symm.trans hg5)
 obtain rfl:=Option.some.inj (y0.symm.trans ht0)
 obtain rfl:=Option.some.inj (y1.symm.trans ht1)
 have hif:=Tryz.underlying157
 have k0:=World.var?_cell hg0 hv0 0
 have k1:=World.var?_cell hg1 hv1 0
 obtain⟨u0,v0,e0⟩:=nX hif hd0
 obtain⟨u1,v1,e1⟩:=nX hif hd1
 rw[←AU,e0] at k0
 rw[←AU,e1] at k1
 rw[uX] at hd5
 obtain⟨T,hT,e,hu,he⟩:∃ T,(Tryz.prog.globals[2]?).map (·.type)=some T∧∃ e,Tryz.prog.underlying T=some (.array 20 e)∧(Tryz.prog.underlying e=some (.int .u64)∧Tryz.prog.cellsOf e=1∧Tryz.prog.cellsOf T=20) :=
  ⟨237,by kernel_rfl,114,by kernel_rfl,by kernel_rfl,by kernel_rfl,by kernel_rfl⟩
 obtain rfl:=Option.some.inj (hT.symm.trans ht5)
 have ep:=Lib.cells_of_tab hu he.1 he.2.1 he.2.2 hd5
 have hsz:8≤W.heap.size:=by
  have h7:(((begin Tryz.prog (fun _ _=>0) default).world.heap[7]?).bind Obj.row?).isSome=true:=by kernel_rfl
  obtain⟨⟨zero,t⟩,hz⟩:=Option.isSome_iff_exists.1 h7
  obtain⟨cs,hh,_⟩:=hsh.1 7 zero t (of_decide_eq_true (by kernel_rfl)) hz
  have:=vy hh
  omega
 refine⟨⟨?_,?_,hsz⟩,⟨u0,v0,k0⟩,⟨u1,v1,k1⟩⟩
 ·unfold nt Lib.TabIs
  rw[hv5,←ep]
 ·exact cell_of_shapedOpen_int (g:=3) (t:=3) (zero:=#[.int .i64 0]) hsh (of_decide_eq_true (by kernel_rfl)) (by kernel_rfl) rfl (by kernel_rfl) (by kernel_rfl) und3
open Go.RowKit Dg
theorem yW (v:Value) (a b:List ByteArray) (w:World) (hF:IsF w v a b) (hG:Gx w) :
  Calls Tryz.prog 12 #[v] w fun e w'=>e=.returned (.tuple #[.bool (au a b&&(a_ b).isSome),.int .i64 (ax a b)])∧Below w.heap.size w w':=by
 obtain⟨p,c,q,d,rfl,hfa,hfb⟩:=id hF.ex
 go_enter Tryz.func12,Tryz.ntmps12
 go_upto_region 1 with fail
 have cc:=am w (.slice p a.length c) (.slice q b.length d)
 have m1:=ae w (.cells #[.slice p a.length c,.slice q b.length d] 24)
 have zz:=size_alloc w (.cells #[.slice p a.length c,.slice q b.length d] 24)
 generalize w.alloc (.cells #[.slice p a.length c,.slice q b.length d] 24)=w1 at *
 have HCK:=yX (dB _ a b w1 (hF.below m1) (hG.below m1))
 have HA:=yX (hfa.below m1)
 have HB:=yX (hfb.below m1)
 have HG:=yX (hG.below m1)
 have c0:=cc.1
 have c1:=cc.2
 have hlt:w.heap.size<w1.heap.size:=by omega
 have M1:=yX m1
 clear hfa hfb cc zz m1 hF hG
 by_cases hck:au a b=true
 ·have hce:ax a b=0:=by unfold ax;rw[if_pos hck]
  rw[hce] at HCK
  obtain⟨ob1,ob7,oa1,oa7,oac,obc,ohd⟩:=aC hck
  clear hce
  go_wp2_with fail
  refine HCK.out.mono ?_
  rintro e w2 ⟨rfl,hb2⟩
  have d0:=aa hb2 hlt c0
  have d1:=aa hb2 hlt c1
  have HA2:=yX (HA.out.below hb2)
  have HB2:=yX (HB.out.below hb2)
  have HG2:=yX (HG.out.below hb2)
  have M2:=yX (M1.out.trans (hb2.mono M1.out.size))
  have hlt2:w.heap.size<w2.heap.size:=y_ hlt hb2.size
  clear c0 c1 HA HB HG HCK M1 hb2 hlt
  have HS:=yX (je _ b w2 HB2.out ob1 (by omega) HG2.out.g)
  have HC:=yX hck
  clear hck oac obc ohd ob1 ob7 oa1 oa7
  go_wp2_with fail
  refine HS.out.mono ?_
  rintro e w3 ⟨rfl,hb3⟩
  go_wp2
  refine bodyPost_ret (v:=.tuple #[.bool (a_ b).isSome,.int .i64 0]) (by simp[results,Tryz.results12,go_sem]) rfl ⟨by unfold ax;rw[HC.out];rfl,M2.out.trans (hb3.mono M2.out.size)⟩
 ·have HC:=yX (show au a b=false by simpa using hck)
  have hce:ax a b=30:=by unfold ax;rw[if_neg hck]
  rw[hce] at HCK
  clear hce
  go_wp2_with fail
  refine HCK.out.mono ?_
  rintro e w2 ⟨rfl,hb2⟩
  go_wp2
  refine bodyPost_ret (v:=.tuple #[.bool false,.int .i64 30]) (by simp[results,Tryz.results12,go_sem]) rfl ⟨by unfold ax;rw[HC.out];rfl,M1.out.trans (hb2.mono M1.out.size)⟩
def xT (a b:List ByteArray) (w:World) (e:Ending) (w':World):Prop :=
 ∃ v err,e=.returned (.tuple #[v,.int .i64 err])∧((∃ pf,au a b=true∧a_ b=some pf∧err=0∧IsS w' v pf∧pf.length=b.length-1)∨(au a b=true∧a_ b=none∧err=31∧v=.slice none 0 0)∨(au a b=false∧err=30∧v=.slice none 0 0))∧Below w.heap.size w w'
theorem tD (v:Value) (a b:List ByteArray) (w:World) (hF:IsF w v a b) (hG:Gx w) :
  Calls Tryz.prog 24 #[v] w (xT a b w):=by
 obtain⟨p,c,q,d,rfl,hfa,hfb⟩:=id hF.ex
 go_enter Tryz.func24,Tryz.ntmps24
 go_upto_region 1 with fail
 have cc:=am w (.slice p a.length c) (.slice q b.length d)
 have m1:=ae w (.cells #[.slice p a.length c,.slice q b.length d] 24)
 have zz:=size_alloc w (.cells #[.slice p a.length c,.slice q b.length d] 24)
 generalize w.alloc (.cells #[.slice p a.length c,.slice q b.length d] 24)=w1 at *
 have HCK:=yX (dB _ a b w1 (hF.below m1) (hG.below m1))
 have HA:=yX (hfa.below m1)
 have HB:=yX (hfb.below m1)
 have HG:=yX (hG.below m1)
 have c0:=cc.1
 have c1:=cc.2
 have hlt:w.heap.size<w1.heap.size:=by omega
 have M1:=yX m1
 clear hfa hfb cc zz m1 hF hG
 by_cases hck:au a b=true
 ·have hce:ax a b=0:=by unfold ax;rw[if_pos hck]
  rw[hce] at HCK
  obtain⟨ob1,ob7,oa1,oa7,oac,obc,ohd⟩:=aC hck
  clear hce
  go_wp2_with fail
  refine HCK.out.mono ?_
  rintro e w2 ⟨rfl,hb2⟩
  have d0:=aa hb2 hlt c0
  have d1:=aa hb2 hlt c1
  have HA2:=yX (HA.out.below hb2)
  have HB2:=yX (HB.out.below hb2)
  have HG2:=yX (HG.out.below hb2)
  have M2:=yX (M1.out.trans (hb2.mono M1.out.size))
  have hlt2:w.heap.size<w2.heap.size:=y_ hlt hb2.size
  clear c0 c1 HA HB HG HCK M1 hb2 hlt
  have HS:=yX (u7 _ b w2 HB2.out ob1 (by omega) HG2.out.g)
  have HC:=yX hck
  clear hck oac obc ohd ob1 ob7 oa1 oa7
  go_wp2_with fail
  refine HS.out.mono ?_
  rintro e w3 ⟨v3,ok,rfl,hcase,hb3⟩
  rcases hcase with ⟨pf,hq,rfl,hp,hpl⟩ | ⟨hq,rfl,rfl⟩
  ·have HQ:=yX hq
   have HPL:=yX hpl
   obtain⟨p1,c1',rfl,-⟩:=id hp.form
   clear hq hpl
   go_wp2
   refine bodyPost_ret (v:=.tuple #[.slice p1 pf.length c1',.int .i64 0]) (by simp[results,Tryz.results24,go_sem]) rfl ⟨_,_,rfl,Or.inl ⟨pf,HC.out,HQ.out,rfl,hp,HPL.out⟩,M2.out.trans (hb3.mono M2.out.size)⟩
  ·have HQ:=yX hq
   clear hq
   go_wp2
   refine bodyPost_ret (v:=.tuple #[.slice none 0 0,.int .i64 31]) (by simp[results,Tryz.results24,go_sem]) rfl ⟨_,_,rfl,Or.inr (Or.inl ⟨HC.out,HQ.out,rfl,rfl⟩),M2.out.trans (hb3.mono M2.out.size)⟩
 ·have HC:=yX (show au a b=false by simpa using hck)
  have hce:ax a b=30:=by unfold ax;rw[if_neg hck]
  rw[hce] at HCK
  clear hce
  go_wp2_with fail
  refine HCK.out.mono ?_
  rintro e w2 ⟨rfl,hb2⟩
  go_wp2
  refine bodyPost_ret (v:=.tuple #[.slice none 0 0,.int .i64 30]) (by simp[results,Tryz.results24,go_sem]) rfl ⟨_,_,rfl,Or.inr (Or.inr ⟨HC.out,rfl,rfl⟩),M1.out.trans (hb2.mono M1.out.size)⟩
open Go.RowKit Dg Dc
def tq (q:Rat):ByteArray:=txt (CQ.real q)
def okQ (q:Rat):Prop:=cF (CQ.real q)=false
theorem i7 (q:Rat):okQ q↔cM (rt q)=false:=by
 unfold okQ cF CQ.real
 have h0:cM (rt 0)=false:=by rw[fe];exact ij
 rw[h0,Bool.or_false]
theorem uP {q:Rat} (h1:q.num.natAbs<10 ^ 2000) (h2:q.den<10 ^ 2000):okQ q:=by
 rw[i7]
 unfold cM rt
 have h3:=bP (k:=2000) (by decide) h1
 have h4:=bP (k:=2000) (by decide) h2
 simp only[Aj,decide_eq_false_iff_not]
 omega
theorem ff {q:Rat} (h:okQ q):dC (tq q)=some (CQ.real q):=lO h
theorem kZ {q:Rat} (h:okQ q):ck (CQ.real q)=(tq q,0):=by unfold ck;rw[if_neg (by rw[show cF (CQ.real q)=false from h];decide)];rfl
theorem vh (a b:Rat):(CQ.real a).add (CQ.real b)=CQ.real (a+b):=by show (⟨a+b,0+0⟩:CQ)=⟨a+b,0⟩;rw[Rat.add_zero]
theorem vj (a b:Rat):(CQ.real a).mul (CQ.real b)=CQ.real (a*b):=by unfold CQ.real CQ.mul;congr 1<;>grind
theorem oD (a b:Rat) (h:b≠0):(CQ.real a).div (CQ.real b)=CQ.real (a / b):=by unfold CQ.real CQ.div CQ.norm;congr 1<;>grind
theorem qx {a b:Rat} (ha:okQ a) (hb:okQ b) (h:okQ (a+b)):ef (tq a) (tq b)=tq (a+b):=by
 unfold ef aM b8
 rw[ff ha,ff hb]
 simp only[if_true]
 rw[vh,kZ h]
theorem ra {a b:Rat} (ha:okQ a) (hb:okQ b) (h:okQ (a*b)):cj (tq a) (tq b)=tq (a*b):=by
 unfold cj aM b8
 rw[ff ha,ff hb]
 simp only[if_true]
 rw[vj,kZ h]
theorem qG {a b:Rat} (ha:okQ a) (hb:okQ b) (hne:b≠0) (h:okQ (a / b)):aY (tq a) (tq b)=tq (a / b):=by
 unfold aY aM kC
 rw[ff ha,ff hb]
 have hn:CQ.real b≠⟨0,0⟩:=fun e=>hne (congrArg CQ.re e)
 simp only[if_neg hn,if_true]
 rw[oD a b hne,kZ h]
theorem ln:tq 1=⟨#[49]⟩:=by
 unfold tq txt
 have e:b_ (ct (CQ.real 1))=[49]:=by
  rw[cr (z:=ct (CQ.real 1)) (by show (rt 0).n=0;rw[fe])]
  show aI ⟨false,1,1⟩=_
  unfold aI
  rw[eI (show 1<10 by decide)];rfl
 rw[e]
theorem yx (k:Nat) (h:k≠0):1<10 ^ k:=Nat.one_lt_pow h (by decide)
theorem rG:(1:Nat)<10 ^ 2000:=yx 2000 (by decide)
theorem ic:okQ 1:=uP rG rG
theorem wZ {s:ByteArray} (h:fF s.data.toList=true):∃ q,s=tq q∧okQ q:=by
 unfold fF at h
 cases hg:eO s.data.toList with
 | none=>rw[hg] at h;cases h
 | some z =>
  rw[hg] at h
  obtain⟨q,rfl,-,-,h3,h4⟩:=fS hg
  have him:q.im=0:=(aO _).1 (of_decide_eq_true h)
  have e:q=CQ.real q.re:=by cases q;simp only at him;subst him;rfl
  rw[e] at h3 h4
  exact⟨q.re,h4.symm,h3⟩
theorem qF {s:ByteArray} (h:bm s.data.toList=true):∃ q,s=tq q∧okQ q:=by
 unfold bm at h
 simp only[zt] at h
 exact wZ h.1
theorem tZ {s:ByteArray} (h:bm s.data.toList=true):aY s ⟨#[49]⟩=s:=by
 obtain⟨q,rfl,hq⟩:=qF h
 have e:q / 1=q:=by grind
 rw[←ln,qG hq ic (by decide) (by rw[e];exact hq),e]
theorem uL:cj ⟨#[49]⟩ ⟨#[49]⟩=⟨#[49]⟩:=by
 have e:(1:Rat)*1=1:=by grind
 rw[←ln,ra ic ic (by rw[e];exact ic),e]
def ofT (n:Nat):ByteArray:=(ck (CQ.real (mkRat n 64))).1
theorem wV:ofT 64=⟨#[49]⟩:=by
 have e:mkRat ((64:Nat):Int) 64=1:=by decide +kernel
 unfold ofT
 rw[e,kZ ic,ln]
theorem lg:∀ i,jC ⟨#[49]⟩ i=⟨#[49]⟩
 | 0=>rfl
 | i+1=>by unfold jC;rw[lg i,uL]
theorem oX {b:List ByteArray} (h:∀ s∈b,bm s.data.toList=true):bU b ⟨#[49]⟩=b:=by
 refine List.ext_getElem (by simp[bU]) fun i h1 h2=>?_
 simp only[bU,Af,Bs,lg]
 rw[←eo h2,tZ (h _ (zn h2))]
def wt (a b:List ByteArray) (w:World) (e:Ending) (w':World):Prop :=
  ∃ n err,e=.returned (.tuple #[.int .i64 n,.int .i64 err]) ∧
    ((au a b=true∧(a_ b).isSome=true∧err=0∧∃ k:Nat,n=k∧1≤k∧k≤64∧dz b (ofT k)=true∧∀ m,1≤m→m<k→dz b (ofT m)=false) ∨
     (au a b=true∧(a_ b).isSome=false∧err=31∧n=0)∨(au a b=false∧err=30∧n=0))∧Below w.heap.size w w'
theorem wA (v:Value) (a b:List ByteArray) (w:World) (hF:IsF w v a b) (hG:Gx w) :
  Calls Tryz.prog 11 #[v] w (wt a b w):=by
 obtain⟨p,c,q,d,rfl,hfa,hfb⟩:=id hF.ex
 go_enter Tryz.func11,Tryz.ntmps11
 go_upto_region 1 with fail
 have cc:=am w (.slice p a.length c) (.slice q b.length d)
 have m1:=ae w (.cells #[.slice p a.length c,.slice q b.length d] 24)
 have zz:=size_alloc w (.cells #[.slice p a.length c,.slice q b.length d] 24)
 generalize w.alloc (.cells #[.slice p a.length c,.slice q b.length d] 24)=w1 at *
 have HCK:=yX (dB _ a b w1 (hF.below m1) (hG.below m1))
 have HA:=yX (hfa.below m1)
 have HB:=yX (hfb.below m1)
 have HG:=yX (hG.below m1)
 have c0:=cc.1
 have c1:=cc.2
 have hlt:w.heap.size<w1.heap.size:=by omega
 have M1:=yX m1
 clear hfa hfb cc zz m1 hF hG
 by_cases hck:au a b=true
 ·have hce:ax a b=0:=by unfold ax;rw[if_pos hck]
  rw[hce] at HCK
  obtain⟨ob1,ob7,oa1,oa7,oac,obc,ohd⟩:=aC hck
  clear hce
  go_wp2_with fail
  refine HCK.out.mono ?_
  rintro e w2 ⟨rfl,hb2⟩
  have d0:=aa hb2 hlt c0
  have d1:=aa hb2 hlt c1
  have HA2:=yX (HA.out.below hb2)
  have HB2:=yX (HB.out.below hb2)
  have HG2:=yX (HG.out.below hb2)
  have M2:=yX (M1.out.trans (hb2.mono M1.out.size))
  have hlt2:w.heap.size<w2.heap.size:=y_ hlt hb2.size
  clear c0 c1 HA HB HG HCK M1 hb2 hlt
  have HS:=yX (je _ b w2 HB2.out ob1 (by omega) HG2.out.g)
  have HC:=yX hck
  have HOC:=yX obc
  have HOB:=yX (And.intro ob1 ob7)
  clear hck oac obc ohd ob1 ob7 oa1 oa7
  by_cases hst:(a_ b).isSome=true
  ·rw[hst] at HS
   have HST:=yX hst
   have HW1:=yX (show dz b (ofT 64)=true by unfold dz;rw[wV,oX HOC.out];exact hst)
   clear hst
   go_wp2_with fail
   refine HS.out.mono ?_
   rintro e w3 ⟨rfl,hb3⟩
   go_wp2
   go_loopw [5] (fun s5 wr=>∃ n:Nat,s5=.int .i64 n∧1≤n∧n≤64∧Hid (∀ m,1≤m→m<n→dz b (ofT m)=false)∧Below w2.heap.size w2 wr) (fun s5 _=>64-(intOf s5).toNat)
   case atStart=>exact⟨1,rfl,y9 _,by decide,fun m h1 h2=>by omega,hb3⟩
   case round =>
    clear hb3
    obtain⟨n,rfl,hn1,hn2,hall,hbr⟩:=hrel
    go_wp2_with fail
    have hof:=yR (n:Int) 64 wr (by omega) (by omega) (by decide) (by decide) (HG2.out.below hbr).g
    refine hof.mono ?_
    clear hof
    rintro e w4 ⟨rfl,hb4⟩
    have hB4:=hbr.trans (hb4.mono hbr.size)
    have d1':=aa hB4 hlt2 d1
    obtain⟨rr,hrr⟩:∃ r,r=ofT n:=⟨_,rfl⟩
    rw[show (ck (CQ.real (mkRat (n:Int) 64))).1=rr from hrr.symm]
    obtain⟨ww,hww⟩:∃ x,x=dz b rr:=⟨_,rfl⟩
    have hwi:=xu _ b rr w4 (HB2.out.below hB4) HOB.out.1 (by have:=HOB.out.2;omega) (HG2.out.below hB4).g
    rw[←hww] at hwi
    have HWI:=yX hwi
    have hwn:dz b (ofT n)=ww:=by rw[hww,hrr]
    have HWN:=yX hwn
    clear hwi hww hrr hb4 hbr hwn
    go_wp2_with fail
    refine HWI.out.mono ?_
    rintro e w5 ⟨rfl,hb5⟩
    have hB5:=hB4.trans (hb5.mono hB4.size)
    cases ww with
    | true =>
     clear hb5
     go_wp2
     refine bodyPost_ret (v:=.tuple #[.int .i64 n,.int .i64 0]) (by simp[results,Tryz.results11,go_sem]) rfl ⟨_,_,rfl,Or.inl ⟨HC.out,HST.out,rfl,n,rfl,hn1,hn2,HWN.out,hall.out⟩,M2.out.trans (hB5.mono M2.out.size)⟩
    | false =>
     have hlt:n<64:=by
      rcases Ai n 64 with h | h
      ·exact h
      ·have h64:n=64:=by omega
       have h1:=HWN.out
       rw[h64,HW1.out] at h1
       cases h1
     have hall2:Hid (∀ m,1≤m→m<n+1→dz b (ofT m)=false):=fun m h1 h2=>by
      by_cases hm:m=n
      ·subst hm;exact HWN.out
      ·exact hall.out m h1 (by omega)
     clear hall hb5
     go_wp2
     go_roundw
     case rel=>exact⟨n+1,by go_num,by omega,by omega,hall2,hB5⟩
     case measure=>(first | (simp[intOf];done) | (simp[intOf];omega))
  ·have hst':(a_ b).isSome=false:=by simpa using hst
   rw[hst'] at HS
   have HST:=yX hst'
   clear hst hst'
   go_wp2_with fail
   refine HS.out.mono ?_
   rintro e w3 ⟨rfl,hb3⟩
   go_wp2
   refine bodyPost_ret (v:=.tuple #[.int .i64 0,.int .i64 31]) (by simp[results,Tryz.results11,go_sem]) rfl ⟨_,_,rfl,Or.inr (Or.inl ⟨HC.out,HST.out,rfl,rfl⟩),M2.out.trans (hb3.mono M2.out.size)⟩
 ·have HC:=yX (show au a b=false by simpa using hck)
  have hce:ax a b=30:=by unfold ax;rw[if_neg hck]
  rw[hce] at HCK
  clear hce
  go_wp2_with fail
  refine HCK.out.mono ?_
  rintro e w2 ⟨rfl,hb2⟩
  go_wp2
  refine bodyPost_ret (v:=.tuple #[.int .i64 0,.int .i64 30]) (by simp[results,Tryz.results11,go_sem]) rfl ⟨_,_,rfl,Or.inr (Or.inr ⟨HC.out,rfl,rfl⟩),M1.out.trans (hb2.mono M1.out.size)⟩
end Go.Proofs.YtomkanblohhpfaaGreatDoor
