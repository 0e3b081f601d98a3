/- Lemmas of this claim. -/
import Derived.Test.YtbnkpcfjechfiaaGreatDoorZPD1
import Derived.Test.YtbnkpcfjechfiaaGreatDoorZRS7
set_option linter.all false
set_option maxRecDepth 100000
set_option maxHeartbeats 8000000
namespace Go.Proofs.YtbnkpcfjechfiaaGreatDoor
open Go.RowKit Dg
def zR (qs:List Rat) (w:World) (e:Ending) (w':World):Prop :=
 ∃ v ok,e=.returned (.tuple #[v,.bool ok])∧((∃ l,aZ (qs.length-1) qs=some l∧ok=true∧kj w' v l)∨(aZ (qs.length-1) qs=none∧ok=false∧v=.slice none 0 0))∧Below w.heap.size w w'
theorem vh {q:Rat} (h:okQ q):Sz 2000 (rt q):=⟨(vi h).1,dJ _,(vi h).2⟩
theorem vA {n j:Nat}{qs p l:List Rat} (h:aZ n qs=(aZ (j+1) p).map fun x=>x++l.reverse) (h1:-1<p.getD (j+1) 0) (h2:p.getD (j+1) 0<1) :
  aZ n qs=(aZ j (dh p (j+1) (p.getD (j+1) 0))).map fun x=>x++(l++[p.getD (j+1) 0]).reverse:=by
 rw[h,aZ,if_pos ⟨h1,h2⟩,Option.map_map]
 congr 1
 funext x
 simp
theorem vB {n j:Nat}{qs p l:List Rat} (h:aZ n qs=(aZ (j+1) p).map fun x=>x++l.reverse) (h1:(decide (-1<p.getD (j+1) 0)&&decide (p.getD (j+1) 0<1))=false):aZ n qs=none:=by
 rw[h,aZ,if_neg]
 ·rfl
 ·rintro⟨a,b⟩
  rw[decide_eq_true a,decide_eq_true b] at h1
  cases h1
def je (p:List Rat) (j:Nat):Prop:=∃ e,uu e p∧(e+1)*2 ^ j≤6600
theorem je.ok {p:List Rat}{j:Nat} (h:je p j):∀ q∈p,okQ q:=by
 obtain⟨e,h1,h2⟩:=h
 have:=GC (e+1) (Nat.two_pow_pos j)
 exact BS h1 (by omega)
theorem je.next {p:List Rat}{j:Nat} (h:je p (j+1)) (hl:p.length=j+2) (h1:-1<p.getD (j+1) 0) (h2:p.getD (j+1) 0<1):je (dh p (j+1) (p.getD (j+1) 0)) j:=by
 obtain⟨e,g1,g2⟩:=h
 obtain⟨f1,f2⟩:=Ea g2
 exact⟨_,(qV g1 hl f1 h1 h2).2,f2⟩
theorem DU {a b:Rat}{k l:Nat} (ha:Sz k (rt a)) (hb:Sz l (rt b)):Sz (k+l+1) (rt (a-b)):=by
 have h:=ha.plus hb.neg
 rw[fE,fN] at h
 rw[show a-b=a+-b by grind]
 exact h
theorem DV {a b:Rat}{k l:Nat} (ha:Sz k (rt a)) (hb:Sz l (rt b)):Sz (k+l) (rt (a*b)):=by
 rw[←gi];exact ha.mul hb
theorem DT {a:Rat}{k:Nat} (ha:Sz k (rt a)) (h:a≠0):Sz k (rt a⁻¹):=by
 rw[←wV h]
 refine ha.inv ?_
 rcases Gt (rt a).n with h0 | h0
 ·exact absurd ((bh _).1 h0) h
 ·exact h0
theorem eL {w:World}{g:Nat}{vs:Array Value}{T:TypeId} (h:w.heap[g]?=some (.cells vs T (0,0))) (i:Nat) {v:Value} (hv:vs[i]?=some v) (z:aC w.heap.size w):z.w.cell? ⟨g,i,none⟩=some v :=
 (af ((z.h.block _ (ah h)).trans h) i).trans hv
theorem g_ {w:World}{b o:Nat}{v:Value} (h:w.cell? ⟨b,o,none⟩=some v) (hlt:b<w.heap.size) (z:aC w.heap.size w):z.w.cell? ⟨b,o,none⟩=some v:=ag z.h hlt h
theorem vf (p:List Rat) (j:Nat) (k:Rat) {i:Nat} (h:i<j):(dh p j k).take (i+1)=(dh p j k).take i++[(1-k*k)⁻¹*(p.getD i 0-k*p.getD (j-i) 0)]:=by
 have hl:i<(dh p j k).length:=by rw[ci];exact h
 rw[show (dh p j k).take (i+1)=(dh p j k).take i++[(dh p j k)[i]] from (Fz hl).symm]
 have e:(dh p j k)[i]=(dh p j k).getD i 0:=by simp[FA,FB hl]
 rw[e,eK _ _ _ _ h,Rat.div_def,Rat.mul_comm]
theorem tI (v:Value) (qs:List Rat) (w:World) (hl:kj w v qs) (hpos:0<qs.length) (hlen:qs.length<1000000) (hd:je qs (qs.length-1)) :
  Calls Tryz.prog 40 #[v] w (zR qs w):=by
 unfold zR
 obtain⟨n,hn⟩:∃ n,qs.length=n+1:=⟨qs.length-1,by omega⟩
 rw[show qs.length-1=n by omega] at hd ⊢
 have HN:=Ff hn
 have HD:=Ff hd
 obtain⟨pv,cv,rfl,hc1,hc2⟩:=hl.form
 have HL:=Ff hl
 rw[hn] at hc1 HL hlen ⊢
 have HN32:=Ff hlen
 clear hl hd hn hpos
 go_enter Tryz.func40,Tryz.ntmps40
 go_wp2
 go_loopw [0,4,5] (fun s0 s4 s5 wr=>∃ (j:Nat) (p l:List Rat),s5=.int .i64 j∧p.length=j+1∧kj wr s0 p∧d9 wr w.heap.size s4 l∧(∀ g,s4.ownBlock=some g→s0.ownBlock≠some g)∧Below w.heap.size w wr∧Hid (je p j)∧Hid (aZ n qs=(aZ j p).map fun x=>x++l.reverse)∧Hid (l.length+j=n)) (fun _ _ s5 _=>(intOf s5).toNat)
 case atStart =>
  refine⟨n,qs,[],?_,HN.out,HL.out,d9.nil _ _,?_,Below.refl _ _,HD,Ff ?_,Ff (by simp)⟩
  ·go_num
  ·intro g h
   cases h
  ·simp
 case round =>
  obtain⟨j,p,l,rfl,hpl,hp,hown,hne,hbr,hdeep,hpq,hln⟩:=hrel
  cases j with
  | zero =>
   have HPQ:=Ff (show aZ n qs=some l.reverse by rw[hpq.out];rfl)
   have HLN:=hln
   have hb0:=hown.isQs
   obtain⟨pb,cb,rfl,hb1,hb2⟩:=hb0.form
   have HBK:=Ff hb0
   clear hdeep hpq hln hp hown hne hpl hb0 hb1 hb2
   rename World=>wo
   rw[show ((0:Nat):Int)=0 from rfl]
   have hll:l.length<1000000:=by have:=HLN.out;omega
   go_wp2
   go_loopw [10,11] (fun s10 s11 wr=>∃ m:Nat,s11=.int .i64 ((m:Int)-1)∧m≤l.length∧d9 wr wo.heap.size s10 ((l.drop m).reverse)∧Below wo.heap.size wo wr) (fun _ s11 _=>((intOf s11)+1).toNat)
   case atStart =>
    refine⟨l.length,?_,Fm _,?_,Below.refl _ _⟩
    ·first | rfl | go_num
    ·rw[In];exact d9.nil _ _
   case round =>
    obtain⟨m,rfl,hml,hout,hbx⟩:=hrel
    cases m with
    | zero =>
     rw[Fr] at hout
     have hq:=hout.isQs
     have hB:=hbr.trans (hbx.mono hbr.size)
     clear hout hbx
     go_wp2
     refine bodyPost_ret (v:=.tuple #[_,.bool true]) (by simp[results,Tryz.results40,go_sem]) rfl ⟨_,_,rfl,Or.inl ⟨l.reverse,HPQ.out,rfl,hq⟩,hB⟩
    | succ m =>
     obtain⟨ba,oa,rfl,hlta,xm,xa,xN,xd,xb,xM,xe,hx,x0,x1,x2,x3⟩:=(HBK.out.below hbx).get (i:=m) (by omega)
     have HT:=Ff (show (l.drop m).reverse=(l.drop (m+1)).reverse++[l[m]] by rw[Gf (by omega),List.reverse_cons])
     generalize l[m]=x at hx HT
     have m1:=aj wr (.cells #[.bool xm,.slice xa xN xd,.bool false,.slice xb xM xe] 78)
     have hcx:=heap_alloc_new wr (.cells #[.bool xm,.slice xa xN xd,.bool false,.slice xb xM xe] 78)
     have hx3:=hx.below m1
     have hw3:=hout.below m1
     have hB3:=hbx.trans (m1.mono hbx.size)
     have hbs:=hB3.size
     have hzl:((l.drop (m+1)).reverse).length<1000000000:=by simp;omega
     clear hx hout hbx m1
     go_wp2_with (at_builtin;refine eC 51 Tryz.underlying51 rfl (.tmp 67) (.tmp 72) rfl wo.heap.size _ _ xm xa xN xd xb xM xe x rfl hw3 _ rfl hcx hx3 hzl hbs ?_)
     intro v' w4 hap
     have hB4:=hap.below hw3 hB3 (Fm _) hbs
     have hw4:=hap.own
     rw[←HT.out] at hw4
     clear hap hw3 hx3 hcx hB3 hbs hzl
     go_wp2
     go_roundw
     case rel=>exact⟨m,by first | rfl | go_num,by omega,hw4,hB4⟩
     case measure=>first | (simp[intOf];done) | (simp[intOf];omega)
  | succ j =>
   have HD2:=hdeep
   have HPQ:=hpq
   have HLN:=hln
   clear hdeep hpq hln
   obtain⟨pa,ca,rfl,ha1,ha2⟩:=hp.form
   rw[hpl] at hp ha1 hne ⊢
   obtain⟨b,o,rfl,hlt,m,a,N,d,a',N',d',hk,c0,c1,c2,c3⟩:=hp.get (i:=j+1) (by omega)
   have hkm:=eh (l:=p) (k:=j+1) (by omega)
   have hke:p[j+1]=p.getD (j+1) 0:=by simp[FA,FB,hpl]
   rw[hke] at hk
   have HPL:=Ff hpl
   clear hke hpl
   have hok:=HD2.out.ok _ hkm
   have HK2:=Ff (vh hok)
   obtain⟨k,hkk⟩:∃ k,k=p.getD (j+1) 0:=⟨_,rfl⟩
   rw[←hkk] at hk HK2
   have HKK:=Ff hkk
   clear hkk hkm hok
   go_upto_region 6 with fail
   have hl1:=bQ wr (.cells #[.bool m,.slice a N d,.bool false,.slice a' N' d'] 78)
   have hk1:=hk.below hl1.below
   have hp1:=hp.below hl1.below
   have hw1:=hown.below hl1.below
   have hB1:=hbr.trans (hl1.below.mono hbr.size)
   have s1:=hl1.s0
   have hge:=hbr.size
   have hgk:∀ g,u4.ownBlock=some g→g<wr.heap.size:=fun g h=>(hown.lt g h).2
   clear hk hp hown hbr hl1 c0 c1 c2 c3 hlt
   generalize wr.alloc (.cells #[.bool m,.slice a N d,.bool false,.slice a' N' d'] 78)=w1 at *
   generalize wr.heap.size=kb at *
   have q0:=af s1 0
   have q1:=af s1 1
   have q2:=af s1 2
   have q3:=af s1 3
   go_wp2_with fail
   refine (zh _ k 2000 w1 hk1 HK2.out (by decide)).mono ?_
   rintro e w2 ⟨rfl,hb2⟩
   obtain⟨is,his⟩:∃ is,is=(decide (-1<k)&&decide (k<1)):=⟨_,rfl⟩
   rw[←his]
   have HIS:=Ff his
   have hB2:=hB1.trans (hb2.mono hB1.size)
   have hk2:=hk1.below hb2
   have hp2:=hp1.below hb2
   have hw2:=hw1.below hb2
   have s2:=(hb2.block _ (ah s1)).trans s1
   clear his hB1 hk1 hp1 hw1 hb2 s1 q0 q1 q2 q3
   cases is with
   | false =>
    have hst:=vB HPQ.out (by rw[←HKK.out];exact HIS.out.symm)
    have HST:=Ff hst
    clear hst
    go_wp2
    refine bodyPost_ret (v:=.tuple #[.slice none 0 0,.bool false]) (by simp[results,Tryz.results40,go_sem]) rfl ⟨_,_,rfl,Or.inr ⟨HST.out,rfl,rfl⟩,hB2⟩
   | true =>
    have hk12:-1<k∧k<1:=by
     have:=HIS.out
     simp at this
     exact this
    have HI:=Ff hk12
    have HDN:=Ff (HD2.out.next HPL.out (by rw[←HKK.out];exact hk12.1) (by rw[←HKK.out];exact hk12.2))
    have HPN:=Ff (vA HPQ.out (by rw[←HKK.out];exact hk12.1) (by rw[←HKK.out];exact hk12.2))
    rw[←HKK.out] at HDN HPN
    clear hk12 HIS HPQ
    have q0:=af s2 0
    have q1:=af s2 1
    have q2:=af s2 2
    have q3:=af s2 3
    go_upto_region 8 with fail
    have hl3:=bQ w2 (.cells #[.bool m,.slice a N d,.bool false,.slice a' N' d'] 78)
    have hcx:=heap_alloc_new w2 (.cells #[.bool m,.slice a N d,.bool false,.slice a' N' d'] 78)
    have hk3:=hk2.below hl3.below
    have hp3:=hp2.below hl3.below
    have hw3:=hw2.below hl3.below
    have hB3:=hB2.trans (hl3.below.mono hB2.size)
    have s3:=(hl3.below.block _ (ah s2)).trans s2
    have hbs:=hB3.size
    have hzl:l.length<1000000000:=by have:=HLN.out;omega
    clear hk2 hp2 hw2 hB2 s2 hl3 
    go_wp2_with (at_builtin;refine eC 51 Tryz.underlying51 rfl (.tmp 26) (.tmp 28) rfl w.heap.size _ _ m a N d a' N' d' k rfl hw3 _ rfl hcx hk3 hzl hbs ?_)
    intro v4 w4 hap
    have hB4:=hap.below hw3 hB3 (Fm _) hbs
    have hw4:=hap.own
    have hp4:=hap.row hp3 hne
    have hk4:=hap.keep hk3
    have s4:=(hap.grown.block kb (ah s3) (fun e=>by have:=hgk kb e.symm;omega)).trans s3
    clear hap hp3 hw3 hk3 hB3 s3 hcx hbs hzl q0 q1 q2 q3 hge hne
    have HSM:=Ff (show Sz 4000 (rt (k*k)) from by rw[←gi];exact HK2.out.mul HK2.out)
    have HSI:=Ff (show Sz 4002 (rt (1-k*k)) from by
     have h:=li.plus HSM.out.neg
     rw[fE,fN] at h
     rw[show 1-k*k=1+-(k*k) by grind]
     exact h.mono (by decide))
    have HNZ:=Ff (show 1-k*k≠0 from by have:=rE HI.out.1 HI.out.2;grind)
    go_upto_region 9 with fail
    go_cut [7] from 30 to 35 (fun s7 wx=>∃ g m a N d a' N' d',s7=.pointer (some ⟨g,0,none⟩)∧wx.heap[g]?=some (.cells #[.bool m,.slice a N d,.bool false,.slice a' N' d'] 78 (0,0))∧di wx (.agg #[.bool m,.slice a N d,.bool false,.slice a' N' d']) ((1-k*k)⁻¹)∧Below w4.heap.size w4 wx)
    case first =>
     have hBd:Below w4.heap.size w4 w4.drew:=(Below.refl _ _).drew
     refine wp_mono (ax (Q:=aL _) (fun wx:World=>Below w4.drew.heap.size w4.drew wx) (fun i=>i == 7) (by kernel_rfl) ?_) (fun _ _ _ h=>aU h)
     have hBB:Below w4.drew.heap.size w4.drew w4.drew:=Below.refl _ _
     have hQ:=hk4.below hBd
     have HE:=Ff ((hBd.block _ (ah s4)).trans s4)
     have hlt:kb<w4.drew.heap.size:=ah HE.out
     have HBd:=Ff hBd
     clear hBd hk4 hp4 hw4 hB4 s4
     generalize w4.drew=wn at *
     refine az (i:=1) (v:=?vv1) rfl (by kernel_rfl) (fun _ _ _ h=>h) rfl hBB ?hy1 ?rest1
     case hy1 =>
      intro wy hy
      have e0:=af ((hy.block _ hlt).trans HE.out) 0
      have e1:=af ((hy.block _ hlt).trans HE.out) 1
      have e2:=af ((hy.block _ hlt).trans HE.out) 2
      have e3:=af ((hy.block _ hlt).trans HE.out) 3
      clear hy
      go_simp
      try with_reducible rfl
     try simp only[Act.put,Fj,Fi,Fh,Fg,Fk,Fl]
     refine az (i:=2) (v:=?vv2) rfl (by kernel_rfl) (fun _ _ _ h=>h) rfl hBB ?hy2 ?rest2
     case hy2 =>
      intro wy hy
      have e0:=af ((hy.block _ hlt).trans HE.out) 0
      have e1:=af ((hy.block _ hlt).trans HE.out) 1
      have e2:=af ((hy.block _ hlt).trans HE.out) 2
      have e3:=af ((hy.block _ hlt).trans HE.out) 3
      clear hy
      go_simp
      try with_reducible rfl
     try simp only[Act.put,Fj,Fi,Fh,Fg,Fk,Fl]
     clear hlt HE
     have hs4:=HBd.out.size
     have hsz:=Fm wn.heap.size
     refine fG (i:=0) (i':=6) rfl rfl (by kernel_rfl) rfl rfl (fun K hK=>?n0) (fun K hK=>?d0)
     case' n0 =>
      go_simp
      refine (C9 wn).mono ?_
      rintro e wn ⟨vO,rfl,hO,hb⟩
      obtain⟨mO,pO,NO,cO,pO',NO',cO',rfl⟩:=hO.forms
      replace hQ:=hQ.below hb
      have hBn:=hBB.trans ((hb).mono hsz)
      replace hsz:=Fx hsz (hb).size
      clear hBB
      have hBB:=hBn
      clear hBn
      try replace hr:=((hb).block _ (ah hr)).trans hr
      refine hK _ _ (fun _ _=>hBB) ?_
      clear hK K hb
      try simp only[Act.put,Fj,Fi,Fh,Fg,Fk,Fl]
      refine fG (i:=3) (i':=6) rfl rfl (by kernel_rfl) rfl rfl (fun K hK=>?n3) (fun K hK=>?d3)
      case' n3 =>
       go_simp
       refine (k9 _ _ k k 2000 2000 wn hQ hQ HK2.out HK2.out (by decide)).mono ?_
       rintro e wn ⟨vM,rfl,hM,hb⟩
       obtain⟨mM,pM,NM,cM,pM',NM',cM',rfl⟩:=hM.forms
       replace hQ:=hQ.below hb
       replace hO:=hO.below hb
       have hBn:=hBB.trans ((hb).mono hsz)
       replace hsz:=Fx hsz (hb).size
       clear hBB
       have hBB:=hBn
       clear hBn
       try replace hr:=((hb).block _ (ah hr)).trans hr
       refine hK _ _ (fun _ _=>hBB) ?_
       clear hK K hb
       try simp only[Act.put,Fj,Fi,Fh,Fg,Fk,Fl]
       refine fG (i:=4) (i':=6) rfl rfl (by kernel_rfl) rfl rfl (fun K hK=>?n4) (fun K hK=>?d4)
       case' n4 =>
        go_simp
        refine (vD _ _ 1 (k*k) 1 4000 wn hO hM li HSM.out (by decide)).mono ?_
        rintro e wn ⟨vI,rfl,hI,hb⟩
        obtain⟨mI,pI,NI,cI,pI',NI',cI',rfl⟩:=hI.forms
        clear hO hM
        have hBn:=hBB.trans ((hb).mono hsz)
        replace hsz:=Fx hsz (hb).size
        clear hBB
        have hBB:=hBn
        clear hBn
        try replace hr:=((hb).block _ (ah hr)).trans hr
        refine hK _ _ (fun _ _=>hBB) ?_
        clear hK K hb
        try simp only[Act.put,Fj,Fi,Fh,Fg,Fk,Fl]
        refine fG (i:=5) (i':=6) rfl rfl (by kernel_rfl) rfl rfl (fun K hK=>?n5) (fun K hK=>?d5)
        case' n5 =>
         go_simp
         refine (tw _ (1-k*k) 4002 wn hI HNZ.out HSI.out (by decide)).mono ?_
         rintro e wn ⟨vV,rfl,hV,hb⟩
         obtain⟨mV,pV,NV,cV,pV',NV',cV',rfl⟩:=hV.forms
         clear hI
         have hBn:=hBB.trans ((hb).mono hsz)
         replace hsz:=Fx hsz (hb).size
         clear hBB
         have hBB:=hBn
         clear hBn
         try replace hr:=((hb).block _ (ah hr)).trans hr
         refine hK _ _ (fun _ _=>hBB) ?_
         clear hK K hb
         try simp only[Act.put,Fj,Fi,Fh,Fg,Fk,Fl]
         refine au (i:=6) rfl (by kernel_rfl) rfl (fun K hK=>?d6)
     all_goals
      go_simp
      have hla:=bQ wn (.cells #[.bool false,.slice none 0 0,.bool false,.slice none 0 0] 78)
      have hlb:=hla.below
      have hr:=hla.s0
      have hgd:=hsz
      clear hla
      try replace hQ:=hQ.below hlb
      try replace hO:=hO.below hlb
      try replace hM:=hM.below hlb
      try replace hI:=hI.below hlb
      try replace hV:=hV.below hlb
      have hBn:=hBB.trans ((hlb).mono hsz)
      replace hsz:=Fx hsz (hlb).size
      clear hBB
      have hBB:=hBn
      clear hBn
      try replace hr:=((hlb).block _ (ah hr)).trans hr
      refine hK _ _ (fun _ _=>hBB) ?_
      clear hK K hlb
      try simp only[Act.put,Fj,Fi,Fh,Fg,Fk,Fl]
      generalize World.alloc wn (.cells #[.bool false,.slice none 0 0,.bool false,.slice none 0 0] 78)=wq at *
      generalize (World.heap wn).size=g7 at *
      rename World=>wn
     case' d0 =>
      refine au (i:=0) rfl (by kernel_rfl) rfl (fun K hK=>?_)
      go_simp
      refine (C9 wn).mono ?_
      rintro e wn ⟨vO,rfl,hO,hb⟩
      obtain⟨mO,pO,NO,cO,pO',NO',cO',rfl⟩:=hO.forms
      replace hQ:=hQ.below hb
      have hBn:=hBB.trans ((hb).mono hsz)
      replace hsz:=Fx hsz (hb).size
      clear hBB
      have hBB:=hBn
      clear hBn
      try replace hr:=((hb).block _ (ah hr)).trans hr
      refine hK _ _ (fun _ _=>hBB) ?_
      clear hK K hb
      try simp only[Act.put,Fj,Fi,Fh,Fg,Fk,Fl]
     case' d0 | d3 =>
      refine au (i:=3) rfl (by kernel_rfl) rfl (fun K hK=>?_)
      go_simp
      refine (k9 _ _ k k 2000 2000 wn hQ hQ HK2.out HK2.out (by decide)).mono ?_
      rintro e wn ⟨vM,rfl,hM,hb⟩
      obtain⟨mM,pM,NM,cM,pM',NM',cM',rfl⟩:=hM.forms
      replace hQ:=hQ.below hb
      replace hO:=hO.below hb
      have hBn:=hBB.trans ((hb).mono hsz)
      replace hsz:=Fx hsz (hb).size
      clear hBB
      have hBB:=hBn
      clear hBn
      try replace hr:=((hb).block _ (ah hr)).trans hr
      refine hK _ _ (fun _ _=>hBB) ?_
      clear hK K hb
      try simp only[Act.put,Fj,Fi,Fh,Fg,Fk,Fl]
     case' d0 | d3 | d4 =>
      refine au (i:=4) rfl (by kernel_rfl) rfl (fun K hK=>?_)
      go_simp
      refine (vD _ _ 1 (k*k) 1 4000 wn hO hM li HSM.out (by decide)).mono ?_
      rintro e wn ⟨vI,rfl,hI,hb⟩
      obtain⟨mI,pI,NI,cI,pI',NI',cI',rfl⟩:=hI.forms
      clear hO hM
      have hBn:=hBB.trans ((hb).mono hsz)
      replace hsz:=Fx hsz (hb).size
      clear hBB
      have hBB:=hBn
      clear hBn
      try replace hr:=((hb).block _ (ah hr)).trans hr
      refine hK _ _ (fun _ _=>hBB) ?_
      clear hK K hb
      try simp only[Act.put,Fj,Fi,Fh,Fg,Fk,Fl]
     case' d0 | d3 | d4 | d5 =>
      refine au (i:=5) rfl (by kernel_rfl) rfl (fun K hK=>?_)
      go_simp
      refine (tw _ (1-k*k) 4002 wn hI HNZ.out HSI.out (by decide)).mono ?_
      rintro e wn ⟨vV,rfl,hV,hb⟩
      obtain⟨mV,pV,NV,cV,pV',NV',cV',rfl⟩:=hV.forms
      clear hI
      have hBn:=hBB.trans ((hb).mono hsz)
      replace hsz:=Fx hsz (hb).size
      clear hBB
      have hBB:=hBn
      clear hBn
      try replace hr:=((hb).block _ (ah hr)).trans hr
      refine hK _ _ (fun _ _=>hBB) ?_
      clear hK K hb
      try simp only[Act.put,Fj,Fi,Fh,Fg,Fk,Fl]
     all_goals
      have q0:=af hr 0
      have q1:=af hr 1
      have q2:=af hr 2
      have q3:=af hr 3
      have f0:=frozen_of_row wn g7 0 _ _ hr
      have f1:=frozen_of_row wn g7 1 _ _ hr
      have f2:=frozen_of_row wn g7 2 _ _ hr
      have f3:=frozen_of_row wn g7 3 _ _ hr
      have hP:=a_ (u0:=.bool mV) (u1:=.slice pV NV cV) (u2:=.bool false) (u3:=.slice pV' NV' cV') hr
      refine au (i:=7) rfl (by kernel_rfl) rfl (fun K hK=>?_)
      go_simp
      change K _ (ej wn g7 (.bool mV) (.slice pV NV cV) (.bool false) (.slice pV' NV' cV'))
      refine hK _ _ (fun h=>by cases h) ?_
      clear hK K q0 q1 q2 q3 f0 f1 f2 f3
      refine aH (by kernel_rfl) ?_ _
      simp only[aL]
      have hrow:=hP.row
      have hZ:=dC.puts hV hP hr bR
      have hBP:=hBB.trans (hP.below _ hgd)
      clear hP hr hV hQ hBB
      try go_wp2
      go_meet
      exact⟨g7,mV,pV,NV,cV,pV',NV',cV',rfl,hrow,hZ,HBd.out.trans (hBP.mono hs4)⟩
    case rest =>
     obtain⟨gb,m2,a2,N2,d2,b2,M2,e2,rfl,hbx,hbq,hB45⟩:=hcut
     rename World=>w5
     have hp5:=hp4.below hB45
     have hw5:=hw4.below hB45
     have hk5:=hk4.below hB45
     have s5:=(hB45.block _ (ah s4)).trans s4
     have hB5:=hB4.trans (hB45.mono hB4.size)
     have HSV:=Ff (DT HSI.out HNZ.out)
     clear hp4 hw4 hk4 s4 hB4 hB45 HSI HNZ hgk
     have hjb:j+1<1000000:=by have:=HLN.out;omega
     go_wp2
     go_loopw [8,9] (fun s8 s9 wr=>∃ i:Nat,s9=.int .i64 i∧i≤j+1∧d9 wr w5.heap.size s8 ((dh p (j+1) k).take i)∧Below w5.heap.size w5 wr) (fun _ s9 _=>j+1-(intOf s9).toNat)
     case atStart=>exact⟨0,rfl,Fy _,d9.nil _ _,Below.refl _ _⟩
     case round =>
      obtain⟨i,rfl,hin,hownn,hbr⟩:=hrel
      by_cases hi:i<j+1
      ·obtain⟨ba,oa,eqa,hlta,xm,xa,xN,xd,xb,xM,xe,hx,x0,x1,x2,x3⟩:=hp5.get (i:=i) (by rw[HPL.out];omega)
       obtain⟨bb,ob,eqb,hltb,ym,ya,yN,yd,yb,yM,ye,hy,y0,y1,y2,y3⟩:=hp5.get (i:=j+1-i) (by rw[HPL.out];omega)
       obtain⟨rfl,rfl⟩:ba=b∧oa=o:=by simpa using eqa.symm
       obtain⟨rfl,rfl⟩:bb=ba∧ob=oa:=by simpa using eqb.symm
       have hji:j+1-i<p.length:=by rw[HPL.out];omega
       have hpi:i<p.length:=by rw[HPL.out];omega
       rw[show p[i]=p.getD i 0 by simp[FA,FB hpi]] at hx
       rw[show p[j+1-i]=p.getD (j+1-i) 0 by simp[FA,FB hji]] at hy
       have HX2:=Ff (vh (HD2.out.ok _ (eh hpi)))
       have HY2:=Ff (vh (HD2.out.ok _ (eh hji)))
       have HT:=Ff (vf p (j+1) k hi)
       generalize p.getD i 0=x at hx HX2 HT
       generalize p.getD (j+1-i) 0=y at hy HY2 HT
       have HMY:=Ff (DV HK2.out HY2.out)
       have HMM:=Ff (DU HX2.out HMY.out)
       clear eqa eqb hji hpi hltb
       have hijI:((j+1-i:Nat):Int)=(j:Int)+1-(i:Int):=by omega
       have hdI:decide ((i:Int)<(j:Int)+1)=true:=decide_eq_true (by omega)
       go_upto_region 14 with fail
       clear hdI
       have hBw:Below w5.heap.size w5 wr.drew:=hbr.trans ((Below.refl _ _).drew.mono hbr.size)
       have hon:=hownn.below (below_drewN (Below.refl _ _) 1)
       refine aw (fun w'=>∃ z:aC w5.heap.size w5,w'=z.w) (fun i=>i == 13||i == 14||i == 15||i == 16||i == 17) (by kernel_rfl) (by kernel_rfl) ⟨⟨_,hBw⟩,rfl⟩ ?_
       change d9 wr.drew _ _ _ at hon
       generalize wr.drew=wd at *
       have g0:=eL hbx 0 rfl
       have g1:=eL hbx 1 rfl
       have g2:=eL hbx 2 rfl
       have g3:=eL hbx 3 rfl
       have k0:=eL s5 0 rfl
       have k1:=eL s5 1 rfl
       have k2:=eL s5 2 rfl
       have k3:=eL s5 3 rfl
       have r0:=g_ x0 hlta
       have r1:=g_ x1 hlta
       have r2:=g_ x2 hlta
       have r3:=g_ x3 hlta
       have t0:=g_ y0 hlta
       have t1:=g_ y1 hlta
       have t2:=g_ y2 hlta
       have t3:=g_ y3 hlta
       have hsub:((j:Int)+1-(i:Int)).toNat=j+1-i:=by omega
       have HON:=Ff hon
       have HBW:=Ff hBw
       have HKI:=Ff hk5
       have HXI:=Ff hx
       have HYI:=Ff hy
       have HVI:=Ff hbq
       clear x0 x1 x2 x3 y0 y1 y2 y3 hon hBw hownn hbr hijI
       refine ak 13 0 _ _ _ (by kernel_rfl) ?_
       simp only[Fp,Ft,Fq,Fr]
       repeat (go_big_quiet_step (fail))
       refine wpQuiet_nil ?_
       clear g0 g1 g2 g3 k0 k1 k2 k3 r0 r1 r2 r3 t0 t1 t2 t3 hsub
       refine ap rfl rfl (fun K hK=>?_)
       go_simp
       refine (k9 _ _ k y 2000 2000 wd (HKI.out.below HBW.out) (HYI.out.below HBW.out) HK2.out HY2.out (by decide)).mono ?_
       rintro e w6 ⟨v6,rfl,hv6,hb6⟩
       obtain⟨am,aa,aN,ad,ab,aM,ae,rfl⟩:=hv6.forms
       have hB6:=HBW.out.trans (hb6.mono HBW.out.size)
       have hon6:=HON.out.below hb6
       clear hb6
       refine hK _ _ ⟨⟨_,hB6⟩,rfl⟩ ?_
       clear hK K
       try simp only[Act.put,Fj,Fi,Fh,Fg,Fk,Fl]
       refine ap rfl rfl (fun K hK=>?_)
       go_simp
       refine (vD _ _ x (k*y) 2000 (2000+2000) w6 (HXI.out.below hB6) hv6 HX2.out HMY.out (by decide)).mono ?_
       rintro e w7 ⟨v7,rfl,hv7,hb7⟩
       obtain⟨bm,ba,bN,bd,bz,bM,be,rfl⟩:=hv7.forms
       have hB7:=hB6.trans (hb7.mono hB6.size)
       have hon7:=hon6.below hb7
       clear hb7 hv6 hB6 hon6
       refine hK _ _ ⟨⟨_,hB7⟩,rfl⟩ ?_
       clear hK K
       try simp only[Act.put,Fj,Fi,Fh,Fg,Fk,Fl]
       refine ap rfl rfl (fun K hK=>?_)
       go_simp
       refine (k9 _ _ _ _ 4002 (2000+(2000+2000)+1) w7 (HVI.out.below hB7) hv7 HSV.out HMM.out (by decide)).mono ?_
       rintro e w8 ⟨v8,rfl,hv8,hb8⟩
       obtain⟨cm,cax,cN,cd,cb,cM,ce,rfl⟩:=hv8.forms
       have hB8:=hB7.trans (hb8.mono hB7.size)
       have hon8:=hon7.below hb8
       clear hb8 hv7 hB7 hon7
       refine hK _ _ ⟨⟨_,hB8⟩,rfl⟩ ?_
       clear hK K
       try simp only[Act.put,Fj,Fi,Fh,Fg,Fk,Fl]
       have m9:=aj w8 (.cells #[.bool cm,.slice cax cN cd,.bool false,.slice cb cM ce] 78)
       have hcx:=heap_alloc_new w8 (.cells #[.bool cm,.slice cax cN cd,.bool false,.slice cb cM ce] 78)
       have hv9:=hv8.below m9
       have hon9:=hon8.below m9
       have hB9:=hB8.trans (m9.mono hB8.size)
       have hbs:=hB9.size
       have hzl:((dh p (j+1) k).take i).length<1000000000:=by rw[FN,ci];omega
       clear m9
       refine ap rfl rfl (fun K hK=>?_)
       go_simp
       refine hK _ _ ⟨⟨_,hB9⟩,rfl⟩ ?_
       clear hK K
       try simp only[Act.put,Fj,Fi,Fh,Fg,Fk,Fl]
       refine ap rfl rfl (fun K hK=>?_)
       refine eJ rfl ?_
       refine eC 51 Tryz.underlying51 rfl (.tmp 41) (.tmp 57) rfl w5.heap.size _ _ cm cax cN cd cb cM ce _ rfl hon9 _ rfl hcx hv9 hzl hbs ?_
       intro v' w10 hap
       have hB10:=hap.below hon9 hB9 (Fm _) hbs
       have hw10:=hap.own
       refine⟨rfl,hK _ _ ⟨⟨_,hB10⟩,rfl⟩ ?_⟩
       clear hK K
       try simp only[Act.put,Fj,Fi,Fh,Fg,Fk,Fl]
       rw[←HT.out] at hw10
       have HW10:=Ff hw10
       clear hap hw10 hv9 hv8 hon8 hon9 hB8 hB9 hbs hcx hzl
       refine ak 1 18 _ _ _ (by kernel_rfl) ?_
       simp only[Fp,Ft,Fq,Fr]
       repeat (go_big_quiet_step (fail))
       refine wpQuiet_nil ?_
       refine aI ?_
       go_wp2
       go_roundw
       case rel=>exact⟨i+1,by go_num,by omega,HW10.out,hB10⟩
       case measure=>first | (simp[intOf];done) | (simp[intOf];omega)
      ·have hij:i=j+1:=by omega
       subst hij
       clear hi hin
       rw[Fu (by rw[ci];exact Fm _)] at hownn
       have hB6:=hB5.trans (hbr.mono hB5.size)
       have hw6:=hw5.below hbr
       have hs6:=hownn.isQs
       have hne6:∀ g,v4.ownBlock=some g→u8.ownBlock≠some g:=fun g h1 h2=>by
        have:=(hw5.lt g h1).2
        have:=(hownn.lt g h2).1
        omega
       have hl6:=ci p (j+1) k
       have HL6:=Ff (show (l++[k]).length+j=n by have:=HLN.out;simp;omega)
       clear hownn hbr hp5 hw5 hk5 s5 hB5 hbx hbq
       go_wp2
       go_roundw
       case rel=>exact⟨j,dh p (j+1) k,l++[k],by go_num,hl6,hs6,hw6,hne6,hB6,HDN,HPN,HL6⟩
       case measure=>first | (simp[intOf];done) | (simp[intOf];omega)
end Go.Proofs.YtbnkpcfjechfiaaGreatDoor
