/- Lemmas of this claim. -/
import Derived.Test.YtlkniohhalnjjaaGreatDoorKWor3
import Derived.Test.YtlkniohhalnjjaaGreatDoorKRun
set_option linter.all false
set_option maxRecDepth 100000
set_option maxHeartbeats 8000000
namespace Go.Proofs.YtlkniohhalnjjaaGreatDoor
open Go.RowKit Dc Dg
def s_:ByteArray:=⟨#[97,114,109]⟩
def ol:ByteArray:=⟨#[112,111,119,101,114]⟩
def gD:ByteArray:=⟨#[100,111,119,110]⟩
def fG:ByteArray:=⟨#[103,114,101,101,110]⟩
def fq:ByteArray:=⟨#[104,101,108,100]⟩
def rP:ByteArray:=⟨#[108,111,119]⟩
def rO:ByteArray:=⟨#[102,117,108,108]⟩
def nH:ByteArray:=⟨#[]⟩
def ti:List Rg:=[⟨gD,fG,gD,1,1,[],[]⟩,⟨fG,fq,gD,2,5,[],[]⟩,⟨fq,nH,fG,1,10,[],[]⟩]
def pp:List Rg:=[⟨rP,rO,rP,1,2,[],[]⟩,⟨rO,nH,rP,1,3,[⟨0,[fq]⟩],[]⟩]
def aV:List Gd:=[⟨s_,ti⟩,⟨ol,pp⟩]
theorem fg (W:World):ee W none []:=⟨fun h=>absurd h (by decide)⟩
theorem dO (W:World):gc W none []:=⟨fun h=>absurd h (by decide)⟩
theorem armP (W:World) (b1 b2 b3 b4 b5:Nat)
  (h1:W.heap[b1]?=some (.cells #[.string ⟨#[100,111,119,110]⟩,.string ⟨#[103,114,101,101,110]⟩,.string ⟨#[100,111,119,110]⟩,.int .i64 1,.int .i64 1,.slice none 0 0,.slice none 0 0,.string ⟨#[103,114,101,101,110]⟩,.string ⟨#[104,101,108,100]⟩,.string ⟨#[100,111,119,110]⟩,.int .i64 2,.int .i64 5,.slice none 0 0,.slice none 0 0,.string ⟨#[104,101,108,100]⟩,.string ⟨#[]⟩,.string ⟨#[103,114,101,101,110]⟩,.int .i64 1,.int .i64 10,.slice none 0 0,.slice none 0 0] 58 (0,0)))
  (h2:W.heap[b2]?=some (.cells #[.string ⟨#[104,101,108,100]⟩] 9 (0,0)))
  (h3:W.heap[b3]?=some (.cells #[.int .i64 0,.slice (some ⟨b2,0,none⟩) 1 1] 75 (0,0)))
  (h4:W.heap[b4]?=some (.cells #[.string ⟨#[108,111,119]⟩,.string ⟨#[102,117,108,108]⟩,.string ⟨#[108,111,119]⟩,.int .i64 1,.int .i64 2,.slice none 0 0,.slice none 0 0,.string ⟨#[102,117,108,108]⟩,.string ⟨#[]⟩,.string ⟨#[108,111,119]⟩,.int .i64 1,.int .i64 3,.slice (some ⟨b3,0,none⟩) 1 1,.slice none 0 0] 58 (0,0)))
  (h5:W.heap[b5]?=some (.cells #[.string ⟨#[97,114,109]⟩,.slice (some ⟨b1,0,none⟩) 3 3,.string ⟨#[112,111,119,101,114]⟩,.slice (some ⟨b4,0,none⟩) 2 2] 61 (0,0)))
  : aQ W (some ⟨b5,0,none⟩) aV:=by
 have hw:bQ W (some ⟨b2,0,none⟩) [fq]:=⟨fun _=>⟨b2,0,rfl,ag h2,fun i hi=>by
  match i,hi with
  | 0,_=>exact (aa h2 _).trans rfl⟩⟩
 have hn:ee W (some ⟨b3,0,none⟩) [⟨0,[fq]⟩]:=⟨fun _=>⟨b3,0,rfl,ag h3,fun i hi=>by
  match i,hi with
  | 0,_=>exact⟨some ⟨b2,0,none⟩,1,(aa h3 _).trans rfl,(aa h3 _).trans rfl,hw⟩⟩⟩
 have hr:bP W (some ⟨b1,0,none⟩) ti:=⟨fun _=>⟨b1,0,rfl,ag h1,fun i hi=>by
  match i,hi with
  | 0,_=>exact⟨none,0,none,0,(aa h1 _).trans rfl,(aa h1 _).trans rfl,(aa h1 _).trans rfl,(aa h1 _).trans rfl,(aa h1 _).trans rfl,(aa h1 _).trans rfl,(aa h1 _).trans rfl,fg _,dO _⟩
  | 1,_=>exact⟨none,0,none,0,(aa h1 _).trans rfl,(aa h1 _).trans rfl,(aa h1 _).trans rfl,(aa h1 _).trans rfl,(aa h1 _).trans rfl,(aa h1 _).trans rfl,(aa h1 _).trans rfl,fg _,dO _⟩
  | 2,_=>exact⟨none,0,none,0,(aa h1 _).trans rfl,(aa h1 _).trans rfl,(aa h1 _).trans rfl,(aa h1 _).trans rfl,(aa h1 _).trans rfl,(aa h1 _).trans rfl,(aa h1 _).trans rfl,fg _,dO _⟩⟩⟩
 have hp:bP W (some ⟨b4,0,none⟩) pp:=⟨fun _=>⟨b4,0,rfl,ag h4,fun i hi=>by
  match i,hi with
  | 0,_=>exact⟨none,0,none,0,(aa h4 _).trans rfl,(aa h4 _).trans rfl,(aa h4 _).trans rfl,(aa h4 _).trans rfl,(aa h4 _).trans rfl,(aa h4 _).trans rfl,(aa h4 _).trans rfl,fg _,dO _⟩
  | 1,_=>exact⟨some ⟨b3,0,none⟩,1,none,0,(aa h4 _).trans rfl,(aa h4 _).trans rfl,(aa h4 _).trans rfl,(aa h4 _).trans rfl,(aa h4 _).trans rfl,(aa h4 _).trans rfl,(aa h4 _).trans rfl,hn,dO _⟩⟩⟩
 exact⟨fun _=>⟨b5,0,rfl,ag h5,fun i hi=>by
  match i,hi with
  | 0,_=>exact⟨some ⟨b1,0,none⟩,3,(aa h5 _).trans rfl,(aa h5 _).trans rfl,hr⟩
  | 1,_=>exact⟨some ⟨b4,0,none⟩,2,(aa h5 _).trans rfl,(aa h5 _).trans rfl,hp⟩⟩⟩
theorem th:rR aV:=by
 have hR:∀ g∈aV,∀ r∈g.rungs,or r:=by
  intro g hg r hr
  simp only[aV,uy,ux,or_false] at hg
  rcases hg with rfl | rfl
  ·simp only[ti,uy,ux,or_false] at hr
   rcases hr with rfl | rfl | rfl<;>exact⟨by decide,by decide,by decide,fun x hx=>by cases hx⟩
  ·simp only[pp,uy,ux,or_false] at hr
   rcases hr with rfl | rfl
   ·exact⟨by decide,by decide,by decide,fun x hx=>by cases hx⟩
   ·refine⟨by decide,by decide,by decide,fun x hx=>?_⟩
    simp only[uy,ux,or_false] at hx
    subst hx
    decide
 refine⟨fun g hg=>?_,hR,fun g hg=>?_⟩
 ·simp only[aV,uy,ux,or_false] at hg
  rcases hg with rfl | rfl<;>decide
 ·simp only[aV,uy,ux,or_false] at hg
  rcases hg with rfl | rfl<;>decide
theorem gj (w:World) (hX:Gx w):Calls Tryz.prog 5 #[] w (fun e w'=>∃ p c,e=.returned (.agg #[.slice p 2 c])∧dM w' p c aV∧Below w.heap.size w w'):=by
 go_enter Tryz.func5,Tryz.ntmps5
 go_wp2_with fail
 obtain⟨v0,hv0⟩:∃ v0,v0=w.alloc (.cells #[.slice (some ⟨w.heap.size+1+1+1+1+1,0,none⟩) 2 2] 28):=⟨_,rfl⟩
 have z0:v0.heap.size=w.heap.size+1:=by rw[hv0];simp
 have n0:v0.heap[w.heap.size]?=some (.cells #[.slice (some ⟨w.heap.size+1+1+1+1+1,0,none⟩) 2 2] 28 (0,0)):=by rw[hv0];exact heap_alloc_new _ _
 have d0:Below w.heap.size w v0:=by rw[hv0];exact (Below.refl _ _).alloc (uo _) _
 obtain⟨v1,hv1⟩:∃ v1,v1=v0.alloc (.cells #[.string ⟨#[100,111,119,110]⟩,.string ⟨#[103,114,101,101,110]⟩,.string ⟨#[100,111,119,110]⟩,.int .i64 1,.int .i64 1,.slice none 0 0,.slice none 0 0,.string ⟨#[103,114,101,101,110]⟩,.string ⟨#[104,101,108,100]⟩,.string ⟨#[100,111,119,110]⟩,.int .i64 2,.int .i64 5,.slice none 0 0,.slice none 0 0,.string ⟨#[104,101,108,100]⟩,.string ⟨#[]⟩,.string ⟨#[103,114,101,101,110]⟩,.int .i64 1,.int .i64 10,.slice none 0 0,.slice none 0 0] 58):=⟨_,rfl⟩
 have z1:v1.heap.size=w.heap.size+1+1:=by rw[hv1];simp[z0]
 have n1:v1.heap[w.heap.size+1]?=some (.cells #[.string ⟨#[100,111,119,110]⟩,.string ⟨#[103,114,101,101,110]⟩,.string ⟨#[100,111,119,110]⟩,.int .i64 1,.int .i64 1,.slice none 0 0,.slice none 0 0,.string ⟨#[103,114,101,101,110]⟩,.string ⟨#[104,101,108,100]⟩,.string ⟨#[100,111,119,110]⟩,.int .i64 2,.int .i64 5,.slice none 0 0,.slice none 0 0,.string ⟨#[104,101,108,100]⟩,.string ⟨#[]⟩,.string ⟨#[103,114,101,101,110]⟩,.int .i64 1,.int .i64 10,.slice none 0 0,.slice none 0 0] 58 (0,0)):=by rw[hv1,←z0];exact heap_alloc_new _ _
 have d1:Below v0.heap.size v0 v1:=by rw[hv1];exact (Below.refl _ _).alloc (uo _) _
 obtain⟨v2,hv2⟩:∃ v2,v2=v1.alloc (.cells #[.string ⟨#[104,101,108,100]⟩] 9):=⟨_,rfl⟩
 have z2:v2.heap.size=w.heap.size+1+1+1:=by rw[hv2];simp[z1]
 have n2:v2.heap[w.heap.size+1+1]?=some (.cells #[.string ⟨#[104,101,108,100]⟩] 9 (0,0)):=by rw[hv2,←z1];exact heap_alloc_new _ _
 have d2:Below v1.heap.size v1 v2:=by rw[hv2];exact (Below.refl _ _).alloc (uo _) _
 obtain⟨v3,hv3⟩:∃ v3,v3=v2.alloc (.cells #[.int .i64 0,.slice (some ⟨w.heap.size+1+1,0,none⟩) 1 1] 75):=⟨_,rfl⟩
 have z3:v3.heap.size=w.heap.size+1+1+1+1:=by rw[hv3];simp[z2]
 have n3:v3.heap[w.heap.size+1+1+1]?=some (.cells #[.int .i64 0,.slice (some ⟨w.heap.size+1+1,0,none⟩) 1 1] 75 (0,0)):=by rw[hv3,←z2];exact heap_alloc_new _ _
 have d3:Below v2.heap.size v2 v3:=by rw[hv3];exact (Below.refl _ _).alloc (uo _) _
 obtain⟨v4,hv4⟩:∃ v4,v4=v3.alloc (.cells #[.string ⟨#[108,111,119]⟩,.string ⟨#[102,117,108,108]⟩,.string ⟨#[108,111,119]⟩,.int .i64 1,.int .i64 2,.slice none 0 0,.slice none 0 0,.string ⟨#[102,117,108,108]⟩,.string ⟨#[]⟩,.string ⟨#[108,111,119]⟩,.int .i64 1,.int .i64 3,.slice (some ⟨w.heap.size+1+1+1,0,none⟩) 1 1,.slice none 0 0] 58):=⟨_,rfl⟩
 have z4:v4.heap.size=w.heap.size+1+1+1+1+1:=by rw[hv4];simp[z3]
 have n4:v4.heap[w.heap.size+1+1+1+1]?=some (.cells #[.string ⟨#[108,111,119]⟩,.string ⟨#[102,117,108,108]⟩,.string ⟨#[108,111,119]⟩,.int .i64 1,.int .i64 2,.slice none 0 0,.slice none 0 0,.string ⟨#[102,117,108,108]⟩,.string ⟨#[]⟩,.string ⟨#[108,111,119]⟩,.int .i64 1,.int .i64 3,.slice (some ⟨w.heap.size+1+1+1,0,none⟩) 1 1,.slice none 0 0] 58 (0,0)):=by rw[hv4,←z3];exact heap_alloc_new _ _
 have d4:Below v3.heap.size v3 v4:=by rw[hv4];exact (Below.refl _ _).alloc (uo _) _
 obtain⟨v5,hv5⟩:∃ v5,v5=v4.alloc (.cells #[.string ⟨#[97,114,109]⟩,.slice (some ⟨w.heap.size+1,0,none⟩) 3 3,.string ⟨#[112,111,119,101,114]⟩,.slice (some ⟨w.heap.size+1+1+1+1,0,none⟩) 2 2] 61):=⟨_,rfl⟩
 have z5:v5.heap.size=w.heap.size+1+1+1+1+1+1:=by rw[hv5];simp[z4]
 have n5:v5.heap[w.heap.size+1+1+1+1+1]?=some (.cells #[.string ⟨#[97,114,109]⟩,.slice (some ⟨w.heap.size+1,0,none⟩) 3 3,.string ⟨#[112,111,119,101,114]⟩,.slice (some ⟨w.heap.size+1+1+1+1,0,none⟩) 2 2] 61 (0,0)):=by rw[hv5,←z4];exact heap_alloc_new _ _
 have d5:Below v4.heap.size v4 v5:=by rw[hv5];exact (Below.refl _ _).alloc (uo _) _
 rw[←hv0,←hv1,←hv2,←hv3,←hv4,←hv5]
 clear hv0 hv1 hv2 hv3 hv4 hv5
 have hG:=armP v5 (w.heap.size+1) (w.heap.size+1+1) (w.heap.size+1+1+1) (w.heap.size+1+1+1+1) (w.heap.size+1+1+1+1+1) ((d5.block _ (by omega)).trans ((d4.block _ (by omega)).trans ((d3.block _ (by omega)).trans ((d2.block _ (by omega)).trans (n1))))) ((d5.block _ (by omega)).trans ((d4.block _ (by omega)).trans ((d3.block _ (by omega)).trans (n2)))) ((d5.block _ (by omega)).trans ((d4.block _ (by omega)).trans (n3))) ((d5.block _ (by omega)).trans (n4)) (n5)
 have hB:Below w.heap.size w v5:=((((d0.trans (d1.mono (by omega))).trans (d2.mono (by omega))).trans (d3.mono (by omega))).trans (d4.mono (by omega))).trans (d5.mono (by omega))
 have q0:v5.cell? ⟨w.heap.size,0,none⟩=some (.slice (some ⟨w.heap.size+1+1+1+1+1,0,none⟩) 2 2):=aa ((d5.block _ (by omega)).trans ((d4.block _ (by omega)).trans ((d3.block _ (by omega)).trans ((d2.block _ (by omega)).trans ((d1.block _ (by omega)).trans (n0)))))) 0
 try simp only[Exit.inBlock,Exit.then]
 refine bodyPost_ret (v:=.agg #[.slice (some ⟨w.heap.size+1+1+1+1+1,0,none⟩) 2 2]) (by simp[results,Tryz.results5,go_sem,q0]) rfl ?_
 exact⟨_,_,rfl,⟨hG,hX.below hB,th,by decide,by decide⟩,hB⟩
def cm:List Ev:=[⟨0,0⟩,⟨0,0⟩,⟨1,0⟩]
def nU:List Ev:=[⟨0,0⟩,⟨0,0⟩,⟨1,0⟩,⟨0,2⟩]
theorem dC:aS aV=true:=by decide +kernel
theorem pV:bI aV nU=0:=by decide +kernel
theorem mK:dt aV nU=[⟨1,0,0,0,0,0⟩,⟨2,0,0,0,0,0⟩,⟨2,1,0,0,0,0⟩,⟨0,0,0,0,0,0⟩]:=by decide +kernel
theorem le:dj aV (0,2) (1,1)=(cm,0):=by decide +kernel
theorem oz:i8 aV=4:=by decide +kernel
theorem oB:gE aV 0 1=(12,0):=by decide +kernel
theorem EvR.q {n:Nat}{w:World}{v:Value}{l:List Ev} (h:EvR n w v l):iN w v l:=by
 rcases h.2 with ⟨rfl,hn⟩ | ⟨g,cap,cur,rfl,hb,hg,h3⟩
 ·exact⟨none,0,by rw[hn],fun hl=>by omega⟩
 ·refine⟨some ⟨g,0,none⟩,cap,rfl,fun hl=>⟨g,0,rfl,ag hg,fun i hi=>?_⟩⟩
  obtain⟨f1,f2⟩:=gQ (fun t:Ev=>Value.int .i64 t.g) (fun t=>.int .i64 t.k) l i hi
  have c1:=World.ownsRow.cells h (g:=g) rfl _ _ f1
  have c2:=World.ownsRow.cells h (g:=g) rfl _ _ f2
  rw[cC] at c1 c2
  exact⟨c1,by rw[vw];exact c2⟩
theorem kP (w:World):Calls Tryz.prog 12 #[] w (fun e w'=>∃ c,e=.returned (.slice (some ⟨w.heap.size,0,none⟩) 3 c)∧EvR w.heap.size w' (.slice (some ⟨w.heap.size,0,none⟩) 3 c) cm∧Below w.heap.size w w'):=by
 have h0:=heap_alloc_new w (.cells #[.int .i64 0,.int .i64 0,.int .i64 0,.int .i64 0,.int .i64 1,.int .i64 0] 31)
 have hb:Below w.heap.size w (w.alloc (.cells #[.int .i64 0,.int .i64 0,.int .i64 0,.int .i64 0,.int .i64 1,.int .i64 0] 31)):=(Below.refl _ _).alloc (uo _) _
 go_enter Tryz.func12,Tryz.ntmps12
 go_wp2_with fail
 go_ret
 exact⟨3,rfl,⟨rfl,Or.inr ⟨_,3,_,rfl,uo _,h0,uo _,by unfold maxLen;omega,rfl,rfl⟩⟩,hb⟩
theorem dw (w:World) (a b:Int):bL (w.alloc (.cells #[.int .i64 a,.int .i64 b] 3)) (.slice (some ⟨w.heap.size,0,none⟩) 2 2) [a,b] :=
 ⟨_,_,rfl,fun _=>⟨_,_,rfl,by simp,fun i hi=>by
  match i,hi with
  | 0,_=>exact af w #[.int .i64 a,.int .i64 b] 3 0 _ rfl
  | 1,_=>exact af w #[.int .i64 a,.int .i64 b] 3 1 _ rfl⟩⟩
theorem tu {L:List (St×Value×Value)}{l:List St} (h:L.map (·.1)=l) {i:Nat} (hi:i<L.length) (hl:i<l.length):L[i].1=l[i]:=by
 subst h
 simp
theorem d9 {B n:Nat}{w:World}{v:Value}{L:List (St×Value×Value)}{l:List St} (h:a8 B n w v L) (hm:L.map (·.1)=l) {i:Nat} (hi:i<l.length):∃ g cap u1 u2,v=.slice (some ⟨g,0,none⟩) l.length cap∧g<w.heap.size∧w.cell? ⟨g,0+i*2,none⟩=some u1∧w.cell? ⟨g,0+i*2+1,none⟩=some u2∧aG B w u1 (atL n l[i])∧aG B w u2 (aN n l[i]):=by
 have hl:L.length=l.length:=by rw[←hm];simp
 obtain⟨g,cap,e1,hgl,s1,s2,i1,i2⟩:=h.get (i:=i) (by omega)
 rw[tu hm (by omega) hi] at i1 i2
 rw[hl] at e1
 exact⟨g,cap,_,_,e1,hgl,s1,s2,i1,i2⟩
theorem tH (w:World) (hX:Gx w):Calls Tryz.prog 18 #[] w (fun e w'=>e=.returned (.bool true)∧Below w.heap.size w w'):=by
 go_enter Tryz.func18,Tryz.ntmps18
 go_wp2_with fail
 refine (gj w hX).mono ?_
 rintro e w1 ⟨p1,c1,rfl,hP1,hb1⟩
 go_wp2_with fail
 refine (kP w1).mono ?_
 rintro e w2 ⟨c2,rfl,hE2,hb2⟩
 have hb3:Below w2.heap.size w2 (w2.alloc (.cells #[.int .i64 0,.int .i64 2] 31)):=(Below.refl _ _).alloc (uo _) _
 have hE3:=hE2.below hb3
 have q0:=af w2 #[.int .i64 0,.int .i64 2] 31 0 _ rfl
 have q1:=af w2 #[.int .i64 0,.int .i64 2] 31 1 _ rfl
 have hz3:=hb3.size
 go_wp2_with (at_builtin;refine pR rfl _ _ rfl w1.heap.size _ cm rfl hE3 (by decide) (uB hb2.size hz3) w2.heap.size ⟨0,2⟩ rfl q0 q1 ?_;intro g4 c4 w4 hE4 hg4)
 have B14:Below w1.heap.size w1 w4:=(hb2.trans (hb3.mono hb2.size)).grown hg4 (uB hb2.size hz3) (fun k hk=>by cases hk;exact uo _)
 have hP4:=hP1.below B14
 have B4:=hb1.trans (B14.mono hb1.size)
 have hr:=runN aV p1 c1 _ nU w4 hP4 hE4.q (by decide)
 clear hP1 hP4 hE4 hE3 hE2 q0 q1 hz3 hb3 hb2 hb1 hg4 B14
 refine hr.mono ?_
 rintro e w5 ⟨hb5,v5,L,rfl,hL,hLm⟩
 rw[mK] at hLm
 have B5:=B4.trans (hb5.mono B4.size)
 have hX5:=hX.below B5
 obtain⟨z,hz⟩:∃ z,z=bI aV nU:=⟨_,rfl⟩
 rw[←hz]
 rw[pV] at hz
 subst hz
 obtain⟨ao,co,rfl⟩:=hL.slice
 obtain⟨nL,hnL⟩:∃ nL,nL=L.length:=⟨_,rfl⟩
 have h4:nL=4:=by rw[hnL];have:=congrArg List.length hLm;simpa using this
 rw[←hnL]
 have HNL:=uk hnL
 clear hnL hr
 subst h4
 go_wp2_with fail
 refine (gj w5 hX5).mono ?_
 rintro e w6 ⟨p6,c6,rfl,hP6,hb6⟩
 go_wp2_with fail
 refine (qO aV p6 c6 (0,2) (1,1) w6 hP6).mono ?_
 rintro e w7 ⟨v7,rfl,hE7,hb7⟩
 rw[le] at hE7
 obtain⟨z,hz⟩:∃ z,z=(dj aV (0,2) (1,1)).2:=⟨_,rfl⟩
 rw[←hz]
 rw[le] at hz
 simp only at hz
 subst hz
 have B7:=(B5.trans (hb6.mono B5.size)).trans (hb7.mono (uB B5.size hb6.size))
 have hX7:=hX.below B7
 go_wp2_with fail
 refine (gj w7 hX7).mono ?_
 rintro e w8 ⟨p8,c8,rfl,hP8,hb8⟩
 go_wp2_with fail
 refine (tl aV p8 c8 w8 hP8).mono ?_
 rintro e w9 ⟨rfl,hb9⟩
 rw[oz,dC]
 simp only[if_true]
 have B9:=(B7.trans (hb8.mono B7.size)).trans (hb9.mono (uB B7.size hb8.size))
 have hX9:=hX.below B9
 go_wp2_with fail
 refine (gj w9 hX9).mono ?_
 rintro e w10 ⟨p10,c10,rfl,hP10,hb10⟩
 go_wp2_with fail
 refine (nI aV p10 c10 0 1 w10 hP10).mono ?_
 rintro e w11 ⟨rfl,hb11⟩
 rw[oB]
 have B11:=(B9.trans (hb10.mono B9.size)).trans (hb11.mono (uB B9.size hb10.size))
 have b57:Below w5.heap.size w5 w7:=hb6.trans (hb7.mono hb6.size)
 have b79:Below w7.heap.size w7 w9:=hb8.trans (hb9.mono hb8.size)
 have b911:Below w9.heap.size w9 w11:=hb10.trans (hb11.mono hb10.size)
 have b711:Below w7.heap.size w7 w11:=b79.trans (b911.mono b79.size)
 have hL11:=hL.below (b57.trans (b711.mono b57.size))
 have hE11:=hE7.below b711
 go_upto_region 5 with fail
 have hL11':a8 w4.heap.size aV.length w11 (.slice ao 4 co) L:=by rw[HNL.out];exact hL11
 obtain⟨g,cap,u2,_,e1,hgl,s2,_,i2,_⟩:=d9 hL11' hLm (i:=2) (by decide)
 obtain⟨g',cap',u3,_,e2,_,s3,_,i3,_⟩:=d9 hL11' hLm (i:=3) (by decide)
 cases e1
 cases e2
 have j2:bL w11 u2 [2,1]:=i2.q
 have j3:bL w11 u3 [0,0]:=i3.q
 obtain⟨a2,k2,hs2⟩:=i2.slice
 obtain⟨a3,k3,hs3⟩:=i3.slice
 have s2:w11.cell? ⟨g,4,none⟩=some u2:=s2
 have s3:w11.cell? ⟨g,6,none⟩=some u3:=s3
 subst hs2
 subst hs3
 have jE:=hE11.q
 clear hLm hL hL11 hL11' i2 i3 HNL hE7 hE11 hb5 hb6 hb7 hb8 hb9 hb10 hb11 b57 b79 b911 b711
 go_wp2_with fail
 have hbA:Below w11.heap.size w11 (w11.alloc (.cells #[.int .i64 2,.int .i64 1] 3)):=(Below.refl _ _).alloc (uo _) _
 refine (cQ _ _ [2,1] [2,1] _ (j2.below hbA) (dw w11 2 1) (by decide) (by decide)).mono ?_
 rintro e w12 ⟨rfl,hb12⟩
 rw[show decide (([2,1]:List Int)=[2,1])=true from rfl]
 have b12:Below w11.heap.size w11 w12:=hbA.trans (hb12.mono hbA.size)
 have s3:=(b12.cell (p:=⟨g,6,none⟩) hgl).trans s3
 have j3:=j3.below b12
 have jE:=jE.below b12
 have B12:=B11.trans (b12.mono B11.size)
 clear hbA hb12 b12 j2 s2
 go_wp2_with fail
 have hbA:Below w12.heap.size w12 (w12.alloc (.cells #[.int .i64 0,.int .i64 0] 3)):=(Below.refl _ _).alloc (uo _) _
 refine (cQ _ _ [0,0] [0,0] _ (j3.below hbA) (dw w12 0 0) (by decide) (by decide)).mono ?_
 rintro e w13 ⟨rfl,hb13⟩
 rw[show decide (([0,0]:List Int)=[0,0])=true from rfl]
 have b13:Below w12.heap.size w12 w13:=hbA.trans (hb13.mono hbA.size)
 have jE:=jE.below b13
 have B13:=B12.trans (b13.mono B12.size)
 clear hbA hb13 b13 j3 s3
 go_wp2_with fail
 refine (kP w13).mono ?_
 rintro e w14 ⟨c14,rfl,hE14,hb14⟩
 have jE:=jE.below hb14
 have B14:=B13.trans (hb14.mono B13.size)
 go_wp2_with fail
 refine (iF _ _ cm cm _ jE hE14.q (by decide) (by decide)).mono ?_
 rintro e w15 ⟨rfl,hb15⟩
 rw[show decide (cm=cm)=true from by simp]
 go_wp2_with fail
 go_ret
 exact⟨rfl,B14.trans (hb15.mono B14.size)⟩
end Go.Proofs.YtlkniohhalnjjaaGreatDoor
