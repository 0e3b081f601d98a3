/- Lemmas of this claim. -/
import Derived.Test.YtlkniohhalnjjaaGreatDoorKKmin
set_option linter.all false
set_option maxRecDepth 100000
set_option maxHeartbeats 8000000
namespace Go.Proofs.YtlkniohhalnjjaaGreatDoor
open Go.RowKit Dc Dg
def lw:List Ev:=[⟨0,0⟩,⟨0,1⟩,⟨0,1⟩,⟨1,0⟩]
theorem sv:bI aV lw=0:=by decide +kernel
theorem oS:dt aV lw=[⟨1,0,0,0,0,0⟩,⟨1,0,0,1,0,0⟩,⟨0,0,0,0,0,0⟩,⟨0,0,0,0,0,0⟩]:=by decide +kernel
theorem qD:kB aV St.zero=(cm,0):=by decide +kernel
theorem ss:dj aV (0,0) (1,1)=([],4):=by decide +kernel
theorem qE:dj aV (0,0) (0,1)=([],2):=by decide +kernel
theorem qH:gE aV 0 0=(6,0):=by decide +kernel
theorem oU:gE aV 1 3=(8,0):=by decide +kernel
theorem su:nZ aV cm=8:=by decide +kernel
theorem qG:bI aV cm=0:=by decide +kernel
theorem ua:cx (ad aV) ⟨0,3⟩=false:=by decide +kernel
theorem qF:cA aV [0,0] [0,0] St.zero:=⟨ar.At.zero (aI dC),fun g hg=>by
 have h:∀ g,g<2→cY (ad aV) St.zero g=true:=by decide +kernel
 exact h g hg,rfl,rfl⟩
theorem tq:∀ z,¬ cA aV [0,1] [0,0] z:=fun z h=>by
 have e:=h.fill (by decide)
 have h1:=h.held 1 (by decide)
 rw[e] at h1
 have h2:cY (ad aV) (aH [0,1] [0,0] aV.length) 1=false:=by decide +kernel
 rw[h2] at h1
 cases h1
def pU:List Rg:=[⟨gD,fG,gD,1,1,[],[]⟩,⟨fG,gD,gD,2,5,[],[]⟩,⟨fq,nH,fG,1,10,[],[]⟩]
def iv:List Gd:=[⟨s_,pU⟩,⟨ol,pp⟩]
theorem sA:aS iv=false:=by decide +kernel
theorem sw:aS []=false:=by decide +kernel
theorem tQ (W:World) (b1 b2 b3 b4 b5:Nat)
  (h1:W.heap[b1]?=some (.cells #[.string ⟨#[100,111,119,110]⟩,.string ⟨#[103,114,101,101,110]⟩,.string ⟨#[100,111,119,110]⟩,.int .i64 1,.int .i64 1,.slice none 0 0,.slice none 0 0,.string ⟨#[103,114,101,101,110]⟩,.string ⟨#[100,111,119,110]⟩,.string ⟨#[100,111,119,110]⟩,.int .i64 2,.int .i64 5,.slice none 0 0,.slice none 0 0,.string ⟨#[104,101,108,100]⟩,.string ⟨#[]⟩,.string ⟨#[103,114,101,101,110]⟩,.int .i64 1,.int .i64 10,.slice none 0 0,.slice none 0 0] 58 (0,0)))
  (h2:W.heap[b2]?=some (.cells #[.string ⟨#[104,101,108,100]⟩] 9 (0,0)))
  (h3:W.heap[b3]?=some (.cells #[.int .i64 0,.slice (some ⟨b2,0,none⟩) 1 1] 75 (0,0)))
  (h4:W.heap[b4]?=some (.cells #[.string ⟨#[108,111,119]⟩,.string ⟨#[102,117,108,108]⟩,.string ⟨#[108,111,119]⟩,.int .i64 1,.int .i64 2,.slice none 0 0,.slice none 0 0,.string ⟨#[102,117,108,108]⟩,.string ⟨#[]⟩,.string ⟨#[108,111,119]⟩,.int .i64 1,.int .i64 3,.slice (some ⟨b3,0,none⟩) 1 1,.slice none 0 0] 58 (0,0)))
  (h5:W.heap[b5]?=some (.cells #[.string ⟨#[97,114,109]⟩,.slice (some ⟨b1,0,none⟩) 3 3,.string ⟨#[112,111,119,101,114]⟩,.slice (some ⟨b4,0,none⟩) 2 2] 61 (0,0)))
  : aQ W (some ⟨b5,0,none⟩) iv:=by
 have hw:bQ W (some ⟨b2,0,none⟩) [fq]:=⟨fun _=>⟨b2,0,rfl,ag h2,fun i hi=>by
  match i,hi with
  | 0,_=>exact (aa h2 _).trans rfl⟩⟩
 have hn:ee W (some ⟨b3,0,none⟩) [⟨0,[fq]⟩]:=⟨fun _=>⟨b3,0,rfl,ag h3,fun i hi=>by
  match i,hi with
  | 0,_=>exact⟨some ⟨b2,0,none⟩,1,(aa h3 _).trans rfl,(aa h3 _).trans rfl,hw⟩⟩⟩
 have hr:bP W (some ⟨b1,0,none⟩) pU:=⟨fun _=>⟨b1,0,rfl,ag h1,fun i hi=>by
  match i,hi with
  | 0,_=>exact⟨none,0,none,0,(aa h1 _).trans rfl,(aa h1 _).trans rfl,(aa h1 _).trans rfl,(aa h1 _).trans rfl,(aa h1 _).trans rfl,(aa h1 _).trans rfl,(aa h1 _).trans rfl,fg _,dO _⟩
  | 1,_=>exact⟨none,0,none,0,(aa h1 _).trans rfl,(aa h1 _).trans rfl,(aa h1 _).trans rfl,(aa h1 _).trans rfl,(aa h1 _).trans rfl,(aa h1 _).trans rfl,(aa h1 _).trans rfl,fg _,dO _⟩
  | 2,_=>exact⟨none,0,none,0,(aa h1 _).trans rfl,(aa h1 _).trans rfl,(aa h1 _).trans rfl,(aa h1 _).trans rfl,(aa h1 _).trans rfl,(aa h1 _).trans rfl,(aa h1 _).trans rfl,fg _,dO _⟩⟩⟩
 have hp:bP W (some ⟨b4,0,none⟩) pp:=⟨fun _=>⟨b4,0,rfl,ag h4,fun i hi=>by
  match i,hi with
  | 0,_=>exact⟨none,0,none,0,(aa h4 _).trans rfl,(aa h4 _).trans rfl,(aa h4 _).trans rfl,(aa h4 _).trans rfl,(aa h4 _).trans rfl,(aa h4 _).trans rfl,(aa h4 _).trans rfl,fg _,dO _⟩
  | 1,_=>exact⟨some ⟨b3,0,none⟩,1,none,0,(aa h4 _).trans rfl,(aa h4 _).trans rfl,(aa h4 _).trans rfl,(aa h4 _).trans rfl,(aa h4 _).trans rfl,(aa h4 _).trans rfl,(aa h4 _).trans rfl,hn,dO _⟩⟩⟩
 exact⟨fun _=>⟨b5,0,rfl,ag h5,fun i hi=>by
  match i,hi with
  | 0,_=>exact⟨some ⟨b1,0,none⟩,3,(aa h5 _).trans rfl,(aa h5 _).trans rfl,hr⟩
  | 1,_=>exact⟨some ⟨b4,0,none⟩,2,(aa h5 _).trans rfl,(aa h5 _).trans rfl,hp⟩⟩⟩
theorem rV:rR iv:=by
 have hR:∀ g∈iv,∀ r∈g.rungs,or r:=by
  intro g hg r hr
  simp only[iv,uy,ux,or_false] at hg
  rcases hg with rfl | rfl
  ·simp only[pU,uy,ux,or_false] at hr
   rcases hr with rfl | rfl | rfl<;>exact⟨by decide,by decide,by decide,fun x hx=>by cases hx⟩
  ·simp only[pp,uy,ux,or_false] at hr
   rcases hr with rfl | rfl
   ·exact⟨by decide,by decide,by decide,fun x hx=>by cases hx⟩
   ·refine⟨by decide,by decide,by decide,fun x hx=>?_⟩
    simp only[uy,ux,or_false] at hx
    subst hx
    decide
 refine⟨fun g hg=>?_,hR,fun g hg=>?_⟩
 ·simp only[iv,uy,ux,or_false] at hg
  rcases hg with rfl | rfl<;>decide
 ·simp only[iv,uy,ux,or_false] at hg
  rcases hg with rfl | rfl<;>decide
structure pK (W:World) (b1 b2 b3 b4 b5:Nat):Prop where
 h1:W.heap[b1]?=some (.cells #[.string ⟨#[100,111,119,110]⟩,.string ⟨#[103,114,101,101,110]⟩,.string ⟨#[100,111,119,110]⟩,.int .i64 1,.int .i64 1,.slice none 0 0,.slice none 0 0,.string ⟨#[103,114,101,101,110]⟩,.string ⟨#[104,101,108,100]⟩,.string ⟨#[100,111,119,110]⟩,.int .i64 2,.int .i64 5,.slice none 0 0,.slice none 0 0,.string ⟨#[104,101,108,100]⟩,.string ⟨#[]⟩,.string ⟨#[103,114,101,101,110]⟩,.int .i64 1,.int .i64 10,.slice none 0 0,.slice none 0 0] 58 (0,0))
 h2:W.heap[b2]?=some (.cells #[.string ⟨#[104,101,108,100]⟩] 9 (0,0))
 h3:W.heap[b3]?=some (.cells #[.int .i64 0,.slice (some ⟨b2,0,none⟩) 1 1] 75 (0,0))
 h4:W.heap[b4]?=some (.cells #[.string ⟨#[108,111,119]⟩,.string ⟨#[102,117,108,108]⟩,.string ⟨#[108,111,119]⟩,.int .i64 1,.int .i64 2,.slice none 0 0,.slice none 0 0,.string ⟨#[102,117,108,108]⟩,.string ⟨#[]⟩,.string ⟨#[108,111,119]⟩,.int .i64 1,.int .i64 3,.slice (some ⟨b3,0,none⟩) 1 1,.slice none 0 0] 58 (0,0))
 h5:W.heap[b5]?=some (.cells #[.string ⟨#[97,114,109]⟩,.slice (some ⟨b1,0,none⟩) 3 3,.string ⟨#[112,111,119,101,114]⟩,.slice (some ⟨b4,0,none⟩) 2 2] 61 (0,0))
theorem pK.below {W W':World}{b1 b2 b3 b4 b5:Nat} (h:pK W b1 b2 b3 b4 b5) (hb:Below W.heap.size W W'):pK W' b1 b2 b3 b4 b5 :=
 ⟨(hb.block _ (ag h.h1)).trans h.h1,(hb.block _ (ag h.h2)).trans h.h2,(hb.block _ (ag h.h3)).trans h.h3,(hb.block _ (ag h.h4)).trans h.h4,(hb.block _ (ag h.h5)).trans h.h5⟩
theorem tP (w:World):Calls Tryz.prog 5 #[] w (fun e w'=>∃ b1 b2 b3 b4 b5,e=.returned (.agg #[.slice (some ⟨b5,0,none⟩) 2 2])∧pK w' b1 b2 b3 b4 b5∧w.heap.size≤b1∧Below w.heap.size w w'):=by
 go_enter Tryz.func5,Tryz.ntmps5
 go_wp2_with fail
 obtain⟨v0,hv0⟩:∃ v0,v0=w.alloc (.cells #[.slice (some ⟨w.heap.size+1+1+1+1+1,0,none⟩) 2 2] 28):=⟨_,rfl⟩
 have z0:v0.heap.size=w.heap.size+1:=by rw[hv0];simp
 have n0:v0.heap[w.heap.size]?=some (.cells #[.slice (some ⟨w.heap.size+1+1+1+1+1,0,none⟩) 2 2] 28 (0,0)):=by rw[hv0];exact heap_alloc_new _ _
 have d0:Below w.heap.size w v0:=by rw[hv0];exact (Below.refl _ _).alloc (uo _) _
 obtain⟨v1,hv1⟩:∃ v1,v1=v0.alloc (.cells #[.string ⟨#[100,111,119,110]⟩,.string ⟨#[103,114,101,101,110]⟩,.string ⟨#[100,111,119,110]⟩,.int .i64 1,.int .i64 1,.slice none 0 0,.slice none 0 0,.string ⟨#[103,114,101,101,110]⟩,.string ⟨#[104,101,108,100]⟩,.string ⟨#[100,111,119,110]⟩,.int .i64 2,.int .i64 5,.slice none 0 0,.slice none 0 0,.string ⟨#[104,101,108,100]⟩,.string ⟨#[]⟩,.string ⟨#[103,114,101,101,110]⟩,.int .i64 1,.int .i64 10,.slice none 0 0,.slice none 0 0] 58):=⟨_,rfl⟩
 have z1:v1.heap.size=w.heap.size+1+1:=by rw[hv1];simp[z0]
 have n1:v1.heap[w.heap.size+1]?=some (.cells #[.string ⟨#[100,111,119,110]⟩,.string ⟨#[103,114,101,101,110]⟩,.string ⟨#[100,111,119,110]⟩,.int .i64 1,.int .i64 1,.slice none 0 0,.slice none 0 0,.string ⟨#[103,114,101,101,110]⟩,.string ⟨#[104,101,108,100]⟩,.string ⟨#[100,111,119,110]⟩,.int .i64 2,.int .i64 5,.slice none 0 0,.slice none 0 0,.string ⟨#[104,101,108,100]⟩,.string ⟨#[]⟩,.string ⟨#[103,114,101,101,110]⟩,.int .i64 1,.int .i64 10,.slice none 0 0,.slice none 0 0] 58 (0,0)):=by rw[hv1,←z0];exact heap_alloc_new _ _
 have d1:Below v0.heap.size v0 v1:=by rw[hv1];exact (Below.refl _ _).alloc (uo _) _
 obtain⟨v2,hv2⟩:∃ v2,v2=v1.alloc (.cells #[.string ⟨#[104,101,108,100]⟩] 9):=⟨_,rfl⟩
 have z2:v2.heap.size=w.heap.size+1+1+1:=by rw[hv2];simp[z1]
 have n2:v2.heap[w.heap.size+1+1]?=some (.cells #[.string ⟨#[104,101,108,100]⟩] 9 (0,0)):=by rw[hv2,←z1];exact heap_alloc_new _ _
 have d2:Below v1.heap.size v1 v2:=by rw[hv2];exact (Below.refl _ _).alloc (uo _) _
 obtain⟨v3,hv3⟩:∃ v3,v3=v2.alloc (.cells #[.int .i64 0,.slice (some ⟨w.heap.size+1+1,0,none⟩) 1 1] 75):=⟨_,rfl⟩
 have z3:v3.heap.size=w.heap.size+1+1+1+1:=by rw[hv3];simp[z2]
 have n3:v3.heap[w.heap.size+1+1+1]?=some (.cells #[.int .i64 0,.slice (some ⟨w.heap.size+1+1,0,none⟩) 1 1] 75 (0,0)):=by rw[hv3,←z2];exact heap_alloc_new _ _
 have d3:Below v2.heap.size v2 v3:=by rw[hv3];exact (Below.refl _ _).alloc (uo _) _
 obtain⟨v4,hv4⟩:∃ v4,v4=v3.alloc (.cells #[.string ⟨#[108,111,119]⟩,.string ⟨#[102,117,108,108]⟩,.string ⟨#[108,111,119]⟩,.int .i64 1,.int .i64 2,.slice none 0 0,.slice none 0 0,.string ⟨#[102,117,108,108]⟩,.string ⟨#[]⟩,.string ⟨#[108,111,119]⟩,.int .i64 1,.int .i64 3,.slice (some ⟨w.heap.size+1+1+1,0,none⟩) 1 1,.slice none 0 0] 58):=⟨_,rfl⟩
 have z4:v4.heap.size=w.heap.size+1+1+1+1+1:=by rw[hv4];simp[z3]
 have n4:v4.heap[w.heap.size+1+1+1+1]?=some (.cells #[.string ⟨#[108,111,119]⟩,.string ⟨#[102,117,108,108]⟩,.string ⟨#[108,111,119]⟩,.int .i64 1,.int .i64 2,.slice none 0 0,.slice none 0 0,.string ⟨#[102,117,108,108]⟩,.string ⟨#[]⟩,.string ⟨#[108,111,119]⟩,.int .i64 1,.int .i64 3,.slice (some ⟨w.heap.size+1+1+1,0,none⟩) 1 1,.slice none 0 0] 58 (0,0)):=by rw[hv4,←z3];exact heap_alloc_new _ _
 have d4:Below v3.heap.size v3 v4:=by rw[hv4];exact (Below.refl _ _).alloc (uo _) _
 obtain⟨v5,hv5⟩:∃ v5,v5=v4.alloc (.cells #[.string ⟨#[97,114,109]⟩,.slice (some ⟨w.heap.size+1,0,none⟩) 3 3,.string ⟨#[112,111,119,101,114]⟩,.slice (some ⟨w.heap.size+1+1+1+1,0,none⟩) 2 2] 61):=⟨_,rfl⟩
 have z5:v5.heap.size=w.heap.size+1+1+1+1+1+1:=by rw[hv5];simp[z4]
 have n5:v5.heap[w.heap.size+1+1+1+1+1]?=some (.cells #[.string ⟨#[97,114,109]⟩,.slice (some ⟨w.heap.size+1,0,none⟩) 3 3,.string ⟨#[112,111,119,101,114]⟩,.slice (some ⟨w.heap.size+1+1+1+1,0,none⟩) 2 2] 61 (0,0)):=by rw[hv5,←z4];exact heap_alloc_new _ _
 have d5:Below v4.heap.size v4 v5:=by rw[hv5];exact (Below.refl _ _).alloc (uo _) _
 rw[←hv0,←hv1,←hv2,←hv3,←hv4,←hv5]
 clear hv0 hv1 hv2 hv3 hv4 hv5
 have hG:pK v5 (w.heap.size+1) (w.heap.size+1+1) (w.heap.size+1+1+1) (w.heap.size+1+1+1+1) (w.heap.size+1+1+1+1+1):=⟨((d5.block _ (by omega)).trans ((d4.block _ (by omega)).trans ((d3.block _ (by omega)).trans ((d2.block _ (by omega)).trans (n1))))),((d5.block _ (by omega)).trans ((d4.block _ (by omega)).trans ((d3.block _ (by omega)).trans (n2)))),((d5.block _ (by omega)).trans ((d4.block _ (by omega)).trans (n3))),((d5.block _ (by omega)).trans (n4)),(n5)⟩
 have hB:Below w.heap.size w v5:=((((d0.trans (d1.mono (by omega))).trans (d2.mono (by omega))).trans (d3.mono (by omega))).trans (d4.mono (by omega))).trans (d5.mono (by omega))
 have q0:v5.cell? ⟨w.heap.size,0,none⟩=some (.slice (some ⟨w.heap.size+1+1+1+1+1,0,none⟩) 2 2):=aa ((d5.block _ (by omega)).trans ((d4.block _ (by omega)).trans ((d3.block _ (by omega)).trans ((d2.block _ (by omega)).trans ((d1.block _ (by omega)).trans (n0)))))) 0
 try simp only[Exit.inBlock,Exit.then]
 refine bodyPost_ret (v:=.agg #[.slice (some ⟨w.heap.size+1+1+1+1+1,0,none⟩) 2 2]) (by simp[results,Tryz.results5,go_sem,q0]) rfl ?_
 exact⟨_,_,_,_,_,rfl,hG,by omega,hB⟩
end Go.Proofs.YtlkniohhalnjjaaGreatDoor
