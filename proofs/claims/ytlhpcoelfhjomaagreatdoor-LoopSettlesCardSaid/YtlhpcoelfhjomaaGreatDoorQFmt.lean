/- L -/
import Derived.Lib.ItoaMem
import Derived.Lib.Strings
import Derived.Lib.Slices
import Derived.Lib.Walk
import Derived.Lib.Builder
import Derived.Lib.AppendStr
import Derived.Lib.UnsafeStr
import Derived.Laws.Externs
import Derived.Deep.LoopGhost
import Derived.Test.YtlhpcoelfhjomaaGreatDoorQShelf
import Derived.Test.YtlhpcoelfhjomaaGreatDoorQMach
import Derived.Test.YtlhpcoelfhjomaaGreatDoorQPlain
import Derived.Test.YtlhpcoelfhjomaaGreatDoorQNat
import Derived.Test.YtlhpcoelfhjomaaGreatDoorQOver
set_option linter.all false
set_option maxRecDepth 100000
set_option maxHeartbeats 8000000
namespace Go.Proofs.YtlhpcoelfhjomaaGreatDoor
open Go.RowKit Dg
def IsN (w:World) (v:Value) (n:Nat):Prop:=IsU w v (aq BB n)
theorem IsN.below {w w':World}{v:Value}{n:Nat} (h:IsN w v n) (hb:Below w.heap.size w w'):IsN w' v n:=IsU.below h hb
def Few (n:Nat):Prop:=(aq BB n).length<100000
theorem Few.mono {m n:Nat} (h:Few n) (hm:m<=n):Few m:=by
 unfold Few at *
 have h1:=bV aT n;have:=aZ aT (n:=m) (k:=(aq BB n).length) (by omega);omega
theorem wA (va vb:Value) (a b:Nat) (w:World) (ha:IsN w va a) (hb:IsN w vb b) (hfa:Few a) (hfb:Few b) (h0:0<b) :
  Calls Tryz.prog 109 #[va,vb] w fun e w'=>∃ vq vr,e=.returned (.tuple #[vq,vr])/\IsN w' vq (a / b)/\IsN w' vr (a % b)/\Below w.heap.size w w':=by
 have va1:=aA aT a;have vb1:=aA aT b;unfold Few at hfa hfb;unfold IsN at *
 have hpos:0<(aq BB b).length:=by
  apply IU.2
  intro e;have:=(dy aT).1 e;omega
 rcases JD a b with hlt | hge
 ·have:=Bt va vb (aq BB a) (aq BB b) w ha hb (cK a) (cK b) (by rw[va1,vb1];exact hlt);rw[va1,vb1] at this;exact this
 ·by_cases h1:(aq BB b).length=1
  ·have:=DS va vb (aq BB a) (aq BB b) w ha hb (cK a) (cK b) (by omega) h1 (by rw[va1,vb1];exact hge);rw[va1,vb1] at this;exact this
  ·have:=Bu va vb (aq BB a) (aq BB b) w ha hb (cK a) (cK b) hfa hfb (by omega) (by rw[va1,vb1];exact hge);rw[va1,vb1] at this;exact this
theorem xR (va vb:Value) (a b:Nat) (w:World) (ha:IsN w va a) (hb:IsN w vb b) (hfa:Few a) (hfb:Few b) :
  Calls Tryz.prog 108 #[va,vb] w fun e w'=>∃ v,e=.returned v/\IsN w' v (Nat.gcd a b)/\Below w.heap.size w w':=by
 go_enter Tryz.func108,Tryz.ntmps108;go_wp2
 go_loopg [0,1] b (fun g s0 s1 wr=>∃ x:Nat,Hid (IsN wr s0 x)/\Hid (IsN wr s1 g)/\Hid (Few x)/\Hid (Few g)/\Hid (Nat.gcd g x=Nat.gcd a b)/\Below w.heap.size w wr)
 case atStart=>exact⟨a,ha,hb,hfa,hfb,Nat.gcd_comm b a,LN _ _⟩
 case round =>
  obtain⟨x,hx,hy,hfx,hfy,hg,hbl⟩:=hrel;have hy':=hy.out;obtain⟨p,cap,rfl,hlc,hcm,_⟩:=hy';by_cases h0:gk=0
  ·subst h0;have hl:(aq BB 0).length=0:=by rw[cz];rfl
   go_wp2;go_ret;refine⟨_,rfl,?_,hbl⟩;have:=hg.out;rw[Kr] at this;rw[<-this];exact hx.out
  ·have hpos:0<(aq BB gk).length:=by
    apply IU.2
    intro e;exact h0 ((dy aT).1 e)
   have hmod:x % gk<gk:=Jw _ (JU h0);go_wp2_with (go_at_call 109;refine (wA _ _ x gk _ hx.out hy.out hfx.out hfy.out (by omega)).mono ?_;rintro e w1 ⟨vq,vr,rfl,hq,hr,hb1⟩)
   go_roundg (x % gk)
   case rel =>
    exact⟨gk,IsN.below hy.out hb1,hr,hfy,Few.mono hfy.out (JI hmod),by unfold Hid;have:=hg.out;rw[Nat.gcd_rec] at this;exact this,LK hbl hb1⟩
   case measure=>exact hmod
open Go.RowKit Dc Go.Shelf
theorem GK (n:Nat):Lib.decDigits n=dec n:=by
 induction n using Nat.strongRecOn with
 | ind n ih =>
  by_cases h:n<10
  ·rw[ez h,Lib.decDigits,dif_pos h];rfl
  ·rw[jA (by omega),Lib.decDigits,dif_neg h,ih (n / 10) (by omega)];rfl
theorem Da (w:World) (o:Obj) (dk:Array UInt8) (k:Nat):Below w.heap.size w ((Go.Sort.putRow (fun (b:UInt8)=>Value.int .u8 (b.toNat:Int)) (w.alloc o) w.heap.size 0 dk).drewN k):=by
 rw[Go.Sort.alloc_eq_grow];obtain⟨os',_,e⟩:=Go.Sort.putRow_grow_new (fun (b:UInt8)=>Value.int .u8 (b.toNat:Int)) w #[o] w.heap.size 0 dk (Iw _);rw[e];exact⟨rfl,rfl,rfl,by show w.heap.size<=(w.heap++os').size;simp,fun j hj=>by show (w.heap++os')[j]?=_;rw[Array.getElem?_append_left hj]⟩
theorem vN (w:World) (T:TypeId) (nd:Nat) (hs:nd<=24):Go.Sort.Holds (fun (b:UInt8)=>Value.int .u8 (b.toNat:Int)) (w.alloc (.cells Lib.zeros24 T)) w.heap.size 0 (Array.replicate nd (0:UInt8)):=fun j hj=>by
 have hj':j<nd:=by simpa using hj
 refine⟨?_,World.frozen?_alloc_new _ _ _ _⟩;rw[World.cell?_alloc_new,Lib.zeros24_at _ (by omega),getElem!_pos _ j hj];simp
def uN (w:World):Prop:=Lib.TabIs Tryz.prog w "internal/strconv.uint64pow10" .u64 Lib.pow10Tab
theorem ol:Tryz.prog.globalNamed "internal/strconv.uint64pow10" = some 5:=by kernel_rfl
structure Gw (w:World):Prop where
 pow:uN w
 ml:∃ m,w.cell? ⟨2,0,none⟩=some (.int .i64 m)
 sz:8<=w.heap.size
theorem Gw.below {w w':World} (h:Gw w) (hb:Below w.heap.size w w'):Gw w':=by
 have hs:=h.sz;refine⟨?_,?_,IB hs hb.size⟩
 ·have hp:=h.pow;unfold uN Lib.TabIs World.var? at *
  rw[ol] at *
  simp only[Option.bind_some] at *
  rw[hb.block 5 (by omega)];exact hp
 ·obtain⟨m,hm⟩:=h.ml;exact⟨m,(hb.cell (p:=⟨2,0,none⟩) (by show 2<w.heap.size;omega)).trans hm⟩
theorem tQ (u:Nat) (hu:u<18446744073709551616) (w:World) (htab:uN w) :
  Calls Tryz.prog 229 #[.int .u64 u,.int .i64 10] w fun e w'=>e=.returned (.string ⟨(dec u).toArray⟩)/\Below w.heap.size w w':=by
 rw[<-GK];by_cases hs:u<100
 ·go_enter Tryz.func229,Tryz.ntmps229;go_wp2_with (go_at_call 246;refine (Tryz.internal_strconv_small u hs _).mono ?_;rintro e w' ⟨rfl,rfl⟩)
  go_ret;exact⟨rfl,LN _ _⟩
 ·have hu1:1<=u:=by omega
  have hnd20:Lib.nDigits u<=20:=by have:=Lib.numDigits_eq u hu1 hu;split at this<;>omega
  have hb3:Lib.nDigits u<=24:=by omega
  have hal:Tryz.prog.arrayLen 260=24:=by kernel_rfl
  have hsl1:∀ W,(Instr.sliceAt 260 (.pointer (some ⟨w.heap.size,0,none⟩)) none (some (.int .i64 (Lib.nDigits u:Int))) none).run Tryz.prog W=.ok (.slice (some ⟨w.heap.size,0,none⟩) (Lib.nDigits u) 24) W:=fun W=>by
   rw[run_sliceAt_array_h W 260 ⟨w.heap.size,0,none⟩ (by kernel_rfl) .i64 (Lib.nDigits u:Int) (by omega) (by rw[hal];omega)];go_simp
  have hH0:=vN w 260 (Lib.nDigits u) hb3;have hfmt:=Tryz.internal_strconv_formatBase10 w.heap.size 0 24 u (Array.replicate (Lib.nDigits u) 0) (w.alloc (.cells Lib.zeros24 260)) hH0 (by rw[KA];exact Lib.lt_pow_nDigits u) hu (by rw[KA];omega);rw[KA] at hfmt;have HH0:=Ip hH0;clear hH0 hal;go_enter Tryz.func229,Tryz.ntmps229
  go_wp2_with (first
    | (go_at_call 247;refine (Tryz.internal_strconv_numDigits u hu1 hu _ (Lib.tabIs_alloc htab _)).mono ?_;rintro e w' ⟨rfl,rfl⟩))
  go_at_call 248
  refine hfmt.mono ?_;rintro e w' ⟨rfl,k,v',dk,rfl,hF⟩;have hal:Tryz.prog.arrayLen 260=24:=by kernel_rfl
  have hcv:(convert 209 9 (.slice (some ⟨w.heap.size,0,none⟩) (Lib.nDigits u) 24)).run Tryz.prog ((Go.Sort.putRow (fun (b:UInt8)=>Value.int .u8 (b.toNat:Int)) (w.alloc (.cells Lib.zeros24 260)) w.heap.size 0 dk).drewN k)=.ok (.string ⟨(Lib.decDigits u).toArray⟩) ((Go.Sort.putRow (fun (b:UInt8)=>Value.int .u8 (b.toNat:Int)) (w.alloc (.cells Lib.zeros24 260)) w.heap.size 0 dk).drewN k):=by
   have h:=run_convert_bytes_back (P:=Tryz.prog) ((Go.Sort.putRow (fun (b:UInt8)=>Value.int .u8 (b.toNat:Int)) (w.alloc (.cells Lib.zeros24 260)) w.heap.size 0 dk).drewN k) 209 9 5 ⟨w.heap.size,0,none⟩ 24 (Lib.decDigits u) Tryz.underlying209 Tryz.underlying5 Tryz.underlying9 (fun j hj=>by
     rw[Lib.row_is_numeral hF j hj,Lib.add_plain,World.cell?_drewN]
     exact Go.Sort.cell?_putRow (fun (b:UInt8)=>Value.int .u8 (b.toNat:Int)) _ w.heap.size 0 _ dk HH0.out (by rw[hF.size,KA]) j (by rw[hF.size];rw[Lib.decDigits_length] at hj;exact hj))
   rw[Lib.decDigits_length] at h;exact h
  clear hal;go_wp2;go_ret;exact⟨rfl,Da w _ dk k⟩
/-- strconv.FormatUint at base 10: the decimal text. -/
theorem Fq (z:Int) (u:Nat) (hz:z=u) (hu:u<18446744073709551616) (w:World) (htab:uN w) :
  Calls Tryz.prog 202 #[.int .u64 z,.int .i64 10] w fun e w'=>e=.returned (.string ⟨(dec u).toArray⟩)/\Below w.heap.size w w':=by
 subst hz;go_enter Tryz.func202,Tryz.ntmps202;go_wp2_with (go_at_call 229;refine (tQ u hu _ htab).mono ?_;rintro e w' ⟨rfl,hb⟩)
 go_ret;exact⟨rfl,hb⟩
open Go.RowKit
theorem ou:(Tryz.prog.info? 246).map (·.size)=some 2:=by kernel_rfl
theorem vW:liesAt Tryz.prog Tryz.prog.depth 246 (2 / Tryz.prog.cellsOf 246) 0 246 1=true:=by kernel_rfl
theorem Do:(Tryz.prog.info? 5).map (fun i=>(i.zero,i.size,i.bytes))=some (some (.int .u8 0),1,1):=by kernel_rfl
theorem pG (b:Nat) (w:World) (h0:w.cell? ⟨b,0,none⟩=some (.pointer (some ⟨b,0,none⟩))) :
  Calls Tryz.prog 250 #[.pointer (some ⟨b,0,none⟩)] w fun e w'=>e=.returned (.tuple #[])/\w'=w:=by
 obtain⟨j,hj,_⟩:=Option.map_eq_some_iff.1 ou;go_enter Tryz.func250,Tryz.ntmps250;go_wp2;rw[Lib.run_neq_ptr_same w _ Tryz.underlying244 hj];go_wp2
 go_end0
 exact⟨rfl,rfl⟩
theorem oI (b:Nat) (w:World) (h0:w.cell? ⟨b,0,none⟩=some (.pointer none)) (hsh:w.shape? b=some (246,2)) (hfz:w.frozen? ⟨b,0,none⟩=false) :
  Calls Tryz.prog 250 #[.pointer (some ⟨b,0,none⟩)] w fun e w'=>e=.returned (.tuple #[])/\w'=w.setCell ⟨b,0,none⟩ (.pointer (some ⟨b,0,none⟩)):=by
 obtain⟨j,hj,hjs⟩:=Option.map_eq_some_iff.1 ou;go_enter Tryz.func250,Tryz.ntmps250;go_wp2;rw[Lib.run_to_unsafe w ⟨b,0,none⟩ Tryz.underlying244 Tryz.underlying284 hj (by rw[hjs];decide) hsh (Nat.zero_lt_succ 1)];simp only[Result.andThen];rw[Oper.upon_value];go_wp2;rw[run_callFunc_extern Tryz.func267 (by kernel_rfl) (by kernel_rfl) (by kernel_rfl) (e:=Extern.AbiNoEscape.same) (by kernel_rfl)];rw[Lib.run_noEscape];simp only[Result.andThen];rw[Oper.upon_value];go_wp2;rw[Lib.run_from_unsafe w ⟨b,0,none⟩ Tryz.underlying284 Tryz.underlying244 hj hsh vW];simp only[Result.andThen];rw[Oper.upon_value];go_wp2
 go_end0
 exact⟨rfl,rfl⟩
theorem rJ (B b:Nat) (bs:List Value) (w:World) (h:Lib.IsBuilder 246 5 B b bs w) :
  Calls Tryz.prog 250 #[.pointer (some ⟨b,0,none⟩)] w fun e w'=>e=.returned (.tuple #[])/\(Lib.BuilderAt 246 5 B b (.pointer (some ⟨b,0,none⟩)) bs w'/\Below B w w'):=by
 rcases h with h | h
 ·refine (oI b w h.cell0 h.shape h.frozen0).mono ?_;rintro e w' ⟨rfl,rfl⟩;exact⟨rfl,h.used _,(LN B w).setCell (p:=⟨b,0,none⟩) h.1 _⟩
 ·refine (pG b w h.cell0).mono ?_;rintro e w' ⟨rfl,rfl⟩;exact⟨rfl,h,LN B _⟩
theorem jX (B b:Nat) (bs:List Value) (s:ByteArray) (w:World) (h:Lib.IsBuilder 246 5 B b bs w) (hlen:bs.length+s.size<=140737488355328) (hBw:B<=w.heap.size) :
  Calls Tryz.prog 230 #[.pointer (some ⟨b,0,none⟩),.string s] w fun e w'=>e=.returned (.tuple #[.int .i64 s.size,.nilIface])/\(Lib.IsBuilder 246 5 B b (bs++Lib.strCells s) w'/\Below B w w'):=by
 obtain⟨i0,hi,hz0,hz1,hz2⟩:=info_parts Do;go_enter Tryz.func230,Tryz.ntmps230;go_wp2_with (go_at_call 250;refine (rJ B b bs _ h).mono ?_)
 rintro e w1 ⟨rfl,h1,hb1⟩;obtain⟨hB,v,hbk,hown,hne⟩:=h1;have c0:w1.cell? ⟨b,0,none⟩=some (.pointer (some ⟨b,0,none⟩)):=by rw[Lib.cell_of_heap hbk];rfl
 have c1:w1.cell? ⟨b,1,none⟩=some v:=by rw[Lib.cell_of_heap hbk];rfl
 go_wp2_with (at_builtin;refine Lib.wpList_append_own_string _ rfl _ _ 209 9 rfl B 5 i0 Tryz.underlying209 Tryz.underlying9 hi hz0 hz1 hz2 _ _ _ rfl hown s rfl ?c3 ?c4 ?c5 ?_)
 case c3=>unfold maxLen;omega
 case c4=>omega
 case c5=>have:=hb1.size;omega
 intro v' w2 hown' hgrow _
 have hlt:b<w1.heap.size:=by
  rcases JD b w1.heap.size with h' | h'
  ·exact h'
  ·simp[Km h'] at hbk
 have hb2:w2.heap[b]?=some (.cells #[.pointer (some ⟨b,0,none⟩),v] 246 (0,0)):=by
  rw[hgrow.block b hlt (fun e=>hne e.symm)];exact hbk
 have d0:w2.cell? ⟨b,0,none⟩=some (.pointer (some ⟨b,0,none⟩)):=by rw[Lib.cell_of_heap hb2];rfl
 have d1:w2.cell? ⟨b,1,none⟩=some v:=by rw[Lib.cell_of_heap hb2];rfl
 have f1:w2.frozen? ⟨b,1,none⟩=false:=Lib.frozen_of_heap hb2 1
 obtain⟨ao,n',cap,rfl⟩:∃ ao n' cap,v'=.slice ao n' cap:=by
  rcases hown'.2 with ⟨hv,_⟩ | ⟨g,cap,cur,hv,_⟩
  ·exact⟨_,_,_,hv⟩
  ·exact⟨_,_,_,hv⟩
 go_wp2
 go_ret2
 refine⟨rfl,Or.inr ?_,?_⟩
 ·exact Lib.BuilderAt.put (T:=246) (e:=5) hB hb2 (bs':=bs++Lib.strCells s) (by simpa[Lib.strCells_length] using hown') (by decide)
 ·exact (hb1.grown hgrow (by have:=hb1.size;omega) (fun k hk=>(hown.lt k hk).1)).setCell (p:=⟨b,1,none⟩) hB _
open Go.RowKit Dc Dg
theorem A_ (w:World):Lib.IsBuilder 246 5 w.heap.size w.heap.size [] (w.alloc (.cells #[.pointer none,.slice none 0 0] 246)) :=
 Or.inl ⟨Iw _,.slice none 0 0,heap_alloc_new w _,World.ownsRow_nil _ _ _ _,by simp[Value.ownBlock]⟩
theorem ns {B b:Nat}{bs:List Value}{w w':World} (h:Lib.IsBuilder 246 5 B b bs w) (hb:Below w.heap.size w w'):Lib.IsBuilder 246 5 B b bs w':=by
 have one:∀ p,Lib.BuilderAt 246 5 B b p bs w->Lib.BuilderAt 246 5 B b p bs w':=by
  rintro p ⟨h1,v,h2,h3,h4⟩;refine⟨h1,v,by rw[hb.block b (ID.1 h2).1];exact h2,?_,h4⟩;obtain⟨e,r⟩:=h3;refine⟨e,?_⟩;rcases r with r | ⟨g,cap,cur,e1,hg,hh,r⟩
  ·exact Or.inl r
  ·exact Or.inr ⟨g,cap,cur,e1,hg,by rw[hb.block g (ID.1 hh).1];exact hh,r⟩
 rcases h with h | h
 ·exact Or.inl (one _ h)
 ·exact Or.inr (one _ h)
theorem tg {l:List Nat}{k:Nat} (hl:CB l) (h0:0<k) (hk:k<l.length) :
  dec (val BB (l.drop (k-1)))=dec (val BB (l.drop k))++(List.replicate (9-(dec (nth l (k-1))).length) 48++dec (nth l (k-1))):=by
 have hd:=cY hl.1 (show k-1<l.length by omega);have hB:(10:Nat) ^ 9=BB:=by decide
 rw[g_ h0 (by omega),eH];have hne:l.drop k≠[]:=by intro e;have:=congrArg List.length e;simp at this;omega
 have hc:CB (l.drop k):=⟨fun d hd=>hl.1 d (JB hd),fun hne=>by rw[List.getLast_drop];exact hl.2 _⟩;have hp:=ff hc hne;have hpp:0<BB ^ ((l.drop k).length-1):=I9 (by decide)
 have hge:10 ^ 9<=nth l (k-1)+BB*val BB (l.drop k):=by
  rw[hB];have:BB*1<=BB*val BB (l.drop k):=IV _ (by omega);omega
 rw[kQ 9 _ hge,hB,Lk _ _ (by decide),JM hd,Jk,Nat.add_mul_mod_self_left,J9 hd];rw[GZ 9 _ (by omega) (by rw[hB];exact hd)]
theorem ow (t:ByteArray):Lib.strCells t=Lib.byteCells t.data.toList:=by simp[Lib.strCells,Lib.byteCells]
theorem nk (a b:List UInt8):Lib.byteCells (a++b)=Lib.byteCells a++Lib.byteCells b:=by simp[Lib.byteCells]
theorem xj {l:List Nat} (h:0<l.length):val BB (l.drop (l.length-1))=nth l (l.length-1):=by
 rw[g_ h (Iw _),Jt (Iw _)];simp
theorem Em (z:Int) (c:Nat) (w:World) (hz:z=c) (hc:c<=100) :
  Calls Tryz.prog 231 #[.string ⟨#[48]⟩,.int .i64 z] w fun e w'=>∃ t:ByteArray,e=.returned (.string t)/\Hid (t.data.toList=List.replicate c 48)/\Hid (t.size=c)/\Below w.heap.size w w':=by
 subst hz;refine (Tryz.strings_Repeat ⟨#[48]⟩ c w (by omega) (by show 1*c<=_;omega)).mono ?_;rintro e w' ⟨rfl,hb⟩
 have e1:∀ c,Lib.repeatL [48] c=List.replicate c 48:=by
  intro c
  induction c with
  | zero=>rfl
  | succ c ih=>simp[Lib.repeatL,ih,Kj]
 refine⟨_,rfl,e1 c,?_,hb⟩
 show (Lib.repeatL [48] c).toArray.size=c
 rw[e1];simp
theorem pR (z:Int) (u:Nat) (hz:z=u) (hu:u<18446744073709551616) (w:World) (hG:Gw w) :
  Calls Tryz.prog 202 #[.int .u64 z,.int .i64 10] w fun e w'=>∃ t:ByteArray,e=.returned (.string t)/\Hid (t.data.toList=dec u)/\Hid (t.size=(dec u).length)/\t.size<=20/\Below w.heap.size w w':=by
 refine (Fq z u hz hu w hG.pow).mono ?_;rintro e w' ⟨rfl,hb⟩;exact⟨_,rfl,rfl,rfl,bK (k:=20) (n:=u) (by omega) (by omega),hb⟩
theorem EJ (va:Value) (l:List Nat) (w:World) (ha:IsU w va l) (hl:CB l) (hll:l.length<100000) (hG:Gw w) :
  Calls Tryz.prog 203 #[va] w fun e w'=>e=.returned (.string ⟨(dec (val BB l)).toArray⟩)/\Below w.heap.size w w':=by
 have ha':=ha;obtain⟨p,cap,rfl,hlc,hcm,hcell⟩:=ha';unfold maxLen at hcm;by_cases h0:l.length=0
 ·have hnil:l=[]:=Jc h0;have H:=Ip hnil;clear hnil;have h0':((l.length:Int) == 0)=true:=by simp[h0]
  go_enter Tryz.func203,Tryz.ntmps203;go_wp2;go_ret;refine⟨?_,LN _ _⟩;rw[H.out,val_nil,ez (by omega)];rfl
 ·have h0':((l.length:Int) == 0)=false:=by simp;intro e;rw[e] at h0;simp at h0
  have hpos:0<l.length:=by omega
  obtain⟨b,o,rfl,hbw,hc⟩:=hcell hpos;have hc1:=hc (l.length-1) (by omega);have hb1:=cY hl.1 (show l.length-1<l.length by omega);have hb1':nth l (l.length-1)<1000000000:=hb1;clear hb1 h0;have hzero:(zeroValue 246).run Tryz.prog w=.ok (.agg #[.pointer none,.slice none 0 0]) w:=by kernel_rfl
  go_enter Tryz.func203,Tryz.ntmps203;go_wp2_with fail
  have hb0:Below w.heap.size w (w.alloc (.cells #[.pointer none,.slice none 0 0] 246)):=(LN _ _).alloc (Iw _) _;have HB0:=Ip (A_ w);have HG0:=Ip (hG.below hb0);have HBL:=Ip hb0;have hsz0:(w.alloc (.cells #[.pointer none,.slice none 0 0] 246)).heap.size=w.heap.size+1:=by simp
  have HSZ:=Ip hsz0;clear hb0 hsz0 hzero hc1;generalize w.alloc (.cells #[.pointer none,.slice none 0 0] 246)=w0 at HB0 HG0 HBL HSZ |-;refine (pR _ _ rfl (by omega) w0 HG0.out).mono ?_;rintro e w1 ⟨t,rfl,ht,htsz,_,hb1⟩;have HBL1:=Ip (LK HBL.out hb1);have HB1:=Ip (ns HB0.out hb1);have hsz1:=hb1.size;rw[HSZ.out] at hsz1;have hlen1:=bK (k:=9) (n:=nth l (l.length-1)) (by omega) (by omega);have HT:=ht;have hts:t.size<=9:=by rw[htsz.out];exact hlen1
  clear hb1 HB0 HG0 HBL ht htsz hlen1;go_wp2_with (go_at_call 230;refine (jX w.heap.size w.heap.size [] _ w1 HB1.out (by simp only[Jn];omega) (by omega)).mono ?_;rintro e w2 ⟨rfl,hB2,hb2⟩)
  have hbw2:=HBL1.out.trans hb2;have hB2':=hB2;rw[I8,ow,HT.out,<-xj hpos] at hB2';have HBS:=Ip hB2';have HBW:=Ip hbw2;clear hB2 hB2' hbw2 hb2;go_loopw [4] (fun s4 wr=>∃ k:Nat,k<l.length/\s4=.int .i64 ((k:Int)-1)/\Hid (Lib.IsBuilder 246 5 w.heap.size w.heap.size (Lib.byteCells (dec (val BB (l.drop k)))) wr)/\Hid ((dec (val BB (l.drop k))).length<=9*(l.length-k))/\Hid (Below w.heap.size w wr)) (fun s4 _=>(intOf s4+1).toNat)
  case atStart=>exact⟨l.length-1,by omega,by go_num,HBS,by unfold Hid;rw[xj hpos];have:=bK (k:=9) (n:=nth l (l.length-1)) (by omega) (by omega);omega,HBW⟩
  case round =>
   obtain⟨k,hk,rfl,hB,hBlen,hbl⟩:=hrel;have hbs:=hbl.out.size;clear HBS HBW HB1 HBL1 HT hts;by_cases h0:k=0
   ·subst h0;go_wp2_with (go_at_call 232;refine (Tryz.Builder_String_any w.heap.size w.heap.size _ wr hB.out (by omega)).mono ?_;rintro e w3 ⟨rfl,hb3⟩)
    go_ret;exact⟨rfl,hbl.out.trans hb3⟩
   ·have h0':0<k:=by omega
    have hck:=(hbl.out.cell (p:=⟨b,o+(k-1),none⟩) hbw).trans (hc (k-1) (by omega));have hd:nth l (k-1)<1000000000:=cY hl.1 (by omega);have hlen2:=bK (k:=9) (n:=nth l (k-1)) (by omega) (by omega);have HGr:=Ip (hG.below hbl.out);go_wp2_with (go_at_call 202;refine (pR _ _ rfl (by omega) wr HGr.out).mono ?_;rintro e w3 ⟨t3,rfl,ht3,htsz3,ht20,hb3⟩)
    have HB3:=Ip (ns hB.out hb3);have HBL3:=Ip (hbl.out.trans (hb3.mono hbs));have hs3:=hb3.size;have hts3:t3.size<=9:=by rw[htsz3.out];exact hlen2
    clear hb3 hck hlen2;refine (Em _ (9-t3.size) w3 (by omega) (by omega)).mono ?_;rintro e w4 ⟨t4,rfl,ht4,htsz4,hb4⟩;have HB4:=Ip (ns HB3.out hb4);have HBL4:=Ip (HBL3.out.trans (hb4.mono (by omega)));have hs4:=hb4.size;have hts4:t4.size<=9:=by rw[htsz4.out];omega
    clear hb4 HB3 HBL3;have hbl9:=hBlen.out;go_wp2_with fail
    have hsz43:(t4++t3).size=t4.size+t3.size:=by simp
    refine (jX w.heap.size w.heap.size _ _ w4 HB4.out (by rw[Lib.byteCells_length,hsz43];omega) (by omega)).mono ?_;rintro e w5 ⟨rfl,hB5,hb5⟩
    have hcat:(t4++t3).data.toList=List.replicate (9-(dec (nth l (k-1))).length) 48++dec (nth l (k-1)):=by
     rw[ByteArray.data_append,Array.toList_append,ht4.out,ht3.out,htsz3.out]
    rw[ow,hcat,<-nk,<-tg hl h0' hk] at hB5;have HB5:=Ip hB5;have HBL5:=Ip (HBL4.out.trans hb5)
    have hl5:Hid ((dec (val BB (l.drop (k-1)))).length<=9*(l.length-(k-1))):=by
     unfold Hid;rw[tg hl h0' hk,IG,IG,Ke];have:=htsz3.out;omega
    clear hB5 hb5 hcat hsz43;go_wp2;go_roundw;case rel=>exact⟨k-1,by omega,by go_num,HB5,hl5,HBL5⟩
    case measure=>simp[intOf];omega
theorem Fo {n:Nat} (h:Few n):(dec n).length<=1000000:=by
 unfold Few at h;have h1:=bV aT n;have h3:BB=10 ^ 9:=by decide
 have h4:BB ^ (aq BB n).length=10 ^ (9*(aq BB n).length):=by rw[h3,<-JP]
 have h5:n<10 ^ (9*(aq BB n).length+1):=by
  rw[IN,<-h4];have:0<BB ^ (aq BB n).length:=I9 (by decide);omega
 have:=bK (k:=9*(aq BB n).length+1) (by omega) h5;omega
theorem EI (va:Value) (n:Nat) (w:World) (ha:IsN w va n) (hf:Few n) (hG:Gw w) :
  Calls Tryz.prog 203 #[va] w fun e w'=>∃ t:ByteArray,e=.returned (.string t)/\Hid (t.data.toList=dec n)/\t.size<=1000000/\Below w.heap.size w w':=by
 have h:=EJ va (aq BB n) w ha (cK n) hf hG;rw[aA aT] at h;refine h.mono ?_;rintro e w' ⟨rfl,hb⟩;exact⟨_,rfl,rfl,Fo hf,hb⟩
theorem EB {l:List Nat} (hl:CB l) (h:0<l.length):(dec (val BB l)).length=9*(l.length-1)+(dec (nth l (l.length-1))).length:=by
 have hne:l≠[]:=IU.1 h;have hp:=ff hl hne;have hB:(10:Nat) ^ (9*(l.length-1))=BB ^ (l.length-1):=by rw[JP];rfl
 have e:val BB l=val BB (l.take (l.length-1))+nth l (l.length-1)*BB ^ (l.length-1):=by
  have:val BB l=val BB (l.take (l.length-1+1)):=by rw[IE (by omega)]
  rw[this,cL (by omega)]
 have ht:val BB (l.take (l.length-1))<BB ^ (l.length-1):=jP hl.1 (by omega);rw[kQ (9*(l.length-1)) (val BB l) (by rw[hB];exact hp),IG,jI,hB];have hpos:0<BB ^ (l.length-1):=I9 (by decide)
 have:val BB l / BB ^ (l.length-1)=nth l (l.length-1):=by
  rw[e,Lg _ _ hpos,JM ht,Jk]
 rw[this];omega
theorem Gr (va:Value) (n:Nat) (w:World) (ha:IsN w va n) (hf:Few n) (hG:Gw w) :
  Calls Tryz.prog 156 #[va] w fun e w'=>e=.returned (.int .i64 ((dec n).length:Nat))/\Below w.heap.size w w':=by
 have ha':=ha;obtain⟨p,cap,rfl,hlc,hcm,hcell⟩:=ha';unfold maxLen at hcm;unfold Few at hf;have hv:=aA aT n;have hcan:=cK n;obtain⟨l,hl⟩:∃ l,l=aq BB n:=⟨_,rfl⟩;rw[<-hl] at hlc hcell hf hv hcan |-;have HV:=Ip hv;clear hl hv ha;by_cases h0:l.length=0
 ·have hnil:l=[]:=Jc h0;have H:=Ip hnil;clear hnil;have h0':((l.length:Int) == 0)=true:=by simp[h0]
  go_enter Tryz.func156,Tryz.ntmps156;go_wp2;go_ret;refine⟨?_,LN _ _⟩;rw[<-HV.out,H.out,val_nil,ez (by omega)];rfl
 ·have h0':((l.length:Int) == 0)=false:=by simp;intro e;rw[e] at h0;simp at h0
  have hpos:0<l.length:=by omega
  obtain⟨b,o,rfl,hbw,hc⟩:=hcell hpos;have hc1:=hc (l.length-1) (by omega);have hb1':nth l (l.length-1)<1000000000:=cY hcan.1 (show l.length-1<l.length by omega);clear h0 hc hcell;have hsl:=Ip (EB hcan hpos);go_enter Tryz.func156,Tryz.ntmps156;go_wp2_with (go_at_call 202;refine (pR _ _ rfl (by omega) w hG).mono ?_;rintro e w3 ⟨t3,rfl,ht3,htsz3,ht20,hb3⟩)
  go_ret;refine⟨?_,hb3⟩;rw[<-HV.out,hsl.out,<-htsz3.out]
  show Ending.returned (.int .i64 (9*((l.length:Int)-1)+(t3.size:Int)))=_
  congr 2;omega
theorem aI (w:World) (cs:Array Value) (T:TypeId) (j:Nat) (v:Value) (h:cs[j]?=some v):(w.alloc (.cells cs T)).cell? ⟨w.heap.size,j,none⟩=some v:=by
 rw[World.cell?_alloc_new];exact h
structure Rt where
 minus:Bool
 n:Nat
 d:Nat
def IsR (w:World) (v:Value) (r:Rt):Prop:=∃ vn vd,v=.agg #[.bool r.minus,vn,vd]/\IsN w vn r.n/\IsN w vd r.d/\Few r.n/\Few r.d
theorem IsR.below {w w':World}{v:Value}{r:Rt} (h:IsR w v r) (hb:Below w.heap.size w w'):IsR w' v r:=by
 obtain⟨vn,vd,e,h1,h2,h3,h4⟩:=h;exact⟨vn,vd,e,h1.below hb,h2.below hb,h3,h4⟩
def aK (r:Rt):List UInt8:=(if r.minus then [45] else [])++dec r.n++(if 1<r.d then 47 :: dec r.d else [])
def dt (r:Rt):Bool:=decide (2000<(dec r.n).length)||decide (2000<(dec r.d).length)
theorem Dh {d:Nat} (h0:0<d):(1<(aq BB d).length\/((aq BB d).length=1/\1<nth (aq BB d) 0))↔1<d:=by
 have hv:=aA aT d
 have hc:=cK d
 generalize aq BB d=l at *
 match l,hv,hc with
 | [],hv,_=>simp at hv;omega
 | [x],hv,_=>simp at hv;subst hv;simp[nth]
 | x :: y :: l,hv,hc =>
  have:=ff hc (by simp)
  simp only[IT] at this |-
  have h2:BB ^ 1<=BB ^ (l.length+1+1-1):=IQ (by decide) (by omega)
  have:2<=BB ^ 1:=by decide
  rw[hv] at *
  omega
theorem EA:(⟨#[47]⟩:ByteArray).size=1:=rfl
theorem yU:(⟨#[45]⟩:ByteArray).size=1:=rfl
theorem jm (va:Value) (r:Rt) (w:World) (ha:IsR w va r) (h0:0<r.d) (hG:Gw w) :
  Calls Tryz.prog 157 #[va] w fun e w'=>∃ t:ByteArray,e=.returned (.string t)/\Hid (t.data.toList=aK r)/\t.size<=3000000/\Below w.heap.size w w':=by
 obtain⟨mi,n,d⟩:=r;obtain⟨vn,vd,rfl,hn,hd,hfn,hfd⟩:=ha;simp only at hn hd hfn hfd h0;have hg1:=Dh h0;have hvd:=hd;obtain⟨p,cap,rfl,hlc,hcm,hcell⟩:=hvd;go_enter Tryz.func157,Tryz.ntmps157;go_wp2_with fail
 have hb0:Below w.heap.size w (w.alloc (.cells #[.bool mi,vn,.slice p (aq BB d).length cap] 89)):=(LN _ _).alloc (Iw _) _;have c0:=aI w #[.bool mi,vn,.slice p (aq BB d).length cap] 89 0 _ rfl;have c2:=aI w #[.bool mi,vn,.slice p (aq BB d).length cap] 89 2 _ rfl;have hsz0:(w.alloc (.cells #[.bool mi,vn,.slice p (aq BB d).length cap] 89)).heap.size=w.heap.size+1:=by simp
 generalize w.alloc (.cells #[.bool mi,vn,.slice p (aq BB d).length cap] 89)=w0 at hb0 c0 c2 hsz0 |-;refine (EI _ n w0 (hn.below hb0) hfn (hG.below hb0)).mono ?_;rintro e w1 ⟨t1,rfl,ht1,ht1s,hb1⟩;have d0:=(hb1.cell (p:=⟨w.heap.size,0,none⟩) (by show w.heap.size<_;omega)).trans c0;have d2:=(hb1.cell (p:=⟨w.heap.size,2,none⟩) (by show w.heap.size<_;omega)).trans c2;have hbl1:=LK hb0 hb1;have HBL1:=Ip hbl1;have hdd:=Ip (hd.below hbl1);have hGG:=Ip (hG.below hbl1);have hat:=Ip (AtU.below hcell hbl1 (Iw _));have hsz1:=hb1.size;rw[hsz0] at hsz1;clear hb0 hb1 c0 c2 hcell hbl1 hsz0 hd hn hG;unfold maxLen at hcm;by_cases hone:1<d
 ·have hlen:=hg1.2 hone;clear hg1;rcases hlen with hlen | ⟨hlen,hdig⟩
  ·have hgt:decide ((1:Int)<((aq BB d).length:Int))=true:=by simp;omega
   cases mi
   all_goals
    go_wp2_with (go_at_call 203;refine (EI _ d _ (by exact hdd.out) hfd (by exact hGG.out)).mono ?_;rintro e w2 ⟨t2,rfl,ht2,ht2s,hb2⟩)
    go_ret;refine⟨_,rfl,?_,?_,LK HBL1.out hb2⟩
    ·unfold Hid aK;rw[if_pos hone];simp[ht1.out,ht2.out]
    ·simp[yU,EA];omega
  ·obtain⟨b,o,rfl,hbw,hc⟩:=hat.out (by omega);have hc0:w1.cell? ⟨b,o,none⟩=some (.int .u64 (nth (aq BB d) 0)):=hc 0 (by omega);have hgt:decide ((1:Int)<((aq BB d).length:Int))=false:=by simp;omega
   have hgt2:decide ((1:Int)<((nth (aq BB d) 0):Int))=true:=by simp;omega
   have hpos:(0:Int)<((aq BB d).length:Int):=by omega
   have HLEN:=Ip hlen;clear hc hlen
   cases mi
   all_goals
    go_wp2_with (go_at_call 203;refine (EI _ d _ (by exact hdd.out) hfd (by exact hGG.out)).mono ?_;rintro e w2 ⟨t2,rfl,ht2,ht2s,hb2⟩)
    go_ret;refine⟨_,rfl,?_,?_,LK HBL1.out hb2⟩
    ·unfold Hid aK;rw[if_pos hone];simp[ht1.out,ht2.out]
    ·simp[yU,EA];omega
 ·have hnl:¬ (1<(aq BB d).length\/((aq BB d).length=1/\1<nth (aq BB d) 0)):=fun h=>hone (hg1.1 h)
  have hl1:(aq BB d).length=1:=by
   have:0<(aq BB d).length:=by
    apply IU.2
    intro e;have:=(dy aT).1 e;omega
   omega
  have hd1:nth (aq BB d) 0<=1:=by omega
  obtain⟨b,o,rfl,hbw,hc⟩:=hat.out (by omega);have hc0:w1.cell? ⟨b,o,none⟩=some (.int .u64 (nth (aq BB d) 0)):=hc 0 (by omega);have hgt:decide ((1:Int)<((aq BB d).length:Int))=false:=by simp;omega
  have hgt2:decide ((1:Int)<((nth (aq BB d) 0):Int))=false:=by simp;omega
  have hpos:(0:Int)<((aq BB d).length:Int):=by omega
  have HLEN:=Ip hl1;clear hc hl1 hg1 hnl
  cases mi
  all_goals
   go_wp2;go_ret;refine⟨_,rfl,?_,?_,HBL1.out⟩
   ·unfold Hid aK;rw[if_neg hone];simp[ht1.out]
   ·first | omega | (simp[yU];omega)
theorem tD (va:Value) (r:Rt) (w:World) (ha:IsR w va r) (hG:Gw w) :
  Calls Tryz.prog 106 #[va] w fun e w'=>e=.returned (.bool (dt r))/\Below w.heap.size w w':=by
 obtain⟨mi,n,d⟩:=r;obtain⟨vn,vd,rfl,hn,hd,hfn,hfd⟩:=ha;simp only at hn hd hfn hfd;go_enter Tryz.func106,Tryz.ntmps106;go_wp2_with fail
 have hb0:Below w.heap.size w (w.alloc (.cells #[.bool mi,vn,vd] 89)):=(LN _ _).alloc (Iw _) _;have c2:=aI w #[.bool mi,vn,vd] 89 2 _ rfl;have hsz0:(w.alloc (.cells #[.bool mi,vn,vd] 89)).heap.size=w.heap.size+1:=by simp
 generalize w.alloc (.cells #[.bool mi,vn,vd] 89)=w0 at hb0 c2 hsz0 |-;refine (Gr _ n w0 (hn.below hb0) hfn (hG.below hb0)).mono ?_;rintro e w1 ⟨rfl,hb1⟩;have d2:=(hb1.cell (p:=⟨w.heap.size,2,none⟩) (by show w.heap.size<_;omega)).trans c2;have hbl1:=LK hb0 hb1;have HBL1:=Ip hbl1;have hdd:=Ip (hd.below hbl1);have hGG:=Ip (hG.below hbl1);clear hb0 hb1 c2 hbl1 hsz0 hd hn hG;by_cases hbig:2000<(dec n).length
 ·have hq:decide ((2000:Int)<(((dec n).length:Nat):Int))=true:=by simp;omega
  go_wp2;go_ret;exact⟨by unfold dt;rw[decide_eq_true hbig];rfl,HBL1.out⟩
 ·have hq:decide ((2000:Int)<(((dec n).length:Nat):Int))=false:=by simp;omega
  go_wp2_with (go_at_call 156;refine (Gr _ d _ (by exact hdd.out) hfd (by exact hGG.out)).mono ?_;rintro e w2 ⟨rfl,hb2⟩)
  go_ret;refine⟨?_,LK HBL1.out hb2⟩;unfold dt;rw[decide_eq_false hbig]
  have:decide ((2000:Int)<(((dec d).length:Nat):Int))=decide (2000<(dec d).length):=by
   by_cases h:2000<(dec d).length
   ·rw[decide_eq_true h];simp;omega
   ·rw[decide_eq_false h];simp;omega
  show Ending.returned (.bool _)=_
  rw[this];rfl
structure Vl where
 x:Rt
 y:Rt
def IsV (w:World) (v:Value) (z:Vl):Prop:=∃ a b c d e f,v=.agg #[a,b,c,d,e,f]/\IsR w (.agg #[a,b,c]) z.x/\IsR w (.agg #[d,e,f]) z.y
theorem IsV.below {w w':World}{v:Value}{z:Vl} (h:IsV w v z) (hb:Below w.heap.size w w'):IsV w' v z:=by
 obtain⟨a,b,c,d,e,f,e1,h1,h2⟩:=h;exact⟨a,b,c,d,e,f,e1,h1.below hb,h2.below hb⟩
theorem iG (va:Value) (r:Rt) (w:World) (ha:IsR w va r) :
  Calls Tryz.prog 136 #[va] w fun e w'=>e=.returned (.bool (decide (r.n=0)))/\Below w.heap.size w w':=by
 obtain⟨mi,n,d⟩:=r;obtain⟨vn,vd,rfl,hn,hd,hfn,hfd⟩:=ha;simp only at hn;obtain⟨p,cap,rfl,hlc,hcm,hcell⟩:=hn
 have hz:((((aq BB n).length:Nat):Int) == 0)=decide (n=0):=by
  by_cases h:n=0
  ·subst h;simp[cz]
  ·have:0<(aq BB n).length:=IU.2 fun e=>h ((dy aT).1 e);simp[h];intro e;rw[e] at this;simp at this
 have HZ:=Ip hz;clear hz;go_enter Tryz.func136,Tryz.ntmps136;go_wp2;go_ret;exact⟨by rw[<-HZ.out];rfl,(LN _ _).alloc (Iw _) _⟩
theorem fj (va:Value) (z:Vl) (w:World) (ha:IsV w va z) :
  Calls Tryz.prog 88 #[va] w fun e w'=>e=.returned (.bool (decide (z.y.n=0)))/\Below w.heap.size w w':=by
 obtain⟨a,b,c,d,e,f,rfl,hx,hy⟩:=ha;have hb0:Below w.heap.size w (w.alloc (.cells #[a,b,c,d,e,f] 93)):=(LN _ _).alloc (Iw _) _;have HB:=Ip hb0;have hy':=Ip (hy.below hb0);clear hb0;go_enter Tryz.func88,Tryz.ntmps88;go_wp2_with (go_at_call 136;refine (iG _ z.y _ (by exact hy'.out)).mono ?_;rintro e w1 ⟨rfl,hb1⟩)
 go_ret;exact⟨rfl,HB.out.trans (hb1.mono (by simp))⟩
def b8 (r:Rt):List UInt8:=if aK r=[49]\/aK r=[45,49] then (aK r).take ((aK r).length-1) else aK r
def bX (z:Vl):List UInt8 :=
 if z.y.n=0 then aK z.x else
  (if z.x.n=0 then [] else aK z.x++(if z.y.minus then [] else [43]))++b8 z.y++[105]
theorem wJ (r:Rt):0<(aK r).length:=by
 unfold aK;have:=ir r.n;simp only[IG];omega
theorem nL {t:ByteArray}{r:Rt} (h:Hid (t.data.toList=aK r)):1<=t.size:=by
 have h1:t.data.toList.length=t.size:=by simp
 rw[<-h1,h.out];exact wJ r
theorem aw (s:ByteArray):s.toList=s.data.toList:=ByteArray.toList_eq s
theorem mW:(⟨#[]⟩:ByteArray).size=0:=rfl
theorem cT (t:ByteArray):t.data.toList.dropLast=List.take (t.size-1) t.data.toList:=by rw[List.dropLast_eq_take];simp
theorem jO:(⟨#[43]⟩:ByteArray).size=1:=rfl
theorem bE:(⟨#[105]⟩:ByteArray).size=1:=rfl
structure cC (w:World) (k:Nat) (a b c d e f:Value):Prop where
 lt:k<w.heap.size
 c0:w.cell? ⟨k,0,none⟩=some a
 c1:w.cell? ⟨k,1,none⟩=some b
 c2:w.cell? ⟨k,2,none⟩=some c
 c3:w.cell? ⟨k,3,none⟩=some d
 c4:w.cell? ⟨k,4,none⟩=some e
 c5:w.cell? ⟨k,5,none⟩=some f
theorem cC.below {w w':World}{k:Nat}{a b c d e f:Value} (h:cC w k a b c d e f) (hb:Below w.heap.size w w'):cC w' k a b c d e f :=
 ⟨Iz h.lt hb.size,(hb.cell (p:=⟨k,0,none⟩) h.lt).trans h.c0,(hb.cell (p:=⟨k,1,none⟩) h.lt).trans h.c1,(hb.cell (p:=⟨k,2,none⟩) h.lt).trans h.c2,(hb.cell (p:=⟨k,3,none⟩) h.lt).trans h.c3,(hb.cell (p:=⟨k,4,none⟩) h.lt).trans h.c4,(hb.cell (p:=⟨k,5,none⟩) h.lt).trans h.c5⟩
theorem cC.new (w:World) (a b c d e f:Value) (T:TypeId):cC (w.alloc (.cells #[a,b,c,d,e,f] T)) w.heap.size a b c d e f :=
 ⟨by simp,aI w _ T 0 _ rfl,aI w _ T 1 _ rfl,aI w _ T 2 _ rfl,aI w _ T 3 _ rfl,aI w _ T 4 _ rfl,aI w _ T 5 _ rfl⟩
structure VSt (w0 w:World) (k:Nat) (a b c d e f:Value) (z:Vl):Prop where
 box:cC w k a b c d e f
 hx:IsR w (.agg #[a,b,c]) z.x
 hy:IsR w (.agg #[d,e,f]) z.y
 hG:Gw w
 bl:Below w0.heap.size w0 w
theorem VSt.below {w0 w w':World}{k:Nat}{a b c d e f:Value}{z:Vl} (h:VSt w0 w k a b c d e f z) (hb:Below w.heap.size w w'):VSt w0 w' k a b c d e f z :=
 ⟨h.box.below hb,h.hx.below hb,h.hy.below hb,h.hG.below hb,h.bl.trans (hb.mono h.bl.size)⟩
theorem tr (va:Value) (z:Vl) (w:World) (ha:IsV w va z) (hdx:0<z.x.d) (hdy:0<z.y.d) (hG:Gw w) :
  Calls Tryz.prog 107 #[va] w fun e w'=>∃ t:ByteArray,e=.returned (.string t)/\Hid (t.data.toList=bX z)/\t.size<=10000000/\Below w.heap.size w w':=by
 have ha':=ha;obtain⟨a,b,c,d,e,f,rfl,hx,hy⟩:=ha;have hb0:Below w.heap.size w (w.alloc (.cells #[a,b,c,d,e,f] 93)):=(LN _ _).alloc (Iw _) _;have HV:=Ip (ha'.below hb0);have S0:VSt w (w.alloc (.cells #[a,b,c,d,e,f] 93)) w.heap.size a b c d e f z:=⟨cC.new w a b c d e f _,hx.below hb0,hy.below hb0,hG.below hb0,hb0⟩
 have hd:d=.bool z.y.minus:=by
  obtain⟨vn,vd,e1,_⟩:=hy;simp at e1;exact e1.1
 subst hd;clear hb0 hx hy hG ha';go_enter Tryz.func107,Tryz.ntmps107;go_wp2_with fail
 generalize w.alloc (.cells #[a,b,c,.bool z.y.minus,e,f] 93)=w0 at HV S0 |-;refine (fj _ z w0 HV.out).mono ?_;rintro e1 w1 ⟨rfl,hb1⟩;have S1:=S0.below hb1;clear S0 hb1 HV;have k0:=S1.box.c0;have k1:=S1.box.c1;have k2:=S1.box.c2;have k3:=S1.box.c3;have k4:=S1.box.c4;have k5:=S1.box.c5;by_cases hy0:z.y.n=0
 ·have hq:decide (z.y.n=0)=true:=by simp[hy0]
  have H:=Ip hy0;clear hy0;go_wp2_with (go_at_call 157;refine (jm _ z.x _ (by exact S1.hx) hdx S1.hG).mono ?_;rintro e2 w2 ⟨t,rfl,ht,hts,hb2⟩)
  go_ret;exact⟨t,rfl,by unfold Hid bX;rw[if_pos H.out];exact ht.out,by omega,(S1.below hb2).bl⟩
 ·have hq:decide (z.y.n=0)=false:=by simp[hy0]
  have H:=Ip hy0;clear hy0;go_wp2_with fail
  refine (iG _ z.x _ S1.hx).mono ?_;rintro e2 w2 ⟨rfl,hb2⟩;have S2:=S1.below hb2;clear S1 hb2 k0 k1 k2 k3 k4 k5;have k0:=S2.box.c0;have k1:=S2.box.c1;have k2:=S2.box.c2;have k3:=S2.box.c3;have k4:=S2.box.c4;have k5:=S2.box.c5;by_cases hx0:z.x.n=0
  ·have hqx:decide (z.x.n=0)=true:=by simp[hx0]
   have HX:=Ip hx0;clear hx0;go_wp2_with fail
   refine (jm _ z.y _ S2.hy hdy S2.hG).mono ?_;rintro e3 w3 ⟨t,rfl,ht,hts,hb3⟩;have S3:=S2.below hb3;clear S2 hb3 k0 k1 k2 k3 k4 k5;have hlen:=nL ht;have hpos:(1:Int)<=(t.size:Int):=by omega
   by_cases h1:t.toList=[49]
   ·have q1:(t.toList == [49])=true:=by rw[h1];rfl
    have h1':=Ip h1;clear h1;go_wp2;go_ret;refine⟨_,rfl,?_,?_,S3.bl⟩
    ·unfold Hid bX b8;rw[if_neg H.out,if_pos HX.out];rw[if_pos (Or.inl (by rw[<-ht.out,<-aw];exact h1'.out)),<-ht.out];simp[cT]
    ·first | (simp[bE,mW];omega) | (simp[jO,bE];omega) | (simp[bE];omega)
   ·have q1:(t.toList == [49])=false:=by simpa using h1
    have h1':=Ip h1;clear h1;by_cases h2:t.toList=[45,49]
    ·have q2:(t.toList == [45,49])=true:=by rw[h2];rfl
     have h2':=Ip h2;clear h2;go_wp2;go_ret;refine⟨_,rfl,?_,?_,S3.bl⟩
     ·unfold Hid bX b8;rw[if_neg H.out,if_pos HX.out];rw[if_pos (Or.inr (by rw[<-ht.out,<-aw];exact h2'.out)),<-ht.out];simp[cT]
     ·first | (simp[bE,mW];omega) | (simp[jO,bE];omega) | (simp[bE];omega)
    ·have q2:(t.toList == [45,49])=false:=by simpa using h2
     have h2':=Ip h2;clear h2;go_wp2;go_ret;refine⟨_,rfl,?_,?_,S3.bl⟩
     ·unfold Hid bX b8;rw[if_neg H.out,if_pos HX.out];rw[if_neg (fun h=>h.elim (fun h=>h1'.out (by rw[aw,ht.out];exact h)) (fun h=>h2'.out (by rw[aw,ht.out];exact h))),<-ht.out];simp[cT]
     ·first | (simp[bE,mW];omega) | (simp[jO,bE];omega) | (simp[bE];omega)
  ·have hqx:decide (z.x.n=0)=false:=by simp[hx0]
   have HX:=Ip hx0;clear hx0;go_wp2_with fail
   refine (jm _ z.x _ S2.hx hdx S2.hG).mono ?_;rintro e4 w4 ⟨tx,rfl,htx,htxs,hb4⟩;have S4:=S2.below hb4;clear S2 hb4 k0 k1 k2 k3 k4 k5;have k0:=S4.box.c0;have k1:=S4.box.c1;have k2:=S4.box.c2;have k3:=S4.box.c3;have k4:=S4.box.c4;have k5:=S4.box.c5;rcases Bool.eq_false_or_eq_true z.y.minus with hm | hm
   ·rw[hm] at k3 S4;have HM:=Ip hm;clear hm;go_wp2_with fail
    refine (jm _ z.y _ S4.hy hdy S4.hG).mono ?_;rintro e3 w3 ⟨t,rfl,ht,hts,hb3⟩;have S3:=S4.below hb3;clear S4 hb3 k0 k1 k2 k3 k4 k5;have hlen:=nL ht;have hpos:(1:Int)<=(t.size:Int):=by omega
    by_cases h1:t.toList=[49]
    ·have q1:(t.toList == [49])=true:=by rw[h1];rfl
     have h1':=Ip h1;clear h1;go_wp2;go_ret;refine⟨_,rfl,?_,?_,S3.bl⟩
     ·unfold Hid bX b8;rw[if_neg H.out,if_neg HX.out,HM.out,if_pos rfl];rw[if_pos (Or.inl (by rw[<-ht.out,<-aw];exact h1'.out)),<-ht.out];rw[<-htx.out];simp[cT]
     ·first | (simp[bE,mW];omega) | (simp[jO,bE];omega) | (simp[bE];omega)
    ·have q1:(t.toList == [49])=false:=by simpa using h1
     have h1':=Ip h1;clear h1;by_cases h2:t.toList=[45,49]
     ·have q2:(t.toList == [45,49])=true:=by rw[h2];rfl
      have h2':=Ip h2;clear h2;go_wp2;go_ret;refine⟨_,rfl,?_,?_,S3.bl⟩
      ·unfold Hid bX b8;rw[if_neg H.out,if_neg HX.out,HM.out,if_pos rfl];rw[if_pos (Or.inr (by rw[<-ht.out,<-aw];exact h2'.out)),<-ht.out];rw[<-htx.out];simp[cT]
      ·first | (simp[bE,mW];omega) | (simp[jO,bE];omega) | (simp[bE];omega)
     ·have q2:(t.toList == [45,49])=false:=by simpa using h2
      have h2':=Ip h2;clear h2;go_wp2;go_ret;refine⟨_,rfl,?_,?_,S3.bl⟩
      ·unfold Hid bX b8;rw[if_neg H.out,if_neg HX.out,HM.out,if_pos rfl];rw[if_neg (fun h=>h.elim (fun h=>h1'.out (by rw[aw,ht.out];exact h)) (fun h=>h2'.out (by rw[aw,ht.out];exact h))),<-ht.out];rw[<-htx.out];simp[cT]
      ·first | (simp[bE,mW];omega) | (simp[jO,bE];omega) | (simp[bE];omega)
   ·rw[hm] at k3 S4;have HM:=Ip hm;clear hm;go_wp2_with fail
    refine (jm _ z.y _ S4.hy hdy S4.hG).mono ?_;rintro e3 w3 ⟨t,rfl,ht,hts,hb3⟩;have S3:=S4.below hb3;clear S4 hb3 k0 k1 k2 k3 k4 k5;have hlen:=nL ht;have hpos:(1:Int)<=(t.size:Int):=by omega
    by_cases h1:t.toList=[49]
    ·have q1:(t.toList == [49])=true:=by rw[h1];rfl
     have h1':=Ip h1;clear h1;go_wp2;go_ret;refine⟨_,rfl,?_,?_,S3.bl⟩
     ·unfold Hid bX b8;rw[if_neg H.out,if_neg HX.out,HM.out,if_neg J_];rw[if_pos (Or.inl (by rw[<-ht.out,<-aw];exact h1'.out)),<-ht.out];rw[<-htx.out];simp[cT]
     ·first | (simp[bE,mW];omega) | (simp[jO,bE];omega) | (simp[bE];omega)
    ·have q1:(t.toList == [49])=false:=by simpa using h1
     have h1':=Ip h1;clear h1;by_cases h2:t.toList=[45,49]
     ·have q2:(t.toList == [45,49])=true:=by rw[h2];rfl
      have h2':=Ip h2;clear h2;go_wp2;go_ret;refine⟨_,rfl,?_,?_,S3.bl⟩
      ·unfold Hid bX b8;rw[if_neg H.out,if_neg HX.out,HM.out,if_neg J_];rw[if_pos (Or.inr (by rw[<-ht.out,<-aw];exact h2'.out)),<-ht.out];rw[<-htx.out];simp[cT]
      ·first | (simp[bE,mW];omega) | (simp[jO,bE];omega) | (simp[bE];omega)
     ·have q2:(t.toList == [45,49])=false:=by simpa using h2
      have h2':=Ip h2;clear h2;go_wp2;go_ret;refine⟨_,rfl,?_,?_,S3.bl⟩
      ·unfold Hid bX b8;rw[if_neg H.out,if_neg HX.out,HM.out,if_neg J_];rw[if_neg (fun h=>h.elim (fun h=>h1'.out (by rw[aw,ht.out];exact h)) (fun h=>h2'.out (by rw[aw,ht.out];exact h))),<-ht.out];rw[<-htx.out];simp[cT]
      ·first | (simp[bE,mW];omega) | (simp[jO,bE];omega) | (simp[bE];omega)
end Go.Proofs.YtlhpcoelfhjomaaGreatDoor
