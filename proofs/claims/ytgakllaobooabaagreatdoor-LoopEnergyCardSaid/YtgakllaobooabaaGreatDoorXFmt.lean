/- L -/
import Derived.Lib.ItoaMem
import Derived.Lib.Strings
import Derived.Lib.Slices
import Derived.Lib.Walk
import Derived.Lib.Builder
import Derived.Lib.AppendStr
import Derived.Lib.UnsafeStr
import Derived.Laws.Externs
import Derived.Deep.LoopGhost
import Derived.Test.YtgakllaobooabaaGreatDoorXShelf
import Derived.Test.YtgakllaobooabaaGreatDoorXMach
import Derived.Test.YtgakllaobooabaaGreatDoorXPlain
import Derived.Test.YtgakllaobooabaaGreatDoorXNat
import Derived.Test.YtgakllaobooabaaGreatDoorXB
set_option linter.all false
set_option maxRecDepth 100000
set_option maxHeartbeats 8000000
namespace Go.Proofs.YtgakllaobooabaaGreatDoor
open Go.RowKit Dc Go.Shelf
theorem zl (n:Nat):Lib.decDigits n=dec n:=by
 induction n using Nat.strongRecOn with
 | ind n ih =>
  by_cases h:n<10
  ·rw[dec_lt h,Lib.decDigits,dif_pos h];rfl
  ·rw[gH (by omega),Lib.decDigits,dif_neg h,ih (n / 10) (by omega)];rfl
theorem vi (w:World) (o:Obj) (dk:Array UInt8) (k:Nat):Below w.heap.size w ((Go.Sort.putRow (fun (b:UInt8)=>Value.int .u8 (b.toNat:Int)) (w.alloc o) w.heap.size 0 dk).drewN k):=by
 rw[Go.Sort.alloc_eq_grow];obtain⟨os',_,e⟩:=Go.Sort.putRow_grow_new (fun (b:UInt8)=>Value.int .u8 (b.toNat:Int)) w #[o] w.heap.size 0 dk (AA _);rw[e];exact⟨rfl,rfl,rfl,by show w.heap.size<=(w.heap++os').size;simp,fun j hj=>by show (w.heap++os')[j]?=_;rw[Array.getElem?_append_left hj]⟩
theorem oU (w:World) (T:TypeId) (nd:Nat) (hs:nd<=24):Go.Sort.Holds (fun (b:UInt8)=>Value.int .u8 (b.toNat:Int)) (w.alloc (.cells Lib.zeros24 T)) w.heap.size 0 (Array.replicate nd (0:UInt8)):=fun j hj=>by
 have hj':j<nd:=by simpa using hj
 refine⟨?_,World.frozen?_alloc_new _ _ _ _⟩;rw[World.cell?_alloc_new,Lib.zeros24_at _ (by omega),getElem!_pos _ j hj];simp
def n7 (w:World):Prop:=Lib.TabIs Tryz.prog w "internal/strconv.uint64pow10" .u64 Lib.pow10Tab
theorem j1:Tryz.prog.globalNamed "internal/strconv.uint64pow10" = some 3:=by kernel_rfl
structure Gw (w:World):Prop where
 pow:n7 w
 ml:∃ m,w.cell? ⟨0,0,none⟩=some (.int .i64 m)
 sz:8<=w.heap.size
theorem Gw.below {w w':World} (h:Gw w) (hb:Below w.heap.size w w'):Gw w':=by
 have hs:=h.sz;refine⟨?_,?_,AP hs hb.size⟩
 ·have hp:=h.pow;unfold n7 Lib.TabIs World.var? at *
  rw[j1] at *
  simp only[Option.bind_some] at *
  rw[hb.block 3 (by omega)];exact hp
 ·obtain⟨m,hm⟩:=h.ml;exact⟨m,(hb.cell (p:=⟨0,0,none⟩) (by show 0<w.heap.size;omega)).trans hm⟩
theorem nn (u:Nat) (hu:u<18446744073709551616) (w:World) (htab:n7 w) :
  Calls Tryz.prog 156 #[.int .u64 u,.int .i64 10] w fun e w'=>e=.returned (.string ⟨(dec u).toArray⟩)/\Below w.heap.size w w':=by
 rw[<-zl];by_cases hs:u<100
 ·go_enter Tryz.func156,Tryz.ntmps156;go_wp2_with (go_at_call 179;refine (Tryz.internal_strconv_small u hs _).mono ?_;rintro e w' ⟨rfl,rfl⟩)
  go_ret;exact⟨rfl,Dv _ _⟩
 ·have hu1:1<=u:=by omega
  have hnd20:Lib.nDigits u<=20:=by have:=Lib.numDigits_eq u hu1 hu;split at this<;>omega
  have hb3:Lib.nDigits u<=24:=by omega
  have hal:Tryz.prog.arrayLen 200=24:=by kernel_rfl
  have hsl1:∀ W,(Instr.sliceAt 200 (.pointer (some ⟨w.heap.size,0,none⟩)) none (some (.int .i64 (Lib.nDigits u:Int))) none).run Tryz.prog W=.ok (.slice (some ⟨w.heap.size,0,none⟩) (Lib.nDigits u) 24) W:=fun W=>by
   rw[run_sliceAt_array_h W 200 ⟨w.heap.size,0,none⟩ (by kernel_rfl) .i64 (Lib.nDigits u:Int) (by omega) (by rw[hal];omega)];go_simp
  have hH0:=oU w 200 (Lib.nDigits u) hb3;have hfmt:=Tryz.internal_strconv_formatBase10 w.heap.size 0 24 u (Array.replicate (Lib.nDigits u) 0) (w.alloc (.cells Lib.zeros24 200)) hH0 (by rw[CD];exact Lib.lt_pow_nDigits u) hu (by rw[CD];omega);rw[CD] at hfmt;have HH0:=At hH0;clear hH0 hal;go_enter Tryz.func156,Tryz.ntmps156
  go_wp2_with (first
    | (go_at_call 180;refine (Tryz.internal_strconv_numDigits u hu1 hu _ (Lib.tabIs_alloc htab _)).mono ?_;rintro e w' ⟨rfl,rfl⟩))
  go_at_call 181
  refine hfmt.mono ?_;rintro e w' ⟨rfl,k,v',dk,rfl,hF⟩;have hal:Tryz.prog.arrayLen 200=24:=by kernel_rfl
  have hcv:(convert 176 9 (.slice (some ⟨w.heap.size,0,none⟩) (Lib.nDigits u) 24)).run Tryz.prog ((Go.Sort.putRow (fun (b:UInt8)=>Value.int .u8 (b.toNat:Int)) (w.alloc (.cells Lib.zeros24 200)) w.heap.size 0 dk).drewN k)=.ok (.string ⟨(Lib.decDigits u).toArray⟩) ((Go.Sort.putRow (fun (b:UInt8)=>Value.int .u8 (b.toNat:Int)) (w.alloc (.cells Lib.zeros24 200)) w.heap.size 0 dk).drewN k):=by
   have h:=run_convert_bytes_back (P:=Tryz.prog) ((Go.Sort.putRow (fun (b:UInt8)=>Value.int .u8 (b.toNat:Int)) (w.alloc (.cells Lib.zeros24 200)) w.heap.size 0 dk).drewN k) 176 9 5 ⟨w.heap.size,0,none⟩ 24 (Lib.decDigits u) Tryz.underlying176 Tryz.underlying5 Tryz.underlying9 (fun j hj=>by
     rw[Lib.row_is_numeral hF j hj,Lib.add_plain,World.cell?_drewN]
     exact Go.Sort.cell?_putRow (fun (b:UInt8)=>Value.int .u8 (b.toNat:Int)) _ w.heap.size 0 _ dk HH0.out (by rw[hF.size,CD]) j (by rw[hF.size];rw[Lib.decDigits_length] at hj;exact hj))
   rw[Lib.decDigits_length] at h;exact h
  clear hal;go_wp2;go_ret;exact⟨rfl,vi w _ dk k⟩
/-- strconv.FormatUint at base 10: the decimal text. -/
theorem xZ (z:Int) (u:Nat) (hz:z=u) (hu:u<18446744073709551616) (w:World) (htab:n7 w) :
  Calls Tryz.prog 136 #[.int .u64 z,.int .i64 10] w fun e w'=>e=.returned (.string ⟨(dec u).toArray⟩)/\Below w.heap.size w w':=by
 subst hz;go_enter Tryz.func136,Tryz.ntmps136;go_wp2_with (go_at_call 156;refine (nn u hu _ htab).mono ?_;rintro e w' ⟨rfl,hb⟩)
 go_ret;exact⟨rfl,hb⟩
open Go.RowKit
theorem j3:(Tryz.prog.info? 178).map (·.size)=some 2:=by kernel_rfl
theorem o8:liesAt Tryz.prog Tryz.prog.depth 178 (2 / Tryz.prog.cellsOf 178) 0 178 1=true:=by kernel_rfl
theorem vG:(Tryz.prog.info? 5).map (fun i=>(i.zero,i.size,i.bytes))=some (some (.int .u8 0),1,1):=by kernel_rfl
theorem kO (b:Nat) (w:World) (h0:w.cell? ⟨b,0,none⟩=some (.pointer (some ⟨b,0,none⟩))) :
  Calls Tryz.prog 174 #[.pointer (some ⟨b,0,none⟩)] w fun e w'=>e=.returned (.tuple #[])/\w'=w:=by
 obtain⟨j,hj,_⟩:=Option.map_eq_some_iff.1 j3;go_enter Tryz.func174,Tryz.ntmps174;go_wp2;rw[Lib.run_neq_ptr_same w _ Tryz.underlying175 hj];go_wp2
 go_end0
 exact⟨rfl,rfl⟩
theorem kb (b:Nat) (w:World) (h0:w.cell? ⟨b,0,none⟩=some (.pointer none)) (hsh:w.shape? b=some (178,2)) (hfz:w.frozen? ⟨b,0,none⟩=false) :
  Calls Tryz.prog 174 #[.pointer (some ⟨b,0,none⟩)] w fun e w'=>e=.returned (.tuple #[])/\w'=w.setCell ⟨b,0,none⟩ (.pointer (some ⟨b,0,none⟩)):=by
 obtain⟨j,hj,hjs⟩:=Option.map_eq_some_iff.1 j3;go_enter Tryz.func174,Tryz.ntmps174;go_wp2;rw[Lib.run_to_unsafe w ⟨b,0,none⟩ Tryz.underlying175 Tryz.underlying220 hj (by rw[hjs];decide) hsh (Nat.zero_lt_succ 1)];simp only[Result.andThen];rw[Oper.upon_value];go_wp2;rw[run_callFunc_extern Tryz.func196 (by kernel_rfl) (by kernel_rfl) (by kernel_rfl) (e:=Extern.AbiNoEscape.same) (by kernel_rfl)];rw[Lib.run_noEscape];simp only[Result.andThen];rw[Oper.upon_value];go_wp2;rw[Lib.run_from_unsafe w ⟨b,0,none⟩ Tryz.underlying220 Tryz.underlying175 hj hsh o8];simp only[Result.andThen];rw[Oper.upon_value];go_wp2
 go_end0
 exact⟨rfl,rfl⟩
theorem lM (B b:Nat) (bs:List Value) (w:World) (h:Lib.IsBuilder 178 5 B b bs w) :
  Calls Tryz.prog 174 #[.pointer (some ⟨b,0,none⟩)] w fun e w'=>e=.returned (.tuple #[])/\(Lib.BuilderAt 178 5 B b (.pointer (some ⟨b,0,none⟩)) bs w'/\Below B w w'):=by
 rcases h with h | h
 ·refine (kb b w h.cell0 h.shape h.frozen0).mono ?_;rintro e w' ⟨rfl,rfl⟩;exact⟨rfl,h.used _,(Dv B w).setCell (p:=⟨b,0,none⟩) h.1 _⟩
 ·refine (kO b w h.cell0).mono ?_;rintro e w' ⟨rfl,rfl⟩;exact⟨rfl,h,Dv B _⟩
theorem gx (B b:Nat) (bs:List Value) (s:ByteArray) (w:World) (h:Lib.IsBuilder 178 5 B b bs w) (hlen:bs.length+s.size<=140737488355328) (hBw:B<=w.heap.size) :
  Calls Tryz.prog 153 #[.pointer (some ⟨b,0,none⟩),.string s] w fun e w'=>e=.returned (.tuple #[.int .i64 s.size,.nilIface])/\(Lib.IsBuilder 178 5 B b (bs++Lib.strCells s) w'/\Below B w w'):=by
 obtain⟨i0,hi,hz0,hz1,hz2⟩:=info_parts vG;go_enter Tryz.func153,Tryz.ntmps153;go_wp2_with (go_at_call 174;refine (lM B b bs _ h).mono ?_)
 rintro e w1 ⟨rfl,h1,hb1⟩;obtain⟨hB,v,hbk,hown,hne⟩:=h1;have c0:w1.cell? ⟨b,0,none⟩=some (.pointer (some ⟨b,0,none⟩)):=by rw[Lib.cell_of_heap hbk];rfl
 have c1:w1.cell? ⟨b,1,none⟩=some v:=by rw[Lib.cell_of_heap hbk];rfl
 go_wp2_with (at_builtin;refine Lib.wpList_append_own_string _ rfl _ _ 176 9 rfl B 5 i0 Tryz.underlying176 Tryz.underlying9 hi hz0 hz1 hz2 _ _ _ rfl hown s rfl ?c3 ?c4 ?c5 ?_)
 case c3=>unfold maxLen;omega
 case c4=>omega
 case c5=>have:=hb1.size;omega
 intro v' w2 hown' hgrow _
 have hlt:b<w1.heap.size:=by
  rcases BK b w1.heap.size with h' | h'
  ·exact h'
  ·simp[Cq h'] at hbk
 have hb2:w2.heap[b]?=some (.cells #[.pointer (some ⟨b,0,none⟩),v] 178 (0,0)):=by
  rw[hgrow.block b hlt (fun e=>hne e.symm)];exact hbk
 have d0:w2.cell? ⟨b,0,none⟩=some (.pointer (some ⟨b,0,none⟩)):=by rw[Lib.cell_of_heap hb2];rfl
 have d1:w2.cell? ⟨b,1,none⟩=some v:=by rw[Lib.cell_of_heap hb2];rfl
 have f1:w2.frozen? ⟨b,1,none⟩=false:=Lib.frozen_of_heap hb2 1
 obtain⟨ao,n',cap,rfl⟩:∃ ao n' cap,v'=.slice ao n' cap:=by
  rcases hown'.2 with ⟨hv,_⟩ | ⟨g,cap,cur,hv,_⟩
  ·exact⟨_,_,_,hv⟩
  ·exact⟨_,_,_,hv⟩
 go_wp2
 go_ret2
 refine⟨rfl,Or.inr ?_,?_⟩
 ·exact Lib.BuilderAt.put (T:=178) (e:=5) hB hb2 (bs':=bs++Lib.strCells s) (by simpa[Lib.strCells_length] using hown') (by decide)
 ·exact (hb1.grown hgrow (by have:=hb1.size;omega) (fun k hk=>(hown.lt k hk).1)).setCell (p:=⟨b,1,none⟩) hB _
open Go.RowKit Dc Dg
theorem tv (w:World):Lib.IsBuilder 178 5 w.heap.size w.heap.size [] (w.alloc (.cells #[.pointer none,.slice none 0 0] 178)) :=
 Or.inl ⟨AA _,.slice none 0 0,heap_alloc_new w _,World.ownsRow_nil _ _ _ _,by simp[Value.ownBlock]⟩
theorem jC {B b:Nat}{bs:List Value}{w w':World} (h:Lib.IsBuilder 178 5 B b bs w) (hb:Below w.heap.size w w'):Lib.IsBuilder 178 5 B b bs w':=by
 have one:∀ p,Lib.BuilderAt 178 5 B b p bs w->Lib.BuilderAt 178 5 B b p bs w':=by
  rintro p ⟨h1,v,h2,h3,h4⟩;refine⟨h1,v,by rw[hb.block b (AE.1 h2).1];exact h2,?_,h4⟩;obtain⟨e,r⟩:=h3;refine⟨e,?_⟩;rcases r with r | ⟨g,cap,cur,e1,hg,hh,r⟩
  ·exact Or.inl r
  ·exact Or.inr ⟨g,cap,cur,e1,hg,by rw[hb.block g (AE.1 hh).1];exact hh,r⟩
 rcases h with h | h
 ·exact Or.inl (one _ h)
 ·exact Or.inr (one _ h)
theorem mR {l:List Nat}{k:Nat} (hl:CB l) (h0:0<k) (hk:k<l.length) :
  dec (val BB (l.drop (k-1)))=dec (val BB (l.drop k))++(List.replicate (9-(dec (nth l (k-1))).length) 48++dec (nth l (k-1))):=by
 have hd:=cf hl.1 (show k-1<l.length by omega);have hB:(10:Nat) ^ 9=BB:=by decide
 rw[fw h0 (by omega),cY];have hne:l.drop k≠[]:=by intro e;have:=congrArg List.length e;simp at this;omega
 have hc:CB (l.drop k):=⟨fun d hd=>hl.1 d (CE hd),fun hne=>by rw[List.getLast_drop];exact hl.2 _⟩;have hp:=eu hc hne;have hpp:0<BB ^ ((l.drop k).length-1):=Bh (by decide)
 have hge:10 ^ 9<=nth l (k-1)+BB*val BB (l.drop k):=by
  rw[hB];have:BB*1<=BB*val BB (l.drop k):=AQ _ (by omega);omega
 rw[l8 9 _ hge,hB,C2 _ _ (by decide),BI hd,Bp,Nat.add_mul_mod_self_left,Cj hd];rw[zw 9 _ (by omega) (by rw[hB];exact hd)]
theorem j4 (t:ByteArray):Lib.strCells t=Lib.byteCells t.data.toList:=by simp[Lib.strCells,Lib.byteCells]
theorem jx (a b:List UInt8):Lib.byteCells (a++b)=Lib.byteCells a++Lib.byteCells b:=by simp[Lib.byteCells]
theorem pX {l:List Nat} (h:0<l.length):val BB (l.drop (l.length-1))=nth l (l.length-1):=by
 rw[fw h (AA _),Bt (AA _)];simp
theorem wP (z:Int) (c:Nat) (w:World) (hz:z=c) (hc:c<=100) :
  Calls Tryz.prog 154 #[.string ⟨#[48]⟩,.int .i64 z] w fun e w'=>∃ t:ByteArray,e=.returned (.string t)/\Hid (t.data.toList=List.replicate c 48)/\Hid (t.size=c)/\Below w.heap.size w w':=by
 subst hz;refine (Tryz.strings_Repeat ⟨#[48]⟩ c w (by omega) (by show 1*c<=_;omega)).mono ?_;rintro e w' ⟨rfl,hb⟩
 have e1:∀ c,Lib.repeatL [48] c=List.replicate c 48:=by
  intro c
  induction c with
  | zero=>rfl
  | succ c ih=>simp[Lib.repeatL,ih,Ck]
 refine⟨_,rfl,e1 c,?_,hb⟩
 show (Lib.repeatL [48] c).toArray.size=c
 rw[e1];simp
theorem kT (z:Int) (u:Nat) (hz:z=u) (hu:u<18446744073709551616) (w:World) (hG:Gw w) :
  Calls Tryz.prog 136 #[.int .u64 z,.int .i64 10] w fun e w'=>∃ t:ByteArray,e=.returned (.string t)/\Hid (t.data.toList=dec u)/\Hid (t.size=(dec u).length)/\t.size<=20/\Below w.heap.size w w':=by
 refine (xZ z u hz hu w hG.pow).mono ?_;rintro e w' ⟨rfl,hb⟩;exact⟨_,rfl,rfl,rfl,bW (k:=20) (n:=u) (by omega) (by omega),hb⟩
theorem xr (va:Value) (l:List Nat) (w:World) (ha:IsU w va l) (hl:CB l) (hll:l.length<100000) (hG:Gw w) :
  Calls Tryz.prog 135 #[va] w fun e w'=>e=.returned (.string ⟨(dec (val BB l)).toArray⟩)/\Below w.heap.size w w':=by
 have ha':=ha;obtain⟨p,cap,rfl,hlc,hcm,hcell⟩:=ha';unfold maxLen at hcm;by_cases h0:l.length=0
 ·have hnil:l=[]:=BG h0;have H:=At hnil;clear hnil;have h0':((l.length:Int) == 0)=true:=by simp[h0]
  go_enter Tryz.func135,Tryz.ntmps135;go_wp2;go_ret;refine⟨?_,Dv _ _⟩;rw[H.out,val_nil,dec_lt (by omega)];rfl
 ·have h0':((l.length:Int) == 0)=false:=by simp;intro e;rw[e] at h0;simp at h0
  have hpos:0<l.length:=by omega
  obtain⟨b,o,rfl,hbw,hc⟩:=hcell hpos;have hc1:=hc (l.length-1) (by omega);have hb1:=cf hl.1 (show l.length-1<l.length by omega);have hb1':nth l (l.length-1)<1000000000:=hb1;clear hb1 h0;have hzero:(zeroValue 178).run Tryz.prog w=.ok (.agg #[.pointer none,.slice none 0 0]) w:=by kernel_rfl
  go_enter Tryz.func135,Tryz.ntmps135;go_wp2_with fail
  have hb0:Below w.heap.size w (w.alloc (.cells #[.pointer none,.slice none 0 0] 178)):=(Dv _ _).alloc (AA _) _;have HB0:=At (tv w);have HG0:=At (hG.below hb0);have HBL:=At hb0;have hsz0:(w.alloc (.cells #[.pointer none,.slice none 0 0] 178)).heap.size=w.heap.size+1:=by simp
  have HSZ:=At hsz0;clear hb0 hsz0 hzero hc1;generalize w.alloc (.cells #[.pointer none,.slice none 0 0] 178)=w0 at HB0 HG0 HBL HSZ |-;refine (kT _ _ rfl (by omega) w0 HG0.out).mono ?_;rintro e w1 ⟨t,rfl,ht,htsz,_,hb1⟩;have HBL1:=At (HBL.out.trans (hb1.mono HBL.out.size));have HB1:=At (jC HB0.out hb1);have hsz1:=hb1.size;rw[HSZ.out] at hsz1;have hlen1:=bW (k:=9) (n:=nth l (l.length-1)) (by omega) (by omega);have HT:=ht;have hts:t.size<=9:=by rw[htsz.out];exact hlen1
  clear hb1 HB0 HG0 HBL ht htsz hlen1;go_wp2_with (go_at_call 153;refine (gx w.heap.size w.heap.size [] _ w1 HB1.out (by simp only[Bw];omega) (by omega)).mono ?_;rintro e w2 ⟨rfl,hB2,hb2⟩)
  have hbw2:=HBL1.out.trans hb2;have hB2':=hB2;rw[A1,j4,HT.out,<-pX hpos] at hB2';have HBS:=At hB2';have HBW:=At hbw2;clear hB2 hB2' hbw2 hb2;go_loopw [4] (fun s4 wr=>∃ k:Nat,k<l.length/\s4=.int .i64 ((k:Int)-1)/\Hid (Lib.IsBuilder 178 5 w.heap.size w.heap.size (Lib.byteCells (dec (val BB (l.drop k)))) wr)/\Hid ((dec (val BB (l.drop k))).length<=9*(l.length-k))/\Hid (Below w.heap.size w wr)) (fun s4 _=>(intOf s4+1).toNat)
  case atStart=>exact⟨l.length-1,by omega,by go_num,HBS,by unfold Hid;rw[pX hpos];have:=bW (k:=9) (n:=nth l (l.length-1)) (by omega) (by omega);omega,HBW⟩
  case round =>
   obtain⟨k,hk,rfl,hB,hBlen,hbl⟩:=hrel;have hbs:=hbl.out.size;clear HBS HBW HB1 HBL1 HT hts;by_cases h0:k=0
   ·subst h0;go_wp2_with (go_at_call 155;refine (Tryz.Builder_String_any w.heap.size w.heap.size _ wr hB.out (by omega)).mono ?_;rintro e w3 ⟨rfl,hb3⟩)
    go_ret;exact⟨rfl,hbl.out.trans hb3⟩
   ·have h0':0<k:=by omega
    have hck:=(hbl.out.cell (p:=⟨b,o+(k-1),none⟩) hbw).trans (hc (k-1) (by omega));have hd:nth l (k-1)<1000000000:=cf hl.1 (by omega);have hlen2:=bW (k:=9) (n:=nth l (k-1)) (by omega) (by omega);have HGr:=At (hG.below hbl.out);go_wp2_with (go_at_call 136;refine (kT _ _ rfl (by omega) wr HGr.out).mono ?_;rintro e w3 ⟨t3,rfl,ht3,htsz3,ht20,hb3⟩)
    have HB3:=At (jC hB.out hb3);have HBL3:=At (hbl.out.trans (hb3.mono hbs));have hs3:=hb3.size;have hts3:t3.size<=9:=by rw[htsz3.out];exact hlen2
    clear hb3 hck hlen2;refine (wP _ (9-t3.size) w3 (by omega) (by omega)).mono ?_;rintro e w4 ⟨t4,rfl,ht4,htsz4,hb4⟩;have HB4:=At (jC HB3.out hb4);have HBL4:=At (HBL3.out.trans (hb4.mono (by omega)));have hs4:=hb4.size;have hts4:t4.size<=9:=by rw[htsz4.out];omega
    clear hb4 HB3 HBL3;have hbl9:=hBlen.out;go_wp2_with fail
    have hsz43:(t4++t3).size=t4.size+t3.size:=by simp
    refine (gx w.heap.size w.heap.size _ _ w4 HB4.out (by rw[Lib.byteCells_length,hsz43];omega) (by omega)).mono ?_;rintro e w5 ⟨rfl,hB5,hb5⟩
    have hcat:(t4++t3).data.toList=List.replicate (9-(dec (nth l (k-1))).length) 48++dec (nth l (k-1)):=by
     rw[ByteArray.data_append,Array.toList_append,ht4.out,ht3.out,htsz3.out]
    rw[j4,hcat,<-jx,<-mR hl h0' hk] at hB5;have HB5:=At hB5;have HBL5:=At (HBL4.out.trans hb5)
    have hl5:Hid ((dec (val BB (l.drop (k-1)))).length<=9*(l.length-(k-1))):=by
     unfold Hid;rw[mR hl h0' hk,AO,AO,Cw];have:=htsz3.out;omega
    clear hB5 hb5 hcat hsz43;go_wp2;go_roundw;case rel=>exact⟨k-1,by omega,by go_num,HB5,hl5,HBL5⟩
    case measure=>simp[intOf];omega
end Go.Proofs.YtgakllaobooabaaGreatDoor
