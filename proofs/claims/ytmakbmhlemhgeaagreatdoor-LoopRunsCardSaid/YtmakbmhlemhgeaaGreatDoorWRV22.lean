/- L -/
import Derived.Test.YtmakbmhlemhgeaaGreatDoorRows
import Derived.ProofKit
import Derived.LaidMore
import Derived.HandedShaped
import Derived.Shelf.Vars
import Derived.Lay
import Derived.Stop.Joined
import Derived.Test.YtmakbmhlemhgeaaGreatDoorTie
import Derived.Test.YtmakbmhlemhgeaaGreatDoorCards
import Derived.SevenTiedAt
import Derived.Test.YtmakbmhlemhgeaaGreatDoorWCoef
import Derived.Test.YtmakbmhlemhgeaaGreatDoorWNC8
import Derived.Test.YtmakbmhlemhgeaaGreatDoorWNT2
import Derived.Test.YtmakbmhlemhgeaaGreatDoorWRS6
import Derived.Test.YtmakbmhlemhgeaaGreatDoorWRV5
import Derived.Test.YtmakbmhlemhgeaaGreatDoorWRV29
import Derived.Test.YtmakbmhlemhgeaaGreatDoorWRV21
import Derived.Test.YtmakbmhlemhgeaaGreatDoorWB
set_option linter.all false
set_option maxRecDepth 100000
set_option maxHeartbeats 8000000
namespace Go.Proofs.YtmakbmhlemhgeaaGreatDoor
open Go.RowKit Dc Dg
open Go.ChangeShapes Go.WideShapes Go.ChangeAt
theorem own:ownKnob Tryz.prog.godebug=none:=by kernel_rfl
def qq:List (String×DataW Unit):=[("math/bits.deBruijn32tab", Rows.laid_math_bits_deBruijn32tab),("math/bits.deBruijn64tab", Rows.laid_math_bits_deBruijn64tab),("internal/strconv.uint64pow10", Rows.laid_internal_strconv_uint64pow10),("unicode/utf8.acceptRanges", Rows.laid_unicode_utf8_acceptRanges),("strconv.ErrRange", Rows.laid_strconv_ErrRange),("strconv.ErrSyntax", Rows.laid_strconv_ErrSyntax),("unicode/utf8.first", Rows.laid_unicode_utf8_first)]
theorem tG {H:Type}{enc:TypeId×Value->H}{a:Assume}{C:Checked}{os:Os}{f:FuncId}{fn:Func}{s:ChangeSpec}{conds:List PathCond}{apart fresh handsOn again:Bool}{X:World->Array Value->Prop}
  (hX:∀ (w w':World) (args:Array Value),w.heap=w'.heap->X w args->X w' args)
  (own:ownKnob C.prog.godebug=none) (started:os.Started) (noInit:C.prog.inits.idxOf? f=none) (hfn:C.prog.funcs[f]?=some fn)
  (witness:∃ (w:World) (tape:Tape) (i:Input),w.os=os/\(w.forCall tape i).Shaped C.prog/\i.vars=[]/\Input.okWide C.prog (w.forCall tape i) .any w.heap.size f i /\
   ((s.pre enc C.prog fn conds apart (w.forCall tape i).memory i.args/\X (w.forCall tape i).memory i.args)/\sizedMet enc C.prog fn (OpenSpec.ofChange s) apart (w.forCall tape i).memory i.args)/\a.holds C.prog (lone (Frame.enter C.prog f i.args .normal) [] (w.forCall tape i)))
  (contract:∀ (W:World) (base:Nat) (args:Array Value) (ds gs:List (DataW H)) (before:List MemPlace),
   (∀ (j:Nat) t v,fn.params[j]?=some t->args[j]?=some v->Value.okWide C.prog W .any base t v) ->
   DataW.Whole enc C.prog fn.params.toList s.vars apart W args.toList ds gs before ->
   (DataW.weightsEach C.prog (fn.params.toList++s.plain.varTypes C.prog) (ds++gs)).all (·<=reachBytes)=true->X W args->W.ShapedOpen C.prog ->
   Calls C.prog f args W fun e W'=>∃ v,e=.returned v/\s.post enc C.prog fn apart fresh handsOn again W args v W') :
  ReturnsInHanded a C os f .any (fun w args=>(s.pre enc C.prog fn conds apart w args/\X w args)/\sizedMet enc C.prog fn (OpenSpec.ofChange s) apart w args) (s.post enc C.prog fn apart fresh handsOn again):=by
 refine returnsInHanded_of_calls own started noInit witness ?_;intro w tape i _ hsh _ hok hpre hholds;obtain⟨_,_,_,fn',hfn',_,_,_,_,hval⟩:=hok;have e:fn'=fn:=Option.some.inj (hfn'.symm.trans hfn);subst e;obtain⟨⟨⟨ds,gs,before,hw,hc⟩,hx⟩,hz⟩:=hpre;have hw':=DataW.Whole.of_heap (w':=w.forCall tape i) (by rfl) hw;refine (contract (w.forCall tape i) w.heap.size i.args ds gs before hval hw' (hz.weights hw) (hX _ _ _ (by rfl) hx) hsh).mono fun e W' ⟨v,he,hp⟩=>?_;subst he;exact ChangeSpec.post_blind hp
theorem tB {H:Type}{enc:TypeId×Value->H}{w:World}{base:Nat}{sp:Nat->Bool}{held:Bool}{fuel:Nat}{t:TypeId}{cs:List Value}{n:String}{d:DataW H}{p:List MemPlace}{ms:Array (String×TypeId)} (ht:Tryz.prog.underlying t=some (.interface ms)) (h:DataW.trod enc Tryz.prog w base sp held fuel t cs=some (.iface n d,p)):∃ u v,cs=[.iface u v]:=by
 cases fuel with
 | zero=>simp[DataW.trod] at h
 | succ fuel =>
  unfold DataW.trod at h;rw[ht] at h
  split at h<;>first | (cases h;done) | skip
  all_goals first | exact⟨_,_,rfl⟩ | (simp_all;done)
theorem Cf:(Rows.laid_internal_strconv_uint64pow10:DataW Unit)=Lib.tabData .u64 Lib.pow10Tab:=by kernel_rfl
theorem Gj {W:World} (hL:laidMetH Tryz.prog qq W) (hsh:W.ShapedOpen Tryz.prog):Gx W:=by
 rw[Go.MakeChecks.laidMetH_plain _ _ _ (by kernel_rfl)] at hL;obtain⟨ps,hv,_,_⟩:=hL;unfold qq at hv;obtain⟨g6,t6,c6,f6,p6,q6,hg6,ht6,hv6,hd6,hv,_⟩:=hv;obtain⟨g7,t7,c7,f7,p7,q7,hg7,ht7,hv7,hd7,hv,_⟩:=hv;obtain⟨g5,t5,c5,f5,p5,q5,hg5,ht5,hv5,hd5,hv,_⟩:=hv;obtain⟨g4,t4,c4,f4,p4,q4,hg4,ht4,hv4,hd4,hv,_⟩:=hv;obtain⟨g1,t1,c1,f1,p1,q1,hg1,ht1,hv1,hd1,hv,_⟩:=hv;obtain⟨g0,t0,c0,f0,p0,q0,hg0,ht0,hv0,hd0,_,_⟩:=hv
 have n0:Tryz.prog.globalNamed "strconv.ErrSyntax" = some 0:=by kernel_rfl
 have n1:Tryz.prog.globalNamed "strconv.ErrRange" = some 1:=by kernel_rfl
 have n5:=mL;have y0:(Tryz.prog.globals[0]?).map (·.type)=some 170:=by kernel_rfl
 have y1:(Tryz.prog.globals[1]?).map (·.type)=some 170:=by kernel_rfl
 obtain rfl:=Option.some.inj (n0.symm.trans hg0);obtain rfl:=Option.some.inj (n1.symm.trans hg1);obtain rfl:=Option.some.inj (n5.symm.trans hg5);obtain rfl:=Option.some.inj (y0.symm.trans ht0);obtain rfl:=Option.some.inj (y1.symm.trans ht1);have hif:=Tryz.underlying170;have k0:=World.var?_cell hg0 hv0 0;have k1:=World.var?_cell hg1 hv1 0;obtain⟨u0,v0,e0⟩:=tB hif hd0;obtain⟨u1,v1,e1⟩:=tB hif hd1;rw[<-IK,e0] at k0;rw[<-IK,e1] at k1;rw[Cf] at hd5
 obtain⟨T,hT,e,hu,he⟩:∃ T,(Tryz.prog.globals[3]?).map (·.type)=some T/\∃ e,Tryz.prog.underlying T=some (.array 20 e)/\(Tryz.prog.underlying e=some (.int .u64)/\Tryz.prog.cellsOf e=1/\Tryz.prog.cellsOf T=20) :=
  ⟨300,by kernel_rfl,122,by kernel_rfl,by kernel_rfl,by kernel_rfl,by kernel_rfl⟩
 obtain rfl:=Option.some.inj (hT.symm.trans ht5);have ep:=Lib.cells_of_tab hu he.1 he.2.1 he.2.2 hd5
 have hsz:8<=W.heap.size:=by
  have h7:(((begin Tryz.prog (fun _ _=>0) default).world.heap[7]?).bind Obj.row?).isSome=true:=by kernel_rfl
  obtain⟨⟨zero,t⟩,hz⟩:=Option.isSome_iff_exists.1 h7;obtain⟨cs,hh,_⟩:=hsh.1 7 zero t (of_decide_eq_true (by kernel_rfl)) hz;have:=CK hh;omega
 refine⟨⟨?_,?_,hsz⟩,⟨u0,v0,k0⟩,⟨u1,v1,k1⟩⟩
 ·unfold sE Lib.TabIs;rw[hv5,<-ep]
 ·exact cell_of_shapedOpen_int (g:=2) (t:=3) (zero:=#[.int .i64 0]) hsh (of_decide_eq_true (by kernel_rfl)) (by kernel_rfl) rfl (by kernel_rfl) (by kernel_rfl) und3
open Go.RowKit Dg
structure sF (a b x:List ByteArray) (qa qb xs:List Rat):Prop where
 pa:dH a qa
 pb:dH b qb
 lb:0<qb.length
 ex:x=xs.map tq
 ok:Okay qa qb xs
 e:cj a b x x.length=(bD qa qb xs xs.length).map tq
 y:∀ q∈bD qa qb xs xs.length,okQ q
theorem FQ (v vx:Value) (a b x:List ByteArray) (w:World) (hF:IsF w v a b) (hx:IsS w vx x) (hok:aI a b=true->x.length<=64->dB x=true->∃ qa qb xs,sF a b x qa qb xs) :
  Calls Tryz.prog 14 #[v,vx] w (jO (ig a b x) (cj a b x x.length) w):=by
 obtain⟨p,c,q,d,rfl,hfa,hfb⟩:=id hF.ex;obtain⟨px,cx,rfl,-,-⟩:=id hx.form;have HF:=GF hF;have HX:=GF hx;go_enter Tryz.func14,Tryz.ntmps14;go_upto_region 1 with fail
 have l1:=bA w (.cells #[.slice p a.length c,.slice q b.length d] 34);have z1:=size_alloc w (.cells #[.slice p a.length c,.slice q b.length d] 34);generalize w.alloc (.cells #[.slice p a.length c,.slice q b.length d] 34)=w1 at *
 have hBB:=l1.below;have s0:=l1.s0;have q0:=az s0 0;have q1:=az s0 1;have H1:=GF (oV _ a b w1 (HF.out.below hBB));clear l1 hF hx hfa hfb;by_cases hck:aI a b=true
 ·have hce:aG a b=0:=by unfold aG;rw[if_pos hck]
  have HRE:=GF (show ig a b x=if 64<x.length then 3 else if dB x=true then 0 else 2 from by unfold ig;rw[if_pos hck]);rw[hce] at H1;have HCK:=GF hck;have HOK:=GF (hok hck);clear hce hck hok;go_wp2_with fail
  refine H1.out.mono ?_;rintro e w2 ⟨rfl,hb2⟩;have hB2:=hBB.trans (hb2.mono hBB.size);replace s0:=(hb2.block _ (ak s0)).trans s0;clear hBB hb2 q0 q1 H1 z1;by_cases h64:64<x.length
  ·have hd:decide ((64:Int)<(x.length:Int))=true:=decide_eq_true (by omega);have HE:=GF (show ig a b x=3 from by rw[HRE.out,if_pos h64]);clear h64 HRE;go_wp2;refine Kh (v:=.tuple #[.slice none 0 0,.int .i64 3]) (by simp[results,Tryz.results14,go_sem]) rfl ⟨_,by rw[HE.out],(fun h=>by rw[HE.out] at h;cases h),(fun _=>rfl),hB2⟩
  ·have hd:decide ((64:Int)<(x.length:Int))=false:=decide_eq_false (by omega);have HC:=GF (oW _ x w2 (HX.out.below hB2) (by omega));have HL:=GF (show x.length<=64 by omega);obtain⟨ok,hcf⟩:∃ ok,ok=dB x:=⟨_,rfl⟩;rw[<-hcf] at HC;have HCF:=GF hcf;have HR2:=GF (show ig a b x=if ok=true then 0 else 2 from by rw[HRE.out,if_neg h64,hcf]);clear h64 HRE hcf;go_wp2_with fail
   refine HC.out.mono ?_;rintro e w3 ⟨rfl,hb3⟩;have hB3:=hB2.trans (hb3.mono hB2.size);replace s0:=(hb3.block _ (ak s0)).trans s0;clear hb3 hB2 HC hd
   cases ok with
   | false =>
    have HE:=GF (show ig a b x=2 from by rw[HR2.out];rfl);clear HR2;go_wp2;refine Kh (v:=.tuple #[.slice none 0 0,.int .i64 2]) (by simp[results,Tryz.results14,go_sem]) rfl ⟨_,by rw[HE.out],(fun h=>by rw[HE.out] at h;cases h),(fun _=>rfl),hB3⟩
   | true =>
    have HE:=GF (show ig a b x=0 from by rw[HR2.out];rfl);obtain⟨qa,qb,xs,hr⟩:=HOK.out HL.out HCF.out.symm;have HR:=GF hr;have q0:=az s0 0;have q1:=az s0 1;clear HR2 HOK hr;clear q0 q1;have LF:=GF (fun (wx:World) (h:Below (w.heap.size+1) w3 wx)=>HF.out.below (hB3.trans (h.mono (H_ _ _))));have LX:=GF (fun (wx:World) (h:Below (w.heap.size+1) w3 wx)=>HX.out.below (hB3.trans (h.mono (H_ _ _))));have hz:w.heap.size+1<=w3.drew.heap.size:=ak s0;have hxl:xs.length<=64:=by have h1:=HL.out;rw[HR.out.ex,Hj] at h1;exact h1
    have HXL:=GF hxl;have HYtmakbmhlemhgeaaGreatDoor:=GF (show (bD qa qb xs xs.length).length<1000000 by rw[fc];omega);obtain⟨LY,hLY⟩:∃ LY,LY=cj a b x x.length:=⟨_,rfl⟩;have HLQ:=GF hLY;have HLY:=GF (hLY.trans HR.out.e);clear hxl hLY;go_upto_region 8 with fail
    have hBw:Below (w.heap.size+1) w3 w3.drew:=(Ki _ _).drew;refine aB (fun w'=>∃ z:aL (w.heap.size+1) w3,w'=z.w) (fun j=>j == 2||j == 3||j == 4) (by kernel_rfl) (by kernel_rfl) ⟨⟨_,hBw⟩,rfl⟩ ?_;have k0:=aw (B:=w.heap.size+1) s0 (by omega) 0 rfl;have k1:=aw (B:=w.heap.size+1) s0 (by omega) 1 rfl;have HB3:=GF hB3;clear s0 hB3;generalize w3.drew=wn at *
    refine aq 2 0 _ _ _ (by kernel_rfl) ?_;simp only[GP,GS,GQ,GR];repeat (go_big_quiet_step (fail))
    refine wpQuiet_nil ?_;refine ar rfl rfl (fun K hK=>?_);go_simp;refine (rY _ xs wn (by rw[<-HR.out.ex];exact LX.out wn hBw) HR.out.ok.x (by have:=HXL.out;omega)).mono ?_;rintro e wn ⟨v1,rfl,hv1,hb⟩;replace hv1:=hv1.isQs;obtain⟨pp1,cc1,rfl,-,-⟩:=hv1.form;replace hBw:=hBw.trans (hb.mono hz);replace hz:=GV hz hb.size;refine hK _ _ ⟨⟨_,hBw⟩,rfl⟩ ?_;clear hK K hb;try simp only[Act.put,GJ,GI,GH,GG,GL,GK]
    refine ar rfl rfl (fun K hK=>?_);go_simp;refine (qK _ _ a b qa qb xs wn (LF.out wn hBw) HR.out.pa HR.out.pb hv1 HR.out.ok HR.out.lb (by have:=HXL.out;omega)).mono ?_;rintro e wn ⟨v2,rfl,hv2,hb⟩;replace hv2:=hv2.isQs;clear hv1;replace hBw:=hBw.trans (hb.mono hz);replace hz:=GV hz hb.size;refine hK _ _ ⟨⟨_,hBw⟩,rfl⟩ ?_;clear hK K hb;try simp only[Act.put,GJ,GI,GH,GG,GL,GK]
    refine ar rfl rfl (fun K hK=>?_);go_simp;refine (yf _ (bD qa qb xs xs.length) wn hv2 HR.out.y HYtmakbmhlemhgeaaGreatDoor.out).mono ?_;rintro e wn ⟨v3,rfl,hv3,hb⟩;rw[<-HLY.out] at hv3;clear hv2;replace hBw:=hBw.trans (hb.mono hz);replace hz:=GV hz hb.size;refine hK _ _ ⟨⟨_,hBw⟩,rfl⟩ ?_;clear hK K hb;try simp only[Act.put,GJ,GI,GH,GG,GL,GK]
    refine aq 2 5 _ _ _ (by kernel_rfl) ?_;simp only[GP,GS,GQ,GR];repeat (go_big_quiet_step (fail))
    refine wpQuiet_nil ?_;refine aH ?_;have HBF:=GF (HB3.out.trans (hBw.mono (H_ _ _)));clear hBw k0 k1;go_wp2;refine Kh (v:=.tuple #[v3,.int .i64 0]) (by simp[results,Tryz.results14,go_sem]) rfl ⟨_,by rw[HE.out],(fun _=>by rw[<-HLQ.out];exact hv3),(fun h=>absurd HE.out h),HBF.out⟩
 ·have hce:aG a b=30:=by unfold aG;rw[if_neg hck]
  have HE:=GF (show ig a b x=30 from by unfold ig;rw[if_neg hck]);rw[hce] at H1;clear hce hck hok;go_wp2_with fail
  refine H1.out.mono ?_;rintro e w2 ⟨rfl,hb2⟩;have hB2:=hBB.trans (hb2.mono hBB.size);clear hBB hb2 q0 q1 H1;go_wp2;refine Kh (v:=.tuple #[.slice none 0 0,.int .i64 30]) (by simp[results,Tryz.results14,go_sem]) rfl ⟨_,by rw[HE.out],(fun h=>by rw[HE.out] at h;cases h),(fun _=>rfl),hB2⟩
theorem uu (v:Value) (a b:List ByteArray) (z:ByteArray) (w:World) (hF:IsF w v a b) :
  Calls Tryz.prog 19 #[v,.string z] w fun e w'=>e=.returned (.tuple #[.string (cM a b z).1,.int .i64 (cM a b z).2])/\Below w.heap.size w w':=by
 obtain⟨p,c,q,d,rfl,hfa,hfb⟩:=id hF.ex;have HF:=GF hF;have HFA:=GF hfa;have HFB:=GF hfb;go_enter Tryz.func19,Tryz.ntmps19;go_upto_region 1 with fail
 have l1:=bA w (.cells #[.slice p a.length c,.slice q b.length d] 34);generalize w.alloc (.cells #[.slice p a.length c,.slice q b.length d] 34)=w1 at *
 have hB:=l1.below;have s0:=l1.s0;have q0:=az s0 0;have q1:=az s0 1;have H1:=GF (oV _ a b w1 (HF.out.below hB));clear l1 hF hfa hfb;by_cases hck:aI a b=true
 ·have hce:aG a b=0:=by unfold aG;rw[if_pos hck]
  have HT:=GF (show cM a b z=if d8 z=true then if z=⟨#[48]⟩ then (⟨#[]⟩,32) else if (atT b (cX ⟨#[49]⟩ z)).1=⟨#[48]⟩ then (⟨#[]⟩,32) else (cX (atT a (cX ⟨#[49]⟩ z)).1 (atT b (cX ⟨#[49]⟩ z)).1,0) else (⟨#[]⟩,2) by unfold cM;rw[if_pos hck]);rw[hce] at H1;have HCK:=GF hck;clear hce hck;go_wp2_with fail
  refine H1.out.mono ?_;rintro e w2 ⟨rfl,hb2⟩;replace hB:=hB.trans (hb2.mono hB.size);replace s0:=(hb2.block _ (ak s0)).trans s0;clear q0 q1;have q0:=az s0 0;have q1:=az s0 1;clear hb2 H1
  have HS:Calls Tryz.prog 51 #[.string z] w2 fun e w'=>e=.returned (.bool (d8 z))/\Below w2.heap.size w2 w':=by
   have h:=qN z w2;rw[CS] at h;exact h
  obtain⟨sz,hsz⟩:∃ sz,sz=d8 z:=⟨_,rfl⟩;rw[<-hsz] at HS HT;have HSZ:=GF hsz;clear hsz;go_wp2_with fail
  refine HS.mono ?_;rintro e w3 ⟨rfl,hb3⟩;replace hB:=hB.trans (hb3.mono hB.size);replace s0:=(hb3.block _ (ak s0)).trans s0;clear q0 q1;have q0:=az s0 0;have q1:=az s0 1;clear hb3 HS
  cases sz with
  | false =>
   have HE:=GF (show cM a b z=(⟨#[]⟩,2) by rw[HT.out,if_neg (by decide)]);clear HT;go_wp2;refine Kh (v:=.tuple #[.string ⟨#[]⟩,.int .i64 2]) (by simp[results,Tryz.results19,go_sem]) rfl ⟨by rw[HE.out],hB⟩
  | true =>
   rw[if_pos rfl] at HT;by_cases hz0:z=⟨#[48]⟩
   ·have HE:=GF (show cM a b z=(⟨#[]⟩,32) by rw[HT.out,if_pos hz0]);have hzd:(z.toList == [48])=true:=by rw[hz0,aC];rfl
    clear hz0 HT;go_wp2;refine Kh (v:=.tuple #[.string ⟨#[]⟩,.int .i64 32]) (by simp[results,Tryz.results19,go_sem]) rfl ⟨by rw[HE.out],hB⟩
   ·obtain⟨zc,ww,htu⟩:=EB HSZ.out.symm hz0;obtain⟨qa,qb,htv⟩:=De HCK.out HSZ.out.symm hz0 htu.wv;have HTU:=GF htu;have HTV:=GF htv;have hzd:=Bb hz0;clear hz0 HT htu htv;go_wp2_with fail
    have HGT:=lD z w3;rw[HTU.out.r] at HGT;refine HGT.mono ?_;rintro e w4 ⟨v4,rfl,hv4,hb4⟩;replace hv4:cF w4 v4 zc:=hv4;obtain⟨m,pa,N,d1,pa',N',d1',m2,pb,M,e1,pb',M',e1',rfl,-,-⟩:=hv4.parts;clear HGT hzd;replace hB:=hB.trans (hb4.mono hB.size);replace s0:=(hb4.block _ (ak s0)).trans s0;clear q0 q1;have q0:=az s0 0;have q1:=az s0 1;clear hb4;go_upto_region 9 with fail
    have lx:=bA w4 (.cells #[.bool m,.slice pa N d1,.bool false,.slice pa' N' d1',.bool m2,.slice pb M e1,.bool false,.slice pb' M' e1'] 92);have hgz:=hB.size;replace hv4:=hv4.below lx.below;have sz0:=lx.s0;replace hB:=hB.trans ((lx.below).mono hB.size);replace s0:=((lx.below).block _ (ak s0)).trans s0;clear q0 q1;have q0:=az s0 0;have q1:=az s0 1;clear lx;generalize World.alloc w4 (.cells #[.bool m,.slice pa N d1,.bool false,.slice pa' N' d1',.bool m2,.slice pb M e1,.bool false,.slice pb' M' e1'] 92)=w5 at *
    generalize (World.heap w4).size=gz at *
    have t0:=ai sz0 0;have t1:=ai sz0 1;have t2:=ai sz0 2;have t3:=ai sz0 3;have t4:=ai sz0 4;have t5:=ai sz0 5;have t6:=ai sz0 6;have t7:=ai sz0 7;go_wp2_with fail
    have HCI:=x8 _ zc 2000 w5 hv4 HTU.out.sz (by decide) HTU.out.ne;rw[HTU.out.e] at HCI;refine HCI.mono ?_;rintro e w6 ⟨v6,rfl,hv6,hb6⟩;clear HCI t0 t1 t2 t3 t4 t5 t6 t7 hv4 sz0 hgz;obtain⟨wm,wa,wN,wd,wb,wM,we,wm2,wcc,wO,wf,wg,wP,wh,rfl,-,-⟩:=hv6.parts;replace hB:=hB.trans (hb6.mono hB.size);replace s0:=(hb6.block _ (ak s0)).trans s0;clear q0 q1;have q0:=az s0 0;have q1:=az s0 1;clear hb6;go_upto_region 10 with fail
    have lx:=bA w6 (.cells #[.bool wm,.slice wa wN wd,.bool false,.slice wb wM we,.bool wm2,.slice wcc wO wf,.bool false,.slice wg wP wh] 92);have hgw:=hB.size;replace hv6:=hv6.below lx.below;have sw0:=lx.s0;replace hB:=hB.trans ((lx.below).mono hB.size);replace s0:=((lx.below).block _ (ak s0)).trans s0;clear q0 q1;have q0:=az s0 0;have q1:=az s0 1;clear lx;generalize World.alloc w6 (.cells #[.bool wm,.slice wa wN wd,.bool false,.slice wb wM we,.bool wm2,.slice wcc wO wf,.bool false,.slice wg wP wh] 92)=w7 at *
    generalize (World.heap w6).size=gw at *
    clear q0 q1;have HF7:=GF (HF.out.below hB);have HW7:=GF hv6;have HB7:=GF hB;have HS7:=GF s0;have HSW:=GF sw0;clear hv6 hB s0 sw0
    go_cut [10] from 30 to 34 (fun s10 wx=>∃ g7 am aa aN ad ab aM ae am2 ac aO af ag aP ah,s10=.pointer (some ⟨g7,0,none⟩)/\wx.heap[g7]?=some (.cells #[.bool am,.slice aa aN ad,.bool false,.slice ab aM ae,.bool am2,.slice ac aO af,.bool false,.slice ag aP ah] 92 (0,0))/\cF wx (.agg #[.bool am,.slice aa aN ad,.bool false,.slice ab aM ae,.bool am2,.slice ac aO af,.bool false,.slice ag aP ah]) (evQ ww qb)/\Below w7.heap.size w7 wx)
    case first =>
     have hBd:Below w7.heap.size w7 w7.drew:=(Ki _ _).drew;refine wp_mono (aD (Q:=aX _) (fun wx:World=>Below w7.drew.heap.size w7.drew wx) (fun t=>t == 6) (by kernel_rfl) ?_) (fun _ _ _ h=>bf h);have LB:=GF (fun (wx:World) (h:Below w7.drew.heap.size w7.drew wx)=>HFB.out.below (HB7.out.trans ((hBd.trans (h.mono hBd.size)).mono HB7.out.size)));have LW:=GF (fun (wx:World) (h:Below w7.drew.heap.size w7.drew wx)=>HW7.out.below (hBd.trans (h.mono hBd.size)));have CW:=GF (fun (wx:World) (h:Below w7.drew.heap.size w7.drew wx)=>(Oct.of HSW.out).below (hBd.trans (h.mono hBd.size)) (ak HSW.out));have CF:=GF (fun (wx:World) (h:Below w7.drew.heap.size w7.drew wx)=>ai (((hBd.trans (h.mono hBd.size)).block _ (ak HS7.out)).trans HS7.out) 1);have HM:=GF hBd;have hl7:qb.length<1000000:=by have:=HTV.out.pb.len;omega
     have hev:∀ i,i<=qb.length->SzV 2000 (ct (evQ ww (qb.drop i))):=fun i _=>HTV.out.pb.evs HTV.out.wv i;have hre:=HTV.out.pb.reals;have hws:=HTU.out.ws;have HAT:=GF (fun (u:Value) (wx:World) (h:nE wx u (qb.map CQ.real)) (h2:Below w7.drew.heap.size w7.drew wx)=>Cy u _ qb ww wx h (LW.out wx h2) hws hl7 hev hre);have hbe:=HTV.out.pb.e;have hbo:=HTV.out.pb.ok;have HVL:=GF (fun (wx:World) (h2:Below w7.drew.heap.size w7.drew wx)=>qL (.slice q b.length d) qb wx (by rw[<-hbe];exact LB.out wx h2) hbo hl7);clear hl7 hev hre hws hbe hbo hBd;have hBB:Below w7.drew.heap.size w7.drew w7.drew:=Ki _ _;generalize w7.drew=wn at *
     have hms:=HM.out.size;have hsz:=GM wn.heap.size;refine Kf 0 (r:=?_)
     try simp only[Act.put,GJ,GI,GH,GG,GL,GK]
     refine aE (i:=1) (v:=?vv1B) rfl (by kernel_rfl) (fun _ _ _ h=>h) rfl hBB ?hy1B ?rest1B
     case hy1B =>
      intro wy hy;have t0:=CF.out wy hy;clear hy;go_simp;try with_reducible rfl
     try simp only[Act.put,GJ,GI,GH,GG,GL,GK]
     refine aE (i:=3) (v:=?vv3B) rfl (by kernel_rfl) (fun _ _ _ h=>h) rfl hBB ?hy3B ?rest3B
     case hy3B =>
      intro wy hy;obtain⟨t0,t1,t2,t3,t4,t5,t6,t7⟩:=CW.out wy hy;clear hy;try simp only[Hp] at t1 t2 t3 t4 t5 t6 t7
      go_simp;try with_reducible rfl
     try simp only[Act.put,GJ,GI,GH,GG,GL,GK]
     refine iw (i:=2) (i':=5) rfl rfl (by kernel_rfl) rfl rfl (fun K hK=>?n0) (fun K hK=>?d0)
     case' n0 =>
      go_simp;refine (HVL.out wn hBB).mono ?_;rintro e wn ⟨vA,rfl,hA,hb⟩;replace hA:=hA.isCs;obtain⟨pA,cA,rfl,-,-⟩:=hA.form;rw[Hj] at hA |-;have hBn:=hBB.trans (hb.mono hsz);replace hsz:=GV hsz hb.size;clear hBB;have hBB:=hBn;clear hBn;try replace hr:=(hb.block _ (ak hr)).trans hr
      refine hK _ _ (fun _ _=>hBB) ?_;clear hK K hb;try simp only[Act.put,GJ,GI,GH,GG,GL,GK]
      refine iw (i:=4) (i':=5) rfl rfl (by kernel_rfl) rfl rfl (fun K hK=>?n1) (fun K hK=>?d1)
      case' n1 =>
       go_simp;refine (HAT.out _ wn hA hBB).mono ?_;rintro e wn ⟨vB,rfl,hv,hb⟩;obtain⟨xm,xa,xN,xd,xb,xM,xe,ym,ya,yN,yd,yb,yM,ye,rfl,hvx,hvy⟩:=hv.parts;clear hA hv;have hBn:=hBB.trans (hb.mono hsz);replace hsz:=GV hsz hb.size;clear hBB;have hBB:=hBn;clear hBn;try replace hr:=(hb.block _ (ak hr)).trans hr
       refine hK _ _ (fun _ _=>hBB) ?_;clear hK K hb;try simp only[Act.put,GJ,GI,GH,GG,GL,GK]
       refine aA (i:=5) rfl (by kernel_rfl) rfl (fun K hK=>?d2)
     all_goals
      go_simp;have hla7:=bA wn (.cells #[.bool false,.slice none 0 0,.bool false,.slice none 0 0,.bool false,.slice none 0 0,.bool false,.slice none 0 0] 92);have hlb7:=hla7.below;have hr:=hla7.s0;have hgd:=hsz;clear hla7;try replace hA:=hA.below hlb7
      try replace hvx:=hvx.below hlb7
      try replace hvy:=hvy.below hlb7
      have hBn:=hBB.trans (hlb7.mono hsz);replace hsz:=GV hsz hlb7.size;clear hBB;have hBB:=hBn;clear hBn;try replace hr:=(hlb7.block _ (ak hr)).trans hr
      refine hK _ _ (fun _ _=>hBB) ?_;clear hK K hlb7;try simp only[Act.put,GJ,GI,GH,GG,GL,GK]
      generalize World.alloc wn (.cells #[.bool false,.slice none 0 0,.bool false,.slice none 0 0,.bool false,.slice none 0 0,.bool false,.slice none 0 0] 92)=wq at *
      generalize (World.heap wn).size=g7 at *
      rename World=>wn
     case' d0 =>
      refine aA (i:=2) rfl (by kernel_rfl) rfl (fun K hK=>?_);go_simp;refine (HVL.out wn hBB).mono ?_;rintro e wn ⟨vA,rfl,hA,hb⟩;replace hA:=hA.isCs;obtain⟨pA,cA,rfl,-,-⟩:=hA.form;rw[Hj] at hA |-;have hBn:=hBB.trans (hb.mono hsz);replace hsz:=GV hsz hb.size;clear hBB;have hBB:=hBn;clear hBn;try replace hr:=(hb.block _ (ak hr)).trans hr
      refine hK _ _ (fun _ _=>hBB) ?_;clear hK K hb;try simp only[Act.put,GJ,GI,GH,GG,GL,GK]
     case' d0 | d1 =>
      refine aA (i:=4) rfl (by kernel_rfl) rfl (fun K hK=>?_);go_simp;refine (HAT.out _ wn hA hBB).mono ?_;rintro e wn ⟨vB,rfl,hv,hb⟩;obtain⟨xm,xa,xN,xd,xb,xM,xe,ym,ya,yN,yd,yb,yM,ye,rfl,hvx,hvy⟩:=hv.parts;clear hA hv;have hBn:=hBB.trans (hb.mono hsz);replace hsz:=GV hsz hb.size;clear hBB;have hBB:=hBn;clear hBn;try replace hr:=(hb.block _ (ak hr)).trans hr
      refine hK _ _ (fun _ _=>hBB) ?_;clear hK K hb;try simp only[Act.put,GJ,GI,GH,GG,GL,GK]
     all_goals
      have hrr:=hr;have q0:=ai hrr 0;have q1:=ai hrr 1;have q2:=ai hrr 2;have q3:=ai hrr 3;have q4:=ai hrr 4;have q5:=ai hrr 5;have q6:=ai hrr 6;have q7:=ai hrr 7;have f0:=Kg wn (g7) 0 _ _ hrr;have f1:=Kg wn (g7) 1 _ _ hrr;have f2:=Kg wn (g7) 2 _ _ hrr;have f3:=Kg wn (g7) 3 _ _ hrr;have f4:=Kg wn (g7) 4 _ _ hrr;have f5:=Kg wn (g7) 5 _ _ hrr;have f6:=Kg wn (g7) 6 _ _ hrr;have f7:=Kg wn (g7) 7 _ _ hrr;have hP:=bK (u0:=.bool xm) (u1:=.slice xa xN xd) (u2:=.bool false) (u3:=.slice xb xM xe) (u4:=.bool ym) (u5:=.slice ya yN yd) (u6:=.bool false) (u7:=.slice yb yM ye) hrr;have HZ:=GF (cF.mk (c:=evQ ww qb) (bV.puts hvx hP hrr bJ) (bV.puts hvy hP hrr bJ));have HROW:=GF hP.row;have HBF:=GF ((HM.out.trans (hBB.mono hms)).trans (hP.below w7.heap.size (GV hms hgd)));clear hP hvx hvy hrr hr hBB;refine aA (i:=6) rfl (by kernel_rfl) rfl (fun K hK=>?_);go_simp;change K _ (cS wn g7 (.bool xm) (.slice xa xN xd) (.bool false) (.slice xb xM xe) (.bool ym) (.slice ya yN yd) (.bool false) (.slice yb yM ye));refine hK _ _ (fun h=>by cases h) ?_;clear hK K q0 q1 q2 q3 q4 q5 q6 q7 f0 f1 f2 f3 f4 f5 f6 f7;refine aK (by kernel_rfl) ?_ _;simp only[aX];try go_wp2
      go_meet;exact⟨g7,_,_,_,_,_,_,_,_,_,_,_,_,_,_,rfl,HROW.out,HZ.out,HBF.out⟩
    case rest =>
     obtain⟨g7,am,aa,aN,ad,ab,aM,ae,am2,ac,aO,af,ag,aP,ah,rfl,hr,hv,hb⟩:=hcut;have hB:=HB7.out.trans (hb.mono HB7.out.size);have s0:=(hb.block _ (ak HS7.out)).trans HS7.out;have sw:=(hb.block _ (ak HSW.out)).trans HSW.out;have hw:=HW7.out.below hb;clear HB7 HS7 HSW HW7 HF7 hb;go_upto_region 11 with fail
     have hBd:Below wc.heap.size wc wc.drew:=(Ki _ _).drew;refine aD (fun wx:World=>Below wc.drew.heap.size wc.drew wx) (fun _=>false) (by kernel_rfl) ?_;have CA:=GF (fun (wx:World) (h:Below wc.drew.heap.size wc.drew wx)=>(Oct.of hr).below (hBd.trans (h.mono hBd.size)) (ak hr));have HB8:=GF (hB.trans (hBd.mono hB.size));have HS8:=GF ((hBd.block _ (ak s0)).trans s0);have HSW8:=GF ((hBd.block _ (ak sw)).trans sw);have HR8:=GF ((hBd.block _ (ak hr)).trans hr);have HW8:=GF (hw.below hBd);have HV8:=GF (hv.below hBd);have hse:=GF (HTV.out.pb.ev HTV.out.wv);have hsz0:=GF (rx yE);clear hBd hB s0 sw hr hw hv;have hBB:Below wc.drew.heap.size wc.drew wc.drew:=Ki _ _;generalize wc.drew=wn at *
     refine aE (i:=0) (v:=?vv0C) rfl (by kernel_rfl) (fun _ _ _ h=>h) rfl hBB ?hy0C ?rest0C
     case hy0C =>
      intro wy hy;obtain⟨t0,t1,t2,t3,t4,t5,t6,t7⟩:=CA.out wy hy;clear hy;try simp only[Hp] at t1 t2 t3 t4 t5 t6 t7
      go_simp;try with_reducible rfl
     try simp only[Act.put,GJ,GI,GH,GG,GL,GK]
     refine aA (i:=1) rfl (by kernel_rfl) rfl (fun K hK=>?_);go_simp;have H0:Calls Tryz.prog 57 #[.int .i64 0] wn _:=CC 0 (by decide) wn;refine H0.mono ?_;rintro e w8 ⟨v8,rfl,hv8,hb8⟩;obtain⟨om,oa,oN,od,ob,oM,oe,om2,oc,oO,of,og,oP,oh,rfl,-,-⟩:=hv8.parts;clear H0;replace hv8:cF w8 _ ⟨0,0⟩:=hv8;refine hK _ _ (fun _ _=>hb8) ?_;clear hK K;try simp only[Act.put,GJ,GI,GH,GG,GL,GK]
     refine aA (i:=2) rfl (by kernel_rfl) rfl (fun K hK=>?_);go_simp;refine (CD _ _ (evQ ww qb) ⟨0,0⟩ 2000 2000 w8 (HV8.out.below hb8) hv8 hse.out hsz0.out (by decide)).mono ?_;rintro e w9 ⟨rfl,hb9⟩;have hb89:=hb8.trans (hb9.mono hb8.size);refine hK _ _ (fun _ _=>hb89) ?_;clear hK K;try simp only[Act.put,GJ,GI,GH,GG,GL,GK]
     refine aK (by kernel_rfl) ?_ _;have HB9:=GF (HB8.out.trans (hb89.mono HB8.out.size));have HS9:=GF ((hb89.block _ (ak HS8.out)).trans HS8.out);have HSW9:=GF ((hb89.block _ (ak HSW8.out)).trans HSW8.out);have HR9:=GF ((hb89.block _ (ak HR8.out)).trans HR8.out);have HW9:=GF (HW8.out.below hb89);have HV9:=GF (HV8.out.below hb89);clear HB8 HS8 HSW8 HR8 HW8 HV8 hb8 hb9 hb89 hBB hv8 CA;by_cases hz0:evQ ww qb=⟨0,0⟩
     ·have hd:decide (evQ ww qb=⟨0,0⟩)=true:=decide_eq_true hz0;have HE:=GF (HTV.out.zero hz0);go_wp2;refine Kh (v:=.tuple #[.string ⟨#[]⟩,.int .i64 32]) (by simp[results,Tryz.results19,go_sem]) rfl ⟨by rw[HE.out],HB9.out⟩
     ·have hd:decide (evQ ww qb=⟨0,0⟩)=false:=decide_eq_false hz0;have HE:=GF (HTV.out.ok hz0);have HNZ:=GF hz0;go_upto_region 13 with fail
      have hBd:Below w9.heap.size w9 w9.drew:=(Ki _ _).drew;refine aD (fun wx:World=>Below w9.drew.heap.size w9.drew wx) (fun _=>false) (by kernel_rfl) ?_;have LA:=GF (fun (wx:World) (h:Below w9.drew.heap.size w9.drew wx)=>HFA.out.below (HB9.out.trans ((hBd.trans (h.mono hBd.size)).mono HB9.out.size)));have LW:=GF (fun (wx:World) (h:Below w9.drew.heap.size w9.drew wx)=>HW9.out.below (hBd.trans (h.mono hBd.size)));have LV:=GF (fun (wx:World) (h:Below w9.drew.heap.size w9.drew wx)=>HV9.out.below (hBd.trans (h.mono hBd.size)));have CW:=GF (fun (wx:World) (h:Below w9.drew.heap.size w9.drew wx)=>(Oct.of HSW9.out).below (hBd.trans (h.mono hBd.size)) (ak HSW9.out));have CA:=GF (fun (wx:World) (h:Below w9.drew.heap.size w9.drew wx)=>(Oct.of HR9.out).below (hBd.trans (h.mono hBd.size)) (ak HR9.out));have CF:=GF (fun (wx:World) (h:Below w9.drew.heap.size w9.drew wx)=>ai (((hBd.trans (h.mono hBd.size)).block _ (ak HS9.out)).trans HS9.out) 0);have HBL:=GF (fun (wx:World) (h:Below w9.drew.heap.size w9.drew wx)=>HB9.out.trans ((hBd.trans (h.mono hBd.size)).mono HB9.out.size));have hl7:qa.length<1000000:=by have:=HTV.out.pa.len;omega
      have hev:∀ i,i<=qa.length->SzV 2000 (ct (evQ ww (qa.drop i))):=fun i _=>HTV.out.pa.evs HTV.out.wv i;have hre:=HTV.out.pa.reals;have hws:=HTU.out.ws;have HAT:=GF (fun (u:Value) (wx:World) (h:nE wx u (qa.map CQ.real)) (h2:Below w9.drew.heap.size w9.drew wx)=>Cy u _ qa ww wx h (LW.out wx h2) hws hl7 hev hre);have hbe:=HTV.out.pa.e;have hbo:=HTV.out.pa.ok;have HVL:=GF (fun (wx:World) (h2:Below w9.drew.heap.size w9.drew wx)=>qL (.slice p a.length c) qa wx (by rw[<-hbe];exact LA.out wx h2) hbo hl7);have HSA:=GF (HTV.out.pa.ev HTV.out.wv);clear hl7 hev hre hws hbe hbo hBd HB9 HS9 HSW9 HR9 HW9 HV9;have hBB:Below w9.drew.heap.size w9.drew w9.drew:=Ki _ _;generalize w9.drew=wn at *
      have hsz:=GM wn.heap.size;refine Kf 0 (r:=?_)
      try simp only[Act.put,GJ,GI,GH,GG,GL,GK]
      refine aE (i:=1) (v:=?vv1D) rfl (by kernel_rfl) (fun _ _ _ h=>h) rfl hBB ?hy1D ?rest1D
      case hy1D =>
       intro wy hy;have t0:=CF.out wy hy;clear hy;go_simp;try with_reducible rfl
      try simp only[Act.put,GJ,GI,GH,GG,GL,GK]
      refine aE (i:=3) (v:=?vv3D) rfl (by kernel_rfl) (fun _ _ _ h=>h) rfl hBB ?hy3D ?rest3D
      case hy3D =>
       intro wy hy;obtain⟨t0,t1,t2,t3,t4,t5,t6,t7⟩:=CW.out wy hy;clear hy;try simp only[Hp] at t1 t2 t3 t4 t5 t6 t7
       go_simp;try with_reducible rfl
      try simp only[Act.put,GJ,GI,GH,GG,GL,GK]
      refine aE (i:=5) (v:=?vv5D) rfl (by kernel_rfl) (fun _ _ _ h=>h) rfl hBB ?hy5D ?rest5D
      case hy5D =>
       intro wy hy;obtain⟨t0,t1,t2,t3,t4,t5,t6,t7⟩:=CA.out wy hy;clear hy;try simp only[Hp] at t1 t2 t3 t4 t5 t6 t7
       go_simp;try with_reducible rfl
      try simp only[Act.put,GJ,GI,GH,GG,GL,GK]
      refine aA (i:=2) rfl (by kernel_rfl) rfl (fun K hK=>?_);go_simp;refine (HVL.out wn hBB).mono ?_;rintro e wn ⟨vA,rfl,hA,hb⟩;replace hA:=hA.isCs;obtain⟨pA,cA,rfl,-,-⟩:=hA.form;rw[Hj] at hA |-;have hBn:=hBB.trans (hb.mono hsz);replace hsz:=GV hsz hb.size;clear hBB;have hBB:=hBn;clear hBn;try replace hr:=(hb.block _ (ak hr)).trans hr
      refine hK _ _ (fun _ _=>hBB) ?_;clear hK K hb;try simp only[Act.put,GJ,GI,GH,GG,GL,GK]
      refine aA (i:=4) rfl (by kernel_rfl) rfl (fun K hK=>?_);go_simp;refine (HAT.out _ wn hA hBB).mono ?_;rintro e wn ⟨vB,rfl,hv,hb⟩;obtain⟨xm,xa,xN,xd,xb,xM,xe,ym,ya,yN,yd,yb,yM,ye,rfl,hvx,hvy⟩:=hv.parts;clear hA hv;have hBn:=hBB.trans (hb.mono hsz);replace hsz:=GV hsz hb.size;clear hBB;have hBB:=hBn;clear hBn;try replace hr:=(hb.block _ (ak hr)).trans hr
      refine hK _ _ (fun _ _=>hBB) ?_;clear hK K hb;try simp only[Act.put,GJ,GI,GH,GG,GL,GK]
      refine aA (i:=6) rfl (by kernel_rfl) rfl (fun K hK=>?_);go_simp;refine (Ei _ _ (evQ ww qa) (evQ ww qb) 2000 2000 wn (cF.mk hvx hvy) (LV.out wn hBB) HSA.out hse.out (by decide) HNZ.out).mono ?_;rintro e wn ⟨vD,rfl,hv,hb⟩;obtain⟨em,ea,eN,ed,eb,eM,ee,em2,ec,eO,ef,eg,eP,eh,rfl,-,-⟩:=hv.parts;clear hvx hvy;have hBn:=hBB.trans (hb.mono hsz);replace hsz:=GV hsz hb.size;clear hBB;have hBB:=hBn;clear hBn;try replace hr:=(hb.block _ (ak hr)).trans hr
      refine hK _ _ (fun _ _=>hBB) ?_;clear hK K hb;try simp only[Act.put,GJ,GI,GH,GG,GL,GK]
      refine aA (i:=7) rfl (by kernel_rfl) rfl (fun K hK=>?_);go_simp;refine (x_ _ ((evQ ww qa).div (evQ ww qb)) wn hv HE.out.2).mono ?_;rintro e wn ⟨rfl,hb⟩;clear hv;have hBn:=hBB.trans (hb.mono hsz);replace hsz:=GV hsz hb.size;clear hBB;have hBB:=hBn;clear hBn;try replace hr:=(hb.block _ (ak hr)).trans hr
      refine hK _ _ (fun _ _=>hBB) ?_;clear hK K hb;try simp only[Act.put,GJ,GI,GH,GG,GL,GK]
      refine Kf 8 (r:=?_)
      try simp only[Act.put,GJ,GI,GH,GG,GL,GK]
      refine Kf 9 (r:=?_)
      try simp only[Act.put,GJ,GI,GH,GG,GL,GK]
      refine Kf 10 (r:=?_)
      try simp only[Act.put,GJ,GI,GH,GG,GL,GK]
      refine Kf 11 (r:=?_)
      try simp only[Act.put,GJ,GI,GH,GG,GL,GK]
      refine Kf 12 (r:=?_)
      try simp only[Act.put,GJ,GI,GH,GG,GL,GK]
      refine aK (by kernel_rfl) ?_ _;have HBF:=GF (HBL.out wn hBB);clear hBB;go_wp2;refine Kh (v:=.tuple #[.string (txt ((evQ ww qa).div (evQ ww qb))),.int .i64 0]) (by simp[results,Tryz.results19,go_sem]) rfl ⟨by rw[HE.out.1],HBF.out⟩
 ·have hce:aG a b=30:=by unfold aG;rw[if_neg hck]
  have HE:=GF (show cM a b z=(⟨#[]⟩,30) from by unfold cM;rw[if_neg hck]);rw[hce] at H1;clear hce hck;go_wp2_with fail
  refine H1.out.mono ?_;rintro e w2 ⟨rfl,hb2⟩;have hB2:=hB.trans (hb2.mono hB.size);clear hB hb2 q0 q1 H1;go_wp2;refine Kh (v:=.tuple #[.string ⟨#[]⟩,.int .i64 30]) (by simp[results,Tryz.results19,go_sem]) rfl ⟨by rw[HE.out],hB2⟩
def gq (n:Nat):List Rat:=(List.range n).map fun i=>if i=0 then 1 else 0
theorem gY (n:Nat):(gq n).length=n:=by simp[gq]
theorem zp {n i:Nat} (h:i<n):(gq n).take (i+1)=(gq n).take i++[if i=0 then 1 else 0]:=by
 rw[show (gq n).take (i+1)=(gq n).take i++[(gq n)[i]'(by rw[gY];exact h)] from (GZ _).symm];simp[gq]
theorem Fp (n:Nat):fg n=(gq n).map tq:=by
 unfold fg gq;rw[List.map_map];refine List.map_congr_left fun i _=>?_
 show (if i=0 then ⟨#[49]⟩ else ⟨#[48]⟩)=tq (if i=0 then 1 else 0)
 by_cases h:i=0
 ·rw[if_pos h,if_pos h,mt]
 ·rw[if_neg h,if_neg h,EA]
theorem ut (v:Value) (a b:List ByteArray) (n:Int) (w:World) (hF:IsF w v a b) (hok:aI a b=true->0<=n->n<=64->∃ qa qb,sF a b (fg n.toNat) qa qb (gq n.toNat)) :
  Calls Tryz.prog 17 #[v,.int .i64 n] w (jO (eH a b n) (cj a b (fg n.toNat) n.toNat) w):=by
 obtain⟨p,c,q,d,rfl,hfa,hfb⟩:=id hF.ex;have HF:=GF hF;go_enter Tryz.func17,Tryz.ntmps17;go_upto_region 1 with fail
 have l1:=bA w (.cells #[.slice p a.length c,.slice q b.length d] 34);have z1:=size_alloc w (.cells #[.slice p a.length c,.slice q b.length d] 34);generalize w.alloc (.cells #[.slice p a.length c,.slice q b.length d] 34)=w1 at *
 have hBB:=l1.below;have s0:=l1.s0;have q0:=az s0 0;have q1:=az s0 1;have H1:=GF (oV _ a b w1 (HF.out.below hBB));clear l1 hF hfa hfb;by_cases hck:aI a b=true
 ·have hce:aG a b=0:=by unfold aG;rw[if_pos hck]
  have HRE:=GF (show eH a b n=if 0<=n/\n<=64 then 0 else 8 from by unfold eH;rw[if_pos hck]);rw[hce] at H1;have HOK:=GF (hok hck);clear hce hck hok;go_wp2_with fail
  refine H1.out.mono ?_;rintro e w2 ⟨rfl,hb2⟩;have hB2:=hBB.trans (hb2.mono hBB.size);replace s0:=(hb2.block _ (ak s0)).trans s0;clear hBB hb2 q0 q1 H1 z1;have HI:=GF (Fq n 0 64 w2);by_cases hn:0<=n/\n<=64
  ·obtain⟨m,rfl⟩:∃ m:Nat,n=m:=⟨n.toNat,by omega⟩;rw[show (decide ((0:Int)<=(m:Int))&&decide ((m:Int)<=64))=true by simp;omega] at HI;obtain⟨qa,qb,hr⟩:=HOK.out hn.1 hn.2;have HE:=GF (show eH a b (m:Int)=0 from by rw[HRE.out,if_pos hn]);have hm:m<=64:=by omega
   rw[IE] at hr;have HR:=GF hr;clear hn hr HRE HOK;go_wp2_with fail
   refine HI.out.mono ?_;rintro e w3 ⟨rfl,rfl⟩;rename World=>w2;clear HI;go_wp2;go_loopw [7,8] (fun s7 s8 wr=>∃ i:Nat,s8=.int .i64 i/\i<=m/\ej wr w2.heap.size s7 ((gq m).take i)/\Below w2.heap.size w2 wr) (fun _ s8 _=>m-(intOf s8).toNat)
   case atStart=>exact⟨0,rfl,GY _,ej.nil _ _,Ki _ _⟩
   case round =>
    obtain⟨i,rfl,hin,hown,hbr⟩:=hrel;by_cases hi:i<m
    ·have HTK:=GF (zp hi);by_cases hi0:i=0
     ·have hd0:((i:Int) == 0)=true:=by simp;omega
      rw[if_pos hi0] at HTK;clear hi0;go_wp2_with fail
      refine (qone wr).mono ?_;rintro e w3 ⟨v3,rfl,hv3,hb3⟩;obtain⟨xm,xa,xN,xd,xb,xM,xe,rfl⟩:=hv3.forms;have hB3:=hbr.trans (hb3.mono hbr.size);have ho3:=hown.below hb3;have hl3:=bA w3 (.cells #[.bool xm,.slice xa xN xd,.bool false,.slice xb xM xe] 87);have hcx:=heap_alloc_new w3 (.cells #[.bool xm,.slice xa xN xd,.bool false,.slice xb xM xe] 87);have hv4:=hv3.below hl3.below;have ho4:=ho3.below hl3.below;have hB4:=hB3.trans (hl3.below.mono hB3.size);have hbs:=hB4.size;have hzl:((gq m).take i).length<1000000000:=by rw[Hd,gY];omega
      clear hl3 hv3 hb3 ho3 hB3 hown hbr;go_wp2_with (at_builtin;refine eS 80 Tryz.underlying80 rfl (.tmp 24) (.tmp 26) rfl w2.heap.size _ _ xm xa xN xd xb xM xe _ rfl ho4 _ rfl hcx hv4 hzl hbs ?_)
      intro v' w6 hap;have hB6:=hap.below ho4 hB4 (GM _) hbs;have hw6:=hap.own;rw[<-HTK.out] at hw6;clear hap ho4 hv4 hcx hB4 hbs hzl;go_wp2;go_roundw;case rel=>exact⟨i+1,by go_num,by omega,hw6,hB6⟩
      case measure=>first | (simp[intOf];done) | (simp[intOf];omega)
     ·have hd0:((i:Int) == 0)=false:=by simp;omega
      rw[if_neg hi0] at HTK;clear hi0;go_wp2_with fail
      refine (ET wr).mono ?_;rintro e w3 ⟨v3,rfl,hv3,hb3⟩;obtain⟨xm,xa,xN,xd,xb,xM,xe,rfl⟩:=hv3.forms;have hB3:=hbr.trans (hb3.mono hbr.size);have ho3:=hown.below hb3;have hl3:=bA w3 (.cells #[.bool xm,.slice xa xN xd,.bool false,.slice xb xM xe] 87);have hcx:=heap_alloc_new w3 (.cells #[.bool xm,.slice xa xN xd,.bool false,.slice xb xM xe] 87);have hv4:=hv3.below hl3.below;have ho4:=ho3.below hl3.below;have hB4:=hB3.trans (hl3.below.mono hB3.size);have hbs:=hB4.size;have hzl:((gq m).take i).length<1000000000:=by rw[Hd,gY];omega
      clear hl3 hv3 hb3 ho3 hB3 hown hbr;go_wp2_with (at_builtin;refine eS 80 Tryz.underlying80 rfl (.tmp 28) (.tmp 30) rfl w2.heap.size _ _ xm xa xN xd xb xM xe _ rfl ho4 _ rfl hcx hv4 hzl hbs ?_)
      intro v' w6 hap;have hB6:=hap.below ho4 hB4 (GM _) hbs;have hw6:=hap.own;rw[<-HTK.out] at hw6;clear hap ho4 hv4 hcx hB4 hbs hzl;go_wp2;go_roundw;case rel=>exact⟨i+1,by go_num,by omega,hw6,hB6⟩
      case measure=>first | (simp[intOf];done) | (simp[intOf];omega)
    ·obtain rfl:i=m:=by omega
     rw[GU (by rw[gY];exact GM _)] at hown;have hBr:=hB2.trans (hbr.mono hB2.size);have s2:=(hbr.block _ (ak s0)).trans s0;have q0:=az s2 0;have q1:=az s2 1;obtain⟨LY,hLY⟩:∃ LY,LY=cj a b (fg i) i:=⟨_,rfl⟩;have HLQ:=GF hLY
     have HLY:=GF (show LY=(bD qa qb (gq i) (gq i).length).map tq from by
      have h:=HR.out.e;rw[eF] at h
      rw[hLY];exact h)
     have HO:=GF (qK _ _ a b qa qb (gq i) wr (HF.out.below hBr) HR.out.pa HR.out.pb hown.isQs HR.out.ok HR.out.lb (by rw[gY];omega));have HYtmakbmhlemhgeaaGreatDoor:=GF (show (bD qa qb (gq i) (gq i).length).length<1000000 by rw[fc,gY];omega);clear hLY hown hbr s0 hi hin;go_wp2_with fail
     refine HO.out.mono ?_;rintro e w3 ⟨v3,rfl,hv3,hb3⟩;have hB3:=hBr.trans (hb3.mono hBr.size);have hv4:=hv3.isQs;clear hb3 hBr hv3 HO s2 q0 q1;go_wp2_with fail
     refine (yf _ (bD qa qb (gq i) (gq i).length) w3 hv4 HR.out.y HYtmakbmhlemhgeaaGreatDoor.out).mono ?_;rintro e w4 ⟨v5,rfl,hv5,hb4⟩;have hB4:=hB3.trans (hb4.mono hB3.size);rw[<-HLY.out] at hv5;clear hb4 hB3 hv4;go_wp2;refine Kh (v:=.tuple #[v5,.int .i64 0]) (by simp[results,Tryz.results17,go_sem]) rfl ⟨_,by rw[HE.out],(fun _=>by rw[IE,<-HLQ.out];exact hv5),(fun h=>absurd HE.out h),hB4⟩
  ·rw[show (decide ((0:Int)<=n)&&decide (n<=64))=false by simp;omega] at HI;have HE:=GF (show eH a b n=8 from by rw[HRE.out,if_neg hn]);clear hn HRE HOK;go_wp2_with fail
   refine HI.out.mono ?_;rintro e w3 ⟨rfl,rfl⟩;clear HI;go_wp2;refine Kh (v:=.tuple #[.slice none 0 0,.int .i64 8]) (by simp[results,Tryz.results17,go_sem]) rfl ⟨_,by rw[HE.out],(fun h=>by rw[HE.out] at h;cases h),(fun _=>rfl),hB2⟩
 ·have hce:aG a b=30:=by unfold aG;rw[if_neg hck]
  have HE:=GF (show eH a b n=30 from by unfold eH;rw[if_neg hck]);rw[hce] at H1;clear hce hck hok;go_wp2_with fail
  refine H1.out.mono ?_;rintro e w2 ⟨rfl,hb2⟩;have hB2:=hBB.trans (hb2.mono hBB.size);clear hBB hb2 q0 q1 H1;go_wp2;refine Kh (v:=.tuple #[.slice none 0 0,.int .i64 30]) (by simp[results,Tryz.results17,go_sem]) rfl ⟨_,by rw[HE.out],(fun h=>by rw[HE.out] at h;cases h),(fun _=>rfl),hB2⟩
open Go.RowKit Dg Dc
theorem uw {a b x:List ByteArray}{qa tl xs:List Rat} (ha:dH a qa) (hb:dH b (1 :: tl)) (hx:x=xs.map tq) (hxo:∃ D,0<D/\D<=2 ^ 768/\∀ q∈xs,Ov D (2 ^ 780) q/\okQ q) (hsz:xs.length*dp (tl.map tq)<=700):sF a b x qa (1 :: tl) xs:=by
 obtain⟨W,E,G,I,-,-,h⟩:=FS (N:=2 ^ 780) (Ba (a:=96) (b:=780) (c:=879) (m:=300) rfl (by decide)) ha hb hx hxo hsz;obtain⟨D,-,-,hq⟩:=hxo;have hlx:x.length=xs.length:=by rw[hx,Hj]
 refine⟨ha,hb,Nat.zero_lt_succ _,hx,⟨fun t ht=>((h _ (GM _)).2.2 t ht).1,fun t ht=>((h _ (GM _)).2.2 t ht).2,fun t ht s hs=>((h t ht).2.1 s hs).2,fun q hh=>(hq q hh).2,ha.ok,hb.ok⟩,?_,?_⟩
 ·rw[hlx];exact (h _ (GM _)).1
 ·intro q hm;obtain⟨i,hi,rfl⟩:=Ht hm;have hi2:i<xs.length:=by rwa [fc] at hi
  have:=((h _ (GM _)).2.1 i hi2).2
  rwa [Hb,G4 hi] at this
theorem xu {a b:List ByteArray} (hc:aI a b=true):∃ qa tl,dH a qa/\dH b (1 :: tl)/\b.drop 1=tl.map tq:=by
 obtain⟨b0,b7,a0,a7,ca,cb,-⟩:=bv hc;obtain⟨qa,pa⟩:=lL a7 ca;obtain⟨qb,pb⟩:=lL b7 cb;obtain⟨tl,rfl⟩:=Bn hc pb;refine⟨qa,tl,pa,pb,?_⟩;rw[pb.e];rfl
theorem Bj {a b:Nat} (h:12+a=b):(2:Nat) ^ b=4096*2 ^ a:=by rw[<-h,H6]
theorem FR {a b x:List ByteArray} (hc:aI a b=true) (h64:x.length<=64) (hx:dB x=true) (hl:x.length*dp (b.drop 1)<=700):∃ qa qb xs,sF a b x qa qb xs:=by
 obtain⟨qa,tl,pa,pb,ht⟩:=xu hc;obtain⟨xs,D,e,hD,hDl,hall⟩:=kX x (fun s hs=>by unfold dB at hx;exact Hl.1 hx s hs);have hxl:x.length=xs.length:=by rw[e,Hj]
 have hp:(4096:Nat) ^ x.length<=2 ^ 768:=by
  rw[show (4096:Nat)=2 ^ 12 by decide,<-Ip];exact wS (a:=12*x.length) (b:=768) (by omega)
 refine⟨qa,1 :: tl,xs,uw pa pb e ⟨D,hD,GV hDl hp,fun q hq=>⟨(hall q hq).1.mono ?_,(hall q hq).2⟩⟩ (by rw[<-ht,<-hxl];exact hl)⟩;exact GV (G3 _ hp) (Ji (Bj (a:=768) (b:=780) rfl).symm)
theorem Fo {a b:List ByteArray}{n:Nat} (hc:aI a b=true) (hl:n*dp (b.drop 1)<=700):∃ qa qb,sF a b (fg n) qa qb (gq n):=by
 obtain⟨qa,tl,pa,pb,ht⟩:=xu hc
 have hm:∀ q∈gq n,q=1\/q=0:=by
  intro q hq;unfold gq at hq;obtain⟨i,-,rfl⟩:=JM.1 hq;by_cases h:i=0
  ·rw[if_pos h];exact Or.inl rfl
  ·rw[if_neg h];exact Or.inr rfl
 refine⟨qa,1 :: tl,uw pa pb (Fp n) ⟨1,by decide,Nat.one_le_two_pow (n:=768),fun q hq=>?_⟩ (by rw[<-ht,gY];exact hl)⟩;rcases hm q hq with rfl | rfl
 ·exact⟨(show Ov 1 1 1 from⟨1,by decide +kernel,by decide⟩).mono (Nat.one_le_two_pow (n:=780)),iq⟩
 ·exact⟨(Ov.zero 1).mono (GY _),tV⟩
theorem kB {e0:Int}{l:List ByteArray}{w:World}{e:Ending}{w':World} (h:jO e0 l w e w') (hl:e0=0->l.length<1000000) :
  ∃ v,e=.returned (.tuple #[v,.int .i64 e0])/\IsS w' v (if e0=0 then l else [])/\(if e0=0 then l else []).length<1000000/\Below w.heap.size w w':=by
 obtain⟨v,e1,h1,h2,hb⟩:=h;by_cases h0:e0=0
 ·rw[if_pos h0];exact⟨v,e1,h1 h0,hl h0,hb⟩
 ·rw[if_neg h0];exact⟨v,e1,by rw[h2 h0];exact cR.isS (cR.nil w' 0),by decide,hb⟩
theorem CY {a b:List ByteArray} (hc:aI a b=true):∀ s∈b,s.size<=8008:=by
 obtain⟨b0,b7,a0,a7,ca,cb,-⟩:=bv hc;intro s hs;have h:=cb s hs;unfold ce at h;rw[G9] at h;have:=le h.1;simpa using this
theorem yg {a b x:List ByteArray} (h:ig a b x=0):(cj a b x x.length).length<1000000:=by
 rw[ir];unfold ig at h
 split at h
 ·split at h
  ·cases h
  ·omega
 ·cases h
theorem uv {a b:List ByteArray}{n:Int} (h:eH a b n=0):(cj a b (fg n.toNat) n.toNat).length<1000000:=by
 rw[ir];unfold eH at h
 split at h
 ·split at h
  ·omega
  ·cases h
 ·cases h
theorem nS {b:List ByteArray}{i:Nat} (h1:1<=i) (h:i<b.length):dp ((b.take (i+1)).drop 1)=dp ((b.take i).drop 1)+b[i].size:=by
 have e:b.take (i+1)=b.take i++[b[i]]:=(GZ h).symm
 have e2:(b.take (i+1)).drop 1=(b.take i).drop 1++[b[i]]:=by
  rw[e,List.drop_append_of_le_length (by rw[Hd];omega)]
 rw[e2];unfold dp;simp
theorem BI (v:Value) (a b:List ByteArray) (vx:Value) (x:List ByteArray) (z:ByteArray) (w:World) (hF:IsF w v a b) (hX:IsS w vx x) (hG:Gx w) :
  Calls Tryz.prog 4 #[v,vx,.string z] w fun e w'=>e=.returned (.bool true)/\Below w.heap.size w w':=by
 obtain⟨p,c,q,d,rfl,hfa,hfb⟩:=id hF.ex;obtain⟨px,cx,rfl,hxc,hxm⟩:=id hX.form;go_enter Tryz.func4,Tryz.ntmps4;go_upto_region 1 with fail
 have m1:=au w (.cells #[.slice p a.length c,.slice q b.length d] 34);have cc:=aU w (.slice p a.length c) (.slice q b.length d);have zz:=size_alloc w (.cells #[.slice p a.length c,.slice q b.length d] 34);have HF:=GF (hF.below m1);have HX:=GF (hX.below m1);have HG:=GF (hG.below m1);have HFB:=GF (hfb.below m1);have HB:=GF m1;have k0:=cc.1;have k1:=cc.2;have KL:w.heap.size<(w.alloc (.cells #[.slice p a.length c,.slice q b.length d] 34)).heap.size:=by omega
 clear hF hX hG m1 hfa hfb cc zz;generalize w.alloc (.cells #[.slice p a.length c,.slice q b.length d] 34)=w1 at *
 have HPB:=GF (fun h:aI a b=true=>And.intro (bv h).2.1 (CY h));go_wp2;go_loopw [7,8] (fun s7 s8 wr=>∃ (i:Nat) (t:Int),s8=.int .i64 i/\s7=.int .i64 t/\1<=i/\(i<=b.length\/i=1)/\(aI a b=true->t=(dp ((b.take i).drop 1):Nat)/\dp ((b.take i).drop 1)<=8008*i)/\wr=w1) (fun _ s8 _=>b.length-(intOf s8).toNat)
 case atStart=>exact⟨1,0,rfl,rfl,GM _,Or.inr rfl,fun _=>⟨by cases b<;>rfl,by cases b<;>simp[dp]⟩,rfl⟩
 case round =>
  obtain⟨i,t,rfl,rfl,hi1,hib,hPt,rfl⟩:=hrel;by_cases hi:i<b.length
  ·obtain⟨B,o,rfl,hlt,hcell⟩:=IsS.get HFB.out hi
   have hbm:b.length<=9223372036854775807:=by
    have h:=HFB.out.form;obtain⟨_,_,he,h1,h2⟩:=h;unfold maxLen at h2;omega
   have HE:=GF (nS hi1 hi);have HSB:=GF (fun h:aI a b=true=>(HPB.out h).2 b[i] (G7 hi));go_wp2;refine⟨⟨i+1,_,by go_num,rfl,by omega,Or.inl hi,fun h=>?_,trivial⟩,?_⟩
   ·obtain⟨h1,h2⟩:=hPt h;have h3:=HSB.out h;have h4:=(HPB.out h).1;rw[HE.out,h1,IntWalk.wrap64_in _ (by omega)];omega
   ·simp[intOf];omega
  ·have hPs:aI a b=true->t=(dp (b.drop 1):Nat)/\dp (b.drop 1)<=8008*7:=by
    intro h;obtain⟨h1,h2⟩:=hPt h;have h4:=(HPB.out h).1;rw[GU (by omega)] at h1 h2;refine⟨h1,?_⟩;rcases hib with h5 | h5
    ·omega
    ·omega
   clear hPt HPB HFB;have HPS:=GF hPs;clear hPs;go_upto_region 6 with fail
   go_cut [39] from 30 to 38 (fun s39 wx=>∃ bb:Bool,s39=.bool bb/\(bb=false->aI a b=true->x.length<=64->x.length*dp (b.drop 1)<=700)/\wx=wr)
   case first =>
    by_cases h64:x.length<=64
    ·have hd:decide ((x.length:Int)<=64)=true:=decide_eq_true (by omega);go_wp2;go_meet;refine⟨_,rfl,fun h hc _=>?_,rfl⟩;obtain⟨h1,h2⟩:=HPS.out hc;have hm:=Hm h64 h2;have e:(x.length:Int)*t=((x.length*dp (b.drop 1):Nat):Int):=by rw[h1];push_cast;rfl
     rw[e,IntWalk.wrap64_in _ (by omega)] at h;have:=of_decide_eq_false h;omega
    ·have hd:decide ((x.length:Int)<=64)=false:=decide_eq_false (by omega);go_wp2;go_meet;exact⟨false,rfl,fun _ _ h=>absurd h h64,rfl⟩
   case rest =>
    obtain⟨bb,rfl,hbb,rfl⟩:=hcut;clear HPS
    cases bb with
    | true =>
     clear hbb;go_wp2_with fail
     refine (Dl _ HG.out).mono ?_;rintro e wz ⟨rfl,hz⟩;have HB:=HB.out.trans (hz.mono HB.out.size);clear hz;go_wp2;go_ret;exact⟨rfl,HB⟩
    | false =>
     have HOK:=GF (hbb rfl);clear hbb;have HP1:=GF (fun w1 (h:IsF w1 (.agg #[.slice p a.length c,.slice q b.length d]) a b) (hx:IsS w1 (.slice px x.length cx) x) (hG:Gx w1)=>Calls.mono (RunN _ _ a b x w1 h hx hG) (fun e w' h=>kB h yg));have HP2:=GF (fun w1 (h:IsF w1 (.agg #[.slice p a.length c,.slice q b.length d]) a b) (hx:IsS w1 (.slice px x.length cx) x)=>Calls.mono (FQ _ _ a b x w1 h hx (fun hc h64 hco=>FR hc h64 hco (HOK.out hc h64))) (fun e w' h=>kB h yg));generalize (if ig a b x=0 then cj a b x x.length else [])=L1 at HP1 HP2;generalize ig a b x=E1 at HP1 HP2;have HP3:=GF (fun w1 (h:IsF w1 (.agg #[.slice p a.length c,.slice q b.length d]) a b) (hG:Gx w1)=>Calls.mono (pW _ a b (x.length:Int) w1 h hG) (fun e w' h=>kB h uv))
     have HP4:=GF (fun w1 (h:IsF w1 (.agg #[.slice p a.length c,.slice q b.length d]) a b)=>Calls.mono (ut _ a b (x.length:Int) w1 h (fun hc h0 h64=>by
      rw[IE]
      exact Fo hc (HOK.out hc (by omega)))) (fun e w' h=>kB h uv))
     generalize (if eH a b (x.length:Int)=0 then cj a b (fg (x.length:Int).toNat) (x.length:Int).toNat else [])=L3 at HP3 HP4;generalize eH a b (x.length:Int)=E3 at HP3 HP4;have HT1:=GF (fun w1 (h:IsF w1 (.agg #[.slice p a.length c,.slice q b.length d]) a b) (hG:Gx w1)=>lX _ a b z w1 h hG);have HT2:=GF (fun w1 (h:IsF w1 (.agg #[.slice p a.length c,.slice q b.length d]) a b)=>uu _ a b z w1 h);generalize (cM a b z).1=m at HT1 HT2;generalize (cM a b z).2=de at HT1 HT2;clear HOK;have hee:(E1 != E1)=false:=by simp
     go_wp2_with fail
     refine (HP1.out wc HF.out HX.out HG.out).mono ?_;rintro e w4 ⟨v1,rfl,hs4,hl4,hb4⟩;obtain⟨p1,c1,rfl,-⟩:=id hs4.form;have HS4:=GF hs4;have HL4:=GF hl4;obtain⟨m1,hm4⟩:∃ m,m=L1.length:=⟨_,rfl⟩;rw[<-hm4] at HS4 |-;clear hs4 hl4 hm4;have HF:=GF (HF.out.below hb4);have HX:=GF (HX.out.below hb4);have HG:=GF (HG.out.below hb4);have HB:=GF (HB.out.trans (hb4.mono HB.out.size));have k0:=aj hb4 KL k0;have k1:=aj hb4 KL k1;have KL:=GN KL (hb4.size);clear hb4;go_wp2_with fail
     refine (HP2.out w4 HF.out HX.out).mono ?_;rintro e w5 ⟨v2,rfl,hs5,hl5,hb5⟩;obtain⟨p2,c2,rfl,-⟩:=id hs5.form;have HS5:=GF hs5;obtain⟨m2,hm5⟩:∃ m,m=L1.length:=⟨_,rfl⟩;rw[<-hm5] at HS5 |-;clear hs5 hl5 hm5;have HS4:=GF (HS4.out.below hb5);have HF:=GF (HF.out.below hb5);have HX:=GF (HX.out.below hb5);have HG:=GF (HG.out.below hb5);have HB:=GF (HB.out.trans (hb5.mono HB.out.size));have k0:=aj hb5 KL k0;have k1:=aj hb5 KL k1;have KL:=GN KL (hb5.size);clear hb5;go_wp2_with fail
     refine (BW _ _ L1 E1 w5 HS4.out HS5.out HL4.out).mono ?_;rintro e w6 ⟨rfl,hb6⟩;have HF:=GF (HF.out.below hb6);have HX:=GF (HX.out.below hb6);have HG:=GF (HG.out.below hb6);have HB:=GF (HB.out.trans (hb6.mono HB.out.size));have k0:=aj hb6 KL k0;have k1:=aj hb6 KL k1;have KL:=GN KL (hb6.size);clear hb6;have hee:(E3 != E3)=false:=by simp
     go_wp2_with fail
     refine (HP3.out w6 HF.out HG.out).mono ?_;rintro e w7 ⟨v3,rfl,hs4,hl4,hb4⟩;obtain⟨p3,c3,rfl,-⟩:=id hs4.form;have HS4:=GF hs4;have HL4:=GF hl4;obtain⟨m3,hm4⟩:∃ m,m=L3.length:=⟨_,rfl⟩;rw[<-hm4] at HS4 |-;clear hs4 hl4 hm4;have HF:=GF (HF.out.below hb4);have HX:=GF (HX.out.below hb4);have HG:=GF (HG.out.below hb4);have HB:=GF (HB.out.trans (hb4.mono HB.out.size));have k0:=aj hb4 KL k0;have k1:=aj hb4 KL k1;have KL:=GN KL (hb4.size);clear hb4;go_wp2_with fail
     refine (HP4.out w7 HF.out).mono ?_;rintro e w8 ⟨v4,rfl,hs5,hl5,hb5⟩;obtain⟨p4,c4,rfl,-⟩:=id hs5.form;have HS5:=GF hs5;obtain⟨m4,hm5⟩:∃ m,m=L3.length:=⟨_,rfl⟩;rw[<-hm5] at HS5 |-;clear hs5 hl5 hm5;have HS4:=GF (HS4.out.below hb5);have HF:=GF (HF.out.below hb5);have HX:=GF (HX.out.below hb5);have HG:=GF (HG.out.below hb5);have HB:=GF (HB.out.trans (hb5.mono HB.out.size));have k0:=aj hb5 KL k0;have k1:=aj hb5 KL k1;have KL:=GN KL (hb5.size);clear hb5;go_wp2_with fail
     refine (BW _ _ L3 E3 w8 HS4.out HS5.out HL4.out).mono ?_;rintro e w9 ⟨rfl,hb6⟩;have HF:=GF (HF.out.below hb6);have HX:=GF (HX.out.below hb6);have HG:=GF (HG.out.below hb6);have HB:=GF (HB.out.trans (hb6.mono HB.out.size));have k0:=aj hb6 KL k0;have k1:=aj hb6 KL k1;have KL:=GN KL (hb6.size);clear hb6;go_wp2_with fail
     refine (HT1.out w9 HF.out HG.out).mono ?_;rintro e wa ⟨rfl,hba⟩;have HF:=GF (HF.out.below hba);have HX:=GF (HX.out.below hba);have HG:=GF (HG.out.below hba);have HB:=GF (HB.out.trans (hba.mono HB.out.size));have k0:=aj hba KL k0;have k1:=aj hba KL k1;have KL:=GN KL (hba.size);clear hba;go_wp2_with fail
     refine (HT2.out wa HF.out).mono ?_;rintro e wb ⟨rfl,hbb⟩;have HF:=GF (HF.out.below hbb);have HX:=GF (HX.out.below hbb);have HG:=GF (HG.out.below hbb);have HB:=GF (HB.out.trans (hbb.mono HB.out.size));have k0:=aj hbb KL k0;have k1:=aj hbb KL k1;have KL:=GN KL (hbb.size);clear hbb;have hmm:(m.toList == m.toList)=true:=by simp
     have hdd:(de == de)=true:=by simp
     go_wp2_with fail
     refine (Dl _ HG.out).mono ?_;rintro e wz ⟨rfl,hz⟩;have HB:=HB.out.trans (hz.mono HB.out.size);clear hz;go_wp2;go_ret;exact⟨rfl,HB⟩
theorem oB (os:Os) (started:os.Started) (H:Type) (enc:TypeId×Value->H) :
  ReturnsInHanded {} Tryz.checked os 4 .any (fun w args=>(Rows.loopRunsSpec.pre enc Tryz.prog Tryz.f4 [] false w args/\laidMetH Tryz.prog qq w)/\sizedMet enc Tryz.prog Tryz.f4 (OpenSpec.ofChange Rows.loopRunsSpec) false w args)
   (Rows.loopRunsSpec.post enc Tryz.prog Tryz.f4 false true false false):=by
 refine tG (C:=Tryz.checked) (X:=fun w _=>laidMetH Tryz.prog qq w) (fun _ _ _ hh h=>h.of_heap hh) own started (by kernel_rfl) Tryz.func4
  (ChangeSpec.witness_shaped (enc:=enc) (C:=Tryz.checked) (os:=os) (X:=fun w _=>laidMetH Tryz.prog qq w) false (World.laidAll Tryz.prog os qq) #[.agg #[.slice none 0 0,.slice none 0 0],.slice none 0 0,.string ⟨#[48]⟩] 8 (World.laidAll_os _ _ _)
   (World.shaped_of_ZipB (by kernel_rfl) (by kernel_rfl)) (by kernel_rfl) (by kernel_rfl) (by kernel_rfl)
   (by rw[Go.MakeChecks.laidMetH_plain _ _ _ (by kernel_rfl)];exact laidMet_laidAll _ (by kernel_rfl) (by kernel_rfl))) ?_
 intro W base args ds gs before hval0 hW hwt hL hsh;have hval:∀ (j:Nat) t v,Tryz.f4.params[j]?=some t->args[j]?=some v->Value.okWide Tryz.prog W .any base t v:=hval0;have hW':=hW;obtain⟨p,q,hA0,hV,rfl,_,_⟩:=hW;have hA:DataW.TrodAll enc Tryz.prog W 0 (fun _=>true) true Tryz.f4.params.toList args.toList ds p:=hA0;rw[Tryz.params4] at hA hval;have hwt':(DataW.weightsEach Tryz.prog (Tryz.f4.params.toList++[]) (ds++gs)).all (·<=reachBytes)=true:=hwt;rw[Tryz.params4,Ic] at hwt';obtain⟨v0,v1,v2,d0,d1,d2,p0,p1,p2,rfl,rfl,rfl,h0,h1,h2⟩:=trodAll_three hA;obtain⟨rfl,rfl⟩:=trodVars_none hV;simp only[Ic] at hW' hwt';have hX:=Gj hL hsh
 have fits:∀ (j:Nat) (t:TypeId) (d:DataW H),([34,29,32]:List TypeId)[j]?=some t->[d0,d1,d2][j]?=some d->nD t d:=fun j t d ht hd n hn=>by
  have:=Hl.1 hwt' n (DataW.weights_mem_each ht hd n hn);exact of_decide_eq_true this
 have hlt:∀ x∈p0++p1++p2,x.block<W.heap.size:=fun x hx=>by simpa using hW'.lt x hx
 have ok0:=hval 0 34 v0 rfl rfl;obtain⟨cs0,hcs0,_⟩:=okWide_struct Tryz.underlying34 ok0;obtain⟨a0,b0,hF0⟩:=zi h0 (fits 0 _ _ rfl rfl) ⟨cs0,hcs0⟩;have ok1:=hval 1 29 v1 rfl rfl;obtain⟨l1,hF1⟩:=D8 h1 (fits 1 _ _ rfl rfl) ok1;have ok2:=hval 2 32 v2 rfl rfl;obtain⟨s2,rfl⟩:=okWide_string Dh ok2;refine (BI v0 a0 b0 v1 l1 s2 W hF0 hF1 hX).mono fun e W' ⟨he,hb⟩=>?_;subst he;exact⟨_,rfl,_,_,_,[],p0++p1++p2,[],hW',trodAll_mk1 (shut_bool Tryz.underlying4 _),(by rw[Hk];exact trodAll_mk3 (Below.trod laidAll (by kernel_rfl) (of_decide_eq_true (by kernel_rfl)) h0 hb (fun x hx=>hlt x (by simp[hx]))) (Below.trod laidAll (by kernel_rfl) (of_decide_eq_true (by kernel_rfl)) h1 hb (fun x hx=>hlt x (by simp[hx]))) (Below.trod laidAll (by kernel_rfl) (of_decide_eq_true (by kernel_rfl)) h2 hb (fun x hx=>hlt x (by simp[hx])))),rfl,hb.frame _,fun h=>by cases h⟩
end Go.Proofs.YtmakbmhlemhgeaaGreatDoor
