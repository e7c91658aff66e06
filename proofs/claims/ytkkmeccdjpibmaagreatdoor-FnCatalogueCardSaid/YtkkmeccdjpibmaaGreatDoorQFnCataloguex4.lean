/- Written by a program of this session (the kit's printer, with leaf contracts proved by hand put in): what each Go function computes, and that the call computes it. No condition but those that each theorem names. -/
import Derived.Test.YtkkmeccdjpibmaaGreatDoorQFnCataloguex0
import Derived.Test.YtkkmeccdjpibmaaGreatDoorQFnCataloguex2
import Derived.Test.YtkkmeccdjpibmaaGreatDoorQFnCataloguex3
namespace Go.Proofs.YtkkmeccdjpibmaaGreatDoor.QFnCatalogue
open Go.RowKit Go.Proofs.YtkkmeccdjpibmaaGreatDoorW.PrintWords Go.Proofs.YtkkmeccdjpibmaaGreatDoorW.PrintLast Go.Proofs.YtkkmeccdjpibmaaGreatDoorW.PrintMore
attribute [local go_sem] max2_int min2_int max_two min_two max_three min_three max_four min_four   -- for this text's walks alone
set_option linter.unusedVariables false
set_option linter.unusedSimpArgs false

/-! ### spec_DrawIsCatalogue: function 28 -/
def spec_DrawIsCatalogue.f (k:Nat) (l0:List Int):Option ((List (S47))):=(spec_l1Cur_rolls.f k l0 0 0).bind fun bt210=>(some bt210.1)
theorem spec_DrawIsCatalogue.mono:∀a0 k,LeO (spec_DrawIsCatalogue.f k a0) (spec_DrawIsCatalogue.f (k+1) a0):=by
 intro a0 k;unfold spec_DrawIsCatalogue.f
 repeat' first
  |(with_reducible exact spec_l1Cur_rolls.mono _ _ _ _)
  |(with_reducible exact LeO.refl _)
  |(with_reducible exact LeO.none _)
  |(with_reducible refine LeO.ite ?_ ?_)
  |(with_reducible refine LeO.bind ?_ (fun _=>?_))
  |exact spec_l1Cur_rolls.mono _ _ _ _
  |exact LeO.none _
   | refine LeO.ite ?_ ?_
   | refine LeO.bind ?_ (fun _=>?_)
set_option maxHeartbeats 8000000 in
set_option maxRecDepth 100000 in
theorem spec_DrawIsCatalogue.calls (k:Nat) (A0:Option Addr) (c0:Nat) (l0:List Int) (r:List (S47)) (w:World) (hr0:Kd.C (Kd.int .u8) w A0 l0.length l0) (hc0:l0.length≤c0) (h:spec_DrawIsCatalogue.f k l0=some r) :
 Calls Tryz.prog 28 #[.slice A0 l0.length c0] w fun e w'=>∃v0_:Value,e = .returned (v0_)∧Kd.R k47 47 w' w.heap.size (fun _=>True) v0_ r∧Below w.heap.size w w':=by
 (have hu65:=Tryz.underlying65);(have HR0:=am_ hr0);(have HC0:=am_ hc0);clear hr0 hc0;(have HB:=am_ (Below.refl w.heap.size w));(have H:((spec_l1Cur_rolls.f k l0 0 0).bind fun bt210=>(some bt210.1))=some r:=h);clear h;obtain⟨⟨t210,t213,t214⟩,A2,H⟩:=bo_ H;(try dsimp only at H);obtain rfl:=Option.some.inj H;(go_enter Tryz.func28,Tryz.ntmps28);(go_wp2_with (first|((with_reducible refine gate_dst (N:=6) rfl ?_);refine box_event ?hg (N:=6) ?hd (cs:= #[.slice A0 l0.length c0, .int .i64 0, .int .u64 0]) (t:=65) ?hr ?_;(case hd=>rfl);(case hg=>rfl);(case hr=>exact hr_);intro g209 hg w3 hbox hb;have HI209:=am_ ((⟨_,_,hbox,by rw[hg];exact(below_size (a1_)),HR0.out⟩:IsS65 w w3 g209 l0 0 0));replace HB:=am_ (below_step (a1_) hb);clear hb hbox hg)|((with_reducible refine gate_callee (f:=39) rfl ?_);refine goesL_ (some 8) rfl rfl Tryz.func39 (by kernel_rfl) rfl #[.pointer (some ⟨g209,0,none⟩)] rfl gd_ ?_;(with_reducible refine(spec_l1Cur_rolls.calls k g209 l0 0 0 t210 t213 t214 w _ ?side1 ?side2 A2.out).mono ?_);(case side1=>exact(a2_ HI209.out));(case side2=>exact(a3_ HI209.out));rintro e w4 ⟨v211,rfl,ho0,hi,hb,hk⟩;refine⟨_,rfl,?_⟩;have HO212:=am_ (Kd.R_lower ho0 (below_size ((a3_ HI209.out))));replace HB:=am_ (hb);replace HI209:=am_ (hi);(try clear hb);(try clear hb2);(try clear hk);(try clear hi);(try clear ho0))));go_ret;exact⟨_,a10_,(a0_ HO212.out),(a3_ HI209.out)⟩

/-! ### spec_DrawCatalogueText: function 4 -/
def spec_DrawCatalogueText.f (k:Nat) (l0:List Int):Option ((List (S47))):=(spec_DrawIsCatalogue.f k l0).bind fun t215=>(some t215)
theorem spec_DrawCatalogueText.mono:∀a0 k,LeO (spec_DrawCatalogueText.f k a0) (spec_DrawCatalogueText.f (k+1) a0):=by
 intro a0 k;unfold spec_DrawCatalogueText.f
 repeat' first
  |(with_reducible exact spec_DrawIsCatalogue.mono _ _)
  |(with_reducible exact LeO.refl _)
  |(with_reducible exact LeO.none _)
  |(with_reducible refine LeO.ite ?_ ?_)
  |(with_reducible refine LeO.bind ?_ (fun _=>?_))
  |exact spec_DrawIsCatalogue.mono _ _
  |exact LeO.none _
   | refine LeO.ite ?_ ?_
   | refine LeO.bind ?_ (fun _=>?_)
set_option maxHeartbeats 8000000 in
set_option maxRecDepth 100000 in
theorem spec_DrawCatalogueText.calls (k:Nat) (A0:Option Addr) (c0:Nat) (l0:List Int) (r:List (S47)) (w:World) (hr0:Kd.C (Kd.int .u8) w A0 l0.length l0) (hc0:l0.length≤c0) (h:spec_DrawCatalogueText.f k l0=some r) :
 Calls Tryz.prog 4 #[.slice A0 l0.length c0] w fun e w'=>∃v0_:Value,e = .returned (v0_)∧Kd.R k47 47 w' w.heap.size (fun _=>True) v0_ r∧Below w.heap.size w w':=by
 (have HR0:=am_ hr0);(have HC0:=am_ hc0);clear hr0 hc0;(have HB:=am_ (Below.refl w.heap.size w));(have H:((spec_DrawIsCatalogue.f k l0).bind fun t215=>(some t215))=some r:=h);clear h;obtain⟨t215,A2,H⟩:=bo_ H;(try dsimp only at H);obtain rfl:=Option.some.inj H;(go_enter Tryz.func4,Tryz.ntmps4);(go_wp2_with (first|((with_reducible refine gate_callee (f:=28) rfl ?_);refine goesL_ (some 4) rfl rfl Tryz.func28 (by kernel_rfl) rfl #[.slice A0 l0.length c0] rfl gd_ ?_;(with_reducible refine(spec_DrawIsCatalogue.calls k _ _ l0 t215 _ ?side1 ?side2 A2.out).mono ?_);(case side1=>exact(a15_ HR0.out));(case side2=>exact HC0.out);rintro e w3 ⟨v216,rfl,ho0,hb⟩;refine⟨_,rfl,?_⟩;have HO217:=am_ (Kd.R_lower ho0 (below_size (a1_)));replace HB:=am_ (below_step (a1_) hb);(try clear hb);(try clear hb2);(try clear hk);(try clear hi);(try clear ho0))));go_ret;exact⟨_,a10_,(a0_ HO217.out),a1_⟩

/-! ### impl_isWord: function 53 -/
def impl_isWord.l0:Nat→ByteArray→Int→Int→Option (Bool)
 | 0,_,_,_=>none
 | k+1,x0,x5,x6=>if x6<x5 then(if 0≤x6 then(if x6<(x0.size:Int) then(if(bt x0 x6)<97 then(some false) else(if(bt x0 x6)>122 then(some false) else(impl_isWord.l0 k x0 x5 (wrap64 (x6+1))))) else(none)) else(none)) else(if(x0.size:Int)≥1 then(some (decide ((x0.size:Int)≤12))) else(some false))
def impl_isWord.f (k:Nat) (a0:ByteArray):Option (Bool):=impl_isWord.l0 k a0 (a0.size:Int) 0
theorem impl_isWord.mono_l:∀k,(∀y0 y1 y2,LeO (impl_isWord.l0 k y0 y1 y2) (impl_isWord.l0 (k+1) y0 y1 y2))
 | 0=>fun _ _ _ r h=>by simp[impl_isWord.l0]at h
 | k+1=>by
  have ih0:=impl_isWord.mono_l k
  intros
  unfold impl_isWord.l0
  rotate_left
  all_goals repeat' first|(with_reducible first|exact ih0 _ _ _|exact LeO.refl _|exact LeO.none _|refine LeO.ite ?_ ?_|refine LeO.bind ?_ (fun _=>?_))|exact ih0 _ _ _|exact LeO.none _|refine LeO.ite ?_ ?_|refine LeO.bind ?_ (fun _=>?_)
theorem impl_isWord.mono:∀a0 k,LeO (impl_isWord.f k a0) (impl_isWord.f (k+1) a0):=by
 intro a0 k;(have ih0:=impl_isWord.mono_l k);unfold impl_isWord.f
 repeat' first
  |(with_reducible exact ih0 _ _ _)
  |(with_reducible exact LeO.refl _)
  |(with_reducible exact LeO.none _)
  |(with_reducible refine LeO.ite ?_ ?_)
  |(with_reducible refine LeO.bind ?_ (fun _=>?_))
  |exact ih0 _ _ _
  |exact LeO.none _
   | refine LeO.ite ?_ ?_
   | refine LeO.bind ?_ (fun _=>?_)
set_option maxHeartbeats 8000000 in
set_option maxRecDepth 100000 in
theorem impl_isWord.calls (k:Nat) (a0:ByteArray) (r:Bool) (w:World) (h:impl_isWord.f k a0=some r) :
 Calls Tryz.prog 53 #[.string a0] w fun e w'=>e = .returned (.bool r)∧Drawn0 w w':=by
 (have H:(impl_isWord.l0 k a0 (a0.size:Int) 0)=some r:=h);clear h;(have H':=am_ H);clear H;(go_enter Tryz.func53,Tryz.ntmps53);go_wp2;(try simp only[Act.put,List.setIfInBounds_toArray,List.set_cons_zero,List.set_cons_succ])
 go_loopg [6] k (fun kq v6 w'=>∃(x6_1:Int),v6 = .int .i64 x6_1∧Aside0 (impl_isWord.l0 kq a0 (a0.size:Int) x6_1=some r)∧Aside0 (kq≤k)∧Drawn0 w w')
 case atStart=>exact⟨(0),(by first | rfl|(simp;done)|(simp[*];done)),H',⟨Nat.le_refl _⟩,a19_⟩
 case round=>
  clear H';obtain⟨x6_1,rfl,HA,HK1,⟨m1,rfl⟩⟩:=hrel;cases gk with
  | zero=>exact absurd HA.out (by simp[impl_isWord.l0])
  | succ k1=>
   (have H:=HA.out);clear HA;simp only[impl_isWord.l0]at H;by_cases c2:x6_1<(a0.size:Int)
   ·rw[if_pos c2]at H;(have c2b0:decide (x6_1<(a0.size:Int))=true:=decide_eq_true c2);clear c2;by_cases c3:0≤x6_1
    ·rw[if_pos c3]at H;(have c3b0:decide (0≤x6_1)=true:=decide_eq_true c3);clear c3;by_cases c4:x6_1<(a0.size:Int)
     ·rw[if_pos c4]at H;(have c4b0:decide (x6_1<(a0.size:Int))=true:=decide_eq_true c4);clear c4;by_cases c6:(bt a0 x6_1)<97;(focus rw[if_pos c6]at H;(have c6b0:decide ((bt a0 x6_1)<97)=true:=decide_eq_true c6);clear c6;obtain rfl:=Option.some.inj H;(have p5:0≤(x6_1:Int):=of_decide_eq_true (a6_));(have q5:x6_1<(a0.size:Int):=of_decide_eq_true (a6_));(have hx5:=bt_at a0 x6_1);replace p5:=eq_true p5;replace q5:=eq_true q5;go_wp2;go_ret;exact⟨by first | rfl|(simp;done)|(simp[*];done),a19_⟩)
      ·rw[if_neg c6]at H;(have c6b0:decide ((bt a0 x6_1)<97)=false:=decide_eq_false c6);clear c6;by_cases c8:(bt a0 x6_1)>122;(focus rw[if_pos c8]at H;(have c8b0:decide (122<(bt a0 x6_1))=true:=decide_eq_true c8);clear c8;obtain rfl:=Option.some.inj H;(have p5:0≤(x6_1:Int):=of_decide_eq_true (a6_));(have q5:x6_1<(a0.size:Int):=of_decide_eq_true (a6_));(have hx5:=bt_at a0 x6_1);replace p5:=eq_true p5;replace q5:=eq_true q5;(have p7:0≤(x6_1:Int):=of_decide_eq_true (a6_));(have q7:x6_1<(a0.size:Int):=of_decide_eq_true (a6_));(have hx7:=bt_at a0 x6_1);replace p7:=eq_true p7;replace q7:=eq_true q7;go_wp2;go_ret;exact⟨by first | rfl|(simp;done)|(simp[*];done),a19_⟩)
       ·rw[if_neg c8]at H;(have c8b0:decide (122<(bt a0 x6_1))=false:=decide_eq_false c8);clear c8;(have H':=am_ H);clear H;(have p5:0≤(x6_1:Int):=of_decide_eq_true (a6_));(have q5:x6_1<(a0.size:Int):=of_decide_eq_true (a6_));(have hx5:=bt_at a0 x6_1);replace p5:=eq_true p5;replace q5:=eq_true q5;(have p7:0≤(x6_1:Int):=of_decide_eq_true (a6_));(have q7:x6_1<(a0.size:Int):=of_decide_eq_true (a6_));(have hx7:=bt_at a0 x6_1);replace p7:=eq_true p7;replace q7:=eq_true q7;go_wp2;(go_roundg k1)
        case measure=>have:=HK1.out;omega
        case rel=>exact⟨(wrap64 (x6_1+1)),(by first | rfl|(simp;done)|(simp[*];done)),H',⟨by have:=HK1.out;omega⟩,a19_⟩
     (focus rw[if_neg c4]at H;exact absurd H (by simp))
    (focus rw[if_neg c3]at H;exact absurd H (by simp))
   (focus rw[if_neg c2]at H;(have c2b0:decide (x6_1<(a0.size:Int))=false:=decide_eq_false c2);clear c2;by_cases c9:(a0.size:Int)≥1;(focus rw[if_pos c9]at H;(have c9b0:decide (1≤(a0.size:Int))=true:=decide_eq_true c9);(have c9b1:decide (1≤a0.size)=true:=decide_eq_true (by omega));clear c9;obtain rfl:=Option.some.inj H;go_wp2;go_ret;exact⟨by first | rfl|(simp;done)|(simp[*];done),a19_⟩);(focus rw[if_neg c9]at H;(have c9b0:decide (1≤(a0.size:Int))=false:=decide_eq_false c9);(have c9b1:decide (1≤a0.size)=false:=decide_eq_false (by omega));clear c9;obtain rfl:=Option.some.inj H;go_wp2;go_ret;exact⟨by first | rfl|(simp;done)|(simp[*];done),a19_⟩))

-- NOT PRINTED: function 70 (impl_Roll)

/-! ### impl_findRoll: function 54 (by hand: the place of a title) -/
def impl_findRoll.idx (t:ByteArray):Int→List S47→Int
 | _, []=> -1
 | i,x :: l=>if x.f0.toList=t.toList then i else impl_findRoll.idx t (i+1) l
def impl_findRoll.f (l0:List S47) (a1:ByteArray):Option Int:=some (impl_findRoll.idx a1 0 l0)
set_option maxHeartbeats 4000000 in
set_option maxRecDepth 100000 in
theorem impl_findRoll.clo (B:Nat) (t:ByteArray) (x0 x1:ByteArray) (x2 x3:Int) (b:Bool) (W:World) (hB:B<W.heap.size) (hc:W.cell? ⟨B,0,none⟩=some (.string t)) (hb:(x0.toList == t.toList)=b) :
 Calls Tryz.prog 71 #[.agg #[.string x0, .string x1, .int .i64 x2, .int .i64 x3], .pointer (some ⟨B,0,none⟩)] W fun e w'=>e = .returned (.bool b)∧Below W.heap.size W w':=by
 (have hc2:∀o:Obj,(W.alloc o).cell? ⟨B,0,none⟩=some (.string t):=fun o=>(World.cell?_alloc_lt _ _ _ hB).trans hc);(go_enter Tryz.func71,Tryz.ntmps71);go_wp2;go_ret;exact⟨by rw[← hb];rfl,below_alloc (Below.refl _ _) _⟩
set_option maxHeartbeats 8000000 in
set_option maxRecDepth 100000 in
theorem impl_findRoll.fn (A0:Option Addr) (c0:Nat) (l0:List S47) (B:Nat) (t:ByteArray) (w:World) (hB:B<w.heap.size) (hcB:w.cell? ⟨B,0,none⟩=some (.string t)) (hr0:Kd.C k47 w A0 l0.length l0) :
 Calls Tryz.prog 70 #[.slice A0 l0.length c0, .func (.func 71) #[] #[.pointer (some ⟨B,0,none⟩)]] w fun e w'=>e = .returned (.int .i64 (impl_findRoll.idx t 0 l0))∧Below w.heap.size w w':=by
 (have HR0:=am_ hr0);(have HCB:=am_ hcB);clear hr0 hcB;(have hmax:=HR0.out.2.1);(have eg:=enters_of (P:=Tryz.prog) Tryz.func71 (by kernel_rfl) rfl);(go_enter Tryz.func70,Tryz.ntmps70);go_wp2;(try simp only[Act.put,List.setIfInBounds_toArray,List.set_cons_zero,List.set_cons_succ])
 go_loopg [5,8] l0.length (fun gg _ s8 wr=>∃kk:Nat,kk≤l0.length∧l0.length-kk≤gg∧s8 = .int .i64 kk∧Aside0 (Below w.heap.size w wr)∧Aside0 (impl_findRoll.idx t 0 l0=impl_findRoll.idx t kk (l0.drop kk)))
 case atStart=>exact⟨0,Nat.zero_le _,by omega,rfl,⟨Below.refl _ w⟩,⟨rfl⟩⟩
 case round=>
  obtain⟨kk,hkk,hg,rfl,HB,HI⟩:=hrel;by_cases hlt:kk<l0.length
  ·(have hltz:(kk:Int)<(l0.length:Int):=by omega);obtain⟨ad,e1,hx0,hx1,hx2,hx3⟩:=at_T47 HR0.out (kk:Int) (by omega) hltz;cases e1;simp only[Int.toNat_natCast]at hx0 hx1 hx2 hx3;replace hx0:=(HB.out.cell (World.block_lt_of_cell? w _ hx0)).trans hx0;replace hx1:=(HB.out.cell (World.block_lt_of_cell? w _ hx1)).trans hx1;replace hx2:=(HB.out.cell (World.block_lt_of_cell? w _ hx2)).trans hx2;replace hx3:=(HB.out.cell (World.block_lt_of_cell? w _ hx3)).trans hx3
   have hdrop:l0.drop kk=rd_T47 l0 (kk:Int) :: l0.drop (kk+1):=by
    rw[List.drop_eq_getElem_cons hlt]
    congr 1
    simp[rd_T47,List.getD_eq_getElem?_getD,List.getElem?_eq_getElem hlt]
   (have hsz:w.heap.size≤wr.heap.size:=HB.out.size);cases hq:((rd_T47 l0 (kk:Int)).f0.toList == t.toList) with
   | true=>
    (have hcall:=impl_findRoll.clo B t (rd_T47 l0 (kk:Int)).f0 (rd_T47 l0 (kk:Int)).f1 (rd_T47 l0 (kk:Int)).f2 (rd_T47 l0 (kk:Int)).f3 true wr (by omega) (pw_cell_below HB.out HCB.out) hq);(have HD:Aside0 (impl_findRoll.idx t 0 l0=(kk:Int)):=⟨by rw[HI.out,hdrop];simp only[impl_findRoll.idx];rw[if_pos (by simpa using hq)]⟩);clear hq hdrop HI;(go_wp2_with (go_at_call 71;refine hcall.mono ?_;rintro e w' ⟨rfl,hb'⟩));go_ret;exact⟨by rw[HD.out];rfl,below_then HB.out hsz hb'⟩
   | false=>
    (have hcall:=impl_findRoll.clo B t (rd_T47 l0 (kk:Int)).f0 (rd_T47 l0 (kk:Int)).f1 (rd_T47 l0 (kk:Int)).f2 (rd_T47 l0 (kk:Int)).f3 false wr (by omega) (pw_cell_below HB.out HCB.out) hq);(have HD:Aside0 (impl_findRoll.idx t 0 l0=impl_findRoll.idx t ((kk+1:Nat):Int) (l0.drop (kk+1))):=⟨by rw[HI.out,hdrop];simp only[impl_findRoll.idx];rw[if_neg (by simpa using hq)];simp⟩);clear hq hdrop HI;(go_wp2_with (go_at_call 71;refine hcall.mono ?_;rintro e w' ⟨rfl,hb'⟩));(go_roundg (l0.length-(kk+1)))
    case measure=>omega
    case rel=>exact⟨kk+1,by omega,by omega,by go_num,⟨below_then HB.out hsz hb'⟩,HD⟩
  (focus (have hltz:¬(kk:Int)<(l0.length:Int):=by omega);(have hkl:kk=l0.length:=by omega);(have HD:Aside0 (impl_findRoll.idx t 0 l0 = -1):=⟨by rw[HI.out,hkl,List.drop_length];rfl⟩);clear HI hkl;go_wp2;go_ret;exact⟨by rw[HD.out];rfl,HB.out⟩)
set_option maxHeartbeats 8000000 in
set_option maxRecDepth 100000 in
theorem impl_findRoll.calls (A0:Option Addr) (c0:Nat) (l0:List S47) (a1:ByteArray) (r:Int) (w:World) (hr0:Kd.C k47 w A0 l0.length l0) (hc0:l0.length≤c0) (h:impl_findRoll.f l0 a1=some r) :
 Calls Tryz.prog 54 #[.slice A0 l0.length c0, .string a1] w fun e w'=>e = .returned (.int .i64 r)∧Below w.heap.size w w':=by
 obtain rfl:=Option.some.inj h;clear h;(have HR0:=am_ hr0);clear hr0 hc0;(go_enter Tryz.func54,Tryz.ntmps54);(go_wp2_with (go_at_call 70;refine(impl_findRoll.fn A0 c0 l0 w.heap.size a1 _ (by simp) (blk_cell (blk_new w _) 0) (Kd.C_below HR0.out (below_alloc (Below.refl _ _) _))).mono ?_;rintro e w' ⟨rfl,hb⟩));go_ret;exact⟨rfl,below_then (below_alloc (Below.refl _ _) _) (by simp) hb⟩


end Go.Proofs.YtkkmeccdjpibmaaGreatDoor.QFnCatalogue
