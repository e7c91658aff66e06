/- What each Go function computes, and that its call computes it; each theorem names its conditions. -/
import Derived.Test.YtcnegcdmmackeaaGreatQFnEditionsx0
import Derived.Test.YtcnegcdmmackeaaGreatQFnEditionsx3
import Derived.Test.YtcnegcdmmackeaaGreatQFnEditionsx4
import Derived.Test.YtcnegcdmmackeaaGreatQFnEditionsx5
import Derived.Test.YtcnegcdmmackeaaGreatQFnEditionsx8
import Derived.Test.YtcnegcdmmackeaaGreatSrFnEditions
namespace Go.Proofs.YtcnegcdmmackeaaGreat.QFnEditions
open Go.RowKit Go.Proofs.YtcnegcdmmackeaaGreatW.PrintWords Go.Proofs.YtcnegcdmmackeaaGreatW.PrintLast Go.Proofs.YtcnegcdmmackeaaGreatW.PrintMore
attribute [local go_sem] max2_int min2_int max_two min_two max_three min_three max_four min_four
set_option linter.unusedVariables false
set_option maxHeartbeats 8000000
set_option maxRecDepth 100000
set_option linter.unusedSimpArgs false
def Zp.l0:Nat→Int→List (S46)→Int→Int→Option (Int)
 | 0,_,_,_,_=>none
 | k+1,x3,x6,x7,x8=>if x8<x7 then(if 0≤x8 then(if x8<(x6.length:Int) then(Zp.l0 k (wrap64 (x3+(wrap64 (((rd_T46 x6 x8).f2)-((rd_T46 x6 x8).f1))))) x6 x7 (wrap64 (x8+1))) else(none)) else(none)) else(some x3)
def Zp.f (k:Nat) (l0:List (S46)):Option (Int):=Zp.l0 k 0 l0 (l0.length:Int) 0
theorem Zp.mono_l:∀k,(∀y0 y1 y2 y3,LeO (Zp.l0 k y0 y1 y2 y3) (Zp.l0 (k+1) y0 y1 y2 y3))
 | 0=>fun _ _ _ _ r h=>by simp[Zp.l0]at h
 | k+1=>by
  have ih0:=Zp.mono_l k
  intros;unfold Zp.l0;exact mo_
theorem Zp.mono:∀a0 k,LeO (Zp.f k a0) (Zp.f (k+1) a0):=by
 intro a0 k;(have ih0:=Zp.mono_l k);unfold Zp.f;exact mo_
theorem Zp.calls (k:Nat) (A0:Option Addr) (c0:Nat) (l0:List (S46)) (r:Int) (w:World) (hr0:Kd.C k46 w A0 l0.length l0) (hc0:l0.length≤c0) (h:Zp.f k l0=some r) :
 Calls Tryz.prog 37 #[.slice A0 l0.length c0] w fun e w'=>e = .returned (.int .i64 r)∧Below w.heap.size w w':=by
 (have hu46:=Tryz.underlying46);(have HR0:=am_ hr0);clear hr0 hc0;(have HB:=am_ (Below.refl w.heap.size w));(have H:=h);clear h;unfold Zp.f at H;(have H':=am_ H);clear H;(go_enter Tryz.func37,Tryz.ntmps37);go_wp2;(try simp only[Act.put,List.setIfInBounds_toArray,List.set_cons_zero,List.set_cons_succ])
 go_loopg [3,8] k (fun kq v3 v8 w'=>∃(x3_1:Int) (x8_1:Int),v3 = .int .i64 x3_1∧v8 = .int .i64 x8_1∧Aside0 (Zp.l0 kq x3_1 l0 (l0.length:Int) x8_1=some r)∧Aside0 (kq≤k)∧Aside0 (Below w.heap.size w w'))
 case atStart=>exact⟨(0),(0),(by first | rfl|(simp;done)|(simp[*];done)),(by first | rfl|(simp;done)|(simp[*];done)),H',⟨Nat.le_refl _⟩,⟨a0_⟩⟩
 case round=>
  clear H';obtain⟨x3_1,x8_1,rfl,rfl,HA,HK1,HB⟩:=hrel;cases gk with
  | zero=>exact absurd HA.out (by simp[Zp.l0])
  | succ k1=>
   (have H:=HA.out);clear HA;simp only[Zp.l0]at H;obtain⟨c2b0,H⟩|⟨c2b0,H⟩:=bd_ H
   ·(obtain⟨c3b0,H⟩:=gj_ H);(obtain⟨c4b0,H⟩:=gj_ H);(have H':=am_ H);clear H;obtain⟨ad454,e454,hx454_0,hx454_1,hx454_2,p454,q454⟩:=ra_ HB (at_T46 HR0.out x8_1);cases e454;(go_wp2_with (first|((with_reducible refine be_ 5 #[.int .i64 0, .int .i64 0, .int .i64 0] 46 ?_);intro gb455 hg w5 BK455 hb;have GW455:=gw_ HB hg;have GE455:=GW455;replace HB:=bs_ HB hb;clear hb hg;obtain⟨_,_,_,_,_,_⟩:=bc3_ BK455)));(go_roundg k1)
    case measure=>have:=HK1.out;omega
    case rel=>exact⟨(wrap64 (x3_1+(wrap64 (((rd_T46 l0 x8_1).f2)-((rd_T46 l0 x8_1).f1))))),(wrap64 (x8_1+1)),(by first | rfl|(simp;done)|(simp[*];done)),(by first | rfl|(simp;done)|(simp[*];done)),H',⟨by have:=HK1.out;omega⟩,⟨(a1_ GE455.out)⟩⟩
   (focus obtain rfl:=Option.some.inj H;go_wp2;go_ret;exact⟨a9_,a0_⟩)
def Z4.f (a0:Int):Option (Bool):=(ZB.f a0 0 1999).bind fun t456=>(some t456)
theorem Z4.calls (a0:Int) (r:Bool) (w:World) (h:Z4.f a0=some r) :
 Calls Tryz.prog 43 #[.int .i64 a0] w fun e w'=>e = .returned (.bool r)∧Drawn0 w w':=by
 (have H:=h);clear h;unfold Z4.f at H;obtain⟨t456,A2,H⟩:=bo_ H;obtain rfl:=Option.some.inj H;(go_enter Tryz.func43,Tryz.ntmps43);(go_wp2_with (first|((with_reducible refine gl_ 4 Tryz.func51 #[.int .i64 a0, .int .i64 0, .int .i64 1999] ?_);(with_reducible refine(ZB.calls a0 0 1999 t456 _ A2.out).mono ?_);rintro e w' ⟨rfl,⟨nd,rfl⟩⟩;refine⟨_,rfl,?_⟩)));go_ret;exact⟨by first | rfl|(simp;done)|(simp[*];done),a42_⟩
def Z5.f (a0_0:Int) (a0_1:Int) (a0_2:Int):Option (Bool):=(ZB.f a0_0 0 3).bind fun t458=>(if t458=true then((Z4.f a0_1).bind fun t459=>(if t459=true then((ZB.f a0_2 (wrap64 (a0_1+1)) 2000).bind fun t460=>(some t460)) else(some false))) else(some false))
theorem Z5.calls (a0_0:Int) (a0_1:Int) (a0_2:Int) (r:Bool) (w:World) (h:Z5.f a0_0 a0_1 a0_2=some r) :
 Calls Tryz.prog 50 #[.agg #[.int .i64 a0_0, .int .i64 a0_1, .int .i64 a0_2]] w fun e w'=>e = .returned (.bool r)∧Below w.heap.size w w':=by
 (have hu46:=Tryz.underlying46);(have HB:=am_ (Below.refl w.heap.size w));(have H:=h);clear h;unfold Z5.f at H;obtain⟨t458,A2,H⟩:=bo_ H;replace H:=bt_ H;obtain⟨rfl,H⟩|⟨rfl,H⟩:=H;(focus obtain⟨t459,A4,H⟩:=bo_ H;replace H:=bt_ H;obtain⟨rfl,H⟩|⟨rfl,H⟩:=H;(focus obtain⟨t460,A6,H⟩:=bo_ H;obtain rfl:=Option.some.inj H;(go_enter Tryz.func50,Tryz.ntmps50);(go_wp2_with (first|((with_reducible refine be_ 1 #[.int .i64 a0_0, .int .i64 a0_1, .int .i64 a0_2] 46 ?_);intro gb457 hg w7 BK457 hb;have GW457:=gw_ HB hg;have GE457:=GW457;replace HB:=bs_ HB hb;clear hb hg;obtain⟨hcz8_0,hcz8_1,hcz8_2,hfz8_0,hfz8_1,hfz8_2⟩:=bc3_ BK457)|((with_reducible refine gl_ 5 Tryz.func51 #[.int .i64 a0_0, .int .i64 0, .int .i64 3] ?_);(with_reducible refine(ZB.calls a0_0 0 3 true _ A2.out).mono ?_);rintro e w' ⟨rfl,⟨nd,rfl⟩⟩;refine⟨_,rfl,?_⟩)|(go_at_call 43;(with_reducible refine(Z4.calls a0_1 true _ A4.out).mono ?_);rintro e w' ⟨rfl,⟨nd,rfl⟩⟩)|(go_at_call 51;(with_reducible refine(ZB.calls a0_2 (wrap64 (a0_1+1)) 2000 t460 _ A6.out).mono ?_);rintro e w' ⟨rfl,⟨nd,rfl⟩⟩)));go_ret;exact⟨a9_,(a1_ GE457.out)⟩);(focus obtain rfl:=Option.some.inj H;(go_enter Tryz.func50,Tryz.ntmps50);(go_wp2_with (first|((with_reducible refine be_ 1 #[.int .i64 a0_0, .int .i64 a0_1, .int .i64 a0_2] 46 ?_);intro gb457 hg w9 BK457 hb;have GW457:=gw_ HB hg;have GE457:=GW457;replace HB:=bs_ HB hb;clear hb hg;obtain⟨_,_,_,_,_,_⟩:=bc3_ BK457)|((with_reducible refine gl_ 5 Tryz.func51 #[.int .i64 a0_0, .int .i64 0, .int .i64 3] ?_);(with_reducible refine(ZB.calls a0_0 0 3 true _ A2.out).mono ?_);rintro e w' ⟨rfl,⟨nd,rfl⟩⟩;refine⟨_,rfl,?_⟩)|(go_at_call 43;(with_reducible refine(Z4.calls a0_1 false _ A4.out).mono ?_);rintro e w' ⟨rfl,⟨nd,rfl⟩⟩)));go_ret;exact⟨a9_,(a1_ GE457.out)⟩));(focus obtain rfl:=Option.some.inj H;(go_enter Tryz.func50,Tryz.ntmps50);(go_wp2_with (first|((with_reducible refine be_ 1 #[.int .i64 a0_0, .int .i64 a0_1, .int .i64 a0_2] 46 ?_);intro gb457 hg w11 BK457 hb;have GW457:=gw_ HB hg;have GE457:=GW457;replace HB:=bs_ HB hb;clear hb hg;obtain⟨hcz12_0,hcz12_1,hcz12_2,hfz12_0,hfz12_1,hfz12_2⟩:=bc3_ BK457)|((with_reducible refine gl_ 5 Tryz.func51 #[.int .i64 a0_0, .int .i64 0, .int .i64 3] ?_);(with_reducible refine(ZB.calls a0_0 0 3 false _ A2.out).mono ?_);rintro e w' ⟨rfl,⟨nd,rfl⟩⟩;refine⟨_,rfl,?_⟩)));go_ret;exact⟨a9_,(a1_ GE457.out)⟩)
def Zl.l0:Nat→List (S46)→List (S46)→Int→Int→Option (Bool)
 | 0,_,_,_,_=>none
 | k+1,x0,x5,x6,x7=>if x7<x6 then(if 0≤x7 then(if x7<(x5.length:Int) then((Z5.f ((rd_T46 x5 x7).f0) ((rd_T46 x5 x7).f1) ((rd_T46 x5 x7).f2)).bind fun t463=>(if t463=true then(Zl.l0 k x0 x5 x6 (wrap64 (x7+1))) else(some false))) else(none)) else(none)) else(if(x0.length:Int)≤12 then((Zp.f k x0).bind fun t464=>(some (decide (t464≤2000)))) else(some false))
def Zl.f (k:Nat) (l0:List (S46)):Option (Bool):=Zl.l0 k l0 l0 (l0.length:Int) 0
theorem Zl.mono_l:∀k,(∀y0 y1 y2 y3,LeO (Zl.l0 k y0 y1 y2 y3) (Zl.l0 (k+1) y0 y1 y2 y3))
 | 0=>fun _ _ _ _ r h=>by simp[Zl.l0]at h
 | k+1=>by
  have ih0:=Zl.mono_l k
  have m0:=@Zp.mono;intros;unfold Zl.l0;exact mo_
theorem Zl.mono:∀a0 k,LeO (Zl.f k a0) (Zl.f (k+1) a0):=by
 intro a0 k;(have ih0:=Zl.mono_l k);have m0:=@Zp.mono;unfold Zl.f;exact mo_
theorem Zl.calls (k:Nat) (A0:Option Addr) (c0:Nat) (l0:List (S46)) (r:Bool) (w:World) (hr0:Kd.C k46 w A0 l0.length l0) (hc0:l0.length≤c0) (h:Zl.f k l0=some r) :
 Calls Tryz.prog 36 #[.slice A0 l0.length c0] w fun e w'=>e = .returned (.bool r)∧Below w.heap.size w w':=by
 (have hu46:=Tryz.underlying46);(have HR0:=am_ hr0);(have HC0:=am_ hc0);clear hr0 hc0;(have HB:=am_ (Below.refl w.heap.size w));(have H:=h);clear h;unfold Zl.f at H;(have H':=am_ H);clear H;(go_enter Tryz.func36,Tryz.ntmps36);go_wp2;(try simp only[Act.put,List.setIfInBounds_toArray,List.set_cons_zero,List.set_cons_succ])
 go_loopg [7] k (fun kq v7 w'=>∃(x7_1:Int),v7 = .int .i64 x7_1∧Aside0 (Zl.l0 kq l0 l0 (l0.length:Int) x7_1=some r)∧Aside0 (kq≤k)∧Aside0 (Below w.heap.size w w'))
 case atStart=>exact⟨(0),(by first | rfl|(simp;done)|(simp[*];done)),H',⟨Nat.le_refl _⟩,⟨a0_⟩⟩
 case round=>
  clear H';obtain⟨x7_1,rfl,HA,HK1,HB⟩:=hrel;cases gk with
  | zero=>exact absurd HA.out (by simp[Zl.l0])
  | succ k1=>
   (have H:=HA.out);clear HA;simp only[Zl.l0]at H;obtain⟨c2b0,H⟩|⟨c2b0,H⟩:=bd_ H
   ·(obtain⟨c3b0,H⟩:=gj_ H);(obtain⟨c4b0,H⟩:=gj_ H);obtain⟨t463,A5,H⟩:=bo_ H;replace H:=bt_ H;obtain⟨rfl,H⟩|⟨rfl,H⟩:=H
    ·(have H':=am_ H);clear H;obtain⟨ad461,e461,hx461_0,hx461_1,hx461_2,p461,q461⟩:=ra_ HB (at_T46 HR0.out x7_1);cases e461;(go_wp2_with (first|((with_reducible refine be_ 4 #[.int .i64 0, .int .i64 0, .int .i64 0] 46 ?_);intro gb462 hg w7 BK462 hb;have GW462:=gw_ HB hg;have GE462:=GW462;replace HB:=bs_ HB hb;clear hb hg;obtain⟨hcz8_0,hcz8_1,hcz8_2,hfz8_0,hfz8_1,hfz8_2⟩:=bc3_ BK462)|((with_reducible refine gl_ 12 Tryz.func50 #[.agg #[.int .i64 ((rd_T46 l0 x7_1).f0), .int .i64 ((rd_T46 l0 x7_1).f1), .int .i64 ((rd_T46 l0 x7_1).f2)]] ?_);(with_reducible refine(Z5.calls ((rd_T46 l0 x7_1).f0) ((rd_T46 l0 x7_1).f1) ((rd_T46 l0 x7_1).f2) true _ A5.out).mono ?_);rintro e w9 ⟨rfl,hb⟩;refine⟨_,rfl,?_⟩;replace BK462:=bb_ BK462 hb;replace HB:=bg_ HB GE462 hb;clear hb)));(go_roundg k1)
     case measure=>have:=HK1.out;omega
     case rel=>exact⟨(wrap64 (x7_1+1)),(by first | rfl|(simp;done)|(simp[*];done)),H',⟨by have:=HK1.out;omega⟩,⟨(a1_ GE462.out)⟩⟩
    (focus obtain rfl:=Option.some.inj H;obtain⟨ad461,e461,hx461_0,hx461_1,hx461_2,p461,q461⟩:=ra_ HB (at_T46 HR0.out x7_1);cases e461;(go_wp2_with (first|((with_reducible refine be_ 4 #[.int .i64 0, .int .i64 0, .int .i64 0] 46 ?_);intro gb462 hg w10 BK462 hb;have GW462:=gw_ HB hg;have GE462:=GW462;replace HB:=bs_ HB hb;clear hb hg;obtain⟨_,_,_,_,_,_⟩:=bc3_ BK462)|((with_reducible refine gl_ 12 Tryz.func50 #[.agg #[.int .i64 ((rd_T46 l0 x7_1).f0), .int .i64 ((rd_T46 l0 x7_1).f1), .int .i64 ((rd_T46 l0 x7_1).f2)]] ?_);(with_reducible refine(Z5.calls ((rd_T46 l0 x7_1).f0) ((rd_T46 l0 x7_1).f1) ((rd_T46 l0 x7_1).f2) false _ A5.out).mono ?_);rintro e w12 ⟨rfl,hb⟩;refine⟨_,rfl,?_⟩;replace BK462:=bb_ BK462 hb;replace HB:=bg_ HB GE462 hb;clear hb)));go_ret;exact⟨a9_,(a1_ GE462.out)⟩)
   (focus by_cases c13:(l0.length:Int)≤12;(focus rw[if_pos c13]at H;(have c13b0:=decide_eq_true c13);(have c13b1:decide (l0.length≤12)=true:=decide_eq_true (by omega));clear c13;obtain⟨t464,A14,H⟩:=bo_ H;obtain rfl:=Option.some.inj H;(go_wp2_with (first|(go_at_call 37;(with_reducible refine(Zp.calls k1 _ _ l0 t464 _ ?side1 ?side2 A14.out).mono ?_);(case side1=>exact(a13_ HR0.out));(case side2=>exact HC0.out);rintro e w15 ⟨rfl,hb⟩;replace HB:=bs_ HB hb;clear hb)));go_ret;exact⟨a9_,a0_⟩);(focus rw[if_neg c13]at H;(have c13b0:decide ((l0.length:Int)≤12)=false:=decide_eq_false c13);(have c13b1:decide (l0.length≤12)=false:=decide_eq_false (by omega));clear c13;obtain rfl:=Option.some.inj H;go_wp2;go_ret;exact⟨a9_,a0_⟩))
mutual
def Zs.j0:Nat→List (S46)→Int→Bool→Option (Bool)
 | 0,_,_,_=>none
 | k+1,x0,x1,x14=>if x14=true then(some false) else(Zs.l0 k x1 x0 (x0.length:Int) 0)
def Zs.l0:Nat→Int→List (S46)→Int→Int→Option (Bool)
 | 0,_,_,_,_=>none
 | k+1,x1,x15,x16,x17=>if x17<x16 then(if 0≤x17 then(if x17<(x15.length:Int) then(if((rd_T46 x15 x17).f0)≥x1 then(some false) else(Zs.l0 k x1 x15 x16 (wrap64 (x17+1)))) else(none)) else(none)) else(some true)
end
def Zs.f (k:Nat) (l0:List (S46)) (a1:Int):Option (Bool):=(Zl.f k l0).bind fun t465=>(if t465=true then((ZB.f a1 1 4).bind fun t466=>(Zs.j0 k l0 a1 (!t466))) else(Zs.j0 k l0 a1 true))
theorem Zs.mono_l:∀k,(∀y0 y1 y2,LeO (Zs.j0 k y0 y1 y2) (Zs.j0 (k+1) y0 y1 y2))∧(∀y0 y1 y2 y3,LeO (Zs.l0 k y0 y1 y2 y3) (Zs.l0 (k+1) y0 y1 y2 y3))
 | 0=>⟨fun _ _ _ r h=>by simp[Zs.j0]at h,fun _ _ _ _ r h=>by simp[Zs.l0]at h⟩
 | k+1=>by
  obtain⟨ih0,ih1⟩:=Zs.mono_l k
  have m0:=@Zl.mono;exact⟨by intros;unfold Zs.j0;exact mo_,by intros;unfold Zs.l0;exact mo_⟩
theorem Zs.mono:∀a0 a1 k,LeO (Zs.f k a0 a1) (Zs.f (k+1) a0 a1):=by
 intro a0 a1 k;obtain⟨ih0,ih1⟩:=Zs.mono_l k;have m0:=@Zl.mono;unfold Zs.f;exact mo_
theorem Zs.calls (k:Nat) (A0:Option Addr) (c0:Nat) (l0:List (S46)) (a1:Int) (r:Bool) (w:World) (hr0:Kd.C k46 w A0 l0.length l0) (hc0:l0.length≤c0) (h:Zs.f k l0 a1=some r) :
 Calls Tryz.prog 59 #[.slice A0 l0.length c0, .int .i64 a1] w fun e w'=>e = .returned (.bool r)∧Below w.heap.size w w':=by
 (have hu46:=Tryz.underlying46);(have HR0:=am_ hr0);(have HC0:=am_ hc0);clear hr0 hc0;(have HB:=am_ (Below.refl w.heap.size w));(have H:=h);clear h;unfold Zs.f at H;(have HC3:=am_ H);clear H;(go_enter Tryz.func59,Tryz.ntmps59);(go_upto_region 1 with (fail));(go_cut [14] (fun v14 wc=>∃(kq:Nat) (x14_2:Bool),v14 = .bool x14_2∧Aside0 (Zs.j0 kq l0 a1 x14_2=some r)∧Aside0 (kq≤k)∧Aside0 (Below w.heap.size w wc)))
 case first=>
  (have H:=HC3.out);clear HC3;obtain⟨t465,A4,H⟩:=bo_ H;replace H:=bt_ H;obtain⟨rfl,H⟩|⟨rfl,H⟩:=H
  ·obtain⟨t466,A6,H⟩:=bo_ H;(have H':=am_ H);clear H;(go_wp2_with (first|((with_reducible refine gl_ 8 Tryz.func36 #[.slice A0 l0.length c0] ?_);(with_reducible refine(Zl.calls k _ _ l0 true _ ?side1 ?side2 A4.out).mono ?_);(case side1=>exact(a13_ HR0.out));(case side2=>exact HC0.out);rintro e w7 ⟨rfl,hb⟩;refine⟨_,rfl,?_⟩;replace HB:=bs_ HB hb;clear hb)|(go_at_call 51;(with_reducible refine(ZB.calls a1 1 4 t466 _ A6.out).mono ?_);rintro e w' ⟨rfl,⟨nd,rfl⟩⟩)));go_meet
   case rel=>exact⟨_,(!t466),(by first | rfl|(simp;done)|(simp[*];done)),H',⟨by first | omega|exact Nat.le_refl _⟩,⟨a0_⟩⟩
  ·(have H':=am_ H);clear H;(go_wp2_with (first|((with_reducible refine gl_ 8 Tryz.func36 #[.slice A0 l0.length c0] ?_);(with_reducible refine(Zl.calls k _ _ l0 false _ ?side1 ?side2 A4.out).mono ?_);(case side1=>exact(a13_ HR0.out));(case side2=>exact HC0.out);rintro e w8 ⟨rfl,hb⟩;refine⟨_,rfl,?_⟩;replace HB:=bs_ HB hb;clear hb)));go_meet
   case rel=>exact⟨_,(true),(by first | rfl|(simp;done)|(simp[*];done)),H',⟨by first | omega|exact Nat.le_refl _⟩,⟨a0_⟩⟩
 case rest=>
  clear HC3;(try clear p2);(try clear c3);(try clear c5);obtain⟨kq,x14_2,rfl,HA,HJ2,HB⟩:=hcut;cases kq with
  | zero=>exact absurd HA.out (by simp[Zs.j0])
  | succ kj2=>
   (have H:=HA.out);clear HA;simp only[Zs.j0]at H;replace H:=bt_ H;obtain⟨rfl,H⟩|⟨rfl,H⟩:=H;(focus obtain rfl:=Option.some.inj H;go_wp2;go_ret;exact⟨a9_,a0_⟩)
   ·(have H':=am_ H);clear H;go_wp2;(try simp only[Act.put,List.setIfInBounds_toArray,List.set_cons_zero,List.set_cons_succ])
    go_loopg [17] kj2 (fun kq v17 w'=>∃(x17_2:Int),v17 = .int .i64 x17_2∧Aside0 (Zs.l0 kq a1 l0 (l0.length:Int) x17_2=some r)∧Aside0 (kq≤kj2)∧Aside0 (Below w.heap.size w w'))
    case atStart=>exact⟨(0),(by first | rfl|(simp;done)|(simp[*];done)),H',⟨Nat.le_refl _⟩,⟨a0_⟩⟩
    case round=>
     clear H';(try clear p2);(try clear c3);(try clear c5);(try clear c9);(try clear p2);obtain⟨x17_2,rfl,HA,HK2,HB⟩:=hrel;cases gk with
     | zero=>exact absurd HA.out (by simp[Zs.l0])
     | succ k2=>
      (have H:=HA.out);clear HA;simp only[Zs.l0]at H;obtain⟨c10b0,H⟩|⟨c10b0,H⟩:=bd_ H
      ·(obtain⟨c11b0,H⟩:=gj_ H);(obtain⟨c12b0,H⟩:=gj_ H);by_cases c13:((rd_T46 l0 x17_2).f0)≥a1;(focus rw[if_pos c13]at H;(have c13b0:decide (a1≤((rd_T46 l0 x17_2).f0))=true:=decide_eq_true c13);clear c13;obtain rfl:=Option.some.inj H;obtain⟨ad467,e467,hx467_0,hx467_1,hx467_2,p467,q467⟩:=ra_ HB (at_T46 HR0.out x17_2);cases e467;(go_wp2_with (first|((with_reducible refine be_ 6 #[.int .i64 0, .int .i64 0, .int .i64 0] 46 ?_);intro gb468 hg w14 BK468 hb;have GW468:=gw_ HB hg;have GE468:=GW468;replace HB:=bs_ HB hb;clear hb hg;obtain⟨hcz15_0,hcz15_1,hcz15_2,hfz15_0,hfz15_1,hfz15_2⟩:=bc3_ BK468)));go_ret;exact⟨a9_,(a1_ GE468.out)⟩)
       ·rw[if_neg c13]at H;(have c13b0:decide (a1≤((rd_T46 l0 x17_2).f0))=false:=decide_eq_false c13);clear c13;(have H':=am_ H);clear H;obtain⟨ad467,e467,hx467_0,hx467_1,hx467_2,p467,q467⟩:=ra_ HB (at_T46 HR0.out x17_2);cases e467;(go_wp2_with (first|((with_reducible refine be_ 6 #[.int .i64 0, .int .i64 0, .int .i64 0] 46 ?_);intro gb468 hg w16 BK468 hb;have GW468:=gw_ HB hg;have GE468:=GW468;replace HB:=bs_ HB hb;clear hb hg;obtain⟨_,_,_,_,_,_⟩:=bc3_ BK468)));(go_roundg k2)
        case measure=>have:=HJ2.out;have:=HK2.out;omega
        case rel=>exact⟨(wrap64 (x17_2+1)),(by first | rfl|(simp;done)|(simp[*];done)),H',⟨by have:=HJ2.out;have:=HK2.out;omega⟩,⟨(a1_ GE468.out)⟩⟩
      (focus obtain rfl:=Option.some.inj H;go_wp2;go_ret;exact⟨a9_,a0_⟩)
def ZA.l0:Nat→List (List (S62))→List (S46)→List (List (S62))→Int→Int→Option (Bool)
 | 0,_,_,_,_,_=>none
 | k+1,x0,x1,x7,x8,x9=>if x9<x8 then(if 0≤x9 then(if x9<(x7.length:Int) then((Zg.f k (rd_L3 x7 x9)).bind fun t470=>(if t470=true then(ZA.l0 k x0 x1 x7 x8 (wrap64 (x9+1))) else(some false))) else(none)) else(none)) else((Zs.f k x1 (x0.length:Int)).bind fun t471=>(some t471))
def ZA.f (k:Nat) (l0:List (List (S62))) (l1:List (S46)):Option (Bool):=ZA.l0 k l0 l1 l0 (l0.length:Int) 0
theorem ZA.mono_l:∀k,(∀y0 y1 y2 y3 y4,LeO (ZA.l0 k y0 y1 y2 y3 y4) (ZA.l0 (k+1) y0 y1 y2 y3 y4))
 | 0=>fun _ _ _ _ _ r h=>by simp[ZA.l0]at h
 | k+1=>by
  have ih0:=ZA.mono_l k
  have m0:=@Zs.mono;have m1:=@Zg.mono;intros;unfold ZA.l0;exact mo_
theorem ZA.mono:∀a0 a1 k,LeO (ZA.f k a0 a1) (ZA.f (k+1) a0 a1):=by
 intro a0 a1 k;(have ih0:=ZA.mono_l k);have m0:=@Zs.mono;have m1:=@Zg.mono;unfold ZA.f;exact mo_
theorem ZA.calls (k:Nat) (A0:Option Addr) (c0:Nat) (l0:List (List (S62))) (A1:Option Addr) (c1:Nat) (l1:List (S46)) (r:Bool) (w:World) (hr0:Kd.C (Kd.slice 62 k62) w A0 l0.length l0) (hc0:l0.length≤c0) (hr1:Kd.C k46 w A1 l1.length l1) (hc1:l1.length≤c1) (h:ZA.f k l0 l1=some r) :
 Calls Tryz.prog 29 #[.slice A0 l0.length c0, .slice A1 l1.length c1] w fun e w'=>e = .returned (.bool r)∧Below w.heap.size w w':=by
 (have HR0:=am_ hr0);clear hr0 hc0;(have HR1:=am_ hr1);(have HC1:=am_ hc1);clear hr1 hc1;(have HB:=am_ (Below.refl w.heap.size w));(have H:=h);clear h;unfold ZA.f at H;(have H':=am_ H);clear H;(go_enter Tryz.func29,Tryz.ntmps29);go_wp2;(try simp only[Act.put,List.setIfInBounds_toArray,List.set_cons_zero,List.set_cons_succ])
 go_loopg [9] k (fun kq v9 w'=>∃(x9_1:Int),v9 = .int .i64 x9_1∧Aside0 (ZA.l0 kq l0 l1 l0 (l0.length:Int) x9_1=some r)∧Aside0 (kq≤k)∧Aside0 (Below w.heap.size w w'))
 case atStart=>exact⟨(0),(by first | rfl|(simp;done)|(simp[*];done)),H',⟨Nat.le_refl _⟩,⟨a0_⟩⟩
 case round=>
  clear H';(try clear c1);(try clear c2);(try clear p2);obtain⟨x9_1,rfl,HA,HK1,HB⟩:=hrel;cases gk with
  | zero=>exact absurd HA.out (by simp[ZA.l0])
  | succ k1=>
   (have H:=HA.out);clear HA;simp only[ZA.l0]at H;obtain⟨c3b0,H⟩|⟨c3b0,H⟩:=bd_ H
   ·(obtain⟨c4b0,H⟩:=gj_ H);(obtain⟨c5b0,H⟩:=gj_ H);obtain⟨t470,A6,H⟩:=bo_ H;replace H:=bt_ H;obtain⟨rfl,H⟩|⟨rfl,H⟩:=H
    ·(have H':=am_ H);clear H;(have p469:0≤(x9_1:Int):=of_decide_eq_true (a8_));(have q469:x9_1<(l0.length:Int):=of_decide_eq_true (a8_));obtain⟨ad469,A469_0,c469_0,e469,hx469_0,hl469_0,hi469_0⟩:=at_L3 HR0.out x9_1 p469 q469;cases e469;replace hx469_0:=ce_ HB hx469_0;(have HR469_0:=am_ hi469_0);(have HC469_0:=am_ hl469_0);clear hi469_0 hl469_0;replace p469:=eq_true p469;replace q469:=eq_true q469;(go_wp2_with (first|((with_reducible refine gl_ 14 Tryz.func42 #[.slice A469_0 (rd_L3 l0 x9_1).length c469_0] ?_);(with_reducible refine(Zg.calls k1 _ _ (rd_L3 l0 x9_1) true _ ?side1 ?side2 A6.out).mono ?_);(case side1=>exact(a13_ HR469_0.out));(case side2=>exact HC469_0.out);rintro e w8 ⟨rfl,hb⟩;refine⟨_,rfl,?_⟩;replace HB:=bs_ HB hb;clear hb)));(go_roundg k1)
     case measure=>have:=HK1.out;omega
     case rel=>exact⟨(wrap64 (x9_1+1)),(by first | rfl|(simp;done)|(simp[*];done)),H',⟨by have:=HK1.out;omega⟩,⟨a0_⟩⟩
    (focus obtain rfl:=Option.some.inj H;(have p469:0≤(x9_1:Int):=of_decide_eq_true (a8_));(have q469:x9_1<(l0.length:Int):=of_decide_eq_true (a8_));obtain⟨ad469,A469_0,c469_0,e469,hx469_0,hl469_0,hi469_0⟩:=at_L3 HR0.out x9_1 p469 q469;cases e469;replace hx469_0:=ce_ HB hx469_0;(have HR469_0:=am_ hi469_0);(have HC469_0:=am_ hl469_0);clear hi469_0 hl469_0;replace p469:=eq_true p469;replace q469:=eq_true q469;(go_wp2_with (first|((with_reducible refine gl_ 14 Tryz.func42 #[.slice A469_0 (rd_L3 l0 x9_1).length c469_0] ?_);(with_reducible refine(Zg.calls k1 _ _ (rd_L3 l0 x9_1) false _ ?side1 ?side2 A6.out).mono ?_);(case side1=>exact(a13_ HR469_0.out));(case side2=>exact HC469_0.out);rintro e w9 ⟨rfl,hb⟩;refine⟨_,rfl,?_⟩;replace HB:=bs_ HB hb;clear hb)));go_ret;exact⟨a9_,a0_⟩)
   (focus obtain⟨t471,A10,H⟩:=bo_ H;obtain rfl:=Option.some.inj H;(go_wp2_with (first|((with_reducible refine gl_ 20 Tryz.func59 #[.slice A1 l1.length c1, .int .i64 (l0.length:Int)] ?_);(with_reducible refine(Zs.calls k1 _ _ l1 (l0.length:Int) t471 _ ?side1 ?side2 A10.out).mono ?_);(case side1=>exact(a13_ HR1.out));(case side2=>exact HC1.out);rintro e w11 ⟨rfl,hb⟩;refine⟨_,rfl,?_⟩;replace HB:=bs_ HB hb;clear hb)));go_ret;exact⟨a9_,a0_⟩)
def ZS.f (a0:Int) (a1:Int):Option (Int):=if a0<a1 then(some a0) else(some a1)
theorem ZS.calls (a0:Int) (a1:Int) (r:Int) (w:World) (h:ZS.f a0 a1=some r) :
 Calls Tryz.prog 61 #[.int .i64 a0, .int .i64 a1] w fun e w'=>e = .returned (.int .i64 r)∧Drawn0 w w':=by
 (have H:=h);clear h;unfold ZS.f at H;obtain⟨c3b0,H⟩|⟨c3b0,H⟩:=bd_ H;(focus obtain rfl:=Option.some.inj H;(go_enter Tryz.func61,Tryz.ntmps61);go_wp2;go_ret;exact⟨by first | rfl|(simp;done)|(simp[*];done),a42_⟩);(focus obtain rfl:=Option.some.inj H;(go_enter Tryz.func61,Tryz.ntmps61);go_wp2;go_ret;exact⟨by first | rfl|(simp;done)|(simp[*];done),a42_⟩)
def ZJ.l0:Nat→Int→Int→List (S62)→List (S62)→Int→Int→Option ((List (S62)))
 | 0,_,_,_,_,_,_=>none
 | k+1,x1,x2,x7,x14,x15,x16=>if x16<x15 then(if 0≤x16 then(if x16<(x14.length:Int) then((ZQ.f ((rd_T62 x14 x16).f1) x1).bind fun t478=>((ZS.f ((rd_T62 x14 x16).f2) x2).bind fun t479=>(if t478<t479 then(if x7.length<5864062014805 then(ZJ.l0 k x1 x2 (x7 ++ [(⟨(rd_T62 x14 x16).f0,wrap64 (t478-x1),wrap64 (t479-x1)⟩:S62)]) x14 x15 (wrap64 (x16+1))) else(none)) else(ZJ.l0 k x1 x2 x7 x14 x15 (wrap64 (x16+1)))))) else(none)) else(none)) else((Zh.f k x7).bind fun bt472=>(some bt472.1))
def ZJ.f (k:Nat) (l0:List (S62)) (a1:Int) (a2:Int):Option ((List (S62))):=ZJ.l0 k a1 a2 ([]:List (S62)) l0 (l0.length:Int) 0
theorem ZJ.mono_l:∀k,(∀y0 y1 y2 y3 y4 y5,LeO (ZJ.l0 k y0 y1 y2 y3 y4 y5) (ZJ.l0 (k+1) y0 y1 y2 y3 y4 y5))
 | 0=>fun _ _ _ _ _ _ r h=>by simp[ZJ.l0]at h
 | k+1=>by
  have ih0:=ZJ.mono_l k
  have m0:=@Zh.mono;intros;unfold ZJ.l0;exact mo_
theorem ZJ.mono:∀a0 a1 a2 k,LeO (ZJ.f k a0 a1 a2) (ZJ.f (k+1) a0 a1 a2):=by
 intro a0 a1 a2 k;(have ih0:=ZJ.mono_l k);have m0:=@Zh.mono;unfold ZJ.f;exact mo_
theorem ZJ.calls (k:Nat) (A0:Option Addr) (c0:Nat) (l0:List (S62)) (a1:Int) (a2:Int) (r:List (S62)) (w:World) (hr0:Kd.C k62 w A0 l0.length l0) (hc0:l0.length≤c0) (h:ZJ.f k l0 a1 a2=some r) :
 Calls Tryz.prog 30 #[.slice A0 l0.length c0, .int .i64 a1, .int .i64 a2] w fun e w'=>∃v0_:Value,e = .returned (v0_)∧Kd.R k62 62 w' w.heap.size (fun _=>True) v0_ r∧Below w.heap.size w w':=by
 (have hu62:=Tryz.underlying62);(have HR0:=am_ hr0);clear hr0 hc0;(have HB:=am_ (Below.refl w.heap.size w));(have H:=h);clear h;unfold ZJ.f at H;(have H':=am_ H);clear H;(go_enter Tryz.func30,Tryz.ntmps30);go_wp2;(repeat (go_quiet (fail);try go_wp2));(try simp only[Act.put,List.setIfInBounds_toArray,List.set_cons_zero,List.set_cons_succ])
 go_loopg [7,16] k (fun kq v7 v16 w'=>∃(x7_1:List (S62)) (x16_1:Int),v16 = .int .i64 x16_1∧Aside0 (ZJ.l0 kq a1 a2 x7_1 l0 (l0.length:Int) x16_1=some r)∧Aside0 (kq≤k)∧Aside0 (Kd.R k62 62 w' w.heap.size (fun _=>True) v7 x7_1)∧Aside0 (Below w.heap.size w w'))
 case atStart=>exact⟨(([]:List (S62))),(0),(by first | rfl|(simp;done)|(simp[*];done)),H',⟨Nat.le_refl _⟩,⟨a29_⟩,⟨a0_⟩⟩
 case round=>
  clear H';(try clear p2);(try clear c3);obtain⟨x7_1,x16_1,rfl,HA,HK1,HO_7,HB⟩:=hrel;cases gk with
  | zero=>exact absurd HA.out (by simp[ZJ.l0])
  | succ k1=>
   (have H:=HA.out);clear HA;simp only[ZJ.l0]at H;obtain⟨c4b0,H⟩|⟨c4b0,H⟩:=bd_ H
   ·(obtain⟨c5b0,H⟩:=gj_ H);(obtain⟨c6b0,H⟩:=gj_ H);obtain⟨t478,A7,H⟩:=bo_ H;obtain⟨t479,A8,H⟩:=bo_ H;obtain⟨c9b0,H⟩|⟨c9b0,H⟩:=bd_ H
    ·(obtain⟨c10,H⟩:=gi_ H);(have LMc10:=am_ c10);clear c10;obtain⟨y480,Ny480⟩:=nm_ (x7_1 ++ [(⟨(rd_T62 l0 x16_1).f0,wrap64 (t478-a1),wrap64 (t479-a1)⟩:S62)]:List (S62));(rw[← Ny480.out]at H);(have H':=am_ H);clear H;obtain⟨ad476,e476,hx476_0,hx476_1,hx476_2,p476,q476⟩:=ra_ HB (at_T62 HR0.out x16_1);cases e476;(iterate 6 (go_wp2_with (first|((with_reducible refine be_ 9 #[.int .i64 0, .int .i64 0, .int .i64 0] 62 ?_);intro gb477 hg w11 BK477 hb;replace HO_7:=am_ (Kd.R_below (Kd.R_elderB ((a2_ HO_7.out)) gb477 (Nat.le_of_eq hg.symm)) hb);have GW477:=gw_ HB hg;have GE477:=GW477;replace HB:=bs_ HB hb;clear hb hg;obtain⟨hcz12_0,hcz12_1,hcz12_2,hfz12_0,hfz12_1,hfz12_2⟩:=bc3_ BK477)|(go_at_call 60;(with_reducible refine(ZQ.calls ((rd_T62 l0 x16_1).f1) a1 t478 _ A7.out).mono ?_);rintro e w' ⟨rfl,⟨nd,rfl⟩⟩;(try first|exact⟨rfl,_,World.drewN_drewN _ _ _⟩|exact⟨rfl,_,Eq.trans (World.drewN_drewN _ _ _) (congrArg (World.drewN _) (Nat.add_assoc _ _ _))⟩))|(go_at_call 61;(with_reducible refine(ZS.calls ((rd_T62 l0 x16_1).f2) a2 t479 _ A8.out).mono ?_);rintro e w' ⟨rfl,⟨nd,rfl⟩⟩;(try first|exact⟨rfl,_,World.drewN_drewN _ _ _⟩|exact⟨rfl,_,Eq.trans (World.drewN_drewN _ _ _) (congrArg (World.drewN _) (Nat.add_assoc _ _ _))⟩))|((with_reducible refine gate_builtin (b:= .append) (xs:= #[.tmp 31, .tmp 41]) rfl ?_);at_builtin;refine Kd.R_append k62 (w0:=w) w.heap.size rfl (.tmp 31) (.tmp 41) 28 62 _ _ rfl Tryz.underlying28 info62 rfl (by decide) (by omega) u7 x7_1 (⟨(rd_T62 l0 x16_1).f0,wrap64 (t478-a1),wrap64 (t479-a1)⟩:S62) [.int .i64 ((rd_T62 l0 x16_1).f0), .int .i64 (wrap64 (t478-a1)), .int .i64 (wrap64 (t479-a1))] (fun k_=>k_≠gb477) (fun _=>False) rfl (by first|(go_simp;done)|(go_simp;rfl)) ?aP (fun _ hk=>hk.elim) ?aF ?aO ?aB ?aS ?aL ?_;(case aP=>exact k62_mkM _ _ _ (⟨(rd_T62 l0 x16_1).f0,wrap64 (t478-a1),wrap64 (t479-a1)⟩:S62));(case aB=>exact((a1_ GE477.out)));(case aF=>exact(fun k_ hk=>fb_ BK477 k_ hk));(case aO=>exact(by(with_reducible repeat (first|apply Kd.R_alloc|apply Kd.R_drewN|apply Kd.R_drew));exact Kd.R_mono (Kd.R_far (p:=⟨gb477,2,none⟩) (Kd.R_far (p:=⟨gb477,1,none⟩) (Kd.R_far (p:=⟨gb477,0,none⟩) (Kd.R_mono HO_7.out (fun k_ hk=>(⟨hk,hk.2⟩:_∧k_≠gb477))) (fun _ hk=>hk.2) (.int .i64 ((rd_T62 l0 x16_1).f0))) (fun _ hk=>hk.2) (.int .i64 ((rd_T62 l0 x16_1).f1))) (fun _ hk=>hk.2) (.int .i64 ((rd_T62 l0 x16_1).f2))) (fun _ hk=>hk.1.2)));(case aS=>exact(below_size ((a1_ GE477.out))));(case aL=>have:=LMc10.out;omega);intro v481 w13 ho hb hg hat;rw[← Ny480.out]at ho;have n0_:=bw_ BK477 hg (Kd.R_away HO_7.out (fun _ hk=>hk.2));have n1_:=am_ (hb);have n2_:=am_ (ho);clear BK477 HB HO_7;have BK477:=n0_;have HB:=n1_;have HO482:=n2_;clear n0_ n1_ n2_ ho hb hg hat));try go_quiet (first|(go_at_call 60;(with_reducible refine(ZQ.calls ((rd_T62 l0 x16_1).f1) a1 t478 _ A7.out).mono ?_);rintro e w' ⟨rfl,⟨nd,rfl⟩⟩;(try first|exact⟨rfl,_,World.drewN_drewN _ _ _⟩|exact⟨rfl,_,Eq.trans (World.drewN_drewN _ _ _) (congrArg (World.drewN _) (Nat.add_assoc _ _ _))⟩))|(go_at_call 61;(with_reducible refine(ZS.calls ((rd_T62 l0 x16_1).f2) a2 t479 _ A8.out).mono ?_);rintro e w' ⟨rfl,⟨nd,rfl⟩⟩;(try first|exact⟨rfl,_,World.drewN_drewN _ _ _⟩|exact⟨rfl,_,Eq.trans (World.drewN_drewN _ _ _) (congrArg (World.drewN _) (Nat.add_assoc _ _ _))⟩)))));(go_roundg k1)
     case measure=>have:=HK1.out;omega
     case rel=>exact⟨(y480),(wrap64 (x16_1+1)),(by first | rfl|(simp;done)|(simp[*];done)),H',⟨by have:=HK1.out;omega⟩,⟨(a28_ HO482.out)⟩,⟨(a1_ GE477.out)⟩⟩
    ·(have H':=am_ H);clear H;obtain⟨ad476,e476,hx476_0,hx476_1,hx476_2,p476,q476⟩:=ra_ HB (at_T62 HR0.out x16_1);cases e476;(iterate 6 (go_wp2_with (first|((with_reducible refine be_ 9 #[.int .i64 0, .int .i64 0, .int .i64 0] 62 ?_);intro gb477 hg w14 BK477 hb;replace HO_7:=am_ (Kd.R_below (Kd.R_elderB ((a2_ HO_7.out)) gb477 (Nat.le_of_eq hg.symm)) hb);have GW477:=gw_ HB hg;have GE477:=GW477;replace HB:=bs_ HB hb;clear hb hg;obtain⟨hcz15_0,hcz15_1,hcz15_2,hfz15_0,hfz15_1,hfz15_2⟩:=bc3_ BK477)|(go_at_call 60;(with_reducible refine(ZQ.calls ((rd_T62 l0 x16_1).f1) a1 t478 _ A7.out).mono ?_);rintro e w' ⟨rfl,⟨nd,rfl⟩⟩;(try first|exact⟨rfl,_,World.drewN_drewN _ _ _⟩|exact⟨rfl,_,Eq.trans (World.drewN_drewN _ _ _) (congrArg (World.drewN _) (Nat.add_assoc _ _ _))⟩))|(go_at_call 61;(with_reducible refine(ZS.calls ((rd_T62 l0 x16_1).f2) a2 t479 _ A8.out).mono ?_);rintro e w' ⟨rfl,⟨nd,rfl⟩⟩;(try first|exact⟨rfl,_,World.drewN_drewN _ _ _⟩|exact⟨rfl,_,Eq.trans (World.drewN_drewN _ _ _) (congrArg (World.drewN _) (Nat.add_assoc _ _ _))⟩)));try go_quiet (first|(go_at_call 60;(with_reducible refine(ZQ.calls ((rd_T62 l0 x16_1).f1) a1 t478 _ A7.out).mono ?_);rintro e w' ⟨rfl,⟨nd,rfl⟩⟩;(try first|exact⟨rfl,_,World.drewN_drewN _ _ _⟩|exact⟨rfl,_,Eq.trans (World.drewN_drewN _ _ _) (congrArg (World.drewN _) (Nat.add_assoc _ _ _))⟩))|(go_at_call 61;(with_reducible refine(ZS.calls ((rd_T62 l0 x16_1).f2) a2 t479 _ A8.out).mono ?_);rintro e w' ⟨rfl,⟨nd,rfl⟩⟩;(try first|exact⟨rfl,_,World.drewN_drewN _ _ _⟩|exact⟨rfl,_,Eq.trans (World.drewN_drewN _ _ _) (congrArg (World.drewN _) (Nat.add_assoc _ _ _))⟩)))));(go_roundg k1)
     case measure=>have:=HK1.out;omega
     case rel=>exact⟨(x7_1),(wrap64 (x16_1+1)),(by first | rfl|(simp;done)|(simp[*];done)),H',⟨by have:=HK1.out;omega⟩,⟨by(with_reducible repeat (first|apply Kd.R_alloc|apply Kd.R_drewN|apply Kd.R_drew));exact Kd.R_mono (Kd.R_far (p:=⟨gb477,2,none⟩) (Kd.R_far (p:=⟨gb477,1,none⟩) (Kd.R_far (p:=⟨gb477,0,none⟩) (Kd.R_mono HO_7.out (fun k_ hk=>(⟨hk,hk.2⟩:_∧k_≠gb477))) (fun _ hk=>hk.2) (.int .i64 ((rd_T62 l0 x16_1).f0))) (fun _ hk=>hk.2) (.int .i64 ((rd_T62 l0 x16_1).f1))) (fun _ hk=>hk.2) (.int .i64 ((rd_T62 l0 x16_1).f2))) (fun _ hk=>trivial)⟩,⟨(a1_ GE477.out)⟩⟩
   (focus obtain⟨⟨t472,t473⟩,A16,H⟩:=bo_ H;(try dsimp only at H);obtain rfl:=Option.some.inj H;obtain⟨Ao17,co17,eo17⟩:=Kd.R_slice HO_7.out;subst eo17;(iterate 6 (go_wp2_with (first|(go_at_call 32;(with_reducible refine(Zh.calls k1 _ _ x7_1 t472 t473 _ ?side1 ?side2 A16.out).mono ?_);(case side1=>exact(a10_ HO_7.out));(case side2=>exact(Kd.R_reads' HO_7.out).2.1);rintro e w18 ⟨v474,rfl,ho0,hb⟩;have HO475:=am_ (Kd.R_lower (Kd.R_new' ho0 (Kd.R_lt ((a2_ HO_7.out)))) (below_size (a0_)));replace HO_7:=am_ (Kd.R_elder' ((a2_ HO_7.out)) (Kd.R_base ho0) hb);replace HB:=bs_ HB hb;clear hb;(try clear ho0)));try go_quiet (fail)));go_ret;exact⟨_,a9_,(a28_ HO475.out),a0_⟩)
-- NOT PRINTED: function 31 (Yf)
end Go.Proofs.YtcnegcdmmackeaaGreat.QFnEditions
