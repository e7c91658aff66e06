/- What each Go function computes, and that its call computes it; each theorem names its conditions. -/
import Derived.Test.YtcnegcdmmackeaaGreatQFnEditionsx0
import Derived.Test.YtcnegcdmmackeaaGreatQFnEditionsx3
import Derived.Test.YtcnegcdmmackeaaGreatQFnEditionsx11
import Derived.Test.YtcnegcdmmackeaaGreatQFnEditionsx14
import Derived.Test.YtcnegcdmmackeaaGreatQFnEditionsx15
import Derived.Test.YtcnegcdmmackeaaGreatQFnEditionsx17
import Derived.Test.YtcnegcdmmackeaaGreatSrFnEditions
namespace Go.Proofs.YtcnegcdmmackeaaGreat.QFnEditions
open Go.RowKit Go.Proofs.YtcnegcdmmackeaaGreatW.PrintWords Go.Proofs.YtcnegcdmmackeaaGreatW.PrintLast Go.Proofs.YtcnegcdmmackeaaGreatW.PrintMore
attribute [local go_sem] max2_int min2_int max_two min_two max_three min_three max_four min_four
set_option linter.unusedVariables false
set_option maxHeartbeats 8000000
set_option maxRecDepth 100000
set_option linter.unusedSimpArgs false
mutual
def Zq.j0:Nat→List (S46)→Int→Bool→Option (Int×Int×Bool)
 | 0,_,_,_=>none
 | k+1,x0,x1,x15=>if x15=true then(some (0,0,false)) else(Zq.l0 k x1 x0 (x0.length:Int) 0)
def Zq.l0:Nat→Int→List (S46)→Int→Int→Option (Int×Int×Bool)
 | 0,_,_,_,_=>none
 | k+1,x1,x16,x17,x18=>if x18<x17 then(if 0≤x18 then(if x18<(x16.length:Int) then(if x1<(wrap64 (((rd_T46 x16 x18).f2)-((rd_T46 x16 x18).f1))) then(some ((rd_T46 x16 x18).f0,wrap64 (((rd_T46 x16 x18).f1)+x1),true)) else(Zq.l0 k (wrap64 (x1-(wrap64 (((rd_T46 x16 x18).f2)-((rd_T46 x16 x18).f1))))) x16 x17 (wrap64 (x18+1)))) else(none)) else(none)) else(some (0,0,false))
end
def Zq.f (k:Nat) (l0:List (S46)) (a1:Int):Option (Int×Int×Bool):=(Zt.f k l0).bind fun t545=>(if t545=true then(Zq.j0 k l0 a1 (decide (a1<0))) else(Zq.j0 k l0 a1 true))
theorem Zq.mono_l:∀k,(∀y0 y1 y2,LeO (Zq.j0 k y0 y1 y2) (Zq.j0 (k+1) y0 y1 y2))∧(∀y0 y1 y2 y3,LeO (Zq.l0 k y0 y1 y2 y3) (Zq.l0 (k+1) y0 y1 y2 y3))
 | 0=>⟨fun _ _ _ r h=>by simp[Zq.j0]at h,fun _ _ _ _ r h=>by simp[Zq.l0]at h⟩
 | k+1=>by
  obtain⟨ih0,ih1⟩:=Zq.mono_l k
  have m0:=@Zt.mono;exact⟨by intros;unfold Zq.j0;exact mo_,by intros;unfold Zq.l0;exact mo_⟩
theorem Zq.mono:∀a0 a1 k,LeO (Zq.f k a0 a1) (Zq.f (k+1) a0 a1):=by
 intro a0 a1 k;obtain⟨ih0,ih1⟩:=Zq.mono_l k;have m0:=@Zt.mono;unfold Zq.f;exact mo_
theorem Zq.calls (k:Nat) (A0:Option Addr) (c0:Nat) (l0:List (S46)) (a1:Int) (r1:Int) (r2:Int) (r3:Bool) (w:World) (hr0:Kd.C k46 w A0 l0.length l0) (hc0:l0.length≤c0) (h:Zq.f k l0 a1=some (r1,r2,r3)) :
 Calls Tryz.prog 17 #[.slice A0 l0.length c0, .int .i64 a1] w fun e w'=>e = .returned (.tuple #[.int .i64 r1, .int .i64 r2, .bool r3])∧Below w.heap.size w w':=by
 (have hu46:=Tryz.underlying46);(have HR0:=am_ hr0);(have HC0:=am_ hc0);clear hr0 hc0;(have HB:=am_ (Below.refl w.heap.size w));(have H:=h);clear h;unfold Zq.f at H;(have HC3:=am_ H);clear H;(go_enter Tryz.func17,Tryz.ntmps17);(go_upto_region 1 with (fail));(repeat (go_quiet (fail);go_upto_region 1 with (fail)));(go_cut [15] (fun v15 wc=>∃(kq:Nat) (x15_2:Bool),v15 = .bool x15_2∧Aside0 (Zq.j0 kq l0 a1 x15_2=some (r1,r2,r3))∧Aside0 (kq≤k)∧Aside0 (Below w.heap.size w wc)))
 case first=>
  (have H:=HC3.out);clear HC3;obtain⟨t545,A4,H⟩:=bo_ H;replace H:=bt_ H;obtain⟨rfl,H⟩|⟨rfl,H⟩:=H
  ·(have H':=am_ H);clear H;(iterate 6 (go_wp2_with (first|(go_at_call 34;(with_reducible refine(Zt.calls k _ _ l0 true _ ?side1 ?side2 A4.out).mono ?_);(case side1=>exact(a13_ HR0.out));(case side2=>exact HC0.out);rintro e w6 ⟨rfl,hb⟩;replace HB:=bs_ HB hb;clear hb));try go_quiet (fail)));go_meet
   case rel=>exact⟨_,(decide (a1<0)),(by first | rfl|(simp;done)|(simp[*];done)),H',⟨by first | omega|exact Nat.le_refl _⟩,⟨a0_⟩⟩
  ·(have H':=am_ H);clear H;(iterate 6 (go_wp2_with (first|(go_at_call 34;(with_reducible refine(Zt.calls k _ _ l0 false _ ?side1 ?side2 A4.out).mono ?_);(case side1=>exact(a13_ HR0.out));(case side2=>exact HC0.out);rintro e w7 ⟨rfl,hb⟩;replace HB:=bs_ HB hb;clear hb));try go_quiet (fail)));go_meet
   case rel=>exact⟨_,(true),(by first | rfl|(simp;done)|(simp[*];done)),H',⟨by first | omega|exact Nat.le_refl _⟩,⟨a0_⟩⟩
 case rest=>
  clear HC3;(try clear c1);(try clear p2);(try clear c5);obtain⟨kq,x15_2,rfl,HA,HJ2,HB⟩:=hcut;cases kq with
  | zero=>exact absurd HA.out (by simp[Zq.j0])
  | succ kj2=>
   (have H:=HA.out);clear HA;simp only[Zq.j0]at H;replace H:=bt_ H;obtain⟨rfl,H⟩|⟨rfl,H⟩:=H;(focus simp only[Option.some.injEq,Prod.mk.injEq]at H;obtain⟨rfl,rfl,rfl⟩:=H;go_wp2;(repeat (go_quiet (fail);try go_wp2));(go_ret3);exact⟨a9_,a0_⟩)
   ·(have H':=am_ H);clear H;go_wp2;(repeat (go_quiet (fail);try go_wp2));(try simp only[Act.put,List.setIfInBounds_toArray,List.set_cons_zero,List.set_cons_succ])
    go_loopg [1,18] kj2 (fun kq v1 v18 w'=>∃(x1_2:Int) (x18_2:Int),v1 = .int .i64 x1_2∧v18 = .int .i64 x18_2∧Aside0 (Zq.l0 kq x1_2 l0 (l0.length:Int) x18_2=some (r1,r2,r3))∧Aside0 (kq≤kj2)∧Aside0 (Below w.heap.size w w'))
    case atStart=>exact⟨(a1),(0),(by first | rfl|(simp;done)|(simp[*];done)),(by first | rfl|(simp;done)|(simp[*];done)),H',⟨Nat.le_refl _⟩,⟨a0_⟩⟩
    case round=>
     clear H';(try clear c1);(try clear p2);(try clear c5);(try clear c8);(try clear p2);obtain⟨x1_2,x18_2,rfl,rfl,HA,HK2,HB⟩:=hrel;cases gk with
     | zero=>exact absurd HA.out (by simp[Zq.l0])
     | succ k2=>
      (have H:=HA.out);clear HA;simp only[Zq.l0]at H;obtain⟨c9b0,H⟩|⟨c9b0,H⟩:=bd_ H
      ·(obtain⟨c10b0,H⟩:=gj_ H);(obtain⟨c11b0,H⟩:=gj_ H);obtain⟨c12b0,H⟩|⟨c12b0,H⟩:=bd_ H;(focus simp only[Option.some.injEq,Prod.mk.injEq]at H;obtain⟨rfl,rfl,rfl⟩:=H;obtain⟨ad546,e546,hx546_0,hx546_1,hx546_2,p546,q546⟩:=ra_ HB (at_T46 HR0.out x18_2);cases e546;(iterate 6 (go_wp2_with (first|((with_reducible refine be_ 8 #[.int .i64 0, .int .i64 0, .int .i64 0] 46 ?_);intro gb547 hg w13 BK547 hb;have GW547:=gw_ HB hg;have GE547:=GW547;replace HB:=bs_ HB hb;clear hb hg;obtain⟨_,_,_,_,_,_⟩:=bc3_ BK547));try go_quiet (fail)));(go_ret3);exact⟨a9_,(a1_ GE547.out)⟩)
       ·(have H':=am_ H);clear H;obtain⟨ad546,e546,hx546_0,hx546_1,hx546_2,p546,q546⟩:=ra_ HB (at_T46 HR0.out x18_2);cases e546;(iterate 6 (go_wp2_with (first|((with_reducible refine be_ 8 #[.int .i64 0, .int .i64 0, .int .i64 0] 46 ?_);intro gb547 hg w15 BK547 hb;have GW547:=gw_ HB hg;have GE547:=GW547;replace HB:=bs_ HB hb;clear hb hg;obtain⟨_,_,_,_,_,_⟩:=bc3_ BK547));try go_quiet (fail)));(go_roundg k2)
        case measure=>have:=HJ2.out;have:=HK2.out;omega
        case rel=>exact⟨(wrap64 (x1_2-(wrap64 (((rd_T46 l0 x18_2).f2)-((rd_T46 l0 x18_2).f1))))),(wrap64 (x18_2+1)),(by first | rfl|(simp;done)|(simp[*];done)),(by first | rfl|(simp;done)|(simp[*];done)),H',⟨by have:=HJ2.out;have:=HK2.out;omega⟩,⟨(a1_ GE547.out)⟩⟩
      (focus simp only[Option.some.injEq,Prod.mk.injEq]at H;obtain⟨rfl,rfl,rfl⟩:=H;go_wp2;(repeat (go_quiet (fail);try go_wp2));(go_ret3);exact⟨a9_,a0_⟩)
def ZW.f (k:Nat) (l0:List (S46)) (a1:Int):Option (Bool):=(Zl.f k l0).bind fun t548=>(if t548=true then((Zp.f k l0).bind fun t549=>((ZB.f a1 0 (wrap64 (t549-1))).bind fun t550=>(some t550))) else(some false))
theorem ZW.mono:∀a0 a1 k,LeO (ZW.f k a0 a1) (ZW.f (k+1) a0 a1):=by
 intro a0 a1 k;have m0:=@Zl.mono;have m1:=@Zp.mono;unfold ZW.f;exact mo_
theorem ZW.calls (k:Nat) (A0:Option Addr) (c0:Nat) (l0:List (S46)) (a1:Int) (r:Bool) (w:World) (hr0:Kd.C k46 w A0 l0.length l0) (hc0:l0.length≤c0) (h:ZW.f k l0 a1=some r) :
 Calls Tryz.prog 38 #[.slice A0 l0.length c0, .int .i64 a1] w fun e w'=>e = .returned (.bool r)∧Below w.heap.size w w':=by
 (have HR0:=am_ hr0);(have HC0:=am_ hc0);clear hr0 hc0;(have HB:=am_ (Below.refl w.heap.size w));(have H:=h);clear h;unfold ZW.f at H;obtain⟨t548,A3,H⟩:=bo_ H;replace H:=bt_ H;obtain⟨rfl,H⟩|⟨rfl,H⟩:=H;(focus obtain⟨t549,A5,H⟩:=bo_ H;obtain⟨t550,A6,H⟩:=bo_ H;obtain rfl:=Option.some.inj H;(go_enter Tryz.func38,Tryz.ntmps38);(go_wp2_with (first|((with_reducible refine gl_ 6 Tryz.func36 #[.slice A0 l0.length c0] ?_);(with_reducible refine(Zl.calls k _ _ l0 true _ ?side1 ?side2 A3.out).mono ?_);(case side1=>exact(a25_ HR0.out));(case side2=>exact HC0.out);rintro e w7 ⟨rfl,hb⟩;refine⟨_,rfl,?_⟩;replace HB:=bs_ HB hb;clear hb)|(go_at_call 37;(with_reducible refine(Zp.calls k _ _ l0 t549 _ ?side1 ?side2 A5.out).mono ?_);(case side1=>exact(a13_ HR0.out));(case side2=>exact HC0.out);rintro e w8 ⟨rfl,hb⟩;replace HB:=bs_ HB hb;clear hb)|(go_at_call 51;(with_reducible refine(ZB.calls a1 0 (wrap64 (t549-1)) t550 _ A6.out).mono ?_);rintro e w' ⟨rfl,⟨nd,rfl⟩⟩)));go_ret;exact⟨a9_,a0_⟩);(focus obtain rfl:=Option.some.inj H;(go_enter Tryz.func38,Tryz.ntmps38);(go_wp2_with (first|((with_reducible refine gl_ 6 Tryz.func36 #[.slice A0 l0.length c0] ?_);(with_reducible refine(Zl.calls k _ _ l0 false _ ?side1 ?side2 A3.out).mono ?_);(case side1=>exact(a25_ HR0.out));(case side2=>exact HC0.out);rintro e w9 ⟨rfl,hb⟩;refine⟨_,rfl,?_⟩;replace HB:=bs_ HB hb;clear hb)));go_ret;exact⟨a9_,a0_⟩)
def ZM.l0:Nat→List (S46)→Int→Int→Option (Int×Int)
 | 0,_,_,_=>none
 | k+1,x0,x1,x6=>if 0≤x6 then(if x6<(x0.length:Int) then(if x1≥(wrap64 (((rd_T46 x0 x6).f2)-((rd_T46 x0 x6).f1))) then(ZM.l0 k x0 (wrap64 (x1-(wrap64 (((rd_T46 x0 x6).f2)-((rd_T46 x0 x6).f1))))) (wrap64 (x6+1))) else(some (x6,wrap64 (((rd_T46 x0 x6).f1)+x1)))) else(none)) else(none)
def ZM.f (k:Nat) (l0:List (S46)) (a1:Int):Option (Int×Int):=ZM.l0 k l0 a1 0
theorem ZM.mono_l:∀k,(∀y0 y1 y2,LeO (ZM.l0 k y0 y1 y2) (ZM.l0 (k+1) y0 y1 y2))
 | 0=>fun _ _ _ r h=>by simp[ZM.l0]at h
 | k+1=>by
  have ih0:=ZM.mono_l k
  intros;unfold ZM.l0;exact mo_
theorem ZM.mono:∀a0 a1 k,LeO (ZM.f k a0 a1) (ZM.f (k+1) a0 a1):=by
 intro a0 a1 k;(have ih0:=ZM.mono_l k);unfold ZM.f;exact mo_
theorem ZM.calls (k:Nat) (A0:Option Addr) (c0:Nat) (l0:List (S46)) (a1:Int) (r1:Int) (r2:Int) (w:World) (hr0:Kd.C k46 w A0 l0.length l0) (hc0:l0.length≤c0) (h:ZM.f k l0 a1=some (r1,r2)) :
 Calls Tryz.prog 39 #[.slice A0 l0.length c0, .int .i64 a1] w fun e w'=>e = .returned (.tuple #[.int .i64 r1, .int .i64 r2])∧Drawn0 w w':=by
 (have HR0:=am_ hr0);clear hr0 hc0;(have H:=h);clear h;unfold ZM.f at H;(have H':=am_ H);clear H;(go_enter Tryz.func39,Tryz.ntmps39);go_wp2;(repeat (go_quiet (fail);try go_wp2));(try simp only[Act.put,List.setIfInBounds_toArray,List.set_cons_zero,List.set_cons_succ])
 go_loopg [1,6] k (fun kq v1 v6 w'=>∃(x1_1:Int) (x6_1:Int),v1 = .int .i64 x1_1∧v6 = .int .i64 x6_1∧Aside0 (ZM.l0 kq l0 x1_1 x6_1=some (r1,r2))∧Aside0 (kq≤k)∧Drawn0 w w')
 case atStart=>exact⟨(a1),(0),(by first | rfl|(simp;done)|(simp[*];done)),(by first | rfl|(simp;done)|(simp[*];done)),H',⟨Nat.le_refl _⟩,a42_⟩
 case round=>
  clear H';(try clear p2);obtain⟨x1_1,x6_1,rfl,rfl,HA,HK1,⟨m1,rfl⟩⟩:=hrel;cases gk with
  | zero=>exact absurd HA.out (by simp[ZM.l0])
  | succ k1=>
   (have H:=HA.out);clear HA;simp only[ZM.l0]at H;(obtain⟨c3b0,H⟩:=gj_ H);(obtain⟨c4b0,H⟩:=gj_ H);by_cases c5:x1_1≥(wrap64 (((rd_T46 l0 x6_1).f2)-((rd_T46 l0 x6_1).f1)))
   ·rw[if_pos c5]at H;(have c5b0:decide ((wrap64 (((rd_T46 l0 x6_1).f2)-((rd_T46 l0 x6_1).f1)))≤x1_1)=true:=decide_eq_true c5);clear c5;(have H':=am_ H);clear H;obtain⟨ad551,e551,hx551_0,hx551_1,hx551_2,p551,q551⟩:=rb_ (at_T46 HR0.out x6_1);cases e551;obtain⟨ad552,e552,hx552_0,hx552_1,hx552_2,p552,q552⟩:=rb_ (at_T46 HR0.out x6_1);obtain rfl:ad551=ad552:=(by injection e552);obtain⟨ad553,e553,hx553_0,hx553_1,hx553_2,p553,q553⟩:=rb_ (at_T46 HR0.out x6_1);obtain rfl:ad551=ad553:=(by injection e553);obtain⟨ad554,e554,hx554_0,hx554_1,hx554_2,p554,q554⟩:=rb_ (at_T46 HR0.out x6_1);obtain rfl:ad551=ad554:=(by injection e554);go_wp2;(repeat (go_quiet (fail);try go_wp2));(go_roundg k1)
    case measure=>have:=HK1.out;omega
    case rel=>exact⟨(wrap64 (x1_1-(wrap64 (((rd_T46 l0 x6_1).f2)-((rd_T46 l0 x6_1).f1))))),(wrap64 (x6_1+1)),(by first | rfl|(simp;done)|(simp[*];done)),(by first | rfl|(simp;done)|(simp[*];done)),H',⟨by have:=HK1.out;omega⟩,a42_⟩
   (focus rw[if_neg c5]at H;(have c5b0:decide ((wrap64 (((rd_T46 l0 x6_1).f2)-((rd_T46 l0 x6_1).f1)))≤x1_1)=false:=decide_eq_false c5);clear c5;simp only[Option.some.injEq,Prod.mk.injEq]at H;obtain⟨rfl,rfl⟩:=H;obtain⟨ad551,e551,hx551_0,hx551_1,hx551_2,p551,q551⟩:=rb_ (at_T46 HR0.out x6_1);cases e551;obtain⟨ad552,e552,hx552_0,hx552_1,hx552_2,p552,q552⟩:=rb_ (at_T46 HR0.out x6_1);obtain rfl:ad551=ad552:=(by injection e552);obtain⟨ad555,e555,hx555_0,hx555_1,hx555_2,p555,q555⟩:=rb_ (at_T46 HR0.out x6_1);obtain rfl:ad551=ad555:=(by injection e555);go_wp2;(repeat (go_quiet (fail);try go_wp2));go_ret2;exact⟨by first | rfl|(simp;done)|(simp[*];done),a42_⟩)
def ZX.f (k:Nat) (l0:List (S46)) (a1:Int):Option (Int×Int×Bool):=(ZW.f k l0 a1).bind fun t556=>(if t556=true then((ZM.f k l0 a1).bind fun bt557=>(if 0≤bt557.1 then(if bt557.1<(l0.length:Int) then(some ((rd_T46 l0 bt557.1).f0,bt557.2,true)) else(none)) else(none))) else(some (0,0,false)))
theorem ZX.mono:∀a0 a1 k,LeO (ZX.f k a0 a1) (ZX.f (k+1) a0 a1):=by
 intro a0 a1 k;have m0:=@ZW.mono;have m1:=@ZM.mono;unfold ZX.f;exact mo_
theorem ZX.calls (k:Nat) (A0:Option Addr) (c0:Nat) (l0:List (S46)) (a1:Int) (r1:Int) (r2:Int) (r3:Bool) (w:World) (hr0:Kd.C k46 w A0 l0.length l0) (hc0:l0.length≤c0) (h:ZX.f k l0 a1=some (r1,r2,r3)) :
 Calls Tryz.prog 18 #[.slice A0 l0.length c0, .int .i64 a1] w fun e w'=>e = .returned (.tuple #[.int .i64 r1, .int .i64 r2, .bool r3])∧Below w.heap.size w w':=by
 (have HR0:=am_ hr0);(have HC0:=am_ hc0);clear hr0 hc0;(have HB:=am_ (Below.refl w.heap.size w));(have H:=h);clear h;unfold ZX.f at H;obtain⟨t556,A3,H⟩:=bo_ H;replace H:=bt_ H;obtain⟨rfl,H⟩|⟨rfl,H⟩:=H;(focus obtain⟨⟨t557,t558⟩,A5,H⟩:=bo_ H;(try dsimp only at H);(obtain⟨c6b0,H⟩:=gj_ H);(obtain⟨c7b0,H⟩:=gj_ H);simp only[Option.some.injEq,Prod.mk.injEq]at H;obtain⟨rfl,rfl,rfl⟩:=H;(go_enter Tryz.func18,Tryz.ntmps18);(go_wp2_with (first|((with_reducible refine gl_ 11 Tryz.func38 #[.slice A0 l0.length c0, .int .i64 a1] ?_);(with_reducible refine(ZW.calls k _ _ l0 a1 true _ ?side1 ?side2 A3.out).mono ?_);(case side1=>exact(a25_ HR0.out));(case side2=>exact HC0.out);rintro e w8 ⟨rfl,hb⟩;refine⟨_,rfl,?_⟩;replace HB:=bs_ HB hb;clear hb)|((with_reducible refine gl_ 16 Tryz.func39 #[.slice A0 l0.length c0, .int .i64 a1] ?_);(with_reducible refine(ZM.calls k _ _ l0 a1 t557 t558 _ ?side1 ?side2 A5.out).mono ?_);(case side1=>exact(a13_ HR0.out));(case side2=>exact HC0.out);rintro e w' ⟨rfl,⟨nd,rfl⟩⟩;refine⟨_,rfl,?_⟩;obtain⟨ad559,e559,hx559_0,hx559_1,hx559_2,p559,q559⟩:=ra_ HB (at_T46 HR0.out t557);cases e559)));(go_ret3);exact⟨a9_,a0_⟩);(focus simp only[Option.some.injEq,Prod.mk.injEq]at H;obtain⟨rfl,rfl,rfl⟩:=H;(go_enter Tryz.func18,Tryz.ntmps18);(go_wp2_with (first|((with_reducible refine gl_ 11 Tryz.func38 #[.slice A0 l0.length c0, .int .i64 a1] ?_);(with_reducible refine(ZW.calls k _ _ l0 a1 false _ ?side1 ?side2 A3.out).mono ?_);(case side1=>exact(a25_ HR0.out));(case side2=>exact HC0.out);rintro e w9 ⟨rfl,hb⟩;refine⟨_,rfl,?_⟩;replace HB:=bs_ HB hb;clear hb)));(go_ret3);exact⟨a9_,a0_⟩)
-- NOT PRINTED: function 109 (cmp_isNaN_int)
-- NOT PRINTED: function 88 (cmp_Less_int)
-- NOT PRINTED: function 82 (slices_insertionSortOrdered_int)
-- NOT PRINTED: function 104 (slices_siftDownOrdered_int)
-- NOT PRINTED: function 83 (slices_heapSortOrdered_int)
-- NOT PRINTED: function 91 (bits_Len32)
-- NOT PRINTED: function 92 (bits_Len64)
-- NOT PRINTED: function 77 (bits_Len)
-- NOT PRINTED: function 105 (slices_nextPowerOfTwo)
-- NOT PRINTED: function 106 (slices_xorshift_Next)
-- NOT PRINTED: function 84 (slices_breakPatternsOrdered_int)
-- NOT PRINTED: function 111 (slices_order2Ordered_int)
-- NOT PRINTED: function 108 (slices_medianOrdered_int)
-- NOT PRINTED: function 107 (slices_medianAdjacentOrdered_int)
-- NOT PRINTED: function 85 (slices_choosePivotOrdered_int)
-- NOT PRINTED: function 86 (slices_reverseRangeOrdered_int)
-- NOT PRINTED: function 87 (slices_partialInsertionSortOrdered_int)
-- NOT PRINTED: function 89 (slices_partitionEqualOrdered_int)
-- NOT PRINTED: function 90 (slices_partitionOrdered_int)
-- NOT PRINTED: function 76 (slices_pdqsortOrdered_int)
-- NOT PRINTED: function 65 (slices_Sort_int_int)
-- NOT PRINTED: function 41 (sort_Ints)
theorem Zj.reps {W:World} {base:Nat} {okp:Nat→Prop} {xs:List Int} {inner:List Value} (h:Reps ((Kd.int .i64).M W base okp) 1 xs inner):inner=xs.map (Value.int .i64):=by
 obtain⟨hl,hr⟩:=h;refine List.ext_getElem? (fun j=>?_);(rcases Nat.lt_or_ge j xs.length with hj | hj);(focus (have h1:(inner.drop (j*1)).take 1 = [Value.int .i64 xs[j]]:=hr j _ (List.getElem?_eq_getElem hj));(have h2:=congrArg (fun q=>q[0]?) h1);simp only[Nat.mul_one,List.getElem?_take,List.getElem?_drop,Nat.add_zero,List.getElem?_cons_zero]at h2;rw[List.getElem?_map,List.getElem?_eq_getElem hj];(simpa using h2));(focus rw[List.getElem?_eq_none (by omega),List.getElem?_eq_none (by simpa using hj)])
theorem Zj.mk (W:World) (base:Nat) (okp:Nat→Prop) (xs:List Int):Reps ((Kd.int .i64).M W base okp) 1 xs (xs.map (Value.int .i64)):=by
 refine⟨by simp,fun j p hp=>?_⟩;show((xs.map (Value.int .i64)).drop (j*1)).take 1 = [Value.int .i64 p]
 have hj:j<xs.length:=by
  rcases Nat.lt_or_ge j xs.length with h | h
  ·exact h
  ·rw[List.getElem?_eq_none h]at hp;cases hp
 rw[List.getElem?_eq_getElem hj]at hp;injection hp with hp;rw[Nat.mul_one,List.drop_eq_getElem_cons (by simpa using hj)];simp[hp]
/-- An own row of numbers: its block and cells. -/
theorem Zj.open_ {W:World} {base g n cap:Nat} {okp:Nat→Prop} {xs:List Int} (HO:Kd.R (Kd.int .i64) 3 W base okp (.slice (some ⟨g,0,none⟩) n cap) xs) :
 ∃cur,W.heap[g]? = some (.cells cur 3 (0,0))∧base≤g∧n=xs.length∧n≤cap∧cap≤maxLen∧cur.size=cap∧cur.toList.take n=xs.map (Value.int .i64)∧okp g:=by
 (have hn:=(Kd.R_reads' HO).1);obtain⟨hok,inner,hown,hr⟩:=HO;(have hi:=Zj.reps hr);(rcases hown.2 with ⟨hv,_⟩ | ⟨g',cap',cur,hv,hb,hh,hnc,hcm,hcs,htake⟩);(focus cases hv);injection hv with ha hnn hc;injection ha with ha;injection ha with hg;subst hg;subst hc;refine⟨cur,hh,hb,hn,by omega,hcm,by have h:=hcs;rwa [show(Kd.int IntKind.i64).sz=1 from rfl,Nat.mul_one]at h,?_,hok _ rfl⟩;rw[← hi, ← htake,hn];(show _=List.take (xs.length*1) _);rw[Nat.mul_one]
theorem Zj.holds {W:World} {base g n cap:Nat} {okp:Nat→Prop} {xs:List Int} (HO:Kd.R (Kd.int .i64) 3 W base okp (.slice (some ⟨g,0,none⟩) n cap) xs) :
 Go.Sort.Holds (Value.int .i64) W g 0 xs.toArray∧g<W.heap.size∧xs.length≤cap:=by
 obtain⟨cur,hh,hb,hn,hnc,hcm,hcs,ht,_⟩:=Zj.open_ HO;refine⟨fun j hj=>?_,?_,by omega⟩;(focus (have hj':j<xs.length:=by simpa using hj);rw[Nat.zero_add];refine⟨?_,blk_frozen hh _⟩;rw[blk_cell hh];(have h2:=congrArg (fun q=>q[j]?) ht);simp only[List.getElem?_take,List.getElem?_map]at h2;rw[if_pos (by omega),List.getElem?_eq_getElem hj']at h2;rw[Array.getElem?_toList]at h2;rw[h2,getElem!_pos xs.toArray j hj];rfl);(focus (rcases Nat.lt_or_ge g W.heap.size with h | h);(focus exact h);(focus rw[Array.getElem?_eq_none h]at hh;cases hh))
/-- The row is written anew, blocks lie behind: the first m are a row still. -/
theorem Zj.row (W:World) (base g n cap q m:Nat) (os:Array Obj) (xs ys:List Int) (HO:Kd.R (Kd.int .i64) 3 W base (fun _=>True) (.slice (some ⟨g,0,none⟩) n cap) xs) (hy:ys.length=xs.length) (hm:m≤xs.length) :
 Kd.R (Kd.int .i64) 3 (Go.Sort.grow (Go.Sort.putRow (Value.int .i64) (Go.Sort.ahead W q) g 0 ys.toArray) os) base (fun _=>True) (.slice (some ⟨g,0,none⟩) m cap) (ys.take m)∧Below base W (Go.Sort.grow (Go.Sort.putRow (Value.int .i64) (Go.Sort.ahead W q) g 0 ys.toArray) os):=by
 obtain⟨hH,hg,hc⟩:=Zj.holds HO;obtain⟨cur,hh,hb,hn,hnc,hcm,hcs,ht,_⟩:=Zj.open_ HO
 have hheap:(Go.Sort.grow (Go.Sort.putRow (Value.int .i64) (Go.Sort.ahead W q) g 0 ys.toArray) os).heap[g]? = some (.cells (Go.Sort.putCells (Value.int .i64) 0 ys.toArray cur) 3 (0,0)):=by
  rw[Go.Sort.heap_grow_old _ _ (by simpa using hg)]
  simp[Go.Sort.putRow,Go.Sort.mapBlock,Array.getElem?_modify,hh,Go.Sort.onCells]
 (have hlt:(ys.take m).length=m:=by rw[List.length_take];omega);refine⟨⟨fun _ _=>trivial,(ys.take m).map (Value.int .i64),⟨by simp[Kd.int,Kd.scalar], .inr ⟨g,cap,_,by rw[hlt],hb,hheap,by omega,hcm,by simp[Go.Sort.putCells,hcs,Kd.int,Kd.scalar],?_⟩⟩,Zj.mk _ _ _ _⟩,?_⟩;(focus refine List.ext_getElem? (fun j=>?_);show((Go.Sort.putCells (Value.int .i64) 0 ys.toArray cur).toList.take ((ys.take m).length*1))[j]? = _;rw[hlt,Nat.mul_one,List.getElem?_take,List.getElem?_map,List.getElem?_take];by_cases hj:j<m;(focus rw[if_pos hj,if_pos hj];(have h1:j<cur.size:=by omega);(have h2:j<ys.length:=by omega);simp[Go.Sort.putCells,Array.getElem?_eq_getElem h1,h2]);(focus rw[if_neg hj,if_neg hj];rfl));(focus refine⟨rfl,rfl,rfl,by simp,fun k hk=>?_⟩;rw[Go.Sort.heap_grow_old _ _ (by simp;omega)];(have hne:g≠k:=by omega);simp[Go.Sort.putRow,Go.Sort.mapBlock,Array.getElem?_modify,hne])
theorem Zj.sort (g cap base:Nat) (xs:List Int) (W:World) (HO:Kd.R (Kd.int .i64) 3 W base (fun _=>True) (.slice (some ⟨g,0,none⟩) xs.length cap) xs) (hlen:xs.length<1000000000) :
 Calls Tryz.prog 41 #[.slice (some ⟨g,0,none⟩) xs.length cap] W fun e w'=>e = .returned (.tuple #[])∧Kd.R (Kd.int .i64) 3 w' base (fun _=>True) (.slice (some ⟨g,0,none⟩) xs.length cap) (xs.mergeSort fun x y=>decide (x≤y))∧Below base W w':=by
 obtain⟨hH,hg,hc⟩:=Zj.holds HO;(have hs:(xs.mergeSort fun x y=>decide (x≤y)).length=xs.length:=List.length_mergeSort xs);(have hcall:Calls Tryz.prog 41 #[.slice (some ⟨g,0,none⟩) xs.length cap] W _:=Tryz.sort_Ints g 0 cap xs W hH hg (by omega));refine hcall.mono ?_;rintro e w' ⟨rfl,q,os,rfl⟩;(have h:=Zj.row W base g xs.length cap q xs.length os xs _ HO hs (Nat.le_refl _));rw[List.take_of_length_le (by omega)]at h;exact⟨rfl,h⟩
theorem Zj.shape {W:World} {base:Nat} {okp:Nat→Prop} {v:Value} {xs:List Int} (HO:Kd.R (Kd.int .i64) 3 W base okp v xs):(v = .slice none 0 0∧xs = [])∨∃g cap,v = .slice (some ⟨g,0,none⟩) xs.length cap:=by
 obtain⟨_,inner,hown,_⟩:=HO;(rcases hown.2 with ⟨hv,hn⟩ | ⟨g,cap,cur,hv,_⟩);(focus exact .inl ⟨hv,List.eq_nil_of_length_eq_zero hn⟩);(focus exact .inr ⟨g,cap,hv⟩)
theorem Zj.sortV (v:Value) (base:Nat) (xs:List Int) (W:World) (HO:Kd.R (Kd.int .i64) 3 W base (fun _=>True) v xs) (hlen:xs.length<1000000000) :
 Calls Tryz.prog 41 #[v] W fun e w'=>e = .returned (.tuple #[])∧Kd.R (Kd.int .i64) 3 w' base (fun _=>True) v (xs.mergeSort fun x y=>decide (x≤y))∧Below base W w':=by
 (rcases Zj.shape HO with ⟨rfl,rfl⟩ | ⟨g,cap,rfl⟩);(focus (have hcall:Calls Tryz.prog 41 #[.slice none 0 0] W _:=Tryz.sort_Ints_none none 0 W);refine hcall.mono ?_;rintro e w' ⟨rfl,rfl⟩;exact⟨rfl,by rw[List.mergeSort_nil];exact HO,Below.refl _ _⟩);(focus exact Zj.sort g cap base xs W HO hlen)
mutual
def Zj.j0:Nat→List (S62)→Int→Bool→Option (List Int×Bool)
 | 0,_,_,_=>none
 | k+1,x0,x1,x19=>if x19=true then(some (([]:List Int),false)) else(Zj.l0 k x1 (([]:List Int)) x0 (x0.length:Int) 0)
def Zj.l0:Nat→Int→List Int→List (S62)→Int→Int→Option (List Int×Bool)
 | 0,_,_,_,_,_=>none
 | k+1,x1,x6,x21,x22,x23=>if x23<x22 then(if 0≤x23 then(if x23<(x21.length:Int) then((ZT.f ((rd_T62 x21 x23).f0) ((rd_T62 x21 x23).f1) ((rd_T62 x21 x23).f2) x1).bind fun t257=>(if t257=true then(if x6.length<17592186044416 then(Zj.l0 k x1 (x6 ++ [(rd_T62 x21 x23).f0]) x21 x22 (wrap64 (x23+1))) else(none)) else(Zj.l0 k x1 x6 x21 x22 (wrap64 (x23+1))))) else(none)) else(none)) else(if x6.length<1000000000 then(some ((x6.mergeSort fun x y=>decide (x≤y)),true)) else(none))
end
def Zj.f (k:Nat) (l0:List (S62)) (a1:Int):Option (List Int×Bool):=(Zd.f k l0).bind fun t251=>(if t251=true then(if a1<0 then(Zj.j0 k l0 a1 true) else(Zj.j0 k l0 a1 (decide (a1≥2000)))) else(Zj.j0 k l0 a1 true))
theorem Zj.mono_l:∀k,(∀y0 y1 y2,LeO (Zj.j0 k y0 y1 y2) (Zj.j0 (k+1) y0 y1 y2))∧(∀y0 y1 y2 y3 y4,LeO (Zj.l0 k y0 y1 y2 y3 y4) (Zj.l0 (k+1) y0 y1 y2 y3 y4))
 | 0=>⟨fun _ _ _ r h=>by simp[Zj.j0]at h,fun _ _ _ _ _ r h=>by simp[Zj.l0]at h⟩
 | k+1=>by
  obtain⟨ih0,ih1⟩:=Zj.mono_l k
  have m0:=@Zd.mono;exact⟨by intros;unfold Zj.j0;exact mo_,by intros;unfold Zj.l0;exact mo_⟩
theorem Zj.mono:∀a0 a1 k,LeO (Zj.f k a0 a1) (Zj.f (k+1) a0 a1):=by
 intro a0 a1 k;obtain⟨ih0,ih1⟩:=Zj.mono_l k;have m0:=@Zd.mono;unfold Zj.f;exact mo_
theorem Zj.calls (k:Nat) (A0:Option Addr) (c0:Nat) (l0:List (S62)) (a1:Int) (r1:List Int) (r2:Bool) (w:World) (hr0:Kd.C k62 w A0 l0.length l0) (hc0:l0.length≤c0) (h:Zj.f k l0 a1=some (r1,r2)) :
 Calls Tryz.prog 19 #[.slice A0 l0.length c0, .int .i64 a1] w fun e w'=>∃v0_:Value,e = .returned (.tuple #[v0_, .bool r2])∧Kd.R (Kd.int .i64) 3 w' w.heap.size (fun _=>True) v0_ r1∧Below w.heap.size w w':=by
 (have hu_:=Tryz.underlying62);(have HR0:=am_ hr0);(have HC0:=am_ hc0);clear hr0 hc0;(have HB:=am_ (Below.refl w.heap.size w));(have H:=h);clear h;unfold Zj.f at H;(have HC3:=am_ H);clear H;(go_enter Tryz.func19,Tryz.ntmps19);(go_upto_region 1 with (fail));(go_cut [19] (fun v19 wc=>∃(kq:Nat) (x19_2:Bool),v19 = .bool x19_2∧Aside0 (Zj.j0 kq l0 a1 x19_2=some (r1,r2))∧Aside0 (kq≤k)∧Aside0 (Below w.heap.size w wc)))
 case first=>
  (have H:=HC3.out);clear HC3;obtain⟨t251,A4,H⟩:=bo_ H;replace H:=bt_ H;obtain⟨rfl,H⟩|⟨rfl,H⟩:=H
  ·obtain⟨c6b0,H⟩|⟨c6b0,H⟩:=bd_ H
   ·(first|rw[c6b0]|(simp only[i64_w,i32_w];rw[c6b0]) | skip);(have H':=am_ H);clear H;(go_wp2_with (first|((with_reducible refine gl_ 10 Tryz.func40 #[.slice A0 l0.length c0] ?_);(with_reducible refine(Zd.calls k _ _ l0 true _ ?side1 ?side2 A4.out).mono ?_);(case side1=>exact(a13_ HR0.out));(case side2=>exact HC0.out);rintro e w7 ⟨rfl,hb⟩;refine⟨_,rfl,?_⟩;replace HB:=bs_ HB hb;clear hb)));go_meet
    case rel=>exact⟨_,(true),(by first | rfl|(simp;done)|(simp[*];done)),H',⟨by first | omega|exact Nat.le_refl _⟩,⟨a0_⟩⟩
   ·(first|rw[c6b0]|(simp only[i64_w,i32_w];rw[c6b0]) | skip);(have H':=am_ H);clear H;(go_wp2_with (first|((with_reducible refine gl_ 10 Tryz.func40 #[.slice A0 l0.length c0] ?_);(with_reducible refine(Zd.calls k _ _ l0 true _ ?side1 ?side2 A4.out).mono ?_);(case side1=>exact(a13_ HR0.out));(case side2=>exact HC0.out);rintro e w8 ⟨rfl,hb⟩;refine⟨_,rfl,?_⟩;replace HB:=bs_ HB hb;clear hb)));go_meet
    case rel=>exact⟨_,(decide (a1≥2000)),(by first | rfl|(simp;done)|(simp[*];done)),H',⟨by first | omega|exact Nat.le_refl _⟩,⟨a0_⟩⟩
  ·(have H':=am_ H);clear H;(go_wp2_with (first|((with_reducible refine gl_ 10 Tryz.func40 #[.slice A0 l0.length c0] ?_);(with_reducible refine(Zd.calls k _ _ l0 false _ ?side1 ?side2 A4.out).mono ?_);(case side1=>exact(a13_ HR0.out));(case side2=>exact HC0.out);rintro e w9 ⟨rfl,hb⟩;refine⟨_,rfl,?_⟩;replace HB:=bs_ HB hb;clear hb)));go_meet
   case rel=>exact⟨_,(true),(by first | rfl|(simp;done)|(simp[*];done)),H',⟨by first | omega|exact Nat.le_refl _⟩,⟨a0_⟩⟩
 case rest=>
  clear HC3;(try clear c2);(try clear p2);(try clear c3);(try clear c5);(try clear c6);(try clear c6b0);obtain⟨kq,x19_2,rfl,HA,HJ2,HB⟩:=hcut;cases kq with
  | zero=>exact absurd HA.out (by simp[Zj.j0])
  | succ kj2=>
   (have H:=HA.out);clear HA;simp only[Zj.j0]at H;replace H:=bt_ H;obtain⟨rfl,H⟩|⟨rfl,H⟩:=H;(focus simp only[Option.some.injEq,Prod.mk.injEq]at H;obtain⟨rfl,rfl⟩:=H;go_wp2;go_ret2;exact⟨_,a9_,a29_,a0_⟩)
   ·obtain⟨y252,Ny252⟩:=nm_ (([]:List Int):List Int);(rw[← Ny252.out]at H);(have H':=am_ H);clear H;(go_wp2_with (first|((with_reducible refine li_ (Kd.int .i64) 3 20 (([]:List Int)) ([]) ?_ ?_);(focus exact(Reps.none _ _));intro v253 w11 ho12 hb hg_ hnew_;clear hg_ hnew_;(first|rw[← Ny252.out]at ho12|(simp only[Int.reduceToNat]at ho12;rw[← Ny252.out]at ho12));have HO254:=am_ (Kd.R_lower ho12 (below_size (a0_)));replace HB:=bs_ HB hb;clear hb ho12)));(try simp only[Act.put,List.setIfInBounds_toArray,List.set_cons_zero,List.set_cons_succ])
    go_loopg [6,23] kj2 (fun kq v6 v23 w'=>∃(x6_2:List Int) (x23_2:Int),v23 = .int .i64 x23_2∧Aside0 (Zj.l0 kq a1 x6_2 l0 (l0.length:Int) x23_2=some (r1,r2))∧Aside0 (kq≤kj2)∧Aside0 (Kd.R (Kd.int .i64) 3 w' w.heap.size (fun _=>True) v6 x6_2)∧Aside0 (Below w.heap.size w w'))
    case atStart=>exact⟨(y252),(0),(by first | rfl|(simp;done)|(simp[*];done)),H',⟨Nat.le_refl _⟩,⟨(a2_ HO254.out)⟩,⟨a0_⟩⟩
    case round=>
     clear H';(try clear c1);(try clear c2);(try clear p2);(try clear c3);(try clear c5);(try clear c6);(try clear c6b0);(try clear c10);(try clear p2);obtain⟨x6_2,x23_2,rfl,HA,HK2,HO_6,HB⟩:=hrel;cases gk with
     | zero=>exact absurd HA.out (by simp[Zj.l0])
     | succ k2=>
      (have H:=HA.out);clear HA;simp only[Zj.l0]at H;obtain⟨c13b0,H⟩|⟨c13b0,H⟩:=bd_ H
      ·(obtain⟨c14b0,H⟩:=gj_ H);(obtain⟨c15b0,H⟩:=gj_ H);obtain⟨t257,A16,H⟩:=bo_ H;replace H:=bt_ H;obtain⟨rfl,H⟩|⟨rfl,H⟩:=H
       ·(obtain⟨c18,H⟩:=gi_ H);(have LMc18:=am_ c18);clear c18;obtain⟨y258,Ny258⟩:=nm_ (x6_2 ++ [(rd_T62 l0 x23_2).f0]:List Int);(rw[← Ny258.out]at H);(have H':=am_ H);clear H;obtain⟨ad255,e255,hx255_0,hx255_1,hx255_2,p255,q255⟩:=ra_ HB (at_T62 HR0.out x23_2);cases e255;(go_wp2_with (first|((with_reducible refine be_ 8 #[.int .i64 0, .int .i64 0, .int .i64 0] 62 ?_);intro gb256 hg w19 BK256 hb;replace HO_6:=am_ (Kd.R_below ((a2_ HO_6.out)) hb);have GW256:=gw_ HB hg;have GE256:=GW256;replace HB:=bs_ HB hb;clear hb hg;obtain⟨_,_,_,_,_,_⟩:=bc3_ BK256)|((with_reducible refine gl_ 29 Tryz.func33 #[.agg #[.int .i64 ((rd_T62 l0 x23_2).f0), .int .i64 ((rd_T62 l0 x23_2).f1), .int .i64 ((rd_T62 l0 x23_2).f2)], .int .i64 a1] ?_);(with_reducible refine(ZT.calls ((rd_T62 l0 x23_2).f0) ((rd_T62 l0 x23_2).f1) ((rd_T62 l0 x23_2).f2) a1 true _ A16.out).mono ?_);rintro e w21 ⟨rfl,hb⟩;refine⟨_,rfl,?_⟩;replace HO_6:=am_ (Kd.R_below ((a65_ HO_6.out BK256.out)) hb);replace BK256:=bb_ BK256 hb;replace HB:=bg_ HB GE256 hb;clear hb;obtain⟨_,_,_,_,_,_⟩:=bc3_ BK256)|((with_reducible refine gate_builtin (b:= .append) (xs:= #[.tmp 30, .tmp 33]) rfl ?_);at_builtin;refine Kd.R_append (Kd.int .i64) (w0:=w) w.heap.size rfl (.tmp 30) (.tmp 33) 41 3 (.int .i64 0) 8 rfl Tryz.underlying41 info3 rfl (by decide) (by omega) u6 x6_2 ((rd_T62 l0 x23_2).f0) [.int .i64 ((rd_T62 l0 x23_2).f0)] (fun _=>True) (fun _=>False) rfl rfl ?aP (fun _ hk=>hk.elim) ?aF ?aO ?aB ?aS ?aL ?_;(case aP=>exact rfl);(case aB=>exact((a1_ GE256.out)));(case aF=>exact(fun _ _=>trivial));(case aO=>exact((a2_ HO_6.out)));(case aS=>exact(below_size ((a1_ GE256.out))));(case aL=>have:=LMc18.out;omega);intro v259 w23 ho hb hg hat;rw[← Ny258.out]at ho;have n0_:=bw_ BK256 hg (Kd.R_ne HO_6.out BK256.out (by decide));have n1_:=am_ (hb);have n2_:=am_ (ho);clear BK256 HB HO_6;have BK256:=n0_;have HB:=n1_;have HO260:=n2_;clear n0_ n1_ n2_ ho hb hg hat)));(go_roundg k2)
        case measure=>have:=HJ2.out;have:=HK2.out;omega
        case rel=>exact⟨(y258),(wrap64 (x23_2+1)),(by first | rfl|(simp;done)|(simp[*];done)),H',⟨by have:=HJ2.out;have:=HK2.out;omega⟩,⟨(a2_ HO260.out)⟩,⟨(a1_ GE256.out)⟩⟩
       ·(have H':=am_ H);clear H;obtain⟨ad255,e255,hx255_0,hx255_1,hx255_2,p255,q255⟩:=ra_ HB (at_T62 HR0.out x23_2);cases e255;(go_wp2_with (first|((with_reducible refine be_ 8 #[.int .i64 0, .int .i64 0, .int .i64 0] 62 ?_);intro gb256 hg w24 BK256 hb;replace HO_6:=am_ (Kd.R_below ((a2_ HO_6.out)) hb);have GW256:=gw_ HB hg;have GE256:=GW256;replace HB:=bs_ HB hb;clear hb hg;obtain⟨_,_,_,_,_,_⟩:=bc3_ BK256)|((with_reducible refine gl_ 29 Tryz.func33 #[.agg #[.int .i64 ((rd_T62 l0 x23_2).f0), .int .i64 ((rd_T62 l0 x23_2).f1), .int .i64 ((rd_T62 l0 x23_2).f2)], .int .i64 a1] ?_);(with_reducible refine(ZT.calls ((rd_T62 l0 x23_2).f0) ((rd_T62 l0 x23_2).f1) ((rd_T62 l0 x23_2).f2) a1 false _ A16.out).mono ?_);rintro e w26 ⟨rfl,hb⟩;refine⟨_,rfl,?_⟩;replace HO_6:=am_ (Kd.R_below ((a65_ HO_6.out BK256.out)) hb);replace BK256:=bb_ BK256 hb;replace HB:=bg_ HB GE256 hb;clear hb)));(go_roundg k2)
        case measure=>have:=HJ2.out;have:=HK2.out;omega
        case rel=>exact⟨(x6_2),(wrap64 (x23_2+1)),(by first | rfl|(simp;done)|(simp[*];done)),H',⟨by have:=HJ2.out;have:=HK2.out;omega⟩,⟨(a2_ HO_6.out)⟩,⟨(a1_ GE256.out)⟩⟩
      (focus (obtain⟨c40,H⟩:=gi_ H);(have HLc:=am_ c40);clear c40;simp only[Option.some.injEq,Prod.mk.injEq]at H;obtain⟨rfl,rfl⟩:=H;(go_wp2_with (first|(go_at_call 41;refine(Zj.sortV _ w.heap.size x6_2 _ ((a2_ HO_6.out)) HLc.out).mono ?_;rintro e w41 ⟨rfl,ho,hb⟩;have n0_:=am_ ho;have n1_:=am_ ((show Below w.heap.size w _ from(a0_)).trans hb);clear HO_6 HB;have HO_6:=n0_;have HB:=n1_;clear n0_ n1_ ho hb)));go_ret2;exact⟨_,a9_,(a2_ HO_6.out),a0_⟩)
end Go.Proofs.YtcnegcdmmackeaaGreat.QFnEditions
