/- Written by a program of this session (the kit's printer, with leaf contracts proved by hand put in): what each Go function computes, and that the call computes it. No condition but those that each theorem names. -/
import Derived.Test.YtbbiihhaljigjaaQFnExactMakeEditionx0
namespace Go.Proofs.Ytbbiihhaljigjaa.QFnExactMakeEdition
open Go.RowKit Go.Proofs.YtbbiihhaljigjaaW.PrintWords Go.Proofs.YtbbiihhaljigjaaW.PrintLast Go.Proofs.YtbbiihhaljigjaaW.PrintMore
attribute [local go_sem] max2_int min2_int max_two min_two max_three min_three max_four min_four   -- for this text's walks alone
set_option linter.unusedVariables false
set_option linter.unusedSimpArgs false

/-! ### laws_szHoleS: function 17 -/
def laws_szHoleS.f (l0:List (S65)) (a1:Int):Option (Int):=if(wrap64 (a1-(l0.length:Int)))<0 then(some (-1)) else(some (wrap64 (a1-(l0.length:Int))))
set_option maxHeartbeats 8000000 in
set_option maxRecDepth 100000 in
theorem laws_szHoleS.calls (A0:Option Addr) (c0:Nat) (l0:List (S65)) (a1:Int) (r:Int) (w:World) (hr0:Kd.C k65 w A0 l0.length l0) (hc0:l0.length≤c0) (h:laws_szHoleS.f l0 a1=some r) :
 Calls Try.prog 17 #[.slice A0 l0.length c0, .int .i64 a1] w fun e w'=>e = .returned (.int .i64 r)∧Drawn0 w w':=by
 have HR0:=am_ hr0
 have HC0:=am_ hc0
 clear hr0 hc0
 have H:(if(wrap64 (a1-(l0.length:Int)))<0 then(some (-1)) else(some (wrap64 (a1-(l0.length:Int)))))=some r:=h
 clear h
 by_cases c3:(wrap64 (a1-(l0.length:Int)))<0
 ·rw[if_pos c3]at H
  have c3b0:decide ((wrap64 (a1-(l0.length:Int)))<0)=true:=decide_eq_true c3
  clear c3
  obtain rfl:=Option.some.inj H
  go_enter Try.func17,Try.ntmps17
  go_wp2
  go_ret
  exact⟨a6_,a25_⟩
 ·rw[if_neg c3]at H
  have c3b0:decide ((wrap64 (a1-(l0.length:Int)))<0)=false:=decide_eq_false c3
  clear c3
  obtain rfl:=Option.some.inj H
  go_enter Try.func17,Try.ntmps17
  go_wp2
  go_ret
  exact⟨a6_,a25_⟩

/-! ### laws_szHoleSS: function 4 -/
def laws_szHoleSS.l0:Nat→List (List (S65))→Int→Int→Option (Int)
 | 0,_,_,_=>none
 | k+1,x0,x1,x5=>if x5<(x0.length:Int) then(if 0≤x5 then((laws_szHoleS.f (rd_L2 x0 x5) x1).bind fun t102=>(if t102<0 then(some (-1)) else(laws_szHoleSS.l0 k x0 t102 (wrap64 (x5+1))))) else(none)) else(some x1)
def laws_szHoleSS.f (k:Nat) (l0:List (List (S65))) (a1:Int):Option (Int):=if(wrap64 (a1-(l0.length:Int)))<0 then(some (-1)) else(laws_szHoleSS.l0 k l0 (wrap64 (a1-(l0.length:Int))) 0)
theorem laws_szHoleSS.mono_l:∀k,(∀y0 y1 y2,LeO (laws_szHoleSS.l0 k y0 y1 y2) (laws_szHoleSS.l0 (k+1) y0 y1 y2))
 | 0=>fun _ _ _ r h=>by simp[laws_szHoleSS.l0]at h
 | k+1=>by
  have ih0:=laws_szHoleSS.mono_l k
  ·intro y0 y1 y2
   unfold laws_szHoleSS.l0
   repeat' first
   | (with_reducible exact ih0 _ _ _)
   | (with_reducible exact LeO.refl _)
   | (with_reducible exact LeO.none _)
   | (with_reducible refine LeO.ite ?_ ?_)
   | (with_reducible refine LeO.bind ?_ (fun _=>?_))
   | exact ih0 _ _ _
   | exact LeO.none _
   | refine LeO.ite ?_ ?_
   | refine LeO.bind ?_ (fun _=>?_)
theorem laws_szHoleSS.mono:∀a0 a1 k,LeO (laws_szHoleSS.f k a0 a1) (laws_szHoleSS.f (k+1) a0 a1):=by
 intro a0 a1 k
 have ih0:=laws_szHoleSS.mono_l k
 unfold laws_szHoleSS.f
 repeat' first
  | (with_reducible exact ih0 _ _ _)
  | (with_reducible exact LeO.refl _)
  | (with_reducible exact LeO.none _)
  | (with_reducible refine LeO.ite ?_ ?_)
  | (with_reducible refine LeO.bind ?_ (fun _=>?_))
  | exact ih0 _ _ _
  | exact LeO.none _
  | refine LeO.ite ?_ ?_
  | refine LeO.bind ?_ (fun _=>?_)
set_option maxHeartbeats 8000000 in
set_option maxRecDepth 100000 in
theorem laws_szHoleSS.calls (k:Nat) (A0:Option Addr) (c0:Nat) (l0:List (List (S65))) (a1:Int) (r:Int) (w:World) (hr0:Kd.C (Kd.slice 65 k65) w A0 l0.length l0) (hc0:l0.length≤c0) (h:laws_szHoleSS.f k l0 a1=some r) :
 Calls Try.prog 4 #[.slice A0 l0.length c0, .int .i64 a1] w fun e w'=>e = .returned (.int .i64 r)∧Drawn0 w w':=by
 have HR0:=am_ hr0
 have HC0:=am_ hc0
 clear hr0 hc0
 have H:(if(wrap64 (a1-(l0.length:Int)))<0 then(some (-1)) else(laws_szHoleSS.l0 k l0 (wrap64 (a1-(l0.length:Int))) 0))=some r:=h
 clear h
 by_cases c3:(wrap64 (a1-(l0.length:Int)))<0
 ·rw[if_pos c3]at H
  have c3b0:decide ((wrap64 (a1-(l0.length:Int)))<0)=true:=decide_eq_true c3
  clear c3
  obtain rfl:=Option.some.inj H
  go_enter Try.func4,Try.ntmps4
  go_wp2
  go_ret
  exact⟨a6_,a25_⟩
 ·rw[if_neg c3]at H
  have c3b0:decide ((wrap64 (a1-(l0.length:Int)))<0)=false:=decide_eq_false c3
  clear c3
  have H':=am_ H
  clear H
  go_enter Try.func4,Try.ntmps4
  go_wp2
  go_loopg [1,5] k (fun kq v1 v5 w'=>∃(x1_1:Int) (x5_1:Int),v1 = .int .i64 x1_1∧v5 = .int .i64 x5_1∧Aside0 (laws_szHoleSS.l0 kq l0 x1_1 x5_1=some r)∧Aside0 (kq≤k)∧Drawn0 w w')
  case atStart=>exact⟨(wrap64 (a1-(l0.length:Int))),(0),(a6_),(a6_),H',⟨Nat.le_refl _⟩,a25_⟩
  case round=>
   clear H'
   try clear p2
   try clear c3
   try clear c3b0
   obtain⟨x1_1,x5_1,rfl,rfl,HA,HK1,⟨m1,rfl⟩⟩:=hrel
   cases gk with
   | zero=>exact absurd HA.out (by simp[laws_szHoleSS.l0])
   | succ k1=>
    have H:=HA.out
    clear HA
    simp only[laws_szHoleSS.l0]at H
    by_cases c4:x5_1<(l0.length:Int)
    ·rw[if_pos c4]at H
     have c4b0:decide (x5_1<(l0.length:Int))=true:=decide_eq_true c4
     clear c4
     by_cases c5:0≤x5_1
     ·rw[if_pos c5]at H
      have c5b0:decide (0≤x5_1)=true:=decide_eq_true c5
      clear c5
      replace H:=Option.bind_eq_some_iff.mp H
      obtain⟨t102,A60,H⟩:=H
      replace H:(if t102<0 then(some (-1)) else(laws_szHoleSS.l0 k1 l0 t102 (wrap64 (x5_1+1))))=some r:=H
      have A6:=am_ A60
      clear A60
      by_cases c7:t102<0
      ·rw[if_pos c7]at H
       have c7b0:decide (t102<0)=true:=decide_eq_true c7
       clear c7
       obtain rfl:=Option.some.inj H
       have p101:0≤(x5_1:Int):=of_decide_eq_true (a4_)
       have q101:x5_1<(l0.length:Int):=of_decide_eq_true (a4_)
       obtain⟨ad101,A101_0,c101_0,e101,hx101_0,hl101_0,hi101_0⟩:=at_L2 HR0.out x5_1 p101 q101
       cases e101
       have HR101_0:=am_ hi101_0
       have HC101_0:=am_ hl101_0
       clear hi101_0 hl101_0
       replace p101:=eq_true p101
       replace q101:=eq_true q101
       go_wp2_with (first | ((with_reducible refine gate_callee (f:=17) rfl ?_);refine goesL_ (some 23) rfl rfl Try.func17 (by kernel_rfl) rfl #[.slice A101_0 (rd_L2 l0 x5_1).length c101_0, .int .i64 x1_1] rfl (by(try simp only[List.map_toArray,List.map_cons,List.map_nil]);first | done | rfl | (simp only[List.length_drop,List.length_take];rfl)) ?_;(with_reducible refine(laws_szHoleS.calls _ _ (rd_L2 l0 x5_1) x1_1 t102 _ ?side1 ?side2 A6.out).mono ?_);(case side1=>exact(a18_ HR101_0.out));(case side2=>exact HC101_0.out);rintro e w' ⟨rfl,⟨nd,rfl⟩⟩;refine⟨_,rfl,?_⟩))
       go_ret
       exact⟨a6_,a25_⟩
      ·rw[if_neg c7]at H
       have c7b0:decide (t102<0)=false:=decide_eq_false c7
       clear c7
       have H':=am_ H
       clear H
       have p101:0≤(x5_1:Int):=of_decide_eq_true (a4_)
       have q101:x5_1<(l0.length:Int):=of_decide_eq_true (a4_)
       obtain⟨ad101,A101_0,c101_0,e101,hx101_0,hl101_0,hi101_0⟩:=at_L2 HR0.out x5_1 p101 q101
       cases e101
       have HR101_0:=am_ hi101_0
       have HC101_0:=am_ hl101_0
       clear hi101_0 hl101_0
       replace p101:=eq_true p101
       replace q101:=eq_true q101
       go_wp2_with (first | ((with_reducible refine gate_callee (f:=17) rfl ?_);refine goesL_ (some 23) rfl rfl Try.func17 (by kernel_rfl) rfl #[.slice A101_0 (rd_L2 l0 x5_1).length c101_0, .int .i64 x1_1] rfl (by(try simp only[List.map_toArray,List.map_cons,List.map_nil]);first | done | rfl | (simp only[List.length_drop,List.length_take];rfl)) ?_;(with_reducible refine(laws_szHoleS.calls _ _ (rd_L2 l0 x5_1) x1_1 t102 _ ?side1 ?side2 A6.out).mono ?_);(case side1=>exact(a18_ HR101_0.out));(case side2=>exact HC101_0.out);rintro e w' ⟨rfl,⟨nd,rfl⟩⟩;refine⟨_,rfl,?_⟩))
       go_roundg k1
       case measure=>have:=HK1.out;omega
       case rel=>exact⟨(t102),(wrap64 (x5_1+1)),(a6_),(a6_),H',⟨by have:=HK1.out;omega⟩,a25_⟩
     ·rw[if_neg c5]at H
      exact absurd H (by simp)
    ·rw[if_neg c4]at H
     have c4b0:decide (x5_1<(l0.length:Int))=false:=decide_eq_false c4
     clear c4
     obtain rfl:=Option.some.inj H
     go_wp2
     go_ret
     exact⟨a6_,a25_⟩

/-! ### laws_szPartS: function 5 -/
def laws_szPartS.f (l0:List (S52)) (a1:Int):Option (Int):=if(wrap64 (a1-(l0.length:Int)))<0 then(some (-1)) else(some (wrap64 (a1-(l0.length:Int))))
set_option maxHeartbeats 8000000 in
set_option maxRecDepth 100000 in
theorem laws_szPartS.calls (A0:Option Addr) (c0:Nat) (l0:List (S52)) (a1:Int) (r:Int) (w:World) (hr0:Kd.C k52 w A0 l0.length l0) (hc0:l0.length≤c0) (h:laws_szPartS.f l0 a1=some r) :
 Calls Try.prog 5 #[.slice A0 l0.length c0, .int .i64 a1] w fun e w'=>e = .returned (.int .i64 r)∧Drawn0 w w':=by
 have HR0:=am_ hr0
 have HC0:=am_ hc0
 clear hr0 hc0
 have H:(if(wrap64 (a1-(l0.length:Int)))<0 then(some (-1)) else(some (wrap64 (a1-(l0.length:Int)))))=some r:=h
 clear h
 by_cases c3:(wrap64 (a1-(l0.length:Int)))<0
 ·rw[if_pos c3]at H
  have c3b0:decide ((wrap64 (a1-(l0.length:Int)))<0)=true:=decide_eq_true c3
  clear c3
  obtain rfl:=Option.some.inj H
  go_enter Try.func5,Try.ntmps5
  go_wp2
  go_ret
  exact⟨a6_,a25_⟩
 ·rw[if_neg c3]at H
  have c3b0:decide ((wrap64 (a1-(l0.length:Int)))<0)=false:=decide_eq_false c3
  clear c3
  obtain rfl:=Option.some.inj H
  go_enter Try.func5,Try.ntmps5
  go_wp2
  go_ret
  exact⟨a6_,a25_⟩

/-! ### spec_shBefore: function 33 -/
def spec_shBefore.f (a0_0:Int) (a0_1:Int) (a0_2:Int) (a1_0:Int) (a1_1:Int) (a1_2:Int):Option (Bool):=if a0_1<a1_1 then(some true) else(if a0_1=a1_1 then(some (decide (a0_0<a1_0))) else(some false))
set_option maxHeartbeats 8000000 in
set_option maxRecDepth 100000 in
theorem spec_shBefore.calls (a0_0:Int) (a0_1:Int) (a0_2:Int) (a1_0:Int) (a1_1:Int) (a1_2:Int) (r:Bool) (w:World) (h:spec_shBefore.f a0_0 a0_1 a0_2 a1_0 a1_1 a1_2=some r) :
 Calls Try.prog 33 #[.agg #[.int .i64 a0_0, .int .i64 a0_1, .int .i64 a0_2], .agg #[.int .i64 a1_0, .int .i64 a1_1, .int .i64 a1_2]] w fun e w'=>e = .returned (.bool r)∧Below w.heap.size w w':=by
 have hu47:=Try.underlying47
 have HB:=am_ (Below.refl w.heap.size w)
 have H:(if a0_1<a1_1 then(some true) else(if a0_1=a1_1 then(some (decide (a0_0<a1_0))) else(some false)))=some r:=h
 clear h
 by_cases c3:a0_1<a1_1
 ·rw[if_pos c3]at H
  have c3b0:decide (a0_1<a1_1)=true:=decide_eq_true c3
  clear c3
  obtain rfl:=Option.some.inj H
  go_enter Try.func33,Try.ntmps33
  go_wp2_with (first | ((with_reducible refine gate_dst (N:=2) rfl ?_);refine box_event ?hg (N:=2) ?hd (cs:= #[.int .i64 a0_0, .int .i64 a0_1, .int .i64 a0_2]) (t:=47) ?hr ?_;(case hd=>rfl);(case hg=>rfl);(case hr=>exact a12_);intro gb103 hg w4 hbox hb;have BK103:=am_ (hbox);have GW103:=am_ ((by rw[hg];exact(below_size (a0_)):w.heap.size≤gb103));have GE103:=am_ ((by rw[hg];exact(below_size (a0_)):w.heap.size≤gb103));replace HB:=am_ (below_step (a0_) hb);clear hb hbox hg) | ((with_reducible refine gate_dst (N:=3) rfl ?_);refine box_event ?hg (N:=3) ?hd (cs:= #[.int .i64 a1_0, .int .i64 a1_1, .int .i64 a1_2]) (t:=47) ?hr ?_;(case hd=>rfl);(case hg=>rfl);(case hr=>exact a12_);intro gb104 hg w5 hbox hb;have BK104:=am_ (hbox);have GW104:=am_ ((by rw[hg];exact(below_size ((a1_ GE103.out))):w.heap.size≤gb104));have GE104:=am_ ((by rw[hg];exact(below_size ((a1_ GE103.out))):w.heap.size≤gb104));replace HB:=am_ (below_step ((a1_ GE103.out)) hb);have NB103_104:=am_ ((by rw[hg];exact Nat.ne_of_lt (blk_lt (g:=gb103) (o:= .cells #[.int .i64 a0_0, .int .i64 a0_1, .int .i64 a0_2] 47 (0,0)) ((a3_ BK103.out))):gb103≠gb104));have NB104_103:=am_ ((by rw[hg];exact Nat.ne_of_gt (blk_lt (g:=gb103) (o:= .cells #[.int .i64 a0_0, .int .i64 a0_1, .int .i64 a0_2] 47 (0,0)) ((a3_ BK103.out))):gb104≠gb103));replace BK103:=am_ (blk_below (g:=gb103) (o:= .cells #[.int .i64 a0_0, .int .i64 a0_1, .int .i64 a0_2] 47 (0,0)) ((a3_ BK103.out)) hb);clear hb hbox hg;have hnb6:=NB103_104.out;have hnc6:=NB104_103.out;have hcz7_0:w5.cell? ⟨gb103,0,none⟩=some (.int .i64 a0_0):=(blk_cell BK103.out 0).trans rfl;have hcz7_1:w5.cell? ⟨gb103,1,none⟩=some (.int .i64 a0_1):=(blk_cell BK103.out 1).trans rfl;have hcz7_2:w5.cell? ⟨gb103,2,none⟩=some (.int .i64 a0_2):=(blk_cell BK103.out 2).trans rfl;have hfz7_0:=blk_frozen BK103.out 0;have hfz7_1:=blk_frozen BK103.out 1;have hfz7_2:=blk_frozen BK103.out 2;have hcz8_0:w5.cell? ⟨gb104,0,none⟩=some (.int .i64 a1_0):=(blk_cell BK104.out 0).trans rfl;have hcz8_1:w5.cell? ⟨gb104,1,none⟩=some (.int .i64 a1_1):=(blk_cell BK104.out 1).trans rfl;have hcz8_2:w5.cell? ⟨gb104,2,none⟩=some (.int .i64 a1_2):=(blk_cell BK104.out 2).trans rfl;have hfz8_0:=blk_frozen BK104.out 0;have hfz8_1:=blk_frozen BK104.out 1;have hfz8_2:=blk_frozen BK104.out 2))
  go_ret
  exact⟨a5_,(a7_ GE103.out GE104.out)⟩
 ·rw[if_neg c3]at H
  have c3b0:decide (a0_1<a1_1)=false:=decide_eq_false c3
  clear c3
  by_cases c9:a0_1=a1_1
  ·rw[if_pos c9]at H
   have c9b0:(a0_1 == a1_1)=true:=beq_iff_eq.mpr c9
   have c9b1:(a0_1 != a1_1)=false:=bne_eq_false_iff_eq.mpr c9
   clear c9
   obtain rfl:=Option.some.inj H
   go_enter Try.func33,Try.ntmps33
   go_wp2_with (first | ((with_reducible refine gate_dst (N:=2) rfl ?_);refine box_event ?hg (N:=2) ?hd (cs:= #[.int .i64 a0_0, .int .i64 a0_1, .int .i64 a0_2]) (t:=47) ?hr ?_;(case hd=>rfl);(case hg=>rfl);(case hr=>exact a12_);intro gb103 hg w10 hbox hb;have BK103:=am_ (hbox);have GW103:=am_ ((by rw[hg];exact(below_size (a0_)):w.heap.size≤gb103));have GE103:=am_ ((by rw[hg];exact(below_size (a0_)):w.heap.size≤gb103));replace HB:=am_ (below_step (a0_) hb);clear hb hbox hg) | ((with_reducible refine gate_dst (N:=3) rfl ?_);refine box_event ?hg (N:=3) ?hd (cs:= #[.int .i64 a1_0, .int .i64 a1_1, .int .i64 a1_2]) (t:=47) ?hr ?_;(case hd=>rfl);(case hg=>rfl);(case hr=>exact a12_);intro gb104 hg w11 hbox hb;have BK104:=am_ (hbox);have GW104:=am_ ((by rw[hg];exact(below_size ((a1_ GE103.out))):w.heap.size≤gb104));have GE104:=am_ ((by rw[hg];exact(below_size ((a1_ GE103.out))):w.heap.size≤gb104));replace HB:=am_ (below_step ((a1_ GE103.out)) hb);have NB103_104:=am_ ((by rw[hg];exact Nat.ne_of_lt (blk_lt (g:=gb103) (o:= .cells #[.int .i64 a0_0, .int .i64 a0_1, .int .i64 a0_2] 47 (0,0)) ((a3_ BK103.out))):gb103≠gb104));have NB104_103:=am_ ((by rw[hg];exact Nat.ne_of_gt (blk_lt (g:=gb103) (o:= .cells #[.int .i64 a0_0, .int .i64 a0_1, .int .i64 a0_2] 47 (0,0)) ((a3_ BK103.out))):gb104≠gb103));replace BK103:=am_ (blk_below (g:=gb103) (o:= .cells #[.int .i64 a0_0, .int .i64 a0_1, .int .i64 a0_2] 47 (0,0)) ((a3_ BK103.out)) hb);clear hb hbox hg;have hnb12:=NB103_104.out;have hnc12:=NB104_103.out;have hcz13_0:w11.cell? ⟨gb103,0,none⟩=some (.int .i64 a0_0):=(blk_cell BK103.out 0).trans rfl;have hcz13_1:w11.cell? ⟨gb103,1,none⟩=some (.int .i64 a0_1):=(blk_cell BK103.out 1).trans rfl;have hcz13_2:w11.cell? ⟨gb103,2,none⟩=some (.int .i64 a0_2):=(blk_cell BK103.out 2).trans rfl;have hfz13_0:=blk_frozen BK103.out 0;have hfz13_1:=blk_frozen BK103.out 1;have hfz13_2:=blk_frozen BK103.out 2;have hcz14_0:w11.cell? ⟨gb104,0,none⟩=some (.int .i64 a1_0):=(blk_cell BK104.out 0).trans rfl;have hcz14_1:w11.cell? ⟨gb104,1,none⟩=some (.int .i64 a1_1):=(blk_cell BK104.out 1).trans rfl;have hcz14_2:w11.cell? ⟨gb104,2,none⟩=some (.int .i64 a1_2):=(blk_cell BK104.out 2).trans rfl;have hfz14_0:=blk_frozen BK104.out 0;have hfz14_1:=blk_frozen BK104.out 1;have hfz14_2:=blk_frozen BK104.out 2))
   go_ret
   exact⟨a5_,(a7_ GE103.out GE104.out)⟩
  ·rw[if_neg c9]at H
   have c9b0:(a0_1 == a1_1)=false:=beq_eq_false_iff_ne.mpr c9
   have c9b1:(a0_1 != a1_1)=true:=bne_iff_ne.mpr c9
   obtain rfl:=Option.some.inj H
   go_enter Try.func33,Try.ntmps33
   go_wp2_with (first | ((with_reducible refine gate_dst (N:=2) rfl ?_);refine box_event ?hg (N:=2) ?hd (cs:= #[.int .i64 a0_0, .int .i64 a0_1, .int .i64 a0_2]) (t:=47) ?hr ?_;(case hd=>rfl);(case hg=>rfl);(case hr=>exact a12_);intro gb103 hg w15 hbox hb;have BK103:=am_ (hbox);have GW103:=am_ ((by rw[hg];exact(below_size (a0_)):w.heap.size≤gb103));have GE103:=am_ ((by rw[hg];exact(below_size (a0_)):w.heap.size≤gb103));replace HB:=am_ (below_step (a0_) hb);clear hb hbox hg) | ((with_reducible refine gate_dst (N:=3) rfl ?_);refine box_event ?hg (N:=3) ?hd (cs:= #[.int .i64 a1_0, .int .i64 a1_1, .int .i64 a1_2]) (t:=47) ?hr ?_;(case hd=>rfl);(case hg=>rfl);(case hr=>exact a12_);intro gb104 hg w16 hbox hb;have BK104:=am_ (hbox);have GW104:=am_ ((by rw[hg];exact(below_size ((a1_ GE103.out))):w.heap.size≤gb104));have GE104:=am_ ((by rw[hg];exact(below_size ((a1_ GE103.out))):w.heap.size≤gb104));replace HB:=am_ (below_step ((a1_ GE103.out)) hb);have NB103_104:=am_ ((by rw[hg];exact Nat.ne_of_lt (blk_lt (g:=gb103) (o:= .cells #[.int .i64 a0_0, .int .i64 a0_1, .int .i64 a0_2] 47 (0,0)) ((a3_ BK103.out))):gb103≠gb104));have NB104_103:=am_ ((by rw[hg];exact Nat.ne_of_gt (blk_lt (g:=gb103) (o:= .cells #[.int .i64 a0_0, .int .i64 a0_1, .int .i64 a0_2] 47 (0,0)) ((a3_ BK103.out))):gb104≠gb103));replace BK103:=am_ (blk_below (g:=gb103) (o:= .cells #[.int .i64 a0_0, .int .i64 a0_1, .int .i64 a0_2] 47 (0,0)) ((a3_ BK103.out)) hb);clear hb hbox hg;have hnb17:=NB103_104.out;have hnc17:=NB104_103.out;have hcz18_0:w16.cell? ⟨gb103,0,none⟩=some (.int .i64 a0_0):=(blk_cell BK103.out 0).trans rfl;have hcz18_1:w16.cell? ⟨gb103,1,none⟩=some (.int .i64 a0_1):=(blk_cell BK103.out 1).trans rfl;have hcz18_2:w16.cell? ⟨gb103,2,none⟩=some (.int .i64 a0_2):=(blk_cell BK103.out 2).trans rfl;have hfz18_0:=blk_frozen BK103.out 0;have hfz18_1:=blk_frozen BK103.out 1;have hfz18_2:=blk_frozen BK103.out 2;have hcz19_0:w16.cell? ⟨gb104,0,none⟩=some (.int .i64 a1_0):=(blk_cell BK104.out 0).trans rfl;have hcz19_1:w16.cell? ⟨gb104,1,none⟩=some (.int .i64 a1_1):=(blk_cell BK104.out 1).trans rfl;have hcz19_2:w16.cell? ⟨gb104,2,none⟩=some (.int .i64 a1_2):=(blk_cell BK104.out 2).trans rfl;have hfz19_0:=blk_frozen BK104.out 0;have hfz19_1:=blk_frozen BK104.out 1;have hfz19_2:=blk_frozen BK104.out 2))
   go_ret
   exact⟨a5_,(a7_ GE103.out GE104.out)⟩

/-! ### spec_l1In: function 42 -/
def spec_l1In.f (a0:Int) (a1:Int) (a2:Int):Option (Bool):=if a0≥a1 then(some (decide (a0≤a2))) else(some false)
set_option maxHeartbeats 8000000 in
set_option maxRecDepth 100000 in
theorem spec_l1In.calls (a0:Int) (a1:Int) (a2:Int) (r:Bool) (w:World) (h:spec_l1In.f a0 a1 a2=some r) :
 Calls Try.prog 42 #[.int .i64 a0, .int .i64 a1, .int .i64 a2] w fun e w'=>e = .returned (.bool r)∧Drawn0 w w':=by
 have H:(if a0≥a1 then(some (decide (a0≤a2))) else(some false))=some r:=h
 clear h
 by_cases c4:a0≥a1
 ·rw[if_pos c4]at H
  have c4b0:decide (a1≤a0)=true:=decide_eq_true c4
  clear c4
  obtain rfl:=Option.some.inj H
  go_enter Try.func42,Try.ntmps42
  go_wp2
  go_ret
  exact⟨a6_,a25_⟩
 ·rw[if_neg c4]at H
  have c4b0:decide (a1≤a0)=false:=decide_eq_false c4
  clear c4
  obtain rfl:=Option.some.inj H
  go_enter Try.func42,Try.ntmps42
  go_wp2
  go_ret
  exact⟨a6_,a25_⟩

/-! ### spec_shHole: function 40 -/
def spec_shHole.f (a0_0:Int) (a0_1:Int) (a0_2:Int):Option (Bool):=(spec_l1In.f a0_0 0 19).bind fun t106=>(if t106=true then((spec_l1In.f a0_1 0 1999).bind fun t107=>(if t107=true then((spec_l1In.f a0_2 (wrap64 (a0_1+1)) 2000).bind fun t108=>(some t108)) else(some false))) else(some false))
set_option maxHeartbeats 8000000 in
set_option maxRecDepth 100000 in
theorem spec_shHole.calls (a0_0:Int) (a0_1:Int) (a0_2:Int) (r:Bool) (w:World) (h:spec_shHole.f a0_0 a0_1 a0_2=some r) :
 Calls Try.prog 40 #[.agg #[.int .i64 a0_0, .int .i64 a0_1, .int .i64 a0_2]] w fun e w'=>e = .returned (.bool r)∧Below w.heap.size w w':=by
 have hu47:=Try.underlying47
 have HB:=am_ (Below.refl w.heap.size w)
 have H:((spec_l1In.f a0_0 0 19).bind fun t106=>(if t106=true then((spec_l1In.f a0_1 0 1999).bind fun t107=>(if t107=true then((spec_l1In.f a0_2 (wrap64 (a0_1+1)) 2000).bind fun t108=>(some t108)) else(some false))) else(some false)))=some r:=h
 clear h
 replace H:=Option.bind_eq_some_iff.mp H
 obtain⟨t106,A20,H⟩:=H
 replace H:(if t106=true then((spec_l1In.f a0_1 0 1999).bind fun t107=>(if t107=true then((spec_l1In.f a0_2 (wrap64 (a0_1+1)) 2000).bind fun t108=>(some t108)) else(some false))) else(some false))=some r:=H
 have A2:=am_ A20
 clear A20
 by_cases c3:t106=true
 ·subst c3
  replace H:((spec_l1In.f a0_1 0 1999).bind fun t107=>(if t107=true then((spec_l1In.f a0_2 (wrap64 (a0_1+1)) 2000).bind fun t108=>(some t108)) else(some false)))=some r:=by rw[if_pos rfl]at H;exact H
  replace H:=Option.bind_eq_some_iff.mp H
  obtain⟨t107,A40,H⟩:=H
  replace H:(if t107=true then((spec_l1In.f a0_2 (wrap64 (a0_1+1)) 2000).bind fun t108=>(some t108)) else(some false))=some r:=H
  have A4:=am_ A40
  clear A40
  by_cases c5:t107=true
  ·subst c5
   replace H:((spec_l1In.f a0_2 (wrap64 (a0_1+1)) 2000).bind fun t108=>(some t108))=some r:=by rw[if_pos rfl]at H;exact H
   replace H:=Option.bind_eq_some_iff.mp H
   obtain⟨t108,A60,H⟩:=H
   replace H:(some t108)=some r:=H
   have A6:=am_ A60
   clear A60
   obtain rfl:=Option.some.inj H
   go_enter Try.func40,Try.ntmps40
   go_wp2_with (first | ((with_reducible refine gate_dst (N:=1) rfl ?_);refine box_event ?hg (N:=1) ?hd (cs:= #[.int .i64 a0_0, .int .i64 a0_1, .int .i64 a0_2]) (t:=47) ?hr ?_;(case hd=>rfl);(case hg=>rfl);(case hr=>exact a12_);intro gb105 hg w7 hbox hb;have BK105:=am_ (hbox);have GW105:=am_ ((by rw[hg];exact(below_size (a0_)):w.heap.size≤gb105));have GE105:=am_ ((by rw[hg];exact(below_size (a0_)):w.heap.size≤gb105));replace HB:=am_ (below_step (a0_) hb);clear hb hbox hg;have hcz8_0:w7.cell? ⟨gb105,0,none⟩=some (.int .i64 a0_0):=(blk_cell BK105.out 0).trans rfl;have hcz8_1:w7.cell? ⟨gb105,1,none⟩=some (.int .i64 a0_1):=(blk_cell BK105.out 1).trans rfl;have hcz8_2:w7.cell? ⟨gb105,2,none⟩=some (.int .i64 a0_2):=(blk_cell BK105.out 2).trans rfl;have hfz8_0:=blk_frozen BK105.out 0;have hfz8_1:=blk_frozen BK105.out 1;have hfz8_2:=blk_frozen BK105.out 2) | ((with_reducible refine gate_callee (f:=42) rfl ?_);refine goesL_ (some 5) rfl rfl Try.func42 (by kernel_rfl) rfl #[.int .i64 a0_0, .int .i64 0, .int .i64 19] rfl (by(try simp only[List.map_toArray,List.map_cons,List.map_nil]);first | done | rfl | (simp only[List.length_drop,List.length_take];rfl)) ?_;(with_reducible refine(spec_l1In.calls a0_0 0 19 true _ A2.out).mono ?_);rintro e w' ⟨rfl,⟨nd,rfl⟩⟩;refine⟨_,rfl,?_⟩) | (go_at_call 42;(with_reducible refine(spec_l1In.calls a0_1 0 1999 true _ A4.out).mono ?_);rintro e w' ⟨rfl,⟨nd,rfl⟩⟩) | (go_at_call 42;(with_reducible refine(spec_l1In.calls a0_2 (wrap64 (a0_1+1)) 2000 t108 _ A6.out).mono ?_);rintro e w' ⟨rfl,⟨nd,rfl⟩⟩))
   go_ret
   exact⟨a5_,(a1_ GE105.out)⟩
  ·replace c5:=Bool.eq_false_iff.mpr c5
   subst c5
   replace H:(some false)=some r:=by rw[if_neg (show ¬(false=true) by decide)]at H;exact H
   obtain rfl:=Option.some.inj H
   go_enter Try.func40,Try.ntmps40
   go_wp2_with (first | ((with_reducible refine gate_dst (N:=1) rfl ?_);refine box_event ?hg (N:=1) ?hd (cs:= #[.int .i64 a0_0, .int .i64 a0_1, .int .i64 a0_2]) (t:=47) ?hr ?_;(case hd=>rfl);(case hg=>rfl);(case hr=>exact a12_);intro gb105 hg w9 hbox hb;have BK105:=am_ (hbox);have GW105:=am_ ((by rw[hg];exact(below_size (a0_)):w.heap.size≤gb105));have GE105:=am_ ((by rw[hg];exact(below_size (a0_)):w.heap.size≤gb105));replace HB:=am_ (below_step (a0_) hb);clear hb hbox hg;have hcz10_0:w9.cell? ⟨gb105,0,none⟩=some (.int .i64 a0_0):=(blk_cell BK105.out 0).trans rfl;have hcz10_1:w9.cell? ⟨gb105,1,none⟩=some (.int .i64 a0_1):=(blk_cell BK105.out 1).trans rfl;have hcz10_2:w9.cell? ⟨gb105,2,none⟩=some (.int .i64 a0_2):=(blk_cell BK105.out 2).trans rfl;have hfz10_0:=blk_frozen BK105.out 0;have hfz10_1:=blk_frozen BK105.out 1;have hfz10_2:=blk_frozen BK105.out 2) | ((with_reducible refine gate_callee (f:=42) rfl ?_);refine goesL_ (some 5) rfl rfl Try.func42 (by kernel_rfl) rfl #[.int .i64 a0_0, .int .i64 0, .int .i64 19] rfl (by(try simp only[List.map_toArray,List.map_cons,List.map_nil]);first | done | rfl | (simp only[List.length_drop,List.length_take];rfl)) ?_;(with_reducible refine(spec_l1In.calls a0_0 0 19 true _ A2.out).mono ?_);rintro e w' ⟨rfl,⟨nd,rfl⟩⟩;refine⟨_,rfl,?_⟩) | (go_at_call 42;(with_reducible refine(spec_l1In.calls a0_1 0 1999 false _ A4.out).mono ?_);rintro e w' ⟨rfl,⟨nd,rfl⟩⟩))
   go_ret
   exact⟨a5_,(a1_ GE105.out)⟩
 ·replace c3:=Bool.eq_false_iff.mpr c3
  subst c3
  replace H:(some false)=some r:=by rw[if_neg (show ¬(false=true) by decide)]at H;exact H
  obtain rfl:=Option.some.inj H
  go_enter Try.func40,Try.ntmps40
  go_wp2_with (first | ((with_reducible refine gate_dst (N:=1) rfl ?_);refine box_event ?hg (N:=1) ?hd (cs:= #[.int .i64 a0_0, .int .i64 a0_1, .int .i64 a0_2]) (t:=47) ?hr ?_;(case hd=>rfl);(case hg=>rfl);(case hr=>exact a12_);intro gb105 hg w11 hbox hb;have BK105:=am_ (hbox);have GW105:=am_ ((by rw[hg];exact(below_size (a0_)):w.heap.size≤gb105));have GE105:=am_ ((by rw[hg];exact(below_size (a0_)):w.heap.size≤gb105));replace HB:=am_ (below_step (a0_) hb);clear hb hbox hg;have hcz12_0:w11.cell? ⟨gb105,0,none⟩=some (.int .i64 a0_0):=(blk_cell BK105.out 0).trans rfl;have hcz12_1:w11.cell? ⟨gb105,1,none⟩=some (.int .i64 a0_1):=(blk_cell BK105.out 1).trans rfl;have hcz12_2:w11.cell? ⟨gb105,2,none⟩=some (.int .i64 a0_2):=(blk_cell BK105.out 2).trans rfl;have hfz12_0:=blk_frozen BK105.out 0;have hfz12_1:=blk_frozen BK105.out 1;have hfz12_2:=blk_frozen BK105.out 2) | ((with_reducible refine gate_callee (f:=42) rfl ?_);refine goesL_ (some 5) rfl rfl Try.func42 (by kernel_rfl) rfl #[.int .i64 a0_0, .int .i64 0, .int .i64 19] rfl (by(try simp only[List.map_toArray,List.map_cons,List.map_nil]);first | done | rfl | (simp only[List.length_drop,List.length_take];rfl)) ?_;(with_reducible refine(spec_l1In.calls a0_0 0 19 false _ A2.out).mono ?_);rintro e w' ⟨rfl,⟨nd,rfl⟩⟩;refine⟨_,rfl,?_⟩))
  go_ret
  exact⟨a5_,(a1_ GE105.out)⟩

end Go.Proofs.Ytbbiihhaljigjaa.QFnExactMakeEdition
