/- Written by a program of this session (the kit's printer, with leaf contracts proved by hand put in): what each Go function computes, and that the call computes it. No condition but those that each theorem names. -/
import Derived.Test.YtbbiihhaljigjaaQFnExactMakeEditionx0
import Derived.Test.YtbbiihhaljigjaaQFnExactMakeEditionx5
namespace Go.Proofs.Ytbbiihhaljigjaa.QFnExactMakeEdition
open Go.RowKit Go.Proofs.YtbbiihhaljigjaaW.PrintWords Go.Proofs.YtbbiihhaljigjaaW.PrintLast Go.Proofs.YtbbiihhaljigjaaW.PrintMore
attribute [local go_sem] max2_int min2_int max_two min_two max_three min_three max_four min_four   -- for this text's walks alone
set_option linter.unusedVariables false
set_option linter.unusedSimpArgs false

/-! ### laws_toHoleS: function 22 -/
def laws_toHoleS.l0:Nat→List (S65)→List (S47)→Int→Option ((List (S47)))
 | 0,_,_,_=>none
 | k+1,x0,x3,x4=>if x4<(x0.length:Int) then(if 0≤x4 then((laws_toHole.f ((rd_T65 x0 x4).f0) ((rd_T65 x0 x4).f1) ((rd_T65 x0 x4).f2)).bind fun bt207=>(if x4<(x3.length:Int) then(laws_toHoleS.l0 k x0 (x3.set (x4:Int).toNat (⟨bt207.1,bt207.2.1,bt207.2.2⟩:S47)) (wrap64 (x4+1))) else(none))) else(none)) else(some x3)
def laws_toHoleS.f (k:Nat) (l0:List (S65)):Option ((List (S47))):=if 0≤(l0.length:Int) then(if((l0.length:Int):Int).toNat≤11728124029610 then(laws_toHoleS.l0 k l0 (List.replicate ((l0.length:Int):Int).toNat z47) 0) else(none)) else(none)
theorem laws_toHoleS.mono_l:∀k,(∀y0 y1 y2,LeO (laws_toHoleS.l0 k y0 y1 y2) (laws_toHoleS.l0 (k+1) y0 y1 y2))
 | 0=>fun _ _ _ r h=>by simp[laws_toHoleS.l0]at h
 | k+1=>by
  have ih0:=laws_toHoleS.mono_l k
  ·intro y0 y1 y2
   unfold laws_toHoleS.l0
   repeat' first
   | (with_reducible exact ih0 _ _ _)
   | (with_reducible exact LeO.refl _)
   | (with_reducible exact LeO.none _)
   | (with_reducible refine LeO.ite ?_ ?_)
   | (with_reducible refine LeO.bind ?_ (fun _=>?_))
   | exact ih0 _ _ _
   | exact LeO.none _
   | refine LeO.ite ?_ ?_
   | refine LeO.bind ?_ (fun _=>?_)
theorem laws_toHoleS.mono:∀a0 k,LeO (laws_toHoleS.f k a0) (laws_toHoleS.f (k+1) a0):=by
 intro a0 k
 have ih0:=laws_toHoleS.mono_l k
 unfold laws_toHoleS.f
 repeat' first
  | (with_reducible exact ih0 _ _ _)
  | (with_reducible exact LeO.refl _)
  | (with_reducible exact LeO.none _)
  | (with_reducible refine LeO.ite ?_ ?_)
  | (with_reducible refine LeO.bind ?_ (fun _=>?_))
  | exact ih0 _ _ _
  | exact LeO.none _
  | refine LeO.ite ?_ ?_
  | refine LeO.bind ?_ (fun _=>?_)
set_option maxHeartbeats 8000000 in
set_option maxRecDepth 100000 in
theorem laws_toHoleS.calls (k:Nat) (A0:Option Addr) (c0:Nat) (l0:List (S65)) (r:List (S47)) (w:World) (hr0:Kd.C k65 w A0 l0.length l0) (hc0:l0.length≤c0) (h:laws_toHoleS.f k l0=some r) :
 Calls Try.prog 22 #[.slice A0 l0.length c0] w fun e w'=>∃v0_:Value,e = .returned (v0_)∧Kd.R k47 47 w' w.heap.size (fun _=>True) v0_ r∧Below w.heap.size w w':=by
 have hu65:=Try.underlying65
 have hu47:=Try.underlying47
 have HR0:=am_ hr0
 have HC0:=am_ hc0
 clear hr0 hc0
 have HB:=am_ (Below.refl w.heap.size w)
 have H:(if 0≤(l0.length:Int) then(if((l0.length:Int):Int).toNat≤11728124029610 then(laws_toHoleS.l0 k l0 (List.replicate ((l0.length:Int):Int).toNat z47) 0) else(none)) else(none))=some r:=h
 clear h
 by_cases c2:0≤(l0.length:Int)
 ·rw[if_pos c2]at H
  have c2b0:=eq_true c2
  have c2b1:decide (0≤(l0.length:Int))=true:=decide_eq_true c2
  clear c2
  by_cases c3:((l0.length:Int):Int).toNat≤11728124029610
  ·rw[if_pos c3]at H
   have c3b0:=eq_true c3
   have c3b1:decide (((l0.length:Int):Int).toNat≤11728124029610)=true:=decide_eq_true c3
   clear c3
   obtain⟨y203,hy203⟩:∃y_:List (S47),y_=(List.replicate ((l0.length:Int):Int).toNat z47):=⟨_,rfl⟩
   replace H:(laws_toHoleS.l0 k l0 y203 0)=some r:=by first | (rw[hy203];with_reducible exact H) | (have H2_:=(Option.bind_some _ _).symm.trans H;rw[hy203];with_reducible exact H2_) | (have H2_:=(Option.bind_some _ _).symm.trans H;with_reducible exact H2_) | with_reducible exact H | (rw[hy203];exact H) | exact H
   have Ny203:=am_ hy203
   clear hy203
   have H':=am_ H
   clear H
   go_enter Try.func22,Try.ntmps22
   go_wp2_with (first | ((with_reducible refine gate_dst (N:=7) rfl ?_);refine Kd.R_make k47 _ 47 rfl (N:=7) rfl 26 _ _ rfl (l0.length:Int) rfl rfl Try.underlying26 (.agg #[(.int .i64 0),(.int .i64 0),(.int .i64 0)]) 24 info47 rfl (by decide) (by omega) z47 (ok:=fun _=>True) (okp:=fun _=>True) (k47_mkM _ _ _ z47 ) (fun _ hk=>hk) trivial (of_decide_eq_true (a4_)) (Nat.le_trans (Nat.mul_le_mul_right _ (of_decide_eq_true (a4_):(l0.length:Int).toNat≤11728124029610)) (by omega)) (Below.refl _ _) (Nat.le_refl _) ?_;intro v204 w4 ho5 hb hg_ hnew_;clear hg_ hnew_;(first | rw[← Ny203.out]at ho5 | (simp only[Int.reduceToNat]at ho5;rw[← Ny203.out]at ho5));have HO205:=am_ (Kd.R_lower ho5 (below_size (a0_)));replace HB:=am_ (below_step (a0_) hb);clear hb ho5))
   go_loopg [4] k (fun kq v4 w'=>∃(x3_1:List (S47)) (x4_1:Int),v4 = .int .i64 x4_1∧Aside0 (laws_toHoleS.l0 kq l0 x3_1 x4_1=some r)∧Aside0 (kq≤k)∧Aside0 (Kd.R k47 47 w' w.heap.size (fun _=>True) v204 x3_1)∧Aside0 (Below w.heap.size w w'))
   case atStart=>exact⟨(y203),(0),(a6_),H',⟨Nat.le_refl _⟩,⟨(a2_ HO205.out)⟩,⟨a0_⟩⟩
   case round=>
    clear H'
    try clear c2
    try clear c2b0
    try clear c2b1
    try clear p2
    try clear c3
    try clear c3b0
    try clear c3b1
    obtain⟨x3_1,x4_1,rfl,HA,HK1,HO_3,HB⟩:=hrel
    cases gk with
    | zero=>exact absurd HA.out (by simp[laws_toHoleS.l0])
    | succ k1=>
     have H:=HA.out
     clear HA
     simp only[laws_toHoleS.l0]at H
     by_cases c6:x4_1<(l0.length:Int)
     ·rw[if_pos c6]at H
      have c6b0:decide (x4_1<(l0.length:Int))=true:=decide_eq_true c6
      clear c6
      by_cases c7:0≤x4_1
      ·rw[if_pos c7]at H
       have c7b0:decide (0≤x4_1)=true:=decide_eq_true c7
       clear c7
       replace H:=Option.bind_eq_some_iff.mp H
       obtain⟨⟨t207,t208,t209⟩,A80,H⟩:=H
       replace H:(if x4_1<(x3_1.length:Int) then(laws_toHoleS.l0 k1 l0 (x3_1.set (x4_1:Int).toNat (⟨t207,t208,t209⟩:S47)) (wrap64 (x4_1+1))) else(none))=some r:=H
       have A8:=am_ A80
       clear A80
       by_cases c9:x4_1<(x3_1.length:Int)
       ·rw[if_pos c9]at H
        have c9b0:decide (x4_1<(x3_1.length:Int))=true:=decide_eq_true c9
        clear c9
        obtain⟨y210,hy210⟩:∃y_:List (S47),y_=(x3_1.set (x4_1:Int).toNat (⟨t207,t208,t209⟩:S47)):=⟨_,rfl⟩
        replace H:(laws_toHoleS.l0 k1 l0 y210 (wrap64 (x4_1+1)))=some r:=by first | (rw[hy210];with_reducible exact H) | (have H2_:=(Option.bind_some _ _).symm.trans H;rw[hy210];with_reducible exact H2_) | (have H2_:=(Option.bind_some _ _).symm.trans H;with_reducible exact H2_) | with_reducible exact H | (rw[hy210];exact H) | exact H
        have Ny210:=am_ hy210
        clear hy210
        have H':=am_ H
        clear H
        have p206:0≤(x4_1:Int):=of_decide_eq_true (a4_)
        have q206:x4_1<(l0.length:Int):=of_decide_eq_true (a4_)
        obtain⟨ad206,e206,hx206_0,hx206_1,hx206_2⟩:=at_T65 HR0.out x4_1 p206 q206
        cases e206
        replace hx206_0:=(HB.out.cell (World.block_lt_of_cell? w _ hx206_0)).trans hx206_0
        replace hx206_1:=(HB.out.cell (World.block_lt_of_cell? w _ hx206_1)).trans hx206_1
        replace hx206_2:=(HB.out.cell (World.block_lt_of_cell? w _ hx206_2)).trans hx206_2
        replace p206:=eq_true p206
        replace q206:=eq_true q206
        go_wp2_with (first | ((with_reducible refine gate_callee (f:=34) rfl ?_);refine goesL_ (some 20) rfl rfl Try.func34 (by kernel_rfl) rfl #[.agg #[.int .i64 ((rd_T65 l0 x4_1).f0), .int .i64 ((rd_T65 l0 x4_1).f1), .int .i64 ((rd_T65 l0 x4_1).f2)]] rfl (by(try simp only[List.map_toArray,List.map_cons,List.map_nil]);first | done | rfl | (simp only[List.length_drop,List.length_take];rfl)) ?_;(with_reducible refine(laws_toHole.calls ((rd_T65 l0 x4_1).f0) ((rd_T65 l0 x4_1).f1) ((rd_T65 l0 x4_1).f2) t207 t208 t209 _ A8.out).mono ?_);rintro e w11 ⟨rfl,hb⟩;refine⟨_,rfl,?_⟩;replace HO_3:=am_ (Kd.R_below ((a2_ HO_3.out)) hb);replace HB:=am_ (below_step (a0_) hb);(try clear hb);(try clear hb2);(try clear hk);(try clear hi);have p10:0≤(x4_1:Int):=of_decide_eq_true (a4_);have q10:(x4_1:Int)<((x3_1.length:Int):Int):=of_decide_eq_true (a4_);obtain⟨go10,co10,eo10,gb10,gl10,cl10,HG10⟩:=Kd.R_form HO_3.out (by omega);(first | cases eo10 | (injection eo10 with ea_ en_ ec_;(first | subst ea_ | (injection ea_ with ea_;subst ea_));subst ec_;clear en_));have GB10:=am_ gb10;have GG10:=am_ HG10;clear gb10 gl10 HG10;obtain⟨ce10,hcl10,hM10,hcc10,hfr10⟩:=Kd.R_elem HO_3.out z47 (x4_1:Int) p10 q10;obtain rfl:=k47_openM hM10;have hx10_0:w11.cell? ⟨go10,(x4_1:Int).toNat*3,none⟩=some (.int .i64 ((rd_T47 x3_1 x4_1).f0)):=hcc10 0 _ rfl;have hx10_1:w11.cell? ⟨go10,(x4_1:Int).toNat*3+1,none⟩=some (.int .i64 ((rd_T47 x3_1 x4_1).f1)):=hcc10 1 _ rfl;have hx10_2:w11.cell? ⟨go10,(x4_1:Int).toNat*3+2,none⟩=some (.int .i64 ((rd_T47 x3_1 x4_1).f2)):=hcc10 2 _ rfl;have hf10_0:w11.frozen? ⟨go10,(x4_1:Int).toNat*3,none⟩=false:=hfr10 0;have hf10_1:w11.frozen? ⟨go10,(x4_1:Int).toNat*3+1,none⟩=false:=hfr10 1;have hf10_2:w11.frozen? ⟨go10,(x4_1:Int).toNat*3+2,none⟩=false:=hfr10 2;clear hcl10 hcc10 hfr10;(try clear hM10);replace p10:=eq_true p10;replace q10:=eq_true q10;have HX12:=am_ (show Kd.R k47 47 w11 w.heap.size (fun _=>True) (.slice (some ⟨go10,0,none⟩) x3_1.length co10) x3_1 from((a2_ HO_3.out)));obtain⟨ce12,hcl12,hM12,hcc12,hfr12⟩:=Kd.R_elem HX12.out z47 (x4_1:Int) (of_decide_eq_true (a4_)) (by have h_:(x4_1:Int)<((x3_1.length:Int):Int):=of_decide_eq_true (a4_);first | exact h_ | (have e_:=(Kd.R_reads' HO_3.out).1;omega) | simpa using h_);obtain rfl:=k47_openM hM12;have HP12:=Kd.R_seg HX12.out (x4_1:Int) (of_decide_eq_true (a4_)) (by have h_:(x4_1:Int)<((x3_1.length:Int):Int):=of_decide_eq_true (a4_);first | exact h_ | (have e_:=(Kd.R_reads' HO_3.out).1;omega) | simpa using h_) (seg:=[.int .i64 t207, .int .i64 t208, .int .i64 t209]) (j:=0) hcl12 hcc12 (show 3≤3 from by decide) (x':=(⟨t207,t208,t209⟩:S47)) (k47_mkM _ _ _ (⟨t207,t208,t209⟩:S47) ) (fun _ hk=>hk);have hx12_0:=hcc12 0 _ rfl;(try simp only[show(k47).sz=3 from rfl,Nat.mul_one,Nat.add_zero]at hx12_0);have hf12_0:=hfr12 0;(try simp only[show(k47).sz=3 from rfl,Nat.mul_one,Nat.add_zero]at hf12_0);have hx12_1:=hcc12 1 _ rfl;(try simp only[show(k47).sz=3 from rfl,Nat.mul_one,Nat.add_zero]at hx12_1);have hf12_1:=hfr12 1;(try simp only[show(k47).sz=3 from rfl,Nat.mul_one,Nat.add_zero]at hf12_1);have hx12_2:=hcc12 2 _ rfl;(try simp only[show(k47).sz=3 from rfl,Nat.mul_one,Nat.add_zero]at hx12_2);have hf12_2:=hfr12 2;(try simp only[show(k47).sz=3 from rfl,Nat.mul_one,Nat.add_zero]at hf12_2);clear hcl12 hcc12 hfr12;(try clear hM12)) | ((with_reducible refine gate_store (t:=47) (p:=21) rfl ?_);refine store_event (t:=47) (p:=21) (v:=?vo_w13) (w1:=(((w11.setCell ⟨go10,(x4_1:Int).toNat*3,none⟩ (.int .i64 t207)).setCell ⟨go10,(x4_1:Int).toNat*3+1,none⟩ (.int .i64 t208)).setCell ⟨go10,(x4_1:Int).toNat*3+2,none⟩ (.int .i64 t209))) ?hg ?ho ?hn ?hr ?_;(case ho=>rfl);(case hg=>rfl);(case hn=>rfl);(case hr=>exact a12_);intro w13 hw;have hg:w11.grownBy w13 (some go10):=(by rw[hw];exact HP12.2);have hp_:Kd.R k47 47 w13 w.heap.size (fun _=>True) (.slice (some ⟨go10,0,none⟩) x3_1.length co10) y210:=(by rw[hw,Ny210.out];exact HP12.1);clear HP12;replace HO_3:=am_ (hp_);replace HB:=am_ ((by rw[hw];exact below_set (below_set (below_set (HB.out) GB10.out) GB10.out) GB10.out:Below w.heap.size w w13));clear hg hw hp_))
        go_roundg k1
        case measure=>have:=HK1.out;omega
        case rel=>exact⟨(y210),(wrap64 (x4_1+1)),(a6_),H',⟨by have:=HK1.out;omega⟩,⟨(a2_ HO_3.out)⟩,⟨a0_⟩⟩
       ·rw[if_neg c9]at H
        exact absurd H (by simp)
      ·rw[if_neg c7]at H
       exact absurd H (by simp)
     ·rw[if_neg c6]at H
      have c6b0:decide (x4_1<(l0.length:Int))=false:=decide_eq_false c6
      clear c6
      obtain rfl:=Option.some.inj H
      go_wp2
      go_ret
      exact⟨_,a5_,(a2_ HO_3.out),a0_⟩
  ·rw[if_neg c3]at H
   exact absurd H (by simp)
 ·rw[if_neg c2]at H
  exact absurd H (by simp)

/-! ### laws_toHoleSS: function 7 -/
def laws_toHoleSS.l0:Nat→List (List (S65))→List (List (S47))→Int→Option ((List (List (S47))))
 | 0,_,_,_=>none
 | k+1,x0,x3,x4=>if x4<(x0.length:Int) then(if 0≤x4 then((laws_toHoleS.f k (rd_L2 x0 x4)).bind fun t215=>(if x4<(x3.length:Int) then(laws_toHoleSS.l0 k x0 (x3.set (x4:Int).toNat t215) (wrap64 (x4+1))) else(none))) else(none)) else(some x3)
def laws_toHoleSS.f (k:Nat) (l0:List (List (S65))):Option ((List (List (S47)))):=if 0≤(l0.length:Int) then(if((l0.length:Int):Int).toNat≤11728124029610 then(laws_toHoleSS.l0 k l0 (List.replicate ((l0.length:Int):Int).toNat []) 0) else(none)) else(none)
theorem laws_toHoleSS.mono_l:∀k,(∀y0 y1 y2,LeO (laws_toHoleSS.l0 k y0 y1 y2) (laws_toHoleSS.l0 (k+1) y0 y1 y2))
 | 0=>fun _ _ _ r h=>by simp[laws_toHoleSS.l0]at h
 | k+1=>by
  have ih0:=laws_toHoleSS.mono_l k
  ·intro y0 y1 y2
   unfold laws_toHoleSS.l0
   repeat' first
   | (with_reducible exact ih0 _ _ _)
   | (with_reducible exact laws_toHoleS.mono _ _)
   | (with_reducible exact LeO.refl _)
   | (with_reducible exact LeO.none _)
   | (with_reducible refine LeO.ite ?_ ?_)
   | (with_reducible refine LeO.bind ?_ (fun _=>?_))
   | exact ih0 _ _ _
   | exact laws_toHoleS.mono _ _
   | exact LeO.none _
   | refine LeO.ite ?_ ?_
   | refine LeO.bind ?_ (fun _=>?_)
theorem laws_toHoleSS.mono:∀a0 k,LeO (laws_toHoleSS.f k a0) (laws_toHoleSS.f (k+1) a0):=by
 intro a0 k
 have ih0:=laws_toHoleSS.mono_l k
 unfold laws_toHoleSS.f
 repeat' first
  | (with_reducible exact ih0 _ _ _)
  | (with_reducible exact laws_toHoleS.mono _ _)
  | (with_reducible exact LeO.refl _)
  | (with_reducible exact LeO.none _)
  | (with_reducible refine LeO.ite ?_ ?_)
  | (with_reducible refine LeO.bind ?_ (fun _=>?_))
  | exact ih0 _ _ _
  | exact laws_toHoleS.mono _ _
  | exact LeO.none _
  | refine LeO.ite ?_ ?_
  | refine LeO.bind ?_ (fun _=>?_)
set_option maxHeartbeats 8000000 in
set_option maxRecDepth 100000 in
theorem laws_toHoleSS.calls (k:Nat) (A0:Option Addr) (c0:Nat) (l0:List (List (S65))) (r:List (List (S47))) (w:World) (hr0:Kd.C (Kd.slice 65 k65) w A0 l0.length l0) (hc0:l0.length≤c0) (h:laws_toHoleSS.f k l0=some r) :
 Calls Try.prog 7 #[.slice A0 l0.length c0] w fun e w'=>∃v0_:Value,e = .returned (v0_)∧Kd.S (Kd.slice 47 k47) 26 w' w.heap.size (fun _=>True) v0_ r∧Below w.heap.size w w':=by
 have HR0:=am_ hr0
 have HC0:=am_ hc0
 clear hr0 hc0
 have HB:=am_ (Below.refl w.heap.size w)
 have H:(if 0≤(l0.length:Int) then(if((l0.length:Int):Int).toNat≤11728124029610 then(laws_toHoleSS.l0 k l0 (List.replicate ((l0.length:Int):Int).toNat []) 0) else(none)) else(none))=some r:=h
 clear h
 by_cases c2:0≤(l0.length:Int)
 ·rw[if_pos c2]at H
  have c2b0:=eq_true c2
  have c2b1:decide (0≤(l0.length:Int))=true:=decide_eq_true c2
  clear c2
  by_cases c3:((l0.length:Int):Int).toNat≤11728124029610
  ·rw[if_pos c3]at H
   have c3b0:=eq_true c3
   have c3b1:decide (((l0.length:Int):Int).toNat≤11728124029610)=true:=decide_eq_true c3
   clear c3
   obtain⟨y211,hy211⟩:∃y_:List (List (S47)),y_=(List.replicate ((l0.length:Int):Int).toNat []):=⟨_,rfl⟩
   replace H:(laws_toHoleSS.l0 k l0 y211 0)=some r:=by first | (rw[hy211];with_reducible exact H) | (have H2_:=(Option.bind_some _ _).symm.trans H;rw[hy211];with_reducible exact H2_) | (have H2_:=(Option.bind_some _ _).symm.trans H;with_reducible exact H2_) | with_reducible exact H | (rw[hy211];exact H) | exact H
   have Ny211:=am_ hy211
   clear hy211
   have H':=am_ H
   clear H
   go_enter Try.func7,Try.ntmps7
   go_wp2_with (first | ((with_reducible refine gate_dst (N:=7) rfl ?_);refine Kd.S_make (Kd.slice 47 k47) _ 26 rfl (N:=7) rfl 29 _ _ rfl (l0.length:Int) rfl rfl Try.underlying29 (.slice none 0 0) 24 info26 rfl (by decide) (by omega) [] (ok:=fun _=>True) (okp:=fun _=>True) ⟨_,rfl,Kd.R_nil _ _ _ _ _⟩ (fun _ hk=>hk) trivial (of_decide_eq_true (a4_)) (Nat.le_trans (Nat.mul_le_mul_right _ (of_decide_eq_true (a4_):(l0.length:Int).toNat≤11728124029610)) (by omega)) (Below.refl _ _) (Nat.le_refl _) ?_;intro v212 w4 ho5 hb hg_ hnew_;clear hg_ hnew_;(first | rw[← Ny211.out]at ho5 | (simp only[Int.reduceToNat]at ho5;rw[← Ny211.out]at ho5));have HO213:=am_ (Kd.S_lower ho5 (below_size (a0_)));replace HB:=am_ (below_step (a0_) hb);clear hb ho5))
   go_loopg [4] k (fun kq v4 w'=>∃(x3_1:List (List (S47))) (x4_1:Int),v4 = .int .i64 x4_1∧Aside0 (laws_toHoleSS.l0 kq l0 x3_1 x4_1=some r)∧Aside0 (kq≤k)∧Aside0 (Kd.S (Kd.slice 47 k47) 26 w' w.heap.size (fun _=>True) v212 x3_1)∧Aside0 (Below w.heap.size w w'))
   case atStart=>exact⟨(y211),(0),(a6_),H',⟨Nat.le_refl _⟩,⟨(a10_ HO213.out)⟩,⟨a0_⟩⟩
   case round=>
    clear H'
    try clear c2
    try clear c2b0
    try clear c2b1
    try clear p2
    try clear c3
    try clear c3b0
    try clear c3b1
    obtain⟨x3_1,x4_1,rfl,HA,HK1,HO_3,HB⟩:=hrel
    cases gk with
    | zero=>exact absurd HA.out (by simp[laws_toHoleSS.l0])
    | succ k1=>
     have H:=HA.out
     clear HA
     simp only[laws_toHoleSS.l0]at H
     by_cases c6:x4_1<(l0.length:Int)
     ·rw[if_pos c6]at H
      have c6b0:decide (x4_1<(l0.length:Int))=true:=decide_eq_true c6
      clear c6
      by_cases c7:0≤x4_1
      ·rw[if_pos c7]at H
       have c7b0:decide (0≤x4_1)=true:=decide_eq_true c7
       clear c7
       replace H:=Option.bind_eq_some_iff.mp H
       obtain⟨t215,A80,H⟩:=H
       replace H:(if x4_1<(x3_1.length:Int) then(laws_toHoleSS.l0 k1 l0 (x3_1.set (x4_1:Int).toNat t215) (wrap64 (x4_1+1))) else(none))=some r:=H
       have A8:=am_ A80
       clear A80
       by_cases c9:x4_1<(x3_1.length:Int)
       ·rw[if_pos c9]at H
        have c9b0:decide (x4_1<(x3_1.length:Int))=true:=decide_eq_true c9
        clear c9
        obtain⟨y218,hy218⟩:∃y_:List (List (S47)),y_=(x3_1.set (x4_1:Int).toNat t215):=⟨_,rfl⟩
        replace H:(laws_toHoleSS.l0 k1 l0 y218 (wrap64 (x4_1+1)))=some r:=by first | (rw[hy218];with_reducible exact H) | (have H2_:=(Option.bind_some _ _).symm.trans H;rw[hy218];with_reducible exact H2_) | (have H2_:=(Option.bind_some _ _).symm.trans H;with_reducible exact H2_) | with_reducible exact H | (rw[hy218];exact H) | exact H
        have Ny218:=am_ hy218
        clear hy218
        have H':=am_ H
        clear H
        have p214:0≤(x4_1:Int):=of_decide_eq_true (a4_)
        have q214:x4_1<(l0.length:Int):=of_decide_eq_true (a4_)
        obtain⟨ad214,A214_0,c214_0,e214,hx214_0,hl214_0,hi214_0⟩:=at_L2 HR0.out x4_1 p214 q214
        cases e214
        replace hx214_0:=(HB.out.cell (World.block_lt_of_cell? w _ hx214_0)).trans hx214_0
        have HR214_0:=am_ hi214_0
        have HC214_0:=am_ hl214_0
        clear hi214_0 hl214_0
        replace p214:=eq_true p214
        replace q214:=eq_true q214
        go_wp2_with (first | ((with_reducible refine gate_callee (f:=22) rfl ?_);refine goesL_ (some 20) rfl rfl Try.func22 (by kernel_rfl) rfl #[.slice A214_0 (rd_L2 l0 x4_1).length c214_0] rfl (by(try simp only[List.map_toArray,List.map_cons,List.map_nil]);first | done | rfl | (simp only[List.length_drop,List.length_take];rfl)) ?_;(with_reducible refine(laws_toHoleS.calls k1 _ _ (rd_L2 l0 x4_1) t215 _ ?side1 ?side2 A8.out).mono ?_);(case side1=>exact(a11_ HR214_0.out));(case side2=>exact HC214_0.out);rintro e w11 ⟨v216,rfl,ho0,hb⟩;refine⟨_,rfl,?_⟩;replace HO_3:=am_ (Kd.S_elder' ((a10_ HO_3.out)) (Kd.R_base ho0) hb);have HO217:=am_ (Kd.R_lower ho0 (below_size (a0_)));replace HB:=am_ (below_step (a0_) hb);(try clear hb);(try clear hb2);(try clear hk);(try clear hi);(try clear ho0);have p10:0≤(x4_1:Int):=of_decide_eq_true (a4_);have q10:(x4_1:Int)<((x3_1.length:Int):Int):=of_decide_eq_true (a4_);obtain⟨go10,co10,eo10,gb10,gl10,cl10,HG10⟩:=Kd.S_form HO_3.out (by omega);(first | cases eo10 | (injection eo10 with ea_ en_ ec_;(first | subst ea_ | (injection ea_ with ea_;subst ea_));subst ec_;clear en_));have GB10:=am_ gb10;have GG10:=am_ HG10;clear gb10 gl10 HG10;obtain⟨_,ce10,hcl10,hM10,hcc10,hfr10,_,_⟩:=Kd.S_elem HO_3.out [] (x4_1:Int) p10 q10;obtain⟨ve10_0,rfl,ge10_0⟩:=hM10;have hx10_0:=hcc10 0 _ rfl;have hf10_0:=hfr10 0;(try simp only[show((Kd.slice 47 k47)).sz=1 from rfl,Nat.mul_one,Nat.add_zero]at hx10_0);(try simp only[show((Kd.slice 47 k47)).sz=1 from rfl,Nat.mul_one,Nat.add_zero]at hf10_0);clear hcl10 hcc10 hfr10;(try clear hM10);replace p10:=eq_true p10;replace q10:=eq_true q10;have n_:=am_ (Kd.S_mono (ok':=(fun k_=>some k_≠(v216:Value).ownBlock)) HO_3.out (fun k_ hk=>hk.2));clear HO_3;have HO_3:=n_;clear n_;have HX12:=am_ (show Kd.S (Kd.slice 47 k47) 26 w11 w.heap.size (fun k_=>((fun _=>True)) k_∧¬((fun k_=>some k_=(v216:Value).ownBlock)) k_) (.slice (some ⟨go10,0,none⟩) x3_1.length co10) x3_1 from(by(with_reducible repeat (first | apply Kd.S_alloc | apply Kd.S_drewN | apply Kd.S_drew));exact Kd.S_mono HO_3.out (fun k_ hk=>⟨trivial,fun e_=>hk e_⟩)));obtain⟨oki12,ce12,hcl12,hM12,hcc12,hfr12,hoki12,hH12⟩:=Kd.S_elem HX12.out [] (x4_1:Int) (of_decide_eq_true (a4_)) (by have h_:(x4_1:Int)<((x3_1.length:Int):Int):=of_decide_eq_true (a4_);first | exact h_ | (have e_:=(Kd.S_reads' HO_3.out).1;omega) | simpa using h_);obtain⟨ve12_0,rfl,ge12_0⟩:=hM12;have HP12:=Kd.S_seg hH12 (of_decide_eq_true (a4_)) (by have h_:(x4_1:Int)<((x3_1.length:Int):Int):=of_decide_eq_true (a4_);first | exact h_ | (have e_:=(Kd.S_reads' HO_3.out).1;omega) | simpa using h_) (seg:=[v216]) (j:=0) (show 1≤1 from by decide) (x':=t215) (Kd.M_row (Kd.R_mono (Kd.R_tight rfl (Kd.R_mono (ok':=fun k_=>((fun _=>True)) k_∧k_≠go10) (Kd.R_apart' (HO217.out) (Kd.S_typed HO_3.out) (by decide)) (fun k_ hk=>⟨trivial,fun e_=>(hk.2) (by rw[e_];rfl)⟩))) (fun _ h_=>Or.inr (h_)))) (fun _ hk=>hk) (fun k_ hk_=>((Kd.R_mono (ok':=fun k_=>((fun _=>True)) k_∧k_≠go10) (Kd.R_apart' (HO217.out) (Kd.S_typed HO_3.out) (by decide)) (fun k_ hk=>⟨trivial,fun e_=>(hk.2) (by rw[e_];rfl)⟩))).1 k_ hk_.symm);have hx12_0:=hcc12 0 _ rfl;(try simp only[show((Kd.slice 47 k47)).sz=1 from rfl,Nat.mul_one,Nat.add_zero]at hx12_0);have hf12_0:=hfr12 0;(try simp only[show((Kd.slice 47 k47)).sz=1 from rfl,Nat.mul_one,Nat.add_zero]at hf12_0);clear hcl12 hcc12 hfr12 hoki12 hH12;(try clear hM12);(try simp only[show((Kd.slice 47 k47)).sz=1 from rfl,Nat.mul_one,Nat.add_zero]at HP12)) | ((with_reducible refine gate_store (t:=26) (p:=21) rfl ?_);refine store_event (t:=26) (p:=21) (v:=?vo_w13) (w1:=(w11.setCell ⟨go10,(x4_1:Int).toNat,none⟩ (v216))) ?hg ?ho ?hn ?hr ?_;(case ho=>rfl);(case hg=>rfl);(case hn=>rfl);(case hr=>first | (go_simp;done) | (go_simp;rfl) | (obtain⟨A_,c_,e_,_⟩:=Kd.R_reads HO217.out;subst e_;first | (go_simp;done) | (go_simp;rfl)));intro w13 hw;have hg:w11.grownBy w13 (some go10):=(by rw[hw];exact HP12.2);have hp_:Kd.S (Kd.slice 47 k47) 26 w13 w.heap.size (fun _=>True) (.slice (some ⟨go10,0,none⟩) x3_1.length co10) y218:=(by rw[hw,Ny218.out];exact HP12.1);clear HP12;have n0_:=am_ (hp_);have n1_:=am_ ((by rw[hw];exact below_set (HB.out) GB10.out:Below w.heap.size w w13));clear HO_3 HB HO217;have HO_3:=n0_;have HB:=n1_;clear n0_ n1_ hg hw hp_))
        go_roundg k1
        case measure=>have:=HK1.out;omega
        case rel=>exact⟨(y218),(wrap64 (x4_1+1)),(a6_),H',⟨by have:=HK1.out;omega⟩,⟨(a10_ HO_3.out)⟩,⟨a0_⟩⟩
       ·rw[if_neg c9]at H
        exact absurd H (by simp)
      ·rw[if_neg c7]at H
       exact absurd H (by simp)
     ·rw[if_neg c6]at H
      have c6b0:decide (x4_1<(l0.length:Int))=false:=decide_eq_false c6
      clear c6
      obtain rfl:=Option.some.inj H
      go_wp2
      go_ret
      exact⟨_,a5_,(a10_ HO_3.out),a0_⟩
  ·rw[if_neg c3]at H
   exact absurd H (by simp)
 ·rw[if_neg c2]at H
  exact absurd H (by simp)

/-! ### laws_toPart: function 23 -/
def laws_toPart.f (a0_0:Int) (a0_1:Int) (a0_2:Int):Option (Int×Int×Int):=some (a0_0,a0_1,a0_2)
set_option maxHeartbeats 8000000 in
set_option maxRecDepth 100000 in
theorem laws_toPart.calls (a0_0:Int) (a0_1:Int) (a0_2:Int) (r1:Int) (r2:Int) (r3:Int) (w:World) (h:laws_toPart.f a0_0 a0_1 a0_2=some (r1,r2,r3)) :
 Calls Try.prog 23 #[.agg #[.int .i64 a0_0, .int .i64 a0_1, .int .i64 a0_2]] w fun e w'=>e = .returned (.agg #[.int .i64 r1, .int .i64 r2, .int .i64 r3])∧Below w.heap.size w w':=by
 have hu52:=Try.underlying52
 have hu44:=Try.underlying44
 have HB:=am_ (Below.refl w.heap.size w)
 have H:(some (a0_0,a0_1,a0_2))=some (r1,r2,r3):=h
 clear h
 simp only[Option.some.injEq,Prod.mk.injEq]at H
 obtain⟨rfl,rfl,rfl⟩:=H
 go_enter Try.func23,Try.ntmps23
 go_wp2_with (first | ((with_reducible refine gate_dst (N:=1) rfl ?_);refine box_event ?hg (N:=1) ?hd (cs:= #[.int .i64 a0_0, .int .i64 a0_1, .int .i64 a0_2]) (t:=52) ?hr ?_;(case hd=>rfl);(case hg=>rfl);(case hr=>exact a12_);intro gb219 hg w2 hbox hb;have BK219:=am_ (hbox);have GW219:=am_ ((by rw[hg];exact(below_size (a0_)):w.heap.size≤gb219));have GE219:=am_ ((by rw[hg];exact(below_size (a0_)):w.heap.size≤gb219));replace HB:=am_ (below_step (a0_) hb);clear hb hbox hg) | ((with_reducible refine gate_dst (N:=2) rfl ?_);refine box_event ?hg (N:=2) ?hd (cs:= #[.int .i64 0, .int .i64 0, .int .i64 0]) (t:=44) ?hr ?_;(case hd=>rfl);(case hg=>rfl);(case hr=>exact a12_);intro gb220 hg w3 hbox hb;have BK220:=am_ (hbox);have GW220:=am_ ((by rw[hg];exact(below_size ((a1_ GE219.out))):w.heap.size≤gb220));have GE220:=am_ ((by rw[hg];exact(below_size ((a1_ GE219.out))):w.heap.size≤gb220));replace HB:=am_ (below_step ((a1_ GE219.out)) hb);have NB219_220:=am_ ((by rw[hg];exact Nat.ne_of_lt (blk_lt (g:=gb219) (o:= .cells #[.int .i64 a0_0, .int .i64 a0_1, .int .i64 a0_2] 52 (0,0)) ((a3_ BK219.out))):gb219≠gb220));have NB220_219:=am_ ((by rw[hg];exact Nat.ne_of_gt (blk_lt (g:=gb219) (o:= .cells #[.int .i64 a0_0, .int .i64 a0_1, .int .i64 a0_2] 52 (0,0)) ((a3_ BK219.out))):gb220≠gb219));replace BK219:=am_ (blk_below (g:=gb219) (o:= .cells #[.int .i64 a0_0, .int .i64 a0_1, .int .i64 a0_2] 52 (0,0)) ((a3_ BK219.out)) hb);clear hb hbox hg) | ((with_reducible refine gate_dst (N:=3) rfl ?_);refine box_event ?hg (N:=3) ?hd (cs:= #[.int .i64 0, .int .i64 0, .int .i64 0]) (t:=44) ?hr ?_;(case hd=>rfl);(case hg=>rfl);(case hr=>exact a12_);intro gb221 hg w4 hbox hb;have BK221:=am_ (hbox);have GW221:=am_ ((by rw[hg];exact(below_size ((a7_ GE219.out GE220.out))):w.heap.size≤gb221));have GE221:=am_ ((by rw[hg];exact(below_size ((a7_ GE219.out GE220.out))):w.heap.size≤gb221));replace HB:=am_ (below_step ((a7_ GE219.out GE220.out)) hb);have NB219_221:=am_ ((by rw[hg];exact Nat.ne_of_lt (blk_lt (g:=gb219) (o:= .cells #[.int .i64 a0_0, .int .i64 a0_1, .int .i64 a0_2] 52 (0,0)) ((a3_ BK219.out))):gb219≠gb221));have NB221_219:=am_ ((by rw[hg];exact Nat.ne_of_gt (blk_lt (g:=gb219) (o:= .cells #[.int .i64 a0_0, .int .i64 a0_1, .int .i64 a0_2] 52 (0,0)) ((a3_ BK219.out))):gb221≠gb219));replace BK219:=am_ (blk_below (g:=gb219) (o:= .cells #[.int .i64 a0_0, .int .i64 a0_1, .int .i64 a0_2] 52 (0,0)) ((a3_ BK219.out)) hb);have NB220_221:=am_ ((by rw[hg];exact Nat.ne_of_lt (blk_lt (g:=gb220) (o:= .cells #[.int .i64 0, .int .i64 0, .int .i64 0] 44 (0,0)) ((a3_ BK220.out))):gb220≠gb221));have NB221_220:=am_ ((by rw[hg];exact Nat.ne_of_gt (blk_lt (g:=gb220) (o:= .cells #[.int .i64 0, .int .i64 0, .int .i64 0] 44 (0,0)) ((a3_ BK220.out))):gb221≠gb220));replace BK220:=am_ (blk_below (g:=gb220) (o:= .cells #[.int .i64 0, .int .i64 0, .int .i64 0] 44 (0,0)) ((a3_ BK220.out)) hb);clear hb hbox hg;have hnb5:=NB219_220.out;have hnc5:=NB220_219.out;have hnb6:=NB219_221.out;have hnc6:=NB221_219.out;have hcz7_0:w4.cell? ⟨gb219,0,none⟩=some (.int .i64 a0_0):=(blk_cell BK219.out 0).trans rfl;have hcz7_1:w4.cell? ⟨gb219,1,none⟩=some (.int .i64 a0_1):=(blk_cell BK219.out 1).trans rfl;have hcz7_2:w4.cell? ⟨gb219,2,none⟩=some (.int .i64 a0_2):=(blk_cell BK219.out 2).trans rfl;have hfz7_0:=blk_frozen BK219.out 0;have hfz7_1:=blk_frozen BK219.out 1;have hfz7_2:=blk_frozen BK219.out 2;have hnb8:=NB221_220.out;have hnc8:=NB220_221.out;have hcz9_0:w4.cell? ⟨gb221,0,none⟩=some (.int .i64 0):=(blk_cell BK221.out 0).trans rfl;have hcz9_1:w4.cell? ⟨gb221,1,none⟩=some (.int .i64 0):=(blk_cell BK221.out 1).trans rfl;have hcz9_2:w4.cell? ⟨gb221,2,none⟩=some (.int .i64 0):=(blk_cell BK221.out 2).trans rfl;have hfz9_0:=blk_frozen BK221.out 0;have hfz9_1:=blk_frozen BK221.out 1;have hfz9_2:=blk_frozen BK221.out 2;have hcz10_0:w4.cell? ⟨gb220,0,none⟩=some (.int .i64 0):=(blk_cell BK220.out 0).trans rfl;have hcz10_1:w4.cell? ⟨gb220,1,none⟩=some (.int .i64 0):=(blk_cell BK220.out 1).trans rfl;have hcz10_2:w4.cell? ⟨gb220,2,none⟩=some (.int .i64 0):=(blk_cell BK220.out 2).trans rfl;have hfz10_0:=blk_frozen BK220.out 0;have hfz10_1:=blk_frozen BK220.out 1;have hfz10_2:=blk_frozen BK220.out 2))
 refine bodyPost_ret (results_cell_row rfl _ _ gb220 44 #[.int .i64 a0_0, .int .i64 a0_1, .int .i64 a0_2] (0,0) _ rfl ((a17_ NB220_221.out BK220.out)) Try.underlying44 rfl (by kernel_rfl)) rfl ?_
 exact⟨a5_,(a37_ GE219.out GE220.out GE221.out)⟩

/-! ### laws_toPartS: function 8 -/
def laws_toPartS.l0:Nat→List (S52)→List (S44)→Int→Option ((List (S44)))
 | 0,_,_,_=>none
 | k+1,x0,x3,x4=>if x4<(x0.length:Int) then(if 0≤x4 then((laws_toPart.f ((rd_T52 x0 x4).f0) ((rd_T52 x0 x4).f1) ((rd_T52 x0 x4).f2)).bind fun bt226=>(if x4<(x3.length:Int) then(laws_toPartS.l0 k x0 (x3.set (x4:Int).toNat (⟨bt226.1,bt226.2.1,bt226.2.2⟩:S44)) (wrap64 (x4+1))) else(none))) else(none)) else(some x3)
def laws_toPartS.f (k:Nat) (l0:List (S52)):Option ((List (S44))):=if 0≤(l0.length:Int) then(if((l0.length:Int):Int).toNat≤11728124029610 then(laws_toPartS.l0 k l0 (List.replicate ((l0.length:Int):Int).toNat z44) 0) else(none)) else(none)
theorem laws_toPartS.mono_l:∀k,(∀y0 y1 y2,LeO (laws_toPartS.l0 k y0 y1 y2) (laws_toPartS.l0 (k+1) y0 y1 y2))
 | 0=>fun _ _ _ r h=>by simp[laws_toPartS.l0]at h
 | k+1=>by
  have ih0:=laws_toPartS.mono_l k
  ·intro y0 y1 y2
   unfold laws_toPartS.l0
   repeat' first
   | (with_reducible exact ih0 _ _ _)
   | (with_reducible exact LeO.refl _)
   | (with_reducible exact LeO.none _)
   | (with_reducible refine LeO.ite ?_ ?_)
   | (with_reducible refine LeO.bind ?_ (fun _=>?_))
   | exact ih0 _ _ _
   | exact LeO.none _
   | refine LeO.ite ?_ ?_
   | refine LeO.bind ?_ (fun _=>?_)
theorem laws_toPartS.mono:∀a0 k,LeO (laws_toPartS.f k a0) (laws_toPartS.f (k+1) a0):=by
 intro a0 k
 have ih0:=laws_toPartS.mono_l k
 unfold laws_toPartS.f
 repeat' first
  | (with_reducible exact ih0 _ _ _)
  | (with_reducible exact LeO.refl _)
  | (with_reducible exact LeO.none _)
  | (with_reducible refine LeO.ite ?_ ?_)
  | (with_reducible refine LeO.bind ?_ (fun _=>?_))
  | exact ih0 _ _ _
  | exact LeO.none _
  | refine LeO.ite ?_ ?_
  | refine LeO.bind ?_ (fun _=>?_)
set_option maxHeartbeats 8000000 in
set_option maxRecDepth 100000 in
theorem laws_toPartS.calls (k:Nat) (A0:Option Addr) (c0:Nat) (l0:List (S52)) (r:List (S44)) (w:World) (hr0:Kd.C k52 w A0 l0.length l0) (hc0:l0.length≤c0) (h:laws_toPartS.f k l0=some r) :
 Calls Try.prog 8 #[.slice A0 l0.length c0] w fun e w'=>∃v0_:Value,e = .returned (v0_)∧Kd.R k44 44 w' w.heap.size (fun _=>True) v0_ r∧Below w.heap.size w w':=by
 have hu52:=Try.underlying52
 have hu44:=Try.underlying44
 have HR0:=am_ hr0
 have HC0:=am_ hc0
 clear hr0 hc0
 have HB:=am_ (Below.refl w.heap.size w)
 have H:(if 0≤(l0.length:Int) then(if((l0.length:Int):Int).toNat≤11728124029610 then(laws_toPartS.l0 k l0 (List.replicate ((l0.length:Int):Int).toNat z44) 0) else(none)) else(none))=some r:=h
 clear h
 by_cases c2:0≤(l0.length:Int)
 ·rw[if_pos c2]at H
  have c2b0:=eq_true c2
  have c2b1:decide (0≤(l0.length:Int))=true:=decide_eq_true c2
  clear c2
  by_cases c3:((l0.length:Int):Int).toNat≤11728124029610
  ·rw[if_pos c3]at H
   have c3b0:=eq_true c3
   have c3b1:decide (((l0.length:Int):Int).toNat≤11728124029610)=true:=decide_eq_true c3
   clear c3
   obtain⟨y222,hy222⟩:∃y_:List (S44),y_=(List.replicate ((l0.length:Int):Int).toNat z44):=⟨_,rfl⟩
   replace H:(laws_toPartS.l0 k l0 y222 0)=some r:=by first | (rw[hy222];with_reducible exact H) | (have H2_:=(Option.bind_some _ _).symm.trans H;rw[hy222];with_reducible exact H2_) | (have H2_:=(Option.bind_some _ _).symm.trans H;with_reducible exact H2_) | with_reducible exact H | (rw[hy222];exact H) | exact H
   have Ny222:=am_ hy222
   clear hy222
   have H':=am_ H
   clear H
   go_enter Try.func8,Try.ntmps8
   go_wp2_with (first | ((with_reducible refine gate_dst (N:=7) rfl ?_);refine Kd.R_make k44 _ 44 rfl (N:=7) rfl 31 _ _ rfl (l0.length:Int) rfl rfl Try.underlying31 (.agg #[(.int .i64 0),(.int .i64 0),(.int .i64 0)]) 24 info44 rfl (by decide) (by omega) z44 (ok:=fun _=>True) (okp:=fun _=>True) (k44_mkM _ _ _ z44 ) (fun _ hk=>hk) trivial (of_decide_eq_true (a4_)) (Nat.le_trans (Nat.mul_le_mul_right _ (of_decide_eq_true (a4_):(l0.length:Int).toNat≤11728124029610)) (by omega)) (Below.refl _ _) (Nat.le_refl _) ?_;intro v223 w4 ho5 hb hg_ hnew_;clear hg_ hnew_;(first | rw[← Ny222.out]at ho5 | (simp only[Int.reduceToNat]at ho5;rw[← Ny222.out]at ho5));have HO224:=am_ (Kd.R_lower ho5 (below_size (a0_)));replace HB:=am_ (below_step (a0_) hb);clear hb ho5))
   go_loopg [4] k (fun kq v4 w'=>∃(x3_1:List (S44)) (x4_1:Int),v4 = .int .i64 x4_1∧Aside0 (laws_toPartS.l0 kq l0 x3_1 x4_1=some r)∧Aside0 (kq≤k)∧Aside0 (Kd.R k44 44 w' w.heap.size (fun _=>True) v223 x3_1)∧Aside0 (Below w.heap.size w w'))
   case atStart=>exact⟨(y222),(0),(a6_),H',⟨Nat.le_refl _⟩,⟨(a2_ HO224.out)⟩,⟨a0_⟩⟩
   case round=>
    clear H'
    try clear c2
    try clear c2b0
    try clear c2b1
    try clear p2
    try clear c3
    try clear c3b0
    try clear c3b1
    obtain⟨x3_1,x4_1,rfl,HA,HK1,HO_3,HB⟩:=hrel
    cases gk with
    | zero=>exact absurd HA.out (by simp[laws_toPartS.l0])
    | succ k1=>
     have H:=HA.out
     clear HA
     simp only[laws_toPartS.l0]at H
     by_cases c6:x4_1<(l0.length:Int)
     ·rw[if_pos c6]at H
      have c6b0:decide (x4_1<(l0.length:Int))=true:=decide_eq_true c6
      clear c6
      by_cases c7:0≤x4_1
      ·rw[if_pos c7]at H
       have c7b0:decide (0≤x4_1)=true:=decide_eq_true c7
       clear c7
       replace H:=Option.bind_eq_some_iff.mp H
       obtain⟨⟨t226,t227,t228⟩,A80,H⟩:=H
       replace H:(if x4_1<(x3_1.length:Int) then(laws_toPartS.l0 k1 l0 (x3_1.set (x4_1:Int).toNat (⟨t226,t227,t228⟩:S44)) (wrap64 (x4_1+1))) else(none))=some r:=H
       have A8:=am_ A80
       clear A80
       by_cases c9:x4_1<(x3_1.length:Int)
       ·rw[if_pos c9]at H
        have c9b0:decide (x4_1<(x3_1.length:Int))=true:=decide_eq_true c9
        clear c9
        obtain⟨y229,hy229⟩:∃y_:List (S44),y_=(x3_1.set (x4_1:Int).toNat (⟨t226,t227,t228⟩:S44)):=⟨_,rfl⟩
        replace H:(laws_toPartS.l0 k1 l0 y229 (wrap64 (x4_1+1)))=some r:=by first | (rw[hy229];with_reducible exact H) | (have H2_:=(Option.bind_some _ _).symm.trans H;rw[hy229];with_reducible exact H2_) | (have H2_:=(Option.bind_some _ _).symm.trans H;with_reducible exact H2_) | with_reducible exact H | (rw[hy229];exact H) | exact H
        have Ny229:=am_ hy229
        clear hy229
        have H':=am_ H
        clear H
        have p225:0≤(x4_1:Int):=of_decide_eq_true (a4_)
        have q225:x4_1<(l0.length:Int):=of_decide_eq_true (a4_)
        obtain⟨ad225,e225,hx225_0,hx225_1,hx225_2⟩:=at_T52 HR0.out x4_1 p225 q225
        cases e225
        replace hx225_0:=(HB.out.cell (World.block_lt_of_cell? w _ hx225_0)).trans hx225_0
        replace hx225_1:=(HB.out.cell (World.block_lt_of_cell? w _ hx225_1)).trans hx225_1
        replace hx225_2:=(HB.out.cell (World.block_lt_of_cell? w _ hx225_2)).trans hx225_2
        replace p225:=eq_true p225
        replace q225:=eq_true q225
        go_wp2_with (first | ((with_reducible refine gate_callee (f:=23) rfl ?_);refine goesL_ (some 20) rfl rfl Try.func23 (by kernel_rfl) rfl #[.agg #[.int .i64 ((rd_T52 l0 x4_1).f0), .int .i64 ((rd_T52 l0 x4_1).f1), .int .i64 ((rd_T52 l0 x4_1).f2)]] rfl (by(try simp only[List.map_toArray,List.map_cons,List.map_nil]);first | done | rfl | (simp only[List.length_drop,List.length_take];rfl)) ?_;(with_reducible refine(laws_toPart.calls ((rd_T52 l0 x4_1).f0) ((rd_T52 l0 x4_1).f1) ((rd_T52 l0 x4_1).f2) t226 t227 t228 _ A8.out).mono ?_);rintro e w11 ⟨rfl,hb⟩;refine⟨_,rfl,?_⟩;replace HO_3:=am_ (Kd.R_below ((a2_ HO_3.out)) hb);replace HB:=am_ (below_step (a0_) hb);(try clear hb);(try clear hb2);(try clear hk);(try clear hi);have p10:0≤(x4_1:Int):=of_decide_eq_true (a4_);have q10:(x4_1:Int)<((x3_1.length:Int):Int):=of_decide_eq_true (a4_);obtain⟨go10,co10,eo10,gb10,gl10,cl10,HG10⟩:=Kd.R_form HO_3.out (by omega);(first | cases eo10 | (injection eo10 with ea_ en_ ec_;(first | subst ea_ | (injection ea_ with ea_;subst ea_));subst ec_;clear en_));have GB10:=am_ gb10;have GG10:=am_ HG10;clear gb10 gl10 HG10;obtain⟨ce10,hcl10,hM10,hcc10,hfr10⟩:=Kd.R_elem HO_3.out z44 (x4_1:Int) p10 q10;obtain rfl:=k44_openM hM10;have hx10_0:w11.cell? ⟨go10,(x4_1:Int).toNat*3,none⟩=some (.int .i64 ((rd_T44 x3_1 x4_1).f0)):=hcc10 0 _ rfl;have hx10_1:w11.cell? ⟨go10,(x4_1:Int).toNat*3+1,none⟩=some (.int .i64 ((rd_T44 x3_1 x4_1).f1)):=hcc10 1 _ rfl;have hx10_2:w11.cell? ⟨go10,(x4_1:Int).toNat*3+2,none⟩=some (.int .i64 ((rd_T44 x3_1 x4_1).f2)):=hcc10 2 _ rfl;have hf10_0:w11.frozen? ⟨go10,(x4_1:Int).toNat*3,none⟩=false:=hfr10 0;have hf10_1:w11.frozen? ⟨go10,(x4_1:Int).toNat*3+1,none⟩=false:=hfr10 1;have hf10_2:w11.frozen? ⟨go10,(x4_1:Int).toNat*3+2,none⟩=false:=hfr10 2;clear hcl10 hcc10 hfr10;(try clear hM10);replace p10:=eq_true p10;replace q10:=eq_true q10;have HX12:=am_ (show Kd.R k44 44 w11 w.heap.size (fun _=>True) (.slice (some ⟨go10,0,none⟩) x3_1.length co10) x3_1 from((a2_ HO_3.out)));obtain⟨ce12,hcl12,hM12,hcc12,hfr12⟩:=Kd.R_elem HX12.out z44 (x4_1:Int) (of_decide_eq_true (a4_)) (by have h_:(x4_1:Int)<((x3_1.length:Int):Int):=of_decide_eq_true (a4_);first | exact h_ | (have e_:=(Kd.R_reads' HO_3.out).1;omega) | simpa using h_);obtain rfl:=k44_openM hM12;have HP12:=Kd.R_seg HX12.out (x4_1:Int) (of_decide_eq_true (a4_)) (by have h_:(x4_1:Int)<((x3_1.length:Int):Int):=of_decide_eq_true (a4_);first | exact h_ | (have e_:=(Kd.R_reads' HO_3.out).1;omega) | simpa using h_) (seg:=[.int .i64 t226, .int .i64 t227, .int .i64 t228]) (j:=0) hcl12 hcc12 (show 3≤3 from by decide) (x':=(⟨t226,t227,t228⟩:S44)) (k44_mkM _ _ _ (⟨t226,t227,t228⟩:S44) ) (fun _ hk=>hk);have hx12_0:=hcc12 0 _ rfl;(try simp only[show(k44).sz=3 from rfl,Nat.mul_one,Nat.add_zero]at hx12_0);have hf12_0:=hfr12 0;(try simp only[show(k44).sz=3 from rfl,Nat.mul_one,Nat.add_zero]at hf12_0);have hx12_1:=hcc12 1 _ rfl;(try simp only[show(k44).sz=3 from rfl,Nat.mul_one,Nat.add_zero]at hx12_1);have hf12_1:=hfr12 1;(try simp only[show(k44).sz=3 from rfl,Nat.mul_one,Nat.add_zero]at hf12_1);have hx12_2:=hcc12 2 _ rfl;(try simp only[show(k44).sz=3 from rfl,Nat.mul_one,Nat.add_zero]at hx12_2);have hf12_2:=hfr12 2;(try simp only[show(k44).sz=3 from rfl,Nat.mul_one,Nat.add_zero]at hf12_2);clear hcl12 hcc12 hfr12;(try clear hM12)) | ((with_reducible refine gate_store (t:=44) (p:=21) rfl ?_);refine store_event (t:=44) (p:=21) (v:=?vo_w13) (w1:=(((w11.setCell ⟨go10,(x4_1:Int).toNat*3,none⟩ (.int .i64 t226)).setCell ⟨go10,(x4_1:Int).toNat*3+1,none⟩ (.int .i64 t227)).setCell ⟨go10,(x4_1:Int).toNat*3+2,none⟩ (.int .i64 t228))) ?hg ?ho ?hn ?hr ?_;(case ho=>rfl);(case hg=>rfl);(case hn=>rfl);(case hr=>exact a12_);intro w13 hw;have hg:w11.grownBy w13 (some go10):=(by rw[hw];exact HP12.2);have hp_:Kd.R k44 44 w13 w.heap.size (fun _=>True) (.slice (some ⟨go10,0,none⟩) x3_1.length co10) y229:=(by rw[hw,Ny229.out];exact HP12.1);clear HP12;replace HO_3:=am_ (hp_);replace HB:=am_ ((by rw[hw];exact below_set (below_set (below_set (HB.out) GB10.out) GB10.out) GB10.out:Below w.heap.size w w13));clear hg hw hp_))
        go_roundg k1
        case measure=>have:=HK1.out;omega
        case rel=>exact⟨(y229),(wrap64 (x4_1+1)),(a6_),H',⟨by have:=HK1.out;omega⟩,⟨(a2_ HO_3.out)⟩,⟨a0_⟩⟩
       ·rw[if_neg c9]at H
        exact absurd H (by simp)
      ·rw[if_neg c7]at H
       exact absurd H (by simp)
     ·rw[if_neg c6]at H
      have c6b0:decide (x4_1<(l0.length:Int))=false:=decide_eq_false c6
      clear c6
      obtain rfl:=Option.some.inj H
      go_wp2
      go_ret
      exact⟨_,a5_,(a2_ HO_3.out),a0_⟩
  ·rw[if_neg c3]at H
   exact absurd H (by simp)
 ·rw[if_neg c2]at H
  exact absurd H (by simp)

/-! ### impl_isTrack: function 50 -/
def impl_isTrack.f (a0:Int):Option (Bool):=if a0≥0 then(some (decide (a0<20))) else(some false)
set_option maxHeartbeats 8000000 in
set_option maxRecDepth 100000 in
theorem impl_isTrack.calls (a0:Int) (r:Bool) (w:World) (h:impl_isTrack.f a0=some r) :
 Calls Try.prog 50 #[.int .i64 a0] w fun e w'=>e = .returned (.bool r)∧Drawn0 w w':=by
 have H:(if a0≥0 then(some (decide (a0<20))) else(some false))=some r:=h
 clear h
 by_cases c2:a0≥0
 ·rw[if_pos c2]at H
  have c2b0:decide (0≤a0)=true:=decide_eq_true c2
  clear c2
  obtain rfl:=Option.some.inj H
  go_enter Try.func50,Try.ntmps50
  go_wp2
  go_ret
  exact⟨a6_,a25_⟩
 ·rw[if_neg c2]at H
  have c2b0:decide (0≤a0)=false:=decide_eq_false c2
  clear c2
  obtain rfl:=Option.some.inj H
  go_enter Try.func50,Try.ntmps50
  go_wp2
  go_ret
  exact⟨a6_,a25_⟩

/-! ### impl_IsHole: function 43 -/
def impl_IsHole.f (a0_0:Int) (a0_1:Int) (a0_2:Int):Option (Bool):=(impl_isTrack.f a0_0).bind fun t231=>(if t231=true then(if a0_1≥0 then(if a0_1<a0_2 then(some (decide (a0_2≤2000))) else(some false)) else(some false)) else(some false))
set_option maxHeartbeats 8000000 in
set_option maxRecDepth 100000 in
theorem impl_IsHole.calls (a0_0:Int) (a0_1:Int) (a0_2:Int) (r:Bool) (w:World) (h:impl_IsHole.f a0_0 a0_1 a0_2=some r) :
 Calls Try.prog 43 #[.agg #[.int .i64 a0_0, .int .i64 a0_1, .int .i64 a0_2]] w fun e w'=>e = .returned (.bool r)∧Below w.heap.size w w':=by
 have hu47:=Try.underlying47
 have HB:=am_ (Below.refl w.heap.size w)
 have H:((impl_isTrack.f a0_0).bind fun t231=>(if t231=true then(if a0_1≥0 then(if a0_1<a0_2 then(some (decide (a0_2≤2000))) else(some false)) else(some false)) else(some false)))=some r:=h
 clear h
 replace H:=Option.bind_eq_some_iff.mp H
 obtain⟨t231,A20,H⟩:=H
 replace H:(if t231=true then(if a0_1≥0 then(if a0_1<a0_2 then(some (decide (a0_2≤2000))) else(some false)) else(some false)) else(some false))=some r:=H
 have A2:=am_ A20
 clear A20
 by_cases c3:t231=true
 ·subst c3
  replace H:(if a0_1≥0 then(if a0_1<a0_2 then(some (decide (a0_2≤2000))) else(some false)) else(some false))=some r:=by rw[if_pos rfl]at H;exact H
  by_cases c4:a0_1≥0
  ·rw[if_pos c4]at H
   have c4b0:decide (0≤a0_1)=true:=decide_eq_true c4
   clear c4
   by_cases c5:a0_1<a0_2
   ·rw[if_pos c5]at H
    have c5b0:decide (a0_1<a0_2)=true:=decide_eq_true c5
    clear c5
    obtain rfl:=Option.some.inj H
    go_enter Try.func43,Try.ntmps43
    go_wp2_with (first | ((with_reducible refine gate_dst (N:=1) rfl ?_);refine box_event ?hg (N:=1) ?hd (cs:= #[.int .i64 a0_0, .int .i64 a0_1, .int .i64 a0_2]) (t:=47) ?hr ?_;(case hd=>rfl);(case hg=>rfl);(case hr=>exact a12_);intro gb230 hg w6 hbox hb;have BK230:=am_ (hbox);have GW230:=am_ ((by rw[hg];exact(below_size (a0_)):w.heap.size≤gb230));have GE230:=am_ ((by rw[hg];exact(below_size (a0_)):w.heap.size≤gb230));replace HB:=am_ (below_step (a0_) hb);clear hb hbox hg;have hcz7_0:w6.cell? ⟨gb230,0,none⟩=some (.int .i64 a0_0):=(blk_cell BK230.out 0).trans rfl;have hcz7_1:w6.cell? ⟨gb230,1,none⟩=some (.int .i64 a0_1):=(blk_cell BK230.out 1).trans rfl;have hcz7_2:w6.cell? ⟨gb230,2,none⟩=some (.int .i64 a0_2):=(blk_cell BK230.out 2).trans rfl;have hfz7_0:=blk_frozen BK230.out 0;have hfz7_1:=blk_frozen BK230.out 1;have hfz7_2:=blk_frozen BK230.out 2) | ((with_reducible refine gate_callee (f:=50) rfl ?_);refine goesL_ (some 5) rfl rfl Try.func50 (by kernel_rfl) rfl #[.int .i64 a0_0] rfl (by(try simp only[List.map_toArray,List.map_cons,List.map_nil]);first | done | rfl | (simp only[List.length_drop,List.length_take];rfl)) ?_;(with_reducible refine(impl_isTrack.calls a0_0 true _ A2.out).mono ?_);rintro e w' ⟨rfl,⟨nd,rfl⟩⟩;refine⟨_,rfl,?_⟩))
    go_ret
    exact⟨a5_,(a1_ GE230.out)⟩
   ·rw[if_neg c5]at H
    have c5b0:decide (a0_1<a0_2)=false:=decide_eq_false c5
    clear c5
    obtain rfl:=Option.some.inj H
    go_enter Try.func43,Try.ntmps43
    go_wp2_with (first | ((with_reducible refine gate_dst (N:=1) rfl ?_);refine box_event ?hg (N:=1) ?hd (cs:= #[.int .i64 a0_0, .int .i64 a0_1, .int .i64 a0_2]) (t:=47) ?hr ?_;(case hd=>rfl);(case hg=>rfl);(case hr=>exact a12_);intro gb230 hg w8 hbox hb;have BK230:=am_ (hbox);have GW230:=am_ ((by rw[hg];exact(below_size (a0_)):w.heap.size≤gb230));have GE230:=am_ ((by rw[hg];exact(below_size (a0_)):w.heap.size≤gb230));replace HB:=am_ (below_step (a0_) hb);clear hb hbox hg;have hcz9_0:w8.cell? ⟨gb230,0,none⟩=some (.int .i64 a0_0):=(blk_cell BK230.out 0).trans rfl;have hcz9_1:w8.cell? ⟨gb230,1,none⟩=some (.int .i64 a0_1):=(blk_cell BK230.out 1).trans rfl;have hcz9_2:w8.cell? ⟨gb230,2,none⟩=some (.int .i64 a0_2):=(blk_cell BK230.out 2).trans rfl;have hfz9_0:=blk_frozen BK230.out 0;have hfz9_1:=blk_frozen BK230.out 1;have hfz9_2:=blk_frozen BK230.out 2) | ((with_reducible refine gate_callee (f:=50) rfl ?_);refine goesL_ (some 5) rfl rfl Try.func50 (by kernel_rfl) rfl #[.int .i64 a0_0] rfl (by(try simp only[List.map_toArray,List.map_cons,List.map_nil]);first | done | rfl | (simp only[List.length_drop,List.length_take];rfl)) ?_;(with_reducible refine(impl_isTrack.calls a0_0 true _ A2.out).mono ?_);rintro e w' ⟨rfl,⟨nd,rfl⟩⟩;refine⟨_,rfl,?_⟩))
    go_ret
    exact⟨a5_,(a1_ GE230.out)⟩
  ·rw[if_neg c4]at H
   have c4b0:decide (0≤a0_1)=false:=decide_eq_false c4
   clear c4
   obtain rfl:=Option.some.inj H
   go_enter Try.func43,Try.ntmps43
   go_wp2_with (first | ((with_reducible refine gate_dst (N:=1) rfl ?_);refine box_event ?hg (N:=1) ?hd (cs:= #[.int .i64 a0_0, .int .i64 a0_1, .int .i64 a0_2]) (t:=47) ?hr ?_;(case hd=>rfl);(case hg=>rfl);(case hr=>exact a12_);intro gb230 hg w10 hbox hb;have BK230:=am_ (hbox);have GW230:=am_ ((by rw[hg];exact(below_size (a0_)):w.heap.size≤gb230));have GE230:=am_ ((by rw[hg];exact(below_size (a0_)):w.heap.size≤gb230));replace HB:=am_ (below_step (a0_) hb);clear hb hbox hg;have hcz11_0:w10.cell? ⟨gb230,0,none⟩=some (.int .i64 a0_0):=(blk_cell BK230.out 0).trans rfl;have hcz11_1:w10.cell? ⟨gb230,1,none⟩=some (.int .i64 a0_1):=(blk_cell BK230.out 1).trans rfl;have hcz11_2:w10.cell? ⟨gb230,2,none⟩=some (.int .i64 a0_2):=(blk_cell BK230.out 2).trans rfl;have hfz11_0:=blk_frozen BK230.out 0;have hfz11_1:=blk_frozen BK230.out 1;have hfz11_2:=blk_frozen BK230.out 2) | ((with_reducible refine gate_callee (f:=50) rfl ?_);refine goesL_ (some 5) rfl rfl Try.func50 (by kernel_rfl) rfl #[.int .i64 a0_0] rfl (by(try simp only[List.map_toArray,List.map_cons,List.map_nil]);first | done | rfl | (simp only[List.length_drop,List.length_take];rfl)) ?_;(with_reducible refine(impl_isTrack.calls a0_0 true _ A2.out).mono ?_);rintro e w' ⟨rfl,⟨nd,rfl⟩⟩;refine⟨_,rfl,?_⟩))
   go_ret
   exact⟨a5_,(a1_ GE230.out)⟩
 ·replace c3:=Bool.eq_false_iff.mpr c3
  subst c3
  replace H:(some false)=some r:=by rw[if_neg (show ¬(false=true) by decide)]at H;exact H
  obtain rfl:=Option.some.inj H
  go_enter Try.func43,Try.ntmps43
  go_wp2_with (first | ((with_reducible refine gate_dst (N:=1) rfl ?_);refine box_event ?hg (N:=1) ?hd (cs:= #[.int .i64 a0_0, .int .i64 a0_1, .int .i64 a0_2]) (t:=47) ?hr ?_;(case hd=>rfl);(case hg=>rfl);(case hr=>exact a12_);intro gb230 hg w12 hbox hb;have BK230:=am_ (hbox);have GW230:=am_ ((by rw[hg];exact(below_size (a0_)):w.heap.size≤gb230));have GE230:=am_ ((by rw[hg];exact(below_size (a0_)):w.heap.size≤gb230));replace HB:=am_ (below_step (a0_) hb);clear hb hbox hg;have hcz13_0:w12.cell? ⟨gb230,0,none⟩=some (.int .i64 a0_0):=(blk_cell BK230.out 0).trans rfl;have hcz13_1:w12.cell? ⟨gb230,1,none⟩=some (.int .i64 a0_1):=(blk_cell BK230.out 1).trans rfl;have hcz13_2:w12.cell? ⟨gb230,2,none⟩=some (.int .i64 a0_2):=(blk_cell BK230.out 2).trans rfl;have hfz13_0:=blk_frozen BK230.out 0;have hfz13_1:=blk_frozen BK230.out 1;have hfz13_2:=blk_frozen BK230.out 2) | ((with_reducible refine gate_callee (f:=50) rfl ?_);refine goesL_ (some 5) rfl rfl Try.func50 (by kernel_rfl) rfl #[.int .i64 a0_0] rfl (by(try simp only[List.map_toArray,List.map_cons,List.map_nil]);first | done | rfl | (simp only[List.length_drop,List.length_take];rfl)) ?_;(with_reducible refine(impl_isTrack.calls a0_0 false _ A2.out).mono ?_);rintro e w' ⟨rfl,⟨nd,rfl⟩⟩;refine⟨_,rfl,?_⟩))
  go_ret
  exact⟨a5_,(a1_ GE230.out)⟩

/-! ### impl_holeLess: function 44 -/
def impl_holeLess.f (a0_0:Int) (a0_1:Int) (a0_2:Int) (a1_0:Int) (a1_1:Int) (a1_2:Int):Option (Bool):=if a0_1=a1_1 then(some (decide (a0_0<a1_0))) else(some (decide (a0_1<a1_1)))
set_option maxHeartbeats 8000000 in
set_option maxRecDepth 100000 in
theorem impl_holeLess.calls (a0_0:Int) (a0_1:Int) (a0_2:Int) (a1_0:Int) (a1_1:Int) (a1_2:Int) (r:Bool) (w:World) (h:impl_holeLess.f a0_0 a0_1 a0_2 a1_0 a1_1 a1_2=some r) :
 Calls Try.prog 44 #[.agg #[.int .i64 a0_0, .int .i64 a0_1, .int .i64 a0_2], .agg #[.int .i64 a1_0, .int .i64 a1_1, .int .i64 a1_2]] w fun e w'=>e = .returned (.bool r)∧Below w.heap.size w w':=by
 have hu47:=Try.underlying47
 have HB:=am_ (Below.refl w.heap.size w)
 have H:(if a0_1=a1_1 then(some (decide (a0_0<a1_0))) else(some (decide (a0_1<a1_1))))=some r:=h
 clear h
 by_cases c3:a0_1=a1_1
 ·rw[if_pos c3]at H
  have c3b0:(a0_1 == a1_1)=true:=beq_iff_eq.mpr c3
  have c3b1:(a0_1 != a1_1)=false:=bne_eq_false_iff_eq.mpr c3
  clear c3
  obtain rfl:=Option.some.inj H
  go_enter Try.func44,Try.ntmps44
  go_wp2_with (first | ((with_reducible refine gate_dst (N:=2) rfl ?_);refine box_event ?hg (N:=2) ?hd (cs:= #[.int .i64 a0_0, .int .i64 a0_1, .int .i64 a0_2]) (t:=47) ?hr ?_;(case hd=>rfl);(case hg=>rfl);(case hr=>exact a12_);intro gb232 hg w4 hbox hb;have BK232:=am_ (hbox);have GW232:=am_ ((by rw[hg];exact(below_size (a0_)):w.heap.size≤gb232));have GE232:=am_ ((by rw[hg];exact(below_size (a0_)):w.heap.size≤gb232));replace HB:=am_ (below_step (a0_) hb);clear hb hbox hg) | ((with_reducible refine gate_dst (N:=3) rfl ?_);refine box_event ?hg (N:=3) ?hd (cs:= #[.int .i64 a1_0, .int .i64 a1_1, .int .i64 a1_2]) (t:=47) ?hr ?_;(case hd=>rfl);(case hg=>rfl);(case hr=>exact a12_);intro gb233 hg w5 hbox hb;have BK233:=am_ (hbox);have GW233:=am_ ((by rw[hg];exact(below_size ((a1_ GE232.out))):w.heap.size≤gb233));have GE233:=am_ ((by rw[hg];exact(below_size ((a1_ GE232.out))):w.heap.size≤gb233));replace HB:=am_ (below_step ((a1_ GE232.out)) hb);have NB232_233:=am_ ((by rw[hg];exact Nat.ne_of_lt (blk_lt (g:=gb232) (o:= .cells #[.int .i64 a0_0, .int .i64 a0_1, .int .i64 a0_2] 47 (0,0)) ((a3_ BK232.out))):gb232≠gb233));have NB233_232:=am_ ((by rw[hg];exact Nat.ne_of_gt (blk_lt (g:=gb232) (o:= .cells #[.int .i64 a0_0, .int .i64 a0_1, .int .i64 a0_2] 47 (0,0)) ((a3_ BK232.out))):gb233≠gb232));replace BK232:=am_ (blk_below (g:=gb232) (o:= .cells #[.int .i64 a0_0, .int .i64 a0_1, .int .i64 a0_2] 47 (0,0)) ((a3_ BK232.out)) hb);clear hb hbox hg;have hnb6:=NB232_233.out;have hnc6:=NB233_232.out;have hcz7_0:w5.cell? ⟨gb232,0,none⟩=some (.int .i64 a0_0):=(blk_cell BK232.out 0).trans rfl;have hcz7_1:w5.cell? ⟨gb232,1,none⟩=some (.int .i64 a0_1):=(blk_cell BK232.out 1).trans rfl;have hcz7_2:w5.cell? ⟨gb232,2,none⟩=some (.int .i64 a0_2):=(blk_cell BK232.out 2).trans rfl;have hfz7_0:=blk_frozen BK232.out 0;have hfz7_1:=blk_frozen BK232.out 1;have hfz7_2:=blk_frozen BK232.out 2;have hcz8_0:w5.cell? ⟨gb233,0,none⟩=some (.int .i64 a1_0):=(blk_cell BK233.out 0).trans rfl;have hcz8_1:w5.cell? ⟨gb233,1,none⟩=some (.int .i64 a1_1):=(blk_cell BK233.out 1).trans rfl;have hcz8_2:w5.cell? ⟨gb233,2,none⟩=some (.int .i64 a1_2):=(blk_cell BK233.out 2).trans rfl;have hfz8_0:=blk_frozen BK233.out 0;have hfz8_1:=blk_frozen BK233.out 1;have hfz8_2:=blk_frozen BK233.out 2))
  go_ret
  exact⟨a5_,(a7_ GE232.out GE233.out)⟩
 ·rw[if_neg c3]at H
  have c3b0:(a0_1 == a1_1)=false:=beq_eq_false_iff_ne.mpr c3
  have c3b1:(a0_1 != a1_1)=true:=bne_iff_ne.mpr c3
  obtain rfl:=Option.some.inj H
  go_enter Try.func44,Try.ntmps44
  go_wp2_with (first | ((with_reducible refine gate_dst (N:=2) rfl ?_);refine box_event ?hg (N:=2) ?hd (cs:= #[.int .i64 a0_0, .int .i64 a0_1, .int .i64 a0_2]) (t:=47) ?hr ?_;(case hd=>rfl);(case hg=>rfl);(case hr=>exact a12_);intro gb232 hg w9 hbox hb;have BK232:=am_ (hbox);have GW232:=am_ ((by rw[hg];exact(below_size (a0_)):w.heap.size≤gb232));have GE232:=am_ ((by rw[hg];exact(below_size (a0_)):w.heap.size≤gb232));replace HB:=am_ (below_step (a0_) hb);clear hb hbox hg) | ((with_reducible refine gate_dst (N:=3) rfl ?_);refine box_event ?hg (N:=3) ?hd (cs:= #[.int .i64 a1_0, .int .i64 a1_1, .int .i64 a1_2]) (t:=47) ?hr ?_;(case hd=>rfl);(case hg=>rfl);(case hr=>exact a12_);intro gb233 hg w10 hbox hb;have BK233:=am_ (hbox);have GW233:=am_ ((by rw[hg];exact(below_size ((a1_ GE232.out))):w.heap.size≤gb233));have GE233:=am_ ((by rw[hg];exact(below_size ((a1_ GE232.out))):w.heap.size≤gb233));replace HB:=am_ (below_step ((a1_ GE232.out)) hb);have NB232_233:=am_ ((by rw[hg];exact Nat.ne_of_lt (blk_lt (g:=gb232) (o:= .cells #[.int .i64 a0_0, .int .i64 a0_1, .int .i64 a0_2] 47 (0,0)) ((a3_ BK232.out))):gb232≠gb233));have NB233_232:=am_ ((by rw[hg];exact Nat.ne_of_gt (blk_lt (g:=gb232) (o:= .cells #[.int .i64 a0_0, .int .i64 a0_1, .int .i64 a0_2] 47 (0,0)) ((a3_ BK232.out))):gb233≠gb232));replace BK232:=am_ (blk_below (g:=gb232) (o:= .cells #[.int .i64 a0_0, .int .i64 a0_1, .int .i64 a0_2] 47 (0,0)) ((a3_ BK232.out)) hb);clear hb hbox hg;have hnb11:=NB232_233.out;have hnc11:=NB233_232.out;have hcz12_0:w10.cell? ⟨gb232,0,none⟩=some (.int .i64 a0_0):=(blk_cell BK232.out 0).trans rfl;have hcz12_1:w10.cell? ⟨gb232,1,none⟩=some (.int .i64 a0_1):=(blk_cell BK232.out 1).trans rfl;have hcz12_2:w10.cell? ⟨gb232,2,none⟩=some (.int .i64 a0_2):=(blk_cell BK232.out 2).trans rfl;have hfz12_0:=blk_frozen BK232.out 0;have hfz12_1:=blk_frozen BK232.out 1;have hfz12_2:=blk_frozen BK232.out 2;have hcz13_0:w10.cell? ⟨gb233,0,none⟩=some (.int .i64 a1_0):=(blk_cell BK233.out 0).trans rfl;have hcz13_1:w10.cell? ⟨gb233,1,none⟩=some (.int .i64 a1_1):=(blk_cell BK233.out 1).trans rfl;have hcz13_2:w10.cell? ⟨gb233,2,none⟩=some (.int .i64 a1_2):=(blk_cell BK233.out 2).trans rfl;have hfz13_0:=blk_frozen BK233.out 0;have hfz13_1:=blk_frozen BK233.out 1;have hfz13_2:=blk_frozen BK233.out 2))
  go_ret
  exact⟨a5_,(a7_ GE232.out GE233.out)⟩

end Go.Proofs.Ytbbiihhaljigjaa.QFnExactMakeEdition
