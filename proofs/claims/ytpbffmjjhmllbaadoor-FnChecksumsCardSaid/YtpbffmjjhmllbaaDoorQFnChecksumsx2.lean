/- Written by a program of this session (the kit's printer, with leaf contracts proved by hand put in): what each Go function computes, and that the call computes it. No condition but those that each theorem names. -/
import Derived.Test.YtpbffmjjhmllbaaDoorQFnChecksumsx0
namespace Go.Proofs.YtpbffmjjhmllbaaDoor.QFnChecksums
open Go.RowKit Go.Proofs.YtpbffmjjhmllbaaDoorW.PrintWords Go.Proofs.YtpbffmjjhmllbaaDoorW.PrintLast Go.Proofs.YtpbffmjjhmllbaaDoorW.PrintMore
attribute [local go_sem] max2_int min2_int max_two min_two max_three min_three max_four min_four   -- for this text's walks alone
set_option linter.unusedVariables false
set_option linter.unusedSimpArgs false

/-! ### laws_big: function 5 -/
def laws_big.f (l0:List Int) (l1:List Int):Option (Bool):=if(l0.length:Int)>1048576 then(some true) else(some (decide ((l1.length:Int)>(wrap64 (1048576-(l0.length:Int))))))
set_option maxHeartbeats 8000000 in
set_option maxRecDepth 100000 in
theorem laws_big.calls (A0:Option Addr) (c0:Nat) (l0:List Int) (A1:Option Addr) (c1:Nat) (l1:List Int) (r:Bool) (w:World) (hr0:Kd.C (Kd.int .u8) w A0 l0.length l0) (hc0:l0.length≤c0) (hr1:Kd.C (Kd.int .u8) w A1 l1.length l1) (hc1:l1.length≤c1) (h:laws_big.f l0 l1=some r) :
 Calls Tryd.prog 5 #[.slice A0 l0.length c0, .slice A1 l1.length c1] w fun e w'=>e = .returned (.bool r)∧Drawn0 w w':=by
 have HR0:=am_ hr0
 have HC0:=am_ hc0
 clear hr0 hc0
 have HR1:=am_ hr1
 have HC1:=am_ hc1
 clear hr1 hc1
 have H:(if(l0.length:Int)>1048576 then(some true) else(some (decide ((l1.length:Int)>(wrap64 (1048576-(l0.length:Int)))))))=some r:=h
 clear h
 by_cases c3:(l0.length:Int)>1048576
 ·rw[if_pos c3]at H
  have c3b0:decide (1048576<(l0.length:Int))=true:=decide_eq_true c3
  have c3b1:decide (1048576<l0.length)=true:=decide_eq_true (by omega)
  clear c3
  obtain rfl:=Option.some.inj H
  go_enter Tryd.func5,Tryd.ntmps5
  go_wp2
  go_ret
  exact⟨by first | rfl|(simp;done)|(simp[*];done),a24_⟩
 ·rw[if_neg c3]at H
  have c3b0:decide (1048576<(l0.length:Int))=false:=decide_eq_false c3
  have c3b1:decide (1048576<l0.length)=false:=decide_eq_false (by omega)
  clear c3
  obtain rfl:=Option.some.inj H
  go_enter Tryd.func5,Tryd.ntmps5
  go_wp2
  go_ret
  exact⟨by first | rfl|(simp;done)|(simp[*];done),a24_⟩

/-- A state of type 55 at block g of W; what its slices lead to came in by w0. -/
def IsS55 (w0 W:World) (g:Nat) (f0:List Int) (f1:Int) (f2:Int):Prop:= ∃A0 c0,W.heap[g]? = some (.cells #[.slice A0 f0.length c0, .int .i64 f1, .int .u64 f2] 55 (0,0))∧w0.heap.size≤g∧Kd.C (Kd.int .u8) w0 A0 f0.length f0
theorem IsS55.grown {w0 W:World} {g:Nat} {f0:List Int} {f1:Int} {f2:Int} {W1:World} {row:Option Nat} (h:IsS55 w0 W g f0 f1 f2) (hw:W.grownBy W1 row) (hne:some g≠row):IsS55 w0 W1 g f0 f1 f2:=by
 obtain⟨A0,c0,hb,hg,hr0⟩:=h
 exact⟨A0,c0,blk_grown hb hw hne,hg,hr0⟩
theorem IsS55.own_neN {w0 W:World} {g:Nat} {f0:List Int} {f1:Int} {f2:Int} {α:Type} {d:Kd α} {e:Nat} {base:Nat} {ok:Nat→Prop} {v:Value} {xs:List α} (h:IsS55 w0 W g f0 f1 f2) (ho:Kd.N d e W base ok v xs) (ht:e≠55):some g≠v.ownBlock:=by
 obtain⟨A0,c0,hb,hg,hr0⟩:=h
 exact Kd.N_ne ho hb ht
theorem IsS55.fresh {w0 W:World} {g:Nat} {f0:List Int} {f1:Int} {f2:Int} (h:IsS55 w0 W g f0 f1 f2):∀k,W.heap.size≤k→k≠g:=by
 obtain⟨A0,c0,hb,hg,hr0⟩:=h
 exact Kd.freshB hb
theorem IsS55.kept {w0 W:World} {g:Nat} {f0:List Int} {f1:Int} {f2:Int} {W1:World} {S:Nat→Prop} (h:IsS55 w0 W g f0 f1 f2) (hk:Kept W W1 S) (hne:¬S g):IsS55 w0 W1 g f0 f1 f2:=by
 obtain⟨A0,c0,hb,hg,hr0⟩:=h
 exact⟨A0,c0,blk_kept hb hk hne,hg,hr0⟩
theorem IsS55.below {w0 W:World} {g:Nat} {f0:List Int} {f1:Int} {f2:Int} {W1:World} (h:IsS55 w0 W g f0 f1 f2) (hw:Below W.heap.size W W1):IsS55 w0 W1 g f0 f1 f2:=h.grown (grown_of_below hw none) (by simp)
theorem IsS55.alloc {w0 W:World} {g:Nat} {f0:List Int} {f1:Int} {f2:Int} (h:IsS55 w0 W g f0 f1 f2) (o:Obj):IsS55 w0 (W.alloc o) g f0 f1 f2:=h.below (below_alloc (Below.refl _ _) o)
theorem IsS55.drewN {w0 W:World} {g:Nat} {f0:List Int} {f1:Int} {f2:Int} (h:IsS55 w0 W g f0 f1 f2) (m:Nat):IsS55 w0 (W.drewN m) g f0 f1 f2:=h
theorem IsS55.drew {w0 W:World} {g:Nat} {f0:List Int} {f1:Int} {f2:Int} (h:IsS55 w0 W g f0 f1 f2):IsS55 w0 W.drew g f0 f1 f2:=h
theorem IsS55.at_ {w0 W:World} {g:Nat} {f0:List Int} {f1:Int} {f2:Int} {w':World} {m:Nat} (hq:W.drewN m=w') (h:IsS55 w0 W g f0 f1 f2):IsS55 w0 w' g f0 f1 f2:=by subst hq;exact IsS55.drewN h m
theorem IsS55.apart {w0 W:World} {g:Nat} {f0:List Int} {f1:Int} {f2:Int} {α:Type} {d:Kd α} {e:Nat} {base:Nat} {ok:Nat→Prop} {v:Value} {xs:List α} (h:IsS55 w0 W g f0 f1 f2) (ho:d.R e W base ok v xs) (ht:∀q,q∈e :: d.E→q≠55):d.R e W base (fun k=>ok k∧k≠g) v xs:=by
 obtain⟨A0,c0,hb,hg,hr0⟩:=h
 exact Kd.R_types ho hb ht
theorem IsS55.own_ne {w0 W:World} {g:Nat} {f0:List Int} {f1:Int} {f2:Int} {α:Type} {d:Kd α} {e:Nat} {base:Nat} {ok:Nat→Prop} {v:Value} {xs:List α} (h:IsS55 w0 W g f0 f1 f2) (ho:d.R e W base ok v xs) (ht:e≠55):some g≠v.ownBlock:=by
 obtain⟨A0,c0,hb,hg,hr0⟩:=h
 exact Kd.R_ne ho hb ht
theorem IsS55.apartQ {w0 W:World} {g:Nat} {f0:List Int} {f1:Int} {f2:Int} {α:Type} {d:Kd α} {e:Nat} {base:Nat} {ok:Nat→Prop} {v:Value} {xs:List α} (h:IsS55 w0 W g f0 f1 f2) (ho:d.Q e W base ok v xs) (ht:∀q,q∈e :: d.E→q≠55):d.Q e W base (fun k=>ok k∧k≠g) v xs:=by
 obtain⟨A0,c0,hb,hg,hr0⟩:=h
 exact Kd.Q_types ho hb ht
theorem IsS55.own_neQ {w0 W:World} {g:Nat} {f0:List Int} {f1:Int} {f2:Int} {α:Type} {d:Kd α} {e:Nat} {base:Nat} {ok:Nat→Prop} {v:Value} {xs:List α} (h:IsS55 w0 W g f0 f1 f2) (ho:d.Q e W base ok v xs) (ht:e≠55):some g≠v.ownBlock:=by
 obtain⟨A0,c0,hb,hg,hr0⟩:=h
 exact Kd.Q_ne ho hb ht
theorem IsS55.apartS {w0 W:World} {g:Nat} {f0:List Int} {f1:Int} {f2:Int} {α:Type} {d:Kd α} {e:Nat} {base:Nat} {ok:Nat→Prop} {v:Value} {xs:List α} (h:IsS55 w0 W g f0 f1 f2) (ho:d.S e W base ok v xs) (ht:∀q,q∈e :: d.E→q≠55):d.S e W base (fun k=>ok k∧k≠g) v xs:=by
 obtain⟨A0,c0,hb,hg,hr0⟩:=h
 exact Kd.S_types ho hb ht
theorem IsS55.own_neS {w0 W:World} {g:Nat} {f0:List Int} {f1:Int} {f2:Int} {α:Type} {d:Kd α} {e:Nat} {base:Nat} {ok:Nat→Prop} {v:Value} {xs:List α} (h:IsS55 w0 W g f0 f1 f2) (ho:d.S e W base ok v xs) (ht:e≠55):some g≠v.ownBlock:=by
 obtain⟨A0,c0,hb,hg,hr0⟩:=h
 exact Kd.S_ne ho hb ht
theorem IsS55.lt {w0 W:World} {g:Nat} {f0:List Int} {f1:Int} {f2:Int} (h:IsS55 w0 W g f0 f1 f2):g<W.heap.size:=by
 obtain⟨A0,c0,hb,hg,hr0⟩:=h
 exact blk_lt hb
theorem IsS55.ge {w0 W:World} {g:Nat} {f0:List Int} {f1:Int} {f2:Int} (h:IsS55 w0 W g f0 f1 f2):w0.heap.size≤g:=by
 obtain⟨A0,c0,hb,hg,hr0⟩:=h
 exact hg
theorem IsS55.ne_blk {w0 W:World} {g:Nat} {f0:List Int} {f1:Int} {f2:Int} {a:Nat} {cs:Array Value} {t:TypeId} {fr:Nat×Nat} (h:IsS55 w0 W g f0 f1 f2) (hb2:W.heap[a]? = some (.cells cs t fr)) (ht:t≠55):g≠a:=by
 obtain⟨A0,c0,hb,hg,hr0⟩:=h
 rintro rfl
 rw[hb]at hb2
 injection hb2 with hb2
 injection hb2 with _ ht2
 exact ht ht2.symm
theorem IsS55.far {w0 W:World} {g:Nat} {f0:List Int} {f1:Int} {f2:Int} {p:Addr} (h:IsS55 w0 W g f0 f1 f2) (hne:g≠p.block) (u:Value):IsS55 w0 (W.setCell p u) g f0 f1 f2:=by
 obtain⟨A0,c0,hb,hg,hr0⟩:=h
 exact⟨A0,c0,blk_far hb hne u,hg,hr0⟩
theorem cellS55_0 {W:World} {g:Nat} {A0:Option Addr} {c0:Nat} {f0:List Int} {f1:Int} {f2:Int} (h:W.heap[g]? = some (.cells #[.slice A0 f0.length c0, .int .i64 f1, .int .u64 f2] 55 (0,0))):W.cell? ⟨g,0,none⟩=some (.slice A0 f0.length c0):=(blk_cell h 0).trans rfl
theorem cellS55_1 {W:World} {g:Nat} {A0:Option Addr} {c0:Nat} {f0:List Int} {f1:Int} {f2:Int} (h:W.heap[g]? = some (.cells #[.slice A0 f0.length c0, .int .i64 f1, .int .u64 f2] 55 (0,0))):W.cell? ⟨g,1,none⟩=some (.int .i64 f1):=(blk_cell h 1).trans rfl
theorem IsS55.set_1 {w0 W:World} {g:Nat} {f0:List Int} {f1:Int} {f2:Int} (h:IsS55 w0 W g f0 f1 f2) (x:Int):IsS55 w0 (W.setCell ⟨g,1,none⟩ (.int .i64 x)) g f0 x f2:=by
 obtain⟨A0,c0,hb,hg,hr0⟩:=h
 exact⟨A0,c0,by simpa using blk_set hb 1 (.int .i64 x),hg,hr0⟩
theorem cellS55_2 {W:World} {g:Nat} {A0:Option Addr} {c0:Nat} {f0:List Int} {f1:Int} {f2:Int} (h:W.heap[g]? = some (.cells #[.slice A0 f0.length c0, .int .i64 f1, .int .u64 f2] 55 (0,0))):W.cell? ⟨g,2,none⟩=some (.int .u64 f2):=(blk_cell h 2).trans rfl
theorem IsS55.set_2 {w0 W:World} {g:Nat} {f0:List Int} {f1:Int} {f2:Int} (h:IsS55 w0 W g f0 f1 f2) (x:Int):IsS55 w0 (W.setCell ⟨g,2,none⟩ (.int .u64 x)) g f0 f1 x:=by
 obtain⟨A0,c0,hb,hg,hr0⟩:=h
 exact⟨A0,c0,by simpa using blk_set hb 2 (.int .u64 x),hg,hr0⟩
theorem IsS55.new (w0 W:World) (A0:Option Addr) (c0:Nat) (f0:List Int) (f1:Int) (f2:Int) (hB:Below w0.heap.size w0 W) (hr0:Kd.C (Kd.int .u8) w0 A0 f0.length f0):IsS55 w0 (W.alloc (.cells #[.slice A0 f0.length c0, .int .i64 f1, .int .u64 f2] 55)) W.heap.size f0 f1 f2:=⟨A0,c0,by simpa using heap_alloc_new W _,hB.size,hr0⟩

/-! ### spec_l1Cur_next: function 82 -/
def spec_l1Cur_next.f (s0_0:List Int) (s0_1:Int) (s0_2:Int):Option (Int×Int×Int):=if s0_1<(s0_0.length:Int) then(if 0≤s0_1 then(if(wrap64 (s0_1+1))≤(s0_0.length:Int) then(some (wrap64 (rd s0_0 s0_1),wrap64 (s0_1+1),IntKind.u64.wrap ((IntKind.u64.wrap ((IntKind.u64.wrap (s0_2*6364136223846793005))+(IntKind.u64.wrap (wrap64 (rd s0_0 s0_1)))))+1442695040888963407))) else(some (wrap64 (Go.bits .and .u64 ((IntKind.u64.wrap ((IntKind.u64.wrap ((IntKind.u64.wrap (s0_2*6364136223846793005))+(IntKind.u64.wrap (wrap64 (rd s0_0 s0_1)))))+1442695040888963407)) / 1099511627776) 255),wrap64 (s0_1+1),IntKind.u64.wrap ((IntKind.u64.wrap ((IntKind.u64.wrap (s0_2*6364136223846793005))+(IntKind.u64.wrap (wrap64 (rd s0_0 s0_1)))))+1442695040888963407)))) else(none)) else(if(wrap64 (s0_1+1))≤(s0_0.length:Int) then(some (0,wrap64 (s0_1+1),IntKind.u64.wrap ((IntKind.u64.wrap (IntKind.u64.wrap (s0_2*6364136223846793005)))+1442695040888963407))) else(some (wrap64 (Go.bits .and .u64 ((IntKind.u64.wrap ((IntKind.u64.wrap (IntKind.u64.wrap (s0_2*6364136223846793005)))+1442695040888963407)) / 1099511627776) 255),wrap64 (s0_1+1),IntKind.u64.wrap ((IntKind.u64.wrap (IntKind.u64.wrap (s0_2*6364136223846793005)))+1442695040888963407))))
set_option maxHeartbeats 8000000 in
set_option maxRecDepth 100000 in
theorem spec_l1Cur_next.calls (g:Nat) (s0_0:List Int) (s0_1:Int) (s0_2:Int) (r1:Int) (r2:Int) (r3:Int) (w0 w:World) (hI:IsS55 w0 w g s0_0 s0_1 s0_2) (hB:Below w0.heap.size w0 w) (h:spec_l1Cur_next.f s0_0 s0_1 s0_2=some (r1,r2,r3)) :
 Calls Tryd.prog 82 #[.pointer (some ⟨g,0,none⟩)] w fun e w'=>e = .returned (.int .i64 r1)∧IsS55 w0 w' g s0_0 r2 r3∧Below w0.heap.size w0 w'∧KeepBut w w' g none:=by
 have HI0:=am_ hI
 have HK:=am_ (KeepBut.refl w g none)
 have HL:=am_ hB.size
 clear hI
 have HW0:=am_ hB.size
 have HB:=am_ hB
 clear hB
 have H:(if s0_1<(s0_0.length:Int) then(if 0≤s0_1 then(if(wrap64 (s0_1+1))≤(s0_0.length:Int) then(some (wrap64 (rd s0_0 s0_1),wrap64 (s0_1+1),IntKind.u64.wrap ((IntKind.u64.wrap ((IntKind.u64.wrap (s0_2*6364136223846793005))+(IntKind.u64.wrap (wrap64 (rd s0_0 s0_1)))))+1442695040888963407))) else(some (wrap64 (Go.bits .and .u64 ((IntKind.u64.wrap ((IntKind.u64.wrap ((IntKind.u64.wrap (s0_2*6364136223846793005))+(IntKind.u64.wrap (wrap64 (rd s0_0 s0_1)))))+1442695040888963407)) / 1099511627776) 255),wrap64 (s0_1+1),IntKind.u64.wrap ((IntKind.u64.wrap ((IntKind.u64.wrap (s0_2*6364136223846793005))+(IntKind.u64.wrap (wrap64 (rd s0_0 s0_1)))))+1442695040888963407)))) else(none)) else(if(wrap64 (s0_1+1))≤(s0_0.length:Int) then(some (0,wrap64 (s0_1+1),IntKind.u64.wrap ((IntKind.u64.wrap (IntKind.u64.wrap (s0_2*6364136223846793005)))+1442695040888963407))) else(some (wrap64 (Go.bits .and .u64 ((IntKind.u64.wrap ((IntKind.u64.wrap (IntKind.u64.wrap (s0_2*6364136223846793005)))+1442695040888963407)) / 1099511627776) 255),wrap64 (s0_1+1),IntKind.u64.wrap ((IntKind.u64.wrap (IntKind.u64.wrap (s0_2*6364136223846793005)))+1442695040888963407)))))=some (r1,r2,r3):=h
 clear h
 by_cases c2:s0_1<(s0_0.length:Int)
 ·rw[if_pos c2]at H
  have c2b0:decide (s0_1<(s0_0.length:Int))=true:=decide_eq_true c2
  clear c2
  by_cases c3:0≤s0_1
  ·rw[if_pos c3]at H
   have c3b0:decide (0≤s0_1)=true:=decide_eq_true c3
   clear c3
   by_cases c4:(wrap64 (s0_1+1))≤(s0_0.length:Int)
   ·rw[if_pos c4]at H
    have c4b0:decide ((wrap64 (s0_1+1))≤(s0_0.length:Int))=true:=decide_eq_true c4
    clear c4
    simp only[Option.some.injEq,Prod.mk.injEq]at H
    obtain⟨rfl,rfl,rfl⟩:=H
    obtain⟨ASz5_0,cSz5_0,HGz5,hgz5,HSz5_0⟩:=HI0.out
    have hcz5_0:=cellS55_0 HGz5
    have hcz5_1:=cellS55_1 HGz5
    have hcz5_2:=cellS55_2 HGz5
    have hfz5_1:=blk_frozen HGz5 1
    have hfz5_2:=blk_frozen HGz5 2
    clear HGz5 hgz5
    have p101:0≤(s0_1:Int):=of_decide_eq_true (a10_)
    have q101:s0_1<(s0_0.length:Int):=of_decide_eq_true (a10_)
    obtain⟨ad101,e101,hx101_0⟩:=Kd.at_int HSz5_0 s0_1 p101 q101
    cases e101
    replace hx101_0:=pw_cell_below HB.out hx101_0
    replace p101:=eq_true p101
    replace q101:=eq_true q101
    go_enter Tryd.func82,Tryd.ntmps82
    go_wp2
    repeat (go_quiet (fail);try go_wp2)
    go_ret
    exact⟨a8_,(a2_ HI0.out),(a4_ HI0.out),a6_⟩
   ·rw[if_neg c4]at H
    have c4b0:decide ((wrap64 (s0_1+1))≤(s0_0.length:Int))=false:=decide_eq_false c4
    clear c4
    simp only[Option.some.injEq,Prod.mk.injEq]at H
    obtain⟨rfl,rfl,rfl⟩:=H
    obtain⟨ASz6_0,cSz6_0,HGz6,hgz6,HSz6_0⟩:=HI0.out
    have hcz6_0:=cellS55_0 HGz6
    have hcz6_1:=cellS55_1 HGz6
    have hcz6_2:=cellS55_2 HGz6
    have hfz6_1:=blk_frozen HGz6 1
    have hfz6_2:=blk_frozen HGz6 2
    clear HGz6 hgz6
    have p101:0≤(s0_1:Int):=of_decide_eq_true (a10_)
    have q101:s0_1<(s0_0.length:Int):=of_decide_eq_true (a10_)
    obtain⟨ad101,e101,hx101_0⟩:=Kd.at_int HSz6_0 s0_1 p101 q101
    cases e101
    replace hx101_0:=pw_cell_below HB.out hx101_0
    replace p101:=eq_true p101
    replace q101:=eq_true q101
    go_enter Tryd.func82,Tryd.ntmps82
    go_wp2
    repeat (go_quiet (fail);try go_wp2)
    go_ret
    exact⟨a8_,(a2_ HI0.out),(a4_ HI0.out),a6_⟩
  ·rw[if_neg c3]at H
   exact absurd H (by simp)
 ·rw[if_neg c2]at H
  have c2b0:decide (s0_1<(s0_0.length:Int))=false:=decide_eq_false c2
  clear c2
  by_cases c7:(wrap64 (s0_1+1))≤(s0_0.length:Int)
  ·rw[if_pos c7]at H
   have c7b0:decide ((wrap64 (s0_1+1))≤(s0_0.length:Int))=true:=decide_eq_true c7
   clear c7
   simp only[Option.some.injEq,Prod.mk.injEq]at H
   obtain⟨rfl,rfl,rfl⟩:=H
   obtain⟨ASz8_0,cSz8_0,HGz8,hgz8,HSz8_0⟩:=HI0.out
   have hcz8_0:=cellS55_0 HGz8
   have hcz8_1:=cellS55_1 HGz8
   have hcz8_2:=cellS55_2 HGz8
   have hfz8_1:=blk_frozen HGz8 1
   have hfz8_2:=blk_frozen HGz8 2
   clear HGz8 hgz8
   go_enter Tryd.func82,Tryd.ntmps82
   go_wp2
   repeat (go_quiet (fail);try go_wp2)
   go_ret
   exact⟨a8_,(a2_ HI0.out),(a4_ HI0.out),a6_⟩
  ·rw[if_neg c7]at H
   have c7b0:decide ((wrap64 (s0_1+1))≤(s0_0.length:Int))=false:=decide_eq_false c7
   clear c7
   simp only[Option.some.injEq,Prod.mk.injEq]at H
   obtain⟨rfl,rfl,rfl⟩:=H
   obtain⟨ASz9_0,cSz9_0,HGz9,hgz9,HSz9_0⟩:=HI0.out
   have hcz9_0:=cellS55_0 HGz9
   have hcz9_1:=cellS55_1 HGz9
   have hcz9_2:=cellS55_2 HGz9
   have hfz9_1:=blk_frozen HGz9 1
   have hfz9_2:=blk_frozen HGz9 2
   clear HGz9 hgz9
   go_enter Tryd.func82,Tryd.ntmps82
   go_wp2
   repeat (go_quiet (fail);try go_wp2)
   go_ret
   exact⟨a8_,(a2_ HI0.out),(a4_ HI0.out),a6_⟩

/-! ### spec_l1Cur_pick: function 54 -/
def spec_l1Cur_pick.f (s0_0:List Int) (s0_1:Int) (s0_2:Int) (a1:Int):Option (Int×Int×Int):=if a1≤1 then(some (0,s0_1,s0_2)) else((spec_l1Cur_next.f s0_0 s0_1 s0_2).bind fun bt102=>(if a1>200 then((spec_l1Cur_next.f s0_0 bt102.2.1 bt102.2.2).bind fun bt105=>(if a1=0 then(none) else(some (Int.tmod (wrap64 ((wrap64 (bt102.1*256))+bt105.1)) a1,bt105.2.1,bt105.2.2)))) else(if a1=0 then(none) else(some (Int.tmod bt102.1 a1,bt102.2.1,bt102.2.2)))))
set_option maxHeartbeats 8000000 in
set_option maxRecDepth 100000 in
theorem spec_l1Cur_pick.calls (g:Nat) (s0_0:List Int) (s0_1:Int) (s0_2:Int) (a1:Int) (r1:Int) (r2:Int) (r3:Int) (w0 w:World) (hI:IsS55 w0 w g s0_0 s0_1 s0_2) (hB:Below w0.heap.size w0 w) (h:spec_l1Cur_pick.f s0_0 s0_1 s0_2 a1=some (r1,r2,r3)) :
 Calls Tryd.prog 54 #[.pointer (some ⟨g,0,none⟩), .int .i64 a1] w fun e w'=>e = .returned (.int .i64 r1)∧IsS55 w0 w' g s0_0 r2 r3∧Below w0.heap.size w0 w'∧KeepBut w w' g none:=by
 have HI0:=am_ hI
 have HK:=am_ (KeepBut.refl w g none)
 have HL:=am_ hB.size
 clear hI
 have HW0:=am_ hB.size
 have HB:=am_ hB
 clear hB
 have H:(if a1≤1 then(some (0,s0_1,s0_2)) else((spec_l1Cur_next.f s0_0 s0_1 s0_2).bind fun bt102=>(if a1>200 then((spec_l1Cur_next.f s0_0 bt102.2.1 bt102.2.2).bind fun bt105=>(if a1=0 then(none) else(some (Int.tmod (wrap64 ((wrap64 (bt102.1*256))+bt105.1)) a1,bt105.2.1,bt105.2.2)))) else(if a1=0 then(none) else(some (Int.tmod bt102.1 a1,bt102.2.1,bt102.2.2))))))=some (r1,r2,r3):=h
 clear h
 by_cases c3:a1≤1
 ·rw[if_pos c3]at H
  have c3b0:decide (a1≤1)=true:=decide_eq_true c3
  clear c3
  simp only[Option.some.injEq,Prod.mk.injEq]at H
  obtain⟨rfl,rfl,rfl⟩:=H
  go_enter Tryd.func54,Tryd.ntmps54
  go_wp2
  go_ret
  exact⟨a8_,(a2_ HI0.out),(a4_ HI0.out),a6_⟩
 ·rw[if_neg c3]at H
  have c3b0:decide (a1≤1)=false:=decide_eq_false c3
  clear c3
  obtain⟨⟨t102,t103,t104⟩,A4,H⟩:=bo_ H
  try dsimp only at H
  by_cases c5:a1>200
  ·rw[if_pos c5]at H
   have c5b0:decide (200<a1)=true:=decide_eq_true c5
   clear c5
   obtain⟨⟨t105,t106,t107⟩,A6,H⟩:=bo_ H
   try dsimp only at H
   by_cases c7:a1=0
   ·rw[if_pos c7]at H
    exact absurd H (by simp)
   ·rw[if_neg c7]at H
    have c7b0:(a1 == 0)=false:=beq_eq_false_iff_ne.mpr c7
    have c7b1:(a1 != 0)=true:=bne_iff_ne.mpr c7
    simp only[Option.some.injEq,Prod.mk.injEq]at H
    obtain⟨rfl,rfl,rfl⟩:=H
    go_enter Tryd.func54,Tryd.ntmps54
    go_wp2_with (first|((with_reducible refine gate_callee (f:=82) rfl ?_);refine goesL_ (some 9) rfl rfl Tryd.func82 (by kernel_rfl) rfl #[.pointer (some ⟨g,0,none⟩)] rfl gd_ ?_;(with_reducible refine(spec_l1Cur_next.calls g s0_0 s0_1 s0_2 t102 t103 t104 w0 _ ?side1 ?side2 A4.out).mono ?_);(case side1=>exact(a2_ HI0.out));(case side2=>exact(a4_ HI0.out));rintro e w8 ⟨rfl,hi,hb,hk⟩;refine⟨_,rfl,?_⟩;replace HK:=am_ (KeepBut.trans (a6_) hk (.inl rfl));replace HB:=am_ (hb);replace HI0:=am_ (hi);(try clear hb);(try clear hb2);(try clear hk);(try clear hi))|((with_reducible refine gate_callee (f:=82) rfl ?_);refine goesL_ (some 15) rfl rfl Tryd.func82 (by kernel_rfl) rfl #[.pointer (some ⟨g,0,none⟩)] rfl gd_ ?_;(with_reducible refine(spec_l1Cur_next.calls g s0_0 t103 t104 t105 t106 t107 w0 _ ?side1 ?side2 A6.out).mono ?_);(case side1=>exact(a2_ HI0.out));(case side2=>exact(a4_ HI0.out));rintro e w9 ⟨rfl,hi,hb,hk⟩;refine⟨_,rfl,?_⟩;replace HK:=am_ (KeepBut.trans (a6_) hk (.inl rfl));replace HB:=am_ (hb);replace HI0:=am_ (hi);(try clear hb);(try clear hb2);(try clear hk);(try clear hi)))
    go_ret
    exact⟨a8_,(a2_ HI0.out),(a4_ HI0.out),a6_⟩
  ·rw[if_neg c5]at H
   have c5b0:decide (200<a1)=false:=decide_eq_false c5
   clear c5
   by_cases c10:a1=0
   ·rw[if_pos c10]at H
    exact absurd H (by simp)
   ·rw[if_neg c10]at H
    have c10b0:(a1 == 0)=false:=beq_eq_false_iff_ne.mpr c10
    have c10b1:(a1 != 0)=true:=bne_iff_ne.mpr c10
    simp only[Option.some.injEq,Prod.mk.injEq]at H
    obtain⟨rfl,rfl,rfl⟩:=H
    go_enter Tryd.func54,Tryd.ntmps54
    go_wp2_with (first|((with_reducible refine gate_callee (f:=82) rfl ?_);refine goesL_ (some 9) rfl rfl Tryd.func82 (by kernel_rfl) rfl #[.pointer (some ⟨g,0,none⟩)] rfl gd_ ?_;(with_reducible refine(spec_l1Cur_next.calls g s0_0 s0_1 s0_2 t102 t103 t104 w0 _ ?side1 ?side2 A4.out).mono ?_);(case side1=>exact(a2_ HI0.out));(case side2=>exact(a4_ HI0.out));rintro e w11 ⟨rfl,hi,hb,hk⟩;refine⟨_,rfl,?_⟩;replace HK:=am_ (KeepBut.trans (a6_) hk (.inl rfl));replace HB:=am_ (hb);replace HI0:=am_ (hi);(try clear hb);(try clear hb2);(try clear hk);(try clear hi)))
    go_ret
    exact⟨a8_,(a2_ HI0.out),(a4_ HI0.out),a6_⟩

/-! ### spec_l1Cur_among: function 58 -/
def spec_l1Cur_among.f (s0_0:List Int) (s0_1:Int) (s0_2:Int) (l1:List Int):Option (Int×Int×Int):=(spec_l1Cur_pick.f s0_0 s0_1 s0_2 (l1.length:Int)).bind fun bt108=>(if 0≤bt108.1 then(if bt108.1<(l1.length:Int) then(some (rd l1 bt108.1,bt108.2.1,bt108.2.2)) else(none)) else(none))
set_option maxHeartbeats 8000000 in
set_option maxRecDepth 100000 in
theorem spec_l1Cur_among.calls (g:Nat) (s0_0:List Int) (s0_1:Int) (s0_2:Int) (A1:Option Addr) (c1:Nat) (l1:List Int) (r1:Int) (r2:Int) (r3:Int) (w0 w:World) (hI:IsS55 w0 w g s0_0 s0_1 s0_2) (hB:Below w0.heap.size w0 w) (hr1:Kd.C (Kd.int .i64) w A1 l1.length l1) (hc1:l1.length≤c1) (hf1:∀ad,A1=some ad→0<l1.length→ad.block≠g) (h:spec_l1Cur_among.f s0_0 s0_1 s0_2 l1=some (r1,r2,r3)) :
 Calls Tryd.prog 58 #[.pointer (some ⟨g,0,none⟩), .slice A1 l1.length c1] w fun e w'=>e = .returned (.int .i64 r1)∧IsS55 w0 w' g s0_0 r2 r3∧Below w0.heap.size w0 w'∧KeepBut w w' g none:=by
 have HR1:=am_ hr1
 have HC1:=am_ hc1
 clear hr1 hc1
 have HI0:=am_ hI
 have HK:=am_ (KeepBut.refl w g none)
 have HL:=am_ hB.size
 clear hI
 have HW0:=am_ hB.size
 have HB:=am_ hB
 clear hB
 have H:((spec_l1Cur_pick.f s0_0 s0_1 s0_2 (l1.length:Int)).bind fun bt108=>(if 0≤bt108.1 then(if bt108.1<(l1.length:Int) then(some (rd l1 bt108.1,bt108.2.1,bt108.2.2)) else(none)) else(none)))=some (r1,r2,r3):=h
 clear h
 obtain⟨⟨t108,t109,t110⟩,A3,H⟩:=bo_ H
 try dsimp only at H
 by_cases c4:0≤t108
 ·rw[if_pos c4]at H
  have c4b0:decide (0≤t108)=true:=decide_eq_true c4
  clear c4
  by_cases c5:t108<(l1.length:Int)
  ·rw[if_pos c5]at H
   have c5b0:decide (t108<(l1.length:Int))=true:=decide_eq_true c5
   clear c5
   simp only[Option.some.injEq,Prod.mk.injEq]at H
   obtain⟨rfl,rfl,rfl⟩:=H
   go_enter Tryd.func58,Tryd.ntmps58
   go_wp2_with (first|((with_reducible refine gate_callee (f:=54) rfl ?_);refine goesL_ (some 9) rfl rfl Tryd.func54 (by kernel_rfl) rfl #[.pointer (some ⟨g,0,none⟩), .int .i64 (l1.length:Int)] rfl gd_ ?_;(with_reducible refine(spec_l1Cur_pick.calls g s0_0 s0_1 s0_2 (l1.length:Int) t108 t109 t110 w0 _ ?side1 ?side2 A3.out).mono ?_);(case side1=>exact(a2_ HI0.out));(case side2=>exact(a4_ HI0.out));rintro e w6 ⟨rfl,hi,hb,hk⟩;refine⟨_,rfl,?_⟩;replace HK:=am_ (KeepBut.trans (a6_) hk (.inl rfl));replace HB:=am_ (hb);replace HI0:=am_ (hi);(try clear hb);(try clear hb2);(try clear hk);(try clear hi);have p111:0≤(t108:Int):=of_decide_eq_true (a10_);have q111:t108<(l1.length:Int):=of_decide_eq_true (a10_);obtain⟨ad111,e111,hx111_0⟩:=Kd.at_int HR1.out t108 p111 q111;cases e111;replace hx111_0:=keep_cell HK.out hx111_0 (by first|(rw[add_block];exact hf1 _ rfl (by omega))|exact hf1 _ rfl (by omega)|exact hf1 ad111 rfl (by omega));replace p111:=eq_true p111;replace q111:=eq_true q111))
   go_ret
   exact⟨a8_,(a2_ HI0.out),(a4_ HI0.out),a6_⟩
  ·rw[if_neg c5]at H
   exact absurd H (by simp)
 ·rw[if_neg c4]at H
  exact absurd H (by simp)

/-! ### spec_l1Cur_hole: function 57 -/
def spec_l1Cur_hole.f (s0_0:List Int) (s0_1:Int) (s0_2:Int):Option (Int×Int×Int×Int×Int):=(spec_l1Cur_pick.f s0_0 s0_1 s0_2 40).bind fun bt113=>((spec_l1Cur_pick.f s0_0 bt113.2.1 bt113.2.2 60).bind fun bt116=>((spec_l1Cur_among.f s0_0 bt116.2.1 bt116.2.2 (([0,2,5,bt113.1,bt116.1,1990]:List Int))).bind fun bt122=>((spec_l1Cur_pick.f s0_0 bt122.2.1 bt122.2.2 20).bind fun bt125=>((spec_l1Cur_among.f s0_0 bt125.2.1 bt125.2.2 (([0,1,2,3,5,bt125.1]:List Int))).bind fun bt131=>((spec_l1Cur_among.f s0_0 bt131.2.1 bt131.2.2 (([1,2,3,4,10]:List Int))).bind fun bt137=>(some (bt131.1,bt122.1,wrap64 (bt122.1+bt137.1),bt137.2.1,bt137.2.2)))))))
set_option maxHeartbeats 8000000 in
set_option maxRecDepth 100000 in
theorem spec_l1Cur_hole.calls (g:Nat) (s0_0:List Int) (s0_1:Int) (s0_2:Int) (r1:Int) (r2:Int) (r3:Int) (r4:Int) (r5:Int) (w0 w:World) (hI:IsS55 w0 w g s0_0 s0_1 s0_2) (hB:Below w0.heap.size w0 w) (h:spec_l1Cur_hole.f s0_0 s0_1 s0_2=some (r1,r2,r3,r4,r5)) :
 Calls Tryd.prog 57 #[.pointer (some ⟨g,0,none⟩)] w fun e w'=>e = .returned (.agg #[.int .i64 r1, .int .i64 r2, .int .i64 r3])∧IsS55 w0 w' g s0_0 r4 r5∧Below w0.heap.size w0 w'∧KeepBut w w' g none:=by
 have hu33:=Tryd.underlying33
 have HI0:=am_ hI
 have HK:=am_ (KeepBut.refl w g none)
 have HL:=am_ hB.size
 clear hI
 have HW0:=am_ hB.size
 have HB:=am_ hB
 clear hB
 have H:((spec_l1Cur_pick.f s0_0 s0_1 s0_2 40).bind fun bt113=>((spec_l1Cur_pick.f s0_0 bt113.2.1 bt113.2.2 60).bind fun bt116=>((spec_l1Cur_among.f s0_0 bt116.2.1 bt116.2.2 (([0,2,5,bt113.1,bt116.1,1990]:List Int))).bind fun bt122=>((spec_l1Cur_pick.f s0_0 bt122.2.1 bt122.2.2 20).bind fun bt125=>((spec_l1Cur_among.f s0_0 bt125.2.1 bt125.2.2 (([0,1,2,3,5,bt125.1]:List Int))).bind fun bt131=>((spec_l1Cur_among.f s0_0 bt131.2.1 bt131.2.2 (([1,2,3,4,10]:List Int))).bind fun bt137=>(some (bt131.1,bt122.1,wrap64 (bt122.1+bt137.1),bt137.2.1,bt137.2.2))))))))=some (r1,r2,r3,r4,r5):=h
 clear h
 obtain⟨⟨t113,t114,t115⟩,A2,H⟩:=bo_ H
 try dsimp only at H
 obtain⟨⟨t116,t117,t118⟩,A3,H⟩:=bo_ H
 try dsimp only at H
 obtain⟨y119,hy119⟩:∃y_:List Int,y_=(([0,2,5,t113,t116,1990]:List Int)):=⟨_,rfl⟩
 replace H:((spec_l1Cur_among.f s0_0 t117 t118 y119).bind fun bt122=>((spec_l1Cur_pick.f s0_0 bt122.2.1 bt122.2.2 20).bind fun bt125=>((spec_l1Cur_among.f s0_0 bt125.2.1 bt125.2.2 (([0,1,2,3,5,bt125.1]:List Int))).bind fun bt131=>((spec_l1Cur_among.f s0_0 bt131.2.1 bt131.2.2 (([1,2,3,4,10]:List Int))).bind fun bt137=>(some (bt131.1,bt122.1,wrap64 (bt122.1+bt137.1),bt137.2.1,bt137.2.2))))))=some (r1,r2,r3,r4,r5):=by first|(rw[hy119];with_reducible exact H)|(have H2_:=(Option.bind_some _ _).symm.trans H;rw[hy119];with_reducible exact H2_)|(have H2_:=(Option.bind_some _ _).symm.trans H;with_reducible exact H2_) | with_reducible exact H|(rw[hy119];exact H)|exact H
 have Ny119:=am_ hy119
 clear hy119
 obtain⟨⟨t122,t123,t124⟩,A4,H⟩:=bo_ H
 try dsimp only at H
 obtain⟨⟨t125,t126,t127⟩,A5,H⟩:=bo_ H
 try dsimp only at H
 obtain⟨y128,hy128⟩:∃y_:List Int,y_=(([0,1,2,3,5,t125]:List Int)):=⟨_,rfl⟩
 replace H:((spec_l1Cur_among.f s0_0 t126 t127 y128).bind fun bt131=>((spec_l1Cur_among.f s0_0 bt131.2.1 bt131.2.2 (([1,2,3,4,10]:List Int))).bind fun bt137=>(some (bt131.1,t122,wrap64 (t122+bt137.1),bt137.2.1,bt137.2.2))))=some (r1,r2,r3,r4,r5):=by first|(rw[hy128];with_reducible exact H)|(have H2_:=(Option.bind_some _ _).symm.trans H;rw[hy128];with_reducible exact H2_)|(have H2_:=(Option.bind_some _ _).symm.trans H;with_reducible exact H2_) | with_reducible exact H|(rw[hy128];exact H)|exact H
 have Ny128:=am_ hy128
 clear hy128
 obtain⟨⟨t131,t132,t133⟩,A6,H⟩:=bo_ H
 try dsimp only at H
 obtain⟨y134,hy134⟩:∃y_:List Int,y_=(([1,2,3,4,10]:List Int)):=⟨_,rfl⟩
 replace H:((spec_l1Cur_among.f s0_0 t132 t133 y134).bind fun bt137=>(some (t131,t122,wrap64 (t122+bt137.1),bt137.2.1,bt137.2.2)))=some (r1,r2,r3,r4,r5):=by first|(rw[hy134];with_reducible exact H)|(have H2_:=(Option.bind_some _ _).symm.trans H;rw[hy134];with_reducible exact H2_)|(have H2_:=(Option.bind_some _ _).symm.trans H;with_reducible exact H2_) | with_reducible exact H|(rw[hy134];exact H)|exact H
 have Ny134:=am_ hy134
 clear hy134
 obtain⟨⟨t137,t138,t139⟩,A7,H⟩:=bo_ H
 try dsimp only at H
 simp only[Option.some.injEq,Prod.mk.injEq]at H
 obtain⟨rfl,rfl,rfl,rfl,rfl⟩:=H
 go_enter Tryd.func57,Tryd.ntmps57
 go_wp2_with (first|((with_reducible refine gate_dst (N:=2) rfl ?_);refine box_event ?hg (N:=2) ?hd (cs:= #[.int .i64 0, .int .i64 0, .int .i64 0]) (t:=33) ?hr ?_;(case hd=>rfl);(case hg=>rfl);(case hr=>exact hr_);intro gb112 hg w8 hbox hb;replace HB:=am_ (below_step ((a4_ HI0.out)) hb);have BK112:=am_ (hbox);have GW112:=am_ ((by rw[hg];exact(keep_size (w:=w) (g:=g) (row:=none) (a6_)):w.heap.size≤gb112));have GE112:=am_ ((Nat.le_trans HW0.out (by rw[hg];exact(keep_size (w:=w) (g:=g) (row:=none) (a6_)):w.heap.size≤gb112):w0.heap.size≤gb112));replace HK:=am_ (KeepBut.trans (a6_) (KeepBut.of_below hb g none) (.inl rfl));have NB0_112:=am_ ((by rw[hg];exact Nat.ne_of_lt (IsS55.lt (show IsS55 w0 _ g s0_0 s0_1 s0_2 from(a2_ HI0.out))):g≠gb112));have NB112_0:=am_ ((by rw[hg];exact Nat.ne_of_gt (IsS55.lt (show IsS55 w0 _ g s0_0 s0_1 s0_2 from(a2_ HI0.out))):gb112≠g));replace HI0:=am_ (IsS55.below ((a2_ HI0.out)) hb);clear hb hbox hg)|((with_reducible refine gate_callee (f:=54) rfl ?_);refine goesL_ (some 6) rfl rfl Tryd.func54 (by kernel_rfl) rfl #[.pointer (some ⟨g,0,none⟩), .int .i64 40] rfl gd_ ?_;(with_reducible refine(spec_l1Cur_pick.calls g s0_0 s0_1 s0_2 40 t113 t114 t115 w0 _ ?side1 ?side2 A2.out).mono ?_);(case side1=>exact(a7_ HI0.out NB0_112.out));(case side2=>exact(a17_ HI0.out GE112.out));rintro e w9 ⟨rfl,hi,hb,hk⟩;refine⟨_,rfl,?_⟩;replace BK112:=am_ (KeepBut.blk hk (g':=gb112) (o:= .cells #[.int .i64 0, .int .i64 0, .int .i64 0] 33 (0,0)) ((a5_ BK112.out)) NB112_0.out (by simp));replace HK:=am_ (KeepBut.trans ((a16_ GW112.out)) hk (.inl rfl));replace HB:=am_ (hb);replace HI0:=am_ (hi);(try clear hb);(try clear hb2);(try clear hk);(try clear hi))|((with_reducible refine gate_callee (f:=54) rfl ?_);refine goesL_ (some 8) rfl rfl Tryd.func54 (by kernel_rfl) rfl #[.pointer (some ⟨g,0,none⟩), .int .i64 60] rfl gd_ ?_;(with_reducible refine(spec_l1Cur_pick.calls g s0_0 t114 t115 60 t116 t117 t118 w0 _ ?side1 ?side2 A3.out).mono ?_);(case side1=>exact(a7_ HI0.out NB0_112.out));(case side2=>exact(a17_ HI0.out GE112.out));rintro e w10 ⟨rfl,hi,hb,hk⟩;refine⟨_,rfl,?_⟩;replace BK112:=am_ (KeepBut.blk hk (g':=gb112) (o:= .cells #[.int .i64 0, .int .i64 0, .int .i64 0] 33 (0,0)) ((a5_ BK112.out)) NB112_0.out (by simp));replace HK:=am_ (KeepBut.trans ((a16_ GW112.out)) hk (.inl rfl));replace HB:=am_ (hb);replace HI0:=am_ (hi);(try clear hb);(try clear hb2);(try clear hk);(try clear hi))|((with_reducible refine gate_dst (N:=9) rfl ?_);refine Kd.R_lit (Kd.int .i64) _ 3 ?hg (N:=9) ?hd (xs:=([0,2,5,t113,t116,1990]:List Int)) (inner:=[.int .i64 0, .int .i64 2, .int .i64 5, .int .i64 t113, .int .i64 t116, .int .i64 1990]) (ok:=fun _=>True) (okp:=fun _=>True) ?hr ?hp (fun _ hk=>hk) trivial (Below.refl _ _) (Nat.le_refl _) (by simp) ?_;(case hd=>rfl);(case hg=>rfl);(case hr=>exact hr_);(case hp=>exact(Reps.one (show Kd.M (Kd.int .i64) _ _ _ 0 [.int .i64 0] from rfl) (Reps.one (show Kd.M (Kd.int .i64) _ _ _ 2 [.int .i64 2] from rfl) (Reps.one (show Kd.M (Kd.int .i64) _ _ _ 5 [.int .i64 5] from rfl) (Reps.one (show Kd.M (Kd.int .i64) _ _ _ t113 [.int .i64 t113] from rfl) (Reps.one (show Kd.M (Kd.int .i64) _ _ _ t116 [.int .i64 t116] from rfl) (Reps.one (show Kd.M (Kd.int .i64) _ _ _ 1990 [.int .i64 1990] from rfl) (Reps.none _ _))))))));intro v120 w11 ho12 hb hg_ hnew_;clear hg_ hnew_;(first|rw[← Ny119.out]at ho12|(simp only[Int.reduceToNat]at ho12;rw[← Ny119.out]at ho12));have HO121:=am_ (Kd.R_lower ho12 (keep_size (w:=w) (g:=g) (row:=none) ((a16_ GW112.out))));replace BK112:=am_ (blk_below (g:=gb112) (o:= .cells #[.int .i64 0, .int .i64 0, .int .i64 0] 33 (0,0)) ((a5_ BK112.out)) hb);replace HK:=am_ (KeepBut.trans ((a16_ GW112.out)) (KeepBut.of_below hb g none) (.inl rfl));replace HB:=am_ (below_step ((a17_ HI0.out GE112.out)) hb);replace HI0:=am_ (IsS55.below ((a7_ HI0.out NB0_112.out)) hb);clear hb ho12;obtain⟨Ao13,co13,eo13⟩:=Kd.R_slice HO121.out;subst eo13)|((with_reducible refine gate_callee (f:=58) rfl ?_);refine goesL_ (some 10) rfl rfl Tryd.func58 (by kernel_rfl) rfl #[.pointer (some ⟨g,0,none⟩), .slice Ao13 y119.length co13] rfl gd_ ?_;(with_reducible refine(spec_l1Cur_among.calls g s0_0 t117 t118 _ _ y119 t122 t123 t124 w0 _ ?side1 ?side2 ?side3 ?side4 ?side5 A4.out).mono ?_);(case side1=>exact(a7_ HI0.out NB0_112.out));(case side2=>exact(a17_ HI0.out GE112.out));(case side3=>exact(a12_ HO121.out));(case side4=>exact(Kd.R_reads' HO121.out).2.1);(case side5=>exact far_slice (IsS55.own_ne HI0.out HO121.out (by decide)));rintro e w14 ⟨rfl,hi,hb,hk⟩;refine⟨_,rfl,?_⟩;replace BK112:=am_ (KeepBut.blk hk (g':=gb112) (o:= .cells #[.int .i64 0, .int .i64 0, .int .i64 0] 33 (0,0)) ((a5_ BK112.out)) NB112_0.out (by simp));replace HO121:=am_ (Kd.R_mono (Kd.R_keep (IsS55.apart (show IsS55 w0 _ g s0_0 t117 t118 from(a7_ HI0.out NB0_112.out)) ((a1_ HO121.out)) (by decide)) hk (fun _ h=>h.2)) (fun _ h=>h.1));replace HK:=am_ (KeepBut.trans ((a16_ GW112.out)) hk (.inl rfl));replace HB:=am_ (hb);replace HI0:=am_ (hi);(try clear hb);(try clear hb2);(try clear hk);(try clear hi))|((with_reducible refine gate_callee (f:=54) rfl ?_);refine goesL_ (some 13) rfl rfl Tryd.func54 (by kernel_rfl) rfl #[.pointer (some ⟨g,0,none⟩), .int .i64 20] rfl gd_ ?_;(with_reducible refine(spec_l1Cur_pick.calls g s0_0 t123 t124 20 t125 t126 t127 w0 _ ?side1 ?side2 A5.out).mono ?_);(case side1=>exact(a7_ HI0.out NB0_112.out));(case side2=>exact(a17_ HI0.out GE112.out));rintro e w15 ⟨rfl,hi,hb,hk⟩;refine⟨_,rfl,?_⟩;replace BK112:=am_ (KeepBut.blk hk (g':=gb112) (o:= .cells #[.int .i64 0, .int .i64 0, .int .i64 0] 33 (0,0)) ((a5_ BK112.out)) NB112_0.out (by simp));replace HO121:=am_ (Kd.R_mono (Kd.R_keep (IsS55.apart (show IsS55 w0 _ g s0_0 t123 t124 from(a7_ HI0.out NB0_112.out)) ((a1_ HO121.out)) (by decide)) hk (fun _ h=>h.2)) (fun _ h=>h.1));replace HK:=am_ (KeepBut.trans ((a16_ GW112.out)) hk (.inl rfl));replace HB:=am_ (hb);replace HI0:=am_ (hi);(try clear hb);(try clear hb2);(try clear hk);(try clear hi))|((with_reducible refine gate_dst (N:=14) rfl ?_);refine Kd.R_lit (Kd.int .i64) _ 3 ?hg (N:=14) ?hd (xs:=([0,1,2,3,5,t125]:List Int)) (inner:=[.int .i64 0, .int .i64 1, .int .i64 2, .int .i64 3, .int .i64 5, .int .i64 t125]) (ok:=fun _=>True) (okp:=fun _=>True) ?hr ?hp (fun _ hk=>hk) trivial (Below.refl _ _) (Nat.le_refl _) (by simp) ?_;(case hd=>rfl);(case hg=>rfl);(case hr=>exact hr_);(case hp=>exact(Reps.one (show Kd.M (Kd.int .i64) _ _ _ 0 [.int .i64 0] from rfl) (Reps.one (show Kd.M (Kd.int .i64) _ _ _ 1 [.int .i64 1] from rfl) (Reps.one (show Kd.M (Kd.int .i64) _ _ _ 2 [.int .i64 2] from rfl) (Reps.one (show Kd.M (Kd.int .i64) _ _ _ 3 [.int .i64 3] from rfl) (Reps.one (show Kd.M (Kd.int .i64) _ _ _ 5 [.int .i64 5] from rfl) (Reps.one (show Kd.M (Kd.int .i64) _ _ _ t125 [.int .i64 t125] from rfl) (Reps.none _ _))))))));intro v129 w16 ho17 hb hg_ hnew_;clear hg_ hnew_;(first|rw[← Ny128.out]at ho17|(simp only[Int.reduceToNat]at ho17;rw[← Ny128.out]at ho17));have HO130:=am_ (Kd.R_lower (Kd.R_new' ho17 (Kd.R_lt ((a1_ HO121.out)))) (keep_size (w:=w) (g:=g) (row:=none) ((a16_ GW112.out))));replace HO121:=am_ (Kd.R_elder' ((a1_ HO121.out)) (Kd.R_base ho17) hb);replace BK112:=am_ (blk_below (g:=gb112) (o:= .cells #[.int .i64 0, .int .i64 0, .int .i64 0] 33 (0,0)) ((a5_ BK112.out)) hb);replace HK:=am_ (KeepBut.trans ((a16_ GW112.out)) (KeepBut.of_below hb g none) (.inl rfl));replace HB:=am_ (below_step ((a17_ HI0.out GE112.out)) hb);replace HI0:=am_ (IsS55.below ((a7_ HI0.out NB0_112.out)) hb);clear hb ho17;obtain⟨Ao18,co18,eo18⟩:=Kd.R_slice HO130.out;subst eo18)|((with_reducible refine gate_callee (f:=58) rfl ?_);refine goesL_ (some 15) rfl rfl Tryd.func58 (by kernel_rfl) rfl #[.pointer (some ⟨g,0,none⟩), .slice Ao18 y128.length co18] rfl gd_ ?_;(with_reducible refine(spec_l1Cur_among.calls g s0_0 t126 t127 _ _ y128 t131 t132 t133 w0 _ ?side1 ?side2 ?side3 ?side4 ?side5 A6.out).mono ?_);(case side1=>exact(a7_ HI0.out NB0_112.out));(case side2=>exact(a17_ HI0.out GE112.out));(case side3=>exact(a12_ HO130.out));(case side4=>exact(Kd.R_reads' HO130.out).2.1);(case side5=>exact far_slice (IsS55.own_ne HI0.out HO130.out (by decide)));rintro e w19 ⟨rfl,hi,hb,hk⟩;refine⟨_,rfl,?_⟩;replace BK112:=am_ (KeepBut.blk hk (g':=gb112) (o:= .cells #[.int .i64 0, .int .i64 0, .int .i64 0] 33 (0,0)) ((a5_ BK112.out)) NB112_0.out (by simp));replace HO121:=am_ (Kd.R_mono (Kd.R_keep (IsS55.apart (show IsS55 w0 _ g s0_0 t126 t127 from(a7_ HI0.out NB0_112.out)) ((a1_ HO121.out)) (by decide)) hk (fun _ h=>h.2)) (fun _ h=>h.1));replace HO130:=am_ (Kd.R_mono (Kd.R_keep (IsS55.apart (show IsS55 w0 _ g s0_0 t126 t127 from(a7_ HI0.out NB0_112.out)) ((a1_ HO130.out)) (by decide)) hk (fun _ h=>h.2)) (fun _ h=>h.1));replace HK:=am_ (KeepBut.trans ((a16_ GW112.out)) hk (.inl rfl));replace HB:=am_ (hb);replace HI0:=am_ (hi);(try clear hb);(try clear hb2);(try clear hk);(try clear hi))|((with_reducible refine gate_dst (N:=19) rfl ?_);refine Kd.R_lit (Kd.int .i64) _ 3 ?hg (N:=19) ?hd (xs:=([1,2,3,4,10]:List Int)) (inner:=[.int .i64 1, .int .i64 2, .int .i64 3, .int .i64 4, .int .i64 10]) (ok:=fun _=>True) (okp:=fun _=>True) ?hr ?hp (fun _ hk=>hk) trivial (Below.refl _ _) (Nat.le_refl _) (by simp) ?_;(case hd=>rfl);(case hg=>rfl);(case hr=>exact hr_);(case hp=>exact(Reps.one (show Kd.M (Kd.int .i64) _ _ _ 1 [.int .i64 1] from rfl) (Reps.one (show Kd.M (Kd.int .i64) _ _ _ 2 [.int .i64 2] from rfl) (Reps.one (show Kd.M (Kd.int .i64) _ _ _ 3 [.int .i64 3] from rfl) (Reps.one (show Kd.M (Kd.int .i64) _ _ _ 4 [.int .i64 4] from rfl) (Reps.one (show Kd.M (Kd.int .i64) _ _ _ 10 [.int .i64 10] from rfl) (Reps.none _ _)))))));intro v135 w20 ho21 hb hg_ hnew_;clear hg_ hnew_;(first|rw[← Ny134.out]at ho21|(simp only[Int.reduceToNat]at ho21;rw[← Ny134.out]at ho21));have HO136:=am_ (Kd.R_lower (Kd.R_new' (Kd.R_new' ho21 (Kd.R_lt ((a1_ HO121.out)))) (Kd.R_lt ((a1_ HO130.out)))) (keep_size (w:=w) (g:=g) (row:=none) ((a16_ GW112.out))));replace HO121:=am_ (Kd.R_elder' ((a1_ HO121.out)) (Kd.R_base ho21) hb);replace HO130:=am_ (Kd.R_elder' ((a1_ HO130.out)) (Kd.R_base ho21) hb);replace BK112:=am_ (blk_below (g:=gb112) (o:= .cells #[.int .i64 0, .int .i64 0, .int .i64 0] 33 (0,0)) ((a5_ BK112.out)) hb);replace HK:=am_ (KeepBut.trans ((a16_ GW112.out)) (KeepBut.of_below hb g none) (.inl rfl));replace HB:=am_ (below_step ((a17_ HI0.out GE112.out)) hb);replace HI0:=am_ (IsS55.below ((a7_ HI0.out NB0_112.out)) hb);clear hb ho21;obtain⟨Ao22,co22,eo22⟩:=Kd.R_slice HO136.out;subst eo22)|((with_reducible refine gate_callee (f:=58) rfl ?_);refine goesL_ (some 20) rfl rfl Tryd.func58 (by kernel_rfl) rfl #[.pointer (some ⟨g,0,none⟩), .slice Ao22 y134.length co22] rfl gd_ ?_;(with_reducible refine(spec_l1Cur_among.calls g s0_0 t132 t133 _ _ y134 t137 t138 t139 w0 _ ?side1 ?side2 ?side3 ?side4 ?side5 A7.out).mono ?_);(case side1=>exact(a7_ HI0.out NB0_112.out));(case side2=>exact(a17_ HI0.out GE112.out));(case side3=>exact(a12_ HO136.out));(case side4=>exact(Kd.R_reads' HO136.out).2.1);(case side5=>exact far_slice (IsS55.own_ne HI0.out HO136.out (by decide)));rintro e w23 ⟨rfl,hi,hb,hk⟩;refine⟨_,rfl,?_⟩;replace BK112:=am_ (KeepBut.blk hk (g':=gb112) (o:= .cells #[.int .i64 0, .int .i64 0, .int .i64 0] 33 (0,0)) ((a5_ BK112.out)) NB112_0.out (by simp));replace HO121:=am_ (Kd.R_mono (Kd.R_keep (IsS55.apart (show IsS55 w0 _ g s0_0 t132 t133 from(a7_ HI0.out NB0_112.out)) ((a1_ HO121.out)) (by decide)) hk (fun _ h=>h.2)) (fun _ h=>h.1));replace HO130:=am_ (Kd.R_mono (Kd.R_keep (IsS55.apart (show IsS55 w0 _ g s0_0 t132 t133 from(a7_ HI0.out NB0_112.out)) ((a1_ HO130.out)) (by decide)) hk (fun _ h=>h.2)) (fun _ h=>h.1));replace HO136:=am_ (Kd.R_mono (Kd.R_keep (IsS55.apart (show IsS55 w0 _ g s0_0 t132 t133 from(a7_ HI0.out NB0_112.out)) ((a1_ HO136.out)) (by decide)) hk (fun _ h=>h.2)) (fun _ h=>h.1));replace HK:=am_ (KeepBut.trans ((a16_ GW112.out)) hk (.inl rfl));replace HB:=am_ (hb);replace HI0:=am_ (hi);(try clear hb);(try clear hb2);(try clear hk);(try clear hi);have hnb24:=NB112_0.out;have hnc24:=NB0_112.out;have hcz25_0:w23.cell? ⟨gb112,0,none⟩=some (.int .i64 0):=(blk_cell BK112.out 0).trans rfl;have hcz25_1:w23.cell? ⟨gb112,1,none⟩=some (.int .i64 0):=(blk_cell BK112.out 1).trans rfl;have hcz25_2:w23.cell? ⟨gb112,2,none⟩=some (.int .i64 0):=(blk_cell BK112.out 2).trans rfl;have hfz25_0:=blk_frozen BK112.out 0;have hfz25_1:=blk_frozen BK112.out 1;have hfz25_2:=blk_frozen BK112.out 2))
 refine bodyPost_ret (results_cell_row rfl _ _ gb112 33 #[.int .i64 t131, .int .i64 t122, .int .i64 (wrap64 (t122+t137))] (0,0) _ rfl (by(with_reducible repeat (first|refine blk_drewN ?_ _ | refine blk_drew ?_ | refine blk_alloc ?_ _));refine blk_put (cs:= #[.int .i64 t131, .int .i64 t122, .int .i64 0]) ?_ 2 _ rfl;(with_reducible repeat (first|refine blk_drewN ?_ _ | refine blk_drew ?_ | refine blk_alloc ?_ _));refine blk_put (cs:= #[.int .i64 t131, .int .i64 0, .int .i64 0]) ?_ 1 _ rfl;(with_reducible repeat (first|refine blk_drewN ?_ _ | refine blk_drew ?_ | refine blk_alloc ?_ _));refine blk_put (cs:= #[.int .i64 0, .int .i64 0, .int .i64 0]) ?_ 0 _ rfl;(with_reducible repeat (first|refine blk_drewN ?_ _ | refine blk_drew ?_ | refine blk_alloc ?_ _));exact BK112.out) Tryd.underlying33 rfl (by kernel_rfl)) rfl ?_
 exact⟨a8_,(a7_ HI0.out NB0_112.out),(a17_ HI0.out GE112.out),(a16_ GW112.out)⟩

/-! ### spec_l1Cur_one: function 61 -/
def spec_l1Cur_one.f (s0_0:List Int) (s0_1:Int) (s0_2:Int) (a1:Int):Option (Bool×Int×Int):=(spec_l1Cur_pick.f s0_0 s0_1 s0_2 a1).bind fun bt140=>(some ((bt140.1 == 0),bt140.2.1,bt140.2.2))
set_option maxHeartbeats 8000000 in
set_option maxRecDepth 100000 in
theorem spec_l1Cur_one.calls (g:Nat) (s0_0:List Int) (s0_1:Int) (s0_2:Int) (a1:Int) (r1:Bool) (r2:Int) (r3:Int) (w0 w:World) (hI:IsS55 w0 w g s0_0 s0_1 s0_2) (hB:Below w0.heap.size w0 w) (h:spec_l1Cur_one.f s0_0 s0_1 s0_2 a1=some (r1,r2,r3)) :
 Calls Tryd.prog 61 #[.pointer (some ⟨g,0,none⟩), .int .i64 a1] w fun e w'=>e = .returned (.bool r1)∧IsS55 w0 w' g s0_0 r2 r3∧Below w0.heap.size w0 w'∧KeepBut w w' g none:=by
 have HI0:=am_ hI
 have HK:=am_ (KeepBut.refl w g none)
 have HL:=am_ hB.size
 clear hI
 have HW0:=am_ hB.size
 have HB:=am_ hB
 clear hB
 have H:((spec_l1Cur_pick.f s0_0 s0_1 s0_2 a1).bind fun bt140=>(some ((bt140.1 == 0),bt140.2.1,bt140.2.2)))=some (r1,r2,r3):=h
 clear h
 obtain⟨⟨t140,t141,t142⟩,A3,H⟩:=bo_ H
 try dsimp only at H
 simp only[Option.some.injEq,Prod.mk.injEq]at H
 obtain⟨rfl,rfl,rfl⟩:=H
 go_enter Tryd.func61,Tryd.ntmps61
 go_wp2_with (first|((with_reducible refine gate_callee (f:=54) rfl ?_);refine goesL_ (some 7) rfl rfl Tryd.func54 (by kernel_rfl) rfl #[.pointer (some ⟨g,0,none⟩), .int .i64 a1] rfl gd_ ?_;(with_reducible refine(spec_l1Cur_pick.calls g s0_0 s0_1 s0_2 a1 t140 t141 t142 w0 _ ?side1 ?side2 A3.out).mono ?_);(case side1=>exact(a2_ HI0.out));(case side2=>exact(a4_ HI0.out));rintro e w4 ⟨rfl,hi,hb,hk⟩;refine⟨_,rfl,?_⟩;replace HK:=am_ (KeepBut.trans (a6_) hk (.inl rfl));replace HB:=am_ (hb);replace HI0:=am_ (hi);(try clear hb);(try clear hb2);(try clear hk);(try clear hi)))
 go_ret
 exact⟨a8_,(a2_ HI0.out),(a4_ HI0.out),a6_⟩

/-! ### spec_l1In: function 77 -/
def spec_l1In.f (a0:Int) (a1:Int) (a2:Int):Option (Bool):=if a0≥a1 then(some (decide (a0≤a2))) else(some false)
set_option maxHeartbeats 8000000 in
set_option maxRecDepth 100000 in
theorem spec_l1In.calls (a0:Int) (a1:Int) (a2:Int) (r:Bool) (w:World) (h:spec_l1In.f a0 a1 a2=some r) :
 Calls Tryd.prog 77 #[.int .i64 a0, .int .i64 a1, .int .i64 a2] w fun e w'=>e = .returned (.bool r)∧Drawn0 w w':=by
 have H:(if a0≥a1 then(some (decide (a0≤a2))) else(some false))=some r:=h
 clear h
 by_cases c4:a0≥a1
 ·rw[if_pos c4]at H
  have c4b0:decide (a1≤a0)=true:=decide_eq_true c4
  clear c4
  obtain rfl:=Option.some.inj H
  go_enter Tryd.func77,Tryd.ntmps77
  go_wp2
  go_ret
  exact⟨by first | rfl|(simp;done)|(simp[*];done),a24_⟩
 ·rw[if_neg c4]at H
  have c4b0:decide (a1≤a0)=false:=decide_eq_false c4
  clear c4
  obtain rfl:=Option.some.inj H
  go_enter Tryd.func77,Tryd.ntmps77
  go_wp2
  go_ret
  exact⟨by first | rfl|(simp;done)|(simp[*];done),a24_⟩

/-! ### spec_shHole: function 45 -/
def spec_shHole.f (a0_0:Int) (a0_1:Int) (a0_2:Int):Option (Bool):=(spec_l1In.f a0_0 0 19).bind fun t144=>(if t144=true then((spec_l1In.f a0_1 0 1999).bind fun t145=>(if t145=true then((spec_l1In.f a0_2 (wrap64 (a0_1+1)) 2000).bind fun t146=>(some t146)) else(some false))) else(some false))
set_option maxHeartbeats 8000000 in
set_option maxRecDepth 100000 in
theorem spec_shHole.calls (a0_0:Int) (a0_1:Int) (a0_2:Int) (r:Bool) (w:World) (h:spec_shHole.f a0_0 a0_1 a0_2=some r) :
 Calls Tryd.prog 45 #[.agg #[.int .i64 a0_0, .int .i64 a0_1, .int .i64 a0_2]] w fun e w'=>e = .returned (.bool r)∧Below w.heap.size w w':=by
 have hu33:=Tryd.underlying33
 have HB:=am_ (Below.refl w.heap.size w)
 have H:((spec_l1In.f a0_0 0 19).bind fun t144=>(if t144=true then((spec_l1In.f a0_1 0 1999).bind fun t145=>(if t145=true then((spec_l1In.f a0_2 (wrap64 (a0_1+1)) 2000).bind fun t146=>(some t146)) else(some false))) else(some false)))=some r:=h
 clear h
 obtain⟨t144,A2,H⟩:=bo_ H
 try dsimp only at H
 by_cases c3:t144=true
 ·subst c3
  replace H:((spec_l1In.f a0_1 0 1999).bind fun t145=>(if t145=true then((spec_l1In.f a0_2 (wrap64 (a0_1+1)) 2000).bind fun t146=>(some t146)) else(some false)))=some r:=by rw[if_pos rfl]at H;exact H
  obtain⟨t145,A4,H⟩:=bo_ H
  try dsimp only at H
  by_cases c5:t145=true
  ·subst c5
   replace H:((spec_l1In.f a0_2 (wrap64 (a0_1+1)) 2000).bind fun t146=>(some t146))=some r:=by rw[if_pos rfl]at H;exact H
   obtain⟨t146,A6,H⟩:=bo_ H
   try dsimp only at H
   obtain rfl:=Option.some.inj H
   go_enter Tryd.func45,Tryd.ntmps45
   go_wp2_with (first|((with_reducible refine gate_dst (N:=1) rfl ?_);refine box_event ?hg (N:=1) ?hd (cs:= #[.int .i64 a0_0, .int .i64 a0_1, .int .i64 a0_2]) (t:=33) ?hr ?_;(case hd=>rfl);(case hg=>rfl);(case hr=>exact hr_);intro gb143 hg w7 hbox hb;have BK143:=am_ (hbox);have GW143:=am_ ((by rw[hg];exact(below_size (a0_)):w.heap.size≤gb143));have GE143:=am_ ((by rw[hg];exact(below_size (a0_)):w.heap.size≤gb143));replace HB:=am_ (below_step (a0_) hb);clear hb hbox hg;have hcz8_0:w7.cell? ⟨gb143,0,none⟩=some (.int .i64 a0_0):=(blk_cell BK143.out 0).trans rfl;have hcz8_1:w7.cell? ⟨gb143,1,none⟩=some (.int .i64 a0_1):=(blk_cell BK143.out 1).trans rfl;have hcz8_2:w7.cell? ⟨gb143,2,none⟩=some (.int .i64 a0_2):=(blk_cell BK143.out 2).trans rfl;have hfz8_0:=blk_frozen BK143.out 0;have hfz8_1:=blk_frozen BK143.out 1;have hfz8_2:=blk_frozen BK143.out 2)|((with_reducible refine gate_callee (f:=77) rfl ?_);refine goesL_ (some 5) rfl rfl Tryd.func77 (by kernel_rfl) rfl #[.int .i64 a0_0, .int .i64 0, .int .i64 19] rfl gd_ ?_;(with_reducible refine(spec_l1In.calls a0_0 0 19 true _ A2.out).mono ?_);rintro e w' ⟨rfl,⟨nd,rfl⟩⟩;refine⟨_,rfl,?_⟩)|(go_at_call 77;(with_reducible refine(spec_l1In.calls a0_1 0 1999 true _ A4.out).mono ?_);rintro e w' ⟨rfl,⟨nd,rfl⟩⟩)|(go_at_call 77;(with_reducible refine(spec_l1In.calls a0_2 (wrap64 (a0_1+1)) 2000 t146 _ A6.out).mono ?_);rintro e w' ⟨rfl,⟨nd,rfl⟩⟩))
   go_ret
   exact⟨a8_,(a3_ GE143.out)⟩
  ·replace c5:=Bool.eq_false_iff.mpr c5
   subst c5
   replace H:(some false)=some r:=by rw[if_neg (show ¬(false=true) by decide)]at H;exact H
   obtain rfl:=Option.some.inj H
   go_enter Tryd.func45,Tryd.ntmps45
   go_wp2_with (first|((with_reducible refine gate_dst (N:=1) rfl ?_);refine box_event ?hg (N:=1) ?hd (cs:= #[.int .i64 a0_0, .int .i64 a0_1, .int .i64 a0_2]) (t:=33) ?hr ?_;(case hd=>rfl);(case hg=>rfl);(case hr=>exact hr_);intro gb143 hg w9 hbox hb;have BK143:=am_ (hbox);have GW143:=am_ ((by rw[hg];exact(below_size (a0_)):w.heap.size≤gb143));have GE143:=am_ ((by rw[hg];exact(below_size (a0_)):w.heap.size≤gb143));replace HB:=am_ (below_step (a0_) hb);clear hb hbox hg;have hcz10_0:w9.cell? ⟨gb143,0,none⟩=some (.int .i64 a0_0):=(blk_cell BK143.out 0).trans rfl;have hcz10_1:w9.cell? ⟨gb143,1,none⟩=some (.int .i64 a0_1):=(blk_cell BK143.out 1).trans rfl;have hcz10_2:w9.cell? ⟨gb143,2,none⟩=some (.int .i64 a0_2):=(blk_cell BK143.out 2).trans rfl;have hfz10_0:=blk_frozen BK143.out 0;have hfz10_1:=blk_frozen BK143.out 1;have hfz10_2:=blk_frozen BK143.out 2)|((with_reducible refine gate_callee (f:=77) rfl ?_);refine goesL_ (some 5) rfl rfl Tryd.func77 (by kernel_rfl) rfl #[.int .i64 a0_0, .int .i64 0, .int .i64 19] rfl gd_ ?_;(with_reducible refine(spec_l1In.calls a0_0 0 19 true _ A2.out).mono ?_);rintro e w' ⟨rfl,⟨nd,rfl⟩⟩;refine⟨_,rfl,?_⟩)|(go_at_call 77;(with_reducible refine(spec_l1In.calls a0_1 0 1999 false _ A4.out).mono ?_);rintro e w' ⟨rfl,⟨nd,rfl⟩⟩))
   go_ret
   exact⟨a8_,(a3_ GE143.out)⟩
 ·replace c3:=Bool.eq_false_iff.mpr c3
  subst c3
  replace H:(some false)=some r:=by rw[if_neg (show ¬(false=true) by decide)]at H;exact H
  obtain rfl:=Option.some.inj H
  go_enter Tryd.func45,Tryd.ntmps45
  go_wp2_with (first|((with_reducible refine gate_dst (N:=1) rfl ?_);refine box_event ?hg (N:=1) ?hd (cs:= #[.int .i64 a0_0, .int .i64 a0_1, .int .i64 a0_2]) (t:=33) ?hr ?_;(case hd=>rfl);(case hg=>rfl);(case hr=>exact hr_);intro gb143 hg w11 hbox hb;have BK143:=am_ (hbox);have GW143:=am_ ((by rw[hg];exact(below_size (a0_)):w.heap.size≤gb143));have GE143:=am_ ((by rw[hg];exact(below_size (a0_)):w.heap.size≤gb143));replace HB:=am_ (below_step (a0_) hb);clear hb hbox hg;have hcz12_0:w11.cell? ⟨gb143,0,none⟩=some (.int .i64 a0_0):=(blk_cell BK143.out 0).trans rfl;have hcz12_1:w11.cell? ⟨gb143,1,none⟩=some (.int .i64 a0_1):=(blk_cell BK143.out 1).trans rfl;have hcz12_2:w11.cell? ⟨gb143,2,none⟩=some (.int .i64 a0_2):=(blk_cell BK143.out 2).trans rfl;have hfz12_0:=blk_frozen BK143.out 0;have hfz12_1:=blk_frozen BK143.out 1;have hfz12_2:=blk_frozen BK143.out 2)|((with_reducible refine gate_callee (f:=77) rfl ?_);refine goesL_ (some 5) rfl rfl Tryd.func77 (by kernel_rfl) rfl #[.int .i64 a0_0, .int .i64 0, .int .i64 19] rfl gd_ ?_;(with_reducible refine(spec_l1In.calls a0_0 0 19 false _ A2.out).mono ?_);rintro e w' ⟨rfl,⟨nd,rfl⟩⟩;refine⟨_,rfl,?_⟩))
  go_ret
  exact⟨a8_,(a3_ GE143.out)⟩

/-! ### spec_shBefore: function 74 -/
def spec_shBefore.f (a0_0:Int) (a0_1:Int) (a0_2:Int) (a1_0:Int) (a1_1:Int) (a1_2:Int):Option (Bool):=if a0_1<a1_1 then(some true) else(if a0_1=a1_1 then(some (decide (a0_0<a1_0))) else(some false))
set_option maxHeartbeats 8000000 in
set_option maxRecDepth 100000 in
theorem spec_shBefore.calls (a0_0:Int) (a0_1:Int) (a0_2:Int) (a1_0:Int) (a1_1:Int) (a1_2:Int) (r:Bool) (w:World) (h:spec_shBefore.f a0_0 a0_1 a0_2 a1_0 a1_1 a1_2=some r) :
 Calls Tryd.prog 74 #[.agg #[.int .i64 a0_0, .int .i64 a0_1, .int .i64 a0_2], .agg #[.int .i64 a1_0, .int .i64 a1_1, .int .i64 a1_2]] w fun e w'=>e = .returned (.bool r)∧Below w.heap.size w w':=by
 have hu33:=Tryd.underlying33
 have HB:=am_ (Below.refl w.heap.size w)
 have H:(if a0_1<a1_1 then(some true) else(if a0_1=a1_1 then(some (decide (a0_0<a1_0))) else(some false)))=some r:=h
 clear h
 by_cases c3:a0_1<a1_1
 ·rw[if_pos c3]at H
  have c3b0:decide (a0_1<a1_1)=true:=decide_eq_true c3
  clear c3
  obtain rfl:=Option.some.inj H
  go_enter Tryd.func74,Tryd.ntmps74
  go_wp2_with (first|((with_reducible refine gate_dst (N:=2) rfl ?_);refine box_event ?hg (N:=2) ?hd (cs:= #[.int .i64 a0_0, .int .i64 a0_1, .int .i64 a0_2]) (t:=33) ?hr ?_;(case hd=>rfl);(case hg=>rfl);(case hr=>exact hr_);intro gb147 hg w4 hbox hb;have BK147:=am_ (hbox);have GW147:=am_ ((by rw[hg];exact(below_size (a0_)):w.heap.size≤gb147));have GE147:=am_ ((by rw[hg];exact(below_size (a0_)):w.heap.size≤gb147));replace HB:=am_ (below_step (a0_) hb);clear hb hbox hg)|((with_reducible refine gate_dst (N:=3) rfl ?_);refine box_event ?hg (N:=3) ?hd (cs:= #[.int .i64 a1_0, .int .i64 a1_1, .int .i64 a1_2]) (t:=33) ?hr ?_;(case hd=>rfl);(case hg=>rfl);(case hr=>exact hr_);intro gb148 hg w5 hbox hb;have BK148:=am_ (hbox);have GW148:=am_ ((by rw[hg];exact(below_size ((a3_ GE147.out))):w.heap.size≤gb148));have GE148:=am_ ((by rw[hg];exact(below_size ((a3_ GE147.out))):w.heap.size≤gb148));replace HB:=am_ (below_step ((a3_ GE147.out)) hb);have NB147_148:=am_ ((by rw[hg];exact Nat.ne_of_lt (blk_lt (g:=gb147) (o:= .cells #[.int .i64 a0_0, .int .i64 a0_1, .int .i64 a0_2] 33 (0,0)) ((a5_ BK147.out))):gb147≠gb148));have NB148_147:=am_ ((by rw[hg];exact Nat.ne_of_gt (blk_lt (g:=gb147) (o:= .cells #[.int .i64 a0_0, .int .i64 a0_1, .int .i64 a0_2] 33 (0,0)) ((a5_ BK147.out))):gb148≠gb147));replace BK147:=am_ (blk_below (g:=gb147) (o:= .cells #[.int .i64 a0_0, .int .i64 a0_1, .int .i64 a0_2] 33 (0,0)) ((a5_ BK147.out)) hb);clear hb hbox hg;have hnb6:=NB147_148.out;have hnc6:=NB148_147.out;have hcz7_0:w5.cell? ⟨gb147,0,none⟩=some (.int .i64 a0_0):=(blk_cell BK147.out 0).trans rfl;have hcz7_1:w5.cell? ⟨gb147,1,none⟩=some (.int .i64 a0_1):=(blk_cell BK147.out 1).trans rfl;have hcz7_2:w5.cell? ⟨gb147,2,none⟩=some (.int .i64 a0_2):=(blk_cell BK147.out 2).trans rfl;have hfz7_0:=blk_frozen BK147.out 0;have hfz7_1:=blk_frozen BK147.out 1;have hfz7_2:=blk_frozen BK147.out 2;have hcz8_0:w5.cell? ⟨gb148,0,none⟩=some (.int .i64 a1_0):=(blk_cell BK148.out 0).trans rfl;have hcz8_1:w5.cell? ⟨gb148,1,none⟩=some (.int .i64 a1_1):=(blk_cell BK148.out 1).trans rfl;have hcz8_2:w5.cell? ⟨gb148,2,none⟩=some (.int .i64 a1_2):=(blk_cell BK148.out 2).trans rfl;have hfz8_0:=blk_frozen BK148.out 0;have hfz8_1:=blk_frozen BK148.out 1;have hfz8_2:=blk_frozen BK148.out 2))
  go_ret
  exact⟨a8_,(a13_ GE147.out GE148.out)⟩
 ·rw[if_neg c3]at H
  have c3b0:decide (a0_1<a1_1)=false:=decide_eq_false c3
  clear c3
  by_cases c9:a0_1=a1_1
  ·rw[if_pos c9]at H
   have c9b0:(a0_1 == a1_1)=true:=beq_iff_eq.mpr c9
   have c9b1:(a0_1 != a1_1)=false:=bne_eq_false_iff_eq.mpr c9
   clear c9
   obtain rfl:=Option.some.inj H
   go_enter Tryd.func74,Tryd.ntmps74
   go_wp2_with (first|((with_reducible refine gate_dst (N:=2) rfl ?_);refine box_event ?hg (N:=2) ?hd (cs:= #[.int .i64 a0_0, .int .i64 a0_1, .int .i64 a0_2]) (t:=33) ?hr ?_;(case hd=>rfl);(case hg=>rfl);(case hr=>exact hr_);intro gb147 hg w10 hbox hb;have BK147:=am_ (hbox);have GW147:=am_ ((by rw[hg];exact(below_size (a0_)):w.heap.size≤gb147));have GE147:=am_ ((by rw[hg];exact(below_size (a0_)):w.heap.size≤gb147));replace HB:=am_ (below_step (a0_) hb);clear hb hbox hg)|((with_reducible refine gate_dst (N:=3) rfl ?_);refine box_event ?hg (N:=3) ?hd (cs:= #[.int .i64 a1_0, .int .i64 a1_1, .int .i64 a1_2]) (t:=33) ?hr ?_;(case hd=>rfl);(case hg=>rfl);(case hr=>exact hr_);intro gb148 hg w11 hbox hb;have BK148:=am_ (hbox);have GW148:=am_ ((by rw[hg];exact(below_size ((a3_ GE147.out))):w.heap.size≤gb148));have GE148:=am_ ((by rw[hg];exact(below_size ((a3_ GE147.out))):w.heap.size≤gb148));replace HB:=am_ (below_step ((a3_ GE147.out)) hb);have NB147_148:=am_ ((by rw[hg];exact Nat.ne_of_lt (blk_lt (g:=gb147) (o:= .cells #[.int .i64 a0_0, .int .i64 a0_1, .int .i64 a0_2] 33 (0,0)) ((a5_ BK147.out))):gb147≠gb148));have NB148_147:=am_ ((by rw[hg];exact Nat.ne_of_gt (blk_lt (g:=gb147) (o:= .cells #[.int .i64 a0_0, .int .i64 a0_1, .int .i64 a0_2] 33 (0,0)) ((a5_ BK147.out))):gb148≠gb147));replace BK147:=am_ (blk_below (g:=gb147) (o:= .cells #[.int .i64 a0_0, .int .i64 a0_1, .int .i64 a0_2] 33 (0,0)) ((a5_ BK147.out)) hb);clear hb hbox hg;have hnb12:=NB147_148.out;have hnc12:=NB148_147.out;have hcz13_0:w11.cell? ⟨gb147,0,none⟩=some (.int .i64 a0_0):=(blk_cell BK147.out 0).trans rfl;have hcz13_1:w11.cell? ⟨gb147,1,none⟩=some (.int .i64 a0_1):=(blk_cell BK147.out 1).trans rfl;have hcz13_2:w11.cell? ⟨gb147,2,none⟩=some (.int .i64 a0_2):=(blk_cell BK147.out 2).trans rfl;have hfz13_0:=blk_frozen BK147.out 0;have hfz13_1:=blk_frozen BK147.out 1;have hfz13_2:=blk_frozen BK147.out 2;have hcz14_0:w11.cell? ⟨gb148,0,none⟩=some (.int .i64 a1_0):=(blk_cell BK148.out 0).trans rfl;have hcz14_1:w11.cell? ⟨gb148,1,none⟩=some (.int .i64 a1_1):=(blk_cell BK148.out 1).trans rfl;have hcz14_2:w11.cell? ⟨gb148,2,none⟩=some (.int .i64 a1_2):=(blk_cell BK148.out 2).trans rfl;have hfz14_0:=blk_frozen BK148.out 0;have hfz14_1:=blk_frozen BK148.out 1;have hfz14_2:=blk_frozen BK148.out 2))
   go_ret
   exact⟨a8_,(a13_ GE147.out GE148.out)⟩
  ·rw[if_neg c9]at H
   have c9b0:(a0_1 == a1_1)=false:=beq_eq_false_iff_ne.mpr c9
   have c9b1:(a0_1 != a1_1)=true:=bne_iff_ne.mpr c9
   obtain rfl:=Option.some.inj H
   go_enter Tryd.func74,Tryd.ntmps74
   go_wp2_with (first|((with_reducible refine gate_dst (N:=2) rfl ?_);refine box_event ?hg (N:=2) ?hd (cs:= #[.int .i64 a0_0, .int .i64 a0_1, .int .i64 a0_2]) (t:=33) ?hr ?_;(case hd=>rfl);(case hg=>rfl);(case hr=>exact hr_);intro gb147 hg w15 hbox hb;have BK147:=am_ (hbox);have GW147:=am_ ((by rw[hg];exact(below_size (a0_)):w.heap.size≤gb147));have GE147:=am_ ((by rw[hg];exact(below_size (a0_)):w.heap.size≤gb147));replace HB:=am_ (below_step (a0_) hb);clear hb hbox hg)|((with_reducible refine gate_dst (N:=3) rfl ?_);refine box_event ?hg (N:=3) ?hd (cs:= #[.int .i64 a1_0, .int .i64 a1_1, .int .i64 a1_2]) (t:=33) ?hr ?_;(case hd=>rfl);(case hg=>rfl);(case hr=>exact hr_);intro gb148 hg w16 hbox hb;have BK148:=am_ (hbox);have GW148:=am_ ((by rw[hg];exact(below_size ((a3_ GE147.out))):w.heap.size≤gb148));have GE148:=am_ ((by rw[hg];exact(below_size ((a3_ GE147.out))):w.heap.size≤gb148));replace HB:=am_ (below_step ((a3_ GE147.out)) hb);have NB147_148:=am_ ((by rw[hg];exact Nat.ne_of_lt (blk_lt (g:=gb147) (o:= .cells #[.int .i64 a0_0, .int .i64 a0_1, .int .i64 a0_2] 33 (0,0)) ((a5_ BK147.out))):gb147≠gb148));have NB148_147:=am_ ((by rw[hg];exact Nat.ne_of_gt (blk_lt (g:=gb147) (o:= .cells #[.int .i64 a0_0, .int .i64 a0_1, .int .i64 a0_2] 33 (0,0)) ((a5_ BK147.out))):gb148≠gb147));replace BK147:=am_ (blk_below (g:=gb147) (o:= .cells #[.int .i64 a0_0, .int .i64 a0_1, .int .i64 a0_2] 33 (0,0)) ((a5_ BK147.out)) hb);clear hb hbox hg;have hnb17:=NB147_148.out;have hnc17:=NB148_147.out;have hcz18_0:w16.cell? ⟨gb147,0,none⟩=some (.int .i64 a0_0):=(blk_cell BK147.out 0).trans rfl;have hcz18_1:w16.cell? ⟨gb147,1,none⟩=some (.int .i64 a0_1):=(blk_cell BK147.out 1).trans rfl;have hcz18_2:w16.cell? ⟨gb147,2,none⟩=some (.int .i64 a0_2):=(blk_cell BK147.out 2).trans rfl;have hfz18_0:=blk_frozen BK147.out 0;have hfz18_1:=blk_frozen BK147.out 1;have hfz18_2:=blk_frozen BK147.out 2;have hcz19_0:w16.cell? ⟨gb148,0,none⟩=some (.int .i64 a1_0):=(blk_cell BK148.out 0).trans rfl;have hcz19_1:w16.cell? ⟨gb148,1,none⟩=some (.int .i64 a1_1):=(blk_cell BK148.out 1).trans rfl;have hcz19_2:w16.cell? ⟨gb148,2,none⟩=some (.int .i64 a1_2):=(blk_cell BK148.out 2).trans rfl;have hfz19_0:=blk_frozen BK148.out 0;have hfz19_1:=blk_frozen BK148.out 1;have hfz19_2:=blk_frozen BK148.out 2))
   go_ret
   exact⟨a8_,(a13_ GE147.out GE148.out)⟩

end Go.Proofs.YtpbffmjjhmllbaaDoor.QFnChecksums
