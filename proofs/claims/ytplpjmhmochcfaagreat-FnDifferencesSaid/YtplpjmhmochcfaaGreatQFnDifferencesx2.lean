/- Written by a program of this session (the kit's printer, with leaf contracts proved by hand put in): what each Go function computes, and that the call computes it. No condition but those that each theorem names. -/
import Derived.Test.YtplpjmhmochcfaaGreatQFnDifferencesx0
namespace Go.Proofs.YtplpjmhmochcfaaGreat.QFnDifferences
open Go.RowKit Go.Proofs.YtplpjmhmochcfaaGreatW.PrintWords Go.Proofs.YtplpjmhmochcfaaGreatW.PrintLast Go.Proofs.YtplpjmhmochcfaaGreatW.PrintMore
attribute [local go_sem] max2_int min2_int max_two min_two max_three min_three max_four min_four   -- for this text's walks alone
set_option linter.unusedVariables false
set_option linter.unusedSimpArgs false

/-! ### laws_big: function 5 -/
def laws_big.f (l0:List Int) (l1:List Int):Option (Bool):=if(l0.length:Int)>1048576 then(some true) else(some (decide ((l1.length:Int)>(wrap64 (1048576-(l0.length:Int))))))
set_option maxHeartbeats 8000000 in
set_option maxRecDepth 100000 in
theorem laws_big.calls (A0:Option Addr) (c0:Nat) (l0:List Int) (A1:Option Addr) (c1:Nat) (l1:List Int) (r:Bool) (w:World) (hr0:Kd.C (Kd.int .u8) w A0 l0.length l0) (hc0:l0.length≤c0) (hr1:Kd.C (Kd.int .u8) w A1 l1.length l1) (hc1:l1.length≤c1) (h:laws_big.f l0 l1=some r) :
 Calls Tryz.prog 5 #[.slice A0 l0.length c0, .slice A1 l1.length c1] w fun e w'=>e = .returned (.bool r)∧Drawn0 w w':=by
 have HR0:=am_ hr0
 have HC0:=am_ hc0
 clear hr0 hc0
 have HR1:=am_ hr1
 have HC1:=am_ hc1
 clear hr1 hc1
 have H:(if(l0.length:Int)>1048576 then(some true) else(some (decide ((l1.length:Int)>(wrap64 (1048576-(l0.length:Int)))))))=some r:=h
 clear h
 by_cases c3:(l0.length:Int)>1048576
 ·rw[if_pos c3]at H
  have c3b0:decide (1048576<(l0.length:Int))=true:=decide_eq_true c3
  have c3b1:decide (1048576<l0.length)=true:=decide_eq_true (by omega)
  clear c3
  obtain rfl:=Option.some.inj H
  go_enter Tryz.func5,Tryz.ntmps5
  go_wp2
  go_ret
  exact⟨by first | rfl|(simp;done)|(simp[*];done),a38_⟩
 ·rw[if_neg c3]at H
  have c3b0:decide (1048576<(l0.length:Int))=false:=decide_eq_false c3
  have c3b1:decide (1048576<l0.length)=false:=decide_eq_false (by omega)
  clear c3
  obtain rfl:=Option.some.inj H
  go_enter Tryz.func5,Tryz.ntmps5
  go_wp2
  go_ret
  exact⟨by first | rfl|(simp;done)|(simp[*];done),a38_⟩

/-- A state of type 69 at block g of W; what its slices lead to came in by w0. -/
def IsS69 (w0 W:World) (g:Nat) (f0:List Int) (f1:Int) (f2:Int):Prop:= ∃A0 c0,W.heap[g]? = some (.cells #[.slice A0 f0.length c0, .int .i64 f1, .int .u64 f2] 69 (0,0))∧w0.heap.size≤g∧Kd.C (Kd.int .u8) w0 A0 f0.length f0
theorem IsS69.grown {w0 W:World} {g:Nat} {f0:List Int} {f1:Int} {f2:Int} {W1:World} {row:Option Nat} (h:IsS69 w0 W g f0 f1 f2) (hw:W.grownBy W1 row) (hne:some g≠row):IsS69 w0 W1 g f0 f1 f2:=by
 obtain⟨A0,c0,hb,hg,hr0⟩:=h
 exact⟨A0,c0,blk_grown hb hw hne,hg,hr0⟩
theorem IsS69.own_neN {w0 W:World} {g:Nat} {f0:List Int} {f1:Int} {f2:Int} {α:Type} {d:Kd α} {e:Nat} {base:Nat} {ok:Nat→Prop} {v:Value} {xs:List α} (h:IsS69 w0 W g f0 f1 f2) (ho:Kd.N d e W base ok v xs) (ht:e≠69):some g≠v.ownBlock:=by
 obtain⟨A0,c0,hb,hg,hr0⟩:=h
 exact Kd.N_ne ho hb ht
theorem IsS69.fresh {w0 W:World} {g:Nat} {f0:List Int} {f1:Int} {f2:Int} (h:IsS69 w0 W g f0 f1 f2):∀k,W.heap.size≤k→k≠g:=by
 obtain⟨A0,c0,hb,hg,hr0⟩:=h
 exact Kd.freshB hb
theorem IsS69.kept {w0 W:World} {g:Nat} {f0:List Int} {f1:Int} {f2:Int} {W1:World} {S:Nat→Prop} (h:IsS69 w0 W g f0 f1 f2) (hk:Kept W W1 S) (hne:¬S g):IsS69 w0 W1 g f0 f1 f2:=by
 obtain⟨A0,c0,hb,hg,hr0⟩:=h
 exact⟨A0,c0,blk_kept hb hk hne,hg,hr0⟩
theorem IsS69.below {w0 W:World} {g:Nat} {f0:List Int} {f1:Int} {f2:Int} {W1:World} (h:IsS69 w0 W g f0 f1 f2) (hw:Below W.heap.size W W1):IsS69 w0 W1 g f0 f1 f2:=h.grown (grown_of_below hw none) (by simp)
theorem IsS69.alloc {w0 W:World} {g:Nat} {f0:List Int} {f1:Int} {f2:Int} (h:IsS69 w0 W g f0 f1 f2) (o:Obj):IsS69 w0 (W.alloc o) g f0 f1 f2:=h.below (below_alloc (Below.refl _ _) o)
theorem IsS69.drewN {w0 W:World} {g:Nat} {f0:List Int} {f1:Int} {f2:Int} (h:IsS69 w0 W g f0 f1 f2) (m:Nat):IsS69 w0 (W.drewN m) g f0 f1 f2:=h
theorem IsS69.drew {w0 W:World} {g:Nat} {f0:List Int} {f1:Int} {f2:Int} (h:IsS69 w0 W g f0 f1 f2):IsS69 w0 W.drew g f0 f1 f2:=h
theorem IsS69.at_ {w0 W:World} {g:Nat} {f0:List Int} {f1:Int} {f2:Int} {w':World} {m:Nat} (hq:W.drewN m=w') (h:IsS69 w0 W g f0 f1 f2):IsS69 w0 w' g f0 f1 f2:=by subst hq;exact IsS69.drewN h m
theorem IsS69.apart {w0 W:World} {g:Nat} {f0:List Int} {f1:Int} {f2:Int} {α:Type} {d:Kd α} {e:Nat} {base:Nat} {ok:Nat→Prop} {v:Value} {xs:List α} (h:IsS69 w0 W g f0 f1 f2) (ho:d.R e W base ok v xs) (ht:∀q,q∈e :: d.E→q≠69):d.R e W base (fun k=>ok k∧k≠g) v xs:=by
 obtain⟨A0,c0,hb,hg,hr0⟩:=h
 exact Kd.R_types ho hb ht
theorem IsS69.own_ne {w0 W:World} {g:Nat} {f0:List Int} {f1:Int} {f2:Int} {α:Type} {d:Kd α} {e:Nat} {base:Nat} {ok:Nat→Prop} {v:Value} {xs:List α} (h:IsS69 w0 W g f0 f1 f2) (ho:d.R e W base ok v xs) (ht:e≠69):some g≠v.ownBlock:=by
 obtain⟨A0,c0,hb,hg,hr0⟩:=h
 exact Kd.R_ne ho hb ht
theorem IsS69.apartQ {w0 W:World} {g:Nat} {f0:List Int} {f1:Int} {f2:Int} {α:Type} {d:Kd α} {e:Nat} {base:Nat} {ok:Nat→Prop} {v:Value} {xs:List α} (h:IsS69 w0 W g f0 f1 f2) (ho:d.Q e W base ok v xs) (ht:∀q,q∈e :: d.E→q≠69):d.Q e W base (fun k=>ok k∧k≠g) v xs:=by
 obtain⟨A0,c0,hb,hg,hr0⟩:=h
 exact Kd.Q_types ho hb ht
theorem IsS69.own_neQ {w0 W:World} {g:Nat} {f0:List Int} {f1:Int} {f2:Int} {α:Type} {d:Kd α} {e:Nat} {base:Nat} {ok:Nat→Prop} {v:Value} {xs:List α} (h:IsS69 w0 W g f0 f1 f2) (ho:d.Q e W base ok v xs) (ht:e≠69):some g≠v.ownBlock:=by
 obtain⟨A0,c0,hb,hg,hr0⟩:=h
 exact Kd.Q_ne ho hb ht
theorem IsS69.apartS {w0 W:World} {g:Nat} {f0:List Int} {f1:Int} {f2:Int} {α:Type} {d:Kd α} {e:Nat} {base:Nat} {ok:Nat→Prop} {v:Value} {xs:List α} (h:IsS69 w0 W g f0 f1 f2) (ho:d.S e W base ok v xs) (ht:∀q,q∈e :: d.E→q≠69):d.S e W base (fun k=>ok k∧k≠g) v xs:=by
 obtain⟨A0,c0,hb,hg,hr0⟩:=h
 exact Kd.S_types ho hb ht
theorem IsS69.own_neS {w0 W:World} {g:Nat} {f0:List Int} {f1:Int} {f2:Int} {α:Type} {d:Kd α} {e:Nat} {base:Nat} {ok:Nat→Prop} {v:Value} {xs:List α} (h:IsS69 w0 W g f0 f1 f2) (ho:d.S e W base ok v xs) (ht:e≠69):some g≠v.ownBlock:=by
 obtain⟨A0,c0,hb,hg,hr0⟩:=h
 exact Kd.S_ne ho hb ht
theorem IsS69.lt {w0 W:World} {g:Nat} {f0:List Int} {f1:Int} {f2:Int} (h:IsS69 w0 W g f0 f1 f2):g<W.heap.size:=by
 obtain⟨A0,c0,hb,hg,hr0⟩:=h
 exact blk_lt hb
theorem IsS69.ge {w0 W:World} {g:Nat} {f0:List Int} {f1:Int} {f2:Int} (h:IsS69 w0 W g f0 f1 f2):w0.heap.size≤g:=by
 obtain⟨A0,c0,hb,hg,hr0⟩:=h
 exact hg
theorem IsS69.ne_blk {w0 W:World} {g:Nat} {f0:List Int} {f1:Int} {f2:Int} {a:Nat} {cs:Array Value} {t:TypeId} {fr:Nat×Nat} (h:IsS69 w0 W g f0 f1 f2) (hb2:W.heap[a]? = some (.cells cs t fr)) (ht:t≠69):g≠a:=by
 obtain⟨A0,c0,hb,hg,hr0⟩:=h
 rintro rfl
 rw[hb]at hb2
 injection hb2 with hb2
 injection hb2 with _ ht2
 exact ht ht2.symm
theorem IsS69.far {w0 W:World} {g:Nat} {f0:List Int} {f1:Int} {f2:Int} {p:Addr} (h:IsS69 w0 W g f0 f1 f2) (hne:g≠p.block) (u:Value):IsS69 w0 (W.setCell p u) g f0 f1 f2:=by
 obtain⟨A0,c0,hb,hg,hr0⟩:=h
 exact⟨A0,c0,blk_far hb hne u,hg,hr0⟩
theorem cellS69_0 {W:World} {g:Nat} {A0:Option Addr} {c0:Nat} {f0:List Int} {f1:Int} {f2:Int} (h:W.heap[g]? = some (.cells #[.slice A0 f0.length c0, .int .i64 f1, .int .u64 f2] 69 (0,0))):W.cell? ⟨g,0,none⟩=some (.slice A0 f0.length c0):=(blk_cell h 0).trans rfl
theorem cellS69_1 {W:World} {g:Nat} {A0:Option Addr} {c0:Nat} {f0:List Int} {f1:Int} {f2:Int} (h:W.heap[g]? = some (.cells #[.slice A0 f0.length c0, .int .i64 f1, .int .u64 f2] 69 (0,0))):W.cell? ⟨g,1,none⟩=some (.int .i64 f1):=(blk_cell h 1).trans rfl
theorem IsS69.set_1 {w0 W:World} {g:Nat} {f0:List Int} {f1:Int} {f2:Int} (h:IsS69 w0 W g f0 f1 f2) (x:Int):IsS69 w0 (W.setCell ⟨g,1,none⟩ (.int .i64 x)) g f0 x f2:=by
 obtain⟨A0,c0,hb,hg,hr0⟩:=h
 exact⟨A0,c0,by simpa using blk_set hb 1 (.int .i64 x),hg,hr0⟩
theorem cellS69_2 {W:World} {g:Nat} {A0:Option Addr} {c0:Nat} {f0:List Int} {f1:Int} {f2:Int} (h:W.heap[g]? = some (.cells #[.slice A0 f0.length c0, .int .i64 f1, .int .u64 f2] 69 (0,0))):W.cell? ⟨g,2,none⟩=some (.int .u64 f2):=(blk_cell h 2).trans rfl
theorem IsS69.set_2 {w0 W:World} {g:Nat} {f0:List Int} {f1:Int} {f2:Int} (h:IsS69 w0 W g f0 f1 f2) (x:Int):IsS69 w0 (W.setCell ⟨g,2,none⟩ (.int .u64 x)) g f0 f1 x:=by
 obtain⟨A0,c0,hb,hg,hr0⟩:=h
 exact⟨A0,c0,by simpa using blk_set hb 2 (.int .u64 x),hg,hr0⟩
theorem IsS69.new (w0 W:World) (A0:Option Addr) (c0:Nat) (f0:List Int) (f1:Int) (f2:Int) (hB:Below w0.heap.size w0 W) (hr0:Kd.C (Kd.int .u8) w0 A0 f0.length f0):IsS69 w0 (W.alloc (.cells #[.slice A0 f0.length c0, .int .i64 f1, .int .u64 f2] 69)) W.heap.size f0 f1 f2:=⟨A0,c0,by simpa using heap_alloc_new W _,hB.size,hr0⟩

/-! ### spec_l1Cur_next: function 98 -/
def spec_l1Cur_next.f (s0_0:List Int) (s0_1:Int) (s0_2:Int):Option (Int×Int×Int):=if s0_1<(s0_0.length:Int) then(if 0≤s0_1 then(if(wrap64 (s0_1+1))≤(s0_0.length:Int) then(some (wrap64 (rd s0_0 s0_1),wrap64 (s0_1+1),IntKind.u64.wrap ((IntKind.u64.wrap ((IntKind.u64.wrap (s0_2*6364136223846793005))+(IntKind.u64.wrap (wrap64 (rd s0_0 s0_1)))))+1442695040888963407))) else(some (wrap64 (Go.bits .and .u64 ((IntKind.u64.wrap ((IntKind.u64.wrap ((IntKind.u64.wrap (s0_2*6364136223846793005))+(IntKind.u64.wrap (wrap64 (rd s0_0 s0_1)))))+1442695040888963407)) / 1099511627776) 255),wrap64 (s0_1+1),IntKind.u64.wrap ((IntKind.u64.wrap ((IntKind.u64.wrap (s0_2*6364136223846793005))+(IntKind.u64.wrap (wrap64 (rd s0_0 s0_1)))))+1442695040888963407)))) else(none)) else(if(wrap64 (s0_1+1))≤(s0_0.length:Int) then(some (0,wrap64 (s0_1+1),IntKind.u64.wrap ((IntKind.u64.wrap (IntKind.u64.wrap (s0_2*6364136223846793005)))+1442695040888963407))) else(some (wrap64 (Go.bits .and .u64 ((IntKind.u64.wrap ((IntKind.u64.wrap (IntKind.u64.wrap (s0_2*6364136223846793005)))+1442695040888963407)) / 1099511627776) 255),wrap64 (s0_1+1),IntKind.u64.wrap ((IntKind.u64.wrap (IntKind.u64.wrap (s0_2*6364136223846793005)))+1442695040888963407))))
set_option maxHeartbeats 8000000 in
set_option maxRecDepth 100000 in
theorem spec_l1Cur_next.calls (g:Nat) (s0_0:List Int) (s0_1:Int) (s0_2:Int) (r1:Int) (r2:Int) (r3:Int) (w0 w:World) (hI:IsS69 w0 w g s0_0 s0_1 s0_2) (hB:Below w0.heap.size w0 w) (h:spec_l1Cur_next.f s0_0 s0_1 s0_2=some (r1,r2,r3)) :
 Calls Tryz.prog 98 #[.pointer (some ⟨g,0,none⟩)] w fun e w'=>e = .returned (.int .i64 r1)∧IsS69 w0 w' g s0_0 r2 r3∧Below w0.heap.size w0 w'∧KeepBut w w' g none:=by
 have HI0:=am_ hI
 have HK:=am_ (KeepBut.refl w g none)
 have HL:=am_ hB.size
 clear hI
 have HW0:=am_ hB.size
 have HB:=am_ hB
 clear hB
 have H:(if s0_1<(s0_0.length:Int) then(if 0≤s0_1 then(if(wrap64 (s0_1+1))≤(s0_0.length:Int) then(some (wrap64 (rd s0_0 s0_1),wrap64 (s0_1+1),IntKind.u64.wrap ((IntKind.u64.wrap ((IntKind.u64.wrap (s0_2*6364136223846793005))+(IntKind.u64.wrap (wrap64 (rd s0_0 s0_1)))))+1442695040888963407))) else(some (wrap64 (Go.bits .and .u64 ((IntKind.u64.wrap ((IntKind.u64.wrap ((IntKind.u64.wrap (s0_2*6364136223846793005))+(IntKind.u64.wrap (wrap64 (rd s0_0 s0_1)))))+1442695040888963407)) / 1099511627776) 255),wrap64 (s0_1+1),IntKind.u64.wrap ((IntKind.u64.wrap ((IntKind.u64.wrap (s0_2*6364136223846793005))+(IntKind.u64.wrap (wrap64 (rd s0_0 s0_1)))))+1442695040888963407)))) else(none)) else(if(wrap64 (s0_1+1))≤(s0_0.length:Int) then(some (0,wrap64 (s0_1+1),IntKind.u64.wrap ((IntKind.u64.wrap (IntKind.u64.wrap (s0_2*6364136223846793005)))+1442695040888963407))) else(some (wrap64 (Go.bits .and .u64 ((IntKind.u64.wrap ((IntKind.u64.wrap (IntKind.u64.wrap (s0_2*6364136223846793005)))+1442695040888963407)) / 1099511627776) 255),wrap64 (s0_1+1),IntKind.u64.wrap ((IntKind.u64.wrap (IntKind.u64.wrap (s0_2*6364136223846793005)))+1442695040888963407)))))=some (r1,r2,r3):=h
 clear h
 by_cases c2:s0_1<(s0_0.length:Int)
 ·rw[if_pos c2]at H
  have c2b0:decide (s0_1<(s0_0.length:Int))=true:=decide_eq_true c2
  clear c2
  by_cases c3:0≤s0_1
  ·rw[if_pos c3]at H
   have c3b0:decide (0≤s0_1)=true:=decide_eq_true c3
   clear c3
   by_cases c4:(wrap64 (s0_1+1))≤(s0_0.length:Int)
   ·rw[if_pos c4]at H
    have c4b0:decide ((wrap64 (s0_1+1))≤(s0_0.length:Int))=true:=decide_eq_true c4
    clear c4
    simp only[Option.some.injEq,Prod.mk.injEq]at H
    obtain⟨rfl,rfl,rfl⟩:=H
    obtain⟨ASz5_0,cSz5_0,HGz5,hgz5,HSz5_0⟩:=HI0.out
    have hcz5_0:=cellS69_0 HGz5
    have hcz5_1:=cellS69_1 HGz5
    have hcz5_2:=cellS69_2 HGz5
    have hfz5_1:=blk_frozen HGz5 1
    have hfz5_2:=blk_frozen HGz5 2
    clear HGz5 hgz5
    have p101:0≤(s0_1:Int):=of_decide_eq_true (a12_)
    have q101:s0_1<(s0_0.length:Int):=of_decide_eq_true (a12_)
    obtain⟨ad101,e101,hx101_0⟩:=Kd.at_int HSz5_0 s0_1 p101 q101
    cases e101
    replace hx101_0:=pw_cell_below HB.out hx101_0
    replace p101:=eq_true p101
    replace q101:=eq_true q101
    go_enter Tryz.func98,Tryz.ntmps98
    go_wp2
    repeat (go_quiet (fail);try go_wp2)
    go_ret
    exact⟨a10_,(a2_ HI0.out),(a3_ HI0.out),a7_⟩
   ·rw[if_neg c4]at H
    have c4b0:decide ((wrap64 (s0_1+1))≤(s0_0.length:Int))=false:=decide_eq_false c4
    clear c4
    simp only[Option.some.injEq,Prod.mk.injEq]at H
    obtain⟨rfl,rfl,rfl⟩:=H
    obtain⟨ASz6_0,cSz6_0,HGz6,hgz6,HSz6_0⟩:=HI0.out
    have hcz6_0:=cellS69_0 HGz6
    have hcz6_1:=cellS69_1 HGz6
    have hcz6_2:=cellS69_2 HGz6
    have hfz6_1:=blk_frozen HGz6 1
    have hfz6_2:=blk_frozen HGz6 2
    clear HGz6 hgz6
    have p101:0≤(s0_1:Int):=of_decide_eq_true (a12_)
    have q101:s0_1<(s0_0.length:Int):=of_decide_eq_true (a12_)
    obtain⟨ad101,e101,hx101_0⟩:=Kd.at_int HSz6_0 s0_1 p101 q101
    cases e101
    replace hx101_0:=pw_cell_below HB.out hx101_0
    replace p101:=eq_true p101
    replace q101:=eq_true q101
    go_enter Tryz.func98,Tryz.ntmps98
    go_wp2
    repeat (go_quiet (fail);try go_wp2)
    go_ret
    exact⟨a10_,(a2_ HI0.out),(a3_ HI0.out),a7_⟩
  ·rw[if_neg c3]at H
   exact absurd H (by simp)
 ·rw[if_neg c2]at H
  have c2b0:decide (s0_1<(s0_0.length:Int))=false:=decide_eq_false c2
  clear c2
  by_cases c7:(wrap64 (s0_1+1))≤(s0_0.length:Int)
  ·rw[if_pos c7]at H
   have c7b0:decide ((wrap64 (s0_1+1))≤(s0_0.length:Int))=true:=decide_eq_true c7
   clear c7
   simp only[Option.some.injEq,Prod.mk.injEq]at H
   obtain⟨rfl,rfl,rfl⟩:=H
   obtain⟨ASz8_0,cSz8_0,HGz8,hgz8,HSz8_0⟩:=HI0.out
   have hcz8_0:=cellS69_0 HGz8
   have hcz8_1:=cellS69_1 HGz8
   have hcz8_2:=cellS69_2 HGz8
   have hfz8_1:=blk_frozen HGz8 1
   have hfz8_2:=blk_frozen HGz8 2
   clear HGz8 hgz8
   go_enter Tryz.func98,Tryz.ntmps98
   go_wp2
   repeat (go_quiet (fail);try go_wp2)
   go_ret
   exact⟨a10_,(a2_ HI0.out),(a3_ HI0.out),a7_⟩
  ·rw[if_neg c7]at H
   have c7b0:decide ((wrap64 (s0_1+1))≤(s0_0.length:Int))=false:=decide_eq_false c7
   clear c7
   simp only[Option.some.injEq,Prod.mk.injEq]at H
   obtain⟨rfl,rfl,rfl⟩:=H
   obtain⟨ASz9_0,cSz9_0,HGz9,hgz9,HSz9_0⟩:=HI0.out
   have hcz9_0:=cellS69_0 HGz9
   have hcz9_1:=cellS69_1 HGz9
   have hcz9_2:=cellS69_2 HGz9
   have hfz9_1:=blk_frozen HGz9 1
   have hfz9_2:=blk_frozen HGz9 2
   clear HGz9 hgz9
   go_enter Tryz.func98,Tryz.ntmps98
   go_wp2
   repeat (go_quiet (fail);try go_wp2)
   go_ret
   exact⟨a10_,(a2_ HI0.out),(a3_ HI0.out),a7_⟩

/-! ### spec_l1Cur_pick: function 55 -/
def spec_l1Cur_pick.f (s0_0:List Int) (s0_1:Int) (s0_2:Int) (a1:Int):Option (Int×Int×Int):=if a1≤1 then(some (0,s0_1,s0_2)) else((spec_l1Cur_next.f s0_0 s0_1 s0_2).bind fun bt102=>(if a1>200 then((spec_l1Cur_next.f s0_0 bt102.2.1 bt102.2.2).bind fun bt105=>(if a1=0 then(none) else(some (Int.tmod (wrap64 ((wrap64 (bt102.1*256))+bt105.1)) a1,bt105.2.1,bt105.2.2)))) else(if a1=0 then(none) else(some (Int.tmod bt102.1 a1,bt102.2.1,bt102.2.2)))))
set_option maxHeartbeats 8000000 in
set_option maxRecDepth 100000 in
theorem spec_l1Cur_pick.calls (g:Nat) (s0_0:List Int) (s0_1:Int) (s0_2:Int) (a1:Int) (r1:Int) (r2:Int) (r3:Int) (w0 w:World) (hI:IsS69 w0 w g s0_0 s0_1 s0_2) (hB:Below w0.heap.size w0 w) (h:spec_l1Cur_pick.f s0_0 s0_1 s0_2 a1=some (r1,r2,r3)) :
 Calls Tryz.prog 55 #[.pointer (some ⟨g,0,none⟩), .int .i64 a1] w fun e w'=>e = .returned (.int .i64 r1)∧IsS69 w0 w' g s0_0 r2 r3∧Below w0.heap.size w0 w'∧KeepBut w w' g none:=by
 have HI0:=am_ hI
 have HK:=am_ (KeepBut.refl w g none)
 have HL:=am_ hB.size
 clear hI
 have HW0:=am_ hB.size
 have HB:=am_ hB
 clear hB
 have H:(if a1≤1 then(some (0,s0_1,s0_2)) else((spec_l1Cur_next.f s0_0 s0_1 s0_2).bind fun bt102=>(if a1>200 then((spec_l1Cur_next.f s0_0 bt102.2.1 bt102.2.2).bind fun bt105=>(if a1=0 then(none) else(some (Int.tmod (wrap64 ((wrap64 (bt102.1*256))+bt105.1)) a1,bt105.2.1,bt105.2.2)))) else(if a1=0 then(none) else(some (Int.tmod bt102.1 a1,bt102.2.1,bt102.2.2))))))=some (r1,r2,r3):=h
 clear h
 by_cases c3:a1≤1
 ·rw[if_pos c3]at H
  have c3b0:decide (a1≤1)=true:=decide_eq_true c3
  clear c3
  simp only[Option.some.injEq,Prod.mk.injEq]at H
  obtain⟨rfl,rfl,rfl⟩:=H
  go_enter Tryz.func55,Tryz.ntmps55
  go_wp2
  go_ret
  exact⟨a10_,(a2_ HI0.out),(a3_ HI0.out),a7_⟩
 ·rw[if_neg c3]at H
  have c3b0:decide (a1≤1)=false:=decide_eq_false c3
  clear c3
  obtain⟨⟨t102,t103,t104⟩,A4,H⟩:=bo_ H
  try dsimp only at H
  by_cases c5:a1>200
  ·rw[if_pos c5]at H
   have c5b0:decide (200<a1)=true:=decide_eq_true c5
   clear c5
   obtain⟨⟨t105,t106,t107⟩,A6,H⟩:=bo_ H
   try dsimp only at H
   by_cases c7:a1=0
   ·rw[if_pos c7]at H
    exact absurd H (by simp)
   ·rw[if_neg c7]at H
    have c7b0:(a1 == 0)=false:=beq_eq_false_iff_ne.mpr c7
    have c7b1:(a1 != 0)=true:=bne_iff_ne.mpr c7
    simp only[Option.some.injEq,Prod.mk.injEq]at H
    obtain⟨rfl,rfl,rfl⟩:=H
    go_enter Tryz.func55,Tryz.ntmps55
    go_wp2_with (first|((with_reducible refine gate_callee (f:=98) rfl ?_);refine goesL_ (some 9) rfl rfl Tryz.func98 (by kernel_rfl) rfl #[.pointer (some ⟨g,0,none⟩)] rfl gd_ ?_;(with_reducible refine(spec_l1Cur_next.calls g s0_0 s0_1 s0_2 t102 t103 t104 w0 _ ?side1 ?side2 A4.out).mono ?_);(case side1=>exact(a2_ HI0.out));(case side2=>exact(a3_ HI0.out));rintro e w8 ⟨rfl,hi,hb,hk⟩;refine⟨_,rfl,?_⟩;replace HK:=am_ (KeepBut.trans (a7_) hk (.inl rfl));replace HB:=am_ (hb);replace HI0:=am_ (hi);(try clear hb);(try clear hb2);(try clear hk);(try clear hi))|((with_reducible refine gate_callee (f:=98) rfl ?_);refine goesL_ (some 15) rfl rfl Tryz.func98 (by kernel_rfl) rfl #[.pointer (some ⟨g,0,none⟩)] rfl gd_ ?_;(with_reducible refine(spec_l1Cur_next.calls g s0_0 t103 t104 t105 t106 t107 w0 _ ?side1 ?side2 A6.out).mono ?_);(case side1=>exact(a2_ HI0.out));(case side2=>exact(a3_ HI0.out));rintro e w9 ⟨rfl,hi,hb,hk⟩;refine⟨_,rfl,?_⟩;replace HK:=am_ (KeepBut.trans (a7_) hk (.inl rfl));replace HB:=am_ (hb);replace HI0:=am_ (hi);(try clear hb);(try clear hb2);(try clear hk);(try clear hi)))
    go_ret
    exact⟨a10_,(a2_ HI0.out),(a3_ HI0.out),a7_⟩
  ·rw[if_neg c5]at H
   have c5b0:decide (200<a1)=false:=decide_eq_false c5
   clear c5
   by_cases c10:a1=0
   ·rw[if_pos c10]at H
    exact absurd H (by simp)
   ·rw[if_neg c10]at H
    have c10b0:(a1 == 0)=false:=beq_eq_false_iff_ne.mpr c10
    have c10b1:(a1 != 0)=true:=bne_iff_ne.mpr c10
    simp only[Option.some.injEq,Prod.mk.injEq]at H
    obtain⟨rfl,rfl,rfl⟩:=H
    go_enter Tryz.func55,Tryz.ntmps55
    go_wp2_with (first|((with_reducible refine gate_callee (f:=98) rfl ?_);refine goesL_ (some 9) rfl rfl Tryz.func98 (by kernel_rfl) rfl #[.pointer (some ⟨g,0,none⟩)] rfl gd_ ?_;(with_reducible refine(spec_l1Cur_next.calls g s0_0 s0_1 s0_2 t102 t103 t104 w0 _ ?side1 ?side2 A4.out).mono ?_);(case side1=>exact(a2_ HI0.out));(case side2=>exact(a3_ HI0.out));rintro e w11 ⟨rfl,hi,hb,hk⟩;refine⟨_,rfl,?_⟩;replace HK:=am_ (KeepBut.trans (a7_) hk (.inl rfl));replace HB:=am_ (hb);replace HI0:=am_ (hi);(try clear hb);(try clear hb2);(try clear hk);(try clear hi)))
    go_ret
    exact⟨a10_,(a2_ HI0.out),(a3_ HI0.out),a7_⟩

/-! ### spec_l1Cur_one: function 43 -/
def spec_l1Cur_one.f (s0_0:List Int) (s0_1:Int) (s0_2:Int) (a1:Int):Option (Bool×Int×Int):=(spec_l1Cur_pick.f s0_0 s0_1 s0_2 a1).bind fun bt108=>(some ((bt108.1 == 0),bt108.2.1,bt108.2.2))
set_option maxHeartbeats 8000000 in
set_option maxRecDepth 100000 in
theorem spec_l1Cur_one.calls (g:Nat) (s0_0:List Int) (s0_1:Int) (s0_2:Int) (a1:Int) (r1:Bool) (r2:Int) (r3:Int) (w0 w:World) (hI:IsS69 w0 w g s0_0 s0_1 s0_2) (hB:Below w0.heap.size w0 w) (h:spec_l1Cur_one.f s0_0 s0_1 s0_2 a1=some (r1,r2,r3)) :
 Calls Tryz.prog 43 #[.pointer (some ⟨g,0,none⟩), .int .i64 a1] w fun e w'=>e = .returned (.bool r1)∧IsS69 w0 w' g s0_0 r2 r3∧Below w0.heap.size w0 w'∧KeepBut w w' g none:=by
 have HI0:=am_ hI
 have HK:=am_ (KeepBut.refl w g none)
 have HL:=am_ hB.size
 clear hI
 have HW0:=am_ hB.size
 have HB:=am_ hB
 clear hB
 have H:((spec_l1Cur_pick.f s0_0 s0_1 s0_2 a1).bind fun bt108=>(some ((bt108.1 == 0),bt108.2.1,bt108.2.2)))=some (r1,r2,r3):=h
 clear h
 obtain⟨⟨t108,t109,t110⟩,A3,H⟩:=bo_ H
 try dsimp only at H
 simp only[Option.some.injEq,Prod.mk.injEq]at H
 obtain⟨rfl,rfl,rfl⟩:=H
 go_enter Tryz.func43,Tryz.ntmps43
 go_wp2_with (first|((with_reducible refine gate_callee (f:=55) rfl ?_);refine goesL_ (some 7) rfl rfl Tryz.func55 (by kernel_rfl) rfl #[.pointer (some ⟨g,0,none⟩), .int .i64 a1] rfl gd_ ?_;(with_reducible refine(spec_l1Cur_pick.calls g s0_0 s0_1 s0_2 a1 t108 t109 t110 w0 _ ?side1 ?side2 A3.out).mono ?_);(case side1=>exact(a2_ HI0.out));(case side2=>exact(a3_ HI0.out));rintro e w4 ⟨rfl,hi,hb,hk⟩;refine⟨_,rfl,?_⟩;replace HK:=am_ (KeepBut.trans (a7_) hk (.inl rfl));replace HB:=am_ (hb);replace HI0:=am_ (hi);(try clear hb);(try clear hb2);(try clear hk);(try clear hi)))
 go_ret
 exact⟨a10_,(a2_ HI0.out),(a3_ HI0.out),a7_⟩

/-! ### spec_l1In: function 59 -/
def spec_l1In.f (a0:Int) (a1:Int) (a2:Int):Option (Bool):=if a0≥a1 then(some (decide (a0≤a2))) else(some false)
set_option maxHeartbeats 8000000 in
set_option maxRecDepth 100000 in
theorem spec_l1In.calls (a0:Int) (a1:Int) (a2:Int) (r:Bool) (w:World) (h:spec_l1In.f a0 a1 a2=some r) :
 Calls Tryz.prog 59 #[.int .i64 a0, .int .i64 a1, .int .i64 a2] w fun e w'=>e = .returned (.bool r)∧Drawn0 w w':=by
 have H:(if a0≥a1 then(some (decide (a0≤a2))) else(some false))=some r:=h
 clear h
 by_cases c4:a0≥a1
 ·rw[if_pos c4]at H
  have c4b0:decide (a1≤a0)=true:=decide_eq_true c4
  clear c4
  obtain rfl:=Option.some.inj H
  go_enter Tryz.func59,Tryz.ntmps59
  go_wp2
  go_ret
  exact⟨by first | rfl|(simp;done)|(simp[*];done),a38_⟩
 ·rw[if_neg c4]at H
  have c4b0:decide (a1≤a0)=false:=decide_eq_false c4
  clear c4
  obtain rfl:=Option.some.inj H
  go_enter Tryz.func59,Tryz.ntmps59
  go_wp2
  go_ret
  exact⟨by first | rfl|(simp;done)|(simp[*];done),a38_⟩

/-! ### spec_shHole: function 99 -/
def spec_shHole.f (a0_0:Int) (a0_1:Int) (a0_2:Int):Option (Bool):=(spec_l1In.f a0_0 0 19).bind fun t112=>(if t112=true then((spec_l1In.f a0_1 0 1999).bind fun t113=>(if t113=true then((spec_l1In.f a0_2 (wrap64 (a0_1+1)) 2000).bind fun t114=>(some t114)) else(some false))) else(some false))
set_option maxHeartbeats 8000000 in
set_option maxRecDepth 100000 in
theorem spec_shHole.calls (a0_0:Int) (a0_1:Int) (a0_2:Int) (r:Bool) (w:World) (h:spec_shHole.f a0_0 a0_1 a0_2=some r) :
 Calls Tryz.prog 99 #[.agg #[.int .i64 a0_0, .int .i64 a0_1, .int .i64 a0_2]] w fun e w'=>e = .returned (.bool r)∧Below w.heap.size w w':=by
 have hu40:=Tryz.underlying40
 have HB:=am_ (Below.refl w.heap.size w)
 have H:((spec_l1In.f a0_0 0 19).bind fun t112=>(if t112=true then((spec_l1In.f a0_1 0 1999).bind fun t113=>(if t113=true then((spec_l1In.f a0_2 (wrap64 (a0_1+1)) 2000).bind fun t114=>(some t114)) else(some false))) else(some false)))=some r:=h
 clear h
 obtain⟨t112,A2,H⟩:=bo_ H
 try dsimp only at H
 by_cases c3:t112=true
 ·subst c3
  replace H:((spec_l1In.f a0_1 0 1999).bind fun t113=>(if t113=true then((spec_l1In.f a0_2 (wrap64 (a0_1+1)) 2000).bind fun t114=>(some t114)) else(some false)))=some r:=by rw[if_pos rfl]at H;exact H
  obtain⟨t113,A4,H⟩:=bo_ H
  try dsimp only at H
  by_cases c5:t113=true
  ·subst c5
   replace H:((spec_l1In.f a0_2 (wrap64 (a0_1+1)) 2000).bind fun t114=>(some t114))=some r:=by rw[if_pos rfl]at H;exact H
   obtain⟨t114,A6,H⟩:=bo_ H
   try dsimp only at H
   obtain rfl:=Option.some.inj H
   go_enter Tryz.func99,Tryz.ntmps99
   go_wp2_with (first|((with_reducible refine gate_dst (N:=1) rfl ?_);refine box_event ?hg (N:=1) ?hd (cs:= #[.int .i64 a0_0, .int .i64 a0_1, .int .i64 a0_2]) (t:=40) ?hr ?_;(case hd=>rfl);(case hg=>rfl);(case hr=>exact hr_);intro gb111 hg w7 hbox hb;have BK111:=am_ (hbox);have GW111:=am_ ((by rw[hg];exact(below_size (a1_)):w.heap.size≤gb111));have GE111:=am_ ((by rw[hg];exact(below_size (a1_)):w.heap.size≤gb111));replace HB:=am_ (below_step (a1_) hb);clear hb hbox hg;have hcz8_0:w7.cell? ⟨gb111,0,none⟩=some (.int .i64 a0_0):=(blk_cell BK111.out 0).trans rfl;have hcz8_1:w7.cell? ⟨gb111,1,none⟩=some (.int .i64 a0_1):=(blk_cell BK111.out 1).trans rfl;have hcz8_2:w7.cell? ⟨gb111,2,none⟩=some (.int .i64 a0_2):=(blk_cell BK111.out 2).trans rfl;have hfz8_0:=blk_frozen BK111.out 0;have hfz8_1:=blk_frozen BK111.out 1;have hfz8_2:=blk_frozen BK111.out 2)|((with_reducible refine gate_callee (f:=59) rfl ?_);refine goesL_ (some 5) rfl rfl Tryz.func59 (by kernel_rfl) rfl #[.int .i64 a0_0, .int .i64 0, .int .i64 19] rfl gd_ ?_;(with_reducible refine(spec_l1In.calls a0_0 0 19 true _ A2.out).mono ?_);rintro e w' ⟨rfl,⟨nd,rfl⟩⟩;refine⟨_,rfl,?_⟩)|(go_at_call 59;(with_reducible refine(spec_l1In.calls a0_1 0 1999 true _ A4.out).mono ?_);rintro e w' ⟨rfl,⟨nd,rfl⟩⟩)|(go_at_call 59;(with_reducible refine(spec_l1In.calls a0_2 (wrap64 (a0_1+1)) 2000 t114 _ A6.out).mono ?_);rintro e w' ⟨rfl,⟨nd,rfl⟩⟩))
   go_ret
   exact⟨a10_,(a4_ GE111.out)⟩
  ·replace c5:=Bool.eq_false_iff.mpr c5
   subst c5
   replace H:(some false)=some r:=by rw[if_neg (show ¬(false=true) by decide)]at H;exact H
   obtain rfl:=Option.some.inj H
   go_enter Tryz.func99,Tryz.ntmps99
   go_wp2_with (first|((with_reducible refine gate_dst (N:=1) rfl ?_);refine box_event ?hg (N:=1) ?hd (cs:= #[.int .i64 a0_0, .int .i64 a0_1, .int .i64 a0_2]) (t:=40) ?hr ?_;(case hd=>rfl);(case hg=>rfl);(case hr=>exact hr_);intro gb111 hg w9 hbox hb;have BK111:=am_ (hbox);have GW111:=am_ ((by rw[hg];exact(below_size (a1_)):w.heap.size≤gb111));have GE111:=am_ ((by rw[hg];exact(below_size (a1_)):w.heap.size≤gb111));replace HB:=am_ (below_step (a1_) hb);clear hb hbox hg;have hcz10_0:w9.cell? ⟨gb111,0,none⟩=some (.int .i64 a0_0):=(blk_cell BK111.out 0).trans rfl;have hcz10_1:w9.cell? ⟨gb111,1,none⟩=some (.int .i64 a0_1):=(blk_cell BK111.out 1).trans rfl;have hcz10_2:w9.cell? ⟨gb111,2,none⟩=some (.int .i64 a0_2):=(blk_cell BK111.out 2).trans rfl;have hfz10_0:=blk_frozen BK111.out 0;have hfz10_1:=blk_frozen BK111.out 1;have hfz10_2:=blk_frozen BK111.out 2)|((with_reducible refine gate_callee (f:=59) rfl ?_);refine goesL_ (some 5) rfl rfl Tryz.func59 (by kernel_rfl) rfl #[.int .i64 a0_0, .int .i64 0, .int .i64 19] rfl gd_ ?_;(with_reducible refine(spec_l1In.calls a0_0 0 19 true _ A2.out).mono ?_);rintro e w' ⟨rfl,⟨nd,rfl⟩⟩;refine⟨_,rfl,?_⟩)|(go_at_call 59;(with_reducible refine(spec_l1In.calls a0_1 0 1999 false _ A4.out).mono ?_);rintro e w' ⟨rfl,⟨nd,rfl⟩⟩))
   go_ret
   exact⟨a10_,(a4_ GE111.out)⟩
 ·replace c3:=Bool.eq_false_iff.mpr c3
  subst c3
  replace H:(some false)=some r:=by rw[if_neg (show ¬(false=true) by decide)]at H;exact H
  obtain rfl:=Option.some.inj H
  go_enter Tryz.func99,Tryz.ntmps99
  go_wp2_with (first|((with_reducible refine gate_dst (N:=1) rfl ?_);refine box_event ?hg (N:=1) ?hd (cs:= #[.int .i64 a0_0, .int .i64 a0_1, .int .i64 a0_2]) (t:=40) ?hr ?_;(case hd=>rfl);(case hg=>rfl);(case hr=>exact hr_);intro gb111 hg w11 hbox hb;have BK111:=am_ (hbox);have GW111:=am_ ((by rw[hg];exact(below_size (a1_)):w.heap.size≤gb111));have GE111:=am_ ((by rw[hg];exact(below_size (a1_)):w.heap.size≤gb111));replace HB:=am_ (below_step (a1_) hb);clear hb hbox hg;have hcz12_0:w11.cell? ⟨gb111,0,none⟩=some (.int .i64 a0_0):=(blk_cell BK111.out 0).trans rfl;have hcz12_1:w11.cell? ⟨gb111,1,none⟩=some (.int .i64 a0_1):=(blk_cell BK111.out 1).trans rfl;have hcz12_2:w11.cell? ⟨gb111,2,none⟩=some (.int .i64 a0_2):=(blk_cell BK111.out 2).trans rfl;have hfz12_0:=blk_frozen BK111.out 0;have hfz12_1:=blk_frozen BK111.out 1;have hfz12_2:=blk_frozen BK111.out 2)|((with_reducible refine gate_callee (f:=59) rfl ?_);refine goesL_ (some 5) rfl rfl Tryz.func59 (by kernel_rfl) rfl #[.int .i64 a0_0, .int .i64 0, .int .i64 19] rfl gd_ ?_;(with_reducible refine(spec_l1In.calls a0_0 0 19 false _ A2.out).mono ?_);rintro e w' ⟨rfl,⟨nd,rfl⟩⟩;refine⟨_,rfl,?_⟩))
  go_ret
  exact⟨a10_,(a4_ GE111.out)⟩

/-! ### spec_shBefore: function 100 -/
def spec_shBefore.f (a0_0:Int) (a0_1:Int) (a0_2:Int) (a1_0:Int) (a1_1:Int) (a1_2:Int):Option (Bool):=if a0_1<a1_1 then(some true) else(if a0_1=a1_1 then(some (decide (a0_0<a1_0))) else(some false))
set_option maxHeartbeats 8000000 in
set_option maxRecDepth 100000 in
theorem spec_shBefore.calls (a0_0:Int) (a0_1:Int) (a0_2:Int) (a1_0:Int) (a1_1:Int) (a1_2:Int) (r:Bool) (w:World) (h:spec_shBefore.f a0_0 a0_1 a0_2 a1_0 a1_1 a1_2=some r) :
 Calls Tryz.prog 100 #[.agg #[.int .i64 a0_0, .int .i64 a0_1, .int .i64 a0_2], .agg #[.int .i64 a1_0, .int .i64 a1_1, .int .i64 a1_2]] w fun e w'=>e = .returned (.bool r)∧Below w.heap.size w w':=by
 have hu40:=Tryz.underlying40
 have HB:=am_ (Below.refl w.heap.size w)
 have H:(if a0_1<a1_1 then(some true) else(if a0_1=a1_1 then(some (decide (a0_0<a1_0))) else(some false)))=some r:=h
 clear h
 by_cases c3:a0_1<a1_1
 ·rw[if_pos c3]at H
  have c3b0:decide (a0_1<a1_1)=true:=decide_eq_true c3
  clear c3
  obtain rfl:=Option.some.inj H
  go_enter Tryz.func100,Tryz.ntmps100
  go_wp2_with (first|((with_reducible refine gate_dst (N:=2) rfl ?_);refine box_event ?hg (N:=2) ?hd (cs:= #[.int .i64 a0_0, .int .i64 a0_1, .int .i64 a0_2]) (t:=40) ?hr ?_;(case hd=>rfl);(case hg=>rfl);(case hr=>exact hr_);intro gb115 hg w4 hbox hb;have BK115:=am_ (hbox);have GW115:=am_ ((by rw[hg];exact(below_size (a1_)):w.heap.size≤gb115));have GE115:=am_ ((by rw[hg];exact(below_size (a1_)):w.heap.size≤gb115));replace HB:=am_ (below_step (a1_) hb);clear hb hbox hg)|((with_reducible refine gate_dst (N:=3) rfl ?_);refine box_event ?hg (N:=3) ?hd (cs:= #[.int .i64 a1_0, .int .i64 a1_1, .int .i64 a1_2]) (t:=40) ?hr ?_;(case hd=>rfl);(case hg=>rfl);(case hr=>exact hr_);intro gb116 hg w5 hbox hb;have BK116:=am_ (hbox);have GW116:=am_ ((by rw[hg];exact(below_size ((a4_ GE115.out))):w.heap.size≤gb116));have GE116:=am_ ((by rw[hg];exact(below_size ((a4_ GE115.out))):w.heap.size≤gb116));replace HB:=am_ (below_step ((a4_ GE115.out)) hb);have NB115_116:=am_ ((by rw[hg];exact Nat.ne_of_lt (blk_lt (g:=gb115) (o:= .cells #[.int .i64 a0_0, .int .i64 a0_1, .int .i64 a0_2] 40 (0,0)) ((a5_ BK115.out))):gb115≠gb116));have NB116_115:=am_ ((by rw[hg];exact Nat.ne_of_gt (blk_lt (g:=gb115) (o:= .cells #[.int .i64 a0_0, .int .i64 a0_1, .int .i64 a0_2] 40 (0,0)) ((a5_ BK115.out))):gb116≠gb115));replace BK115:=am_ (blk_below (g:=gb115) (o:= .cells #[.int .i64 a0_0, .int .i64 a0_1, .int .i64 a0_2] 40 (0,0)) ((a5_ BK115.out)) hb);clear hb hbox hg;have hnb6:=NB115_116.out;have hnc6:=NB116_115.out;have hcz7_0:w5.cell? ⟨gb115,0,none⟩=some (.int .i64 a0_0):=(blk_cell BK115.out 0).trans rfl;have hcz7_1:w5.cell? ⟨gb115,1,none⟩=some (.int .i64 a0_1):=(blk_cell BK115.out 1).trans rfl;have hcz7_2:w5.cell? ⟨gb115,2,none⟩=some (.int .i64 a0_2):=(blk_cell BK115.out 2).trans rfl;have hfz7_0:=blk_frozen BK115.out 0;have hfz7_1:=blk_frozen BK115.out 1;have hfz7_2:=blk_frozen BK115.out 2;have hcz8_0:w5.cell? ⟨gb116,0,none⟩=some (.int .i64 a1_0):=(blk_cell BK116.out 0).trans rfl;have hcz8_1:w5.cell? ⟨gb116,1,none⟩=some (.int .i64 a1_1):=(blk_cell BK116.out 1).trans rfl;have hcz8_2:w5.cell? ⟨gb116,2,none⟩=some (.int .i64 a1_2):=(blk_cell BK116.out 2).trans rfl;have hfz8_0:=blk_frozen BK116.out 0;have hfz8_1:=blk_frozen BK116.out 1;have hfz8_2:=blk_frozen BK116.out 2))
  go_ret
  exact⟨a10_,(a26_ GE115.out GE116.out)⟩
 ·rw[if_neg c3]at H
  have c3b0:decide (a0_1<a1_1)=false:=decide_eq_false c3
  clear c3
  by_cases c9:a0_1=a1_1
  ·rw[if_pos c9]at H
   have c9b0:(a0_1 == a1_1)=true:=beq_iff_eq.mpr c9
   have c9b1:(a0_1 != a1_1)=false:=bne_eq_false_iff_eq.mpr c9
   clear c9
   obtain rfl:=Option.some.inj H
   go_enter Tryz.func100,Tryz.ntmps100
   go_wp2_with (first|((with_reducible refine gate_dst (N:=2) rfl ?_);refine box_event ?hg (N:=2) ?hd (cs:= #[.int .i64 a0_0, .int .i64 a0_1, .int .i64 a0_2]) (t:=40) ?hr ?_;(case hd=>rfl);(case hg=>rfl);(case hr=>exact hr_);intro gb115 hg w10 hbox hb;have BK115:=am_ (hbox);have GW115:=am_ ((by rw[hg];exact(below_size (a1_)):w.heap.size≤gb115));have GE115:=am_ ((by rw[hg];exact(below_size (a1_)):w.heap.size≤gb115));replace HB:=am_ (below_step (a1_) hb);clear hb hbox hg)|((with_reducible refine gate_dst (N:=3) rfl ?_);refine box_event ?hg (N:=3) ?hd (cs:= #[.int .i64 a1_0, .int .i64 a1_1, .int .i64 a1_2]) (t:=40) ?hr ?_;(case hd=>rfl);(case hg=>rfl);(case hr=>exact hr_);intro gb116 hg w11 hbox hb;have BK116:=am_ (hbox);have GW116:=am_ ((by rw[hg];exact(below_size ((a4_ GE115.out))):w.heap.size≤gb116));have GE116:=am_ ((by rw[hg];exact(below_size ((a4_ GE115.out))):w.heap.size≤gb116));replace HB:=am_ (below_step ((a4_ GE115.out)) hb);have NB115_116:=am_ ((by rw[hg];exact Nat.ne_of_lt (blk_lt (g:=gb115) (o:= .cells #[.int .i64 a0_0, .int .i64 a0_1, .int .i64 a0_2] 40 (0,0)) ((a5_ BK115.out))):gb115≠gb116));have NB116_115:=am_ ((by rw[hg];exact Nat.ne_of_gt (blk_lt (g:=gb115) (o:= .cells #[.int .i64 a0_0, .int .i64 a0_1, .int .i64 a0_2] 40 (0,0)) ((a5_ BK115.out))):gb116≠gb115));replace BK115:=am_ (blk_below (g:=gb115) (o:= .cells #[.int .i64 a0_0, .int .i64 a0_1, .int .i64 a0_2] 40 (0,0)) ((a5_ BK115.out)) hb);clear hb hbox hg;have hnb12:=NB115_116.out;have hnc12:=NB116_115.out;have hcz13_0:w11.cell? ⟨gb115,0,none⟩=some (.int .i64 a0_0):=(blk_cell BK115.out 0).trans rfl;have hcz13_1:w11.cell? ⟨gb115,1,none⟩=some (.int .i64 a0_1):=(blk_cell BK115.out 1).trans rfl;have hcz13_2:w11.cell? ⟨gb115,2,none⟩=some (.int .i64 a0_2):=(blk_cell BK115.out 2).trans rfl;have hfz13_0:=blk_frozen BK115.out 0;have hfz13_1:=blk_frozen BK115.out 1;have hfz13_2:=blk_frozen BK115.out 2;have hcz14_0:w11.cell? ⟨gb116,0,none⟩=some (.int .i64 a1_0):=(blk_cell BK116.out 0).trans rfl;have hcz14_1:w11.cell? ⟨gb116,1,none⟩=some (.int .i64 a1_1):=(blk_cell BK116.out 1).trans rfl;have hcz14_2:w11.cell? ⟨gb116,2,none⟩=some (.int .i64 a1_2):=(blk_cell BK116.out 2).trans rfl;have hfz14_0:=blk_frozen BK116.out 0;have hfz14_1:=blk_frozen BK116.out 1;have hfz14_2:=blk_frozen BK116.out 2))
   go_ret
   exact⟨a10_,(a26_ GE115.out GE116.out)⟩
  ·rw[if_neg c9]at H
   have c9b0:(a0_1 == a1_1)=false:=beq_eq_false_iff_ne.mpr c9
   have c9b1:(a0_1 != a1_1)=true:=bne_iff_ne.mpr c9
   obtain rfl:=Option.some.inj H
   go_enter Tryz.func100,Tryz.ntmps100
   go_wp2_with (first|((with_reducible refine gate_dst (N:=2) rfl ?_);refine box_event ?hg (N:=2) ?hd (cs:= #[.int .i64 a0_0, .int .i64 a0_1, .int .i64 a0_2]) (t:=40) ?hr ?_;(case hd=>rfl);(case hg=>rfl);(case hr=>exact hr_);intro gb115 hg w15 hbox hb;have BK115:=am_ (hbox);have GW115:=am_ ((by rw[hg];exact(below_size (a1_)):w.heap.size≤gb115));have GE115:=am_ ((by rw[hg];exact(below_size (a1_)):w.heap.size≤gb115));replace HB:=am_ (below_step (a1_) hb);clear hb hbox hg)|((with_reducible refine gate_dst (N:=3) rfl ?_);refine box_event ?hg (N:=3) ?hd (cs:= #[.int .i64 a1_0, .int .i64 a1_1, .int .i64 a1_2]) (t:=40) ?hr ?_;(case hd=>rfl);(case hg=>rfl);(case hr=>exact hr_);intro gb116 hg w16 hbox hb;have BK116:=am_ (hbox);have GW116:=am_ ((by rw[hg];exact(below_size ((a4_ GE115.out))):w.heap.size≤gb116));have GE116:=am_ ((by rw[hg];exact(below_size ((a4_ GE115.out))):w.heap.size≤gb116));replace HB:=am_ (below_step ((a4_ GE115.out)) hb);have NB115_116:=am_ ((by rw[hg];exact Nat.ne_of_lt (blk_lt (g:=gb115) (o:= .cells #[.int .i64 a0_0, .int .i64 a0_1, .int .i64 a0_2] 40 (0,0)) ((a5_ BK115.out))):gb115≠gb116));have NB116_115:=am_ ((by rw[hg];exact Nat.ne_of_gt (blk_lt (g:=gb115) (o:= .cells #[.int .i64 a0_0, .int .i64 a0_1, .int .i64 a0_2] 40 (0,0)) ((a5_ BK115.out))):gb116≠gb115));replace BK115:=am_ (blk_below (g:=gb115) (o:= .cells #[.int .i64 a0_0, .int .i64 a0_1, .int .i64 a0_2] 40 (0,0)) ((a5_ BK115.out)) hb);clear hb hbox hg;have hnb17:=NB115_116.out;have hnc17:=NB116_115.out;have hcz18_0:w16.cell? ⟨gb115,0,none⟩=some (.int .i64 a0_0):=(blk_cell BK115.out 0).trans rfl;have hcz18_1:w16.cell? ⟨gb115,1,none⟩=some (.int .i64 a0_1):=(blk_cell BK115.out 1).trans rfl;have hcz18_2:w16.cell? ⟨gb115,2,none⟩=some (.int .i64 a0_2):=(blk_cell BK115.out 2).trans rfl;have hfz18_0:=blk_frozen BK115.out 0;have hfz18_1:=blk_frozen BK115.out 1;have hfz18_2:=blk_frozen BK115.out 2;have hcz19_0:w16.cell? ⟨gb116,0,none⟩=some (.int .i64 a1_0):=(blk_cell BK116.out 0).trans rfl;have hcz19_1:w16.cell? ⟨gb116,1,none⟩=some (.int .i64 a1_1):=(blk_cell BK116.out 1).trans rfl;have hcz19_2:w16.cell? ⟨gb116,2,none⟩=some (.int .i64 a1_2):=(blk_cell BK116.out 2).trans rfl;have hfz19_0:=blk_frozen BK116.out 0;have hfz19_1:=blk_frozen BK116.out 1;have hfz19_2:=blk_frozen BK116.out 2))
   go_ret
   exact⟨a10_,(a26_ GE115.out GE116.out)⟩

end Go.Proofs.YtplpjmhmochcfaaGreat.QFnDifferences
