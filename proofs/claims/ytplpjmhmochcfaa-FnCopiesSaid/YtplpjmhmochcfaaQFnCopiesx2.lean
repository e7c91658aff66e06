/- Written by a program of this session (the kit's printer, with leaf contracts proved by hand put in): what each Go function computes, and that the call computes it. No condition but those that each theorem names. -/
import Derived.Test.YtplpjmhmochcfaaQFnCopiesx0
namespace Go.Proofs.Ytplpjmhmochcfaa.QFnCopies
open Go.RowKit Go.Proofs.YtplpjmhmochcfaaW.PrintWords Go.Proofs.YtplpjmhmochcfaaW.PrintLast Go.Proofs.YtplpjmhmochcfaaW.PrintMore
attribute [local go_sem] max2_int min2_int max_two min_two max_three min_three max_four min_four   -- for this text's walks alone
set_option linter.unusedVariables false
set_option linter.unusedSimpArgs false

/-! ### laws_big: function 9 -/
def laws_big.f (l0:List Int) (l1:List Int):Option (Bool):=if(l0.length:Int)>1048576 then(some true) else(some (decide ((l1.length:Int)>(wrap64 (1048576-(l0.length:Int))))))
set_option maxHeartbeats 8000000 in
set_option maxRecDepth 100000 in
theorem laws_big.calls (A0:Option Addr) (c0:Nat) (l0:List Int) (A1:Option Addr) (c1:Nat) (l1:List Int) (r:Bool) (w:World) (hr0:Kd.C (Kd.int .u8) w A0 l0.length l0) (hc0:l0.length≤c0) (hr1:Kd.C (Kd.int .u8) w A1 l1.length l1) (hc1:l1.length≤c1) (h:laws_big.f l0 l1=some r) :
 Calls Try.prog 9 #[.slice A0 l0.length c0, .slice A1 l1.length c1] w fun e w'=>e = .returned (.bool r)∧Drawn0 w w':=by
 have HR0:=am_ hr0
 have HC0:=am_ hc0
 clear hr0 hc0
 have HR1:=am_ hr1
 have HC1:=am_ hc1
 clear hr1 hc1
 have H:(if(l0.length:Int)>1048576 then(some true) else(some (decide ((l1.length:Int)>(wrap64 (1048576-(l0.length:Int)))))))=some r:=h
 clear h
 by_cases c3:(l0.length:Int)>1048576
 ·rw[if_pos c3]at H
  have c3b0:decide (1048576<(l0.length:Int))=true:=decide_eq_true c3
  have c3b1:decide (1048576<l0.length)=true:=decide_eq_true (by omega)
  clear c3
  obtain rfl:=Option.some.inj H
  go_enter Try.func9,Try.ntmps9
  go_wp2
  go_ret
  exact⟨by first | rfl|(simp;done)|(simp[*];done),a29_⟩
 ·rw[if_neg c3]at H
  have c3b0:decide (1048576<(l0.length:Int))=false:=decide_eq_false c3
  have c3b1:decide (1048576<l0.length)=false:=decide_eq_false (by omega)
  clear c3
  obtain rfl:=Option.some.inj H
  go_enter Try.func9,Try.ntmps9
  go_wp2
  go_ret
  exact⟨by first | rfl|(simp;done)|(simp[*];done),a29_⟩

/-- A state of type 76 at block g of W; what its slices lead to came in by w0. -/
def IsS76 (w0 W:World) (g:Nat) (f0:List Int) (f1:Int) (f2:Int):Prop:= ∃A0 c0,W.heap[g]? = some (.cells #[.slice A0 f0.length c0, .int .i64 f1, .int .u64 f2] 76 (0,0))∧w0.heap.size≤g∧Kd.C (Kd.int .u8) w0 A0 f0.length f0
theorem IsS76.grown {w0 W:World} {g:Nat} {f0:List Int} {f1:Int} {f2:Int} {W1:World} {row:Option Nat} (h:IsS76 w0 W g f0 f1 f2) (hw:W.grownBy W1 row) (hne:some g≠row):IsS76 w0 W1 g f0 f1 f2:=by
 obtain⟨A0,c0,hb,hg,hr0⟩:=h
 exact⟨A0,c0,blk_grown hb hw hne,hg,hr0⟩
theorem IsS76.own_neN {w0 W:World} {g:Nat} {f0:List Int} {f1:Int} {f2:Int} {α:Type} {d:Kd α} {e:Nat} {base:Nat} {ok:Nat→Prop} {v:Value} {xs:List α} (h:IsS76 w0 W g f0 f1 f2) (ho:Kd.N d e W base ok v xs) (ht:e≠76):some g≠v.ownBlock:=by
 obtain⟨A0,c0,hb,hg,hr0⟩:=h
 exact Kd.N_ne ho hb ht
theorem IsS76.fresh {w0 W:World} {g:Nat} {f0:List Int} {f1:Int} {f2:Int} (h:IsS76 w0 W g f0 f1 f2):∀k,W.heap.size≤k→k≠g:=by
 obtain⟨A0,c0,hb,hg,hr0⟩:=h
 exact Kd.freshB hb
theorem IsS76.kept {w0 W:World} {g:Nat} {f0:List Int} {f1:Int} {f2:Int} {W1:World} {S:Nat→Prop} (h:IsS76 w0 W g f0 f1 f2) (hk:Kept W W1 S) (hne:¬S g):IsS76 w0 W1 g f0 f1 f2:=by
 obtain⟨A0,c0,hb,hg,hr0⟩:=h
 exact⟨A0,c0,blk_kept hb hk hne,hg,hr0⟩
theorem IsS76.below {w0 W:World} {g:Nat} {f0:List Int} {f1:Int} {f2:Int} {W1:World} (h:IsS76 w0 W g f0 f1 f2) (hw:Below W.heap.size W W1):IsS76 w0 W1 g f0 f1 f2:=h.grown (grown_of_below hw none) (by simp)
theorem IsS76.alloc {w0 W:World} {g:Nat} {f0:List Int} {f1:Int} {f2:Int} (h:IsS76 w0 W g f0 f1 f2) (o:Obj):IsS76 w0 (W.alloc o) g f0 f1 f2:=h.below (below_alloc (Below.refl _ _) o)
theorem IsS76.drewN {w0 W:World} {g:Nat} {f0:List Int} {f1:Int} {f2:Int} (h:IsS76 w0 W g f0 f1 f2) (m:Nat):IsS76 w0 (W.drewN m) g f0 f1 f2:=h
theorem IsS76.drew {w0 W:World} {g:Nat} {f0:List Int} {f1:Int} {f2:Int} (h:IsS76 w0 W g f0 f1 f2):IsS76 w0 W.drew g f0 f1 f2:=h
theorem IsS76.at_ {w0 W:World} {g:Nat} {f0:List Int} {f1:Int} {f2:Int} {w':World} {m:Nat} (hq:W.drewN m=w') (h:IsS76 w0 W g f0 f1 f2):IsS76 w0 w' g f0 f1 f2:=by subst hq;exact IsS76.drewN h m
theorem IsS76.apart {w0 W:World} {g:Nat} {f0:List Int} {f1:Int} {f2:Int} {α:Type} {d:Kd α} {e:Nat} {base:Nat} {ok:Nat→Prop} {v:Value} {xs:List α} (h:IsS76 w0 W g f0 f1 f2) (ho:d.R e W base ok v xs) (ht:∀q,q∈e :: d.E→q≠76):d.R e W base (fun k=>ok k∧k≠g) v xs:=by
 obtain⟨A0,c0,hb,hg,hr0⟩:=h
 exact Kd.R_types ho hb ht
theorem IsS76.own_ne {w0 W:World} {g:Nat} {f0:List Int} {f1:Int} {f2:Int} {α:Type} {d:Kd α} {e:Nat} {base:Nat} {ok:Nat→Prop} {v:Value} {xs:List α} (h:IsS76 w0 W g f0 f1 f2) (ho:d.R e W base ok v xs) (ht:e≠76):some g≠v.ownBlock:=by
 obtain⟨A0,c0,hb,hg,hr0⟩:=h
 exact Kd.R_ne ho hb ht
theorem IsS76.apartQ {w0 W:World} {g:Nat} {f0:List Int} {f1:Int} {f2:Int} {α:Type} {d:Kd α} {e:Nat} {base:Nat} {ok:Nat→Prop} {v:Value} {xs:List α} (h:IsS76 w0 W g f0 f1 f2) (ho:d.Q e W base ok v xs) (ht:∀q,q∈e :: d.E→q≠76):d.Q e W base (fun k=>ok k∧k≠g) v xs:=by
 obtain⟨A0,c0,hb,hg,hr0⟩:=h
 exact Kd.Q_types ho hb ht
theorem IsS76.own_neQ {w0 W:World} {g:Nat} {f0:List Int} {f1:Int} {f2:Int} {α:Type} {d:Kd α} {e:Nat} {base:Nat} {ok:Nat→Prop} {v:Value} {xs:List α} (h:IsS76 w0 W g f0 f1 f2) (ho:d.Q e W base ok v xs) (ht:e≠76):some g≠v.ownBlock:=by
 obtain⟨A0,c0,hb,hg,hr0⟩:=h
 exact Kd.Q_ne ho hb ht
theorem IsS76.apartS {w0 W:World} {g:Nat} {f0:List Int} {f1:Int} {f2:Int} {α:Type} {d:Kd α} {e:Nat} {base:Nat} {ok:Nat→Prop} {v:Value} {xs:List α} (h:IsS76 w0 W g f0 f1 f2) (ho:d.S e W base ok v xs) (ht:∀q,q∈e :: d.E→q≠76):d.S e W base (fun k=>ok k∧k≠g) v xs:=by
 obtain⟨A0,c0,hb,hg,hr0⟩:=h
 exact Kd.S_types ho hb ht
theorem IsS76.own_neS {w0 W:World} {g:Nat} {f0:List Int} {f1:Int} {f2:Int} {α:Type} {d:Kd α} {e:Nat} {base:Nat} {ok:Nat→Prop} {v:Value} {xs:List α} (h:IsS76 w0 W g f0 f1 f2) (ho:d.S e W base ok v xs) (ht:e≠76):some g≠v.ownBlock:=by
 obtain⟨A0,c0,hb,hg,hr0⟩:=h
 exact Kd.S_ne ho hb ht
theorem IsS76.lt {w0 W:World} {g:Nat} {f0:List Int} {f1:Int} {f2:Int} (h:IsS76 w0 W g f0 f1 f2):g<W.heap.size:=by
 obtain⟨A0,c0,hb,hg,hr0⟩:=h
 exact blk_lt hb
theorem IsS76.ge {w0 W:World} {g:Nat} {f0:List Int} {f1:Int} {f2:Int} (h:IsS76 w0 W g f0 f1 f2):w0.heap.size≤g:=by
 obtain⟨A0,c0,hb,hg,hr0⟩:=h
 exact hg
theorem IsS76.ne_blk {w0 W:World} {g:Nat} {f0:List Int} {f1:Int} {f2:Int} {a:Nat} {cs:Array Value} {t:TypeId} {fr:Nat×Nat} (h:IsS76 w0 W g f0 f1 f2) (hb2:W.heap[a]? = some (.cells cs t fr)) (ht:t≠76):g≠a:=by
 obtain⟨A0,c0,hb,hg,hr0⟩:=h
 rintro rfl
 rw[hb]at hb2
 injection hb2 with hb2
 injection hb2 with _ ht2
 exact ht ht2.symm
theorem IsS76.far {w0 W:World} {g:Nat} {f0:List Int} {f1:Int} {f2:Int} {p:Addr} (h:IsS76 w0 W g f0 f1 f2) (hne:g≠p.block) (u:Value):IsS76 w0 (W.setCell p u) g f0 f1 f2:=by
 obtain⟨A0,c0,hb,hg,hr0⟩:=h
 exact⟨A0,c0,blk_far hb hne u,hg,hr0⟩
theorem cellS76_0 {W:World} {g:Nat} {A0:Option Addr} {c0:Nat} {f0:List Int} {f1:Int} {f2:Int} (h:W.heap[g]? = some (.cells #[.slice A0 f0.length c0, .int .i64 f1, .int .u64 f2] 76 (0,0))):W.cell? ⟨g,0,none⟩=some (.slice A0 f0.length c0):=(blk_cell h 0).trans rfl
theorem cellS76_1 {W:World} {g:Nat} {A0:Option Addr} {c0:Nat} {f0:List Int} {f1:Int} {f2:Int} (h:W.heap[g]? = some (.cells #[.slice A0 f0.length c0, .int .i64 f1, .int .u64 f2] 76 (0,0))):W.cell? ⟨g,1,none⟩=some (.int .i64 f1):=(blk_cell h 1).trans rfl
theorem IsS76.set_1 {w0 W:World} {g:Nat} {f0:List Int} {f1:Int} {f2:Int} (h:IsS76 w0 W g f0 f1 f2) (x:Int):IsS76 w0 (W.setCell ⟨g,1,none⟩ (.int .i64 x)) g f0 x f2:=by
 obtain⟨A0,c0,hb,hg,hr0⟩:=h
 exact⟨A0,c0,by simpa using blk_set hb 1 (.int .i64 x),hg,hr0⟩
theorem cellS76_2 {W:World} {g:Nat} {A0:Option Addr} {c0:Nat} {f0:List Int} {f1:Int} {f2:Int} (h:W.heap[g]? = some (.cells #[.slice A0 f0.length c0, .int .i64 f1, .int .u64 f2] 76 (0,0))):W.cell? ⟨g,2,none⟩=some (.int .u64 f2):=(blk_cell h 2).trans rfl
theorem IsS76.set_2 {w0 W:World} {g:Nat} {f0:List Int} {f1:Int} {f2:Int} (h:IsS76 w0 W g f0 f1 f2) (x:Int):IsS76 w0 (W.setCell ⟨g,2,none⟩ (.int .u64 x)) g f0 f1 x:=by
 obtain⟨A0,c0,hb,hg,hr0⟩:=h
 exact⟨A0,c0,by simpa using blk_set hb 2 (.int .u64 x),hg,hr0⟩
theorem IsS76.new (w0 W:World) (A0:Option Addr) (c0:Nat) (f0:List Int) (f1:Int) (f2:Int) (hB:Below w0.heap.size w0 W) (hr0:Kd.C (Kd.int .u8) w0 A0 f0.length f0):IsS76 w0 (W.alloc (.cells #[.slice A0 f0.length c0, .int .i64 f1, .int .u64 f2] 76)) W.heap.size f0 f1 f2:=⟨A0,c0,by simpa using heap_alloc_new W _,hB.size,hr0⟩

/-! ### spec_l1Cur_next: function 99 -/
def spec_l1Cur_next.f (s0_0:List Int) (s0_1:Int) (s0_2:Int):Option (Int×Int×Int):=if s0_1<(s0_0.length:Int) then(if 0≤s0_1 then(if(wrap64 (s0_1+1))≤(s0_0.length:Int) then(some (wrap64 (rd s0_0 s0_1),wrap64 (s0_1+1),IntKind.u64.wrap ((IntKind.u64.wrap ((IntKind.u64.wrap (s0_2*6364136223846793005))+(IntKind.u64.wrap (wrap64 (rd s0_0 s0_1)))))+1442695040888963407))) else(some (wrap64 (Go.bits .and .u64 ((IntKind.u64.wrap ((IntKind.u64.wrap ((IntKind.u64.wrap (s0_2*6364136223846793005))+(IntKind.u64.wrap (wrap64 (rd s0_0 s0_1)))))+1442695040888963407)) / 1099511627776) 255),wrap64 (s0_1+1),IntKind.u64.wrap ((IntKind.u64.wrap ((IntKind.u64.wrap (s0_2*6364136223846793005))+(IntKind.u64.wrap (wrap64 (rd s0_0 s0_1)))))+1442695040888963407)))) else(none)) else(if(wrap64 (s0_1+1))≤(s0_0.length:Int) then(some (0,wrap64 (s0_1+1),IntKind.u64.wrap ((IntKind.u64.wrap (IntKind.u64.wrap (s0_2*6364136223846793005)))+1442695040888963407))) else(some (wrap64 (Go.bits .and .u64 ((IntKind.u64.wrap ((IntKind.u64.wrap (IntKind.u64.wrap (s0_2*6364136223846793005)))+1442695040888963407)) / 1099511627776) 255),wrap64 (s0_1+1),IntKind.u64.wrap ((IntKind.u64.wrap (IntKind.u64.wrap (s0_2*6364136223846793005)))+1442695040888963407))))
set_option maxHeartbeats 8000000 in
set_option maxRecDepth 100000 in
theorem spec_l1Cur_next.calls (g:Nat) (s0_0:List Int) (s0_1:Int) (s0_2:Int) (r1:Int) (r2:Int) (r3:Int) (w0 w:World) (hI:IsS76 w0 w g s0_0 s0_1 s0_2) (hB:Below w0.heap.size w0 w) (h:spec_l1Cur_next.f s0_0 s0_1 s0_2=some (r1,r2,r3)) :
 Calls Try.prog 99 #[.pointer (some ⟨g,0,none⟩)] w fun e w'=>e = .returned (.int .i64 r1)∧IsS76 w0 w' g s0_0 r2 r3∧Below w0.heap.size w0 w'∧KeepBut w w' g none:=by
 have HI0:=am_ hI
 have HK:=am_ (KeepBut.refl w g none)
 have HL:=am_ hB.size
 clear hI
 have HW0:=am_ hB.size
 have HB:=am_ hB
 clear hB
 have H:(if s0_1<(s0_0.length:Int) then(if 0≤s0_1 then(if(wrap64 (s0_1+1))≤(s0_0.length:Int) then(some (wrap64 (rd s0_0 s0_1),wrap64 (s0_1+1),IntKind.u64.wrap ((IntKind.u64.wrap ((IntKind.u64.wrap (s0_2*6364136223846793005))+(IntKind.u64.wrap (wrap64 (rd s0_0 s0_1)))))+1442695040888963407))) else(some (wrap64 (Go.bits .and .u64 ((IntKind.u64.wrap ((IntKind.u64.wrap ((IntKind.u64.wrap (s0_2*6364136223846793005))+(IntKind.u64.wrap (wrap64 (rd s0_0 s0_1)))))+1442695040888963407)) / 1099511627776) 255),wrap64 (s0_1+1),IntKind.u64.wrap ((IntKind.u64.wrap ((IntKind.u64.wrap (s0_2*6364136223846793005))+(IntKind.u64.wrap (wrap64 (rd s0_0 s0_1)))))+1442695040888963407)))) else(none)) else(if(wrap64 (s0_1+1))≤(s0_0.length:Int) then(some (0,wrap64 (s0_1+1),IntKind.u64.wrap ((IntKind.u64.wrap (IntKind.u64.wrap (s0_2*6364136223846793005)))+1442695040888963407))) else(some (wrap64 (Go.bits .and .u64 ((IntKind.u64.wrap ((IntKind.u64.wrap (IntKind.u64.wrap (s0_2*6364136223846793005)))+1442695040888963407)) / 1099511627776) 255),wrap64 (s0_1+1),IntKind.u64.wrap ((IntKind.u64.wrap (IntKind.u64.wrap (s0_2*6364136223846793005)))+1442695040888963407)))))=some (r1,r2,r3):=h
 clear h
 by_cases c2:s0_1<(s0_0.length:Int)
 ·rw[if_pos c2]at H
  have c2b0:decide (s0_1<(s0_0.length:Int))=true:=decide_eq_true c2
  clear c2
  by_cases c3:0≤s0_1
  ·rw[if_pos c3]at H
   have c3b0:decide (0≤s0_1)=true:=decide_eq_true c3
   clear c3
   by_cases c4:(wrap64 (s0_1+1))≤(s0_0.length:Int)
   ·rw[if_pos c4]at H
    have c4b0:decide ((wrap64 (s0_1+1))≤(s0_0.length:Int))=true:=decide_eq_true c4
    clear c4
    simp only[Option.some.injEq,Prod.mk.injEq]at H
    obtain⟨rfl,rfl,rfl⟩:=H
    obtain⟨ASz5_0,cSz5_0,HGz5,hgz5,HSz5_0⟩:=HI0.out
    have hcz5_0:=cellS76_0 HGz5
    have hcz5_1:=cellS76_1 HGz5
    have hcz5_2:=cellS76_2 HGz5
    have hfz5_1:=blk_frozen HGz5 1
    have hfz5_2:=blk_frozen HGz5 2
    clear HGz5 hgz5
    have p101:0≤(s0_1:Int):=of_decide_eq_true (a8_)
    have q101:s0_1<(s0_0.length:Int):=of_decide_eq_true (a8_)
    obtain⟨ad101,e101,hx101_0⟩:=Kd.at_int HSz5_0 s0_1 p101 q101
    cases e101
    replace hx101_0:=pw_cell_below HB.out hx101_0
    replace p101:=eq_true p101
    replace q101:=eq_true q101
    go_enter Try.func99,Try.ntmps99
    go_wp2
    repeat (go_quiet (fail);try go_wp2)
    go_ret
    exact⟨a9_,(a3_ HI0.out),(a4_ HI0.out),a6_⟩
   ·rw[if_neg c4]at H
    have c4b0:decide ((wrap64 (s0_1+1))≤(s0_0.length:Int))=false:=decide_eq_false c4
    clear c4
    simp only[Option.some.injEq,Prod.mk.injEq]at H
    obtain⟨rfl,rfl,rfl⟩:=H
    obtain⟨ASz6_0,cSz6_0,HGz6,hgz6,HSz6_0⟩:=HI0.out
    have hcz6_0:=cellS76_0 HGz6
    have hcz6_1:=cellS76_1 HGz6
    have hcz6_2:=cellS76_2 HGz6
    have hfz6_1:=blk_frozen HGz6 1
    have hfz6_2:=blk_frozen HGz6 2
    clear HGz6 hgz6
    have p101:0≤(s0_1:Int):=of_decide_eq_true (a8_)
    have q101:s0_1<(s0_0.length:Int):=of_decide_eq_true (a8_)
    obtain⟨ad101,e101,hx101_0⟩:=Kd.at_int HSz6_0 s0_1 p101 q101
    cases e101
    replace hx101_0:=pw_cell_below HB.out hx101_0
    replace p101:=eq_true p101
    replace q101:=eq_true q101
    go_enter Try.func99,Try.ntmps99
    go_wp2
    repeat (go_quiet (fail);try go_wp2)
    go_ret
    exact⟨a9_,(a3_ HI0.out),(a4_ HI0.out),a6_⟩
  ·rw[if_neg c3]at H
   exact absurd H (by simp)
 ·rw[if_neg c2]at H
  have c2b0:decide (s0_1<(s0_0.length:Int))=false:=decide_eq_false c2
  clear c2
  by_cases c7:(wrap64 (s0_1+1))≤(s0_0.length:Int)
  ·rw[if_pos c7]at H
   have c7b0:decide ((wrap64 (s0_1+1))≤(s0_0.length:Int))=true:=decide_eq_true c7
   clear c7
   simp only[Option.some.injEq,Prod.mk.injEq]at H
   obtain⟨rfl,rfl,rfl⟩:=H
   obtain⟨ASz8_0,cSz8_0,HGz8,hgz8,HSz8_0⟩:=HI0.out
   have hcz8_0:=cellS76_0 HGz8
   have hcz8_1:=cellS76_1 HGz8
   have hcz8_2:=cellS76_2 HGz8
   have hfz8_1:=blk_frozen HGz8 1
   have hfz8_2:=blk_frozen HGz8 2
   clear HGz8 hgz8
   go_enter Try.func99,Try.ntmps99
   go_wp2
   repeat (go_quiet (fail);try go_wp2)
   go_ret
   exact⟨a9_,(a3_ HI0.out),(a4_ HI0.out),a6_⟩
  ·rw[if_neg c7]at H
   have c7b0:decide ((wrap64 (s0_1+1))≤(s0_0.length:Int))=false:=decide_eq_false c7
   clear c7
   simp only[Option.some.injEq,Prod.mk.injEq]at H
   obtain⟨rfl,rfl,rfl⟩:=H
   obtain⟨ASz9_0,cSz9_0,HGz9,hgz9,HSz9_0⟩:=HI0.out
   have hcz9_0:=cellS76_0 HGz9
   have hcz9_1:=cellS76_1 HGz9
   have hcz9_2:=cellS76_2 HGz9
   have hfz9_1:=blk_frozen HGz9 1
   have hfz9_2:=blk_frozen HGz9 2
   clear HGz9 hgz9
   go_enter Try.func99,Try.ntmps99
   go_wp2
   repeat (go_quiet (fail);try go_wp2)
   go_ret
   exact⟨a9_,(a3_ HI0.out),(a4_ HI0.out),a6_⟩

/-! ### spec_l1Cur_pick: function 55 -/
def spec_l1Cur_pick.f (s0_0:List Int) (s0_1:Int) (s0_2:Int) (a1:Int):Option (Int×Int×Int):=if a1≤1 then(some (0,s0_1,s0_2)) else((spec_l1Cur_next.f s0_0 s0_1 s0_2).bind fun bt102=>(if a1>200 then((spec_l1Cur_next.f s0_0 bt102.2.1 bt102.2.2).bind fun bt105=>(if a1=0 then(none) else(some (Int.tmod (wrap64 ((wrap64 (bt102.1*256))+bt105.1)) a1,bt105.2.1,bt105.2.2)))) else(if a1=0 then(none) else(some (Int.tmod bt102.1 a1,bt102.2.1,bt102.2.2)))))
set_option maxHeartbeats 8000000 in
set_option maxRecDepth 100000 in
theorem spec_l1Cur_pick.calls (g:Nat) (s0_0:List Int) (s0_1:Int) (s0_2:Int) (a1:Int) (r1:Int) (r2:Int) (r3:Int) (w0 w:World) (hI:IsS76 w0 w g s0_0 s0_1 s0_2) (hB:Below w0.heap.size w0 w) (h:spec_l1Cur_pick.f s0_0 s0_1 s0_2 a1=some (r1,r2,r3)) :
 Calls Try.prog 55 #[.pointer (some ⟨g,0,none⟩), .int .i64 a1] w fun e w'=>e = .returned (.int .i64 r1)∧IsS76 w0 w' g s0_0 r2 r3∧Below w0.heap.size w0 w'∧KeepBut w w' g none:=by
 have HI0:=am_ hI
 have HK:=am_ (KeepBut.refl w g none)
 have HL:=am_ hB.size
 clear hI
 have HW0:=am_ hB.size
 have HB:=am_ hB
 clear hB
 have H:(if a1≤1 then(some (0,s0_1,s0_2)) else((spec_l1Cur_next.f s0_0 s0_1 s0_2).bind fun bt102=>(if a1>200 then((spec_l1Cur_next.f s0_0 bt102.2.1 bt102.2.2).bind fun bt105=>(if a1=0 then(none) else(some (Int.tmod (wrap64 ((wrap64 (bt102.1*256))+bt105.1)) a1,bt105.2.1,bt105.2.2)))) else(if a1=0 then(none) else(some (Int.tmod bt102.1 a1,bt102.2.1,bt102.2.2))))))=some (r1,r2,r3):=h
 clear h
 by_cases c3:a1≤1
 ·rw[if_pos c3]at H
  have c3b0:decide (a1≤1)=true:=decide_eq_true c3
  clear c3
  simp only[Option.some.injEq,Prod.mk.injEq]at H
  obtain⟨rfl,rfl,rfl⟩:=H
  go_enter Try.func55,Try.ntmps55
  go_wp2
  go_ret
  exact⟨a9_,(a3_ HI0.out),(a4_ HI0.out),a6_⟩
 ·rw[if_neg c3]at H
  have c3b0:decide (a1≤1)=false:=decide_eq_false c3
  clear c3
  obtain⟨⟨t102,t103,t104⟩,A4,H⟩:=bo_ H
  try dsimp only at H
  by_cases c5:a1>200
  ·rw[if_pos c5]at H
   have c5b0:decide (200<a1)=true:=decide_eq_true c5
   clear c5
   obtain⟨⟨t105,t106,t107⟩,A6,H⟩:=bo_ H
   try dsimp only at H
   by_cases c7:a1=0
   ·rw[if_pos c7]at H
    exact absurd H (by simp)
   ·rw[if_neg c7]at H
    have c7b0:(a1 == 0)=false:=beq_eq_false_iff_ne.mpr c7
    have c7b1:(a1 != 0)=true:=bne_iff_ne.mpr c7
    simp only[Option.some.injEq,Prod.mk.injEq]at H
    obtain⟨rfl,rfl,rfl⟩:=H
    go_enter Try.func55,Try.ntmps55
    go_wp2_with (first|((with_reducible refine gate_callee (f:=99) rfl ?_);refine goesL_ (some 9) rfl rfl Try.func99 (by kernel_rfl) rfl #[.pointer (some ⟨g,0,none⟩)] rfl gd_ ?_;(with_reducible refine(spec_l1Cur_next.calls g s0_0 s0_1 s0_2 t102 t103 t104 w0 _ ?side1 ?side2 A4.out).mono ?_);(case side1=>exact(a3_ HI0.out));(case side2=>exact(a4_ HI0.out));rintro e w8 ⟨rfl,hi,hb,hk⟩;refine⟨_,rfl,?_⟩;replace HK:=am_ (KeepBut.trans (a6_) hk (.inl rfl));replace HB:=am_ (hb);replace HI0:=am_ (hi);(try clear hb);(try clear hb2);(try clear hk);(try clear hi))|((with_reducible refine gate_callee (f:=99) rfl ?_);refine goesL_ (some 15) rfl rfl Try.func99 (by kernel_rfl) rfl #[.pointer (some ⟨g,0,none⟩)] rfl gd_ ?_;(with_reducible refine(spec_l1Cur_next.calls g s0_0 t103 t104 t105 t106 t107 w0 _ ?side1 ?side2 A6.out).mono ?_);(case side1=>exact(a3_ HI0.out));(case side2=>exact(a4_ HI0.out));rintro e w9 ⟨rfl,hi,hb,hk⟩;refine⟨_,rfl,?_⟩;replace HK:=am_ (KeepBut.trans (a6_) hk (.inl rfl));replace HB:=am_ (hb);replace HI0:=am_ (hi);(try clear hb);(try clear hb2);(try clear hk);(try clear hi)))
    go_ret
    exact⟨a9_,(a3_ HI0.out),(a4_ HI0.out),a6_⟩
  ·rw[if_neg c5]at H
   have c5b0:decide (200<a1)=false:=decide_eq_false c5
   clear c5
   by_cases c10:a1=0
   ·rw[if_pos c10]at H
    exact absurd H (by simp)
   ·rw[if_neg c10]at H
    have c10b0:(a1 == 0)=false:=beq_eq_false_iff_ne.mpr c10
    have c10b1:(a1 != 0)=true:=bne_iff_ne.mpr c10
    simp only[Option.some.injEq,Prod.mk.injEq]at H
    obtain⟨rfl,rfl,rfl⟩:=H
    go_enter Try.func55,Try.ntmps55
    go_wp2_with (first|((with_reducible refine gate_callee (f:=99) rfl ?_);refine goesL_ (some 9) rfl rfl Try.func99 (by kernel_rfl) rfl #[.pointer (some ⟨g,0,none⟩)] rfl gd_ ?_;(with_reducible refine(spec_l1Cur_next.calls g s0_0 s0_1 s0_2 t102 t103 t104 w0 _ ?side1 ?side2 A4.out).mono ?_);(case side1=>exact(a3_ HI0.out));(case side2=>exact(a4_ HI0.out));rintro e w11 ⟨rfl,hi,hb,hk⟩;refine⟨_,rfl,?_⟩;replace HK:=am_ (KeepBut.trans (a6_) hk (.inl rfl));replace HB:=am_ (hb);replace HI0:=am_ (hi);(try clear hb);(try clear hb2);(try clear hk);(try clear hi)))
    go_ret
    exact⟨a9_,(a3_ HI0.out),(a4_ HI0.out),a6_⟩

/-! ### spec_l1Cur_among: function 57 -/
def spec_l1Cur_among.f (s0_0:List Int) (s0_1:Int) (s0_2:Int) (l1:List Int):Option (Int×Int×Int):=(spec_l1Cur_pick.f s0_0 s0_1 s0_2 (l1.length:Int)).bind fun bt108=>(if 0≤bt108.1 then(if bt108.1<(l1.length:Int) then(some (rd l1 bt108.1,bt108.2.1,bt108.2.2)) else(none)) else(none))
set_option maxHeartbeats 8000000 in
set_option maxRecDepth 100000 in
theorem spec_l1Cur_among.calls (g:Nat) (s0_0:List Int) (s0_1:Int) (s0_2:Int) (A1:Option Addr) (c1:Nat) (l1:List Int) (r1:Int) (r2:Int) (r3:Int) (w0 w:World) (hI:IsS76 w0 w g s0_0 s0_1 s0_2) (hB:Below w0.heap.size w0 w) (hr1:Kd.C (Kd.int .i64) w A1 l1.length l1) (hc1:l1.length≤c1) (hf1:∀ad,A1=some ad→0<l1.length→ad.block≠g) (h:spec_l1Cur_among.f s0_0 s0_1 s0_2 l1=some (r1,r2,r3)) :
 Calls Try.prog 57 #[.pointer (some ⟨g,0,none⟩), .slice A1 l1.length c1] w fun e w'=>e = .returned (.int .i64 r1)∧IsS76 w0 w' g s0_0 r2 r3∧Below w0.heap.size w0 w'∧KeepBut w w' g none:=by
 have HR1:=am_ hr1
 have HC1:=am_ hc1
 clear hr1 hc1
 have HI0:=am_ hI
 have HK:=am_ (KeepBut.refl w g none)
 have HL:=am_ hB.size
 clear hI
 have HW0:=am_ hB.size
 have HB:=am_ hB
 clear hB
 have H:((spec_l1Cur_pick.f s0_0 s0_1 s0_2 (l1.length:Int)).bind fun bt108=>(if 0≤bt108.1 then(if bt108.1<(l1.length:Int) then(some (rd l1 bt108.1,bt108.2.1,bt108.2.2)) else(none)) else(none)))=some (r1,r2,r3):=h
 clear h
 obtain⟨⟨t108,t109,t110⟩,A3,H⟩:=bo_ H
 try dsimp only at H
 by_cases c4:0≤t108
 ·rw[if_pos c4]at H
  have c4b0:decide (0≤t108)=true:=decide_eq_true c4
  clear c4
  by_cases c5:t108<(l1.length:Int)
  ·rw[if_pos c5]at H
   have c5b0:decide (t108<(l1.length:Int))=true:=decide_eq_true c5
   clear c5
   simp only[Option.some.injEq,Prod.mk.injEq]at H
   obtain⟨rfl,rfl,rfl⟩:=H
   go_enter Try.func57,Try.ntmps57
   go_wp2_with (first|((with_reducible refine gate_callee (f:=55) rfl ?_);refine goesL_ (some 9) rfl rfl Try.func55 (by kernel_rfl) rfl #[.pointer (some ⟨g,0,none⟩), .int .i64 (l1.length:Int)] rfl gd_ ?_;(with_reducible refine(spec_l1Cur_pick.calls g s0_0 s0_1 s0_2 (l1.length:Int) t108 t109 t110 w0 _ ?side1 ?side2 A3.out).mono ?_);(case side1=>exact(a3_ HI0.out));(case side2=>exact(a4_ HI0.out));rintro e w6 ⟨rfl,hi,hb,hk⟩;refine⟨_,rfl,?_⟩;replace HK:=am_ (KeepBut.trans (a6_) hk (.inl rfl));replace HB:=am_ (hb);replace HI0:=am_ (hi);(try clear hb);(try clear hb2);(try clear hk);(try clear hi);have p111:0≤(t108:Int):=of_decide_eq_true (a8_);have q111:t108<(l1.length:Int):=of_decide_eq_true (a8_);obtain⟨ad111,e111,hx111_0⟩:=Kd.at_int HR1.out t108 p111 q111;cases e111;replace hx111_0:=keep_cell HK.out hx111_0 (by first|(rw[add_block];exact hf1 _ rfl (by omega))|exact hf1 _ rfl (by omega)|exact hf1 ad111 rfl (by omega));replace p111:=eq_true p111;replace q111:=eq_true q111))
   go_ret
   exact⟨a9_,(a3_ HI0.out),(a4_ HI0.out),a6_⟩
  ·rw[if_neg c5]at H
   exact absurd H (by simp)
 ·rw[if_neg c4]at H
  exact absurd H (by simp)

/-! ### spec_l1Cur_hole: function 101 -/
def spec_l1Cur_hole.f (s0_0:List Int) (s0_1:Int) (s0_2:Int):Option (Int×Int×Int×Int×Int):=(spec_l1Cur_pick.f s0_0 s0_1 s0_2 40).bind fun bt113=>((spec_l1Cur_pick.f s0_0 bt113.2.1 bt113.2.2 60).bind fun bt116=>((spec_l1Cur_among.f s0_0 bt116.2.1 bt116.2.2 (([0,2,5,bt113.1,bt116.1,1990]:List Int))).bind fun bt122=>((spec_l1Cur_pick.f s0_0 bt122.2.1 bt122.2.2 20).bind fun bt125=>((spec_l1Cur_among.f s0_0 bt125.2.1 bt125.2.2 (([0,1,2,3,5,bt125.1]:List Int))).bind fun bt131=>((spec_l1Cur_among.f s0_0 bt131.2.1 bt131.2.2 (([1,2,3,4,10]:List Int))).bind fun bt137=>(some (bt131.1,bt122.1,wrap64 (bt122.1+bt137.1),bt137.2.1,bt137.2.2)))))))
set_option maxHeartbeats 8000000 in
set_option maxRecDepth 100000 in
theorem spec_l1Cur_hole.calls (g:Nat) (s0_0:List Int) (s0_1:Int) (s0_2:Int) (r1:Int) (r2:Int) (r3:Int) (r4:Int) (r5:Int) (w0 w:World) (hI:IsS76 w0 w g s0_0 s0_1 s0_2) (hB:Below w0.heap.size w0 w) (h:spec_l1Cur_hole.f s0_0 s0_1 s0_2=some (r1,r2,r3,r4,r5)) :
 Calls Try.prog 101 #[.pointer (some ⟨g,0,none⟩)] w fun e w'=>e = .returned (.agg #[.int .i64 r1, .int .i64 r2, .int .i64 r3])∧IsS76 w0 w' g s0_0 r4 r5∧Below w0.heap.size w0 w'∧KeepBut w w' g none:=by
 have hu42:=Try.underlying42
 have HI0:=am_ hI
 have HK:=am_ (KeepBut.refl w g none)
 have HL:=am_ hB.size
 clear hI
 have HW0:=am_ hB.size
 have HB:=am_ hB
 clear hB
 have H:((spec_l1Cur_pick.f s0_0 s0_1 s0_2 40).bind fun bt113=>((spec_l1Cur_pick.f s0_0 bt113.2.1 bt113.2.2 60).bind fun bt116=>((spec_l1Cur_among.f s0_0 bt116.2.1 bt116.2.2 (([0,2,5,bt113.1,bt116.1,1990]:List Int))).bind fun bt122=>((spec_l1Cur_pick.f s0_0 bt122.2.1 bt122.2.2 20).bind fun bt125=>((spec_l1Cur_among.f s0_0 bt125.2.1 bt125.2.2 (([0,1,2,3,5,bt125.1]:List Int))).bind fun bt131=>((spec_l1Cur_among.f s0_0 bt131.2.1 bt131.2.2 (([1,2,3,4,10]:List Int))).bind fun bt137=>(some (bt131.1,bt122.1,wrap64 (bt122.1+bt137.1),bt137.2.1,bt137.2.2))))))))=some (r1,r2,r3,r4,r5):=h
 clear h
 obtain⟨⟨t113,t114,t115⟩,A2,H⟩:=bo_ H
 try dsimp only at H
 obtain⟨⟨t116,t117,t118⟩,A3,H⟩:=bo_ H
 try dsimp only at H
 obtain⟨y119,hy119⟩:∃y_:List Int,y_=(([0,2,5,t113,t116,1990]:List Int)):=⟨_,rfl⟩
 replace H:((spec_l1Cur_among.f s0_0 t117 t118 y119).bind fun bt122=>((spec_l1Cur_pick.f s0_0 bt122.2.1 bt122.2.2 20).bind fun bt125=>((spec_l1Cur_among.f s0_0 bt125.2.1 bt125.2.2 (([0,1,2,3,5,bt125.1]:List Int))).bind fun bt131=>((spec_l1Cur_among.f s0_0 bt131.2.1 bt131.2.2 (([1,2,3,4,10]:List Int))).bind fun bt137=>(some (bt131.1,bt122.1,wrap64 (bt122.1+bt137.1),bt137.2.1,bt137.2.2))))))=some (r1,r2,r3,r4,r5):=by first|(rw[hy119];with_reducible exact H)|(have H2_:=(Option.bind_some _ _).symm.trans H;rw[hy119];with_reducible exact H2_)|(have H2_:=(Option.bind_some _ _).symm.trans H;with_reducible exact H2_) | with_reducible exact H|(rw[hy119];exact H)|exact H
 have Ny119:=am_ hy119
 clear hy119
 obtain⟨⟨t122,t123,t124⟩,A4,H⟩:=bo_ H
 try dsimp only at H
 obtain⟨⟨t125,t126,t127⟩,A5,H⟩:=bo_ H
 try dsimp only at H
 obtain⟨y128,hy128⟩:∃y_:List Int,y_=(([0,1,2,3,5,t125]:List Int)):=⟨_,rfl⟩
 replace H:((spec_l1Cur_among.f s0_0 t126 t127 y128).bind fun bt131=>((spec_l1Cur_among.f s0_0 bt131.2.1 bt131.2.2 (([1,2,3,4,10]:List Int))).bind fun bt137=>(some (bt131.1,t122,wrap64 (t122+bt137.1),bt137.2.1,bt137.2.2))))=some (r1,r2,r3,r4,r5):=by first|(rw[hy128];with_reducible exact H)|(have H2_:=(Option.bind_some _ _).symm.trans H;rw[hy128];with_reducible exact H2_)|(have H2_:=(Option.bind_some _ _).symm.trans H;with_reducible exact H2_) | with_reducible exact H|(rw[hy128];exact H)|exact H
 have Ny128:=am_ hy128
 clear hy128
 obtain⟨⟨t131,t132,t133⟩,A6,H⟩:=bo_ H
 try dsimp only at H
 obtain⟨y134,hy134⟩:∃y_:List Int,y_=(([1,2,3,4,10]:List Int)):=⟨_,rfl⟩
 replace H:((spec_l1Cur_among.f s0_0 t132 t133 y134).bind fun bt137=>(some (t131,t122,wrap64 (t122+bt137.1),bt137.2.1,bt137.2.2)))=some (r1,r2,r3,r4,r5):=by first|(rw[hy134];with_reducible exact H)|(have H2_:=(Option.bind_some _ _).symm.trans H;rw[hy134];with_reducible exact H2_)|(have H2_:=(Option.bind_some _ _).symm.trans H;with_reducible exact H2_) | with_reducible exact H|(rw[hy134];exact H)|exact H
 have Ny134:=am_ hy134
 clear hy134
 obtain⟨⟨t137,t138,t139⟩,A7,H⟩:=bo_ H
 try dsimp only at H
 simp only[Option.some.injEq,Prod.mk.injEq]at H
 obtain⟨rfl,rfl,rfl,rfl,rfl⟩:=H
 go_enter Try.func101,Try.ntmps101
 go_wp2_with (first|((with_reducible refine gate_dst (N:=2) rfl ?_);refine box_event ?hg (N:=2) ?hd (cs:= #[.int .i64 0, .int .i64 0, .int .i64 0]) (t:=42) ?hr ?_;(case hd=>rfl);(case hg=>rfl);(case hr=>exact hr_);intro gb112 hg w8 hbox hb;replace HB:=am_ (below_step ((a4_ HI0.out)) hb);have BK112:=am_ (hbox);have GW112:=am_ ((by rw[hg];exact(keep_size (w:=w) (g:=g) (row:=none) (a6_)):w.heap.size≤gb112));have GE112:=am_ ((Nat.le_trans HW0.out (by rw[hg];exact(keep_size (w:=w) (g:=g) (row:=none) (a6_)):w.heap.size≤gb112):w0.heap.size≤gb112));replace HK:=am_ (KeepBut.trans (a6_) (KeepBut.of_below hb g none) (.inl rfl));have NB0_112:=am_ ((by rw[hg];exact Nat.ne_of_lt (IsS76.lt (show IsS76 w0 _ g s0_0 s0_1 s0_2 from(a3_ HI0.out))):g≠gb112));have NB112_0:=am_ ((by rw[hg];exact Nat.ne_of_gt (IsS76.lt (show IsS76 w0 _ g s0_0 s0_1 s0_2 from(a3_ HI0.out))):gb112≠g));replace HI0:=am_ (IsS76.below ((a3_ HI0.out)) hb);clear hb hbox hg)|((with_reducible refine gate_callee (f:=55) rfl ?_);refine goesL_ (some 6) rfl rfl Try.func55 (by kernel_rfl) rfl #[.pointer (some ⟨g,0,none⟩), .int .i64 40] rfl gd_ ?_;(with_reducible refine(spec_l1Cur_pick.calls g s0_0 s0_1 s0_2 40 t113 t114 t115 w0 _ ?side1 ?side2 A2.out).mono ?_);(case side1=>exact(a7_ HI0.out NB0_112.out));(case side2=>exact(a16_ HI0.out GE112.out));rintro e w9 ⟨rfl,hi,hb,hk⟩;refine⟨_,rfl,?_⟩;replace BK112:=am_ (KeepBut.blk hk (g':=gb112) (o:= .cells #[.int .i64 0, .int .i64 0, .int .i64 0] 42 (0,0)) ((a5_ BK112.out)) NB112_0.out (by simp));replace HK:=am_ (KeepBut.trans ((a14_ GW112.out)) hk (.inl rfl));replace HB:=am_ (hb);replace HI0:=am_ (hi);(try clear hb);(try clear hb2);(try clear hk);(try clear hi))|((with_reducible refine gate_callee (f:=55) rfl ?_);refine goesL_ (some 8) rfl rfl Try.func55 (by kernel_rfl) rfl #[.pointer (some ⟨g,0,none⟩), .int .i64 60] rfl gd_ ?_;(with_reducible refine(spec_l1Cur_pick.calls g s0_0 t114 t115 60 t116 t117 t118 w0 _ ?side1 ?side2 A3.out).mono ?_);(case side1=>exact(a7_ HI0.out NB0_112.out));(case side2=>exact(a16_ HI0.out GE112.out));rintro e w10 ⟨rfl,hi,hb,hk⟩;refine⟨_,rfl,?_⟩;replace BK112:=am_ (KeepBut.blk hk (g':=gb112) (o:= .cells #[.int .i64 0, .int .i64 0, .int .i64 0] 42 (0,0)) ((a5_ BK112.out)) NB112_0.out (by simp));replace HK:=am_ (KeepBut.trans ((a14_ GW112.out)) hk (.inl rfl));replace HB:=am_ (hb);replace HI0:=am_ (hi);(try clear hb);(try clear hb2);(try clear hk);(try clear hi))|((with_reducible refine gate_dst (N:=9) rfl ?_);refine Kd.R_lit (Kd.int .i64) _ 3 ?hg (N:=9) ?hd (xs:=([0,2,5,t113,t116,1990]:List Int)) (inner:=[.int .i64 0, .int .i64 2, .int .i64 5, .int .i64 t113, .int .i64 t116, .int .i64 1990]) (ok:=fun _=>True) (okp:=fun _=>True) ?hr ?hp (fun _ hk=>hk) trivial (Below.refl _ _) (Nat.le_refl _) (by simp) ?_;(case hd=>rfl);(case hg=>rfl);(case hr=>exact hr_);(case hp=>exact(Reps.one (show Kd.M (Kd.int .i64) _ _ _ 0 [.int .i64 0] from rfl) (Reps.one (show Kd.M (Kd.int .i64) _ _ _ 2 [.int .i64 2] from rfl) (Reps.one (show Kd.M (Kd.int .i64) _ _ _ 5 [.int .i64 5] from rfl) (Reps.one (show Kd.M (Kd.int .i64) _ _ _ t113 [.int .i64 t113] from rfl) (Reps.one (show Kd.M (Kd.int .i64) _ _ _ t116 [.int .i64 t116] from rfl) (Reps.one (show Kd.M (Kd.int .i64) _ _ _ 1990 [.int .i64 1990] from rfl) (Reps.none _ _))))))));intro v120 w11 ho12 hb hg_ hnew_;clear hg_ hnew_;(first|rw[← Ny119.out]at ho12|(simp only[Int.reduceToNat]at ho12;rw[← Ny119.out]at ho12));have HO121:=am_ (Kd.R_lower ho12 (keep_size (w:=w) (g:=g) (row:=none) ((a14_ GW112.out))));replace BK112:=am_ (blk_below (g:=gb112) (o:= .cells #[.int .i64 0, .int .i64 0, .int .i64 0] 42 (0,0)) ((a5_ BK112.out)) hb);replace HK:=am_ (KeepBut.trans ((a14_ GW112.out)) (KeepBut.of_below hb g none) (.inl rfl));replace HB:=am_ (below_step ((a16_ HI0.out GE112.out)) hb);replace HI0:=am_ (IsS76.below ((a7_ HI0.out NB0_112.out)) hb);clear hb ho12;obtain⟨Ao13,co13,eo13⟩:=Kd.R_slice HO121.out;subst eo13)|((with_reducible refine gate_callee (f:=57) rfl ?_);refine goesL_ (some 10) rfl rfl Try.func57 (by kernel_rfl) rfl #[.pointer (some ⟨g,0,none⟩), .slice Ao13 y119.length co13] rfl gd_ ?_;(with_reducible refine(spec_l1Cur_among.calls g s0_0 t117 t118 _ _ y119 t122 t123 t124 w0 _ ?side1 ?side2 ?side3 ?side4 ?side5 A4.out).mono ?_);(case side1=>exact(a7_ HI0.out NB0_112.out));(case side2=>exact(a16_ HI0.out GE112.out));(case side3=>exact(a11_ HO121.out));(case side4=>exact(Kd.R_reads' HO121.out).2.1);(case side5=>exact far_slice (IsS76.own_ne HI0.out HO121.out (by decide)));rintro e w14 ⟨rfl,hi,hb,hk⟩;refine⟨_,rfl,?_⟩;replace BK112:=am_ (KeepBut.blk hk (g':=gb112) (o:= .cells #[.int .i64 0, .int .i64 0, .int .i64 0] 42 (0,0)) ((a5_ BK112.out)) NB112_0.out (by simp));replace HO121:=am_ (Kd.R_mono (Kd.R_keep (IsS76.apart (show IsS76 w0 _ g s0_0 t117 t118 from(a7_ HI0.out NB0_112.out)) ((a1_ HO121.out)) (by decide)) hk (fun _ h=>h.2)) (fun _ h=>h.1));replace HK:=am_ (KeepBut.trans ((a14_ GW112.out)) hk (.inl rfl));replace HB:=am_ (hb);replace HI0:=am_ (hi);(try clear hb);(try clear hb2);(try clear hk);(try clear hi))|((with_reducible refine gate_callee (f:=55) rfl ?_);refine goesL_ (some 13) rfl rfl Try.func55 (by kernel_rfl) rfl #[.pointer (some ⟨g,0,none⟩), .int .i64 20] rfl gd_ ?_;(with_reducible refine(spec_l1Cur_pick.calls g s0_0 t123 t124 20 t125 t126 t127 w0 _ ?side1 ?side2 A5.out).mono ?_);(case side1=>exact(a7_ HI0.out NB0_112.out));(case side2=>exact(a16_ HI0.out GE112.out));rintro e w15 ⟨rfl,hi,hb,hk⟩;refine⟨_,rfl,?_⟩;replace BK112:=am_ (KeepBut.blk hk (g':=gb112) (o:= .cells #[.int .i64 0, .int .i64 0, .int .i64 0] 42 (0,0)) ((a5_ BK112.out)) NB112_0.out (by simp));replace HO121:=am_ (Kd.R_mono (Kd.R_keep (IsS76.apart (show IsS76 w0 _ g s0_0 t123 t124 from(a7_ HI0.out NB0_112.out)) ((a1_ HO121.out)) (by decide)) hk (fun _ h=>h.2)) (fun _ h=>h.1));replace HK:=am_ (KeepBut.trans ((a14_ GW112.out)) hk (.inl rfl));replace HB:=am_ (hb);replace HI0:=am_ (hi);(try clear hb);(try clear hb2);(try clear hk);(try clear hi))|((with_reducible refine gate_dst (N:=14) rfl ?_);refine Kd.R_lit (Kd.int .i64) _ 3 ?hg (N:=14) ?hd (xs:=([0,1,2,3,5,t125]:List Int)) (inner:=[.int .i64 0, .int .i64 1, .int .i64 2, .int .i64 3, .int .i64 5, .int .i64 t125]) (ok:=fun _=>True) (okp:=fun _=>True) ?hr ?hp (fun _ hk=>hk) trivial (Below.refl _ _) (Nat.le_refl _) (by simp) ?_;(case hd=>rfl);(case hg=>rfl);(case hr=>exact hr_);(case hp=>exact(Reps.one (show Kd.M (Kd.int .i64) _ _ _ 0 [.int .i64 0] from rfl) (Reps.one (show Kd.M (Kd.int .i64) _ _ _ 1 [.int .i64 1] from rfl) (Reps.one (show Kd.M (Kd.int .i64) _ _ _ 2 [.int .i64 2] from rfl) (Reps.one (show Kd.M (Kd.int .i64) _ _ _ 3 [.int .i64 3] from rfl) (Reps.one (show Kd.M (Kd.int .i64) _ _ _ 5 [.int .i64 5] from rfl) (Reps.one (show Kd.M (Kd.int .i64) _ _ _ t125 [.int .i64 t125] from rfl) (Reps.none _ _))))))));intro v129 w16 ho17 hb hg_ hnew_;clear hg_ hnew_;(first|rw[← Ny128.out]at ho17|(simp only[Int.reduceToNat]at ho17;rw[← Ny128.out]at ho17));have HO130:=am_ (Kd.R_lower (Kd.R_new' ho17 (Kd.R_lt ((a1_ HO121.out)))) (keep_size (w:=w) (g:=g) (row:=none) ((a14_ GW112.out))));replace HO121:=am_ (Kd.R_elder' ((a1_ HO121.out)) (Kd.R_base ho17) hb);replace BK112:=am_ (blk_below (g:=gb112) (o:= .cells #[.int .i64 0, .int .i64 0, .int .i64 0] 42 (0,0)) ((a5_ BK112.out)) hb);replace HK:=am_ (KeepBut.trans ((a14_ GW112.out)) (KeepBut.of_below hb g none) (.inl rfl));replace HB:=am_ (below_step ((a16_ HI0.out GE112.out)) hb);replace HI0:=am_ (IsS76.below ((a7_ HI0.out NB0_112.out)) hb);clear hb ho17;obtain⟨Ao18,co18,eo18⟩:=Kd.R_slice HO130.out;subst eo18)|((with_reducible refine gate_callee (f:=57) rfl ?_);refine goesL_ (some 15) rfl rfl Try.func57 (by kernel_rfl) rfl #[.pointer (some ⟨g,0,none⟩), .slice Ao18 y128.length co18] rfl gd_ ?_;(with_reducible refine(spec_l1Cur_among.calls g s0_0 t126 t127 _ _ y128 t131 t132 t133 w0 _ ?side1 ?side2 ?side3 ?side4 ?side5 A6.out).mono ?_);(case side1=>exact(a7_ HI0.out NB0_112.out));(case side2=>exact(a16_ HI0.out GE112.out));(case side3=>exact(a11_ HO130.out));(case side4=>exact(Kd.R_reads' HO130.out).2.1);(case side5=>exact far_slice (IsS76.own_ne HI0.out HO130.out (by decide)));rintro e w19 ⟨rfl,hi,hb,hk⟩;refine⟨_,rfl,?_⟩;replace BK112:=am_ (KeepBut.blk hk (g':=gb112) (o:= .cells #[.int .i64 0, .int .i64 0, .int .i64 0] 42 (0,0)) ((a5_ BK112.out)) NB112_0.out (by simp));replace HO121:=am_ (Kd.R_mono (Kd.R_keep (IsS76.apart (show IsS76 w0 _ g s0_0 t126 t127 from(a7_ HI0.out NB0_112.out)) ((a1_ HO121.out)) (by decide)) hk (fun _ h=>h.2)) (fun _ h=>h.1));replace HO130:=am_ (Kd.R_mono (Kd.R_keep (IsS76.apart (show IsS76 w0 _ g s0_0 t126 t127 from(a7_ HI0.out NB0_112.out)) ((a1_ HO130.out)) (by decide)) hk (fun _ h=>h.2)) (fun _ h=>h.1));replace HK:=am_ (KeepBut.trans ((a14_ GW112.out)) hk (.inl rfl));replace HB:=am_ (hb);replace HI0:=am_ (hi);(try clear hb);(try clear hb2);(try clear hk);(try clear hi))|((with_reducible refine gate_dst (N:=19) rfl ?_);refine Kd.R_lit (Kd.int .i64) _ 3 ?hg (N:=19) ?hd (xs:=([1,2,3,4,10]:List Int)) (inner:=[.int .i64 1, .int .i64 2, .int .i64 3, .int .i64 4, .int .i64 10]) (ok:=fun _=>True) (okp:=fun _=>True) ?hr ?hp (fun _ hk=>hk) trivial (Below.refl _ _) (Nat.le_refl _) (by simp) ?_;(case hd=>rfl);(case hg=>rfl);(case hr=>exact hr_);(case hp=>exact(Reps.one (show Kd.M (Kd.int .i64) _ _ _ 1 [.int .i64 1] from rfl) (Reps.one (show Kd.M (Kd.int .i64) _ _ _ 2 [.int .i64 2] from rfl) (Reps.one (show Kd.M (Kd.int .i64) _ _ _ 3 [.int .i64 3] from rfl) (Reps.one (show Kd.M (Kd.int .i64) _ _ _ 4 [.int .i64 4] from rfl) (Reps.one (show Kd.M (Kd.int .i64) _ _ _ 10 [.int .i64 10] from rfl) (Reps.none _ _)))))));intro v135 w20 ho21 hb hg_ hnew_;clear hg_ hnew_;(first|rw[← Ny134.out]at ho21|(simp only[Int.reduceToNat]at ho21;rw[← Ny134.out]at ho21));have HO136:=am_ (Kd.R_lower (Kd.R_new' (Kd.R_new' ho21 (Kd.R_lt ((a1_ HO121.out)))) (Kd.R_lt ((a1_ HO130.out)))) (keep_size (w:=w) (g:=g) (row:=none) ((a14_ GW112.out))));replace HO121:=am_ (Kd.R_elder' ((a1_ HO121.out)) (Kd.R_base ho21) hb);replace HO130:=am_ (Kd.R_elder' ((a1_ HO130.out)) (Kd.R_base ho21) hb);replace BK112:=am_ (blk_below (g:=gb112) (o:= .cells #[.int .i64 0, .int .i64 0, .int .i64 0] 42 (0,0)) ((a5_ BK112.out)) hb);replace HK:=am_ (KeepBut.trans ((a14_ GW112.out)) (KeepBut.of_below hb g none) (.inl rfl));replace HB:=am_ (below_step ((a16_ HI0.out GE112.out)) hb);replace HI0:=am_ (IsS76.below ((a7_ HI0.out NB0_112.out)) hb);clear hb ho21;obtain⟨Ao22,co22,eo22⟩:=Kd.R_slice HO136.out;subst eo22)|((with_reducible refine gate_callee (f:=57) rfl ?_);refine goesL_ (some 20) rfl rfl Try.func57 (by kernel_rfl) rfl #[.pointer (some ⟨g,0,none⟩), .slice Ao22 y134.length co22] rfl gd_ ?_;(with_reducible refine(spec_l1Cur_among.calls g s0_0 t132 t133 _ _ y134 t137 t138 t139 w0 _ ?side1 ?side2 ?side3 ?side4 ?side5 A7.out).mono ?_);(case side1=>exact(a7_ HI0.out NB0_112.out));(case side2=>exact(a16_ HI0.out GE112.out));(case side3=>exact(a11_ HO136.out));(case side4=>exact(Kd.R_reads' HO136.out).2.1);(case side5=>exact far_slice (IsS76.own_ne HI0.out HO136.out (by decide)));rintro e w23 ⟨rfl,hi,hb,hk⟩;refine⟨_,rfl,?_⟩;replace BK112:=am_ (KeepBut.blk hk (g':=gb112) (o:= .cells #[.int .i64 0, .int .i64 0, .int .i64 0] 42 (0,0)) ((a5_ BK112.out)) NB112_0.out (by simp));replace HO121:=am_ (Kd.R_mono (Kd.R_keep (IsS76.apart (show IsS76 w0 _ g s0_0 t132 t133 from(a7_ HI0.out NB0_112.out)) ((a1_ HO121.out)) (by decide)) hk (fun _ h=>h.2)) (fun _ h=>h.1));replace HO130:=am_ (Kd.R_mono (Kd.R_keep (IsS76.apart (show IsS76 w0 _ g s0_0 t132 t133 from(a7_ HI0.out NB0_112.out)) ((a1_ HO130.out)) (by decide)) hk (fun _ h=>h.2)) (fun _ h=>h.1));replace HO136:=am_ (Kd.R_mono (Kd.R_keep (IsS76.apart (show IsS76 w0 _ g s0_0 t132 t133 from(a7_ HI0.out NB0_112.out)) ((a1_ HO136.out)) (by decide)) hk (fun _ h=>h.2)) (fun _ h=>h.1));replace HK:=am_ (KeepBut.trans ((a14_ GW112.out)) hk (.inl rfl));replace HB:=am_ (hb);replace HI0:=am_ (hi);(try clear hb);(try clear hb2);(try clear hk);(try clear hi);have hnb24:=NB112_0.out;have hnc24:=NB0_112.out;have hcz25_0:w23.cell? ⟨gb112,0,none⟩=some (.int .i64 0):=(blk_cell BK112.out 0).trans rfl;have hcz25_1:w23.cell? ⟨gb112,1,none⟩=some (.int .i64 0):=(blk_cell BK112.out 1).trans rfl;have hcz25_2:w23.cell? ⟨gb112,2,none⟩=some (.int .i64 0):=(blk_cell BK112.out 2).trans rfl;have hfz25_0:=blk_frozen BK112.out 0;have hfz25_1:=blk_frozen BK112.out 1;have hfz25_2:=blk_frozen BK112.out 2))
 refine bodyPost_ret (results_cell_row rfl _ _ gb112 42 #[.int .i64 t131, .int .i64 t122, .int .i64 (wrap64 (t122+t137))] (0,0) _ rfl (by(with_reducible repeat (first|refine blk_drewN ?_ _ | refine blk_drew ?_ | refine blk_alloc ?_ _));refine blk_put (cs:= #[.int .i64 t131, .int .i64 t122, .int .i64 0]) ?_ 2 _ rfl;(with_reducible repeat (first|refine blk_drewN ?_ _ | refine blk_drew ?_ | refine blk_alloc ?_ _));refine blk_put (cs:= #[.int .i64 t131, .int .i64 0, .int .i64 0]) ?_ 1 _ rfl;(with_reducible repeat (first|refine blk_drewN ?_ _ | refine blk_drew ?_ | refine blk_alloc ?_ _));refine blk_put (cs:= #[.int .i64 0, .int .i64 0, .int .i64 0]) ?_ 0 _ rfl;(with_reducible repeat (first|refine blk_drewN ?_ _ | refine blk_drew ?_ | refine blk_alloc ?_ _));exact BK112.out) Try.underlying42 rfl (by kernel_rfl)) rfl ?_
 exact⟨a9_,(a7_ HI0.out NB0_112.out),(a16_ HI0.out GE112.out),(a14_ GW112.out)⟩

/-! ### spec_l1Cur_anyHole: function 71 -/
def spec_l1Cur_anyHole.f (s0_0:List Int) (s0_1:Int) (s0_2:Int):Option (Int×Int×Int×Int×Int):=(spec_l1Cur_hole.f s0_0 s0_1 s0_2).bind fun bt141=>((spec_l1Cur_pick.f s0_0 bt141.2.2.2.1 bt141.2.2.2.2 24).bind fun bt147=>(if bt147.1=0 then((spec_l1Cur_among.f s0_0 bt147.2.1 bt147.2.2 (([(-1),19,20]:List Int))).bind fun bt153=>(some (bt153.1,bt141.2.1,bt141.2.2.1,bt153.2.1,bt153.2.2))) else(if bt147.1=1 then((spec_l1Cur_among.f s0_0 bt147.2.1 bt147.2.2 (([(-1),bt141.2.2.1]:List Int))).bind fun bt159=>(some (bt141.1,bt159.1,bt141.2.2.1,bt159.2.1,bt159.2.2))) else(if bt147.1=2 then((spec_l1Cur_among.f s0_0 bt147.2.1 bt147.2.2 (([bt141.2.1,2000,2001]:List Int))).bind fun bt165=>(some (bt141.1,bt141.2.1,bt165.1,bt165.2.1,bt165.2.2))) else(some (bt141.1,bt141.2.1,bt141.2.2.1,bt147.2.1,bt147.2.2))))))
set_option maxHeartbeats 8000000 in
set_option maxRecDepth 100000 in
theorem spec_l1Cur_anyHole.calls (g:Nat) (s0_0:List Int) (s0_1:Int) (s0_2:Int) (r1:Int) (r2:Int) (r3:Int) (r4:Int) (r5:Int) (w0 w:World) (hI:IsS76 w0 w g s0_0 s0_1 s0_2) (hB:Below w0.heap.size w0 w) (h:spec_l1Cur_anyHole.f s0_0 s0_1 s0_2=some (r1,r2,r3,r4,r5)) :
 Calls Try.prog 71 #[.pointer (some ⟨g,0,none⟩)] w fun e w'=>e = .returned (.agg #[.int .i64 r1, .int .i64 r2, .int .i64 r3])∧IsS76 w0 w' g s0_0 r4 r5∧Below w0.heap.size w0 w'∧KeepBut w w' g none:=by
 have hu42:=Try.underlying42
 have HI0:=am_ hI
 have HK:=am_ (KeepBut.refl w g none)
 have HL:=am_ hB.size
 clear hI
 have HW0:=am_ hB.size
 have HB:=am_ hB
 clear hB
 have H:((spec_l1Cur_hole.f s0_0 s0_1 s0_2).bind fun bt141=>((spec_l1Cur_pick.f s0_0 bt141.2.2.2.1 bt141.2.2.2.2 24).bind fun bt147=>(if bt147.1=0 then((spec_l1Cur_among.f s0_0 bt147.2.1 bt147.2.2 (([(-1),19,20]:List Int))).bind fun bt153=>(some (bt153.1,bt141.2.1,bt141.2.2.1,bt153.2.1,bt153.2.2))) else(if bt147.1=1 then((spec_l1Cur_among.f s0_0 bt147.2.1 bt147.2.2 (([(-1),bt141.2.2.1]:List Int))).bind fun bt159=>(some (bt141.1,bt159.1,bt141.2.2.1,bt159.2.1,bt159.2.2))) else(if bt147.1=2 then((spec_l1Cur_among.f s0_0 bt147.2.1 bt147.2.2 (([bt141.2.1,2000,2001]:List Int))).bind fun bt165=>(some (bt141.1,bt141.2.1,bt165.1,bt165.2.1,bt165.2.2))) else(some (bt141.1,bt141.2.1,bt141.2.2.1,bt147.2.1,bt147.2.2)))))))=some (r1,r2,r3,r4,r5):=h
 clear h
 obtain⟨⟨t141,t142,t143,t144,t145⟩,A2,H⟩:=bo_ H
 try dsimp only at H
 obtain⟨⟨t147,t148,t149⟩,A3,H⟩:=bo_ H
 try dsimp only at H
 by_cases c4:t147=0
 ·rw[if_pos c4]at H
  have c4b0:(t147 == 0)=true:=beq_iff_eq.mpr c4
  have c4b1:(t147 != 0)=false:=bne_eq_false_iff_eq.mpr c4
  clear c4
  obtain⟨y150,hy150⟩:∃y_:List Int,y_=(([(-1),19,20]:List Int)):=⟨_,rfl⟩
  replace H:((spec_l1Cur_among.f s0_0 t148 t149 y150).bind fun bt153=>(some (bt153.1,t142,t143,bt153.2.1,bt153.2.2)))=some (r1,r2,r3,r4,r5):=by first|(rw[hy150];with_reducible exact H)|(have H2_:=(Option.bind_some _ _).symm.trans H;rw[hy150];with_reducible exact H2_)|(have H2_:=(Option.bind_some _ _).symm.trans H;with_reducible exact H2_) | with_reducible exact H|(rw[hy150];exact H)|exact H
  have Ny150:=am_ hy150
  clear hy150
  obtain⟨⟨t153,t154,t155⟩,A5,H⟩:=bo_ H
  try dsimp only at H
  simp only[Option.some.injEq,Prod.mk.injEq]at H
  obtain⟨rfl,rfl,rfl,rfl,rfl⟩:=H
  go_enter Try.func71,Try.ntmps71
  go_wp2_with (first|((with_reducible refine gate_dst (N:=2) rfl ?_);refine box_event ?hg (N:=2) ?hd (cs:= #[.int .i64 0, .int .i64 0, .int .i64 0]) (t:=42) ?hr ?_;(case hd=>rfl);(case hg=>rfl);(case hr=>exact hr_);intro gb140 hg w6 hbox hb;replace HB:=am_ (below_step ((a4_ HI0.out)) hb);have BK140:=am_ (hbox);have GW140:=am_ ((by rw[hg];exact(keep_size (w:=w) (g:=g) (row:=none) (a6_)):w.heap.size≤gb140));have GE140:=am_ ((Nat.le_trans HW0.out (by rw[hg];exact(keep_size (w:=w) (g:=g) (row:=none) (a6_)):w.heap.size≤gb140):w0.heap.size≤gb140));replace HK:=am_ (KeepBut.trans (a6_) (KeepBut.of_below hb g none) (.inl rfl));have NB0_140:=am_ ((by rw[hg];exact Nat.ne_of_lt (IsS76.lt (show IsS76 w0 _ g s0_0 s0_1 s0_2 from(a3_ HI0.out))):g≠gb140));have NB140_0:=am_ ((by rw[hg];exact Nat.ne_of_gt (IsS76.lt (show IsS76 w0 _ g s0_0 s0_1 s0_2 from(a3_ HI0.out))):gb140≠g));replace HI0:=am_ (IsS76.below ((a3_ HI0.out)) hb);clear hb hbox hg)|((with_reducible refine gate_callee (f:=101) rfl ?_);refine goesL_ (some 5) rfl rfl Try.func101 (by kernel_rfl) rfl #[.pointer (some ⟨g,0,none⟩)] rfl gd_ ?_;(with_reducible refine(spec_l1Cur_hole.calls g s0_0 s0_1 s0_2 t141 t142 t143 t144 t145 w0 _ ?side1 ?side2 A2.out).mono ?_);(case side1=>exact(a7_ HI0.out NB0_140.out));(case side2=>exact(a16_ HI0.out GE140.out));rintro e w7 ⟨rfl,hi,hb,hk⟩;refine⟨_,rfl,?_⟩;replace BK140:=am_ (KeepBut.blk hk (g':=gb140) (o:= .cells #[.int .i64 0, .int .i64 0, .int .i64 0] 42 (0,0)) ((a5_ BK140.out)) NB140_0.out (by simp));replace HK:=am_ (KeepBut.trans ((a14_ GW140.out)) hk (.inl rfl));replace HB:=am_ (hb);replace HI0:=am_ (hi);(try clear hb);(try clear hb2);(try clear hk);(try clear hi))|((with_reducible refine gate_dst (N:=3) rfl ?_);refine box_event ?hg (N:=3) ?hd (cs:= #[.int .i64 0, .int .i64 0, .int .i64 0]) (t:=42) ?hr ?_;(case hd=>rfl);(case hg=>rfl);(case hr=>exact hr_);intro gb146 hg w8 hbox hb;replace HB:=am_ (below_step ((a16_ HI0.out GE140.out)) hb);have BK146:=am_ (hbox);have GW146:=am_ ((by rw[hg];exact(keep_size (w:=w) (g:=g) (row:=none) ((a14_ GW140.out))):w.heap.size≤gb146));have GE146:=am_ ((Nat.le_trans HW0.out (by rw[hg];exact(keep_size (w:=w) (g:=g) (row:=none) ((a14_ GW140.out))):w.heap.size≤gb146):w0.heap.size≤gb146));replace HK:=am_ (KeepBut.trans ((a14_ GW140.out)) (KeepBut.of_below hb g none) (.inl rfl));have NB140_146:=am_ ((by rw[hg];exact Nat.ne_of_lt (blk_lt (g:=gb140) (o:= .cells #[.int .i64 0, .int .i64 0, .int .i64 0] 42 (0,0)) ((a5_ BK140.out))):gb140≠gb146));have NB146_140:=am_ ((by rw[hg];exact Nat.ne_of_gt (blk_lt (g:=gb140) (o:= .cells #[.int .i64 0, .int .i64 0, .int .i64 0] 42 (0,0)) ((a5_ BK140.out))):gb146≠gb140));replace BK140:=am_ (blk_below (g:=gb140) (o:= .cells #[.int .i64 0, .int .i64 0, .int .i64 0] 42 (0,0)) ((a5_ BK140.out)) hb);have NB0_146:=am_ ((by rw[hg];exact Nat.ne_of_lt (IsS76.lt (show IsS76 w0 _ g s0_0 t144 t145 from(a7_ HI0.out NB0_140.out))):g≠gb146));have NB146_0:=am_ ((by rw[hg];exact Nat.ne_of_gt (IsS76.lt (show IsS76 w0 _ g s0_0 t144 t145 from(a7_ HI0.out NB0_140.out))):gb146≠g));replace HI0:=am_ (IsS76.below ((a7_ HI0.out NB0_140.out)) hb);clear hb hbox hg;have hnb9:=NB146_140.out;have hnc9:=NB140_146.out;have hnb10:=NB146_0.out;have hnc10:=NB0_146.out;have hcz11_0:w8.cell? ⟨gb146,0,none⟩=some (.int .i64 0):=(blk_cell BK146.out 0).trans rfl;have hcz11_1:w8.cell? ⟨gb146,1,none⟩=some (.int .i64 0):=(blk_cell BK146.out 1).trans rfl;have hcz11_2:w8.cell? ⟨gb146,2,none⟩=some (.int .i64 0):=(blk_cell BK146.out 2).trans rfl;have hfz11_0:=blk_frozen BK146.out 0;have hfz11_1:=blk_frozen BK146.out 1;have hfz11_2:=blk_frozen BK146.out 2)|((with_reducible refine gate_callee (f:=55) rfl ?_);refine goesL_ (some 7) rfl rfl Try.func55 (by kernel_rfl) rfl #[.pointer (some ⟨g,0,none⟩), .int .i64 24] rfl gd_ ?_;(with_reducible refine(spec_l1Cur_pick.calls g s0_0 t144 t145 24 t147 t148 t149 w0 _ ?side1 ?side2 A3.out).mono ?_);(case side1=>exact(a10_ HI0.out NB0_140.out NB0_146.out));(case side2=>exact(a22_ HI0.out GE140.out GE146.out));rintro e w12 ⟨rfl,hi,hb,hk⟩;refine⟨_,rfl,?_⟩;replace BK140:=am_ (KeepBut.blk hk (g':=gb140) (o:= .cells #[.int .i64 0, .int .i64 0, .int .i64 0] 42 (0,0)) ((a15_ NB140_146.out BK140.out)) NB140_0.out (by simp));replace BK146:=am_ (KeepBut.blk hk (g':=gb146) (o:= .cells #[.int .i64 t141, .int .i64 t142, .int .i64 t143] 42 (0,0)) ((a19_ BK146.out)) NB146_0.out (by simp));replace HK:=am_ (KeepBut.trans ((a20_ GW140.out GW146.out)) hk (.inl rfl));replace HB:=am_ (hb);replace HI0:=am_ (hi);(try clear hb);(try clear hb2);(try clear hk);(try clear hi))|((with_reducible refine gate_dst (N:=11) rfl ?_);refine Kd.R_lit (Kd.int .i64) _ 3 ?hg (N:=11) ?hd (xs:=([(-1),19,20]:List Int)) (inner:=[.int .i64 (-1), .int .i64 19, .int .i64 20]) (ok:=fun _=>True) (okp:=fun _=>True) ?hr ?hp (fun _ hk=>hk) trivial (Below.refl _ _) (Nat.le_refl _) (by simp) ?_;(case hd=>rfl);(case hg=>rfl);(case hr=>exact hr_);(case hp=>exact(Reps.one (show Kd.M (Kd.int .i64) _ _ _ (-1) [.int .i64 (-1)] from rfl) (Reps.one (show Kd.M (Kd.int .i64) _ _ _ 19 [.int .i64 19] from rfl) (Reps.one (show Kd.M (Kd.int .i64) _ _ _ 20 [.int .i64 20] from rfl) (Reps.none _ _)))));intro v151 w13 ho14 hb hg_ hnew_;clear hg_ hnew_;(first|rw[← Ny150.out]at ho14|(simp only[Int.reduceToNat]at ho14;rw[← Ny150.out]at ho14));have HO152:=am_ (Kd.R_lower ho14 (keep_size (w:=w) (g:=g) (row:=none) ((a20_ GW140.out GW146.out))));replace BK140:=am_ (blk_below (g:=gb140) (o:= .cells #[.int .i64 0, .int .i64 0, .int .i64 0] 42 (0,0)) ((a5_ BK140.out)) hb);replace BK146:=am_ (blk_below (g:=gb146) (o:= .cells #[.int .i64 t141, .int .i64 t142, .int .i64 t143] 42 (0,0)) ((a5_ BK146.out)) hb);replace HK:=am_ (KeepBut.trans ((a20_ GW140.out GW146.out)) (KeepBut.of_below hb g none) (.inl rfl));replace HB:=am_ (below_step ((a22_ HI0.out GE140.out GE146.out)) hb);replace HI0:=am_ (IsS76.below ((a10_ HI0.out NB0_140.out NB0_146.out)) hb);clear hb ho14;obtain⟨Ao15,co15,eo15⟩:=Kd.R_slice HO152.out;subst eo15)|((with_reducible refine gate_callee (f:=57) rfl ?_);refine goesL_ (some 12) rfl rfl Try.func57 (by kernel_rfl) rfl #[.pointer (some ⟨g,0,none⟩), .slice Ao15 y150.length co15] rfl gd_ ?_;(with_reducible refine(spec_l1Cur_among.calls g s0_0 t148 t149 _ _ y150 t153 t154 t155 w0 _ ?side1 ?side2 ?side3 ?side4 ?side5 A5.out).mono ?_);(case side1=>exact(a10_ HI0.out NB0_140.out NB0_146.out));(case side2=>exact(a22_ HI0.out GE140.out GE146.out));(case side3=>exact(a11_ HO152.out));(case side4=>exact(Kd.R_reads' HO152.out).2.1);(case side5=>exact far_slice (IsS76.own_ne HI0.out HO152.out (by decide)));rintro e w16 ⟨rfl,hi,hb,hk⟩;refine⟨_,rfl,?_⟩;replace BK140:=am_ (KeepBut.blk hk (g':=gb140) (o:= .cells #[.int .i64 0, .int .i64 0, .int .i64 0] 42 (0,0)) ((a5_ BK140.out)) NB140_0.out (by simp));replace BK146:=am_ (KeepBut.blk hk (g':=gb146) (o:= .cells #[.int .i64 t141, .int .i64 t142, .int .i64 t143] 42 (0,0)) ((a5_ BK146.out)) NB146_0.out (by simp));replace HO152:=am_ (Kd.R_mono (Kd.R_keep (IsS76.apart (show IsS76 w0 _ g s0_0 t148 t149 from(a10_ HI0.out NB0_140.out NB0_146.out)) ((a1_ HO152.out)) (by decide)) hk (fun _ h=>h.2)) (fun _ h=>h.1));replace HK:=am_ (KeepBut.trans ((a20_ GW140.out GW146.out)) hk (.inl rfl));replace HB:=am_ (hb);replace HI0:=am_ (hi);(try clear hb);(try clear hb2);(try clear hk);(try clear hi);have hcz17_0:w16.cell? ⟨gb146,0,none⟩=some (.int .i64 t141):=(blk_cell BK146.out 0).trans rfl;have hcz17_1:w16.cell? ⟨gb146,1,none⟩=some (.int .i64 t142):=(blk_cell BK146.out 1).trans rfl;have hcz17_2:w16.cell? ⟨gb146,2,none⟩=some (.int .i64 t143):=(blk_cell BK146.out 2).trans rfl;have hfz17_0:=blk_frozen BK146.out 0;have hfz17_1:=blk_frozen BK146.out 1;have hfz17_2:=blk_frozen BK146.out 2;have hnb18:=NB140_0.out;have hnc18:=NB0_140.out;have hcz19_0:w16.cell? ⟨gb140,0,none⟩=some (.int .i64 0):=(blk_cell BK140.out 0).trans rfl;have hcz19_1:w16.cell? ⟨gb140,1,none⟩=some (.int .i64 0):=(blk_cell BK140.out 1).trans rfl;have hcz19_2:w16.cell? ⟨gb140,2,none⟩=some (.int .i64 0):=(blk_cell BK140.out 2).trans rfl;have hfz19_0:=blk_frozen BK140.out 0;have hfz19_1:=blk_frozen BK140.out 1;have hfz19_2:=blk_frozen BK140.out 2))
  refine bodyPost_ret (results_cell_row rfl _ _ gb140 42 #[.int .i64 t153, .int .i64 t142, .int .i64 t143] (0,0) _ rfl (by(with_reducible repeat (first|refine blk_drewN ?_ _ | refine blk_drew ?_ | refine blk_alloc ?_ _));refine blk_put (cs:= #[.int .i64 t153, .int .i64 t142, .int .i64 0]) ?_ 2 _ rfl;(with_reducible repeat (first|refine blk_drewN ?_ _ | refine blk_drew ?_ | refine blk_alloc ?_ _));refine blk_put (cs:= #[.int .i64 t153, .int .i64 0, .int .i64 0]) ?_ 1 _ rfl;(with_reducible repeat (first|refine blk_drewN ?_ _ | refine blk_drew ?_ | refine blk_alloc ?_ _));refine blk_put (cs:= #[.int .i64 0, .int .i64 0, .int .i64 0]) ?_ 0 _ rfl;(with_reducible repeat (first|refine blk_drewN ?_ _ | refine blk_drew ?_ | refine blk_alloc ?_ _));refine blk_far ?_ NB140_146.out _;(with_reducible repeat (first|refine blk_drewN ?_ _ | refine blk_drew ?_ | refine blk_alloc ?_ _));exact BK140.out) Try.underlying42 rfl (by kernel_rfl)) rfl ?_
  exact⟨a9_,(a10_ HI0.out NB0_140.out NB0_146.out),(a22_ HI0.out GE140.out GE146.out),(a20_ GW140.out GW146.out)⟩
 ·rw[if_neg c4]at H
  have c4b0:(t147 == 0)=false:=beq_eq_false_iff_ne.mpr c4
  have c4b1:(t147 != 0)=true:=bne_iff_ne.mpr c4
  by_cases c20:t147=1
  ·rw[if_pos c20]at H
   have c20b0:(t147 == 1)=true:=beq_iff_eq.mpr c20
   have c20b1:(t147 != 1)=false:=bne_eq_false_iff_eq.mpr c20
   clear c20
   obtain⟨y156,hy156⟩:∃y_:List Int,y_=(([(-1),t143]:List Int)):=⟨_,rfl⟩
   replace H:((spec_l1Cur_among.f s0_0 t148 t149 y156).bind fun bt159=>(some (t141,bt159.1,t143,bt159.2.1,bt159.2.2)))=some (r1,r2,r3,r4,r5):=by first|(rw[hy156];with_reducible exact H)|(have H2_:=(Option.bind_some _ _).symm.trans H;rw[hy156];with_reducible exact H2_)|(have H2_:=(Option.bind_some _ _).symm.trans H;with_reducible exact H2_) | with_reducible exact H|(rw[hy156];exact H)|exact H
   have Ny156:=am_ hy156
   clear hy156
   obtain⟨⟨t159,t160,t161⟩,A21,H⟩:=bo_ H
   try dsimp only at H
   simp only[Option.some.injEq,Prod.mk.injEq]at H
   obtain⟨rfl,rfl,rfl,rfl,rfl⟩:=H
   go_enter Try.func71,Try.ntmps71
   go_wp2_with (first|((with_reducible refine gate_dst (N:=2) rfl ?_);refine box_event ?hg (N:=2) ?hd (cs:= #[.int .i64 0, .int .i64 0, .int .i64 0]) (t:=42) ?hr ?_;(case hd=>rfl);(case hg=>rfl);(case hr=>exact hr_);intro gb140 hg w22 hbox hb;replace HB:=am_ (below_step ((a4_ HI0.out)) hb);have BK140:=am_ (hbox);have GW140:=am_ ((by rw[hg];exact(keep_size (w:=w) (g:=g) (row:=none) (a6_)):w.heap.size≤gb140));have GE140:=am_ ((Nat.le_trans HW0.out (by rw[hg];exact(keep_size (w:=w) (g:=g) (row:=none) (a6_)):w.heap.size≤gb140):w0.heap.size≤gb140));replace HK:=am_ (KeepBut.trans (a6_) (KeepBut.of_below hb g none) (.inl rfl));have NB0_140:=am_ ((by rw[hg];exact Nat.ne_of_lt (IsS76.lt (show IsS76 w0 _ g s0_0 s0_1 s0_2 from(a3_ HI0.out))):g≠gb140));have NB140_0:=am_ ((by rw[hg];exact Nat.ne_of_gt (IsS76.lt (show IsS76 w0 _ g s0_0 s0_1 s0_2 from(a3_ HI0.out))):gb140≠g));replace HI0:=am_ (IsS76.below ((a3_ HI0.out)) hb);clear hb hbox hg)|((with_reducible refine gate_callee (f:=101) rfl ?_);refine goesL_ (some 5) rfl rfl Try.func101 (by kernel_rfl) rfl #[.pointer (some ⟨g,0,none⟩)] rfl gd_ ?_;(with_reducible refine(spec_l1Cur_hole.calls g s0_0 s0_1 s0_2 t141 t142 t143 t144 t145 w0 _ ?side1 ?side2 A2.out).mono ?_);(case side1=>exact(a7_ HI0.out NB0_140.out));(case side2=>exact(a16_ HI0.out GE140.out));rintro e w23 ⟨rfl,hi,hb,hk⟩;refine⟨_,rfl,?_⟩;replace BK140:=am_ (KeepBut.blk hk (g':=gb140) (o:= .cells #[.int .i64 0, .int .i64 0, .int .i64 0] 42 (0,0)) ((a5_ BK140.out)) NB140_0.out (by simp));replace HK:=am_ (KeepBut.trans ((a14_ GW140.out)) hk (.inl rfl));replace HB:=am_ (hb);replace HI0:=am_ (hi);(try clear hb);(try clear hb2);(try clear hk);(try clear hi))|((with_reducible refine gate_dst (N:=3) rfl ?_);refine box_event ?hg (N:=3) ?hd (cs:= #[.int .i64 0, .int .i64 0, .int .i64 0]) (t:=42) ?hr ?_;(case hd=>rfl);(case hg=>rfl);(case hr=>exact hr_);intro gb146 hg w24 hbox hb;replace HB:=am_ (below_step ((a16_ HI0.out GE140.out)) hb);have BK146:=am_ (hbox);have GW146:=am_ ((by rw[hg];exact(keep_size (w:=w) (g:=g) (row:=none) ((a14_ GW140.out))):w.heap.size≤gb146));have GE146:=am_ ((Nat.le_trans HW0.out (by rw[hg];exact(keep_size (w:=w) (g:=g) (row:=none) ((a14_ GW140.out))):w.heap.size≤gb146):w0.heap.size≤gb146));replace HK:=am_ (KeepBut.trans ((a14_ GW140.out)) (KeepBut.of_below hb g none) (.inl rfl));have NB140_146:=am_ ((by rw[hg];exact Nat.ne_of_lt (blk_lt (g:=gb140) (o:= .cells #[.int .i64 0, .int .i64 0, .int .i64 0] 42 (0,0)) ((a5_ BK140.out))):gb140≠gb146));have NB146_140:=am_ ((by rw[hg];exact Nat.ne_of_gt (blk_lt (g:=gb140) (o:= .cells #[.int .i64 0, .int .i64 0, .int .i64 0] 42 (0,0)) ((a5_ BK140.out))):gb146≠gb140));replace BK140:=am_ (blk_below (g:=gb140) (o:= .cells #[.int .i64 0, .int .i64 0, .int .i64 0] 42 (0,0)) ((a5_ BK140.out)) hb);have NB0_146:=am_ ((by rw[hg];exact Nat.ne_of_lt (IsS76.lt (show IsS76 w0 _ g s0_0 t144 t145 from(a7_ HI0.out NB0_140.out))):g≠gb146));have NB146_0:=am_ ((by rw[hg];exact Nat.ne_of_gt (IsS76.lt (show IsS76 w0 _ g s0_0 t144 t145 from(a7_ HI0.out NB0_140.out))):gb146≠g));replace HI0:=am_ (IsS76.below ((a7_ HI0.out NB0_140.out)) hb);clear hb hbox hg;have hnb25:=NB146_140.out;have hnc25:=NB140_146.out;have hnb26:=NB146_0.out;have hnc26:=NB0_146.out;have hcz27_0:w24.cell? ⟨gb146,0,none⟩=some (.int .i64 0):=(blk_cell BK146.out 0).trans rfl;have hcz27_1:w24.cell? ⟨gb146,1,none⟩=some (.int .i64 0):=(blk_cell BK146.out 1).trans rfl;have hcz27_2:w24.cell? ⟨gb146,2,none⟩=some (.int .i64 0):=(blk_cell BK146.out 2).trans rfl;have hfz27_0:=blk_frozen BK146.out 0;have hfz27_1:=blk_frozen BK146.out 1;have hfz27_2:=blk_frozen BK146.out 2)|((with_reducible refine gate_callee (f:=55) rfl ?_);refine goesL_ (some 7) rfl rfl Try.func55 (by kernel_rfl) rfl #[.pointer (some ⟨g,0,none⟩), .int .i64 24] rfl gd_ ?_;(with_reducible refine(spec_l1Cur_pick.calls g s0_0 t144 t145 24 t147 t148 t149 w0 _ ?side1 ?side2 A3.out).mono ?_);(case side1=>exact(a10_ HI0.out NB0_140.out NB0_146.out));(case side2=>exact(a22_ HI0.out GE140.out GE146.out));rintro e w28 ⟨rfl,hi,hb,hk⟩;refine⟨_,rfl,?_⟩;replace BK140:=am_ (KeepBut.blk hk (g':=gb140) (o:= .cells #[.int .i64 0, .int .i64 0, .int .i64 0] 42 (0,0)) ((a15_ NB140_146.out BK140.out)) NB140_0.out (by simp));replace BK146:=am_ (KeepBut.blk hk (g':=gb146) (o:= .cells #[.int .i64 t141, .int .i64 t142, .int .i64 t143] 42 (0,0)) ((a19_ BK146.out)) NB146_0.out (by simp));replace HK:=am_ (KeepBut.trans ((a20_ GW140.out GW146.out)) hk (.inl rfl));replace HB:=am_ (hb);replace HI0:=am_ (hi);(try clear hb);(try clear hb2);(try clear hk);(try clear hi);have hcz29_0:w28.cell? ⟨gb146,0,none⟩=some (.int .i64 t141):=(blk_cell BK146.out 0).trans rfl;have hcz29_1:w28.cell? ⟨gb146,1,none⟩=some (.int .i64 t142):=(blk_cell BK146.out 1).trans rfl;have hcz29_2:w28.cell? ⟨gb146,2,none⟩=some (.int .i64 t143):=(blk_cell BK146.out 2).trans rfl;have hfz29_0:=blk_frozen BK146.out 0;have hfz29_1:=blk_frozen BK146.out 1;have hfz29_2:=blk_frozen BK146.out 2)|((with_reducible refine gate_dst (N:=19) rfl ?_);refine Kd.R_lit (Kd.int .i64) _ 3 ?hg (N:=19) ?hd (xs:=([(-1),t143]:List Int)) (inner:=[.int .i64 (-1), .int .i64 t143]) (ok:=fun _=>True) (okp:=fun _=>True) ?hr ?hp (fun _ hk=>hk) trivial (Below.refl _ _) (Nat.le_refl _) (by simp) ?_;(case hd=>rfl);(case hg=>rfl);(case hr=>exact hr_);(case hp=>exact(Reps.one (show Kd.M (Kd.int .i64) _ _ _ (-1) [.int .i64 (-1)] from rfl) (Reps.one (show Kd.M (Kd.int .i64) _ _ _ t143 [.int .i64 t143] from rfl) (Reps.none _ _))));intro v157 w30 ho31 hb hg_ hnew_;clear hg_ hnew_;(first|rw[← Ny156.out]at ho31|(simp only[Int.reduceToNat]at ho31;rw[← Ny156.out]at ho31));have HO158:=am_ (Kd.R_lower ho31 (keep_size (w:=w) (g:=g) (row:=none) ((a20_ GW140.out GW146.out))));replace BK140:=am_ (blk_below (g:=gb140) (o:= .cells #[.int .i64 0, .int .i64 0, .int .i64 0] 42 (0,0)) ((a5_ BK140.out)) hb);replace BK146:=am_ (blk_below (g:=gb146) (o:= .cells #[.int .i64 t141, .int .i64 t142, .int .i64 t143] 42 (0,0)) ((a5_ BK146.out)) hb);replace HK:=am_ (KeepBut.trans ((a20_ GW140.out GW146.out)) (KeepBut.of_below hb g none) (.inl rfl));replace HB:=am_ (below_step ((a22_ HI0.out GE140.out GE146.out)) hb);replace HI0:=am_ (IsS76.below ((a10_ HI0.out NB0_140.out NB0_146.out)) hb);clear hb ho31;obtain⟨Ao32,co32,eo32⟩:=Kd.R_slice HO158.out;subst eo32)|((with_reducible refine gate_callee (f:=57) rfl ?_);refine goesL_ (some 20) rfl rfl Try.func57 (by kernel_rfl) rfl #[.pointer (some ⟨g,0,none⟩), .slice Ao32 y156.length co32] rfl gd_ ?_;(with_reducible refine(spec_l1Cur_among.calls g s0_0 t148 t149 _ _ y156 t159 t160 t161 w0 _ ?side1 ?side2 ?side3 ?side4 ?side5 A21.out).mono ?_);(case side1=>exact(a10_ HI0.out NB0_140.out NB0_146.out));(case side2=>exact(a22_ HI0.out GE140.out GE146.out));(case side3=>exact(a11_ HO158.out));(case side4=>exact(Kd.R_reads' HO158.out).2.1);(case side5=>exact far_slice (IsS76.own_ne HI0.out HO158.out (by decide)));rintro e w33 ⟨rfl,hi,hb,hk⟩;refine⟨_,rfl,?_⟩;replace BK140:=am_ (KeepBut.blk hk (g':=gb140) (o:= .cells #[.int .i64 0, .int .i64 0, .int .i64 0] 42 (0,0)) ((a5_ BK140.out)) NB140_0.out (by simp));replace BK146:=am_ (KeepBut.blk hk (g':=gb146) (o:= .cells #[.int .i64 t141, .int .i64 t142, .int .i64 t143] 42 (0,0)) ((a5_ BK146.out)) NB146_0.out (by simp));replace HO158:=am_ (Kd.R_mono (Kd.R_keep (IsS76.apart (show IsS76 w0 _ g s0_0 t148 t149 from(a10_ HI0.out NB0_140.out NB0_146.out)) ((a1_ HO158.out)) (by decide)) hk (fun _ h=>h.2)) (fun _ h=>h.1));replace HK:=am_ (KeepBut.trans ((a20_ GW140.out GW146.out)) hk (.inl rfl));replace HB:=am_ (hb);replace HI0:=am_ (hi);(try clear hb);(try clear hb2);(try clear hk);(try clear hi);have hcz34_0:w33.cell? ⟨gb146,0,none⟩=some (.int .i64 t141):=(blk_cell BK146.out 0).trans rfl;have hcz34_1:w33.cell? ⟨gb146,1,none⟩=some (.int .i64 t142):=(blk_cell BK146.out 1).trans rfl;have hcz34_2:w33.cell? ⟨gb146,2,none⟩=some (.int .i64 t143):=(blk_cell BK146.out 2).trans rfl;have hfz34_0:=blk_frozen BK146.out 0;have hfz34_1:=blk_frozen BK146.out 1;have hfz34_2:=blk_frozen BK146.out 2;have hnb35:=NB140_0.out;have hnc35:=NB0_140.out;have hcz36_0:w33.cell? ⟨gb140,0,none⟩=some (.int .i64 0):=(blk_cell BK140.out 0).trans rfl;have hcz36_1:w33.cell? ⟨gb140,1,none⟩=some (.int .i64 0):=(blk_cell BK140.out 1).trans rfl;have hcz36_2:w33.cell? ⟨gb140,2,none⟩=some (.int .i64 0):=(blk_cell BK140.out 2).trans rfl;have hfz36_0:=blk_frozen BK140.out 0;have hfz36_1:=blk_frozen BK140.out 1;have hfz36_2:=blk_frozen BK140.out 2))
   refine bodyPost_ret (results_cell_row rfl _ _ gb140 42 #[.int .i64 t141, .int .i64 t159, .int .i64 t143] (0,0) _ rfl (by(with_reducible repeat (first|refine blk_drewN ?_ _ | refine blk_drew ?_ | refine blk_alloc ?_ _));refine blk_put (cs:= #[.int .i64 t141, .int .i64 t159, .int .i64 0]) ?_ 2 _ rfl;(with_reducible repeat (first|refine blk_drewN ?_ _ | refine blk_drew ?_ | refine blk_alloc ?_ _));refine blk_put (cs:= #[.int .i64 t141, .int .i64 0, .int .i64 0]) ?_ 1 _ rfl;(with_reducible repeat (first|refine blk_drewN ?_ _ | refine blk_drew ?_ | refine blk_alloc ?_ _));refine blk_put (cs:= #[.int .i64 0, .int .i64 0, .int .i64 0]) ?_ 0 _ rfl;(with_reducible repeat (first|refine blk_drewN ?_ _ | refine blk_drew ?_ | refine blk_alloc ?_ _));refine blk_far ?_ NB140_146.out _;(with_reducible repeat (first|refine blk_drewN ?_ _ | refine blk_drew ?_ | refine blk_alloc ?_ _));exact BK140.out) Try.underlying42 rfl (by kernel_rfl)) rfl ?_
   exact⟨a9_,(a10_ HI0.out NB0_140.out NB0_146.out),(a22_ HI0.out GE140.out GE146.out),(a20_ GW140.out GW146.out)⟩
  ·rw[if_neg c20]at H
   have c20b0:(t147 == 1)=false:=beq_eq_false_iff_ne.mpr c20
   have c20b1:(t147 != 1)=true:=bne_iff_ne.mpr c20
   by_cases c37:t147=2
   ·rw[if_pos c37]at H
    have c37b0:(t147 == 2)=true:=beq_iff_eq.mpr c37
    have c37b1:(t147 != 2)=false:=bne_eq_false_iff_eq.mpr c37
    clear c37
    obtain⟨y162,hy162⟩:∃y_:List Int,y_=(([t142,2000,2001]:List Int)):=⟨_,rfl⟩
    replace H:((spec_l1Cur_among.f s0_0 t148 t149 y162).bind fun bt165=>(some (t141,t142,bt165.1,bt165.2.1,bt165.2.2)))=some (r1,r2,r3,r4,r5):=by first|(rw[hy162];with_reducible exact H)|(have H2_:=(Option.bind_some _ _).symm.trans H;rw[hy162];with_reducible exact H2_)|(have H2_:=(Option.bind_some _ _).symm.trans H;with_reducible exact H2_) | with_reducible exact H|(rw[hy162];exact H)|exact H
    have Ny162:=am_ hy162
    clear hy162
    obtain⟨⟨t165,t166,t167⟩,A38,H⟩:=bo_ H
    try dsimp only at H
    simp only[Option.some.injEq,Prod.mk.injEq]at H
    obtain⟨rfl,rfl,rfl,rfl,rfl⟩:=H
    go_enter Try.func71,Try.ntmps71
    go_wp2_with (first|((with_reducible refine gate_dst (N:=2) rfl ?_);refine box_event ?hg (N:=2) ?hd (cs:= #[.int .i64 0, .int .i64 0, .int .i64 0]) (t:=42) ?hr ?_;(case hd=>rfl);(case hg=>rfl);(case hr=>exact hr_);intro gb140 hg w39 hbox hb;replace HB:=am_ (below_step ((a4_ HI0.out)) hb);have BK140:=am_ (hbox);have GW140:=am_ ((by rw[hg];exact(keep_size (w:=w) (g:=g) (row:=none) (a6_)):w.heap.size≤gb140));have GE140:=am_ ((Nat.le_trans HW0.out (by rw[hg];exact(keep_size (w:=w) (g:=g) (row:=none) (a6_)):w.heap.size≤gb140):w0.heap.size≤gb140));replace HK:=am_ (KeepBut.trans (a6_) (KeepBut.of_below hb g none) (.inl rfl));have NB0_140:=am_ ((by rw[hg];exact Nat.ne_of_lt (IsS76.lt (show IsS76 w0 _ g s0_0 s0_1 s0_2 from(a3_ HI0.out))):g≠gb140));have NB140_0:=am_ ((by rw[hg];exact Nat.ne_of_gt (IsS76.lt (show IsS76 w0 _ g s0_0 s0_1 s0_2 from(a3_ HI0.out))):gb140≠g));replace HI0:=am_ (IsS76.below ((a3_ HI0.out)) hb);clear hb hbox hg)|((with_reducible refine gate_callee (f:=101) rfl ?_);refine goesL_ (some 5) rfl rfl Try.func101 (by kernel_rfl) rfl #[.pointer (some ⟨g,0,none⟩)] rfl gd_ ?_;(with_reducible refine(spec_l1Cur_hole.calls g s0_0 s0_1 s0_2 t141 t142 t143 t144 t145 w0 _ ?side1 ?side2 A2.out).mono ?_);(case side1=>exact(a7_ HI0.out NB0_140.out));(case side2=>exact(a16_ HI0.out GE140.out));rintro e w40 ⟨rfl,hi,hb,hk⟩;refine⟨_,rfl,?_⟩;replace BK140:=am_ (KeepBut.blk hk (g':=gb140) (o:= .cells #[.int .i64 0, .int .i64 0, .int .i64 0] 42 (0,0)) ((a5_ BK140.out)) NB140_0.out (by simp));replace HK:=am_ (KeepBut.trans ((a14_ GW140.out)) hk (.inl rfl));replace HB:=am_ (hb);replace HI0:=am_ (hi);(try clear hb);(try clear hb2);(try clear hk);(try clear hi))|((with_reducible refine gate_dst (N:=3) rfl ?_);refine box_event ?hg (N:=3) ?hd (cs:= #[.int .i64 0, .int .i64 0, .int .i64 0]) (t:=42) ?hr ?_;(case hd=>rfl);(case hg=>rfl);(case hr=>exact hr_);intro gb146 hg w41 hbox hb;replace HB:=am_ (below_step ((a16_ HI0.out GE140.out)) hb);have BK146:=am_ (hbox);have GW146:=am_ ((by rw[hg];exact(keep_size (w:=w) (g:=g) (row:=none) ((a14_ GW140.out))):w.heap.size≤gb146));have GE146:=am_ ((Nat.le_trans HW0.out (by rw[hg];exact(keep_size (w:=w) (g:=g) (row:=none) ((a14_ GW140.out))):w.heap.size≤gb146):w0.heap.size≤gb146));replace HK:=am_ (KeepBut.trans ((a14_ GW140.out)) (KeepBut.of_below hb g none) (.inl rfl));have NB140_146:=am_ ((by rw[hg];exact Nat.ne_of_lt (blk_lt (g:=gb140) (o:= .cells #[.int .i64 0, .int .i64 0, .int .i64 0] 42 (0,0)) ((a5_ BK140.out))):gb140≠gb146));have NB146_140:=am_ ((by rw[hg];exact Nat.ne_of_gt (blk_lt (g:=gb140) (o:= .cells #[.int .i64 0, .int .i64 0, .int .i64 0] 42 (0,0)) ((a5_ BK140.out))):gb146≠gb140));replace BK140:=am_ (blk_below (g:=gb140) (o:= .cells #[.int .i64 0, .int .i64 0, .int .i64 0] 42 (0,0)) ((a5_ BK140.out)) hb);have NB0_146:=am_ ((by rw[hg];exact Nat.ne_of_lt (IsS76.lt (show IsS76 w0 _ g s0_0 t144 t145 from(a7_ HI0.out NB0_140.out))):g≠gb146));have NB146_0:=am_ ((by rw[hg];exact Nat.ne_of_gt (IsS76.lt (show IsS76 w0 _ g s0_0 t144 t145 from(a7_ HI0.out NB0_140.out))):gb146≠g));replace HI0:=am_ (IsS76.below ((a7_ HI0.out NB0_140.out)) hb);clear hb hbox hg;have hnb42:=NB146_140.out;have hnc42:=NB140_146.out;have hnb43:=NB146_0.out;have hnc43:=NB0_146.out;have hcz44_0:w41.cell? ⟨gb146,0,none⟩=some (.int .i64 0):=(blk_cell BK146.out 0).trans rfl;have hcz44_1:w41.cell? ⟨gb146,1,none⟩=some (.int .i64 0):=(blk_cell BK146.out 1).trans rfl;have hcz44_2:w41.cell? ⟨gb146,2,none⟩=some (.int .i64 0):=(blk_cell BK146.out 2).trans rfl;have hfz44_0:=blk_frozen BK146.out 0;have hfz44_1:=blk_frozen BK146.out 1;have hfz44_2:=blk_frozen BK146.out 2)|((with_reducible refine gate_callee (f:=55) rfl ?_);refine goesL_ (some 7) rfl rfl Try.func55 (by kernel_rfl) rfl #[.pointer (some ⟨g,0,none⟩), .int .i64 24] rfl gd_ ?_;(with_reducible refine(spec_l1Cur_pick.calls g s0_0 t144 t145 24 t147 t148 t149 w0 _ ?side1 ?side2 A3.out).mono ?_);(case side1=>exact(a10_ HI0.out NB0_140.out NB0_146.out));(case side2=>exact(a22_ HI0.out GE140.out GE146.out));rintro e w45 ⟨rfl,hi,hb,hk⟩;refine⟨_,rfl,?_⟩;replace BK140:=am_ (KeepBut.blk hk (g':=gb140) (o:= .cells #[.int .i64 0, .int .i64 0, .int .i64 0] 42 (0,0)) ((a15_ NB140_146.out BK140.out)) NB140_0.out (by simp));replace BK146:=am_ (KeepBut.blk hk (g':=gb146) (o:= .cells #[.int .i64 t141, .int .i64 t142, .int .i64 t143] 42 (0,0)) ((a19_ BK146.out)) NB146_0.out (by simp));replace HK:=am_ (KeepBut.trans ((a20_ GW140.out GW146.out)) hk (.inl rfl));replace HB:=am_ (hb);replace HI0:=am_ (hi);(try clear hb);(try clear hb2);(try clear hk);(try clear hi);have hcz46_0:w45.cell? ⟨gb146,0,none⟩=some (.int .i64 t141):=(blk_cell BK146.out 0).trans rfl;have hcz46_1:w45.cell? ⟨gb146,1,none⟩=some (.int .i64 t142):=(blk_cell BK146.out 1).trans rfl;have hcz46_2:w45.cell? ⟨gb146,2,none⟩=some (.int .i64 t143):=(blk_cell BK146.out 2).trans rfl;have hfz46_0:=blk_frozen BK146.out 0;have hfz46_1:=blk_frozen BK146.out 1;have hfz46_2:=blk_frozen BK146.out 2)|((with_reducible refine gate_dst (N:=27) rfl ?_);refine Kd.R_lit (Kd.int .i64) _ 3 ?hg (N:=27) ?hd (xs:=([t142,2000,2001]:List Int)) (inner:=[.int .i64 t142, .int .i64 2000, .int .i64 2001]) (ok:=fun _=>True) (okp:=fun _=>True) ?hr ?hp (fun _ hk=>hk) trivial (Below.refl _ _) (Nat.le_refl _) (by simp) ?_;(case hd=>rfl);(case hg=>rfl);(case hr=>exact hr_);(case hp=>exact(Reps.one (show Kd.M (Kd.int .i64) _ _ _ t142 [.int .i64 t142] from rfl) (Reps.one (show Kd.M (Kd.int .i64) _ _ _ 2000 [.int .i64 2000] from rfl) (Reps.one (show Kd.M (Kd.int .i64) _ _ _ 2001 [.int .i64 2001] from rfl) (Reps.none _ _)))));intro v163 w47 ho48 hb hg_ hnew_;clear hg_ hnew_;(first|rw[← Ny162.out]at ho48|(simp only[Int.reduceToNat]at ho48;rw[← Ny162.out]at ho48));have HO164:=am_ (Kd.R_lower ho48 (keep_size (w:=w) (g:=g) (row:=none) ((a20_ GW140.out GW146.out))));replace BK140:=am_ (blk_below (g:=gb140) (o:= .cells #[.int .i64 0, .int .i64 0, .int .i64 0] 42 (0,0)) ((a5_ BK140.out)) hb);replace BK146:=am_ (blk_below (g:=gb146) (o:= .cells #[.int .i64 t141, .int .i64 t142, .int .i64 t143] 42 (0,0)) ((a5_ BK146.out)) hb);replace HK:=am_ (KeepBut.trans ((a20_ GW140.out GW146.out)) (KeepBut.of_below hb g none) (.inl rfl));replace HB:=am_ (below_step ((a22_ HI0.out GE140.out GE146.out)) hb);replace HI0:=am_ (IsS76.below ((a10_ HI0.out NB0_140.out NB0_146.out)) hb);clear hb ho48;obtain⟨Ao49,co49,eo49⟩:=Kd.R_slice HO164.out;subst eo49)|((with_reducible refine gate_callee (f:=57) rfl ?_);refine goesL_ (some 28) rfl rfl Try.func57 (by kernel_rfl) rfl #[.pointer (some ⟨g,0,none⟩), .slice Ao49 y162.length co49] rfl gd_ ?_;(with_reducible refine(spec_l1Cur_among.calls g s0_0 t148 t149 _ _ y162 t165 t166 t167 w0 _ ?side1 ?side2 ?side3 ?side4 ?side5 A38.out).mono ?_);(case side1=>exact(a10_ HI0.out NB0_140.out NB0_146.out));(case side2=>exact(a22_ HI0.out GE140.out GE146.out));(case side3=>exact(a11_ HO164.out));(case side4=>exact(Kd.R_reads' HO164.out).2.1);(case side5=>exact far_slice (IsS76.own_ne HI0.out HO164.out (by decide)));rintro e w50 ⟨rfl,hi,hb,hk⟩;refine⟨_,rfl,?_⟩;replace BK140:=am_ (KeepBut.blk hk (g':=gb140) (o:= .cells #[.int .i64 0, .int .i64 0, .int .i64 0] 42 (0,0)) ((a5_ BK140.out)) NB140_0.out (by simp));replace BK146:=am_ (KeepBut.blk hk (g':=gb146) (o:= .cells #[.int .i64 t141, .int .i64 t142, .int .i64 t143] 42 (0,0)) ((a5_ BK146.out)) NB146_0.out (by simp));replace HO164:=am_ (Kd.R_mono (Kd.R_keep (IsS76.apart (show IsS76 w0 _ g s0_0 t148 t149 from(a10_ HI0.out NB0_140.out NB0_146.out)) ((a1_ HO164.out)) (by decide)) hk (fun _ h=>h.2)) (fun _ h=>h.1));replace HK:=am_ (KeepBut.trans ((a20_ GW140.out GW146.out)) hk (.inl rfl));replace HB:=am_ (hb);replace HI0:=am_ (hi);(try clear hb);(try clear hb2);(try clear hk);(try clear hi);have hcz51_0:w50.cell? ⟨gb146,0,none⟩=some (.int .i64 t141):=(blk_cell BK146.out 0).trans rfl;have hcz51_1:w50.cell? ⟨gb146,1,none⟩=some (.int .i64 t142):=(blk_cell BK146.out 1).trans rfl;have hcz51_2:w50.cell? ⟨gb146,2,none⟩=some (.int .i64 t143):=(blk_cell BK146.out 2).trans rfl;have hfz51_0:=blk_frozen BK146.out 0;have hfz51_1:=blk_frozen BK146.out 1;have hfz51_2:=blk_frozen BK146.out 2;have hnb52:=NB140_0.out;have hnc52:=NB0_140.out;have hcz53_0:w50.cell? ⟨gb140,0,none⟩=some (.int .i64 0):=(blk_cell BK140.out 0).trans rfl;have hcz53_1:w50.cell? ⟨gb140,1,none⟩=some (.int .i64 0):=(blk_cell BK140.out 1).trans rfl;have hcz53_2:w50.cell? ⟨gb140,2,none⟩=some (.int .i64 0):=(blk_cell BK140.out 2).trans rfl;have hfz53_0:=blk_frozen BK140.out 0;have hfz53_1:=blk_frozen BK140.out 1;have hfz53_2:=blk_frozen BK140.out 2))
    refine bodyPost_ret (results_cell_row rfl _ _ gb140 42 #[.int .i64 t141, .int .i64 t142, .int .i64 t165] (0,0) _ rfl (by(with_reducible repeat (first|refine blk_drewN ?_ _ | refine blk_drew ?_ | refine blk_alloc ?_ _));refine blk_put (cs:= #[.int .i64 t141, .int .i64 t142, .int .i64 0]) ?_ 2 _ rfl;(with_reducible repeat (first|refine blk_drewN ?_ _ | refine blk_drew ?_ | refine blk_alloc ?_ _));refine blk_put (cs:= #[.int .i64 t141, .int .i64 0, .int .i64 0]) ?_ 1 _ rfl;(with_reducible repeat (first|refine blk_drewN ?_ _ | refine blk_drew ?_ | refine blk_alloc ?_ _));refine blk_put (cs:= #[.int .i64 0, .int .i64 0, .int .i64 0]) ?_ 0 _ rfl;(with_reducible repeat (first|refine blk_drewN ?_ _ | refine blk_drew ?_ | refine blk_alloc ?_ _));refine blk_far ?_ NB140_146.out _;(with_reducible repeat (first|refine blk_drewN ?_ _ | refine blk_drew ?_ | refine blk_alloc ?_ _));exact BK140.out) Try.underlying42 rfl (by kernel_rfl)) rfl ?_
    exact⟨a9_,(a10_ HI0.out NB0_140.out NB0_146.out),(a22_ HI0.out GE140.out GE146.out),(a20_ GW140.out GW146.out)⟩
   ·rw[if_neg c37]at H
    have c37b0:(t147 == 2)=false:=beq_eq_false_iff_ne.mpr c37
    have c37b1:(t147 != 2)=true:=bne_iff_ne.mpr c37
    simp only[Option.some.injEq,Prod.mk.injEq]at H
    obtain⟨rfl,rfl,rfl,rfl,rfl⟩:=H
    go_enter Try.func71,Try.ntmps71
    go_wp2_with (first|((with_reducible refine gate_dst (N:=2) rfl ?_);refine box_event ?hg (N:=2) ?hd (cs:= #[.int .i64 0, .int .i64 0, .int .i64 0]) (t:=42) ?hr ?_;(case hd=>rfl);(case hg=>rfl);(case hr=>exact hr_);intro gb140 hg w54 hbox hb;replace HB:=am_ (below_step ((a4_ HI0.out)) hb);have BK140:=am_ (hbox);have GW140:=am_ ((by rw[hg];exact(keep_size (w:=w) (g:=g) (row:=none) (a6_)):w.heap.size≤gb140));have GE140:=am_ ((Nat.le_trans HW0.out (by rw[hg];exact(keep_size (w:=w) (g:=g) (row:=none) (a6_)):w.heap.size≤gb140):w0.heap.size≤gb140));replace HK:=am_ (KeepBut.trans (a6_) (KeepBut.of_below hb g none) (.inl rfl));have NB0_140:=am_ ((by rw[hg];exact Nat.ne_of_lt (IsS76.lt (show IsS76 w0 _ g s0_0 s0_1 s0_2 from(a3_ HI0.out))):g≠gb140));have NB140_0:=am_ ((by rw[hg];exact Nat.ne_of_gt (IsS76.lt (show IsS76 w0 _ g s0_0 s0_1 s0_2 from(a3_ HI0.out))):gb140≠g));replace HI0:=am_ (IsS76.below ((a3_ HI0.out)) hb);clear hb hbox hg)|((with_reducible refine gate_callee (f:=101) rfl ?_);refine goesL_ (some 5) rfl rfl Try.func101 (by kernel_rfl) rfl #[.pointer (some ⟨g,0,none⟩)] rfl gd_ ?_;(with_reducible refine(spec_l1Cur_hole.calls g s0_0 s0_1 s0_2 t141 t142 t143 t144 t145 w0 _ ?side1 ?side2 A2.out).mono ?_);(case side1=>exact(a7_ HI0.out NB0_140.out));(case side2=>exact(a16_ HI0.out GE140.out));rintro e w55 ⟨rfl,hi,hb,hk⟩;refine⟨_,rfl,?_⟩;replace BK140:=am_ (KeepBut.blk hk (g':=gb140) (o:= .cells #[.int .i64 0, .int .i64 0, .int .i64 0] 42 (0,0)) ((a5_ BK140.out)) NB140_0.out (by simp));replace HK:=am_ (KeepBut.trans ((a14_ GW140.out)) hk (.inl rfl));replace HB:=am_ (hb);replace HI0:=am_ (hi);(try clear hb);(try clear hb2);(try clear hk);(try clear hi))|((with_reducible refine gate_dst (N:=3) rfl ?_);refine box_event ?hg (N:=3) ?hd (cs:= #[.int .i64 0, .int .i64 0, .int .i64 0]) (t:=42) ?hr ?_;(case hd=>rfl);(case hg=>rfl);(case hr=>exact hr_);intro gb146 hg w56 hbox hb;replace HB:=am_ (below_step ((a16_ HI0.out GE140.out)) hb);have BK146:=am_ (hbox);have GW146:=am_ ((by rw[hg];exact(keep_size (w:=w) (g:=g) (row:=none) ((a14_ GW140.out))):w.heap.size≤gb146));have GE146:=am_ ((Nat.le_trans HW0.out (by rw[hg];exact(keep_size (w:=w) (g:=g) (row:=none) ((a14_ GW140.out))):w.heap.size≤gb146):w0.heap.size≤gb146));replace HK:=am_ (KeepBut.trans ((a14_ GW140.out)) (KeepBut.of_below hb g none) (.inl rfl));have NB140_146:=am_ ((by rw[hg];exact Nat.ne_of_lt (blk_lt (g:=gb140) (o:= .cells #[.int .i64 0, .int .i64 0, .int .i64 0] 42 (0,0)) ((a5_ BK140.out))):gb140≠gb146));have NB146_140:=am_ ((by rw[hg];exact Nat.ne_of_gt (blk_lt (g:=gb140) (o:= .cells #[.int .i64 0, .int .i64 0, .int .i64 0] 42 (0,0)) ((a5_ BK140.out))):gb146≠gb140));replace BK140:=am_ (blk_below (g:=gb140) (o:= .cells #[.int .i64 0, .int .i64 0, .int .i64 0] 42 (0,0)) ((a5_ BK140.out)) hb);have NB0_146:=am_ ((by rw[hg];exact Nat.ne_of_lt (IsS76.lt (show IsS76 w0 _ g s0_0 t144 t145 from(a7_ HI0.out NB0_140.out))):g≠gb146));have NB146_0:=am_ ((by rw[hg];exact Nat.ne_of_gt (IsS76.lt (show IsS76 w0 _ g s0_0 t144 t145 from(a7_ HI0.out NB0_140.out))):gb146≠g));replace HI0:=am_ (IsS76.below ((a7_ HI0.out NB0_140.out)) hb);clear hb hbox hg;have hnb57:=NB146_140.out;have hnc57:=NB140_146.out;have hnb58:=NB146_0.out;have hnc58:=NB0_146.out;have hcz59_0:w56.cell? ⟨gb146,0,none⟩=some (.int .i64 0):=(blk_cell BK146.out 0).trans rfl;have hcz59_1:w56.cell? ⟨gb146,1,none⟩=some (.int .i64 0):=(blk_cell BK146.out 1).trans rfl;have hcz59_2:w56.cell? ⟨gb146,2,none⟩=some (.int .i64 0):=(blk_cell BK146.out 2).trans rfl;have hfz59_0:=blk_frozen BK146.out 0;have hfz59_1:=blk_frozen BK146.out 1;have hfz59_2:=blk_frozen BK146.out 2)|((with_reducible refine gate_callee (f:=55) rfl ?_);refine goesL_ (some 7) rfl rfl Try.func55 (by kernel_rfl) rfl #[.pointer (some ⟨g,0,none⟩), .int .i64 24] rfl gd_ ?_;(with_reducible refine(spec_l1Cur_pick.calls g s0_0 t144 t145 24 t147 t148 t149 w0 _ ?side1 ?side2 A3.out).mono ?_);(case side1=>exact(a10_ HI0.out NB0_140.out NB0_146.out));(case side2=>exact(a22_ HI0.out GE140.out GE146.out));rintro e w60 ⟨rfl,hi,hb,hk⟩;refine⟨_,rfl,?_⟩;replace BK140:=am_ (KeepBut.blk hk (g':=gb140) (o:= .cells #[.int .i64 0, .int .i64 0, .int .i64 0] 42 (0,0)) ((a15_ NB140_146.out BK140.out)) NB140_0.out (by simp));replace BK146:=am_ (KeepBut.blk hk (g':=gb146) (o:= .cells #[.int .i64 t141, .int .i64 t142, .int .i64 t143] 42 (0,0)) ((a19_ BK146.out)) NB146_0.out (by simp));replace HK:=am_ (KeepBut.trans ((a20_ GW140.out GW146.out)) hk (.inl rfl));replace HB:=am_ (hb);replace HI0:=am_ (hi);(try clear hb);(try clear hb2);(try clear hk);(try clear hi);have hcz61_0:w60.cell? ⟨gb146,0,none⟩=some (.int .i64 t141):=(blk_cell BK146.out 0).trans rfl;have hcz61_1:w60.cell? ⟨gb146,1,none⟩=some (.int .i64 t142):=(blk_cell BK146.out 1).trans rfl;have hcz61_2:w60.cell? ⟨gb146,2,none⟩=some (.int .i64 t143):=(blk_cell BK146.out 2).trans rfl;have hfz61_0:=blk_frozen BK146.out 0;have hfz61_1:=blk_frozen BK146.out 1;have hfz61_2:=blk_frozen BK146.out 2;have hnb62:=NB140_0.out;have hnc62:=NB0_140.out;have hcz63_0:w60.cell? ⟨gb140,0,none⟩=some (.int .i64 0):=(blk_cell BK140.out 0).trans rfl;have hcz63_1:w60.cell? ⟨gb140,1,none⟩=some (.int .i64 0):=(blk_cell BK140.out 1).trans rfl;have hcz63_2:w60.cell? ⟨gb140,2,none⟩=some (.int .i64 0):=(blk_cell BK140.out 2).trans rfl;have hfz63_0:=blk_frozen BK140.out 0;have hfz63_1:=blk_frozen BK140.out 1;have hfz63_2:=blk_frozen BK140.out 2))
    refine bodyPost_ret (results_cell_row rfl _ _ gb140 42 #[.int .i64 t141, .int .i64 t142, .int .i64 t143] (0,0) _ rfl ((a19_ BK140.out)) Try.underlying42 rfl (by kernel_rfl)) rfl ?_
    exact⟨a9_,(a10_ HI0.out NB0_140.out NB0_146.out),(a22_ HI0.out GE140.out GE146.out),(a20_ GW140.out GW146.out)⟩

/-! ### spec_l1Cur_one: function 56 -/
def spec_l1Cur_one.f (s0_0:List Int) (s0_1:Int) (s0_2:Int) (a1:Int):Option (Bool×Int×Int):=(spec_l1Cur_pick.f s0_0 s0_1 s0_2 a1).bind fun bt168=>(some ((bt168.1 == 0),bt168.2.1,bt168.2.2))
set_option maxHeartbeats 8000000 in
set_option maxRecDepth 100000 in
theorem spec_l1Cur_one.calls (g:Nat) (s0_0:List Int) (s0_1:Int) (s0_2:Int) (a1:Int) (r1:Bool) (r2:Int) (r3:Int) (w0 w:World) (hI:IsS76 w0 w g s0_0 s0_1 s0_2) (hB:Below w0.heap.size w0 w) (h:spec_l1Cur_one.f s0_0 s0_1 s0_2 a1=some (r1,r2,r3)) :
 Calls Try.prog 56 #[.pointer (some ⟨g,0,none⟩), .int .i64 a1] w fun e w'=>e = .returned (.bool r1)∧IsS76 w0 w' g s0_0 r2 r3∧Below w0.heap.size w0 w'∧KeepBut w w' g none:=by
 have HI0:=am_ hI
 have HK:=am_ (KeepBut.refl w g none)
 have HL:=am_ hB.size
 clear hI
 have HW0:=am_ hB.size
 have HB:=am_ hB
 clear hB
 have H:((spec_l1Cur_pick.f s0_0 s0_1 s0_2 a1).bind fun bt168=>(some ((bt168.1 == 0),bt168.2.1,bt168.2.2)))=some (r1,r2,r3):=h
 clear h
 obtain⟨⟨t168,t169,t170⟩,A3,H⟩:=bo_ H
 try dsimp only at H
 simp only[Option.some.injEq,Prod.mk.injEq]at H
 obtain⟨rfl,rfl,rfl⟩:=H
 go_enter Try.func56,Try.ntmps56
 go_wp2_with (first|((with_reducible refine gate_callee (f:=55) rfl ?_);refine goesL_ (some 7) rfl rfl Try.func55 (by kernel_rfl) rfl #[.pointer (some ⟨g,0,none⟩), .int .i64 a1] rfl gd_ ?_;(with_reducible refine(spec_l1Cur_pick.calls g s0_0 s0_1 s0_2 a1 t168 t169 t170 w0 _ ?side1 ?side2 A3.out).mono ?_);(case side1=>exact(a3_ HI0.out));(case side2=>exact(a4_ HI0.out));rintro e w4 ⟨rfl,hi,hb,hk⟩;refine⟨_,rfl,?_⟩;replace HK:=am_ (KeepBut.trans (a6_) hk (.inl rfl));replace HB:=am_ (hb);replace HI0:=am_ (hi);(try clear hb);(try clear hb2);(try clear hk);(try clear hi)))
 go_ret
 exact⟨a9_,(a3_ HI0.out),(a4_ HI0.out),a6_⟩

/-! ### spec_l1In: function 61 -/
def spec_l1In.f (a0:Int) (a1:Int) (a2:Int):Option (Bool):=if a0≥a1 then(some (decide (a0≤a2))) else(some false)
set_option maxHeartbeats 8000000 in
set_option maxRecDepth 100000 in
theorem spec_l1In.calls (a0:Int) (a1:Int) (a2:Int) (r:Bool) (w:World) (h:spec_l1In.f a0 a1 a2=some r) :
 Calls Try.prog 61 #[.int .i64 a0, .int .i64 a1, .int .i64 a2] w fun e w'=>e = .returned (.bool r)∧Drawn0 w w':=by
 have H:(if a0≥a1 then(some (decide (a0≤a2))) else(some false))=some r:=h
 clear h
 by_cases c4:a0≥a1
 ·rw[if_pos c4]at H
  have c4b0:decide (a1≤a0)=true:=decide_eq_true c4
  clear c4
  obtain rfl:=Option.some.inj H
  go_enter Try.func61,Try.ntmps61
  go_wp2
  go_ret
  exact⟨by first | rfl|(simp;done)|(simp[*];done),a29_⟩
 ·rw[if_neg c4]at H
  have c4b0:decide (a1≤a0)=false:=decide_eq_false c4
  clear c4
  obtain rfl:=Option.some.inj H
  go_enter Try.func61,Try.ntmps61
  go_wp2
  go_ret
  exact⟨by first | rfl|(simp;done)|(simp[*];done),a29_⟩

/-! ### spec_shHole: function 73 -/
def spec_shHole.f (a0_0:Int) (a0_1:Int) (a0_2:Int):Option (Bool):=(spec_l1In.f a0_0 0 19).bind fun t172=>(if t172=true then((spec_l1In.f a0_1 0 1999).bind fun t173=>(if t173=true then((spec_l1In.f a0_2 (wrap64 (a0_1+1)) 2000).bind fun t174=>(some t174)) else(some false))) else(some false))
set_option maxHeartbeats 8000000 in
set_option maxRecDepth 100000 in
theorem spec_shHole.calls (a0_0:Int) (a0_1:Int) (a0_2:Int) (r:Bool) (w:World) (h:spec_shHole.f a0_0 a0_1 a0_2=some r) :
 Calls Try.prog 73 #[.agg #[.int .i64 a0_0, .int .i64 a0_1, .int .i64 a0_2]] w fun e w'=>e = .returned (.bool r)∧Below w.heap.size w w':=by
 have hu42:=Try.underlying42
 have HB:=am_ (Below.refl w.heap.size w)
 have H:((spec_l1In.f a0_0 0 19).bind fun t172=>(if t172=true then((spec_l1In.f a0_1 0 1999).bind fun t173=>(if t173=true then((spec_l1In.f a0_2 (wrap64 (a0_1+1)) 2000).bind fun t174=>(some t174)) else(some false))) else(some false)))=some r:=h
 clear h
 obtain⟨t172,A2,H⟩:=bo_ H
 try dsimp only at H
 by_cases c3:t172=true
 ·subst c3
  replace H:((spec_l1In.f a0_1 0 1999).bind fun t173=>(if t173=true then((spec_l1In.f a0_2 (wrap64 (a0_1+1)) 2000).bind fun t174=>(some t174)) else(some false)))=some r:=by rw[if_pos rfl]at H;exact H
  obtain⟨t173,A4,H⟩:=bo_ H
  try dsimp only at H
  by_cases c5:t173=true
  ·subst c5
   replace H:((spec_l1In.f a0_2 (wrap64 (a0_1+1)) 2000).bind fun t174=>(some t174))=some r:=by rw[if_pos rfl]at H;exact H
   obtain⟨t174,A6,H⟩:=bo_ H
   try dsimp only at H
   obtain rfl:=Option.some.inj H
   go_enter Try.func73,Try.ntmps73
   go_wp2_with (first|((with_reducible refine gate_dst (N:=1) rfl ?_);refine box_event ?hg (N:=1) ?hd (cs:= #[.int .i64 a0_0, .int .i64 a0_1, .int .i64 a0_2]) (t:=42) ?hr ?_;(case hd=>rfl);(case hg=>rfl);(case hr=>exact hr_);intro gb171 hg w7 hbox hb;have BK171:=am_ (hbox);have GW171:=am_ ((by rw[hg];exact(below_size (a0_)):w.heap.size≤gb171));have GE171:=am_ ((by rw[hg];exact(below_size (a0_)):w.heap.size≤gb171));replace HB:=am_ (below_step (a0_) hb);clear hb hbox hg;have hcz8_0:w7.cell? ⟨gb171,0,none⟩=some (.int .i64 a0_0):=(blk_cell BK171.out 0).trans rfl;have hcz8_1:w7.cell? ⟨gb171,1,none⟩=some (.int .i64 a0_1):=(blk_cell BK171.out 1).trans rfl;have hcz8_2:w7.cell? ⟨gb171,2,none⟩=some (.int .i64 a0_2):=(blk_cell BK171.out 2).trans rfl;have hfz8_0:=blk_frozen BK171.out 0;have hfz8_1:=blk_frozen BK171.out 1;have hfz8_2:=blk_frozen BK171.out 2)|((with_reducible refine gate_callee (f:=61) rfl ?_);refine goesL_ (some 5) rfl rfl Try.func61 (by kernel_rfl) rfl #[.int .i64 a0_0, .int .i64 0, .int .i64 19] rfl gd_ ?_;(with_reducible refine(spec_l1In.calls a0_0 0 19 true _ A2.out).mono ?_);rintro e w' ⟨rfl,⟨nd,rfl⟩⟩;refine⟨_,rfl,?_⟩)|(go_at_call 61;(with_reducible refine(spec_l1In.calls a0_1 0 1999 true _ A4.out).mono ?_);rintro e w' ⟨rfl,⟨nd,rfl⟩⟩)|(go_at_call 61;(with_reducible refine(spec_l1In.calls a0_2 (wrap64 (a0_1+1)) 2000 t174 _ A6.out).mono ?_);rintro e w' ⟨rfl,⟨nd,rfl⟩⟩))
   go_ret
   exact⟨a9_,(a2_ GE171.out)⟩
  ·replace c5:=Bool.eq_false_iff.mpr c5
   subst c5
   replace H:(some false)=some r:=by rw[if_neg (show ¬(false=true) by decide)]at H;exact H
   obtain rfl:=Option.some.inj H
   go_enter Try.func73,Try.ntmps73
   go_wp2_with (first|((with_reducible refine gate_dst (N:=1) rfl ?_);refine box_event ?hg (N:=1) ?hd (cs:= #[.int .i64 a0_0, .int .i64 a0_1, .int .i64 a0_2]) (t:=42) ?hr ?_;(case hd=>rfl);(case hg=>rfl);(case hr=>exact hr_);intro gb171 hg w9 hbox hb;have BK171:=am_ (hbox);have GW171:=am_ ((by rw[hg];exact(below_size (a0_)):w.heap.size≤gb171));have GE171:=am_ ((by rw[hg];exact(below_size (a0_)):w.heap.size≤gb171));replace HB:=am_ (below_step (a0_) hb);clear hb hbox hg;have hcz10_0:w9.cell? ⟨gb171,0,none⟩=some (.int .i64 a0_0):=(blk_cell BK171.out 0).trans rfl;have hcz10_1:w9.cell? ⟨gb171,1,none⟩=some (.int .i64 a0_1):=(blk_cell BK171.out 1).trans rfl;have hcz10_2:w9.cell? ⟨gb171,2,none⟩=some (.int .i64 a0_2):=(blk_cell BK171.out 2).trans rfl;have hfz10_0:=blk_frozen BK171.out 0;have hfz10_1:=blk_frozen BK171.out 1;have hfz10_2:=blk_frozen BK171.out 2)|((with_reducible refine gate_callee (f:=61) rfl ?_);refine goesL_ (some 5) rfl rfl Try.func61 (by kernel_rfl) rfl #[.int .i64 a0_0, .int .i64 0, .int .i64 19] rfl gd_ ?_;(with_reducible refine(spec_l1In.calls a0_0 0 19 true _ A2.out).mono ?_);rintro e w' ⟨rfl,⟨nd,rfl⟩⟩;refine⟨_,rfl,?_⟩)|(go_at_call 61;(with_reducible refine(spec_l1In.calls a0_1 0 1999 false _ A4.out).mono ?_);rintro e w' ⟨rfl,⟨nd,rfl⟩⟩))
   go_ret
   exact⟨a9_,(a2_ GE171.out)⟩
 ·replace c3:=Bool.eq_false_iff.mpr c3
  subst c3
  replace H:(some false)=some r:=by rw[if_neg (show ¬(false=true) by decide)]at H;exact H
  obtain rfl:=Option.some.inj H
  go_enter Try.func73,Try.ntmps73
  go_wp2_with (first|((with_reducible refine gate_dst (N:=1) rfl ?_);refine box_event ?hg (N:=1) ?hd (cs:= #[.int .i64 a0_0, .int .i64 a0_1, .int .i64 a0_2]) (t:=42) ?hr ?_;(case hd=>rfl);(case hg=>rfl);(case hr=>exact hr_);intro gb171 hg w11 hbox hb;have BK171:=am_ (hbox);have GW171:=am_ ((by rw[hg];exact(below_size (a0_)):w.heap.size≤gb171));have GE171:=am_ ((by rw[hg];exact(below_size (a0_)):w.heap.size≤gb171));replace HB:=am_ (below_step (a0_) hb);clear hb hbox hg;have hcz12_0:w11.cell? ⟨gb171,0,none⟩=some (.int .i64 a0_0):=(blk_cell BK171.out 0).trans rfl;have hcz12_1:w11.cell? ⟨gb171,1,none⟩=some (.int .i64 a0_1):=(blk_cell BK171.out 1).trans rfl;have hcz12_2:w11.cell? ⟨gb171,2,none⟩=some (.int .i64 a0_2):=(blk_cell BK171.out 2).trans rfl;have hfz12_0:=blk_frozen BK171.out 0;have hfz12_1:=blk_frozen BK171.out 1;have hfz12_2:=blk_frozen BK171.out 2)|((with_reducible refine gate_callee (f:=61) rfl ?_);refine goesL_ (some 5) rfl rfl Try.func61 (by kernel_rfl) rfl #[.int .i64 a0_0, .int .i64 0, .int .i64 19] rfl gd_ ?_;(with_reducible refine(spec_l1In.calls a0_0 0 19 false _ A2.out).mono ?_);rintro e w' ⟨rfl,⟨nd,rfl⟩⟩;refine⟨_,rfl,?_⟩))
  go_ret
  exact⟨a9_,(a2_ GE171.out)⟩

/-! ### spec_shBefore: function 102 -/
def spec_shBefore.f (a0_0:Int) (a0_1:Int) (a0_2:Int) (a1_0:Int) (a1_1:Int) (a1_2:Int):Option (Bool):=if a0_1<a1_1 then(some true) else(if a0_1=a1_1 then(some (decide (a0_0<a1_0))) else(some false))
set_option maxHeartbeats 8000000 in
set_option maxRecDepth 100000 in
theorem spec_shBefore.calls (a0_0:Int) (a0_1:Int) (a0_2:Int) (a1_0:Int) (a1_1:Int) (a1_2:Int) (r:Bool) (w:World) (h:spec_shBefore.f a0_0 a0_1 a0_2 a1_0 a1_1 a1_2=some r) :
 Calls Try.prog 102 #[.agg #[.int .i64 a0_0, .int .i64 a0_1, .int .i64 a0_2], .agg #[.int .i64 a1_0, .int .i64 a1_1, .int .i64 a1_2]] w fun e w'=>e = .returned (.bool r)∧Below w.heap.size w w':=by
 have hu42:=Try.underlying42
 have HB:=am_ (Below.refl w.heap.size w)
 have H:(if a0_1<a1_1 then(some true) else(if a0_1=a1_1 then(some (decide (a0_0<a1_0))) else(some false)))=some r:=h
 clear h
 by_cases c3:a0_1<a1_1
 ·rw[if_pos c3]at H
  have c3b0:decide (a0_1<a1_1)=true:=decide_eq_true c3
  clear c3
  obtain rfl:=Option.some.inj H
  go_enter Try.func102,Try.ntmps102
  go_wp2_with (first|((with_reducible refine gate_dst (N:=2) rfl ?_);refine box_event ?hg (N:=2) ?hd (cs:= #[.int .i64 a0_0, .int .i64 a0_1, .int .i64 a0_2]) (t:=42) ?hr ?_;(case hd=>rfl);(case hg=>rfl);(case hr=>exact hr_);intro gb175 hg w4 hbox hb;have BK175:=am_ (hbox);have GW175:=am_ ((by rw[hg];exact(below_size (a0_)):w.heap.size≤gb175));have GE175:=am_ ((by rw[hg];exact(below_size (a0_)):w.heap.size≤gb175));replace HB:=am_ (below_step (a0_) hb);clear hb hbox hg)|((with_reducible refine gate_dst (N:=3) rfl ?_);refine box_event ?hg (N:=3) ?hd (cs:= #[.int .i64 a1_0, .int .i64 a1_1, .int .i64 a1_2]) (t:=42) ?hr ?_;(case hd=>rfl);(case hg=>rfl);(case hr=>exact hr_);intro gb176 hg w5 hbox hb;have BK176:=am_ (hbox);have GW176:=am_ ((by rw[hg];exact(below_size ((a2_ GE175.out))):w.heap.size≤gb176));have GE176:=am_ ((by rw[hg];exact(below_size ((a2_ GE175.out))):w.heap.size≤gb176));replace HB:=am_ (below_step ((a2_ GE175.out)) hb);have NB175_176:=am_ ((by rw[hg];exact Nat.ne_of_lt (blk_lt (g:=gb175) (o:= .cells #[.int .i64 a0_0, .int .i64 a0_1, .int .i64 a0_2] 42 (0,0)) ((a5_ BK175.out))):gb175≠gb176));have NB176_175:=am_ ((by rw[hg];exact Nat.ne_of_gt (blk_lt (g:=gb175) (o:= .cells #[.int .i64 a0_0, .int .i64 a0_1, .int .i64 a0_2] 42 (0,0)) ((a5_ BK175.out))):gb176≠gb175));replace BK175:=am_ (blk_below (g:=gb175) (o:= .cells #[.int .i64 a0_0, .int .i64 a0_1, .int .i64 a0_2] 42 (0,0)) ((a5_ BK175.out)) hb);clear hb hbox hg;have hnb6:=NB175_176.out;have hnc6:=NB176_175.out;have hcz7_0:w5.cell? ⟨gb175,0,none⟩=some (.int .i64 a0_0):=(blk_cell BK175.out 0).trans rfl;have hcz7_1:w5.cell? ⟨gb175,1,none⟩=some (.int .i64 a0_1):=(blk_cell BK175.out 1).trans rfl;have hcz7_2:w5.cell? ⟨gb175,2,none⟩=some (.int .i64 a0_2):=(blk_cell BK175.out 2).trans rfl;have hfz7_0:=blk_frozen BK175.out 0;have hfz7_1:=blk_frozen BK175.out 1;have hfz7_2:=blk_frozen BK175.out 2;have hcz8_0:w5.cell? ⟨gb176,0,none⟩=some (.int .i64 a1_0):=(blk_cell BK176.out 0).trans rfl;have hcz8_1:w5.cell? ⟨gb176,1,none⟩=some (.int .i64 a1_1):=(blk_cell BK176.out 1).trans rfl;have hcz8_2:w5.cell? ⟨gb176,2,none⟩=some (.int .i64 a1_2):=(blk_cell BK176.out 2).trans rfl;have hfz8_0:=blk_frozen BK176.out 0;have hfz8_1:=blk_frozen BK176.out 1;have hfz8_2:=blk_frozen BK176.out 2))
  go_ret
  exact⟨a9_,(a24_ GE175.out GE176.out)⟩
 ·rw[if_neg c3]at H
  have c3b0:decide (a0_1<a1_1)=false:=decide_eq_false c3
  clear c3
  by_cases c9:a0_1=a1_1
  ·rw[if_pos c9]at H
   have c9b0:(a0_1 == a1_1)=true:=beq_iff_eq.mpr c9
   have c9b1:(a0_1 != a1_1)=false:=bne_eq_false_iff_eq.mpr c9
   clear c9
   obtain rfl:=Option.some.inj H
   go_enter Try.func102,Try.ntmps102
   go_wp2_with (first|((with_reducible refine gate_dst (N:=2) rfl ?_);refine box_event ?hg (N:=2) ?hd (cs:= #[.int .i64 a0_0, .int .i64 a0_1, .int .i64 a0_2]) (t:=42) ?hr ?_;(case hd=>rfl);(case hg=>rfl);(case hr=>exact hr_);intro gb175 hg w10 hbox hb;have BK175:=am_ (hbox);have GW175:=am_ ((by rw[hg];exact(below_size (a0_)):w.heap.size≤gb175));have GE175:=am_ ((by rw[hg];exact(below_size (a0_)):w.heap.size≤gb175));replace HB:=am_ (below_step (a0_) hb);clear hb hbox hg)|((with_reducible refine gate_dst (N:=3) rfl ?_);refine box_event ?hg (N:=3) ?hd (cs:= #[.int .i64 a1_0, .int .i64 a1_1, .int .i64 a1_2]) (t:=42) ?hr ?_;(case hd=>rfl);(case hg=>rfl);(case hr=>exact hr_);intro gb176 hg w11 hbox hb;have BK176:=am_ (hbox);have GW176:=am_ ((by rw[hg];exact(below_size ((a2_ GE175.out))):w.heap.size≤gb176));have GE176:=am_ ((by rw[hg];exact(below_size ((a2_ GE175.out))):w.heap.size≤gb176));replace HB:=am_ (below_step ((a2_ GE175.out)) hb);have NB175_176:=am_ ((by rw[hg];exact Nat.ne_of_lt (blk_lt (g:=gb175) (o:= .cells #[.int .i64 a0_0, .int .i64 a0_1, .int .i64 a0_2] 42 (0,0)) ((a5_ BK175.out))):gb175≠gb176));have NB176_175:=am_ ((by rw[hg];exact Nat.ne_of_gt (blk_lt (g:=gb175) (o:= .cells #[.int .i64 a0_0, .int .i64 a0_1, .int .i64 a0_2] 42 (0,0)) ((a5_ BK175.out))):gb176≠gb175));replace BK175:=am_ (blk_below (g:=gb175) (o:= .cells #[.int .i64 a0_0, .int .i64 a0_1, .int .i64 a0_2] 42 (0,0)) ((a5_ BK175.out)) hb);clear hb hbox hg;have hnb12:=NB175_176.out;have hnc12:=NB176_175.out;have hcz13_0:w11.cell? ⟨gb175,0,none⟩=some (.int .i64 a0_0):=(blk_cell BK175.out 0).trans rfl;have hcz13_1:w11.cell? ⟨gb175,1,none⟩=some (.int .i64 a0_1):=(blk_cell BK175.out 1).trans rfl;have hcz13_2:w11.cell? ⟨gb175,2,none⟩=some (.int .i64 a0_2):=(blk_cell BK175.out 2).trans rfl;have hfz13_0:=blk_frozen BK175.out 0;have hfz13_1:=blk_frozen BK175.out 1;have hfz13_2:=blk_frozen BK175.out 2;have hcz14_0:w11.cell? ⟨gb176,0,none⟩=some (.int .i64 a1_0):=(blk_cell BK176.out 0).trans rfl;have hcz14_1:w11.cell? ⟨gb176,1,none⟩=some (.int .i64 a1_1):=(blk_cell BK176.out 1).trans rfl;have hcz14_2:w11.cell? ⟨gb176,2,none⟩=some (.int .i64 a1_2):=(blk_cell BK176.out 2).trans rfl;have hfz14_0:=blk_frozen BK176.out 0;have hfz14_1:=blk_frozen BK176.out 1;have hfz14_2:=blk_frozen BK176.out 2))
   go_ret
   exact⟨a9_,(a24_ GE175.out GE176.out)⟩
  ·rw[if_neg c9]at H
   have c9b0:(a0_1 == a1_1)=false:=beq_eq_false_iff_ne.mpr c9
   have c9b1:(a0_1 != a1_1)=true:=bne_iff_ne.mpr c9
   obtain rfl:=Option.some.inj H
   go_enter Try.func102,Try.ntmps102
   go_wp2_with (first|((with_reducible refine gate_dst (N:=2) rfl ?_);refine box_event ?hg (N:=2) ?hd (cs:= #[.int .i64 a0_0, .int .i64 a0_1, .int .i64 a0_2]) (t:=42) ?hr ?_;(case hd=>rfl);(case hg=>rfl);(case hr=>exact hr_);intro gb175 hg w15 hbox hb;have BK175:=am_ (hbox);have GW175:=am_ ((by rw[hg];exact(below_size (a0_)):w.heap.size≤gb175));have GE175:=am_ ((by rw[hg];exact(below_size (a0_)):w.heap.size≤gb175));replace HB:=am_ (below_step (a0_) hb);clear hb hbox hg)|((with_reducible refine gate_dst (N:=3) rfl ?_);refine box_event ?hg (N:=3) ?hd (cs:= #[.int .i64 a1_0, .int .i64 a1_1, .int .i64 a1_2]) (t:=42) ?hr ?_;(case hd=>rfl);(case hg=>rfl);(case hr=>exact hr_);intro gb176 hg w16 hbox hb;have BK176:=am_ (hbox);have GW176:=am_ ((by rw[hg];exact(below_size ((a2_ GE175.out))):w.heap.size≤gb176));have GE176:=am_ ((by rw[hg];exact(below_size ((a2_ GE175.out))):w.heap.size≤gb176));replace HB:=am_ (below_step ((a2_ GE175.out)) hb);have NB175_176:=am_ ((by rw[hg];exact Nat.ne_of_lt (blk_lt (g:=gb175) (o:= .cells #[.int .i64 a0_0, .int .i64 a0_1, .int .i64 a0_2] 42 (0,0)) ((a5_ BK175.out))):gb175≠gb176));have NB176_175:=am_ ((by rw[hg];exact Nat.ne_of_gt (blk_lt (g:=gb175) (o:= .cells #[.int .i64 a0_0, .int .i64 a0_1, .int .i64 a0_2] 42 (0,0)) ((a5_ BK175.out))):gb176≠gb175));replace BK175:=am_ (blk_below (g:=gb175) (o:= .cells #[.int .i64 a0_0, .int .i64 a0_1, .int .i64 a0_2] 42 (0,0)) ((a5_ BK175.out)) hb);clear hb hbox hg;have hnb17:=NB175_176.out;have hnc17:=NB176_175.out;have hcz18_0:w16.cell? ⟨gb175,0,none⟩=some (.int .i64 a0_0):=(blk_cell BK175.out 0).trans rfl;have hcz18_1:w16.cell? ⟨gb175,1,none⟩=some (.int .i64 a0_1):=(blk_cell BK175.out 1).trans rfl;have hcz18_2:w16.cell? ⟨gb175,2,none⟩=some (.int .i64 a0_2):=(blk_cell BK175.out 2).trans rfl;have hfz18_0:=blk_frozen BK175.out 0;have hfz18_1:=blk_frozen BK175.out 1;have hfz18_2:=blk_frozen BK175.out 2;have hcz19_0:w16.cell? ⟨gb176,0,none⟩=some (.int .i64 a1_0):=(blk_cell BK176.out 0).trans rfl;have hcz19_1:w16.cell? ⟨gb176,1,none⟩=some (.int .i64 a1_1):=(blk_cell BK176.out 1).trans rfl;have hcz19_2:w16.cell? ⟨gb176,2,none⟩=some (.int .i64 a1_2):=(blk_cell BK176.out 2).trans rfl;have hfz19_0:=blk_frozen BK176.out 0;have hfz19_1:=blk_frozen BK176.out 1;have hfz19_2:=blk_frozen BK176.out 2))
   go_ret
   exact⟨a9_,(a24_ GE175.out GE176.out)⟩

end Go.Proofs.Ytplpjmhmochcfaa.QFnCopies
