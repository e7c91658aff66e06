/- Written by a program of this session (the kit's printer, with leaf contracts proved by hand put in): what each Go function computes, and that the call computes it. No condition but those that each theorem names. -/
import Derived.Test.YtplpjmhmochcfaaQFnMergesx0
import Derived.Test.YtplpjmhmochcfaaQFnMergesx10
namespace Go.Proofs.Ytplpjmhmochcfaa.QFnMerges
open Go.RowKit Go.Proofs.YtplpjmhmochcfaaW.PrintWords Go.Proofs.YtplpjmhmochcfaaW.PrintLast Go.Proofs.YtplpjmhmochcfaaW.PrintMore
attribute [local go_sem] max2_int min2_int max_two min_two max_three min_three max_four min_four   -- for this text's walks alone
set_option linter.unusedVariables false
set_option linter.unusedSimpArgs false

/-- A state of type 76 at block g of W; what its slices lead to came in by w0. -/
def IsS76 (w0 W:World) (g:Nat) (f0:List Int) (f1:Int) (f2:Int):Prop:= ∃A0 c0,W.heap[g]? = some (.cells #[.slice A0 f0.length c0, .int .i64 f1, .int .u64 f2] 76 (0,0))∧w0.heap.size≤g∧Kd.C (Kd.int .u8) w0 A0 f0.length f0
theorem IsS76.grown {w0 W:World} {g:Nat} {f0:List Int} {f1:Int} {f2:Int} {W1:World} {row:Option Nat} (h:IsS76 w0 W g f0 f1 f2) (hw:W.grownBy W1 row) (hne:some g≠row):IsS76 w0 W1 g f0 f1 f2:=by
 obtain⟨A0,c0,hb,hg,hr0⟩:=h
 exact⟨A0,c0,blk_grown hb hw hne,hg,hr0⟩
theorem IsS76.own_neN {w0 W:World} {g:Nat} {f0:List Int} {f1:Int} {f2:Int} {α:Type} {d:Kd α} {e:Nat} {base:Nat} {ok:Nat→Prop} {v:Value} {xs:List α} (h:IsS76 w0 W g f0 f1 f2) (ho:Kd.N d e W base ok v xs) (ht:e≠76):some g≠v.ownBlock:=by
 obtain⟨A0,c0,hb,hg,hr0⟩:=h
 exact Kd.N_ne ho hb ht
theorem IsS76.fresh {w0 W:World} {g:Nat} {f0:List Int} {f1:Int} {f2:Int} (h:IsS76 w0 W g f0 f1 f2):∀k,W.heap.size≤k→k≠g:=by
 obtain⟨A0,c0,hb,hg,hr0⟩:=h
 exact Kd.freshB hb
theorem IsS76.kept {w0 W:World} {g:Nat} {f0:List Int} {f1:Int} {f2:Int} {W1:World} {S:Nat→Prop} (h:IsS76 w0 W g f0 f1 f2) (hk:Kept W W1 S) (hne:¬S g):IsS76 w0 W1 g f0 f1 f2:=by
 obtain⟨A0,c0,hb,hg,hr0⟩:=h
 exact⟨A0,c0,blk_kept hb hk hne,hg,hr0⟩
theorem IsS76.below {w0 W:World} {g:Nat} {f0:List Int} {f1:Int} {f2:Int} {W1:World} (h:IsS76 w0 W g f0 f1 f2) (hw:Below W.heap.size W W1):IsS76 w0 W1 g f0 f1 f2:=h.grown (grown_of_below hw none) (by simp)
theorem IsS76.alloc {w0 W:World} {g:Nat} {f0:List Int} {f1:Int} {f2:Int} (h:IsS76 w0 W g f0 f1 f2) (o:Obj):IsS76 w0 (W.alloc o) g f0 f1 f2:=h.below (below_alloc (Below.refl _ _) o)
theorem IsS76.drewN {w0 W:World} {g:Nat} {f0:List Int} {f1:Int} {f2:Int} (h:IsS76 w0 W g f0 f1 f2) (m:Nat):IsS76 w0 (W.drewN m) g f0 f1 f2:=h
theorem IsS76.drew {w0 W:World} {g:Nat} {f0:List Int} {f1:Int} {f2:Int} (h:IsS76 w0 W g f0 f1 f2):IsS76 w0 W.drew g f0 f1 f2:=h
theorem IsS76.at_ {w0 W:World} {g:Nat} {f0:List Int} {f1:Int} {f2:Int} {w':World} {m:Nat} (hq:W.drewN m=w') (h:IsS76 w0 W g f0 f1 f2):IsS76 w0 w' g f0 f1 f2:=by subst hq;exact IsS76.drewN h m
theorem IsS76.apart {w0 W:World} {g:Nat} {f0:List Int} {f1:Int} {f2:Int} {α:Type} {d:Kd α} {e:Nat} {base:Nat} {ok:Nat→Prop} {v:Value} {xs:List α} (h:IsS76 w0 W g f0 f1 f2) (ho:d.R e W base ok v xs) (ht:∀q,q∈e :: d.E→q≠76):d.R e W base (fun k=>ok k∧k≠g) v xs:=by
 obtain⟨A0,c0,hb,hg,hr0⟩:=h
 exact Kd.R_types ho hb ht
theorem IsS76.own_ne {w0 W:World} {g:Nat} {f0:List Int} {f1:Int} {f2:Int} {α:Type} {d:Kd α} {e:Nat} {base:Nat} {ok:Nat→Prop} {v:Value} {xs:List α} (h:IsS76 w0 W g f0 f1 f2) (ho:d.R e W base ok v xs) (ht:e≠76):some g≠v.ownBlock:=by
 obtain⟨A0,c0,hb,hg,hr0⟩:=h
 exact Kd.R_ne ho hb ht
theorem IsS76.apartQ {w0 W:World} {g:Nat} {f0:List Int} {f1:Int} {f2:Int} {α:Type} {d:Kd α} {e:Nat} {base:Nat} {ok:Nat→Prop} {v:Value} {xs:List α} (h:IsS76 w0 W g f0 f1 f2) (ho:d.Q e W base ok v xs) (ht:∀q,q∈e :: d.E→q≠76):d.Q e W base (fun k=>ok k∧k≠g) v xs:=by
 obtain⟨A0,c0,hb,hg,hr0⟩:=h
 exact Kd.Q_types ho hb ht
theorem IsS76.own_neQ {w0 W:World} {g:Nat} {f0:List Int} {f1:Int} {f2:Int} {α:Type} {d:Kd α} {e:Nat} {base:Nat} {ok:Nat→Prop} {v:Value} {xs:List α} (h:IsS76 w0 W g f0 f1 f2) (ho:d.Q e W base ok v xs) (ht:e≠76):some g≠v.ownBlock:=by
 obtain⟨A0,c0,hb,hg,hr0⟩:=h
 exact Kd.Q_ne ho hb ht
theorem IsS76.apartS {w0 W:World} {g:Nat} {f0:List Int} {f1:Int} {f2:Int} {α:Type} {d:Kd α} {e:Nat} {base:Nat} {ok:Nat→Prop} {v:Value} {xs:List α} (h:IsS76 w0 W g f0 f1 f2) (ho:d.S e W base ok v xs) (ht:∀q,q∈e :: d.E→q≠76):d.S e W base (fun k=>ok k∧k≠g) v xs:=by
 obtain⟨A0,c0,hb,hg,hr0⟩:=h
 exact Kd.S_types ho hb ht
theorem IsS76.own_neS {w0 W:World} {g:Nat} {f0:List Int} {f1:Int} {f2:Int} {α:Type} {d:Kd α} {e:Nat} {base:Nat} {ok:Nat→Prop} {v:Value} {xs:List α} (h:IsS76 w0 W g f0 f1 f2) (ho:d.S e W base ok v xs) (ht:e≠76):some g≠v.ownBlock:=by
 obtain⟨A0,c0,hb,hg,hr0⟩:=h
 exact Kd.S_ne ho hb ht
theorem IsS76.lt {w0 W:World} {g:Nat} {f0:List Int} {f1:Int} {f2:Int} (h:IsS76 w0 W g f0 f1 f2):g<W.heap.size:=by
 obtain⟨A0,c0,hb,hg,hr0⟩:=h
 exact blk_lt hb
theorem IsS76.ge {w0 W:World} {g:Nat} {f0:List Int} {f1:Int} {f2:Int} (h:IsS76 w0 W g f0 f1 f2):w0.heap.size≤g:=by
 obtain⟨A0,c0,hb,hg,hr0⟩:=h
 exact hg
theorem IsS76.ne_blk {w0 W:World} {g:Nat} {f0:List Int} {f1:Int} {f2:Int} {a:Nat} {cs:Array Value} {t:TypeId} {fr:Nat×Nat} (h:IsS76 w0 W g f0 f1 f2) (hb2:W.heap[a]? = some (.cells cs t fr)) (ht:t≠76):g≠a:=by
 obtain⟨A0,c0,hb,hg,hr0⟩:=h
 rintro rfl
 rw[hb]at hb2
 injection hb2 with hb2
 injection hb2 with _ ht2
 exact ht ht2.symm
theorem IsS76.far {w0 W:World} {g:Nat} {f0:List Int} {f1:Int} {f2:Int} {p:Addr} (h:IsS76 w0 W g f0 f1 f2) (hne:g≠p.block) (u:Value):IsS76 w0 (W.setCell p u) g f0 f1 f2:=by
 obtain⟨A0,c0,hb,hg,hr0⟩:=h
 exact⟨A0,c0,blk_far hb hne u,hg,hr0⟩
theorem cellS76_0 {W:World} {g:Nat} {A0:Option Addr} {c0:Nat} {f0:List Int} {f1:Int} {f2:Int} (h:W.heap[g]? = some (.cells #[.slice A0 f0.length c0, .int .i64 f1, .int .u64 f2] 76 (0,0))):W.cell? ⟨g,0,none⟩=some (.slice A0 f0.length c0):=(blk_cell h 0).trans rfl
theorem cellS76_1 {W:World} {g:Nat} {A0:Option Addr} {c0:Nat} {f0:List Int} {f1:Int} {f2:Int} (h:W.heap[g]? = some (.cells #[.slice A0 f0.length c0, .int .i64 f1, .int .u64 f2] 76 (0,0))):W.cell? ⟨g,1,none⟩=some (.int .i64 f1):=(blk_cell h 1).trans rfl
theorem IsS76.set_1 {w0 W:World} {g:Nat} {f0:List Int} {f1:Int} {f2:Int} (h:IsS76 w0 W g f0 f1 f2) (x:Int):IsS76 w0 (W.setCell ⟨g,1,none⟩ (.int .i64 x)) g f0 x f2:=by
 obtain⟨A0,c0,hb,hg,hr0⟩:=h
 exact⟨A0,c0,by simpa using blk_set hb 1 (.int .i64 x),hg,hr0⟩
theorem cellS76_2 {W:World} {g:Nat} {A0:Option Addr} {c0:Nat} {f0:List Int} {f1:Int} {f2:Int} (h:W.heap[g]? = some (.cells #[.slice A0 f0.length c0, .int .i64 f1, .int .u64 f2] 76 (0,0))):W.cell? ⟨g,2,none⟩=some (.int .u64 f2):=(blk_cell h 2).trans rfl
theorem IsS76.set_2 {w0 W:World} {g:Nat} {f0:List Int} {f1:Int} {f2:Int} (h:IsS76 w0 W g f0 f1 f2) (x:Int):IsS76 w0 (W.setCell ⟨g,2,none⟩ (.int .u64 x)) g f0 f1 x:=by
 obtain⟨A0,c0,hb,hg,hr0⟩:=h
 exact⟨A0,c0,by simpa using blk_set hb 2 (.int .u64 x),hg,hr0⟩
theorem IsS76.new (w0 W:World) (A0:Option Addr) (c0:Nat) (f0:List Int) (f1:Int) (f2:Int) (hB:Below w0.heap.size w0 W) (hr0:Kd.C (Kd.int .u8) w0 A0 f0.length f0):IsS76 w0 (W.alloc (.cells #[.slice A0 f0.length c0, .int .i64 f1, .int .u64 f2] 76)) W.heap.size f0 f1 f2:=⟨A0,c0,by simpa using heap_alloc_new W _,hB.size,hr0⟩

/-! ### spec_l1Cur_next: function 99 -/
def spec_l1Cur_next.f (s0_0:List Int) (s0_1:Int) (s0_2:Int):Option (Int×Int×Int):=if s0_1<(s0_0.length:Int) then(if 0≤s0_1 then(if(wrap64 (s0_1+1))≤(s0_0.length:Int) then(some (wrap64 (rd s0_0 s0_1),wrap64 (s0_1+1),IntKind.u64.wrap ((IntKind.u64.wrap ((IntKind.u64.wrap (s0_2*6364136223846793005))+(IntKind.u64.wrap (wrap64 (rd s0_0 s0_1)))))+1442695040888963407))) else(some (wrap64 (Go.bits .and .u64 ((IntKind.u64.wrap ((IntKind.u64.wrap ((IntKind.u64.wrap (s0_2*6364136223846793005))+(IntKind.u64.wrap (wrap64 (rd s0_0 s0_1)))))+1442695040888963407)) / 1099511627776) 255),wrap64 (s0_1+1),IntKind.u64.wrap ((IntKind.u64.wrap ((IntKind.u64.wrap (s0_2*6364136223846793005))+(IntKind.u64.wrap (wrap64 (rd s0_0 s0_1)))))+1442695040888963407)))) else(none)) else(if(wrap64 (s0_1+1))≤(s0_0.length:Int) then(some (0,wrap64 (s0_1+1),IntKind.u64.wrap ((IntKind.u64.wrap (IntKind.u64.wrap (s0_2*6364136223846793005)))+1442695040888963407))) else(some (wrap64 (Go.bits .and .u64 ((IntKind.u64.wrap ((IntKind.u64.wrap (IntKind.u64.wrap (s0_2*6364136223846793005)))+1442695040888963407)) / 1099511627776) 255),wrap64 (s0_1+1),IntKind.u64.wrap ((IntKind.u64.wrap (IntKind.u64.wrap (s0_2*6364136223846793005)))+1442695040888963407))))
set_option maxHeartbeats 8000000 in
set_option maxRecDepth 100000 in
theorem spec_l1Cur_next.calls (g:Nat) (s0_0:List Int) (s0_1:Int) (s0_2:Int) (r1:Int) (r2:Int) (r3:Int) (w0 w:World) (hI:IsS76 w0 w g s0_0 s0_1 s0_2) (hB:Below w0.heap.size w0 w) (h:spec_l1Cur_next.f s0_0 s0_1 s0_2=some (r1,r2,r3)) :
 Calls Try.prog 99 #[.pointer (some ⟨g,0,none⟩)] w fun e w'=>e = .returned (.int .i64 r1)∧IsS76 w0 w' g s0_0 r2 r3∧Below w0.heap.size w0 w'∧KeepBut w w' g none:=by
 have HI0:=am_ hI
 have HK:=am_ (KeepBut.refl w g none)
 have HL:=am_ hB.size
 clear hI
 have HW0:=am_ hB.size
 have HB:=am_ hB
 clear hB
 have H:(if s0_1<(s0_0.length:Int) then(if 0≤s0_1 then(if(wrap64 (s0_1+1))≤(s0_0.length:Int) then(some (wrap64 (rd s0_0 s0_1),wrap64 (s0_1+1),IntKind.u64.wrap ((IntKind.u64.wrap ((IntKind.u64.wrap (s0_2*6364136223846793005))+(IntKind.u64.wrap (wrap64 (rd s0_0 s0_1)))))+1442695040888963407))) else(some (wrap64 (Go.bits .and .u64 ((IntKind.u64.wrap ((IntKind.u64.wrap ((IntKind.u64.wrap (s0_2*6364136223846793005))+(IntKind.u64.wrap (wrap64 (rd s0_0 s0_1)))))+1442695040888963407)) / 1099511627776) 255),wrap64 (s0_1+1),IntKind.u64.wrap ((IntKind.u64.wrap ((IntKind.u64.wrap (s0_2*6364136223846793005))+(IntKind.u64.wrap (wrap64 (rd s0_0 s0_1)))))+1442695040888963407)))) else(none)) else(if(wrap64 (s0_1+1))≤(s0_0.length:Int) then(some (0,wrap64 (s0_1+1),IntKind.u64.wrap ((IntKind.u64.wrap (IntKind.u64.wrap (s0_2*6364136223846793005)))+1442695040888963407))) else(some (wrap64 (Go.bits .and .u64 ((IntKind.u64.wrap ((IntKind.u64.wrap (IntKind.u64.wrap (s0_2*6364136223846793005)))+1442695040888963407)) / 1099511627776) 255),wrap64 (s0_1+1),IntKind.u64.wrap ((IntKind.u64.wrap (IntKind.u64.wrap (s0_2*6364136223846793005)))+1442695040888963407)))))=some (r1,r2,r3):=h
 clear h
 by_cases c2:s0_1<(s0_0.length:Int)
 ·rw[if_pos c2]at H
  have c2b0:decide (s0_1<(s0_0.length:Int))=true:=decide_eq_true c2
  clear c2
  by_cases c3:0≤s0_1
  ·rw[if_pos c3]at H
   have c3b0:decide (0≤s0_1)=true:=decide_eq_true c3
   clear c3
   by_cases c4:(wrap64 (s0_1+1))≤(s0_0.length:Int)
   ·rw[if_pos c4]at H
    have c4b0:decide ((wrap64 (s0_1+1))≤(s0_0.length:Int))=true:=decide_eq_true c4
    clear c4
    simp only[Option.some.injEq,Prod.mk.injEq]at H
    obtain⟨rfl,rfl,rfl⟩:=H
    obtain⟨ASz5_0,cSz5_0,HGz5,hgz5,HSz5_0⟩:=HI0.out
    have hcz5_0:=cellS76_0 HGz5
    have hcz5_1:=cellS76_1 HGz5
    have hcz5_2:=cellS76_2 HGz5
    have hfz5_1:=blk_frozen HGz5 1
    have hfz5_2:=blk_frozen HGz5 2
    clear HGz5 hgz5
    have p337:0≤(s0_1:Int):=of_decide_eq_true (a13_)
    have q337:s0_1<(s0_0.length:Int):=of_decide_eq_true (a13_)
    obtain⟨ad337,e337,hx337_0⟩:=Kd.at_int HSz5_0 s0_1 p337 q337
    cases e337
    replace hx337_0:=pw_cell_below HB.out hx337_0
    replace p337:=eq_true p337
    replace q337:=eq_true q337
    go_enter Try.func99,Try.ntmps99
    go_wp2
    repeat (go_quiet (fail);try go_wp2)
    go_ret
    exact⟨a12_,(a5_ HI0.out),(a7_ HI0.out),a6_⟩
   ·rw[if_neg c4]at H
    have c4b0:decide ((wrap64 (s0_1+1))≤(s0_0.length:Int))=false:=decide_eq_false c4
    clear c4
    simp only[Option.some.injEq,Prod.mk.injEq]at H
    obtain⟨rfl,rfl,rfl⟩:=H
    obtain⟨ASz6_0,cSz6_0,HGz6,hgz6,HSz6_0⟩:=HI0.out
    have hcz6_0:=cellS76_0 HGz6
    have hcz6_1:=cellS76_1 HGz6
    have hcz6_2:=cellS76_2 HGz6
    have hfz6_1:=blk_frozen HGz6 1
    have hfz6_2:=blk_frozen HGz6 2
    clear HGz6 hgz6
    have p337:0≤(s0_1:Int):=of_decide_eq_true (a13_)
    have q337:s0_1<(s0_0.length:Int):=of_decide_eq_true (a13_)
    obtain⟨ad337,e337,hx337_0⟩:=Kd.at_int HSz6_0 s0_1 p337 q337
    cases e337
    replace hx337_0:=pw_cell_below HB.out hx337_0
    replace p337:=eq_true p337
    replace q337:=eq_true q337
    go_enter Try.func99,Try.ntmps99
    go_wp2
    repeat (go_quiet (fail);try go_wp2)
    go_ret
    exact⟨a12_,(a5_ HI0.out),(a7_ HI0.out),a6_⟩
  ·rw[if_neg c3]at H
   exact absurd H (by simp)
 ·rw[if_neg c2]at H
  have c2b0:decide (s0_1<(s0_0.length:Int))=false:=decide_eq_false c2
  clear c2
  by_cases c7:(wrap64 (s0_1+1))≤(s0_0.length:Int)
  ·rw[if_pos c7]at H
   have c7b0:decide ((wrap64 (s0_1+1))≤(s0_0.length:Int))=true:=decide_eq_true c7
   clear c7
   simp only[Option.some.injEq,Prod.mk.injEq]at H
   obtain⟨rfl,rfl,rfl⟩:=H
   obtain⟨ASz8_0,cSz8_0,HGz8,hgz8,HSz8_0⟩:=HI0.out
   have hcz8_0:=cellS76_0 HGz8
   have hcz8_1:=cellS76_1 HGz8
   have hcz8_2:=cellS76_2 HGz8
   have hfz8_1:=blk_frozen HGz8 1
   have hfz8_2:=blk_frozen HGz8 2
   clear HGz8 hgz8
   go_enter Try.func99,Try.ntmps99
   go_wp2
   repeat (go_quiet (fail);try go_wp2)
   go_ret
   exact⟨a12_,(a5_ HI0.out),(a7_ HI0.out),a6_⟩
  ·rw[if_neg c7]at H
   have c7b0:decide ((wrap64 (s0_1+1))≤(s0_0.length:Int))=false:=decide_eq_false c7
   clear c7
   simp only[Option.some.injEq,Prod.mk.injEq]at H
   obtain⟨rfl,rfl,rfl⟩:=H
   obtain⟨ASz9_0,cSz9_0,HGz9,hgz9,HSz9_0⟩:=HI0.out
   have hcz9_0:=cellS76_0 HGz9
   have hcz9_1:=cellS76_1 HGz9
   have hcz9_2:=cellS76_2 HGz9
   have hfz9_1:=blk_frozen HGz9 1
   have hfz9_2:=blk_frozen HGz9 2
   clear HGz9 hgz9
   go_enter Try.func99,Try.ntmps99
   go_wp2
   repeat (go_quiet (fail);try go_wp2)
   go_ret
   exact⟨a12_,(a5_ HI0.out),(a7_ HI0.out),a6_⟩

/-! ### spec_l1Cur_pick: function 55 -/
def spec_l1Cur_pick.f (s0_0:List Int) (s0_1:Int) (s0_2:Int) (a1:Int):Option (Int×Int×Int):=if a1≤1 then(some (0,s0_1,s0_2)) else((spec_l1Cur_next.f s0_0 s0_1 s0_2).bind fun bt338=>(if a1>200 then((spec_l1Cur_next.f s0_0 bt338.2.1 bt338.2.2).bind fun bt341=>(if a1=0 then(none) else(some (Int.tmod (wrap64 ((wrap64 (bt338.1*256))+bt341.1)) a1,bt341.2.1,bt341.2.2)))) else(if a1=0 then(none) else(some (Int.tmod bt338.1 a1,bt338.2.1,bt338.2.2)))))
set_option maxHeartbeats 8000000 in
set_option maxRecDepth 100000 in
theorem spec_l1Cur_pick.calls (g:Nat) (s0_0:List Int) (s0_1:Int) (s0_2:Int) (a1:Int) (r1:Int) (r2:Int) (r3:Int) (w0 w:World) (hI:IsS76 w0 w g s0_0 s0_1 s0_2) (hB:Below w0.heap.size w0 w) (h:spec_l1Cur_pick.f s0_0 s0_1 s0_2 a1=some (r1,r2,r3)) :
 Calls Try.prog 55 #[.pointer (some ⟨g,0,none⟩), .int .i64 a1] w fun e w'=>e = .returned (.int .i64 r1)∧IsS76 w0 w' g s0_0 r2 r3∧Below w0.heap.size w0 w'∧KeepBut w w' g none:=by
 have HI0:=am_ hI
 have HK:=am_ (KeepBut.refl w g none)
 have HL:=am_ hB.size
 clear hI
 have HW0:=am_ hB.size
 have HB:=am_ hB
 clear hB
 have H:(if a1≤1 then(some (0,s0_1,s0_2)) else((spec_l1Cur_next.f s0_0 s0_1 s0_2).bind fun bt338=>(if a1>200 then((spec_l1Cur_next.f s0_0 bt338.2.1 bt338.2.2).bind fun bt341=>(if a1=0 then(none) else(some (Int.tmod (wrap64 ((wrap64 (bt338.1*256))+bt341.1)) a1,bt341.2.1,bt341.2.2)))) else(if a1=0 then(none) else(some (Int.tmod bt338.1 a1,bt338.2.1,bt338.2.2))))))=some (r1,r2,r3):=h
 clear h
 by_cases c3:a1≤1
 ·rw[if_pos c3]at H
  have c3b0:decide (a1≤1)=true:=decide_eq_true c3
  clear c3
  simp only[Option.some.injEq,Prod.mk.injEq]at H
  obtain⟨rfl,rfl,rfl⟩:=H
  go_enter Try.func55,Try.ntmps55
  go_wp2
  go_ret
  exact⟨a12_,(a5_ HI0.out),(a7_ HI0.out),a6_⟩
 ·rw[if_neg c3]at H
  have c3b0:decide (a1≤1)=false:=decide_eq_false c3
  clear c3
  obtain⟨⟨t338,t339,t340⟩,A4,H⟩:=bo_ H
  try dsimp only at H
  by_cases c5:a1>200
  ·rw[if_pos c5]at H
   have c5b0:decide (200<a1)=true:=decide_eq_true c5
   clear c5
   obtain⟨⟨t341,t342,t343⟩,A6,H⟩:=bo_ H
   try dsimp only at H
   by_cases c7:a1=0
   ·rw[if_pos c7]at H
    exact absurd H (by simp)
   ·rw[if_neg c7]at H
    have c7b0:(a1 == 0)=false:=beq_eq_false_iff_ne.mpr c7
    have c7b1:(a1 != 0)=true:=bne_iff_ne.mpr c7
    simp only[Option.some.injEq,Prod.mk.injEq]at H
    obtain⟨rfl,rfl,rfl⟩:=H
    go_enter Try.func55,Try.ntmps55
    go_wp2_with (first|((with_reducible refine gate_callee (f:=99) rfl ?_);refine goesL_ (some 9) rfl rfl Try.func99 (by kernel_rfl) rfl #[.pointer (some ⟨g,0,none⟩)] rfl gd_ ?_;(with_reducible refine(spec_l1Cur_next.calls g s0_0 s0_1 s0_2 t338 t339 t340 w0 _ ?side1 ?side2 A4.out).mono ?_);(case side1=>exact(a5_ HI0.out));(case side2=>exact(a7_ HI0.out));rintro e w8 ⟨rfl,hi,hb,hk⟩;refine⟨_,rfl,?_⟩;replace HK:=am_ (KeepBut.trans (a6_) hk (.inl rfl));replace HB:=am_ (hb);replace HI0:=am_ (hi);(try clear hb);(try clear hb2);(try clear hk);(try clear hi))|((with_reducible refine gate_callee (f:=99) rfl ?_);refine goesL_ (some 15) rfl rfl Try.func99 (by kernel_rfl) rfl #[.pointer (some ⟨g,0,none⟩)] rfl gd_ ?_;(with_reducible refine(spec_l1Cur_next.calls g s0_0 t339 t340 t341 t342 t343 w0 _ ?side1 ?side2 A6.out).mono ?_);(case side1=>exact(a5_ HI0.out));(case side2=>exact(a7_ HI0.out));rintro e w9 ⟨rfl,hi,hb,hk⟩;refine⟨_,rfl,?_⟩;replace HK:=am_ (KeepBut.trans (a6_) hk (.inl rfl));replace HB:=am_ (hb);replace HI0:=am_ (hi);(try clear hb);(try clear hb2);(try clear hk);(try clear hi)))
    go_ret
    exact⟨a12_,(a5_ HI0.out),(a7_ HI0.out),a6_⟩
  ·rw[if_neg c5]at H
   have c5b0:decide (200<a1)=false:=decide_eq_false c5
   clear c5
   by_cases c10:a1=0
   ·rw[if_pos c10]at H
    exact absurd H (by simp)
   ·rw[if_neg c10]at H
    have c10b0:(a1 == 0)=false:=beq_eq_false_iff_ne.mpr c10
    have c10b1:(a1 != 0)=true:=bne_iff_ne.mpr c10
    simp only[Option.some.injEq,Prod.mk.injEq]at H
    obtain⟨rfl,rfl,rfl⟩:=H
    go_enter Try.func55,Try.ntmps55
    go_wp2_with (first|((with_reducible refine gate_callee (f:=99) rfl ?_);refine goesL_ (some 9) rfl rfl Try.func99 (by kernel_rfl) rfl #[.pointer (some ⟨g,0,none⟩)] rfl gd_ ?_;(with_reducible refine(spec_l1Cur_next.calls g s0_0 s0_1 s0_2 t338 t339 t340 w0 _ ?side1 ?side2 A4.out).mono ?_);(case side1=>exact(a5_ HI0.out));(case side2=>exact(a7_ HI0.out));rintro e w11 ⟨rfl,hi,hb,hk⟩;refine⟨_,rfl,?_⟩;replace HK:=am_ (KeepBut.trans (a6_) hk (.inl rfl));replace HB:=am_ (hb);replace HI0:=am_ (hi);(try clear hb);(try clear hb2);(try clear hk);(try clear hi)))
    go_ret
    exact⟨a12_,(a5_ HI0.out),(a7_ HI0.out),a6_⟩

/-! ### spec_l1Cur_among: function 57 -/
def spec_l1Cur_among.f (s0_0:List Int) (s0_1:Int) (s0_2:Int) (l1:List Int):Option (Int×Int×Int):=(spec_l1Cur_pick.f s0_0 s0_1 s0_2 (l1.length:Int)).bind fun bt344=>(if 0≤bt344.1 then(if bt344.1<(l1.length:Int) then(some (rd l1 bt344.1,bt344.2.1,bt344.2.2)) else(none)) else(none))
set_option maxHeartbeats 8000000 in
set_option maxRecDepth 100000 in
theorem spec_l1Cur_among.calls (g:Nat) (s0_0:List Int) (s0_1:Int) (s0_2:Int) (A1:Option Addr) (c1:Nat) (l1:List Int) (r1:Int) (r2:Int) (r3:Int) (w0 w:World) (hI:IsS76 w0 w g s0_0 s0_1 s0_2) (hB:Below w0.heap.size w0 w) (hr1:Kd.C (Kd.int .i64) w A1 l1.length l1) (hc1:l1.length≤c1) (hf1:∀ad,A1=some ad→0<l1.length→ad.block≠g) (h:spec_l1Cur_among.f s0_0 s0_1 s0_2 l1=some (r1,r2,r3)) :
 Calls Try.prog 57 #[.pointer (some ⟨g,0,none⟩), .slice A1 l1.length c1] w fun e w'=>e = .returned (.int .i64 r1)∧IsS76 w0 w' g s0_0 r2 r3∧Below w0.heap.size w0 w'∧KeepBut w w' g none:=by
 have HR1:=am_ hr1
 have HC1:=am_ hc1
 clear hr1 hc1
 have HI0:=am_ hI
 have HK:=am_ (KeepBut.refl w g none)
 have HL:=am_ hB.size
 clear hI
 have HW0:=am_ hB.size
 have HB:=am_ hB
 clear hB
 have H:((spec_l1Cur_pick.f s0_0 s0_1 s0_2 (l1.length:Int)).bind fun bt344=>(if 0≤bt344.1 then(if bt344.1<(l1.length:Int) then(some (rd l1 bt344.1,bt344.2.1,bt344.2.2)) else(none)) else(none)))=some (r1,r2,r3):=h
 clear h
 obtain⟨⟨t344,t345,t346⟩,A3,H⟩:=bo_ H
 try dsimp only at H
 by_cases c4:0≤t344
 ·rw[if_pos c4]at H
  have c4b0:decide (0≤t344)=true:=decide_eq_true c4
  clear c4
  by_cases c5:t344<(l1.length:Int)
  ·rw[if_pos c5]at H
   have c5b0:decide (t344<(l1.length:Int))=true:=decide_eq_true c5
   clear c5
   simp only[Option.some.injEq,Prod.mk.injEq]at H
   obtain⟨rfl,rfl,rfl⟩:=H
   go_enter Try.func57,Try.ntmps57
   go_wp2_with (first|((with_reducible refine gate_callee (f:=55) rfl ?_);refine goesL_ (some 9) rfl rfl Try.func55 (by kernel_rfl) rfl #[.pointer (some ⟨g,0,none⟩), .int .i64 (l1.length:Int)] rfl gd_ ?_;(with_reducible refine(spec_l1Cur_pick.calls g s0_0 s0_1 s0_2 (l1.length:Int) t344 t345 t346 w0 _ ?side1 ?side2 A3.out).mono ?_);(case side1=>exact(a5_ HI0.out));(case side2=>exact(a7_ HI0.out));rintro e w6 ⟨rfl,hi,hb,hk⟩;refine⟨_,rfl,?_⟩;replace HK:=am_ (KeepBut.trans (a6_) hk (.inl rfl));replace HB:=am_ (hb);replace HI0:=am_ (hi);(try clear hb);(try clear hb2);(try clear hk);(try clear hi);have p347:0≤(t344:Int):=of_decide_eq_true (a13_);have q347:t344<(l1.length:Int):=of_decide_eq_true (a13_);obtain⟨ad347,e347,hx347_0⟩:=Kd.at_int HR1.out t344 p347 q347;cases e347;replace hx347_0:=keep_cell HK.out hx347_0 (by first|(rw[add_block];exact hf1 _ rfl (by omega))|exact hf1 _ rfl (by omega)|exact hf1 ad347 rfl (by omega));replace p347:=eq_true p347;replace q347:=eq_true q347))
   go_ret
   exact⟨a12_,(a5_ HI0.out),(a7_ HI0.out),a6_⟩
  ·rw[if_neg c5]at H
   exact absurd H (by simp)
 ·rw[if_neg c4]at H
  exact absurd H (by simp)

/-! ### spec_l1Cur_hole: function 101 -/
def spec_l1Cur_hole.f (s0_0:List Int) (s0_1:Int) (s0_2:Int):Option (Int×Int×Int×Int×Int):=(spec_l1Cur_pick.f s0_0 s0_1 s0_2 40).bind fun bt349=>((spec_l1Cur_pick.f s0_0 bt349.2.1 bt349.2.2 60).bind fun bt352=>((spec_l1Cur_among.f s0_0 bt352.2.1 bt352.2.2 (([0,2,5,bt349.1,bt352.1,1990]:List Int))).bind fun bt358=>((spec_l1Cur_pick.f s0_0 bt358.2.1 bt358.2.2 20).bind fun bt361=>((spec_l1Cur_among.f s0_0 bt361.2.1 bt361.2.2 (([0,1,2,3,5,bt361.1]:List Int))).bind fun bt367=>((spec_l1Cur_among.f s0_0 bt367.2.1 bt367.2.2 (([1,2,3,4,10]:List Int))).bind fun bt373=>(some (bt367.1,bt358.1,wrap64 (bt358.1+bt373.1),bt373.2.1,bt373.2.2)))))))
set_option maxHeartbeats 8000000 in
set_option maxRecDepth 100000 in
theorem spec_l1Cur_hole.calls (g:Nat) (s0_0:List Int) (s0_1:Int) (s0_2:Int) (r1:Int) (r2:Int) (r3:Int) (r4:Int) (r5:Int) (w0 w:World) (hI:IsS76 w0 w g s0_0 s0_1 s0_2) (hB:Below w0.heap.size w0 w) (h:spec_l1Cur_hole.f s0_0 s0_1 s0_2=some (r1,r2,r3,r4,r5)) :
 Calls Try.prog 101 #[.pointer (some ⟨g,0,none⟩)] w fun e w'=>e = .returned (.agg #[.int .i64 r1, .int .i64 r2, .int .i64 r3])∧IsS76 w0 w' g s0_0 r4 r5∧Below w0.heap.size w0 w'∧KeepBut w w' g none:=by
 have hu42:=Try.underlying42
 have HI0:=am_ hI
 have HK:=am_ (KeepBut.refl w g none)
 have HL:=am_ hB.size
 clear hI
 have HW0:=am_ hB.size
 have HB:=am_ hB
 clear hB
 have H:((spec_l1Cur_pick.f s0_0 s0_1 s0_2 40).bind fun bt349=>((spec_l1Cur_pick.f s0_0 bt349.2.1 bt349.2.2 60).bind fun bt352=>((spec_l1Cur_among.f s0_0 bt352.2.1 bt352.2.2 (([0,2,5,bt349.1,bt352.1,1990]:List Int))).bind fun bt358=>((spec_l1Cur_pick.f s0_0 bt358.2.1 bt358.2.2 20).bind fun bt361=>((spec_l1Cur_among.f s0_0 bt361.2.1 bt361.2.2 (([0,1,2,3,5,bt361.1]:List Int))).bind fun bt367=>((spec_l1Cur_among.f s0_0 bt367.2.1 bt367.2.2 (([1,2,3,4,10]:List Int))).bind fun bt373=>(some (bt367.1,bt358.1,wrap64 (bt358.1+bt373.1),bt373.2.1,bt373.2.2))))))))=some (r1,r2,r3,r4,r5):=h
 clear h
 obtain⟨⟨t349,t350,t351⟩,A2,H⟩:=bo_ H
 try dsimp only at H
 obtain⟨⟨t352,t353,t354⟩,A3,H⟩:=bo_ H
 try dsimp only at H
 obtain⟨y355,hy355⟩:∃y_:List Int,y_=(([0,2,5,t349,t352,1990]:List Int)):=⟨_,rfl⟩
 replace H:((spec_l1Cur_among.f s0_0 t353 t354 y355).bind fun bt358=>((spec_l1Cur_pick.f s0_0 bt358.2.1 bt358.2.2 20).bind fun bt361=>((spec_l1Cur_among.f s0_0 bt361.2.1 bt361.2.2 (([0,1,2,3,5,bt361.1]:List Int))).bind fun bt367=>((spec_l1Cur_among.f s0_0 bt367.2.1 bt367.2.2 (([1,2,3,4,10]:List Int))).bind fun bt373=>(some (bt367.1,bt358.1,wrap64 (bt358.1+bt373.1),bt373.2.1,bt373.2.2))))))=some (r1,r2,r3,r4,r5):=by first|(rw[hy355];with_reducible exact H)|(have H2_:=(Option.bind_some _ _).symm.trans H;rw[hy355];with_reducible exact H2_)|(have H2_:=(Option.bind_some _ _).symm.trans H;with_reducible exact H2_) | with_reducible exact H|(rw[hy355];exact H)|exact H
 have Ny355:=am_ hy355
 clear hy355
 obtain⟨⟨t358,t359,t360⟩,A4,H⟩:=bo_ H
 try dsimp only at H
 obtain⟨⟨t361,t362,t363⟩,A5,H⟩:=bo_ H
 try dsimp only at H
 obtain⟨y364,hy364⟩:∃y_:List Int,y_=(([0,1,2,3,5,t361]:List Int)):=⟨_,rfl⟩
 replace H:((spec_l1Cur_among.f s0_0 t362 t363 y364).bind fun bt367=>((spec_l1Cur_among.f s0_0 bt367.2.1 bt367.2.2 (([1,2,3,4,10]:List Int))).bind fun bt373=>(some (bt367.1,t358,wrap64 (t358+bt373.1),bt373.2.1,bt373.2.2))))=some (r1,r2,r3,r4,r5):=by first|(rw[hy364];with_reducible exact H)|(have H2_:=(Option.bind_some _ _).symm.trans H;rw[hy364];with_reducible exact H2_)|(have H2_:=(Option.bind_some _ _).symm.trans H;with_reducible exact H2_) | with_reducible exact H|(rw[hy364];exact H)|exact H
 have Ny364:=am_ hy364
 clear hy364
 obtain⟨⟨t367,t368,t369⟩,A6,H⟩:=bo_ H
 try dsimp only at H
 obtain⟨y370,hy370⟩:∃y_:List Int,y_=(([1,2,3,4,10]:List Int)):=⟨_,rfl⟩
 replace H:((spec_l1Cur_among.f s0_0 t368 t369 y370).bind fun bt373=>(some (t367,t358,wrap64 (t358+bt373.1),bt373.2.1,bt373.2.2)))=some (r1,r2,r3,r4,r5):=by first|(rw[hy370];with_reducible exact H)|(have H2_:=(Option.bind_some _ _).symm.trans H;rw[hy370];with_reducible exact H2_)|(have H2_:=(Option.bind_some _ _).symm.trans H;with_reducible exact H2_) | with_reducible exact H|(rw[hy370];exact H)|exact H
 have Ny370:=am_ hy370
 clear hy370
 obtain⟨⟨t373,t374,t375⟩,A7,H⟩:=bo_ H
 try dsimp only at H
 simp only[Option.some.injEq,Prod.mk.injEq]at H
 obtain⟨rfl,rfl,rfl,rfl,rfl⟩:=H
 go_enter Try.func101,Try.ntmps101
 go_wp2_with (first|((with_reducible refine gate_dst (N:=2) rfl ?_);refine box_event ?hg (N:=2) ?hd (cs:= #[.int .i64 0, .int .i64 0, .int .i64 0]) (t:=42) ?hr ?_;(case hd=>rfl);(case hg=>rfl);(case hr=>exact hr_);intro gb348 hg w8 hbox hb;replace HB:=am_ (below_step ((a7_ HI0.out)) hb);have BK348:=am_ (hbox);have GW348:=am_ ((by rw[hg];exact(keep_size (w:=w) (g:=g) (row:=none) (a6_)):w.heap.size≤gb348));have GE348:=am_ ((Nat.le_trans HW0.out (by rw[hg];exact(keep_size (w:=w) (g:=g) (row:=none) (a6_)):w.heap.size≤gb348):w0.heap.size≤gb348));replace HK:=am_ (KeepBut.trans (a6_) (KeepBut.of_below hb g none) (.inl rfl));have NB0_348:=am_ ((by rw[hg];exact Nat.ne_of_lt (IsS76.lt (show IsS76 w0 _ g s0_0 s0_1 s0_2 from(a5_ HI0.out))):g≠gb348));have NB348_0:=am_ ((by rw[hg];exact Nat.ne_of_gt (IsS76.lt (show IsS76 w0 _ g s0_0 s0_1 s0_2 from(a5_ HI0.out))):gb348≠g));replace HI0:=am_ (IsS76.below ((a5_ HI0.out)) hb);clear hb hbox hg)|((with_reducible refine gate_callee (f:=55) rfl ?_);refine goesL_ (some 6) rfl rfl Try.func55 (by kernel_rfl) rfl #[.pointer (some ⟨g,0,none⟩), .int .i64 40] rfl gd_ ?_;(with_reducible refine(spec_l1Cur_pick.calls g s0_0 s0_1 s0_2 40 t349 t350 t351 w0 _ ?side1 ?side2 A2.out).mono ?_);(case side1=>exact(a9_ HI0.out NB0_348.out));(case side2=>exact(a20_ HI0.out GE348.out));rintro e w9 ⟨rfl,hi,hb,hk⟩;refine⟨_,rfl,?_⟩;replace BK348:=am_ (KeepBut.blk hk (g':=gb348) (o:= .cells #[.int .i64 0, .int .i64 0, .int .i64 0] 42 (0,0)) ((a3_ BK348.out)) NB348_0.out (by simp));replace HK:=am_ (KeepBut.trans ((a17_ GW348.out)) hk (.inl rfl));replace HB:=am_ (hb);replace HI0:=am_ (hi);(try clear hb);(try clear hb2);(try clear hk);(try clear hi))|((with_reducible refine gate_callee (f:=55) rfl ?_);refine goesL_ (some 8) rfl rfl Try.func55 (by kernel_rfl) rfl #[.pointer (some ⟨g,0,none⟩), .int .i64 60] rfl gd_ ?_;(with_reducible refine(spec_l1Cur_pick.calls g s0_0 t350 t351 60 t352 t353 t354 w0 _ ?side1 ?side2 A3.out).mono ?_);(case side1=>exact(a9_ HI0.out NB0_348.out));(case side2=>exact(a20_ HI0.out GE348.out));rintro e w10 ⟨rfl,hi,hb,hk⟩;refine⟨_,rfl,?_⟩;replace BK348:=am_ (KeepBut.blk hk (g':=gb348) (o:= .cells #[.int .i64 0, .int .i64 0, .int .i64 0] 42 (0,0)) ((a3_ BK348.out)) NB348_0.out (by simp));replace HK:=am_ (KeepBut.trans ((a17_ GW348.out)) hk (.inl rfl));replace HB:=am_ (hb);replace HI0:=am_ (hi);(try clear hb);(try clear hb2);(try clear hk);(try clear hi))|((with_reducible refine gate_dst (N:=9) rfl ?_);refine Kd.R_lit (Kd.int .i64) _ 3 ?hg (N:=9) ?hd (xs:=([0,2,5,t349,t352,1990]:List Int)) (inner:=[.int .i64 0, .int .i64 2, .int .i64 5, .int .i64 t349, .int .i64 t352, .int .i64 1990]) (ok:=fun _=>True) (okp:=fun _=>True) ?hr ?hp (fun _ hk=>hk) trivial (Below.refl _ _) (Nat.le_refl _) (by simp) ?_;(case hd=>rfl);(case hg=>rfl);(case hr=>exact hr_);(case hp=>exact(Reps.one (show Kd.M (Kd.int .i64) _ _ _ 0 [.int .i64 0] from rfl) (Reps.one (show Kd.M (Kd.int .i64) _ _ _ 2 [.int .i64 2] from rfl) (Reps.one (show Kd.M (Kd.int .i64) _ _ _ 5 [.int .i64 5] from rfl) (Reps.one (show Kd.M (Kd.int .i64) _ _ _ t349 [.int .i64 t349] from rfl) (Reps.one (show Kd.M (Kd.int .i64) _ _ _ t352 [.int .i64 t352] from rfl) (Reps.one (show Kd.M (Kd.int .i64) _ _ _ 1990 [.int .i64 1990] from rfl) (Reps.none _ _))))))));intro v356 w11 ho12 hb hg_ hnew_;clear hg_ hnew_;(first|rw[← Ny355.out]at ho12|(simp only[Int.reduceToNat]at ho12;rw[← Ny355.out]at ho12));have HO357:=am_ (Kd.R_lower ho12 (keep_size (w:=w) (g:=g) (row:=none) ((a17_ GW348.out))));replace BK348:=am_ (blk_below (g:=gb348) (o:= .cells #[.int .i64 0, .int .i64 0, .int .i64 0] 42 (0,0)) ((a3_ BK348.out)) hb);replace HK:=am_ (KeepBut.trans ((a17_ GW348.out)) (KeepBut.of_below hb g none) (.inl rfl));replace HB:=am_ (below_step ((a20_ HI0.out GE348.out)) hb);replace HI0:=am_ (IsS76.below ((a9_ HI0.out NB0_348.out)) hb);clear hb ho12;obtain⟨Ao13,co13,eo13⟩:=Kd.R_slice HO357.out;subst eo13)|((with_reducible refine gate_callee (f:=57) rfl ?_);refine goesL_ (some 10) rfl rfl Try.func57 (by kernel_rfl) rfl #[.pointer (some ⟨g,0,none⟩), .slice Ao13 y355.length co13] rfl gd_ ?_;(with_reducible refine(spec_l1Cur_among.calls g s0_0 t353 t354 _ _ y355 t358 t359 t360 w0 _ ?side1 ?side2 ?side3 ?side4 ?side5 A4.out).mono ?_);(case side1=>exact(a9_ HI0.out NB0_348.out));(case side2=>exact(a20_ HI0.out GE348.out));(case side3=>exact(a4_ HO357.out));(case side4=>exact(Kd.R_reads' HO357.out).2.1);(case side5=>exact far_slice (IsS76.own_ne HI0.out HO357.out (by decide)));rintro e w14 ⟨rfl,hi,hb,hk⟩;refine⟨_,rfl,?_⟩;replace BK348:=am_ (KeepBut.blk hk (g':=gb348) (o:= .cells #[.int .i64 0, .int .i64 0, .int .i64 0] 42 (0,0)) ((a3_ BK348.out)) NB348_0.out (by simp));replace HO357:=am_ (Kd.R_mono (Kd.R_keep (IsS76.apart (show IsS76 w0 _ g s0_0 t353 t354 from(a9_ HI0.out NB0_348.out)) ((a0_ HO357.out)) (by decide)) hk (fun _ h=>h.2)) (fun _ h=>h.1));replace HK:=am_ (KeepBut.trans ((a17_ GW348.out)) hk (.inl rfl));replace HB:=am_ (hb);replace HI0:=am_ (hi);(try clear hb);(try clear hb2);(try clear hk);(try clear hi))|((with_reducible refine gate_callee (f:=55) rfl ?_);refine goesL_ (some 13) rfl rfl Try.func55 (by kernel_rfl) rfl #[.pointer (some ⟨g,0,none⟩), .int .i64 20] rfl gd_ ?_;(with_reducible refine(spec_l1Cur_pick.calls g s0_0 t359 t360 20 t361 t362 t363 w0 _ ?side1 ?side2 A5.out).mono ?_);(case side1=>exact(a9_ HI0.out NB0_348.out));(case side2=>exact(a20_ HI0.out GE348.out));rintro e w15 ⟨rfl,hi,hb,hk⟩;refine⟨_,rfl,?_⟩;replace BK348:=am_ (KeepBut.blk hk (g':=gb348) (o:= .cells #[.int .i64 0, .int .i64 0, .int .i64 0] 42 (0,0)) ((a3_ BK348.out)) NB348_0.out (by simp));replace HO357:=am_ (Kd.R_mono (Kd.R_keep (IsS76.apart (show IsS76 w0 _ g s0_0 t359 t360 from(a9_ HI0.out NB0_348.out)) ((a0_ HO357.out)) (by decide)) hk (fun _ h=>h.2)) (fun _ h=>h.1));replace HK:=am_ (KeepBut.trans ((a17_ GW348.out)) hk (.inl rfl));replace HB:=am_ (hb);replace HI0:=am_ (hi);(try clear hb);(try clear hb2);(try clear hk);(try clear hi))|((with_reducible refine gate_dst (N:=14) rfl ?_);refine Kd.R_lit (Kd.int .i64) _ 3 ?hg (N:=14) ?hd (xs:=([0,1,2,3,5,t361]:List Int)) (inner:=[.int .i64 0, .int .i64 1, .int .i64 2, .int .i64 3, .int .i64 5, .int .i64 t361]) (ok:=fun _=>True) (okp:=fun _=>True) ?hr ?hp (fun _ hk=>hk) trivial (Below.refl _ _) (Nat.le_refl _) (by simp) ?_;(case hd=>rfl);(case hg=>rfl);(case hr=>exact hr_);(case hp=>exact(Reps.one (show Kd.M (Kd.int .i64) _ _ _ 0 [.int .i64 0] from rfl) (Reps.one (show Kd.M (Kd.int .i64) _ _ _ 1 [.int .i64 1] from rfl) (Reps.one (show Kd.M (Kd.int .i64) _ _ _ 2 [.int .i64 2] from rfl) (Reps.one (show Kd.M (Kd.int .i64) _ _ _ 3 [.int .i64 3] from rfl) (Reps.one (show Kd.M (Kd.int .i64) _ _ _ 5 [.int .i64 5] from rfl) (Reps.one (show Kd.M (Kd.int .i64) _ _ _ t361 [.int .i64 t361] from rfl) (Reps.none _ _))))))));intro v365 w16 ho17 hb hg_ hnew_;clear hg_ hnew_;(first|rw[← Ny364.out]at ho17|(simp only[Int.reduceToNat]at ho17;rw[← Ny364.out]at ho17));have HO366:=am_ (Kd.R_lower (Kd.R_new' ho17 (Kd.R_lt ((a0_ HO357.out)))) (keep_size (w:=w) (g:=g) (row:=none) ((a17_ GW348.out))));replace HO357:=am_ (Kd.R_elder' ((a0_ HO357.out)) (Kd.R_base ho17) hb);replace BK348:=am_ (blk_below (g:=gb348) (o:= .cells #[.int .i64 0, .int .i64 0, .int .i64 0] 42 (0,0)) ((a3_ BK348.out)) hb);replace HK:=am_ (KeepBut.trans ((a17_ GW348.out)) (KeepBut.of_below hb g none) (.inl rfl));replace HB:=am_ (below_step ((a20_ HI0.out GE348.out)) hb);replace HI0:=am_ (IsS76.below ((a9_ HI0.out NB0_348.out)) hb);clear hb ho17;obtain⟨Ao18,co18,eo18⟩:=Kd.R_slice HO366.out;subst eo18)|((with_reducible refine gate_callee (f:=57) rfl ?_);refine goesL_ (some 15) rfl rfl Try.func57 (by kernel_rfl) rfl #[.pointer (some ⟨g,0,none⟩), .slice Ao18 y364.length co18] rfl gd_ ?_;(with_reducible refine(spec_l1Cur_among.calls g s0_0 t362 t363 _ _ y364 t367 t368 t369 w0 _ ?side1 ?side2 ?side3 ?side4 ?side5 A6.out).mono ?_);(case side1=>exact(a9_ HI0.out NB0_348.out));(case side2=>exact(a20_ HI0.out GE348.out));(case side3=>exact(a4_ HO366.out));(case side4=>exact(Kd.R_reads' HO366.out).2.1);(case side5=>exact far_slice (IsS76.own_ne HI0.out HO366.out (by decide)));rintro e w19 ⟨rfl,hi,hb,hk⟩;refine⟨_,rfl,?_⟩;replace BK348:=am_ (KeepBut.blk hk (g':=gb348) (o:= .cells #[.int .i64 0, .int .i64 0, .int .i64 0] 42 (0,0)) ((a3_ BK348.out)) NB348_0.out (by simp));replace HO357:=am_ (Kd.R_mono (Kd.R_keep (IsS76.apart (show IsS76 w0 _ g s0_0 t362 t363 from(a9_ HI0.out NB0_348.out)) ((a0_ HO357.out)) (by decide)) hk (fun _ h=>h.2)) (fun _ h=>h.1));replace HO366:=am_ (Kd.R_mono (Kd.R_keep (IsS76.apart (show IsS76 w0 _ g s0_0 t362 t363 from(a9_ HI0.out NB0_348.out)) ((a0_ HO366.out)) (by decide)) hk (fun _ h=>h.2)) (fun _ h=>h.1));replace HK:=am_ (KeepBut.trans ((a17_ GW348.out)) hk (.inl rfl));replace HB:=am_ (hb);replace HI0:=am_ (hi);(try clear hb);(try clear hb2);(try clear hk);(try clear hi))|((with_reducible refine gate_dst (N:=19) rfl ?_);refine Kd.R_lit (Kd.int .i64) _ 3 ?hg (N:=19) ?hd (xs:=([1,2,3,4,10]:List Int)) (inner:=[.int .i64 1, .int .i64 2, .int .i64 3, .int .i64 4, .int .i64 10]) (ok:=fun _=>True) (okp:=fun _=>True) ?hr ?hp (fun _ hk=>hk) trivial (Below.refl _ _) (Nat.le_refl _) (by simp) ?_;(case hd=>rfl);(case hg=>rfl);(case hr=>exact hr_);(case hp=>exact(Reps.one (show Kd.M (Kd.int .i64) _ _ _ 1 [.int .i64 1] from rfl) (Reps.one (show Kd.M (Kd.int .i64) _ _ _ 2 [.int .i64 2] from rfl) (Reps.one (show Kd.M (Kd.int .i64) _ _ _ 3 [.int .i64 3] from rfl) (Reps.one (show Kd.M (Kd.int .i64) _ _ _ 4 [.int .i64 4] from rfl) (Reps.one (show Kd.M (Kd.int .i64) _ _ _ 10 [.int .i64 10] from rfl) (Reps.none _ _)))))));intro v371 w20 ho21 hb hg_ hnew_;clear hg_ hnew_;(first|rw[← Ny370.out]at ho21|(simp only[Int.reduceToNat]at ho21;rw[← Ny370.out]at ho21));have HO372:=am_ (Kd.R_lower (Kd.R_new' (Kd.R_new' ho21 (Kd.R_lt ((a0_ HO357.out)))) (Kd.R_lt ((a0_ HO366.out)))) (keep_size (w:=w) (g:=g) (row:=none) ((a17_ GW348.out))));replace HO357:=am_ (Kd.R_elder' ((a0_ HO357.out)) (Kd.R_base ho21) hb);replace HO366:=am_ (Kd.R_elder' ((a0_ HO366.out)) (Kd.R_base ho21) hb);replace BK348:=am_ (blk_below (g:=gb348) (o:= .cells #[.int .i64 0, .int .i64 0, .int .i64 0] 42 (0,0)) ((a3_ BK348.out)) hb);replace HK:=am_ (KeepBut.trans ((a17_ GW348.out)) (KeepBut.of_below hb g none) (.inl rfl));replace HB:=am_ (below_step ((a20_ HI0.out GE348.out)) hb);replace HI0:=am_ (IsS76.below ((a9_ HI0.out NB0_348.out)) hb);clear hb ho21;obtain⟨Ao22,co22,eo22⟩:=Kd.R_slice HO372.out;subst eo22)|((with_reducible refine gate_callee (f:=57) rfl ?_);refine goesL_ (some 20) rfl rfl Try.func57 (by kernel_rfl) rfl #[.pointer (some ⟨g,0,none⟩), .slice Ao22 y370.length co22] rfl gd_ ?_;(with_reducible refine(spec_l1Cur_among.calls g s0_0 t368 t369 _ _ y370 t373 t374 t375 w0 _ ?side1 ?side2 ?side3 ?side4 ?side5 A7.out).mono ?_);(case side1=>exact(a9_ HI0.out NB0_348.out));(case side2=>exact(a20_ HI0.out GE348.out));(case side3=>exact(a4_ HO372.out));(case side4=>exact(Kd.R_reads' HO372.out).2.1);(case side5=>exact far_slice (IsS76.own_ne HI0.out HO372.out (by decide)));rintro e w23 ⟨rfl,hi,hb,hk⟩;refine⟨_,rfl,?_⟩;replace BK348:=am_ (KeepBut.blk hk (g':=gb348) (o:= .cells #[.int .i64 0, .int .i64 0, .int .i64 0] 42 (0,0)) ((a3_ BK348.out)) NB348_0.out (by simp));replace HO357:=am_ (Kd.R_mono (Kd.R_keep (IsS76.apart (show IsS76 w0 _ g s0_0 t368 t369 from(a9_ HI0.out NB0_348.out)) ((a0_ HO357.out)) (by decide)) hk (fun _ h=>h.2)) (fun _ h=>h.1));replace HO366:=am_ (Kd.R_mono (Kd.R_keep (IsS76.apart (show IsS76 w0 _ g s0_0 t368 t369 from(a9_ HI0.out NB0_348.out)) ((a0_ HO366.out)) (by decide)) hk (fun _ h=>h.2)) (fun _ h=>h.1));replace HO372:=am_ (Kd.R_mono (Kd.R_keep (IsS76.apart (show IsS76 w0 _ g s0_0 t368 t369 from(a9_ HI0.out NB0_348.out)) ((a0_ HO372.out)) (by decide)) hk (fun _ h=>h.2)) (fun _ h=>h.1));replace HK:=am_ (KeepBut.trans ((a17_ GW348.out)) hk (.inl rfl));replace HB:=am_ (hb);replace HI0:=am_ (hi);(try clear hb);(try clear hb2);(try clear hk);(try clear hi);have hnb24:=NB348_0.out;have hnc24:=NB0_348.out;have hcz25_0:w23.cell? ⟨gb348,0,none⟩=some (.int .i64 0):=(blk_cell BK348.out 0).trans rfl;have hcz25_1:w23.cell? ⟨gb348,1,none⟩=some (.int .i64 0):=(blk_cell BK348.out 1).trans rfl;have hcz25_2:w23.cell? ⟨gb348,2,none⟩=some (.int .i64 0):=(blk_cell BK348.out 2).trans rfl;have hfz25_0:=blk_frozen BK348.out 0;have hfz25_1:=blk_frozen BK348.out 1;have hfz25_2:=blk_frozen BK348.out 2))
 refine bodyPost_ret (results_cell_row rfl _ _ gb348 42 #[.int .i64 t367, .int .i64 t358, .int .i64 (wrap64 (t358+t373))] (0,0) _ rfl (by(with_reducible repeat (first|refine blk_drewN ?_ _ | refine blk_drew ?_ | refine blk_alloc ?_ _));refine blk_put (cs:= #[.int .i64 t367, .int .i64 t358, .int .i64 0]) ?_ 2 _ rfl;(with_reducible repeat (first|refine blk_drewN ?_ _ | refine blk_drew ?_ | refine blk_alloc ?_ _));refine blk_put (cs:= #[.int .i64 t367, .int .i64 0, .int .i64 0]) ?_ 1 _ rfl;(with_reducible repeat (first|refine blk_drewN ?_ _ | refine blk_drew ?_ | refine blk_alloc ?_ _));refine blk_put (cs:= #[.int .i64 0, .int .i64 0, .int .i64 0]) ?_ 0 _ rfl;(with_reducible repeat (first|refine blk_drewN ?_ _ | refine blk_drew ?_ | refine blk_alloc ?_ _));exact BK348.out) Try.underlying42 rfl (by kernel_rfl)) rfl ?_
 exact⟨a12_,(a9_ HI0.out NB0_348.out),(a20_ HI0.out GE348.out),(a17_ GW348.out)⟩

/-! ### spec_l1Cur_anyHole: function 71 -/
def spec_l1Cur_anyHole.f (s0_0:List Int) (s0_1:Int) (s0_2:Int):Option (Int×Int×Int×Int×Int):=(spec_l1Cur_hole.f s0_0 s0_1 s0_2).bind fun bt377=>((spec_l1Cur_pick.f s0_0 bt377.2.2.2.1 bt377.2.2.2.2 24).bind fun bt383=>(if bt383.1=0 then((spec_l1Cur_among.f s0_0 bt383.2.1 bt383.2.2 (([(-1),19,20]:List Int))).bind fun bt389=>(some (bt389.1,bt377.2.1,bt377.2.2.1,bt389.2.1,bt389.2.2))) else(if bt383.1=1 then((spec_l1Cur_among.f s0_0 bt383.2.1 bt383.2.2 (([(-1),bt377.2.2.1]:List Int))).bind fun bt395=>(some (bt377.1,bt395.1,bt377.2.2.1,bt395.2.1,bt395.2.2))) else(if bt383.1=2 then((spec_l1Cur_among.f s0_0 bt383.2.1 bt383.2.2 (([bt377.2.1,2000,2001]:List Int))).bind fun bt401=>(some (bt377.1,bt377.2.1,bt401.1,bt401.2.1,bt401.2.2))) else(some (bt377.1,bt377.2.1,bt377.2.2.1,bt383.2.1,bt383.2.2))))))
set_option maxHeartbeats 8000000 in
set_option maxRecDepth 100000 in
theorem spec_l1Cur_anyHole.calls (g:Nat) (s0_0:List Int) (s0_1:Int) (s0_2:Int) (r1:Int) (r2:Int) (r3:Int) (r4:Int) (r5:Int) (w0 w:World) (hI:IsS76 w0 w g s0_0 s0_1 s0_2) (hB:Below w0.heap.size w0 w) (h:spec_l1Cur_anyHole.f s0_0 s0_1 s0_2=some (r1,r2,r3,r4,r5)) :
 Calls Try.prog 71 #[.pointer (some ⟨g,0,none⟩)] w fun e w'=>e = .returned (.agg #[.int .i64 r1, .int .i64 r2, .int .i64 r3])∧IsS76 w0 w' g s0_0 r4 r5∧Below w0.heap.size w0 w'∧KeepBut w w' g none:=by
 have hu42:=Try.underlying42
 have HI0:=am_ hI
 have HK:=am_ (KeepBut.refl w g none)
 have HL:=am_ hB.size
 clear hI
 have HW0:=am_ hB.size
 have HB:=am_ hB
 clear hB
 have H:((spec_l1Cur_hole.f s0_0 s0_1 s0_2).bind fun bt377=>((spec_l1Cur_pick.f s0_0 bt377.2.2.2.1 bt377.2.2.2.2 24).bind fun bt383=>(if bt383.1=0 then((spec_l1Cur_among.f s0_0 bt383.2.1 bt383.2.2 (([(-1),19,20]:List Int))).bind fun bt389=>(some (bt389.1,bt377.2.1,bt377.2.2.1,bt389.2.1,bt389.2.2))) else(if bt383.1=1 then((spec_l1Cur_among.f s0_0 bt383.2.1 bt383.2.2 (([(-1),bt377.2.2.1]:List Int))).bind fun bt395=>(some (bt377.1,bt395.1,bt377.2.2.1,bt395.2.1,bt395.2.2))) else(if bt383.1=2 then((spec_l1Cur_among.f s0_0 bt383.2.1 bt383.2.2 (([bt377.2.1,2000,2001]:List Int))).bind fun bt401=>(some (bt377.1,bt377.2.1,bt401.1,bt401.2.1,bt401.2.2))) else(some (bt377.1,bt377.2.1,bt377.2.2.1,bt383.2.1,bt383.2.2)))))))=some (r1,r2,r3,r4,r5):=h
 clear h
 obtain⟨⟨t377,t378,t379,t380,t381⟩,A2,H⟩:=bo_ H
 try dsimp only at H
 obtain⟨⟨t383,t384,t385⟩,A3,H⟩:=bo_ H
 try dsimp only at H
 by_cases c4:t383=0
 ·rw[if_pos c4]at H
  have c4b0:(t383 == 0)=true:=beq_iff_eq.mpr c4
  have c4b1:(t383 != 0)=false:=bne_eq_false_iff_eq.mpr c4
  clear c4
  obtain⟨y386,hy386⟩:∃y_:List Int,y_=(([(-1),19,20]:List Int)):=⟨_,rfl⟩
  replace H:((spec_l1Cur_among.f s0_0 t384 t385 y386).bind fun bt389=>(some (bt389.1,t378,t379,bt389.2.1,bt389.2.2)))=some (r1,r2,r3,r4,r5):=by first|(rw[hy386];with_reducible exact H)|(have H2_:=(Option.bind_some _ _).symm.trans H;rw[hy386];with_reducible exact H2_)|(have H2_:=(Option.bind_some _ _).symm.trans H;with_reducible exact H2_) | with_reducible exact H|(rw[hy386];exact H)|exact H
  have Ny386:=am_ hy386
  clear hy386
  obtain⟨⟨t389,t390,t391⟩,A5,H⟩:=bo_ H
  try dsimp only at H
  simp only[Option.some.injEq,Prod.mk.injEq]at H
  obtain⟨rfl,rfl,rfl,rfl,rfl⟩:=H
  go_enter Try.func71,Try.ntmps71
  go_wp2_with (first|((with_reducible refine gate_dst (N:=2) rfl ?_);refine box_event ?hg (N:=2) ?hd (cs:= #[.int .i64 0, .int .i64 0, .int .i64 0]) (t:=42) ?hr ?_;(case hd=>rfl);(case hg=>rfl);(case hr=>exact hr_);intro gb376 hg w6 hbox hb;replace HB:=am_ (below_step ((a7_ HI0.out)) hb);have BK376:=am_ (hbox);have GW376:=am_ ((by rw[hg];exact(keep_size (w:=w) (g:=g) (row:=none) (a6_)):w.heap.size≤gb376));have GE376:=am_ ((Nat.le_trans HW0.out (by rw[hg];exact(keep_size (w:=w) (g:=g) (row:=none) (a6_)):w.heap.size≤gb376):w0.heap.size≤gb376));replace HK:=am_ (KeepBut.trans (a6_) (KeepBut.of_below hb g none) (.inl rfl));have NB0_376:=am_ ((by rw[hg];exact Nat.ne_of_lt (IsS76.lt (show IsS76 w0 _ g s0_0 s0_1 s0_2 from(a5_ HI0.out))):g≠gb376));have NB376_0:=am_ ((by rw[hg];exact Nat.ne_of_gt (IsS76.lt (show IsS76 w0 _ g s0_0 s0_1 s0_2 from(a5_ HI0.out))):gb376≠g));replace HI0:=am_ (IsS76.below ((a5_ HI0.out)) hb);clear hb hbox hg)|((with_reducible refine gate_callee (f:=101) rfl ?_);refine goesL_ (some 5) rfl rfl Try.func101 (by kernel_rfl) rfl #[.pointer (some ⟨g,0,none⟩)] rfl gd_ ?_;(with_reducible refine(spec_l1Cur_hole.calls g s0_0 s0_1 s0_2 t377 t378 t379 t380 t381 w0 _ ?side1 ?side2 A2.out).mono ?_);(case side1=>exact(a9_ HI0.out NB0_376.out));(case side2=>exact(a20_ HI0.out GE376.out));rintro e w7 ⟨rfl,hi,hb,hk⟩;refine⟨_,rfl,?_⟩;replace BK376:=am_ (KeepBut.blk hk (g':=gb376) (o:= .cells #[.int .i64 0, .int .i64 0, .int .i64 0] 42 (0,0)) ((a3_ BK376.out)) NB376_0.out (by simp));replace HK:=am_ (KeepBut.trans ((a17_ GW376.out)) hk (.inl rfl));replace HB:=am_ (hb);replace HI0:=am_ (hi);(try clear hb);(try clear hb2);(try clear hk);(try clear hi))|((with_reducible refine gate_dst (N:=3) rfl ?_);refine box_event ?hg (N:=3) ?hd (cs:= #[.int .i64 0, .int .i64 0, .int .i64 0]) (t:=42) ?hr ?_;(case hd=>rfl);(case hg=>rfl);(case hr=>exact hr_);intro gb382 hg w8 hbox hb;replace HB:=am_ (below_step ((a20_ HI0.out GE376.out)) hb);have BK382:=am_ (hbox);have GW382:=am_ ((by rw[hg];exact(keep_size (w:=w) (g:=g) (row:=none) ((a17_ GW376.out))):w.heap.size≤gb382));have GE382:=am_ ((Nat.le_trans HW0.out (by rw[hg];exact(keep_size (w:=w) (g:=g) (row:=none) ((a17_ GW376.out))):w.heap.size≤gb382):w0.heap.size≤gb382));replace HK:=am_ (KeepBut.trans ((a17_ GW376.out)) (KeepBut.of_below hb g none) (.inl rfl));have NB376_382:=am_ ((by rw[hg];exact Nat.ne_of_lt (blk_lt (g:=gb376) (o:= .cells #[.int .i64 0, .int .i64 0, .int .i64 0] 42 (0,0)) ((a3_ BK376.out))):gb376≠gb382));have NB382_376:=am_ ((by rw[hg];exact Nat.ne_of_gt (blk_lt (g:=gb376) (o:= .cells #[.int .i64 0, .int .i64 0, .int .i64 0] 42 (0,0)) ((a3_ BK376.out))):gb382≠gb376));replace BK376:=am_ (blk_below (g:=gb376) (o:= .cells #[.int .i64 0, .int .i64 0, .int .i64 0] 42 (0,0)) ((a3_ BK376.out)) hb);have NB0_382:=am_ ((by rw[hg];exact Nat.ne_of_lt (IsS76.lt (show IsS76 w0 _ g s0_0 t380 t381 from(a9_ HI0.out NB0_376.out))):g≠gb382));have NB382_0:=am_ ((by rw[hg];exact Nat.ne_of_gt (IsS76.lt (show IsS76 w0 _ g s0_0 t380 t381 from(a9_ HI0.out NB0_376.out))):gb382≠g));replace HI0:=am_ (IsS76.below ((a9_ HI0.out NB0_376.out)) hb);clear hb hbox hg;have hnb9:=NB382_376.out;have hnc9:=NB376_382.out;have hnb10:=NB382_0.out;have hnc10:=NB0_382.out;have hcz11_0:w8.cell? ⟨gb382,0,none⟩=some (.int .i64 0):=(blk_cell BK382.out 0).trans rfl;have hcz11_1:w8.cell? ⟨gb382,1,none⟩=some (.int .i64 0):=(blk_cell BK382.out 1).trans rfl;have hcz11_2:w8.cell? ⟨gb382,2,none⟩=some (.int .i64 0):=(blk_cell BK382.out 2).trans rfl;have hfz11_0:=blk_frozen BK382.out 0;have hfz11_1:=blk_frozen BK382.out 1;have hfz11_2:=blk_frozen BK382.out 2)|((with_reducible refine gate_callee (f:=55) rfl ?_);refine goesL_ (some 7) rfl rfl Try.func55 (by kernel_rfl) rfl #[.pointer (some ⟨g,0,none⟩), .int .i64 24] rfl gd_ ?_;(with_reducible refine(spec_l1Cur_pick.calls g s0_0 t380 t381 24 t383 t384 t385 w0 _ ?side1 ?side2 A3.out).mono ?_);(case side1=>exact(a11_ HI0.out NB0_376.out NB0_382.out));(case side2=>exact(a23_ HI0.out GE376.out GE382.out));rintro e w12 ⟨rfl,hi,hb,hk⟩;refine⟨_,rfl,?_⟩;replace BK376:=am_ (KeepBut.blk hk (g':=gb376) (o:= .cells #[.int .i64 0, .int .i64 0, .int .i64 0] 42 (0,0)) ((a15_ NB376_382.out BK376.out)) NB376_0.out (by simp));replace BK382:=am_ (KeepBut.blk hk (g':=gb382) (o:= .cells #[.int .i64 t377, .int .i64 t378, .int .i64 t379] 42 (0,0)) ((a21_ BK382.out)) NB382_0.out (by simp));replace HK:=am_ (KeepBut.trans ((a22_ GW376.out GW382.out)) hk (.inl rfl));replace HB:=am_ (hb);replace HI0:=am_ (hi);(try clear hb);(try clear hb2);(try clear hk);(try clear hi))|((with_reducible refine gate_dst (N:=11) rfl ?_);refine Kd.R_lit (Kd.int .i64) _ 3 ?hg (N:=11) ?hd (xs:=([(-1),19,20]:List Int)) (inner:=[.int .i64 (-1), .int .i64 19, .int .i64 20]) (ok:=fun _=>True) (okp:=fun _=>True) ?hr ?hp (fun _ hk=>hk) trivial (Below.refl _ _) (Nat.le_refl _) (by simp) ?_;(case hd=>rfl);(case hg=>rfl);(case hr=>exact hr_);(case hp=>exact(Reps.one (show Kd.M (Kd.int .i64) _ _ _ (-1) [.int .i64 (-1)] from rfl) (Reps.one (show Kd.M (Kd.int .i64) _ _ _ 19 [.int .i64 19] from rfl) (Reps.one (show Kd.M (Kd.int .i64) _ _ _ 20 [.int .i64 20] from rfl) (Reps.none _ _)))));intro v387 w13 ho14 hb hg_ hnew_;clear hg_ hnew_;(first|rw[← Ny386.out]at ho14|(simp only[Int.reduceToNat]at ho14;rw[← Ny386.out]at ho14));have HO388:=am_ (Kd.R_lower ho14 (keep_size (w:=w) (g:=g) (row:=none) ((a22_ GW376.out GW382.out))));replace BK376:=am_ (blk_below (g:=gb376) (o:= .cells #[.int .i64 0, .int .i64 0, .int .i64 0] 42 (0,0)) ((a3_ BK376.out)) hb);replace BK382:=am_ (blk_below (g:=gb382) (o:= .cells #[.int .i64 t377, .int .i64 t378, .int .i64 t379] 42 (0,0)) ((a3_ BK382.out)) hb);replace HK:=am_ (KeepBut.trans ((a22_ GW376.out GW382.out)) (KeepBut.of_below hb g none) (.inl rfl));replace HB:=am_ (below_step ((a23_ HI0.out GE376.out GE382.out)) hb);replace HI0:=am_ (IsS76.below ((a11_ HI0.out NB0_376.out NB0_382.out)) hb);clear hb ho14;obtain⟨Ao15,co15,eo15⟩:=Kd.R_slice HO388.out;subst eo15)|((with_reducible refine gate_callee (f:=57) rfl ?_);refine goesL_ (some 12) rfl rfl Try.func57 (by kernel_rfl) rfl #[.pointer (some ⟨g,0,none⟩), .slice Ao15 y386.length co15] rfl gd_ ?_;(with_reducible refine(spec_l1Cur_among.calls g s0_0 t384 t385 _ _ y386 t389 t390 t391 w0 _ ?side1 ?side2 ?side3 ?side4 ?side5 A5.out).mono ?_);(case side1=>exact(a11_ HI0.out NB0_376.out NB0_382.out));(case side2=>exact(a23_ HI0.out GE376.out GE382.out));(case side3=>exact(a4_ HO388.out));(case side4=>exact(Kd.R_reads' HO388.out).2.1);(case side5=>exact far_slice (IsS76.own_ne HI0.out HO388.out (by decide)));rintro e w16 ⟨rfl,hi,hb,hk⟩;refine⟨_,rfl,?_⟩;replace BK376:=am_ (KeepBut.blk hk (g':=gb376) (o:= .cells #[.int .i64 0, .int .i64 0, .int .i64 0] 42 (0,0)) ((a3_ BK376.out)) NB376_0.out (by simp));replace BK382:=am_ (KeepBut.blk hk (g':=gb382) (o:= .cells #[.int .i64 t377, .int .i64 t378, .int .i64 t379] 42 (0,0)) ((a3_ BK382.out)) NB382_0.out (by simp));replace HO388:=am_ (Kd.R_mono (Kd.R_keep (IsS76.apart (show IsS76 w0 _ g s0_0 t384 t385 from(a11_ HI0.out NB0_376.out NB0_382.out)) ((a0_ HO388.out)) (by decide)) hk (fun _ h=>h.2)) (fun _ h=>h.1));replace HK:=am_ (KeepBut.trans ((a22_ GW376.out GW382.out)) hk (.inl rfl));replace HB:=am_ (hb);replace HI0:=am_ (hi);(try clear hb);(try clear hb2);(try clear hk);(try clear hi);have hcz17_0:w16.cell? ⟨gb382,0,none⟩=some (.int .i64 t377):=(blk_cell BK382.out 0).trans rfl;have hcz17_1:w16.cell? ⟨gb382,1,none⟩=some (.int .i64 t378):=(blk_cell BK382.out 1).trans rfl;have hcz17_2:w16.cell? ⟨gb382,2,none⟩=some (.int .i64 t379):=(blk_cell BK382.out 2).trans rfl;have hfz17_0:=blk_frozen BK382.out 0;have hfz17_1:=blk_frozen BK382.out 1;have hfz17_2:=blk_frozen BK382.out 2;have hnb18:=NB376_0.out;have hnc18:=NB0_376.out;have hcz19_0:w16.cell? ⟨gb376,0,none⟩=some (.int .i64 0):=(blk_cell BK376.out 0).trans rfl;have hcz19_1:w16.cell? ⟨gb376,1,none⟩=some (.int .i64 0):=(blk_cell BK376.out 1).trans rfl;have hcz19_2:w16.cell? ⟨gb376,2,none⟩=some (.int .i64 0):=(blk_cell BK376.out 2).trans rfl;have hfz19_0:=blk_frozen BK376.out 0;have hfz19_1:=blk_frozen BK376.out 1;have hfz19_2:=blk_frozen BK376.out 2))
  refine bodyPost_ret (results_cell_row rfl _ _ gb376 42 #[.int .i64 t389, .int .i64 t378, .int .i64 t379] (0,0) _ rfl (by(with_reducible repeat (first|refine blk_drewN ?_ _ | refine blk_drew ?_ | refine blk_alloc ?_ _));refine blk_put (cs:= #[.int .i64 t389, .int .i64 t378, .int .i64 0]) ?_ 2 _ rfl;(with_reducible repeat (first|refine blk_drewN ?_ _ | refine blk_drew ?_ | refine blk_alloc ?_ _));refine blk_put (cs:= #[.int .i64 t389, .int .i64 0, .int .i64 0]) ?_ 1 _ rfl;(with_reducible repeat (first|refine blk_drewN ?_ _ | refine blk_drew ?_ | refine blk_alloc ?_ _));refine blk_put (cs:= #[.int .i64 0, .int .i64 0, .int .i64 0]) ?_ 0 _ rfl;(with_reducible repeat (first|refine blk_drewN ?_ _ | refine blk_drew ?_ | refine blk_alloc ?_ _));refine blk_far ?_ NB376_382.out _;(with_reducible repeat (first|refine blk_drewN ?_ _ | refine blk_drew ?_ | refine blk_alloc ?_ _));exact BK376.out) Try.underlying42 rfl (by kernel_rfl)) rfl ?_
  exact⟨a12_,(a11_ HI0.out NB0_376.out NB0_382.out),(a23_ HI0.out GE376.out GE382.out),(a22_ GW376.out GW382.out)⟩
 ·rw[if_neg c4]at H
  have c4b0:(t383 == 0)=false:=beq_eq_false_iff_ne.mpr c4
  have c4b1:(t383 != 0)=true:=bne_iff_ne.mpr c4
  by_cases c20:t383=1
  ·rw[if_pos c20]at H
   have c20b0:(t383 == 1)=true:=beq_iff_eq.mpr c20
   have c20b1:(t383 != 1)=false:=bne_eq_false_iff_eq.mpr c20
   clear c20
   obtain⟨y392,hy392⟩:∃y_:List Int,y_=(([(-1),t379]:List Int)):=⟨_,rfl⟩
   replace H:((spec_l1Cur_among.f s0_0 t384 t385 y392).bind fun bt395=>(some (t377,bt395.1,t379,bt395.2.1,bt395.2.2)))=some (r1,r2,r3,r4,r5):=by first|(rw[hy392];with_reducible exact H)|(have H2_:=(Option.bind_some _ _).symm.trans H;rw[hy392];with_reducible exact H2_)|(have H2_:=(Option.bind_some _ _).symm.trans H;with_reducible exact H2_) | with_reducible exact H|(rw[hy392];exact H)|exact H
   have Ny392:=am_ hy392
   clear hy392
   obtain⟨⟨t395,t396,t397⟩,A21,H⟩:=bo_ H
   try dsimp only at H
   simp only[Option.some.injEq,Prod.mk.injEq]at H
   obtain⟨rfl,rfl,rfl,rfl,rfl⟩:=H
   go_enter Try.func71,Try.ntmps71
   go_wp2_with (first|((with_reducible refine gate_dst (N:=2) rfl ?_);refine box_event ?hg (N:=2) ?hd (cs:= #[.int .i64 0, .int .i64 0, .int .i64 0]) (t:=42) ?hr ?_;(case hd=>rfl);(case hg=>rfl);(case hr=>exact hr_);intro gb376 hg w22 hbox hb;replace HB:=am_ (below_step ((a7_ HI0.out)) hb);have BK376:=am_ (hbox);have GW376:=am_ ((by rw[hg];exact(keep_size (w:=w) (g:=g) (row:=none) (a6_)):w.heap.size≤gb376));have GE376:=am_ ((Nat.le_trans HW0.out (by rw[hg];exact(keep_size (w:=w) (g:=g) (row:=none) (a6_)):w.heap.size≤gb376):w0.heap.size≤gb376));replace HK:=am_ (KeepBut.trans (a6_) (KeepBut.of_below hb g none) (.inl rfl));have NB0_376:=am_ ((by rw[hg];exact Nat.ne_of_lt (IsS76.lt (show IsS76 w0 _ g s0_0 s0_1 s0_2 from(a5_ HI0.out))):g≠gb376));have NB376_0:=am_ ((by rw[hg];exact Nat.ne_of_gt (IsS76.lt (show IsS76 w0 _ g s0_0 s0_1 s0_2 from(a5_ HI0.out))):gb376≠g));replace HI0:=am_ (IsS76.below ((a5_ HI0.out)) hb);clear hb hbox hg)|((with_reducible refine gate_callee (f:=101) rfl ?_);refine goesL_ (some 5) rfl rfl Try.func101 (by kernel_rfl) rfl #[.pointer (some ⟨g,0,none⟩)] rfl gd_ ?_;(with_reducible refine(spec_l1Cur_hole.calls g s0_0 s0_1 s0_2 t377 t378 t379 t380 t381 w0 _ ?side1 ?side2 A2.out).mono ?_);(case side1=>exact(a9_ HI0.out NB0_376.out));(case side2=>exact(a20_ HI0.out GE376.out));rintro e w23 ⟨rfl,hi,hb,hk⟩;refine⟨_,rfl,?_⟩;replace BK376:=am_ (KeepBut.blk hk (g':=gb376) (o:= .cells #[.int .i64 0, .int .i64 0, .int .i64 0] 42 (0,0)) ((a3_ BK376.out)) NB376_0.out (by simp));replace HK:=am_ (KeepBut.trans ((a17_ GW376.out)) hk (.inl rfl));replace HB:=am_ (hb);replace HI0:=am_ (hi);(try clear hb);(try clear hb2);(try clear hk);(try clear hi))|((with_reducible refine gate_dst (N:=3) rfl ?_);refine box_event ?hg (N:=3) ?hd (cs:= #[.int .i64 0, .int .i64 0, .int .i64 0]) (t:=42) ?hr ?_;(case hd=>rfl);(case hg=>rfl);(case hr=>exact hr_);intro gb382 hg w24 hbox hb;replace HB:=am_ (below_step ((a20_ HI0.out GE376.out)) hb);have BK382:=am_ (hbox);have GW382:=am_ ((by rw[hg];exact(keep_size (w:=w) (g:=g) (row:=none) ((a17_ GW376.out))):w.heap.size≤gb382));have GE382:=am_ ((Nat.le_trans HW0.out (by rw[hg];exact(keep_size (w:=w) (g:=g) (row:=none) ((a17_ GW376.out))):w.heap.size≤gb382):w0.heap.size≤gb382));replace HK:=am_ (KeepBut.trans ((a17_ GW376.out)) (KeepBut.of_below hb g none) (.inl rfl));have NB376_382:=am_ ((by rw[hg];exact Nat.ne_of_lt (blk_lt (g:=gb376) (o:= .cells #[.int .i64 0, .int .i64 0, .int .i64 0] 42 (0,0)) ((a3_ BK376.out))):gb376≠gb382));have NB382_376:=am_ ((by rw[hg];exact Nat.ne_of_gt (blk_lt (g:=gb376) (o:= .cells #[.int .i64 0, .int .i64 0, .int .i64 0] 42 (0,0)) ((a3_ BK376.out))):gb382≠gb376));replace BK376:=am_ (blk_below (g:=gb376) (o:= .cells #[.int .i64 0, .int .i64 0, .int .i64 0] 42 (0,0)) ((a3_ BK376.out)) hb);have NB0_382:=am_ ((by rw[hg];exact Nat.ne_of_lt (IsS76.lt (show IsS76 w0 _ g s0_0 t380 t381 from(a9_ HI0.out NB0_376.out))):g≠gb382));have NB382_0:=am_ ((by rw[hg];exact Nat.ne_of_gt (IsS76.lt (show IsS76 w0 _ g s0_0 t380 t381 from(a9_ HI0.out NB0_376.out))):gb382≠g));replace HI0:=am_ (IsS76.below ((a9_ HI0.out NB0_376.out)) hb);clear hb hbox hg;have hnb25:=NB382_376.out;have hnc25:=NB376_382.out;have hnb26:=NB382_0.out;have hnc26:=NB0_382.out;have hcz27_0:w24.cell? ⟨gb382,0,none⟩=some (.int .i64 0):=(blk_cell BK382.out 0).trans rfl;have hcz27_1:w24.cell? ⟨gb382,1,none⟩=some (.int .i64 0):=(blk_cell BK382.out 1).trans rfl;have hcz27_2:w24.cell? ⟨gb382,2,none⟩=some (.int .i64 0):=(blk_cell BK382.out 2).trans rfl;have hfz27_0:=blk_frozen BK382.out 0;have hfz27_1:=blk_frozen BK382.out 1;have hfz27_2:=blk_frozen BK382.out 2)|((with_reducible refine gate_callee (f:=55) rfl ?_);refine goesL_ (some 7) rfl rfl Try.func55 (by kernel_rfl) rfl #[.pointer (some ⟨g,0,none⟩), .int .i64 24] rfl gd_ ?_;(with_reducible refine(spec_l1Cur_pick.calls g s0_0 t380 t381 24 t383 t384 t385 w0 _ ?side1 ?side2 A3.out).mono ?_);(case side1=>exact(a11_ HI0.out NB0_376.out NB0_382.out));(case side2=>exact(a23_ HI0.out GE376.out GE382.out));rintro e w28 ⟨rfl,hi,hb,hk⟩;refine⟨_,rfl,?_⟩;replace BK376:=am_ (KeepBut.blk hk (g':=gb376) (o:= .cells #[.int .i64 0, .int .i64 0, .int .i64 0] 42 (0,0)) ((a15_ NB376_382.out BK376.out)) NB376_0.out (by simp));replace BK382:=am_ (KeepBut.blk hk (g':=gb382) (o:= .cells #[.int .i64 t377, .int .i64 t378, .int .i64 t379] 42 (0,0)) ((a21_ BK382.out)) NB382_0.out (by simp));replace HK:=am_ (KeepBut.trans ((a22_ GW376.out GW382.out)) hk (.inl rfl));replace HB:=am_ (hb);replace HI0:=am_ (hi);(try clear hb);(try clear hb2);(try clear hk);(try clear hi);have hcz29_0:w28.cell? ⟨gb382,0,none⟩=some (.int .i64 t377):=(blk_cell BK382.out 0).trans rfl;have hcz29_1:w28.cell? ⟨gb382,1,none⟩=some (.int .i64 t378):=(blk_cell BK382.out 1).trans rfl;have hcz29_2:w28.cell? ⟨gb382,2,none⟩=some (.int .i64 t379):=(blk_cell BK382.out 2).trans rfl;have hfz29_0:=blk_frozen BK382.out 0;have hfz29_1:=blk_frozen BK382.out 1;have hfz29_2:=blk_frozen BK382.out 2)|((with_reducible refine gate_dst (N:=19) rfl ?_);refine Kd.R_lit (Kd.int .i64) _ 3 ?hg (N:=19) ?hd (xs:=([(-1),t379]:List Int)) (inner:=[.int .i64 (-1), .int .i64 t379]) (ok:=fun _=>True) (okp:=fun _=>True) ?hr ?hp (fun _ hk=>hk) trivial (Below.refl _ _) (Nat.le_refl _) (by simp) ?_;(case hd=>rfl);(case hg=>rfl);(case hr=>exact hr_);(case hp=>exact(Reps.one (show Kd.M (Kd.int .i64) _ _ _ (-1) [.int .i64 (-1)] from rfl) (Reps.one (show Kd.M (Kd.int .i64) _ _ _ t379 [.int .i64 t379] from rfl) (Reps.none _ _))));intro v393 w30 ho31 hb hg_ hnew_;clear hg_ hnew_;(first|rw[← Ny392.out]at ho31|(simp only[Int.reduceToNat]at ho31;rw[← Ny392.out]at ho31));have HO394:=am_ (Kd.R_lower ho31 (keep_size (w:=w) (g:=g) (row:=none) ((a22_ GW376.out GW382.out))));replace BK376:=am_ (blk_below (g:=gb376) (o:= .cells #[.int .i64 0, .int .i64 0, .int .i64 0] 42 (0,0)) ((a3_ BK376.out)) hb);replace BK382:=am_ (blk_below (g:=gb382) (o:= .cells #[.int .i64 t377, .int .i64 t378, .int .i64 t379] 42 (0,0)) ((a3_ BK382.out)) hb);replace HK:=am_ (KeepBut.trans ((a22_ GW376.out GW382.out)) (KeepBut.of_below hb g none) (.inl rfl));replace HB:=am_ (below_step ((a23_ HI0.out GE376.out GE382.out)) hb);replace HI0:=am_ (IsS76.below ((a11_ HI0.out NB0_376.out NB0_382.out)) hb);clear hb ho31;obtain⟨Ao32,co32,eo32⟩:=Kd.R_slice HO394.out;subst eo32)|((with_reducible refine gate_callee (f:=57) rfl ?_);refine goesL_ (some 20) rfl rfl Try.func57 (by kernel_rfl) rfl #[.pointer (some ⟨g,0,none⟩), .slice Ao32 y392.length co32] rfl gd_ ?_;(with_reducible refine(spec_l1Cur_among.calls g s0_0 t384 t385 _ _ y392 t395 t396 t397 w0 _ ?side1 ?side2 ?side3 ?side4 ?side5 A21.out).mono ?_);(case side1=>exact(a11_ HI0.out NB0_376.out NB0_382.out));(case side2=>exact(a23_ HI0.out GE376.out GE382.out));(case side3=>exact(a4_ HO394.out));(case side4=>exact(Kd.R_reads' HO394.out).2.1);(case side5=>exact far_slice (IsS76.own_ne HI0.out HO394.out (by decide)));rintro e w33 ⟨rfl,hi,hb,hk⟩;refine⟨_,rfl,?_⟩;replace BK376:=am_ (KeepBut.blk hk (g':=gb376) (o:= .cells #[.int .i64 0, .int .i64 0, .int .i64 0] 42 (0,0)) ((a3_ BK376.out)) NB376_0.out (by simp));replace BK382:=am_ (KeepBut.blk hk (g':=gb382) (o:= .cells #[.int .i64 t377, .int .i64 t378, .int .i64 t379] 42 (0,0)) ((a3_ BK382.out)) NB382_0.out (by simp));replace HO394:=am_ (Kd.R_mono (Kd.R_keep (IsS76.apart (show IsS76 w0 _ g s0_0 t384 t385 from(a11_ HI0.out NB0_376.out NB0_382.out)) ((a0_ HO394.out)) (by decide)) hk (fun _ h=>h.2)) (fun _ h=>h.1));replace HK:=am_ (KeepBut.trans ((a22_ GW376.out GW382.out)) hk (.inl rfl));replace HB:=am_ (hb);replace HI0:=am_ (hi);(try clear hb);(try clear hb2);(try clear hk);(try clear hi);have hcz34_0:w33.cell? ⟨gb382,0,none⟩=some (.int .i64 t377):=(blk_cell BK382.out 0).trans rfl;have hcz34_1:w33.cell? ⟨gb382,1,none⟩=some (.int .i64 t378):=(blk_cell BK382.out 1).trans rfl;have hcz34_2:w33.cell? ⟨gb382,2,none⟩=some (.int .i64 t379):=(blk_cell BK382.out 2).trans rfl;have hfz34_0:=blk_frozen BK382.out 0;have hfz34_1:=blk_frozen BK382.out 1;have hfz34_2:=blk_frozen BK382.out 2;have hnb35:=NB376_0.out;have hnc35:=NB0_376.out;have hcz36_0:w33.cell? ⟨gb376,0,none⟩=some (.int .i64 0):=(blk_cell BK376.out 0).trans rfl;have hcz36_1:w33.cell? ⟨gb376,1,none⟩=some (.int .i64 0):=(blk_cell BK376.out 1).trans rfl;have hcz36_2:w33.cell? ⟨gb376,2,none⟩=some (.int .i64 0):=(blk_cell BK376.out 2).trans rfl;have hfz36_0:=blk_frozen BK376.out 0;have hfz36_1:=blk_frozen BK376.out 1;have hfz36_2:=blk_frozen BK376.out 2))
   refine bodyPost_ret (results_cell_row rfl _ _ gb376 42 #[.int .i64 t377, .int .i64 t395, .int .i64 t379] (0,0) _ rfl (by(with_reducible repeat (first|refine blk_drewN ?_ _ | refine blk_drew ?_ | refine blk_alloc ?_ _));refine blk_put (cs:= #[.int .i64 t377, .int .i64 t395, .int .i64 0]) ?_ 2 _ rfl;(with_reducible repeat (first|refine blk_drewN ?_ _ | refine blk_drew ?_ | refine blk_alloc ?_ _));refine blk_put (cs:= #[.int .i64 t377, .int .i64 0, .int .i64 0]) ?_ 1 _ rfl;(with_reducible repeat (first|refine blk_drewN ?_ _ | refine blk_drew ?_ | refine blk_alloc ?_ _));refine blk_put (cs:= #[.int .i64 0, .int .i64 0, .int .i64 0]) ?_ 0 _ rfl;(with_reducible repeat (first|refine blk_drewN ?_ _ | refine blk_drew ?_ | refine blk_alloc ?_ _));refine blk_far ?_ NB376_382.out _;(with_reducible repeat (first|refine blk_drewN ?_ _ | refine blk_drew ?_ | refine blk_alloc ?_ _));exact BK376.out) Try.underlying42 rfl (by kernel_rfl)) rfl ?_
   exact⟨a12_,(a11_ HI0.out NB0_376.out NB0_382.out),(a23_ HI0.out GE376.out GE382.out),(a22_ GW376.out GW382.out)⟩
  ·rw[if_neg c20]at H
   have c20b0:(t383 == 1)=false:=beq_eq_false_iff_ne.mpr c20
   have c20b1:(t383 != 1)=true:=bne_iff_ne.mpr c20
   by_cases c37:t383=2
   ·rw[if_pos c37]at H
    have c37b0:(t383 == 2)=true:=beq_iff_eq.mpr c37
    have c37b1:(t383 != 2)=false:=bne_eq_false_iff_eq.mpr c37
    clear c37
    obtain⟨y398,hy398⟩:∃y_:List Int,y_=(([t378,2000,2001]:List Int)):=⟨_,rfl⟩
    replace H:((spec_l1Cur_among.f s0_0 t384 t385 y398).bind fun bt401=>(some (t377,t378,bt401.1,bt401.2.1,bt401.2.2)))=some (r1,r2,r3,r4,r5):=by first|(rw[hy398];with_reducible exact H)|(have H2_:=(Option.bind_some _ _).symm.trans H;rw[hy398];with_reducible exact H2_)|(have H2_:=(Option.bind_some _ _).symm.trans H;with_reducible exact H2_) | with_reducible exact H|(rw[hy398];exact H)|exact H
    have Ny398:=am_ hy398
    clear hy398
    obtain⟨⟨t401,t402,t403⟩,A38,H⟩:=bo_ H
    try dsimp only at H
    simp only[Option.some.injEq,Prod.mk.injEq]at H
    obtain⟨rfl,rfl,rfl,rfl,rfl⟩:=H
    go_enter Try.func71,Try.ntmps71
    go_wp2_with (first|((with_reducible refine gate_dst (N:=2) rfl ?_);refine box_event ?hg (N:=2) ?hd (cs:= #[.int .i64 0, .int .i64 0, .int .i64 0]) (t:=42) ?hr ?_;(case hd=>rfl);(case hg=>rfl);(case hr=>exact hr_);intro gb376 hg w39 hbox hb;replace HB:=am_ (below_step ((a7_ HI0.out)) hb);have BK376:=am_ (hbox);have GW376:=am_ ((by rw[hg];exact(keep_size (w:=w) (g:=g) (row:=none) (a6_)):w.heap.size≤gb376));have GE376:=am_ ((Nat.le_trans HW0.out (by rw[hg];exact(keep_size (w:=w) (g:=g) (row:=none) (a6_)):w.heap.size≤gb376):w0.heap.size≤gb376));replace HK:=am_ (KeepBut.trans (a6_) (KeepBut.of_below hb g none) (.inl rfl));have NB0_376:=am_ ((by rw[hg];exact Nat.ne_of_lt (IsS76.lt (show IsS76 w0 _ g s0_0 s0_1 s0_2 from(a5_ HI0.out))):g≠gb376));have NB376_0:=am_ ((by rw[hg];exact Nat.ne_of_gt (IsS76.lt (show IsS76 w0 _ g s0_0 s0_1 s0_2 from(a5_ HI0.out))):gb376≠g));replace HI0:=am_ (IsS76.below ((a5_ HI0.out)) hb);clear hb hbox hg)|((with_reducible refine gate_callee (f:=101) rfl ?_);refine goesL_ (some 5) rfl rfl Try.func101 (by kernel_rfl) rfl #[.pointer (some ⟨g,0,none⟩)] rfl gd_ ?_;(with_reducible refine(spec_l1Cur_hole.calls g s0_0 s0_1 s0_2 t377 t378 t379 t380 t381 w0 _ ?side1 ?side2 A2.out).mono ?_);(case side1=>exact(a9_ HI0.out NB0_376.out));(case side2=>exact(a20_ HI0.out GE376.out));rintro e w40 ⟨rfl,hi,hb,hk⟩;refine⟨_,rfl,?_⟩;replace BK376:=am_ (KeepBut.blk hk (g':=gb376) (o:= .cells #[.int .i64 0, .int .i64 0, .int .i64 0] 42 (0,0)) ((a3_ BK376.out)) NB376_0.out (by simp));replace HK:=am_ (KeepBut.trans ((a17_ GW376.out)) hk (.inl rfl));replace HB:=am_ (hb);replace HI0:=am_ (hi);(try clear hb);(try clear hb2);(try clear hk);(try clear hi))|((with_reducible refine gate_dst (N:=3) rfl ?_);refine box_event ?hg (N:=3) ?hd (cs:= #[.int .i64 0, .int .i64 0, .int .i64 0]) (t:=42) ?hr ?_;(case hd=>rfl);(case hg=>rfl);(case hr=>exact hr_);intro gb382 hg w41 hbox hb;replace HB:=am_ (below_step ((a20_ HI0.out GE376.out)) hb);have BK382:=am_ (hbox);have GW382:=am_ ((by rw[hg];exact(keep_size (w:=w) (g:=g) (row:=none) ((a17_ GW376.out))):w.heap.size≤gb382));have GE382:=am_ ((Nat.le_trans HW0.out (by rw[hg];exact(keep_size (w:=w) (g:=g) (row:=none) ((a17_ GW376.out))):w.heap.size≤gb382):w0.heap.size≤gb382));replace HK:=am_ (KeepBut.trans ((a17_ GW376.out)) (KeepBut.of_below hb g none) (.inl rfl));have NB376_382:=am_ ((by rw[hg];exact Nat.ne_of_lt (blk_lt (g:=gb376) (o:= .cells #[.int .i64 0, .int .i64 0, .int .i64 0] 42 (0,0)) ((a3_ BK376.out))):gb376≠gb382));have NB382_376:=am_ ((by rw[hg];exact Nat.ne_of_gt (blk_lt (g:=gb376) (o:= .cells #[.int .i64 0, .int .i64 0, .int .i64 0] 42 (0,0)) ((a3_ BK376.out))):gb382≠gb376));replace BK376:=am_ (blk_below (g:=gb376) (o:= .cells #[.int .i64 0, .int .i64 0, .int .i64 0] 42 (0,0)) ((a3_ BK376.out)) hb);have NB0_382:=am_ ((by rw[hg];exact Nat.ne_of_lt (IsS76.lt (show IsS76 w0 _ g s0_0 t380 t381 from(a9_ HI0.out NB0_376.out))):g≠gb382));have NB382_0:=am_ ((by rw[hg];exact Nat.ne_of_gt (IsS76.lt (show IsS76 w0 _ g s0_0 t380 t381 from(a9_ HI0.out NB0_376.out))):gb382≠g));replace HI0:=am_ (IsS76.below ((a9_ HI0.out NB0_376.out)) hb);clear hb hbox hg;have hnb42:=NB382_376.out;have hnc42:=NB376_382.out;have hnb43:=NB382_0.out;have hnc43:=NB0_382.out;have hcz44_0:w41.cell? ⟨gb382,0,none⟩=some (.int .i64 0):=(blk_cell BK382.out 0).trans rfl;have hcz44_1:w41.cell? ⟨gb382,1,none⟩=some (.int .i64 0):=(blk_cell BK382.out 1).trans rfl;have hcz44_2:w41.cell? ⟨gb382,2,none⟩=some (.int .i64 0):=(blk_cell BK382.out 2).trans rfl;have hfz44_0:=blk_frozen BK382.out 0;have hfz44_1:=blk_frozen BK382.out 1;have hfz44_2:=blk_frozen BK382.out 2)|((with_reducible refine gate_callee (f:=55) rfl ?_);refine goesL_ (some 7) rfl rfl Try.func55 (by kernel_rfl) rfl #[.pointer (some ⟨g,0,none⟩), .int .i64 24] rfl gd_ ?_;(with_reducible refine(spec_l1Cur_pick.calls g s0_0 t380 t381 24 t383 t384 t385 w0 _ ?side1 ?side2 A3.out).mono ?_);(case side1=>exact(a11_ HI0.out NB0_376.out NB0_382.out));(case side2=>exact(a23_ HI0.out GE376.out GE382.out));rintro e w45 ⟨rfl,hi,hb,hk⟩;refine⟨_,rfl,?_⟩;replace BK376:=am_ (KeepBut.blk hk (g':=gb376) (o:= .cells #[.int .i64 0, .int .i64 0, .int .i64 0] 42 (0,0)) ((a15_ NB376_382.out BK376.out)) NB376_0.out (by simp));replace BK382:=am_ (KeepBut.blk hk (g':=gb382) (o:= .cells #[.int .i64 t377, .int .i64 t378, .int .i64 t379] 42 (0,0)) ((a21_ BK382.out)) NB382_0.out (by simp));replace HK:=am_ (KeepBut.trans ((a22_ GW376.out GW382.out)) hk (.inl rfl));replace HB:=am_ (hb);replace HI0:=am_ (hi);(try clear hb);(try clear hb2);(try clear hk);(try clear hi);have hcz46_0:w45.cell? ⟨gb382,0,none⟩=some (.int .i64 t377):=(blk_cell BK382.out 0).trans rfl;have hcz46_1:w45.cell? ⟨gb382,1,none⟩=some (.int .i64 t378):=(blk_cell BK382.out 1).trans rfl;have hcz46_2:w45.cell? ⟨gb382,2,none⟩=some (.int .i64 t379):=(blk_cell BK382.out 2).trans rfl;have hfz46_0:=blk_frozen BK382.out 0;have hfz46_1:=blk_frozen BK382.out 1;have hfz46_2:=blk_frozen BK382.out 2)|((with_reducible refine gate_dst (N:=27) rfl ?_);refine Kd.R_lit (Kd.int .i64) _ 3 ?hg (N:=27) ?hd (xs:=([t378,2000,2001]:List Int)) (inner:=[.int .i64 t378, .int .i64 2000, .int .i64 2001]) (ok:=fun _=>True) (okp:=fun _=>True) ?hr ?hp (fun _ hk=>hk) trivial (Below.refl _ _) (Nat.le_refl _) (by simp) ?_;(case hd=>rfl);(case hg=>rfl);(case hr=>exact hr_);(case hp=>exact(Reps.one (show Kd.M (Kd.int .i64) _ _ _ t378 [.int .i64 t378] from rfl) (Reps.one (show Kd.M (Kd.int .i64) _ _ _ 2000 [.int .i64 2000] from rfl) (Reps.one (show Kd.M (Kd.int .i64) _ _ _ 2001 [.int .i64 2001] from rfl) (Reps.none _ _)))));intro v399 w47 ho48 hb hg_ hnew_;clear hg_ hnew_;(first|rw[← Ny398.out]at ho48|(simp only[Int.reduceToNat]at ho48;rw[← Ny398.out]at ho48));have HO400:=am_ (Kd.R_lower ho48 (keep_size (w:=w) (g:=g) (row:=none) ((a22_ GW376.out GW382.out))));replace BK376:=am_ (blk_below (g:=gb376) (o:= .cells #[.int .i64 0, .int .i64 0, .int .i64 0] 42 (0,0)) ((a3_ BK376.out)) hb);replace BK382:=am_ (blk_below (g:=gb382) (o:= .cells #[.int .i64 t377, .int .i64 t378, .int .i64 t379] 42 (0,0)) ((a3_ BK382.out)) hb);replace HK:=am_ (KeepBut.trans ((a22_ GW376.out GW382.out)) (KeepBut.of_below hb g none) (.inl rfl));replace HB:=am_ (below_step ((a23_ HI0.out GE376.out GE382.out)) hb);replace HI0:=am_ (IsS76.below ((a11_ HI0.out NB0_376.out NB0_382.out)) hb);clear hb ho48;obtain⟨Ao49,co49,eo49⟩:=Kd.R_slice HO400.out;subst eo49)|((with_reducible refine gate_callee (f:=57) rfl ?_);refine goesL_ (some 28) rfl rfl Try.func57 (by kernel_rfl) rfl #[.pointer (some ⟨g,0,none⟩), .slice Ao49 y398.length co49] rfl gd_ ?_;(with_reducible refine(spec_l1Cur_among.calls g s0_0 t384 t385 _ _ y398 t401 t402 t403 w0 _ ?side1 ?side2 ?side3 ?side4 ?side5 A38.out).mono ?_);(case side1=>exact(a11_ HI0.out NB0_376.out NB0_382.out));(case side2=>exact(a23_ HI0.out GE376.out GE382.out));(case side3=>exact(a4_ HO400.out));(case side4=>exact(Kd.R_reads' HO400.out).2.1);(case side5=>exact far_slice (IsS76.own_ne HI0.out HO400.out (by decide)));rintro e w50 ⟨rfl,hi,hb,hk⟩;refine⟨_,rfl,?_⟩;replace BK376:=am_ (KeepBut.blk hk (g':=gb376) (o:= .cells #[.int .i64 0, .int .i64 0, .int .i64 0] 42 (0,0)) ((a3_ BK376.out)) NB376_0.out (by simp));replace BK382:=am_ (KeepBut.blk hk (g':=gb382) (o:= .cells #[.int .i64 t377, .int .i64 t378, .int .i64 t379] 42 (0,0)) ((a3_ BK382.out)) NB382_0.out (by simp));replace HO400:=am_ (Kd.R_mono (Kd.R_keep (IsS76.apart (show IsS76 w0 _ g s0_0 t384 t385 from(a11_ HI0.out NB0_376.out NB0_382.out)) ((a0_ HO400.out)) (by decide)) hk (fun _ h=>h.2)) (fun _ h=>h.1));replace HK:=am_ (KeepBut.trans ((a22_ GW376.out GW382.out)) hk (.inl rfl));replace HB:=am_ (hb);replace HI0:=am_ (hi);(try clear hb);(try clear hb2);(try clear hk);(try clear hi);have hcz51_0:w50.cell? ⟨gb382,0,none⟩=some (.int .i64 t377):=(blk_cell BK382.out 0).trans rfl;have hcz51_1:w50.cell? ⟨gb382,1,none⟩=some (.int .i64 t378):=(blk_cell BK382.out 1).trans rfl;have hcz51_2:w50.cell? ⟨gb382,2,none⟩=some (.int .i64 t379):=(blk_cell BK382.out 2).trans rfl;have hfz51_0:=blk_frozen BK382.out 0;have hfz51_1:=blk_frozen BK382.out 1;have hfz51_2:=blk_frozen BK382.out 2;have hnb52:=NB376_0.out;have hnc52:=NB0_376.out;have hcz53_0:w50.cell? ⟨gb376,0,none⟩=some (.int .i64 0):=(blk_cell BK376.out 0).trans rfl;have hcz53_1:w50.cell? ⟨gb376,1,none⟩=some (.int .i64 0):=(blk_cell BK376.out 1).trans rfl;have hcz53_2:w50.cell? ⟨gb376,2,none⟩=some (.int .i64 0):=(blk_cell BK376.out 2).trans rfl;have hfz53_0:=blk_frozen BK376.out 0;have hfz53_1:=blk_frozen BK376.out 1;have hfz53_2:=blk_frozen BK376.out 2))
    refine bodyPost_ret (results_cell_row rfl _ _ gb376 42 #[.int .i64 t377, .int .i64 t378, .int .i64 t401] (0,0) _ rfl (by(with_reducible repeat (first|refine blk_drewN ?_ _ | refine blk_drew ?_ | refine blk_alloc ?_ _));refine blk_put (cs:= #[.int .i64 t377, .int .i64 t378, .int .i64 0]) ?_ 2 _ rfl;(with_reducible repeat (first|refine blk_drewN ?_ _ | refine blk_drew ?_ | refine blk_alloc ?_ _));refine blk_put (cs:= #[.int .i64 t377, .int .i64 0, .int .i64 0]) ?_ 1 _ rfl;(with_reducible repeat (first|refine blk_drewN ?_ _ | refine blk_drew ?_ | refine blk_alloc ?_ _));refine blk_put (cs:= #[.int .i64 0, .int .i64 0, .int .i64 0]) ?_ 0 _ rfl;(with_reducible repeat (first|refine blk_drewN ?_ _ | refine blk_drew ?_ | refine blk_alloc ?_ _));refine blk_far ?_ NB376_382.out _;(with_reducible repeat (first|refine blk_drewN ?_ _ | refine blk_drew ?_ | refine blk_alloc ?_ _));exact BK376.out) Try.underlying42 rfl (by kernel_rfl)) rfl ?_
    exact⟨a12_,(a11_ HI0.out NB0_376.out NB0_382.out),(a23_ HI0.out GE376.out GE382.out),(a22_ GW376.out GW382.out)⟩
   ·rw[if_neg c37]at H
    have c37b0:(t383 == 2)=false:=beq_eq_false_iff_ne.mpr c37
    have c37b1:(t383 != 2)=true:=bne_iff_ne.mpr c37
    simp only[Option.some.injEq,Prod.mk.injEq]at H
    obtain⟨rfl,rfl,rfl,rfl,rfl⟩:=H
    go_enter Try.func71,Try.ntmps71
    go_wp2_with (first|((with_reducible refine gate_dst (N:=2) rfl ?_);refine box_event ?hg (N:=2) ?hd (cs:= #[.int .i64 0, .int .i64 0, .int .i64 0]) (t:=42) ?hr ?_;(case hd=>rfl);(case hg=>rfl);(case hr=>exact hr_);intro gb376 hg w54 hbox hb;replace HB:=am_ (below_step ((a7_ HI0.out)) hb);have BK376:=am_ (hbox);have GW376:=am_ ((by rw[hg];exact(keep_size (w:=w) (g:=g) (row:=none) (a6_)):w.heap.size≤gb376));have GE376:=am_ ((Nat.le_trans HW0.out (by rw[hg];exact(keep_size (w:=w) (g:=g) (row:=none) (a6_)):w.heap.size≤gb376):w0.heap.size≤gb376));replace HK:=am_ (KeepBut.trans (a6_) (KeepBut.of_below hb g none) (.inl rfl));have NB0_376:=am_ ((by rw[hg];exact Nat.ne_of_lt (IsS76.lt (show IsS76 w0 _ g s0_0 s0_1 s0_2 from(a5_ HI0.out))):g≠gb376));have NB376_0:=am_ ((by rw[hg];exact Nat.ne_of_gt (IsS76.lt (show IsS76 w0 _ g s0_0 s0_1 s0_2 from(a5_ HI0.out))):gb376≠g));replace HI0:=am_ (IsS76.below ((a5_ HI0.out)) hb);clear hb hbox hg)|((with_reducible refine gate_callee (f:=101) rfl ?_);refine goesL_ (some 5) rfl rfl Try.func101 (by kernel_rfl) rfl #[.pointer (some ⟨g,0,none⟩)] rfl gd_ ?_;(with_reducible refine(spec_l1Cur_hole.calls g s0_0 s0_1 s0_2 t377 t378 t379 t380 t381 w0 _ ?side1 ?side2 A2.out).mono ?_);(case side1=>exact(a9_ HI0.out NB0_376.out));(case side2=>exact(a20_ HI0.out GE376.out));rintro e w55 ⟨rfl,hi,hb,hk⟩;refine⟨_,rfl,?_⟩;replace BK376:=am_ (KeepBut.blk hk (g':=gb376) (o:= .cells #[.int .i64 0, .int .i64 0, .int .i64 0] 42 (0,0)) ((a3_ BK376.out)) NB376_0.out (by simp));replace HK:=am_ (KeepBut.trans ((a17_ GW376.out)) hk (.inl rfl));replace HB:=am_ (hb);replace HI0:=am_ (hi);(try clear hb);(try clear hb2);(try clear hk);(try clear hi))|((with_reducible refine gate_dst (N:=3) rfl ?_);refine box_event ?hg (N:=3) ?hd (cs:= #[.int .i64 0, .int .i64 0, .int .i64 0]) (t:=42) ?hr ?_;(case hd=>rfl);(case hg=>rfl);(case hr=>exact hr_);intro gb382 hg w56 hbox hb;replace HB:=am_ (below_step ((a20_ HI0.out GE376.out)) hb);have BK382:=am_ (hbox);have GW382:=am_ ((by rw[hg];exact(keep_size (w:=w) (g:=g) (row:=none) ((a17_ GW376.out))):w.heap.size≤gb382));have GE382:=am_ ((Nat.le_trans HW0.out (by rw[hg];exact(keep_size (w:=w) (g:=g) (row:=none) ((a17_ GW376.out))):w.heap.size≤gb382):w0.heap.size≤gb382));replace HK:=am_ (KeepBut.trans ((a17_ GW376.out)) (KeepBut.of_below hb g none) (.inl rfl));have NB376_382:=am_ ((by rw[hg];exact Nat.ne_of_lt (blk_lt (g:=gb376) (o:= .cells #[.int .i64 0, .int .i64 0, .int .i64 0] 42 (0,0)) ((a3_ BK376.out))):gb376≠gb382));have NB382_376:=am_ ((by rw[hg];exact Nat.ne_of_gt (blk_lt (g:=gb376) (o:= .cells #[.int .i64 0, .int .i64 0, .int .i64 0] 42 (0,0)) ((a3_ BK376.out))):gb382≠gb376));replace BK376:=am_ (blk_below (g:=gb376) (o:= .cells #[.int .i64 0, .int .i64 0, .int .i64 0] 42 (0,0)) ((a3_ BK376.out)) hb);have NB0_382:=am_ ((by rw[hg];exact Nat.ne_of_lt (IsS76.lt (show IsS76 w0 _ g s0_0 t380 t381 from(a9_ HI0.out NB0_376.out))):g≠gb382));have NB382_0:=am_ ((by rw[hg];exact Nat.ne_of_gt (IsS76.lt (show IsS76 w0 _ g s0_0 t380 t381 from(a9_ HI0.out NB0_376.out))):gb382≠g));replace HI0:=am_ (IsS76.below ((a9_ HI0.out NB0_376.out)) hb);clear hb hbox hg;have hnb57:=NB382_376.out;have hnc57:=NB376_382.out;have hnb58:=NB382_0.out;have hnc58:=NB0_382.out;have hcz59_0:w56.cell? ⟨gb382,0,none⟩=some (.int .i64 0):=(blk_cell BK382.out 0).trans rfl;have hcz59_1:w56.cell? ⟨gb382,1,none⟩=some (.int .i64 0):=(blk_cell BK382.out 1).trans rfl;have hcz59_2:w56.cell? ⟨gb382,2,none⟩=some (.int .i64 0):=(blk_cell BK382.out 2).trans rfl;have hfz59_0:=blk_frozen BK382.out 0;have hfz59_1:=blk_frozen BK382.out 1;have hfz59_2:=blk_frozen BK382.out 2)|((with_reducible refine gate_callee (f:=55) rfl ?_);refine goesL_ (some 7) rfl rfl Try.func55 (by kernel_rfl) rfl #[.pointer (some ⟨g,0,none⟩), .int .i64 24] rfl gd_ ?_;(with_reducible refine(spec_l1Cur_pick.calls g s0_0 t380 t381 24 t383 t384 t385 w0 _ ?side1 ?side2 A3.out).mono ?_);(case side1=>exact(a11_ HI0.out NB0_376.out NB0_382.out));(case side2=>exact(a23_ HI0.out GE376.out GE382.out));rintro e w60 ⟨rfl,hi,hb,hk⟩;refine⟨_,rfl,?_⟩;replace BK376:=am_ (KeepBut.blk hk (g':=gb376) (o:= .cells #[.int .i64 0, .int .i64 0, .int .i64 0] 42 (0,0)) ((a15_ NB376_382.out BK376.out)) NB376_0.out (by simp));replace BK382:=am_ (KeepBut.blk hk (g':=gb382) (o:= .cells #[.int .i64 t377, .int .i64 t378, .int .i64 t379] 42 (0,0)) ((a21_ BK382.out)) NB382_0.out (by simp));replace HK:=am_ (KeepBut.trans ((a22_ GW376.out GW382.out)) hk (.inl rfl));replace HB:=am_ (hb);replace HI0:=am_ (hi);(try clear hb);(try clear hb2);(try clear hk);(try clear hi);have hcz61_0:w60.cell? ⟨gb382,0,none⟩=some (.int .i64 t377):=(blk_cell BK382.out 0).trans rfl;have hcz61_1:w60.cell? ⟨gb382,1,none⟩=some (.int .i64 t378):=(blk_cell BK382.out 1).trans rfl;have hcz61_2:w60.cell? ⟨gb382,2,none⟩=some (.int .i64 t379):=(blk_cell BK382.out 2).trans rfl;have hfz61_0:=blk_frozen BK382.out 0;have hfz61_1:=blk_frozen BK382.out 1;have hfz61_2:=blk_frozen BK382.out 2;have hnb62:=NB376_0.out;have hnc62:=NB0_376.out;have hcz63_0:w60.cell? ⟨gb376,0,none⟩=some (.int .i64 0):=(blk_cell BK376.out 0).trans rfl;have hcz63_1:w60.cell? ⟨gb376,1,none⟩=some (.int .i64 0):=(blk_cell BK376.out 1).trans rfl;have hcz63_2:w60.cell? ⟨gb376,2,none⟩=some (.int .i64 0):=(blk_cell BK376.out 2).trans rfl;have hfz63_0:=blk_frozen BK376.out 0;have hfz63_1:=blk_frozen BK376.out 1;have hfz63_2:=blk_frozen BK376.out 2))
    refine bodyPost_ret (results_cell_row rfl _ _ gb376 42 #[.int .i64 t377, .int .i64 t378, .int .i64 t379] (0,0) _ rfl ((a21_ BK376.out)) Try.underlying42 rfl (by kernel_rfl)) rfl ?_
    exact⟨a12_,(a11_ HI0.out NB0_376.out NB0_382.out),(a23_ HI0.out GE376.out GE382.out),(a22_ GW376.out GW382.out)⟩

/-! ### spec_l1Cur_one: function 56 -/
def spec_l1Cur_one.f (s0_0:List Int) (s0_1:Int) (s0_2:Int) (a1:Int):Option (Bool×Int×Int):=(spec_l1Cur_pick.f s0_0 s0_1 s0_2 a1).bind fun bt404=>(some ((bt404.1 == 0),bt404.2.1,bt404.2.2))
set_option maxHeartbeats 8000000 in
set_option maxRecDepth 100000 in
theorem spec_l1Cur_one.calls (g:Nat) (s0_0:List Int) (s0_1:Int) (s0_2:Int) (a1:Int) (r1:Bool) (r2:Int) (r3:Int) (w0 w:World) (hI:IsS76 w0 w g s0_0 s0_1 s0_2) (hB:Below w0.heap.size w0 w) (h:spec_l1Cur_one.f s0_0 s0_1 s0_2 a1=some (r1,r2,r3)) :
 Calls Try.prog 56 #[.pointer (some ⟨g,0,none⟩), .int .i64 a1] w fun e w'=>e = .returned (.bool r1)∧IsS76 w0 w' g s0_0 r2 r3∧Below w0.heap.size w0 w'∧KeepBut w w' g none:=by
 have HI0:=am_ hI
 have HK:=am_ (KeepBut.refl w g none)
 have HL:=am_ hB.size
 clear hI
 have HW0:=am_ hB.size
 have HB:=am_ hB
 clear hB
 have H:((spec_l1Cur_pick.f s0_0 s0_1 s0_2 a1).bind fun bt404=>(some ((bt404.1 == 0),bt404.2.1,bt404.2.2)))=some (r1,r2,r3):=h
 clear h
 obtain⟨⟨t404,t405,t406⟩,A3,H⟩:=bo_ H
 try dsimp only at H
 simp only[Option.some.injEq,Prod.mk.injEq]at H
 obtain⟨rfl,rfl,rfl⟩:=H
 go_enter Try.func56,Try.ntmps56
 go_wp2_with (first|((with_reducible refine gate_callee (f:=55) rfl ?_);refine goesL_ (some 7) rfl rfl Try.func55 (by kernel_rfl) rfl #[.pointer (some ⟨g,0,none⟩), .int .i64 a1] rfl gd_ ?_;(with_reducible refine(spec_l1Cur_pick.calls g s0_0 s0_1 s0_2 a1 t404 t405 t406 w0 _ ?side1 ?side2 A3.out).mono ?_);(case side1=>exact(a5_ HI0.out));(case side2=>exact(a7_ HI0.out));rintro e w4 ⟨rfl,hi,hb,hk⟩;refine⟨_,rfl,?_⟩;replace HK:=am_ (KeepBut.trans (a6_) hk (.inl rfl));replace HB:=am_ (hb);replace HI0:=am_ (hi);(try clear hb);(try clear hb2);(try clear hk);(try clear hi)))
 go_ret
 exact⟨a12_,(a5_ HI0.out),(a7_ HI0.out),a6_⟩

/-! ### spec_l1Cur_sheet: function 98 -/
mutual
def spec_l1Cur_sheet.l0:Nat→List (S42)→List Int→Int→Int→Option ((List (S42))×Int×Int)
 | 0,_,_,_,_=>none
 | k+1,x3,x1000,x1001,x1002=>if(x3.length:Int)<60 then((spec_l1Cur_pick.f x1000 x1001 x1002 5).bind fun bt410=>(if x3.length<5864062014805 then(spec_l1Cur_sheet.l0 k (x3 ++ [(⟨3*((x3.length:Int) % 5),wrap64 (6*(wrap64 ((x3.length:Int) / 5))),wrap64 ((wrap64 ((wrap64 (6*(wrap64 ((x3.length:Int) / 5))))+1))+bt410.1)⟩:S42)]) x1000 bt410.2.1 bt410.2.2) else(none))) else(some (x3,x1001,x1002))
def spec_l1Cur_sheet.l1:Nat→List (S42)→Int→Int→List Int→Int→Int→Option ((List (S42))×Int×Int)
 | 0,_,_,_,_,_,_=>none
 | k+1,x3,x5,x6,x1000,x1001,x1002=>if(x3.length:Int)<x5 then(spec_l1Cur_sheet.j2 k x3 x5 x6 (decide (x6<60)) x1000 x1001 x1002) else(spec_l1Cur_sheet.j2 k x3 x5 x6 false x1000 x1001 x1002)
def spec_l1Cur_sheet.j2:Nat→List (S42)→Int→Int→Bool→List Int→Int→Int→Option ((List (S42))×Int×Int)
 | 0,_,_,_,_,_,_,_=>none
 | k+1,x3,x5,x6,x42,x1000,x1001,x1002=>if x42=true then((spec_l1Cur_hole.f x1000 x1001 x1002).bind fun bt419=>((spec_shWith.f k x3 bt419.1 bt419.2.1 bt419.2.2.1).bind fun bt424=>(if bt424.2=true then(spec_l1Cur_sheet.l1 k bt424.1 x5 (wrap64 (x6+1)) x1000 bt419.2.2.2.1 bt419.2.2.2.2) else(spec_l1Cur_sheet.l1 k x3 x5 (wrap64 (x6+1)) x1000 bt419.2.2.2.1 bt419.2.2.2.2)))) else(some (x3,x1001,x1002))
end
def spec_l1Cur_sheet.f (k:Nat) (s0_0:List Int) (s0_1:Int) (s0_2:Int):Option ((List (S42))×Int×Int):=(spec_l1Cur_one.f s0_0 s0_1 s0_2 24).bind fun bt407=>(if bt407.1=true then(spec_l1Cur_sheet.l0 k ([]:List (S42)) s0_0 bt407.2.1 bt407.2.2) else((spec_l1Cur_pick.f s0_0 bt407.2.1 bt407.2.2 9).bind fun bt416=>(spec_l1Cur_sheet.l1 k ([]:List (S42)) bt416.1 0 s0_0 bt416.2.1 bt416.2.2)))
theorem spec_l1Cur_sheet.mono_l:∀k,(∀y0 y1 y2 y3,LeO (spec_l1Cur_sheet.l0 k y0 y1 y2 y3) (spec_l1Cur_sheet.l0 (k+1) y0 y1 y2 y3))∧(∀y0 y1 y2 y3 y4 y5,LeO (spec_l1Cur_sheet.l1 k y0 y1 y2 y3 y4 y5) (spec_l1Cur_sheet.l1 (k+1) y0 y1 y2 y3 y4 y5))∧(∀y0 y1 y2 y3 y4 y5 y6,LeO (spec_l1Cur_sheet.j2 k y0 y1 y2 y3 y4 y5 y6) (spec_l1Cur_sheet.j2 (k+1) y0 y1 y2 y3 y4 y5 y6))
 | 0=>⟨fun _ _ _ _ r h=>by simp[spec_l1Cur_sheet.l0]at h,fun _ _ _ _ _ _ r h=>by simp[spec_l1Cur_sheet.l1]at h,fun _ _ _ _ _ _ _ r h=>by simp[spec_l1Cur_sheet.j2]at h⟩
 | k+1=>by
  obtain⟨ih0,ih1,ih2⟩:=spec_l1Cur_sheet.mono_l k
  refine⟨?_,?_,?_⟩
  intros
  unfold spec_l1Cur_sheet.l0
  rotate_left
  intros
  unfold spec_l1Cur_sheet.l1
  rotate_left
  intros
  unfold spec_l1Cur_sheet.j2
  rotate_left
  all_goals repeat' first|(with_reducible first|exact ih0 _ _ _ _|exact ih1 _ _ _ _ _ _|exact ih2 _ _ _ _ _ _ _|exact spec_shWith.mono _ _ _ _ _|exact LeO.refl _|exact LeO.none _|refine LeO.ite ?_ ?_|refine LeO.bind ?_ (fun _=>?_))|exact ih0 _ _ _ _|exact ih1 _ _ _ _ _ _|exact ih2 _ _ _ _ _ _ _|exact spec_shWith.mono _ _ _ _ _|exact LeO.none _|refine LeO.ite ?_ ?_|refine LeO.bind ?_ (fun _=>?_)
theorem spec_l1Cur_sheet.mono:∀a0 a1 a2 k,LeO (spec_l1Cur_sheet.f k a0 a1 a2) (spec_l1Cur_sheet.f (k+1) a0 a1 a2):=by
 intro a0 a1 a2 k
 obtain⟨ih0,ih1,ih2⟩:=spec_l1Cur_sheet.mono_l k
 unfold spec_l1Cur_sheet.f
 repeat' first
  |(with_reducible exact ih0 _ _ _ _)
  |(with_reducible exact ih1 _ _ _ _ _ _)
  |(with_reducible exact ih2 _ _ _ _ _ _ _)
  |(with_reducible exact spec_shWith.mono _ _ _ _ _)
  |(with_reducible exact LeO.refl _)
  |(with_reducible exact LeO.none _)
  |(with_reducible refine LeO.ite ?_ ?_)
  |(with_reducible refine LeO.bind ?_ (fun _=>?_))
  |exact ih0 _ _ _ _
  |exact ih1 _ _ _ _ _ _
  |exact ih2 _ _ _ _ _ _ _
  |exact spec_shWith.mono _ _ _ _ _
  |exact LeO.none _
   | refine LeO.ite ?_ ?_
   | refine LeO.bind ?_ (fun _=>?_)
set_option maxHeartbeats 8000000 in
set_option maxRecDepth 100000 in
theorem spec_l1Cur_sheet.calls (k:Nat) (g:Nat) (s0_0:List Int) (s0_1:Int) (s0_2:Int) (r1:List (S42)) (r2:Int) (r3:Int) (w0 w:World) (hI:IsS76 w0 w g s0_0 s0_1 s0_2) (hB:Below w0.heap.size w0 w) (h:spec_l1Cur_sheet.f k s0_0 s0_1 s0_2=some (r1,r2,r3)) :
 Calls Try.prog 98 #[.pointer (some ⟨g,0,none⟩)] w fun e w'=>∃v0_:Value,e = .returned (v0_)∧Kd.R k42 42 w' w.heap.size (fun _=>True) v0_ r1∧IsS76 w0 w' g s0_0 r2 r3∧Below w0.heap.size w0 w'∧KeepBut w w' g none:=by
 have hu42:=Try.underlying42
 have HI0:=am_ hI
 have HK:=am_ (KeepBut.refl w g none)
 have HL:=am_ hB.size
 clear hI
 have HW0:=am_ hB.size
 have HB:=am_ hB
 clear hB
 have H:((spec_l1Cur_one.f s0_0 s0_1 s0_2 24).bind fun bt407=>(if bt407.1=true then(spec_l1Cur_sheet.l0 k ([]:List (S42)) s0_0 bt407.2.1 bt407.2.2) else((spec_l1Cur_pick.f s0_0 bt407.2.1 bt407.2.2 9).bind fun bt416=>(spec_l1Cur_sheet.l1 k ([]:List (S42)) bt416.1 0 s0_0 bt416.2.1 bt416.2.2))))=some (r1,r2,r3):=h
 clear h
 obtain⟨⟨t407,t408,t409⟩,A2,H⟩:=bo_ H
 try dsimp only at H
 by_cases c3:t407=true
 ·subst c3
  replace H:(spec_l1Cur_sheet.l0 k ([]:List (S42)) s0_0 t408 t409)=some (r1,r2,r3):=by rw[if_pos rfl]at H;exact H
  have H':=am_ H
  clear H
  go_enter Try.func98,Try.ntmps98
  go_wp2_with (first|((with_reducible refine gate_callee (f:=56) rfl ?_);refine goesL_ (some 10) rfl rfl Try.func56 (by kernel_rfl) rfl #[.pointer (some ⟨g,0,none⟩), .int .i64 24] rfl gd_ ?_;(with_reducible refine(spec_l1Cur_one.calls g s0_0 s0_1 s0_2 24 true t408 t409 w0 _ ?side1 ?side2 A2.out).mono ?_);(case side1=>exact(a5_ HI0.out));(case side2=>exact(a7_ HI0.out));rintro e w4 ⟨rfl,hi,hb,hk⟩;refine⟨_,rfl,?_⟩;replace HK:=am_ (KeepBut.trans (a6_) hk (.inl rfl));replace HB:=am_ (hb);replace HI0:=am_ (hi);(try clear hb);(try clear hb2);(try clear hk);(try clear hi)))
  (try simp only[Act.put,List.setIfInBounds_toArray,List.set_cons_zero,List.set_cons_succ])
  go_loopg [3] k (fun kq v3 w'=>∃(x3_1:List (S42)) (x1001_1:Int) (x1002_1:Int),Aside0 (spec_l1Cur_sheet.l0 kq x3_1 s0_0 x1001_1 x1002_1=some (r1,r2,r3))∧Aside0 (kq≤k)∧Aside0 (Kd.R k42 42 w' w.heap.size (fun _=>True) v3 x3_1)∧Aside0 (IsS76 w0 w' g s0_0 x1001_1 x1002_1)∧Aside0 (KeepBut w w' g none)∧Aside0 (Below w0.heap.size w0 w'))
  case atStart=>exact⟨(([]:List (S42))),(t408),(t409),H',⟨Nat.le_refl _⟩,⟨a35_⟩,⟨(a5_ HI0.out)⟩,⟨a6_⟩,⟨(a7_ HI0.out)⟩⟩
  case round=>
   clear H'
   try clear p2
   try clear c3
   obtain⟨x3_1,x1001_1,x1002_1,HA,HK1,HO_3,HI0,HK,HB⟩:=hrel
   cases gk with
   | zero=>exact absurd HA.out (by simp[spec_l1Cur_sheet.l0])
   | succ k1=>
    have H:=HA.out
    clear HA
    simp only[spec_l1Cur_sheet.l0]at H
    by_cases c5:(x3_1.length:Int)<60
    ·rw[if_pos c5]at H
     have c5b0:decide ((x3_1.length:Int)<60)=true:=decide_eq_true c5
     have c5b1:decide (x3_1.length<60)=true:=decide_eq_true (by omega)
     clear c5
     obtain⟨⟨t410,t411,t412⟩,A6,H⟩:=bo_ H
     try dsimp only at H
     by_cases c7:x3_1.length<5864062014805
     ·rw[if_pos c7]at H
      have LMc7:=am_ c7
      clear c7
      obtain⟨y413,hy413⟩:∃y_:List (S42),y_=(x3_1 ++ [(⟨3*((x3_1.length:Int) % 5),wrap64 (6*(wrap64 ((x3_1.length:Int) / 5))),wrap64 ((wrap64 ((wrap64 (6*(wrap64 ((x3_1.length:Int) / 5))))+1))+t410)⟩:S42)]):=⟨_,rfl⟩
      replace H:(spec_l1Cur_sheet.l0 k1 y413 s0_0 t411 t412)=some (r1,r2,r3):=by first|(rw[hy413];with_reducible exact H)|(have H2_:=(Option.bind_some _ _).symm.trans H;rw[hy413];with_reducible exact H2_)|(have H2_:=(Option.bind_some _ _).symm.trans H;with_reducible exact H2_) | with_reducible exact H|(rw[hy413];exact H)|exact H
      have Ny413:=am_ hy413
      clear hy413
      have H':=am_ H
      clear H
      obtain⟨Ao8,co8,eo8⟩:=Kd.R_slice HO_3.out
      subst eo8
      go_wp2_with (first|((with_reducible refine gate_callee (f:=55) rfl ?_);refine goesL_ (some 27) rfl rfl Try.func55 (by kernel_rfl) rfl #[.pointer (some ⟨g,0,none⟩), .int .i64 5] rfl gd_ ?_;(with_reducible refine(spec_l1Cur_pick.calls g s0_0 x1001_1 x1002_1 5 t410 t411 t412 w0 _ ?side1 ?side2 A6.out).mono ?_);(case side1=>exact(a5_ HI0.out));(case side2=>exact(a7_ HI0.out));rintro e w9 ⟨rfl,hi,hb,hk⟩;refine⟨_,rfl,?_⟩;replace HO_3:=am_ (Kd.R_mono (Kd.R_keep (IsS76.apart (show IsS76 w0 _ g s0_0 x1001_1 x1002_1 from(a5_ HI0.out)) ((a0_ HO_3.out)) (by decide)) hk (fun _ h=>h.2)) (fun _ h=>h.1));replace HK:=am_ (KeepBut.trans (a6_) hk (.inl rfl));replace HB:=am_ (hb);replace HI0:=am_ (hi);(try clear hb);(try clear hb2);(try clear hk);(try clear hi))|((with_reducible refine gate_builtin (b:= .append) (xs:= #[.tmp 18, .tmp 30]) rfl ?_);at_builtin;refine Kd.R_append k42 w.heap.size rfl (.tmp 18) (.tmp 30) 32 42 (.agg #[(.int .i64 0),(.int .i64 0),(.int .i64 0)]) 24 rfl Try.underlying32 info42 rfl (by decide) (by omega) (.slice Ao8 x3_1.length co8) x3_1 (⟨3*((x3_1.length:Int) % 5),wrap64 (6*(wrap64 ((x3_1.length:Int) / 5))),wrap64 ((wrap64 ((wrap64 (6*(wrap64 ((x3_1.length:Int) / 5))))+1))+t410)⟩:S42) [.int .i64 (3*((x3_1.length:Int) % 5)), .int .i64 (wrap64 (6*(wrap64 ((x3_1.length:Int) / 5)))), .int .i64 (wrap64 ((wrap64 ((wrap64 (6*(wrap64 ((x3_1.length:Int) / 5))))+1))+t410))] (fun _=>True) (fun _=>False) rfl rfl ?aP (fun _ hk=>hk.elim) ?aF ?aO (Below.refl _ _) ?aS ?aL ?_;(case aP=>exact k42_mkM _ _ _ (⟨3*((x3_1.length:Int) % 5),wrap64 (6*(wrap64 ((x3_1.length:Int) / 5))),wrap64 ((wrap64 ((wrap64 (6*(wrap64 ((x3_1.length:Int) / 5))))+1))+t410)⟩:S42));(case aF=>exact(fun _ _=>trivial));(case aO=>exact((a0_ HO_3.out)));(case aS=>exact(keep_size (w:=w) (g:=g) (row:=none) (a6_)));(case aL=>have:=LMc7.out;omega);intro v414 w10 ho hb hg hat;rw[← Ny413.out]at ho;have n0_:=am_ (IsS76.grown ((a5_ HI0.out)) hg (IsS76.own_ne HI0.out HO_3.out (by decide)));have n1_:=am_ (below_weaken ((a7_ HI0.out)) HL.out hb);have n2_:=am_ (KeepBut.trans (a6_) (KeepBut.of_grown hg g) (Kd.R_base2 HO_3.out));have n3_:=am_ (ho);clear HI0 HB HK HO_3;have HI0:=n0_;have HB:=n1_;have HK:=n2_;have HO415:=n3_;clear n0_ n1_ n2_ n3_ ho hb hg hat))
      go_roundg k1
      case measure=>have:=HK1.out;omega
      case rel=>exact⟨(y413),(t411),(t412),H',⟨by have:=HK1.out;omega⟩,⟨(a0_ HO415.out)⟩,⟨(a5_ HI0.out)⟩,⟨a6_⟩,⟨(a7_ HI0.out)⟩⟩
     ·rw[if_neg c7]at H
      exact absurd H (by simp)
    ·rw[if_neg c5]at H
     have c5b0:decide ((x3_1.length:Int)<60)=false:=decide_eq_false c5
     have c5b1:decide (x3_1.length<60)=false:=decide_eq_false (by omega)
     clear c5
     simp only[Option.some.injEq,Prod.mk.injEq]at H
     obtain⟨rfl,rfl,rfl⟩:=H
     obtain⟨Ao11,co11,eo11⟩:=Kd.R_slice HO_3.out
     subst eo11
     go_wp2
     go_ret
     exact⟨_,a12_,(a0_ HO_3.out),(a5_ HI0.out),(a7_ HI0.out),a6_⟩
 ·replace c3:=Bool.eq_false_iff.mpr c3
  subst c3
  replace H:((spec_l1Cur_pick.f s0_0 t408 t409 9).bind fun bt416=>(spec_l1Cur_sheet.l1 k ([]:List (S42)) bt416.1 0 s0_0 bt416.2.1 bt416.2.2))=some (r1,r2,r3):=by rw[if_neg (show ¬(false=true) by decide)]at H;exact H
  obtain⟨⟨t416,t417,t418⟩,A12,H⟩:=bo_ H
  try dsimp only at H
  have H':=am_ H
  clear H
  go_enter Try.func98,Try.ntmps98
  go_wp2_with (first|((with_reducible refine gate_callee (f:=56) rfl ?_);refine goesL_ (some 10) rfl rfl Try.func56 (by kernel_rfl) rfl #[.pointer (some ⟨g,0,none⟩), .int .i64 24] rfl gd_ ?_;(with_reducible refine(spec_l1Cur_one.calls g s0_0 s0_1 s0_2 24 false t408 t409 w0 _ ?side1 ?side2 A2.out).mono ?_);(case side1=>exact(a5_ HI0.out));(case side2=>exact(a7_ HI0.out));rintro e w13 ⟨rfl,hi,hb,hk⟩;refine⟨_,rfl,?_⟩;replace HK:=am_ (KeepBut.trans (a6_) hk (.inl rfl));replace HB:=am_ (hb);replace HI0:=am_ (hi);(try clear hb);(try clear hb2);(try clear hk);(try clear hi))|((with_reducible refine gate_callee (f:=55) rfl ?_);refine goesL_ (some 34) rfl rfl Try.func55 (by kernel_rfl) rfl #[.pointer (some ⟨g,0,none⟩), .int .i64 9] rfl gd_ ?_;(with_reducible refine(spec_l1Cur_pick.calls g s0_0 t408 t409 9 t416 t417 t418 w0 _ ?side1 ?side2 A12.out).mono ?_);(case side1=>exact(a5_ HI0.out));(case side2=>exact(a7_ HI0.out));rintro e w14 ⟨rfl,hi,hb,hk⟩;refine⟨_,rfl,?_⟩;replace HK:=am_ (KeepBut.trans (a6_) hk (.inl rfl));replace HB:=am_ (hb);replace HI0:=am_ (hi);(try clear hb);(try clear hb2);(try clear hk);(try clear hi)))
  (try simp only[Act.put,List.setIfInBounds_toArray,List.set_cons_zero,List.set_cons_succ])
  go_loopg [3,6] k (fun kq v3 v6 w'=>∃(x3_1:List (S42)) (x6_1:Int) (x1001_1:Int) (x1002_1:Int),v6 = .int .i64 x6_1∧Aside0 (spec_l1Cur_sheet.l1 kq x3_1 t416 x6_1 s0_0 x1001_1 x1002_1=some (r1,r2,r3))∧Aside0 (kq≤k)∧Aside0 (Kd.R k42 42 w' w.heap.size (fun _=>True) v3 x3_1)∧Aside0 (IsS76 w0 w' g s0_0 x1001_1 x1002_1)∧Aside0 (KeepBut w w' g none)∧Aside0 (Below w0.heap.size w0 w'))
  case atStart=>exact⟨(([]:List (S42))),(0),(t417),(t418),(by first | rfl|(simp;done)|(simp[*];done)),H',⟨Nat.le_refl _⟩,⟨a35_⟩,⟨(a5_ HI0.out)⟩,⟨a6_⟩,⟨(a7_ HI0.out)⟩⟩
  case round=>
   clear H'
   try clear p2
   try clear c3
   try clear c5
   try clear c5b0
   try clear c5b1
   try clear p6
   try clear c7
   try clear c9
   try clear p2
   obtain⟨x3_1,x6_1,x1001_1,x1002_1,rfl,HA,HK1,HO_3,HI0,HK,HB⟩:=hrel
   cases gk with
   | zero=>exact absurd HA.out (by simp[spec_l1Cur_sheet.l1])
   | succ k1=>
    have H:=HA.out
    clear HA
    simp only[spec_l1Cur_sheet.l1]at H
    have HC15:=am_ H
    clear H
    go_upto_region 9 with (fail)
    go_cut [42] (fun v42 wc=>∃(kq:Nat) (x42_14:Bool),v42 = .bool x42_14∧Aside0 (spec_l1Cur_sheet.j2 kq x3_1 t416 x6_1 x42_14 s0_0 x1001_1 x1002_1=some (r1,r2,r3))∧Aside0 (kq≤k1)∧Aside0 (Kd.R k42 42 wc w.heap.size (fun _=>True) u3 x3_1)∧Aside0 (IsS76 w0 wc g s0_0 x1001_1 x1002_1)∧Aside0 (KeepBut w wc g none)∧Aside0 (Below w0.heap.size w0 wc))
    case first=>
     have H:=HC15.out
     clear HC15
     by_cases c16:(x3_1.length:Int)<t416
     ·rw[if_pos c16]at H
      have c16b0:decide ((x3_1.length:Int)<t416)=true:=decide_eq_true c16
      clear c16
      (first|rw[c16b0]|(simp only[i64_w,i32_w];rw[c16b0]) | skip)
      have H':=am_ H
      clear H
      obtain⟨Ao17,co17,eo17⟩:=Kd.R_slice HO_3.out
      subst eo17
      go_wp2
      go_meet
      case rel=>exact⟨_,(decide (x6_1<60)),(by first | rfl|(simp;done)|(simp[*];done)),H',⟨by have:=HK1.out;first | omega|exact Nat.le_refl _⟩,⟨(a0_ HO_3.out)⟩,⟨(a5_ HI0.out)⟩,⟨a6_⟩,⟨(a7_ HI0.out)⟩⟩
     ·rw[if_neg c16]at H
      have c16b0:decide ((x3_1.length:Int)<t416)=false:=decide_eq_false c16
      clear c16
      (first|rw[c16b0]|(simp only[i64_w,i32_w];rw[c16b0]) | skip)
      have H':=am_ H
      clear H
      obtain⟨Ao18,co18,eo18⟩:=Kd.R_slice HO_3.out
      subst eo18
      go_wp2
      go_meet
      case rel=>exact⟨_,(false),(by first | rfl|(simp;done)|(simp[*];done)),H',⟨by have:=HK1.out;first | omega|exact Nat.le_refl _⟩,⟨(a0_ HO_3.out)⟩,⟨(a5_ HI0.out)⟩,⟨a6_⟩,⟨(a7_ HI0.out)⟩⟩
    case rest=>
     clear HC15
     try clear c1
     try clear p2
     try clear c3
     try clear c5
     try clear c5b0
     try clear c5b1
     try clear p6
     try clear c7
     try clear c9
     try clear c16
     try clear c16b0
     try clear p2
     try clear p6
     obtain⟨kq,x42_14,rfl,HA,HJ14,HO_3,HI0,HK,HB⟩:=hcut
     cases kq with
     | zero=>exact absurd HA.out (by simp[spec_l1Cur_sheet.j2])
     | succ kj14=>
      have H:=HA.out
      clear HA
      simp only[spec_l1Cur_sheet.j2]at H
      by_cases c19:x42_14=true
      ·subst c19
       replace H:((spec_l1Cur_hole.f s0_0 x1001_1 x1002_1).bind fun bt419=>((spec_shWith.f kj14 x3_1 bt419.1 bt419.2.1 bt419.2.2.1).bind fun bt424=>(if bt424.2=true then(spec_l1Cur_sheet.l1 kj14 bt424.1 t416 (wrap64 (x6_1+1)) s0_0 bt419.2.2.2.1 bt419.2.2.2.2) else(spec_l1Cur_sheet.l1 kj14 x3_1 t416 (wrap64 (x6_1+1)) s0_0 bt419.2.2.2.1 bt419.2.2.2.2))))=some (r1,r2,r3):=by rw[if_pos rfl]at H;exact H
       obtain⟨⟨t419,t420,t421,t422,t423⟩,A20,H⟩:=bo_ H
       try dsimp only at H
       obtain⟨⟨t424,t427⟩,A21,H⟩:=bo_ H
       try dsimp only at H
       by_cases c22:t427=true
       ·subst c22
        replace H:(spec_l1Cur_sheet.l1 kj14 t424 t416 (wrap64 (x6_1+1)) s0_0 t422 t423)=some (r1,r2,r3):=by rw[if_pos rfl]at H;exact H
        have H':=am_ H
        clear H
        go_wp2_with (first|((with_reducible refine gate_callee (f:=101) rfl ?_);refine goesL_ (some 48) rfl rfl Try.func101 (by kernel_rfl) rfl #[.pointer (some ⟨g,0,none⟩)] rfl gd_ ?_;(with_reducible refine(spec_l1Cur_hole.calls g s0_0 x1001_1 x1002_1 t419 t420 t421 t422 t423 w0 _ ?side1 ?side2 A20.out).mono ?_);(case side1=>exact(a5_ HI0.out));(case side2=>exact(a7_ HI0.out));rintro e w23 ⟨rfl,hi,hb,hk⟩;refine⟨_,rfl,?_⟩;replace HO_3:=am_ (Kd.R_mono (Kd.R_keep (IsS76.apart (show IsS76 w0 _ g s0_0 x1001_1 x1002_1 from(a5_ HI0.out)) ((a0_ HO_3.out)) (by decide)) hk (fun _ h=>h.2)) (fun _ h=>h.1));replace HK:=am_ (KeepBut.trans (a6_) hk (.inl rfl));replace HB:=am_ (hb);replace HI0:=am_ (hi);(try clear hb);(try clear hb2);(try clear hk);(try clear hi);obtain⟨Ao24,co24,eo24⟩:=Kd.R_slice HO_3.out;subst eo24)|((with_reducible refine gate_callee (f:=88) rfl ?_);refine goesL_ (some 49) rfl rfl Try.func88 (by kernel_rfl) rfl #[.slice Ao24 x3_1.length co24, .agg #[.int .i64 t419, .int .i64 t420, .int .i64 t421]] rfl gd_ ?_;(with_reducible refine(spec_shWith.calls kj14 _ _ x3_1 t419 t420 t421 t424 true _ ?side1 ?side2 A21.out).mono ?_);(case side1=>exact(a4_ HO_3.out));(case side2=>exact(Kd.R_reads' HO_3.out).2.1);rintro e w25 ⟨v425,rfl,ho0,hb⟩;refine⟨_,rfl,?_⟩;have HO426:=am_ (Kd.R_lower (Kd.R_new' ho0 (Kd.R_lt ((a0_ HO_3.out)))) (keep_size (w:=w) (g:=g) (row:=none) (a6_)));replace HO_3:=am_ (Kd.R_elder' ((a0_ HO_3.out)) (Kd.R_base ho0) hb);replace HK:=am_ (KeepBut.trans (a6_) (KeepBut.of_below hb g none) (.inl rfl));replace HB:=am_ (below_step ((a7_ HI0.out)) hb);replace HI0:=am_ (IsS76.below ((a5_ HI0.out)) hb);(try clear hb);(try clear hb2);(try clear hk);(try clear hi);(try clear ho0)))
        go_roundg kj14
        case measure=>have:=HK1.out;have:=HJ14.out;omega
        case rel=>exact⟨(t424),(wrap64 (x6_1+1)),(t422),(t423),(by first | rfl|(simp;done)|(simp[*];done)),H',⟨by have:=HK1.out;have:=HJ14.out;omega⟩,⟨(a28_ HO426.out)⟩,⟨(a5_ HI0.out)⟩,⟨a6_⟩,⟨(a7_ HI0.out)⟩⟩
       ·replace c22:=Bool.eq_false_iff.mpr c22
        subst c22
        replace H:(spec_l1Cur_sheet.l1 kj14 x3_1 t416 (wrap64 (x6_1+1)) s0_0 t422 t423)=some (r1,r2,r3):=by rw[if_neg (show ¬(false=true) by decide)]at H;exact H
        have H':=am_ H
        clear H
        go_wp2_with (first|((with_reducible refine gate_callee (f:=101) rfl ?_);refine goesL_ (some 48) rfl rfl Try.func101 (by kernel_rfl) rfl #[.pointer (some ⟨g,0,none⟩)] rfl gd_ ?_;(with_reducible refine(spec_l1Cur_hole.calls g s0_0 x1001_1 x1002_1 t419 t420 t421 t422 t423 w0 _ ?side1 ?side2 A20.out).mono ?_);(case side1=>exact(a5_ HI0.out));(case side2=>exact(a7_ HI0.out));rintro e w26 ⟨rfl,hi,hb,hk⟩;refine⟨_,rfl,?_⟩;replace HO_3:=am_ (Kd.R_mono (Kd.R_keep (IsS76.apart (show IsS76 w0 _ g s0_0 x1001_1 x1002_1 from(a5_ HI0.out)) ((a0_ HO_3.out)) (by decide)) hk (fun _ h=>h.2)) (fun _ h=>h.1));replace HK:=am_ (KeepBut.trans (a6_) hk (.inl rfl));replace HB:=am_ (hb);replace HI0:=am_ (hi);(try clear hb);(try clear hb2);(try clear hk);(try clear hi);obtain⟨Ao27,co27,eo27⟩:=Kd.R_slice HO_3.out;subst eo27)|((with_reducible refine gate_callee (f:=88) rfl ?_);refine goesL_ (some 49) rfl rfl Try.func88 (by kernel_rfl) rfl #[.slice Ao27 x3_1.length co27, .agg #[.int .i64 t419, .int .i64 t420, .int .i64 t421]] rfl gd_ ?_;(with_reducible refine(spec_shWith.calls kj14 _ _ x3_1 t419 t420 t421 t424 false _ ?side1 ?side2 A21.out).mono ?_);(case side1=>exact(a4_ HO_3.out));(case side2=>exact(Kd.R_reads' HO_3.out).2.1);rintro e w28 ⟨v425,rfl,ho0,hb⟩;refine⟨_,rfl,?_⟩;have HO426:=am_ (Kd.R_lower (Kd.R_new' ho0 (Kd.R_lt ((a0_ HO_3.out)))) (keep_size (w:=w) (g:=g) (row:=none) (a6_)));replace HO_3:=am_ (Kd.R_elder' ((a0_ HO_3.out)) (Kd.R_base ho0) hb);replace HK:=am_ (KeepBut.trans (a6_) (KeepBut.of_below hb g none) (.inl rfl));replace HB:=am_ (below_step ((a7_ HI0.out)) hb);replace HI0:=am_ (IsS76.below ((a5_ HI0.out)) hb);(try clear hb);(try clear hb2);(try clear hk);(try clear hi);(try clear ho0)))
        go_roundg kj14
        case measure=>have:=HK1.out;have:=HJ14.out;omega
        case rel=>exact⟨(x3_1),(wrap64 (x6_1+1)),(t422),(t423),(by first | rfl|(simp;done)|(simp[*];done)),H',⟨by have:=HK1.out;have:=HJ14.out;omega⟩,⟨(a28_ HO_3.out)⟩,⟨(a5_ HI0.out)⟩,⟨a6_⟩,⟨(a7_ HI0.out)⟩⟩
      ·replace c19:=Bool.eq_false_iff.mpr c19
       subst c19
       replace H:(some (x3_1,x1001_1,x1002_1))=some (r1,r2,r3):=by rw[if_neg (show ¬(false=true) by decide)]at H;exact H
       simp only[Option.some.injEq,Prod.mk.injEq]at H
       obtain⟨rfl,rfl,rfl⟩:=H
       go_wp2
       go_ret
       exact⟨_,a12_,(a0_ HO_3.out),(a5_ HI0.out),(a7_ HI0.out),a6_⟩

end Go.Proofs.Ytplpjmhmochcfaa.QFnMerges
