/- Written by a program of this session (the kit's printer, with leaf contracts proved by hand put in): what each Go function computes, and that the call computes it. No condition but those that each theorem names. -/
import Derived.Test.YtbbiihhaljigjaaQFnExactMakeEditionx0
import Derived.Test.YtbbiihhaljigjaaQFnExactMakeEditionx8
import Derived.Test.YtbbiihhaljigjaaQFnExactMakeEditionx9
namespace Go.Proofs.Ytbbiihhaljigjaa.QFnExactMakeEdition
open Go.RowKit Go.Proofs.YtbbiihhaljigjaaW.PrintWords Go.Proofs.YtbbiihhaljigjaaW.PrintLast Go.Proofs.YtbbiihhaljigjaaW.PrintMore
attribute [local go_sem] max2_int min2_int max_two min_two max_three min_three max_four min_four   -- for this text's walks alone
set_option linter.unusedVariables false
set_option linter.unusedSimpArgs false

/-! ### impl_MakeEdition: function 9 (by hand: a grid of open steps in one block of cells; a closure reads it) -/
def impl_MakeEdition.cov (pt:List (S47)) (t s:Int):Bool:=pt.any fun y=>decide (y.f0=t∧y.f1≤s∧s<y.f2)
def impl_MakeEdition.cells (pt:List (S47)):Array Value:=Array.ofFn (n:=40000) fun i=>Value.bool (impl_MakeEdition.cov pt ((i.val / 2000:Nat):Int) ((i.val % 2000:Nat):Int))
def impl_MakeEdition.At (W:World) (G:Nat) (pt:List (S47)):Prop:=W.heap[G]? = some (.cells (impl_MakeEdition.cells pt) 58)
def impl_MakeEdition.isF (v:Value):Bool:=match v with | .bool b=> !b | _=>false
noncomputable def impl_MakeEdition.takeF:List Value→Nat→Bool:=fun l=>List.rec (fun n=>Nat.beq n 0) (fun v _ ih n=>match impl_MakeEdition.isF v with | true=>Nat.rec (motive:=fun _=>Bool) false (fun m _=>ih m) n | false=>false) l
theorem impl_MakeEdition.takeF_eq:∀(l:List Value) (n:Nat),impl_MakeEdition.takeF l n=true→l=List.replicate n (.bool false)
 | [],n,h=>by
  have:n=0:=by simpa [impl_MakeEdition.takeF] using h
  subst this;rfl
 | v :: l,n,h=>by
  have h:(match impl_MakeEdition.isF v with | true=>Nat.rec (motive:=fun _=>Bool) false (fun m _=>impl_MakeEdition.takeF l m) n | false=>false)=true:=h
  cases hv:impl_MakeEdition.isF v with
  | false=>rw[hv]at h;cases h
  | true=>
   rw[hv]at h
   cases n with
   | zero=>cases h
   | succ n=>
    have h2:=impl_MakeEdition.takeF_eq l n h
    rw[List.replicate_succ, ← h2]
    cases v<;>simp[impl_MakeEdition.isF]at hv
    rw[hv]
theorem impl_MakeEdition.zeroL:Try.zeroCells58.toList=List.replicate 40000 (.bool false):=by
 apply impl_MakeEdition.takeF_eq
 kernel_rfl
theorem impl_MakeEdition.zero:Try.zeroCells58=impl_MakeEdition.cells []:=by
 apply Array.toList_inj.mp
 rw[impl_MakeEdition.zeroL,impl_MakeEdition.cells,Array.toList_ofFn]
 apply List.ext_getElem
 ·rw[List.length_replicate,List.length_ofFn]
 ·intro i h1 h2
  rw[List.getElem_replicate,List.getElem_ofFn]
  rfl
theorem impl_MakeEdition.size (pt:List (S47)):(impl_MakeEdition.cells pt).size=40000:=by rw[impl_MakeEdition.cells,Array.size_ofFn]
theorem impl_MakeEdition.get (pt:List (S47)) (t s:Int) (h0:0≤t) (h1:t<20) (h2:0≤s) (h3:s<2000):(impl_MakeEdition.cells pt)[t.toNat*2000+s.toNat]? = some (.bool (impl_MakeEdition.cov pt t s)):=by
 have hl:t.toNat*2000+s.toNat<40000:=by omega
 rw[impl_MakeEdition.cells,Array.getElem?_ofFn,dif_pos hl]
 have e1:(((t.toNat*2000+s.toNat) / 2000:Nat):Int)=t:=by omega
 have e2:(((t.toNat*2000+s.toNat) % 2000:Nat):Int)=s:=by omega
 rw[e1,e2]
theorem impl_MakeEdition.put (pt:List (S47)) (t s:Int) (h0:0≤t) (h1:t<20) (h2:0≤s) (h3:s<2000):(impl_MakeEdition.cells pt).setIfInBounds (t.toNat*2000+s.toNat) (.bool true)=impl_MakeEdition.cells (pt ++ [⟨t,s,s+1⟩]):=by
 apply Array.ext
 ·rw[Array.size_setIfInBounds,impl_MakeEdition.size,impl_MakeEdition.size]
 ·intro i hi1 hi2
  have hi:i<40000:=by rw[impl_MakeEdition.size]at hi2;exact hi2
  rw[Array.getElem_setIfInBounds (by rw[impl_MakeEdition.size];exact hi)]
  simp only[impl_MakeEdition.cells,Array.getElem_ofFn]
  by_cases e:t.toNat*2000+s.toNat=i
  ·rw[if_pos e]
   have e1:((i / 2000:Nat):Int)=t:=by omega
   have e2:((i % 2000:Nat):Int)=s:=by omega
   rw[e1,e2]
   simp only[impl_MakeEdition.cov,List.any_append,List.any_cons,List.any_nil,Bool.or_false]
   rw[show decide (True∧s≤s∧s<s+1)=true from decide_eq_true ⟨trivial,Int.le_refl _,by omega⟩,Bool.or_true]
  ·rw[if_neg e]
   simp only[impl_MakeEdition.cov,List.any_append,List.any_cons,List.any_nil,Bool.or_false]
   have e3:decide (t=((i / 2000:Nat):Int)∧s≤((i % 2000:Nat):Int)∧((i % 2000:Nat):Int)<s+1)=false:=by
    simp only[decide_eq_false_iff_not]
    omega
   rw[e3,Bool.or_false]
theorem impl_MakeEdition.frozen_of (W:World) (G o:Nat) (c:Array Value) (t:TypeId) (h:W.heap[G]? = some (.cells c t)):W.frozen? ⟨G,o,none⟩=false:=by
 simp only[World.frozen?,h]
 simp
theorem impl_MakeEdition.store_of (W:World) (G o:Nat) (c:Array Value) (t:TypeId) (v:Value) (h:W.heap[G]? = some (.cells c t)):(W.setCell ⟨G,o,none⟩ v).heap[G]? = some (.cells (c.setIfInBounds o v) t):=by
 show(W.heap.modify G _)[G]? = _
 rw[Array.getElem?_modify,if_pos rfl,h]
 rfl
theorem impl_MakeEdition.cell_of (W:World) (G o:Nat) (c:Array Value) (t:TypeId) (v:Value) (h:W.heap[G]? = some (.cells c t)) (hv:c[o]? = some v):W.cell? ⟨G,o,none⟩=some v:=by
 simp only[World.cell?,h]
 exact hv
theorem impl_MakeEdition.At.lt {W:World} {G:Nat} {pt:List (S47)} (h:impl_MakeEdition.At W G pt):G<W.heap.size:=by
 rcases Nat.lt_or_ge G W.heap.size with q | q
 ·exact q
 ·have h1:W.heap[G]? = some _:=h
  rw[Array.getElem?_eq_none q]at h1;cases h1
theorem impl_MakeEdition.At.keep {w W:World} {G:Nat} {pt:List (S47)} (h:impl_MakeEdition.At w G pt) (hb:Below w.heap.size w W):impl_MakeEdition.At W G pt:=(hb.block G h.lt).trans h
theorem impl_MakeEdition.At.cell {W:World} {G:Nat} {pt:List (S47)} (h:impl_MakeEdition.At W G pt) (t s:Int) (h0:0≤t) (h1:t<20) (h2:0≤s) (h3:s<2000):W.cell? ⟨G,t.toNat*2000+s.toNat,none⟩=some (.bool (impl_MakeEdition.cov pt t s)):=by
 exact impl_MakeEdition.cell_of W G _ _ _ _ h (impl_MakeEdition.get pt t s h0 h1 h2 h3)
theorem impl_MakeEdition.At.frozen {W:World} {G o:Nat} {pt:List (S47)} (h:impl_MakeEdition.At W G pt):W.frozen? ⟨G,o,none⟩=false:=by
 exact impl_MakeEdition.frozen_of W G o _ _ h
theorem impl_MakeEdition.At.store {W:World} {G:Nat} {pt:List (S47)} (h:impl_MakeEdition.At W G pt) (t s:Int) (h0:0≤t) (h1:t<20) (h2:0≤s) (h3:s<2000):impl_MakeEdition.At (W.setCell ⟨G,t.toNat*2000+s.toNat,none⟩ (.bool true)) G (pt ++ [⟨t,s,s+1⟩]):=by
 have h4:=impl_MakeEdition.store_of W G (t.toNat*2000+s.toNat) _ _ (.bool true) h
 rw[impl_MakeEdition.put pt t s h0 h1 h2 h3]at h4
 exact h4
/-- What the closure tells of a step. -/
def impl_MakeEdition.on (pt:List (S47)) (t s:Int):Option Bool:=if 0≤t∧t<20∧0≤s∧s<2000 then some (impl_MakeEdition.cov pt t s) else none
set_option maxHeartbeats 8000000 in
set_option maxRecDepth 100000 in
theorem impl_MakeEdition.clo (B G:Nat) (pt:List (S47)) (a0 a1:Int) (r:Bool) (w:World) (hB:w.cell? ⟨B,0,none⟩=some (.pointer (some ⟨G,0,none⟩))) (hg:impl_MakeEdition.At w G pt) (h:impl_MakeEdition.on pt a0 a1=some r) :
 Calls Try.prog 38 #[.int .i64 a0, .int .i64 a1, .pointer (some ⟨B,0,none⟩)] w fun e w'=>e = .returned (.bool r)∧Drawn0 w w':=by
 have h5:0≤a0∧a0<20∧0≤a1∧a1<2000:=by
  unfold impl_MakeEdition.on at h
  split at h
  ·assumption
  ·cases h
 obtain⟨b0,b1,b2,b3⟩:=h5
 rw[impl_MakeEdition.on,if_pos ⟨b0,b1,b2,b3⟩]at h
 have hc:=hg.cell a0 a1 b0 b1 b2 b3
 rw[Option.some.inj h]at hc
 clear h hg
 have p0:=decide_eq_true b0
 have p1:=decide_eq_true b1
 have p2:=decide_eq_true b2
 have p3:=decide_eq_true b3
 have q0:=eq_true b0
 have q1:=eq_true b1
 have q2:=eq_true b2
 have q3:=eq_true b3
 clear b0 b1 b2 b3
 go_enter Try.func38,Try.ntmps38
 go_wp2
 go_ret
 exact⟨a6_,a25_⟩
theorem impl_MakeEdition.info70:(Try.prog.info? 70).map (fun i=>(i.zero,i.size,i.bytes))=some (some (.slice none 0 0),1,24):=by kernel_rfl
mutual
def impl_MakeEdition.rg.l0 (pt:List (S47)):Nat→List (List Int)→Int→Option ((List (List Int)))
 | 0,_,_=>none
 | k+1,x1,x7=>if x7<20 then(impl_MakeEdition.rg.l1 pt k x1 x7 (-1) 0 x7) else(some x1)
def impl_MakeEdition.rg.l1 (pt:List (S47)):Nat→List (List Int)→Int→Int→Int→Int→Option ((List (List Int)))
 | 0,_,_,_,_,_=>none
 | k+1,x1,x2,x3,x4,x7=>if x4≤2000 then(if x4<2000 then((impl_MakeEdition.on pt x2 x4).bind fun t253=>(impl_MakeEdition.rg.j2 pt k x1 x2 x3 x4 t253 x7)) else(impl_MakeEdition.rg.j2 pt k x1 x2 x3 x4 false x7)) else(impl_MakeEdition.rg.l0 pt k x1 (wrap64 (x7+1)))
def impl_MakeEdition.rg.j2 (pt:List (S47)):Nat→List (List Int)→Int→Int→Int→Bool→Int→Option ((List (List Int)))
 | 0,_,_,_,_,_,_=>none
 | k+1,x1,x2,x3,x4,x5,x7=>if x5=true then(impl_MakeEdition.rg.j3 pt k x1 x2 x3 x4 x5 x7 (decide (x3<0))) else(impl_MakeEdition.rg.j3 pt k x1 x2 x3 x4 x5 x7 false)
def impl_MakeEdition.rg.j3 (pt:List (S47)):Nat→List (List Int)→Int→Int→Int→Bool→Int→Bool→Option ((List (List Int)))
 | 0,_,_,_,_,_,_,_=>none
 | k+1,x1,x2,x3,x4,x5,x7,x25=>if x25=true then(if x5=true then(impl_MakeEdition.rg.l1 pt k x1 x2 x4 (wrap64 (x4+1)) x7) else(if x4≥0 then(if x1.length<5864062014805 then(impl_MakeEdition.rg.l1 pt k (x1 ++ [(([x2,x4,x4]:List Int))]) x2 (-1) (wrap64 (x4+1)) x7) else(none)) else(impl_MakeEdition.rg.l1 pt k x1 x2 x4 (wrap64 (x4+1)) x7))) else(if x5=true then(impl_MakeEdition.rg.l1 pt k x1 x2 x3 (wrap64 (x4+1)) x7) else(if x3≥0 then(if x1.length<5864062014805 then(impl_MakeEdition.rg.l1 pt k (x1 ++ [(([x2,x3,x4]:List Int))]) x2 (-1) (wrap64 (x4+1)) x7) else(none)) else(impl_MakeEdition.rg.l1 pt k x1 x2 x3 (wrap64 (x4+1)) x7)))
end
def impl_MakeEdition.rg.f (pt:List (S47)) (k:Nat):Option ((List (List Int))):=impl_MakeEdition.rg.l0 pt k (([]:List (List Int))) 0
theorem impl_MakeEdition.rg.mono_l (pt:List (S47)):∀k,(∀y0 y1,LeO (impl_MakeEdition.rg.l0 pt k y0 y1) (impl_MakeEdition.rg.l0 pt (k+1) y0 y1))∧(∀y0 y1 y2 y3 y4,LeO (impl_MakeEdition.rg.l1 pt k y0 y1 y2 y3 y4) (impl_MakeEdition.rg.l1 pt (k+1) y0 y1 y2 y3 y4))∧(∀y0 y1 y2 y3 y4 y5,LeO (impl_MakeEdition.rg.j2 pt k y0 y1 y2 y3 y4 y5) (impl_MakeEdition.rg.j2 pt (k+1) y0 y1 y2 y3 y4 y5))∧(∀y0 y1 y2 y3 y4 y5 y6,LeO (impl_MakeEdition.rg.j3 pt k y0 y1 y2 y3 y4 y5 y6) (impl_MakeEdition.rg.j3 pt (k+1) y0 y1 y2 y3 y4 y5 y6))
 | 0=>⟨fun _ _ r h=>by simp[impl_MakeEdition.rg.l0]at h,fun _ _ _ _ _ r h=>by simp[impl_MakeEdition.rg.l1]at h,fun _ _ _ _ _ _ r h=>by simp[impl_MakeEdition.rg.j2]at h,fun _ _ _ _ _ _ _ r h=>by simp[impl_MakeEdition.rg.j3]at h⟩
 | k+1=>by
  obtain⟨ih0,ih1,ih2,ih3⟩:=impl_MakeEdition.rg.mono_l pt k
  refine⟨?_,?_,?_,?_⟩
  ·intro y0 y1
   unfold impl_MakeEdition.rg.l0
   repeat' first
   | (with_reducible exact ih0 _ _)
   | (with_reducible exact ih1 _ _ _ _ _)
   | (with_reducible exact ih2 _ _ _ _ _ _)
   | (with_reducible exact ih3 _ _ _ _ _ _ _)
   | (with_reducible exact LeO.refl _)
   | (with_reducible exact LeO.none _)
   | (with_reducible refine LeO.ite ?_ ?_)
   | (with_reducible refine LeO.bind ?_ (fun _=>?_))
   | exact ih0 _ _
   | exact ih1 _ _ _ _ _
   | exact ih2 _ _ _ _ _ _
   | exact ih3 _ _ _ _ _ _ _
   | exact LeO.none _
   | refine LeO.ite ?_ ?_
   | refine LeO.bind ?_ (fun _=>?_)
  ·intro y0 y1 y2 y3 y4
   unfold impl_MakeEdition.rg.l1
   repeat' first
   | (with_reducible exact ih0 _ _)
   | (with_reducible exact ih1 _ _ _ _ _)
   | (with_reducible exact ih2 _ _ _ _ _ _)
   | (with_reducible exact ih3 _ _ _ _ _ _ _)
   | (with_reducible exact LeO.refl _)
   | (with_reducible exact LeO.none _)
   | (with_reducible refine LeO.ite ?_ ?_)
   | (with_reducible refine LeO.bind ?_ (fun _=>?_))
   | exact ih0 _ _
   | exact ih1 _ _ _ _ _
   | exact ih2 _ _ _ _ _ _
   | exact ih3 _ _ _ _ _ _ _
   | exact LeO.none _
   | refine LeO.ite ?_ ?_
   | refine LeO.bind ?_ (fun _=>?_)
  ·intro y0 y1 y2 y3 y4 y5
   unfold impl_MakeEdition.rg.j2
   repeat' first
   | (with_reducible exact ih0 _ _)
   | (with_reducible exact ih1 _ _ _ _ _)
   | (with_reducible exact ih2 _ _ _ _ _ _)
   | (with_reducible exact ih3 _ _ _ _ _ _ _)
   | (with_reducible exact LeO.refl _)
   | (with_reducible exact LeO.none _)
   | (with_reducible refine LeO.ite ?_ ?_)
   | (with_reducible refine LeO.bind ?_ (fun _=>?_))
   | exact ih0 _ _
   | exact ih1 _ _ _ _ _
   | exact ih2 _ _ _ _ _ _
   | exact ih3 _ _ _ _ _ _ _
   | exact LeO.none _
   | refine LeO.ite ?_ ?_
   | refine LeO.bind ?_ (fun _=>?_)
  ·intro y0 y1 y2 y3 y4 y5 y6
   unfold impl_MakeEdition.rg.j3
   repeat' first
   | (with_reducible exact ih0 _ _)
   | (with_reducible exact ih1 _ _ _ _ _)
   | (with_reducible exact ih2 _ _ _ _ _ _)
   | (with_reducible exact ih3 _ _ _ _ _ _ _)
   | (with_reducible exact LeO.refl _)
   | (with_reducible exact LeO.none _)
   | (with_reducible refine LeO.ite ?_ ?_)
   | (with_reducible refine LeO.bind ?_ (fun _=>?_))
   | exact ih0 _ _
   | exact ih1 _ _ _ _ _
   | exact ih2 _ _ _ _ _ _
   | exact ih3 _ _ _ _ _ _ _
   | exact LeO.none _
   | refine LeO.ite ?_ ?_
   | refine LeO.bind ?_ (fun _=>?_)
theorem impl_MakeEdition.rg.mono:∀pt k,LeO (impl_MakeEdition.rg.f pt k) (impl_MakeEdition.rg.f pt (k+1)):=by
 intro pt k
 obtain⟨ih0,ih1,ih2,ih3⟩:=impl_MakeEdition.rg.mono_l pt k
 unfold impl_MakeEdition.rg.f
 repeat' first
  | (with_reducible exact ih0 _ _)
  | (with_reducible exact ih1 _ _ _ _ _)
  | (with_reducible exact ih2 _ _ _ _ _ _)
  | (with_reducible exact ih3 _ _ _ _ _ _ _)
  | (with_reducible exact LeO.refl _)
  | (with_reducible exact LeO.none _)
  | (with_reducible refine LeO.ite ?_ ?_)
  | (with_reducible refine LeO.bind ?_ (fun _=>?_))
  | exact ih0 _ _
  | exact ih1 _ _ _ _ _
  | exact ih2 _ _ _ _ _ _
  | exact ih3 _ _ _ _ _ _ _
  | exact LeO.none _
  | refine LeO.ite ?_ ?_
  | refine LeO.bind ?_ (fun _=>?_)
set_option maxHeartbeats 8000000 in
set_option maxRecDepth 100000 in
theorem impl_MakeEdition.rg.calls (B G:Nat) (pt:List (S47)) (k:Nat) (r:List (List Int)) (w:World) (hcB:w.cell? ⟨B,0,none⟩=some (.pointer (some ⟨G,0,none⟩))) (hcG:impl_MakeEdition.At w G pt) (h:impl_MakeEdition.rg.f pt k=some r) :
 Calls Try.prog 37 #[.func (.func 38) #[] #[.pointer (some ⟨B,0,none⟩)]] w fun e w'=>∃v0_:Value,e = .returned (v0_)∧Kd.S (Kd.slice 3 (Kd.int .i64)) 70 w' w.heap.size (fun _=>True) v0_ r∧Below w.heap.size w w':=by
 have HB:=am_ (Below.refl w.heap.size w)
 have HCB:=am_ hcB
 have HCG:=am_ hcG
 clear hcB hcG
 have eg:=enters_of (P:=Try.prog) Try.func38 (by kernel_rfl) rfl
 have H:(impl_MakeEdition.rg.l0 pt k (([]:List (List Int))) 0)=some r:=h
 clear h
 obtain⟨y250,hy250⟩:∃y_:List (List Int),y_=(([]:List (List Int))):=⟨_,rfl⟩
 replace H:(impl_MakeEdition.rg.l0 pt k y250 0)=some r:=by first | (rw[hy250];with_reducible exact H) | (have H2_:=(Option.bind_some _ _).symm.trans H;rw[hy250];with_reducible exact H2_) | (have H2_:=(Option.bind_some _ _).symm.trans H;with_reducible exact H2_) | with_reducible exact H | (rw[hy250];exact H) | exact H
 have Ny250:=am_ hy250
 clear hy250
 have H':=am_ H
 clear H
 go_enter Try.func37,Try.ntmps37
 go_wp2_with (first | ((with_reducible refine gate_dst (N:=8) rfl ?_);refine Kd.S_lit (Kd.slice 3 (Kd.int .i64)) _ 70 ?hg (N:=8) ?hd (xs:=([]:List (List Int))) (inner:=[]) (ok:=fun _=>True) (okp:=fun _=>True) ?hr ?hp (fun _ hk=>hk) trivial (Below.refl _ _) (Nat.le_refl _) (by simp) ?_;(case hd=>rfl);(case hg=>rfl);(case hr=>exact a12_);(case hp=>exact(Reps.none _ _));intro v251 w1 ho2 hb hg_ hnew_;clear hg_ hnew_;(first | rw[← Ny250.out]at ho2 | (simp only[Int.reduceToNat]at ho2;rw[← Ny250.out]at ho2));have HO252:=am_ (Kd.S_lower ho2 (below_size (a0_)));replace HB:=am_ (below_step (a0_) hb);clear hb ho2))
 go_loopg [3,9] k (fun kq v1 v7 w'=>∃(x1_1:List (List Int)) (x7_1:Int),v7 = .int .i64 x7_1∧Aside0 (impl_MakeEdition.rg.l0 pt kq x1_1 x7_1=some r)∧Aside0 (kq≤k)∧Aside0 (Kd.S (Kd.slice 3 (Kd.int .i64)) 70 w' w.heap.size (fun _=>True) v1 x1_1)∧Aside0 (Below w.heap.size w w'))
 case atStart=>exact⟨(y250),(0),(a6_),H',⟨Nat.le_refl _⟩,⟨(a10_ HO252.out)⟩,⟨a0_⟩⟩
 case round=>
  clear H'
  try clear p2
  obtain⟨x1_1,x7_1,rfl,HA,HK1,HO_1,HB⟩:=hrel
  cases gk with
  | zero=>exact absurd HA.out (by simp[impl_MakeEdition.rg.l0])
  | succ k1=>
   have H:=HA.out
   clear HA
   simp only[impl_MakeEdition.rg.l0]at H
   by_cases c3:x7_1<20
   ·rw[if_pos c3]at H
    have c3b0:decide (x7_1<20)=true:=decide_eq_true c3
    clear c3
    have H':=am_ H
    clear H
    go_wp2
    go_loopg [3,5,6] k1 (fun kq v1 v3 v4 w'=>∃(x1_2:List (List Int)) (x3_2:Int) (x4_2:Int),v3 = .int .i64 x3_2∧v4 = .int .i64 x4_2∧Aside0 (impl_MakeEdition.rg.l1 pt kq x1_2 x7_1 x3_2 x4_2 x7_1=some r)∧Aside0 (kq≤k1)∧Aside0 (Kd.S (Kd.slice 3 (Kd.int .i64)) 70 w' w.heap.size (fun _=>True) v1 x1_2)∧Aside0 (Below w.heap.size w w'))
    case atStart=>exact⟨(x1_1),((-1)),(0),(a6_),(a6_),H',⟨Nat.le_refl _⟩,⟨(a10_ HO_1.out)⟩,⟨a0_⟩⟩
    case round=>
     clear H'
     try clear p2
     try clear c3
     try clear c3b0
     try clear p2
     obtain⟨x1_2,x3_2,x4_2,rfl,rfl,HA,HK2,HO_1,HB⟩:=hrel
     cases gk with
     | zero=>exact absurd HA.out (by simp[impl_MakeEdition.rg.l1])
     | succ k2=>
      have H:=HA.out
      clear HA
      simp only[impl_MakeEdition.rg.l1]at H
      by_cases c4:x4_2≤2000
      ·rw[if_pos c4]at H
       have c4b0:decide (x4_2≤2000)=true:=decide_eq_true c4
       clear c4
       have HC5:=am_ H
       clear H
       go_upto_region 9 with (fail)
       go_cut [7] (fun v5 wc=>∃(kq:Nat) (x5_4:Bool),v5 = .bool x5_4∧Aside0 (impl_MakeEdition.rg.j2 pt kq x1_2 x7_1 x3_2 x4_2 x5_4 x7_1=some r)∧Aside0 (kq≤k2)∧Aside0 (Kd.S (Kd.slice 3 (Kd.int .i64)) 70 wc w.heap.size (fun _=>True) u3 x1_2)∧Aside0 (Below w.heap.size w wc))
       case first=>
        have H:=HC5.out
        clear HC5
        by_cases c6:x4_2<2000
        ·rw[if_pos c6]at H
         have c6b0:decide (x4_2<2000)=true:=decide_eq_true c6
         clear c6
         (first | rw[c6b0] | (simp only[i64_w,i32_w];rw[c6b0]) | skip)
         replace H:=Option.bind_eq_some_iff.mp H
         obtain⟨t253,A70,H⟩:=H
         replace H:(impl_MakeEdition.rg.j2 pt k2 x1_2 x7_1 x3_2 x4_2 t253 x7_1)=some r:=H
         have A7:=am_ A70
         clear A70
         have H':=am_ H
         clear H
         go_wp2_with (first | (go_at_call 38;(with_reducible refine(impl_MakeEdition.clo B G pt x7_1 x4_2 t253 _ (pw_cell_below (a0_) HCB.out) (HCG.out.keep (a0_)) A7.out).mono ?_);rintro e w' ⟨rfl,⟨nd,rfl⟩⟩))
         go_meet
         case rel=>exact⟨_,(t253),(a6_),H',⟨by have:=HK1.out;have:=HK2.out;first | omega | exact Nat.le_refl _⟩,⟨(a10_ HO_1.out)⟩,⟨a0_⟩⟩
        ·rw[if_neg c6]at H
         have c6b0:decide (x4_2<2000)=false:=decide_eq_false c6
         clear c6
         (first | rw[c6b0] | (simp only[i64_w,i32_w];rw[c6b0]) | skip)
         have H':=am_ H
         clear H
         go_wp2
         go_meet
         case rel=>exact⟨_,(false),(a6_),H',⟨by have:=HK1.out;have:=HK2.out;first | omega | exact Nat.le_refl _⟩,⟨(a10_ HO_1.out)⟩,⟨a0_⟩⟩
       case rest=>
        clear HC5
        try clear p2
        try clear c3
        try clear c3b0
        try clear c4
        try clear c4b0
        try clear c6
        try clear c6b0
        try clear p2
        obtain⟨kq,x5_4,rfl,HA,HJ4,HO_1,HB⟩:=hcut
        cases kq with
        | zero=>exact absurd HA.out (by simp[impl_MakeEdition.rg.j2])
        | succ kj4=>
         have H:=HA.out
         clear HA
         simp only[impl_MakeEdition.rg.j2]at H
         have HC8:=am_ H
         clear H
         go_upto_region 10 with (fail)
         go_cut [28] (fun v25 wc=>∃(kq:Nat) (x25_7:Bool),v25 = .bool x25_7∧Aside0 (impl_MakeEdition.rg.j3 pt kq x1_2 x7_1 x3_2 x4_2 x5_4 x7_1 x25_7=some r)∧Aside0 (kq≤kj4)∧Aside0 (Kd.S (Kd.slice 3 (Kd.int .i64)) 70 wc w.heap.size (fun _=>True) u3 x1_2)∧Aside0 (Below w.heap.size w wc))
         case first=>
          have H:=HC8.out
          clear HC8
          by_cases c9:x5_4=true
          ·subst c9
           replace H:(impl_MakeEdition.rg.j3 pt kj4 x1_2 x7_1 x3_2 x4_2 true x7_1 (decide (x3_2<0)))=some r:=by rw[if_pos rfl]at H;exact H
           have H':=am_ H
           clear H
           go_wp2
           go_meet
           case rel=>exact⟨_,(decide (x3_2<0)),(a6_),H',⟨by have:=HK1.out;have:=HK2.out;have:=HJ4.out;first | omega | exact Nat.le_refl _⟩,⟨(a10_ HO_1.out)⟩,⟨a0_⟩⟩
          ·replace c9:=Bool.eq_false_iff.mpr c9
           subst c9
           replace H:(impl_MakeEdition.rg.j3 pt kj4 x1_2 x7_1 x3_2 x4_2 false x7_1 false)=some r:=by rw[if_neg (show ¬(false=true) by decide)]at H;exact H
           have H':=am_ H
           clear H
           go_wp2
           go_meet
           case rel=>exact⟨_,(false),(a6_),H',⟨by have:=HK1.out;have:=HK2.out;have:=HJ4.out;first | omega | exact Nat.le_refl _⟩,⟨(a10_ HO_1.out)⟩,⟨a0_⟩⟩
         case rest=>
          clear HC8
          try clear p2
          try clear c3
          try clear c3b0
          try clear c4
          try clear c4b0
          try clear c6
          try clear c6b0
          try clear c9
          try clear p2
          obtain⟨kq,x25_7,rfl,HA,HJ7,HO_1,HB⟩:=hcut
          cases kq with
          | zero=>exact absurd HA.out (by simp[impl_MakeEdition.rg.j3])
          | succ kj7=>
           have H:=HA.out
           clear HA
           simp only[impl_MakeEdition.rg.j3]at H
           by_cases c10:x25_7=true
           ·subst c10
            replace H:(if x5_4=true then(impl_MakeEdition.rg.l1 pt kj7 x1_2 x7_1 x4_2 (wrap64 (x4_2+1)) x7_1) else(if x4_2≥0 then(if x1_2.length<5864062014805 then(impl_MakeEdition.rg.l1 pt kj7 (x1_2 ++ [(([x7_1,x4_2,x4_2]:List Int))]) x7_1 (-1) (wrap64 (x4_2+1)) x7_1) else(none)) else(impl_MakeEdition.rg.l1 pt kj7 x1_2 x7_1 x4_2 (wrap64 (x4_2+1)) x7_1)))=some r:=by rw[if_pos rfl]at H;exact H
            by_cases c11:x5_4=true
            ·subst c11
             replace H:(impl_MakeEdition.rg.l1 pt kj7 x1_2 x7_1 x4_2 (wrap64 (x4_2+1)) x7_1)=some r:=by rw[if_pos rfl]at H;exact H
             have H':=am_ H
             clear H
             go_wp2
             go_roundg kj7
             case measure=>have:=HK1.out;have:=HK2.out;have:=HJ4.out;have:=HJ7.out;omega
             case rel=>exact⟨(x1_2),(x4_2),(wrap64 (x4_2+1)),(a6_),(a6_),H',⟨by have:=HK1.out;have:=HK2.out;have:=HJ4.out;have:=HJ7.out;omega⟩,⟨(a10_ HO_1.out)⟩,⟨a0_⟩⟩
            ·replace c11:=Bool.eq_false_iff.mpr c11
             subst c11
             replace H:(if x4_2≥0 then(if x1_2.length<5864062014805 then(impl_MakeEdition.rg.l1 pt kj7 (x1_2 ++ [(([x7_1,x4_2,x4_2]:List Int))]) x7_1 (-1) (wrap64 (x4_2+1)) x7_1) else(none)) else(impl_MakeEdition.rg.l1 pt kj7 x1_2 x7_1 x4_2 (wrap64 (x4_2+1)) x7_1))=some r:=by rw[if_neg (show ¬(false=true) by decide)]at H;exact H
             by_cases c12:x4_2≥0
             ·rw[if_pos c12]at H
              have c12b0:decide (0≤x4_2)=true:=decide_eq_true c12
              clear c12
              obtain⟨y254,hy254⟩:∃y_:List Int,y_=(([x7_1,x4_2,x4_2]:List Int)):=⟨_,rfl⟩
              replace H:(if x1_2.length<5864062014805 then(impl_MakeEdition.rg.l1 pt kj7 (x1_2 ++ [y254]) x7_1 (-1) (wrap64 (x4_2+1)) x7_1) else(none))=some r:=by first | (rw[hy254];with_reducible exact H) | (have H2_:=(Option.bind_some _ _).symm.trans H;rw[hy254];with_reducible exact H2_) | (have H2_:=(Option.bind_some _ _).symm.trans H;with_reducible exact H2_) | with_reducible exact H | (rw[hy254];exact H) | exact H
              have Ny254:=am_ hy254
              clear hy254
              by_cases c13:x1_2.length<5864062014805
              ·rw[if_pos c13]at H
               have LMc13:=am_ c13
               clear c13
               obtain⟨y257,hy257⟩:∃y_:List (List Int),y_=(x1_2 ++ [y254]):=⟨_,rfl⟩
               replace H:(impl_MakeEdition.rg.l1 pt kj7 y257 x7_1 (-1) (wrap64 (x4_2+1)) x7_1)=some r:=by first | (rw[hy257];with_reducible exact H) | (have H2_:=(Option.bind_some _ _).symm.trans H;rw[hy257];with_reducible exact H2_) | (have H2_:=(Option.bind_some _ _).symm.trans H;with_reducible exact H2_) | with_reducible exact H | (rw[hy257];exact H) | exact H
               have Ny257:=am_ hy257
               clear hy257
               have H':=am_ H
               clear H
               go_wp2_with (first | ((with_reducible refine gate_dst (N:=40) rfl ?_);refine Kd.R_lit (Kd.int .i64) _ 3 ?hg (N:=40) ?hd (xs:=([x7_1,x4_2,x4_2]:List Int)) (inner:=[.int .i64 x7_1, .int .i64 x4_2, .int .i64 x4_2]) (ok:=fun _=>True) (okp:=fun _=>True) ?hr ?hp (fun _ hk=>hk) trivial (Below.refl _ _) (Nat.le_refl _) (by simp) ?_;(case hd=>rfl);(case hg=>rfl);(case hr=>exact a12_);(case hp=>exact(Reps.one (show Kd.M (Kd.int .i64) _ _ _ x7_1 [.int .i64 x7_1] from rfl) (Reps.one (show Kd.M (Kd.int .i64) _ _ _ x4_2 [.int .i64 x4_2] from rfl) (Reps.one (show Kd.M (Kd.int .i64) _ _ _ x4_2 [.int .i64 x4_2] from rfl) (Reps.none _ _)))));intro v255 w14 ho15 hb hg_ hnew_;clear hg_ hnew_;(first | rw[← Ny254.out]at ho15 | (simp only[Int.reduceToNat]at ho15;rw[← Ny254.out]at ho15));replace HO_1:=am_ (Kd.S_elder' ((a10_ HO_1.out)) (Kd.R_base ho15) hb);have HO256:=am_ (Kd.R_lower ho15 (below_size (a0_)));replace HB:=am_ (below_step (a0_) hb);clear hb ho15;obtain⟨Ao17,co17,eo17⟩:=Kd.R_slice HO256.out;subst eo17) | ((with_reducible refine gate_builtin (b:= .append) (xs:= #[.tmp 36, .tmp 41]) rfl ?_);at_builtin;refine Kd.S_append (Kd.slice 3 (Kd.int .i64)) (w0:=w) w.heap.size rfl (.tmp 36) (.tmp 41) 67 70 (.slice none 0 0) 24 rfl Try.underlying67 impl_MakeEdition.info70 rfl (by decide) (by omega) u3 x1_2 y254 [.slice Ao17 y254.length co17] (fun _=>True) (fun k_=>some k_=(.slice Ao17 y254.length co17:Value).ownBlock) rfl rfl ?aP (fun k_ hk_=>((Kd.R_mono (ok':=fun k_=>((fun _=>True)) k_∧some k_≠(u3:Value).ownBlock) (Kd.R_apart' (HO256.out) (Kd.S_typed HO_1.out) (by decide)) (fun k_ hk=>⟨trivial,hk.2⟩))).1 k_ hk_.symm) ?aF ?aO ?aB ?aS ?aL ?_;(case aP=>exact Kd.M_row (Kd.R_mono (Kd.R_tight rfl (Kd.R_mono (ok':=fun k_=>((fun _=>True)) k_∧some k_≠(u3:Value).ownBlock) (Kd.R_apart' (HO256.out) (Kd.S_typed HO_1.out) (by decide)) (fun k_ hk=>⟨trivial,hk.2⟩))) (fun _ h_=>h_)));(case aB=>exact(a0_));(case aF=>exact(fun _ _=>trivial));(case aO=>exact(by(with_reducible repeat (first | apply Kd.S_alloc | apply Kd.S_drewN | apply Kd.S_drew));exact Kd.S_mono HO_1.out (fun k_ hk=>⟨trivial,fun e_=>hk.2 e_⟩)));(case aS=>exact(below_size (a0_)));(case aL=>have:=LMc13.out;omega);intro v258 w16 ho hb hg hat;rw[← Ny257.out]at ho;have n0_:=am_ (hb);have n1_:=am_ (ho);clear HB HO_1 HO256;have HB:=n0_;have HO259:=n1_;clear n0_ n1_ ho hb hg hat))
               go_roundg kj7
               case measure=>have:=HK1.out;have:=HK2.out;have:=HJ4.out;have:=HJ7.out;omega
               case rel=>exact⟨(y257),((-1)),(wrap64 (x4_2+1)),(a6_),(a6_),H',⟨by have:=HK1.out;have:=HK2.out;have:=HJ4.out;have:=HJ7.out;omega⟩,⟨(a10_ HO259.out)⟩,⟨a0_⟩⟩
              ·rw[if_neg c13]at H
               exact absurd H (by simp)
             ·rw[if_neg c12]at H
              have c12b0:decide (0≤x4_2)=false:=decide_eq_false c12
              clear c12
              have H':=am_ H
              clear H
              go_wp2
              go_roundg kj7
              case measure=>have:=HK1.out;have:=HK2.out;have:=HJ4.out;have:=HJ7.out;omega
              case rel=>exact⟨(x1_2),(x4_2),(wrap64 (x4_2+1)),(a6_),(a6_),H',⟨by have:=HK1.out;have:=HK2.out;have:=HJ4.out;have:=HJ7.out;omega⟩,⟨(a10_ HO_1.out)⟩,⟨a0_⟩⟩
           ·replace c10:=Bool.eq_false_iff.mpr c10
            subst c10
            replace H:(if x5_4=true then(impl_MakeEdition.rg.l1 pt kj7 x1_2 x7_1 x3_2 (wrap64 (x4_2+1)) x7_1) else(if x3_2≥0 then(if x1_2.length<5864062014805 then(impl_MakeEdition.rg.l1 pt kj7 (x1_2 ++ [(([x7_1,x3_2,x4_2]:List Int))]) x7_1 (-1) (wrap64 (x4_2+1)) x7_1) else(none)) else(impl_MakeEdition.rg.l1 pt kj7 x1_2 x7_1 x3_2 (wrap64 (x4_2+1)) x7_1)))=some r:=by rw[if_neg (show ¬(false=true) by decide)]at H;exact H
            by_cases c18:x5_4=true
            ·subst c18
             replace H:(impl_MakeEdition.rg.l1 pt kj7 x1_2 x7_1 x3_2 (wrap64 (x4_2+1)) x7_1)=some r:=by rw[if_pos rfl]at H;exact H
             have H':=am_ H
             clear H
             go_wp2
             go_roundg kj7
             case measure=>have:=HK1.out;have:=HK2.out;have:=HJ4.out;have:=HJ7.out;omega
             case rel=>exact⟨(x1_2),(x3_2),(wrap64 (x4_2+1)),(a6_),(a6_),H',⟨by have:=HK1.out;have:=HK2.out;have:=HJ4.out;have:=HJ7.out;omega⟩,⟨(a10_ HO_1.out)⟩,⟨a0_⟩⟩
            ·replace c18:=Bool.eq_false_iff.mpr c18
             subst c18
             replace H:(if x3_2≥0 then(if x1_2.length<5864062014805 then(impl_MakeEdition.rg.l1 pt kj7 (x1_2 ++ [(([x7_1,x3_2,x4_2]:List Int))]) x7_1 (-1) (wrap64 (x4_2+1)) x7_1) else(none)) else(impl_MakeEdition.rg.l1 pt kj7 x1_2 x7_1 x3_2 (wrap64 (x4_2+1)) x7_1))=some r:=by rw[if_neg (show ¬(false=true) by decide)]at H;exact H
             by_cases c19:x3_2≥0
             ·rw[if_pos c19]at H
              have c19b0:decide (0≤x3_2)=true:=decide_eq_true c19
              clear c19
              obtain⟨y260,hy260⟩:∃y_:List Int,y_=(([x7_1,x3_2,x4_2]:List Int)):=⟨_,rfl⟩
              replace H:(if x1_2.length<5864062014805 then(impl_MakeEdition.rg.l1 pt kj7 (x1_2 ++ [y260]) x7_1 (-1) (wrap64 (x4_2+1)) x7_1) else(none))=some r:=by first | (rw[hy260];with_reducible exact H) | (have H2_:=(Option.bind_some _ _).symm.trans H;rw[hy260];with_reducible exact H2_) | (have H2_:=(Option.bind_some _ _).symm.trans H;with_reducible exact H2_) | with_reducible exact H | (rw[hy260];exact H) | exact H
              have Ny260:=am_ hy260
              clear hy260
              by_cases c20:x1_2.length<5864062014805
              ·rw[if_pos c20]at H
               have LMc20:=am_ c20
               clear c20
               obtain⟨y263,hy263⟩:∃y_:List (List Int),y_=(x1_2 ++ [y260]):=⟨_,rfl⟩
               replace H:(impl_MakeEdition.rg.l1 pt kj7 y263 x7_1 (-1) (wrap64 (x4_2+1)) x7_1)=some r:=by first | (rw[hy263];with_reducible exact H) | (have H2_:=(Option.bind_some _ _).symm.trans H;rw[hy263];with_reducible exact H2_) | (have H2_:=(Option.bind_some _ _).symm.trans H;with_reducible exact H2_) | with_reducible exact H | (rw[hy263];exact H) | exact H
               have Ny263:=am_ hy263
               clear hy263
               have H':=am_ H
               clear H
               go_wp2_with (first | ((with_reducible refine gate_dst (N:=40) rfl ?_);refine Kd.R_lit (Kd.int .i64) _ 3 ?hg (N:=40) ?hd (xs:=([x7_1,x3_2,x4_2]:List Int)) (inner:=[.int .i64 x7_1, .int .i64 x3_2, .int .i64 x4_2]) (ok:=fun _=>True) (okp:=fun _=>True) ?hr ?hp (fun _ hk=>hk) trivial (Below.refl _ _) (Nat.le_refl _) (by simp) ?_;(case hd=>rfl);(case hg=>rfl);(case hr=>exact a12_);(case hp=>exact(Reps.one (show Kd.M (Kd.int .i64) _ _ _ x7_1 [.int .i64 x7_1] from rfl) (Reps.one (show Kd.M (Kd.int .i64) _ _ _ x3_2 [.int .i64 x3_2] from rfl) (Reps.one (show Kd.M (Kd.int .i64) _ _ _ x4_2 [.int .i64 x4_2] from rfl) (Reps.none _ _)))));intro v261 w21 ho22 hb hg_ hnew_;clear hg_ hnew_;(first | rw[← Ny260.out]at ho22 | (simp only[Int.reduceToNat]at ho22;rw[← Ny260.out]at ho22));replace HO_1:=am_ (Kd.S_elder' ((a10_ HO_1.out)) (Kd.R_base ho22) hb);have HO262:=am_ (Kd.R_lower ho22 (below_size (a0_)));replace HB:=am_ (below_step (a0_) hb);clear hb ho22;obtain⟨Ao24,co24,eo24⟩:=Kd.R_slice HO262.out;subst eo24) | ((with_reducible refine gate_builtin (b:= .append) (xs:= #[.tmp 36, .tmp 41]) rfl ?_);at_builtin;refine Kd.S_append (Kd.slice 3 (Kd.int .i64)) (w0:=w) w.heap.size rfl (.tmp 36) (.tmp 41) 67 70 (.slice none 0 0) 24 rfl Try.underlying67 impl_MakeEdition.info70 rfl (by decide) (by omega) u3 x1_2 y260 [.slice Ao24 y260.length co24] (fun _=>True) (fun k_=>some k_=(.slice Ao24 y260.length co24:Value).ownBlock) rfl rfl ?aP (fun k_ hk_=>((Kd.R_mono (ok':=fun k_=>((fun _=>True)) k_∧some k_≠(u3:Value).ownBlock) (Kd.R_apart' (HO262.out) (Kd.S_typed HO_1.out) (by decide)) (fun k_ hk=>⟨trivial,hk.2⟩))).1 k_ hk_.symm) ?aF ?aO ?aB ?aS ?aL ?_;(case aP=>exact Kd.M_row (Kd.R_mono (Kd.R_tight rfl (Kd.R_mono (ok':=fun k_=>((fun _=>True)) k_∧some k_≠(u3:Value).ownBlock) (Kd.R_apart' (HO262.out) (Kd.S_typed HO_1.out) (by decide)) (fun k_ hk=>⟨trivial,hk.2⟩))) (fun _ h_=>h_)));(case aB=>exact(a0_));(case aF=>exact(fun _ _=>trivial));(case aO=>exact(by(with_reducible repeat (first | apply Kd.S_alloc | apply Kd.S_drewN | apply Kd.S_drew));exact Kd.S_mono HO_1.out (fun k_ hk=>⟨trivial,fun e_=>hk.2 e_⟩)));(case aS=>exact(below_size (a0_)));(case aL=>have:=LMc20.out;omega);intro v264 w23 ho hb hg hat;rw[← Ny263.out]at ho;have n0_:=am_ (hb);have n1_:=am_ (ho);clear HB HO_1 HO262;have HB:=n0_;have HO265:=n1_;clear n0_ n1_ ho hb hg hat))
               go_roundg kj7
               case measure=>have:=HK1.out;have:=HK2.out;have:=HJ4.out;have:=HJ7.out;omega
               case rel=>exact⟨(y263),((-1)),(wrap64 (x4_2+1)),(a6_),(a6_),H',⟨by have:=HK1.out;have:=HK2.out;have:=HJ4.out;have:=HJ7.out;omega⟩,⟨(a10_ HO265.out)⟩,⟨a0_⟩⟩
              ·rw[if_neg c20]at H
               exact absurd H (by simp)
             ·rw[if_neg c19]at H
              have c19b0:decide (0≤x3_2)=false:=decide_eq_false c19
              clear c19
              have H':=am_ H
              clear H
              go_wp2
              go_roundg kj7
              case measure=>have:=HK1.out;have:=HK2.out;have:=HJ4.out;have:=HJ7.out;omega
              case rel=>exact⟨(x1_2),(x3_2),(wrap64 (x4_2+1)),(a6_),(a6_),H',⟨by have:=HK1.out;have:=HK2.out;have:=HJ4.out;have:=HJ7.out;omega⟩,⟨(a10_ HO_1.out)⟩,⟨a0_⟩⟩
      ·rw[if_neg c4]at H
       have c4b0:decide (x4_2≤2000)=false:=decide_eq_false c4
       clear c4
       have H':=am_ H
       clear H
       go_wp2
       go_roundg k2
       case measure=>have:=HK1.out;have:=HK2.out;omega
       case rel=>exact⟨(x1_2),(wrap64 (x7_1+1)),(a6_),H',⟨by have:=HK1.out;have:=HK2.out;omega⟩,⟨(a10_ HO_1.out)⟩,⟨a0_⟩⟩
   ·rw[if_neg c3]at H
    have c3b0:decide (x7_1<20)=false:=decide_eq_false c3
    clear c3
    obtain rfl:=Option.some.inj H
    go_wp2
    go_ret
    exact⟨_,a5_,(a10_ HO_1.out),a0_⟩

def impl_MakeEdition.rd_L7 (xs:List (List Int)) (i:Int):(List Int):=xs.getD i.toNat ([]:List Int)
theorem impl_MakeEdition.at_L7 {w:World} {A:Option Addr} {n:Nat} {xs:List (List Int)} (h:Kd.C (Kd.slice 3 (Kd.int .i64)) w A n xs) (i:Int) (h0:0≤i) (h1:i<n):∃ad A0 c0,A=some ad∧w.cell? (ad.add i.toNat)=some (.slice A0 (impl_MakeEdition.rd_L7 xs i).length c0)∧(impl_MakeEdition.rd_L7 xs i).length≤c0∧(Kd.int .i64).C w A0 (impl_MakeEdition.rd_L7 xs i).length (impl_MakeEdition.rd_L7 xs i):=by
 obtain⟨ad,c,e,_,hK,hc0⟩:=Kd.C_get h ([]:List Int) i h0 h1
 have hc:∀j u,c[j]? = some u→w.cell? (ad.add (i.toNat*1+j))=some u:=hc0
 obtain⟨A0,c0,rfl,l0,g0⟩:=hK
 exact⟨ad,A0,c0,e,by have hq:=hc 0 _ rfl;rwa [Nat.mul_one,Nat.add_zero]at hq,l0,g0⟩

def impl_MakeEdition.sg.l0:Nat→List (S47)→List (List Int)→Int→Int→Option ((List (S47))×Bool)
 | 0,_,_,_,_=>none
 | k+1,x1,x5,x6,x7=>if x7<x6 then(if 0≤x7 then(if x7<(x5.length:Int) then(if 0<((impl_MakeEdition.rd_L7 x5 x7).length:Int) then(if 1<((impl_MakeEdition.rd_L7 x5 x7).length:Int) then(if 2<((impl_MakeEdition.rd_L7 x5 x7).length:Int) then(if x1.length<5864062014805 then(impl_MakeEdition.sg.l0 k (x1 ++ [(⟨rd (impl_MakeEdition.rd_L7 x5 x7) 0,rd (impl_MakeEdition.rd_L7 x5 x7) 1,rd (impl_MakeEdition.rd_L7 x5 x7) 2⟩:S47)]) x5 x6 (wrap64 (x7+1))) else(none)) else(none)) else(none)) else(none)) else(none)) else(none)) else(impl_sheetOf.f k x1)
def impl_MakeEdition.sg.f (pt:List (S47)) (k:Nat):Option ((List (S47))×Bool):=(impl_MakeEdition.rg.f pt k).bind fun t269=>(impl_MakeEdition.sg.l0 k (([]:List (S47))) t269 (t269.length:Int) 0)
theorem impl_MakeEdition.sg.mono_l:∀k,(∀y0 y1 y2 y3,LeO (impl_MakeEdition.sg.l0 k y0 y1 y2 y3) (impl_MakeEdition.sg.l0 (k+1) y0 y1 y2 y3))
 | 0=>fun _ _ _ _ r h=>by simp[impl_MakeEdition.sg.l0]at h
 | k+1=>by
  have ih0:=impl_MakeEdition.sg.mono_l k
  ·intro y0 y1 y2 y3
   unfold impl_MakeEdition.sg.l0
   repeat' first
   | (with_reducible exact ih0 _ _ _ _)
   | (with_reducible exact impl_MakeEdition.rg.mono _ _)
   | (with_reducible exact impl_sheetOf.mono _ _)
   | (with_reducible exact LeO.refl _)
   | (with_reducible exact LeO.none _)
   | (with_reducible refine LeO.ite ?_ ?_)
   | (with_reducible refine LeO.bind ?_ (fun _=>?_))
   | exact ih0 _ _ _ _
   | exact impl_MakeEdition.rg.mono _ _
   | exact LeO.none _
   | refine LeO.ite ?_ ?_
   | refine LeO.bind ?_ (fun _=>?_)
theorem impl_MakeEdition.sg.mono:∀pt k,LeO (impl_MakeEdition.sg.f pt k) (impl_MakeEdition.sg.f pt (k+1)):=by
 intro pt k
 have ih0:=impl_MakeEdition.sg.mono_l k
 unfold impl_MakeEdition.sg.f
 repeat' first
  | (with_reducible exact ih0 _ _ _ _)
  | (with_reducible exact impl_MakeEdition.rg.mono _ _)
  | (with_reducible exact impl_sheetOf.mono _ _)
  | (with_reducible exact LeO.refl _)
  | (with_reducible exact LeO.none _)
  | (with_reducible refine LeO.ite ?_ ?_)
  | (with_reducible refine LeO.bind ?_ (fun _=>?_))
  | exact ih0 _ _ _ _
  | exact impl_MakeEdition.rg.mono _ _
  | exact LeO.none _
  | refine LeO.ite ?_ ?_
  | refine LeO.bind ?_ (fun _=>?_)
def impl_MakeEdition.sg.T5:Bool×List (List Nat×List Nat):=(true, [([], []),([], []),([1], [1]),([2], [2]),([], []),([4], [4]),([5], [5]),([], []),([7], [7]),([8], [8]),([3,6,9], [3,6,9]),([10], [10]),([0,11], [0,11]),([12,12,0,1,2,3,4,5,6,7,8,9,10,11,12], [0,12])])
def impl_MakeEdition.sg.B5:List Nat:=[0,0,2,6,0,16,48,0,128,384,1022,2046,4095,8191]
theorem impl_MakeEdition.sg.tab5:rtab .any (opsOf Try.f26 5)=impl_MakeEdition.sg.T5:=by kernel_rfl
theorem impl_MakeEdition.sg.bits5:waitsOk impl_MakeEdition.sg.T5.2 impl_MakeEdition.sg.B5=true:=by kernel_rfl
set_option maxHeartbeats 8000000 in
set_option maxRecDepth 100000 in
theorem impl_MakeEdition.sg.calls (G:Nat) (pt:List (S47)) (k:Nat) (r1:List (S47)) (r2:Bool) (w:World) (hcG:impl_MakeEdition.At w G pt) (h:impl_MakeEdition.sg.f pt k=some (r1,r2)) :
 Calls Try.prog 26 #[.pointer (some ⟨G,0,none⟩)] w fun e w'=>∃v0_:Value,e = .returned (.tuple #[v0_, .bool r2])∧Kd.R k47 47 w' w.heap.size (fun _=>True) v0_ r1∧Below w.heap.size w w':=by
 have HCG:=am_ hcG
 clear hcG
 have hu47:=Try.underlying47
 have H:((impl_MakeEdition.rg.f pt k).bind fun t269=>(impl_MakeEdition.sg.l0 k (([]:List (S47))) t269 (t269.length:Int) 0))=some (r1,r2):=h
 clear h
 obtain⟨y266,hy266⟩:∃y_:List (S47),y_=(([]:List (S47))):=⟨_,rfl⟩
 replace H:((impl_MakeEdition.rg.f pt k).bind fun t269=>(impl_MakeEdition.sg.l0 k y266 t269 (t269.length:Int) 0))=some (r1,r2):=a35_
 have Ny266:=am_ hy266
 clear hy266
 replace H:=Option.bind_eq_some_iff.mp H
 obtain⟨t269,A10,H⟩:=H
 replace H:(impl_MakeEdition.sg.l0 k y266 t269 (t269.length:Int) 0)=some (r1,r2):=H
 have A1:=am_ A10
 clear A10
 have H':=am_ H
 clear H
 go_enter Try.func26,Try.ntmps26
 go_upto_region 1 with (fail)
 have HCB:=am_ (show(w.alloc (.cells #[.pointer (some ⟨G,0,none⟩)] 55)).cell? ⟨w.heap.size,0,none⟩=some (.pointer (some ⟨G,0,none⟩)) from impl_MakeEdition.cell_of _ w.heap.size 0 _ 55 _ (show(w.heap.push _)[w.heap.size]? = _ from Array.getElem?_push_size) rfl)
 have HCG1:=am_ (HCG.out.keep (below_alloc (Below.refl _ _) (.cells #[.pointer (some ⟨G,0,none⟩)] 55)))
 have HBW:=am_ (below_alloc (Below.refl w.heap.size w) (.cells #[.pointer (some ⟨G,0,none⟩)] 55))
 clear HCG
 have HCG:=HCG1
 clear HCG1
 generalize w.alloc (.cells #[.pointer (some ⟨G,0,none⟩)] 55)=w1 at HCB HCG HBW ⊢
 have HB:=am_ (Below.refl w1.heap.size w1)
 have eg:=enters_of (P:=Try.prog) Try.func38 (by kernel_rfl) rfl
 go_wp2_with (first | ((with_reducible refine gate_dst (N:=7) rfl ?_);refine Kd.R_lit k47 _ 47 ?hg (N:=7) ?hd (xs:=([]:List (S47))) (inner:=[]) (ok:=fun _=>True) (okp:=fun _=>True) ?hr ?hp (fun _ hk=>hk) trivial (Below.refl _ _) (Nat.le_refl _) (by simp) ?_;(case hd=>rfl);(case hg=>rfl);(case hr=>exact a12_);(case hp=>exact(Reps.none _ _));intro v267 w2 ho3 hb hg_ hnew_;clear hg_ hnew_;(first | rw[← Ny266.out]at ho3 | (simp only[Int.reduceToNat]at ho3;rw[← Ny266.out]at ho3));have HO268:=am_ (Kd.R_lower ho3 (below_size (a0_)));replace HB:=am_ (below_step (a0_) hb);clear hb ho3) | (go_at_call 37;(with_reducible refine(impl_MakeEdition.rg.calls w.heap.size G pt k t269 _ (pw_cell_below (a0_) HCB.out) (HCG.out.keep (a0_)) A1.out).mono ?_);rintro e w4 ⟨v270,rfl,ho0,hb⟩;replace HO268:=am_ (Kd.R_below ((a2_ HO268.out)) hb);have HO271:=am_ (Kd.S_lower ho0 (below_size (a0_)));replace HB:=am_ (below_step (a0_) hb);(try clear hb);(try clear hb2);(try clear hk);(try clear hi);(try clear ho0);obtain⟨Ao5,co5,eo5⟩:=Kd.S_slice HO271.out;subst eo5))
 go_loopg [4,11] k (fun kq v1 v7 w'=>∃(x1_1:List (S47)) (x7_1:Int),v7 = .int .i64 x7_1∧Aside0 (impl_MakeEdition.sg.l0 kq x1_1 t269 (t269.length:Int) x7_1=some (r1,r2))∧Aside0 (kq≤k)∧Aside0 (Kd.R k47 47 w' w1.heap.size (fun _=>True) v1 x1_1)∧Aside0 (Kd.S (Kd.slice 3 (Kd.int .i64)) 70 w' w1.heap.size (fun _=>True) (.slice Ao5 t269.length co5) t269)∧Aside0 (Below w1.heap.size w1 w'))
 case atStart=>exact⟨(y266),(0),(a6_),H',⟨Nat.le_refl _⟩,⟨(a2_ HO268.out)⟩,⟨(a10_ HO271.out)⟩,⟨a0_⟩⟩
 case round=>
  clear H'
  try clear p2
  try clear c4
  obtain⟨x1_1,x7_1,rfl,HA,HK1,HO_1,HO_5,HB⟩:=hrel
  cases gk with
  | zero=>exact absurd HA.out (by simp[impl_MakeEdition.sg.l0])
  | succ k1=>
   have H:=HA.out
   clear HA
   simp only[impl_MakeEdition.sg.l0]at H
   by_cases c6:x7_1<(t269.length:Int)
   ·rw[if_pos c6]at H
    have c6b0:decide (x7_1<(t269.length:Int))=true:=decide_eq_true c6
    clear c6
    by_cases c7:0≤x7_1
    ·rw[if_pos c7]at H
     have c7b0:decide (0≤x7_1)=true:=decide_eq_true c7
     clear c7
     by_cases c8:x7_1<(t269.length:Int)
     ·rw[if_pos c8]at H
      have c8b0:decide (x7_1<(t269.length:Int))=true:=decide_eq_true c8
      clear c8
      by_cases c9:0<((impl_MakeEdition.rd_L7 t269 x7_1).length:Int)
      ·rw[if_pos c9]at H
       have c9b0:decide (0<((impl_MakeEdition.rd_L7 t269 x7_1).length:Int))=true:=decide_eq_true c9
       have c9b1:decide (0<(impl_MakeEdition.rd_L7 t269 x7_1).length)=true:=decide_eq_true (by omega)
       clear c9
       by_cases c10:1<((impl_MakeEdition.rd_L7 t269 x7_1).length:Int)
       ·rw[if_pos c10]at H
        have c10b0:decide (1<((impl_MakeEdition.rd_L7 t269 x7_1).length:Int))=true:=decide_eq_true c10
        have c10b1:decide (1<(impl_MakeEdition.rd_L7 t269 x7_1).length)=true:=decide_eq_true (by omega)
        clear c10
        by_cases c11:2<((impl_MakeEdition.rd_L7 t269 x7_1).length:Int)
        ·rw[if_pos c11]at H
         have c11b0:decide (2<((impl_MakeEdition.rd_L7 t269 x7_1).length:Int))=true:=decide_eq_true c11
         have c11b1:decide (2<(impl_MakeEdition.rd_L7 t269 x7_1).length)=true:=decide_eq_true (by omega)
         clear c11
         by_cases c12:x1_1.length<5864062014805
         ·rw[if_pos c12]at H
          have LMc12:=am_ c12
          clear c12
          obtain⟨y276,hy276⟩:∃y_:List (S47),y_=(x1_1 ++ [(⟨rd (impl_MakeEdition.rd_L7 t269 x7_1) 0,rd (impl_MakeEdition.rd_L7 t269 x7_1) 1,rd (impl_MakeEdition.rd_L7 t269 x7_1) 2⟩:S47)]):=⟨_,rfl⟩
          replace H:(impl_MakeEdition.sg.l0 k1 y276 t269 (t269.length:Int) (wrap64 (x7_1+1)))=some (r1,r2):=by first | (rw[hy276];with_reducible exact H) | (have H2_:=(Option.bind_some _ _).symm.trans H;rw[hy276];with_reducible exact H2_) | (have H2_:=(Option.bind_some _ _).symm.trans H;with_reducible exact H2_) | with_reducible exact H | (rw[hy276];exact H) | exact H
          have Ny276:=am_ hy276
          clear hy276
          have H':=am_ H
          clear H
          have p272:0≤(x7_1:Int):=of_decide_eq_true (a4_)
          have q272:x7_1<(t269.length:Int):=of_decide_eq_true (a4_)
          obtain⟨ad272,A272_0,c272_0,e272,hx272_0,hl272_0,hi272_0⟩:=impl_MakeEdition.at_L7 (Kd.S_reads' HO_5.out).2.2 x7_1 p272 q272
          cases e272
          obtain⟨ce272,hce272,hMe272,hcc272⟩:=Kd.S_get HO_5.out [] x7_1 p272 (by first | exact q272 | exact of_decide_eq_true (a4_) | (have e_:=(Kd.S_reads' HO_5.out).1;omega))
          obtain⟨ve272_0,rfl,ge272_0⟩:=hMe272
          have hv272_0:=hcc272 0 _ rfl
          rw[Nat.add_zero,show((Kd.slice 3 (Kd.int .i64))).sz=1 from rfl,Nat.mul_one]at hv272_0
          replace hv272_0:=Option.some.inj (hv272_0.symm.trans hx272_0)
          rw[hv272_0]at ge272_0
          have HL272_0:=am_ (show Kd.R (Kd.int .i64) 3 _ _ _ _ (impl_MakeEdition.rd_L7 t269 x7_1) from ge272_0)
          clear hv272_0 ge272_0 hcc272 hce272
          have HR272_0:=am_ hi272_0
          have HC272_0:=am_ hl272_0
          clear hi272_0 hl272_0
          replace p272:=eq_true p272
          replace q272:=eq_true q272
          try go_wp2
          replace HO_1:=am_ (Kd.R_drew HO_1.out)
          replace HO_5:=am_ (Kd.S_drew HO_5.out)
          replace HL272_0:=am_ (Kd.R_drew HL272_0.out)
          replace HR272_0:=am_ (Kd.C_drew HR272_0.out)
          replace HB:=am_ (below_drew1 HB.out)
          have p273:0≤(0:Int):=(by omega)
          have q273:0<((impl_MakeEdition.rd_L7 t269 x7_1).length:Int):=of_decide_eq_true (a4_)
          obtain⟨ad273,e273,hx273_0⟩:=Kd.at_int ((a8_ HR272_0.out)) 0 p273 q273
          cases e273
          have qi273:(0<(impl_MakeEdition.rd_L7 t269 x7_1).length)=True:=eq_true (by omega)
          (try rw[show((0:Int)).toNat=0 from rfl]at hx273_0)
          (try rw[Addr.add_zero']at hx273_0)
          replace p273:=eq_true p273
          replace q273:=eq_true q273
          have p274:0≤(1:Int):=(by omega)
          have q274:1<((impl_MakeEdition.rd_L7 t269 x7_1).length:Int):=of_decide_eq_true (a4_)
          obtain⟨ad274,e274,hx274_0⟩:=Kd.at_int ((a8_ HR272_0.out)) 1 p274 q274
          obtain rfl:ad273=ad274:=(by injection e274)
          (try simp only[show(1:Int).toNat=1 from rfl,Nat.reduceMul,Nat.reduceEqDiff,Go.Addr.add, ↓reduceIte]at hx274_0)
          have qi274:(1<(impl_MakeEdition.rd_L7 t269 x7_1).length)=True:=eq_true (by omega)
          (try rw[show((1:Int)).toNat=1 from rfl]at hx274_0)
          replace p274:=eq_true p274
          replace q274:=eq_true q274
          have p275:0≤(2:Int):=(by omega)
          have q275:2<((impl_MakeEdition.rd_L7 t269 x7_1).length:Int):=of_decide_eq_true (a4_)
          obtain⟨ad275,e275,hx275_0⟩:=Kd.at_int ((a8_ HR272_0.out)) 2 p275 q275
          obtain rfl:ad273=ad275:=(by injection e275)
          (try simp only[show(2:Int).toNat=2 from rfl,Nat.reduceMul,Nat.reduceEqDiff,Go.Addr.add, ↓reduceIte]at hx275_0)
          have qi275:(2<(impl_MakeEdition.rd_L7 t269 x7_1).length)=True:=eq_true (by omega)
          (try rw[show((2:Int)).toNat=2 from rfl]at hx275_0)
          replace p275:=eq_true p275
          replace q275:=eq_true q275
          refine start_ (n:=14) (S:=fun w'=>w'.cell? ad273=some (.int .i64 (rd (impl_MakeEdition.rd_L7 t269 x7_1) 0))∧w'.cell? ⟨ad273.block,ad273.off+1,none⟩=some (.int .i64 (rd (impl_MakeEdition.rd_L7 t269 x7_1) 1))∧w'.cell? ⟨ad273.block,ad273.off+2,none⟩=some (.int .i64 (rd (impl_MakeEdition.rd_L7 t269 x7_1) 2))) (ds:=[11,12]) #[false,false,false,false,false,false,false,false,false,false,false,false,false,false] (by kernel_rfl) rfl rfl ⟨hx273_0,hx274_0,hx275_0⟩ (fun hHeld=>?_);refine with_tabW impl_MakeEdition.sg.tab5 impl_MakeEdition.sg.bits5 (fun HT_ HW_=>?_)
          generalize wr.drew=w13 at HO_1 HO_5 HL272_0 HR272_0 HB hx273_0 hx274_0 hx275_0 hHeld ⊢
          refine pure_ (i:=0) (N:=some 15) (v:=?_) (a':=?_) #[true,false,false,false,false,false,false,false,false,false,false,false,false,false] rfl rfl (any_of HT_.out (by kernel_rfl)) (fun _ _ _ h=>h) (Or.inl ⟨by rfl,?_⟩) ?_ ?_
          rotate_left
          ·intro w'
           go_simp
           with_reducible rfl
          rotate_left
          ·simp only[Act.put,pu_]
           rfl
          refine pure_ (i:=1) (N:=some 16) (v:=?_) (a':=?_) #[true,true,false,false,false,false,false,false,false,false,false,false,false,false] rfl rfl (any_of HT_.out (by kernel_rfl)) (fun _ _ _ h=>h) (Or.inl ⟨by rfl,?_⟩) ?_ ?_
          rotate_left
          ·intro w'
           go_simp
           with_reducible rfl
          rotate_left
          ·simp only[Act.put,pu_]
           rfl
          refine pure_ (i:=2) (N:=some 17) (v:=?_) (a':=?_) #[true,true,true,false,false,false,false,false,false,false,false,false,false,false] rfl rfl (any_of HT_.out (by kernel_rfl)) (fun _ _ _ h=>h) (Or.inl ⟨by rfl,?_⟩) ?_ ?_
          rotate_left
          ·intro w'
           go_simp
           with_reducible rfl
          rotate_left
          ·simp only[Act.put,pu_]
           rfl
          refine pure_ (i:=4) (N:=some 19) (v:=?_) (a':=?_) #[true,true,true,false,true,false,false,false,false,false,false,false,false,false] rfl rfl (any_of HT_.out (by kernel_rfl)) (fun _ _ _ h=>h) (Or.inl ⟨by rfl,?_⟩) ?_ ?_
          rotate_left
          ·intro w'
           go_simp
           with_reducible rfl
          rotate_left
          ·simp only[Act.put,pu_]
           rfl
          refine pure_ (i:=5) (N:=some 20) (v:=?_) (a':=?_) #[true,true,true,false,true,true,false,false,false,false,false,false,false,false] rfl rfl (any_of HT_.out (by kernel_rfl)) (fun _ _ _ h=>h) (Or.inl ⟨by rfl,?_⟩) ?_ ?_
          rotate_left
          ·intro w'
           go_simp
           with_reducible rfl
          rotate_left
          ·simp only[Act.put,pu_]
           rfl
          refine pure_ (i:=7) (N:=some 22) (v:=?_) (a':=?_) #[true,true,true,false,true,true,false,true,false,false,false,false,false,false] rfl rfl (any_of HT_.out (by kernel_rfl)) (fun _ _ _ h=>h) (Or.inl ⟨by rfl,?_⟩) ?_ ?_
          rotate_left
          ·intro w'
           go_simp
           with_reducible rfl
          rotate_left
          ·simp only[Act.put,pu_]
           rfl
          refine pure_ (i:=8) (N:=some 23) (v:=?_) (a':=?_) #[true,true,true,false,true,true,false,true,true,false,false,false,false,false] rfl rfl (any_of HT_.out (by kernel_rfl)) (fun _ _ _ h=>h) (Or.inl ⟨by rfl,?_⟩) ?_ ?_
          rotate_left
          ·intro w'
           go_simp
           with_reducible rfl
          rotate_left
          ·simp only[Act.put,pu_]
           rfl
          refine take_ (i:=3) (N:=some 18) (v:=?_) (a':=?_) #[true,true,true,true,true,true,false,true,true,false,false,false,false,false] rfl rfl (take_ofW HT_.out HW_.out (by kernel_rfl)) (fun _ _ _ h=>h) (Or.inl ⟨by rfl,?_⟩) hHeld ?_ ?_
          rotate_left
          ·rintro w' ⟨s0,s1,s2⟩
           go_simp
           with_reducible rfl
          rotate_left
          ·simp only[Act.put,pu_]
           rfl
          refine take_ (i:=6) (N:=some 21) (v:=?_) (a':=?_) #[true,true,true,true,true,true,true,true,true,false,false,false,false,false] rfl rfl (take_ofW HT_.out HW_.out (by kernel_rfl)) (fun _ _ _ h=>h) (Or.inl ⟨by rfl,?_⟩) hHeld ?_ ?_
          rotate_left
          ·rintro w' ⟨s0,s1,s2⟩
           go_simp
           with_reducible rfl
          rotate_left
          ·simp only[Act.put,pu_]
           rfl
          refine take_ (i:=9) (N:=some 24) (v:=?_) (a':=?_) #[true,true,true,true,true,true,true,true,true,true,false,false,false,false] rfl rfl (take_ofW HT_.out HW_.out (by kernel_rfl)) (fun _ _ _ h=>h) (Or.inl ⟨by rfl,?_⟩) hHeld ?_ ?_
          rotate_left
          ·rintro w' ⟨s0,s1,s2⟩
           go_simp
           with_reducible rfl
          rotate_left
          ·simp only[Act.put,pu_]
           rfl
          refine pure_ (i:=10) (N:=some 25) (v:=?_) (a':=?_) #[true,true,true,true,true,true,true,true,true,true,true,false,false,false] rfl rfl (any_of HT_.out (by kernel_rfl)) (fun _ _ _ h=>h) (Or.inl ⟨by rfl,?_⟩) ?_ ?_
          rotate_left
          ·intro w'
           go_simp
           with_reducible rfl
          rotate_left
          ·simp only[Act.put,pu_]
           rfl
          refine last_ (i:=11) (N:=some 26) #[true,true,true,true,true,true,true,true,true,true,true,true,false,false] rfl rfl (one_of HT_.out (by kernel_rfl)) (by decide) (fun K hK=>?_)
          refine value_ (w1:=?_) (v:=?_) (by rfl) rfl ?_ ?_
          rotate_left 2
          ·go_simp
           constructor
           ·rfl
           ·rfl
          refine hK.out _ _ ?_
          clear hK K
          refine norm_ (a':=?_) ?_ ?_
          rotate_left
          ·show Act.put _ (some 26) _=_
           simp only[Act.put,pu_]
           rfl
          refine last_ (i:=12) (N:=some 27) #[true,true,true,true,true,true,true,true,true,true,true,true,true,false] rfl rfl (one_of HT_.out (by kernel_rfl)) (by decide) (fun K hK=>?_)
          refine Kd.R_append_step k47 (w0:=w1) w1.heap.size (by rfl) (.tmp 15) (.tmp 26) 26 47 (.agg #[(.int .i64 0),(.int .i64 0),(.int .i64 0)]) 24 rfl Try.underlying26 info47 rfl (by decide) (by omega) u4 x1_1 (⟨rd (impl_MakeEdition.rd_L7 t269 x7_1) 0,rd (impl_MakeEdition.rd_L7 t269 x7_1) 1,rd (impl_MakeEdition.rd_L7 t269 x7_1) 2⟩:S47) [.int .i64 (rd (impl_MakeEdition.rd_L7 t269 x7_1) 0), .int .i64 (rd (impl_MakeEdition.rd_L7 t269 x7_1) 1), .int .i64 (rd (impl_MakeEdition.rd_L7 t269 x7_1) 2)] (fun _=>True) (fun _=>False) rfl rfl ?aP (fun _ hk=>hk.elim) ?aF ?aO ?aB ?aS ?aL ?_
          (case aP=>exact k47_mkM _ _ _ (⟨rd (impl_MakeEdition.rd_L7 t269 x7_1) 0,rd (impl_MakeEdition.rd_L7 t269 x7_1) 1,rd (impl_MakeEdition.rd_L7 t269 x7_1) 2⟩:S47))
          (case aB=>exact(a0_))
          (case aF=>exact(fun _ _=>trivial))
          (case aO=>exact((a2_ HO_1.out)))
          (case aS=>exact(below_size (a0_)))
          (case aL=>have:=LMc12.out;omega)
          intro v277 w14 ho hb hg hat
          rw[← Ny276.out]at ho
          have n0_:=am_ (Kd.S_over' ((a10_ HO_5.out)) (Kd.R_typed ((a2_ HO_1.out))) (by decide) hg)
          have n1_:=am_ (Kd.R_over' ((a2_ HL272_0.out)) (Kd.R_typed ((a2_ HO_1.out))) (by decide) hg)
          have n2_:=am_ (hb)
          have n3_:=am_ (ho)
          clear HO_5 HL272_0 HB HO_1
          have HO_5:=n0_
          have HL272_0:=n1_
          have HB:=n2_
          have HO278:=n3_
          clear n0_ n1_ n2_ n3_ ho hb hg hat
          refine hK.out _ _ ?_
          clear hK K
          refine norm_ (a':=?_) ?_ ?_
          rotate_left
          ·show Act.put _ (some 27) _=_
           simp only[Act.put,pu_]
           rfl
          refine pure_ (i:=13) (N:=some 4) (v:=?_) (a':=?_) #[true,true,true,true,true,true,true,true,true,true,true,true,true,true] rfl rfl (any_of HT_.out (by kernel_rfl)) (fun _ _ _ h=>h) (Or.inl ⟨by rfl,?_⟩) ?_ ?_
          rotate_left
          ·intro w'
           go_simp
           with_reducible rfl
          rotate_left
          ·simp only[Act.put,pu_]
           rfl
          refine done_ (done_of HT_.out (by kernel_rfl)) ?_
          try go_wp2
          go_roundg k1
          case measure=>have:=HK1.out;omega
          case rel=>exact⟨(y276),(wrap64 (x7_1+1)),(a6_),H',⟨by have:=HK1.out;omega⟩,⟨(a2_ HO278.out)⟩,⟨(a10_ HO_5.out)⟩,⟨a0_⟩⟩
         ·rw[if_neg c12]at H
          exact absurd H (by simp)
        ·rw[if_neg c11]at H
         exact absurd H (by simp)
       ·rw[if_neg c10]at H
        exact absurd H (by simp)
      ·rw[if_neg c9]at H
       exact absurd H (by simp)
     ·rw[if_neg c8]at H
      exact absurd H (by simp)
    ·rw[if_neg c7]at H
     exact absurd H (by simp)
   ·rw[if_neg c6]at H
    have c6b0:decide (x7_1<(t269.length:Int))=false:=decide_eq_false c6
    clear c6
    have A16:=am_ H
    clear H
    obtain⟨Ao17,co17,eo17⟩:=Kd.R_slice HO_1.out
    subst eo17
    go_wp2_with (first | (go_at_call 39;(with_reducible refine(impl_sheetOf.calls k1 _ _ x1_1 r1 r2 _ ?side1 ?side2 A16.out).mono ?_);(case side1=>exact(a9_ HO_1.out));(case side2=>exact(Kd.R_reads' HO_1.out).2.1);rintro e w18 ⟨v191,rfl,ho0,hb⟩;have n1_:=am_ (Kd.R_lower ho0 (below_size (a0_)));have n2_:=am_ (below_step (a0_) hb);clear HO_1 HO_5 HB;have HO192:=n1_;have HB:=n2_;clear n1_ n2_ hb ho0))
    go_ret2
    exact⟨_,a5_,by(with_reducible repeat (first | apply Kd.R_alloc | apply Kd.R_drewN | apply Kd.R_drew));exact Kd.R_lower HO192.out HBW.out.size,below_step HBW.out (show Below w1.heap.size w1 _ from(a0_))⟩
mutual
def impl_MakeEdition.j0:Nat→List (List (S47))→List (S44)→Bool→Option ((List (S47))×Bool)
 | 0,_,_,_=>none
 | k+1,x0,x1,x22=>if x22=true then(some (([]:List (S47)),false)) else(impl_MakeEdition.l0 k x0 ([]:List (S47)) 0 x1 (x1.length:Int) 0)
def impl_MakeEdition.l0:Nat→List (List (S47))→List (S47)→Int→List (S44)→Int→Int→Option ((List (S47))×Bool)
 | 0,_,_,_,_,_,_=>none
 | k+1,x0,x6,x7,x23,x24,x25=>if x25<x24 then(if 0≤x25 then(if x25<(x23.length:Int) then(if 0≤((rd_T44 x23 x25).f0) then(if((rd_T44 x23 x25).f0)<(x0.length:Int) then(impl_MakeEdition.l1 k x0 x6 x7 x23 x24 x25 (rd_L6 x0 ((rd_T44 x23 x25).f0)) ((rd_L6 x0 ((rd_T44 x23 x25).f0)).length:Int) 0 ((rd_T44 x23 x25).f0) ((rd_T44 x23 x25).f1) ((rd_T44 x23 x25).f2)) else(none)) else(none)) else(none)) else(none)) else(impl_MakeEdition.sg.f x6 k)
def impl_MakeEdition.l1:Nat→List (List (S47))→List (S47)→Int→List (S44)→Int→Int→List (S47)→Int→Int→Int→Int→Int→Option ((List (S47))×Bool)
 | 0,_,_,_,_,_,_,_,_,_,_,_,_=>none
 | k+1,x0,x6,x7,x23,x24,x25,x33,x34,x35,x286000,x286001,x286002=>if x35<x34 then(if 0≤x35 then(if x35<(x33.length:Int) then(impl_MakeEdition.l2 k x0 x6 x7 (mx ((rd_T47 x33 x35).f1) x286001) x23 x24 x25 x33 x34 x35 x286000 x286001 x286002 ((rd_T47 x33 x35).f0) ((rd_T47 x33 x35).f1) ((rd_T47 x33 x35).f2)) else(none)) else(none)) else(impl_MakeEdition.l0 k x0 x6 (wrap64 (x7+(wrap64 (x286002-x286001)))) x23 x24 (wrap64 (x25+1)))
def impl_MakeEdition.l2:Nat→List (List (S47))→List (S47)→Int→Int→List (S44)→Int→Int→List (S47)→Int→Int→Int→Int→Int→Int→Int→Int→Option ((List (S47))×Bool)
 | 0,_,_,_,_,_,_,_,_,_,_,_,_,_,_,_,_=>none
 | k+1,x0,x6,x7,x12,x23,x24,x25,x33,x34,x35,x286000,x286001,x286002,x289000,x289001,x289002=>if x12<(mn x289002 x286002) then(if 0≤x289000 then(if x289000<20 then(if 0≤(wrap64 ((wrap64 (x7+x12))-x286001)) then(if(wrap64 ((wrap64 (x7+x12))-x286001))<2000 then(impl_MakeEdition.l2 k x0 (x6 ++ [(⟨x289000,(wrap64 ((wrap64 (x7+x12))-x286001)),(wrap64 ((wrap64 (x7+x12))-x286001))+1⟩:S47)]) x7 (wrap64 (x12+1)) x23 x24 x25 x33 x34 x35 x286000 x286001 x286002 x289000 x289001 x289002) else(none)) else(none)) else(none)) else(none)) else(impl_MakeEdition.l1 k x0 x6 x7 x23 x24 x25 x33 x34 (wrap64 (x35+1)) x286000 x286001 x286002)
end
def impl_MakeEdition.f (k:Nat) (l0:List (List (S47))) (l1:List (S44)):Option ((List (S47))×Bool):=(impl_areSheets.f k l0 4).bind fun t279=>(if t279=true then((impl_AreParts.f k l1 (l0.length:Int)).bind fun t280=>(impl_MakeEdition.j0 k l0 l1 (!t280))) else(impl_MakeEdition.j0 k l0 l1 true))
theorem impl_MakeEdition.mono_l:∀k,(∀y0 y1 y2,LeO (impl_MakeEdition.j0 k y0 y1 y2) (impl_MakeEdition.j0 (k+1) y0 y1 y2))∧(∀y0 y1 y2 y3 y4 y5,LeO (impl_MakeEdition.l0 k y0 y1 y2 y3 y4 y5) (impl_MakeEdition.l0 (k+1) y0 y1 y2 y3 y4 y5))∧(∀y0 y1 y2 y3 y4 y5 y6 y7 y8 y9 y10 y11,LeO (impl_MakeEdition.l1 k y0 y1 y2 y3 y4 y5 y6 y7 y8 y9 y10 y11) (impl_MakeEdition.l1 (k+1) y0 y1 y2 y3 y4 y5 y6 y7 y8 y9 y10 y11))∧(∀y0 y1 y2 y3 y4 y5 y6 y7 y8 y9 y10 y11 y12 y13 y14 y15,LeO (impl_MakeEdition.l2 k y0 y1 y2 y3 y4 y5 y6 y7 y8 y9 y10 y11 y12 y13 y14 y15) (impl_MakeEdition.l2 (k+1) y0 y1 y2 y3 y4 y5 y6 y7 y8 y9 y10 y11 y12 y13 y14 y15))
 | 0=>⟨fun _ _ _ r h=>by simp[impl_MakeEdition.j0]at h,fun _ _ _ _ _ _ r h=>by simp[impl_MakeEdition.l0]at h,fun _ _ _ _ _ _ _ _ _ _ _ _ r h=>by simp[impl_MakeEdition.l1]at h,fun _ _ _ _ _ _ _ _ _ _ _ _ _ _ _ _ r h=>by simp[impl_MakeEdition.l2]at h⟩
 | k+1=>by
  obtain⟨ih0,ih1,ih2,ih3⟩:=impl_MakeEdition.mono_l k
  refine⟨?_,?_,?_,?_⟩
  ·intro y0 y1 y2
   unfold impl_MakeEdition.j0
   repeat' first
   | (with_reducible exact ih0 _ _ _)
   | (with_reducible exact ih1 _ _ _ _ _ _)
   | (with_reducible exact ih2 _ _ _ _ _ _ _ _ _ _ _ _)
   | (with_reducible exact ih3 _ _ _ _ _ _ _ _ _ _ _ _ _ _ _ _)
   | (with_reducible exact impl_AreParts.mono _ _ _)
   | (with_reducible exact impl_areSheets.mono _ _ _)
   | (with_reducible exact impl_MakeEdition.sg.mono _ _)
   | (with_reducible exact LeO.refl _)
   | (with_reducible exact LeO.none _)
   | (with_reducible refine LeO.ite ?_ ?_)
   | (with_reducible refine LeO.bind ?_ (fun _=>?_))
   | exact ih0 _ _ _
   | exact ih1 _ _ _ _ _ _
   | exact ih2 _ _ _ _ _ _ _ _ _ _ _ _
   | exact ih3 _ _ _ _ _ _ _ _ _ _ _ _ _ _ _ _
   | exact impl_AreParts.mono _ _ _
   | exact impl_areSheets.mono _ _ _
   | exact impl_MakeEdition.sg.mono _ _
   | exact LeO.none _
   | refine LeO.ite ?_ ?_
   | refine LeO.bind ?_ (fun _=>?_)
  ·intro y0 y1 y2 y3 y4 y5
   unfold impl_MakeEdition.l0
   repeat' first
   | (with_reducible exact ih0 _ _ _)
   | (with_reducible exact ih1 _ _ _ _ _ _)
   | (with_reducible exact ih2 _ _ _ _ _ _ _ _ _ _ _ _)
   | (with_reducible exact ih3 _ _ _ _ _ _ _ _ _ _ _ _ _ _ _ _)
   | (with_reducible exact impl_AreParts.mono _ _ _)
   | (with_reducible exact impl_areSheets.mono _ _ _)
   | (with_reducible exact impl_MakeEdition.sg.mono _ _)
   | (with_reducible exact LeO.refl _)
   | (with_reducible exact LeO.none _)
   | (with_reducible refine LeO.ite ?_ ?_)
   | (with_reducible refine LeO.bind ?_ (fun _=>?_))
   | exact ih0 _ _ _
   | exact ih1 _ _ _ _ _ _
   | exact ih2 _ _ _ _ _ _ _ _ _ _ _ _
   | exact ih3 _ _ _ _ _ _ _ _ _ _ _ _ _ _ _ _
   | exact impl_AreParts.mono _ _ _
   | exact impl_areSheets.mono _ _ _
   | exact impl_MakeEdition.sg.mono _ _
   | exact LeO.none _
   | refine LeO.ite ?_ ?_
   | refine LeO.bind ?_ (fun _=>?_)
  ·intro y0 y1 y2 y3 y4 y5 y6 y7 y8 y9 y10 y11
   unfold impl_MakeEdition.l1
   repeat' first
   | (with_reducible exact ih0 _ _ _)
   | (with_reducible exact ih1 _ _ _ _ _ _)
   | (with_reducible exact ih2 _ _ _ _ _ _ _ _ _ _ _ _)
   | (with_reducible exact ih3 _ _ _ _ _ _ _ _ _ _ _ _ _ _ _ _)
   | (with_reducible exact impl_AreParts.mono _ _ _)
   | (with_reducible exact impl_areSheets.mono _ _ _)
   | (with_reducible exact impl_MakeEdition.sg.mono _ _)
   | (with_reducible exact LeO.refl _)
   | (with_reducible exact LeO.none _)
   | (with_reducible refine LeO.ite ?_ ?_)
   | (with_reducible refine LeO.bind ?_ (fun _=>?_))
   | exact ih0 _ _ _
   | exact ih1 _ _ _ _ _ _
   | exact ih2 _ _ _ _ _ _ _ _ _ _ _ _
   | exact ih3 _ _ _ _ _ _ _ _ _ _ _ _ _ _ _ _
   | exact impl_AreParts.mono _ _ _
   | exact impl_areSheets.mono _ _ _
   | exact impl_MakeEdition.sg.mono _ _
   | exact LeO.none _
   | refine LeO.ite ?_ ?_
   | refine LeO.bind ?_ (fun _=>?_)
  ·intro y0 y1 y2 y3 y4 y5 y6 y7 y8 y9 y10 y11 y12 y13 y14 y15
   unfold impl_MakeEdition.l2
   repeat' first
   | (with_reducible exact ih0 _ _ _)
   | (with_reducible exact ih1 _ _ _ _ _ _)
   | (with_reducible exact ih2 _ _ _ _ _ _ _ _ _ _ _ _)
   | (with_reducible exact ih3 _ _ _ _ _ _ _ _ _ _ _ _ _ _ _ _)
   | (with_reducible exact impl_AreParts.mono _ _ _)
   | (with_reducible exact impl_areSheets.mono _ _ _)
   | (with_reducible exact impl_MakeEdition.sg.mono _ _)
   | (with_reducible exact LeO.refl _)
   | (with_reducible exact LeO.none _)
   | (with_reducible refine LeO.ite ?_ ?_)
   | (with_reducible refine LeO.bind ?_ (fun _=>?_))
   | exact ih0 _ _ _
   | exact ih1 _ _ _ _ _ _
   | exact ih2 _ _ _ _ _ _ _ _ _ _ _ _
   | exact ih3 _ _ _ _ _ _ _ _ _ _ _ _ _ _ _ _
   | exact impl_AreParts.mono _ _ _
   | exact impl_areSheets.mono _ _ _
   | exact impl_MakeEdition.sg.mono _ _
   | exact LeO.none _
   | refine LeO.ite ?_ ?_
   | refine LeO.bind ?_ (fun _=>?_)
theorem impl_MakeEdition.mono:∀a0 a1 k,LeO (impl_MakeEdition.f k a0 a1) (impl_MakeEdition.f (k+1) a0 a1):=by
 intro a0 a1 k
 obtain⟨ih0,ih1,ih2,ih3⟩:=impl_MakeEdition.mono_l k
 unfold impl_MakeEdition.f
 repeat' first
  | (with_reducible exact ih0 _ _ _)
  | (with_reducible exact ih1 _ _ _ _ _ _)
  | (with_reducible exact ih2 _ _ _ _ _ _ _ _ _ _ _ _)
  | (with_reducible exact ih3 _ _ _ _ _ _ _ _ _ _ _ _ _ _ _ _)
  | (with_reducible exact impl_AreParts.mono _ _ _)
  | (with_reducible exact impl_areSheets.mono _ _ _)
  | (with_reducible exact impl_MakeEdition.sg.mono _ _)
  | (with_reducible exact LeO.refl _)
  | (with_reducible exact LeO.none _)
  | (with_reducible refine LeO.ite ?_ ?_)
  | (with_reducible refine LeO.bind ?_ (fun _=>?_))
  | exact ih0 _ _ _
  | exact ih1 _ _ _ _ _ _
  | exact ih2 _ _ _ _ _ _ _ _ _ _ _ _
  | exact ih3 _ _ _ _ _ _ _ _ _ _ _ _ _ _ _ _
  | exact impl_AreParts.mono _ _ _
  | exact impl_areSheets.mono _ _ _
  | exact impl_MakeEdition.sg.mono _ _
  | exact LeO.none _
  | refine LeO.ite ?_ ?_
  | refine LeO.bind ?_ (fun _=>?_)
def impl_MakeEdition.T14:Bool×List (List Nat×List Nat):=(true, [([], []),([], []),([1], [1]),([], []),([], []),([3,4], [3,4]),([], []),([6], [6]),([5,7], [5,7]),([0], [0]),([9,2], [2,9]),([10,8,0,1,2,3,4,5,6,7,8], [8,10]),([11,0,1,2,3,4,5,6,7,8], [11])])
def impl_MakeEdition.B14:List Nat:=[0,0,2,0,0,24,0,64,248,1,519,2047,4095]
theorem impl_MakeEdition.tab14:rtab .any (opsOf Try.f9 14)=impl_MakeEdition.T14:=by kernel_rfl
theorem impl_MakeEdition.bits14:waitsOk impl_MakeEdition.T14.2 impl_MakeEdition.B14=true:=by kernel_rfl
set_option maxHeartbeats 8000000 in
set_option maxRecDepth 100000 in
theorem impl_MakeEdition.calls (k:Nat) (A0:Option Addr) (c0:Nat) (l0:List (List (S47))) (A1:Option Addr) (c1:Nat) (l1:List (S44)) (r1:List (S47)) (r2:Bool) (w:World) (hr0:Kd.C (Kd.slice 47 k47) w A0 l0.length l0) (hc0:l0.length≤c0) (hr1:Kd.C k44 w A1 l1.length l1) (hc1:l1.length≤c1) (h:impl_MakeEdition.f k l0 l1=some (r1,r2)) :
 Calls Try.prog 9 #[.slice A0 l0.length c0, .slice A1 l1.length c1] w fun e w'=>∃v0_:Value,e = .returned (.tuple #[v0_, .bool r2])∧Kd.R k47 47 w' w.heap.size (fun _=>True) v0_ r1∧Below w.heap.size w w':=by
 have hu44:=Try.underlying44
 have hu47:=Try.underlying47
 have HR0:=am_ hr0
 have HC0:=am_ hc0
 clear hr0 hc0
 have HR1:=am_ hr1
 have HC1:=am_ hc1
 clear hr1 hc1
 have HB:=am_ (Below.refl w.heap.size w)
 have H:((impl_areSheets.f k l0 4).bind fun t279=>(if t279=true then((impl_AreParts.f k l1 (l0.length:Int)).bind fun t280=>(impl_MakeEdition.j0 k l0 l1 (!t280))) else(impl_MakeEdition.j0 k l0 l1 true)))=some (r1,r2):=h
 clear h
 have HC3:=am_ H
 clear H
 go_enter Try.func9,Try.ntmps9
 go_upto_region 1 with (fail)
 go_cut [22] (fun v22 wc=>∃(kq:Nat) (x22_2:Bool),v22 = .bool x22_2∧Aside0 (impl_MakeEdition.j0 kq l0 l1 x22_2=some (r1,r2))∧Aside0 (kq≤k)∧Aside0 (Below w.heap.size w wc))
 case first=>
  have H:=HC3.out
  clear HC3
  replace H:=Option.bind_eq_some_iff.mp H
  obtain⟨t279,A40,H⟩:=H
  replace H:(if t279=true then((impl_AreParts.f k l1 (l0.length:Int)).bind fun t280=>(impl_MakeEdition.j0 k l0 l1 (!t280))) else(impl_MakeEdition.j0 k l0 l1 true))=some (r1,r2):=H
  have A4:=am_ A40
  clear A40
  by_cases c5:t279=true
  ·subst c5
   replace H:((impl_AreParts.f k l1 (l0.length:Int)).bind fun t280=>(impl_MakeEdition.j0 k l0 l1 (!t280)))=some (r1,r2):=by rw[if_pos rfl]at H;exact H
   replace H:=Option.bind_eq_some_iff.mp H
   obtain⟨t280,A60,H⟩:=H
   replace H:(impl_MakeEdition.j0 k l0 l1 (!t280))=some (r1,r2):=H
   have A6:=am_ A60
   clear A60
   have H':=am_ H
   clear H
   go_wp2_with (first | ((with_reducible refine gate_callee (f:=24) rfl ?_);refine goesL_ (some 14) rfl rfl Try.func24 (by kernel_rfl) rfl #[.slice A0 l0.length c0, .int .i64 4] rfl (by(try simp only[List.map_toArray,List.map_cons,List.map_nil]);first | done | rfl | (simp only[List.length_drop,List.length_take];rfl)) ?_;(with_reducible refine(impl_areSheets.calls k _ _ l0 4 true _ ?side1 ?side2 A4.out).mono ?_);(case side1=>exact(a11_ HR0.out));(case side2=>exact HC0.out);rintro e w7 ⟨rfl,hb⟩;refine⟨_,rfl,?_⟩;replace HB:=am_ (below_step (a0_) hb);(try clear hb);(try clear hb2);(try clear hk);(try clear hi)) | (go_at_call 25;(with_reducible refine(impl_AreParts.calls k _ _ l1 (l0.length:Int) t280 _ ?side1 ?side2 A6.out).mono ?_);(case side1=>exact(a11_ HR1.out));(case side2=>exact HC1.out);rintro e w8 ⟨rfl,hb⟩;replace HB:=am_ (below_step (a0_) hb);(try clear hb);(try clear hb2);(try clear hk);(try clear hi)))
   go_meet
   case rel=>exact⟨_,(!t280),(a6_),H',⟨by first | omega | exact Nat.le_refl _⟩,⟨a0_⟩⟩
  ·replace c5:=Bool.eq_false_iff.mpr c5
   subst c5
   replace H:(impl_MakeEdition.j0 k l0 l1 true)=some (r1,r2):=by rw[if_neg (show ¬(false=true) by decide)]at H;exact H
   have H':=am_ H
   clear H
   go_wp2_with (first | ((with_reducible refine gate_callee (f:=24) rfl ?_);refine goesL_ (some 14) rfl rfl Try.func24 (by kernel_rfl) rfl #[.slice A0 l0.length c0, .int .i64 4] rfl (by(try simp only[List.map_toArray,List.map_cons,List.map_nil]);first | done | rfl | (simp only[List.length_drop,List.length_take];rfl)) ?_;(with_reducible refine(impl_areSheets.calls k _ _ l0 4 false _ ?side1 ?side2 A4.out).mono ?_);(case side1=>exact(a11_ HR0.out));(case side2=>exact HC0.out);rintro e w9 ⟨rfl,hb⟩;refine⟨_,rfl,?_⟩;replace HB:=am_ (below_step (a0_) hb);(try clear hb);(try clear hb2);(try clear hk);(try clear hi)))
   go_meet
   case rel=>exact⟨_,(true),(a6_),H',⟨by first | omega | exact Nat.le_refl _⟩,⟨a0_⟩⟩
 case rest=>
  clear HC3
  try clear c1
  try clear c2
  try clear p2
  try clear c5
  obtain⟨kq,x22_2,rfl,HA,HJ2,HB⟩:=hcut
  cases kq with
  | zero=>exact absurd HA.out (by simp[impl_MakeEdition.j0])
  | succ kj2=>
   have H:=HA.out
   clear HA
   simp only[impl_MakeEdition.j0]at H
   by_cases c10:x22_2=true
   ·subst c10
    replace H:(some (([]:List (S47)),false))=some (r1,r2):=by rw[if_pos rfl]at H;exact H
    simp only[Option.some.injEq,Prod.mk.injEq]at H
    obtain⟨rfl,rfl⟩:=H
    go_wp2
    go_ret2
    exact⟨_,a5_,a34_,a0_⟩
   ·replace c10:=Bool.eq_false_iff.mpr c10
    subst c10
    replace H:(impl_MakeEdition.l0 kj2 l0 ([]:List (S47)) 0 l1 (l1.length:Int) 0)=some (r1,r2):=by rw[if_neg (show ¬(false=true) by decide)]at H;exact H
    have H':=am_ H
    clear H
    go_wp2
    obtain⟨G,hG⟩:∃G,G=wc.heap.size:=⟨_,rfl⟩
    have BG:=am_ (show(wc.alloc (.cells Try.zeroCells58 58)).heap[G]? = some (.cells (impl_MakeEdition.cells []) 58 (0,0)) from by rw[impl_MakeEdition.zero,hG];exact Array.getElem?_push_size)
    have GEG:=am_ (show w.heap.size≤G from by rw[hG];exact HB.out.size)
    have HB2:=am_ (below_alloc HB.out (.cells Try.zeroCells58 58))
    clear HB
    have HB:=HB2
    clear HB2
    rw[← hG]
    clear hG
    generalize Value.agg Try.zeroCells58=vz
    generalize wc.alloc (.cells Try.zeroCells58 58)=wg at BG HB ⊢
    go_loopg [7,27] kj2 (fun kq v7 v25 w'=>∃(x6_2:List (S47)) (x7_2:Int) (x25_2:Int),v7 = .int .i64 x7_2∧v25 = .int .i64 x25_2∧Aside0 (impl_MakeEdition.l0 kq l0 x6_2 x7_2 l1 (l1.length:Int) x25_2=some (r1,r2))∧Aside0 (kq≤kj2)∧Aside0 (w'.heap[G]? = some (.cells (impl_MakeEdition.cells x6_2) 58 (0,0)))∧Aside0 (Below w.heap.size w w'))
    case atStart=>exact⟨([]:List (S47)),(0),(0),(a6_),(a6_),H',⟨Nat.le_refl _⟩,⟨a29_⟩,⟨a0_⟩⟩
    case round=>
     clear H'
     try clear c1
     try clear c2
     try clear p2
     try clear c5
     try clear c10
     try clear p2
     obtain⟨x6_2,x7_2,x25_2,rfl,rfl,HA,HK2,BG,HB⟩:=hrel
     cases gk with
     | zero=>exact absurd HA.out (by simp[impl_MakeEdition.l0])
     | succ k2=>
      have H:=HA.out
      clear HA
      simp only[impl_MakeEdition.l0]at H
      by_cases c11:x25_2<(l1.length:Int)
      ·rw[if_pos c11]at H
       have c11b0:decide (x25_2<(l1.length:Int))=true:=decide_eq_true c11
       clear c11
       by_cases c12:0≤x25_2
       ·rw[if_pos c12]at H
        have c12b0:decide (0≤x25_2)=true:=decide_eq_true c12
        clear c12
        by_cases c13:x25_2<(l1.length:Int)
        ·rw[if_pos c13]at H
         have c13b0:decide (x25_2<(l1.length:Int))=true:=decide_eq_true c13
         clear c13
         by_cases c14:0≤((rd_T44 l1 x25_2).f0)
         ·rw[if_pos c14]at H
          have c14b0:decide (0≤((rd_T44 l1 x25_2).f0))=true:=decide_eq_true c14
          clear c14
          by_cases c15:((rd_T44 l1 x25_2).f0)<(l0.length:Int)
          ·rw[if_pos c15]at H
           have c15b0:decide (((rd_T44 l1 x25_2).f0)<(l0.length:Int))=true:=decide_eq_true c15
           clear c15
           have H':=am_ H
           clear H
           have p284:0≤(x25_2:Int):=of_decide_eq_true (a4_)
           have q284:x25_2<(l1.length:Int):=of_decide_eq_true (a4_)
           obtain⟨ad284,e284,hx284_0,hx284_1,hx284_2⟩:=at_T44 HR1.out x25_2 p284 q284
           cases e284
           replace hx284_0:=(HB.out.cell (World.block_lt_of_cell? w _ hx284_0)).trans hx284_0
           replace hx284_1:=(HB.out.cell (World.block_lt_of_cell? w _ hx284_1)).trans hx284_1
           replace hx284_2:=(HB.out.cell (World.block_lt_of_cell? w _ hx284_2)).trans hx284_2
           replace p284:=eq_true p284
           replace q284:=eq_true q284
           go_wp2_with (first | ((with_reducible refine gate_dst (N:=9) rfl ?_);(try(refine gate_guard (by rfl) ?_;dsimp only));refine box_event ?hg (N:=9) ?hd (cs:= #[.int .i64 0, .int .i64 0, .int .i64 0]) (t:=44) ?hr ?_;(case hd=>rfl);(case hg=>rfl);(case hr=>exact a12_);intro gb285 hg w16 hbox hb;have nG_:=am_ (blk_below (g:=G) (o:= .cells (impl_MakeEdition.cells x6_2) 58 (0,0)) (a29_) hb);have nH_:=am_ ((by rw[hg];exact Nat.ne_of_lt (blk_lt (g:=G) (o:= .cells (impl_MakeEdition.cells x6_2) 58 (0,0)) (a29_))):G≠gb285);have nI_:=am_ ((by rw[hg];exact Nat.ne_of_gt (blk_lt (g:=G) (o:= .cells (impl_MakeEdition.cells x6_2) 58 (0,0)) (a29_))):gb285≠G);have BK285:=am_ (hbox);have GW285:=am_ ((by rw[hg];exact(below_size (a0_)):w.heap.size≤gb285));have GE285:=am_ ((by rw[hg];exact(below_size (a0_)):w.heap.size≤gb285));replace HB:=am_ (below_step (a0_) hb);clear BG;have BG:=nG_;have NBG_285:=nH_;have NB285_G:=nI_;clear nG_ nH_ nI_;have hnbg285:=NBG_285.out;have hnbh285:=NB285_G.out;clear hb hbox hg;have hcz17_0:w16.cell? ⟨gb285,0,none⟩=some (.int .i64 0):=(blk_cell BK285.out 0).trans rfl;have hcz17_1:w16.cell? ⟨gb285,1,none⟩=some (.int .i64 0):=(blk_cell BK285.out 1).trans rfl;have hcz17_2:w16.cell? ⟨gb285,2,none⟩=some (.int .i64 0):=(blk_cell BK285.out 2).trans rfl;have hfz17_0:=blk_frozen BK285.out 0;have hfz17_1:=blk_frozen BK285.out 1;have hfz17_2:=blk_frozen BK285.out 2;have p286:0≤(((rd_T44 l1 x25_2).f0):Int):=of_decide_eq_true (a4_);have q286:((rd_T44 l1 x25_2).f0)<(l0.length:Int):=of_decide_eq_true (a4_);obtain⟨ad286,A286_0,c286_0,e286,hx286_0,hl286_0,hi286_0⟩:=at_L6 HR0.out ((rd_T44 l1 x25_2).f0) p286 q286;cases e286;have hn286_0:ad286.block≠gb285:=Nat.ne_of_lt (Nat.lt_of_lt_of_le (by have:=World.block_lt_of_cell? _ _ hx286_0;first | rwa [add_block]at this | exact this) GW285.out);have hn286_1:ad286.block≠gb285:=Nat.ne_of_lt (Nat.lt_of_lt_of_le (by have:=World.block_lt_of_cell? _ _ hx286_0;first | rwa [add_block]at this | exact this) GW285.out);have hn286_2:ad286.block≠gb285:=Nat.ne_of_lt (Nat.lt_of_lt_of_le (by have:=World.block_lt_of_cell? _ _ hx286_0;first | rwa [add_block]at this | exact this) GW285.out);replace hx286_0:=(HB.out.cell (World.block_lt_of_cell? w _ hx286_0)).trans hx286_0;have HR286_0:=am_ hi286_0;have HC286_0:=am_ hl286_0;clear hi286_0 hl286_0;replace hx286_0:=(cell_far (p:=⟨gb285,0,none⟩) (by first | (rw[add_block];exact hn286_0) | (show(Addr.add _ _).block≠_;rw[add_block];exact hn286_0) | exact hn286_0) (.int .i64 ((rd_T44 l1 x25_2).f0))).trans hx286_0;replace hx286_0:=(cell_far (p:=⟨gb285,1,none⟩) (by first | (rw[add_block];exact hn286_1) | (show(Addr.add _ _).block≠_;rw[add_block];exact hn286_1) | exact hn286_1) (.int .i64 ((rd_T44 l1 x25_2).f1))).trans hx286_0;replace hx286_0:=(cell_far (p:=⟨gb285,2,none⟩) (by first | (rw[add_block];exact hn286_2) | (show(Addr.add _ _).block≠_;rw[add_block];exact hn286_2) | exact hn286_2) (.int .i64 ((rd_T44 l1 x25_2).f2))).trans hx286_0;clear hn286_0 hn286_1 hn286_2;replace p286:=eq_true p286;replace q286:=eq_true q286))
           go_loopg [37] k2 (fun kq v35 w'=>∃(x6_3:List (S47)) (x35_3:Int),v35 = .int .i64 x35_3∧Aside0 (impl_MakeEdition.l1 kq l0 x6_3 x7_2 l1 (l1.length:Int) x25_2 (rd_L6 l0 ((rd_T44 l1 x25_2).f0)) ((rd_L6 l0 ((rd_T44 l1 x25_2).f0)).length:Int) x35_3 ((rd_T44 l1 x25_2).f0) ((rd_T44 l1 x25_2).f1) ((rd_T44 l1 x25_2).f2)=some (r1,r2))∧Aside0 (kq≤k2)∧Aside0 (w'.heap[gb285]? = some (.cells #[.int .i64 ((rd_T44 l1 x25_2).f0), .int .i64 ((rd_T44 l1 x25_2).f1), .int .i64 ((rd_T44 l1 x25_2).f2)] 44 (0,0)))∧Aside0 (w'.heap[G]? = some (.cells (impl_MakeEdition.cells x6_3) 58 (0,0)))∧Aside0 (Below w.heap.size w w'))
           case atStart=>exact⟨(x6_2),(0),(a6_),H',⟨Nat.le_refl _⟩,⟨by(with_reducible repeat (first | refine blk_drewN ?_ _ | refine blk_drew ?_ | refine blk_alloc ?_ _));refine blk_put (cs:= #[.int .i64 ((rd_T44 l1 x25_2).f0), .int .i64 ((rd_T44 l1 x25_2).f1), .int .i64 0]) ?_ 2 _ rfl;(with_reducible repeat (first | refine blk_drewN ?_ _ | refine blk_drew ?_ | refine blk_alloc ?_ _));refine blk_put (cs:= #[.int .i64 ((rd_T44 l1 x25_2).f0), .int .i64 0, .int .i64 0]) ?_ 1 _ rfl;(with_reducible repeat (first | refine blk_drewN ?_ _ | refine blk_drew ?_ | refine blk_alloc ?_ _));refine blk_put (cs:= #[.int .i64 0, .int .i64 0, .int .i64 0]) ?_ 0 _ rfl;(with_reducible repeat (first | refine blk_drewN ?_ _ | refine blk_drew ?_ | refine blk_alloc ?_ _));exact BK285.out⟩,⟨(a30_ NBG_285.out)⟩,⟨(a1_ GE285.out)⟩⟩
           case round=>
            clear H'
            try clear c1
            try clear c2
            try clear p2
            try clear q2
            try clear hx2
            try clear c5
            try clear c10
            try clear c11
            try clear c11b0
            try clear c12
            try clear c12b0
            try clear c13
            try clear c13b0
            try clear c14
            try clear c14b0
            try clear c15
            try clear c15b0
            try clear hcz17_0
            try clear hcz17_1
            try clear hcz17_2
            try clear hfz17_0
            try clear hfz17_1
            try clear hfz17_2
            try clear hx284_0
            try clear hx284_1
            try clear hx284_2
            try clear hx286_0
            try clear p2
            try clear p284
            try clear p286
            try clear q284
            try clear q286
            obtain⟨x6_3,x35_3,rfl,HA,HK3,BK285,BG,HB⟩:=hrel
            cases gk with
            | zero=>exact absurd HA.out (by simp[impl_MakeEdition.l1])
            | succ k3=>
             have H:=HA.out
             clear HA
             simp only[impl_MakeEdition.l1]at H
             by_cases c18:x35_3<((rd_L6 l0 ((rd_T44 l1 x25_2).f0)).length:Int)
             ·rw[if_pos c18]at H
              have c18b0:decide (x35_3<((rd_L6 l0 ((rd_T44 l1 x25_2).f0)).length:Int))=true:=decide_eq_true c18
              clear c18
              by_cases c19:0≤x35_3
              ·rw[if_pos c19]at H
               have c19b0:decide (0≤x35_3)=true:=decide_eq_true c19
               clear c19
               by_cases c20:x35_3<((rd_L6 l0 ((rd_T44 l1 x25_2).f0)).length:Int)
               ·rw[if_pos c20]at H
                have c20b0:decide (x35_3<((rd_L6 l0 ((rd_T44 l1 x25_2).f0)).length:Int))=true:=decide_eq_true c20
                clear c20
                obtain⟨ji21,hji21⟩:∃j_:Int,(mx ((rd_T47 (rd_L6 l0 ((rd_T44 l1 x25_2).f0)) x35_3).f1) ((rd_T44 l1 x25_2).f1))=j_:=⟨_,rfl⟩
                replace H:(impl_MakeEdition.l2 k3 l0 x6_3 x7_2 ji21 l1 (l1.length:Int) x25_2 (rd_L6 l0 ((rd_T44 l1 x25_2).f0)) ((rd_L6 l0 ((rd_T44 l1 x25_2).f0)).length:Int) x35_3 ((rd_T44 l1 x25_2).f0) ((rd_T44 l1 x25_2).f1) ((rd_T44 l1 x25_2).f2) ((rd_T47 (rd_L6 l0 ((rd_T44 l1 x25_2).f0)) x35_3).f0) ((rd_T47 (rd_L6 l0 ((rd_T44 l1 x25_2).f0)) x35_3).f1) ((rd_T47 (rd_L6 l0 ((rd_T44 l1 x25_2).f0)) x35_3).f2))=some (r1,r2):=by first | (rw[hji21]at H;exact H) | (simp only[hji21]at H ⊢;exact H)
                have hji21_:(if((rd_T47 (rd_L6 l0 ((rd_T44 l1 x25_2).f0)) x35_3).f1)<((rd_T44 l1 x25_2).f1) then((rd_T44 l1 x25_2).f1) else((rd_T47 (rd_L6 l0 ((rd_T44 l1 x25_2).f0)) x35_3).f1))=ji21:=hji21
                have H':=am_ H
                clear H
                have p287:0≤(x35_3:Int):=of_decide_eq_true (a4_)
                have q287:x35_3<((rd_L6 l0 ((rd_T44 l1 x25_2).f0)).length:Int):=of_decide_eq_true (a4_)
                obtain⟨ad287,e287,hx287_0,hx287_1,hx287_2⟩:=at_T47 HR286_0.out x35_3 p287 q287
                cases e287
                replace hx287_0:=(HB.out.cell (World.block_lt_of_cell? w _ hx287_0)).trans hx287_0
                replace hx287_1:=(HB.out.cell (World.block_lt_of_cell? w _ hx287_1)).trans hx287_1
                replace hx287_2:=(HB.out.cell (World.block_lt_of_cell? w _ hx287_2)).trans hx287_2
                replace p287:=eq_true p287
                replace q287:=eq_true q287
                go_wp2_with (first | ((with_reducible refine gate_dst (N:=11) rfl ?_);(try(refine gate_guard (by rfl) ?_;dsimp only));refine box_event ?hg (N:=11) ?hd (cs:= #[.int .i64 0, .int .i64 0, .int .i64 0]) (t:=47) ?hr ?_;(case hd=>rfl);(case hg=>rfl);(case hr=>exact a12_);intro gb288 hg w22 hbox hb;have nG_:=am_ (blk_below (g:=G) (o:= .cells (impl_MakeEdition.cells x6_3) 58 (0,0)) (a29_) hb);have nH_:=am_ ((by rw[hg];exact Nat.ne_of_lt (blk_lt (g:=G) (o:= .cells (impl_MakeEdition.cells x6_3) 58 (0,0)) (a29_))):G≠gb288);have nI_:=am_ ((by rw[hg];exact Nat.ne_of_gt (blk_lt (g:=G) (o:= .cells (impl_MakeEdition.cells x6_3) 58 (0,0)) (a29_))):gb288≠G);have BK288:=am_ (hbox);have GW288:=am_ ((by rw[hg];exact(below_size ((a1_ GE285.out))):w.heap.size≤gb288));have GE288:=am_ ((by rw[hg];exact(below_size ((a1_ GE285.out))):w.heap.size≤gb288));replace HB:=am_ (below_step ((a1_ GE285.out)) hb);have NB285_288:=am_ ((by rw[hg];exact Nat.ne_of_lt (blk_lt (g:=gb285) (o:= .cells #[.int .i64 ((rd_T44 l1 x25_2).f0), .int .i64 ((rd_T44 l1 x25_2).f1), .int .i64 ((rd_T44 l1 x25_2).f2)] 44 (0,0)) ((a3_ BK285.out))):gb285≠gb288));have NB288_285:=am_ ((by rw[hg];exact Nat.ne_of_gt (blk_lt (g:=gb285) (o:= .cells #[.int .i64 ((rd_T44 l1 x25_2).f0), .int .i64 ((rd_T44 l1 x25_2).f1), .int .i64 ((rd_T44 l1 x25_2).f2)] 44 (0,0)) ((a3_ BK285.out))):gb288≠gb285));replace BK285:=am_ (blk_below (g:=gb285) (o:= .cells #[.int .i64 ((rd_T44 l1 x25_2).f0), .int .i64 ((rd_T44 l1 x25_2).f1), .int .i64 ((rd_T44 l1 x25_2).f2)] 44 (0,0)) ((a3_ BK285.out)) hb);clear BG;have BG:=nG_;have NBG_288:=nH_;have NB288_G:=nI_;clear nG_ nH_ nI_;have hnbg288:=NBG_288.out;have hnbh288:=NB288_G.out;clear hb hbox hg;have hnb23:=NB288_285.out;have hnc23:=NB285_288.out;have hcz24_0:w22.cell? ⟨gb288,0,none⟩=some (.int .i64 0):=(blk_cell BK288.out 0).trans rfl;have hcz24_1:w22.cell? ⟨gb288,1,none⟩=some (.int .i64 0):=(blk_cell BK288.out 1).trans rfl;have hcz24_2:w22.cell? ⟨gb288,2,none⟩=some (.int .i64 0):=(blk_cell BK288.out 2).trans rfl;have hfz24_0:=blk_frozen BK288.out 0;have hfz24_1:=blk_frozen BK288.out 1;have hfz24_2:=blk_frozen BK288.out 2;have hcz25_0:w22.cell? ⟨gb285,0,none⟩=some (.int .i64 ((rd_T44 l1 x25_2).f0)):=(blk_cell BK285.out 0).trans rfl;have hcz25_1:w22.cell? ⟨gb285,1,none⟩=some (.int .i64 ((rd_T44 l1 x25_2).f1)):=(blk_cell BK285.out 1).trans rfl;have hcz25_2:w22.cell? ⟨gb285,2,none⟩=some (.int .i64 ((rd_T44 l1 x25_2).f2)):=(blk_cell BK285.out 2).trans rfl;have hfz25_0:=blk_frozen BK285.out 0;have hfz25_1:=blk_frozen BK285.out 1;have hfz25_2:=blk_frozen BK285.out 2))
                go_loopg [12] k3 (fun kq v12 w'=>∃(x6_4:List (S47)) (x12_4:Int),v12 = .int .i64 x12_4∧Aside0 (impl_MakeEdition.l2 kq l0 x6_4 x7_2 x12_4 l1 (l1.length:Int) x25_2 (rd_L6 l0 ((rd_T44 l1 x25_2).f0)) ((rd_L6 l0 ((rd_T44 l1 x25_2).f0)).length:Int) x35_3 ((rd_T44 l1 x25_2).f0) ((rd_T44 l1 x25_2).f1) ((rd_T44 l1 x25_2).f2) ((rd_T47 (rd_L6 l0 ((rd_T44 l1 x25_2).f0)) x35_3).f0) ((rd_T47 (rd_L6 l0 ((rd_T44 l1 x25_2).f0)) x35_3).f1) ((rd_T47 (rd_L6 l0 ((rd_T44 l1 x25_2).f0)) x35_3).f2)=some (r1,r2))∧Aside0 (kq≤k3)∧Aside0 (w'.heap[gb285]? = some (.cells #[.int .i64 ((rd_T44 l1 x25_2).f0), .int .i64 ((rd_T44 l1 x25_2).f1), .int .i64 ((rd_T44 l1 x25_2).f2)] 44 (0,0)))∧Aside0 (w'.heap[gb288]? = some (.cells #[.int .i64 ((rd_T47 (rd_L6 l0 ((rd_T44 l1 x25_2).f0)) x35_3).f0), .int .i64 ((rd_T47 (rd_L6 l0 ((rd_T44 l1 x25_2).f0)) x35_3).f1), .int .i64 ((rd_T47 (rd_L6 l0 ((rd_T44 l1 x25_2).f0)) x35_3).f2)] 47 (0,0)))∧Aside0 (w'.heap[G]? = some (.cells (impl_MakeEdition.cells x6_4) 58 (0,0)))∧Aside0 (Below w.heap.size w w'))
                case atStart=>exact⟨(x6_3),(ji21),(by first | rfl | (simp;done) | (simp only[← hji21]<;>(first | rfl | simp)) | (simp[*];done)),H',⟨Nat.le_refl _⟩,⟨(a13_ NB285_288.out BK285.out)⟩,⟨by(with_reducible repeat (first | refine blk_drewN ?_ _ | refine blk_drew ?_ | refine blk_alloc ?_ _));refine blk_put (cs:= #[.int .i64 ((rd_T47 (rd_L6 l0 ((rd_T44 l1 x25_2).f0)) x35_3).f0), .int .i64 ((rd_T47 (rd_L6 l0 ((rd_T44 l1 x25_2).f0)) x35_3).f1), .int .i64 0]) ?_ 2 _ rfl;(with_reducible repeat (first | refine blk_drewN ?_ _ | refine blk_drew ?_ | refine blk_alloc ?_ _));refine blk_put (cs:= #[.int .i64 ((rd_T47 (rd_L6 l0 ((rd_T44 l1 x25_2).f0)) x35_3).f0), .int .i64 0, .int .i64 0]) ?_ 1 _ rfl;(with_reducible repeat (first | refine blk_drewN ?_ _ | refine blk_drew ?_ | refine blk_alloc ?_ _));refine blk_put (cs:= #[.int .i64 0, .int .i64 0, .int .i64 0]) ?_ 0 _ rfl;(with_reducible repeat (first | refine blk_drewN ?_ _ | refine blk_drew ?_ | refine blk_alloc ?_ _));exact BK288.out⟩,⟨(a30_ NBG_288.out)⟩,⟨(a7_ GE285.out GE288.out)⟩⟩
                case round=>
                 clear H'
                 try clear c1
                 try clear c2
                 try clear p2
                 try clear q2
                 try clear hx2
                 try clear c5
                 try clear c10
                 try clear c11
                 try clear c11b0
                 try clear c12
                 try clear c12b0
                 try clear c13
                 try clear c13b0
                 try clear c14
                 try clear c14b0
                 try clear c15
                 try clear c15b0
                 try clear c18
                 try clear c18b0
                 try clear c19
                 try clear c19b0
                 try clear c20
                 try clear c20b0
                 try clear c23
                 try clear c25
                 try clear hcz17_0
                 try clear hcz17_1
                 try clear hcz17_2
                 try clear hcz24_0
                 try clear hcz24_1
                 try clear hcz24_2
                 try clear hcz25_0
                 try clear hcz25_1
                 try clear hcz25_2
                 try clear hfz17_0
                 try clear hfz17_1
                 try clear hfz17_2
                 try clear hfz24_0
                 try clear hfz24_1
                 try clear hfz24_2
                 try clear hfz25_0
                 try clear hfz25_1
                 try clear hfz25_2
                 try clear hx284_0
                 try clear hx284_1
                 try clear hx284_2
                 try clear hx286_0
                 try clear hx287_0
                 try clear hx287_1
                 try clear hx287_2
                 try clear p2
                 try clear p284
                 try clear p286
                 try clear p287
                 try clear q2
                 try clear q284
                 try clear q286
                 try clear q287
                 obtain⟨x6_4,x12_4,rfl,HA,HK4,BK285,BK288,BG,HB⟩:=hrel
                 cases gk with
                 | zero=>exact absurd HA.out (by simp[impl_MakeEdition.l2])
                 | succ k4=>
                  have H:=HA.out
                  clear HA
                  simp only[impl_MakeEdition.l2]at H
                  obtain⟨ji26,hji26⟩:∃j_:Int,(mn ((rd_T47 (rd_L6 l0 ((rd_T44 l1 x25_2).f0)) x35_3).f2) ((rd_T44 l1 x25_2).f2))=j_:=⟨_,rfl⟩
                  replace H:(if x12_4<(ji26) then(if 0≤((rd_T47 (rd_L6 l0 ((rd_T44 l1 x25_2).f0)) x35_3).f0) then(if((rd_T47 (rd_L6 l0 ((rd_T44 l1 x25_2).f0)) x35_3).f0)<20 then(if 0≤(wrap64 ((wrap64 (x7_2+x12_4))-((rd_T44 l1 x25_2).f1))) then(if(wrap64 ((wrap64 (x7_2+x12_4))-((rd_T44 l1 x25_2).f1)))<2000 then(impl_MakeEdition.l2 k4 l0 (x6_4 ++ [(⟨((rd_T47 (rd_L6 l0 ((rd_T44 l1 x25_2).f0)) x35_3).f0),(wrap64 ((wrap64 (x7_2+x12_4))-((rd_T44 l1 x25_2).f1))),(wrap64 ((wrap64 (x7_2+x12_4))-((rd_T44 l1 x25_2).f1)))+1⟩:S47)]) x7_2 (wrap64 (x12_4+1)) l1 (l1.length:Int) x25_2 (rd_L6 l0 ((rd_T44 l1 x25_2).f0)) ((rd_L6 l0 ((rd_T44 l1 x25_2).f0)).length:Int) x35_3 ((rd_T44 l1 x25_2).f0) ((rd_T44 l1 x25_2).f1) ((rd_T44 l1 x25_2).f2) ((rd_T47 (rd_L6 l0 ((rd_T44 l1 x25_2).f0)) x35_3).f0) ((rd_T47 (rd_L6 l0 ((rd_T44 l1 x25_2).f0)) x35_3).f1) ((rd_T47 (rd_L6 l0 ((rd_T44 l1 x25_2).f0)) x35_3).f2)) else(none)) else(none)) else(none)) else(none)) else(impl_MakeEdition.l1 k4 l0 x6_4 x7_2 l1 (l1.length:Int) x25_2 (rd_L6 l0 ((rd_T44 l1 x25_2).f0)) ((rd_L6 l0 ((rd_T44 l1 x25_2).f0)).length:Int) (wrap64 (x35_3+1)) ((rd_T44 l1 x25_2).f0) ((rd_T44 l1 x25_2).f1) ((rd_T44 l1 x25_2).f2)))=some (r1,r2):=by first | (rw[hji26]at H;exact H) | (simp only[hji26]at H ⊢;exact H)
                  have hji26_:(if((rd_T44 l1 x25_2).f2)<((rd_T47 (rd_L6 l0 ((rd_T44 l1 x25_2).f0)) x35_3).f2) then((rd_T44 l1 x25_2).f2) else((rd_T47 (rd_L6 l0 ((rd_T44 l1 x25_2).f0)) x35_3).f2))=ji26:=hji26
                  by_cases c27:x12_4<(ji26)
                  ·rw[if_pos c27]at H
                   have c27b0:decide (x12_4<(ji26))=true:=decide_eq_true c27
                   clear c27
                   obtain⟨EE_,hEE⟩:∃E_:Int,E_=(wrap64 ((wrap64 (x7_2+x12_4))-((rd_T44 l1 x25_2).f1))):=⟨_,rfl⟩
                   obtain⟨TT_,hTT⟩:∃T_:Int,T_=((rd_T47 (rd_L6 l0 ((rd_T44 l1 x25_2).f0)) x35_3).f0):=⟨_,rfl⟩
                   have HTT:=am_ hTT
                   have HEE:=am_ hEE
                   rw[← hEE, ← hTT]at H
                   clear hTT hEE
                   by_cases d1:0≤TT_
                   ·rw[if_pos d1]at H
                    by_cases d2:TT_<20
                    ·rw[if_pos d2]at H
                     by_cases d3:0≤EE_
                     ·rw[if_pos d3]at H
                      by_cases d4:EE_<2000
                      ·rw[if_pos d4]at H
                       have H':=am_ H
                       clear H
                       have hcg:=impl_MakeEdition.At.cell (G:=G) (pt:=x6_4) BG.out TT_ EE_ d1 d2 d3 d4
                       have hfg:=impl_MakeEdition.At.frozen (G:=G) (o:=TT_.toNat*2000+EE_.toNat) (pt:=x6_4) BG.out
                       have HST:=am_ (impl_MakeEdition.At.store (G:=G) (pt:=x6_4) BG.out TT_ EE_ d1 d2 d3 d4)
                       have hT:=HTT.out
                       have hE:=HEE.out
                       clear HTT HEE
                       subst hT
                       subst hE
                       have e1:=decide_eq_true d1
                       have e2:=decide_eq_true d2
                       have e3:=decide_eq_true d3
                       have e4:=decide_eq_true d4
                       replace d1:=eq_true d1
                       replace d2:=eq_true d2
                       replace d3:=eq_true d3
                       replace d4:=eq_true d4
                       have hnb30:=NB288_285.out
                       have hnc30:=NB285_288.out
                       have hcz31_0:wr.cell? ⟨gb288,0,none⟩=some (.int .i64 ((rd_T47 (rd_L6 l0 ((rd_T44 l1 x25_2).f0)) x35_3).f0)):=(blk_cell BK288.out 0).trans rfl
                       have hcz31_1:wr.cell? ⟨gb288,1,none⟩=some (.int .i64 ((rd_T47 (rd_L6 l0 ((rd_T44 l1 x25_2).f0)) x35_3).f1)):=(blk_cell BK288.out 1).trans rfl
                       have hcz31_2:wr.cell? ⟨gb288,2,none⟩=some (.int .i64 ((rd_T47 (rd_L6 l0 ((rd_T44 l1 x25_2).f0)) x35_3).f2)):=(blk_cell BK288.out 2).trans rfl
                       have hfz31_0:=blk_frozen BK288.out 0
                       have hfz31_1:=blk_frozen BK288.out 1
                       have hfz31_2:=blk_frozen BK288.out 2
                       have hcz32_0:wr.cell? ⟨gb285,0,none⟩=some (.int .i64 ((rd_T44 l1 x25_2).f0)):=(blk_cell BK285.out 0).trans rfl
                       have hcz32_1:wr.cell? ⟨gb285,1,none⟩=some (.int .i64 ((rd_T44 l1 x25_2).f1)):=(blk_cell BK285.out 1).trans rfl
                       have hcz32_2:wr.cell? ⟨gb285,2,none⟩=some (.int .i64 ((rd_T44 l1 x25_2).f2)):=(blk_cell BK285.out 2).trans rfl
                       have hfz32_0:=blk_frozen BK285.out 0
                       have hfz32_1:=blk_frozen BK285.out 1
                       have hfz32_2:=blk_frozen BK285.out 2
                       try go_wp2
                       refine start_ (n:=13) (S:=fun w'=>w'.cell? ⟨gb288,0,none⟩=some (.int .i64 ((rd_T47 (rd_L6 l0 ((rd_T44 l1 x25_2).f0)) x35_3).f0))∧w'.cell? ⟨gb285,1,none⟩=some (.int .i64 ((rd_T44 l1 x25_2).f1))) (ds:=[12]) #[false,false,false,false,false,false,false,false,false,false,false,false,false] (by kernel_rfl) rfl rfl ⟨hcz31_0,hcz32_1⟩ (fun hHeld=>?_);refine with_tabW impl_MakeEdition.tab14 impl_MakeEdition.bits14 (fun HT_ HW_=>?_)
                       have hcg2:wr.drew.cell? _=_:=hcg
                       have hfg2:wr.drew.frozen? _=_:=hfg
                       have HST2:Aside0 (impl_MakeEdition.At (wr.drew.setCell ⟨G,((rd_T47 (rd_L6 l0 ((rd_T44 l1 x25_2).f0)) x35_3).f0).toNat*2000+(wrap64 ((wrap64 (x7_2+x12_4))-((rd_T44 l1 x25_2).f1))).toNat,none⟩ (.bool true)) G (x6_4 ++ [(⟨((rd_T47 (rd_L6 l0 ((rd_T44 l1 x25_2).f0)) x35_3).f0),(wrap64 ((wrap64 (x7_2+x12_4))-((rd_T44 l1 x25_2).f1))),(wrap64 ((wrap64 (x7_2+x12_4))-((rd_T44 l1 x25_2).f1)))+1⟩:S47)])):=⟨HST.out⟩
                       replace BK285:=am_ (blk_drew BK285.out)
                       replace BK288:=am_ (blk_drew BK288.out)
                       replace HB:=am_ (below_drew1 HB.out)
                       clear hcg hfg HST BG hnb30 hnc30 hcz31_0 hcz31_1 hcz31_2 hfz31_0 hfz31_1 hfz31_2 hcz32_0 hcz32_1 hcz32_2 hfz32_0 hfz32_1 hfz32_2
                       generalize wr.drew=w13 at hcg2 hfg2 HST2 BK285 BK288 HB hHeld ⊢
                       refine pure_ (i:=0) (N:=some 55) (v:=?_) (a':=?_) #[true,false,false,false,false,false,false,false,false,false,false,false,false] rfl rfl (any_of HT_.out (by kernel_rfl)) (fun _ _ _ h=>h) (Or.inl ⟨by rfl,?_⟩) ?_ ?_
                       rotate_left
                       ·intro w'
                        go_simp
                        with_reducible rfl
                       rotate_left
                       ·simp only[Act.put,pu_]
                        rfl
                       refine pure_ (i:=1) (N:=some 56) (v:=?_) (a':=?_) #[true,true,false,false,false,false,false,false,false,false,false,false,false] rfl rfl (any_of HT_.out (by kernel_rfl)) (fun _ _ _ h=>h) (Or.inl ⟨by rfl,?_⟩) ?_ ?_
                       rotate_left
                       ·intro w'
                        go_simp
                        with_reducible rfl
                       rotate_left
                       ·simp only[Act.put,pu_]
                        rfl
                       refine pure_ (i:=3) (N:=some 58) (v:=?_) (a':=?_) #[true,true,false,true,false,false,false,false,false,false,false,false,false] rfl rfl (any_of HT_.out (by kernel_rfl)) (fun _ _ _ h=>h) (Or.inl ⟨by rfl,?_⟩) ?_ ?_
                       rotate_left
                       ·intro w'
                        go_simp
                        with_reducible rfl
                       rotate_left
                       ·simp only[Act.put,pu_]
                        rfl
                       refine pure_ (i:=4) (N:=some 59) (v:=?_) (a':=?_) #[true,true,false,true,true,false,false,false,false,false,false,false,false] rfl rfl (any_of HT_.out (by kernel_rfl)) (fun _ _ _ h=>h) (Or.inl ⟨by rfl,?_⟩) ?_ ?_
                       rotate_left
                       ·intro w'
                        go_simp
                        with_reducible rfl
                       rotate_left
                       ·simp only[Act.put,pu_]
                        rfl
                       refine pure_ (i:=5) (N:=some 60) (v:=?_) (a':=?_) #[true,true,false,true,true,true,false,false,false,false,false,false,false] rfl rfl (any_of HT_.out (by kernel_rfl)) (fun _ _ _ h=>h) (Or.inl ⟨by rfl,?_⟩) ?_ ?_
                       rotate_left
                       ·intro w'
                        go_simp
                        with_reducible rfl
                       rotate_left
                       ·simp only[Act.put,pu_]
                        rfl
                       refine pure_ (i:=6) (N:=some 61) (v:=?_) (a':=?_) #[true,true,false,true,true,true,true,false,false,false,false,false,false] rfl rfl (any_of HT_.out (by kernel_rfl)) (fun _ _ _ h=>h) (Or.inl ⟨by rfl,?_⟩) ?_ ?_
                       rotate_left
                       ·intro w'
                        go_simp
                        with_reducible rfl
                       rotate_left
                       ·simp only[Act.put,pu_]
                        rfl
                       refine take_ (i:=2) (N:=some 57) (v:=?_) (a':=?_) #[true,true,true,true,true,true,true,false,false,false,false,false,false] rfl rfl (take_ofW HT_.out HW_.out (by kernel_rfl)) (fun _ _ _ h=>h) (Or.inl ⟨by rfl,?_⟩) hHeld ?_ ?_
                       rotate_left
                       ·rintro w' ⟨s0,s1⟩
                        go_simp
                        with_reducible rfl
                       rotate_left
                       ·simp only[Act.put,pu_]
                        rfl
                       refine take_ (i:=7) (N:=some 62) (v:=?_) (a':=?_) #[true,true,true,true,true,true,true,true,false,false,false,false,false] rfl rfl (take_ofW HT_.out HW_.out (by kernel_rfl)) (fun _ _ _ h=>h) (Or.inl ⟨by rfl,?_⟩) hHeld ?_ ?_
                       rotate_left
                       ·rintro w' ⟨s0,s1⟩
                        go_simp
                        with_reducible rfl
                       rotate_left
                       ·simp only[Act.put,pu_]
                        rfl
                       refine pure_ (i:=8) (N:=some 63) (v:=?_) (a':=?_) #[true,true,true,true,true,true,true,true,true,false,false,false,false] rfl rfl (any_of HT_.out (by kernel_rfl)) (fun _ _ _ h=>h) (Or.inl ⟨by rfl,?_⟩) ?_ ?_
                       rotate_left
                       ·intro w'
                        go_simp
                        with_reducible rfl
                       rotate_left
                       ·simp only[Act.put,pu_]
                        rfl
                       refine pure_ (i:=9) (N:=some 64) (v:=?_) (a':=?_) #[true,true,true,true,true,true,true,true,true,true,false,false,false] rfl rfl (any_of HT_.out (by kernel_rfl)) (fun _ _ _ h=>h) (Or.inl ⟨by rfl,?_⟩) ?_ ?_
                       rotate_left
                       ·intro w'
                        go_simp
                        with_reducible rfl
                       rotate_left
                       ·simp only[Act.put,pu_]
                        rfl
                       refine pure_ (i:=10) (N:=some 65) (v:=?_) (a':=?_) #[true,true,true,true,true,true,true,true,true,true,true,false,false] rfl rfl (any_of HT_.out (by kernel_rfl)) (fun _ _ _ h=>h) (Or.inl ⟨by rfl,?_⟩) ?_ ?_
                       rotate_left
                       ·intro w'
                        go_simp
                        with_reducible rfl
                       rotate_left
                       ·simp only[Act.put,pu_]
                        rfl
                       refine pure_ (i:=11) (N:=some 66) (v:=?_) (a':=?_) #[true,true,true,true,true,true,true,true,true,true,true,true,false] rfl rfl (any_of HT_.out (by kernel_rfl)) (fun _ _ _ h=>h) (Or.inl ⟨by rfl,?_⟩) ?_ ?_
                       rotate_left
                       ·intro w'
                        go_simp
                        with_reducible rfl
                       rotate_left
                       ·simp only[Act.put,pu_]
                        rfl
                       refine last_ (i:=12) (N:=none) #[true,true,true,true,true,true,true,true,true,true,true,true,true] rfl rfl (one_of HT_.out (by kernel_rfl)) (by decide) (fun K hK=>?_)
                       refine skip_ (w1:=w13.setCell ⟨G,((rd_T47 (rd_L6 l0 ((rd_T44 l1 x25_2).f0)) x35_3).f0).toNat*2000+(wrap64 ((wrap64 (x7_2+x12_4))-((rd_T44 l1 x25_2).f1))).toNat,none⟩ (.bool true)) (by rfl) rfl ?_ ?_
                       ·go_simp
                       refine hK.out _ _ ?_
                       clear hK K
                       refine done_ (done_of HT_.out (by kernel_rfl)) ?_
                       try go_wp2
                       go_roundg k4
                       case measure=>have:=HJ2.out;have:=HK2.out;have:=HK3.out;have:=HK4.out;omega
                       case rel=>exact⟨_,(wrap64 (x12_4+1)),(a6_),H',⟨by have:=HJ2.out;have:=HK2.out;have:=HK3.out;have:=HK4.out;omega⟩,⟨(a31_ NB285_G.out BK285.out)⟩,⟨(a31_ NB288_G.out BK288.out)⟩,⟨(a3_ HST2.out)⟩,⟨by repeat (first | (with_reducible first | exact HB.out | apply below_alloc | apply pw_below_drewN | apply below_drew1 | refine below_set ?_ GE285.out | refine below_set ?_ GE288.out | refine below_set ?_ GEG.out) | exact HB.out)⟩⟩
                      ·rw[if_neg d4]at H
                       exact absurd H (by simp)
                     ·rw[if_neg d3]at H
                      exact absurd H (by simp)
                    ·rw[if_neg d2]at H
                     exact absurd H (by simp)
                   ·rw[if_neg d1]at H
                    exact absurd H (by simp)
                  ·rw[if_neg c27]at H
                   have c27b0:decide (x12_4<(ji26))=false:=decide_eq_false c27
                   clear c27
                   have H':=am_ H
                   clear H
                   have hnb36:=NB288_285.out
                   have hnc36:=NB285_288.out
                   have hcz37_0:wr.cell? ⟨gb288,0,none⟩=some (.int .i64 ((rd_T47 (rd_L6 l0 ((rd_T44 l1 x25_2).f0)) x35_3).f0)):=(blk_cell BK288.out 0).trans rfl
                   have hcz37_1:wr.cell? ⟨gb288,1,none⟩=some (.int .i64 ((rd_T47 (rd_L6 l0 ((rd_T44 l1 x25_2).f0)) x35_3).f1)):=(blk_cell BK288.out 1).trans rfl
                   have hcz37_2:wr.cell? ⟨gb288,2,none⟩=some (.int .i64 ((rd_T47 (rd_L6 l0 ((rd_T44 l1 x25_2).f0)) x35_3).f2)):=(blk_cell BK288.out 2).trans rfl
                   have hfz37_0:=blk_frozen BK288.out 0
                   have hfz37_1:=blk_frozen BK288.out 1
                   have hfz37_2:=blk_frozen BK288.out 2
                   have hcz38_0:wr.cell? ⟨gb285,0,none⟩=some (.int .i64 ((rd_T44 l1 x25_2).f0)):=(blk_cell BK285.out 0).trans rfl
                   have hcz38_1:wr.cell? ⟨gb285,1,none⟩=some (.int .i64 ((rd_T44 l1 x25_2).f1)):=(blk_cell BK285.out 1).trans rfl
                   have hcz38_2:wr.cell? ⟨gb285,2,none⟩=some (.int .i64 ((rd_T44 l1 x25_2).f2)):=(blk_cell BK285.out 2).trans rfl
                   have hfz38_0:=blk_frozen BK285.out 0
                   have hfz38_1:=blk_frozen BK285.out 1
                   have hfz38_2:=blk_frozen BK285.out 2
                   go_wp2
                   go_roundg k4
                   case measure=>have:=HJ2.out;have:=HK2.out;have:=HK3.out;have:=HK4.out;omega
                   case rel=>exact⟨(x6_4),(wrap64 (x35_3+1)),(a6_),H',⟨by have:=HJ2.out;have:=HK2.out;have:=HK3.out;have:=HK4.out;omega⟩,⟨(a3_ BK285.out)⟩,⟨a29_⟩,⟨(a7_ GE285.out GE288.out)⟩⟩
               ·rw[if_neg c20]at H
                exact absurd H (by simp)
              ·rw[if_neg c19]at H
               exact absurd H (by simp)
             ·rw[if_neg c18]at H
              have c18b0:decide (x35_3<((rd_L6 l0 ((rd_T44 l1 x25_2).f0)).length:Int))=false:=decide_eq_false c18
              clear c18
              have H':=am_ H
              clear H
              have hcz39_0:wr.cell? ⟨gb285,0,none⟩=some (.int .i64 ((rd_T44 l1 x25_2).f0)):=(blk_cell BK285.out 0).trans rfl
              have hcz39_1:wr.cell? ⟨gb285,1,none⟩=some (.int .i64 ((rd_T44 l1 x25_2).f1)):=(blk_cell BK285.out 1).trans rfl
              have hcz39_2:wr.cell? ⟨gb285,2,none⟩=some (.int .i64 ((rd_T44 l1 x25_2).f2)):=(blk_cell BK285.out 2).trans rfl
              have hfz39_0:=blk_frozen BK285.out 0
              have hfz39_1:=blk_frozen BK285.out 1
              have hfz39_2:=blk_frozen BK285.out 2
              go_wp2
              go_roundg k3
              case measure=>have:=HJ2.out;have:=HK2.out;have:=HK3.out;omega
              case rel=>exact⟨(x6_3),(wrap64 (x7_2+(wrap64 (((rd_T44 l1 x25_2).f2)-((rd_T44 l1 x25_2).f1))))),(wrap64 (x25_2+1)),(a6_),(a6_),H',⟨by have:=HJ2.out;have:=HK2.out;have:=HK3.out;omega⟩,⟨a29_⟩,⟨(a1_ GE285.out)⟩⟩
          ·rw[if_neg c15]at H
           exact absurd H (by simp)
         ·rw[if_neg c14]at H
          exact absurd H (by simp)
        ·rw[if_neg c13]at H
         exact absurd H (by simp)
       ·rw[if_neg c12]at H
        exact absurd H (by simp)
      ·rw[if_neg c11]at H
       have c11b0:decide (x25_2<(l1.length:Int))=false:=decide_eq_false c11
       clear c11
       have A41:=am_ H
       clear H
       have HGA:=am_ (show impl_MakeEdition.At wr G x6_2 from BG.out)
       go_wp2_with (first | (go_at_call 26;(with_reducible refine(impl_MakeEdition.sg.calls G x6_2 k2 r1 r2 _ HGA.out A41.out).mono ?_);rintro e w42 ⟨v282,rfl,ho0,hb⟩;have HO283:=am_ (Kd.R_lower ho0 (below_size (a0_)));replace HB:=am_ (below_step (a0_) hb);clear hb ho0))
       go_ret2
       exact⟨_,a5_,(a2_ HO283.out),(a0_)⟩


end Go.Proofs.Ytbbiihhaljigjaa.QFnExactMakeEdition
