/- Written by a program of this session (the kit's printer, with leaf contracts proved by hand put in): what each Go function computes, and that the call computes it. No condition but those that each theorem names. -/
import Derived.Test.YtplpjmhmochcfaaGreatQFnDifferencesx0
import Derived.Test.YtplpjmhmochcfaaGreatQFnDifferencesx8
import Derived.Test.YtplpjmhmochcfaaGreatQFnDifferencesx9
import Derived.Test.YtplpjmhmochcfaaGreatQFnDifferencesx10
namespace Go.Proofs.YtplpjmhmochcfaaGreat.QFnDifferences
open Go.RowKit Go.Proofs.YtplpjmhmochcfaaGreatW.PrintWords Go.Proofs.YtplpjmhmochcfaaGreatW.PrintLast Go.Proofs.YtplpjmhmochcfaaGreatW.PrintMore
attribute [local go_sem] max2_int min2_int max_two min_two max_three min_three max_four min_four   -- for this text's walks alone
set_option linter.unusedVariables false
set_option linter.unusedSimpArgs false

/-! ### impl_sortedSet: function 95 (by hand: the numbers in order, each once) -/
def impl_sortedSet.f (l0:List Int):Option (List Int):=if l0.length<1000000000 then some (Go.Lib.compact (l0.mergeSort fun x y=>decide (x≤y))) else none
theorem impl_sortedSet.reps {W:World} {base:Nat} {okp:Nat→Prop} {xs:List Int} {inner:List Value} (h:Reps ((Kd.int .i64).M W base okp) 1 xs inner):inner=xs.map (Value.int .i64):=by
 obtain⟨hl,hr⟩:=h
 refine List.ext_getElem? (fun j=>?_)
 rcases Nat.lt_or_ge j xs.length with hj | hj
 ·have h1:(inner.drop (j*1)).take 1 = [Value.int .i64 xs[j]]:=hr j _ (List.getElem?_eq_getElem hj)
  have h2:=congrArg (fun q=>q[0]?) h1
  simp only[Nat.mul_one,List.getElem?_take,List.getElem?_drop,Nat.add_zero,List.getElem?_cons_zero]at h2
  rw[List.getElem?_map,List.getElem?_eq_getElem hj]
  simpa using h2
 ·rw[List.getElem?_eq_none (by omega),List.getElem?_eq_none (by simpa using hj)]
theorem impl_sortedSet.mk (W:World) (base:Nat) (okp:Nat→Prop) (xs:List Int):Reps ((Kd.int .i64).M W base okp) 1 xs (xs.map (Value.int .i64)):=by
 refine⟨by simp,fun j p hp=>?_⟩
 show((xs.map (Value.int .i64)).drop (j*1)).take 1 = [Value.int .i64 p]
 have hj:j<xs.length:=by
  rcases Nat.lt_or_ge j xs.length with h | h
  ·exact h
  ·rw[List.getElem?_eq_none h]at hp;cases hp
 rw[List.getElem?_eq_getElem hj]at hp
 injection hp with hp
 rw[Nat.mul_one,List.drop_eq_getElem_cons (by simpa using hj)]
 simp[hp]
/-- An own row of numbers: its block and cells. -/
theorem impl_sortedSet.open_ {W:World} {base g n cap:Nat} {okp:Nat→Prop} {xs:List Int} (HO:Kd.R (Kd.int .i64) 3 W base okp (.slice (some ⟨g,0,none⟩) n cap) xs) :
 ∃cur,W.heap[g]? = some (.cells cur 3 (0,0))∧base≤g∧n=xs.length∧n≤cap∧cap≤maxLen∧cur.size=cap∧cur.toList.take n=xs.map (Value.int .i64)∧okp g:=by
 have hn:=(Kd.R_reads' HO).1
 obtain⟨hok,inner,hown,hr⟩:=HO
 have hi:=impl_sortedSet.reps hr
 rcases hown.2 with ⟨hv,_⟩ | ⟨g',cap',cur,hv,hb,hh,hnc,hcm,hcs,htake⟩
 ·cases hv
 injection hv with ha hnn hc
 injection ha with ha
 injection ha with hg
 subst hg;subst hc
 refine⟨cur,hh,hb,hn,by omega,hcm,by have h:=hcs;rwa [show(Kd.int IntKind.i64).sz=1 from rfl,Nat.mul_one]at h,?_,hok _ rfl⟩
 rw[← hi, ← htake,hn]
 show _=List.take (xs.length*1) _
 rw[Nat.mul_one]
theorem impl_sortedSet.holds {W:World} {base g n cap:Nat} {okp:Nat→Prop} {xs:List Int} (HO:Kd.R (Kd.int .i64) 3 W base okp (.slice (some ⟨g,0,none⟩) n cap) xs) :
 Go.Sort.Holds (Value.int .i64) W g 0 xs.toArray∧g<W.heap.size∧xs.length≤cap:=by
 obtain⟨cur,hh,hb,hn,hnc,hcm,hcs,ht,_⟩:=impl_sortedSet.open_ HO
 refine⟨fun j hj=>?_,?_,by omega⟩
 ·have hj':j<xs.length:=by simpa using hj
  rw[Nat.zero_add]
  refine⟨?_,blk_frozen hh _⟩
  rw[blk_cell hh]
  have h2:=congrArg (fun q=>q[j]?) ht
  simp only[List.getElem?_take,List.getElem?_map]at h2
  rw[if_pos (by omega),List.getElem?_eq_getElem hj']at h2
  rw[Array.getElem?_toList]at h2
  rw[h2,getElem!_pos xs.toArray j hj]
  rfl
 ·rcases Nat.lt_or_ge g W.heap.size with h | h
  ·exact h
  ·rw[Array.getElem?_eq_none h]at hh;cases hh
/-- The row is written anew, blocks lie behind: the first m are a row still. -/
theorem impl_sortedSet.row (W:World) (base g n cap q m:Nat) (os:Array Obj) (xs ys:List Int) (HO:Kd.R (Kd.int .i64) 3 W base (fun _=>True) (.slice (some ⟨g,0,none⟩) n cap) xs) (hy:ys.length=xs.length) (hm:m≤xs.length) :
 Kd.R (Kd.int .i64) 3 (Go.Sort.grow (Go.Sort.putRow (Value.int .i64) (Go.Sort.ahead W q) g 0 ys.toArray) os) base (fun _=>True) (.slice (some ⟨g,0,none⟩) m cap) (ys.take m)∧Below base W (Go.Sort.grow (Go.Sort.putRow (Value.int .i64) (Go.Sort.ahead W q) g 0 ys.toArray) os):=by
 obtain⟨hH,hg,hc⟩:=impl_sortedSet.holds HO
 obtain⟨cur,hh,hb,hn,hnc,hcm,hcs,ht,_⟩:=impl_sortedSet.open_ HO
 have hheap:(Go.Sort.grow (Go.Sort.putRow (Value.int .i64) (Go.Sort.ahead W q) g 0 ys.toArray) os).heap[g]? = some (.cells (Go.Sort.putCells (Value.int .i64) 0 ys.toArray cur) 3 (0,0)):=by
  rw[Go.Sort.heap_grow_old _ _ (by simpa using hg)]
  simp[Go.Sort.putRow,Go.Sort.mapBlock,Array.getElem?_modify,hh,Go.Sort.onCells]
 have hlt:(ys.take m).length=m:=by rw[List.length_take];omega
 refine⟨⟨fun _ _=>trivial,(ys.take m).map (Value.int .i64),⟨by simp[Kd.int,Kd.scalar], .inr ⟨g,cap,_,by rw[hlt],hb,hheap,by omega,hcm,by simp[Go.Sort.putCells,hcs,Kd.int,Kd.scalar],?_⟩⟩,impl_sortedSet.mk _ _ _ _⟩,?_⟩
 ·refine List.ext_getElem? (fun j=>?_)
  show((Go.Sort.putCells (Value.int .i64) 0 ys.toArray cur).toList.take ((ys.take m).length*1))[j]? = _
  rw[hlt,Nat.mul_one,List.getElem?_take,List.getElem?_map,List.getElem?_take]
  by_cases hj:j<m
  ·rw[if_pos hj,if_pos hj]
   have h1:j<cur.size:=by omega
   have h2:j<ys.length:=by omega
   simp[Go.Sort.putCells,Array.getElem?_eq_getElem h1,h2]
  ·rw[if_neg hj,if_neg hj];rfl
 ·refine⟨rfl,rfl,rfl,by simp,fun k hk=>?_⟩
  rw[Go.Sort.heap_grow_old _ _ (by simp;omega)]
  have hne:g≠k:=by omega
  simp[Go.Sort.putRow,Go.Sort.mapBlock,Array.getElem?_modify,hne]
theorem impl_sortedSet.sort (g cap base:Nat) (xs:List Int) (W:World) (HO:Kd.R (Kd.int .i64) 3 W base (fun _=>True) (.slice (some ⟨g,0,none⟩) xs.length cap) xs) (hlen:xs.length<1000000000) :
 Calls Tryz.prog 77 #[.slice (some ⟨g,0,none⟩) xs.length cap] W fun e w'=>e = .returned (.tuple #[])∧Kd.R (Kd.int .i64) 3 w' base (fun _=>True) (.slice (some ⟨g,0,none⟩) xs.length cap) (xs.mergeSort fun x y=>decide (x≤y))∧Below base W w':=by
 obtain⟨hH,hg,hc⟩:=impl_sortedSet.holds HO
 have hs:(xs.mergeSort fun x y=>decide (x≤y)).length=xs.length:=List.length_mergeSort xs
 have hcall:Calls Tryz.prog 77 #[.slice (some ⟨g,0,none⟩) xs.length cap] W _:=Tryz.sort_Ints g 0 cap xs W hH hg (by omega)
 refine hcall.mono ?_
 rintro e w' ⟨rfl,q,os,rfl⟩
 have h:=impl_sortedSet.row W base g xs.length cap q xs.length os xs _ HO hs (Nat.le_refl _)
 rw[List.take_of_length_le (by omega)]at h
 exact⟨rfl,h⟩
theorem impl_sortedSet.comp (g cap base:Nat) (zs:List Int) (n:Nat) (hn:n=zs.length) (W:World) (HO:Kd.R (Kd.int .i64) 3 W base (fun _=>True) (.slice (some ⟨g,0,none⟩) n cap) zs) :
 Calls Tryz.prog 111 #[.slice (some ⟨g,0,none⟩) n cap] W fun e w'=>∃v,e = .returned v∧Kd.R (Kd.int .i64) 3 w' base (fun _=>True) v (Go.Lib.compact zs)∧Below base W w':=by
 subst hn
 obtain⟨hH,hg,hc⟩:=impl_sortedSet.holds HO
 obtain⟨cur,hh,hb,hn,hnc,hcm,hcs,ht,_⟩:=impl_sortedSet.open_ HO
 have hm:cap≤9223372036854775807:=by simpa [maxLen] using hcm
 have hcall:Calls Tryz.prog 111 #[.slice (some ⟨g,0,none⟩) zs.length cap] W _:=Tryz.slices_Compact_int g 0 cap zs W hH (by omega) hc
 refine hcall.mono ?_
 rintro e w' ⟨rfl,q,rfl⟩
 have hle:(Go.Lib.compact zs).length≤zs.length:=by
  unfold Go.Lib.compact Go.Lib.compactUpTo
  rw[List.length_map]
  refine Nat.le_trans (List.length_filter_le _ _) ?_
  simp
 have h:=impl_sortedSet.row W base g zs.length cap q (Go.Lib.compact zs).length #[] zs (Go.Lib.compact zs ++ List.replicate (zs.length-(Go.Lib.compact zs).length) 0) HO (by simp;omega) hle
 rw[List.take_left]at h
 simp only[Go.Sort.grow_empty]at h
 exact⟨_,rfl,h⟩
theorem impl_sortedSet.shape {W:World} {base:Nat} {okp:Nat→Prop} {v:Value} {xs:List Int} (HO:Kd.R (Kd.int .i64) 3 W base okp v xs):(v = .slice none 0 0∧xs = [])∨∃g cap,v = .slice (some ⟨g,0,none⟩) xs.length cap:=by
 obtain⟨_,inner,hown,_⟩:=HO
 rcases hown.2 with ⟨hv,hn⟩ | ⟨g,cap,cur,hv,_⟩
 ·exact .inl ⟨hv,List.eq_nil_of_length_eq_zero hn⟩
 ·exact .inr ⟨g,cap,hv⟩
theorem impl_sortedSet.sortV (v:Value) (base:Nat) (xs:List Int) (W:World) (HO:Kd.R (Kd.int .i64) 3 W base (fun _=>True) v xs) (hlen:xs.length<1000000000) :
 Calls Tryz.prog 77 #[v] W fun e w'=>e = .returned (.tuple #[])∧Kd.R (Kd.int .i64) 3 w' base (fun _=>True) v (xs.mergeSort fun x y=>decide (x≤y))∧Below base W w':=by
 rcases impl_sortedSet.shape HO with ⟨rfl,rfl⟩ | ⟨g,cap,rfl⟩
 ·have hcall:Calls Tryz.prog 77 #[.slice none 0 0] W _:=Tryz.sort_Ints_none none 0 W
  refine hcall.mono ?_
  rintro e w' ⟨rfl,rfl⟩
  exact⟨rfl,by rw[List.mergeSort_nil];exact HO,Below.refl _ _⟩
 ·exact impl_sortedSet.sort g cap base xs W HO hlen
theorem impl_sortedSet.compV (v:Value) (base:Nat) (xs:List Int) (W:World) (HO:Kd.R (Kd.int .i64) 3 W base (fun _=>True) v xs) :
 Calls Tryz.prog 111 #[v] W fun e w'=>∃v1,e = .returned v1∧Kd.R (Kd.int .i64) 3 w' base (fun _=>True) v1 (Go.Lib.compact xs)∧Below base W w':=by
 rcases impl_sortedSet.shape HO with ⟨rfl,rfl⟩ | ⟨g,cap,rfl⟩
 ·have hcall:Calls Tryz.prog 111 #[.slice none 0 0] W _:=Tryz.slices_Compact_int_empty none 0 W
  refine hcall.mono ?_
  rintro e w' ⟨rfl,rfl⟩
  exact⟨_,rfl,HO,Below.refl _ _⟩
 ·exact impl_sortedSet.comp g cap base xs xs.length rfl W HO
set_option maxHeartbeats 4000000 in
set_option maxRecDepth 100000 in
theorem impl_sortedSet.calls (A0:Option Addr) (c0:Nat) (l0:List Int) (r:List Int) (w:World) (hr0:Kd.C (Kd.int .i64) w A0 l0.length l0) (hc0:l0.length≤c0) (h:impl_sortedSet.f l0=some r) :
 Calls Tryz.prog 95 #[.slice A0 l0.length c0] w fun e w'=>∃v0_:Value,e = .returned (v0_)∧Kd.R (Kd.int .i64) 3 w' w.heap.size (fun _=>True) v0_ r∧Below w.heap.size w w':=by
 unfold impl_sortedSet.f at h
 by_cases hlen:l0.length<1000000000
 ·rw[if_pos hlen]at h
  obtain rfl:=Option.some.inj h
  have hcl:slices_Clone_int_int.f l0=some l0:=if_pos hlen
  have HL:=am_ hlen
  clear h hlen
  have HR0:=am_ hr0
  have HC0:=am_ hc0
  have HCL:=am_ hcl
  clear hr0 hc0 hcl
  go_enter Tryz.func95,Tryz.ntmps95
  go_wp2_with (first
   |(go_at_call 110;refine(slices_Clone_int_int.calls A0 c0 l0 l0 _ HR0.out HC0.out HCL.out).mono ?_;rintro e w2 ⟨v2,rfl,ho,hb⟩;have HO:=am_ ho;have HB2:=am_ hb;clear ho hb)
   |(go_at_call 77;refine(impl_sortedSet.sortV v2 w.heap.size l0 w2 HO.out HL.out).mono ?_;rintro e w3 ⟨rfl,ho,hb⟩;have HO3:=am_ ho;have HB3:=am_ (HB2.out.trans hb);clear ho hb)
   |(go_at_call 111;refine(impl_sortedSet.compV v2 w.heap.size _ w3 HO3.out).mono ?_;rintro e w4 ⟨v4,rfl,ho,hb⟩;have HO4:=am_ ho;have HB4:=am_ (HB3.out.trans hb);clear ho hb))
  go_ret
  exact⟨_,rfl,HO4.out,HB4.out⟩
 ·rw[if_neg hlen]at h
  exact absurd h (by simp)


/-! ### impl_tracksUsed: function 52 -/
def impl_tracksUsed.l0:Nat→List Int→List (S40)→Int→Int→Option (List Int)
 | 0,_,_,_,_=>none
 | k+1,x3,x7,x8,x9=>if x9<x8 then(if 0≤x9 then(if x9<(x7.length:Int) then(if x3.length<17592186044416 then(impl_tracksUsed.l0 k (x3 ++ [(rd_T40 x7 x9).f0]) x7 x8 (wrap64 (x9+1))) else(none)) else(none)) else(none)) else((impl_sortedSet.f x3).bind fun t463=>(some t463))
def impl_tracksUsed.f (k:Nat) (l0:List (S40)):Option (List Int):=impl_tracksUsed.l0 k (([]:List Int)) l0 (l0.length:Int) 0
theorem impl_tracksUsed.mono_l:∀k,(∀y0 y1 y2 y3,LeO (impl_tracksUsed.l0 k y0 y1 y2 y3) (impl_tracksUsed.l0 (k+1) y0 y1 y2 y3))
 | 0=>fun _ _ _ _ r h=>by simp[impl_tracksUsed.l0]at h
 | k+1=>by
  have ih0:=impl_tracksUsed.mono_l k
  intros
  unfold impl_tracksUsed.l0
  rotate_left
  all_goals repeat' first|(with_reducible first|exact ih0 _ _ _ _|exact LeO.refl _|exact LeO.none _|refine LeO.ite ?_ ?_|refine LeO.bind ?_ (fun _=>?_))|exact ih0 _ _ _ _|exact LeO.none _|refine LeO.ite ?_ ?_|refine LeO.bind ?_ (fun _=>?_)
theorem impl_tracksUsed.mono:∀a0 k,LeO (impl_tracksUsed.f k a0) (impl_tracksUsed.f (k+1) a0):=by
 intro a0 k
 have ih0:=impl_tracksUsed.mono_l k
 unfold impl_tracksUsed.f
 repeat' first
  |(with_reducible exact ih0 _ _ _ _)
  |(with_reducible exact LeO.refl _)
  |(with_reducible exact LeO.none _)
  |(with_reducible refine LeO.ite ?_ ?_)
  |(with_reducible refine LeO.bind ?_ (fun _=>?_))
  |exact ih0 _ _ _ _
  |exact LeO.none _
   | refine LeO.ite ?_ ?_
   | refine LeO.bind ?_ (fun _=>?_)
set_option maxHeartbeats 8000000 in
set_option maxRecDepth 100000 in
theorem impl_tracksUsed.calls (k:Nat) (A0:Option Addr) (c0:Nat) (l0:List (S40)) (r:List Int) (w:World) (hr0:Kd.C k40 w A0 l0.length l0) (hc0:l0.length≤c0) (h:impl_tracksUsed.f k l0=some r) :
 Calls Tryz.prog 52 #[.slice A0 l0.length c0] w fun e w'=>∃v0_:Value,e = .returned (v0_)∧Kd.R (Kd.int .i64) 3 w' w.heap.size (fun _=>True) v0_ r∧Below w.heap.size w w':=by
 have hu40:=Tryz.underlying40
 have HR0:=am_ hr0
 have HC0:=am_ hc0
 clear hr0 hc0
 have HB:=am_ (Below.refl w.heap.size w)
 have H:(impl_tracksUsed.l0 k (([]:List Int)) l0 (l0.length:Int) 0)=some r:=h
 clear h
 obtain⟨y455,hy455⟩:∃y_:List Int,y_=(([]:List Int)):=⟨_,rfl⟩
 replace H:(impl_tracksUsed.l0 k y455 l0 (l0.length:Int) 0)=some r:=by first|(rw[hy455];with_reducible exact H)|(have H2_:=(Option.bind_some _ _).symm.trans H;rw[hy455];with_reducible exact H2_)|(have H2_:=(Option.bind_some _ _).symm.trans H;with_reducible exact H2_) | with_reducible exact H|(rw[hy455];exact H)|exact H
 have Ny455:=am_ hy455
 clear hy455
 have H':=am_ H
 clear H
 go_enter Tryz.func52,Tryz.ntmps52
 go_wp2_with (first|((with_reducible refine gate_dst (N:=6) rfl ?_);refine Kd.R_lit (Kd.int .i64) _ 3 ?hg (N:=6) ?hd (xs:=([]:List Int)) (inner:=[]) (ok:=fun _=>True) (okp:=fun _=>True) ?hr ?hp (fun _ hk=>hk) trivial (Below.refl _ _) (Nat.le_refl _) (by simp) ?_;(case hd=>rfl);(case hg=>rfl);(case hr=>exact hr_);(case hp=>exact(Reps.none _ _));intro v456 w2 ho3 hb hg_ hnew_;clear hg_ hnew_;(first|rw[← Ny455.out]at ho3|(simp only[Int.reduceToNat]at ho3;rw[← Ny455.out]at ho3));have HO457:=am_ (Kd.R_lower ho3 (below_size (a1_)));replace HB:=am_ (below_step (a1_) hb);clear hb ho3))
 (try simp only[Act.put,List.setIfInBounds_toArray,List.set_cons_zero,List.set_cons_succ])
 go_loopg [3,9] k (fun kq v3 v9 w'=>∃(x3_1:List Int) (x9_1:Int),v9 = .int .i64 x9_1∧Aside0 (impl_tracksUsed.l0 kq x3_1 l0 (l0.length:Int) x9_1=some r)∧Aside0 (kq≤k)∧Aside0 (Kd.R (Kd.int .i64) 3 w' w.heap.size (fun _=>True) v3 x3_1)∧Aside0 (Below w.heap.size w w'))
 case atStart=>exact⟨(y455),(0),(by first | rfl|(simp;done)|(simp[*];done)),H',⟨Nat.le_refl _⟩,⟨(a0_ HO457.out)⟩,⟨a1_⟩⟩
 case round=>
  clear H'
  try clear p2
  obtain⟨x3_1,x9_1,rfl,HA,HK1,HO_3,HB⟩:=hrel
  cases gk with
  | zero=>exact absurd HA.out (by simp[impl_tracksUsed.l0])
  | succ k1=>
   have H:=HA.out
   clear HA
   simp only[impl_tracksUsed.l0]at H
   by_cases c4:x9_1<(l0.length:Int)
   ·rw[if_pos c4]at H
    have c4b0:decide (x9_1<(l0.length:Int))=true:=decide_eq_true c4
    clear c4
    by_cases c5:0≤x9_1
    ·rw[if_pos c5]at H
     have c5b0:decide (0≤x9_1)=true:=decide_eq_true c5
     clear c5
     by_cases c6:x9_1<(l0.length:Int)
     ·rw[if_pos c6]at H
      have c6b0:decide (x9_1<(l0.length:Int))=true:=decide_eq_true c6
      clear c6
      by_cases c7:x3_1.length<17592186044416
      ·rw[if_pos c7]at H
       have LMc7:=am_ c7
       clear c7
       obtain⟨y460,hy460⟩:∃y_:List Int,y_=(x3_1 ++ [(rd_T40 l0 x9_1).f0]):=⟨_,rfl⟩
       replace H:(impl_tracksUsed.l0 k1 y460 l0 (l0.length:Int) (wrap64 (x9_1+1)))=some r:=by first|(rw[hy460];with_reducible exact H)|(have H2_:=(Option.bind_some _ _).symm.trans H;rw[hy460];with_reducible exact H2_)|(have H2_:=(Option.bind_some _ _).symm.trans H;with_reducible exact H2_) | with_reducible exact H|(rw[hy460];exact H)|exact H
       have Ny460:=am_ hy460
       clear hy460
       have H':=am_ H
       clear H
       have p458:0≤(x9_1:Int):=of_decide_eq_true (a12_)
       have q458:x9_1<(l0.length:Int):=of_decide_eq_true (a12_)
       obtain⟨ad458,e458,hx458_0,hx458_1,hx458_2⟩:=at_T40 HR0.out x9_1 p458 q458
       cases e458
       replace hx458_0:=(HB.out.cell (World.block_lt_of_cell? w _ hx458_0)).trans hx458_0
       replace hx458_1:=(HB.out.cell (World.block_lt_of_cell? w _ hx458_1)).trans hx458_1
       replace hx458_2:=(HB.out.cell (World.block_lt_of_cell? w _ hx458_2)).trans hx458_2
       replace p458:=eq_true p458
       replace q458:=eq_true q458
       go_wp2_with (first|((with_reducible refine gate_dst (N:=5) rfl ?_);refine box_event ?hg (N:=5) ?hd (cs:= #[.int .i64 0, .int .i64 0, .int .i64 0]) (t:=40) ?hr ?_;(case hd=>rfl);(case hg=>rfl);(case hr=>exact hr_);intro gb459 hg w8 hbox hb;replace HO_3:=am_ (Kd.R_below ((a0_ HO_3.out)) hb);have BK459:=am_ (hbox);have GW459:=am_ ((by rw[hg];exact(below_size (a1_)):w.heap.size≤gb459));have GE459:=am_ ((by rw[hg];exact(below_size (a1_)):w.heap.size≤gb459));replace HB:=am_ (below_step (a1_) hb);clear hb hbox hg;have hcz9_0:w8.cell? ⟨gb459,0,none⟩=some (.int .i64 0):=(blk_cell BK459.out 0).trans rfl;have hcz9_1:w8.cell? ⟨gb459,1,none⟩=some (.int .i64 0):=(blk_cell BK459.out 1).trans rfl;have hcz9_2:w8.cell? ⟨gb459,2,none⟩=some (.int .i64 0):=(blk_cell BK459.out 2).trans rfl;have hfz9_0:=blk_frozen BK459.out 0;have hfz9_1:=blk_frozen BK459.out 1;have hfz9_2:=blk_frozen BK459.out 2)|((with_reducible refine gate_builtin (b:= .append) (xs:= #[.tmp 13, .tmp 16]) rfl ?_);at_builtin;refine Kd.R_append (Kd.int .i64) (w0:=w) w.heap.size rfl (.tmp 13) (.tmp 16) 33 3 (.int .i64 0) 8 rfl Tryz.underlying33 info3 rfl (by decide) (by omega) u3 x3_1 ((rd_T40 l0 x9_1).f0) [.int .i64 ((rd_T40 l0 x9_1).f0)] (fun _=>True) (fun _=>False) rfl (by first|(go_simp;done)|(go_simp;rfl)) ?aP (fun _ hk=>hk.elim) ?aF ?aO ?aB ?aS ?aL ?_;(case aP=>exact rfl);(case aB=>exact((a4_ GE459.out)));(case aF=>exact(fun _ _=>trivial));(case aO=>exact(by(with_reducible repeat (first|apply Kd.R_alloc|apply Kd.R_drewN|apply Kd.R_drew));exact Kd.R_mono (Kd.R_far (p:=⟨gb459,2,none⟩) (Kd.R_far (p:=⟨gb459,1,none⟩) (Kd.R_far (p:=⟨gb459,0,none⟩) (Kd.R_types HO_3.out BK459.out (by decide)) (fun _ hk=>hk.2) (.int .i64 ((rd_T40 l0 x9_1).f0))) (fun _ hk=>hk.2) (.int .i64 ((rd_T40 l0 x9_1).f1))) (fun _ hk=>hk.2) (.int .i64 ((rd_T40 l0 x9_1).f2))) (fun _ hk=>trivial)));(case aS=>exact(below_size ((a4_ GE459.out))));(case aL=>have:=LMc7.out;omega);intro v461 w10 ho hb hg hat;rw[← Ny460.out]at ho;have n0_:=am_ (blk_grown (g:=gb459) (o:= .cells #[.int .i64 ((rd_T40 l0 x9_1).f0), .int .i64 ((rd_T40 l0 x9_1).f1), .int .i64 ((rd_T40 l0 x9_1).f2)] 40 (0,0)) ((a22_ BK459.out)) hg (Kd.R_ne HO_3.out BK459.out (by decide)));have n1_:=am_ (hb);have n2_:=am_ (ho);clear BK459 HB HO_3;have BK459:=n0_;have HB:=n1_;have HO462:=n2_;clear n0_ n1_ n2_ ho hb hg hat))
       go_roundg k1
       case measure=>have:=HK1.out;omega
       case rel=>exact⟨(y460),(wrap64 (x9_1+1)),(by first | rfl|(simp;done)|(simp[*];done)),H',⟨by have:=HK1.out;omega⟩,⟨(a0_ HO462.out)⟩,⟨(a4_ GE459.out)⟩⟩
      ·rw[if_neg c7]at H
       exact absurd H (by simp)
     ·rw[if_neg c6]at H
      exact absurd H (by simp)
    ·rw[if_neg c5]at H
     exact absurd H (by simp)
   ·rw[if_neg c4]at H
    have c4b0:decide (x9_1<(l0.length:Int))=false:=decide_eq_false c4
    clear c4
    obtain⟨t463,A11,H⟩:=bo_ H
    try dsimp only at H
    obtain rfl:=Option.some.inj H
    obtain⟨Ao12,co12,eo12⟩:=Kd.R_slice HO_3.out
    subst eo12
    go_wp2_with (first|((with_reducible refine gate_callee (f:=95) rfl ?_);refine goesL_ (some 20) rfl rfl Tryz.func95 (by kernel_rfl) rfl #[.slice Ao12 x3_1.length co12] rfl gd_ ?_;(with_reducible refine(impl_sortedSet.calls _ _ x3_1 t463 _ ?side1 ?side2 A11.out).mono ?_);(case side1=>exact(a8_ HO_3.out));(case side2=>exact(Kd.R_reads' HO_3.out).2.1);rintro e w13 ⟨v464,rfl,ho0,hb⟩;refine⟨_,rfl,?_⟩;have HO465:=am_ (Kd.R_lower (Kd.R_new' ho0 (Kd.R_lt ((a0_ HO_3.out)))) (below_size (a1_)));replace HO_3:=am_ (Kd.R_elder' ((a0_ HO_3.out)) (Kd.R_base ho0) hb);replace HB:=am_ (below_step (a1_) hb);(try clear hb);(try clear hb2);(try clear hk);(try clear hi);(try clear ho0)))
    go_ret
    exact⟨_,a10_,(a25_ HO465.out),a1_⟩

/-! ### impl_ChangedTracks: function 13 -/
def impl_ChangedTracks.j0:Nat→List (S40)→List (S40)→Bool→Option (List Int×Bool)
 | 0,_,_,_=>none
 | k+1,x0,x1,x13=>if x13=true then(some (([]:List Int),false)) else((impl_lessHoles.f x0 x1).bind fun t468=>((impl_lessHoles.f x1 x0).bind fun t471=>(if t468.length+t471.length<5864062014805 then((impl_tracksUsed.f k (t468 ++ t471)).bind fun t477=>(some (t477,true))) else(none))))
def impl_ChangedTracks.f (k:Nat) (l0:List (S40)) (l1:List (S40)):Option (List Int×Bool):=(impl_IsSheet.f k l0).bind fun t466=>(if t466=true then((impl_IsSheet.f k l1).bind fun t467=>(impl_ChangedTracks.j0 k l0 l1 (!t467))) else(impl_ChangedTracks.j0 k l0 l1 true))
theorem impl_ChangedTracks.mono_l:∀k,(∀y0 y1 y2,LeO (impl_ChangedTracks.j0 k y0 y1 y2) (impl_ChangedTracks.j0 (k+1) y0 y1 y2))
 | 0=>fun _ _ _ r h=>by simp[impl_ChangedTracks.j0]at h
 | k+1=>by
  have ih0:=impl_ChangedTracks.mono_l k
  intros
  unfold impl_ChangedTracks.j0
  rotate_left
  all_goals repeat' first|(with_reducible first|exact ih0 _ _ _|exact impl_IsSheet.mono _ _|exact impl_tracksUsed.mono _ _|exact LeO.refl _|exact LeO.none _|refine LeO.ite ?_ ?_|refine LeO.bind ?_ (fun _=>?_))|exact ih0 _ _ _|exact impl_IsSheet.mono _ _|exact impl_tracksUsed.mono _ _|exact LeO.none _|refine LeO.ite ?_ ?_|refine LeO.bind ?_ (fun _=>?_)
theorem impl_ChangedTracks.mono:∀a0 a1 k,LeO (impl_ChangedTracks.f k a0 a1) (impl_ChangedTracks.f (k+1) a0 a1):=by
 intro a0 a1 k
 have ih0:=impl_ChangedTracks.mono_l k
 unfold impl_ChangedTracks.f
 repeat' first
  |(with_reducible exact ih0 _ _ _)
  |(with_reducible exact impl_IsSheet.mono _ _)
  |(with_reducible exact impl_tracksUsed.mono _ _)
  |(with_reducible exact LeO.refl _)
  |(with_reducible exact LeO.none _)
  |(with_reducible refine LeO.ite ?_ ?_)
  |(with_reducible refine LeO.bind ?_ (fun _=>?_))
  |exact ih0 _ _ _
  |exact impl_IsSheet.mono _ _
  |exact impl_tracksUsed.mono _ _
  |exact LeO.none _
   | refine LeO.ite ?_ ?_
   | refine LeO.bind ?_ (fun _=>?_)
set_option maxHeartbeats 8000000 in
set_option maxRecDepth 100000 in
theorem impl_ChangedTracks.calls (k:Nat) (A0:Option Addr) (c0:Nat) (l0:List (S40)) (A1:Option Addr) (c1:Nat) (l1:List (S40)) (r1:List Int) (r2:Bool) (w:World) (hr0:Kd.C k40 w A0 l0.length l0) (hc0:l0.length≤c0) (hr1:Kd.C k40 w A1 l1.length l1) (hc1:l1.length≤c1) (h:impl_ChangedTracks.f k l0 l1=some (r1,r2)) :
 Calls Tryz.prog 13 #[.slice A0 l0.length c0, .slice A1 l1.length c1] w fun e w'=>∃v0_:Value,e = .returned (.tuple #[v0_, .bool r2])∧Kd.R (Kd.int .i64) 3 w' w.heap.size (fun _=>True) v0_ r1∧Below w.heap.size w w':=by
 have HR0:=am_ hr0
 have HC0:=am_ hc0
 clear hr0 hc0
 have HR1:=am_ hr1
 have HC1:=am_ hc1
 clear hr1 hc1
 have HB:=am_ (Below.refl w.heap.size w)
 have H:((impl_IsSheet.f k l0).bind fun t466=>(if t466=true then((impl_IsSheet.f k l1).bind fun t467=>(impl_ChangedTracks.j0 k l0 l1 (!t467))) else(impl_ChangedTracks.j0 k l0 l1 true)))=some (r1,r2):=h
 clear h
 have HC3:=am_ H
 clear H
 go_enter Tryz.func13,Tryz.ntmps13
 go_upto_region 1 with (fail)
 go_cut [13] (fun v13 wc=>∃(kq:Nat) (x13_2:Bool),v13 = .bool x13_2∧Aside0 (impl_ChangedTracks.j0 kq l0 l1 x13_2=some (r1,r2))∧Aside0 (kq≤k)∧Aside0 (Below w.heap.size w wc))
 case first=>
  have H:=HC3.out
  clear HC3
  obtain⟨t466,A4,H⟩:=bo_ H
  try dsimp only at H
  by_cases c5:t466=true
  ·subst c5
   replace H:((impl_IsSheet.f k l1).bind fun t467=>(impl_ChangedTracks.j0 k l0 l1 (!t467)))=some (r1,r2):=by rw[if_pos rfl]at H;exact H
   obtain⟨t467,A6,H⟩:=bo_ H
   try dsimp only at H
   have H':=am_ H
   clear H
   go_wp2_with (first|((with_reducible refine gate_callee (f:=45) rfl ?_);refine goesL_ (some 7) rfl rfl Tryz.func45 (by kernel_rfl) rfl #[.slice A0 l0.length c0] rfl gd_ ?_;(with_reducible refine(impl_IsSheet.calls k _ _ l0 true _ ?side1 ?side2 A4.out).mono ?_);(case side1=>exact(a6_ HR0.out));(case side2=>exact HC0.out);rintro e w7 ⟨rfl,hb⟩;refine⟨_,rfl,?_⟩;replace HB:=am_ (below_step (a1_) hb);(try clear hb);(try clear hb2);(try clear hk);(try clear hi))|(go_at_call 45;(with_reducible refine(impl_IsSheet.calls k _ _ l1 t467 _ ?side1 ?side2 A6.out).mono ?_);(case side1=>exact(a6_ HR1.out));(case side2=>exact HC1.out);rintro e w8 ⟨rfl,hb⟩;replace HB:=am_ (below_step (a1_) hb);(try clear hb);(try clear hb2);(try clear hk);(try clear hi)))
   go_meet
   case rel=>exact⟨_,(!t467),(by first | rfl|(simp;done)|(simp[*];done)),H',⟨by first | omega|exact Nat.le_refl _⟩,⟨a1_⟩⟩
  ·replace c5:=Bool.eq_false_iff.mpr c5
   subst c5
   replace H:(impl_ChangedTracks.j0 k l0 l1 true)=some (r1,r2):=by rw[if_neg (show ¬(false=true) by decide)]at H;exact H
   have H':=am_ H
   clear H
   go_wp2_with (first|((with_reducible refine gate_callee (f:=45) rfl ?_);refine goesL_ (some 7) rfl rfl Tryz.func45 (by kernel_rfl) rfl #[.slice A0 l0.length c0] rfl gd_ ?_;(with_reducible refine(impl_IsSheet.calls k _ _ l0 false _ ?side1 ?side2 A4.out).mono ?_);(case side1=>exact(a6_ HR0.out));(case side2=>exact HC0.out);rintro e w9 ⟨rfl,hb⟩;refine⟨_,rfl,?_⟩;replace HB:=am_ (below_step (a1_) hb);(try clear hb);(try clear hb2);(try clear hk);(try clear hi)))
   go_meet
   case rel=>exact⟨_,(true),(by first | rfl|(simp;done)|(simp[*];done)),H',⟨by first | omega|exact Nat.le_refl _⟩,⟨a1_⟩⟩
 case rest=>
  clear HC3
  try clear c1
  try clear p2
  try clear c4
  try clear c5
  obtain⟨kq,x13_2,rfl,HA,HJ2,HB⟩:=hcut
  cases kq with
  | zero=>exact absurd HA.out (by simp[impl_ChangedTracks.j0])
  | succ kj2=>
   have H:=HA.out
   clear HA
   simp only[impl_ChangedTracks.j0]at H
   by_cases c10:x13_2=true
   ·subst c10
    replace H:(some (([]:List Int),false))=some (r1,r2):=by rw[if_pos rfl]at H;exact H
    simp only[Option.some.injEq,Prod.mk.injEq]at H
    obtain⟨rfl,rfl⟩:=H
    go_wp2
    go_ret2
    exact⟨_,a10_,a23_,a1_⟩
   ·replace c10:=Bool.eq_false_iff.mpr c10
    subst c10
    replace H:((impl_lessHoles.f l0 l1).bind fun t468=>((impl_lessHoles.f l1 l0).bind fun t471=>(if t468.length+t471.length<5864062014805 then((impl_tracksUsed.f kj2 (t468 ++ t471)).bind fun t477=>(some (t477,true))) else(none))))=some (r1,r2):=by rw[if_neg (show ¬(false=true) by decide)]at H;exact H
    obtain⟨t468,A11,H⟩:=bo_ H
    try dsimp only at H
    obtain⟨t471,A12,H⟩:=bo_ H
    try dsimp only at H
    by_cases c13:t468.length+t471.length<5864062014805
    ·rw[if_pos c13]at H
     have LMc13:=am_ c13
     clear c13
     obtain⟨y474,hy474⟩:∃y_:List (S40),y_=(t468 ++ t471):=⟨_,rfl⟩
     replace H:((impl_tracksUsed.f kj2 y474).bind fun t477=>(some (t477,true)))=some (r1,r2):=by first|(rw[hy474];with_reducible exact H)|(have H2_:=(Option.bind_some _ _).symm.trans H;rw[hy474];with_reducible exact H2_)|(have H2_:=(Option.bind_some _ _).symm.trans H;with_reducible exact H2_) | with_reducible exact H|(rw[hy474];exact H)|exact H
     have Ny474:=am_ hy474
     clear hy474
     obtain⟨t477,A14,H⟩:=bo_ H
     try dsimp only at H
     simp only[Option.some.injEq,Prod.mk.injEq]at H
     obtain⟨rfl,rfl⟩:=H
     go_wp2_with (first|((with_reducible refine gate_callee (f:=46) rfl ?_);refine goesL_ (some 16) rfl rfl Tryz.func46 (by kernel_rfl) rfl #[.slice A0 l0.length c0, .slice A1 l1.length c1] rfl gd_ ?_;(with_reducible refine(impl_lessHoles.calls _ _ l0 _ _ l1 t468 _ ?side1 ?side2 ?side3 ?side4 A11.out).mono ?_);(case side1=>exact(a6_ HR0.out));(case side2=>exact HC0.out);(case side3=>exact(a6_ HR1.out));(case side4=>exact HC1.out);rintro e w15 ⟨v469,rfl,ho0,hb⟩;refine⟨_,rfl,?_⟩;have HO470:=am_ (Kd.R_lower ho0 (below_size (a1_)));replace HB:=am_ (below_step (a1_) hb);(try clear hb);(try clear hb2);(try clear hk);(try clear hi);(try clear ho0))|((with_reducible refine gate_callee (f:=46) rfl ?_);refine goesL_ (some 19) rfl rfl Tryz.func46 (by kernel_rfl) rfl #[.slice A1 l1.length c1, .slice A0 l0.length c0] rfl gd_ ?_;(with_reducible refine(impl_lessHoles.calls _ _ l1 _ _ l0 t471 _ ?side1 ?side2 ?side3 ?side4 A12.out).mono ?_);(case side1=>exact(a6_ HR1.out));(case side2=>exact HC1.out);(case side3=>exact(a6_ HR0.out));(case side4=>exact HC0.out);rintro e w16 ⟨v472,rfl,ho0,hb⟩;refine⟨_,rfl,?_⟩;have HO473:=am_ (Kd.R_lower (Kd.R_new' ho0 (Kd.R_lt ((a0_ HO470.out)))) (below_size (a1_)));replace HO470:=am_ (Kd.R_elder' ((a0_ HO470.out)) (Kd.R_base ho0) hb);replace HB:=am_ (below_step (a1_) hb);(try clear hb);(try clear hb2);(try clear hk);(try clear hi);(try clear ho0);obtain⟨Ao18,co18,eo18⟩:=Kd.R_slice HO473.out;subst eo18)|((with_reducible refine gate_builtin (b:= .append) (xs:= #[.tmp 16, .tmp 19]) rfl ?_);at_builtin;refine Kd.R_append_rows k40 (w0:=w) w.heap.size rfl (.tmp 16) (.tmp 19) 24 40 (.agg #[(.int .i64 0),(.int .i64 0),(.int .i64 0)]) 24 rfl Tryz.underlying24 info40 rfl (by decide) (by omega) v469 t468 t471 _ _ _ (fun k_=>some k_≠(.slice Ao18 t471.length co18:Value).ownBlock) (fun _=>False) rfl rfl ?aO ?aR (fun _ _ h=>h) (fun _ h=>h.elim) ?aF ?aB ?aS ?aL ?_;(case aR=>exact(a8_ HO473.out));(case aB=>exact(a1_));(case aF=>exact(fun k_ hk=>Kd.fresh' (Kd.R_lt ((a0_ HO473.out))) k_ hk));(case aO=>exact((a31_ HO470.out)));(case aS=>exact(below_size (a1_)));(case aL=>have:=LMc13.out;omega);intro v475 w17 ho hb hg hat;rw[← Ny474.out]at ho;have n0_:=am_ (Kd.R_after (ok:=(fun _=>True)) ((a0_ HO473.out)) hg hat);have n1_:=am_ (hb);have n2_:=am_ (ho);clear HO473 HB HO470;have HO473:=n0_;have HB:=n1_;have HO476:=n2_;clear n0_ n1_ n2_ ho hb hg hat;obtain⟨Ao19,co19,eo19⟩:=Kd.R_slice HO476.out;subst eo19)|((with_reducible refine gate_callee (f:=52) rfl ?_);refine goesL_ (some 21) rfl rfl Tryz.func52 (by kernel_rfl) rfl #[.slice Ao19 y474.length co19] rfl gd_ ?_;(with_reducible refine(impl_tracksUsed.calls kj2 _ _ y474 t477 _ ?side1 ?side2 A14.out).mono ?_);(case side1=>exact(a8_ HO476.out));(case side2=>exact(Kd.R_reads' HO476.out).2.1);rintro e w20 ⟨v478,rfl,ho0,hb⟩;refine⟨_,rfl,?_⟩;replace HO473:=am_ (Kd.R_below ((a0_ HO473.out)) hb);replace HO476:=am_ (Kd.R_below ((a0_ HO476.out)) hb);have HO479:=am_ (Kd.R_lower ho0 (below_size (a1_)));replace HB:=am_ (below_step (a1_) hb);(try clear hb);(try clear hb2);(try clear hk);(try clear hi);(try clear ho0)))
     go_ret2
     exact⟨_,a10_,(a0_ HO479.out),a1_⟩
    ·rw[if_neg c13]at H
     exact absurd H (by simp)

/-! ### spec_l1Put: function 53 -/
def spec_l1Put.l0:Nat→List Int→Int→Int→Option (List Int)
 | 0,_,_,_=>none
 | k+1,x0,x1,x5=>if x5<(x0.length:Int) then(if 0≤x5 then(if(rd x0 x5)<x1 then(spec_l1Put.l0 k x0 x1 (wrap64 (x5+1))) else(if(rd x0 x5)=x1 then(some x0) else((some (([]:List Int):List Int)).bind fun y482=>(if x5≤(x0.length:Int) then((some (x0.take (x5:Int).toNat:List Int)).bind fun y485=>(if y482.length+y485.length<17592186044416 then((some (y482 ++ y485:List Int)).bind fun y489=>(if y489.length<17592186044416 then((some (y489 ++ [x1]:List Int)).bind fun y492=>((some (x0.drop (x5:Int).toNat:List Int)).bind fun y495=>(if y492.length+y495.length<17592186044416 then(some (y492 ++ y495)) else(none)))) else(none))) else(none))) else(none))))) else(none)) else((some (([]:List Int):List Int)).bind fun y502=>(if 0≤x5 then(if x5≤(x0.length:Int) then((some (x0.take (x5:Int).toNat:List Int)).bind fun y505=>(if y502.length+y505.length<17592186044416 then((some (y502 ++ y505:List Int)).bind fun y509=>(if y509.length<17592186044416 then((some (y509 ++ [x1]:List Int)).bind fun y512=>((some (x0.drop (x5:Int).toNat:List Int)).bind fun y515=>(if y512.length+y515.length<17592186044416 then(some (y512 ++ y515)) else(none)))) else(none))) else(none))) else(none)) else(none)))
def spec_l1Put.f (k:Nat) (l0:List Int) (a1:Int):Option (List Int):=spec_l1Put.l0 k l0 a1 0
theorem spec_l1Put.mono_l:∀k,(∀y0 y1 y2,LeO (spec_l1Put.l0 k y0 y1 y2) (spec_l1Put.l0 (k+1) y0 y1 y2))
 | 0=>fun _ _ _ r h=>by simp[spec_l1Put.l0]at h
 | k+1=>by
  have ih0:=spec_l1Put.mono_l k
  intros
  unfold spec_l1Put.l0
  rotate_left
  all_goals repeat' first|(with_reducible first|exact ih0 _ _ _|exact LeO.refl _|exact LeO.none _|refine LeO.ite ?_ ?_|refine LeO.bind ?_ (fun _=>?_))|exact ih0 _ _ _|exact LeO.none _|refine LeO.ite ?_ ?_|refine LeO.bind ?_ (fun _=>?_)
theorem spec_l1Put.mono:∀a0 a1 k,LeO (spec_l1Put.f k a0 a1) (spec_l1Put.f (k+1) a0 a1):=by
 intro a0 a1 k
 have ih0:=spec_l1Put.mono_l k
 unfold spec_l1Put.f
 repeat' first
  |(with_reducible exact ih0 _ _ _)
  |(with_reducible exact LeO.refl _)
  |(with_reducible exact LeO.none _)
  |(with_reducible refine LeO.ite ?_ ?_)
  |(with_reducible refine LeO.bind ?_ (fun _=>?_))
  |exact ih0 _ _ _
  |exact LeO.none _
   | refine LeO.ite ?_ ?_
   | refine LeO.bind ?_ (fun _=>?_)
set_option maxHeartbeats 8000000 in
set_option maxRecDepth 100000 in
theorem spec_l1Put.calls (k:Nat) (P0_:Nat→Prop) (u9000_:Value) (l0:List Int) (a1:Int) (r:List Int) (w0 w:World) (hB:Below w0.heap.size w0 w) (ho0:Kd.R (Kd.int .i64) 3 w w0.heap.size P0_ u9000_ l0) (h:spec_l1Put.f k l0 a1=some r) :
 Calls Tryz.prog 53 #[u9000_, .int .i64 a1] w fun e w'=>∃v0_:Value,e = .returned (v0_)∧Kd.R (Kd.int .i64) 3 w' w0.heap.size (fun k_=>(P0_ k_∨w.heap.size≤k_)) v0_ r∧Below w0.heap.size w0 w'∧Kept w w' (fun k_=>P0_ k_):=by
 have HO0:=am_ (show Kd.R (Kd.int .i64) 3 w w0.heap.size (fun k_=>(P0_ k_∨w.heap.size≤k_)) u9000_ l0 from Kd.R_mono ho0 (fun k_ hk=>(.inl hk)))
 have HK:=am_ (Kept.refl w (fun k_=>P0_ k_))
 have HW0:=am_ hB.size
 have HB:=am_ hB
 clear hB
 have H:(spec_l1Put.l0 k l0 a1 0)=some r:=h
 clear h
 have H':=am_ H
 clear H
 go_enter Tryz.func53,Tryz.ntmps53
 go_wp2
 (try simp only[Act.put,List.setIfInBounds_toArray,List.set_cons_zero,List.set_cons_succ])
 go_loopg [5] k (fun kq v5 w'=>∃(x5_1:Int),v5 = .int .i64 x5_1∧Aside0 (spec_l1Put.l0 kq l0 a1 x5_1=some r)∧Aside0 (kq≤k)∧Aside0 (Kd.R (Kd.int .i64) 3 w' w0.heap.size (fun k_=>(P0_ k_∨w.heap.size≤k_)) u9000_ l0)∧Aside0 (Kept w w' (fun k_=>P0_ k_))∧Aside0 (Below w0.heap.size w0 w'))
 case atStart=>exact⟨(0),(by first | rfl|(simp;done)|(simp[*];done)),H',⟨Nat.le_refl _⟩,⟨(a0_ HO0.out)⟩,⟨a24_⟩,⟨a1_⟩⟩
 case round=>
  clear H'
  try clear p2
  obtain⟨x5_1,rfl,HA,HK1,HO_0,HK,HB⟩:=hrel
  cases gk with
  | zero=>exact absurd HA.out (by simp[spec_l1Put.l0])
  | succ k1=>
   have H:=HA.out
   clear HA
   simp only[spec_l1Put.l0]at H
   by_cases c3:x5_1<(l0.length:Int)
   ·rw[if_pos c3]at H
    have c3b0:decide (x5_1<(l0.length:Int))=true:=decide_eq_true c3
    clear c3
    by_cases c4:0≤x5_1
    ·rw[if_pos c4]at H
     have c4b0:decide (0≤x5_1)=true:=decide_eq_true c4
     clear c4
     by_cases c5:(rd l0 x5_1)<a1
     ·rw[if_pos c5]at H
      have c5b0:decide ((rd l0 x5_1)<a1)=true:=decide_eq_true c5
      clear c5
      have H':=am_ H
      clear H
      obtain⟨Ao6,co6,eo6⟩:=Kd.R_slice HO_0.out
      subst eo6
      have p480:0≤(x5_1:Int):=of_decide_eq_true (a12_)
      have q480:x5_1<(l0.length:Int):=of_decide_eq_true (a12_)
      obtain⟨ad480,e480,hx480_0⟩:=Kd.at_int (Kd.R_reads' HO_0.out).2.2 x5_1 p480 q480
      cases e480
      replace p480:=eq_true p480
      replace q480:=eq_true q480
      go_wp2
      go_roundg k1
      case measure=>have:=HK1.out;omega
      case rel=>exact⟨(wrap64 (x5_1+1)),(by first | rfl|(simp;done)|(simp[*];done)),H',⟨by have:=HK1.out;omega⟩,⟨(a0_ HO_0.out)⟩,⟨a24_⟩,⟨a1_⟩⟩
     ·rw[if_neg c5]at H
      have c5b0:decide ((rd l0 x5_1)<a1)=false:=decide_eq_false c5
      clear c5
      by_cases c7:(rd l0 x5_1)=a1
      ·rw[if_pos c7]at H
       have c7b0:((rd l0 x5_1) == a1)=true:=beq_iff_eq.mpr c7
       have c7b1:((rd l0 x5_1) != a1)=false:=bne_eq_false_iff_eq.mpr c7
       clear c7
       obtain rfl:=Option.some.inj H
       obtain⟨Ao8,co8,eo8⟩:=Kd.R_slice HO_0.out
       subst eo8
       have p480:0≤(x5_1:Int):=of_decide_eq_true (a12_)
       have q480:x5_1<(l0.length:Int):=of_decide_eq_true (a12_)
       obtain⟨ad480,e480,hx480_0⟩:=Kd.at_int (Kd.R_reads' HO_0.out).2.2 x5_1 p480 q480
       cases e480
       replace p480:=eq_true p480
       replace q480:=eq_true q480
       have p481:0≤(x5_1:Int):=of_decide_eq_true (a12_)
       have q481:x5_1<(l0.length:Int):=of_decide_eq_true (a12_)
       obtain⟨ad481,e481,hx481_0⟩:=Kd.at_int (Kd.R_reads' HO_0.out).2.2 x5_1 p481 q481
       obtain rfl:ad480=ad481:=(by injection e481)
       replace p481:=eq_true p481
       replace q481:=eq_true q481
       go_wp2
       go_ret
       exact⟨_,a10_,(a0_ HO_0.out),a1_,a24_⟩
      ·rw[if_neg c7]at H
       have c7b0:((rd l0 x5_1) == a1)=false:=beq_eq_false_iff_ne.mpr c7
       have c7b1:((rd l0 x5_1) != a1)=true:=bne_iff_ne.mpr c7
       obtain⟨y482,hy482⟩:∃y_:List Int,y_=(([]:List Int)):=⟨_,rfl⟩
       replace H:(if x5_1≤(l0.length:Int) then((some (l0.take (x5_1:Int).toNat:List Int)).bind fun y485=>(if y482.length+y485.length<17592186044416 then((some (y482 ++ y485:List Int)).bind fun y489=>(if y489.length<17592186044416 then((some (y489 ++ [a1]:List Int)).bind fun y492=>((some (l0.drop (x5_1:Int).toNat:List Int)).bind fun y495=>(if y492.length+y495.length<17592186044416 then(some (y492 ++ y495)) else(none)))) else(none))) else(none))) else(none))=some r:=by first|(rw[hy482];with_reducible exact H)|(have H2_:=(Option.bind_some _ _).symm.trans H;rw[hy482];with_reducible exact H2_)|(have H2_:=(Option.bind_some _ _).symm.trans H;with_reducible exact H2_) | with_reducible exact H|(rw[hy482];exact H)|exact H
       have Ny482:=am_ hy482
       clear hy482
       have c9b0:=eq_true (of_decide_eq_true (a12_):0≤x5_1)
       by_cases c10:x5_1≤(l0.length:Int)
       ·rw[if_pos c10]at H
        have c10b0:=eq_true c10
        have c10b1:decide (x5_1≤(l0.length:Int))=true:=decide_eq_true c10
        clear c10
        obtain⟨y485,hy485⟩:∃y_:List Int,y_=(l0.take (x5_1:Int).toNat):=⟨_,rfl⟩
        replace H:(if y482.length+y485.length<17592186044416 then((some (y482 ++ y485:List Int)).bind fun y489=>(if y489.length<17592186044416 then((some (y489 ++ [a1]:List Int)).bind fun y492=>((some (l0.drop (x5_1:Int).toNat:List Int)).bind fun y495=>(if y492.length+y495.length<17592186044416 then(some (y492 ++ y495)) else(none)))) else(none))) else(none))=some r:=by first|(rw[hy485];with_reducible exact H)|(have H2_:=(Option.bind_some _ _).symm.trans H;rw[hy485];with_reducible exact H2_)|(have H2_:=(Option.bind_some _ _).symm.trans H;with_reducible exact H2_) | with_reducible exact H|(rw[hy485];exact H)|exact H
        have Ny485:=am_ hy485
        clear hy485
        by_cases c11:y482.length+y485.length<17592186044416
        ·rw[if_pos c11]at H
         have LMc11:=am_ c11
         clear c11
         obtain⟨y489,hy489⟩:∃y_:List Int,y_=(y482 ++ y485):=⟨_,rfl⟩
         replace H:(if y489.length<17592186044416 then((some (y489 ++ [a1]:List Int)).bind fun y492=>((some (l0.drop (x5_1:Int).toNat:List Int)).bind fun y495=>(if y492.length+y495.length<17592186044416 then(some (y492 ++ y495)) else(none)))) else(none))=some r:=by first|(rw[hy489];with_reducible exact H)|(have H2_:=(Option.bind_some _ _).symm.trans H;rw[hy489];with_reducible exact H2_)|(have H2_:=(Option.bind_some _ _).symm.trans H;with_reducible exact H2_) | with_reducible exact H|(rw[hy489];exact H)|exact H
         have Ny489:=am_ hy489
         clear hy489
         by_cases c12:y489.length<17592186044416
         ·rw[if_pos c12]at H
          have LMc12:=am_ c12
          clear c12
          obtain⟨y492,hy492⟩:∃y_:List Int,y_=(y489 ++ [a1]):=⟨_,rfl⟩
          replace H:((some (l0.drop (x5_1:Int).toNat:List Int)).bind fun y495=>(if y492.length+y495.length<17592186044416 then(some (y492 ++ y495)) else(none)))=some r:=by first|(rw[hy492];with_reducible exact H)|(have H2_:=(Option.bind_some _ _).symm.trans H;rw[hy492];with_reducible exact H2_)|(have H2_:=(Option.bind_some _ _).symm.trans H;with_reducible exact H2_) | with_reducible exact H|(rw[hy492];exact H)|exact H
          have Ny492:=am_ hy492
          clear hy492
          have c13b0:=eq_true (of_decide_eq_true (a12_):0≤x5_1)
          have c14b0:=eq_true (of_decide_eq_true (a12_):x5_1≤(l0.length:Int))
          obtain⟨y495,hy495⟩:∃y_:List Int,y_=(l0.drop (x5_1:Int).toNat):=⟨_,rfl⟩
          replace H:(if y492.length+y495.length<17592186044416 then(some (y492 ++ y495)) else(none))=some r:=by first|(rw[hy495];with_reducible exact H)|(have H2_:=(Option.bind_some _ _).symm.trans H;rw[hy495];with_reducible exact H2_)|(have H2_:=(Option.bind_some _ _).symm.trans H;with_reducible exact H2_) | with_reducible exact H|(rw[hy495];exact H)|exact H
          have Ny495:=am_ hy495
          clear hy495
          by_cases c15:y492.length+y495.length<17592186044416
          ·rw[if_pos c15]at H
           have LMc15:=am_ c15
           clear c15
           obtain⟨y499,hy499⟩:∃y_:List Int,y_=(y492 ++ y495):=⟨_,rfl⟩
           replace H:(some y499)=some r:=by first|(rw[hy499];with_reducible exact H)|(have H2_:=(Option.bind_some _ _).symm.trans H;rw[hy499];with_reducible exact H2_)|(have H2_:=(Option.bind_some _ _).symm.trans H;with_reducible exact H2_) | with_reducible exact H|(rw[hy499];exact H)|exact H
           have Ny499:=am_ hy499
           clear hy499
           obtain rfl:=Option.some.inj H
           obtain⟨Ao16,co16,eo16⟩:=Kd.R_slice HO_0.out
           subst eo16
           have p480:0≤(x5_1:Int):=of_decide_eq_true (a12_)
           have q480:x5_1<(l0.length:Int):=of_decide_eq_true (a12_)
           obtain⟨ad480,e480,hx480_0⟩:=Kd.at_int (Kd.R_reads' HO_0.out).2.2 x5_1 p480 q480
           cases e480
           replace p480:=eq_true p480
           replace q480:=eq_true q480
           have p481:0≤(x5_1:Int):=of_decide_eq_true (a12_)
           have q481:x5_1<(l0.length:Int):=of_decide_eq_true (a12_)
           obtain⟨ad481,e481,hx481_0⟩:=Kd.at_int (Kd.R_reads' HO_0.out).2.2 x5_1 p481 q481
           obtain rfl:ad480=ad481:=(by injection e481)
           replace p481:=eq_true p481
           replace q481:=eq_true q481
           go_wp2_with (first|((with_reducible refine gate_dst (N:=34) rfl ?_);refine Kd.R_lit (Kd.int .i64) _ 3 ?hg (N:=34) ?hd (xs:=([]:List Int)) (inner:=[]) (ok:=fun _=>True) (okp:=fun _=>True) ?hr ?hp (fun _ hk=>hk) trivial (Below.refl _ _) (Nat.le_refl _) (by simp) ?_;(case hd=>rfl);(case hg=>rfl);(case hr=>exact hr_);(case hp=>exact(Reps.none _ _));intro v483 w17 ho18 hb hg_ hnew_;clear hg_ hnew_;(first|rw[← Ny482.out]at ho18|(simp only[Int.reduceToNat]at ho18;rw[← Ny482.out]at ho18));have HO484:=am_ (Kd.R_lower (Kd.R_new' (Kd.R_newM (M:=fun k_=>(P0_ k_∨w.heap.size≤k_)) ho18 (a32_) (fun k_ h_=> .inr h_)) (Kd.R_lt ((a0_ HO_0.out)))) (below_size (a1_)));replace HO_0:=am_ (Kd.R_elder' ((a0_ HO_0.out)) (Kd.R_base ho18) hb);replace HK:=am_ (Kept.below (S:=(fun k_=>P0_ k_)) (a24_) hb);replace HB:=am_ (below_step (a1_) hb);clear hb ho18;have q19:(x5_1:Int)≤((l0.length:Int):Int):=of_decide_eq_true (a12_);obtain⟨i019,hi019,_,hsz19,_⟩:=info_parts info3;have hroom19:l0.length≤co16:=(Kd.R_reads' HO_0.out).2.1;have hC19:Kd.C (Kd.int .i64) _ (some ad480) l0.length l0:=(Kd.R_reads' HO_0.out).2.2;have hcut19:=cut_to (P:=Tryz.prog) 33 3 .i64 Tryz.underlying33 hi019 (some ad480) l0.length co16 x5_1 (of_decide_eq_true (a12_)) q19 hroom19;have hr19:=Kd.C_take (m:=(x5_1:Int).toNat) hC19 (by omega);have hy19:y485.length=(x5_1:Int).toNat:=(by rw[Ny485.out,List.length_take];omega);rw[← Ny485.out]at hr19;rw[← hy19]at hcut19;have HR488:=am_ hr19;have HC488:=am_ (show y485.length≤co16 from by omega);clear hr19 hC19 hroom19 hi019 hsz19;have KY19:=am_ hy19;clear hy19;have KL19:=am_ (show(x5_1:Int).toNat≤l0.length from by omega);replace q19:=eq_true q19)|((with_reducible refine gate_builtin (b:= .append) (xs:= #[.tmp 34, .tmp 37]) rfl ?_);at_builtin;refine Kd.R_append_rows (Kd.int .i64) (w0:=w0) w0.heap.size rfl (.tmp 34) (.tmp 37) 33 3 (.int .i64 0) 8 rfl Tryz.underlying33 info3 rfl (by decide) (by omega) v483 y482 y485 _ _ _ (fun k_=>(P0_ k_∨w.heap.size≤k_)∧some k_≠(.slice (some ad480) l0.length co16:Value).ownBlock) (fun _=>False) rfl rfl ?aO ?aR (fun _ _ h=>h) (fun _ h=>h.elim) ?aF ?aB ?aS ?aL ?_;(case aR=>exact(a14_ HR488.out));(case aB=>exact(a1_));(case aF=>exact(fun k_ hk=>⟨(.inr (Nat.le_trans (a32_) hk)),Kd.fresh' (Kd.R_lt ((a0_ HO_0.out))) k_ hk⟩));(case aO=>exact((a50_ HO484.out)));(case aS=>exact(below_size (a1_)));(case aL=>have:=LMc11.out;omega);intro v490 w20 ho hb hg hat;rw[← Ny489.out]at ho;have n0_:=am_ (Kd.R_after (ok:=(fun k_=>(P0_ k_∨w.heap.size≤k_))) ((a0_ HO_0.out)) hg hat);have n1_:=am_ (hb);have n2_:=am_ (Kept.of_grown (S:=(fun k_=>P0_ k_)) hg (a24_) (fun k_ e_=>(HO484.out.1 k_ e_).1.1));have n3_:=am_ ((show Kd.C (Kd.int .i64) w20 (some ad480) y485.length y485 from by rw[Ny485.out];exact Kd.C_take (m:=(x5_1:Int).toNat) ((Kd.R_reads' (Kd.R_after (ok:=(fun k_=>(P0_ k_∨w.heap.size≤k_))) ((a0_ HO_0.out)) hg hat)).2.2) KL19.out));have n4_:=am_ (ho);clear HO_0 HB HK HR488 HO484;have HO_0:=n0_;have HB:=n1_;have HK:=n2_;have HR488:=n3_;have HO491:=n4_;clear n0_ n1_ n2_ n3_ n4_ ho hb hg hat)|((with_reducible refine gate_builtin (b:= .append) (xs:= #[.tmp 39, .tmp 41]) rfl ?_);at_builtin;refine Kd.R_append (Kd.int .i64) (w0:=w0) w0.heap.size rfl (.tmp 39) (.tmp 41) 33 3 (.int .i64 0) 8 rfl Tryz.underlying33 info3 rfl (by decide) (by omega) v490 y489 a1 [.int .i64 a1] (fun k_=>(P0_ k_∨w.heap.size≤k_)∧some k_≠(.slice (some ad480) l0.length co16:Value).ownBlock) (fun _=>False) rfl rfl ?aP (fun _ hk=>hk.elim) ?aF ?aO ?aB ?aS ?aL ?_;(case aP=>exact rfl);(case aB=>exact(a1_));(case aF=>exact(fun k_ hk=>⟨(.inr (Nat.le_trans (a32_) hk)),Kd.fresh' (Kd.R_lt ((a0_ HO_0.out))) k_ hk⟩));(case aO=>exact((a0_ HO491.out)));(case aS=>exact(below_size (a1_)));(case aL=>have:=LMc12.out;omega);intro v493 w21 ho hb hg hat;rw[← Ny492.out]at ho;have n0_:=am_ (Kd.R_after (ok:=(fun k_=>(P0_ k_∨w.heap.size≤k_))) ((a0_ HO_0.out)) hg hat);have n1_:=am_ (hb);have n2_:=am_ (Kept.of_grown (S:=(fun k_=>P0_ k_)) hg (a24_) (fun k_ e_=>(HO491.out.1 k_ e_).1));have n3_:=am_ ((show Kd.C (Kd.int .i64) w21 (some ad480) y485.length y485 from by rw[Ny485.out];exact Kd.C_take (m:=(x5_1:Int).toNat) ((Kd.R_reads' (Kd.R_after (ok:=(fun k_=>(P0_ k_∨w.heap.size≤k_))) ((a0_ HO_0.out)) hg hat)).2.2) KL19.out));have n4_:=am_ (ho);clear HO_0 HB HK HR488 HO491;have HO_0:=n0_;have HB:=n1_;have HK:=n2_;have HR488:=n3_;have HO494:=n4_;clear n0_ n1_ n2_ n3_ n4_ ho hb hg hat;have q22:(x5_1:Int)≤((l0.length:Int):Int):=of_decide_eq_true (a12_);obtain⟨i022,hi022,_,hsz22,_⟩:=info_parts info3;have hroom22:l0.length≤co16:=(Kd.R_reads' HO_0.out).2.1;have hC22:Kd.C (Kd.int .i64) _ (some ad480) l0.length l0:=(Kd.R_reads' HO_0.out).2.2;have q022:(0:Int)≤(x5_1:Int):=of_decide_eq_true (a12_);have hcut22:=cut_from (P:=Tryz.prog) 33 3 .i64 Tryz.underlying33 hi022 1 hsz22 (some ad480) l0.length co16 x5_1 q022 q22;have hr22:=Kd.C_drop (m:=(x5_1:Int).toNat) (c:=co16) hC22 (by omega) hroom22;obtain⟨A22,hA22⟩:∃A1,A1=(if co16=(x5_1:Int).toNat then(some ad480) else((some ad480):Option Addr).map (·.add ((x5_1:Int).toNat*1))):=⟨_,rfl⟩;obtain⟨c22,hc22⟩:∃c1,c1=co16-(x5_1:Int).toNat:=⟨_,rfl⟩;have hy22:y495.length=l0.length-(x5_1:Int).toNat:=(by rw[Ny495.out,List.length_drop]<;>omega);rw[show(l0).drop (x5_1:Int).toNat=y495 from Ny495.out.symm]at hr22;replace hr22:Kd.C (Kd.int .i64) _ A22 y495.length y495:=(by rw[hA22];exact hr22);rw[← hy22, ← hA22, ← hc22]at hcut22;have HR498:=am_ hr22;have HC498:=am_ (show y495.length≤c22 from by rw[hy22,hc22];exact Nat.sub_le_sub_right hroom22 _);clear hr22 hC22 hroom22 hi022 hsz22 hc22;have KY22:=am_ hy22;have KA22:=am_ hA22;clear hy22 hA22;have KL22:=am_ (show(x5_1:Int).toNat≤l0.length from by omega);replace q22:=eq_true q22)|((with_reducible refine gate_builtin (b:= .append) (xs:= #[.tmp 43, .tmp 46]) rfl ?_);at_builtin;refine Kd.R_append_rows (Kd.int .i64) (w0:=w0) w0.heap.size rfl (.tmp 43) (.tmp 46) 33 3 (.int .i64 0) 8 rfl Tryz.underlying33 info3 rfl (by decide) (by omega) v493 y492 y495 _ _ _ (fun k_=>(P0_ k_∨w.heap.size≤k_)∧some k_≠(.slice (some ad480) l0.length co16:Value).ownBlock) (fun _=>False) rfl rfl ?aO ?aR (fun _ _ h=>h) (fun _ h=>h.elim) ?aF ?aB ?aS ?aL ?_;(case aR=>exact(a14_ HR498.out));(case aB=>exact(a1_));(case aF=>exact(fun k_ hk=>⟨(.inr (Nat.le_trans (a32_) hk)),Kd.fresh' (Kd.R_lt ((a0_ HO_0.out))) k_ hk⟩));(case aO=>exact((a0_ HO494.out)));(case aS=>exact(below_size (a1_)));(case aL=>have:=LMc15.out;omega);intro v500 w23 ho hb hg hat;rw[← Ny499.out]at ho;have n0_:=am_ (Kd.R_after (ok:=(fun k_=>(P0_ k_∨w.heap.size≤k_))) ((a0_ HO_0.out)) hg hat);have n1_:=am_ (hb);have n2_:=am_ (Kept.of_grown (S:=(fun k_=>P0_ k_)) hg (a24_) (fun k_ e_=>(HO494.out.1 k_ e_).1));have n3_:=am_ ((show Kd.C (Kd.int .i64) w23 (some ad480) y485.length y485 from by rw[Ny485.out];exact Kd.C_take (m:=(x5_1:Int).toNat) ((Kd.R_reads' (Kd.R_after (ok:=(fun k_=>(P0_ k_∨w.heap.size≤k_))) ((a0_ HO_0.out)) hg hat)).2.2) KL19.out));have n4_:=am_ ((show Kd.C (Kd.int .i64) w23 A22 y495.length y495 from by rw[Ny495.out,KA22.out];exact Kd.C_drop (m:=(x5_1:Int).toNat) (c:=co16) ((Kd.R_reads' (Kd.R_after (ok:=(fun k_=>(P0_ k_∨w.heap.size≤k_))) ((a0_ HO_0.out)) hg hat)).2.2) KL22.out ((Kd.R_reads' (Kd.R_after (ok:=(fun k_=>(P0_ k_∨w.heap.size≤k_))) ((a0_ HO_0.out)) hg hat)).2.1)));have n5_:=am_ (ho);clear HO_0 HB HK HR488 HR498 HO494;have HO_0:=n0_;have HB:=n1_;have HK:=n2_;have HR488:=n3_;have HR498:=n4_;have HO501:=n5_;clear n0_ n1_ n2_ n3_ n4_ n5_ ho hb hg hat))
           go_ret
           exact⟨_,a10_,by(with_reducible repeat (first|apply Kd.R_alloc|apply Kd.R_drewN|apply Kd.R_drew));exact Kd.R_mono HO501.out (fun _ hk=>hk.1),a1_,a24_⟩
          ·rw[if_neg c15]at H
           exact absurd H (by simp)
         ·rw[if_neg c12]at H
          exact absurd H (by simp)
        ·rw[if_neg c11]at H
         exact absurd H (by simp)
       ·rw[if_neg c10]at H
        exact absurd H (by simp)
    ·rw[if_neg c4]at H
     exact absurd H (by simp)
   ·rw[if_neg c3]at H
    have c3b0:decide (x5_1<(l0.length:Int))=false:=decide_eq_false c3
    clear c3
    obtain⟨y502,hy502⟩:∃y_:List Int,y_=(([]:List Int)):=⟨_,rfl⟩
    replace H:(if 0≤x5_1 then(if x5_1≤(l0.length:Int) then((some (l0.take (x5_1:Int).toNat:List Int)).bind fun y505=>(if y502.length+y505.length<17592186044416 then((some (y502 ++ y505:List Int)).bind fun y509=>(if y509.length<17592186044416 then((some (y509 ++ [a1]:List Int)).bind fun y512=>((some (l0.drop (x5_1:Int).toNat:List Int)).bind fun y515=>(if y512.length+y515.length<17592186044416 then(some (y512 ++ y515)) else(none)))) else(none))) else(none))) else(none)) else(none))=some r:=by first|(rw[hy502];with_reducible exact H)|(have H2_:=(Option.bind_some _ _).symm.trans H;rw[hy502];with_reducible exact H2_)|(have H2_:=(Option.bind_some _ _).symm.trans H;with_reducible exact H2_) | with_reducible exact H|(rw[hy502];exact H)|exact H
    have Ny502:=am_ hy502
    clear hy502
    by_cases c24:0≤x5_1
    ·rw[if_pos c24]at H
     have c24b0:=eq_true c24
     have c24b1:decide (0≤x5_1)=true:=decide_eq_true c24
     clear c24
     by_cases c25:x5_1≤(l0.length:Int)
     ·rw[if_pos c25]at H
      have c25b0:=eq_true c25
      have c25b1:decide (x5_1≤(l0.length:Int))=true:=decide_eq_true c25
      clear c25
      obtain⟨y505,hy505⟩:∃y_:List Int,y_=(l0.take (x5_1:Int).toNat):=⟨_,rfl⟩
      replace H:(if y502.length+y505.length<17592186044416 then((some (y502 ++ y505:List Int)).bind fun y509=>(if y509.length<17592186044416 then((some (y509 ++ [a1]:List Int)).bind fun y512=>((some (l0.drop (x5_1:Int).toNat:List Int)).bind fun y515=>(if y512.length+y515.length<17592186044416 then(some (y512 ++ y515)) else(none)))) else(none))) else(none))=some r:=by first|(rw[hy505];with_reducible exact H)|(have H2_:=(Option.bind_some _ _).symm.trans H;rw[hy505];with_reducible exact H2_)|(have H2_:=(Option.bind_some _ _).symm.trans H;with_reducible exact H2_) | with_reducible exact H|(rw[hy505];exact H)|exact H
      have Ny505:=am_ hy505
      clear hy505
      by_cases c26:y502.length+y505.length<17592186044416
      ·rw[if_pos c26]at H
       have LMc26:=am_ c26
       clear c26
       obtain⟨y509,hy509⟩:∃y_:List Int,y_=(y502 ++ y505):=⟨_,rfl⟩
       replace H:(if y509.length<17592186044416 then((some (y509 ++ [a1]:List Int)).bind fun y512=>((some (l0.drop (x5_1:Int).toNat:List Int)).bind fun y515=>(if y512.length+y515.length<17592186044416 then(some (y512 ++ y515)) else(none)))) else(none))=some r:=by first|(rw[hy509];with_reducible exact H)|(have H2_:=(Option.bind_some _ _).symm.trans H;rw[hy509];with_reducible exact H2_)|(have H2_:=(Option.bind_some _ _).symm.trans H;with_reducible exact H2_) | with_reducible exact H|(rw[hy509];exact H)|exact H
       have Ny509:=am_ hy509
       clear hy509
       by_cases c27:y509.length<17592186044416
       ·rw[if_pos c27]at H
        have LMc27:=am_ c27
        clear c27
        obtain⟨y512,hy512⟩:∃y_:List Int,y_=(y509 ++ [a1]):=⟨_,rfl⟩
        replace H:((some (l0.drop (x5_1:Int).toNat:List Int)).bind fun y515=>(if y512.length+y515.length<17592186044416 then(some (y512 ++ y515)) else(none)))=some r:=by first|(rw[hy512];with_reducible exact H)|(have H2_:=(Option.bind_some _ _).symm.trans H;rw[hy512];with_reducible exact H2_)|(have H2_:=(Option.bind_some _ _).symm.trans H;with_reducible exact H2_) | with_reducible exact H|(rw[hy512];exact H)|exact H
        have Ny512:=am_ hy512
        clear hy512
        have c28b0:=eq_true (of_decide_eq_true (a12_):0≤x5_1)
        have c29b0:=eq_true (of_decide_eq_true (a12_):x5_1≤(l0.length:Int))
        obtain⟨y515,hy515⟩:∃y_:List Int,y_=(l0.drop (x5_1:Int).toNat):=⟨_,rfl⟩
        replace H:(if y512.length+y515.length<17592186044416 then(some (y512 ++ y515)) else(none))=some r:=by first|(rw[hy515];with_reducible exact H)|(have H2_:=(Option.bind_some _ _).symm.trans H;rw[hy515];with_reducible exact H2_)|(have H2_:=(Option.bind_some _ _).symm.trans H;with_reducible exact H2_) | with_reducible exact H|(rw[hy515];exact H)|exact H
        have Ny515:=am_ hy515
        clear hy515
        by_cases c30:y512.length+y515.length<17592186044416
        ·rw[if_pos c30]at H
         have LMc30:=am_ c30
         clear c30
         obtain⟨y519,hy519⟩:∃y_:List Int,y_=(y512 ++ y515):=⟨_,rfl⟩
         replace H:(some y519)=some r:=by first|(rw[hy519];with_reducible exact H)|(have H2_:=(Option.bind_some _ _).symm.trans H;rw[hy519];with_reducible exact H2_)|(have H2_:=(Option.bind_some _ _).symm.trans H;with_reducible exact H2_) | with_reducible exact H|(rw[hy519];exact H)|exact H
         have Ny519:=am_ hy519
         clear hy519
         obtain rfl:=Option.some.inj H
         obtain⟨Ao31,co31,eo31⟩:=Kd.R_slice HO_0.out
         subst eo31
         go_wp2_with (first|((with_reducible refine gate_dst (N:=34) rfl ?_);refine Kd.R_lit (Kd.int .i64) _ 3 ?hg (N:=34) ?hd (xs:=([]:List Int)) (inner:=[]) (ok:=fun _=>True) (okp:=fun _=>True) ?hr ?hp (fun _ hk=>hk) trivial (Below.refl _ _) (Nat.le_refl _) (by simp) ?_;(case hd=>rfl);(case hg=>rfl);(case hr=>exact hr_);(case hp=>exact(Reps.none _ _));intro v503 w32 ho33 hb hg_ hnew_;clear hg_ hnew_;(first|rw[← Ny502.out]at ho33|(simp only[Int.reduceToNat]at ho33;rw[← Ny502.out]at ho33));have HO504:=am_ (Kd.R_lower (Kd.R_new' (Kd.R_newM (M:=fun k_=>(P0_ k_∨w.heap.size≤k_)) ho33 (a32_) (fun k_ h_=> .inr h_)) (Kd.R_lt ((a0_ HO_0.out)))) (below_size (a1_)));replace HO_0:=am_ (Kd.R_elder' ((a0_ HO_0.out)) (Kd.R_base ho33) hb);replace HK:=am_ (Kept.below (S:=(fun k_=>P0_ k_)) (a24_) hb);replace HB:=am_ (below_step (a1_) hb);clear hb ho33;have q34:(x5_1:Int)≤((l0.length:Int):Int):=of_decide_eq_true (a12_);obtain⟨i034,hi034,_,hsz34,_⟩:=info_parts info3;have hroom34:l0.length≤co31:=(Kd.R_reads' HO_0.out).2.1;have hC34:Kd.C (Kd.int .i64) _ Ao31 l0.length l0:=(Kd.R_reads' HO_0.out).2.2;have hcut34:=cut_to (P:=Tryz.prog) 33 3 .i64 Tryz.underlying33 hi034 Ao31 l0.length co31 x5_1 (of_decide_eq_true (a12_)) q34 hroom34;have hr34:=Kd.C_take (m:=(x5_1:Int).toNat) hC34 (by omega);have hy34:y505.length=(x5_1:Int).toNat:=(by rw[Ny505.out,List.length_take];omega);rw[← Ny505.out]at hr34;rw[← hy34]at hcut34;have HR508:=am_ hr34;have HC508:=am_ (show y505.length≤co31 from by omega);clear hr34 hC34 hroom34 hi034 hsz34;have KY34:=am_ hy34;clear hy34;have KL34:=am_ (show(x5_1:Int).toNat≤l0.length from by omega);replace q34:=eq_true q34)|((with_reducible refine gate_builtin (b:= .append) (xs:= #[.tmp 34, .tmp 37]) rfl ?_);at_builtin;refine Kd.R_append_rows (Kd.int .i64) (w0:=w0) w0.heap.size rfl (.tmp 34) (.tmp 37) 33 3 (.int .i64 0) 8 rfl Tryz.underlying33 info3 rfl (by decide) (by omega) v503 y502 y505 _ _ _ (fun k_=>(P0_ k_∨w.heap.size≤k_)∧some k_≠(.slice Ao31 l0.length co31:Value).ownBlock) (fun _=>False) rfl rfl ?aO ?aR (fun _ _ h=>h) (fun _ h=>h.elim) ?aF ?aB ?aS ?aL ?_;(case aR=>exact(a14_ HR508.out));(case aB=>exact(a1_));(case aF=>exact(fun k_ hk=>⟨(.inr (Nat.le_trans (a32_) hk)),Kd.fresh' (Kd.R_lt ((a0_ HO_0.out))) k_ hk⟩));(case aO=>exact((a50_ HO504.out)));(case aS=>exact(below_size (a1_)));(case aL=>have:=LMc26.out;omega);intro v510 w35 ho hb hg hat;rw[← Ny509.out]at ho;have n0_:=am_ (Kd.R_after (ok:=(fun k_=>(P0_ k_∨w.heap.size≤k_))) ((a0_ HO_0.out)) hg hat);have n1_:=am_ (hb);have n2_:=am_ (Kept.of_grown (S:=(fun k_=>P0_ k_)) hg (a24_) (fun k_ e_=>(HO504.out.1 k_ e_).1.1));have n3_:=am_ ((show Kd.C (Kd.int .i64) w35 Ao31 y505.length y505 from by rw[Ny505.out];exact Kd.C_take (m:=(x5_1:Int).toNat) ((Kd.R_reads' (Kd.R_after (ok:=(fun k_=>(P0_ k_∨w.heap.size≤k_))) ((a0_ HO_0.out)) hg hat)).2.2) KL34.out));have n4_:=am_ (ho);clear HO_0 HB HK HR508 HO504;have HO_0:=n0_;have HB:=n1_;have HK:=n2_;have HR508:=n3_;have HO511:=n4_;clear n0_ n1_ n2_ n3_ n4_ ho hb hg hat)|((with_reducible refine gate_builtin (b:= .append) (xs:= #[.tmp 39, .tmp 41]) rfl ?_);at_builtin;refine Kd.R_append (Kd.int .i64) (w0:=w0) w0.heap.size rfl (.tmp 39) (.tmp 41) 33 3 (.int .i64 0) 8 rfl Tryz.underlying33 info3 rfl (by decide) (by omega) v510 y509 a1 [.int .i64 a1] (fun k_=>(P0_ k_∨w.heap.size≤k_)∧some k_≠(.slice Ao31 l0.length co31:Value).ownBlock) (fun _=>False) rfl rfl ?aP (fun _ hk=>hk.elim) ?aF ?aO ?aB ?aS ?aL ?_;(case aP=>exact rfl);(case aB=>exact(a1_));(case aF=>exact(fun k_ hk=>⟨(.inr (Nat.le_trans (a32_) hk)),Kd.fresh' (Kd.R_lt ((a0_ HO_0.out))) k_ hk⟩));(case aO=>exact((a0_ HO511.out)));(case aS=>exact(below_size (a1_)));(case aL=>have:=LMc27.out;omega);intro v513 w36 ho hb hg hat;rw[← Ny512.out]at ho;have n0_:=am_ (Kd.R_after (ok:=(fun k_=>(P0_ k_∨w.heap.size≤k_))) ((a0_ HO_0.out)) hg hat);have n1_:=am_ (hb);have n2_:=am_ (Kept.of_grown (S:=(fun k_=>P0_ k_)) hg (a24_) (fun k_ e_=>(HO511.out.1 k_ e_).1));have n3_:=am_ ((show Kd.C (Kd.int .i64) w36 Ao31 y505.length y505 from by rw[Ny505.out];exact Kd.C_take (m:=(x5_1:Int).toNat) ((Kd.R_reads' (Kd.R_after (ok:=(fun k_=>(P0_ k_∨w.heap.size≤k_))) ((a0_ HO_0.out)) hg hat)).2.2) KL34.out));have n4_:=am_ (ho);clear HO_0 HB HK HR508 HO511;have HO_0:=n0_;have HB:=n1_;have HK:=n2_;have HR508:=n3_;have HO514:=n4_;clear n0_ n1_ n2_ n3_ n4_ ho hb hg hat;have q37:(x5_1:Int)≤((l0.length:Int):Int):=of_decide_eq_true (a12_);obtain⟨i037,hi037,_,hsz37,_⟩:=info_parts info3;have hroom37:l0.length≤co31:=(Kd.R_reads' HO_0.out).2.1;have hC37:Kd.C (Kd.int .i64) _ Ao31 l0.length l0:=(Kd.R_reads' HO_0.out).2.2;have q037:(0:Int)≤(x5_1:Int):=of_decide_eq_true (a12_);have hcut37:=cut_from (P:=Tryz.prog) 33 3 .i64 Tryz.underlying33 hi037 1 hsz37 Ao31 l0.length co31 x5_1 q037 q37;have hr37:=Kd.C_drop (m:=(x5_1:Int).toNat) (c:=co31) hC37 (by omega) hroom37;obtain⟨A37,hA37⟩:∃A1,A1=(if co31=(x5_1:Int).toNat then Ao31 else(Ao31:Option Addr).map (·.add ((x5_1:Int).toNat*1))):=⟨_,rfl⟩;obtain⟨c37,hc37⟩:∃c1,c1=co31-(x5_1:Int).toNat:=⟨_,rfl⟩;have hy37:y515.length=l0.length-(x5_1:Int).toNat:=(by rw[Ny515.out,List.length_drop]<;>omega);rw[show(l0).drop (x5_1:Int).toNat=y515 from Ny515.out.symm]at hr37;replace hr37:Kd.C (Kd.int .i64) _ A37 y515.length y515:=(by rw[hA37];exact hr37);rw[← hy37, ← hA37, ← hc37]at hcut37;have HR518:=am_ hr37;have HC518:=am_ (show y515.length≤c37 from by rw[hy37,hc37];exact Nat.sub_le_sub_right hroom37 _);clear hr37 hC37 hroom37 hi037 hsz37 hc37;have KY37:=am_ hy37;have KA37:=am_ hA37;clear hy37 hA37;have KL37:=am_ (show(x5_1:Int).toNat≤l0.length from by omega);replace q37:=eq_true q37)|((with_reducible refine gate_builtin (b:= .append) (xs:= #[.tmp 43, .tmp 46]) rfl ?_);at_builtin;refine Kd.R_append_rows (Kd.int .i64) (w0:=w0) w0.heap.size rfl (.tmp 43) (.tmp 46) 33 3 (.int .i64 0) 8 rfl Tryz.underlying33 info3 rfl (by decide) (by omega) v513 y512 y515 _ _ _ (fun k_=>(P0_ k_∨w.heap.size≤k_)∧some k_≠(.slice Ao31 l0.length co31:Value).ownBlock) (fun _=>False) rfl rfl ?aO ?aR (fun _ _ h=>h) (fun _ h=>h.elim) ?aF ?aB ?aS ?aL ?_;(case aR=>exact(a14_ HR518.out));(case aB=>exact(a1_));(case aF=>exact(fun k_ hk=>⟨(.inr (Nat.le_trans (a32_) hk)),Kd.fresh' (Kd.R_lt ((a0_ HO_0.out))) k_ hk⟩));(case aO=>exact((a0_ HO514.out)));(case aS=>exact(below_size (a1_)));(case aL=>have:=LMc30.out;omega);intro v520 w38 ho hb hg hat;rw[← Ny519.out]at ho;have n0_:=am_ (Kd.R_after (ok:=(fun k_=>(P0_ k_∨w.heap.size≤k_))) ((a0_ HO_0.out)) hg hat);have n1_:=am_ (hb);have n2_:=am_ (Kept.of_grown (S:=(fun k_=>P0_ k_)) hg (a24_) (fun k_ e_=>(HO514.out.1 k_ e_).1));have n3_:=am_ ((show Kd.C (Kd.int .i64) w38 Ao31 y505.length y505 from by rw[Ny505.out];exact Kd.C_take (m:=(x5_1:Int).toNat) ((Kd.R_reads' (Kd.R_after (ok:=(fun k_=>(P0_ k_∨w.heap.size≤k_))) ((a0_ HO_0.out)) hg hat)).2.2) KL34.out));have n4_:=am_ ((show Kd.C (Kd.int .i64) w38 A37 y515.length y515 from by rw[Ny515.out,KA37.out];exact Kd.C_drop (m:=(x5_1:Int).toNat) (c:=co31) ((Kd.R_reads' (Kd.R_after (ok:=(fun k_=>(P0_ k_∨w.heap.size≤k_))) ((a0_ HO_0.out)) hg hat)).2.2) KL37.out ((Kd.R_reads' (Kd.R_after (ok:=(fun k_=>(P0_ k_∨w.heap.size≤k_))) ((a0_ HO_0.out)) hg hat)).2.1)));have n5_:=am_ (ho);clear HO_0 HB HK HR508 HR518 HO514;have HO_0:=n0_;have HB:=n1_;have HK:=n2_;have HR508:=n3_;have HR518:=n4_;have HO521:=n5_;clear n0_ n1_ n2_ n3_ n4_ n5_ ho hb hg hat))
         go_ret
         exact⟨_,a10_,by(with_reducible repeat (first|apply Kd.R_alloc|apply Kd.R_drewN|apply Kd.R_drew));exact Kd.R_mono HO521.out (fun _ hk=>hk.1),a1_,a24_⟩
        ·rw[if_neg c30]at H
         exact absurd H (by simp)
       ·rw[if_neg c27]at H
        exact absurd H (by simp)
      ·rw[if_neg c26]at H
       exact absurd H (by simp)
     ·rw[if_neg c25]at H
      exact absurd H (by simp)
    ·rw[if_neg c24]at H
     exact absurd H (by simp)

/-! ### spec_ChangedTracks: function 14 -/
def spec_ChangedTracks.l0:Nat→List Int→List (S40)→Int→Int→Option (List Int×Bool)
 | 0,_,_,_,_=>none
 | k+1,x6,x19,x20,x21=>if x21<x20 then(if 0≤x21 then(if x21<(x19.length:Int) then((spec_l1Put.f k x6 ((rd_T40 x19 x21).f0)).bind fun t534=>(spec_ChangedTracks.l0 k t534 x19 x20 (wrap64 (x21+1)))) else(none)) else(none)) else(some (x6,true))
def spec_ChangedTracks.f (k:Nat) (l0:List (S40)) (l1:List (S40)):Option (List Int×Bool):=(spec_mgTwo.f k l0 l1).bind fun t522=>(if t522=true then((spec_mgLess.f k l0 l1).bind fun t523=>((spec_mgLess.f k l1 l0).bind fun t526=>(if t523.length+t526.length<5864062014805 then((some (t523 ++ t526:List (S40))).bind fun y529=>(spec_ChangedTracks.l0 k ([]:List Int) y529 (y529.length:Int) 0)) else(none)))) else(some (([]:List Int),false)))
theorem spec_ChangedTracks.mono_l:∀k,(∀y0 y1 y2 y3,LeO (spec_ChangedTracks.l0 k y0 y1 y2 y3) (spec_ChangedTracks.l0 (k+1) y0 y1 y2 y3))
 | 0=>fun _ _ _ _ r h=>by simp[spec_ChangedTracks.l0]at h
 | k+1=>by
  have ih0:=spec_ChangedTracks.mono_l k
  intros
  unfold spec_ChangedTracks.l0
  rotate_left
  all_goals repeat' first|(with_reducible first|exact ih0 _ _ _ _|exact spec_l1Put.mono _ _ _|exact spec_mgLess.mono _ _ _|exact spec_mgTwo.mono _ _ _|exact LeO.refl _|exact LeO.none _|refine LeO.ite ?_ ?_|refine LeO.bind ?_ (fun _=>?_))|exact ih0 _ _ _ _|exact spec_l1Put.mono _ _ _|exact spec_mgLess.mono _ _ _|exact spec_mgTwo.mono _ _ _|exact LeO.none _|refine LeO.ite ?_ ?_|refine LeO.bind ?_ (fun _=>?_)
theorem spec_ChangedTracks.mono:∀a0 a1 k,LeO (spec_ChangedTracks.f k a0 a1) (spec_ChangedTracks.f (k+1) a0 a1):=by
 intro a0 a1 k
 have ih0:=spec_ChangedTracks.mono_l k
 unfold spec_ChangedTracks.f
 repeat' first
  |(with_reducible exact ih0 _ _ _ _)
  |(with_reducible exact spec_l1Put.mono _ _ _)
  |(with_reducible exact spec_mgLess.mono _ _ _)
  |(with_reducible exact spec_mgTwo.mono _ _ _)
  |(with_reducible exact LeO.refl _)
  |(with_reducible exact LeO.none _)
  |(with_reducible refine LeO.ite ?_ ?_)
  |(with_reducible refine LeO.bind ?_ (fun _=>?_))
  |exact ih0 _ _ _ _
  |exact spec_l1Put.mono _ _ _
  |exact spec_mgLess.mono _ _ _
  |exact spec_mgTwo.mono _ _ _
  |exact LeO.none _
   | refine LeO.ite ?_ ?_
   | refine LeO.bind ?_ (fun _=>?_)
set_option maxHeartbeats 8000000 in
set_option maxRecDepth 100000 in
theorem spec_ChangedTracks.calls (k:Nat) (A0:Option Addr) (c0:Nat) (l0:List (S40)) (A1:Option Addr) (c1:Nat) (l1:List (S40)) (r1:List Int) (r2:Bool) (w:World) (hr0:Kd.C k40 w A0 l0.length l0) (hc0:l0.length≤c0) (hr1:Kd.C k40 w A1 l1.length l1) (hc1:l1.length≤c1) (h:spec_ChangedTracks.f k l0 l1=some (r1,r2)) :
 Calls Tryz.prog 14 #[.slice A0 l0.length c0, .slice A1 l1.length c1] w fun e w'=>∃v0_:Value,e = .returned (.tuple #[v0_, .bool r2])∧Kd.R (Kd.int .i64) 3 w' w.heap.size (fun _=>True) v0_ r1∧Below w.heap.size w w':=by
 have hu40:=Tryz.underlying40
 have HR0:=am_ hr0
 have HC0:=am_ hc0
 clear hr0 hc0
 have HR1:=am_ hr1
 have HC1:=am_ hc1
 clear hr1 hc1
 have HB:=am_ (Below.refl w.heap.size w)
 have H:((spec_mgTwo.f k l0 l1).bind fun t522=>(if t522=true then((spec_mgLess.f k l0 l1).bind fun t523=>((spec_mgLess.f k l1 l0).bind fun t526=>(if t523.length+t526.length<5864062014805 then((some (t523 ++ t526:List (S40))).bind fun y529=>(spec_ChangedTracks.l0 k ([]:List Int) y529 (y529.length:Int) 0)) else(none)))) else(some (([]:List Int),false))))=some (r1,r2):=h
 clear h
 obtain⟨t522,A3,H⟩:=bo_ H
 try dsimp only at H
 by_cases c4:t522=true
 ·subst c4
  replace H:((spec_mgLess.f k l0 l1).bind fun t523=>((spec_mgLess.f k l1 l0).bind fun t526=>(if t523.length+t526.length<5864062014805 then((some (t523 ++ t526:List (S40))).bind fun y529=>(spec_ChangedTracks.l0 k ([]:List Int) y529 (y529.length:Int) 0)) else(none))))=some (r1,r2):=by rw[if_pos rfl]at H;exact H
  obtain⟨t523,A5,H⟩:=bo_ H
  try dsimp only at H
  obtain⟨t526,A6,H⟩:=bo_ H
  try dsimp only at H
  by_cases c7:t523.length+t526.length<5864062014805
  ·rw[if_pos c7]at H
   have LMc7:=am_ c7
   clear c7
   obtain⟨y529,hy529⟩:∃y_:List (S40),y_=(t523 ++ t526):=⟨_,rfl⟩
   replace H:(spec_ChangedTracks.l0 k ([]:List Int) y529 (y529.length:Int) 0)=some (r1,r2):=by first|(rw[hy529];with_reducible exact H)|(have H2_:=(Option.bind_some _ _).symm.trans H;rw[hy529];with_reducible exact H2_)|(have H2_:=(Option.bind_some _ _).symm.trans H;with_reducible exact H2_) | with_reducible exact H|(rw[hy529];exact H)|exact H
   have Ny529:=am_ hy529
   clear hy529
   have H':=am_ H
   clear H
   go_enter Tryz.func14,Tryz.ntmps14
   go_wp2_with (first|((with_reducible refine gate_callee (f:=47) rfl ?_);refine goesL_ (some 11) rfl rfl Tryz.func47 (by kernel_rfl) rfl #[.slice A0 l0.length c0, .slice A1 l1.length c1] rfl gd_ ?_;(with_reducible refine(spec_mgTwo.calls k _ _ l0 _ _ l1 true _ ?side1 ?side2 ?side3 ?side4 A3.out).mono ?_);(case side1=>exact(a15_ HR0.out));(case side2=>exact HC0.out);(case side3=>exact(a15_ HR1.out));(case side4=>exact HC1.out);rintro e w8 ⟨rfl,hb⟩;refine⟨_,rfl,?_⟩;replace HB:=am_ (below_step (a1_) hb);(try clear hb);(try clear hb2);(try clear hk);(try clear hi))|((with_reducible refine gate_callee (f:=48) rfl ?_);refine goesL_ (some 15) rfl rfl Tryz.func48 (by kernel_rfl) rfl #[.slice A0 l0.length c0, .slice A1 l1.length c1] rfl gd_ ?_;(with_reducible refine(spec_mgLess.calls k _ _ l0 _ _ l1 t523 _ ?side1 ?side2 ?side3 ?side4 A5.out).mono ?_);(case side1=>exact(a6_ HR0.out));(case side2=>exact HC0.out);(case side3=>exact(a6_ HR1.out));(case side4=>exact HC1.out);rintro e w9 ⟨v524,rfl,ho0,hb⟩;refine⟨_,rfl,?_⟩;have HO525:=am_ (Kd.R_lower ho0 (below_size (a1_)));replace HB:=am_ (below_step (a1_) hb);(try clear hb);(try clear hb2);(try clear hk);(try clear hi);(try clear ho0))|((with_reducible refine gate_callee (f:=48) rfl ?_);refine goesL_ (some 18) rfl rfl Tryz.func48 (by kernel_rfl) rfl #[.slice A1 l1.length c1, .slice A0 l0.length c0] rfl gd_ ?_;(with_reducible refine(spec_mgLess.calls k _ _ l1 _ _ l0 t526 _ ?side1 ?side2 ?side3 ?side4 A6.out).mono ?_);(case side1=>exact(a6_ HR1.out));(case side2=>exact HC1.out);(case side3=>exact(a6_ HR0.out));(case side4=>exact HC0.out);rintro e w10 ⟨v527,rfl,ho0,hb⟩;refine⟨_,rfl,?_⟩;have HO528:=am_ (Kd.R_lower (Kd.R_new' ho0 (Kd.R_lt ((a0_ HO525.out)))) (below_size (a1_)));replace HO525:=am_ (Kd.R_elder' ((a0_ HO525.out)) (Kd.R_base ho0) hb);replace HB:=am_ (below_step (a1_) hb);(try clear hb);(try clear hb2);(try clear hk);(try clear hi);(try clear ho0);obtain⟨Ao12,co12,eo12⟩:=Kd.R_slice HO528.out;subst eo12)|((with_reducible refine gate_builtin (b:= .append) (xs:= #[.tmp 15, .tmp 18]) rfl ?_);at_builtin;refine Kd.R_append_rows k40 (w0:=w) w.heap.size rfl (.tmp 15) (.tmp 18) 24 40 (.agg #[(.int .i64 0),(.int .i64 0),(.int .i64 0)]) 24 rfl Tryz.underlying24 info40 rfl (by decide) (by omega) v524 t523 t526 _ _ _ (fun k_=>some k_≠(.slice Ao12 t526.length co12:Value).ownBlock) (fun _=>False) rfl rfl ?aO ?aR (fun _ _ h=>h) (fun _ h=>h.elim) ?aF ?aB ?aS ?aL ?_;(case aR=>exact(a8_ HO528.out));(case aB=>exact(a1_));(case aF=>exact(fun k_ hk=>Kd.fresh' (Kd.R_lt ((a0_ HO528.out))) k_ hk));(case aO=>exact((a31_ HO525.out)));(case aS=>exact(below_size (a1_)));(case aL=>have:=LMc7.out;omega);intro v530 w11 ho hb hg hat;rw[← Ny529.out]at ho;have n0_:=am_ (Kd.R_after (ok:=(fun _=>True)) ((a0_ HO528.out)) hg hat);have n1_:=am_ (hb);have n2_:=am_ (ho);clear HO528 HB HO525;have HO528:=n0_;have HB:=n1_;have HO531:=n2_;clear n0_ n1_ n2_ ho hb hg hat;obtain⟨Ao13,co13,eo13⟩:=Kd.R_slice HO531.out;subst eo13))
   (try simp only[Act.put,List.setIfInBounds_toArray,List.set_cons_zero,List.set_cons_succ])
   go_loopg [6,21] k (fun kq v6 v21 w'=>∃(x6_1:List Int) (x21_1:Int),v21 = .int .i64 x21_1∧Aside0 (spec_ChangedTracks.l0 kq x6_1 y529 (y529.length:Int) x21_1=some (r1,r2))∧Aside0 (kq≤k)∧Aside0 (Kd.R (Kd.int .i64) 3 w' w.heap.size (fun _=>True) v6 x6_1)∧Aside0 (Kd.R k40 40 w' w.heap.size (fun _=>True) (.slice Ao13 y529.length co13) y529)∧Aside0 (Below w.heap.size w w'))
   case atStart=>exact⟨(([]:List Int)),(0),(by first | rfl|(simp;done)|(simp[*];done)),H',⟨Nat.le_refl _⟩,⟨a23_⟩,⟨(a25_ HO531.out)⟩,⟨a1_⟩⟩
   case round=>
    clear H'
    try clear c1
    try clear p2
    try clear c4
    try clear c7
    obtain⟨x6_1,x21_1,rfl,HA,HK1,HO_6,HO_19,HB⟩:=hrel
    cases gk with
    | zero=>exact absurd HA.out (by simp[spec_ChangedTracks.l0])
    | succ k1=>
     have H:=HA.out
     clear HA
     simp only[spec_ChangedTracks.l0]at H
     by_cases c14:x21_1<(y529.length:Int)
     ·rw[if_pos c14]at H
      have c14b0:decide (x21_1<(y529.length:Int))=true:=decide_eq_true c14
      clear c14
      by_cases c15:0≤x21_1
      ·rw[if_pos c15]at H
       have c15b0:decide (0≤x21_1)=true:=decide_eq_true c15
       clear c15
       by_cases c16:x21_1<(y529.length:Int)
       ·rw[if_pos c16]at H
        have c16b0:decide (x21_1<(y529.length:Int))=true:=decide_eq_true c16
        clear c16
        obtain⟨t534,A17,H⟩:=bo_ H
        try dsimp only at H
        have H':=am_ H
        clear H
        have p532:0≤(x21_1:Int):=of_decide_eq_true (a12_)
        have q532:x21_1<(y529.length:Int):=of_decide_eq_true (a12_)
        obtain⟨ad532,e532,hx532_0,hx532_1,hx532_2⟩:=at_T40 (Kd.R_reads' HO_19.out).2.2 x21_1 p532 q532
        cases e532
        replace p532:=eq_true p532
        replace q532:=eq_true q532
        go_wp2_with (first|((with_reducible refine gate_dst (N:=8) rfl ?_);refine box_event ?hg (N:=8) ?hd (cs:= #[.int .i64 0, .int .i64 0, .int .i64 0]) (t:=40) ?hr ?_;(case hd=>rfl);(case hg=>rfl);(case hr=>exact hr_);intro gb533 hg w18 hbox hb;replace HO_6:=am_ (Kd.R_below ((a0_ HO_6.out)) hb);replace HO_19:=am_ (Kd.R_below (Kd.R_elderB ((a0_ HO_19.out)) gb533 (Nat.le_of_eq hg.symm)) hb);have BK533:=am_ (hbox);have GW533:=am_ ((by rw[hg];exact(below_size (a1_)):w.heap.size≤gb533));have GE533:=am_ ((by rw[hg];exact(below_size (a1_)):w.heap.size≤gb533));replace HB:=am_ (below_step (a1_) hb);clear hb hbox hg;have hcz19_0:w18.cell? ⟨gb533,0,none⟩=some (.int .i64 0):=(blk_cell BK533.out 0).trans rfl;have hcz19_1:w18.cell? ⟨gb533,1,none⟩=some (.int .i64 0):=(blk_cell BK533.out 1).trans rfl;have hcz19_2:w18.cell? ⟨gb533,2,none⟩=some (.int .i64 0):=(blk_cell BK533.out 2).trans rfl;have hfz19_0:=blk_frozen BK533.out 0;have hfz19_1:=blk_frozen BK533.out 1;have hfz19_2:=blk_frozen BK533.out 2)|((with_reducible refine gate_store (t:=40) (p:=8) rfl ?_);refine store_event (t:=40) (p:=8) (v:=?vo_w20) (w1:=(((w18.setCell ⟨gb533,0,none⟩ (.int .i64 ((rd_T40 y529 x21_1).f0))).setCell ⟨gb533,1,none⟩ (.int .i64 ((rd_T40 y529 x21_1).f1))).setCell ⟨gb533,2,none⟩ (.int .i64 ((rd_T40 y529 x21_1).f2)))) ?hg ?ho ?hn ?hr ?_;(case ho=>rfl);(case hg=>rfl);(case hn=>rfl);(case hr=>exact hr_);intro w20 hw;have n0_:Aside0 (Kd.R (Kd.int .i64) 3 w20 w.heap.size (fun _=>True) u6 x6_1):=⟨(by rw[hw];exact(by(with_reducible repeat (first|apply Kd.R_alloc|apply Kd.R_drewN|apply Kd.R_drew));exact Kd.R_mono (Kd.R_far (p:=⟨gb533,2,none⟩) (Kd.R_far (p:=⟨gb533,1,none⟩) (Kd.R_far (p:=⟨gb533,0,none⟩) (Kd.R_types HO_6.out BK533.out (by decide)) (fun _ hk=>hk.2) (.int .i64 ((rd_T40 y529 x21_1).f0))) (fun _ hk=>hk.2) (.int .i64 ((rd_T40 y529 x21_1).f1))) (fun _ hk=>hk.2) (.int .i64 ((rd_T40 y529 x21_1).f2))) (fun _ hk=>trivial)))⟩;have n1_:Aside0 (Kd.R k40 40 w20 w.heap.size (fun k_=>k_≠gb533) (.slice (some ad532) y529.length co13) y529):=⟨(by rw[hw];exact(by(with_reducible repeat (first|apply Kd.R_alloc|apply Kd.R_drewN|apply Kd.R_drew));exact Kd.R_mono (Kd.R_far (p:=⟨gb533,2,none⟩) (Kd.R_far (p:=⟨gb533,1,none⟩) (Kd.R_far (p:=⟨gb533,0,none⟩) (Kd.R_mono HO_19.out (fun k_ hk=>(⟨hk,hk.2⟩:_∧k_≠gb533))) (fun _ hk=>hk.2) (.int .i64 ((rd_T40 y529 x21_1).f0))) (fun _ hk=>hk.2) (.int .i64 ((rd_T40 y529 x21_1).f1))) (fun _ hk=>hk.2) (.int .i64 ((rd_T40 y529 x21_1).f2))) (fun _ hk=>hk.1.2)))⟩;have n2_:Aside0 (w20.heap[gb533]? = some (.cells #[.int .i64 ((rd_T40 y529 x21_1).f0), .int .i64 ((rd_T40 y529 x21_1).f1), .int .i64 ((rd_T40 y529 x21_1).f2)] 40 (0,0))):=⟨(by rw[hw];exact(by(with_reducible repeat (first|refine blk_drewN ?_ _ | refine blk_drew ?_ | refine blk_alloc ?_ _));refine blk_put (cs:= #[.int .i64 ((rd_T40 y529 x21_1).f0), .int .i64 ((rd_T40 y529 x21_1).f1), .int .i64 0]) ?_ 2 _ rfl;(with_reducible repeat (first|refine blk_drewN ?_ _ | refine blk_drew ?_ | refine blk_alloc ?_ _));refine blk_put (cs:= #[.int .i64 ((rd_T40 y529 x21_1).f0), .int .i64 0, .int .i64 0]) ?_ 1 _ rfl;(with_reducible repeat (first|refine blk_drewN ?_ _ | refine blk_drew ?_ | refine blk_alloc ?_ _));refine blk_put (cs:= #[.int .i64 0, .int .i64 0, .int .i64 0]) ?_ 0 _ rfl;(with_reducible repeat (first|refine blk_drewN ?_ _ | refine blk_drew ?_ | refine blk_alloc ?_ _));exact BK533.out))⟩;have n3_:Aside0 (Below w.heap.size w w20):=⟨(by rw[hw];exact((a4_ GE533.out)))⟩;clear hw HO_6 HO_19 BK533 HB;have HO_6:=n0_;have HO_19:=n1_;have BK533:=n2_;have HB:=n3_;clear n0_ n1_ n2_ n3_;have hcz21_0:w20.cell? ⟨gb533,0,none⟩=some (.int .i64 ((rd_T40 y529 x21_1).f0)):=(blk_cell BK533.out 0).trans rfl;have hcz21_1:w20.cell? ⟨gb533,1,none⟩=some (.int .i64 ((rd_T40 y529 x21_1).f1)):=(blk_cell BK533.out 1).trans rfl;have hcz21_2:w20.cell? ⟨gb533,2,none⟩=some (.int .i64 ((rd_T40 y529 x21_1).f2)):=(blk_cell BK533.out 2).trans rfl;have hfz21_0:=blk_frozen BK533.out 0;have hfz21_1:=blk_frozen BK533.out 1;have hfz21_2:=blk_frozen BK533.out 2;obtain⟨Ao22,co22,eo22⟩:=Kd.R_slice HO_6.out;subst eo22)|((with_reducible refine gate_callee (f:=53) rfl ?_);refine goesL_ (some 28) rfl rfl Tryz.func53 (by kernel_rfl) rfl #[.slice Ao22 x6_1.length co22, .int .i64 ((rd_T40 y529 x21_1).f0)] rfl gd_ ?_;(with_reducible refine(spec_l1Put.calls k1 (fun k_=>some k_=(.slice Ao22 x6_1.length co22:Value).ownBlock) (.slice Ao22 x6_1.length co22) x6_1 ((rd_T40 y529 x21_1).f0) t534 w _ ?side1 ?side2 A17.out).mono ?_);(case side1=>exact(a4_ GE533.out));(case side2=>exact Kd.R_tight rfl HO_6.out);rintro e w23 ⟨v535,rfl,ho0,hb,hkp⟩;refine⟨_,rfl,?_⟩;have n0_:=am_ (Kd.R_mono (ok':=fun k_=>k_≠gb533) (Kd.R_keptB ((Kd.R_apart' HO_19.out (Kd.R_typed HO_6.out) (by decide))) hkp (fun k_ hk_ hs_=>(hk_.2) hs_)) (fun k_ hk_=>hk_.1.1));have n1_:=am_ (blk_kept ((a5_ BK533.out)) hkp (fun hs_=>(fun e_=>(Kd.R_ne HO_6.out BK533.out (by decide)) e_) hs_));have n2_:=am_ (Kd.R_mono (ok':=fun k_=>True) ho0 (fun k_ hk_=>trivial));have n3_:=am_ (hb);clear HO_19 BK533 HB HO_6;have HO_19:=n0_;have BK533:=n1_;have HO536:=n2_;have HB:=n3_;clear n0_ n1_ n2_ n3_;(try clear hb);(try clear hkp);(try clear ho0)))
        go_roundg k1
        case measure=>have:=HK1.out;omega
        case rel=>exact⟨(t534),(wrap64 (x21_1+1)),(by first | rfl|(simp;done)|(simp[*];done)),H',⟨by have:=HK1.out;omega⟩,⟨(a0_ HO536.out)⟩,⟨(a25_ HO_19.out)⟩,⟨(a4_ GE533.out)⟩⟩
       ·rw[if_neg c16]at H
        exact absurd H (by simp)
      ·rw[if_neg c15]at H
       exact absurd H (by simp)
     ·rw[if_neg c14]at H
      have c14b0:decide (x21_1<(y529.length:Int))=false:=decide_eq_false c14
      clear c14
      simp only[Option.some.injEq,Prod.mk.injEq]at H
      obtain⟨rfl,rfl⟩:=H
      go_wp2
      go_ret2
      exact⟨_,a10_,(a0_ HO_6.out),a1_⟩
  ·rw[if_neg c7]at H
   exact absurd H (by simp)
 ·replace c4:=Bool.eq_false_iff.mpr c4
  subst c4
  replace H:(some (([]:List Int),false))=some (r1,r2):=by rw[if_neg (show ¬(false=true) by decide)]at H;exact H
  simp only[Option.some.injEq,Prod.mk.injEq]at H
  obtain⟨rfl,rfl⟩:=H
  go_enter Tryz.func14,Tryz.ntmps14
  go_wp2_with (first|((with_reducible refine gate_callee (f:=47) rfl ?_);refine goesL_ (some 11) rfl rfl Tryz.func47 (by kernel_rfl) rfl #[.slice A0 l0.length c0, .slice A1 l1.length c1] rfl gd_ ?_;(with_reducible refine(spec_mgTwo.calls k _ _ l0 _ _ l1 false _ ?side1 ?side2 ?side3 ?side4 A3.out).mono ?_);(case side1=>exact(a15_ HR0.out));(case side2=>exact HC0.out);(case side3=>exact(a15_ HR1.out));(case side4=>exact HC1.out);rintro e w24 ⟨rfl,hb⟩;refine⟨_,rfl,?_⟩;replace HB:=am_ (below_step (a1_) hb);(try clear hb);(try clear hb2);(try clear hk);(try clear hi)))
  go_ret2
  exact⟨_,a10_,a23_,a1_⟩

end Go.Proofs.YtplpjmhmochcfaaGreat.QFnDifferences
