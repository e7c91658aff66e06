/- Written by a program of this session (the kit's printer, with leaf contracts proved by hand put in): what each Go function computes, and that the call computes it. No condition but those that each theorem names. -/
import Derived.Test.YtplpjmhmochcfaaGreatQFnDifferencesx0
import Derived.Test.YtplpjmhmochcfaaGreatQFnDifferencesx1
import Derived.Test.YtplpjmhmochcfaaGreatQFnDifferencesx3
import Derived.Test.YtplpjmhmochcfaaGreatQFnDifferencesx8
namespace Go.Proofs.YtplpjmhmochcfaaGreat.QFnDifferences
open Go.RowKit Go.Proofs.YtplpjmhmochcfaaGreatW.PrintWords Go.Proofs.YtplpjmhmochcfaaGreatW.PrintLast Go.Proofs.YtplpjmhmochcfaaGreatW.PrintMore
attribute [local go_sem] max2_int min2_int max_two min_two max_three min_three max_four min_four   -- for this text's walks alone
set_option linter.unusedVariables false
set_option linter.unusedSimpArgs false

attribute [local go_sem high] eqA40
-- NOT PRINTED: function 108 (impl_Hole_108)

-- NOT PRINTED: function 90 (impl_Hole_90)

/-! ### impl_Hole_91: function 91 (by hand: a copy of a slice) -/
def impl_Hole_91.f (l0:List S40):Option (List S40):=if l0.length<1000000000 then some l0 else none
theorem impl_Hole_91.info:(Tryz.prog.info? 40).map (fun i=>(i.zero,i.size,i.bytes))=some (some (.agg #[(.int .i64 0),(.int .i64 0),(.int .i64 0)]),3,24):=by kernel_rfl
set_option maxHeartbeats 8000000 in
set_option maxRecDepth 100000 in
theorem impl_Hole_91.calls (A0:Option Addr) (c0:Nat) (l0:List S40) (r:List S40) (w:World) (hr0:Kd.C k40 w A0 l0.length l0) (hc0:l0.length≤c0) (h:impl_Hole_91.f l0=some r) :
 Calls Tryz.prog 91 #[.slice A0 l0.length c0] w fun e w'=>∃v0_:Value,e = .returned (v0_)∧Kd.R k40 40 w' w.heap.size (fun _=>True) v0_ r∧Below w.heap.size w w':=by
 unfold impl_Hole_91.f at h
 by_cases hlen:l0.length<1000000000
 ·rw[if_pos hlen]at h
  obtain rfl:=Option.some.inj h
  clear h
  cases A0 with
  | none=>
   have hz:l0 = []:=by
    rcases Nat.eq_zero_or_pos l0.length with h0 | h0
    ·exact List.eq_nil_of_length_eq_zero h0
    ·obtain⟨ad,e,_⟩:=hr0.2.2 h0
     cases e
   subst hz
   have hq:∀W:World,(binOp .eql 24 (.slice none 0 c0) (.slice none 0 0)).run Tryz.prog W = .ok (.bool true) W:=fun W=>Go.run_eql_slice_nil W 24 40 none 0 c0 Tryz.underlying24
   clear hr0 hc0 hlen
   go_enter Tryz.func91,Tryz.ntmps91
   go_wp2
   go_ret
   exact⟨_,rfl,Kd.R_nil _ _ _ _ _,Below.refl _ _⟩
  | some ad=>
   have hq:∀W:World,(binOp .eql 24 (.slice (some ad) l0.length c0) (.slice none 0 0)).run Tryz.prog W = .ok (.bool false) W:=fun W=>Go.run_eql_slice_nil W 24 40 (some ad) l0.length c0 Tryz.underlying24
   have HR0:=am_ hr0
   have HC0:=am_ hc0
   have HL:=am_ hlen
   clear hr0 hc0 hlen
   have HB:=am_ (Below.refl w.heap.size w)
   go_enter Tryz.func91,Tryz.ntmps91
   go_wp2_with (first|((with_reducible refine gate_dst (N:=5) rfl ?_);refine Kd.R_lit k40 _ 40 ?hg (N:=5) ?hd (xs:=([]:List S40)) (inner:=[]) (ok:=fun _=>True) (okp:=fun _=>True) ?hr ?hp (fun _ hk=>hk) trivial (Below.refl _ _) (Nat.le_refl _) (by simp) ?_;(case hd=>rfl);(case hg=>rfl);(case hr=>exact hr_);(case hp=>exact(Reps.none _ _));intro v112 w3 ho4 hb hg_ hnew_;clear hg_ hnew_;have HO113:=am_ (Kd.R_lower ho4 (below_size (a1_)));replace HB:=am_ (below_step (a1_) hb);clear hb ho4)|((with_reducible refine gate_builtin (b:= .append) (xs:= #[.tmp 5, .tmp 6]) rfl ?_);at_builtin;refine Kd.R_append_rows k40 (w0:=w) w.heap.size rfl (.tmp 5) (.tmp 6) 24 40 (.agg #[(.int .i64 0),(.int .i64 0),(.int .i64 0)]) 24 rfl Tryz.underlying24 impl_Hole_91.info rfl (by decide) (by omega) v112 [] l0 _ _ _ (fun _=>True) (fun _=>False) rfl rfl ?aO ?aR (fun _ _ h=>h) (fun _ h=>h.elim) ?aF ?aB ?aS ?aL ?_;(case aR=>exact(a6_ HR0.out));(case aB=>exact(a1_));(case aF=>exact(fun _ _=>trivial));(case aO=>exact((a0_ HO113.out)));(case aS=>exact(below_size (a1_)));(case aL=>have:=HL.out;simp only[List.length_nil];omega);intro v115 w5 ho hb hg hat;have n0_:=am_ (hb);have n1_:=am_ (ho);clear HB HO113;have HB:=n0_;have HO116:=n1_;clear n0_ n1_ ho hb hg hat))
   go_ret
   refine⟨_,rfl,?_,a1_⟩
   have HX:=HO116.out
   rw[List.nil_append]at HX
   exact(by(with_reducible repeat (first|apply Kd.R_alloc|apply Kd.R_drewN|apply Kd.R_drew));exact HX)
 ·rw[if_neg hlen]at h
  exact absurd h (by simp)


/-! ### impl_lessHoles: function 46 (by hand: a copy of the holes, those taken out that the closure tells) -/
def impl_lessHoles.same (x y:S40):Bool:=x.f0 == y.f0 && (x.f1 == y.f1 && (x.f2 == y.f2))
def impl_lessHoles.has (l:List S40) (x:S40):Bool:=l.any (impl_lessHoles.same x)
/-- What the closure tells of a hole: is it taken out. -/
def impl_lessHoles.out (l:List S40) (x:S40):Bool:=impl_lessHoles.has l x
def impl_lessHoles.f (l0 l1:List S40):Option (List S40):=if l0.length<1000000000 then some (l0.filter fun x=> !impl_lessHoles.out l1 x) else none
theorem impl_lessHoles.eqA (d:Nat) (w:World) (x0 x1 x2 y0 y1 y2:Int) :
 (Op.equalIn (d+2) 40 (.agg #[.int .i64 x0, .int .i64 x1, .int .i64 x2]) (.agg #[.int .i64 y0, .int .i64 y1, .int .i64 y2])).run Tryz.prog w = .ok (x0 == y0 && (x1 == y1 && (x2 == y2))) w:=by
 refine eqA_of Tryz.underlying40 (by kernel_rfl) ?_
 refine eqf_cons (by rfl) (by go_simp;rfl) (by go_simp;rfl) (by go_simp) ?_
 refine eqf_cons (by rfl) (by go_simp;rfl) (by go_simp;rfl) (by go_simp) ?_
 exact eqf_last (by rfl) (by go_simp;rfl) (by go_simp;rfl) (by go_simp)
attribute [local go_sem high] impl_lessHoles.eqA
theorem impl_lessHoles.step (l:List S40) (kk:Nat) (h:kk<l.length):l.drop kk=rd_T40 l (kk:Int) :: l.drop (kk+1):=by
 rw[List.drop_eq_getElem_cons h]
 congr 1
 simp[rd_T40,List.getD_eq_getElem?_getD,List.getElem?_eq_getElem h]
set_option maxHeartbeats 8000000 in
set_option maxRecDepth 100000 in
theorem impl_lessHoles.idx (A0:Option Addr) (c0:Nat) (l0:List S40) (x:S40) (w:World) (hr0:Kd.C k40 w A0 l0.length l0) :
 Calls Tryz.prog 109 #[.slice A0 l0.length c0, .agg #[.int .i64 x.f0, .int .i64 x.f1, .int .i64 x.f2]] w fun e w'=>∃r:Int,e = .returned (.int .i64 r)∧decide (0≤r)=impl_lessHoles.has l0 x∧Below w.heap.size w w':=by
 have HR0:=am_ hr0
 clear hr0
 have hmax:=HR0.out.2.1
 go_enter Tryz.func109,Tryz.ntmps109
 go_wp2
 (try simp only[Act.put,List.setIfInBounds_toArray,List.set_cons_zero,List.set_cons_succ])
 go_loopg [5,8] l0.length (fun gg _ s8 wr=>∃kk:Nat,kk≤l0.length∧l0.length-kk≤gg∧s8 = .int .i64 kk∧Aside0 (Below w.heap.size w wr)∧Aside0 (wr.cell? ⟨w.heap.size,0,none⟩=some (.int .i64 x.f0)∧wr.cell? ⟨w.heap.size,1,none⟩=some (.int .i64 x.f1)∧wr.cell? ⟨w.heap.size,2,none⟩=some (.int .i64 x.f2))∧Aside0 (impl_lessHoles.has l0 x=impl_lessHoles.has (l0.drop kk) x))
 case atStart=>exact⟨0,Nat.zero_le _,by omega,rfl,⟨below_alloc (Below.refl _ w) _⟩,⟨blk_cell (blk_new w _) 0,blk_cell (blk_new w _) 1,blk_cell (blk_new w _) 2⟩,⟨rfl⟩⟩
 case round=>
  obtain⟨kk,hkk,hg,rfl,HB,HC,HI⟩:=hrel
  obtain⟨hb0,hb1,hb2⟩:=HC.out
  by_cases hlt:kk<l0.length
  ·have hltz:(kk:Int)<(l0.length:Int):=by omega
   obtain⟨ad,e1,hx0,hx1,hx2⟩:=at_T40 HR0.out (kk:Int) (by omega) hltz
   cases e1
   simp only[Int.toNat_natCast]at hx0 hx1 hx2
   replace hx0:=(HB.out.cell (World.block_lt_of_cell? w _ hx0)).trans hx0
   replace hx1:=(HB.out.cell (World.block_lt_of_cell? w _ hx1)).trans hx1
   replace hx2:=(HB.out.cell (World.block_lt_of_cell? w _ hx2)).trans hx2
   cases hq:(x.f0 == (rd_T40 l0 (kk:Int)).f0 && (x.f1 == (rd_T40 l0 (kk:Int)).f1 && (x.f2 == (rd_T40 l0 (kk:Int)).f2))) with
   | true=>
    have HD:Aside0 (impl_lessHoles.has l0 x=true):=⟨by rw[HI.out,impl_lessHoles.step l0 kk hlt,impl_lessHoles.has,List.any_cons,impl_lessHoles.same,hq];rfl⟩
    clear HI
    go_wp2
    go_quiet (fail)
    go_wp2
    go_ret
    exact⟨_,rfl,by rw[HD.out];exact decide_eq_true (by omega),a1_⟩
   | false=>
    have HD:Aside0 (impl_lessHoles.has l0 x=impl_lessHoles.has (l0.drop (kk+1)) x):=⟨by rw[HI.out,impl_lessHoles.step l0 kk hlt,impl_lessHoles.has,List.any_cons,impl_lessHoles.same,hq];rfl⟩
    clear HI
    go_wp2
    go_quiet (fail)
    go_wp2
    go_roundg (l0.length-(kk+1))
    case measure=>omega
    case rel=>exact⟨kk+1,by omega,by omega,by go_num,⟨a1_⟩,⟨pw_cell_below (pw_below_drewN (Below.refl _ _) _) hb0,pw_cell_below (pw_below_drewN (Below.refl _ _) _) hb1,pw_cell_below (pw_below_drewN (Below.refl _ _) _) hb2⟩,HD⟩
  ·have hltz:¬(kk:Int)<(l0.length:Int):=by omega
   have hkl:kk=l0.length:=by omega
   have HD:Aside0 (impl_lessHoles.has l0 x=false):=⟨by rw[HI.out,hkl,List.drop_length];rfl⟩
   clear HI hkl
   go_wp2
   go_ret
   exact⟨_,rfl,by rw[HD.out];rfl,HB.out⟩
set_option maxHeartbeats 8000000 in
set_option maxRecDepth 100000 in
theorem impl_lessHoles.cont (A0:Option Addr) (c0:Nat) (l0:List S40) (x:S40) (w:World) (hr0:Kd.C k40 w A0 l0.length l0) :
 Calls Tryz.prog 93 #[.slice A0 l0.length c0, .agg #[.int .i64 x.f0, .int .i64 x.f1, .int .i64 x.f2]] w fun e w'=>e = .returned (.bool (impl_lessHoles.has l0 x))∧Below w.heap.size w w':=by
 have HR0:=am_ hr0
 clear hr0
 go_enter Tryz.func93,Tryz.ntmps93
 go_wp2_with (go_at_call 109;refine(impl_lessHoles.idx A0 c0 l0 x _ (Kd.C_below HR0.out (below_alloc (Below.refl _ _) _))).mono ?_;rintro e w' ⟨r,rfl,hr,hb⟩)
 go_ret
 exact⟨by rw[← hr];rfl,below_then (below_alloc (Below.refl _ _) _) (by simp) hb⟩
set_option maxHeartbeats 8000000 in
set_option maxRecDepth 100000 in
theorem impl_lessHoles.clo (B:Nat) (A1:Option Addr) (c1:Nat) (l1:List S40) (x:S40) (b:Bool) (W:World) (hB:B<W.heap.size) (hc:W.cell? ⟨B,0,none⟩=some (.slice A1 l1.length c1)) (hC:Kd.C k40 W A1 l1.length l1) (hb:impl_lessHoles.out l1 x=b) :
 Calls Tryz.prog 92 #[.agg #[.int .i64 x.f0, .int .i64 x.f1, .int .i64 x.f2], .pointer (some ⟨B,0,none⟩)] W fun e w'=>e = .returned (.bool b)∧Below W.heap.size W w':=by
 have hc2:∀o:Obj,(W.alloc o).cell? ⟨B,0,none⟩=some (.slice A1 l1.length c1):=fun o=>(World.cell?_alloc_lt _ _ _ hB).trans hc
 have HR:=am_ hC
 clear hC
 go_enter Tryz.func92,Tryz.ntmps92
 go_wp2_with (go_at_call 93;refine(impl_lessHoles.cont A1 c1 l1 x _ (Kd.C_below HR.out (below_alloc (Below.refl _ _) _))).mono ?_;rintro e w' ⟨rfl,hb'⟩)
 go_ret
 exact⟨by rw[← hb];rfl,below_then (below_alloc (Below.refl _ _) _) (by simp) hb'⟩
def impl_lessHoles.at (p:S40→Bool):Int→List S40→Int
 | _, []=> -1
 | i,x :: l=>if p x=true then i else impl_lessHoles.at p (i+1) l
theorem impl_lessHoles.at_spec (p:S40→Bool) (l:List S40):∀i:Int,(impl_lessHoles.at p i l = -1∧l.filter (fun x=> !p x)=l)∨∃pre x suf,l=pre ++ x :: suf∧impl_lessHoles.at p i l=i+pre.length∧pre.filter (fun x=> !p x)=pre∧p x=true:=by
 induction l with
 | nil=>intro i;exact .inl ⟨rfl,rfl⟩
 | cons x l ih=>
  intro i
  by_cases c:p x=true
  ·exact .inr ⟨[],x,l,rfl,by simp[impl_lessHoles.at,c],rfl,c⟩
  ·rcases ih (i+1) with ⟨h1,h2⟩ | ⟨pre,y,suf,h1,h2,h3,h4⟩
   ·exact .inl ⟨by rw[impl_lessHoles.at,if_neg c,h1],by rw[List.filter_cons_of_pos (by simpa using c),h2]⟩
   ·exact .inr ⟨x :: pre,y,suf,by rw[h1];rfl,by rw[impl_lessHoles.at,if_neg c,h2,List.length_cons];omega,by rw[List.filter_cons_of_pos (by simpa using c),h3],h4⟩
set_option maxHeartbeats 8000000 in
set_option maxRecDepth 100000 in
theorem impl_lessHoles.first(A0:Option Addr) (c0:Nat) (l0:List S40) (B:Nat) (A1:Option Addr) (c1:Nat) (l1:List S40) (w:World) (hB:B<w.heap.size) (hcB:w.cell? ⟨B,0,none⟩=some (.slice A1 l1.length c1)) (hr1:Kd.C k40 w A1 l1.length l1) (hr0:Kd.C k40 w A0 l0.length l0) :
 Calls Tryz.prog 108 #[.slice A0 l0.length c0, .func (.func 92) #[] #[.pointer (some ⟨B,0,none⟩)]] w fun e w'=>e = .returned (.int .i64 (impl_lessHoles.at (impl_lessHoles.out l1) 0 l0))∧Below w.heap.size w w':=by
 have HR0:=am_ hr0
 have HR1:=am_ hr1
 have HCB:=am_ hcB
 clear hr0 hr1 hcB
 have hmax:=HR0.out.2.1
 have eg:=enters_of (P:=Tryz.prog) Tryz.func92 (by kernel_rfl) rfl
 go_enter Tryz.func108,Tryz.ntmps108
 go_wp2
 (try simp only[Act.put,List.setIfInBounds_toArray,List.set_cons_zero,List.set_cons_succ])
 go_loopg [5,8] l0.length (fun gg _ s8 wr=>∃kk:Nat,kk≤l0.length∧l0.length-kk≤gg∧s8 = .int .i64 kk∧Aside0 (Below w.heap.size w wr)∧Aside0 (impl_lessHoles.at (impl_lessHoles.out l1) 0 l0=impl_lessHoles.at (impl_lessHoles.out l1) kk (l0.drop kk)))
 case atStart=>exact⟨0,Nat.zero_le _,by omega,rfl,⟨Below.refl _ w⟩,⟨rfl⟩⟩
 case round=>
  obtain⟨kk,hkk,hg,rfl,HB,HI⟩:=hrel
  by_cases hlt:kk<l0.length
  ·have hltz:(kk:Int)<(l0.length:Int):=by omega
   obtain⟨ad,e1,hx0,hx1,hx2⟩:=at_T40 HR0.out (kk:Int) (by omega) hltz
   cases e1
   simp only[Int.toNat_natCast]at hx0 hx1 hx2
   replace hx0:=(HB.out.cell (World.block_lt_of_cell? w _ hx0)).trans hx0
   replace hx1:=(HB.out.cell (World.block_lt_of_cell? w _ hx1)).trans hx1
   replace hx2:=(HB.out.cell (World.block_lt_of_cell? w _ hx2)).trans hx2
   have hdrop:=impl_lessHoles.step l0 kk hlt
   have hsz:w.heap.size≤wr.heap.size:=HB.out.size
   cases hq:impl_lessHoles.out l1 (rd_T40 l0 (kk:Int)) with
   | true=>
    have hcall:=impl_lessHoles.clo B A1 c1 l1 (rd_T40 l0 (kk:Int)) true wr (by omega) (pw_cell_below HB.out HCB.out) (Kd.C_below HR1.out HB.out) hq
    have HD:Aside0 (impl_lessHoles.at (impl_lessHoles.out l1) 0 l0=(kk:Int)):=⟨by rw[HI.out,hdrop];simp only[impl_lessHoles.at];rw[if_pos hq]⟩
    clear hq hdrop HI
    go_wp2_with (go_at_call 92;refine hcall.mono ?_;rintro e w' ⟨rfl,hb'⟩)
    go_ret
    exact⟨by rw[HD.out];rfl,below_then HB.out hsz hb'⟩
   | false=>
    have hcall:=impl_lessHoles.clo B A1 c1 l1 (rd_T40 l0 (kk:Int)) false wr (by omega) (pw_cell_below HB.out HCB.out) (Kd.C_below HR1.out HB.out) hq
    have HD:Aside0 (impl_lessHoles.at (impl_lessHoles.out l1) 0 l0=impl_lessHoles.at (impl_lessHoles.out l1) ((kk+1:Nat):Int) (l0.drop (kk+1))):=⟨by rw[HI.out,hdrop];simp only[impl_lessHoles.at];rw[if_neg (by rw[hq];decide)];simp⟩
    clear hq hdrop HI
    go_wp2_with (go_at_call 92;refine hcall.mono ?_;rintro e w' ⟨rfl,hb'⟩)
    go_roundg (l0.length-(kk+1))
    case measure=>omega
    case rel=>exact⟨kk+1,by omega,by omega,by go_num,⟨below_then HB.out hsz hb'⟩,HD⟩
  ·have hltz:¬(kk:Int)<(l0.length:Int):=by omega
   have hkl:kk=l0.length:=by omega
   have HD:Aside0 (impl_lessHoles.at (impl_lessHoles.out l1) 0 l0 = -1):=⟨by rw[HI.out,hkl,List.drop_length];rfl⟩
   clear HI hkl
   go_wp2
   go_ret
   exact⟨by rw[HD.out];rfl,HB.out⟩
/-- The tail is cleared: zero cells are written, whatever they are. -/
theorem impl_lessHoles.clear (W:World) (g o n c:Nat) (hn:0<n) (hc:∀j,j<n*3→(W.cell? ⟨g,o+j,none⟩).isSome=true) (hf:∀j,j<n*3→W.frozen? ⟨g,o+j,none⟩=false) :
 ∃zs:List Value,zs.length=n*3∧∀ty,(Builtin.clear_ #[24] ty #[.slice (some ⟨g,o,none⟩) n c]).run Tryz.prog W = .ok (.tuple #[]) (W.setCells g o zs):=by
 have hv:∀w,(zeroValue 40).run Tryz.prog w = .ok (.agg #[(.int .i64 0),(.int .i64 0),(.int .i64 0)]) w:=by intro w;go_simp
 have hl:(Builtin.zeroCells (Value.cells (.agg #[(.int .i64 0),(.int .i64 0),(.int .i64 0)])) n).toList.length=n*3:=by simp[Builtin.zeroCells,Value.cells]
 have h1:∀v∈(Builtin.zeroCells (Value.cells (.agg #[(.int .i64 0),(.int .i64 0),(.int .i64 0)])) n).toList,v.oneCell'=true:=by
  intro v hv'
  simp only[Builtin.zeroCells,Array.toList_map,List.mem_map]at hv'
  obtain⟨i,_,rfl⟩:=hv'
  have hs:(Value.cells (.agg #[(.int .i64 0),(.int .i64 0),(.int .i64 0)])).size=3:=rfl
  rw[hs]
  rcases (show i % 3=0∨i % 3=1∨i % 3=2 by omega) with h | h | h<;>rw[h]<;>rfl
 have hst:=run_storeCells_cells (P:=Tryz.prog) g o (Builtin.zeroCells (Value.cells (.agg #[(.int .i64 0),(.int .i64 0),(.int .i64 0)])) n).toList 0 W (by simpa only[hl,Nat.add_zero] using hc) (by simpa only[hl,Nat.add_zero] using hf) h1
 simp only[Nat.add_zero]at hst
 refine⟨_,hl,fun ty=>?_⟩
 obtain⟨m,rfl⟩:∃m,n=m+1:=⟨n-1,by omega⟩
 simp[Builtin.clear_,run_underlying Tryz.underlying24,hv,hst]
/-- What stands behind the first i elements may be written over: the first i are a row still. -/
theorem impl_lessHoles.cut (W:World) (base g n cap i:Nat) (ys:List S40) (zs:List Value) (HO:Kd.R k40 40 W base (fun _=>True) (.slice (some ⟨g,0,none⟩) n cap) ys) (hi:i≤n) (hz:i*3+zs.length≤cap*3) :
 Kd.R k40 40 (W.setCells g (i*3) zs) base (fun _=>True) (.slice (some ⟨g,0,none⟩) i cap) (ys.take i):=by
 have hn:=(Kd.R_reads' HO).1
 obtain⟨hok,inner,hown,hr⟩:=Kd.R_take (m:=i) HO (by omega)
 have hsz:(k40).sz=3:=rfl
 have hlt:(ys.take i).length=i:=by rw[List.length_take];omega
 rcases hown.2 with ⟨hv,_⟩ | ⟨g',cap',cur,hv,hb,hh,hnc,hcm,hcs,htake⟩
 ·cases hv
 injection hv with ha _ hc
 injection ha with ha
 injection ha with hg
 subst hg;subst hc
 rw[hsz]at hcs htake
 obtain⟨cur',h3,h4,h5⟩:=setCells_row zs (i*3) W cur hh (by omega)
 have hfar:∀k',k'≠g→(W.setCells g (i*3) zs).heap[k']? = W.heap[k']? := fun k' hk'=>setCells_far zs _ k' hk'
 refine⟨hok,inner,⟨hown.1, .inr ⟨g,cap,cur',by rw[hlt],hb,h3,hnc,hcm,by rw[h4,hcs,hsz],?_⟩⟩,hr.imp_ (fun p q hp=>Kd.M_move _ (fun k' hk'=>hfar k' (fun he=>hk'.2 (by rw[he];simp[Value.ownBlock]))) hp)⟩
 rw[hsz,hlt,h5]
 rw[hlt]at htake
 rw[← htake,List.append_assoc,List.take_append_of_le_length (by rw[List.length_take,Array.length_toList];omega)]
 rw[List.take_take,Nat.min_self]
theorem impl_lessHoles.takeset (ys:List S40) (i:Nat) (y:S40) (h:i<ys.length):(ys.set i y).take (i+1)=ys.take i ++ [y]:=by
 obtain⟨pre,x,suf,rfl,rfl⟩:∃pre x suf,ys=pre ++ x :: suf∧pre.length=i:=⟨ys.take i,ys[i],ys.drop (i+1),by simp,by simp;omega⟩
 rw[List.set_append_right _ _ (Nat.le_refl _)]
 rw[List.take_append,List.take_of_length_le (by omega),List.take_left]
 simp
set_option maxHeartbeats 2000000 in
set_option maxRecDepth 100000 in
theorem impl_lessHoles.del (B:Nat) (A1:Option Addr) (c1:Nat) (l1:List S40) (w1:World) (hB:B<w1.heap.size) (hcB:w1.cell? ⟨B,0,none⟩=some (.slice A1 l1.length c1)) (hr1:Kd.C k40 w1 A1 l1.length l1) (W:World) (v:Value) (xs:List S40)
 (hO:Kd.R k40 40 W w1.heap.size (fun _=>True) v xs) (hBW:Below w1.heap.size w1 W) :
 Calls Tryz.prog 90 #[v, .func (.func 92) #[] #[.pointer (some ⟨B,0,none⟩)]] W fun e w'=>∃v0,e = .returned v0∧Kd.R k40 40 w' w1.heap.size (fun _=>True) v0 (xs.filter fun x=> !impl_lessHoles.out l1 x)∧Below w1.heap.size w1 w':=by
 obtain⟨A0,c0,rfl,hc0,hC0⟩:=Kd.R_reads hO
 have hlt1:w1.heap.size≤W.heap.size:=hBW.size
 have HR1:=am_ hr1
 have HCB:=am_ hcB
 have HO:=am_ hO
 have HB:=am_ hBW
 have hmax:=hC0.2.1
 have eg:=enters_of (P:=Tryz.prog) Tryz.func92 (by kernel_rfl) rfl
 have hcall:=impl_lessHoles.first A0 c0 xs B A1 c1 l1 W (by omega) (pw_cell_below hBW hcB) (Kd.C_below hr1 hBW) hC0
 clear hcB hr1 hO hBW hC0
 rcases impl_lessHoles.at_spec (impl_lessHoles.out l1) xs 0 with ⟨h1,h2⟩ | ⟨pre,x0,suf,h1,h2,h3,h4⟩
 ·rw[h1]at hcall
  have HF:=am_ h2
  clear h1 h2
  go_enter Tryz.func90,Tryz.ntmps90
  go_wp2_with (go_at_call 108;refine hcall.mono ?_;rintro e w' ⟨rfl,hb'⟩)
  go_ret
  exact⟨_,rfl,by rw[HF.out];exact Kd.R_below HO.out hb',below_step HB.out hb'⟩
 ·rw[h2,Int.zero_add]at hcall
  have hxl:xs.length=pre.length+(suf.length+1):=by rw[h1];simp
  have HF:=am_ h1
  have HF3:=am_ h3
  have HF4:=am_ h4
  clear h1 h2 h3 h4
  obtain⟨g,cap,eq1,hbase,hglt,hcap⟩:=Kd.R_form HO.out (by omega)
  obtain⟨rfl,rfl⟩:A0=some ⟨g,0,none⟩∧c0=cap:=by injection eq1 with e1 e2 e3;exact⟨e1,e3⟩
  clear eq1
  have HXL:=am_ hxl
  have hw1:wrap64 ((pre.length:Int)+1)=((pre.length+1:Nat):Int):=by unfold wrap64;omega
  have HW1:=am_ hw1
  clear hxl hw1
  have hne1:((pre.length:Int) == -1)=false:=beq_eq_false_iff_ne.2 (by omega)
  go_enter Tryz.func90,Tryz.ntmps90
  go_wp2_with (go_at_call 108;refine hcall.mono ?_;rintro e w2 ⟨rfl,hb'⟩;have n0_:=am_ (Kd.R_below HO.out hb');have n1_:=am_ (below_step HB.out hb');clear HO HB hb' hcall;have HO:=n0_;have HB:=n1_;clear n0_ n1_)
  (try simp only[Act.put,List.setIfInBounds_toArray,List.set_cons_zero,List.set_cons_succ])
  go_loopg [5,6,7] xs.length (fun gg s5 s6 _ wr=>∃(i j:Nat) (ys:List S40),s5 = .int .i64 i∧s6 = .int .i64 j∧i<j∧j≤xs.length∧xs.length-j≤gg∧ys.length=xs.length∧Aside0 (ys.take i=(xs.take j).filter fun x=> !impl_lessHoles.out l1 x)∧Aside0 (ys.drop j=xs.drop j)∧Aside0 (Kd.R k40 40 wr w1.heap.size (fun _=>True) (.slice (some ⟨g,0,none⟩) xs.length c0) ys)∧Aside0 (Below w1.heap.size w1 wr))
  case atStart=>have hxl:=HXL.out;exact⟨pre.length,pre.length+1,xs,rfl,(a45_ HW1.out),by omega,by omega,by omega,rfl,⟨by rw[HF.out,List.take_left,List.take_append,List.take_of_length_le (by omega)];simp[HF3.out,HF4.out]⟩,⟨rfl⟩,HO,HB⟩
  case round=>
   obtain⟨i,j,ys,rfl,rfl,hij,hjn,hgg,hyl,HT,HD,HO,HB⟩:=hrel
   have hsz:w1.heap.size≤wr.heap.size:=HB.out.size
   by_cases hlt:j<xs.length
   ·have hltz:(j:Int)<(xs.length:Int):=by omega
    have hiz:(i:Int)<(xs.length:Int):=by omega
    obtain⟨ce,hcl,hM,hcc,hfr⟩:=Kd.R_elem HO.out z40 (j:Int) (by omega) (by omega)
    obtain rfl:=k40_openM hM
    have hx0:=hcc 0 _ rfl
    have hx1:=hcc 1 _ rfl
    have hx2:=hcc 2 _ rfl
    clear hcl hM hcc hfr
    simp only[Int.toNat_natCast,show(k40).sz=3 from rfl,Nat.add_zero]at hx0 hx1 hx2
    obtain⟨y,hy⟩:∃y,y=ys.getD j z40:=⟨_,rfl⟩
    rw[← hy]at hx0 hx1 hx2
    have hyx:xs.drop j=y :: xs.drop (j+1):=by
     rw[← HD.out,List.drop_eq_getElem_cons (by omega),hy]
     have e1:ys.drop (j+1)=xs.drop (j+1):=by
      have:=congrArg (List.drop 1) HD.out
      rwa [List.drop_drop,List.drop_drop]at this
     rw[e1,List.getD_eq_getElem?_getD,List.getElem?_eq_getElem (by omega)];rfl
    have hD1:ys.drop (j+1)=xs.drop (j+1):=by
     have:=congrArg (List.drop 1) HD.out
     rwa [List.drop_drop,List.drop_drop]at this
    have hT1:xs.take (j+1)=xs.take j ++ [y]:=by
     have e2:xs[j]? = some y:=by
      have:=congrArg (fun q=>q[0]?) hyx
      simpa using this
     rw[List.take_add_one,e2];rfl
    have HYX:=am_ hT1
    have HD1:=am_ hD1
    clear hy hyx hT1 hD1
    have hB3:B<wr.heap.size:=by omega
    have hw1:wrap64 ((j:Int)+1)=((j+1:Nat):Int):=by unfold wrap64;omega
    have hw2:wrap64 ((i:Int)+1)=((i+1:Nat):Int):=by unfold wrap64;omega
    have HW1:=am_ hw1
    have HW2:=am_ hw2
    clear hw1 hw2
    cases hq:impl_lessHoles.out l1 y with
    | true=>
     have HQ:=am_ hq
     clear hq
     go_wp2_with (first
      |((with_reducible refine gate_dst (N:=7) rfl ?_);refine box_event ?hg (N:=7) ?hd (cs:= #[.int .i64 0, .int .i64 0, .int .i64 0]) (t:=40) ?hr ?_;(case hd=>rfl);(case hg=>rfl);(case hr=>exact hr_);intro gb hgb w2 hbox hb;have n0_:=am_ (Kd.R_below (Kd.R_elderB HO.out gb (Nat.le_of_eq hgb.symm)) hb);have n1_:=am_ (below_step HB.out hb);have BK:=am_ hbox;have GB:=am_ (show w1.heap.size≤gb by rw[hgb];exact HB.out.size);have GW:=am_ (show B<w2.heap.size from Nat.lt_of_lt_of_le hB3 hb.size);clear HO HB;have HO:=n0_;have HB:=n1_;clear n0_ n1_ hb hbox hgb hB3 hx0 hx1 hx2;have hcz0:w2.cell? ⟨gb,0,none⟩=some (.int .i64 0):=(blk_cell BK.out 0).trans rfl;have hcz1:w2.cell? ⟨gb,1,none⟩=some (.int .i64 0):=(blk_cell BK.out 1).trans rfl;have hcz2:w2.cell? ⟨gb,2,none⟩=some (.int .i64 0):=(blk_cell BK.out 2).trans rfl;have hfz0:=blk_frozen BK.out 0;have hfz1:=blk_frozen BK.out 1;have hfz2:=blk_frozen BK.out 2)
      |((with_reducible refine gate_store (t:=40) (p:=7) rfl ?_);refine store_event (t:=40) (p:=7) (v:=?vo_w3) (w1:=(((w2.setCell ⟨gb,0,none⟩ (.int .i64 y.f0)).setCell ⟨gb,1,none⟩ (.int .i64 y.f1)).setCell ⟨gb,2,none⟩ (.int .i64 y.f2))) ?hg ?ho ?hn ?hr ?_;(case ho=>rfl);(case hg=>rfl);(case hn=>rfl);(case hr=>exact hr_);intro w3 hw;have BK3:Aside0 (w3.heap[gb]? = some (.cells #[.int .i64 y.f0, .int .i64 y.f1, .int .i64 y.f2] 40 (0,0))):=⟨by rw[hw];exact(blk_set (blk_set (blk_set BK.out 0 _) 1 _) 2 _).trans rfl⟩;have n0_:=am_ (show Kd.R k40 40 w3 w1.heap.size (fun k=>True∧k≠gb) (.slice (some ⟨g,0,none⟩) xs.length c0) ys from by rw[hw];exact Kd.R_far (Kd.R_far (Kd.R_far HO.out (p:=⟨gb,0,none⟩) (fun k hk=>hk.2) _) (p:=⟨gb,1,none⟩) (fun k hk=>hk.2) _) (p:=⟨gb,2,none⟩) (fun k hk=>hk.2) _);have n1_:=am_ (show Below w1.heap.size w1 w3 from by rw[hw];exact below_set (below_set (below_set HB.out GB.out) GB.out) GB.out);have GW3:=am_ (show B<w3.heap.size from Nat.lt_of_lt_of_le hB n1_.out.size);clear HO HB BK GW;have HO:=n0_;have HB:=n1_;clear n0_ n1_ hw hcz0 hcz1 hcz2 hfz0 hfz1 hfz2;have hv0:w3.cell? ⟨gb,0,none⟩=some (.int .i64 y.f0):=(blk_cell BK3.out 0).trans rfl;have hv1:w3.cell? ⟨gb,1,none⟩=some (.int .i64 y.f1):=(blk_cell BK3.out 1).trans rfl;have hv2:w3.cell? ⟨gb,2,none⟩=some (.int .i64 y.f2):=(blk_cell BK3.out 2).trans rfl)
      |(go_at_call 92;refine(impl_lessHoles.clo B A1 c1 l1 y true _ GW3.out (pw_cell_below HB.out HCB.out) (Kd.C_below HR1.out HB.out) HQ.out).mono ?_;rintro e w4 ⟨rfl,hb4⟩;have n0_:=am_ (Kd.R_below HO.out hb4);have n1_:=am_ (below_step HB.out hb4);clear HO HB;have HO:=n0_;have HB:=n1_;clear n0_ n1_ hb4 hv0 hv1 hv2))
     go_roundg (xs.length-(j+1))
     case measure=>omega
     case rel=>exact⟨i,j+1,ys,rfl,(a45_ HW1.out),by omega,by omega,Nat.le_refl _,hyl,⟨by rw[HYX.out,List.filter_append, ← HT.out];simp[HQ.out]⟩,HD1,⟨Kd.R_mono HO.out (fun _ _=>trivial)⟩,HB⟩
    | false=>
     have HQ:=am_ hq
     clear hq
     go_wp2_with (first
      |((with_reducible refine gate_dst (N:=7) rfl ?_);refine box_event ?hg (N:=7) ?hd (cs:= #[.int .i64 0, .int .i64 0, .int .i64 0]) (t:=40) ?hr ?_;(case hd=>rfl);(case hg=>rfl);(case hr=>exact hr_);intro gb hgb w2 hbox hb;have n0_:=am_ (Kd.R_below (Kd.R_elderB HO.out gb (Nat.le_of_eq hgb.symm)) hb);have n1_:=am_ (below_step HB.out hb);have BK:=am_ hbox;have GB:=am_ (show w1.heap.size≤gb by rw[hgb];exact HB.out.size);have GW:=am_ (show B<w2.heap.size from Nat.lt_of_lt_of_le hB3 hb.size);clear HO HB;have HO:=n0_;have HB:=n1_;clear n0_ n1_ hb hbox hgb hB3 hx0 hx1 hx2;have hcz0:w2.cell? ⟨gb,0,none⟩=some (.int .i64 0):=(blk_cell BK.out 0).trans rfl;have hcz1:w2.cell? ⟨gb,1,none⟩=some (.int .i64 0):=(blk_cell BK.out 1).trans rfl;have hcz2:w2.cell? ⟨gb,2,none⟩=some (.int .i64 0):=(blk_cell BK.out 2).trans rfl;have hfz0:=blk_frozen BK.out 0;have hfz1:=blk_frozen BK.out 1;have hfz2:=blk_frozen BK.out 2)
      |((with_reducible refine gate_store (t:=40) (p:=7) rfl ?_);refine store_event (t:=40) (p:=7) (v:=?vo_w3) (w1:=(((w2.setCell ⟨gb,0,none⟩ (.int .i64 y.f0)).setCell ⟨gb,1,none⟩ (.int .i64 y.f1)).setCell ⟨gb,2,none⟩ (.int .i64 y.f2))) ?hg ?ho ?hn ?hr ?_;(case ho=>rfl);(case hg=>rfl);(case hn=>rfl);(case hr=>exact hr_);intro w3 hw;have BK3:Aside0 (w3.heap[gb]? = some (.cells #[.int .i64 y.f0, .int .i64 y.f1, .int .i64 y.f2] 40 (0,0))):=⟨by rw[hw];exact(blk_set (blk_set (blk_set BK.out 0 _) 1 _) 2 _).trans rfl⟩;have n0_:=am_ (show Kd.R k40 40 w3 w1.heap.size (fun k=>True∧k≠gb) (.slice (some ⟨g,0,none⟩) xs.length c0) ys from by rw[hw];exact Kd.R_far (Kd.R_far (Kd.R_far HO.out (p:=⟨gb,0,none⟩) (fun k hk=>hk.2) _) (p:=⟨gb,1,none⟩) (fun k hk=>hk.2) _) (p:=⟨gb,2,none⟩) (fun k hk=>hk.2) _);have n1_:=am_ (show Below w1.heap.size w1 w3 from by rw[hw];exact below_set (below_set (below_set HB.out GB.out) GB.out) GB.out);have GW3:=am_ (show B<w3.heap.size from Nat.lt_of_lt_of_le hB n1_.out.size);clear HO HB BK GW;have HO:=n0_;have HB:=n1_;clear n0_ n1_ hw hcz0 hcz1 hcz2 hfz0 hfz1 hfz2;have hv0:w3.cell? ⟨gb,0,none⟩=some (.int .i64 y.f0):=(blk_cell BK3.out 0).trans rfl;have hv1:w3.cell? ⟨gb,1,none⟩=some (.int .i64 y.f1):=(blk_cell BK3.out 1).trans rfl;have hv2:w3.cell? ⟨gb,2,none⟩=some (.int .i64 y.f2):=(blk_cell BK3.out 2).trans rfl)
      |(go_at_call 92;refine(impl_lessHoles.clo B A1 c1 l1 y false _ GW3.out (pw_cell_below HB.out HCB.out) (Kd.C_below HR1.out HB.out) HQ.out).mono ?_;rintro e w4 ⟨rfl,hb4⟩;have n0_:=am_ (Kd.R_below HO.out hb4);have n1_:=am_ (below_step HB.out hb4);clear HO HB;have HO:=n0_;have HB:=n1_;clear n0_ n1_;replace hv0:=pw_cell_below hb4 hv0;replace hv1:=pw_cell_below hb4 hv1;replace hv2:=pw_cell_below hb4 hv2;clear hb4;obtain⟨ce,hcl,hM,hcc,hfr⟩:=Kd.R_elem HO.out z40 (i:Int) (Int.natCast_nonneg i) hiz;obtain rfl:=k40_openM hM;have HP:=am_ (Kd.R_seg (Kd.R_mono HO.out (ok':=fun _=>True) (fun _ _=>trivial)) (i:Int) (Int.natCast_nonneg i) hiz (seg:=[.int .i64 y.f0, .int .i64 y.f1, .int .i64 y.f2]) (j:=0) hcl hcc (show 3≤3 from by decide) (x':=y) (okp:=fun k=>True∧k≠g) (k40_mkM _ _ _ y) (fun _ hk=>hk));have he0:=hcc 0 _ rfl;have he1:=hcc 1 _ rfl;have he2:=hcc 2 _ rfl;have hf0:=hfr 0;have hf1:=hfr 1;have hf2:=hfr 2;clear hcl hM hcc hfr;simp only[Int.toNat_natCast,show(k40).sz=3 from rfl,Nat.add_zero]at he0 he1 he2 hf0 hf1 hf2)
      |((with_reducible refine gate_store (t:=40) (p:=33) rfl ?_);refine store_event (t:=40) (p:=33) (v:=?vo_w5) (w1:=(((w4.setCell ⟨g,i*3,none⟩ (.int .i64 y.f0)).setCell ⟨g,i*3+1,none⟩ (.int .i64 y.f1)).setCell ⟨g,i*3+2,none⟩ (.int .i64 y.f2))) ?hg ?ho ?hn ?hr ?_;(case ho=>rfl);(case hg=>rfl);(case hn=>rfl);(case hr=>exact hr_);intro w5 hw;have n0_:=am_ (show Kd.R k40 40 w5 w1.heap.size (fun _=>True) (.slice (some ⟨g,0,none⟩) xs.length c0) (ys.set i y) from by rw[hw];exact HP.out.1);have n1_:=am_ (show Below w1.heap.size w1 w5 from by rw[hw];exact below_set (below_set (below_set HB.out hbase) hbase) hbase);clear HO HB HP;have HO:=n0_;have HB:=n1_;clear n0_ n1_ hw he0 he1 he2 hf0 hf1 hf2 hv0 hv1 hv2))
     go_roundg (xs.length-(j+1))
     case measure=>omega
     case rel=>exact⟨i+1,j+1,ys.set i y,(a45_ HW2.out),(a45_ HW1.out),by omega,by omega,Nat.le_refl _,by rw[List.length_set];exact hyl,⟨by rw[HYX.out,List.filter_append, ← HT.out,impl_lessHoles.takeset ys i y (by omega)];simp[HQ.out]⟩,⟨by rw[List.drop_set_of_lt (by omega)];exact HD1.out⟩,HO,HB⟩
   ·obtain rfl:j=xs.length:=by omega
    have hltz:¬(xs.length:Int)<(xs.length:Int):=by omega
    have hn0:0<xs.length-i:=by omega
    have hic:i≤c0:=by omega
    have hicz:(i:Int)≤(c0:Int):=by omega
    have hinz:(i:Int)≤(xs.length:Int):=by omega
    have hne2:¬c0=i:=by omega
    obtain⟨cur,hcur,hcs⟩:∃cur,wr.heap[g]? = some (.cells cur 40 (0,0))∧cur.size=c0*3:=by
     obtain⟨_,inner,hown,_⟩:=HO.out
     rcases hown.2 with ⟨hv,_⟩ | ⟨g',cap',cur,hv,hb,hh,hnc,hcm,hcs,htake⟩
     ·cases hv
     injection hv with ha _ hc
     injection ha with ha
     injection ha with hg
     subst hg;subst hc
     exact⟨cur,hh,hcs⟩
    obtain⟨zs,hzl,hcl⟩:=impl_lessHoles.clear wr g (i*3) (xs.length-i) (c0-i) hn0 (fun q hq=>by rw[blk_cell hcur,Array.getElem?_eq_getElem (by omega)];rfl) (fun q hq=>blk_frozen hcur _)
    have hz2:i*3+zs.length≤c0*3:=by omega
    have HX:=am_ (impl_lessHoles.cut wr w1.heap.size g xs.length c0 i ys zs HO.out (by omega) hz2)
    have HBX:Aside0 (Below w1.heap.size w1 (wr.setCells g (i*3) zs)):=⟨by
     obtain⟨s1,s2,s3,s4⟩:=setCells_same g zs (i*3) wr
     exact pw_below_grown HB.out (some g) hsz ⟨s1,s2,s3,by rw[s4];exact Nat.le_refl _,fun k _ hk=>setCells_far _ _ k (fun he=>hk (by rw[he]))⟩ (fun k hk=>by injection hk with hk;rw[← hk];exact hbase)⟩
    have HTX:Aside0 (ys.take i=xs.filter fun x=> !impl_lessHoles.out l1 x):=⟨by rw[HT.out,List.take_length]⟩
    clear HT HD hcur hcs hzl hz2
    go_wp2
    go_ret
    exact⟨_,rfl,by rw[← HTX.out];exact HX.out,HBX.out⟩
set_option maxHeartbeats 4000000 in
set_option maxRecDepth 100000 in
theorem impl_lessHoles.calls (A0:Option Addr) (c0:Nat) (l0:List S40) (A1:Option Addr) (c1:Nat) (l1:List S40) (r:List S40) (w:World) (hr0:Kd.C k40 w A0 l0.length l0) (hc0:l0.length≤c0) (hr1:Kd.C k40 w A1 l1.length l1) (hc1:l1.length≤c1) (h:impl_lessHoles.f l0 l1=some r) :
 Calls Tryz.prog 46 #[.slice A0 l0.length c0, .slice A1 l1.length c1] w fun e w'=>∃v0_:Value,e = .returned (v0_)∧Kd.R k40 40 w' w.heap.size (fun _=>True) v0_ r∧Below w.heap.size w w':=by
 unfold impl_lessHoles.f at h
 by_cases hlen:l0.length<1000000000
 ·rw[if_pos hlen]at h
  obtain rfl:=Option.some.inj h
  have hcl:impl_Hole_91.f l0=some l0:=if_pos hlen
  clear h hlen
  have HR0:=am_ hr0
  have HR1:=am_ hr1
  have HC0:=am_ hc0
  have HCL:=am_ hcl
  clear hr0 hr1 hc0 hc1 hcl
  have HB:=am_ (Below.refl w.heap.size w)
  go_enter Tryz.func46,Tryz.ntmps46
  go_wp2_with (first
   |(go_at_call 91;refine(impl_Hole_91.calls A0 c0 l0 l0 _ (Kd.C_below HR0.out (below_alloc (Below.refl _ _) _)) HC0.out HCL.out).mono ?_;rintro e w2 ⟨v2,rfl,ho,hb⟩;have HO:=am_ ho;have HB2:=am_ hb;clear ho hb)
   |(go_at_call 90;refine(impl_lessHoles.del w.heap.size A1 c1 l1 (w.alloc _) (by simp) (blk_cell (blk_new w _) 0) (Kd.C_below HR1.out (below_alloc (Below.refl _ _) _)) w2 v2 l0 HO.out HB2.out).mono ?_;rintro e w3 ⟨v3,rfl,ho,hb⟩;have HO3:=am_ ho;have HB3:=am_ hb;clear ho hb))
  go_ret
  exact⟨_,rfl,Kd.R_lower HO3.out (by simp),below_then (below_alloc (Below.refl _ _) _) (by simp) HB3.out⟩
 ·rw[if_neg hlen]at h
  exact absurd h (by simp)


/-! ### impl_DifferenceOf: function 7 -/
def impl_DifferenceOf.j0:Nat→List (S40)→List (S40)→Bool→Option ((List (S40))×(List (S40))×Bool)
 | 0,_,_,_=>none
 | k+1,x0,x1,x14=>if x14=true then(some (([]:List (S40)),([]:List (S40)),false)) else((impl_lessHoles.f x0 x1).bind fun t388=>((impl_lessHoles.f x1 x0).bind fun t391=>(some (t388,t391,true))))
def impl_DifferenceOf.f (k:Nat) (l0:List (S40)) (l1:List (S40)):Option ((List (S40))×(List (S40))×Bool):=(impl_IsSheet.f k l0).bind fun t386=>(if t386=true then((impl_IsSheet.f k l1).bind fun t387=>(impl_DifferenceOf.j0 k l0 l1 (!t387))) else(impl_DifferenceOf.j0 k l0 l1 true))
theorem impl_DifferenceOf.mono_l:∀k,(∀y0 y1 y2,LeO (impl_DifferenceOf.j0 k y0 y1 y2) (impl_DifferenceOf.j0 (k+1) y0 y1 y2))
 | 0=>fun _ _ _ r h=>by simp[impl_DifferenceOf.j0]at h
 | k+1=>by
  have ih0:=impl_DifferenceOf.mono_l k
  intros
  unfold impl_DifferenceOf.j0
  rotate_left
  all_goals repeat' first|(with_reducible first|exact ih0 _ _ _|exact impl_IsSheet.mono _ _|exact LeO.refl _|exact LeO.none _|refine LeO.ite ?_ ?_|refine LeO.bind ?_ (fun _=>?_))|exact ih0 _ _ _|exact impl_IsSheet.mono _ _|exact LeO.none _|refine LeO.ite ?_ ?_|refine LeO.bind ?_ (fun _=>?_)
theorem impl_DifferenceOf.mono:∀a0 a1 k,LeO (impl_DifferenceOf.f k a0 a1) (impl_DifferenceOf.f (k+1) a0 a1):=by
 intro a0 a1 k
 have ih0:=impl_DifferenceOf.mono_l k
 unfold impl_DifferenceOf.f
 repeat' first
  |(with_reducible exact ih0 _ _ _)
  |(with_reducible exact impl_IsSheet.mono _ _)
  |(with_reducible exact LeO.refl _)
  |(with_reducible exact LeO.none _)
  |(with_reducible refine LeO.ite ?_ ?_)
  |(with_reducible refine LeO.bind ?_ (fun _=>?_))
  |exact ih0 _ _ _
  |exact impl_IsSheet.mono _ _
  |exact LeO.none _
   | refine LeO.ite ?_ ?_
   | refine LeO.bind ?_ (fun _=>?_)
set_option maxHeartbeats 8000000 in
set_option maxRecDepth 100000 in
theorem impl_DifferenceOf.calls (k:Nat) (A0:Option Addr) (c0:Nat) (l0:List (S40)) (A1:Option Addr) (c1:Nat) (l1:List (S40)) (r1:List (S40)) (r2:List (S40)) (r3:Bool) (w:World) (hr0:Kd.C k40 w A0 l0.length l0) (hc0:l0.length≤c0) (hr1:Kd.C k40 w A1 l1.length l1) (hc1:l1.length≤c1) (h:impl_DifferenceOf.f k l0 l1=some (r1,r2,r3)) :
 Calls Tryz.prog 7 #[.slice A0 l0.length c0, .slice A1 l1.length c1] w fun e w'=>∃v0_ v1_:Value,e = .returned (.tuple #[v0_,v1_, .bool r3])∧Kd.R k40 40 w' w.heap.size (fun k_=>some k_≠(v1_:Value).ownBlock) v0_ r1∧Kd.R k40 40 w' w.heap.size (fun k_=>some k_≠(v0_:Value).ownBlock) v1_ r2∧Below w.heap.size w w':=by
 have HR0:=am_ hr0
 have HC0:=am_ hc0
 clear hr0 hc0
 have HR1:=am_ hr1
 have HC1:=am_ hc1
 clear hr1 hc1
 have HB:=am_ (Below.refl w.heap.size w)
 have H:((impl_IsSheet.f k l0).bind fun t386=>(if t386=true then((impl_IsSheet.f k l1).bind fun t387=>(impl_DifferenceOf.j0 k l0 l1 (!t387))) else(impl_DifferenceOf.j0 k l0 l1 true)))=some (r1,r2,r3):=h
 clear h
 have HC3:=am_ H
 clear H
 go_enter Tryz.func7,Tryz.ntmps7
 go_upto_region 1 with (fail)
 go_cut [14] (fun v14 wc=>∃(kq:Nat) (x14_2:Bool),v14 = .bool x14_2∧Aside0 (impl_DifferenceOf.j0 kq l0 l1 x14_2=some (r1,r2,r3))∧Aside0 (kq≤k)∧Aside0 (Below w.heap.size w wc))
 case first=>
  have H:=HC3.out
  clear HC3
  obtain⟨t386,A4,H⟩:=bo_ H
  try dsimp only at H
  by_cases c5:t386=true
  ·subst c5
   replace H:((impl_IsSheet.f k l1).bind fun t387=>(impl_DifferenceOf.j0 k l0 l1 (!t387)))=some (r1,r2,r3):=by rw[if_pos rfl]at H;exact H
   obtain⟨t387,A6,H⟩:=bo_ H
   try dsimp only at H
   have H':=am_ H
   clear H
   go_wp2_with (first|((with_reducible refine gate_callee (f:=45) rfl ?_);refine goesL_ (some 8) rfl rfl Tryz.func45 (by kernel_rfl) rfl #[.slice A0 l0.length c0] rfl gd_ ?_;(with_reducible refine(impl_IsSheet.calls k _ _ l0 true _ ?side1 ?side2 A4.out).mono ?_);(case side1=>exact(a6_ HR0.out));(case side2=>exact HC0.out);rintro e w7 ⟨rfl,hb⟩;refine⟨_,rfl,?_⟩;replace HB:=am_ (below_step (a1_) hb);(try clear hb);(try clear hb2);(try clear hk);(try clear hi))|(go_at_call 45;(with_reducible refine(impl_IsSheet.calls k _ _ l1 t387 _ ?side1 ?side2 A6.out).mono ?_);(case side1=>exact(a6_ HR1.out));(case side2=>exact HC1.out);rintro e w8 ⟨rfl,hb⟩;replace HB:=am_ (below_step (a1_) hb);(try clear hb);(try clear hb2);(try clear hk);(try clear hi)))
   go_meet
   case rel=>exact⟨_,(!t387),(by first | rfl|(simp;done)|(simp[*];done)),H',⟨by first | omega|exact Nat.le_refl _⟩,⟨a1_⟩⟩
  ·replace c5:=Bool.eq_false_iff.mpr c5
   subst c5
   replace H:(impl_DifferenceOf.j0 k l0 l1 true)=some (r1,r2,r3):=by rw[if_neg (show ¬(false=true) by decide)]at H;exact H
   have H':=am_ H
   clear H
   go_wp2_with (first|((with_reducible refine gate_callee (f:=45) rfl ?_);refine goesL_ (some 8) rfl rfl Tryz.func45 (by kernel_rfl) rfl #[.slice A0 l0.length c0] rfl gd_ ?_;(with_reducible refine(impl_IsSheet.calls k _ _ l0 false _ ?side1 ?side2 A4.out).mono ?_);(case side1=>exact(a6_ HR0.out));(case side2=>exact HC0.out);rintro e w9 ⟨rfl,hb⟩;refine⟨_,rfl,?_⟩;replace HB:=am_ (below_step (a1_) hb);(try clear hb);(try clear hb2);(try clear hk);(try clear hi)))
   go_meet
   case rel=>exact⟨_,(true),(by first | rfl|(simp;done)|(simp[*];done)),H',⟨by first | omega|exact Nat.le_refl _⟩,⟨a1_⟩⟩
 case rest=>
  clear HC3
  try clear c1
  try clear p2
  try clear c4
  try clear c5
  try clear c7
  obtain⟨kq,x14_2,rfl,HA,HJ2,HB⟩:=hcut
  cases kq with
  | zero=>exact absurd HA.out (by simp[impl_DifferenceOf.j0])
  | succ kj2=>
   have H:=HA.out
   clear HA
   simp only[impl_DifferenceOf.j0]at H
   by_cases c10:x14_2=true
   ·subst c10
    replace H:(some (([]:List (S40)),([]:List (S40)),false))=some (r1,r2,r3):=by rw[if_pos rfl]at H;exact H
    simp only[Option.some.injEq,Prod.mk.injEq]at H
    obtain⟨rfl,rfl,rfl⟩:=H
    go_wp2
    go_ret3
    exact⟨_,_,a10_,a23_,a23_,a1_⟩
   ·replace c10:=Bool.eq_false_iff.mpr c10
    subst c10
    replace H:((impl_lessHoles.f l0 l1).bind fun t388=>((impl_lessHoles.f l1 l0).bind fun t391=>(some (t388,t391,true))))=some (r1,r2,r3):=by rw[if_neg (show ¬(false=true) by decide)]at H;exact H
    obtain⟨t388,A11,H⟩:=bo_ H
    try dsimp only at H
    obtain⟨t391,A12,H⟩:=bo_ H
    try dsimp only at H
    simp only[Option.some.injEq,Prod.mk.injEq]at H
    obtain⟨rfl,rfl,rfl⟩:=H
    go_wp2_with (first|((with_reducible refine gate_callee (f:=46) rfl ?_);refine goesL_ (some 17) rfl rfl Tryz.func46 (by kernel_rfl) rfl #[.slice A0 l0.length c0, .slice A1 l1.length c1] rfl gd_ ?_;(with_reducible refine(impl_lessHoles.calls _ _ l0 _ _ l1 t388 _ ?side1 ?side2 ?side3 ?side4 A11.out).mono ?_);(case side1=>exact(a6_ HR0.out));(case side2=>exact HC0.out);(case side3=>exact(a6_ HR1.out));(case side4=>exact HC1.out);rintro e w13 ⟨v389,rfl,ho0,hb⟩;refine⟨_,rfl,?_⟩;have HO390:=am_ (Kd.R_lower ho0 (below_size (a1_)));replace HB:=am_ (below_step (a1_) hb);(try clear hb);(try clear hb2);(try clear hk);(try clear hi);(try clear ho0))|((with_reducible refine gate_callee (f:=46) rfl ?_);refine goesL_ (some 20) rfl rfl Tryz.func46 (by kernel_rfl) rfl #[.slice A1 l1.length c1, .slice A0 l0.length c0] rfl gd_ ?_;(with_reducible refine(impl_lessHoles.calls _ _ l1 _ _ l0 t391 _ ?side1 ?side2 ?side3 ?side4 A12.out).mono ?_);(case side1=>exact(a6_ HR1.out));(case side2=>exact HC1.out);(case side3=>exact(a6_ HR0.out));(case side4=>exact HC0.out);rintro e w14 ⟨v392,rfl,ho0,hb⟩;refine⟨_,rfl,?_⟩;have HO393:=am_ (Kd.R_lower (Kd.R_new' ho0 (Kd.R_lt ((a0_ HO390.out)))) (below_size (a1_)));replace HO390:=am_ (Kd.R_elder' ((a0_ HO390.out)) (Kd.R_base ho0) hb);replace HB:=am_ (below_step (a1_) hb);(try clear hb);(try clear hb2);(try clear hk);(try clear hi);(try clear ho0)))
    go_ret3
    exact⟨_,_,a10_,(a31_ HO390.out),(a31_ HO393.out),a1_⟩

/-! ### spec_mgTwo: function 47 -/
def spec_mgTwo.f (k:Nat) (l0:List (S40)) (l1:List (S40)):Option (Bool):=(spec_shGood.f k l0).bind fun t394=>(if t394=true then((spec_shGood.f k l1).bind fun t395=>(some t395)) else(some false))
theorem spec_mgTwo.mono:∀a0 a1 k,LeO (spec_mgTwo.f k a0 a1) (spec_mgTwo.f (k+1) a0 a1):=by
 intro a0 a1 k
 unfold spec_mgTwo.f
 repeat' first
  |(with_reducible exact spec_shGood.mono _ _)
  |(with_reducible exact LeO.refl _)
  |(with_reducible exact LeO.none _)
  |(with_reducible refine LeO.ite ?_ ?_)
  |(with_reducible refine LeO.bind ?_ (fun _=>?_))
  |exact spec_shGood.mono _ _
  |exact LeO.none _
   | refine LeO.ite ?_ ?_
   | refine LeO.bind ?_ (fun _=>?_)
set_option maxHeartbeats 8000000 in
set_option maxRecDepth 100000 in
theorem spec_mgTwo.calls (k:Nat) (A0:Option Addr) (c0:Nat) (l0:List (S40)) (A1:Option Addr) (c1:Nat) (l1:List (S40)) (r:Bool) (w:World) (hr0:Kd.C k40 w A0 l0.length l0) (hc0:l0.length≤c0) (hr1:Kd.C k40 w A1 l1.length l1) (hc1:l1.length≤c1) (h:spec_mgTwo.f k l0 l1=some r) :
 Calls Tryz.prog 47 #[.slice A0 l0.length c0, .slice A1 l1.length c1] w fun e w'=>e = .returned (.bool r)∧Below w.heap.size w w':=by
 have HR0:=am_ hr0
 have HC0:=am_ hc0
 clear hr0 hc0
 have HR1:=am_ hr1
 have HC1:=am_ hc1
 clear hr1 hc1
 have HB:=am_ (Below.refl w.heap.size w)
 have H:((spec_shGood.f k l0).bind fun t394=>(if t394=true then((spec_shGood.f k l1).bind fun t395=>(some t395)) else(some false)))=some r:=h
 clear h
 obtain⟨t394,A3,H⟩:=bo_ H
 try dsimp only at H
 by_cases c4:t394=true
 ·subst c4
  replace H:((spec_shGood.f k l1).bind fun t395=>(some t395))=some r:=by rw[if_pos rfl]at H;exact H
  obtain⟨t395,A5,H⟩:=bo_ H
  try dsimp only at H
  obtain rfl:=Option.some.inj H
  go_enter Tryz.func47,Tryz.ntmps47
  go_wp2_with (first|((with_reducible refine gate_callee (f:=58) rfl ?_);refine goesL_ (some 6) rfl rfl Tryz.func58 (by kernel_rfl) rfl #[.slice A0 l0.length c0] rfl gd_ ?_;(with_reducible refine(spec_shGood.calls k _ _ l0 true _ ?side1 ?side2 A3.out).mono ?_);(case side1=>exact(a15_ HR0.out));(case side2=>exact HC0.out);rintro e w6 ⟨rfl,hb⟩;refine⟨_,rfl,?_⟩;replace HB:=am_ (below_step (a1_) hb);(try clear hb);(try clear hb2);(try clear hk);(try clear hi))|(go_at_call 58;(with_reducible refine(spec_shGood.calls k _ _ l1 t395 _ ?side1 ?side2 A5.out).mono ?_);(case side1=>exact(a6_ HR1.out));(case side2=>exact HC1.out);rintro e w7 ⟨rfl,hb⟩;replace HB:=am_ (below_step (a1_) hb);(try clear hb);(try clear hb2);(try clear hk);(try clear hi)))
  go_ret
  exact⟨a10_,a1_⟩
 ·replace c4:=Bool.eq_false_iff.mpr c4
  subst c4
  replace H:(some false)=some r:=by rw[if_neg (show ¬(false=true) by decide)]at H;exact H
  obtain rfl:=Option.some.inj H
  go_enter Tryz.func47,Tryz.ntmps47
  go_wp2_with (first|((with_reducible refine gate_callee (f:=58) rfl ?_);refine goesL_ (some 6) rfl rfl Tryz.func58 (by kernel_rfl) rfl #[.slice A0 l0.length c0] rfl gd_ ?_;(with_reducible refine(spec_shGood.calls k _ _ l0 false _ ?side1 ?side2 A3.out).mono ?_);(case side1=>exact(a15_ HR0.out));(case side2=>exact HC0.out);rintro e w8 ⟨rfl,hb⟩;refine⟨_,rfl,?_⟩;replace HB:=am_ (below_step (a1_) hb);(try clear hb);(try clear hb2);(try clear hk);(try clear hi)))
  go_ret
  exact⟨a10_,a1_⟩

/-! ### spec_mgHas: function 62 -/
def spec_mgHas.l0:Nat→List (S40)→Int→Int→Int→Int→Int→Option (Bool)
 | 0,_,_,_,_,_,_=>none
 | k+1,x7,x8,x9,x397000,x397001,x397002=>if x9<x8 then(if 0≤x9 then(if x9<(x7.length:Int) then(if(x397000 == ((rd_T40 x7 x9).f0) && (x397001 == ((rd_T40 x7 x9).f1) && (x397002 == ((rd_T40 x7 x9).f2))))=true then(some true) else(spec_mgHas.l0 k x7 x8 (wrap64 (x9+1)) x397000 x397001 x397002)) else(none)) else(none)) else(some false)
def spec_mgHas.f (k:Nat) (l0:List (S40)) (a1_0:Int) (a1_1:Int) (a1_2:Int):Option (Bool):=spec_mgHas.l0 k l0 (l0.length:Int) 0 a1_0 a1_1 a1_2
theorem spec_mgHas.mono_l:∀k,(∀y0 y1 y2 y3 y4 y5,LeO (spec_mgHas.l0 k y0 y1 y2 y3 y4 y5) (spec_mgHas.l0 (k+1) y0 y1 y2 y3 y4 y5))
 | 0=>fun _ _ _ _ _ _ r h=>by simp[spec_mgHas.l0]at h
 | k+1=>by
  have ih0:=spec_mgHas.mono_l k
  intros
  unfold spec_mgHas.l0
  rotate_left
  all_goals repeat' first|(with_reducible first|exact ih0 _ _ _ _ _ _|exact LeO.refl _|exact LeO.none _|refine LeO.ite ?_ ?_|refine LeO.bind ?_ (fun _=>?_))|exact ih0 _ _ _ _ _ _|exact LeO.none _|refine LeO.ite ?_ ?_|refine LeO.bind ?_ (fun _=>?_)
theorem spec_mgHas.mono:∀a0 a1 a2 a3 k,LeO (spec_mgHas.f k a0 a1 a2 a3) (spec_mgHas.f (k+1) a0 a1 a2 a3):=by
 intro a0 a1 a2 a3 k
 have ih0:=spec_mgHas.mono_l k
 unfold spec_mgHas.f
 repeat' first
  |(with_reducible exact ih0 _ _ _ _ _ _)
  |(with_reducible exact LeO.refl _)
  |(with_reducible exact LeO.none _)
  |(with_reducible refine LeO.ite ?_ ?_)
  |(with_reducible refine LeO.bind ?_ (fun _=>?_))
  |exact ih0 _ _ _ _ _ _
  |exact LeO.none _
   | refine LeO.ite ?_ ?_
   | refine LeO.bind ?_ (fun _=>?_)
set_option maxHeartbeats 8000000 in
set_option maxRecDepth 100000 in
theorem spec_mgHas.calls (k:Nat) (A0:Option Addr) (c0:Nat) (l0:List (S40)) (a1_0:Int) (a1_1:Int) (a1_2:Int) (r:Bool) (w:World) (hr0:Kd.C k40 w A0 l0.length l0) (hc0:l0.length≤c0) (h:spec_mgHas.f k l0 a1_0 a1_1 a1_2=some r) :
 Calls Tryz.prog 62 #[.slice A0 l0.length c0, .agg #[.int .i64 a1_0, .int .i64 a1_1, .int .i64 a1_2]] w fun e w'=>e = .returned (.bool r)∧Below w.heap.size w w':=by
 have hu40:=Tryz.underlying40
 have HR0:=am_ hr0
 have HC0:=am_ hc0
 clear hr0 hc0
 have HB:=am_ (Below.refl w.heap.size w)
 have H:(spec_mgHas.l0 k l0 (l0.length:Int) 0 a1_0 a1_1 a1_2)=some r:=h
 clear h
 have H':=am_ H
 clear H
 go_enter Tryz.func62,Tryz.ntmps62
 go_wp2_with (first|((with_reducible refine gate_dst (N:=3) rfl ?_);refine box_event ?hg (N:=3) ?hd (cs:= #[.int .i64 a1_0, .int .i64 a1_1, .int .i64 a1_2]) (t:=40) ?hr ?_;(case hd=>rfl);(case hg=>rfl);(case hr=>exact hr_);intro gb396 hg w3 hbox hb;have BK396:=am_ (hbox);have GW396:=am_ ((by rw[hg];exact(below_size (a1_)):w.heap.size≤gb396));have GE396:=am_ ((by rw[hg];exact(below_size (a1_)):w.heap.size≤gb396));replace HB:=am_ (below_step (a1_) hb);clear hb hbox hg))
 (try simp only[Act.put,List.setIfInBounds_toArray,List.set_cons_zero,List.set_cons_succ])
 go_loopg [9] k (fun kq v9 w'=>∃(x9_1:Int),v9 = .int .i64 x9_1∧Aside0 (spec_mgHas.l0 kq l0 (l0.length:Int) x9_1 a1_0 a1_1 a1_2=some r)∧Aside0 (kq≤k)∧Aside0 (w'.heap[gb396]? = some (.cells #[.int .i64 a1_0, .int .i64 a1_1, .int .i64 a1_2] 40 (0,0)))∧Aside0 (Below w.heap.size w w'))
 case atStart=>exact⟨(0),(by first | rfl|(simp;done)|(simp[*];done)),H',⟨Nat.le_refl _⟩,⟨(a5_ BK396.out)⟩,⟨(a4_ GE396.out)⟩⟩
 case round=>
  clear H'
  try clear p2
  obtain⟨x9_1,rfl,HA,HK1,BK396,HB⟩:=hrel
  cases gk with
  | zero=>exact absurd HA.out (by simp[spec_mgHas.l0])
  | succ k1=>
   have H:=HA.out
   clear HA
   simp only[spec_mgHas.l0]at H
   by_cases c4:x9_1<(l0.length:Int)
   ·rw[if_pos c4]at H
    have c4b0:decide (x9_1<(l0.length:Int))=true:=decide_eq_true c4
    clear c4
    by_cases c5:0≤x9_1
    ·rw[if_pos c5]at H
     have c5b0:decide (0≤x9_1)=true:=decide_eq_true c5
     clear c5
     by_cases c6:x9_1<(l0.length:Int)
     ·rw[if_pos c6]at H
      have c6b0:decide (x9_1<(l0.length:Int))=true:=decide_eq_true c6
      clear c6
      by_cases c7:(a1_0 == ((rd_T40 l0 x9_1).f0) && (a1_1 == ((rd_T40 l0 x9_1).f1) && (a1_2 == ((rd_T40 l0 x9_1).f2))))=true
      ·rw[if_pos c7]at H
       have c7b0:(a1_0 == ((rd_T40 l0 x9_1).f0) && (a1_1 == ((rd_T40 l0 x9_1).f1) && (a1_2 == ((rd_T40 l0 x9_1).f2))))=true:=c7
       (try(have c7b1:decide (a1_0=((rd_T40 l0 x9_1).f0) && (a1_1 == ((rd_T40 l0 x9_1).f1) && (a1_2 == ((rd_T40 l0 x9_1).f2))))=true:=by simpa using c7))
       (try(have c7b2:(a1_0 == ((rd_T40 l0 x9_1).f0) && (a1_1 == ((rd_T40 l0 x9_1).f1) && (a1_2 == ((rd_T40 l0 x9_1).f2))))=true:=by simpa using c7))
       clear c7
       obtain rfl:=Option.some.inj H
       have p397:0≤(x9_1:Int):=of_decide_eq_true (a12_)
       have q397:x9_1<(l0.length:Int):=of_decide_eq_true (a12_)
       obtain⟨ad397,e397,hx397_0,hx397_1,hx397_2⟩:=at_T40 HR0.out x9_1 p397 q397
       cases e397
       replace hx397_0:=(HB.out.cell (World.block_lt_of_cell? w _ hx397_0)).trans hx397_0
       replace hx397_1:=(HB.out.cell (World.block_lt_of_cell? w _ hx397_1)).trans hx397_1
       replace hx397_2:=(HB.out.cell (World.block_lt_of_cell? w _ hx397_2)).trans hx397_2
       replace p397:=eq_true p397
       replace q397:=eq_true q397
       go_wp2_with (first|((with_reducible refine gate_dst (N:=6) rfl ?_);refine box_event ?hg (N:=6) ?hd (cs:= #[.int .i64 0, .int .i64 0, .int .i64 0]) (t:=40) ?hr ?_;(case hd=>rfl);(case hg=>rfl);(case hr=>exact hr_);intro gb398 hg w8 hbox hb;have BK398:=am_ (hbox);have GW398:=am_ ((by rw[hg];exact(below_size ((a4_ GE396.out))):w.heap.size≤gb398));have GE398:=am_ ((by rw[hg];exact(below_size ((a4_ GE396.out))):w.heap.size≤gb398));replace HB:=am_ (below_step ((a4_ GE396.out)) hb);have NB396_398:=am_ ((by rw[hg];exact Nat.ne_of_lt (blk_lt (g:=gb396) (o:= .cells #[.int .i64 a1_0, .int .i64 a1_1, .int .i64 a1_2] 40 (0,0)) ((a5_ BK396.out))):gb396≠gb398));have NB398_396:=am_ ((by rw[hg];exact Nat.ne_of_gt (blk_lt (g:=gb396) (o:= .cells #[.int .i64 a1_0, .int .i64 a1_1, .int .i64 a1_2] 40 (0,0)) ((a5_ BK396.out))):gb398≠gb396));replace BK396:=am_ (blk_below (g:=gb396) (o:= .cells #[.int .i64 a1_0, .int .i64 a1_1, .int .i64 a1_2] 40 (0,0)) ((a5_ BK396.out)) hb);clear hb hbox hg;have hnb9:=NB398_396.out;have hnc9:=NB396_398.out;have hcz10_0:w8.cell? ⟨gb398,0,none⟩=some (.int .i64 0):=(blk_cell BK398.out 0).trans rfl;have hcz10_1:w8.cell? ⟨gb398,1,none⟩=some (.int .i64 0):=(blk_cell BK398.out 1).trans rfl;have hcz10_2:w8.cell? ⟨gb398,2,none⟩=some (.int .i64 0):=(blk_cell BK398.out 2).trans rfl;have hfz10_0:=blk_frozen BK398.out 0;have hfz10_1:=blk_frozen BK398.out 1;have hfz10_2:=blk_frozen BK398.out 2;have hcz11_0:w8.cell? ⟨gb396,0,none⟩=some (.int .i64 a1_0):=(blk_cell BK396.out 0).trans rfl;have hcz11_1:w8.cell? ⟨gb396,1,none⟩=some (.int .i64 a1_1):=(blk_cell BK396.out 1).trans rfl;have hcz11_2:w8.cell? ⟨gb396,2,none⟩=some (.int .i64 a1_2):=(blk_cell BK396.out 2).trans rfl;have hfz11_0:=blk_frozen BK396.out 0;have hfz11_1:=blk_frozen BK396.out 1;have hfz11_2:=blk_frozen BK396.out 2))
       go_ret
       exact⟨a10_,(a26_ GE396.out GE398.out)⟩
      ·rw[if_neg c7]at H
       have c7b0:(a1_0 == ((rd_T40 l0 x9_1).f0) && (a1_1 == ((rd_T40 l0 x9_1).f1) && (a1_2 == ((rd_T40 l0 x9_1).f2))))=false:=by simpa using c7
       (try(have c7b1:decide (a1_0=((rd_T40 l0 x9_1).f0) && (a1_1 == ((rd_T40 l0 x9_1).f1) && (a1_2 == ((rd_T40 l0 x9_1).f2))))=false:=by simpa using c7))
       (try(have c7b2:(a1_0 == ((rd_T40 l0 x9_1).f0) && (a1_1 == ((rd_T40 l0 x9_1).f1) && (a1_2 == ((rd_T40 l0 x9_1).f2))))=false:=by simpa using c7))
       (try(have c7b3:¬(a1_0=((rd_T40 l0 x9_1).f0) && (a1_1 == ((rd_T40 l0 x9_1).f1) && (a1_2 == ((rd_T40 l0 x9_1).f2)))):=by simpa using c7))
       clear c7
       have H':=am_ H
       clear H
       have p397:0≤(x9_1:Int):=of_decide_eq_true (a12_)
       have q397:x9_1<(l0.length:Int):=of_decide_eq_true (a12_)
       obtain⟨ad397,e397,hx397_0,hx397_1,hx397_2⟩:=at_T40 HR0.out x9_1 p397 q397
       cases e397
       replace hx397_0:=(HB.out.cell (World.block_lt_of_cell? w _ hx397_0)).trans hx397_0
       replace hx397_1:=(HB.out.cell (World.block_lt_of_cell? w _ hx397_1)).trans hx397_1
       replace hx397_2:=(HB.out.cell (World.block_lt_of_cell? w _ hx397_2)).trans hx397_2
       replace p397:=eq_true p397
       replace q397:=eq_true q397
       go_wp2_with (first|((with_reducible refine gate_dst (N:=6) rfl ?_);refine box_event ?hg (N:=6) ?hd (cs:= #[.int .i64 0, .int .i64 0, .int .i64 0]) (t:=40) ?hr ?_;(case hd=>rfl);(case hg=>rfl);(case hr=>exact hr_);intro gb398 hg w12 hbox hb;have BK398:=am_ (hbox);have GW398:=am_ ((by rw[hg];exact(below_size ((a4_ GE396.out))):w.heap.size≤gb398));have GE398:=am_ ((by rw[hg];exact(below_size ((a4_ GE396.out))):w.heap.size≤gb398));replace HB:=am_ (below_step ((a4_ GE396.out)) hb);have NB396_398:=am_ ((by rw[hg];exact Nat.ne_of_lt (blk_lt (g:=gb396) (o:= .cells #[.int .i64 a1_0, .int .i64 a1_1, .int .i64 a1_2] 40 (0,0)) ((a5_ BK396.out))):gb396≠gb398));have NB398_396:=am_ ((by rw[hg];exact Nat.ne_of_gt (blk_lt (g:=gb396) (o:= .cells #[.int .i64 a1_0, .int .i64 a1_1, .int .i64 a1_2] 40 (0,0)) ((a5_ BK396.out))):gb398≠gb396));replace BK396:=am_ (blk_below (g:=gb396) (o:= .cells #[.int .i64 a1_0, .int .i64 a1_1, .int .i64 a1_2] 40 (0,0)) ((a5_ BK396.out)) hb);clear hb hbox hg;have hnb13:=NB398_396.out;have hnc13:=NB396_398.out;have hcz14_0:w12.cell? ⟨gb398,0,none⟩=some (.int .i64 0):=(blk_cell BK398.out 0).trans rfl;have hcz14_1:w12.cell? ⟨gb398,1,none⟩=some (.int .i64 0):=(blk_cell BK398.out 1).trans rfl;have hcz14_2:w12.cell? ⟨gb398,2,none⟩=some (.int .i64 0):=(blk_cell BK398.out 2).trans rfl;have hfz14_0:=blk_frozen BK398.out 0;have hfz14_1:=blk_frozen BK398.out 1;have hfz14_2:=blk_frozen BK398.out 2;have hcz15_0:w12.cell? ⟨gb396,0,none⟩=some (.int .i64 a1_0):=(blk_cell BK396.out 0).trans rfl;have hcz15_1:w12.cell? ⟨gb396,1,none⟩=some (.int .i64 a1_1):=(blk_cell BK396.out 1).trans rfl;have hcz15_2:w12.cell? ⟨gb396,2,none⟩=some (.int .i64 a1_2):=(blk_cell BK396.out 2).trans rfl;have hfz15_0:=blk_frozen BK396.out 0;have hfz15_1:=blk_frozen BK396.out 1;have hfz15_2:=blk_frozen BK396.out 2))
       go_roundg k1
       case measure=>have:=HK1.out;omega
       case rel=>exact⟨(wrap64 (x9_1+1)),(by first | rfl|(simp;done)|(simp[*];done)),H',⟨by have:=HK1.out;omega⟩,⟨(a17_ NB396_398.out BK396.out)⟩,⟨(a26_ GE396.out GE398.out)⟩⟩
     ·rw[if_neg c6]at H
      exact absurd H (by simp)
    ·rw[if_neg c5]at H
     exact absurd H (by simp)
   ·rw[if_neg c4]at H
    have c4b0:decide (x9_1<(l0.length:Int))=false:=decide_eq_false c4
    clear c4
    obtain rfl:=Option.some.inj H
    go_wp2
    go_ret
    exact⟨a10_,(a4_ GE396.out)⟩

/-! ### spec_mgLess: function 48 -/
def spec_mgLess.l0:Nat→List (S40)→List (S40)→List (S40)→Int→Int→Option ((List (S40)))
 | 0,_,_,_,_,_=>none
 | k+1,x1,x5,x8,x9,x10=>if x10<x9 then(if 0≤x10 then(if x10<(x8.length:Int) then((spec_mgHas.f k x1 ((rd_T40 x8 x10).f0) ((rd_T40 x8 x10).f1) ((rd_T40 x8 x10).f2)).bind fun t401=>(if t401=true then(spec_mgLess.l0 k x1 x5 x8 x9 (wrap64 (x10+1))) else(if x5.length<5864062014805 then(spec_mgLess.l0 k x1 (x5 ++ [(⟨(rd_T40 x8 x10).f0,(rd_T40 x8 x10).f1,(rd_T40 x8 x10).f2⟩:S40)]) x8 x9 (wrap64 (x10+1))) else(none)))) else(none)) else(none)) else(some x5)
def spec_mgLess.f (k:Nat) (l0:List (S40)) (l1:List (S40)):Option ((List (S40))):=spec_mgLess.l0 k l1 ([]:List (S40)) l0 (l0.length:Int) 0
theorem spec_mgLess.mono_l:∀k,(∀y0 y1 y2 y3 y4,LeO (spec_mgLess.l0 k y0 y1 y2 y3 y4) (spec_mgLess.l0 (k+1) y0 y1 y2 y3 y4))
 | 0=>fun _ _ _ _ _ r h=>by simp[spec_mgLess.l0]at h
 | k+1=>by
  have ih0:=spec_mgLess.mono_l k
  intros
  unfold spec_mgLess.l0
  rotate_left
  all_goals repeat' first|(with_reducible first|exact ih0 _ _ _ _ _|exact spec_mgHas.mono _ _ _ _ _|exact LeO.refl _|exact LeO.none _|refine LeO.ite ?_ ?_|refine LeO.bind ?_ (fun _=>?_))|exact ih0 _ _ _ _ _|exact spec_mgHas.mono _ _ _ _ _|exact LeO.none _|refine LeO.ite ?_ ?_|refine LeO.bind ?_ (fun _=>?_)
theorem spec_mgLess.mono:∀a0 a1 k,LeO (spec_mgLess.f k a0 a1) (spec_mgLess.f (k+1) a0 a1):=by
 intro a0 a1 k
 have ih0:=spec_mgLess.mono_l k
 unfold spec_mgLess.f
 repeat' first
  |(with_reducible exact ih0 _ _ _ _ _)
  |(with_reducible exact spec_mgHas.mono _ _ _ _ _)
  |(with_reducible exact LeO.refl _)
  |(with_reducible exact LeO.none _)
  |(with_reducible refine LeO.ite ?_ ?_)
  |(with_reducible refine LeO.bind ?_ (fun _=>?_))
  |exact ih0 _ _ _ _ _
  |exact spec_mgHas.mono _ _ _ _ _
  |exact LeO.none _
   | refine LeO.ite ?_ ?_
   | refine LeO.bind ?_ (fun _=>?_)
set_option maxHeartbeats 8000000 in
set_option maxRecDepth 100000 in
theorem spec_mgLess.calls (k:Nat) (A0:Option Addr) (c0:Nat) (l0:List (S40)) (A1:Option Addr) (c1:Nat) (l1:List (S40)) (r:List (S40)) (w:World) (hr0:Kd.C k40 w A0 l0.length l0) (hc0:l0.length≤c0) (hr1:Kd.C k40 w A1 l1.length l1) (hc1:l1.length≤c1) (h:spec_mgLess.f k l0 l1=some r) :
 Calls Tryz.prog 48 #[.slice A0 l0.length c0, .slice A1 l1.length c1] w fun e w'=>∃v0_:Value,e = .returned (v0_)∧Kd.R k40 40 w' w.heap.size (fun _=>True) v0_ r∧Below w.heap.size w w':=by
 have hu40:=Tryz.underlying40
 have HR0:=am_ hr0
 have HC0:=am_ hc0
 clear hr0 hc0
 have HR1:=am_ hr1
 have HC1:=am_ hc1
 clear hr1 hc1
 have HB:=am_ (Below.refl w.heap.size w)
 have H:(spec_mgLess.l0 k l1 ([]:List (S40)) l0 (l0.length:Int) 0)=some r:=h
 clear h
 have H':=am_ H
 clear H
 go_enter Tryz.func48,Tryz.ntmps48
 go_wp2
 (try simp only[Act.put,List.setIfInBounds_toArray,List.set_cons_zero,List.set_cons_succ])
 go_loopg [5,10] k (fun kq v5 v10 w'=>∃(x5_1:List (S40)) (x10_1:Int),v10 = .int .i64 x10_1∧Aside0 (spec_mgLess.l0 kq l1 x5_1 l0 (l0.length:Int) x10_1=some r)∧Aside0 (kq≤k)∧Aside0 (Kd.R k40 40 w' w.heap.size (fun _=>True) v5 x5_1)∧Aside0 (Below w.heap.size w w'))
 case atStart=>exact⟨(([]:List (S40))),(0),(by first | rfl|(simp;done)|(simp[*];done)),H',⟨Nat.le_refl _⟩,⟨a23_⟩,⟨a1_⟩⟩
 case round=>
  clear H'
  try clear c1
  try clear p2
  obtain⟨x5_1,x10_1,rfl,HA,HK1,HO_5,HB⟩:=hrel
  cases gk with
  | zero=>exact absurd HA.out (by simp[spec_mgLess.l0])
  | succ k1=>
   have H:=HA.out
   clear HA
   simp only[spec_mgLess.l0]at H
   by_cases c3:x10_1<(l0.length:Int)
   ·rw[if_pos c3]at H
    have c3b0:decide (x10_1<(l0.length:Int))=true:=decide_eq_true c3
    clear c3
    by_cases c4:0≤x10_1
    ·rw[if_pos c4]at H
     have c4b0:decide (0≤x10_1)=true:=decide_eq_true c4
     clear c4
     by_cases c5:x10_1<(l0.length:Int)
     ·rw[if_pos c5]at H
      have c5b0:decide (x10_1<(l0.length:Int))=true:=decide_eq_true c5
      clear c5
      obtain⟨t401,A6,H⟩:=bo_ H
      try dsimp only at H
      by_cases c7:t401=true
      ·subst c7
       replace H:(spec_mgLess.l0 k1 l1 x5_1 l0 (l0.length:Int) (wrap64 (x10_1+1)))=some r:=by rw[if_pos rfl]at H;exact H
       have H':=am_ H
       clear H
       have p399:0≤(x10_1:Int):=of_decide_eq_true (a12_)
       have q399:x10_1<(l0.length:Int):=of_decide_eq_true (a12_)
       obtain⟨ad399,e399,hx399_0,hx399_1,hx399_2⟩:=at_T40 HR0.out x10_1 p399 q399
       cases e399
       replace hx399_0:=(HB.out.cell (World.block_lt_of_cell? w _ hx399_0)).trans hx399_0
       replace hx399_1:=(HB.out.cell (World.block_lt_of_cell? w _ hx399_1)).trans hx399_1
       replace hx399_2:=(HB.out.cell (World.block_lt_of_cell? w _ hx399_2)).trans hx399_2
       replace p399:=eq_true p399
       replace q399:=eq_true q399
       go_wp2_with (first|((with_reducible refine gate_dst (N:=7) rfl ?_);refine box_event ?hg (N:=7) ?hd (cs:= #[.int .i64 0, .int .i64 0, .int .i64 0]) (t:=40) ?hr ?_;(case hd=>rfl);(case hg=>rfl);(case hr=>exact hr_);intro gb400 hg w8 hbox hb;replace HO_5:=am_ (Kd.R_below (Kd.R_elderB ((a0_ HO_5.out)) gb400 (Nat.le_of_eq hg.symm)) hb);have BK400:=am_ (hbox);have GW400:=am_ ((by rw[hg];exact(below_size (a1_)):w.heap.size≤gb400));have GE400:=am_ ((by rw[hg];exact(below_size (a1_)):w.heap.size≤gb400));replace HB:=am_ (below_step (a1_) hb);clear hb hbox hg;have hcz9_0:w8.cell? ⟨gb400,0,none⟩=some (.int .i64 0):=(blk_cell BK400.out 0).trans rfl;have hcz9_1:w8.cell? ⟨gb400,1,none⟩=some (.int .i64 0):=(blk_cell BK400.out 1).trans rfl;have hcz9_2:w8.cell? ⟨gb400,2,none⟩=some (.int .i64 0):=(blk_cell BK400.out 2).trans rfl;have hfz9_0:=blk_frozen BK400.out 0;have hfz9_1:=blk_frozen BK400.out 1;have hfz9_2:=blk_frozen BK400.out 2)|((with_reducible refine gate_callee (f:=62) rfl ?_);refine goesL_ (some 16) rfl rfl Tryz.func62 (by kernel_rfl) rfl #[.slice A1 l1.length c1, .agg #[.int .i64 ((rd_T40 l0 x10_1).f0), .int .i64 ((rd_T40 l0 x10_1).f1), .int .i64 ((rd_T40 l0 x10_1).f2)]] rfl gd_ ?_;(with_reducible refine(spec_mgHas.calls k1 _ _ l1 ((rd_T40 l0 x10_1).f0) ((rd_T40 l0 x10_1).f1) ((rd_T40 l0 x10_1).f2) true _ ?side1 ?side2 A6.out).mono ?_);(case side1=>exact Kd.C_below HR1.out ((a4_ GE400.out)));(case side2=>exact HC1.out);rintro e w10 ⟨rfl,hb⟩;refine⟨_,rfl,?_⟩;replace HO_5:=am_ (Kd.R_below ((a40_ HO_5.out)) hb);replace BK400:=am_ (blk_below (g:=gb400) (o:= .cells #[.int .i64 ((rd_T40 l0 x10_1).f0), .int .i64 ((rd_T40 l0 x10_1).f1), .int .i64 ((rd_T40 l0 x10_1).f2)] 40 (0,0)) ((a27_ BK400.out)) hb);replace HB:=am_ (below_step ((a4_ GE400.out)) hb);(try clear hb);(try clear hb2);(try clear hk);(try clear hi)))
       go_roundg k1
       case measure=>have:=HK1.out;omega
       case rel=>exact⟨(x5_1),(wrap64 (x10_1+1)),(by first | rfl|(simp;done)|(simp[*];done)),H',⟨by have:=HK1.out;omega⟩,⟨(a25_ HO_5.out)⟩,⟨(a4_ GE400.out)⟩⟩
      ·replace c7:=Bool.eq_false_iff.mpr c7
       subst c7
       replace H:(if x5_1.length<5864062014805 then(spec_mgLess.l0 k1 l1 (x5_1 ++ [(⟨(rd_T40 l0 x10_1).f0,(rd_T40 l0 x10_1).f1,(rd_T40 l0 x10_1).f2⟩:S40)]) l0 (l0.length:Int) (wrap64 (x10_1+1))) else(none))=some r:=by rw[if_neg (show ¬(false=true) by decide)]at H;exact H
       by_cases c11:x5_1.length<5864062014805
       ·rw[if_pos c11]at H
        have LMc11:=am_ c11
        clear c11
        obtain⟨y402,hy402⟩:∃y_:List (S40),y_=(x5_1 ++ [(⟨(rd_T40 l0 x10_1).f0,(rd_T40 l0 x10_1).f1,(rd_T40 l0 x10_1).f2⟩:S40)]):=⟨_,rfl⟩
        replace H:(spec_mgLess.l0 k1 l1 y402 l0 (l0.length:Int) (wrap64 (x10_1+1)))=some r:=by first|(rw[hy402];with_reducible exact H)|(have H2_:=(Option.bind_some _ _).symm.trans H;rw[hy402];with_reducible exact H2_)|(have H2_:=(Option.bind_some _ _).symm.trans H;with_reducible exact H2_) | with_reducible exact H|(rw[hy402];exact H)|exact H
        have Ny402:=am_ hy402
        clear hy402
        have H':=am_ H
        clear H
        have p399:0≤(x10_1:Int):=of_decide_eq_true (a12_)
        have q399:x10_1<(l0.length:Int):=of_decide_eq_true (a12_)
        obtain⟨ad399,e399,hx399_0,hx399_1,hx399_2⟩:=at_T40 HR0.out x10_1 p399 q399
        cases e399
        replace hx399_0:=(HB.out.cell (World.block_lt_of_cell? w _ hx399_0)).trans hx399_0
        replace hx399_1:=(HB.out.cell (World.block_lt_of_cell? w _ hx399_1)).trans hx399_1
        replace hx399_2:=(HB.out.cell (World.block_lt_of_cell? w _ hx399_2)).trans hx399_2
        replace p399:=eq_true p399
        replace q399:=eq_true q399
        go_wp2_with (first|((with_reducible refine gate_dst (N:=7) rfl ?_);refine box_event ?hg (N:=7) ?hd (cs:= #[.int .i64 0, .int .i64 0, .int .i64 0]) (t:=40) ?hr ?_;(case hd=>rfl);(case hg=>rfl);(case hr=>exact hr_);intro gb400 hg w12 hbox hb;replace HO_5:=am_ (Kd.R_below (Kd.R_elderB ((a0_ HO_5.out)) gb400 (Nat.le_of_eq hg.symm)) hb);have BK400:=am_ (hbox);have GW400:=am_ ((by rw[hg];exact(below_size (a1_)):w.heap.size≤gb400));have GE400:=am_ ((by rw[hg];exact(below_size (a1_)):w.heap.size≤gb400));replace HB:=am_ (below_step (a1_) hb);clear hb hbox hg;have hcz13_0:w12.cell? ⟨gb400,0,none⟩=some (.int .i64 0):=(blk_cell BK400.out 0).trans rfl;have hcz13_1:w12.cell? ⟨gb400,1,none⟩=some (.int .i64 0):=(blk_cell BK400.out 1).trans rfl;have hcz13_2:w12.cell? ⟨gb400,2,none⟩=some (.int .i64 0):=(blk_cell BK400.out 2).trans rfl;have hfz13_0:=blk_frozen BK400.out 0;have hfz13_1:=blk_frozen BK400.out 1;have hfz13_2:=blk_frozen BK400.out 2)|((with_reducible refine gate_callee (f:=62) rfl ?_);refine goesL_ (some 16) rfl rfl Tryz.func62 (by kernel_rfl) rfl #[.slice A1 l1.length c1, .agg #[.int .i64 ((rd_T40 l0 x10_1).f0), .int .i64 ((rd_T40 l0 x10_1).f1), .int .i64 ((rd_T40 l0 x10_1).f2)]] rfl gd_ ?_;(with_reducible refine(spec_mgHas.calls k1 _ _ l1 ((rd_T40 l0 x10_1).f0) ((rd_T40 l0 x10_1).f1) ((rd_T40 l0 x10_1).f2) false _ ?side1 ?side2 A6.out).mono ?_);(case side1=>exact Kd.C_below HR1.out ((a4_ GE400.out)));(case side2=>exact HC1.out);rintro e w14 ⟨rfl,hb⟩;refine⟨_,rfl,?_⟩;replace HO_5:=am_ (Kd.R_below ((a40_ HO_5.out)) hb);replace BK400:=am_ (blk_below (g:=gb400) (o:= .cells #[.int .i64 ((rd_T40 l0 x10_1).f0), .int .i64 ((rd_T40 l0 x10_1).f1), .int .i64 ((rd_T40 l0 x10_1).f2)] 40 (0,0)) ((a27_ BK400.out)) hb);replace HB:=am_ (below_step ((a4_ GE400.out)) hb);(try clear hb);(try clear hb2);(try clear hk);(try clear hi);have hcz15_0:w14.cell? ⟨gb400,0,none⟩=some (.int .i64 ((rd_T40 l0 x10_1).f0)):=(blk_cell BK400.out 0).trans rfl;have hcz15_1:w14.cell? ⟨gb400,1,none⟩=some (.int .i64 ((rd_T40 l0 x10_1).f1)):=(blk_cell BK400.out 1).trans rfl;have hcz15_2:w14.cell? ⟨gb400,2,none⟩=some (.int .i64 ((rd_T40 l0 x10_1).f2)):=(blk_cell BK400.out 2).trans rfl;have hfz15_0:=blk_frozen BK400.out 0;have hfz15_1:=blk_frozen BK400.out 1;have hfz15_2:=blk_frozen BK400.out 2)|((with_reducible refine gate_builtin (b:= .append) (xs:= #[.tmp 18, .tmp 20]) rfl ?_);at_builtin;refine Kd.R_append k40 (w0:=w) w.heap.size rfl (.tmp 18) (.tmp 20) 24 40 (.agg #[(.int .i64 0),(.int .i64 0),(.int .i64 0)]) 24 rfl Tryz.underlying24 info40 rfl (by decide) (by omega) u5 x5_1 (⟨(rd_T40 l0 x10_1).f0,(rd_T40 l0 x10_1).f1,(rd_T40 l0 x10_1).f2⟩:S40) [.int .i64 ((rd_T40 l0 x10_1).f0), .int .i64 ((rd_T40 l0 x10_1).f1), .int .i64 ((rd_T40 l0 x10_1).f2)] (fun k_=>k_≠gb400) (fun _=>False) rfl rfl ?aP (fun _ hk=>hk.elim) ?aF ?aO ?aB ?aS ?aL ?_;(case aP=>exact k40_mkM _ _ _ (⟨(rd_T40 l0 x10_1).f0,(rd_T40 l0 x10_1).f1,(rd_T40 l0 x10_1).f2⟩:S40));(case aB=>exact((a4_ GE400.out)));(case aF=>exact(fun k_ hk=>Kd.freshB (g:=gb400) (o:= .cells #[.int .i64 ((rd_T40 l0 x10_1).f0), .int .i64 ((rd_T40 l0 x10_1).f1), .int .i64 ((rd_T40 l0 x10_1).f2)] 40 (0,0)) ((a5_ BK400.out)) k_ hk));(case aO=>exact((a31_ HO_5.out)));(case aS=>exact(below_size ((a4_ GE400.out))));(case aL=>have:=LMc11.out;omega);intro v403 w16 ho hb hg hat;rw[← Ny402.out]at ho;have n0_:=am_ (blk_grown (g:=gb400) (o:= .cells #[.int .i64 ((rd_T40 l0 x10_1).f0), .int .i64 ((rd_T40 l0 x10_1).f1), .int .i64 ((rd_T40 l0 x10_1).f2)] 40 (0,0)) ((a5_ BK400.out)) hg (Kd.R_away HO_5.out (fun _ hk=>hk.2)));have n1_:=am_ (hb);have n2_:=am_ (ho);clear BK400 HB HO_5;have BK400:=n0_;have HB:=n1_;have HO404:=n2_;clear n0_ n1_ n2_ ho hb hg hat))
        go_roundg k1
        case measure=>have:=HK1.out;omega
        case rel=>exact⟨(y402),(wrap64 (x10_1+1)),(by first | rfl|(simp;done)|(simp[*];done)),H',⟨by have:=HK1.out;omega⟩,⟨(a25_ HO404.out)⟩,⟨(a4_ GE400.out)⟩⟩
       ·rw[if_neg c11]at H
        exact absurd H (by simp)
     ·rw[if_neg c5]at H
      exact absurd H (by simp)
    ·rw[if_neg c4]at H
     exact absurd H (by simp)
   ·rw[if_neg c3]at H
    have c3b0:decide (x10_1<(l0.length:Int))=false:=decide_eq_false c3
    clear c3
    obtain rfl:=Option.some.inj H
    go_wp2
    go_ret
    exact⟨_,a10_,(a0_ HO_5.out),a1_⟩

end Go.Proofs.YtplpjmhmochcfaaGreat.QFnDifferences
