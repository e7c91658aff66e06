/- Written by a program of this session (the kit's printer, with leaf contracts proved by hand put in): what each Go function computes, and that the call computes it. No condition but those that each theorem names. -/
import Derived.Test.YtplpjmhmochcfaaQFnMergesx0
import Derived.Test.YtplpjmhmochcfaaQFnMergesx3
import Derived.Test.YtplpjmhmochcfaaQFnMergesx7
import Derived.Test.YtplpjmhmochcfaaQFnMergesx8
namespace Go.Proofs.Ytplpjmhmochcfaa.QFnMerges
open Go.RowKit Go.Proofs.YtplpjmhmochcfaaW.PrintWords Go.Proofs.YtplpjmhmochcfaaW.PrintLast Go.Proofs.YtplpjmhmochcfaaW.PrintMore
attribute [local go_sem] max2_int min2_int max_two min_two max_three min_three max_four min_four   -- for this text's walks alone
set_option linter.unusedVariables false
set_option linter.unusedSimpArgs false

/-! ### impl_sharedHoles: function 109 (by hand: a copy of the holes, those taken out that the closure tells) -/
def impl_sharedHoles.same (x y:S42):Bool:=x.f0 == y.f0 && (x.f1 == y.f1 && (x.f2 == y.f2))
def impl_sharedHoles.has (l:List S42) (x:S42):Bool:=l.any (impl_sharedHoles.same x)
/-- What the closure tells of a hole: is it taken out. -/
def impl_sharedHoles.out (l:List S42) (x:S42):Bool:= !impl_sharedHoles.has l x
def impl_sharedHoles.f (l0 l1:List S42):Option (List S42):=if l0.length<1000000000 then some (l0.filter fun x=> !impl_sharedHoles.out l1 x) else none
theorem impl_sharedHoles.eqA (d:Nat) (w:World) (x0 x1 x2 y0 y1 y2:Int) :
 (Op.equalIn (d+2) 42 (.agg #[.int .i64 x0, .int .i64 x1, .int .i64 x2]) (.agg #[.int .i64 y0, .int .i64 y1, .int .i64 y2])).run Try.prog w = .ok (x0 == y0 && (x1 == y1 && (x2 == y2))) w:=by
 refine eqA_of Try.underlying42 (by kernel_rfl) ?_
 refine eqf_cons (by rfl) (by go_simp;rfl) (by go_simp;rfl) (by go_simp) ?_
 refine eqf_cons (by rfl) (by go_simp;rfl) (by go_simp;rfl) (by go_simp) ?_
 exact eqf_last (by rfl) (by go_simp;rfl) (by go_simp;rfl) (by go_simp)
attribute [local go_sem high] impl_sharedHoles.eqA
theorem impl_sharedHoles.step (l:List S42) (kk:Nat) (h:kk<l.length):l.drop kk=rd_T42 l (kk:Int) :: l.drop (kk+1):=by
 rw[List.drop_eq_getElem_cons h]
 congr 1
 simp[rd_T42,List.getD_eq_getElem?_getD,List.getElem?_eq_getElem h]
set_option maxHeartbeats 8000000 in
set_option maxRecDepth 100000 in
theorem impl_sharedHoles.idx (A0:Option Addr) (c0:Nat) (l0:List S42) (x:S42) (w:World) (hr0:Kd.C k42 w A0 l0.length l0) :
 Calls Try.prog 117 #[.slice A0 l0.length c0, .agg #[.int .i64 x.f0, .int .i64 x.f1, .int .i64 x.f2]] w fun e w'=>∃r:Int,e = .returned (.int .i64 r)∧decide (0≤r)=impl_sharedHoles.has l0 x∧Below w.heap.size w w':=by
 have HR0:=am_ hr0
 clear hr0
 have hmax:=HR0.out.2.1
 go_enter Try.func117,Try.ntmps117
 go_wp2
 go_loopg [5,8] l0.length (fun gg _ s8 wr=>∃kk:Nat,kk≤l0.length∧l0.length-kk≤gg∧s8 = .int .i64 kk∧Aside0 (Below w.heap.size w wr)∧Aside0 (wr.cell? ⟨w.heap.size,0,none⟩=some (.int .i64 x.f0)∧wr.cell? ⟨w.heap.size,1,none⟩=some (.int .i64 x.f1)∧wr.cell? ⟨w.heap.size,2,none⟩=some (.int .i64 x.f2))∧Aside0 (impl_sharedHoles.has l0 x=impl_sharedHoles.has (l0.drop kk) x))
 case atStart=>exact⟨0,Nat.zero_le _,by omega,rfl,⟨below_alloc (Below.refl _ w) _⟩,⟨blk_cell (blk_new w _) 0,blk_cell (blk_new w _) 1,blk_cell (blk_new w _) 2⟩,⟨rfl⟩⟩
 case round=>
  obtain⟨kk,hkk,hg,rfl,HB,HC,HI⟩:=hrel
  obtain⟨hb0,hb1,hb2⟩:=HC.out
  by_cases hlt:kk<l0.length
  ·have hltz:(kk:Int)<(l0.length:Int):=by omega
   obtain⟨ad,e1,hx0,hx1,hx2⟩:=at_T42 HR0.out (kk:Int) (by omega) hltz
   cases e1
   simp only[Int.toNat_natCast]at hx0 hx1 hx2
   replace hx0:=(HB.out.cell (World.block_lt_of_cell? w _ hx0)).trans hx0
   replace hx1:=(HB.out.cell (World.block_lt_of_cell? w _ hx1)).trans hx1
   replace hx2:=(HB.out.cell (World.block_lt_of_cell? w _ hx2)).trans hx2
   cases hq:(x.f0 == (rd_T42 l0 (kk:Int)).f0 && (x.f1 == (rd_T42 l0 (kk:Int)).f1 && (x.f2 == (rd_T42 l0 (kk:Int)).f2))) with
   | true=>
    have HD:Aside0 (impl_sharedHoles.has l0 x=true):=⟨by rw[HI.out,impl_sharedHoles.step l0 kk hlt,impl_sharedHoles.has,List.any_cons,impl_sharedHoles.same,hq];rfl⟩
    clear HI
    go_wp2
    go_quiet (fail)
    go_wp2
    go_ret
    exact⟨_,rfl,by rw[HD.out];exact decide_eq_true (by omega),a1_⟩
   | false=>
    have HD:Aside0 (impl_sharedHoles.has l0 x=impl_sharedHoles.has (l0.drop (kk+1)) x):=⟨by rw[HI.out,impl_sharedHoles.step l0 kk hlt,impl_sharedHoles.has,List.any_cons,impl_sharedHoles.same,hq];rfl⟩
    clear HI
    go_wp2
    go_quiet (fail)
    go_wp2
    go_roundg (l0.length-(kk+1))
    case measure=>omega
    case rel=>exact⟨kk+1,by omega,by omega,by go_num,⟨a1_⟩,⟨pw_cell_below (pw_below_drewN (Below.refl _ _) _) hb0,pw_cell_below (pw_below_drewN (Below.refl _ _) _) hb1,pw_cell_below (pw_below_drewN (Below.refl _ _) _) hb2⟩,HD⟩
  ·have hltz:¬(kk:Int)<(l0.length:Int):=by omega
   have hkl:kk=l0.length:=by omega
   have HD:Aside0 (impl_sharedHoles.has l0 x=false):=⟨by rw[HI.out,hkl,List.drop_length];rfl⟩
   clear HI hkl
   go_wp2
   go_ret
   exact⟨_,rfl,by rw[HD.out];rfl,HB.out⟩
set_option maxHeartbeats 8000000 in
set_option maxRecDepth 100000 in
theorem impl_sharedHoles.cont (A0:Option Addr) (c0:Nat) (l0:List S42) (x:S42) (w:World) (hr0:Kd.C k42 w A0 l0.length l0) :
 Calls Try.prog 106 #[.slice A0 l0.length c0, .agg #[.int .i64 x.f0, .int .i64 x.f1, .int .i64 x.f2]] w fun e w'=>e = .returned (.bool (impl_sharedHoles.has l0 x))∧Below w.heap.size w w':=by
 have HR0:=am_ hr0
 clear hr0
 go_enter Try.func106,Try.ntmps106
 go_wp2_with (go_at_call 117;refine(impl_sharedHoles.idx A0 c0 l0 x _ (Kd.C_below HR0.out (below_alloc (Below.refl _ _) _))).mono ?_;rintro e w' ⟨r,rfl,hr,hb⟩)
 go_ret
 exact⟨by rw[← hr];rfl,below_then (below_alloc (Below.refl _ _) _) (by simp) hb⟩
set_option maxHeartbeats 8000000 in
set_option maxRecDepth 100000 in
theorem impl_sharedHoles.clo (B:Nat) (A1:Option Addr) (c1:Nat) (l1:List S42) (x:S42) (b:Bool) (W:World) (hB:B<W.heap.size) (hc:W.cell? ⟨B,0,none⟩=some (.slice A1 l1.length c1)) (hC:Kd.C k42 W A1 l1.length l1) (hb:impl_sharedHoles.out l1 x=b) :
 Calls Try.prog 122 #[.agg #[.int .i64 x.f0, .int .i64 x.f1, .int .i64 x.f2], .pointer (some ⟨B,0,none⟩)] W fun e w'=>e = .returned (.bool b)∧Below W.heap.size W w':=by
 have hc2:∀o:Obj,(W.alloc o).cell? ⟨B,0,none⟩=some (.slice A1 l1.length c1):=fun o=>(World.cell?_alloc_lt _ _ _ hB).trans hc
 have HR:=am_ hC
 clear hC
 go_enter Try.func122,Try.ntmps122
 go_wp2_with (go_at_call 106;refine(impl_sharedHoles.cont A1 c1 l1 x _ (Kd.C_below HR.out (below_alloc (Below.refl _ _) _))).mono ?_;rintro e w' ⟨rfl,hb'⟩)
 go_ret
 exact⟨by rw[← hb];rfl,below_then (below_alloc (Below.refl _ _) _) (by simp) hb'⟩
def impl_sharedHoles.at (p:S42→Bool):Int→List S42→Int
 | _, []=> -1
 | i,x :: l=>if p x=true then i else impl_sharedHoles.at p (i+1) l
theorem impl_sharedHoles.at_spec (p:S42→Bool) (l:List S42):∀i:Int,(impl_sharedHoles.at p i l = -1∧l.filter (fun x=> !p x)=l)∨∃pre x suf,l=pre ++ x :: suf∧impl_sharedHoles.at p i l=i+pre.length∧pre.filter (fun x=> !p x)=pre∧p x=true:=by
 induction l with
 | nil=>intro i;exact .inl ⟨rfl,rfl⟩
 | cons x l ih=>
  intro i
  by_cases c:p x=true
  ·exact .inr ⟨[],x,l,rfl,by simp[impl_sharedHoles.at,c],rfl,c⟩
  ·rcases ih (i+1) with ⟨h1,h2⟩ | ⟨pre,y,suf,h1,h2,h3,h4⟩
   ·exact .inl ⟨by rw[impl_sharedHoles.at,if_neg c,h1],by rw[List.filter_cons_of_pos (by simpa using c),h2]⟩
   ·exact .inr ⟨x :: pre,y,suf,by rw[h1];rfl,by rw[impl_sharedHoles.at,if_neg c,h2,List.length_cons];omega,by rw[List.filter_cons_of_pos (by simpa using c),h3],h4⟩
set_option maxHeartbeats 8000000 in
set_option maxRecDepth 100000 in
theorem impl_sharedHoles.first(A0:Option Addr) (c0:Nat) (l0:List S42) (B:Nat) (A1:Option Addr) (c1:Nat) (l1:List S42) (w:World) (hB:B<w.heap.size) (hcB:w.cell? ⟨B,0,none⟩=some (.slice A1 l1.length c1)) (hr1:Kd.C k42 w A1 l1.length l1) (hr0:Kd.C k42 w A0 l0.length l0) :
 Calls Try.prog 116 #[.slice A0 l0.length c0, .func (.func 122) #[] #[.pointer (some ⟨B,0,none⟩)]] w fun e w'=>e = .returned (.int .i64 (impl_sharedHoles.at (impl_sharedHoles.out l1) 0 l0))∧Below w.heap.size w w':=by
 have HR0:=am_ hr0
 have HR1:=am_ hr1
 have HCB:=am_ hcB
 clear hr0 hr1 hcB
 have hmax:=HR0.out.2.1
 have eg:=enters_of (P:=Try.prog) Try.func122 (by kernel_rfl) rfl
 go_enter Try.func116,Try.ntmps116
 go_wp2
 go_loopg [5,8] l0.length (fun gg _ s8 wr=>∃kk:Nat,kk≤l0.length∧l0.length-kk≤gg∧s8 = .int .i64 kk∧Aside0 (Below w.heap.size w wr)∧Aside0 (impl_sharedHoles.at (impl_sharedHoles.out l1) 0 l0=impl_sharedHoles.at (impl_sharedHoles.out l1) kk (l0.drop kk)))
 case atStart=>exact⟨0,Nat.zero_le _,by omega,rfl,⟨Below.refl _ w⟩,⟨rfl⟩⟩
 case round=>
  obtain⟨kk,hkk,hg,rfl,HB,HI⟩:=hrel
  by_cases hlt:kk<l0.length
  ·have hltz:(kk:Int)<(l0.length:Int):=by omega
   obtain⟨ad,e1,hx0,hx1,hx2⟩:=at_T42 HR0.out (kk:Int) (by omega) hltz
   cases e1
   simp only[Int.toNat_natCast]at hx0 hx1 hx2
   replace hx0:=(HB.out.cell (World.block_lt_of_cell? w _ hx0)).trans hx0
   replace hx1:=(HB.out.cell (World.block_lt_of_cell? w _ hx1)).trans hx1
   replace hx2:=(HB.out.cell (World.block_lt_of_cell? w _ hx2)).trans hx2
   have hdrop:=impl_sharedHoles.step l0 kk hlt
   have hsz:w.heap.size≤wr.heap.size:=HB.out.size
   cases hq:impl_sharedHoles.out l1 (rd_T42 l0 (kk:Int)) with
   | true=>
    have hcall:=impl_sharedHoles.clo B A1 c1 l1 (rd_T42 l0 (kk:Int)) true wr (by omega) (pw_cell_below HB.out HCB.out) (Kd.C_below HR1.out HB.out) hq
    have HD:Aside0 (impl_sharedHoles.at (impl_sharedHoles.out l1) 0 l0=(kk:Int)):=⟨by rw[HI.out,hdrop];simp only[impl_sharedHoles.at];rw[if_pos hq]⟩
    clear hq hdrop HI
    go_wp2_with (go_at_call 122;refine hcall.mono ?_;rintro e w' ⟨rfl,hb'⟩)
    go_ret
    exact⟨by rw[HD.out];rfl,below_then HB.out hsz hb'⟩
   | false=>
    have hcall:=impl_sharedHoles.clo B A1 c1 l1 (rd_T42 l0 (kk:Int)) false wr (by omega) (pw_cell_below HB.out HCB.out) (Kd.C_below HR1.out HB.out) hq
    have HD:Aside0 (impl_sharedHoles.at (impl_sharedHoles.out l1) 0 l0=impl_sharedHoles.at (impl_sharedHoles.out l1) ((kk+1:Nat):Int) (l0.drop (kk+1))):=⟨by rw[HI.out,hdrop];simp only[impl_sharedHoles.at];rw[if_neg (by rw[hq];decide)];simp⟩
    clear hq hdrop HI
    go_wp2_with (go_at_call 122;refine hcall.mono ?_;rintro e w' ⟨rfl,hb'⟩)
    go_roundg (l0.length-(kk+1))
    case measure=>omega
    case rel=>exact⟨kk+1,by omega,by omega,by go_num,⟨below_then HB.out hsz hb'⟩,HD⟩
  ·have hltz:¬(kk:Int)<(l0.length:Int):=by omega
   have hkl:kk=l0.length:=by omega
   have HD:Aside0 (impl_sharedHoles.at (impl_sharedHoles.out l1) 0 l0 = -1):=⟨by rw[HI.out,hkl,List.drop_length];rfl⟩
   clear HI hkl
   go_wp2
   go_ret
   exact⟨by rw[HD.out];rfl,HB.out⟩
/-- The tail is cleared: zero cells are written, whatever they are. -/
theorem impl_sharedHoles.clear (W:World) (g o n c:Nat) (hn:0<n) (hc:∀j,j<n*3→(W.cell? ⟨g,o+j,none⟩).isSome=true) (hf:∀j,j<n*3→W.frozen? ⟨g,o+j,none⟩=false) :
 ∃zs:List Value,zs.length=n*3∧∀ty,(Builtin.clear_ #[32] ty #[.slice (some ⟨g,o,none⟩) n c]).run Try.prog W = .ok (.tuple #[]) (W.setCells g o zs):=by
 have hv:∀w,(zeroValue 42).run Try.prog w = .ok (.agg #[(.int .i64 0),(.int .i64 0),(.int .i64 0)]) w:=by intro w;go_simp
 have hl:(Builtin.zeroCells (Value.cells (.agg #[(.int .i64 0),(.int .i64 0),(.int .i64 0)])) n).toList.length=n*3:=by simp[Builtin.zeroCells,Value.cells]
 have h1:∀v∈(Builtin.zeroCells (Value.cells (.agg #[(.int .i64 0),(.int .i64 0),(.int .i64 0)])) n).toList,v.oneCell'=true:=by
  intro v hv'
  simp only[Builtin.zeroCells,Array.toList_map,List.mem_map]at hv'
  obtain⟨i,_,rfl⟩:=hv'
  have hs:(Value.cells (.agg #[(.int .i64 0),(.int .i64 0),(.int .i64 0)])).size=3:=rfl
  rw[hs]
  rcases (show i % 3=0∨i % 3=1∨i % 3=2 by omega) with h | h | h<;>rw[h]<;>rfl
 have hst:=run_storeCells_cells (P:=Try.prog) g o (Builtin.zeroCells (Value.cells (.agg #[(.int .i64 0),(.int .i64 0),(.int .i64 0)])) n).toList 0 W (by simpa only[hl,Nat.add_zero] using hc) (by simpa only[hl,Nat.add_zero] using hf) h1
 simp only[Nat.add_zero]at hst
 refine⟨_,hl,fun ty=>?_⟩
 obtain⟨m,rfl⟩:∃m,n=m+1:=⟨n-1,by omega⟩
 simp[Builtin.clear_,run_underlying Try.underlying32,hv,hst]
/-- What stands behind the first i elements may be written over: the first i are a row still. -/
theorem impl_sharedHoles.cut (W:World) (base g n cap i:Nat) (ys:List S42) (zs:List Value) (HO:Kd.R k42 42 W base (fun _=>True) (.slice (some ⟨g,0,none⟩) n cap) ys) (hi:i≤n) (hz:i*3+zs.length≤cap*3) :
 Kd.R k42 42 (W.setCells g (i*3) zs) base (fun _=>True) (.slice (some ⟨g,0,none⟩) i cap) (ys.take i):=by
 have hn:=(Kd.R_reads' HO).1
 obtain⟨hok,inner,hown,hr⟩:=Kd.R_take (m:=i) HO (by omega)
 have hsz:(k42).sz=3:=rfl
 have hlt:(ys.take i).length=i:=by rw[List.length_take];omega
 rcases hown.2 with ⟨hv,_⟩ | ⟨g',cap',cur,hv,hb,hh,hnc,hcm,hcs,htake⟩
 ·cases hv
 injection hv with ha _ hc
 injection ha with ha
 injection ha with hg
 subst hg;subst hc
 rw[hsz]at hcs htake
 obtain⟨cur',h3,h4,h5⟩:=setCells_row zs (i*3) W cur hh (by omega)
 have hfar:∀k',k'≠g→(W.setCells g (i*3) zs).heap[k']? = W.heap[k']? := fun k' hk'=>setCells_far zs _ k' hk'
 refine⟨hok,inner,⟨hown.1, .inr ⟨g,cap,cur',by rw[hlt],hb,h3,hnc,hcm,by rw[h4,hcs,hsz],?_⟩⟩,hr.imp_ (fun p q hp=>Kd.M_move _ (fun k' hk'=>hfar k' (fun he=>hk'.2 (by rw[he];simp[Value.ownBlock]))) hp)⟩
 rw[hsz,hlt,h5]
 rw[hlt]at htake
 rw[← htake,List.append_assoc,List.take_append_of_le_length (by rw[List.length_take,Array.length_toList];omega)]
 rw[List.take_take,Nat.min_self]
theorem impl_sharedHoles.takeset (ys:List S42) (i:Nat) (y:S42) (h:i<ys.length):(ys.set i y).take (i+1)=ys.take i ++ [y]:=by
 obtain⟨pre,x,suf,rfl,rfl⟩:∃pre x suf,ys=pre ++ x :: suf∧pre.length=i:=⟨ys.take i,ys[i],ys.drop (i+1),by simp,by simp;omega⟩
 rw[List.set_append_right _ _ (Nat.le_refl _)]
 rw[List.take_append,List.take_of_length_le (by omega),List.take_left]
 simp
set_option maxHeartbeats 2000000 in
set_option maxRecDepth 100000 in
theorem impl_sharedHoles.del (B:Nat) (A1:Option Addr) (c1:Nat) (l1:List S42) (w1:World) (hB:B<w1.heap.size) (hcB:w1.cell? ⟨B,0,none⟩=some (.slice A1 l1.length c1)) (hr1:Kd.C k42 w1 A1 l1.length l1) (W:World) (v:Value) (xs:List S42)
 (hO:Kd.R k42 42 W w1.heap.size (fun _=>True) v xs) (hBW:Below w1.heap.size w1 W) :
 Calls Try.prog 104 #[v, .func (.func 122) #[] #[.pointer (some ⟨B,0,none⟩)]] W fun e w'=>∃v0,e = .returned v0∧Kd.R k42 42 w' w1.heap.size (fun _=>True) v0 (xs.filter fun x=> !impl_sharedHoles.out l1 x)∧Below w1.heap.size w1 w':=by
 obtain⟨A0,c0,rfl,hc0,hC0⟩:=Kd.R_reads hO
 have hlt1:w1.heap.size≤W.heap.size:=hBW.size
 have HR1:=am_ hr1
 have HCB:=am_ hcB
 have HO:=am_ hO
 have HB:=am_ hBW
 have hmax:=hC0.2.1
 have eg:=enters_of (P:=Try.prog) Try.func122 (by kernel_rfl) rfl
 have hcall:=impl_sharedHoles.first A0 c0 xs B A1 c1 l1 W (by omega) (pw_cell_below hBW hcB) (Kd.C_below hr1 hBW) hC0
 clear hcB hr1 hO hBW hC0
 rcases impl_sharedHoles.at_spec (impl_sharedHoles.out l1) xs 0 with ⟨h1,h2⟩ | ⟨pre,x0,suf,h1,h2,h3,h4⟩
 ·rw[h1]at hcall
  have HF:=am_ h2
  clear h1 h2
  go_enter Try.func104,Try.ntmps104
  go_wp2_with (go_at_call 116;refine hcall.mono ?_;rintro e w' ⟨rfl,hb'⟩)
  go_ret
  exact⟨_,rfl,by rw[HF.out];exact Kd.R_below HO.out hb',below_step HB.out hb'⟩
 ·rw[h2,Int.zero_add]at hcall
  have hxl:xs.length=pre.length+(suf.length+1):=by rw[h1];simp
  have HF:=am_ h1
  have HF3:=am_ h3
  have HF4:=am_ h4
  clear h1 h2 h3 h4
  obtain⟨g,cap,eq1,hbase,hglt,hcap⟩:=Kd.R_form HO.out (by omega)
  obtain⟨rfl,rfl⟩:A0=some ⟨g,0,none⟩∧c0=cap:=by injection eq1 with e1 e2 e3;exact⟨e1,e3⟩
  clear eq1
  have HXL:=am_ hxl
  have hw1:wrap64 ((pre.length:Int)+1)=((pre.length+1:Nat):Int):=by unfold wrap64;omega
  have HW1:=am_ hw1
  clear hxl hw1
  have hne1:((pre.length:Int) == -1)=false:=beq_eq_false_iff_ne.2 (by omega)
  go_enter Try.func104,Try.ntmps104
  go_wp2_with (go_at_call 116;refine hcall.mono ?_;rintro e w2 ⟨rfl,hb'⟩;have n0_:=am_ (Kd.R_below HO.out hb');have n1_:=am_ (below_step HB.out hb');clear HO HB hb' hcall;have HO:=n0_;have HB:=n1_;clear n0_ n1_)
  go_loopg [5,6,7] xs.length (fun gg s5 s6 _ wr=>∃(i j:Nat) (ys:List S42),s5 = .int .i64 i∧s6 = .int .i64 j∧i<j∧j≤xs.length∧xs.length-j≤gg∧ys.length=xs.length∧Aside0 (ys.take i=(xs.take j).filter fun x=> !impl_sharedHoles.out l1 x)∧Aside0 (ys.drop j=xs.drop j)∧Aside0 (Kd.R k42 42 wr w1.heap.size (fun _=>True) (.slice (some ⟨g,0,none⟩) xs.length c0) ys)∧Aside0 (Below w1.heap.size w1 wr))
  case atStart=>have hxl:=HXL.out;exact⟨pre.length,pre.length+1,xs,rfl,(a65_ HW1.out),by omega,by omega,by omega,rfl,⟨by rw[HF.out,List.take_left,List.take_append,List.take_of_length_le (by omega)];simp[HF3.out,HF4.out]⟩,⟨rfl⟩,HO,HB⟩
  case round=>
   obtain⟨i,j,ys,rfl,rfl,hij,hjn,hgg,hyl,HT,HD,HO,HB⟩:=hrel
   have hsz:w1.heap.size≤wr.heap.size:=HB.out.size
   by_cases hlt:j<xs.length
   ·have hltz:(j:Int)<(xs.length:Int):=by omega
    have hiz:(i:Int)<(xs.length:Int):=by omega
    obtain⟨ce,hcl,hM,hcc,hfr⟩:=Kd.R_elem HO.out z42 (j:Int) (by omega) (by omega)
    obtain rfl:=k42_openM hM
    have hx0:=hcc 0 _ rfl
    have hx1:=hcc 1 _ rfl
    have hx2:=hcc 2 _ rfl
    clear hcl hM hcc hfr
    simp only[Int.toNat_natCast,show(k42).sz=3 from rfl,Nat.add_zero]at hx0 hx1 hx2
    obtain⟨y,hy⟩:∃y,y=ys.getD j z42:=⟨_,rfl⟩
    rw[← hy]at hx0 hx1 hx2
    have hyx:xs.drop j=y :: xs.drop (j+1):=by
     rw[← HD.out,List.drop_eq_getElem_cons (by omega),hy]
     have e1:ys.drop (j+1)=xs.drop (j+1):=by
      have:=congrArg (List.drop 1) HD.out
      rwa [List.drop_drop,List.drop_drop]at this
     rw[e1,List.getD_eq_getElem?_getD,List.getElem?_eq_getElem (by omega)];rfl
    have hD1:ys.drop (j+1)=xs.drop (j+1):=by
     have:=congrArg (List.drop 1) HD.out
     rwa [List.drop_drop,List.drop_drop]at this
    have hT1:xs.take (j+1)=xs.take j ++ [y]:=by
     have e2:xs[j]? = some y:=by
      have:=congrArg (fun q=>q[0]?) hyx
      simpa using this
     rw[List.take_add_one,e2];rfl
    have HYX:=am_ hT1
    have HD1:=am_ hD1
    clear hy hyx hT1 hD1
    have hB3:B<wr.heap.size:=by omega
    have hw1:wrap64 ((j:Int)+1)=((j+1:Nat):Int):=by unfold wrap64;omega
    have hw2:wrap64 ((i:Int)+1)=((i+1:Nat):Int):=by unfold wrap64;omega
    have HW1:=am_ hw1
    have HW2:=am_ hw2
    clear hw1 hw2
    cases hq:impl_sharedHoles.out l1 y with
    | true=>
     have HQ:=am_ hq
     clear hq
     go_wp2_with (first
      |((with_reducible refine gate_dst (N:=7) rfl ?_);refine box_event ?hg (N:=7) ?hd (cs:= #[.int .i64 0, .int .i64 0, .int .i64 0]) (t:=42) ?hr ?_;(case hd=>rfl);(case hg=>rfl);(case hr=>exact hr_);intro gb hgb w2 hbox hb;have n0_:=am_ (Kd.R_below (Kd.R_elderB HO.out gb (Nat.le_of_eq hgb.symm)) hb);have n1_:=am_ (below_step HB.out hb);have BK:=am_ hbox;have GB:=am_ (show w1.heap.size≤gb by rw[hgb];exact HB.out.size);have GW:=am_ (show B<w2.heap.size from Nat.lt_of_lt_of_le hB3 hb.size);clear HO HB;have HO:=n0_;have HB:=n1_;clear n0_ n1_ hb hbox hgb hB3 hx0 hx1 hx2;have hcz0:w2.cell? ⟨gb,0,none⟩=some (.int .i64 0):=(blk_cell BK.out 0).trans rfl;have hcz1:w2.cell? ⟨gb,1,none⟩=some (.int .i64 0):=(blk_cell BK.out 1).trans rfl;have hcz2:w2.cell? ⟨gb,2,none⟩=some (.int .i64 0):=(blk_cell BK.out 2).trans rfl;have hfz0:=blk_frozen BK.out 0;have hfz1:=blk_frozen BK.out 1;have hfz2:=blk_frozen BK.out 2)
      |((with_reducible refine gate_store (t:=42) (p:=7) rfl ?_);refine store_event (t:=42) (p:=7) (v:=?vo_w3) (w1:=(((w2.setCell ⟨gb,0,none⟩ (.int .i64 y.f0)).setCell ⟨gb,1,none⟩ (.int .i64 y.f1)).setCell ⟨gb,2,none⟩ (.int .i64 y.f2))) ?hg ?ho ?hn ?hr ?_;(case ho=>rfl);(case hg=>rfl);(case hn=>rfl);(case hr=>exact hr_);intro w3 hw;have BK3:Aside0 (w3.heap[gb]? = some (.cells #[.int .i64 y.f0, .int .i64 y.f1, .int .i64 y.f2] 42 (0,0))):=⟨by rw[hw];exact(blk_set (blk_set (blk_set BK.out 0 _) 1 _) 2 _).trans rfl⟩;have n0_:=am_ (show Kd.R k42 42 w3 w1.heap.size (fun k=>True∧k≠gb) (.slice (some ⟨g,0,none⟩) xs.length c0) ys from by rw[hw];exact Kd.R_far (Kd.R_far (Kd.R_far HO.out (p:=⟨gb,0,none⟩) (fun k hk=>hk.2) _) (p:=⟨gb,1,none⟩) (fun k hk=>hk.2) _) (p:=⟨gb,2,none⟩) (fun k hk=>hk.2) _);have n1_:=am_ (show Below w1.heap.size w1 w3 from by rw[hw];exact below_set (below_set (below_set HB.out GB.out) GB.out) GB.out);have GW3:=am_ (show B<w3.heap.size from Nat.lt_of_lt_of_le hB n1_.out.size);clear HO HB BK GW;have HO:=n0_;have HB:=n1_;clear n0_ n1_ hw hcz0 hcz1 hcz2 hfz0 hfz1 hfz2;have hv0:w3.cell? ⟨gb,0,none⟩=some (.int .i64 y.f0):=(blk_cell BK3.out 0).trans rfl;have hv1:w3.cell? ⟨gb,1,none⟩=some (.int .i64 y.f1):=(blk_cell BK3.out 1).trans rfl;have hv2:w3.cell? ⟨gb,2,none⟩=some (.int .i64 y.f2):=(blk_cell BK3.out 2).trans rfl)
      |(go_at_call 122;refine(impl_sharedHoles.clo B A1 c1 l1 y true _ GW3.out (pw_cell_below HB.out HCB.out) (Kd.C_below HR1.out HB.out) HQ.out).mono ?_;rintro e w4 ⟨rfl,hb4⟩;have n0_:=am_ (Kd.R_below HO.out hb4);have n1_:=am_ (below_step HB.out hb4);clear HO HB;have HO:=n0_;have HB:=n1_;clear n0_ n1_ hb4 hv0 hv1 hv2))
     go_roundg (xs.length-(j+1))
     case measure=>omega
     case rel=>exact⟨i,j+1,ys,rfl,(a65_ HW1.out),by omega,by omega,Nat.le_refl _,hyl,⟨by rw[HYX.out,List.filter_append, ← HT.out];simp[HQ.out]⟩,HD1,⟨Kd.R_mono HO.out (fun _ _=>trivial)⟩,HB⟩
    | false=>
     have HQ:=am_ hq
     clear hq
     go_wp2_with (first
      |((with_reducible refine gate_dst (N:=7) rfl ?_);refine box_event ?hg (N:=7) ?hd (cs:= #[.int .i64 0, .int .i64 0, .int .i64 0]) (t:=42) ?hr ?_;(case hd=>rfl);(case hg=>rfl);(case hr=>exact hr_);intro gb hgb w2 hbox hb;have n0_:=am_ (Kd.R_below (Kd.R_elderB HO.out gb (Nat.le_of_eq hgb.symm)) hb);have n1_:=am_ (below_step HB.out hb);have BK:=am_ hbox;have GB:=am_ (show w1.heap.size≤gb by rw[hgb];exact HB.out.size);have GW:=am_ (show B<w2.heap.size from Nat.lt_of_lt_of_le hB3 hb.size);clear HO HB;have HO:=n0_;have HB:=n1_;clear n0_ n1_ hb hbox hgb hB3 hx0 hx1 hx2;have hcz0:w2.cell? ⟨gb,0,none⟩=some (.int .i64 0):=(blk_cell BK.out 0).trans rfl;have hcz1:w2.cell? ⟨gb,1,none⟩=some (.int .i64 0):=(blk_cell BK.out 1).trans rfl;have hcz2:w2.cell? ⟨gb,2,none⟩=some (.int .i64 0):=(blk_cell BK.out 2).trans rfl;have hfz0:=blk_frozen BK.out 0;have hfz1:=blk_frozen BK.out 1;have hfz2:=blk_frozen BK.out 2)
      |((with_reducible refine gate_store (t:=42) (p:=7) rfl ?_);refine store_event (t:=42) (p:=7) (v:=?vo_w3) (w1:=(((w2.setCell ⟨gb,0,none⟩ (.int .i64 y.f0)).setCell ⟨gb,1,none⟩ (.int .i64 y.f1)).setCell ⟨gb,2,none⟩ (.int .i64 y.f2))) ?hg ?ho ?hn ?hr ?_;(case ho=>rfl);(case hg=>rfl);(case hn=>rfl);(case hr=>exact hr_);intro w3 hw;have BK3:Aside0 (w3.heap[gb]? = some (.cells #[.int .i64 y.f0, .int .i64 y.f1, .int .i64 y.f2] 42 (0,0))):=⟨by rw[hw];exact(blk_set (blk_set (blk_set BK.out 0 _) 1 _) 2 _).trans rfl⟩;have n0_:=am_ (show Kd.R k42 42 w3 w1.heap.size (fun k=>True∧k≠gb) (.slice (some ⟨g,0,none⟩) xs.length c0) ys from by rw[hw];exact Kd.R_far (Kd.R_far (Kd.R_far HO.out (p:=⟨gb,0,none⟩) (fun k hk=>hk.2) _) (p:=⟨gb,1,none⟩) (fun k hk=>hk.2) _) (p:=⟨gb,2,none⟩) (fun k hk=>hk.2) _);have n1_:=am_ (show Below w1.heap.size w1 w3 from by rw[hw];exact below_set (below_set (below_set HB.out GB.out) GB.out) GB.out);have GW3:=am_ (show B<w3.heap.size from Nat.lt_of_lt_of_le hB n1_.out.size);clear HO HB BK GW;have HO:=n0_;have HB:=n1_;clear n0_ n1_ hw hcz0 hcz1 hcz2 hfz0 hfz1 hfz2;have hv0:w3.cell? ⟨gb,0,none⟩=some (.int .i64 y.f0):=(blk_cell BK3.out 0).trans rfl;have hv1:w3.cell? ⟨gb,1,none⟩=some (.int .i64 y.f1):=(blk_cell BK3.out 1).trans rfl;have hv2:w3.cell? ⟨gb,2,none⟩=some (.int .i64 y.f2):=(blk_cell BK3.out 2).trans rfl)
      |(go_at_call 122;refine(impl_sharedHoles.clo B A1 c1 l1 y false _ GW3.out (pw_cell_below HB.out HCB.out) (Kd.C_below HR1.out HB.out) HQ.out).mono ?_;rintro e w4 ⟨rfl,hb4⟩;have n0_:=am_ (Kd.R_below HO.out hb4);have n1_:=am_ (below_step HB.out hb4);clear HO HB;have HO:=n0_;have HB:=n1_;clear n0_ n1_;replace hv0:=pw_cell_below hb4 hv0;replace hv1:=pw_cell_below hb4 hv1;replace hv2:=pw_cell_below hb4 hv2;clear hb4;obtain⟨ce,hcl,hM,hcc,hfr⟩:=Kd.R_elem HO.out z42 (i:Int) (Int.natCast_nonneg i) hiz;obtain rfl:=k42_openM hM;have HP:=am_ (Kd.R_seg (Kd.R_mono HO.out (ok':=fun _=>True) (fun _ _=>trivial)) (i:Int) (Int.natCast_nonneg i) hiz (seg:=[.int .i64 y.f0, .int .i64 y.f1, .int .i64 y.f2]) (j:=0) hcl hcc (show 3≤3 from by decide) (x':=y) (okp:=fun k=>True∧k≠g) (k42_mkM _ _ _ y) (fun _ hk=>hk));have he0:=hcc 0 _ rfl;have he1:=hcc 1 _ rfl;have he2:=hcc 2 _ rfl;have hf0:=hfr 0;have hf1:=hfr 1;have hf2:=hfr 2;clear hcl hM hcc hfr;simp only[Int.toNat_natCast,show(k42).sz=3 from rfl,Nat.add_zero]at he0 he1 he2 hf0 hf1 hf2)
      |((with_reducible refine gate_store (t:=42) (p:=33) rfl ?_);refine store_event (t:=42) (p:=33) (v:=?vo_w5) (w1:=(((w4.setCell ⟨g,i*3,none⟩ (.int .i64 y.f0)).setCell ⟨g,i*3+1,none⟩ (.int .i64 y.f1)).setCell ⟨g,i*3+2,none⟩ (.int .i64 y.f2))) ?hg ?ho ?hn ?hr ?_;(case ho=>rfl);(case hg=>rfl);(case hn=>rfl);(case hr=>exact hr_);intro w5 hw;have n0_:=am_ (show Kd.R k42 42 w5 w1.heap.size (fun _=>True) (.slice (some ⟨g,0,none⟩) xs.length c0) (ys.set i y) from by rw[hw];exact HP.out.1);have n1_:=am_ (show Below w1.heap.size w1 w5 from by rw[hw];exact below_set (below_set (below_set HB.out hbase) hbase) hbase);clear HO HB HP;have HO:=n0_;have HB:=n1_;clear n0_ n1_ hw he0 he1 he2 hf0 hf1 hf2 hv0 hv1 hv2))
     go_roundg (xs.length-(j+1))
     case measure=>omega
     case rel=>exact⟨i+1,j+1,ys.set i y,(a65_ HW2.out),(a65_ HW1.out),by omega,by omega,Nat.le_refl _,by rw[List.length_set];exact hyl,⟨by rw[HYX.out,List.filter_append, ← HT.out,impl_sharedHoles.takeset ys i y (by omega)];simp[HQ.out]⟩,⟨by rw[List.drop_set_of_lt (by omega)];exact HD1.out⟩,HO,HB⟩
   ·obtain rfl:j=xs.length:=by omega
    have hltz:¬(xs.length:Int)<(xs.length:Int):=by omega
    have hn0:0<xs.length-i:=by omega
    have hic:i≤c0:=by omega
    have hicz:(i:Int)≤(c0:Int):=by omega
    have hinz:(i:Int)≤(xs.length:Int):=by omega
    have hne2:¬c0=i:=by omega
    obtain⟨cur,hcur,hcs⟩:∃cur,wr.heap[g]? = some (.cells cur 42 (0,0))∧cur.size=c0*3:=by
     obtain⟨_,inner,hown,_⟩:=HO.out
     rcases hown.2 with ⟨hv,_⟩ | ⟨g',cap',cur,hv,hb,hh,hnc,hcm,hcs,htake⟩
     ·cases hv
     injection hv with ha _ hc
     injection ha with ha
     injection ha with hg
     subst hg;subst hc
     exact⟨cur,hh,hcs⟩
    obtain⟨zs,hzl,hcl⟩:=impl_sharedHoles.clear wr g (i*3) (xs.length-i) (c0-i) hn0 (fun q hq=>by rw[blk_cell hcur,Array.getElem?_eq_getElem (by omega)];rfl) (fun q hq=>blk_frozen hcur _)
    have hz2:i*3+zs.length≤c0*3:=by omega
    have HX:=am_ (impl_sharedHoles.cut wr w1.heap.size g xs.length c0 i ys zs HO.out (by omega) hz2)
    have HBX:Aside0 (Below w1.heap.size w1 (wr.setCells g (i*3) zs)):=⟨by
     obtain⟨s1,s2,s3,s4⟩:=setCells_same g zs (i*3) wr
     exact pw_below_grown HB.out (some g) hsz ⟨s1,s2,s3,by rw[s4];exact Nat.le_refl _,fun k _ hk=>setCells_far _ _ k (fun he=>hk (by rw[he]))⟩ (fun k hk=>by injection hk with hk;rw[← hk];exact hbase)⟩
    have HTX:Aside0 (ys.take i=xs.filter fun x=> !impl_sharedHoles.out l1 x):=⟨by rw[HT.out,List.take_length]⟩
    clear HT HD hcur hcs hzl hz2
    go_wp2
    go_ret
    exact⟨_,rfl,by rw[← HTX.out];exact HX.out,HBX.out⟩
set_option maxHeartbeats 4000000 in
set_option maxRecDepth 100000 in
theorem impl_sharedHoles.calls (A0:Option Addr) (c0:Nat) (l0:List S42) (A1:Option Addr) (c1:Nat) (l1:List S42) (r:List S42) (w:World) (hr0:Kd.C k42 w A0 l0.length l0) (hc0:l0.length≤c0) (hr1:Kd.C k42 w A1 l1.length l1) (hc1:l1.length≤c1) (h:impl_sharedHoles.f l0 l1=some r) :
 Calls Try.prog 109 #[.slice A0 l0.length c0, .slice A1 l1.length c1] w fun e w'=>∃v0_:Value,e = .returned (v0_)∧Kd.R k42 42 w' w.heap.size (fun _=>True) v0_ r∧Below w.heap.size w w':=by
 unfold impl_sharedHoles.f at h
 by_cases hlen:l0.length<1000000000
 ·rw[if_pos hlen]at h
  obtain rfl:=Option.some.inj h
  have hcl:impl_Hole_66.f l0=some l0:=if_pos hlen
  clear h hlen
  have HR0:=am_ hr0
  have HR1:=am_ hr1
  have HC0:=am_ hc0
  have HCL:=am_ hcl
  clear hr0 hr1 hc0 hc1 hcl
  have HB:=am_ (Below.refl w.heap.size w)
  go_enter Try.func109,Try.ntmps109
  go_wp2_with (first
   |(go_at_call 66;refine(impl_Hole_66.calls A0 c0 l0 l0 _ (Kd.C_below HR0.out (below_alloc (Below.refl _ _) _)) HC0.out HCL.out).mono ?_;rintro e w2 ⟨v2,rfl,ho,hb⟩;have HO:=am_ ho;have HB2:=am_ hb;clear ho hb)
   |(go_at_call 104;refine(impl_sharedHoles.del w.heap.size A1 c1 l1 (w.alloc _) (by simp) (blk_cell (blk_new w _) 0) (Kd.C_below HR1.out (below_alloc (Below.refl _ _) _)) w2 v2 l0 HO.out HB2.out).mono ?_;rintro e w3 ⟨v3,rfl,ho,hb⟩;have HO3:=am_ ho;have HB3:=am_ hb;clear ho hb))
  go_ret
  exact⟨_,rfl,Kd.R_lower HO3.out (by simp),below_then (below_alloc (Below.refl _ _) _) (by simp) HB3.out⟩
 ·rw[if_neg hlen]at h
  exact absurd h (by simp)


/-! ### impl_firstMerged: function 87 -/
def impl_firstMerged.f (l0:List (S42)) (l1:List (S42)) (l2:List (S42)):Option ((List (S42))×(List (S42))):=(impl_sharedHoles.f l0 l1).bind fun t232=>((impl_sharedHoles.f t232 l2).bind fun t235=>((impl_lessHoles.f l1 l0).bind fun t238=>(if t235.length+t238.length<5864062014805 then((some (t235 ++ t238:List (S42))).bind fun y241=>((impl_lessHoles.f l2 l0).bind fun t244=>((impl_lessHoles.f t244 y241).bind fun t247=>(some (y241,t247))))) else(none))))
set_option maxHeartbeats 8000000 in
set_option maxRecDepth 100000 in
theorem impl_firstMerged.calls (A0:Option Addr) (c0:Nat) (l0:List (S42)) (A1:Option Addr) (c1:Nat) (l1:List (S42)) (A2:Option Addr) (c2:Nat) (l2:List (S42)) (r1:List (S42)) (r2:List (S42)) (w:World) (hr0:Kd.C k42 w A0 l0.length l0) (hc0:l0.length≤c0) (hr1:Kd.C k42 w A1 l1.length l1) (hc1:l1.length≤c1) (hr2:Kd.C k42 w A2 l2.length l2) (hc2:l2.length≤c2) (h:impl_firstMerged.f l0 l1 l2=some (r1,r2)) :
 Calls Try.prog 87 #[.slice A0 l0.length c0, .slice A1 l1.length c1, .slice A2 l2.length c2] w fun e w'=>∃v0_ v1_:Value,e = .returned (.tuple #[v0_,v1_])∧Kd.R k42 42 w' w.heap.size (fun k_=>some k_≠(v1_:Value).ownBlock) v0_ r1∧Kd.R k42 42 w' w.heap.size (fun k_=>some k_≠(v0_:Value).ownBlock) v1_ r2∧Below w.heap.size w w':=by
 have HR0:=am_ hr0
 have HC0:=am_ hc0
 clear hr0 hc0
 have HR1:=am_ hr1
 have HC1:=am_ hc1
 clear hr1 hc1
 have HR2:=am_ hr2
 have HC2:=am_ hc2
 clear hr2 hc2
 have HB:=am_ (Below.refl w.heap.size w)
 have H:((impl_sharedHoles.f l0 l1).bind fun t232=>((impl_sharedHoles.f t232 l2).bind fun t235=>((impl_lessHoles.f l1 l0).bind fun t238=>(if t235.length+t238.length<5864062014805 then((some (t235 ++ t238:List (S42))).bind fun y241=>((impl_lessHoles.f l2 l0).bind fun t244=>((impl_lessHoles.f t244 y241).bind fun t247=>(some (y241,t247))))) else(none)))))=some (r1,r2):=h
 clear h
 obtain⟨t232,A4,H⟩:=bo_ H
 try dsimp only at H
 obtain⟨t235,A5,H⟩:=bo_ H
 try dsimp only at H
 obtain⟨t238,A6,H⟩:=bo_ H
 try dsimp only at H
 by_cases c7:t235.length+t238.length<5864062014805
 ·rw[if_pos c7]at H
  have LMc7:=am_ c7
  clear c7
  obtain⟨y241,hy241⟩:∃y_:List (S42),y_=(t235 ++ t238):=⟨_,rfl⟩
  replace H:((impl_lessHoles.f l2 l0).bind fun t244=>((impl_lessHoles.f t244 y241).bind fun t247=>(some (y241,t247))))=some (r1,r2):=by first|(rw[hy241];with_reducible exact H)|(have H2_:=(Option.bind_some _ _).symm.trans H;rw[hy241];with_reducible exact H2_)|(have H2_:=(Option.bind_some _ _).symm.trans H;with_reducible exact H2_) | with_reducible exact H|(rw[hy241];exact H)|exact H
  have Ny241:=am_ hy241
  clear hy241
  obtain⟨t244,A8,H⟩:=bo_ H
  try dsimp only at H
  obtain⟨t247,A9,H⟩:=bo_ H
  try dsimp only at H
  simp only[Option.some.injEq,Prod.mk.injEq]at H
  obtain⟨rfl,rfl⟩:=H
  go_enter Try.func87,Try.ntmps87
  go_wp2_with (first|((with_reducible refine gate_callee (f:=109) rfl ?_);refine goesL_ (some 11) rfl rfl Try.func109 (by kernel_rfl) rfl #[.slice A0 l0.length c0, .slice A1 l1.length c1] rfl gd_ ?_;(with_reducible refine(impl_sharedHoles.calls _ _ l0 _ _ l1 t232 _ ?side1 ?side2 ?side3 ?side4 A4.out).mono ?_);(case side1=>exact(a16_ HR0.out));(case side2=>exact HC0.out);(case side3=>exact(a16_ HR1.out));(case side4=>exact HC1.out);rintro e w10 ⟨v233,rfl,ho0,hb⟩;refine⟨_,rfl,?_⟩;have HO234:=am_ (Kd.R_lower ho0 (below_size (a1_)));replace HB:=am_ (below_step (a1_) hb);(try clear hb);(try clear hb2);(try clear hk);(try clear hi);(try clear ho0);obtain⟨Ao11,co11,eo11⟩:=Kd.R_slice HO234.out;subst eo11)|((with_reducible refine gate_callee (f:=109) rfl ?_);refine goesL_ (some 13) rfl rfl Try.func109 (by kernel_rfl) rfl #[.slice Ao11 t232.length co11, .slice A2 l2.length c2] rfl gd_ ?_;(with_reducible refine(impl_sharedHoles.calls _ _ t232 _ _ l2 t235 _ ?side1 ?side2 ?side3 ?side4 A5.out).mono ?_);(case side1=>exact(a4_ HO234.out));(case side2=>exact(Kd.R_reads' HO234.out).2.1);(case side3=>exact(a8_ HR2.out));(case side4=>exact HC2.out);rintro e w12 ⟨v236,rfl,ho0,hb⟩;refine⟨_,rfl,?_⟩;have HO237:=am_ (Kd.R_lower (Kd.R_new' ho0 (Kd.R_lt ((a0_ HO234.out)))) (below_size (a1_)));replace HO234:=am_ (Kd.R_elder' ((a0_ HO234.out)) (Kd.R_base ho0) hb);replace HB:=am_ (below_step (a1_) hb);(try clear hb);(try clear hb2);(try clear hk);(try clear hi);(try clear ho0))|((with_reducible refine gate_callee (f:=82) rfl ?_);refine goesL_ (some 16) rfl rfl Try.func82 (by kernel_rfl) rfl #[.slice A1 l1.length c1, .slice A0 l0.length c0] rfl gd_ ?_;(with_reducible refine(impl_lessHoles.calls _ _ l1 _ _ l0 t238 _ ?side1 ?side2 ?side3 ?side4 A6.out).mono ?_);(case side1=>exact(a8_ HR1.out));(case side2=>exact HC1.out);(case side3=>exact(a8_ HR0.out));(case side4=>exact HC0.out);rintro e w13 ⟨v239,rfl,ho0,hb⟩;refine⟨_,rfl,?_⟩;have HO240:=am_ (Kd.R_lower (Kd.R_new' (Kd.R_new' ho0 (Kd.R_lt ((a0_ HO234.out)))) (Kd.R_lt ((a0_ HO237.out)))) (below_size (a1_)));replace HO234:=am_ (Kd.R_elder' ((a0_ HO234.out)) (Kd.R_base ho0) hb);replace HO237:=am_ (Kd.R_elder' ((a0_ HO237.out)) (Kd.R_base ho0) hb);replace HB:=am_ (below_step (a1_) hb);(try clear hb);(try clear hb2);(try clear hk);(try clear hi);(try clear ho0);obtain⟨Ao15,co15,eo15⟩:=Kd.R_slice HO240.out;subst eo15)|((with_reducible refine gate_builtin (b:= .append) (xs:= #[.tmp 13, .tmp 16]) rfl ?_);at_builtin;refine Kd.R_append_rows k42 (w0:=w) w.heap.size rfl (.tmp 13) (.tmp 16) 32 42 (.agg #[(.int .i64 0),(.int .i64 0),(.int .i64 0)]) 24 rfl Try.underlying32 info42 rfl (by decide) (by omega) v236 t235 t238 _ _ _ (fun k_=>some k_≠(.slice Ao11 t232.length co11:Value).ownBlock∧some k_≠(.slice Ao15 t238.length co15:Value).ownBlock) (fun _=>False) rfl rfl ?aO ?aR (fun _ _ h=>h) (fun _ h=>h.elim) ?aF ?aB ?aS ?aL ?_;(case aR=>exact(a4_ HO240.out));(case aB=>exact(a1_));(case aF=>exact(fun k_ hk=>⟨Kd.fresh' (Kd.R_lt ((a0_ HO234.out))) k_ hk,Kd.fresh' (Kd.R_lt ((a0_ HO240.out))) k_ hk⟩));(case aO=>exact((a34_ HO237.out)));(case aS=>exact(below_size (a1_)));(case aL=>have:=LMc7.out;omega);intro v242 w14 ho hb hg hat;rw[← Ny241.out]at ho;have n0_:=am_ (Kd.R_after (ok:=(fun k_=>some k_≠(.slice Ao15 t238.length co15:Value).ownBlock)) ((a55_ HO234.out)) hg hat);have n1_:=am_ (Kd.R_after (ok:=(fun k_=>some k_≠(.slice Ao11 t232.length co11:Value).ownBlock)) ((a34_ HO240.out)) hg hat);have n2_:=am_ (hb);have n3_:=am_ (ho);clear HO234 HO240 HB HO237;have HO234:=n0_;have HO240:=n1_;have HB:=n2_;have HO243:=n3_;clear n0_ n1_ n2_ n3_ ho hb hg hat)|((with_reducible refine gate_callee (f:=82) rfl ?_);refine goesL_ (some 21) rfl rfl Try.func82 (by kernel_rfl) rfl #[.slice A2 l2.length c2, .slice A0 l0.length c0] rfl gd_ ?_;(with_reducible refine(impl_lessHoles.calls _ _ l2 _ _ l0 t244 _ ?side1 ?side2 ?side3 ?side4 A8.out).mono ?_);(case side1=>exact(a8_ HR2.out));(case side2=>exact HC2.out);(case side3=>exact(a8_ HR0.out));(case side4=>exact HC0.out);rintro e w16 ⟨v245,rfl,ho0,hb⟩;refine⟨_,rfl,?_⟩;have HO246:=am_ (Kd.R_lower (Kd.R_new' (Kd.R_new' (Kd.R_new' ho0 (Kd.R_lt ((a0_ HO234.out)))) (Kd.R_lt ((a0_ HO240.out)))) (Kd.R_lt ((a0_ HO243.out)))) (below_size (a1_)));replace HO234:=am_ (Kd.R_elder' ((a0_ HO234.out)) (Kd.R_base ho0) hb);replace HO240:=am_ (Kd.R_elder' ((a0_ HO240.out)) (Kd.R_base ho0) hb);replace HO243:=am_ (Kd.R_elder' ((a0_ HO243.out)) (Kd.R_base ho0) hb);replace HB:=am_ (below_step (a1_) hb);(try clear hb);(try clear hb2);(try clear hk);(try clear hi);(try clear ho0);obtain⟨Ao17,co17,eo17⟩:=Kd.R_slice HO246.out;subst eo17;obtain⟨Ao18,co18,eo18⟩:=Kd.R_slice HO243.out;subst eo18)|((with_reducible refine gate_callee (f:=82) rfl ?_);refine goesL_ (some 23) rfl rfl Try.func82 (by kernel_rfl) rfl #[.slice Ao17 t244.length co17, .slice Ao18 y241.length co18] rfl gd_ ?_;(with_reducible refine(impl_lessHoles.calls _ _ t244 _ _ y241 t247 _ ?side1 ?side2 ?side3 ?side4 A9.out).mono ?_);(case side1=>exact(a4_ HO246.out));(case side2=>exact(Kd.R_reads' HO246.out).2.1);(case side3=>exact(a4_ HO243.out));(case side4=>exact(Kd.R_reads' HO243.out).2.1);rintro e w19 ⟨v248,rfl,ho0,hb⟩;refine⟨_,rfl,?_⟩;have HO249:=am_ (Kd.R_lower (Kd.R_new' (Kd.R_new' (Kd.R_new' (Kd.R_new' ho0 (Kd.R_lt ((a0_ HO234.out)))) (Kd.R_lt ((a0_ HO240.out)))) (Kd.R_lt ((a0_ HO243.out)))) (Kd.R_lt ((a0_ HO246.out)))) (below_size (a1_)));replace HO234:=am_ (Kd.R_elder' ((a0_ HO234.out)) (Kd.R_base ho0) hb);replace HO240:=am_ (Kd.R_elder' ((a0_ HO240.out)) (Kd.R_base ho0) hb);replace HO243:=am_ (Kd.R_elder' ((a0_ HO243.out)) (Kd.R_base ho0) hb);replace HO246:=am_ (Kd.R_elder' ((a0_ HO246.out)) (Kd.R_base ho0) hb);replace HB:=am_ (below_step (a1_) hb);(try clear hb);(try clear hb2);(try clear hk);(try clear hi);(try clear ho0)))
  go_ret2
  exact⟨_,_,a12_,(a44_ HO243.out),(a68_ HO249.out),a1_⟩
 ·rw[if_neg c7]at H
  exact absurd H (by simp)

/-! ### impl_MergeSheets: function 36 -/
def impl_MergeSheets.j0:Nat→List (S42)→List (S42)→List (S42)→Bool→Option ((List (S42))×Bool)
 | 0,_,_,_,_=>none
 | k+1,x0,x1,x2,x22=>if x22=true then(some (([]:List (S42)),false)) else((impl_firstMerged.f x0 x1 x2).bind fun bt253=>(if bt253.1.length+bt253.2.length<5864062014805 then((impl_sheetOf.f k (bt253.1 ++ bt253.2)).bind fun bt262=>(some (bt262.1,bt262.2))) else(none)))
def impl_MergeSheets.f (k:Nat) (l0:List (S42)) (l1:List (S42)) (l2:List (S42)):Option ((List (S42))×Bool):=(impl_IsSheet.f k l0).bind fun t250=>(if t250=true then((impl_IsSheet.f k l1).bind fun t251=>(if t251=true then((impl_IsSheet.f k l2).bind fun t252=>(impl_MergeSheets.j0 k l0 l1 l2 (!t252))) else(impl_MergeSheets.j0 k l0 l1 l2 true))) else(impl_MergeSheets.j0 k l0 l1 l2 true))
theorem impl_MergeSheets.mono_l:∀k,(∀y0 y1 y2 y3,LeO (impl_MergeSheets.j0 k y0 y1 y2 y3) (impl_MergeSheets.j0 (k+1) y0 y1 y2 y3))
 | 0=>fun _ _ _ _ r h=>by simp[impl_MergeSheets.j0]at h
 | k+1=>by
  have ih0:=impl_MergeSheets.mono_l k
  intros
  unfold impl_MergeSheets.j0
  rotate_left
  all_goals repeat' first|(with_reducible first|exact ih0 _ _ _ _|exact impl_IsSheet.mono _ _|exact impl_sheetOf.mono _ _|exact LeO.refl _|exact LeO.none _|refine LeO.ite ?_ ?_|refine LeO.bind ?_ (fun _=>?_))|exact ih0 _ _ _ _|exact impl_IsSheet.mono _ _|exact impl_sheetOf.mono _ _|exact LeO.none _|refine LeO.ite ?_ ?_|refine LeO.bind ?_ (fun _=>?_)
theorem impl_MergeSheets.mono:∀a0 a1 a2 k,LeO (impl_MergeSheets.f k a0 a1 a2) (impl_MergeSheets.f (k+1) a0 a1 a2):=by
 intro a0 a1 a2 k
 have ih0:=impl_MergeSheets.mono_l k
 unfold impl_MergeSheets.f
 repeat' first
  |(with_reducible exact ih0 _ _ _ _)
  |(with_reducible exact impl_IsSheet.mono _ _)
  |(with_reducible exact impl_sheetOf.mono _ _)
  |(with_reducible exact LeO.refl _)
  |(with_reducible exact LeO.none _)
  |(with_reducible refine LeO.ite ?_ ?_)
  |(with_reducible refine LeO.bind ?_ (fun _=>?_))
  |exact ih0 _ _ _ _
  |exact impl_IsSheet.mono _ _
  |exact impl_sheetOf.mono _ _
  |exact LeO.none _
   | refine LeO.ite ?_ ?_
   | refine LeO.bind ?_ (fun _=>?_)
set_option maxHeartbeats 8000000 in
set_option maxRecDepth 100000 in
theorem impl_MergeSheets.calls (k:Nat) (A0:Option Addr) (c0:Nat) (l0:List (S42)) (A1:Option Addr) (c1:Nat) (l1:List (S42)) (A2:Option Addr) (c2:Nat) (l2:List (S42)) (r1:List (S42)) (r2:Bool) (w:World) (hr0:Kd.C k42 w A0 l0.length l0) (hc0:l0.length≤c0) (hr1:Kd.C k42 w A1 l1.length l1) (hc1:l1.length≤c1) (hr2:Kd.C k42 w A2 l2.length l2) (hc2:l2.length≤c2) (h:impl_MergeSheets.f k l0 l1 l2=some (r1,r2)) :
 Calls Try.prog 36 #[.slice A0 l0.length c0, .slice A1 l1.length c1, .slice A2 l2.length c2] w fun e w'=>∃v0_:Value,e = .returned (.tuple #[v0_, .bool r2])∧Kd.R k42 42 w' w.heap.size (fun _=>True) v0_ r1∧Below w.heap.size w w':=by
 have HR0:=am_ hr0
 have HC0:=am_ hc0
 clear hr0 hc0
 have HR1:=am_ hr1
 have HC1:=am_ hc1
 clear hr1 hc1
 have HR2:=am_ hr2
 have HC2:=am_ hc2
 clear hr2 hc2
 have HB:=am_ (Below.refl w.heap.size w)
 have H:((impl_IsSheet.f k l0).bind fun t250=>(if t250=true then((impl_IsSheet.f k l1).bind fun t251=>(if t251=true then((impl_IsSheet.f k l2).bind fun t252=>(impl_MergeSheets.j0 k l0 l1 l2 (!t252))) else(impl_MergeSheets.j0 k l0 l1 l2 true))) else(impl_MergeSheets.j0 k l0 l1 l2 true)))=some (r1,r2):=h
 clear h
 have HC4:=am_ H
 clear H
 go_enter Try.func36,Try.ntmps36
 go_upto_region 1 with (fail)
 go_cut [22] (fun v22 wc=>∃(kq:Nat) (x22_3:Bool),v22 = .bool x22_3∧Aside0 (impl_MergeSheets.j0 kq l0 l1 l2 x22_3=some (r1,r2))∧Aside0 (kq≤k)∧Aside0 (Below w.heap.size w wc))
 case first=>
  have H:=HC4.out
  clear HC4
  obtain⟨t250,A5,H⟩:=bo_ H
  try dsimp only at H
  by_cases c6:t250=true
  ·subst c6
   replace H:((impl_IsSheet.f k l1).bind fun t251=>(if t251=true then((impl_IsSheet.f k l2).bind fun t252=>(impl_MergeSheets.j0 k l0 l1 l2 (!t252))) else(impl_MergeSheets.j0 k l0 l1 l2 true)))=some (r1,r2):=by rw[if_pos rfl]at H;exact H
   obtain⟨t251,A7,H⟩:=bo_ H
   try dsimp only at H
   by_cases c8:t251=true
   ·subst c8
    replace H:((impl_IsSheet.f k l2).bind fun t252=>(impl_MergeSheets.j0 k l0 l1 l2 (!t252)))=some (r1,r2):=by rw[if_pos rfl]at H;exact H
    obtain⟨t252,A9,H⟩:=bo_ H
    try dsimp only at H
    have H':=am_ H
    clear H
    go_wp2_with (first|((with_reducible refine gate_callee (f:=21) rfl ?_);refine goesL_ (some 11) rfl rfl Try.func21 (by kernel_rfl) rfl #[.slice A0 l0.length c0] rfl gd_ ?_;(with_reducible refine(impl_IsSheet.calls k _ _ l0 true _ ?side1 ?side2 A5.out).mono ?_);(case side1=>exact(a8_ HR0.out));(case side2=>exact HC0.out);rintro e w10 ⟨rfl,hb⟩;refine⟨_,rfl,?_⟩;replace HB:=am_ (below_step (a1_) hb);(try clear hb);(try clear hb2);(try clear hk);(try clear hi))|(go_at_call 21;(with_reducible refine(impl_IsSheet.calls k _ _ l1 true _ ?side1 ?side2 A7.out).mono ?_);(case side1=>exact(a8_ HR1.out));(case side2=>exact HC1.out);rintro e w11 ⟨rfl,hb⟩;replace HB:=am_ (below_step (a1_) hb);(try clear hb);(try clear hb2);(try clear hk);(try clear hi))|(go_at_call 21;(with_reducible refine(impl_IsSheet.calls k _ _ l2 t252 _ ?side1 ?side2 A9.out).mono ?_);(case side1=>exact(a8_ HR2.out));(case side2=>exact HC2.out);rintro e w12 ⟨rfl,hb⟩;replace HB:=am_ (below_step (a1_) hb);(try clear hb);(try clear hb2);(try clear hk);(try clear hi)))
    go_meet
    case rel=>exact⟨_,(!t252),(by first | rfl|(simp;done)|(simp[*];done)),H',⟨by first | omega|exact Nat.le_refl _⟩,⟨a1_⟩⟩
   ·replace c8:=Bool.eq_false_iff.mpr c8
    subst c8
    replace H:(impl_MergeSheets.j0 k l0 l1 l2 true)=some (r1,r2):=by rw[if_neg (show ¬(false=true) by decide)]at H;exact H
    have H':=am_ H
    clear H
    go_wp2_with (first|((with_reducible refine gate_callee (f:=21) rfl ?_);refine goesL_ (some 11) rfl rfl Try.func21 (by kernel_rfl) rfl #[.slice A0 l0.length c0] rfl gd_ ?_;(with_reducible refine(impl_IsSheet.calls k _ _ l0 true _ ?side1 ?side2 A5.out).mono ?_);(case side1=>exact(a8_ HR0.out));(case side2=>exact HC0.out);rintro e w13 ⟨rfl,hb⟩;refine⟨_,rfl,?_⟩;replace HB:=am_ (below_step (a1_) hb);(try clear hb);(try clear hb2);(try clear hk);(try clear hi))|(go_at_call 21;(with_reducible refine(impl_IsSheet.calls k _ _ l1 false _ ?side1 ?side2 A7.out).mono ?_);(case side1=>exact(a8_ HR1.out));(case side2=>exact HC1.out);rintro e w14 ⟨rfl,hb⟩;replace HB:=am_ (below_step (a1_) hb);(try clear hb);(try clear hb2);(try clear hk);(try clear hi)))
    go_meet
    case rel=>exact⟨_,(true),(by first | rfl|(simp;done)|(simp[*];done)),H',⟨by first | omega|exact Nat.le_refl _⟩,⟨a1_⟩⟩
  ·replace c6:=Bool.eq_false_iff.mpr c6
   subst c6
   replace H:(impl_MergeSheets.j0 k l0 l1 l2 true)=some (r1,r2):=by rw[if_neg (show ¬(false=true) by decide)]at H;exact H
   have H':=am_ H
   clear H
   go_wp2_with (first|((with_reducible refine gate_callee (f:=21) rfl ?_);refine goesL_ (some 11) rfl rfl Try.func21 (by kernel_rfl) rfl #[.slice A0 l0.length c0] rfl gd_ ?_;(with_reducible refine(impl_IsSheet.calls k _ _ l0 false _ ?side1 ?side2 A5.out).mono ?_);(case side1=>exact(a8_ HR0.out));(case side2=>exact HC0.out);rintro e w15 ⟨rfl,hb⟩;refine⟨_,rfl,?_⟩;replace HB:=am_ (below_step (a1_) hb);(try clear hb);(try clear hb2);(try clear hk);(try clear hi)))
   go_meet
   case rel=>exact⟨_,(true),(by first | rfl|(simp;done)|(simp[*];done)),H',⟨by first | omega|exact Nat.le_refl _⟩,⟨a1_⟩⟩
 case rest=>
  clear HC4
  try clear c1
  try clear c2
  try clear p2
  try clear c3
  try clear c6
  try clear c8
  obtain⟨kq,x22_3,rfl,HA,HJ3,HB⟩:=hcut
  cases kq with
  | zero=>exact absurd HA.out (by simp[impl_MergeSheets.j0])
  | succ kj3=>
   have H:=HA.out
   clear HA
   simp only[impl_MergeSheets.j0]at H
   by_cases c16:x22_3=true
   ·subst c16
    replace H:(some (([]:List (S42)),false))=some (r1,r2):=by rw[if_pos rfl]at H;exact H
    simp only[Option.some.injEq,Prod.mk.injEq]at H
    obtain⟨rfl,rfl⟩:=H
    go_wp2
    go_ret2
    exact⟨_,a12_,a35_,a1_⟩
   ·replace c16:=Bool.eq_false_iff.mpr c16
    subst c16
    replace H:((impl_firstMerged.f l0 l1 l2).bind fun bt253=>(if bt253.1.length+bt253.2.length<5864062014805 then((impl_sheetOf.f kj3 (bt253.1 ++ bt253.2)).bind fun bt262=>(some (bt262.1,bt262.2))) else(none)))=some (r1,r2):=by rw[if_neg (show ¬(false=true) by decide)]at H;exact H
    obtain⟨⟨t253,t254⟩,A17,H⟩:=bo_ H
    try dsimp only at H
    by_cases c18:t253.length+t254.length<5864062014805
    ·rw[if_pos c18]at H
     have LMc18:=am_ c18
     clear c18
     obtain⟨y259,hy259⟩:∃y_:List (S42),y_=(t253 ++ t254):=⟨_,rfl⟩
     replace H:((impl_sheetOf.f kj3 y259).bind fun bt262=>(some (bt262.1,bt262.2)))=some (r1,r2):=by first|(rw[hy259];with_reducible exact H)|(have H2_:=(Option.bind_some _ _).symm.trans H;rw[hy259];with_reducible exact H2_)|(have H2_:=(Option.bind_some _ _).symm.trans H;with_reducible exact H2_) | with_reducible exact H|(rw[hy259];exact H)|exact H
     have Ny259:=am_ hy259
     clear hy259
     obtain⟨⟨t262,t263⟩,A19,H⟩:=bo_ H
     try dsimp only at H
     simp only[Option.some.injEq,Prod.mk.injEq]at H
     obtain⟨rfl,rfl⟩:=H
     go_wp2_with (first|((with_reducible refine gate_callee (f:=87) rfl ?_);refine goesL_ (some 27) rfl rfl Try.func87 (by kernel_rfl) rfl #[.slice A0 l0.length c0, .slice A1 l1.length c1, .slice A2 l2.length c2] rfl gd_ ?_;(with_reducible refine(impl_firstMerged.calls _ _ l0 _ _ l1 _ _ l2 t253 t254 _ ?side1 ?side2 ?side3 ?side4 ?side5 ?side6 A17.out).mono ?_);(case side1=>exact(a8_ HR0.out));(case side2=>exact HC0.out);(case side3=>exact(a8_ HR1.out));(case side4=>exact HC1.out);(case side5=>exact(a8_ HR2.out));(case side6=>exact HC2.out);rintro e w20 ⟨v255,v257,rfl,ho0,ho1,hb⟩;refine⟨_,rfl,?_⟩;have HO256:=am_ (Kd.R_lower ho0 (below_size (a1_)));have HO258:=am_ (Kd.R_lower ho1 (below_size (a1_)));replace HB:=am_ (below_step (a1_) hb);(try clear hb);(try clear hb2);(try clear hk);(try clear hi);(try clear ho0);(try clear ho1);obtain⟨Ao22,co22,eo22⟩:=Kd.R_slice HO258.out;subst eo22)|((with_reducible refine gate_builtin (b:= .append) (xs:= #[.tmp 30, .tmp 31]) rfl ?_);at_builtin;refine Kd.R_append_rows k42 (w0:=w) w.heap.size rfl (.tmp 30) (.tmp 31) 32 42 (.agg #[(.int .i64 0),(.int .i64 0),(.int .i64 0)]) 24 rfl Try.underlying32 info42 rfl (by decide) (by omega) v255 t253 t254 _ _ _ (fun k_=>some k_≠(.slice Ao22 t254.length co22:Value).ownBlock) (fun _=>False) rfl rfl ?aO ?aR (fun _ _ h=>h) (fun _ h=>h.elim) ?aF ?aB ?aS ?aL ?_;(case aR=>exact(a4_ HO258.out));(case aB=>exact(a1_));(case aF=>exact(fun k_ hk=>Kd.fresh' (Kd.R_lt ((a0_ HO258.out))) k_ hk));(case aO=>exact((a0_ HO256.out)));(case aS=>exact(below_size (a1_)));(case aL=>have:=LMc18.out;omega);intro v260 w21 ho hb hg hat;rw[← Ny259.out]at ho;have n0_:=am_ (Kd.R_after (ok:=(fun _=>True)) (by(with_reducible repeat (first|apply Kd.R_alloc|apply Kd.R_drewN|apply Kd.R_drew));exact Kd.R_mono HO258.out (fun _ hk=>⟨trivial,hk⟩)) hg hat);have n1_:=am_ (hb);have n2_:=am_ (ho);clear HO258 HB HO256;have HO258:=n0_;have HB:=n1_;have HO261:=n2_;clear n0_ n1_ n2_ ho hb hg hat;obtain⟨Ao23,co23,eo23⟩:=Kd.R_slice HO261.out;subst eo23)|((with_reducible refine gate_callee (f:=83) rfl ?_);refine goesL_ (some 33) rfl rfl Try.func83 (by kernel_rfl) rfl #[.slice Ao23 y259.length co23] rfl gd_ ?_;(with_reducible refine(impl_sheetOf.calls kj3 _ _ y259 t262 t263 _ ?side1 ?side2 A19.out).mono ?_);(case side1=>exact(a4_ HO261.out));(case side2=>exact(Kd.R_reads' HO261.out).2.1);rintro e w24 ⟨v264,rfl,ho0,hb⟩;refine⟨_,rfl,?_⟩;have HO265:=am_ (Kd.R_lower (Kd.R_new' (Kd.R_new' ho0 (Kd.R_lt ((a0_ HO258.out)))) (Kd.R_lt ((a0_ HO261.out)))) (below_size (a1_)));replace HO258:=am_ (Kd.R_elder' ((a0_ HO258.out)) (Kd.R_base ho0) hb);replace HO261:=am_ (Kd.R_elder' ((a0_ HO261.out)) (Kd.R_base ho0) hb);replace HB:=am_ (below_step (a1_) hb);(try clear hb);(try clear hb2);(try clear hk);(try clear hi);(try clear ho0)))
     go_ret2
     exact⟨_,a12_,(a28_ HO265.out),a1_⟩
    ·rw[if_neg c18]at H
     exact absurd H (by simp)

end Go.Proofs.Ytplpjmhmochcfaa.QFnMerges
