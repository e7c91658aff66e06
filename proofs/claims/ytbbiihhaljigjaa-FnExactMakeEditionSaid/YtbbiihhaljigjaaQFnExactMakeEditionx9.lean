/- Written by a program of this session (the kit's printer, with leaf contracts proved by hand put in): what each Go function computes, and that the call computes it. No condition but those that each theorem names. -/
import Derived.Test.YtbbiihhaljigjaaQFnExactMakeEditionx0
import Derived.Test.YtbbiihhaljigjaaQFnExactMakeEditionx6
import Derived.Test.YtbbiihhaljigjaaQFnExactMakeEditionx7
import Derived.Test.YtbbiihhaljigjaaQFnExactMakeEditionx8
namespace Go.Proofs.Ytbbiihhaljigjaa.QFnExactMakeEdition
open Go.RowKit Go.Proofs.YtbbiihhaljigjaaW.PrintWords Go.Proofs.YtbbiihhaljigjaaW.PrintLast Go.Proofs.YtbbiihhaljigjaaW.PrintMore
attribute [local go_sem] max2_int min2_int max_two min_two max_three min_three max_four min_four   -- for this text's walks alone
set_option linter.unusedVariables false
set_option linter.unusedSimpArgs false

/-! ### impl_sheetOf: function 39 (by hand: holes in order, if they are a sheet) -/
section
open Go.Sort Go.Proofs.Ytbbiihhaljigjaa.SymSort
instance impl_sheetOf.inh:Inhabited S47:=⟨⟨0,0,0⟩⟩
def impl_sheetOf.enc (x:S47):List Value:=[.int .i64 x.f0, .int .i64 x.f1, .int .i64 x.f2]
def impl_sheetOf.lt (a b:S47):Bool:=decide (a.f1<b.f1∨(a.f1=b.f1∧a.f0<b.f0))
theorem impl_sheetOf.less (a b:S47) (W:World):Calls Try.prog 44 #[.agg #[.int .i64 a.f0, .int .i64 a.f1, .int .i64 a.f2], .agg #[.int .i64 b.f0, .int .i64 b.f1, .int .i64 b.f2]] W fun e w'=>e = .returned (.bool (impl_sheetOf.lt a b))∧∃o1 o2,w'=(W.alloc o1).alloc o2:=by
 by_cases h:a.f1=b.f1
 ·have h1:(a.f1 == b.f1)=true:=beq_iff_eq.2 h
  have h2:(a.f1 != b.f1)=false:=by simp[bne,h1]
  have H:Aside0 (impl_sheetOf.lt a b=decide (a.f0<b.f0)):=⟨by simp[impl_sheetOf.lt,h]⟩
  clear h
  go_enter Try.func44,Try.ntmps44
  go_wp2
  go_ret
  exact⟨by rw[H.out];rfl,_,_,rfl⟩
 ·have h1:(a.f1 == b.f1)=false:=beq_eq_false_iff_ne.2 h
  have h2:(a.f1 != b.f1)=true:=by simp[bne,h1]
  have H:Aside0 (impl_sheetOf.lt a b=decide (a.f1<b.f1)):=⟨by simp[impl_sheetOf.lt,h]⟩
  clear h
  go_enter Try.func44,Try.ntmps44
  go_wp2
  go_ret
  exact⟨by rw[H.out];rfl,_,_,rfl⟩
theorem impl_sheetOf.other {enc:S47→List Value} {k:Nat} {w W:World} {blk off:Nat} {d:Array S47} (h:AtK enc k w blk off d W) (B o:Nat) (hB:B≠blk) (hl:B<w.heap.size):W.cell? ⟨B,o,none⟩=w.cell? ⟨B,o,none⟩:=by
 obtain⟨m,os',rfl⟩:=h
 have hs:∀X:World,(putRowK enc k X blk off d).heap.size=X.heap.size:=fun X=>by simp[putRowK,putRow,mapBlock]
 rw[cell?_grow _ _ _ (by rw[hs];exact hl),cell?_putRowK_other enc k _ blk off d _ hB];rfl
set_option maxHeartbeats 4000000 in
set_option maxRecDepth 100000 in
theorem impl_sheetOf.lays (w:World) (B g n cap:Nat) (hB:w.cell? ⟨B,0,none⟩=some (.slice (some ⟨g,0,none⟩) n cap)) (hBg:B≠g) (d:Array S47) (hH:HoldsK impl_sheetOf.enc 3 w g 0 d) (hds:d.size=n) (hg:g<w.heap.size) (hBl:B<w.heap.size) (hn:n≤9223372036854775807) :
 LessLays Try.prog 47 #[.pointer (some ⟨B,0,none⟩)] impl_sheetOf.enc 3 impl_sheetOf.lt g 0 n w:=by
 intro W dk hAt hdk i j hi hj
 obtain⟨hHk,hgk⟩:=hAt.holds hH (hdk.trans hds.symm) hg
 have cB:=(impl_sheetOf.other hAt B 0 hBg hBl).trans hB
 have x0:=(hHk.cell (i:=i) (c:=0) (by omega) (by omega)).1
 have x1:=(hHk.cell (i:=i) (c:=1) (by omega) (by omega)).1
 have x2:=(hHk.cell (i:=i) (c:=2) (by omega) (by omega)).1
 have y0:=(hHk.cell (i:=j) (c:=0) (by omega) (by omega)).1
 have y1:=(hHk.cell (i:=j) (c:=1) (by omega) (by omega)).1
 have y2:=(hHk.cell (i:=j) (c:=2) (by omega) (by omega)).1
 generalize hx:dk[i]! = x at x0 x1 x2
 generalize hy:dk[j]! = y at y0 y1 y2
 simp only[impl_sheetOf.enc,Nat.zero_add,Nat.add_zero]at x0 x1 x2 y0 y1 y2
 have hS:=(SWK.start hHk)
 go_enter Try.func47,Try.ntmps47
 go_wp2
 go_still_tail 8,(by kernel_rfl)
 change wpList _ _ _ _ _ W.drew
 have hS2:AtK impl_sheetOf.enc 3 W g 0 dk W.drew:=hS.drewN 1
 generalize W.drew=w2 at hS2 ⊢
 clear hS hHk hAt cB x0 x1 x2 y0 y1 y2
 go_wp2_with (go_at_call 44;refine(impl_sheetOf.less x y _).mono ?_;rintro e w' ⟨rfl,o1,o2,rfl⟩)
 go_ret
 exact⟨rfl,SWK.alloc (SWK.alloc hS2 o1) o2⟩
theorem impl_sheetOf.flat (ys:List S47) (j c:Nat) (y:S47) (hy:ys[j]? = some y) (hc:c<3):(flatK impl_sheetOf.enc 3 ys.toArray)[j*3+c]? = (impl_sheetOf.enc y)[c]? := by
 obtain⟨hj,e⟩:=List.getElem?_eq_some_iff.1 hy
 have hlt:j*3+c<ys.toArray.size*3:=by simp;omega
 have h:=get_flatK impl_sheetOf.enc 3 ys.toArray (j*3+c) hlt
 rw[show(j*3+c) / 3=j by omega,show(j*3+c) % 3=c by omega,getElem!_pos ys.toArray j (by simpa using hj),show ys.toArray[j]'(by simpa using hj)=y by simpa using e]at h
 rw[getElem!_pos _ _ (by rw[size_flatK];exact hlt),getElem!_pos (impl_sheetOf.enc y) c (by simpa [impl_sheetOf.enc] using hc)]at h
 rw[Array.getElem?_eq_getElem (by rw[size_flatK];exact hlt),h,List.getElem?_eq_getElem]
theorem impl_sheetOf.open {W:World} {base g n cap:Nat} {okp:Nat→Prop} {xs:List S47} (HO:Kd.R k47 47 W base okp (.slice (some ⟨g,0,none⟩) n cap) xs) :
 ∃cur,W.heap[g]? = some (.cells cur 47 (0,0))∧base≤g∧n=xs.length∧n≤cap∧cap≤maxLen∧cur.size=cap*3:=by
 have hn:=(Kd.R_reads' HO).1
 obtain⟨hok,inner,hown,hr⟩:=HO
 rcases hown.2 with ⟨hv,_⟩ | ⟨g',cap',cur,hv,hb,hh,hnc,hcm,hcs,htake⟩
 ·cases hv
 injection hv with ha hnn hc
 injection ha with ha
 injection ha with hg
 subst hg;subst hc
 exact⟨cur,hh,hb,hn,by omega,hcm,hcs⟩
theorem impl_sheetOf.holds {W:World} {base g n cap:Nat} {okp:Nat→Prop} {xs:List S47} (HO:Kd.R k47 47 W base okp (.slice (some ⟨g,0,none⟩) n cap) xs) :
 HoldsK impl_sheetOf.enc 3 W g 0 xs.toArray∧g<W.heap.size∧n=xs.length:=by
 obtain⟨cur,hh,hb,hn,hnc,hcm,hcs⟩:=impl_sheetOf.open HO
 refine⟨fun t ht=>?_,?_,hn⟩
 ·have ht2:t<xs.length*3:=by simpa using ht
  have hj:t / 3<xs.length:=by omega
  obtain⟨ce,hcl,hM,hcc,hfr⟩:=Kd.R_elem HO ⟨0,0,0⟩ ((t / 3:Nat):Int) (by omega) (by omega)
  obtain rfl:=k47_openM hM
  have hx:xs[t / 3]? = some (xs.getD (t / 3) ⟨0,0,0⟩):=by rw[List.getD_eq_getElem?_getD,List.getElem?_eq_getElem hj];rfl
  have h1:=impl_sheetOf.flat xs (t / 3) (t % 3) _ hx (by omega)
  rw[show t / 3*3+t % 3=t by omega]at h1
  have h2:(impl_sheetOf.enc (xs.getD (t / 3) ⟨0,0,0⟩))[t % 3]? = some (flatK impl_sheetOf.enc 3 xs.toArray)[t]! := by
   rw[← h1,getElem!_pos (flatK impl_sheetOf.enc 3 xs.toArray) t ht,Array.getElem?_eq_getElem ht]
  have h3:=hcc (t % 3) _ h2
  have h4:=hfr (t % 3)
  simp only[Int.toNat_natCast,show(k47).sz=3 from rfl,show t / 3*3+t % 3=t by omega]at h3 h4
  rw[Nat.zero_add]
  exact⟨h3,h4⟩
 ·rcases Nat.lt_or_ge g W.heap.size with h | h
  ·exact h
  ·rw[Array.getElem?_eq_none h]at hh;cases hh
theorem impl_sheetOf.row (W w':World) (base g n cap:Nat) (xs ys:List S47) (HO:Kd.R k47 47 W base (fun _=>True) (.slice (some ⟨g,0,none⟩) n cap) xs) (hy:ys.length=xs.length) (hA:AtK impl_sheetOf.enc 3 W g 0 ys.toArray w') :
 Kd.R k47 47 w' base (fun _=>True) (.slice (some ⟨g,0,none⟩) n cap) ys:=by
 obtain⟨hH,hg,hc⟩:=impl_sheetOf.holds HO
 obtain⟨cur,hh,hb,hn,hnc,hcm,hcs⟩:=impl_sheetOf.open HO
 obtain⟨q,os,rfl⟩:=hA
 have hheap:(grow (putRowK impl_sheetOf.enc 3 (Go.Sort.ahead W q) g 0 ys.toArray) os).heap[g]? = some (.cells (putCells id 0 (flatK impl_sheetOf.enc 3 ys.toArray) cur) 47 (0,0)):=by
  unfold putRowK
  rw[heap_grow_old _ _ (by simpa using hg)]
  simp[putRow,mapBlock,Array.getElem?_modify,hh,onCells]
 have hsz:(flatK impl_sheetOf.enc 3 ys.toArray).size=n*3:=by rw[size_flatK];simp;omega
 refine⟨fun _ _=>trivial,(flatK impl_sheetOf.enc 3 ys.toArray).toList,⟨by rw[Array.length_toList,hsz,show(k47).sz=3 from rfl];omega, .inr ⟨g,cap,_,by congr 1;omega,hb,hheap,by omega,hcm,by rw[show(k47).sz=3 from rfl, ← hcs];simp[putCells],?_⟩⟩,⟨by rw[Array.length_toList,hsz,show(k47).sz=3 from rfl];omega,fun j p hp=>?_⟩⟩
 ·refine List.ext_getElem? (fun j=>?_)
  rw[show(k47).sz=3 from rfl,List.getElem?_take,Array.getElem?_toList]
  by_cases hj:j<ys.length*3
  ·rw[if_pos hj]
   have h1:j<cur.size:=by omega
   have h2:j<(flatK impl_sheetOf.enc 3 ys.toArray).size:=by omega
   rw[Array.getElem?_toList,Array.getElem?_eq_getElem h2]
   simp only[putCells,Nat.zero_le,Nat.zero_add,Nat.sub_zero,true_and,Array.getElem?_mapIdx,Array.getElem?_eq_getElem h1,Option.map_some,if_pos h2,id]
   rw[getElem!_pos (flatK impl_sheetOf.enc 3 ys.toArray) j h2]
  ·rw[if_neg hj,Array.getElem?_toList,Array.getElem?_eq_none (by omega)]
 ·rw[show(k47).sz=3 from rfl]
  have hj:j<ys.length:=(List.getElem?_eq_some_iff.1 hp).1
  have e:((flatK impl_sheetOf.enc 3 ys.toArray).toList.drop (j*3)).take 3=impl_sheetOf.enc p:=by
   refine List.ext_getElem? (fun c=>?_)
   rw[List.getElem?_take]
   by_cases hc3:c<3
   ·rw[if_pos hc3,List.getElem?_drop,Array.getElem?_toList,impl_sheetOf.flat ys j c p hp hc3]
   ·rw[if_neg hc3,List.getElem?_eq_none (by simp[impl_sheetOf.enc];omega)]
  rw[e]
  exact k47_mkM _ _ _ _
theorem impl_sheetOf.below {W w':World} {base g:Nat} {d:Array S47} (hA:AtK impl_sheetOf.enc 3 W g 0 d w') (hb:base≤g) (hs:base≤W.heap.size):Go.RowKit.Below base W w':=by
 obtain⟨q,os,rfl⟩:=hA
 unfold putRowK
 refine⟨rfl,rfl,rfl,by simp,fun k hk=>?_⟩
 rw[heap_grow_old _ _ (by simp;omega)]
 have hne:g≠k:=by omega
 simp[putRow,mapBlock,Array.getElem?_modify,hne]
theorem impl_sheetOf.swo:SWO impl_sheetOf.lt where
 irrefl:=fun x=>by simp[impl_sheetOf.lt]
 trans:=fun x y z h1 h2=>by
  simp only[impl_sheetOf.lt,decide_eq_true_eq]at *;omega
 ntrans:=fun x y z h1 h2=>by
  simp only[impl_sheetOf.lt,decide_eq_false_iff_not]at *;omega
noncomputable def impl_sheetOf.T:TypeInfo:=(Try.prog.info? 26).get (by kernel_rfl)
noncomputable def impl_sheetOf.E:TypeInfo:=(Try.prog.info? 47).get (by kernel_rfl)
theorem impl_sheetOf.K (n:Nat) (h2:2≤n):Lib.swapperK n impl_sheetOf.E 25=9:=by
 have a:impl_sheetOf.E.hasPointers=false:=by kernel_rfl
 have b:impl_sheetOf.E.bytes=24:=by kernel_rfl
 have c:(n == 0)=false:=by simp;omega
 have d:(n == 1)=false:=by simp;omega
 simp[Lib.swapperK,a,b,c,d]
/-- A sorted permutation. -/
def impl_sheetOf.Sorts (xs ys:List S47):Prop:=ys.Perm xs∧ys.Pairwise (fun a b=>impl_sheetOf.lt b a=false)
theorem impl_sheetOf.sorts (xs:List S47) (d':Array S47) (p:PermIn 0 xs.toArray.size xs.toArray d') (s:SortedIn impl_sheetOf.lt 0 xs.toArray.size d'):impl_sheetOf.Sorts xs d'.toList∧d'.toList.length=xs.length:=by
 have hz:d'.size=xs.length:=by have:=p.1;simpa using this
 refine⟨⟨?_,?_⟩,by simpa using hz⟩
 ·have h:=p.2.2
  simp[hz]at h
  rwa [List.take_of_length_le (by simp;omega)]at h
 ·rw[List.pairwise_iff_getElem]
  intro i j hi hj hij
  have h:=s i j (Nat.zero_le _) hij (by simpa [hz] using hj)
  rw[getElem!_pos d' i (by simpa using hi),getElem!_pos d' j (by simpa using hj)]at h
  simpa using h
theorem impl_sheetOf.sort (W:World) (B g base n cap:Nat) (xs:List S47) (HO:Kd.R k47 47 W base (fun _=>True) (.slice (some ⟨g,0,none⟩) n cap) xs) (hB:W.cell? ⟨B,0,none⟩=some (.slice (some ⟨g,0,none⟩) n cap)) (hBg:B≠g) (hBl:B<W.heap.size) (hbase:base≤W.heap.size) (hlen:xs.length≤60) :
 Calls Try.prog 46 #[.iface 26 (.slice (some ⟨g,0,none⟩) n cap), .func (.func 47) #[] #[.pointer (some ⟨B,0,none⟩)]] W fun e w'=>e = .returned (.tuple #[])∧(fun W'=>∃ys,impl_sheetOf.Sorts xs ys∧ys.length=xs.length∧Kd.R k47 47 W' base (fun _=>True) (.slice (some ⟨g,0,none⟩) n cap) ys∧Go.RowKit.Below base W W'∧W'.cell? ⟨B,0,none⟩=some (.slice (some ⟨g,0,none⟩) n cap)∧W.heap.size≤W'.heap.size) w':=by
 obtain⟨hH,hg,hn⟩:=impl_sheetOf.holds HO
 obtain⟨cur,hh,hb,_,hnc,hcm,hcs⟩:=impl_sheetOf.open HO
 have fin:∀(W':World) (ys:List S47),impl_sheetOf.Sorts xs ys→ys.length=xs.length→AtK impl_sheetOf.enc 3 W g 0 ys.toArray W'→(fun W'=>∃ys,impl_sheetOf.Sorts xs ys∧ys.length=xs.length∧Kd.R k47 47 W' base (fun _=>True) (.slice (some ⟨g,0,none⟩) n cap) ys∧Go.RowKit.Below base W W'∧W'.cell? ⟨B,0,none⟩=some (.slice (some ⟨g,0,none⟩) n cap)∧W.heap.size≤W'.heap.size) W':=fun W' ys hs hl hA=>
  ⟨ys,hs,hl,impl_sheetOf.row W W' base g n cap xs ys HO hl hA,impl_sheetOf.below hA hb hbase,(impl_sheetOf.other hA B 0 hBg hBl).trans hB,AtK.below hA⟩
 rcases Nat.lt_or_ge n 2 with h2 | h2
 ·have hf:Try.prog.funcs.findIdx? (·.name == "internal/reflectlite" ++ ".Swapper$" ++ toString (Lib.swapperK n impl_sheetOf.E 25))=some (56+n):=by
   rcases (show n=0∨n=1 by omega) with h | h
   ·rw[h];kernel_rfl
   ·rw[h];kernel_rfl
  refine(sliceStable_tiny Try.laysGt8 26 47 impl_sheetOf.T impl_sheetOf.E (by kernel_rfl) (by kernel_rfl) (by kernel_rfl) (by kernel_rfl) 25 (fun _=>by kernel_rfl) (some ⟨g,0,none⟩) n cap (by omega) (56+n) hf (.func 47) #[] _ W).mono ?_
  rintro e w' ⟨rfl,os,rfl⟩
  refine⟨rfl,fin _ xs ⟨List.Perm.refl _,?_⟩ rfl ⟨0,os,by rw[show Go.Sort.ahead W 0=W from rfl,putRowK_self impl_sheetOf.enc 3 W g 0 _ hH]⟩⟩
  rcases xs with _ | ⟨x,_ | ⟨y,r⟩⟩
  ·exact List.Pairwise.nil
  ·simp
  ·simp at hn;omega
 ·have hS:=sliceStable Try.laysGt8 26 47 impl_sheetOf.T impl_sheetOf.E (by kernel_rfl) (by kernel_rfl) (by kernel_rfl) (by kernel_rfl) 25 (fun _=>by kernel_rfl) impl_sheetOf.enc 3 (fun _=>rfl) (by kernel_rfl) (fun _=>by kernel_rfl)
   (fun x v hv=>by simp[impl_sheetOf.enc]at hv;rcases hv with rfl | rfl | rfl<;>rfl) impl_sheetOf.lt impl_sheetOf.swo 47 #[.pointer (some ⟨B,0,none⟩)]
   (enters_of Try.func47 (by kernel_rfl) rfl) g 0 cap xs.toArray (by simp;omega) (by simp;omega) 64 (by rw[impl_sheetOf.K _ (by simp;omega)];kernel_rfl) false
   (fun args W=>run_callFunc_extern Try.func64 (by kernel_rfl) (by kernel_rfl) (by kernel_rfl) (e:=Extern.ReflectliteSwapper.swap false) (by kernel_rfl) args W) W
   (impl_sheetOf.lays W B g xs.toArray.size cap (by rw[hB,hn];simp) hBg xs.toArray hH rfl hg hBl (by simp;omega)) hH hg
  have ez:xs.toArray.size=n:=by simp[hn]
  rw[ez]at hS
  refine Calls.mono hS ?_
  rintro e w' ⟨rfl,d',p,s,hA⟩
  rw[← ez]at p s
  obtain⟨h3,h4⟩:=impl_sheetOf.sorts xs d' p s
  exact⟨rfl,fin w' d'.toList h3 h4 (by simpa using hA)⟩
end
section
open Go.Proofs.Ytbbiihhaljigjaa.Base
/-- A valid hole. -/
def impl_sheetOf.holeOk (t a b:Int):Bool:=decide (0≤t∧t≤19∧0≤a∧a≤1999∧a<b∧b≤2000)

theorem impl_sheetOf.isHole_ok (t a b:Int):impl_IsHole.f t a b=some (impl_sheetOf.holeOk t a b):=by
 unfold impl_IsHole.f impl_isTrack.f impl_sheetOf.holeOk
 by_cases h1:0≤t
 ·by_cases h2:t<20
  ·by_cases h3:0≤a
   ·by_cases h4:a<b
    ·by_cases h5:b≤2000
     ·simp[h1,h2,h3,h4,h5,show t≤19 by omega,show a≤1999 by omega]
     ·simp[h1,h2,h3,h4,h5]
    ·simp[h1,h2,h3,h4]
   ·simp[h1,h2,h3]
  ·simp[h1,h2,show ¬t≤19 by omega]
 ·simp[h1]

theorem impl_sheetOf.rdH_mid (pre suf:List S47) (x:S47):rd_T47 (pre ++ x :: suf) (pre.length:Int)=x:=getD_mid _ _ _ _ _ (by simp)
/-- The hole x impl_sheetOf.meets the earlier hole y. -/
def impl_sheetOf.meets (x y:S47):Bool:=decide (x.f0=y.f0∧x.f1≤y.f2)
def impl_sheetOf.before (a b:S47):Bool:=decide (a.f1<b.f1∨(a.f1=b.f1∧a.f0<b.f0))
def impl_sheetOf.lastBefore (pre:List S47) (x:S47):Bool:=match pre.getLast? with | none=>true | some p=>impl_sheetOf.before p x
def impl_sheetOf.goodAt (pre:List S47) (x:S47):Bool:=impl_sheetOf.holeOk x.f0 x.f1 x.f2 && (impl_sheetOf.lastBefore pre x && !(pre.any (impl_sheetOf.meets x)))
def impl_sheetOf.goodFrom:List S47→List S47→Bool
 | _, []=>true
 | pre,x :: suf=>impl_sheetOf.goodAt pre x && impl_sheetOf.goodFrom (pre ++ [x]) suf
/-- A valid sheet. -/
def impl_sheetOf.good (l:List S47):Bool:=impl_sheetOf.goodFrom [] l && decide (l.length≤60)

theorem impl_sheetOf.holeLess_ok (a b:S47):impl_holeLess.f a.f0 a.f1 a.f2 b.f0 b.f1 b.f2=some (impl_sheetOf.before a b):=by
 unfold impl_holeLess.f impl_sheetOf.before
 by_cases h1:a.f1=b.f1
 ·simp[h1]
 ·simp[h1]

theorem impl_sheetOf.isSheet_l1 (x:S47) (l:List S47) (n i:Int) (r:Bool) (suf:List S47):∀pre:List S47,(pre ++ suf).length≤9223372036854775806 →
 (suf.any (impl_sheetOf.meets x)=true→r=false)→(suf.any (impl_sheetOf.meets x)=false→Ev (fun k=>impl_IsSheet.l0 k l l n (wrap64 (i+1))) r) →
 Ev (fun k=>impl_IsSheet.l1 k l l n i (pre ++ suf) ((pre ++ suf).length:Int) (pre.length:Int) x.f0 x.f1 x.f2) r:=by
 induction suf with
 | nil=>
  intro pre _ _ h
  refine ev_step (h rfl) (fun k=>?_)
  rw[impl_IsSheet.l1,if_neg (by simp)]
 | cons y suf ih=>
  intro pre hl h1 h2
  have hl':(pre.length:Int)<((pre ++ y :: suf).length:Int):=by simp;omega
  have hw:wrap64 ((pre.length:Int)+1)=(pre.length:Int)+1:=wrapS (by omega) (by simp at hl;omega)
  by_cases hm:impl_sheetOf.meets x y=true
  ·have e:r=false:=h1 (by simp[hm])
   subst e
   simp only[impl_sheetOf.meets,decide_eq_true_eq]at hm
   refine ev_step ev_const (fun k=>?_)
   rw[impl_IsSheet.l1,if_pos hl',if_pos (by omega),if_pos hl',impl_sheetOf.rdH_mid,if_pos hm.1.symm,if_pos hm.2]
  ·replace hm:impl_sheetOf.meets x y=false:=by simpa using hm
   have h:=ih (pre ++ [y]) (by simp at hl ⊢;omega) (fun e=>h1 (by simp[e])) (fun e=>h2 (by simp[hm,e]))
   rw[snoc_app,snoc_leni]at h
   simp only[impl_sheetOf.meets,decide_eq_false_iff_not]at hm
   refine ev_step h (fun k=>?_)
   rw[impl_IsSheet.l1,if_pos hl',if_pos (by omega),if_pos hl',impl_sheetOf.rdH_mid,hw]
   by_cases e:x.f0=y.f0
   ·rw[if_pos e.symm,if_neg (fun e2=>hm ⟨e,e2⟩)]
   ·rw[if_neg (fun e2=>e e2.symm)]

theorem impl_sheetOf.isSheet_j1 (x:S47) (pre suf:List S47) (n:Int) (b r:Bool) (hl:(pre ++ suf).length≤9223372036854775806) (hb:b=true→r=false) (h1:b=false→pre.any (impl_sheetOf.meets x)=true→r=false)
 (h2:b=false→pre.any (impl_sheetOf.meets x)=false→Ev (fun k=>impl_IsSheet.l0 k (pre ++ suf) (pre ++ suf) n (wrap64 ((pre.length:Int)+1))) r) :
 Ev (fun k=>impl_IsSheet.j1 k (pre ++ suf) (pre.length:Int) (pre ++ suf) n (pre.length:Int) b x.f0 x.f1 x.f2) r:=by
 cases b with
 | true=>
  obtain rfl:=hb rfl
  refine ev_step ev_const (fun k=>?_)
  rw[impl_IsSheet.j1,if_pos rfl]
 | false=>
  have h:=impl_sheetOf.isSheet_l1 x (pre ++ suf) n (pre.length:Int) r pre [] (by simp at hl ⊢;omega) (h1 rfl) (h2 rfl)
  refine ev_step h (fun k=>?_)
  rw[impl_IsSheet.j1,if_neg (by decide),if_pos (by omega),if_pos (by simp;omega)]
  simp

theorem impl_sheetOf.isSheet_l0 (suf:List S47):∀pre:List S47,(pre ++ suf).length≤9223372036854775806 →
 Ev (fun k=>impl_IsSheet.l0 k (pre ++ suf) (pre ++ suf) ((pre ++ suf).length:Int) (pre.length:Int)) (impl_sheetOf.goodFrom pre suf):=by
 induction suf with
 | nil=>
  intro pre _
  refine ev_step (Ev.now _) (fun k=>?_)
  rw[impl_IsSheet.l0,if_neg (by simp)]
  simp[impl_sheetOf.goodFrom]
 | cons x suf ih=>
  intro pre hl
  have h:=ih (pre ++ [x]) (by simp at hl ⊢;omega)
  rw[snoc_app,snoc_leni]at h
  have hl':(pre.length:Int)<((pre ++ x :: suf).length:Int):=by simp;omega
  have hw:wrap64 ((pre.length:Int)+1)=(pre.length:Int)+1:=wrapS (by omega) (by simp at hl;omega)
  have J:∀b,(b = !(impl_sheetOf.holeOk x.f0 x.f1 x.f2 && impl_sheetOf.lastBefore pre x))→Ev (fun k=>impl_IsSheet.j1 k (pre ++ x :: suf) (pre.length:Int) (pre ++ x :: suf) ((pre ++ x :: suf).length:Int) (pre.length:Int) b x.f0 x.f1 x.f2) (impl_sheetOf.goodFrom pre (x :: suf)):=by
   intro b hb
   refine impl_sheetOf.isSheet_j1 x pre (x :: suf) _ b _ hl (fun e=>?_) (fun e e2=>?_) (fun e e2=>?_)
   ·simp only[impl_sheetOf.goodFrom,impl_sheetOf.goodAt]
    cases h1:impl_sheetOf.holeOk x.f0 x.f1 x.f2<;>cases h2:impl_sheetOf.lastBefore pre x<;>simp_all
   ·simp[impl_sheetOf.goodFrom,impl_sheetOf.goodAt,e2]
   ·rw[hw]
    have e3:impl_sheetOf.goodFrom pre (x :: suf)=impl_sheetOf.goodFrom (pre ++ [x]) suf:=by
     simp only[impl_sheetOf.goodFrom,impl_sheetOf.goodAt,e2]
     cases h1:impl_sheetOf.holeOk x.f0 x.f1 x.f2<;>cases h2:impl_sheetOf.lastBefore pre x<;>simp_all
    rw[e3]
    exact h
  cases ho:impl_sheetOf.holeOk x.f0 x.f1 x.f2 with
  | false=>
   refine ev_step (J true (by simp[ho])) (fun k=>?_)
   rw[impl_IsSheet.l0,if_pos hl',if_pos (by omega),if_pos hl',impl_sheetOf.rdH_mid,impl_sheetOf.isHole_ok,ho]
   simp
  | true=>
   rcases List.eq_nil_or_concat pre with rfl | ⟨pre',p,rfl⟩
   ·refine ev_step (J false (by simp[ho,impl_sheetOf.lastBefore])) (fun k=>?_)
    rw[impl_IsSheet.l0,if_pos hl',if_pos (by omega),if_pos hl',impl_sheetOf.rdH_mid,impl_sheetOf.isHole_ok,ho]
    simp
   ·refine ev_step (J (!(impl_sheetOf.before p x)) (by simp[ho,impl_sheetOf.lastBefore])) (fun k=>?_)
    have e1:((pre' ++ [p]).length:Int)=(pre'.length:Int)+1:=by simp
    have hw2:wrap64 (((pre' ++ [p]).length:Int)-1)=(pre'.length:Int):=by
     rw[e1,wrapS (by omega) (by simp at hl;omega)];omega
    have e2:rd_T47 (pre' ++ [p] ++ x :: suf) (pre'.length:Int)=p:=by
     rw[snoc_app];exact impl_sheetOf.rdH_mid _ _ _
    rw[impl_IsSheet.l0,if_pos hl',if_pos (by omega),if_pos hl',impl_sheetOf.rdH_mid,impl_sheetOf.isHole_ok,ho]
    simp only[List.concat_eq_append]at *
    simp only[Option.bind_some,if_true]
    rw[if_pos (by omega),hw2,if_pos (by omega),if_pos (by simp;omega),e2,impl_sheetOf.holeLess_ok]
    simp only[Option.bind_some]

theorem impl_sheetOf.isSheet_ok (l:List S47) (h:l.length≤9223372036854775806):Ev (fun k=>impl_IsSheet.f k l) (impl_sheetOf.good l):=by
 by_cases h6:(l.length:Int)>60
 ·refine Ev.congr (f:=fun _=>some (impl_sheetOf.good l)) (fun k=>?_) ev_const
  rw[impl_IsSheet.f,if_pos h6]
  have:¬l.length≤60:=by omega
  simp[impl_sheetOf.good,this]
 ·refine Ev.congr (fun k=>?_) (ev_eq (impl_sheetOf.isSheet_l0 l [] (by simpa using h)) ?_)
  ·rw[impl_IsSheet.f,if_neg h6]
   rfl
  ·have:l.length≤60:=by omega
   simp[impl_sheetOf.good,this]

def impl_sheetOf.strict:List S47→Bool
 | []=>true
 | [_]=>true
 | a :: b :: r=>impl_sheetOf.lt a b && impl_sheetOf.strict (b :: r)
theorem impl_sheetOf.strict_pair:∀l:List S47,impl_sheetOf.strict l=true→l.Pairwise (fun a b=>impl_sheetOf.lt a b=true)
 | [],_=>List.Pairwise.nil
 | [_],_=>by simp
 | a :: b :: r,h=>by
  simp only[impl_sheetOf.strict,Bool.and_eq_true]at h
  have ih:=impl_sheetOf.strict_pair (b :: r) h.2
  refine List.Pairwise.cons ?_ ih
  intro c hc
  rcases List.mem_cons.1 hc with rfl | hc
  ·exact h.1
  ·exact impl_sheetOf.swo.trans _ _ _ h.1 (List.rel_of_pairwise_cons ih hc)
theorem impl_sheetOf.strict_of:∀l:List S47,l.Pairwise (fun a b=>impl_sheetOf.lt a b=true)→impl_sheetOf.strict l=true
 | [],_=>rfl
 | [_],_=>rfl
 | a :: b :: r,h=>by
  rw[impl_sheetOf.strict,Bool.and_eq_true]
  exact⟨List.rel_of_pairwise_cons h List.mem_cons_self,impl_sheetOf.strict_of (b :: r) (List.Pairwise.of_cons h)⟩
theorem impl_sheetOf.unique:∀(ys zs:List S47),ys.Perm zs→ys.Pairwise (fun a b=>impl_sheetOf.lt b a=false)→zs.Pairwise (fun a b=>impl_sheetOf.lt a b=true)→ys=zs
 | [],zs,p,_,_=>(List.Perm.nil_eq p)
 | y :: ys, [],p,_,_=>by simp at p
 | y :: ys,z :: zs,p,h1,h2=>by
  have e:y=z:=by
   rcases List.mem_cons.1 (p.mem_iff.1 List.mem_cons_self) with e | hy
   ·exact e
   ·rcases List.mem_cons.1 (p.mem_iff.2 (List.mem_cons_self (a:=z) (l:=zs))) with e | hz
    ·exact e.symm
    ·have a1:=List.rel_of_pairwise_cons h2 hy
     have a2:=List.rel_of_pairwise_cons h1 hz
     rw[a1]at a2;cases a2
  subst e
  rw[impl_sheetOf.unique ys zs (List.perm_cons y |>.1 p) (List.Pairwise.of_cons h1) (List.Pairwise.of_cons h2)]
theorem impl_sheetOf.goodFrom_strict (suf:List S47):∀(pre:List S47) (p:S47),impl_sheetOf.goodFrom (pre ++ [p]) suf=true→impl_sheetOf.strict (p :: suf)=true:=by
 induction suf with
 | nil=>intro _ _ _;rfl
 | cons x suf ih=>
  intro pre p h
  simp only[impl_sheetOf.goodFrom,impl_sheetOf.goodAt,impl_sheetOf.lastBefore,List.getLast?_append,List.getLast?_singleton,Option.or,Bool.and_eq_true]at h
  rw[impl_sheetOf.strict,Bool.and_eq_true]
  exact⟨h.1.2.1,ih (pre ++ [p]) x h.2⟩
theorem impl_sheetOf.good_strict (l:List S47) (h:impl_sheetOf.good l=true):impl_sheetOf.strict l=true:=by
 simp only[impl_sheetOf.good,Bool.and_eq_true]at h
 cases l with
 | nil=>rfl
 | cons x r=>
  have:=h.1
  simp only[impl_sheetOf.goodFrom,Bool.and_eq_true]at this
  exact impl_sheetOf.goodFrom_strict r [] x this.2
/-- x, put behind all that it is not less than. -/
def impl_sheetOf.ins (x:S47):List S47→List S47
 | []=> [x]
 | y :: r=>if impl_sheetOf.lt x y=true then x :: y :: r else y :: impl_sheetOf.ins x r
def impl_sheetOf.srt (l:List S47):List S47:=l.foldl (fun out x=>impl_sheetOf.ins x out) []
theorem impl_sheetOf.ins_perm (x:S47):∀l:List S47,(impl_sheetOf.ins x l).Perm (x :: l)
 | []=>List.Perm.refl _
 | y :: r=>by
  rw[impl_sheetOf.ins]
  by_cases c:impl_sheetOf.lt x y=true
  ·rw[if_pos c]
  ·rw[if_neg c];exact((impl_sheetOf.ins_perm x r).cons y).trans (List.Perm.swap x y r)
theorem impl_sheetOf.ins_sorted (x:S47):∀l:List S47,l.Pairwise (fun a b=>impl_sheetOf.lt b a=false)→(impl_sheetOf.ins x l).Pairwise (fun a b=>impl_sheetOf.lt b a=false)
 | [],_=>by simp[impl_sheetOf.ins]
 | y :: r,h=>by
  rw[impl_sheetOf.ins]
  by_cases c:impl_sheetOf.lt x y=true
  ·rw[if_pos c]
   refine List.Pairwise.cons ?_ h
   intro z hz
   rcases List.mem_cons.1 hz with rfl | hz
   ·exact impl_sheetOf.swo.asymmA c
   ·cases e:impl_sheetOf.lt z x with
    | false=>rfl
    | true=>have:=impl_sheetOf.swo.trans _ _ _ e c;rw[List.rel_of_pairwise_cons h hz]at this;cases this
  ·rw[if_neg c]
   refine List.Pairwise.cons ?_ (impl_sheetOf.ins_sorted x r (List.Pairwise.of_cons h))
   intro z hz
   rcases List.mem_cons.1 ((impl_sheetOf.ins_perm x r).mem_iff.1 hz) with rfl | hz
   ·simpa using c
   ·exact List.rel_of_pairwise_cons h hz
theorem impl_sheetOf.fold (l:List S47):∀out:List S47,out.Pairwise (fun a b=>impl_sheetOf.lt b a=false)→(l.foldl (fun out x=>impl_sheetOf.ins x out) out).Perm (out ++ l)∧(l.foldl (fun out x=>impl_sheetOf.ins x out) out).Pairwise (fun a b=>impl_sheetOf.lt b a=false):=by
 induction l with
 | nil=>intro out h;simpa using h
 | cons x l ih=>
  intro out h
  obtain⟨h1,h2⟩:=ih (impl_sheetOf.ins x out) (impl_sheetOf.ins_sorted x out h)
  refine⟨h1.trans (((impl_sheetOf.ins_perm x out).append_right l).trans ?_),h2⟩
  exact List.perm_middle.symm
theorem impl_sheetOf.srt_sorts (l:List S47):impl_sheetOf.Sorts l (impl_sheetOf.srt l):=by
 have:=impl_sheetOf.fold l [] List.Pairwise.nil
 simpa [impl_sheetOf.Sorts,impl_sheetOf.srt] using this
theorem impl_sheetOf.same (l ys:List S47) (h:impl_sheetOf.Sorts l ys) (hs:impl_sheetOf.strict (impl_sheetOf.srt l)=true):ys=impl_sheetOf.srt l:=
 impl_sheetOf.unique ys (impl_sheetOf.srt l) (h.1.trans (impl_sheetOf.srt_sorts l).1.symm) h.2 (impl_sheetOf.strict_pair _ hs)
theorem impl_sheetOf.not (l ys:List S47) (h:impl_sheetOf.Sorts l ys) (hs:¬impl_sheetOf.strict (impl_sheetOf.srt l)=true):impl_sheetOf.good ys=false:=by
 cases g:impl_sheetOf.good ys with
 | false=>rfl
 | true=>
  have hy:=impl_sheetOf.good_strict ys g
  have:=impl_sheetOf.unique (impl_sheetOf.srt l) ys ((impl_sheetOf.srt_sorts l).1.trans h.1.symm) (impl_sheetOf.srt_sorts l).2 (impl_sheetOf.strict_pair _ hy)
  rw[this]at hs
  exact absurd hy hs
def impl_sheetOf.f (k:Nat) (l0:List S47):Option (List S47×Bool):=if(l0.length:Int)>60 then some ([],false) else if impl_sheetOf.strict (impl_sheetOf.srt l0)=true then(impl_IsSheet.f k (impl_sheetOf.srt l0)).bind fun b=>(if b=true then some (impl_sheetOf.srt l0,true) else some ([],false)) else some ([],false)
theorem impl_sheetOf.mono:∀a0 k,LeO (impl_sheetOf.f k a0) (impl_sheetOf.f (k+1) a0):=by
 intro a0 k
 unfold impl_sheetOf.f
 repeat' first
  | (with_reducible exact impl_IsSheet.mono _ _)
  | (with_reducible exact LeO.refl _)
  | (with_reducible exact LeO.none _)
  | (with_reducible refine LeO.ite ?_ ?_)
  | (with_reducible refine LeO.bind ?_ (fun _=>?_))
/-- What the test of the sorted holes tells, whichever sorted permutation they are. -/
theorem impl_sheetOf.tells (k:Nat) (l0:List S47) (r1:List S47) (r2:Bool) (hl:¬(l0.length:Int)>60) (h:impl_sheetOf.f k l0=some (r1,r2)) (ys:List S47) (hs:impl_sheetOf.Sorts l0 ys):∃K b,impl_IsSheet.f K ys=some b∧(b=true→r1=ys∧r2=true)∧(b=false→r1 = []∧r2=false):=by
 unfold impl_sheetOf.f at h
 rw[if_neg hl]at h
 by_cases c:impl_sheetOf.strict (impl_sheetOf.srt l0)=true
 ·rw[if_pos c]at h
  obtain⟨b,e,h⟩:=Option.bind_eq_some_iff.mp h
  refine⟨k,b,by rw[impl_sheetOf.same l0 ys hs c];exact e,fun hb=>?_,fun hb=>?_⟩
  ·subst hb;rw[if_pos rfl]at h;injection h with h;injection h with h1 h2;exact⟨by rw[impl_sheetOf.same l0 ys hs c];exact h1.symm,h2.symm⟩
  ·subst hb;rw[if_neg (by decide)]at h;injection h with h;injection h with h1 h2;exact⟨h1.symm,h2.symm⟩
 ·rw[if_neg c]at h
  injection h with h
  injection h with h1 h2
  have hlen:ys.length=l0.length:=hs.1.length_eq
  obtain⟨K,e⟩:=impl_sheetOf.isSheet_ok ys (by omega)
  refine⟨K,false,?_,(fun hb=>absurd hb (by decide)),(fun _=>⟨h1.symm,h2.symm⟩)⟩
  have:=e K (Nat.le_refl _)
  rwa [impl_sheetOf.not l0 ys hs c]at this
end
theorem impl_sheetOf.cloneNil (v:Value) (W:World) (base:Nat) (xs:List S47) (HO:Kd.R k47 47 W base (fun _=>True) v xs):(v = .slice none 0 0∧xs = [])∨∃g cap,v = .slice (some ⟨g,0,none⟩) xs.length cap∧g<W.heap.size:=by
 obtain⟨_,inner,hown,_⟩:=HO
 rcases hown.2 with ⟨hv,hn⟩ | ⟨g,cap,cur,hv,_,hh,_⟩
 ·exact .inl ⟨hv,List.eq_nil_of_length_eq_zero hn⟩
 ·refine .inr ⟨g,cap,hv,?_⟩
  rcases Nat.lt_or_ge g W.heap.size with h | h
  ·exact h
  ·rw[Array.getElem?_eq_none h]at hh;cases hh
def impl_sheetOf.SortPost (W:World) (B base:Nat) (v:Value) (xs:List S47) (e:Ending) (W':World):Prop:=e = .returned (.tuple #[])∧∃ys,impl_sheetOf.Sorts xs ys∧ys.length=xs.length∧Kd.R k47 47 W' base (fun _=>True) v ys∧Below base W W'∧W'.cell? ⟨B,0,none⟩=some v∧W.heap.size≤W'.heap.size
theorem impl_sheetOf.sortV (w2:World) (base:Nat) (v:Value) (xs:List S47) (HO:Kd.R k47 47 w2 base (fun _=>True) v xs) (hbase:base≤w2.heap.size) (hlen:xs.length≤60) :
 Calls Try.prog 46 #[.iface 26 v, .func (.func 47) #[] #[.pointer (some ⟨w2.heap.size,0,none⟩)]] (w2.alloc (.cells #[v] 26)) (impl_sheetOf.SortPost (w2.alloc (.cells #[v] 26)) w2.heap.size base v xs):=by
 have HO2:Kd.R k47 47 (w2.alloc (.cells #[v] 26)) base (fun _=>True) v xs:=Kd.R_alloc HO _
 have hB:(w2.alloc (.cells #[v] 26)).cell? ⟨w2.heap.size,0,none⟩=some v:=by simp
 rcases impl_sheetOf.cloneNil v w2 base xs HO with ⟨rfl,rfl⟩ | ⟨g,cap,rfl,hg⟩
 ·refine(Go.Proofs.Ytbbiihhaljigjaa.SymSort.sliceStable_tiny Try.laysGt8 26 47 impl_sheetOf.T impl_sheetOf.E (by kernel_rfl) (by kernel_rfl) (by kernel_rfl) (by kernel_rfl) 25 (fun _=>by kernel_rfl) none 0 0 (by omega) 56 (by kernel_rfl) (.func 47) #[] _ _).mono ?_
  rintro e w' ⟨rfl,os,rfl⟩
  have hbl:Below (w2.alloc (.cells #[.slice none 0 0] 26)).heap.size (w2.alloc (.cells #[.slice none 0 0] 26)) (Go.Sort.grow (w2.alloc (.cells #[.slice none 0 0] 26)) os):=
   ⟨rfl,rfl,rfl,by rw[Go.Sort.size_grow];omega,fun k hk=>Go.Sort.heap_grow_old _ _ hk⟩
  exact⟨rfl, [],⟨List.Perm.refl _,List.Pairwise.nil⟩,rfl,Kd.R_nil _ _ _ _ _,hbl.mono (by simp;omega),by rw[hbl.cell (by simp)];exact hB,hbl.size⟩
 ·exact(impl_sheetOf.sort (w2.alloc (.cells #[.slice (some ⟨g,0,none⟩) xs.length cap] 26)) w2.heap.size g base xs.length cap xs HO2 hB (by omega) (by simp) (by simp;omega) hlen).mono fun e w' h=>h
set_option maxHeartbeats 4000000 in
set_option maxRecDepth 100000 in
theorem impl_sheetOf.calls (k:Nat) (A0:Option Addr) (c0:Nat) (l0:List S47) (r1:List S47) (r2:Bool) (w:World) (hr0:Kd.C k47 w A0 l0.length l0) (hc0:l0.length≤c0) (h:impl_sheetOf.f k l0=some (r1,r2)) :
 Calls Try.prog 39 #[.slice A0 l0.length c0] w fun e w'=>∃v0_:Value,e = .returned (.tuple #[v0_, .bool r2])∧Kd.R k47 47 w' w.heap.size (fun _=>True) v0_ r1∧Below w.heap.size w w':=by
 by_cases hl:(l0.length:Int)>60
 ·have hl2:60<l0.length:=by omega
  unfold impl_sheetOf.f at h
  rw[if_pos hl]at h
  injection h with h
  injection h with h1 h2
  subst h1;subst h2
  clear hr0 hc0
  go_enter Try.func39,Try.ntmps39
  go_wp2
  go_ret2
  exact⟨_,rfl,Kd.R_nil _ _ _ _ _,Below.refl _ _⟩
 ·have hl2:l0.length≤60:=by omega
  have HT:=am_ (impl_sheetOf.tells k l0 r1 r2 hl h)
  have hcl:impl_Hole.f l0=some l0:=if_pos (by omega)
  have HR0:=am_ hr0
  have HC0:=am_ hc0
  have HCL:=am_ hcl
  clear hr0 hc0 hcl h
  go_enter Try.func39,Try.ntmps39
  go_wp2_with (first
   | (go_at_call 45;refine(impl_Hole.calls A0 c0 l0 l0 _ HR0.out HC0.out HCL.out).mono ?_;rintro e w2 ⟨v2,rfl,ho,hb⟩;obtain⟨A2,c2,rfl⟩:=Kd.R_slice ho;have HO:=am_ ho;have HB2:=am_ hb;clear ho hb)
   | (go_at_call 46;refine(impl_sheetOf.sortV w2 w.heap.size (.slice A2 l0.length c2) l0 HO.out HB2.out.size hl2).mono ?_;rintro e w3 ⟨rfl,ys,hS,hy,ho,hb,hcB,hsz⟩;have HS:=am_ hS;have HY:=am_ hy;have HO3:=am_ ho;have HB3:=am_ hb;clear hS hy ho hb))
  obtain⟨K,b,e,ht,hf⟩:=HT.out ys HS.out
  obtain⟨_,hyc,hrd⟩:=Kd.R_reads' HO3.out
  have hcall:=impl_IsSheet.calls K A2 c2 ys b w3 hrd (by have:=HY.out;omega) e
  rw[HY.out]at hcall
  have HB:Aside0 (Below w.heap.size w w3):=⟨(below_alloc HB2.out _).trans HB3.out⟩
  have hws:w.heap.size≤w3.heap.size:=HB.out.size
  have hB2:w2.heap.size<w3.heap.size:=by simp at hsz;omega
  clear hrd hyc HB3 HB2 HT HS
  cases b with
  | false=>
   obtain⟨rfl,rfl⟩:=hf rfl
   clear ht hf e
   go_wp2_with (go_at_call 35;refine hcall.mono ?_;rintro e w4 ⟨rfl,hb4⟩)
   go_ret2
   exact⟨_,rfl,Kd.R_nil _ _ _ _ _,HB.out.trans (hb4.mono hws)⟩
  | true=>
   obtain⟨rfl,rfl⟩:=ht rfl
   clear ht hf e
   go_wp2_with (go_at_call 35;refine hcall.mono ?_;rintro e w4 ⟨rfl,hb4⟩;have hc4:=(hb4.cell (p:=⟨w2.heap.size,0,none⟩) hB2).trans hcB)
   go_ret2
   exact⟨_,rfl,by have h:=Kd.R_below HO3.out hb4;first | exact h | (rw[← HY.out]at h;exact h),HB.out.trans (hb4.mono hws)⟩


-- NOT PRINTED: function 26 (impl_sheetOfGrid)

end Go.Proofs.Ytbbiihhaljigjaa.QFnExactMakeEdition
