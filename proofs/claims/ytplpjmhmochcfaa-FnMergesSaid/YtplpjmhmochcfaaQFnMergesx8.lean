/- Written by a program of this session (the kit's printer, with leaf contracts proved by hand put in): what each Go function computes, and that the call computes it. No condition but those that each theorem names. -/
import Derived.Test.YtplpjmhmochcfaaQFnMergesx0
import Derived.Test.YtplpjmhmochcfaaQFnMergesx2
import Derived.Test.YtplpjmhmochcfaaQFnMergesx3
import Derived.Test.YtplpjmhmochcfaaQFnMergesx7
namespace Go.Proofs.Ytplpjmhmochcfaa.QFnMerges
open Go.RowKit Go.Proofs.YtplpjmhmochcfaaW.PrintWords Go.Proofs.YtplpjmhmochcfaaW.PrintLast Go.Proofs.YtplpjmhmochcfaaW.PrintMore
attribute [local go_sem] max2_int min2_int max_two min_two max_three min_three max_four min_four   -- for this text's walks alone
set_option linter.unusedVariables false
set_option linter.unusedSimpArgs false

/-! ### impl_sheetOf: function 83 (by hand: holes in order, if they are a sheet) -/
section
open Go.Sort Go.Proofs.Ytplpjmhmochcfaa.SymSort
instance impl_sheetOf.inh:Inhabited S42:=⟨⟨0,0,0⟩⟩
def impl_sheetOf.enc (x:S42):List Value:=[.int .i64 x.f0, .int .i64 x.f1, .int .i64 x.f2]
def impl_sheetOf.lt (a b:S42):Bool:=decide (a.f1<b.f1∨(a.f1=b.f1∧a.f0<b.f0))
theorem impl_sheetOf.less (a b:S42) (W:World):Calls Try.prog 70 #[.agg #[.int .i64 a.f0, .int .i64 a.f1, .int .i64 a.f2], .agg #[.int .i64 b.f0, .int .i64 b.f1, .int .i64 b.f2]] W fun e w'=>e = .returned (.bool (impl_sheetOf.lt a b))∧∃o1 o2,w'=(W.alloc o1).alloc o2:=by
 by_cases h:a.f1=b.f1
 ·have h1:(a.f1 == b.f1)=true:=beq_iff_eq.2 h
  have h2:(a.f1 != b.f1)=false:=by simp[bne,h1]
  have H:Aside0 (impl_sheetOf.lt a b=decide (a.f0<b.f0)):=⟨by simp[impl_sheetOf.lt,h]⟩
  clear h
  go_enter Try.func70,Try.ntmps70
  go_wp2
  go_ret
  exact⟨by rw[H.out];rfl,_,_,rfl⟩
 ·have h1:(a.f1 == b.f1)=false:=beq_eq_false_iff_ne.2 h
  have h2:(a.f1 != b.f1)=true:=by simp[bne,h1]
  have H:Aside0 (impl_sheetOf.lt a b=decide (a.f1<b.f1)):=⟨by simp[impl_sheetOf.lt,h]⟩
  clear h
  go_enter Try.func70,Try.ntmps70
  go_wp2
  go_ret
  exact⟨by rw[H.out];rfl,_,_,rfl⟩
theorem impl_sheetOf.other {enc:S42→List Value} {k:Nat} {w W:World} {blk off:Nat} {d:Array S42} (h:AtK enc k w blk off d W) (B o:Nat) (hB:B≠blk) (hl:B<w.heap.size):W.cell? ⟨B,o,none⟩=w.cell? ⟨B,o,none⟩:=by
 obtain⟨m,os',rfl⟩:=h
 have hs:∀X:World,(putRowK enc k X blk off d).heap.size=X.heap.size:=fun X=>by simp[putRowK,putRow,mapBlock]
 rw[cell?_grow _ _ _ (by rw[hs];exact hl),cell?_putRowK_other enc k _ blk off d _ hB];rfl
set_option maxHeartbeats 4000000 in
set_option maxRecDepth 100000 in
theorem impl_sheetOf.lays (w:World) (B g n cap:Nat) (hB:w.cell? ⟨B,0,none⟩=some (.slice (some ⟨g,0,none⟩) n cap)) (hBg:B≠g) (d:Array S42) (hH:HoldsK impl_sheetOf.enc 3 w g 0 d) (hds:d.size=n) (hg:g<w.heap.size) (hBl:B<w.heap.size) (hn:n≤9223372036854775807) :
 LessLays Try.prog 108 #[.pointer (some ⟨B,0,none⟩)] impl_sheetOf.enc 3 impl_sheetOf.lt g 0 n w:=by
 intro W dk hAt hdk i j hi hj
 obtain⟨hHk,hgk⟩:=hAt.holds hH (hdk.trans hds.symm) hg
 have cB:=(impl_sheetOf.other hAt B 0 hBg hBl).trans hB
 have x0:=(hHk.cell (i:=i) (c:=0) (by omega) (by omega)).1
 have x1:=(hHk.cell (i:=i) (c:=1) (by omega) (by omega)).1
 have x2:=(hHk.cell (i:=i) (c:=2) (by omega) (by omega)).1
 have y0:=(hHk.cell (i:=j) (c:=0) (by omega) (by omega)).1
 have y1:=(hHk.cell (i:=j) (c:=1) (by omega) (by omega)).1
 have y2:=(hHk.cell (i:=j) (c:=2) (by omega) (by omega)).1
 generalize hx:dk[i]! = x at x0 x1 x2
 generalize hy:dk[j]! = y at y0 y1 y2
 simp only[impl_sheetOf.enc,Nat.zero_add,Nat.add_zero]at x0 x1 x2 y0 y1 y2
 have hS:=(SWK.start hHk)
 go_enter Try.func108,Try.ntmps108
 go_wp2
 go_still_tail 8,(by kernel_rfl)
 change wpList _ _ _ _ _ W.drew
 have hS2:AtK impl_sheetOf.enc 3 W g 0 dk W.drew:=hS.drewN 1
 generalize W.drew=w2 at hS2 ⊢
 clear hS hHk hAt cB x0 x1 x2 y0 y1 y2
 go_wp2_with (go_at_call 70;refine(impl_sheetOf.less x y _).mono ?_;rintro e w' ⟨rfl,o1,o2,rfl⟩)
 go_ret
 exact⟨rfl,SWK.alloc (SWK.alloc hS2 o1) o2⟩
theorem impl_sheetOf.flat (ys:List S42) (j c:Nat) (y:S42) (hy:ys[j]? = some y) (hc:c<3):(flatK impl_sheetOf.enc 3 ys.toArray)[j*3+c]? = (impl_sheetOf.enc y)[c]? := by
 obtain⟨hj,e⟩:=List.getElem?_eq_some_iff.1 hy
 have hlt:j*3+c<ys.toArray.size*3:=by simp;omega
 have h:=get_flatK impl_sheetOf.enc 3 ys.toArray (j*3+c) hlt
 rw[show(j*3+c) / 3=j by omega,show(j*3+c) % 3=c by omega,getElem!_pos ys.toArray j (by simpa using hj),show ys.toArray[j]'(by simpa using hj)=y by simpa using e]at h
 rw[getElem!_pos _ _ (by rw[size_flatK];exact hlt),getElem!_pos (impl_sheetOf.enc y) c (by simpa [impl_sheetOf.enc] using hc)]at h
 rw[Array.getElem?_eq_getElem (by rw[size_flatK];exact hlt),h,List.getElem?_eq_getElem]
theorem impl_sheetOf.open {W:World} {base g n cap:Nat} {okp:Nat→Prop} {xs:List S42} (HO:Kd.R k42 42 W base okp (.slice (some ⟨g,0,none⟩) n cap) xs) :
 ∃cur,W.heap[g]? = some (.cells cur 42 (0,0))∧base≤g∧n=xs.length∧n≤cap∧cap≤maxLen∧cur.size=cap*3:=by
 have hn:=(Kd.R_reads' HO).1
 obtain⟨hok,inner,hown,hr⟩:=HO
 rcases hown.2 with ⟨hv,_⟩ | ⟨g',cap',cur,hv,hb,hh,hnc,hcm,hcs,htake⟩
 ·cases hv
 injection hv with ha hnn hc
 injection ha with ha
 injection ha with hg
 subst hg;subst hc
 exact⟨cur,hh,hb,hn,by omega,hcm,hcs⟩
theorem impl_sheetOf.holds {W:World} {base g n cap:Nat} {okp:Nat→Prop} {xs:List S42} (HO:Kd.R k42 42 W base okp (.slice (some ⟨g,0,none⟩) n cap) xs) :
 HoldsK impl_sheetOf.enc 3 W g 0 xs.toArray∧g<W.heap.size∧n=xs.length:=by
 obtain⟨cur,hh,hb,hn,hnc,hcm,hcs⟩:=impl_sheetOf.open HO
 refine⟨fun t ht=>?_,?_,hn⟩
 ·have ht2:t<xs.length*3:=by simpa using ht
  have hj:t / 3<xs.length:=by omega
  obtain⟨ce,hcl,hM,hcc,hfr⟩:=Kd.R_elem HO ⟨0,0,0⟩ ((t / 3:Nat):Int) (by omega) (by omega)
  obtain rfl:=k42_openM hM
  have hx:xs[t / 3]? = some (xs.getD (t / 3) ⟨0,0,0⟩):=by rw[List.getD_eq_getElem?_getD,List.getElem?_eq_getElem hj];rfl
  have h1:=impl_sheetOf.flat xs (t / 3) (t % 3) _ hx (by omega)
  rw[show t / 3*3+t % 3=t by omega]at h1
  have h2:(impl_sheetOf.enc (xs.getD (t / 3) ⟨0,0,0⟩))[t % 3]? = some (flatK impl_sheetOf.enc 3 xs.toArray)[t]! := by
   rw[← h1,getElem!_pos (flatK impl_sheetOf.enc 3 xs.toArray) t ht,Array.getElem?_eq_getElem ht]
  have h3:=hcc (t % 3) _ h2
  have h4:=hfr (t % 3)
  simp only[Int.toNat_natCast,show(k42).sz=3 from rfl,show t / 3*3+t % 3=t by omega]at h3 h4
  rw[Nat.zero_add]
  exact⟨h3,h4⟩
 ·rcases Nat.lt_or_ge g W.heap.size with h | h
  ·exact h
  ·rw[Array.getElem?_eq_none h]at hh;cases hh
theorem impl_sheetOf.row (W w':World) (base g n cap:Nat) (xs ys:List S42) (HO:Kd.R k42 42 W base (fun _=>True) (.slice (some ⟨g,0,none⟩) n cap) xs) (hy:ys.length=xs.length) (hA:AtK impl_sheetOf.enc 3 W g 0 ys.toArray w') :
 Kd.R k42 42 w' base (fun _=>True) (.slice (some ⟨g,0,none⟩) n cap) ys:=by
 obtain⟨hH,hg,hc⟩:=impl_sheetOf.holds HO
 obtain⟨cur,hh,hb,hn,hnc,hcm,hcs⟩:=impl_sheetOf.open HO
 obtain⟨q,os,rfl⟩:=hA
 have hheap:(grow (putRowK impl_sheetOf.enc 3 (Go.Sort.ahead W q) g 0 ys.toArray) os).heap[g]? = some (.cells (putCells id 0 (flatK impl_sheetOf.enc 3 ys.toArray) cur) 42 (0,0)):=by
  unfold putRowK
  rw[heap_grow_old _ _ (by simpa using hg)]
  simp[putRow,mapBlock,Array.getElem?_modify,hh,onCells]
 have hsz:(flatK impl_sheetOf.enc 3 ys.toArray).size=n*3:=by rw[size_flatK];simp;omega
 refine⟨fun _ _=>trivial,(flatK impl_sheetOf.enc 3 ys.toArray).toList,⟨by rw[Array.length_toList,hsz,show(k42).sz=3 from rfl];omega, .inr ⟨g,cap,_,by congr 1;omega,hb,hheap,by omega,hcm,by rw[show(k42).sz=3 from rfl, ← hcs];simp[putCells],?_⟩⟩,⟨by rw[Array.length_toList,hsz,show(k42).sz=3 from rfl];omega,fun j p hp=>?_⟩⟩
 ·refine List.ext_getElem? (fun j=>?_)
  rw[show(k42).sz=3 from rfl,List.getElem?_take,Array.getElem?_toList]
  by_cases hj:j<ys.length*3
  ·rw[if_pos hj]
   have h1:j<cur.size:=by omega
   have h2:j<(flatK impl_sheetOf.enc 3 ys.toArray).size:=by omega
   rw[Array.getElem?_toList,Array.getElem?_eq_getElem h2]
   simp only[putCells,Nat.zero_le,Nat.zero_add,Nat.sub_zero,true_and,Array.getElem?_mapIdx,Array.getElem?_eq_getElem h1,Option.map_some,if_pos h2,id]
   rw[getElem!_pos (flatK impl_sheetOf.enc 3 ys.toArray) j h2]
  ·rw[if_neg hj,Array.getElem?_toList,Array.getElem?_eq_none (by omega)]
 ·rw[show(k42).sz=3 from rfl]
  have hj:j<ys.length:=(List.getElem?_eq_some_iff.1 hp).1
  have e:((flatK impl_sheetOf.enc 3 ys.toArray).toList.drop (j*3)).take 3=impl_sheetOf.enc p:=by
   refine List.ext_getElem? (fun c=>?_)
   rw[List.getElem?_take]
   by_cases hc3:c<3
   ·rw[if_pos hc3,List.getElem?_drop,Array.getElem?_toList,impl_sheetOf.flat ys j c p hp hc3]
   ·rw[if_neg hc3,List.getElem?_eq_none (by simp[impl_sheetOf.enc];omega)]
  rw[e]
  exact k42_mkM _ _ _ _
theorem impl_sheetOf.below {W w':World} {base g:Nat} {d:Array S42} (hA:AtK impl_sheetOf.enc 3 W g 0 d w') (hb:base≤g) (hs:base≤W.heap.size):Go.RowKit.Below base W w':=by
 obtain⟨q,os,rfl⟩:=hA
 unfold putRowK
 refine⟨rfl,rfl,rfl,by simp,fun k hk=>?_⟩
 rw[heap_grow_old _ _ (by simp;omega)]
 have hne:g≠k:=by omega
 simp[putRow,mapBlock,Array.getElem?_modify,hne]
theorem impl_sheetOf.swo:SWO impl_sheetOf.lt where
 irrefl:=fun x=>by simp[impl_sheetOf.lt]
 trans:=fun x y z h1 h2=>by
  simp only[impl_sheetOf.lt,decide_eq_true_eq]at *;omega
 ntrans:=fun x y z h1 h2=>by
  simp only[impl_sheetOf.lt,decide_eq_false_iff_not]at *;omega
noncomputable def impl_sheetOf.T:TypeInfo:=(Try.prog.info? 32).get (by kernel_rfl)
noncomputable def impl_sheetOf.E:TypeInfo:=(Try.prog.info? 42).get (by kernel_rfl)
theorem impl_sheetOf.K (n:Nat) (h2:2≤n):Lib.swapperK n impl_sheetOf.E 25=9:=by
 have a:impl_sheetOf.E.hasPointers=false:=by kernel_rfl
 have b:impl_sheetOf.E.bytes=24:=by kernel_rfl
 have c:(n == 0)=false:=by simp;omega
 have d:(n == 1)=false:=by simp;omega
 simp[Lib.swapperK,a,b,c,d]
/-- A sorted permutation. -/
def impl_sheetOf.Sorts (xs ys:List S42):Prop:=ys.Perm xs∧ys.Pairwise (fun a b=>impl_sheetOf.lt b a=false)
theorem impl_sheetOf.sorts (xs:List S42) (d':Array S42) (p:PermIn 0 xs.toArray.size xs.toArray d') (s:SortedIn impl_sheetOf.lt 0 xs.toArray.size d'):impl_sheetOf.Sorts xs d'.toList∧d'.toList.length=xs.length:=by
 have hz:d'.size=xs.length:=by have:=p.1;simpa using this
 refine⟨⟨?_,?_⟩,by simpa using hz⟩
 ·have h:=p.2.2
  simp[hz]at h
  rwa [List.take_of_length_le (by simp;omega)]at h
 ·rw[List.pairwise_iff_getElem]
  intro i j hi hj hij
  have h:=s i j (Nat.zero_le _) hij (by simpa [hz] using hj)
  rw[getElem!_pos d' i (by simpa using hi),getElem!_pos d' j (by simpa using hj)]at h
  simpa using h
theorem impl_sheetOf.sort (W:World) (B g base n cap:Nat) (xs:List S42) (HO:Kd.R k42 42 W base (fun _=>True) (.slice (some ⟨g,0,none⟩) n cap) xs) (hB:W.cell? ⟨B,0,none⟩=some (.slice (some ⟨g,0,none⟩) n cap)) (hBg:B≠g) (hBl:B<W.heap.size) (hbase:base≤W.heap.size) (hlen:xs.length≤60) :
 Calls Try.prog 107 #[.iface 32 (.slice (some ⟨g,0,none⟩) n cap), .func (.func 108) #[] #[.pointer (some ⟨B,0,none⟩)]] W fun e w'=>e = .returned (.tuple #[])∧(fun W'=>∃ys,impl_sheetOf.Sorts xs ys∧ys.length=xs.length∧Kd.R k42 42 W' base (fun _=>True) (.slice (some ⟨g,0,none⟩) n cap) ys∧Go.RowKit.Below base W W'∧W'.cell? ⟨B,0,none⟩=some (.slice (some ⟨g,0,none⟩) n cap)∧W.heap.size≤W'.heap.size) w':=by
 obtain⟨hH,hg,hn⟩:=impl_sheetOf.holds HO
 obtain⟨cur,hh,hb,_,hnc,hcm,hcs⟩:=impl_sheetOf.open HO
 have fin:∀(W':World) (ys:List S42),impl_sheetOf.Sorts xs ys→ys.length=xs.length→AtK impl_sheetOf.enc 3 W g 0 ys.toArray W'→(fun W'=>∃ys,impl_sheetOf.Sorts xs ys∧ys.length=xs.length∧Kd.R k42 42 W' base (fun _=>True) (.slice (some ⟨g,0,none⟩) n cap) ys∧Go.RowKit.Below base W W'∧W'.cell? ⟨B,0,none⟩=some (.slice (some ⟨g,0,none⟩) n cap)∧W.heap.size≤W'.heap.size) W':=fun W' ys hs hl hA=>
  ⟨ys,hs,hl,impl_sheetOf.row W W' base g n cap xs ys HO hl hA,impl_sheetOf.below hA hb hbase,(impl_sheetOf.other hA B 0 hBg hBl).trans hB,AtK.below hA⟩
 rcases Nat.lt_or_ge n 2 with h2 | h2
 ·have hf:Try.prog.funcs.findIdx? (·.name == "internal/reflectlite" ++ ".Swapper$" ++ toString (Lib.swapperK n impl_sheetOf.E 25))=some (124+n):=by
   rcases (show n=0∨n=1 by omega) with h | h
   ·rw[h];kernel_rfl
   ·rw[h];kernel_rfl
  refine(sliceStable_tiny Try.laysGt8 32 42 impl_sheetOf.T impl_sheetOf.E (by kernel_rfl) (by kernel_rfl) (by kernel_rfl) (by kernel_rfl) 25 (fun _=>by kernel_rfl) (some ⟨g,0,none⟩) n cap (by omega) (124+n) hf (.func 108) #[] _ W).mono ?_
  rintro e w' ⟨rfl,os,rfl⟩
  refine⟨rfl,fin _ xs ⟨List.Perm.refl _,?_⟩ rfl ⟨0,os,by rw[show Go.Sort.ahead W 0=W from rfl,putRowK_self impl_sheetOf.enc 3 W g 0 _ hH]⟩⟩
  rcases xs with _ | ⟨x,_ | ⟨y,r⟩⟩
  ·exact List.Pairwise.nil
  ·simp
  ·simp at hn;omega
 ·have hS:=sliceStable Try.laysGt8 32 42 impl_sheetOf.T impl_sheetOf.E (by kernel_rfl) (by kernel_rfl) (by kernel_rfl) (by kernel_rfl) 25 (fun _=>by kernel_rfl) impl_sheetOf.enc 3 (fun _=>rfl) (by kernel_rfl) (fun _=>by kernel_rfl)
   (fun x v hv=>by simp[impl_sheetOf.enc]at hv;rcases hv with rfl | rfl | rfl<;>rfl) impl_sheetOf.lt impl_sheetOf.swo 108 #[.pointer (some ⟨B,0,none⟩)]
   (enters_of Try.func108 (by kernel_rfl) rfl) g 0 cap xs.toArray (by simp;omega) (by simp;omega) 132 (by rw[impl_sheetOf.K _ (by simp;omega)];kernel_rfl) false
   (fun args W=>run_callFunc_extern Try.func132 (by kernel_rfl) (by kernel_rfl) (by kernel_rfl) (e:=Extern.ReflectliteSwapper.swap false) (by kernel_rfl) args W) W
   (impl_sheetOf.lays W B g xs.toArray.size cap (by rw[hB,hn];simp) hBg xs.toArray hH rfl hg hBl (by simp;omega)) hH hg
  have ez:xs.toArray.size=n:=by simp[hn]
  rw[ez]at hS
  refine Calls.mono hS ?_
  rintro e w' ⟨rfl,d',p,s,hA⟩
  rw[← ez]at p s
  obtain⟨h3,h4⟩:=impl_sheetOf.sorts xs d' p s
  exact⟨rfl,fin w' d'.toList h3 h4 (by simpa using hA)⟩
end
section
open Go.Proofs.Ytplpjmhmochcfaa.Base
/-- A valid hole. -/
def impl_sheetOf.holeOk (t a b:Int):Bool:=decide (0≤t∧t≤19∧0≤a∧a≤1999∧a<b∧b≤2000)

theorem impl_sheetOf.isHole_ok (t a b:Int):impl_IsHole.f t a b=some (impl_sheetOf.holeOk t a b):=by
 unfold impl_IsHole.f impl_isTrack.f impl_sheetOf.holeOk
 by_cases h1:0≤t
 ·by_cases h2:t<20
  ·by_cases h3:0≤a
   ·by_cases h4:a<b
    ·by_cases h5:b≤2000
     ·simp[h1,h2,h3,h4,h5,show t≤19 by omega,show a≤1999 by omega]
     ·simp[h1,h2,h3,h4,h5]
    ·simp[h1,h2,h3,h4]
   ·simp[h1,h2,h3]
  ·simp[h1,h2,show ¬t≤19 by omega]
 ·simp[h1]

theorem impl_sheetOf.rdH_mid (pre suf:List S42) (x:S42):rd_T42 (pre ++ x :: suf) (pre.length:Int)=x:=getD_mid _ _ _ _ _ (by simp)
/-- The hole x impl_sheetOf.meets the earlier hole y. -/
def impl_sheetOf.meets (x y:S42):Bool:=decide (x.f0=y.f0∧x.f1≤y.f2)
def impl_sheetOf.before (a b:S42):Bool:=decide (a.f1<b.f1∨(a.f1=b.f1∧a.f0<b.f0))
def impl_sheetOf.lastBefore (pre:List S42) (x:S42):Bool:=match pre.getLast? with | none=>true | some p=>impl_sheetOf.before p x
def impl_sheetOf.goodAt (pre:List S42) (x:S42):Bool:=impl_sheetOf.holeOk x.f0 x.f1 x.f2 && (impl_sheetOf.lastBefore pre x && !(pre.any (impl_sheetOf.meets x)))
def impl_sheetOf.goodFrom:List S42→List S42→Bool
 | _, []=>true
 | pre,x :: suf=>impl_sheetOf.goodAt pre x && impl_sheetOf.goodFrom (pre ++ [x]) suf
/-- A valid sheet. -/
def impl_sheetOf.good (l:List S42):Bool:=impl_sheetOf.goodFrom [] l && decide (l.length≤60)

theorem impl_sheetOf.holeLess_ok (a b:S42):impl_holeLess.f a.f0 a.f1 a.f2 b.f0 b.f1 b.f2=some (impl_sheetOf.before a b):=by
 unfold impl_holeLess.f impl_sheetOf.before
 by_cases h1:a.f1=b.f1
 ·simp[h1]
 ·simp[h1]

theorem impl_sheetOf.isSheet_l1 (x:S42) (l:List S42) (n i:Int) (r:Bool) (suf:List S42):∀pre:List S42,(pre ++ suf).length≤9223372036854775806 →
 (suf.any (impl_sheetOf.meets x)=true→r=false)→(suf.any (impl_sheetOf.meets x)=false→Ev (fun k=>impl_IsSheet.l0 k l l n (wrap64 (i+1))) r) →
 Ev (fun k=>impl_IsSheet.l1 k l l n i (pre ++ suf) ((pre ++ suf).length:Int) (pre.length:Int) x.f0 x.f1 x.f2) r:=by
 induction suf with
 | nil=>
  intro pre _ _ h
  refine ev_step (h rfl) (fun k=>?_)
  rw[impl_IsSheet.l1,if_neg (by simp)]
 | cons y suf ih=>
  intro pre hl h1 h2
  have hl':(pre.length:Int)<((pre ++ y :: suf).length:Int):=by simp;omega
  have hw:wrap64 ((pre.length:Int)+1)=(pre.length:Int)+1:=wrapS (by omega) (by simp at hl;omega)
  by_cases hm:impl_sheetOf.meets x y=true
  ·have e:r=false:=h1 (by simp[hm])
   subst e
   simp only[impl_sheetOf.meets,decide_eq_true_eq]at hm
   refine ev_step ev_const (fun k=>?_)
   rw[impl_IsSheet.l1,if_pos hl',if_pos (by omega),if_pos hl',impl_sheetOf.rdH_mid,if_pos hm.1.symm,if_pos hm.2]
  ·replace hm:impl_sheetOf.meets x y=false:=by simpa using hm
   have h:=ih (pre ++ [y]) (by simp at hl ⊢;omega) (fun e=>h1 (by simp[e])) (fun e=>h2 (by simp[hm,e]))
   rw[snoc_app,snoc_leni]at h
   simp only[impl_sheetOf.meets,decide_eq_false_iff_not]at hm
   refine ev_step h (fun k=>?_)
   rw[impl_IsSheet.l1,if_pos hl',if_pos (by omega),if_pos hl',impl_sheetOf.rdH_mid,hw]
   by_cases e:x.f0=y.f0
   ·rw[if_pos e.symm,if_neg (fun e2=>hm ⟨e,e2⟩)]
   ·rw[if_neg (fun e2=>e e2.symm)]

theorem impl_sheetOf.isSheet_j1 (x:S42) (pre suf:List S42) (n:Int) (b r:Bool) (hl:(pre ++ suf).length≤9223372036854775806) (hb:b=true→r=false) (h1:b=false→pre.any (impl_sheetOf.meets x)=true→r=false)
 (h2:b=false→pre.any (impl_sheetOf.meets x)=false→Ev (fun k=>impl_IsSheet.l0 k (pre ++ suf) (pre ++ suf) n (wrap64 ((pre.length:Int)+1))) r) :
 Ev (fun k=>impl_IsSheet.j1 k (pre ++ suf) (pre.length:Int) (pre ++ suf) n (pre.length:Int) b x.f0 x.f1 x.f2) r:=by
 cases b with
 | true=>
  obtain rfl:=hb rfl
  refine ev_step ev_const (fun k=>?_)
  rw[impl_IsSheet.j1,if_pos rfl]
 | false=>
  have h:=impl_sheetOf.isSheet_l1 x (pre ++ suf) n (pre.length:Int) r pre [] (by simp at hl ⊢;omega) (h1 rfl) (h2 rfl)
  refine ev_step h (fun k=>?_)
  rw[impl_IsSheet.j1,if_neg (by decide),if_pos (by omega),if_pos (by simp;omega)]
  simp

theorem impl_sheetOf.isSheet_l0 (suf:List S42):∀pre:List S42,(pre ++ suf).length≤9223372036854775806 →
 Ev (fun k=>impl_IsSheet.l0 k (pre ++ suf) (pre ++ suf) ((pre ++ suf).length:Int) (pre.length:Int)) (impl_sheetOf.goodFrom pre suf):=by
 induction suf with
 | nil=>
  intro pre _
  refine ev_step (Ev.now _) (fun k=>?_)
  rw[impl_IsSheet.l0,if_neg (by simp)]
  simp[impl_sheetOf.goodFrom]
 | cons x suf ih=>
  intro pre hl
  have h:=ih (pre ++ [x]) (by simp at hl ⊢;omega)
  rw[snoc_app,snoc_leni]at h
  have hl':(pre.length:Int)<((pre ++ x :: suf).length:Int):=by simp;omega
  have hw:wrap64 ((pre.length:Int)+1)=(pre.length:Int)+1:=wrapS (by omega) (by simp at hl;omega)
  have J:∀b,(b = !(impl_sheetOf.holeOk x.f0 x.f1 x.f2 && impl_sheetOf.lastBefore pre x))→Ev (fun k=>impl_IsSheet.j1 k (pre ++ x :: suf) (pre.length:Int) (pre ++ x :: suf) ((pre ++ x :: suf).length:Int) (pre.length:Int) b x.f0 x.f1 x.f2) (impl_sheetOf.goodFrom pre (x :: suf)):=by
   intro b hb
   refine impl_sheetOf.isSheet_j1 x pre (x :: suf) _ b _ hl (fun e=>?_) (fun e e2=>?_) (fun e e2=>?_)
   ·simp only[impl_sheetOf.goodFrom,impl_sheetOf.goodAt]
    cases h1:impl_sheetOf.holeOk x.f0 x.f1 x.f2<;>cases h2:impl_sheetOf.lastBefore pre x<;>simp_all
   ·simp[impl_sheetOf.goodFrom,impl_sheetOf.goodAt,e2]
   ·rw[hw]
    have e3:impl_sheetOf.goodFrom pre (x :: suf)=impl_sheetOf.goodFrom (pre ++ [x]) suf:=by
     simp only[impl_sheetOf.goodFrom,impl_sheetOf.goodAt,e2]
     cases h1:impl_sheetOf.holeOk x.f0 x.f1 x.f2<;>cases h2:impl_sheetOf.lastBefore pre x<;>simp_all
    rw[e3]
    exact h
  cases ho:impl_sheetOf.holeOk x.f0 x.f1 x.f2 with
  | false=>
   refine ev_step (J true (by simp[ho])) (fun k=>?_)
   rw[impl_IsSheet.l0,if_pos hl',if_pos (by omega),if_pos hl',impl_sheetOf.rdH_mid,impl_sheetOf.isHole_ok,ho]
   simp
  | true=>
   rcases List.eq_nil_or_concat pre with rfl | ⟨pre',p,rfl⟩
   ·refine ev_step (J false (by simp[ho,impl_sheetOf.lastBefore])) (fun k=>?_)
    rw[impl_IsSheet.l0,if_pos hl',if_pos (by omega),if_pos hl',impl_sheetOf.rdH_mid,impl_sheetOf.isHole_ok,ho]
    simp
   ·refine ev_step (J (!(impl_sheetOf.before p x)) (by simp[ho,impl_sheetOf.lastBefore])) (fun k=>?_)
    have e1:((pre' ++ [p]).length:Int)=(pre'.length:Int)+1:=by simp
    have hw2:wrap64 (((pre' ++ [p]).length:Int)-1)=(pre'.length:Int):=by
     rw[e1,wrapS (by omega) (by simp at hl;omega)];omega
    have e2:rd_T42 (pre' ++ [p] ++ x :: suf) (pre'.length:Int)=p:=by
     rw[snoc_app];exact impl_sheetOf.rdH_mid _ _ _
    rw[impl_IsSheet.l0,if_pos hl',if_pos (by omega),if_pos hl',impl_sheetOf.rdH_mid,impl_sheetOf.isHole_ok,ho]
    simp only[List.concat_eq_append]at *
    simp only[Option.bind_some,if_true]
    rw[if_pos (by omega),hw2,if_pos (by omega),if_pos (by simp;omega),e2,impl_sheetOf.holeLess_ok]
    simp only[Option.bind_some]

theorem impl_sheetOf.isSheet_ok (l:List S42) (h:l.length≤9223372036854775806):Ev (fun k=>impl_IsSheet.f k l) (impl_sheetOf.good l):=by
 by_cases h6:(l.length:Int)>60
 ·refine Ev.congr (f:=fun _=>some (impl_sheetOf.good l)) (fun k=>?_) ev_const
  rw[impl_IsSheet.f,if_pos h6]
  have:¬l.length≤60:=by omega
  simp[impl_sheetOf.good,this]
 ·refine Ev.congr (fun k=>?_) (ev_eq (impl_sheetOf.isSheet_l0 l [] (by simpa using h)) ?_)
  ·rw[impl_IsSheet.f,if_neg h6]
   rfl
  ·have:l.length≤60:=by omega
   simp[impl_sheetOf.good,this]

def impl_sheetOf.strict:List S42→Bool
 | []=>true
 | [_]=>true
 | a :: b :: r=>impl_sheetOf.lt a b && impl_sheetOf.strict (b :: r)
theorem impl_sheetOf.strict_pair:∀l:List S42,impl_sheetOf.strict l=true→l.Pairwise (fun a b=>impl_sheetOf.lt a b=true)
 | [],_=>List.Pairwise.nil
 | [_],_=>by simp
 | a :: b :: r,h=>by
  simp only[impl_sheetOf.strict,Bool.and_eq_true]at h
  have ih:=impl_sheetOf.strict_pair (b :: r) h.2
  refine List.Pairwise.cons ?_ ih
  intro c hc
  rcases List.mem_cons.1 hc with rfl | hc
  ·exact h.1
  ·exact impl_sheetOf.swo.trans _ _ _ h.1 (List.rel_of_pairwise_cons ih hc)
theorem impl_sheetOf.strict_of:∀l:List S42,l.Pairwise (fun a b=>impl_sheetOf.lt a b=true)→impl_sheetOf.strict l=true
 | [],_=>rfl
 | [_],_=>rfl
 | a :: b :: r,h=>by
  rw[impl_sheetOf.strict,Bool.and_eq_true]
  exact⟨List.rel_of_pairwise_cons h List.mem_cons_self,impl_sheetOf.strict_of (b :: r) (List.Pairwise.of_cons h)⟩
theorem impl_sheetOf.unique:∀(ys zs:List S42),ys.Perm zs→ys.Pairwise (fun a b=>impl_sheetOf.lt b a=false)→zs.Pairwise (fun a b=>impl_sheetOf.lt a b=true)→ys=zs
 | [],zs,p,_,_=>(List.Perm.nil_eq p)
 | y :: ys, [],p,_,_=>by simp at p
 | y :: ys,z :: zs,p,h1,h2=>by
  have e:y=z:=by
   rcases List.mem_cons.1 (p.mem_iff.1 List.mem_cons_self) with e | hy
   ·exact e
   ·rcases List.mem_cons.1 (p.mem_iff.2 (List.mem_cons_self (a:=z) (l:=zs))) with e | hz
    ·exact e.symm
    ·have a1:=List.rel_of_pairwise_cons h2 hy
     have a2:=List.rel_of_pairwise_cons h1 hz
     rw[a1]at a2;cases a2
  subst e
  rw[impl_sheetOf.unique ys zs (List.perm_cons y |>.1 p) (List.Pairwise.of_cons h1) (List.Pairwise.of_cons h2)]
theorem impl_sheetOf.goodFrom_strict (suf:List S42):∀(pre:List S42) (p:S42),impl_sheetOf.goodFrom (pre ++ [p]) suf=true→impl_sheetOf.strict (p :: suf)=true:=by
 induction suf with
 | nil=>intro _ _ _;rfl
 | cons x suf ih=>
  intro pre p h
  simp only[impl_sheetOf.goodFrom,impl_sheetOf.goodAt,impl_sheetOf.lastBefore,List.getLast?_append,List.getLast?_singleton,Option.or,Bool.and_eq_true]at h
  rw[impl_sheetOf.strict,Bool.and_eq_true]
  exact⟨h.1.2.1,ih (pre ++ [p]) x h.2⟩
theorem impl_sheetOf.good_strict (l:List S42) (h:impl_sheetOf.good l=true):impl_sheetOf.strict l=true:=by
 simp only[impl_sheetOf.good,Bool.and_eq_true]at h
 cases l with
 | nil=>rfl
 | cons x r=>
  have:=h.1
  simp only[impl_sheetOf.goodFrom,Bool.and_eq_true]at this
  exact impl_sheetOf.goodFrom_strict r [] x this.2
/-- x, put behind all that it is not less than. -/
def impl_sheetOf.ins (x:S42):List S42→List S42
 | []=> [x]
 | y :: r=>if impl_sheetOf.lt x y=true then x :: y :: r else y :: impl_sheetOf.ins x r
def impl_sheetOf.srt (l:List S42):List S42:=l.foldl (fun out x=>impl_sheetOf.ins x out) []
theorem impl_sheetOf.ins_perm (x:S42):∀l:List S42,(impl_sheetOf.ins x l).Perm (x :: l)
 | []=>List.Perm.refl _
 | y :: r=>by
  rw[impl_sheetOf.ins]
  by_cases c:impl_sheetOf.lt x y=true
  ·rw[if_pos c]
  ·rw[if_neg c];exact((impl_sheetOf.ins_perm x r).cons y).trans (List.Perm.swap x y r)
theorem impl_sheetOf.ins_sorted (x:S42):∀l:List S42,l.Pairwise (fun a b=>impl_sheetOf.lt b a=false)→(impl_sheetOf.ins x l).Pairwise (fun a b=>impl_sheetOf.lt b a=false)
 | [],_=>by simp[impl_sheetOf.ins]
 | y :: r,h=>by
  rw[impl_sheetOf.ins]
  by_cases c:impl_sheetOf.lt x y=true
  ·rw[if_pos c]
   refine List.Pairwise.cons ?_ h
   intro z hz
   rcases List.mem_cons.1 hz with rfl | hz
   ·exact impl_sheetOf.swo.asymmA c
   ·cases e:impl_sheetOf.lt z x with
    | false=>rfl
    | true=>have:=impl_sheetOf.swo.trans _ _ _ e c;rw[List.rel_of_pairwise_cons h hz]at this;cases this
  ·rw[if_neg c]
   refine List.Pairwise.cons ?_ (impl_sheetOf.ins_sorted x r (List.Pairwise.of_cons h))
   intro z hz
   rcases List.mem_cons.1 ((impl_sheetOf.ins_perm x r).mem_iff.1 hz) with rfl | hz
   ·simpa using c
   ·exact List.rel_of_pairwise_cons h hz
theorem impl_sheetOf.fold (l:List S42):∀out:List S42,out.Pairwise (fun a b=>impl_sheetOf.lt b a=false)→(l.foldl (fun out x=>impl_sheetOf.ins x out) out).Perm (out ++ l)∧(l.foldl (fun out x=>impl_sheetOf.ins x out) out).Pairwise (fun a b=>impl_sheetOf.lt b a=false):=by
 induction l with
 | nil=>intro out h;simpa using h
 | cons x l ih=>
  intro out h
  obtain⟨h1,h2⟩:=ih (impl_sheetOf.ins x out) (impl_sheetOf.ins_sorted x out h)
  refine⟨h1.trans (((impl_sheetOf.ins_perm x out).append_right l).trans ?_),h2⟩
  exact List.perm_middle.symm
theorem impl_sheetOf.srt_sorts (l:List S42):impl_sheetOf.Sorts l (impl_sheetOf.srt l):=by
 have:=impl_sheetOf.fold l [] List.Pairwise.nil
 simpa [impl_sheetOf.Sorts,impl_sheetOf.srt] using this
theorem impl_sheetOf.same (l ys:List S42) (h:impl_sheetOf.Sorts l ys) (hs:impl_sheetOf.strict (impl_sheetOf.srt l)=true):ys=impl_sheetOf.srt l:=
 impl_sheetOf.unique ys (impl_sheetOf.srt l) (h.1.trans (impl_sheetOf.srt_sorts l).1.symm) h.2 (impl_sheetOf.strict_pair _ hs)
theorem impl_sheetOf.not (l ys:List S42) (h:impl_sheetOf.Sorts l ys) (hs:¬impl_sheetOf.strict (impl_sheetOf.srt l)=true):impl_sheetOf.good ys=false:=by
 cases g:impl_sheetOf.good ys with
 | false=>rfl
 | true=>
  have hy:=impl_sheetOf.good_strict ys g
  have:=impl_sheetOf.unique (impl_sheetOf.srt l) ys ((impl_sheetOf.srt_sorts l).1.trans h.1.symm) (impl_sheetOf.srt_sorts l).2 (impl_sheetOf.strict_pair _ hy)
  rw[this]at hs
  exact absurd hy hs
def impl_sheetOf.f (k:Nat) (l0:List S42):Option (List S42×Bool):=if(l0.length:Int)>60 then some ([],false) else if impl_sheetOf.strict (impl_sheetOf.srt l0)=true then(impl_IsSheet.f k (impl_sheetOf.srt l0)).bind fun b=>(if b=true then some (impl_sheetOf.srt l0,true) else some ([],false)) else some ([],false)
theorem impl_sheetOf.mono:∀a0 k,LeO (impl_sheetOf.f k a0) (impl_sheetOf.f (k+1) a0):=by
 intro a0 k
 unfold impl_sheetOf.f
 repeat' first
  |(with_reducible exact impl_IsSheet.mono _ _)
  |(with_reducible exact LeO.refl _)
  |(with_reducible exact LeO.none _)
  |(with_reducible refine LeO.ite ?_ ?_)
  |(with_reducible refine LeO.bind ?_ (fun _=>?_))
/-- What the test of the sorted holes tells, whichever sorted permutation they are. -/
theorem impl_sheetOf.tells (k:Nat) (l0:List S42) (r1:List S42) (r2:Bool) (hl:¬(l0.length:Int)>60) (h:impl_sheetOf.f k l0=some (r1,r2)) (ys:List S42) (hs:impl_sheetOf.Sorts l0 ys):∃K b,impl_IsSheet.f K ys=some b∧(b=true→r1=ys∧r2=true)∧(b=false→r1 = []∧r2=false):=by
 unfold impl_sheetOf.f at h
 rw[if_neg hl]at h
 by_cases c:impl_sheetOf.strict (impl_sheetOf.srt l0)=true
 ·rw[if_pos c]at h
  obtain⟨b,e,h⟩:=Option.bind_eq_some_iff.mp h
  refine⟨k,b,by rw[impl_sheetOf.same l0 ys hs c];exact e,fun hb=>?_,fun hb=>?_⟩
  ·subst hb;rw[if_pos rfl]at h;injection h with h;injection h with h1 h2;exact⟨by rw[impl_sheetOf.same l0 ys hs c];exact h1.symm,h2.symm⟩
  ·subst hb;rw[if_neg (by decide)]at h;injection h with h;injection h with h1 h2;exact⟨h1.symm,h2.symm⟩
 ·rw[if_neg c]at h
  injection h with h
  injection h with h1 h2
  have hlen:ys.length=l0.length:=hs.1.length_eq
  obtain⟨K,e⟩:=impl_sheetOf.isSheet_ok ys (by omega)
  refine⟨K,false,?_,(fun hb=>absurd hb (by decide)),(fun _=>⟨h1.symm,h2.symm⟩)⟩
  have:=e K (Nat.le_refl _)
  rwa [impl_sheetOf.not l0 ys hs c]at this
end
theorem impl_sheetOf.cloneNil (v:Value) (W:World) (base:Nat) (xs:List S42) (HO:Kd.R k42 42 W base (fun _=>True) v xs):(v = .slice none 0 0∧xs = [])∨∃g cap,v = .slice (some ⟨g,0,none⟩) xs.length cap∧g<W.heap.size:=by
 obtain⟨_,inner,hown,_⟩:=HO
 rcases hown.2 with ⟨hv,hn⟩ | ⟨g,cap,cur,hv,_,hh,_⟩
 ·exact .inl ⟨hv,List.eq_nil_of_length_eq_zero hn⟩
 ·refine .inr ⟨g,cap,hv,?_⟩
  rcases Nat.lt_or_ge g W.heap.size with h | h
  ·exact h
  ·rw[Array.getElem?_eq_none h]at hh;cases hh
def impl_sheetOf.SortPost (W:World) (B base:Nat) (v:Value) (xs:List S42) (e:Ending) (W':World):Prop:=e = .returned (.tuple #[])∧∃ys,impl_sheetOf.Sorts xs ys∧ys.length=xs.length∧Kd.R k42 42 W' base (fun _=>True) v ys∧Below base W W'∧W'.cell? ⟨B,0,none⟩=some v∧W.heap.size≤W'.heap.size
theorem impl_sheetOf.sortV (w2:World) (base:Nat) (v:Value) (xs:List S42) (HO:Kd.R k42 42 w2 base (fun _=>True) v xs) (hbase:base≤w2.heap.size) (hlen:xs.length≤60) :
 Calls Try.prog 107 #[.iface 32 v, .func (.func 108) #[] #[.pointer (some ⟨w2.heap.size,0,none⟩)]] (w2.alloc (.cells #[v] 32)) (impl_sheetOf.SortPost (w2.alloc (.cells #[v] 32)) w2.heap.size base v xs):=by
 have HO2:Kd.R k42 42 (w2.alloc (.cells #[v] 32)) base (fun _=>True) v xs:=Kd.R_alloc HO _
 have hB:(w2.alloc (.cells #[v] 32)).cell? ⟨w2.heap.size,0,none⟩=some v:=by simp
 rcases impl_sheetOf.cloneNil v w2 base xs HO with ⟨rfl,rfl⟩ | ⟨g,cap,rfl,hg⟩
 ·refine(Go.Proofs.Ytplpjmhmochcfaa.SymSort.sliceStable_tiny Try.laysGt8 32 42 impl_sheetOf.T impl_sheetOf.E (by kernel_rfl) (by kernel_rfl) (by kernel_rfl) (by kernel_rfl) 25 (fun _=>by kernel_rfl) none 0 0 (by omega) 124 (by kernel_rfl) (.func 108) #[] _ _).mono ?_
  rintro e w' ⟨rfl,os,rfl⟩
  have hbl:Below (w2.alloc (.cells #[.slice none 0 0] 32)).heap.size (w2.alloc (.cells #[.slice none 0 0] 32)) (Go.Sort.grow (w2.alloc (.cells #[.slice none 0 0] 32)) os):=
   ⟨rfl,rfl,rfl,by rw[Go.Sort.size_grow];omega,fun k hk=>Go.Sort.heap_grow_old _ _ hk⟩
  exact⟨rfl, [],⟨List.Perm.refl _,List.Pairwise.nil⟩,rfl,Kd.R_nil _ _ _ _ _,hbl.mono (by simp;omega),by rw[hbl.cell (by simp)];exact hB,hbl.size⟩
 ·exact(impl_sheetOf.sort (w2.alloc (.cells #[.slice (some ⟨g,0,none⟩) xs.length cap] 32)) w2.heap.size g base xs.length cap xs HO2 hB (by omega) (by simp) (by simp;omega) hlen).mono fun e w' h=>h
set_option maxHeartbeats 4000000 in
set_option maxRecDepth 100000 in
theorem impl_sheetOf.calls (k:Nat) (A0:Option Addr) (c0:Nat) (l0:List S42) (r1:List S42) (r2:Bool) (w:World) (hr0:Kd.C k42 w A0 l0.length l0) (hc0:l0.length≤c0) (h:impl_sheetOf.f k l0=some (r1,r2)) :
 Calls Try.prog 83 #[.slice A0 l0.length c0] w fun e w'=>∃v0_:Value,e = .returned (.tuple #[v0_, .bool r2])∧Kd.R k42 42 w' w.heap.size (fun _=>True) v0_ r1∧Below w.heap.size w w':=by
 by_cases hl:(l0.length:Int)>60
 ·have hl2:60<l0.length:=by omega
  unfold impl_sheetOf.f at h
  rw[if_pos hl]at h
  injection h with h
  injection h with h1 h2
  subst h1;subst h2
  clear hr0 hc0
  go_enter Try.func83,Try.ntmps83
  go_wp2
  go_ret2
  exact⟨_,rfl,Kd.R_nil _ _ _ _ _,Below.refl _ _⟩
 ·have hl2:l0.length≤60:=by omega
  have HT:=am_ (impl_sheetOf.tells k l0 r1 r2 hl h)
  have hcl:impl_Hole_66.f l0=some l0:=if_pos (by omega)
  have HR0:=am_ hr0
  have HC0:=am_ hc0
  have HCL:=am_ hcl
  clear hr0 hc0 hcl h
  go_enter Try.func83,Try.ntmps83
  go_wp2_with (first
   |(go_at_call 66;refine(impl_Hole_66.calls A0 c0 l0 l0 _ HR0.out HC0.out HCL.out).mono ?_;rintro e w2 ⟨v2,rfl,ho,hb⟩;obtain⟨A2,c2,rfl⟩:=Kd.R_slice ho;have HO:=am_ ho;have HB2:=am_ hb;clear ho hb)
   |(go_at_call 107;refine(impl_sheetOf.sortV w2 w.heap.size (.slice A2 l0.length c2) l0 HO.out HB2.out.size hl2).mono ?_;rintro e w3 ⟨rfl,ys,hS,hy,ho,hb,hcB,hsz⟩;have HS:=am_ hS;have HY:=am_ hy;have HO3:=am_ ho;have HB3:=am_ hb;clear hS hy ho hb))
  obtain⟨K,b,e,ht,hf⟩:=HT.out ys HS.out
  obtain⟨_,hyc,hrd⟩:=Kd.R_reads' HO3.out
  have hcall:=impl_IsSheet.calls K A2 c2 ys b w3 hrd (by have:=HY.out;omega) e
  rw[HY.out]at hcall
  have HB:Aside0 (Below w.heap.size w w3):=⟨(below_alloc HB2.out _).trans HB3.out⟩
  have hws:w.heap.size≤w3.heap.size:=HB.out.size
  have hB2:w2.heap.size<w3.heap.size:=by simp at hsz;omega
  clear hrd hyc HB3 HB2 HT HS
  cases b with
  | false=>
   obtain⟨rfl,rfl⟩:=hf rfl
   clear ht hf e
   go_wp2_with (go_at_call 21;refine hcall.mono ?_;rintro e w4 ⟨rfl,hb4⟩)
   go_ret2
   exact⟨_,rfl,Kd.R_nil _ _ _ _ _,HB.out.trans (hb4.mono hws)⟩
  | true=>
   obtain⟨rfl,rfl⟩:=ht rfl
   clear ht hf e
   go_wp2_with (go_at_call 21;refine hcall.mono ?_;rintro e w4 ⟨rfl,hb4⟩;have hc4:=(hb4.cell (p:=⟨w2.heap.size,0,none⟩) hB2).trans hcB)
   go_ret2
   exact⟨_,rfl,by have h:=Kd.R_below HO3.out hb4;first|exact h|(rw[← HY.out]at h;exact h),HB.out.trans (hb4.mono hws)⟩


-- NOT PRINTED: function 116 (impl_Hole_116)

-- NOT PRINTED: function 104 (impl_Hole_104)

/-! ### impl_lessHoles: function 82 (by hand: a copy of the holes, those taken out that the closure tells) -/
def impl_lessHoles.same (x y:S42):Bool:=x.f0 == y.f0 && (x.f1 == y.f1 && (x.f2 == y.f2))
def impl_lessHoles.has (l:List S42) (x:S42):Bool:=l.any (impl_lessHoles.same x)
/-- What the closure tells of a hole: is it taken out. -/
def impl_lessHoles.out (l:List S42) (x:S42):Bool:=impl_lessHoles.has l x
def impl_lessHoles.f (l0 l1:List S42):Option (List S42):=if l0.length<1000000000 then some (l0.filter fun x=> !impl_lessHoles.out l1 x) else none
theorem impl_lessHoles.eqA (d:Nat) (w:World) (x0 x1 x2 y0 y1 y2:Int) :
 (Op.equalIn (d+2) 42 (.agg #[.int .i64 x0, .int .i64 x1, .int .i64 x2]) (.agg #[.int .i64 y0, .int .i64 y1, .int .i64 y2])).run Try.prog w = .ok (x0 == y0 && (x1 == y1 && (x2 == y2))) w:=by
 refine eqA_of Try.underlying42 (by kernel_rfl) ?_
 refine eqf_cons (by rfl) (by go_simp;rfl) (by go_simp;rfl) (by go_simp) ?_
 refine eqf_cons (by rfl) (by go_simp;rfl) (by go_simp;rfl) (by go_simp) ?_
 exact eqf_last (by rfl) (by go_simp;rfl) (by go_simp;rfl) (by go_simp)
attribute [local go_sem high] impl_lessHoles.eqA
theorem impl_lessHoles.step (l:List S42) (kk:Nat) (h:kk<l.length):l.drop kk=rd_T42 l (kk:Int) :: l.drop (kk+1):=by
 rw[List.drop_eq_getElem_cons h]
 congr 1
 simp[rd_T42,List.getD_eq_getElem?_getD,List.getElem?_eq_getElem h]
set_option maxHeartbeats 8000000 in
set_option maxRecDepth 100000 in
theorem impl_lessHoles.idx (A0:Option Addr) (c0:Nat) (l0:List S42) (x:S42) (w:World) (hr0:Kd.C k42 w A0 l0.length l0) :
 Calls Try.prog 117 #[.slice A0 l0.length c0, .agg #[.int .i64 x.f0, .int .i64 x.f1, .int .i64 x.f2]] w fun e w'=>∃r:Int,e = .returned (.int .i64 r)∧decide (0≤r)=impl_lessHoles.has l0 x∧Below w.heap.size w w':=by
 have HR0:=am_ hr0
 clear hr0
 have hmax:=HR0.out.2.1
 go_enter Try.func117,Try.ntmps117
 go_wp2
 go_loopg [5,8] l0.length (fun gg _ s8 wr=>∃kk:Nat,kk≤l0.length∧l0.length-kk≤gg∧s8 = .int .i64 kk∧Aside0 (Below w.heap.size w wr)∧Aside0 (wr.cell? ⟨w.heap.size,0,none⟩=some (.int .i64 x.f0)∧wr.cell? ⟨w.heap.size,1,none⟩=some (.int .i64 x.f1)∧wr.cell? ⟨w.heap.size,2,none⟩=some (.int .i64 x.f2))∧Aside0 (impl_lessHoles.has l0 x=impl_lessHoles.has (l0.drop kk) x))
 case atStart=>exact⟨0,Nat.zero_le _,by omega,rfl,⟨below_alloc (Below.refl _ w) _⟩,⟨blk_cell (blk_new w _) 0,blk_cell (blk_new w _) 1,blk_cell (blk_new w _) 2⟩,⟨rfl⟩⟩
 case round=>
  obtain⟨kk,hkk,hg,rfl,HB,HC,HI⟩:=hrel
  obtain⟨hb0,hb1,hb2⟩:=HC.out
  by_cases hlt:kk<l0.length
  ·have hltz:(kk:Int)<(l0.length:Int):=by omega
   obtain⟨ad,e1,hx0,hx1,hx2⟩:=at_T42 HR0.out (kk:Int) (by omega) hltz
   cases e1
   simp only[Int.toNat_natCast]at hx0 hx1 hx2
   replace hx0:=(HB.out.cell (World.block_lt_of_cell? w _ hx0)).trans hx0
   replace hx1:=(HB.out.cell (World.block_lt_of_cell? w _ hx1)).trans hx1
   replace hx2:=(HB.out.cell (World.block_lt_of_cell? w _ hx2)).trans hx2
   cases hq:(x.f0 == (rd_T42 l0 (kk:Int)).f0 && (x.f1 == (rd_T42 l0 (kk:Int)).f1 && (x.f2 == (rd_T42 l0 (kk:Int)).f2))) with
   | true=>
    have HD:Aside0 (impl_lessHoles.has l0 x=true):=⟨by rw[HI.out,impl_lessHoles.step l0 kk hlt,impl_lessHoles.has,List.any_cons,impl_lessHoles.same,hq];rfl⟩
    clear HI
    go_wp2
    go_quiet (fail)
    go_wp2
    go_ret
    exact⟨_,rfl,by rw[HD.out];exact decide_eq_true (by omega),a1_⟩
   | false=>
    have HD:Aside0 (impl_lessHoles.has l0 x=impl_lessHoles.has (l0.drop (kk+1)) x):=⟨by rw[HI.out,impl_lessHoles.step l0 kk hlt,impl_lessHoles.has,List.any_cons,impl_lessHoles.same,hq];rfl⟩
    clear HI
    go_wp2
    go_quiet (fail)
    go_wp2
    go_roundg (l0.length-(kk+1))
    case measure=>omega
    case rel=>exact⟨kk+1,by omega,by omega,by go_num,⟨a1_⟩,⟨pw_cell_below (pw_below_drewN (Below.refl _ _) _) hb0,pw_cell_below (pw_below_drewN (Below.refl _ _) _) hb1,pw_cell_below (pw_below_drewN (Below.refl _ _) _) hb2⟩,HD⟩
  ·have hltz:¬(kk:Int)<(l0.length:Int):=by omega
   have hkl:kk=l0.length:=by omega
   have HD:Aside0 (impl_lessHoles.has l0 x=false):=⟨by rw[HI.out,hkl,List.drop_length];rfl⟩
   clear HI hkl
   go_wp2
   go_ret
   exact⟨_,rfl,by rw[HD.out];rfl,HB.out⟩
set_option maxHeartbeats 8000000 in
set_option maxRecDepth 100000 in
theorem impl_lessHoles.cont (A0:Option Addr) (c0:Nat) (l0:List S42) (x:S42) (w:World) (hr0:Kd.C k42 w A0 l0.length l0) :
 Calls Try.prog 106 #[.slice A0 l0.length c0, .agg #[.int .i64 x.f0, .int .i64 x.f1, .int .i64 x.f2]] w fun e w'=>e = .returned (.bool (impl_lessHoles.has l0 x))∧Below w.heap.size w w':=by
 have HR0:=am_ hr0
 clear hr0
 go_enter Try.func106,Try.ntmps106
 go_wp2_with (go_at_call 117;refine(impl_lessHoles.idx A0 c0 l0 x _ (Kd.C_below HR0.out (below_alloc (Below.refl _ _) _))).mono ?_;rintro e w' ⟨r,rfl,hr,hb⟩)
 go_ret
 exact⟨by rw[← hr];rfl,below_then (below_alloc (Below.refl _ _) _) (by simp) hb⟩
set_option maxHeartbeats 8000000 in
set_option maxRecDepth 100000 in
theorem impl_lessHoles.clo (B:Nat) (A1:Option Addr) (c1:Nat) (l1:List S42) (x:S42) (b:Bool) (W:World) (hB:B<W.heap.size) (hc:W.cell? ⟨B,0,none⟩=some (.slice A1 l1.length c1)) (hC:Kd.C k42 W A1 l1.length l1) (hb:impl_lessHoles.out l1 x=b) :
 Calls Try.prog 105 #[.agg #[.int .i64 x.f0, .int .i64 x.f1, .int .i64 x.f2], .pointer (some ⟨B,0,none⟩)] W fun e w'=>e = .returned (.bool b)∧Below W.heap.size W w':=by
 have hc2:∀o:Obj,(W.alloc o).cell? ⟨B,0,none⟩=some (.slice A1 l1.length c1):=fun o=>(World.cell?_alloc_lt _ _ _ hB).trans hc
 have HR:=am_ hC
 clear hC
 go_enter Try.func105,Try.ntmps105
 go_wp2_with (go_at_call 106;refine(impl_lessHoles.cont A1 c1 l1 x _ (Kd.C_below HR.out (below_alloc (Below.refl _ _) _))).mono ?_;rintro e w' ⟨rfl,hb'⟩)
 go_ret
 exact⟨by rw[← hb];rfl,below_then (below_alloc (Below.refl _ _) _) (by simp) hb'⟩
def impl_lessHoles.at (p:S42→Bool):Int→List S42→Int
 | _, []=> -1
 | i,x :: l=>if p x=true then i else impl_lessHoles.at p (i+1) l
theorem impl_lessHoles.at_spec (p:S42→Bool) (l:List S42):∀i:Int,(impl_lessHoles.at p i l = -1∧l.filter (fun x=> !p x)=l)∨∃pre x suf,l=pre ++ x :: suf∧impl_lessHoles.at p i l=i+pre.length∧pre.filter (fun x=> !p x)=pre∧p x=true:=by
 induction l with
 | nil=>intro i;exact .inl ⟨rfl,rfl⟩
 | cons x l ih=>
  intro i
  by_cases c:p x=true
  ·exact .inr ⟨[],x,l,rfl,by simp[impl_lessHoles.at,c],rfl,c⟩
  ·rcases ih (i+1) with ⟨h1,h2⟩ | ⟨pre,y,suf,h1,h2,h3,h4⟩
   ·exact .inl ⟨by rw[impl_lessHoles.at,if_neg c,h1],by rw[List.filter_cons_of_pos (by simpa using c),h2]⟩
   ·exact .inr ⟨x :: pre,y,suf,by rw[h1];rfl,by rw[impl_lessHoles.at,if_neg c,h2,List.length_cons];omega,by rw[List.filter_cons_of_pos (by simpa using c),h3],h4⟩
set_option maxHeartbeats 8000000 in
set_option maxRecDepth 100000 in
theorem impl_lessHoles.first(A0:Option Addr) (c0:Nat) (l0:List S42) (B:Nat) (A1:Option Addr) (c1:Nat) (l1:List S42) (w:World) (hB:B<w.heap.size) (hcB:w.cell? ⟨B,0,none⟩=some (.slice A1 l1.length c1)) (hr1:Kd.C k42 w A1 l1.length l1) (hr0:Kd.C k42 w A0 l0.length l0) :
 Calls Try.prog 116 #[.slice A0 l0.length c0, .func (.func 105) #[] #[.pointer (some ⟨B,0,none⟩)]] w fun e w'=>e = .returned (.int .i64 (impl_lessHoles.at (impl_lessHoles.out l1) 0 l0))∧Below w.heap.size w w':=by
 have HR0:=am_ hr0
 have HR1:=am_ hr1
 have HCB:=am_ hcB
 clear hr0 hr1 hcB
 have hmax:=HR0.out.2.1
 have eg:=enters_of (P:=Try.prog) Try.func105 (by kernel_rfl) rfl
 go_enter Try.func116,Try.ntmps116
 go_wp2
 go_loopg [5,8] l0.length (fun gg _ s8 wr=>∃kk:Nat,kk≤l0.length∧l0.length-kk≤gg∧s8 = .int .i64 kk∧Aside0 (Below w.heap.size w wr)∧Aside0 (impl_lessHoles.at (impl_lessHoles.out l1) 0 l0=impl_lessHoles.at (impl_lessHoles.out l1) kk (l0.drop kk)))
 case atStart=>exact⟨0,Nat.zero_le _,by omega,rfl,⟨Below.refl _ w⟩,⟨rfl⟩⟩
 case round=>
  obtain⟨kk,hkk,hg,rfl,HB,HI⟩:=hrel
  by_cases hlt:kk<l0.length
  ·have hltz:(kk:Int)<(l0.length:Int):=by omega
   obtain⟨ad,e1,hx0,hx1,hx2⟩:=at_T42 HR0.out (kk:Int) (by omega) hltz
   cases e1
   simp only[Int.toNat_natCast]at hx0 hx1 hx2
   replace hx0:=(HB.out.cell (World.block_lt_of_cell? w _ hx0)).trans hx0
   replace hx1:=(HB.out.cell (World.block_lt_of_cell? w _ hx1)).trans hx1
   replace hx2:=(HB.out.cell (World.block_lt_of_cell? w _ hx2)).trans hx2
   have hdrop:=impl_lessHoles.step l0 kk hlt
   have hsz:w.heap.size≤wr.heap.size:=HB.out.size
   cases hq:impl_lessHoles.out l1 (rd_T42 l0 (kk:Int)) with
   | true=>
    have hcall:=impl_lessHoles.clo B A1 c1 l1 (rd_T42 l0 (kk:Int)) true wr (by omega) (pw_cell_below HB.out HCB.out) (Kd.C_below HR1.out HB.out) hq
    have HD:Aside0 (impl_lessHoles.at (impl_lessHoles.out l1) 0 l0=(kk:Int)):=⟨by rw[HI.out,hdrop];simp only[impl_lessHoles.at];rw[if_pos hq]⟩
    clear hq hdrop HI
    go_wp2_with (go_at_call 105;refine hcall.mono ?_;rintro e w' ⟨rfl,hb'⟩)
    go_ret
    exact⟨by rw[HD.out];rfl,below_then HB.out hsz hb'⟩
   | false=>
    have hcall:=impl_lessHoles.clo B A1 c1 l1 (rd_T42 l0 (kk:Int)) false wr (by omega) (pw_cell_below HB.out HCB.out) (Kd.C_below HR1.out HB.out) hq
    have HD:Aside0 (impl_lessHoles.at (impl_lessHoles.out l1) 0 l0=impl_lessHoles.at (impl_lessHoles.out l1) ((kk+1:Nat):Int) (l0.drop (kk+1))):=⟨by rw[HI.out,hdrop];simp only[impl_lessHoles.at];rw[if_neg (by rw[hq];decide)];simp⟩
    clear hq hdrop HI
    go_wp2_with (go_at_call 105;refine hcall.mono ?_;rintro e w' ⟨rfl,hb'⟩)
    go_roundg (l0.length-(kk+1))
    case measure=>omega
    case rel=>exact⟨kk+1,by omega,by omega,by go_num,⟨below_then HB.out hsz hb'⟩,HD⟩
  ·have hltz:¬(kk:Int)<(l0.length:Int):=by omega
   have hkl:kk=l0.length:=by omega
   have HD:Aside0 (impl_lessHoles.at (impl_lessHoles.out l1) 0 l0 = -1):=⟨by rw[HI.out,hkl,List.drop_length];rfl⟩
   clear HI hkl
   go_wp2
   go_ret
   exact⟨by rw[HD.out];rfl,HB.out⟩
/-- The tail is cleared: zero cells are written, whatever they are. -/
theorem impl_lessHoles.clear (W:World) (g o n c:Nat) (hn:0<n) (hc:∀j,j<n*3→(W.cell? ⟨g,o+j,none⟩).isSome=true) (hf:∀j,j<n*3→W.frozen? ⟨g,o+j,none⟩=false) :
 ∃zs:List Value,zs.length=n*3∧∀ty,(Builtin.clear_ #[32] ty #[.slice (some ⟨g,o,none⟩) n c]).run Try.prog W = .ok (.tuple #[]) (W.setCells g o zs):=by
 have hv:∀w,(zeroValue 42).run Try.prog w = .ok (.agg #[(.int .i64 0),(.int .i64 0),(.int .i64 0)]) w:=by intro w;go_simp
 have hl:(Builtin.zeroCells (Value.cells (.agg #[(.int .i64 0),(.int .i64 0),(.int .i64 0)])) n).toList.length=n*3:=by simp[Builtin.zeroCells,Value.cells]
 have h1:∀v∈(Builtin.zeroCells (Value.cells (.agg #[(.int .i64 0),(.int .i64 0),(.int .i64 0)])) n).toList,v.oneCell'=true:=by
  intro v hv'
  simp only[Builtin.zeroCells,Array.toList_map,List.mem_map]at hv'
  obtain⟨i,_,rfl⟩:=hv'
  have hs:(Value.cells (.agg #[(.int .i64 0),(.int .i64 0),(.int .i64 0)])).size=3:=rfl
  rw[hs]
  rcases (show i % 3=0∨i % 3=1∨i % 3=2 by omega) with h | h | h<;>rw[h]<;>rfl
 have hst:=run_storeCells_cells (P:=Try.prog) g o (Builtin.zeroCells (Value.cells (.agg #[(.int .i64 0),(.int .i64 0),(.int .i64 0)])) n).toList 0 W (by simpa only[hl,Nat.add_zero] using hc) (by simpa only[hl,Nat.add_zero] using hf) h1
 simp only[Nat.add_zero]at hst
 refine⟨_,hl,fun ty=>?_⟩
 obtain⟨m,rfl⟩:∃m,n=m+1:=⟨n-1,by omega⟩
 simp[Builtin.clear_,run_underlying Try.underlying32,hv,hst]
/-- What stands behind the first i elements may be written over: the first i are a row still. -/
theorem impl_lessHoles.cut (W:World) (base g n cap i:Nat) (ys:List S42) (zs:List Value) (HO:Kd.R k42 42 W base (fun _=>True) (.slice (some ⟨g,0,none⟩) n cap) ys) (hi:i≤n) (hz:i*3+zs.length≤cap*3) :
 Kd.R k42 42 (W.setCells g (i*3) zs) base (fun _=>True) (.slice (some ⟨g,0,none⟩) i cap) (ys.take i):=by
 have hn:=(Kd.R_reads' HO).1
 obtain⟨hok,inner,hown,hr⟩:=Kd.R_take (m:=i) HO (by omega)
 have hsz:(k42).sz=3:=rfl
 have hlt:(ys.take i).length=i:=by rw[List.length_take];omega
 rcases hown.2 with ⟨hv,_⟩ | ⟨g',cap',cur,hv,hb,hh,hnc,hcm,hcs,htake⟩
 ·cases hv
 injection hv with ha _ hc
 injection ha with ha
 injection ha with hg
 subst hg;subst hc
 rw[hsz]at hcs htake
 obtain⟨cur',h3,h4,h5⟩:=setCells_row zs (i*3) W cur hh (by omega)
 have hfar:∀k',k'≠g→(W.setCells g (i*3) zs).heap[k']? = W.heap[k']? := fun k' hk'=>setCells_far zs _ k' hk'
 refine⟨hok,inner,⟨hown.1, .inr ⟨g,cap,cur',by rw[hlt],hb,h3,hnc,hcm,by rw[h4,hcs,hsz],?_⟩⟩,hr.imp_ (fun p q hp=>Kd.M_move _ (fun k' hk'=>hfar k' (fun he=>hk'.2 (by rw[he];simp[Value.ownBlock]))) hp)⟩
 rw[hsz,hlt,h5]
 rw[hlt]at htake
 rw[← htake,List.append_assoc,List.take_append_of_le_length (by rw[List.length_take,Array.length_toList];omega)]
 rw[List.take_take,Nat.min_self]
theorem impl_lessHoles.takeset (ys:List S42) (i:Nat) (y:S42) (h:i<ys.length):(ys.set i y).take (i+1)=ys.take i ++ [y]:=by
 obtain⟨pre,x,suf,rfl,rfl⟩:∃pre x suf,ys=pre ++ x :: suf∧pre.length=i:=⟨ys.take i,ys[i],ys.drop (i+1),by simp,by simp;omega⟩
 rw[List.set_append_right _ _ (Nat.le_refl _)]
 rw[List.take_append,List.take_of_length_le (by omega),List.take_left]
 simp
set_option maxHeartbeats 2000000 in
set_option maxRecDepth 100000 in
theorem impl_lessHoles.del (B:Nat) (A1:Option Addr) (c1:Nat) (l1:List S42) (w1:World) (hB:B<w1.heap.size) (hcB:w1.cell? ⟨B,0,none⟩=some (.slice A1 l1.length c1)) (hr1:Kd.C k42 w1 A1 l1.length l1) (W:World) (v:Value) (xs:List S42)
 (hO:Kd.R k42 42 W w1.heap.size (fun _=>True) v xs) (hBW:Below w1.heap.size w1 W) :
 Calls Try.prog 104 #[v, .func (.func 105) #[] #[.pointer (some ⟨B,0,none⟩)]] W fun e w'=>∃v0,e = .returned v0∧Kd.R k42 42 w' w1.heap.size (fun _=>True) v0 (xs.filter fun x=> !impl_lessHoles.out l1 x)∧Below w1.heap.size w1 w':=by
 obtain⟨A0,c0,rfl,hc0,hC0⟩:=Kd.R_reads hO
 have hlt1:w1.heap.size≤W.heap.size:=hBW.size
 have HR1:=am_ hr1
 have HCB:=am_ hcB
 have HO:=am_ hO
 have HB:=am_ hBW
 have hmax:=hC0.2.1
 have eg:=enters_of (P:=Try.prog) Try.func105 (by kernel_rfl) rfl
 have hcall:=impl_lessHoles.first A0 c0 xs B A1 c1 l1 W (by omega) (pw_cell_below hBW hcB) (Kd.C_below hr1 hBW) hC0
 clear hcB hr1 hO hBW hC0
 rcases impl_lessHoles.at_spec (impl_lessHoles.out l1) xs 0 with ⟨h1,h2⟩ | ⟨pre,x0,suf,h1,h2,h3,h4⟩
 ·rw[h1]at hcall
  have HF:=am_ h2
  clear h1 h2
  go_enter Try.func104,Try.ntmps104
  go_wp2_with (go_at_call 116;refine hcall.mono ?_;rintro e w' ⟨rfl,hb'⟩)
  go_ret
  exact⟨_,rfl,by rw[HF.out];exact Kd.R_below HO.out hb',below_step HB.out hb'⟩
 ·rw[h2,Int.zero_add]at hcall
  have hxl:xs.length=pre.length+(suf.length+1):=by rw[h1];simp
  have HF:=am_ h1
  have HF3:=am_ h3
  have HF4:=am_ h4
  clear h1 h2 h3 h4
  obtain⟨g,cap,eq1,hbase,hglt,hcap⟩:=Kd.R_form HO.out (by omega)
  obtain⟨rfl,rfl⟩:A0=some ⟨g,0,none⟩∧c0=cap:=by injection eq1 with e1 e2 e3;exact⟨e1,e3⟩
  clear eq1
  have HXL:=am_ hxl
  have hw1:wrap64 ((pre.length:Int)+1)=((pre.length+1:Nat):Int):=by unfold wrap64;omega
  have HW1:=am_ hw1
  clear hxl hw1
  have hne1:((pre.length:Int) == -1)=false:=beq_eq_false_iff_ne.2 (by omega)
  go_enter Try.func104,Try.ntmps104
  go_wp2_with (go_at_call 116;refine hcall.mono ?_;rintro e w2 ⟨rfl,hb'⟩;have n0_:=am_ (Kd.R_below HO.out hb');have n1_:=am_ (below_step HB.out hb');clear HO HB hb' hcall;have HO:=n0_;have HB:=n1_;clear n0_ n1_)
  go_loopg [5,6,7] xs.length (fun gg s5 s6 _ wr=>∃(i j:Nat) (ys:List S42),s5 = .int .i64 i∧s6 = .int .i64 j∧i<j∧j≤xs.length∧xs.length-j≤gg∧ys.length=xs.length∧Aside0 (ys.take i=(xs.take j).filter fun x=> !impl_lessHoles.out l1 x)∧Aside0 (ys.drop j=xs.drop j)∧Aside0 (Kd.R k42 42 wr w1.heap.size (fun _=>True) (.slice (some ⟨g,0,none⟩) xs.length c0) ys)∧Aside0 (Below w1.heap.size w1 wr))
  case atStart=>have hxl:=HXL.out;exact⟨pre.length,pre.length+1,xs,rfl,(a65_ HW1.out),by omega,by omega,by omega,rfl,⟨by rw[HF.out,List.take_left,List.take_append,List.take_of_length_le (by omega)];simp[HF3.out,HF4.out]⟩,⟨rfl⟩,HO,HB⟩
  case round=>
   obtain⟨i,j,ys,rfl,rfl,hij,hjn,hgg,hyl,HT,HD,HO,HB⟩:=hrel
   have hsz:w1.heap.size≤wr.heap.size:=HB.out.size
   by_cases hlt:j<xs.length
   ·have hltz:(j:Int)<(xs.length:Int):=by omega
    have hiz:(i:Int)<(xs.length:Int):=by omega
    obtain⟨ce,hcl,hM,hcc,hfr⟩:=Kd.R_elem HO.out z42 (j:Int) (by omega) (by omega)
    obtain rfl:=k42_openM hM
    have hx0:=hcc 0 _ rfl
    have hx1:=hcc 1 _ rfl
    have hx2:=hcc 2 _ rfl
    clear hcl hM hcc hfr
    simp only[Int.toNat_natCast,show(k42).sz=3 from rfl,Nat.add_zero]at hx0 hx1 hx2
    obtain⟨y,hy⟩:∃y,y=ys.getD j z42:=⟨_,rfl⟩
    rw[← hy]at hx0 hx1 hx2
    have hyx:xs.drop j=y :: xs.drop (j+1):=by
     rw[← HD.out,List.drop_eq_getElem_cons (by omega),hy]
     have e1:ys.drop (j+1)=xs.drop (j+1):=by
      have:=congrArg (List.drop 1) HD.out
      rwa [List.drop_drop,List.drop_drop]at this
     rw[e1,List.getD_eq_getElem?_getD,List.getElem?_eq_getElem (by omega)];rfl
    have hD1:ys.drop (j+1)=xs.drop (j+1):=by
     have:=congrArg (List.drop 1) HD.out
     rwa [List.drop_drop,List.drop_drop]at this
    have hT1:xs.take (j+1)=xs.take j ++ [y]:=by
     have e2:xs[j]? = some y:=by
      have:=congrArg (fun q=>q[0]?) hyx
      simpa using this
     rw[List.take_add_one,e2];rfl
    have HYX:=am_ hT1
    have HD1:=am_ hD1
    clear hy hyx hT1 hD1
    have hB3:B<wr.heap.size:=by omega
    have hw1:wrap64 ((j:Int)+1)=((j+1:Nat):Int):=by unfold wrap64;omega
    have hw2:wrap64 ((i:Int)+1)=((i+1:Nat):Int):=by unfold wrap64;omega
    have HW1:=am_ hw1
    have HW2:=am_ hw2
    clear hw1 hw2
    cases hq:impl_lessHoles.out l1 y with
    | true=>
     have HQ:=am_ hq
     clear hq
     go_wp2_with (first
      |((with_reducible refine gate_dst (N:=7) rfl ?_);refine box_event ?hg (N:=7) ?hd (cs:= #[.int .i64 0, .int .i64 0, .int .i64 0]) (t:=42) ?hr ?_;(case hd=>rfl);(case hg=>rfl);(case hr=>exact hr_);intro gb hgb w2 hbox hb;have n0_:=am_ (Kd.R_below (Kd.R_elderB HO.out gb (Nat.le_of_eq hgb.symm)) hb);have n1_:=am_ (below_step HB.out hb);have BK:=am_ hbox;have GB:=am_ (show w1.heap.size≤gb by rw[hgb];exact HB.out.size);have GW:=am_ (show B<w2.heap.size from Nat.lt_of_lt_of_le hB3 hb.size);clear HO HB;have HO:=n0_;have HB:=n1_;clear n0_ n1_ hb hbox hgb hB3 hx0 hx1 hx2;have hcz0:w2.cell? ⟨gb,0,none⟩=some (.int .i64 0):=(blk_cell BK.out 0).trans rfl;have hcz1:w2.cell? ⟨gb,1,none⟩=some (.int .i64 0):=(blk_cell BK.out 1).trans rfl;have hcz2:w2.cell? ⟨gb,2,none⟩=some (.int .i64 0):=(blk_cell BK.out 2).trans rfl;have hfz0:=blk_frozen BK.out 0;have hfz1:=blk_frozen BK.out 1;have hfz2:=blk_frozen BK.out 2)
      |((with_reducible refine gate_store (t:=42) (p:=7) rfl ?_);refine store_event (t:=42) (p:=7) (v:=?vo_w3) (w1:=(((w2.setCell ⟨gb,0,none⟩ (.int .i64 y.f0)).setCell ⟨gb,1,none⟩ (.int .i64 y.f1)).setCell ⟨gb,2,none⟩ (.int .i64 y.f2))) ?hg ?ho ?hn ?hr ?_;(case ho=>rfl);(case hg=>rfl);(case hn=>rfl);(case hr=>exact hr_);intro w3 hw;have BK3:Aside0 (w3.heap[gb]? = some (.cells #[.int .i64 y.f0, .int .i64 y.f1, .int .i64 y.f2] 42 (0,0))):=⟨by rw[hw];exact(blk_set (blk_set (blk_set BK.out 0 _) 1 _) 2 _).trans rfl⟩;have n0_:=am_ (show Kd.R k42 42 w3 w1.heap.size (fun k=>True∧k≠gb) (.slice (some ⟨g,0,none⟩) xs.length c0) ys from by rw[hw];exact Kd.R_far (Kd.R_far (Kd.R_far HO.out (p:=⟨gb,0,none⟩) (fun k hk=>hk.2) _) (p:=⟨gb,1,none⟩) (fun k hk=>hk.2) _) (p:=⟨gb,2,none⟩) (fun k hk=>hk.2) _);have n1_:=am_ (show Below w1.heap.size w1 w3 from by rw[hw];exact below_set (below_set (below_set HB.out GB.out) GB.out) GB.out);have GW3:=am_ (show B<w3.heap.size from Nat.lt_of_lt_of_le hB n1_.out.size);clear HO HB BK GW;have HO:=n0_;have HB:=n1_;clear n0_ n1_ hw hcz0 hcz1 hcz2 hfz0 hfz1 hfz2;have hv0:w3.cell? ⟨gb,0,none⟩=some (.int .i64 y.f0):=(blk_cell BK3.out 0).trans rfl;have hv1:w3.cell? ⟨gb,1,none⟩=some (.int .i64 y.f1):=(blk_cell BK3.out 1).trans rfl;have hv2:w3.cell? ⟨gb,2,none⟩=some (.int .i64 y.f2):=(blk_cell BK3.out 2).trans rfl)
      |(go_at_call 105;refine(impl_lessHoles.clo B A1 c1 l1 y true _ GW3.out (pw_cell_below HB.out HCB.out) (Kd.C_below HR1.out HB.out) HQ.out).mono ?_;rintro e w4 ⟨rfl,hb4⟩;have n0_:=am_ (Kd.R_below HO.out hb4);have n1_:=am_ (below_step HB.out hb4);clear HO HB;have HO:=n0_;have HB:=n1_;clear n0_ n1_ hb4 hv0 hv1 hv2))
     go_roundg (xs.length-(j+1))
     case measure=>omega
     case rel=>exact⟨i,j+1,ys,rfl,(a65_ HW1.out),by omega,by omega,Nat.le_refl _,hyl,⟨by rw[HYX.out,List.filter_append, ← HT.out];simp[HQ.out]⟩,HD1,⟨Kd.R_mono HO.out (fun _ _=>trivial)⟩,HB⟩
    | false=>
     have HQ:=am_ hq
     clear hq
     go_wp2_with (first
      |((with_reducible refine gate_dst (N:=7) rfl ?_);refine box_event ?hg (N:=7) ?hd (cs:= #[.int .i64 0, .int .i64 0, .int .i64 0]) (t:=42) ?hr ?_;(case hd=>rfl);(case hg=>rfl);(case hr=>exact hr_);intro gb hgb w2 hbox hb;have n0_:=am_ (Kd.R_below (Kd.R_elderB HO.out gb (Nat.le_of_eq hgb.symm)) hb);have n1_:=am_ (below_step HB.out hb);have BK:=am_ hbox;have GB:=am_ (show w1.heap.size≤gb by rw[hgb];exact HB.out.size);have GW:=am_ (show B<w2.heap.size from Nat.lt_of_lt_of_le hB3 hb.size);clear HO HB;have HO:=n0_;have HB:=n1_;clear n0_ n1_ hb hbox hgb hB3 hx0 hx1 hx2;have hcz0:w2.cell? ⟨gb,0,none⟩=some (.int .i64 0):=(blk_cell BK.out 0).trans rfl;have hcz1:w2.cell? ⟨gb,1,none⟩=some (.int .i64 0):=(blk_cell BK.out 1).trans rfl;have hcz2:w2.cell? ⟨gb,2,none⟩=some (.int .i64 0):=(blk_cell BK.out 2).trans rfl;have hfz0:=blk_frozen BK.out 0;have hfz1:=blk_frozen BK.out 1;have hfz2:=blk_frozen BK.out 2)
      |((with_reducible refine gate_store (t:=42) (p:=7) rfl ?_);refine store_event (t:=42) (p:=7) (v:=?vo_w3) (w1:=(((w2.setCell ⟨gb,0,none⟩ (.int .i64 y.f0)).setCell ⟨gb,1,none⟩ (.int .i64 y.f1)).setCell ⟨gb,2,none⟩ (.int .i64 y.f2))) ?hg ?ho ?hn ?hr ?_;(case ho=>rfl);(case hg=>rfl);(case hn=>rfl);(case hr=>exact hr_);intro w3 hw;have BK3:Aside0 (w3.heap[gb]? = some (.cells #[.int .i64 y.f0, .int .i64 y.f1, .int .i64 y.f2] 42 (0,0))):=⟨by rw[hw];exact(blk_set (blk_set (blk_set BK.out 0 _) 1 _) 2 _).trans rfl⟩;have n0_:=am_ (show Kd.R k42 42 w3 w1.heap.size (fun k=>True∧k≠gb) (.slice (some ⟨g,0,none⟩) xs.length c0) ys from by rw[hw];exact Kd.R_far (Kd.R_far (Kd.R_far HO.out (p:=⟨gb,0,none⟩) (fun k hk=>hk.2) _) (p:=⟨gb,1,none⟩) (fun k hk=>hk.2) _) (p:=⟨gb,2,none⟩) (fun k hk=>hk.2) _);have n1_:=am_ (show Below w1.heap.size w1 w3 from by rw[hw];exact below_set (below_set (below_set HB.out GB.out) GB.out) GB.out);have GW3:=am_ (show B<w3.heap.size from Nat.lt_of_lt_of_le hB n1_.out.size);clear HO HB BK GW;have HO:=n0_;have HB:=n1_;clear n0_ n1_ hw hcz0 hcz1 hcz2 hfz0 hfz1 hfz2;have hv0:w3.cell? ⟨gb,0,none⟩=some (.int .i64 y.f0):=(blk_cell BK3.out 0).trans rfl;have hv1:w3.cell? ⟨gb,1,none⟩=some (.int .i64 y.f1):=(blk_cell BK3.out 1).trans rfl;have hv2:w3.cell? ⟨gb,2,none⟩=some (.int .i64 y.f2):=(blk_cell BK3.out 2).trans rfl)
      |(go_at_call 105;refine(impl_lessHoles.clo B A1 c1 l1 y false _ GW3.out (pw_cell_below HB.out HCB.out) (Kd.C_below HR1.out HB.out) HQ.out).mono ?_;rintro e w4 ⟨rfl,hb4⟩;have n0_:=am_ (Kd.R_below HO.out hb4);have n1_:=am_ (below_step HB.out hb4);clear HO HB;have HO:=n0_;have HB:=n1_;clear n0_ n1_;replace hv0:=pw_cell_below hb4 hv0;replace hv1:=pw_cell_below hb4 hv1;replace hv2:=pw_cell_below hb4 hv2;clear hb4;obtain⟨ce,hcl,hM,hcc,hfr⟩:=Kd.R_elem HO.out z42 (i:Int) (Int.natCast_nonneg i) hiz;obtain rfl:=k42_openM hM;have HP:=am_ (Kd.R_seg (Kd.R_mono HO.out (ok':=fun _=>True) (fun _ _=>trivial)) (i:Int) (Int.natCast_nonneg i) hiz (seg:=[.int .i64 y.f0, .int .i64 y.f1, .int .i64 y.f2]) (j:=0) hcl hcc (show 3≤3 from by decide) (x':=y) (okp:=fun k=>True∧k≠g) (k42_mkM _ _ _ y) (fun _ hk=>hk));have he0:=hcc 0 _ rfl;have he1:=hcc 1 _ rfl;have he2:=hcc 2 _ rfl;have hf0:=hfr 0;have hf1:=hfr 1;have hf2:=hfr 2;clear hcl hM hcc hfr;simp only[Int.toNat_natCast,show(k42).sz=3 from rfl,Nat.add_zero]at he0 he1 he2 hf0 hf1 hf2)
      |((with_reducible refine gate_store (t:=42) (p:=33) rfl ?_);refine store_event (t:=42) (p:=33) (v:=?vo_w5) (w1:=(((w4.setCell ⟨g,i*3,none⟩ (.int .i64 y.f0)).setCell ⟨g,i*3+1,none⟩ (.int .i64 y.f1)).setCell ⟨g,i*3+2,none⟩ (.int .i64 y.f2))) ?hg ?ho ?hn ?hr ?_;(case ho=>rfl);(case hg=>rfl);(case hn=>rfl);(case hr=>exact hr_);intro w5 hw;have n0_:=am_ (show Kd.R k42 42 w5 w1.heap.size (fun _=>True) (.slice (some ⟨g,0,none⟩) xs.length c0) (ys.set i y) from by rw[hw];exact HP.out.1);have n1_:=am_ (show Below w1.heap.size w1 w5 from by rw[hw];exact below_set (below_set (below_set HB.out hbase) hbase) hbase);clear HO HB HP;have HO:=n0_;have HB:=n1_;clear n0_ n1_ hw he0 he1 he2 hf0 hf1 hf2 hv0 hv1 hv2))
     go_roundg (xs.length-(j+1))
     case measure=>omega
     case rel=>exact⟨i+1,j+1,ys.set i y,(a65_ HW2.out),(a65_ HW1.out),by omega,by omega,Nat.le_refl _,by rw[List.length_set];exact hyl,⟨by rw[HYX.out,List.filter_append, ← HT.out,impl_lessHoles.takeset ys i y (by omega)];simp[HQ.out]⟩,⟨by rw[List.drop_set_of_lt (by omega)];exact HD1.out⟩,HO,HB⟩
   ·obtain rfl:j=xs.length:=by omega
    have hltz:¬(xs.length:Int)<(xs.length:Int):=by omega
    have hn0:0<xs.length-i:=by omega
    have hic:i≤c0:=by omega
    have hicz:(i:Int)≤(c0:Int):=by omega
    have hinz:(i:Int)≤(xs.length:Int):=by omega
    have hne2:¬c0=i:=by omega
    obtain⟨cur,hcur,hcs⟩:∃cur,wr.heap[g]? = some (.cells cur 42 (0,0))∧cur.size=c0*3:=by
     obtain⟨_,inner,hown,_⟩:=HO.out
     rcases hown.2 with ⟨hv,_⟩ | ⟨g',cap',cur,hv,hb,hh,hnc,hcm,hcs,htake⟩
     ·cases hv
     injection hv with ha _ hc
     injection ha with ha
     injection ha with hg
     subst hg;subst hc
     exact⟨cur,hh,hcs⟩
    obtain⟨zs,hzl,hcl⟩:=impl_lessHoles.clear wr g (i*3) (xs.length-i) (c0-i) hn0 (fun q hq=>by rw[blk_cell hcur,Array.getElem?_eq_getElem (by omega)];rfl) (fun q hq=>blk_frozen hcur _)
    have hz2:i*3+zs.length≤c0*3:=by omega
    have HX:=am_ (impl_lessHoles.cut wr w1.heap.size g xs.length c0 i ys zs HO.out (by omega) hz2)
    have HBX:Aside0 (Below w1.heap.size w1 (wr.setCells g (i*3) zs)):=⟨by
     obtain⟨s1,s2,s3,s4⟩:=setCells_same g zs (i*3) wr
     exact pw_below_grown HB.out (some g) hsz ⟨s1,s2,s3,by rw[s4];exact Nat.le_refl _,fun k _ hk=>setCells_far _ _ k (fun he=>hk (by rw[he]))⟩ (fun k hk=>by injection hk with hk;rw[← hk];exact hbase)⟩
    have HTX:Aside0 (ys.take i=xs.filter fun x=> !impl_lessHoles.out l1 x):=⟨by rw[HT.out,List.take_length]⟩
    clear HT HD hcur hcs hzl hz2
    go_wp2
    go_ret
    exact⟨_,rfl,by rw[← HTX.out];exact HX.out,HBX.out⟩
set_option maxHeartbeats 4000000 in
set_option maxRecDepth 100000 in
theorem impl_lessHoles.calls (A0:Option Addr) (c0:Nat) (l0:List S42) (A1:Option Addr) (c1:Nat) (l1:List S42) (r:List S42) (w:World) (hr0:Kd.C k42 w A0 l0.length l0) (hc0:l0.length≤c0) (hr1:Kd.C k42 w A1 l1.length l1) (hc1:l1.length≤c1) (h:impl_lessHoles.f l0 l1=some r) :
 Calls Try.prog 82 #[.slice A0 l0.length c0, .slice A1 l1.length c1] w fun e w'=>∃v0_:Value,e = .returned (v0_)∧Kd.R k42 42 w' w.heap.size (fun _=>True) v0_ r∧Below w.heap.size w w':=by
 unfold impl_lessHoles.f at h
 by_cases hlen:l0.length<1000000000
 ·rw[if_pos hlen]at h
  obtain rfl:=Option.some.inj h
  have hcl:impl_Hole_66.f l0=some l0:=if_pos hlen
  clear h hlen
  have HR0:=am_ hr0
  have HR1:=am_ hr1
  have HC0:=am_ hc0
  have HCL:=am_ hcl
  clear hr0 hr1 hc0 hc1 hcl
  have HB:=am_ (Below.refl w.heap.size w)
  go_enter Try.func82,Try.ntmps82
  go_wp2_with (first
   |(go_at_call 66;refine(impl_Hole_66.calls A0 c0 l0 l0 _ (Kd.C_below HR0.out (below_alloc (Below.refl _ _) _)) HC0.out HCL.out).mono ?_;rintro e w2 ⟨v2,rfl,ho,hb⟩;have HO:=am_ ho;have HB2:=am_ hb;clear ho hb)
   |(go_at_call 104;refine(impl_lessHoles.del w.heap.size A1 c1 l1 (w.alloc _) (by simp) (blk_cell (blk_new w _) 0) (Kd.C_below HR1.out (below_alloc (Below.refl _ _) _)) w2 v2 l0 HO.out HB2.out).mono ?_;rintro e w3 ⟨v3,rfl,ho,hb⟩;have HO3:=am_ ho;have HB3:=am_ hb;clear ho hb))
  go_ret
  exact⟨_,rfl,Kd.R_lower HO3.out (by simp),below_then (below_alloc (Below.refl _ _) _) (by simp) HB3.out⟩
 ·rw[if_neg hlen]at h
  exact absurd h (by simp)


end Go.Proofs.Ytplpjmhmochcfaa.QFnMerges
