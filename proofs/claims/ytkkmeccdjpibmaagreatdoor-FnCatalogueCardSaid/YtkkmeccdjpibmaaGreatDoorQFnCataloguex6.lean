/- Written by a program of this session (the kit's printer, with leaf contracts proved by hand put in): what each Go function computes, and that the call computes it. No condition but those that each theorem names. -/
import Derived.Test.YtkkmeccdjpibmaaGreatDoorQFnCataloguex0
import Derived.Test.YtkkmeccdjpibmaaGreatDoorQFnCataloguex5
namespace Go.Proofs.YtkkmeccdjpibmaaGreatDoor.QFnCatalogue
open Go.RowKit Go.Proofs.YtkkmeccdjpibmaaGreatDoorW.PrintWords Go.Proofs.YtkkmeccdjpibmaaGreatDoorW.PrintLast Go.Proofs.YtkkmeccdjpibmaaGreatDoorW.PrintMore
attribute [local go_sem] max2_int min2_int max_two min_two max_three min_three max_four min_four   -- for this text's walks alone
set_option linter.unusedVariables false
set_option linter.unusedSimpArgs false

-- NOT PRINTED: function 86 (strconv_small)

-- NOT PRINTED: function 96 (strconv_log10Pow2)

-- NOT PRINTED: function 97 (bits_Len64)

-- NOT PRINTED: function 98 (strconv_bool2_int)

-- NOT PRINTED: function 87 (strconv_numDigits)

-- NOT PRINTED: function 88 (strconv_formatBase10)

-- NOT PRINTED: function 99 (strconv_isPowerOfTwo)

-- NOT PRINTED: function 103 (bits_TrailingZeros32)

-- NOT PRINTED: function 104 (bits_TrailingZeros64)

-- NOT PRINTED: function 100 (bits_TrailingZeros)

-- NOT PRINTED: function 89 (strconv_formatBits)

-- NOT PRINTED: function 80 (strconv_FormatInt)

-- NOT PRINTED: function 72 (strconv_Itoa_72)

-- NOT PRINTED: function 55 (strconv_Itoa_55)

-- NOT PRINTED: function 74 (abi_NoEscape)

-- NOT PRINTED: function 57 (strings_Builder_copyCheck)

-- NOT PRINTED: function 30 (strings_Builder_WriteString)

-- NOT PRINTED: function 31 (strings_Builder_String)

-- NOT PRINTED: function 90 (bytealg_MakeNoZero)

-- NOT PRINTED: function 81 (strings_Builder_grow)

-- NOT PRINTED: function 73 (strings_Builder_Grow)

-- NOT PRINTED: function 56 (strings_Join)

-- NOT PRINTED: function 29 (impl_words)

/-! ### impl_CatalogueText: function 5 (by hand: a text in a strings.Builder) -/
def impl_CatalogueText.num (n:Int):ByteArray:=⟨(DoorLib.wordsOf [n]).toArray⟩
def impl_CatalogueText.src (n:Int):ByteArray:=if 0≤n then impl_CatalogueText.num n else(⟨#[45]⟩:ByteArray)
def impl_CatalogueText.lineB (x:S47):ByteArray:=((((((x.f0 ++ (⟨#[32]⟩:ByteArray)) ++ x.f1) ++ (⟨#[32]⟩:ByteArray)) ++ impl_CatalogueText.num x.f2) ++ (⟨#[32]⟩:ByteArray)) ++ impl_CatalogueText.src x.f3) ++ (⟨#[10]⟩:ByteArray)
def impl_CatalogueText.line (x:S47):List UInt8:=(impl_CatalogueText.lineB x).data.toList
def impl_CatalogueText.ok (x:S47):Bool:=decide (-9223372036854775808≤x.f2∧x.f2≤9223372036854775807) && decide (-9223372036854775808≤x.f3∧x.f3≤9223372036854775807) && decide (x.f0.size≤100∧x.f1.size≤100)
def impl_CatalogueText.f (k:Nat) (l0:List S47):Option (ByteArray×Bool):=(impl_IsCatalogue.f k l0).bind fun t=>(if t=true then(if l0.all impl_CatalogueText.ok=true then(if l0.length≤1000000 then(some (⟨(l0.flatMap impl_CatalogueText.line).toArray⟩,true)) else none) else none) else(some ((⟨#[]⟩:ByteArray),false)))
theorem impl_CatalogueText.mono:∀a0 k,LeO (impl_CatalogueText.f k a0) (impl_CatalogueText.f (k+1) a0):=by
 intro a0 k;unfold impl_CatalogueText.f
 repeat' first
  |(with_reducible exact impl_IsCatalogue.mono _ _)
  |(with_reducible exact LeO.refl _)
  |(with_reducible exact LeO.none _)
  |(with_reducible refine LeO.ite ?_ ?_)
  |(with_reducible refine LeO.bind ?_ (fun _=>?_))
theorem impl_CatalogueText.num_size (n:Int) (h : -9223372036854775808≤n∧n≤9223372036854775807):(impl_CatalogueText.num n).size≤66:=by
 have:=DoorLib.len_words [n] (by simp) (by
  intro m hm
  simp only[List.mem_cons,List.not_mem_nil,or_false]at hm
  subst hm
  exact h)
 show(DoorLib.wordsOf [n]).toArray.size≤66;rw[List.size_toArray];exact this
theorem impl_CatalogueText.src_size (n:Int) (h : -9223372036854775808≤n∧n≤9223372036854775807):(impl_CatalogueText.src n).size≤66:=by
 unfold impl_CatalogueText.src;(split);(focus exact impl_CatalogueText.num_size n h);(focus (show 1≤66;omega))
theorem impl_CatalogueText.line_len (x:S47) (h:impl_CatalogueText.ok x=true):(impl_CatalogueText.line x).length≤340:=by
 simp only[impl_CatalogueText.ok,Bool.and_eq_true,decide_eq_true_eq]at h;(have h2:=impl_CatalogueText.num_size x.f2 h.1.1);(have h3:=impl_CatalogueText.src_size x.f3 h.1.2);(have h4:=h.2)
 have e:(impl_CatalogueText.line x).length=(impl_CatalogueText.lineB x).size:=by
  show(impl_CatalogueText.lineB x).data.toList.length=(impl_CatalogueText.lineB x).data.size
  rw[Array.length_toList]
 rw[e,impl_CatalogueText.lineB];simp only[ByteArray.size_append,show(⟨#[32]⟩:ByteArray).size=1 from rfl,show(⟨#[10]⟩:ByteArray).size=1 from rfl];omega
theorem impl_CatalogueText.text_len (l:List S47) (h:l.all impl_CatalogueText.ok=true):(l.flatMap impl_CatalogueText.line).length≤340*l.length:=by
 induction l with
 | nil=>simp
 | cons x r ih=>
  simp only[List.all_cons,Bool.and_eq_true]at h;have:=ih h.2;have:=impl_CatalogueText.line_len x h.1;simp only[List.flatMap_cons,List.length_append,List.length_cons];omega
theorem impl_CatalogueText.cell_below {w W:World} {p:Addr} {v:Value} (h:w.cell? p=some v) (hb:Below w.heap.size w W):W.cell? p=some v:=(hb.cell (World.block_lt_of_cell? w p h)).trans h
def impl_CatalogueText.T10:Bool×List (List Nat×List Nat):=(true, [([], []),([0], [0]),([1], [1]),([], []),([3], [3]),([2,4], [2,4]),([5], [5]),([], []),([7], [7]),([8], [8]),([9], [9]),([6,10], [6,10]),([11], [11]),([], []),([12,13], [12,13]),([14], [14]),([15,10], [15])])
def impl_CatalogueText.B10:List Nat:=[0,1,3,0,8,31,63,0,128,384,896,2047,4095,0,16383,32767,65535]
theorem impl_CatalogueText.tab10:rtab .any (opsOf Tryz.f5 10)=impl_CatalogueText.T10:=by kernel_rfl
theorem impl_CatalogueText.bits10:waitsOk impl_CatalogueText.T10.2 impl_CatalogueText.B10=true:=by kernel_rfl
theorem impl_CatalogueText.one_cell (w:World) (m:Int):∀(j:Nat) n, [m][j]? = some n→(w.alloc (.cells #[.int .i64 m] 3)).cell? ⟨w.heap.size,0+j,none⟩=some (.int .i64 n):=by
 intro j n hj;(have h:=World.cell?_alloc_new w #[.int .i64 m] 3 j);rw[Nat.zero_add,h];(rcases j with _ | j);(focus simp at hj;subst hj;rfl);(focus simp at hj)
set_option maxHeartbeats 8000000 in
set_option maxRecDepth 100000 in
theorem impl_CatalogueText.calls (k:Nat) (A0:Option Addr) (c0:Nat) (l0:List S47) (r1:ByteArray) (r2:Bool) (w:World) (hr0:Kd.C k47 w A0 l0.length l0) (hc0:l0.length≤c0) (htab:DoorLib.Tab w) (h:impl_CatalogueText.f k l0=some (r1,r2)) :
 Calls Tryz.prog 5 #[.slice A0 l0.length c0] w fun e w'=>e = .returned (.tuple #[.string r1, .bool r2])∧Below w.heap.size w w':=by
 (have HR0:=am_ hr0);(have H:=Option.bind_eq_some_iff.mp h);clear h;obtain⟨t,a0,H⟩:=H;(have z32:(⟨#[32]⟩:ByteArray).size=1:=rfl);(have z45:(⟨#[45]⟩:ByteArray).size=1:=rfl);(have z10:(⟨#[10]⟩:ByteArray).size=1:=rfl);(have HZ:=am_ (And.intro z32 (And.intro z45 z10)));clear z32 z45 z10;by_cases ht:t=true
 ·subst ht;simp only[if_true]at H;by_cases hok:l0.all impl_CatalogueText.ok=true
  ·rw[if_pos hok]at H;(have HOK:=am_ hok);by_cases hlen:l0.length≤1000000
   ·rw[if_pos hlen]at H;(have HH:=am_ (Option.some.inj H));clear H hok;(go_enter Tryz.func5,Tryz.ntmps5);(go_wp2_with (go_at_call 22;refine(impl_IsCatalogue.calls k A0 c0 l0 true _ hr0 hc0 a0).mono ?_;rintro e w1 ⟨rfl,hb1⟩))
    go_loopw [13] (fun i wr=>∃q:Nat,q≤l0.length∧i = .int .i64 q∧Lib.IsBuilder 51 5 w1.heap.size w1.heap.size (Lib.byteCells ((l0.take q).flatMap impl_CatalogueText.line)) wr∧Below w1.heap.size w1 wr)
     (fun i _=>l0.length-(intOf i).toNat)
    case atStart=>exact⟨0,Nat.zero_le _,rfl,Lib.fresh_isBuilder 51 5 w1,below_alloc (Below.refl _ w1) _⟩
    case round=>
     obtain⟨q,hq,rfl,hB,hb⟩:=hrel;by_cases hlt:q<l0.length
     ·obtain⟨ad,rfl,g0,g1,g2,g3⟩:=at_T47 HR0.out (q:Int) (by omega) (by omega);(have hbw:Below w.heap.size w wr:=below_then hb1 hb1.size hb);(have f0:=impl_CatalogueText.cell_below g0 hbw);(have f1:=impl_CatalogueText.cell_below g1 hbw);(have f2:=impl_CatalogueText.cell_below g2 hbw);(have f3:=impl_CatalogueText.cell_below g3 hbw);rw[Int.toNat_natCast]at f0 f1 f2 f3
      have hx:l0[q]? = some (rd_T47 l0 (q:Int)):=by
       rw[rd_T47,List.getD_eq_getElem?_getD,Int.toNat_natCast,List.getElem?_eq_getElem hlt]
       rfl
      generalize rd_T47 l0 (q:Int)=x at f0 f1 f2 f3 hx;clear g0 g1 g2 g3;obtain⟨s0,s1,n2,n3⟩:=x;simp only at f0 f1 f2 f3;(have hxok:impl_CatalogueText.ok ⟨s0,s1,n2,n3⟩=true:=List.all_eq_true.1 HOK.out _ (List.mem_of_getElem? hx));simp only[impl_CatalogueText.ok,Bool.and_eq_true,decide_eq_true_eq]at hxok;obtain⟨⟨hn2,hn3⟩,hs0,hs1⟩:=hxok;(have HX:=am_ hx);clear hx;(have hr2:∀n ∈ [n2], -9223372036854775808≤n∧n≤9223372036854775807:=by intro n hn;rw[List.mem_singleton.1 hn];exact hn2);(have hr3:∀n ∈ [n3], -9223372036854775808≤n∧n≤9223372036854775807:=by intro n hn;rw[List.mem_singleton.1 hn];exact hn3);(have htr:DoorLib.Tab wr:=DoorLib.tab_below htab hbw);(have hbs:=am_ hb.size);(have hts2:=impl_CatalogueText.num_size n2 hn2);(have hts3:=impl_CatalogueText.num_size n3 hn3)
      have htl:=impl_CatalogueText.text_len (l0.take q) (by
       rw[List.all_eq_true];intro y hy;exact List.all_eq_true.1 HOK.out y (List.mem_of_mem_take hy))
      rw[List.length_take,Nat.min_eq_left (by omega)]at htl;(obtain⟨T2,hT2⟩:∃T:ByteArray,impl_CatalogueText.num n2=T:=⟨_,rfl⟩);(obtain⟨T3,hT3⟩:∃T:ByteArray,impl_CatalogueText.num n3=T:=⟨_,rfl⟩);rw[hT2]at hts2;rw[hT3]at hts3;(have HT2:=am_ hT2);(have HT3:=am_ hT3);unfold impl_CatalogueText.num at hT2 hT3;obtain⟨z32,z45,z10⟩:=HZ.out;by_cases c:0≤n3
      ·(have HSR:Aside0 (impl_CatalogueText.src n3=T3):=⟨by unfold impl_CatalogueText.src;rw[if_pos c];exact HT3.out⟩)
       have hlenq:(Lib.byteCells ((l0.take q).flatMap impl_CatalogueText.line)).length+(((((((s0 ++ (⟨#[32]⟩:ByteArray)) ++ s1) ++ (⟨#[32]⟩:ByteArray)) ++ T2) ++ (⟨#[32]⟩:ByteArray)) ++ T3) ++ (⟨#[10]⟩:ByteArray)).size≤140737488355328:=by
        rw[Lib.byteCells_length];simp only[ByteArray.size_append,z32,z45,z10];omega
       (have zs0:(9223372036854775807<(s0).size+1)=False:=eq_false (by(try simp only[ByteArray.size_append,z32,z45,z10]);omega));(have zt0:(9223372036854775807<s0.size+1)=False:=eq_false (by omega));(have zs1:(9223372036854775807<((s0 ++ (⟨#[32]⟩:ByteArray))).size+s1.size)=False:=eq_false (by(try simp only[ByteArray.size_append,z32,z45,z10]);omega));(have zt1:(9223372036854775807<s0.size+1+s1.size)=False:=eq_false (by omega));(have zs2:(9223372036854775807<(((s0 ++ (⟨#[32]⟩:ByteArray)) ++ s1)).size+1)=False:=eq_false (by(try simp only[ByteArray.size_append,z32,z45,z10]);omega));(have zt2:(9223372036854775807<s0.size+1+s1.size+1)=False:=eq_false (by omega));(have zs3:(9223372036854775807<((((s0 ++ (⟨#[32]⟩:ByteArray)) ++ s1) ++ (⟨#[32]⟩:ByteArray))).size+T2.size)=False:=eq_false (by(try simp only[ByteArray.size_append,z32,z45,z10]);omega));(have zt3:(9223372036854775807<s0.size+1+s1.size+1+T2.size)=False:=eq_false (by omega));(have zs4:(9223372036854775807<(((((s0 ++ (⟨#[32]⟩:ByteArray)) ++ s1) ++ (⟨#[32]⟩:ByteArray)) ++ T2)).size+1)=False:=eq_false (by(try simp only[ByteArray.size_append,z32,z45,z10]);omega));(have zt4:(9223372036854775807<s0.size+1+s1.size+1+T2.size+1)=False:=eq_false (by omega));(have zs5:(9223372036854775807<((((((s0 ++ (⟨#[32]⟩:ByteArray)) ++ s1) ++ (⟨#[32]⟩:ByteArray)) ++ T2) ++ (⟨#[32]⟩:ByteArray))).size+T3.size)=False:=eq_false (by(try simp only[ByteArray.size_append,z32,z45,z10]);omega));(have zt5:(9223372036854775807<s0.size+1+s1.size+1+T2.size+1+T3.size)=False:=eq_false (by omega));(have zs6:(9223372036854775807<(((((((s0 ++ (⟨#[32]⟩:ByteArray)) ++ s1) ++ (⟨#[32]⟩:ByteArray)) ++ T2) ++ (⟨#[32]⟩:ByteArray)) ++ T3)).size+1)=False:=eq_false (by(try simp only[ByteArray.size_append,z32,z45,z10]);omega));(have zt6:(9223372036854775807<s0.size+1+s1.size+1+T2.size+1+T3.size+1)=False:=eq_false (by omega));(have c0:decide (0≤n3)=true:=decide_eq_true c);(have BKw:Aside0 ((wr.alloc (.cells #[.string s0, .string s1, .int .i64 n2, .int .i64 n3] 47)).heap[wr.heap.size]? = some (.cells #[.string s0, .string s1, .int .i64 n2, .int .i64 n3] 47 (0,0))):=⟨by show(wr.heap.push _)[wr.heap.size]? = _;simp⟩);(have hcells:=impl_CatalogueText.one_cell (wr.alloc (.cells #[.string s0, .string s1, .int .i64 n2, .int .i64 n3] 47)) n3);rw[DoorLib.asize]at hcells;(have hB2:Below wr.heap.size wr ((wr.alloc (.cells #[.string s0, .string s1, .int .i64 n2, .int .i64 n3] 47)).alloc (.cells #[.int .i64 n3] 3)):=below_alloc (below_alloc (Below.refl _ wr) _) _);(have htab2:=DoorLib.tab_below htr hB2);(have hW:=DoorLib.words_any [n3] (by simp) (by simp) hr3 (wr.heap.size+1) 0 1 _ hcells (by rw[DoorLib.asize,DoorLib.asize];omega) htab2);rw[hT3]at hW;clear hcells hT3 z32 z45 z10 htab2;(have HB2:=am_ hB2);clear hB2;(go_wp2_with (go_at_call 29;refine hW.mono ?_;rintro e wd ⟨rfl,hb3⟩;have BK:=am_ (blk_drew (blk_below (blk_alloc BKw.out _) hb3));have HB4:=am_ (below_drew1 (below_then HB2.out HB2.out.size hb3));clear hb3 hW));refine start_ (n:=17) (S:=fun w'=>w'.cell? ⟨wr.heap.size,0,none⟩=some (.string s0)∧w'.cell? ⟨wr.heap.size,1,none⟩=some (.string s1)∧w'.cell? ⟨wr.heap.size,2,none⟩=some (.int .i64 n2)) (ds:=[16]) (bf_ 0 17) (by kernel_rfl) rfl rfl ⟨(blk_cell BK.out 0).trans rfl,(blk_cell BK.out 1).trans rfl,(blk_cell BK.out 2).trans rfl⟩ (fun hHeld=>?_);refine with_tabW impl_CatalogueText.tab10 impl_CatalogueText.bits10 (fun HT_ HW_=>?_);generalize wd.drew=w4 at BK HB4 hHeld ⊢;refine pure_ (i:=0) (N:=some 24) (v:=?_) (a':=?_) (bf_ 1 17) rfl rfl (any_of HT_.out (by kernel_rfl)) (fun _ _ _ h=>h) (Or.inl ⟨by rfl,?_⟩) ?_ ?_;rotate_left;(focus intro w';go_simp;(with_reducible rfl));rotate_left;(focus simp only[Act.put,pu_];rfl);refine pure_ (i:=3) (N:=some 27) (v:=?_) (a':=?_) #[true,false,false,true,false,false,false,false,false,false,false,false,false,false,false,false,false] rfl rfl (any_of HT_.out (by kernel_rfl)) (fun _ _ _ h=>h) (Or.inl ⟨by rfl,?_⟩) ?_ ?_;rotate_left;(focus intro w';go_simp;(with_reducible rfl));rotate_left;(focus simp only[Act.put,pu_];rfl);refine pure_ (i:=7) (N:=some 31) (v:=?_) (a':=?_) #[true,false,false,true,false,false,false,true,false,false,false,false,false,false,false,false,false] rfl rfl (any_of HT_.out (by kernel_rfl)) (fun _ _ _ h=>h) (Or.inl ⟨by rfl,?_⟩) ?_ ?_;rotate_left;(focus intro w';go_simp;(with_reducible rfl));rotate_left;(focus simp only[Act.put,pu_];rfl);refine pure_ (i:=13) (N:=some 37) (v:=?_) (a':=?_) #[true,false,false,true,false,false,false,true,false,false,false,false,false,true,false,false,false] rfl rfl (any_of HT_.out (by kernel_rfl)) (fun _ _ _ h=>h) (Or.inl ⟨by rfl,?_⟩) ?_ ?_;rotate_left;(focus intro w';go_simp;(with_reducible rfl));rotate_left;(focus simp only[Act.put,pu_];rfl);refine take_ (i:=1) (N:=some 25) (v:=?_) (a':=?_) #[true,true,false,true,false,false,false,true,false,false,false,false,false,true,false,false,false] rfl rfl (take_ofW HT_.out HW_.out (by kernel_rfl)) (fun _ _ _ h=>h) (Or.inl ⟨by rfl,?_⟩) hHeld ?_ ?_;rotate_left;(focus rintro w' ⟨s0,s1,s2⟩;go_simp;(with_reducible rfl));rotate_left;(focus simp only[Act.put,pu_];rfl);refine pure_ (i:=2) (N:=some 26) (v:=?_) (a':=?_) #[true,true,true,true,false,false,false,true,false,false,false,false,false,true,false,false,false] rfl rfl (any_of HT_.out (by kernel_rfl)) (fun _ _ _ h=>h) (Or.inl ⟨by rfl,?_⟩) ?_ ?_;rotate_left;(focus intro w';go_simp;(with_reducible rfl));rotate_left;(focus simp only[Act.put,pu_];rfl);refine take_ (i:=4) (N:=some 28) (v:=?_) (a':=?_) #[true,true,true,true,true,false,false,true,false,false,false,false,false,true,false,false,false] rfl rfl (take_ofW HT_.out HW_.out (by kernel_rfl)) (fun _ _ _ h=>h) (Or.inl ⟨by rfl,?_⟩) hHeld ?_ ?_;rotate_left;(focus rintro w' ⟨s0,s1,s2⟩;go_simp;(with_reducible rfl));rotate_left;(focus simp only[Act.put,pu_];rfl);refine pure_ (i:=5) (N:=some 29) (v:=?_) (a':=?_) #[true,true,true,true,true,true,false,true,false,false,false,false,false,true,false,false,false] rfl rfl (any_of HT_.out (by kernel_rfl)) (fun _ _ _ h=>h) (Or.inl ⟨by rfl,?_⟩) ?_ ?_;rotate_left;(focus intro w';go_simp;(with_reducible rfl));rotate_left;(focus simp only[Act.put,pu_];rfl);refine pure_ (i:=6) (N:=some 30) (v:=?_) (a':=?_) #[true,true,true,true,true,true,true,true,false,false,false,false,false,true,false,false,false] rfl rfl (any_of HT_.out (by kernel_rfl)) (fun _ _ _ h=>h) (Or.inl ⟨by rfl,?_⟩) ?_ ?_;rotate_left;(focus intro w';go_simp;(with_reducible rfl));rotate_left;(focus simp only[Act.put,pu_];rfl);refine take_ (i:=8) (N:=some 32) (v:=?_) (a':=?_) #[true,true,true,true,true,true,true,true,true,false,false,false,false,true,false,false,false] rfl rfl (take_ofW HT_.out HW_.out (by kernel_rfl)) (fun _ _ _ h=>h) (Or.inl ⟨by rfl,?_⟩) hHeld ?_ ?_;rotate_left;(focus rintro w' ⟨s0,s1,s2⟩;go_simp;(with_reducible rfl));rotate_left;(focus simp only[Act.put,pu_];rfl);refine one_ (i:=9) (N:=some 33) #[true,true,true,true,true,true,true,true,true,true,false,false,false,true,false,false,false] rfl rfl (one_of HT_.out (by kernel_rfl)) (by decide) (fun K hK=>?_);refine value_ (w1:=?_) (v:=?_) (by rfl) rfl ?_ ?_;rotate_left 2;(focus go_simp;constructor;(focus rfl);(focus rfl));refine hK.out _ _ ⟨(blk_cell (blk_alloc BK.out _) 0).trans rfl,(blk_cell (blk_alloc BK.out _) 1).trans rfl,(blk_cell (blk_alloc BK.out _) 2).trans rfl⟩ (fun hHeld=>?_);clear hK K;refine norm_ (a':=?_) ?_ ?_;rotate_left;(focus (show Act.put _ (some 33) _=_);simp only[Act.put,pu_];rfl);refine one_ (i:=10) (N:=some 34) #[true,true,true,true,true,true,true,true,true,true,true,false,false,true,false,false,false] rfl rfl (one_of HT_.out (by kernel_rfl)) (by decide) (fun K hK=>?_);(have hcq:∀(j:Nat) n, [n2][j]? = some n→(w4.alloc (.cells #[.int .i64 n2] 3)).cell? ⟨w4.heap.size,0+j,none⟩=some (.int .i64 n):=impl_CatalogueText.one_cell w4 n2);(have hbq:Below w4.heap.size w4 (w4.alloc (.cells #[.int .i64 n2] 3)):=below_alloc (Below.refl _ w4) _);(have hb4q:=am_ (below_then HB4.out HB4.out.size hbq));(have htq:=DoorLib.tab_below htr hb4q.out);(have hW2:=DoorLib.words_any [n2] (by simp) (by simp) hr2 w4.heap.size 0 1 _ hcq (by rw[DoorLib.asize];omega) htq);rw[hT2]at hW2;clear hcq hbq htq;refine goes_ Tryz.func29 (by kernel_rfl) rfl #[.slice (some ⟨w4.heap.size,0,none⟩) 1 1] (by rfl) rfl rfl (by simp only[List.map_toArray,List.map_cons,List.map_nil];rfl) ?_;refine hW2.mono ?_;rintro e w5 ⟨rfl,hb5⟩;refine⟨_,rfl,?_⟩;(have BK5:=am_ (blk_below (blk_alloc BK.out _) hb5));(have HB5:=am_ (below_then hb4q.out hb4q.out.size hb5));clear hb5 hW2;refine hK.out _ _ ⟨(blk_cell BK5.out 0).trans rfl,(blk_cell BK5.out 1).trans rfl,(blk_cell BK5.out 2).trans rfl⟩ (fun hHeld=>?_);clear hK K;refine norm_ (a':=?_) ?_ ?_;rotate_left;(focus (show Act.put _ (some 34) _=_);simp only[Act.put,pu_];rfl);refine pure_ (i:=11) (N:=some 35) (v:=?_) (a':=?_) #[true,true,true,true,true,true,true,true,true,true,true,true,false,true,false,false,false] rfl rfl (any_of HT_.out (by kernel_rfl)) (fun _ _ _ h=>h) (Or.inl ⟨by rfl,?_⟩) ?_ ?_;rotate_left;(focus intro w';go_simp;(with_reducible rfl));rotate_left;(focus simp only[Act.put,pu_];rfl);refine pure_ (i:=12) (N:=some 36) (v:=?_) (a':=?_) (bf_ 14 17) rfl rfl (any_of HT_.out (by kernel_rfl)) (fun _ _ _ h=>h) (Or.inl ⟨by rfl,?_⟩) ?_ ?_;rotate_left;(focus intro w';go_simp;(with_reducible rfl));rotate_left;(focus simp only[Act.put,pu_];rfl);refine pure_ (i:=14) (N:=some 38) (v:=?_) (a':=?_) (bf_ 15 17) rfl rfl (any_of HT_.out (by kernel_rfl)) (fun _ _ _ h=>h) (Or.inl ⟨by rfl,?_⟩) ?_ ?_;rotate_left;(focus intro w';go_simp;(with_reducible rfl));rotate_left;(focus simp only[Act.put,pu_];rfl);refine pure_ (i:=15) (N:=some 39) (v:=?_) (a':=?_) (bf_ 16 17) rfl rfl (any_of HT_.out (by kernel_rfl)) (fun _ _ _ h=>h) (Or.inl ⟨by rfl,?_⟩) ?_ ?_;rotate_left;(focus intro w';go_simp;(with_reducible rfl));rotate_left;(focus simp only[Act.put,pu_];rfl);refine last_ (i:=16) (N:=some 40) (bf_ 17 17) rfl rfl (one_of HT_.out (by kernel_rfl)) (by decide) (fun K hK=>?_);(have hBs:=DoorLib.builder_below hB HB5.out);(have hs5:=am_ HB5.out.size);(have hlen5:(Lib.byteCells ((l0.take q).flatMap impl_CatalogueText.line)).length+(((((((s0 ++ (⟨#[32]⟩:ByteArray)) ++ s1) ++ (⟨#[32]⟩:ByteArray)) ++ T2) ++ (⟨#[32]⟩:ByteArray)) ++ T3) ++ (⟨#[10]⟩:ByteArray)).size≤140737488355328:=hlenq);(have hWS:=DoorLib.WriteString w1.heap.size w1.heap.size _ _ _ hBs hlen5 (by have:=hs5.out;have:=hbs.out;omega));refine goes_ Tryz.func30 (by kernel_rfl) rfl #[.pointer (some ⟨w1.heap.size,0,none⟩), .string (((((((s0 ++ (⟨#[32]⟩:ByteArray)) ++ s1) ++ (⟨#[32]⟩:ByteArray)) ++ T2) ++ (⟨#[32]⟩:ByteArray)) ++ T3) ++ (⟨#[10]⟩:ByteArray))] (by rfl) rfl rfl (by simp only[List.map_toArray,List.map_cons,List.map_nil];rfl) ?_;refine hWS.mono ?_;rintro e w6 ⟨rfl,hB6,hb6⟩;refine⟨_,rfl,?_⟩;refine hK.out _ _ ?_;clear hK K;refine norm_ (a':=?_) ?_ ?_;rotate_left;(focus (show Act.put _ (some 40) _=_);simp only[Act.put,pu_];rfl);refine done_ (done_of HT_.out (by kernel_rfl)) ?_
       have hxs:Lib.byteCells ((l0.take q).flatMap impl_CatalogueText.line) ++ Lib.strCells (((((((s0 ++ (⟨#[32]⟩:ByteArray)) ++ s1) ++ (⟨#[32]⟩:ByteArray)) ++ T2) ++ (⟨#[32]⟩:ByteArray)) ++ T3) ++ (⟨#[10]⟩:ByteArray))=Lib.byteCells ((l0.take (q+1)).flatMap impl_CatalogueText.line):=by
        rw[List.take_add_one,HX.out,List.flatMap_append]
        simp only[Option.toList_some,List.flatMap_cons,List.flatMap_nil,List.append_nil,impl_CatalogueText.line,impl_CatalogueText.lineB,HT2.out,HSR.out]
        simp only[Lib.byteCells,Lib.strCells,List.map_append]
       rw[hxs]at hB6;(have hbE:Below w1.heap.size w1 w6:=hb.trans ((HB5.out.mono hbs.out).trans hb6));clear hxs hHeld;go_wp2;(go_roundw)
       case rel=>exact⟨q+1,by omega,by go_num, .inr hB6,hbE⟩
       case measure=>simp[intOf];omega
      ·(have HSR:Aside0 (impl_CatalogueText.src n3=(⟨#[45]⟩:ByteArray)):=⟨by unfold impl_CatalogueText.src;rw[if_neg c]⟩)
       have hlenq:(Lib.byteCells ((l0.take q).flatMap impl_CatalogueText.line)).length+(((((((s0 ++ (⟨#[32]⟩:ByteArray)) ++ s1) ++ (⟨#[32]⟩:ByteArray)) ++ T2) ++ (⟨#[32]⟩:ByteArray)) ++ (⟨#[45]⟩:ByteArray)) ++ (⟨#[10]⟩:ByteArray)).size≤140737488355328:=by
        rw[Lib.byteCells_length];simp only[ByteArray.size_append,z32,z45,z10];omega
       (have zs0:(9223372036854775807<(s0).size+1)=False:=eq_false (by(try simp only[ByteArray.size_append,z32,z45,z10]);omega));(have zt0:(9223372036854775807<s0.size+1)=False:=eq_false (by omega));(have zs1:(9223372036854775807<((s0 ++ (⟨#[32]⟩:ByteArray))).size+s1.size)=False:=eq_false (by(try simp only[ByteArray.size_append,z32,z45,z10]);omega));(have zt1:(9223372036854775807<s0.size+1+s1.size)=False:=eq_false (by omega));(have zs2:(9223372036854775807<(((s0 ++ (⟨#[32]⟩:ByteArray)) ++ s1)).size+1)=False:=eq_false (by(try simp only[ByteArray.size_append,z32,z45,z10]);omega));(have zt2:(9223372036854775807<s0.size+1+s1.size+1)=False:=eq_false (by omega));(have zs3:(9223372036854775807<((((s0 ++ (⟨#[32]⟩:ByteArray)) ++ s1) ++ (⟨#[32]⟩:ByteArray))).size+T2.size)=False:=eq_false (by(try simp only[ByteArray.size_append,z32,z45,z10]);omega));(have zt3:(9223372036854775807<s0.size+1+s1.size+1+T2.size)=False:=eq_false (by omega));(have zs4:(9223372036854775807<(((((s0 ++ (⟨#[32]⟩:ByteArray)) ++ s1) ++ (⟨#[32]⟩:ByteArray)) ++ T2)).size+1)=False:=eq_false (by(try simp only[ByteArray.size_append,z32,z45,z10]);omega));(have zt4:(9223372036854775807<s0.size+1+s1.size+1+T2.size+1)=False:=eq_false (by omega));(have zs5:(9223372036854775807<((((((s0 ++ (⟨#[32]⟩:ByteArray)) ++ s1) ++ (⟨#[32]⟩:ByteArray)) ++ T2) ++ (⟨#[32]⟩:ByteArray))).size+1)=False:=eq_false (by(try simp only[ByteArray.size_append,z32,z45,z10]);omega));(have zt5:(9223372036854775807<s0.size+1+s1.size+1+T2.size+1+1)=False:=eq_false (by omega));(have zs6:(9223372036854775807<(((((((s0 ++ (⟨#[32]⟩:ByteArray)) ++ s1) ++ (⟨#[32]⟩:ByteArray)) ++ T2) ++ (⟨#[32]⟩:ByteArray)) ++ (⟨#[45]⟩:ByteArray))).size+1)=False:=eq_false (by(try simp only[ByteArray.size_append,z32,z45,z10]);omega));(have zt6:(9223372036854775807<s0.size+1+s1.size+1+T2.size+1+1+1)=False:=eq_false (by omega));(have c0:decide (0≤n3)=false:=decide_eq_false c);(have BKw:Aside0 ((wr.alloc (.cells #[.string s0, .string s1, .int .i64 n2, .int .i64 n3] 47)).heap[wr.heap.size]? = some (.cells #[.string s0, .string s1, .int .i64 n2, .int .i64 n3] 47 (0,0))):=⟨by show(wr.heap.push _)[wr.heap.size]? = _;simp⟩);(have HBw:Aside0 (Below wr.heap.size wr (wr.alloc (.cells #[.string s0, .string s1, .int .i64 n2, .int .i64 n3] 47))):=⟨below_alloc (Below.refl _ wr) _⟩);clear hT3 z32 z45 z10;go_wp2;generalize wr.alloc (.cells #[.string s0, .string s1, .int .i64 n2, .int .i64 n3] 47)=wd at BKw HBw ⊢;(have BK:=am_ (blk_drew BKw.out));(have HB4:=am_ (below_drew1 HBw.out));refine start_ (n:=17) (S:=fun w'=>w'.cell? ⟨wr.heap.size,0,none⟩=some (.string s0)∧w'.cell? ⟨wr.heap.size,1,none⟩=some (.string s1)∧w'.cell? ⟨wr.heap.size,2,none⟩=some (.int .i64 n2)) (ds:=[16]) (bf_ 0 17) (by kernel_rfl) rfl rfl ⟨(blk_cell BK.out 0).trans rfl,(blk_cell BK.out 1).trans rfl,(blk_cell BK.out 2).trans rfl⟩ (fun hHeld=>?_);refine with_tabW impl_CatalogueText.tab10 impl_CatalogueText.bits10 (fun HT_ HW_=>?_);generalize wd.drew=w4 at BK HB4 hHeld ⊢;refine pure_ (i:=0) (N:=some 24) (v:=?_) (a':=?_) (bf_ 1 17) rfl rfl (any_of HT_.out (by kernel_rfl)) (fun _ _ _ h=>h) (Or.inl ⟨by rfl,?_⟩) ?_ ?_;rotate_left;(focus intro w';go_simp;(with_reducible rfl));rotate_left;(focus simp only[Act.put,pu_];rfl);refine pure_ (i:=3) (N:=some 27) (v:=?_) (a':=?_) #[true,false,false,true,false,false,false,false,false,false,false,false,false,false,false,false,false] rfl rfl (any_of HT_.out (by kernel_rfl)) (fun _ _ _ h=>h) (Or.inl ⟨by rfl,?_⟩) ?_ ?_;rotate_left;(focus intro w';go_simp;(with_reducible rfl));rotate_left;(focus simp only[Act.put,pu_];rfl);refine pure_ (i:=7) (N:=some 31) (v:=?_) (a':=?_) #[true,false,false,true,false,false,false,true,false,false,false,false,false,false,false,false,false] rfl rfl (any_of HT_.out (by kernel_rfl)) (fun _ _ _ h=>h) (Or.inl ⟨by rfl,?_⟩) ?_ ?_;rotate_left;(focus intro w';go_simp;(with_reducible rfl));rotate_left;(focus simp only[Act.put,pu_];rfl);refine pure_ (i:=13) (N:=some 37) (v:=?_) (a':=?_) #[true,false,false,true,false,false,false,true,false,false,false,false,false,true,false,false,false] rfl rfl (any_of HT_.out (by kernel_rfl)) (fun _ _ _ h=>h) (Or.inl ⟨by rfl,?_⟩) ?_ ?_;rotate_left;(focus intro w';go_simp;(with_reducible rfl));rotate_left;(focus simp only[Act.put,pu_];rfl);refine take_ (i:=1) (N:=some 25) (v:=?_) (a':=?_) #[true,true,false,true,false,false,false,true,false,false,false,false,false,true,false,false,false] rfl rfl (take_ofW HT_.out HW_.out (by kernel_rfl)) (fun _ _ _ h=>h) (Or.inl ⟨by rfl,?_⟩) hHeld ?_ ?_;rotate_left;(focus rintro w' ⟨s0,s1,s2⟩;go_simp;(with_reducible rfl));rotate_left;(focus simp only[Act.put,pu_];rfl);refine pure_ (i:=2) (N:=some 26) (v:=?_) (a':=?_) #[true,true,true,true,false,false,false,true,false,false,false,false,false,true,false,false,false] rfl rfl (any_of HT_.out (by kernel_rfl)) (fun _ _ _ h=>h) (Or.inl ⟨by rfl,?_⟩) ?_ ?_;rotate_left;(focus intro w';go_simp;(with_reducible rfl));rotate_left;(focus simp only[Act.put,pu_];rfl);refine take_ (i:=4) (N:=some 28) (v:=?_) (a':=?_) #[true,true,true,true,true,false,false,true,false,false,false,false,false,true,false,false,false] rfl rfl (take_ofW HT_.out HW_.out (by kernel_rfl)) (fun _ _ _ h=>h) (Or.inl ⟨by rfl,?_⟩) hHeld ?_ ?_;rotate_left;(focus rintro w' ⟨s0,s1,s2⟩;go_simp;(with_reducible rfl));rotate_left;(focus simp only[Act.put,pu_];rfl);refine pure_ (i:=5) (N:=some 29) (v:=?_) (a':=?_) #[true,true,true,true,true,true,false,true,false,false,false,false,false,true,false,false,false] rfl rfl (any_of HT_.out (by kernel_rfl)) (fun _ _ _ h=>h) (Or.inl ⟨by rfl,?_⟩) ?_ ?_;rotate_left;(focus intro w';go_simp;(with_reducible rfl));rotate_left;(focus simp only[Act.put,pu_];rfl);refine pure_ (i:=6) (N:=some 30) (v:=?_) (a':=?_) #[true,true,true,true,true,true,true,true,false,false,false,false,false,true,false,false,false] rfl rfl (any_of HT_.out (by kernel_rfl)) (fun _ _ _ h=>h) (Or.inl ⟨by rfl,?_⟩) ?_ ?_;rotate_left;(focus intro w';go_simp;(with_reducible rfl));rotate_left;(focus simp only[Act.put,pu_];rfl);refine take_ (i:=8) (N:=some 32) (v:=?_) (a':=?_) #[true,true,true,true,true,true,true,true,true,false,false,false,false,true,false,false,false] rfl rfl (take_ofW HT_.out HW_.out (by kernel_rfl)) (fun _ _ _ h=>h) (Or.inl ⟨by rfl,?_⟩) hHeld ?_ ?_;rotate_left;(focus rintro w' ⟨s0,s1,s2⟩;go_simp;(with_reducible rfl));rotate_left;(focus simp only[Act.put,pu_];rfl);refine one_ (i:=9) (N:=some 33) #[true,true,true,true,true,true,true,true,true,true,false,false,false,true,false,false,false] rfl rfl (one_of HT_.out (by kernel_rfl)) (by decide) (fun K hK=>?_);refine value_ (w1:=?_) (v:=?_) (by rfl) rfl ?_ ?_;rotate_left 2;(focus go_simp;constructor;(focus rfl);(focus rfl));refine hK.out _ _ ⟨(blk_cell (blk_alloc BK.out _) 0).trans rfl,(blk_cell (blk_alloc BK.out _) 1).trans rfl,(blk_cell (blk_alloc BK.out _) 2).trans rfl⟩ (fun hHeld=>?_);clear hK K;refine norm_ (a':=?_) ?_ ?_;rotate_left;(focus (show Act.put _ (some 33) _=_);simp only[Act.put,pu_];rfl);refine one_ (i:=10) (N:=some 34) #[true,true,true,true,true,true,true,true,true,true,true,false,false,true,false,false,false] rfl rfl (one_of HT_.out (by kernel_rfl)) (by decide) (fun K hK=>?_);(have hcq:∀(j:Nat) n, [n2][j]? = some n→(w4.alloc (.cells #[.int .i64 n2] 3)).cell? ⟨w4.heap.size,0+j,none⟩=some (.int .i64 n):=impl_CatalogueText.one_cell w4 n2);(have hbq:Below w4.heap.size w4 (w4.alloc (.cells #[.int .i64 n2] 3)):=below_alloc (Below.refl _ w4) _);(have hb4q:=am_ (below_then HB4.out HB4.out.size hbq));(have htq:=DoorLib.tab_below htr hb4q.out);(have hW2:=DoorLib.words_any [n2] (by simp) (by simp) hr2 w4.heap.size 0 1 _ hcq (by rw[DoorLib.asize];omega) htq);rw[hT2]at hW2;clear hcq hbq htq;refine goes_ Tryz.func29 (by kernel_rfl) rfl #[.slice (some ⟨w4.heap.size,0,none⟩) 1 1] (by rfl) rfl rfl (by simp only[List.map_toArray,List.map_cons,List.map_nil];rfl) ?_;refine hW2.mono ?_;rintro e w5 ⟨rfl,hb5⟩;refine⟨_,rfl,?_⟩;(have BK5:=am_ (blk_below (blk_alloc BK.out _) hb5));(have HB5:=am_ (below_then hb4q.out hb4q.out.size hb5));clear hb5 hW2;refine hK.out _ _ ⟨(blk_cell BK5.out 0).trans rfl,(blk_cell BK5.out 1).trans rfl,(blk_cell BK5.out 2).trans rfl⟩ (fun hHeld=>?_);clear hK K;refine norm_ (a':=?_) ?_ ?_;rotate_left;(focus (show Act.put _ (some 34) _=_);simp only[Act.put,pu_];rfl);refine pure_ (i:=11) (N:=some 35) (v:=?_) (a':=?_) #[true,true,true,true,true,true,true,true,true,true,true,true,false,true,false,false,false] rfl rfl (any_of HT_.out (by kernel_rfl)) (fun _ _ _ h=>h) (Or.inl ⟨by rfl,?_⟩) ?_ ?_;rotate_left;(focus intro w';go_simp;(with_reducible rfl));rotate_left;(focus simp only[Act.put,pu_];rfl);refine pure_ (i:=12) (N:=some 36) (v:=?_) (a':=?_) (bf_ 14 17) rfl rfl (any_of HT_.out (by kernel_rfl)) (fun _ _ _ h=>h) (Or.inl ⟨by rfl,?_⟩) ?_ ?_;rotate_left;(focus intro w';go_simp;(with_reducible rfl));rotate_left;(focus simp only[Act.put,pu_];rfl);refine pure_ (i:=14) (N:=some 38) (v:=?_) (a':=?_) (bf_ 15 17) rfl rfl (any_of HT_.out (by kernel_rfl)) (fun _ _ _ h=>h) (Or.inl ⟨by rfl,?_⟩) ?_ ?_;rotate_left;(focus intro w';go_simp;(with_reducible rfl));rotate_left;(focus simp only[Act.put,pu_];rfl);refine pure_ (i:=15) (N:=some 39) (v:=?_) (a':=?_) (bf_ 16 17) rfl rfl (any_of HT_.out (by kernel_rfl)) (fun _ _ _ h=>h) (Or.inl ⟨by rfl,?_⟩) ?_ ?_;rotate_left;(focus intro w';go_simp;(with_reducible rfl));rotate_left;(focus simp only[Act.put,pu_];rfl);refine last_ (i:=16) (N:=some 40) (bf_ 17 17) rfl rfl (one_of HT_.out (by kernel_rfl)) (by decide) (fun K hK=>?_);(have hBs:=DoorLib.builder_below hB HB5.out);(have hs5:=am_ HB5.out.size);(have hlen5:(Lib.byteCells ((l0.take q).flatMap impl_CatalogueText.line)).length+(((((((s0 ++ (⟨#[32]⟩:ByteArray)) ++ s1) ++ (⟨#[32]⟩:ByteArray)) ++ T2) ++ (⟨#[32]⟩:ByteArray)) ++ (⟨#[45]⟩:ByteArray)) ++ (⟨#[10]⟩:ByteArray)).size≤140737488355328:=hlenq);(have hWS:=DoorLib.WriteString w1.heap.size w1.heap.size _ _ _ hBs hlen5 (by have:=hs5.out;have:=hbs.out;omega));refine goes_ Tryz.func30 (by kernel_rfl) rfl #[.pointer (some ⟨w1.heap.size,0,none⟩), .string (((((((s0 ++ (⟨#[32]⟩:ByteArray)) ++ s1) ++ (⟨#[32]⟩:ByteArray)) ++ T2) ++ (⟨#[32]⟩:ByteArray)) ++ (⟨#[45]⟩:ByteArray)) ++ (⟨#[10]⟩:ByteArray))] (by rfl) rfl rfl (by simp only[List.map_toArray,List.map_cons,List.map_nil];rfl) ?_;refine hWS.mono ?_;rintro e w6 ⟨rfl,hB6,hb6⟩;refine⟨_,rfl,?_⟩;refine hK.out _ _ ?_;clear hK K;refine norm_ (a':=?_) ?_ ?_;rotate_left;(focus (show Act.put _ (some 40) _=_);simp only[Act.put,pu_];rfl);refine done_ (done_of HT_.out (by kernel_rfl)) ?_
       have hxs:Lib.byteCells ((l0.take q).flatMap impl_CatalogueText.line) ++ Lib.strCells (((((((s0 ++ (⟨#[32]⟩:ByteArray)) ++ s1) ++ (⟨#[32]⟩:ByteArray)) ++ T2) ++ (⟨#[32]⟩:ByteArray)) ++ (⟨#[45]⟩:ByteArray)) ++ (⟨#[10]⟩:ByteArray))=Lib.byteCells ((l0.take (q+1)).flatMap impl_CatalogueText.line):=by
        rw[List.take_add_one,HX.out,List.flatMap_append]
        simp only[Option.toList_some,List.flatMap_cons,List.flatMap_nil,List.append_nil,impl_CatalogueText.line,impl_CatalogueText.lineB,HT2.out,HSR.out]
        simp only[Lib.byteCells,Lib.strCells,List.map_append]
       rw[hxs]at hB6;(have hbE:Below w1.heap.size w1 w6:=hb.trans ((HB5.out.mono hbs.out).trans hb6));clear hxs hHeld;go_wp2;(go_roundw)
       case rel=>exact⟨q+1,by omega,by go_num, .inr hB6,hbE⟩
       case measure=>simp[intOf];omega
     (focus (obtain rfl:q=l0.length:=by omega);rw[List.take_length]at hB;(have hbs:=hb.size);(have hS:=Tryz.Builder_String_any w1.heap.size w1.heap.size _ wr hB hbs);obtain⟨rfl,rfl⟩:=Prod.mk.inj HH.out;(go_wp2_with (go_at_call 31;refine hS.mono ?_;rintro e w3 ⟨rfl,hb3⟩));go_ret2;exact⟨rfl,below_then hb1 hb1.size (hb.trans hb3)⟩)
   (focus rw[if_neg hlen]at H;cases H)
  (focus rw[if_neg hok]at H;cases H)
 (focus (obtain rfl:t=false:=by simpa using ht);rw[if_neg (by decide)]at H;obtain⟨rfl,rfl⟩:=Prod.mk.inj (Option.some.inj H);clear H;(go_enter Tryz.func5,Tryz.ntmps5);(go_wp2_with (go_at_call 22;refine(impl_IsCatalogue.calls k A0 c0 l0 false _ hr0 hc0 a0).mono ?_;rintro e w1 ⟨rfl,hb1⟩));go_ret2;exact⟨rfl,hb1⟩)


/-! ### spec_l1In: function 60 -/
def spec_l1In.f (a0:Int) (a1:Int) (a2:Int):Option (Bool):=if a0≥a1 then(some (decide (a0≤a2))) else(some false)
set_option maxHeartbeats 8000000 in
set_option maxRecDepth 100000 in
theorem spec_l1In.calls (a0:Int) (a1:Int) (a2:Int) (r:Bool) (w:World) (h:spec_l1In.f a0 a1 a2=some r) :
 Calls Tryz.prog 60 #[.int .i64 a0, .int .i64 a1, .int .i64 a2] w fun e w'=>e = .returned (.bool r)∧Drawn0 w w':=by
 (have H:(if a0≥a1 then(some (decide (a0≤a2))) else(some false))=some r:=h);clear h;by_cases c4:a0≥a1;(focus rw[if_pos c4]at H;(have c4b0:decide (a1≤a0)=true:=decide_eq_true c4);clear c4;obtain rfl:=Option.some.inj H;(go_enter Tryz.func60,Tryz.ntmps60);go_wp2;go_ret;exact⟨by first | rfl|(simp;done)|(simp[*];done),a19_⟩);(focus rw[if_neg c4]at H;(have c4b0:decide (a1≤a0)=false:=decide_eq_false c4);clear c4;obtain rfl:=Option.some.inj H;(go_enter Tryz.func60,Tryz.ntmps60);go_wp2;go_ret;exact⟨by first | rfl|(simp;done)|(simp[*];done),a19_⟩)

/-! ### spec_caWord: function 58 -/
def spec_caWord.l0:Nat→ByteArray→Int→Option (Bool)
 | 0,_,_=>none
 | k+1,x0,x3=>if x3<(x0.size:Int) then(if 0≤x3 then(if(bt x0 x3)<97 then(some false) else(if(bt x0 x3)>122 then(some false) else(spec_caWord.l0 k x0 (wrap64 (x3+1))))) else(none)) else((spec_l1In.f (x0.size:Int) 1 12).bind fun t233=>(some t233))
def spec_caWord.f (k:Nat) (a0:ByteArray):Option (Bool):=spec_caWord.l0 k a0 0
theorem spec_caWord.mono_l:∀k,(∀y0 y1,LeO (spec_caWord.l0 k y0 y1) (spec_caWord.l0 (k+1) y0 y1))
 | 0=>fun _ _ r h=>by simp[spec_caWord.l0]at h
 | k+1=>by
  have ih0:=spec_caWord.mono_l k
  intros
  unfold spec_caWord.l0
  rotate_left
  all_goals repeat' first|(with_reducible first|exact ih0 _ _|exact LeO.refl _|exact LeO.none _|refine LeO.ite ?_ ?_|refine LeO.bind ?_ (fun _=>?_))|exact ih0 _ _|exact LeO.none _|refine LeO.ite ?_ ?_|refine LeO.bind ?_ (fun _=>?_)
theorem spec_caWord.mono:∀a0 k,LeO (spec_caWord.f k a0) (spec_caWord.f (k+1) a0):=by
 intro a0 k;(have ih0:=spec_caWord.mono_l k);unfold spec_caWord.f
 repeat' first
  |(with_reducible exact ih0 _ _)
  |(with_reducible exact LeO.refl _)
  |(with_reducible exact LeO.none _)
  |(with_reducible refine LeO.ite ?_ ?_)
  |(with_reducible refine LeO.bind ?_ (fun _=>?_))
  |exact ih0 _ _
  |exact LeO.none _
   | refine LeO.ite ?_ ?_
   | refine LeO.bind ?_ (fun _=>?_)
set_option maxHeartbeats 8000000 in
set_option maxRecDepth 100000 in
theorem spec_caWord.calls (k:Nat) (a0:ByteArray) (r:Bool) (w:World) (h:spec_caWord.f k a0=some r) :
 Calls Tryz.prog 58 #[.string a0] w fun e w'=>e = .returned (.bool r)∧Drawn0 w w':=by
 (have H:(spec_caWord.l0 k a0 0)=some r:=h);clear h;(have H':=am_ H);clear H;(go_enter Tryz.func58,Tryz.ntmps58);go_wp2;(try simp only[Act.put,List.setIfInBounds_toArray,List.set_cons_zero,List.set_cons_succ])
 go_loopg [3] k (fun kq v3 w'=>∃(x3_1:Int),v3 = .int .i64 x3_1∧Aside0 (spec_caWord.l0 kq a0 x3_1=some r)∧Aside0 (kq≤k)∧Drawn0 w w')
 case atStart=>exact⟨(0),(by first | rfl|(simp;done)|(simp[*];done)),H',⟨Nat.le_refl _⟩,a19_⟩
 case round=>
  clear H';obtain⟨x3_1,rfl,HA,HK1,⟨m1,rfl⟩⟩:=hrel;cases gk with
  | zero=>exact absurd HA.out (by simp[spec_caWord.l0])
  | succ k1=>
   (have H:=HA.out);clear HA;simp only[spec_caWord.l0]at H;by_cases c2:x3_1<(a0.size:Int)
   ·rw[if_pos c2]at H;(have c2b0:decide (x3_1<(a0.size:Int))=true:=decide_eq_true c2);clear c2;by_cases c3:0≤x3_1
    ·rw[if_pos c3]at H;(have c3b0:decide (0≤x3_1)=true:=decide_eq_true c3);clear c3;by_cases c5:(bt a0 x3_1)<97;(focus rw[if_pos c5]at H;(have c5b0:decide ((bt a0 x3_1)<97)=true:=decide_eq_true c5);clear c5;obtain rfl:=Option.some.inj H;(have p4:0≤(x3_1:Int):=of_decide_eq_true (a6_));(have q4:x3_1<(a0.size:Int):=of_decide_eq_true (a6_));(have hx4:=bt_at a0 x3_1);replace p4:=eq_true p4;replace q4:=eq_true q4;go_wp2;go_ret;exact⟨by first | rfl|(simp;done)|(simp[*];done),a19_⟩)
     ·rw[if_neg c5]at H;(have c5b0:decide ((bt a0 x3_1)<97)=false:=decide_eq_false c5);clear c5;by_cases c7:(bt a0 x3_1)>122;(focus rw[if_pos c7]at H;(have c7b0:decide (122<(bt a0 x3_1))=true:=decide_eq_true c7);clear c7;obtain rfl:=Option.some.inj H;(have p4:0≤(x3_1:Int):=of_decide_eq_true (a6_));(have q4:x3_1<(a0.size:Int):=of_decide_eq_true (a6_));(have hx4:=bt_at a0 x3_1);replace p4:=eq_true p4;replace q4:=eq_true q4;(have p6:0≤(x3_1:Int):=of_decide_eq_true (a6_));(have q6:x3_1<(a0.size:Int):=of_decide_eq_true (a6_));(have hx6:=bt_at a0 x3_1);replace p6:=eq_true p6;replace q6:=eq_true q6;go_wp2;go_ret;exact⟨by first | rfl|(simp;done)|(simp[*];done),a19_⟩)
      ·rw[if_neg c7]at H;(have c7b0:decide (122<(bt a0 x3_1))=false:=decide_eq_false c7);clear c7;(have H':=am_ H);clear H;(have p4:0≤(x3_1:Int):=of_decide_eq_true (a6_));(have q4:x3_1<(a0.size:Int):=of_decide_eq_true (a6_));(have hx4:=bt_at a0 x3_1);replace p4:=eq_true p4;replace q4:=eq_true q4;(have p6:0≤(x3_1:Int):=of_decide_eq_true (a6_));(have q6:x3_1<(a0.size:Int):=of_decide_eq_true (a6_));(have hx6:=bt_at a0 x3_1);replace p6:=eq_true p6;replace q6:=eq_true q6;go_wp2;(go_roundg k1)
       case measure=>have:=HK1.out;omega
       case rel=>exact⟨(wrap64 (x3_1+1)),(by first | rfl|(simp;done)|(simp[*];done)),H',⟨by have:=HK1.out;omega⟩,a19_⟩
    (focus rw[if_neg c3]at H;exact absurd H (by simp))
   (focus rw[if_neg c2]at H;(have c2b0:decide (x3_1<(a0.size:Int))=false:=decide_eq_false c2);clear c2;obtain⟨t233,A8,H⟩:=bo_ H;(try dsimp only at H);obtain rfl:=Option.some.inj H;(go_wp2_with (first|((with_reducible refine gate_callee (f:=60) rfl ?_);refine goesL_ (some 22) rfl rfl Tryz.func60 (by kernel_rfl) rfl #[.int .i64 (a0.size:Int), .int .i64 1, .int .i64 12] rfl gd_ ?_;(with_reducible refine(spec_l1In.calls (a0.size:Int) 1 12 t233 _ A8.out).mono ?_);rintro e w' ⟨rfl,⟨nd,rfl⟩⟩;refine⟨_,rfl,?_⟩)));go_ret;exact⟨by first | rfl|(simp;done)|(simp[*];done),a19_⟩)

/-! ### spec_caFind: function 59 -/
def spec_caFind.l0:Nat→ByteArray→List (S47)→Int→Int→Option (Int)
 | 0,_,_,_,_=>none
 | k+1,x1,x7,x8,x9=>if x9<x8 then(if 0≤x9 then(if x9<(x7.length:Int) then(if((rd_T47 x7 x9).f0).toList=x1.toList then(some x9) else(spec_caFind.l0 k x1 x7 x8 (wrap64 (x9+1)))) else(none)) else(none)) else(some (-1))
def spec_caFind.f (k:Nat) (l0:List (S47)) (a1:ByteArray):Option (Int):=spec_caFind.l0 k a1 l0 (l0.length:Int) 0
theorem spec_caFind.mono_l:∀k,(∀y0 y1 y2 y3,LeO (spec_caFind.l0 k y0 y1 y2 y3) (spec_caFind.l0 (k+1) y0 y1 y2 y3))
 | 0=>fun _ _ _ _ r h=>by simp[spec_caFind.l0]at h
 | k+1=>by
  have ih0:=spec_caFind.mono_l k
  intros
  unfold spec_caFind.l0
  rotate_left
  all_goals repeat' first|(with_reducible first|exact ih0 _ _ _ _|exact LeO.refl _|exact LeO.none _|refine LeO.ite ?_ ?_|refine LeO.bind ?_ (fun _=>?_))|exact ih0 _ _ _ _|exact LeO.none _|refine LeO.ite ?_ ?_|refine LeO.bind ?_ (fun _=>?_)
theorem spec_caFind.mono:∀a0 a1 k,LeO (spec_caFind.f k a0 a1) (spec_caFind.f (k+1) a0 a1):=by
 intro a0 a1 k;(have ih0:=spec_caFind.mono_l k);unfold spec_caFind.f
 repeat' first
  |(with_reducible exact ih0 _ _ _ _)
  |(with_reducible exact LeO.refl _)
  |(with_reducible exact LeO.none _)
  |(with_reducible refine LeO.ite ?_ ?_)
  |(with_reducible refine LeO.bind ?_ (fun _=>?_))
  |exact ih0 _ _ _ _
  |exact LeO.none _
   | refine LeO.ite ?_ ?_
   | refine LeO.bind ?_ (fun _=>?_)
set_option maxHeartbeats 8000000 in
set_option maxRecDepth 100000 in
theorem spec_caFind.calls (k:Nat) (A0:Option Addr) (c0:Nat) (l0:List (S47)) (a1:ByteArray) (r:Int) (w:World) (hr0:Kd.C k47 w A0 l0.length l0) (hc0:l0.length≤c0) (h:spec_caFind.f k l0 a1=some r) :
 Calls Tryz.prog 59 #[.slice A0 l0.length c0, .string a1] w fun e w'=>e = .returned (.int .i64 r)∧Below w.heap.size w w':=by
 (have hu47:=Tryz.underlying47);(have HR0:=am_ hr0);(have HC0:=am_ hc0);clear hr0 hc0;(have HB:=am_ (Below.refl w.heap.size w));(have H:(spec_caFind.l0 k a1 l0 (l0.length:Int) 0)=some r:=h);clear h;(have H':=am_ H);clear H;(go_enter Tryz.func59,Tryz.ntmps59);go_wp2;(try simp only[Act.put,List.setIfInBounds_toArray,List.set_cons_zero,List.set_cons_succ])
 go_loopg [9] k (fun kq v9 w'=>∃(x9_1:Int),v9 = .int .i64 x9_1∧Aside0 (spec_caFind.l0 kq a1 l0 (l0.length:Int) x9_1=some r)∧Aside0 (kq≤k)∧Aside0 (Below w.heap.size w w'))
 case atStart=>exact⟨(0),(by first | rfl|(simp;done)|(simp[*];done)),H',⟨Nat.le_refl _⟩,⟨a1_⟩⟩
 case round=>
  clear H';(try clear p2);obtain⟨x9_1,rfl,HA,HK1,HB⟩:=hrel;cases gk with
  | zero=>exact absurd HA.out (by simp[spec_caFind.l0])
  | succ k1=>
   (have H:=HA.out);clear HA;simp only[spec_caFind.l0]at H;by_cases c3:x9_1<(l0.length:Int)
   ·rw[if_pos c3]at H;(have c3b0:decide (x9_1<(l0.length:Int))=true:=decide_eq_true c3);clear c3;by_cases c4:0≤x9_1
    ·rw[if_pos c4]at H;(have c4b0:decide (0≤x9_1)=true:=decide_eq_true c4);clear c4;by_cases c5:x9_1<(l0.length:Int)
     ·rw[if_pos c5]at H;(have c5b0:decide (x9_1<(l0.length:Int))=true:=decide_eq_true c5);clear c5;by_cases c6:((rd_T47 l0 x9_1).f0).toList=a1.toList;(focus rw[if_pos c6]at H;(have c6b0:(((rd_T47 l0 x9_1).f0).toList == a1.toList)=true:=beq_iff_eq.mpr c6);(have c6b1:(((rd_T47 l0 x9_1).f0).toList != a1.toList)=false:=bne_eq_false_iff_eq.mpr c6);clear c6;obtain rfl:=Option.some.inj H;(have p234:0≤(x9_1:Int):=of_decide_eq_true (a6_));(have q234:x9_1<(l0.length:Int):=of_decide_eq_true (a6_));obtain⟨ad234,e234,hx234_0,hx234_1,hx234_2,hx234_3⟩:=at_T47 HR0.out x9_1 p234 q234;cases e234;replace hx234_0:=(HB.out.cell (World.block_lt_of_cell? w _ hx234_0)).trans hx234_0;replace hx234_1:=(HB.out.cell (World.block_lt_of_cell? w _ hx234_1)).trans hx234_1;replace hx234_2:=(HB.out.cell (World.block_lt_of_cell? w _ hx234_2)).trans hx234_2;replace hx234_3:=(HB.out.cell (World.block_lt_of_cell? w _ hx234_3)).trans hx234_3;replace p234:=eq_true p234;replace q234:=eq_true q234;(go_wp2_with (first|((with_reducible refine gate_dst (N:=6) rfl ?_);refine box_event ?hg (N:=6) ?hd (cs:= #[.string (⟨#[]⟩:ByteArray), .string (⟨#[]⟩:ByteArray), .int .i64 0, .int .i64 0]) (t:=47) ?hr ?_;(case hd=>rfl);(case hg=>rfl);(case hr=>exact hr_);intro gb235 hg w7 hbox hb;have BK235:=am_ (hbox);have GW235:=am_ ((by rw[hg];exact(below_size (a1_)):w.heap.size≤gb235));have GE235:=am_ ((by rw[hg];exact(below_size (a1_)):w.heap.size≤gb235));replace HB:=am_ (below_step (a1_) hb);clear hb hbox hg;have hcz8_0:w7.cell? ⟨gb235,0,none⟩=some (.string (⟨#[]⟩:ByteArray)):=(blk_cell BK235.out 0).trans rfl;have hcz8_1:w7.cell? ⟨gb235,1,none⟩=some (.string (⟨#[]⟩:ByteArray)):=(blk_cell BK235.out 1).trans rfl;have hcz8_2:w7.cell? ⟨gb235,2,none⟩=some (.int .i64 0):=(blk_cell BK235.out 2).trans rfl;have hcz8_3:w7.cell? ⟨gb235,3,none⟩=some (.int .i64 0):=(blk_cell BK235.out 3).trans rfl;have hfz8_0:=blk_frozen BK235.out 0;have hfz8_1:=blk_frozen BK235.out 1;have hfz8_2:=blk_frozen BK235.out 2;have hfz8_3:=blk_frozen BK235.out 3)));go_ret;exact⟨a10_,(a5_ GE235.out)⟩)
      ·rw[if_neg c6]at H;(have c6b0:(((rd_T47 l0 x9_1).f0).toList == a1.toList)=false:=beq_eq_false_iff_ne.mpr c6);(have c6b1:(((rd_T47 l0 x9_1).f0).toList != a1.toList)=true:=bne_iff_ne.mpr c6);(have H':=am_ H);clear H;(have p234:0≤(x9_1:Int):=of_decide_eq_true (a6_));(have q234:x9_1<(l0.length:Int):=of_decide_eq_true (a6_));obtain⟨ad234,e234,hx234_0,hx234_1,hx234_2,hx234_3⟩:=at_T47 HR0.out x9_1 p234 q234;cases e234;replace hx234_0:=(HB.out.cell (World.block_lt_of_cell? w _ hx234_0)).trans hx234_0;replace hx234_1:=(HB.out.cell (World.block_lt_of_cell? w _ hx234_1)).trans hx234_1;replace hx234_2:=(HB.out.cell (World.block_lt_of_cell? w _ hx234_2)).trans hx234_2;replace hx234_3:=(HB.out.cell (World.block_lt_of_cell? w _ hx234_3)).trans hx234_3;replace p234:=eq_true p234;replace q234:=eq_true q234;(go_wp2_with (first|((with_reducible refine gate_dst (N:=6) rfl ?_);refine box_event ?hg (N:=6) ?hd (cs:= #[.string (⟨#[]⟩:ByteArray), .string (⟨#[]⟩:ByteArray), .int .i64 0, .int .i64 0]) (t:=47) ?hr ?_;(case hd=>rfl);(case hg=>rfl);(case hr=>exact hr_);intro gb235 hg w9 hbox hb;have BK235:=am_ (hbox);have GW235:=am_ ((by rw[hg];exact(below_size (a1_)):w.heap.size≤gb235));have GE235:=am_ ((by rw[hg];exact(below_size (a1_)):w.heap.size≤gb235));replace HB:=am_ (below_step (a1_) hb);clear hb hbox hg;have hcz10_0:w9.cell? ⟨gb235,0,none⟩=some (.string (⟨#[]⟩:ByteArray)):=(blk_cell BK235.out 0).trans rfl;have hcz10_1:w9.cell? ⟨gb235,1,none⟩=some (.string (⟨#[]⟩:ByteArray)):=(blk_cell BK235.out 1).trans rfl;have hcz10_2:w9.cell? ⟨gb235,2,none⟩=some (.int .i64 0):=(blk_cell BK235.out 2).trans rfl;have hcz10_3:w9.cell? ⟨gb235,3,none⟩=some (.int .i64 0):=(blk_cell BK235.out 3).trans rfl;have hfz10_0:=blk_frozen BK235.out 0;have hfz10_1:=blk_frozen BK235.out 1;have hfz10_2:=blk_frozen BK235.out 2;have hfz10_3:=blk_frozen BK235.out 3)));(go_roundg k1)
       case measure=>have:=HK1.out;omega
       case rel=>exact⟨(wrap64 (x9_1+1)),(by first | rfl|(simp;done)|(simp[*];done)),H',⟨by have:=HK1.out;omega⟩,⟨(a5_ GE235.out)⟩⟩
     (focus rw[if_neg c5]at H;exact absurd H (by simp))
    (focus rw[if_neg c4]at H;exact absurd H (by simp))
   (focus rw[if_neg c3]at H;(have c3b0:decide (x9_1<(l0.length:Int))=false:=decide_eq_false c3);clear c3;obtain rfl:=Option.some.inj H;go_wp2;go_ret;exact⟨a10_,a1_⟩)

end Go.Proofs.YtkkmeccdjpibmaaGreatDoor.QFnCatalogue
