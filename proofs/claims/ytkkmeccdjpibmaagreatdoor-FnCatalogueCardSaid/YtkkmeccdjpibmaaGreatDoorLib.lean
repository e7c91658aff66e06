/- Contracts that the door's laws share: the writing of a strings.Builder and the joining of strings, laid by the kit's contracts; the program's words, walked: the decimal numerals of the numbers, a blank between them; the table of powers reads as it was laid. -/
import Derived.Test.YtkkmeccdjpibmaaGreatDoorVCNEv
import Derived.Test.YtkkmeccdjpibmaaGreatDoorShelf
import Derived.WalkKit
import Derived.Lib.AppendIntMem
import Derived.Lib.ItoaLen
import Derived.Lib.ItoaNum
import Derived.Lib.ItoaMem
namespace Go.Proofs.YtkkmeccdjpibmaaGreatDoor.DoorLib
open Go Go.Proofs Go.RowKit Go.Proofs.YtkkmeccdjpibmaaGreatDoorW.PrintWords
theorem WriteString (B b:Nat) (bs:List Value) (s:ByteArray) (w:World) (h:Lib.IsBuilder 51 5 B b bs w) (hlen:bs.length+s.size≤140737488355328) (hBw:B≤w.heap.size) :
 Calls Tryz.prog 30 #[.pointer (some ⟨b,0,none⟩), .string s] w fun e w'=>e = .returned (.tuple #[.int .i64 s.size, .nilIface])∧(Lib.BuilderAt 51 5 B b (.pointer (some ⟨b,0,none⟩)) (bs ++ Lib.strCells s) w'∧Below B w w'):=Any.Builder_WriteString { Tryz.lays156 with } Tryz.Builder_Extra_156 B b bs s w h hlen hBw
abbrev Tab (w:World):Prop:=Lib.TabIs Tryz.prog w "internal/strconv.uint64pow10" .u64 Lib.pow10Tab
theorem tab_below {w W:World} (h:Tab w) (hb:Below w.heap.size w W):Tab W:=Lib.tabBelow_of_tabIs h W hb
theorem asize (w:World) (o:Obj):(w.alloc o).heap.size=w.heap.size+1:=by show(w.heap.push o).size=_;simp
theorem gsize (w:World) (k:Nat) (os:Array Obj):(Sort.grow (w.drewN k) os).heap.size=w.heap.size+os.size:=by
 show(w.heap ++ os).size=_
 simp
theorem wordsInfo9:(Tryz.prog.info? 9).map (fun i=>(i.zero,i.size,i.bytes))=some (some (.string ⟨#[]⟩),1,16):=by kernel_rfl
/-- The numeral, as a value. -/
def numeral (n:Int):ByteArray:=⟨(Lib.itoa n).toArray⟩
/-- What the program's words gives. -/
def wordsOf (l:List Int):List UInt8:=Lib.join (l.map Lib.itoa) [32]
theorem own_shape {w:World} {base n:Nat} {v:Value} {xs:List Value} (hn:1≤n) (h:w.ownsRow base 9 1 v n xs):∃g cap,v = .slice (some ⟨g,0,none⟩) n cap∧base≤g∧g<w.heap.size∧n≤cap∧∀j u,xs[j]? = some u→w.cell? ⟨g,j,none⟩=some u:=by
 obtain⟨hl,⟨_,h0⟩ | ⟨g,cap,cur,rfl,hb,hh,hc,hr⟩⟩:=id h
 · omega
 · refine⟨g,cap,rfl,hb,?_,hc,fun j u hj=>?_⟩
   · rcases Nat.lt_or_ge g w.heap.size with h2 | h2
     · exact h2
     · rw[Array.getElem?_eq_none h2]at hh;cases hh
   · obtain⟨hj1,_⟩:=List.getElem?_eq_some_iff.1 hj
     rw[h.cellAt j (by omega)];exact hj
theorem len_words (l:List Int) (hl:l.length≤3) (hr:∀n∈l, -9223372036854775808≤n∧n≤9223372036854775807):(wordsOf l).length≤66:=by
 have h:=fun n hn=>Lib.itoa_length_le n (hr n hn).1 (hr n hn).2
 match l,hl,h with
 | [],_,_=>simp[wordsOf,Lib.join_nil]
 | [a],_,h=>rw[wordsOf,List.map_cons,List.map_nil,Lib.join_one];have:=h a (by simp);omega
 | [a,b],_,h=>simp[wordsOf,Lib.join_cons,Lib.joinTail];have:=h a (by simp);have:=h b (by simp);omega
 | [a,b,c],_,h=>simp[wordsOf,Lib.join_cons,Lib.joinTail];have:=h a (by simp);have:=h b (by simp);have:=h c (by simp);omega
set_option maxHeartbeats 4000000 in
set_option maxRecDepth 100000 in
theorem words_any (l:List Int) (hl0:1≤l.length) (hl:l.length≤3) (hr:∀n∈l, -9223372036854775808≤n∧n≤9223372036854775807) (bk off c:Nat) (w:World)
 (hc:∀(j:Nat) n,l[j]? = some n→w.cell? ⟨bk,off+j,none⟩=some (.int .i64 n)) (hbk:bk<w.heap.size) (htab:Tab w) :
 Calls Tryz.prog 29 #[.slice (some ⟨bk,off,none⟩) l.length c] w fun e w'=>e = .returned (.string ⟨(wordsOf l).toArray⟩)∧Below w.heap.size w w':=by
 obtain⟨i0,hi,hz0,hz1,hz2⟩:=info_parts wordsInfo9
 have hown0:=World.ownsRow_made (base:=w.heap.size) (size:=1) w #[] 0 (e:=9) (Nat.le_refl _) (by unfold maxLen;omega) rfl
 go_enter Tryz.func29,Tryz.ntmps29
 go_wp2
 go_loopw [3,9] (fun v i wr=>∃k:Nat,k≤l.length∧i = .int .i64 k∧wr.ownsRow w.heap.size 9 1 v k ((l.take k).map fun n=>Value.string (numeral n))∧Below w.heap.size w wr)
  (fun _ i _=>l.length-(intOf i).toNat)
 case atStart=>exact⟨0,Nat.zero_le _,rfl,hown0,below_alloc (Below.refl _ w) _⟩
 case round=>
  obtain⟨k,hk,rfl,hown,hb⟩:=hrel
  by_cases hlt:k<l.length
  · obtain⟨n,hn⟩:∃n,l[k]? = some n:=⟨l[k],List.getElem?_eq_getElem hlt⟩
    have hcx:wr.cell? ⟨bk,off+k,none⟩=some (.int .i64 n):=(hb.cell (p:=⟨bk,off+k,none⟩) hbk).trans (hc k n hn)
    have hnr:=hr n (List.mem_of_getElem? hn)
    have htr:=tab_below htab hb
    have hsz:=hb.size
    go_wp2_with (first
     | (go_at_call 55;refine(Tryz.strconv_Itoa n hnr.1 hnr.2 _ htr).mono ?_;rintro e w' ⟨rfl,q,os,rfl⟩)
     | (at_builtin;refine wpList_append_own _ rfl _ _ 30 rfl w.heap.size 9 i0 (.string ⟨#[]⟩) 1 16 Tryz.underlying30 hi hz0 hz1 hz2 rfl (by decide) _ _ _ rfl ((Lib.ownsRow_grow hown _ _).alloc _) _ 1 1 [.string (numeral n)] rfl rfl ?c1 ?c2 ?c3 ?c4 ?c5 ?_))
    case c1=>
     intro j u hj
     rcases j with _ | j
     · obtain rfl:Value.string (numeral n)=u:=by simpa using hj
       rw[← gsize wr q os]
       have h:=World.cell?_alloc_new (Sort.grow (wr.drewN q) os) #[.string ⟨(Lib.itoa n).toArray⟩] 9 0
       show _=some (Value.string ⟨(Lib.itoa n).toArray⟩)
       simpa [Addr.add,numeral] using h
     · simp at hj
    case c2=>intro u hu;simp at hu;subst hu;rfl
    case c3=>unfold maxLen;omega
    case c4=>omega
    case c5=>rw[asize,gsize];omega
    · intro v' w1 hown' hgrow _
      have hbase:=hown.lt
      have hb1:Below w.heap.size w w1:=by
       refine((hb.trans (Lib.below_grow _ _ hsz _ _)).alloc (by rw[gsize];omega) _).grown hgrow (by rw[asize,gsize];omega) (fun g hg=>(hbase g hg).1)
      have hxs:(List.take k (List.map (fun n=>Value.string (numeral n)) l) ++ [Value.string (numeral n)])=(l.take (k+1)).map fun n=>Value.string (numeral n):=by
       rw[← List.map_take,List.take_add_one,hn,List.map_append];rfl
      rw[hxs]at hown'
      clear hgrow hown
      go_wp2
      go_roundw
      case rel=>exact⟨k+1,by omega,by go_num,hown',hb1⟩
      case measure=>simp[intOf];omega
  · obtain rfl:k=l.length:=by omega
    obtain⟨g,cap,rfl,hg,hgl,hcap,hgc⟩:=own_shape hl0 hown
    rw[List.take_length]at hgc
    have hJ:=Tryz.strings_Join g 0 cap (l.map numeral) ⟨#[32]⟩ wr (fun j x hj=>by
     rw[List.getElem?_map]at hj
     obtain⟨n,hn,rfl⟩:=Option.map_eq_some_iff.1 hj
     rw[Nat.zero_add]
     exact hgc j _ (by rw[List.getElem?_map,hn];rfl)) hgl (by rw[List.length_map];omega) (by rw[List.length_map];omega) (by
      have:=len_words l hl hr
      rw[List.map_map]
      exact Nat.le_trans this (by omega))
    rw[List.length_map,List.map_map]at hJ
    clear hown hgc hown0
    go_wp2_with (go_at_call 56;refine hJ.mono ?_;rintro e w' ⟨rfl,hb2⟩)
    go_ret
    exact⟨rfl,below_then hb hb.size hb2⟩
theorem builder_at_below {B b:Nat} {p:Value} {bs:List Value} {w W:World} (h:Lib.BuilderAt 51 5 B b p bs w) (hb:Below w.heap.size w W):Lib.BuilderAt 51 5 B b p bs W:=by
 have hlt:=h.lt
 obtain⟨h0,v,hc,hown,hne⟩:=h
 exact⟨h0,v,by rw[hb.block b hlt];exact hc,hown.kept (row:=none) ⟨hb.os,hb.tape,hb.output,hb.size,fun k hk _=>hb.block k hk⟩ (by cases v.ownBlock<;>simp),hne⟩
theorem builder_below {B b:Nat} {bs:List Value} {w W:World} (h:Lib.IsBuilder 51 5 B b bs w) (hb:Below w.heap.size w W):Lib.IsBuilder 51 5 B b bs W:=
 h.elim (fun x=> .inl (builder_at_below x hb)) (fun x=> .inr (builder_at_below x hb))
#print axioms words_any
end Go.Proofs.YtkkmeccdjpibmaaGreatDoor.DoorLib
