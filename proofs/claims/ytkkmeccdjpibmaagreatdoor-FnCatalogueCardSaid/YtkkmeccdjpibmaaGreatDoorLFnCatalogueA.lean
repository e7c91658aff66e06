/- Plain lemmas on what the printed functions of this law compute; each with the conditions that it names. -/
import Derived.Test.YtkkmeccdjpibmaaGreatDoorQFnCataloguex2
import Derived.Test.YtkkmeccdjpibmaaGreatDoorQFnCataloguex3
import Derived.Test.YtkkmeccdjpibmaaGreatDoorQFnCataloguex4
import Derived.Test.YtkkmeccdjpibmaaGreatDoorQFnCataloguex5
import Derived.Test.YtkkmeccdjpibmaaGreatDoorQFnCataloguex6
import Derived.Test.YtkkmeccdjpibmaaGreatDoorQFnCataloguex7
import Derived.Test.YtkkmeccdjpibmaaGreatDoorQFnCataloguex8
import Derived.Test.YtkkmeccdjpibmaaGreatDoorQFnCataloguex9
import Derived.Test.YtkkmeccdjpibmaaGreatDoorQFnCataloguex10
import Derived.Test.YtkkmeccdjpibmaaGreatDoorQFnCataloguex11
import Derived.Test.YtkkmeccdjpibmaaGreatDoorQFnCataloguex12
import Derived.Test.YtkkmeccdjpibmaaGreatDoorQFnCataloguex13
import Derived.Test.YtkkmeccdjpibmaaGreatDoorQFnCataloguex14
import Derived.Test.YtkkmeccdjpibmaaGreatDoorQFnCataloguex15
import Derived.Test.YtkkmeccdjpibmaaGreatDoorQFnCataloguex17
import Derived.Test.YtkkmeccdjpibmaaGreatDoorQFnCataloguex18
import Derived.Test.YtkkmeccdjpibmaaGreatDoorBaseC
import Derived.Lib.SplitLaws
import Derived.Lib.IndexBytes
import Derived.Lib.IndexLaws
import Derived.Lib.ItoaNum
import Derived.Lib.ItoaMem
namespace Go.Proofs.YtkkmeccdjpibmaaGreatDoor.LFnCatalogueA
open Go Go.RowKit Go.Proofs.YtkkmeccdjpibmaaGreatDoor.QFnCatalogue Go.Proofs.YtkkmeccdjpibmaaGreatDoorW.PrintWords Go.Proofs.YtkkmeccdjpibmaaGreatDoorW.PrintLast Go.Proofs.YtkkmeccdjpibmaaGreatDoorW.PrintMore Go.Proofs.YtkkmeccdjpibmaaGreatDoor.Base
set_option linter.unusedVariables false
set_option linter.unusedSimpArgs false

def ofL (l:List UInt8):ByteArray:=⟨l.toArray⟩
theorem ofL_data (s:ByteArray):ofL s.data.toList=s:=rfl
theorem data_ofL (l:List UInt8):(ofL l).data.toList=l:=by simp[ofL]
theorem ba_size (s:ByteArray):s.size=s.data.toList.length:=by
 rw[Array.length_toList];rfl
theorem ba_ext {a b:ByteArray} (h:a.data.toList=b.data.toList):a=b:=by
 rw[← ofL_data a, ← ofL_data b,h]
/-- The pieces of a text, cut at each c; acc: the piece that has begun. -/
def splA (c:UInt8):List UInt8→List UInt8→List (List UInt8)
 | acc, []=> [acc]
 | acc,x :: l=>if x=c then acc :: splA c [] l else splA c (acc ++ [x]) l
def spl (c:UInt8) (l:List UInt8):List (List UInt8):=splA c [] l
theorem splA_miss (c:UInt8) (l:List UInt8):∀acc,c ∉ l→splA c acc l = [acc ++ l]:=by
 induction l with
 | nil=>intro acc _;simp[splA]
 | cons x l ih=>
   intro acc h
   simp only[List.mem_cons,not_or]at h
   rw[splA,if_neg (fun e=>h.1 e.symm),ih _ h.2];simp
theorem splA_hit (c:UInt8) (R P:List UInt8):∀acc,c ∉ P→splA c acc (P ++ c :: R)=(acc ++ P) :: splA c [] R:=by
 induction P with
 | nil=>intro acc _;simp[splA]
 | cons x P ih=>
   intro acc h
   simp only[List.mem_cons,not_or]at h
   rw[List.cons_append,splA,if_neg (fun e=>h.1 e.symm),ih _ h.2];simp
theorem splA_parts (c:UInt8) (l:List UInt8):∀acc,c ∉ acc→∃X z,splA c acc l=X ++ [z]∧acc ++ l=X.flatMap (fun p=>p ++ [c]) ++ z∧(∀p∈X,c ∉ p)∧c ∉ z:=by
 induction l with
 | nil=>intro acc h;exact⟨[],acc,rfl,by simp,by simp,h⟩
 | cons x l ih=>
   intro acc h
   by_cases e:x=c
   · obtain⟨X,z,h1,h2,h3,h4⟩:=ih [] (by simp)
     refine⟨acc :: X,z,by rw[splA,if_pos e,h1];rfl,?_,?_,h4⟩
     · rw[List.nil_append]at h2
       rw[h2,e];simp
     · intro p hp
       rcases List.mem_cons.1 hp with rfl | q
       · exact h
       · exact h3 p q
   · obtain⟨X,z,h1,h2,h3,h4⟩:=ih (acc ++ [x]) (by simp[h];exact fun q=>e q.symm)
     refine⟨X,z,by rw[splA,if_neg e,h1],?_,h3,h4⟩
     rw[← h2];simp
theorem spl_ends (c:UInt8) (X:List (List UInt8)) (z:List UInt8) (hX:∀p∈X,c ∉ p) (hz:c ∉ z):spl c (X.flatMap (fun p=>p ++ [c]) ++ z)=X ++ [z]:=by
 induction X with
 | nil=>rw[List.flatMap_nil,List.nil_append,spl,splA_miss c z _ hz];rfl
 | cons p X ih=>
   have e:(p :: X).flatMap (fun p=>p ++ [c]) ++ z=p ++ c :: (X.flatMap (fun p=>p ++ [c]) ++ z):=by simp
   have h:=ih (fun q hq=>hX q (by simp[hq]))
   rw[spl]at h
   rw[e,spl,splA_hit c _ p [] (hX p (by simp)),h];simp
theorem splA_snoc (c:UInt8) (l:List UInt8):∀acc,splA c acc (l ++ [c])=splA c acc l ++ [[]]:=by
 induction l with
 | nil=>intro acc;simp[splA]
 | cons x l ih=>
   intro acc
   rw[List.cons_append,splA,splA]
   by_cases e:x=c
   · rw[if_pos e,if_pos e,ih];rfl
   · rw[if_neg e,if_neg e,ih]
theorem splA_le (c:UInt8) (l:List UInt8):∀acc,(splA c acc l).length≤l.length+1:=by
 induction l with
 | nil=>intro acc;simp[splA]
 | cons x l ih=>
   intro acc
   rw[splA]
   by_cases e:x=c
   · rw[if_pos e];have:=ih [];simp;omega
   · rw[if_neg e];have:=ih (acc ++ [x]);simp;omega
theorem splA_small (c:UInt8) (l:List UInt8):∀acc,∀p∈splA c acc l,p.length≤acc.length+l.length:=by
 induction l with
 | nil=>intro acc p hp;simp[splA]at hp;subst hp;simp
 | cons x l ih=>
   intro acc p hp
   rw[splA]at hp
   by_cases e:x=c
   · rw[if_pos e]at hp
     rcases List.mem_cons.1 hp with rfl | q
     · simp
     · have:=ih [] p q;simp at this ⊢;omega
   · rw[if_neg e]at hp
     have:=ih _ p hp;simp at this ⊢;omega
/-- The library's cut is this one. -/
theorem splitK_spl (c:UInt8):∀(n:Nat) (l:List UInt8),l.length≤n→Lib.splitK [c] 0 (Lib.count l [c]) l=spl c l:=by
 intro n
 induction n with
 | zero=>
   intro l h
   have:l = []:=List.length_eq_zero_iff.1 (by omega)
   subst this
   have hm:Lib.index ([]:List UInt8) [c] = -1:=by rw[Lib.index_one];rfl
   rw[Lib.count_miss hm];rfl
 | succ n ih=>
   intro l h
   have hge:=Lib.indexByte_ge l c
   by_cases hm:Lib.indexByte l c = -1
   · have hi:Lib.index l [c] = -1:=by rw[Lib.index_one];exact hm
     have hno:c ∉ l:=by
      intro hc
      obtain⟨k,hk⟩:=List.getElem?_of_mem hc
      exact Lib.indexByte_none hm k hk
     rw[Lib.count_miss hi,Lib.splitK,spl,splA_miss c l [] hno];rfl
   · obtain⟨o,ho⟩:∃o:Nat,Lib.indexByte l c=o:=⟨(Lib.indexByte l c).toNat,by omega⟩
     obtain⟨h1,h2⟩:=Lib.indexByte_some ho
     have hi:Lib.index l [c]=(o:Int):=by rw[Lib.index_one];exact ho
     obtain⟨hol,hoc⟩:=List.getElem?_eq_some_iff.1 h1
     have hP:c ∉ l.take o:=by
      intro hc
      obtain⟨k,hk⟩:=List.getElem?_of_mem hc
      obtain⟨hk1,hk2⟩:=List.getElem?_eq_some_iff.1 hk
      have hko:k<o:=by simp at hk1;omega
      refine h2 k hko ?_
      rw[List.getElem?_take,if_pos hko]at hk
      exact hk
     have hl:l=l.take o ++ c :: l.drop (o+1):=by
      rw[← hoc,List.getElem_cons_drop hol];exact(List.take_append_drop o l).symm
     have hd:(l.drop (o+1)).length≤n:=by simp;omega
     have e1:Lib.count l [c]=Lib.count (l.drop (o+1)) [c] + 1:=by rw[Lib.count_hit (by simp) hi,Nat.add_comm];rfl
     have e2:=ih (l.drop (o+1)) hd
     rw[spl]at e2
     rw[e1,Lib.splitK,hi,if_neg (by rw[beq_iff_eq];omega)]
     have e3:((o:Int).toNat+0)=o:=by simp
     have e4:((o:Int).toNat + [c].length)=o+1:=by simp
     rw[e3,e4,e2]
     conv=>rhs;rw[hl]
     rw[spl,splA_hit c _ _ [] hP];rfl
theorem implSplit_ok (s:ByteArray) (c:UInt8) (h:s.size<4294967281):strings_Split.f s (⟨#[c]⟩:ByteArray)=some ((spl c s.data.toList).map ofL):=by
 have e:=Lib.splitB_data ⟨#[c]⟩ 0 (Lib.countB s ⟨#[c]⟩) s
 have e2:Lib.splitK [c] 0 (Lib.count s.data.toList [c]) s.data.toList=spl c s.data.toList:=splitK_spl c _ _ (Nat.le_refl _)
 rw[strings_Split.f,if_pos ⟨rfl,h⟩]
 congr 1
 have e3:(Lib.splitB ⟨#[c]⟩ 0 (Lib.countB s ⟨#[c]⟩) s).map (fun x=>x.data.toList)=spl c s.data.toList:=e.trans e2
 rw[← e3,List.map_map]
 exact(List.map_id _).symm.trans (List.map_congr_left (fun x _=>(ofL_data x).symm))
theorem bt_data (s:ByteArray) (i:Nat):bt s (i:Int)=((s.data.toList.getD i 0).toNat:Int):=by
 unfold bt
 simp only[Int.toNat_natCast]
 split
 · rename_i h
   have h2:i<s.data.toList.length:=by simpa using h
   rw[List.getD_eq_getElem?_getD,List.getElem?_eq_getElem h2]
   rfl
 · rename_i h
   have h2:¬i<s.data.toList.length:=by simpa using h
   rw[List.getD_eq_getElem?_getD,List.getElem?_eq_none (by omega)]
   rfl
theorem bt_mid (s:ByteArray) (P R:List UInt8) (x:UInt8) (h:s.data.toList=P ++ x :: R):bt s (P.length:Int)=(x.toNat:Int):=by
 rw[bt_data,h,List.getD_eq_getElem?_getD,List.getElem?_append_right (Nat.le_refl _)]
 simp
theorem ext_mid (s:ByteArray) (P Q R:List UInt8) (h:s.data.toList=P ++ (Q ++ R)):s.extract P.length (P ++ Q).length=ofL Q:=by
 apply ba_ext
 rw[data_ofL,ByteArray.data_extract]
 have:s.data=(P ++ (Q ++ R)).toArray:=by rw[← h]
 rw[this,List.extract_toArray,List.extract_eq_drop_take']
 rw[← List.append_assoc,List.take_left' rfl,List.drop_left]
theorem specSplit_l0 (s:ByteArray) (c:UInt8) (hs:s.size≤1048576) (suf:List UInt8):∀(P acc:List UInt8) (out:List ByteArray),s.data.toList=P ++ (acc ++ suf)→out.length≤P.length →
 Ev (fun k=>spec_l1Split.l0 k s (c.toNat:Int) out (P.length:Int) ((P ++ acc).length:Int)) (out ++ (splA c acc suf).map ofL):=by
 have hsz:=ba_size s
 induction suf with
 | nil=>
   intro P acc out h ho
   have hl:s.data.toList.length=(P ++ acc).length:=by rw[h];simp
   have hlp:P.length≤(P ++ acc).length:=by simp
   refine ev_step (f:=fun _=>some _) (Ev.now _) (fun k=>?_)
   have e:s.extract P.length s.size=ofL acc:=by
    have:=ext_mid s P acc [] (by rw[h])
    rw[← this,hsz,hl]
   rw[spec_l1Split.l0,if_neg (by omega),if_pos (by omega),if_pos (by omega),if_pos (by omega)]
   simp only[Int.toNat_natCast]
   rw[e];simp[splA]
 | cons x suf ih=>
   intro P acc out h ho
   have hl:s.data.toList.length=(P ++ acc).length+1+suf.length:=by rw[h];simp;omega
   have hlp:(P ++ acc).length=P.length+acc.length:=by simp
   have hb:bt s ((P ++ acc).length:Int)=(x.toNat:Int):=bt_mid s (P ++ acc) suf x (by rw[h];simp)
   have hw:wrap64 (((P ++ acc).length:Int)+1)=((P ++ acc).length:Int)+1:=wrapS (by omega) (by omega)
   by_cases e:x=c
   · have h2:=ih (P ++ (acc ++ [x])) [] (out ++ [ofL acc]) (by rw[h];simp) (by simp;omega)
     have e1:((P ++ (acc ++ [x])).length:Int)=((P ++ acc).length:Int)+1:=by simp;omega
     have e2:((P ++ (acc ++ [x]) ++ []).length:Int)=((P ++ acc).length:Int)+1:=by simp;omega
     rw[e1,e2]at h2
     have e3:s.extract P.length (P ++ acc).length=ofL acc:=ext_mid s P acc (x :: suf) h
     refine ev_step (ev_eq h2 (by rw[splA,if_pos e];simp)) (fun k=>?_)
     rw[spec_l1Split.l0,if_pos (by omega),if_pos (by omega),hb,if_pos (by rw[e]),if_pos (by omega),if_pos (by omega),if_pos (by omega),if_pos (by omega),hw]
     simp only[Int.toNat_natCast]
     rw[e3]
   · have h2:=ih P (acc ++ [x]) out (by rw[h];simp) ho
     have e1:((P ++ (acc ++ [x])).length:Int)=((P ++ acc).length:Int)+1:=by simp;omega
     rw[e1]at h2
     have hne:¬((x.toNat:Int)=(c.toNat:Int)):=fun q=>e (UInt8.toNat_inj.1 (by omega))
     refine ev_step (ev_eq h2 (by rw[splA,if_neg e])) (fun k=>?_)
     rw[spec_l1Split.l0,if_pos (by omega),if_pos (by omega),hb,if_neg hne,hw]
theorem specSplit_ok (s:ByteArray) (c:UInt8) (hs:s.size≤1048576):Ev (fun k=>spec_l1Split.f k s (c.toNat:Int)) ((spl c s.data.toList).map ofL):=
 Ev.congr (fun _=>rfl) (specSplit_l0 s c hs s.data.toList [] [] [] (by simp) (by simp))

def digL:List UInt8→Int→Option Int
 | [],n=>some n
 | x :: l,n=>if x.toNat<48 then none else if x.toNat>57 then none else digL l (10*n+((x.toNat:Int)-48))
def led (l:List UInt8):Prop:=l.head? = some 48∧1<l.length
instance (l:List UInt8):Decidable (led l):=by unfold led;infer_instance
def decL (l:List UInt8):Option Int:=if l.length<1∨9<l.length∨led l then none else digL l 0
def rd6 (l:List UInt8):Int:=if(1≤l.length∧l.length≤6)∧¬led l then(digL l 0).getD (-1) else -1
theorem pow_small (i:Nat) (h:i≤9):(1:Int)≤10 ^ i∧(10:Int) ^ i≤1000000000:=by
 have:i=0∨i=1∨i=2∨i=3∨i=4∨i=5∨i=6∨i=7∨i=8∨i=9:=by omega
 rcases this with rfl | rfl | rfl | rfl | rfl | rfl | rfl | rfl | rfl | rfl<;>decide
theorem u8_lt (x:UInt8):x.toNat<256:=x.toNat_lt
theorem read_l0 (s:ByteArray) (suf:List UInt8):∀(P:List UInt8) (n:Int),s.data.toList=P ++ suf→s.size≤9→0≤n→n<10 ^ P.length→Ev (fun k=>spec_l1Read.l0 k s n (P.length:Int)) ((digL suf n).getD (-1)):=by
 have hsz:=ba_size s
 induction suf with
 | nil=>
   intro P n h hs h0 h1
   have hl:s.data.toList.length=P.length:=by rw[h];simp
   refine ev_step (f:=fun _=>some _) (Ev.now _) (fun k=>?_)
   rw[spec_l1Read.l0,if_neg (by omega)];rfl
 | cons x suf ih=>
   intro P n h hs h0 h1
   have hl:s.data.toList.length=P.length+1+suf.length:=by rw[h];simp;omega
   have hb:bt s (P.length:Int)=(x.toNat:Int):=bt_mid s P suf x h
   have hp:=pow_small P.length (by omega)
   have hx:=u8_lt x
   rw[digL]
   by_cases c1:x.toNat<48
   · rw[if_pos c1]
     refine ev_step (f:=fun _=>some _) (Ev.now _) (fun k=>?_)
     rw[spec_l1Read.l0,if_pos (by omega),if_pos (by omega),hb,if_pos (by omega)];rfl
   by_cases c2:x.toNat>57
   · rw[if_neg c1,if_pos c2]
     refine ev_step (f:=fun _=>some _) (Ev.now _) (fun k=>?_)
     rw[spec_l1Read.l0,if_pos (by omega),if_pos (by omega),hb,if_neg (by omega),if_pos (by omega)];rfl
   rw[if_neg c1,if_neg c2]
   have h2:=ih (P ++ [x]) (10*n+((x.toNat:Int)-48)) (by rw[h];simp) hs (by omega) (by rw[List.length_append,List.length_singleton,Int.pow_succ];omega)
   rw[snoc_leni]at h2
   refine ev_step h2 (fun k=>?_)
   rw[spec_l1Read.l0,if_pos (by omega),if_pos (by omega),hb,if_neg (by omega),if_neg (by omega),Int.emod_eq_of_lt (by omega) (by omega),wrapS (x:=10*n) (by omega) (by omega),wrapS (by omega) (by omega),wrapS (by omega) (by omega)]
theorem head_bt (s:ByteArray) (h:1≤s.size):(bt s 0=48)↔s.data.toList.head? = some 48:=by
 have hsz:=ba_size s
 have hb:=bt_data s 0
 rw[show((0:Nat):Int)=0 from rfl]at hb
 cases hl:s.data.toList with
 | nil=>rw[hl,List.length_nil]at hsz;omega
 | cons x l=>
   rw[hl]at hb
   rw[hb]
   simp only[List.getD_cons_zero,List.head?_cons,Option.some.injEq]
   constructor
   · intro e;exact UInt8.toNat_inj.1 (by rw[show(48:UInt8).toNat=48 from rfl];omega)
   · intro e;rw[e];rfl
theorem l1Read_ok (s:ByteArray):Ev (fun k=>spec_l1Read.f k s) (rd6 s.data.toList):=by
 have hsz:=ba_size s
 have hin:spec_l1In.f (s.size:Int) 1 6=some (decide (1≤s.size∧s.size≤6)):=by
  unfold spec_l1In.f
  by_cases h1:(s.size:Int)≥1
  · rw[if_pos h1];congr 1;exact decide_eq_decide.2 ⟨fun h=>⟨by omega,by omega⟩,fun h=>by have:=h.2;omega⟩
  · rw[if_neg h1];congr 1;exact(decide_eq_false (by omega)).symm
 have hj:Ev (fun k=>spec_l1Read.j0 k s true) (-1):=ev_step (f:=fun _=>some _) (Ev.now _) (fun k=>by rw[spec_l1Read.j0,if_pos rfl])
 by_cases h:1≤s.size∧s.size≤6
 · have hr:=read_l0 s s.data.toList [] 0 (by simp) (by omega) (by omega) (by decide)
   have hj2:Ev (fun k=>spec_l1Read.j0 k s false) ((digL s.data.toList 0).getD (-1)):=ev_step hr (fun k=>by rw[spec_l1Read.j0,if_neg (by simp)];rfl)
   by_cases c:bt s 0=48
   · have c':=(head_bt s h.1).1 c
     by_cases d:s.size>1
     · refine Ev.congr (fun k=>?_) (ev_eq hj (by rw[rd6,if_neg];intro q;exact q.2 ⟨c',by omega⟩))
       rw[spec_l1Read.f,hin,decide_eq_true h,Option.bind_some,if_pos rfl,if_pos (by omega),if_pos c,decide_eq_true (by omega)]
     · refine Ev.congr (fun k=>?_) (ev_eq hj2 (by rw[rd6,if_pos];exact⟨by omega,fun q=>by have:=q.2;omega⟩))
       rw[spec_l1Read.f,hin,decide_eq_true h,Option.bind_some,if_pos rfl,if_pos (by omega),if_pos c,decide_eq_false (by omega)]
   · have c':¬led s.data.toList:=fun q=>c ((head_bt s h.1).2 q.1)
     refine Ev.congr (fun k=>?_) (ev_eq hj2 (by rw[rd6,if_pos];exact⟨by omega,c'⟩))
     rw[spec_l1Read.f,hin,decide_eq_true h,Option.bind_some,if_pos rfl,if_pos (by omega),if_neg c]
 · refine Ev.congr (fun k=>?_) (ev_eq hj (by rw[rd6,if_neg];intro q;exact h (by omega)))
   rw[spec_l1Read.f,hin,decide_eq_false h,Option.bind_some,if_neg (by simp)]
def decR (r:Option Int):Int×Bool:=match r with
 | none=>(0,false)
 | some m=>(m,true)
theorem decimal_l0 (s:ByteArray) (suf:List UInt8):∀(P:List UInt8) (n:Int),s.data.toList=P ++ suf→s.size≤9→0≤n→n<10 ^ P.length→Ev (fun k=>impl_decimal.l0 k s n (P.length:Int)) (decR (digL suf n)):=by
 have hsz:=ba_size s
 induction suf with
 | nil=>
   intro P n h hs h0 h1
   have hl:s.data.toList.length=P.length:=by rw[h];simp
   refine ev_step (f:=fun _=>some _) (Ev.now _) (fun k=>?_)
   rw[impl_decimal.l0,if_neg (by omega)];rfl
 | cons x suf ih=>
   intro P n h hs h0 h1
   have hl:s.data.toList.length=P.length+1+suf.length:=by rw[h];simp;omega
   have hb:bt s (P.length:Int)=(x.toNat:Int):=bt_mid s P suf x h
   have hp:=pow_small P.length (by omega)
   have hx:=u8_lt x
   rw[digL]
   by_cases c1:x.toNat<48
   · rw[if_pos c1]
     refine ev_step (f:=fun _=>some _) (Ev.now _) (fun k=>?_)
     rw[impl_decimal.l0,if_pos (by omega),if_pos (by omega),hb,if_pos (by omega)];rfl
   by_cases c2:x.toNat>57
   · rw[if_neg c1,if_pos c2]
     refine ev_step (f:=fun _=>some _) (Ev.now _) (fun k=>?_)
     rw[impl_decimal.l0,if_pos (by omega),if_pos (by omega),hb,if_neg (by omega),if_pos (by omega)];rfl
   rw[if_neg c1,if_neg c2]
   have h2:=ih (P ++ [x]) (10*n+((x.toNat:Int)-48)) (by rw[h];simp) hs (by omega) (by rw[List.length_append,List.length_singleton,Int.pow_succ];omega)
   rw[snoc_leni]at h2
   refine ev_step h2 (fun k=>?_)
   rw[impl_decimal.l0,if_pos (by omega),if_pos (by omega),hb,if_neg (by omega),if_neg (by omega),Int.emod_eq_of_lt (by omega) (by omega),wrapS (x:=10*n) (by omega) (by omega),wrapS (by omega) (by omega),wrapS (by omega) (by omega)]
theorem decimal_ok (s:ByteArray):Ev (fun k=>impl_decimal.f k s) (decR (decL s.data.toList)):=by
 have hsz:=ba_size s
 have hj:Ev (fun k=>impl_decimal.j0 k s true) (0,false):=ev_step (f:=fun _=>some _) (Ev.now _) (fun k=>by rw[impl_decimal.j0,if_pos rfl])
 by_cases h0:s.toList=([]:List UInt8)
 · have:s.data.toList = []:=by rw[← Lib.toList_data];exact h0
   refine Ev.congr (fun k=>?_) (ev_eq hj (by rw[decL,if_pos (.inl (by rw[this];simp))];rfl))
   rw[impl_decimal.f,if_pos h0]
 have hne:¬s.data.toList = []:=by rw[← Lib.toList_data];exact h0
 have h1:1≤s.size:=by
  rw[hsz];exact List.length_pos_iff.2 hne
 by_cases h9:(s.size:Int)>9
 · refine Ev.congr (fun k=>?_) (ev_eq hj (by rw[decL,if_pos (.inr (.inl (by omega)))];rfl))
   rw[impl_decimal.f,if_neg h0,if_pos h9]
 have hr:=decimal_l0 s s.data.toList [] 0 (by simp) (by omega) (by omega) (by decide)
 have hj2:Ev (fun k=>impl_decimal.j0 k s false) (decR (digL s.data.toList 0)):=ev_step hr (fun k=>by rw[impl_decimal.j0,if_neg (by simp)];rfl)
 by_cases c:bt s 0=48
 · have c':=(head_bt s h1).1 c
   by_cases d:s.size>1
   · refine Ev.congr (fun k=>?_) (ev_eq hj (by rw[decL,if_pos (.inr (.inr ⟨c',by omega⟩))];rfl))
     rw[impl_decimal.f,if_neg h0,if_neg h9,if_pos (by omega),if_pos c,decide_eq_true (by omega)]
   · refine Ev.congr (fun k=>?_) (ev_eq hj2 (by rw[decL,if_neg];rintro(q | q | q)<;>first | omega | (have:=q.2;omega)))
     rw[impl_decimal.f,if_neg h0,if_neg h9,if_pos (by omega),if_pos c,decide_eq_false (by omega)]
 · refine Ev.congr (fun k=>?_) (ev_eq hj2 (by rw[decL,if_neg];rintro(q | q | q)<;>first | omega | exact c ((head_bt s h1).2 q.1)))
   rw[impl_decimal.f,if_neg h0,if_neg h9,if_pos (by omega),if_neg c]
/-- A canonical numeral is its number's numeral. -/
theorem digL_snoc (l:List UInt8) (x:UInt8):∀n,digL (l ++ [x]) n=(digL l n).bind fun m=>if x.toNat<48 then none else if x.toNat>57 then none else some (10*m+((x.toNat:Int)-48)):=by
 induction l with
 | nil=>intro n;simp[digL]
 | cons y l ih=>
   intro n
   rw[List.cons_append,digL,digL]
   by_cases c1:y.toNat<48
   · rw[if_pos c1,if_pos c1];rfl
   by_cases c2:y.toNat>57
   · rw[if_neg c1,if_neg c1,if_pos c2,if_pos c2];rfl
   rw[if_neg c1,if_neg c1,if_neg c2,if_neg c2,ih]
theorem digL_nonneg (l:List UInt8):∀n m,0≤n→digL l n=some m→0≤m∧n*10 ^ l.length≤m:=by
 induction l with
 | nil=>intro n m h0 h;simp[digL]at h;subst h;simp;exact h0
 | cons x l ih=>
   intro n m h0 h
   rw[digL]at h
   by_cases c1:x.toNat<48
   · rw[if_pos c1]at h;cases h
   by_cases c2:x.toNat>57
   · rw[if_neg c1,if_pos c2]at h;cases h
   rw[if_neg c1,if_neg c2]at h
   obtain⟨h1,h2⟩:=ih _ m (by omega) h
   refine⟨h1,?_⟩
   rw[List.length_cons,Int.pow_succ]
   have hp:(0:Int)≤10 ^ l.length:=Int.pow_nonneg (by decide)
   have h3:10*n*10 ^ l.length≤(10*n+((x.toNat:Int)-48))*10 ^ l.length:=Int.mul_le_mul_of_nonneg_right (by omega) hp
   have h4:n*(10 ^ l.length*10)=10*n*10 ^ l.length:=by rw[Int.mul_comm (10 ^ l.length) 10, ← Int.mul_assoc,Int.mul_comm n 10]
   omega
theorem digL_back (n:Nat):∀(l:List UInt8) (m:Int),l.length=n→1≤n→¬led l→digL l 0=some m→Lib.decDigits m.toNat=l∧(∀x∈l,48≤x.toNat∧x.toNat≤57)∧(l.head? ≠ some 48→1≤m):=by
 induction n with
 | zero=>intro l m _ h;omega
 | succ n ih=>
   intro l m hl _ hd h
   rcases List.eq_nil_or_concat l with rfl | ⟨l',x,rfl⟩
   · simp at hl
   simp only[List.concat_eq_append]at *
   rw[digL_snoc]at h
   by_cases hn:n=0
   · have:l' = []:=List.length_eq_zero_iff.1 (by simp at hl;omega)
     subst this
     simp only[digL,Option.bind_some]at h
     by_cases c1:x.toNat<48
     · rw[if_pos c1]at h;cases h
     by_cases c2:x.toNat>57
     · rw[if_neg c1,if_pos c2]at h;cases h
     rw[if_neg c1,if_neg c2]at h
     obtain rfl:=Option.some.inj h
     have e:(10*(0:Int)+((x.toNat:Int)-48)).toNat=x.toNat-48:=by omega
     refine⟨?_,?_,?_⟩
     · rw[e,Lib.decDigits_one (by omega)]
       have:UInt8.ofNat (48+(x.toNat-48))=x:=by
        rw[show 48+(x.toNat-48)=x.toNat by omega];simp
       rw[this];rfl
     · intro y hy;simp at hy;subst hy;omega
     · intro q
       have:¬x.toNat=48:=fun e=>q (by simp;exact UInt8.toNat_inj.1 (by rw[e];rfl))
       omega
   · have hl':l'.length=n:=by simp at hl;omega
     have hne:l' ≠ []:=fun e=>by rw[e]at hl';simp at hl';omega
     have hhead:(l' ++ [x]).head? = l'.head? := by cases l' with | nil=>exact absurd rfl hne | cons _ _=>rfl
     have hnz:l'.head? ≠ some 48:=fun q=>hd ⟨by rw[hhead];exact q,by simp;omega⟩
     cases hm:digL l' 0 with
     | none=>rw[hm]at h;cases h
     | some m'=>
       rw[hm,Option.bind_some]at h
       obtain⟨i1,i2,i3⟩:=ih l' m' hl' (by omega) (fun q=>hnz q.1) hm
       have i3:=i3 hnz
       by_cases c1:x.toNat<48
       · rw[if_pos c1]at h;cases h
       by_cases c2:x.toNat>57
       · rw[if_neg c1,if_pos c2]at h;cases h
       rw[if_neg c1,if_neg c2]at h
       obtain rfl:=Option.some.inj h
       obtain⟨u,rfl⟩:∃u:Nat,m'=u:=⟨m'.toNat,by omega⟩
       have e:(10*(u:Int)+((x.toNat:Int)-48)).toNat=10*u+(x.toNat-48):=by omega
       refine⟨?_,?_,fun _=>by omega⟩
       · rw[e,Lib.decDigits,dif_neg (by omega),show(10*u+(x.toNat-48)) / 10=u by omega,show(10*u+(x.toNat-48)) % 10=x.toNat-48 by omega]
         rw[Int.toNat_natCast]at i1
         have:UInt8.ofNat (48+(x.toNat-48))=x:=by
          rw[show 48+(x.toNat-48)=x.toNat by omega];simp
         rw[i1,this]
       · intro y hy
         rcases List.mem_append.1 hy with q | q
         · exact i2 y q
         · simp at q;subst q;omega
/-- A number read by the program that is small: the model reads it, and its numeral is the word. -/
theorem dec_small (l:List UInt8) (m:Int) (h:decL l=some m) (hm:m<1000000):rd6 l=m∧0≤m∧Lib.decDigits m.toNat=l:=by
 rw[decL]at h
 by_cases c:l.length<1∨9<l.length∨led l
 · rw[if_pos c]at h;cases h
 · rw[if_neg c]at h
   have c1:1≤l.length:=by omega
   have c2:¬led l:=fun q=>c (.inr (.inr q))
   obtain⟨b1,b2,b3⟩:=digL_back l.length l m rfl c1 c2 h
   have b4:=(digL_nonneg l 0 m (by omega) h).1
   have c3:l.length≤6:=by
    refine Nat.le_of_not_lt (fun q=>?_)
    cases l with
    | nil=>simp at c1
    | cons x r=>
      have hx:x≠48:=fun e=>c2 ⟨by rw[e];rfl,by omega⟩
      have hxd:=b2 x (by simp)
      have hx2:¬x.toNat=48:=fun e=>hx (UInt8.toNat_inj.1 (by rw[e];rfl))
      rw[digL,if_neg (by omega),if_neg (by omega)]at h
      have h2:=(digL_nonneg r _ m (by omega) h).2
      have hp:(10:Int) ^ 6≤10 ^ r.length:=by
       have:=Nat.pow_le_pow_right (show 1≤10 by omega) (show 6≤r.length by simp at q;omega)
       exact_mod_cast this
      have h3:1*(10:Int) ^ r.length≤(10*0+((x.toNat:Int)-48))*10 ^ r.length:=Int.mul_le_mul_of_nonneg_right (by omega) (Int.pow_nonneg (by decide))
      have:(10:Int) ^ 6=1000000:=by decide
      omega
   exact⟨by rw[rd6,if_pos ⟨⟨c1,c3⟩,c2⟩,h];rfl,b4,b1⟩
/-- A number read by the model: the program reads it. -/
theorem rd6_dec (l:List UInt8) (h:rd6 l ≠ -1):decL l=some (rd6 l)∧0≤rd6 l∧Lib.decDigits (rd6 l).toNat=l:=by
 unfold rd6 at h ⊢
 by_cases c:(1≤l.length∧l.length≤6)∧¬led l
 · rw[if_pos c]at h ⊢
   cases hd:digL l 0 with
   | none=>rw[hd]at h;exact absurd rfl h
   | some m=>
     obtain⟨b1,b2,b3⟩:=digL_back l.length l m rfl c.1.1 c.2 hd
     have b4:=(digL_nonneg l 0 m (by omega) hd).1
     refine⟨?_,b4,b1⟩
     rw[decL,if_neg,hd];rfl
     rintro(q | q | q)
     · omega
     · omega
     · exact c.2 q
 · rw[if_neg c]at h;exact absurd rfl h

theorem rdR_mid (pre suf:List S47) (x:S47):rd_T47 (pre ++ x :: suf) (pre.length:Int)=x:=getD_mid _ _ _ _ _ (by simp)
theorem rdR_app (pre suf:List S47) (j:Int) (h0:0≤j) (h:j<pre.length):rd_T47 (pre ++ suf) j=rd_T47 pre j:=by
 simp only[rd_T47,List.getD_eq_getElem?_getD]
 rw[List.getElem?_append_left (by omega)]

def letters (s:ByteArray):Nat→Nat→Bool
 | 0,_=>true
 | d+1,i=>decide (97≤bt s (i:Int)∧bt s (i:Int)≤122) && letters s d (i+1)
def wordOk (s:ByteArray):Bool:=letters s s.size 0 && decide (1≤s.size∧s.size≤12)
theorem caWord_l0 (s:ByteArray) (hs:s.size≤1048576) (d:Nat):∀i:Nat,i+d=s.size→Ev (fun k=>spec_caWord.l0 k s (i:Int)) (letters s d i && decide (1≤s.size∧s.size≤12)):=by
 induction d with
 | zero=>
   intro i hi
   refine ev_step (f:=fun _=>some _) (Ev.now _) (fun k=>?_)
   rw[spec_caWord.l0,if_neg (by omega)]
   by_cases h1:1≤s.size
   · by_cases h2:s.size≤12
     · simp[spec_l1In.f,letters,h1,h2,show(s.size:Int)≥1 by omega,show(s.size:Int)≤12 by omega]
     · simp[spec_l1In.f,letters,h1,h2,show(s.size:Int)≥1 by omega,show ¬(s.size:Int)≤12 by omega]
   · simp[spec_l1In.f,letters,h1,show ¬(s.size:Int)≥1 by omega]
 | succ d ih=>
   intro i hi
   have h:=ih (i+1) (by omega)
   have hw:wrap64 ((i:Int)+1)=((i+1:Nat):Int):=by rw[wrapS (by omega) (by omega)];simp
   by_cases c1:bt s (i:Int)<97
   · refine ev_step (f:=fun _=>some _) (Ev.now _) (fun k=>?_)
     rw[spec_caWord.l0,if_pos (by omega),if_pos (by omega),if_pos c1]
     simp[letters,show ¬97≤bt s (i:Int) by omega]
   by_cases c2:bt s (i:Int)>122
   · refine ev_step (f:=fun _=>some _) (Ev.now _) (fun k=>?_)
     rw[spec_caWord.l0,if_pos (by omega),if_pos (by omega),if_neg c1,if_pos c2]
     simp[letters,show ¬bt s (i:Int)≤122 by omega]
   refine ev_step (ev_eq h ?_) (fun k=>?_)
   · simp[letters,show 97≤bt s (i:Int) by omega,show bt s (i:Int)≤122 by omega]
   · rw[spec_caWord.l0,if_pos (by omega),if_pos (by omega),if_neg c1,if_neg c2,hw]
theorem caWord_ok (s:ByteArray) (hs:s.size≤1048576):Ev (fun k=>spec_caWord.f k s) (wordOk s):=
 Ev.congr (fun _=>rfl) (caWord_l0 s hs s.size 0 (by omega))
theorem isWord_l0 (s:ByteArray) (hs:s.size≤1048576) (d:Nat):∀i:Nat,i+d=s.size→Ev (fun k=>impl_isWord.l0 k s (s.size:Int) (i:Int)) (letters s d i && decide (1≤s.size∧s.size≤12)):=by
 induction d with
 | zero=>
   intro i hi
   refine ev_step (f:=fun _=>some _) (Ev.now _) (fun k=>?_)
   rw[impl_isWord.l0,if_neg (by omega)]
   by_cases h1:1≤s.size
   · by_cases h2:s.size≤12
     · simp[letters,h1,h2,show(s.size:Int)≥1 by omega,show(s.size:Int)≤12 by omega]
     · simp[letters,h1,h2,show(s.size:Int)≥1 by omega,show ¬(s.size:Int)≤12 by omega]
   · simp[letters,h1,show ¬(s.size:Int)≥1 by omega]
 | succ d ih=>
   intro i hi
   have h:=ih (i+1) (by omega)
   have hw:wrap64 ((i:Int)+1)=((i+1:Nat):Int):=by rw[wrapS (by omega) (by omega)];simp
   by_cases c1:bt s (i:Int)<97
   · refine ev_step (f:=fun _=>some _) (Ev.now _) (fun k=>?_)
     rw[impl_isWord.l0,if_pos (by omega),if_pos (by omega),if_pos (by omega),if_pos c1]
     simp[letters,show ¬97≤bt s (i:Int) by omega]
   by_cases c2:bt s (i:Int)>122
   · refine ev_step (f:=fun _=>some _) (Ev.now _) (fun k=>?_)
     rw[impl_isWord.l0,if_pos (by omega),if_pos (by omega),if_pos (by omega),if_neg c1,if_pos c2]
     simp[letters,show ¬bt s (i:Int)≤122 by omega]
   refine ev_step (ev_eq h ?_) (fun k=>?_)
   · simp[letters,show 97≤bt s (i:Int) by omega,show bt s (i:Int)≤122 by omega]
   · rw[impl_isWord.l0,if_pos (by omega),if_pos (by omega),if_pos (by omega),if_neg c1,if_neg c2,hw]
theorem isWord_ok (s:ByteArray) (hs:s.size≤1048576):Ev (fun k=>impl_isWord.f k s) (wordOk s):=
 Ev.congr (fun _=>rfl) (isWord_l0 s hs s.size 0 (by omega))

theorem caFind_l0 (t:ByteArray) (suf:List S47):∀pre:List S47,(pre ++ suf).length≤9223372036854775806 →
 Ev (fun k=>spec_caFind.l0 k t (pre ++ suf) ((pre ++ suf).length:Int) (pre.length:Int)) (impl_findRoll.idx t (pre.length:Int) suf):=by
 induction suf with
 | nil=>
   intro pre _
   refine ev_step (f:=fun _=>some _) (Ev.now _) (fun k=>?_)
   rw[spec_caFind.l0,if_neg (by simp)]
   rfl
 | cons x suf ih=>
   intro pre hl
   have h:=ih (pre ++ [x]) (by simp at hl ⊢;omega)
   rw[snoc_app,snoc_leni]at h
   have hl':(pre.length:Int)<((pre ++ x :: suf).length:Int):=by simp;omega
   have hw:wrap64 ((pre.length:Int)+1)=(pre.length:Int)+1:=wrapS (by omega) (by simp at hl;omega)
   by_cases c:x.f0.toList=t.toList
   · refine ev_step (f:=fun _=>some _) (Ev.now _) (fun k=>?_)
     rw[spec_caFind.l0,if_pos hl',if_pos (by omega),if_pos hl',rdR_mid,if_pos c,impl_findRoll.idx,if_pos c]
   · refine ev_step (ev_eq h (by rw[impl_findRoll.idx,if_neg c])) (fun k=>?_)
     rw[spec_caFind.l0,if_pos hl',if_pos (by omega),if_pos hl',rdR_mid,if_neg c,hw]
theorem caFind_ok (l:List S47) (t:ByteArray) (h:l.length≤9223372036854775806):Ev (fun k=>spec_caFind.f k l t) (impl_findRoll.idx t 0 l):=
 Ev.congr (fun _=>rfl) (caFind_l0 t l [] (by simpa using h))

def titled (t:ByteArray) (y:S47):Bool:=decide (y.f0.toList=t.toList)
theorem idx_some (t:ByteArray) (l:List S47):∀(i:Int) (suf:List S47),l.any (titled t)=true→i≤impl_findRoll.idx t i (l ++ suf)∧impl_findRoll.idx t i (l ++ suf)<i+l.length:=by
 induction l with
 | nil=>intro i suf h;simp at h
 | cons x l ih=>
   intro i suf h
   simp only[List.cons_append,impl_findRoll.idx,List.length_cons]
   by_cases c:x.f0.toList=t.toList
   · rw[if_pos c];omega
   · rw[if_neg c]
     have:=ih (i+1) suf (by simpa [titled,c] using h)
     omega
theorem idx_none (t:ByteArray) (l:List S47):∀(i:Int) (suf:List S47),l.any (titled t)=false→impl_findRoll.idx t i (l ++ suf)=impl_findRoll.idx t (i+l.length) suf:=by
 induction l with
 | nil=>intro i suf h;simp
 | cons x l ih=>
   intro i suf h
   have c:¬x.f0.toList=t.toList:=fun c=>by simp[titled,c]at h
   simp only[List.cons_append,impl_findRoll.idx,List.length_cons]
   rw[if_neg c,ih (i+1) suf (by simpa [titled,c] using h)]
   congr 1
   omega
theorem idx_neg (t:ByteArray) (l:List S47):impl_findRoll.idx t 0 l≥0↔l.any (titled t)=true:=by
 cases h:l.any (titled t) with
 | true=>
   have:=idx_some t l 0 [] h
   rw[List.append_nil]at this
   simp;omega
 | false=>
   have:=idx_none t l 0 [] h
   rw[List.append_nil]at this
   rw[this]
   simp[impl_findRoll.idx]
theorem idx_self (l suf:List S47) (x:S47):impl_findRoll.idx x.f0 0 (l ++ x :: suf)=(l.length:Int)↔l.any (titled x.f0)=false:=by
 cases h:l.any (titled x.f0) with
 | true=>
   have:=idx_some x.f0 l 0 (x :: suf) h
   simp;omega
 | false=>
   have:=idx_none x.f0 l 0 (x :: suf) h
   rw[this]
   simp[impl_findRoll.idx]

def yearsOk (pre:List S47) (x:S47):Bool:=decide (x.f3≥0→¬(rd_T47 pre x.f3).f2>x.f2)
def rollOk (pre:List S47) (x:S47):Bool:=
 wordOk x.f0 && (wordOk x.f1 && (!(pre.any (titled x.f0)) && (decide (1800≤x.f2∧x.f2≤2100) && (decide (-1≤x.f3∧x.f3≤(pre.length:Int)-1) && yearsOk pre x))))
def goodFrom:List S47→List S47→Bool
 | _, []=>true
 | pre,x :: suf=>rollOk pre x && goodFrom (pre ++ [x]) suf
/-- A valid catalogue. -/
def good (l:List S47):Bool:=goodFrom [] l && decide (l.length≤30)

theorem caGood_j1 (x:S47) (pre suf:List S47) (n:Int) (b r:Bool) (hl:(pre ++ x :: suf).length≤9223372036854775806) (hb:b=true→r=false)
 (hs:b=false → -1≤x.f3∧x.f3≤(pre.length:Int)-1) (h1:b=false→yearsOk pre x=false→r=false)
 (h2:b=false→yearsOk pre x=true→Ev (fun k=>spec_caGood.l0 k (pre ++ x :: suf) (pre ++ x :: suf) n ((pre.length:Int)+1)) r) :
 Ev (fun k=>spec_caGood.j1 k (pre ++ x :: suf) (pre ++ x :: suf) n (pre.length:Int) b x.f0 x.f1 x.f2 x.f3) r:=by
 have hw:wrap64 ((pre.length:Int)+1)=(pre.length:Int)+1:=wrapS (by omega) (by simp at hl;omega)
 cases b with
 | true=>
   obtain rfl:=hb rfl
   refine ev_step ev_const (fun k=>?_)
   rw[spec_caGood.j1,if_pos rfl]
 | false=>
   have hs:=hs rfl
   by_cases c:x.f3≥0
   · have e:=rdR_app pre (x :: suf) x.f3 c (by omega)
     by_cases d:(rd_T47 pre x.f3).f2>x.f2
     · obtain rfl:=h1 rfl (by simp[yearsOk,c,d])
       refine ev_step ev_const (fun k=>?_)
       rw[spec_caGood.j1,if_neg (by decide),if_pos c,if_pos c,if_pos (by simp;omega),e,if_pos d]
     · refine ev_step (h2 rfl (decide_eq_true (fun _=>d))) (fun k=>?_)
       rw[spec_caGood.j1,if_neg (by decide),if_pos c,if_pos c,if_pos (by simp;omega),e,if_neg d,hw]
   · refine ev_step (h2 rfl (decide_eq_true (fun h=>absurd h c))) (fun k=>?_)
     rw[spec_caGood.j1,if_neg (by decide),if_neg c,hw]

theorem caGood_l0 (suf:List S47):∀pre:List S47,(pre ++ suf).length≤1048576→(∀x∈suf,x.f0.size≤1048576∧x.f1.size≤1048576) →
 Ev (fun k=>spec_caGood.l0 k (pre ++ suf) (pre ++ suf) ((pre ++ suf).length:Int) (pre.length:Int)) (goodFrom pre suf && decide ((pre ++ suf).length≤30)):=by
 induction suf with
 | nil=>
   intro pre _ _
   refine ev_step (f:=fun _=>some _) (Ev.now _) (fun k=>?_)
   rw[spec_caGood.l0,if_neg (by simp)]
   simp[goodFrom]
   omega
 | cons x suf ih=>
   intro pre hl hz
   have h:=ih (pre ++ [x]) (by simp at hl ⊢;omega) (fun y hy=>hz y (List.mem_cons_of_mem _ hy))
   rw[snoc_app,snoc_leni]at h
   have hl':(pre.length:Int)<((pre ++ x :: suf).length:Int):=by simp;omega
   have hw1:wrap64 ((pre.length:Int)-1)=(pre.length:Int)-1:=wrapS (by omega) (by simp at hl;omega)
   have J:∀b,(b = !(wordOk x.f0 && (wordOk x.f1 && (!(pre.any (titled x.f0)) && (decide (1800≤x.f2∧x.f2≤2100) && decide (-1≤x.f3∧x.f3≤(pre.length:Int)-1)))))) →
    Ev (fun k=>spec_caGood.j1 k (pre ++ x :: suf) (pre ++ x :: suf) ((pre ++ x :: suf).length:Int) (pre.length:Int) b x.f0 x.f1 x.f2 x.f3) (goodFrom pre (x :: suf) && decide ((pre ++ x :: suf).length≤30)):=by
    intro b hb
    refine caGood_j1 x pre suf _ b _ (by omega) (fun e=>?_) (fun e=>?_) (fun e e2=>?_) (fun e e2=>?_)
    · rw[e]at hb
      have hb2:=hb.symm
      simp only[Bool.not_eq_true',Bool.and_eq_false_iff]at hb2
      have:rollOk pre x=false:=by
       simp only[rollOk,Bool.and_eq_false_iff]
       rcases hb2 with h | h | h | h | h
       · exact .inl h
       · exact .inr (.inl h)
       · exact .inr (.inr (.inl h))
       · exact .inr (.inr (.inr (.inl h)))
       · exact .inr (.inr (.inr (.inr (.inl h))))
      simp[goodFrom,this]
    · rw[e]at hb
      have hb2:=hb.symm
      simp only[Bool.not_eq_false',Bool.and_eq_true,decide_eq_true_eq]at hb2
      exact hb2.2.2.2.2
    · simp[goodFrom,rollOk,e2]
    · rw[e]at hb
      have hb2:=hb.symm
      simp only[Bool.not_eq_false',Bool.and_eq_true]at hb2
      have:rollOk pre x=true:=by
       simp only[rollOk,Bool.and_eq_true]
       exact⟨hb2.1,hb2.2.1,hb2.2.2.1,hb2.2.2.2.1,hb2.2.2.2.2,e2⟩
      have e3:goodFrom pre (x :: suf)=goodFrom (pre ++ [x]) suf:=by simp[goodFrom,this]
      rw[e3]
      exact h
   have hzx:=hz x List.mem_cons_self
   obtain⟨K1,e1⟩:=caWord_ok x.f0 hzx.1
   obtain⟨K2,e2⟩:=caWord_ok x.f1 hzx.2
   obtain⟨K3,e3⟩:=caFind_ok (pre ++ x :: suf) x.f0 (by omega)
   dsimp only at e1 e2 e3
   have go:∀b,(b = !(wordOk x.f0 && (wordOk x.f1 && (!(pre.any (titled x.f0)) && (decide (1800≤x.f2∧x.f2≤2100) && decide (-1≤x.f3∧x.f3≤(pre.length:Int)-1)))))) →
    (∀k,K1≤k→K2≤k→K3≤k→spec_caGood.l0 (k+1) (pre ++ x :: suf) (pre ++ x :: suf) ((pre ++ x :: suf).length:Int) (pre.length:Int)=spec_caGood.j1 k (pre ++ x :: suf) (pre ++ x :: suf) ((pre ++ x :: suf).length:Int) (pre.length:Int) b x.f0 x.f1 x.f2 x.f3) →
    Ev (fun k=>spec_caGood.l0 k (pre ++ x :: suf) (pre ++ x :: suf) ((pre ++ x :: suf).length:Int) (pre.length:Int)) (goodFrom pre (x :: suf) && decide ((pre ++ x :: suf).length≤30)):=by
    intro b hb hk
    obtain⟨K,hK⟩:=J b hb
    refine⟨K+K1+K2+K3+1,fun k hk2=>?_⟩
    obtain⟨m,rfl⟩:∃m,k=m+1:=⟨k-1,by omega⟩
    dsimp only
    rw[hk m (by omega) (by omega) (by omega)]
    exact hK m (by omega)
   have st:∀k,spec_caGood.l0 (k+1) (pre ++ x :: suf) (pre ++ x :: suf) ((pre ++ x :: suf).length:Int) (pre.length:Int)=_:=fun k=>by
    rw[spec_caGood.l0,if_pos hl',if_pos (by omega),if_pos hl',rdR_mid]
   cases w0:wordOk x.f0 with
   | false=>
     refine go true (by simp[w0]) (fun k h1 h2 h3=>?_)
     rw[st,e1 k h1,w0];simp
   | true=>
     cases w1:wordOk x.f1 with
     | false=>
       refine go true (by simp[w1]) (fun k h1 h2 h3=>?_)
       rw[st,e1 k h1,w0];simp only[Option.bind_some,if_true];rw[e2 k h2,w1];simp
     | true=>
       cases ti:pre.any (titled x.f0) with
       | true=>
         have ne:¬impl_findRoll.idx x.f0 0 (pre ++ x :: suf)=(pre.length:Int):=fun q=>by
          have:=(idx_self pre suf x).1 q;rw[ti]at this;cases this
         refine go true (by simp[ti]) (fun k h1 h2 h3=>?_)
         rw[st,e1 k h1,w0];simp only[Option.bind_some,if_true];rw[e2 k h2,w1];simp only[Option.bind_some,if_true];rw[e3 k h3];simp only[Option.bind_some];rw[if_neg ne]
       | false=>
         have eq:=(idx_self pre suf x).2 ti
         by_cases y1:1800≤x.f2∧x.f2≤2100
         · have l1:spec_l1In.f x.f2 1800 2100=some true:=by simp[spec_l1In.f,y1.1,y1.2]
           by_cases y2 : -1≤x.f3∧x.f3≤(pre.length:Int)-1
           · have l2:spec_l1In.f x.f3 (-1) ((pre.length:Int)-1)=some true:=by simp[spec_l1In.f,y2.1,y2.2]
             refine go false (by simp[w0,w1,ti,y1,y2]) (fun k h1 h2 h3=>?_)
             rw[st,e1 k h1,w0];simp only[Option.bind_some,if_true];rw[e2 k h2,w1];simp only[Option.bind_some,if_true];rw[e3 k h3];simp only[Option.bind_some];rw[if_pos eq,l1];simp only[Option.bind_some,if_true];rw[hw1,l2];simp
           · have l2:spec_l1In.f x.f3 (-1) ((pre.length:Int)-1)=some false:=by
              unfold spec_l1In.f
              by_cases z:x.f3 ≥ -1
              · rw[if_pos z];have:¬x.f3≤(pre.length:Int)-1:=fun q=>y2 ⟨z,q⟩
                simp[this]
              · rw[if_neg z]
             refine go true (by simp[y2]) (fun k h1 h2 h3=>?_)
             rw[st,e1 k h1,w0];simp only[Option.bind_some,if_true];rw[e2 k h2,w1];simp only[Option.bind_some,if_true];rw[e3 k h3];simp only[Option.bind_some];rw[if_pos eq,l1];simp only[Option.bind_some,if_true];rw[hw1,l2];simp
         · have l1:spec_l1In.f x.f2 1800 2100=some false:=by
            unfold spec_l1In.f
            by_cases z:x.f2≥1800
            · rw[if_pos z];have:¬x.f2≤2100:=fun q=>y1 ⟨z,q⟩
              simp[this]
            · rw[if_neg z]
           refine go true (by simp[y1]) (fun k h1 h2 h3=>?_)
           rw[st,e1 k h1,w0];simp only[Option.bind_some,if_true];rw[e2 k h2,w1];simp only[Option.bind_some,if_true];rw[e3 k h3];simp only[Option.bind_some];rw[if_pos eq,l1];simp
theorem caGood_ok (l:List S47) (h:l.length≤1048576) (hz:∀x∈l,x.f0.size≤1048576∧x.f1.size≤1048576):Ev (fun k=>spec_caGood.f k l) (good l):=
 Ev.congr (fun _=>rfl) (caGood_l0 l [] (by simpa using h) hz)

theorem isCat_j1 (x:S47) (pre suf:List S47) (n:Int) (b r:Bool) (hl:(pre ++ x :: suf).length≤9223372036854775806) (hb:b=true→r=false)
 (hs:b=false → -1≤x.f3∧x.f3≤(pre.length:Int)-1) (h1:b=false→yearsOk pre x=false→r=false) (h3:b=false→pre.any (titled x.f0)=true→r=false)
 (h2:b=false→yearsOk pre x=true→pre.any (titled x.f0)=false→Ev (fun k=>impl_IsCatalogue.l0 k (pre ++ x :: suf) (pre ++ x :: suf) n ((pre.length:Int)+1)) r) :
 Ev (fun k=>impl_IsCatalogue.j1 k (pre ++ x :: suf) (pre.length:Int) (pre ++ x :: suf) n (pre.length:Int) b x.f0 x.f1 x.f2 x.f3) r:=by
 have hw:wrap64 ((pre.length:Int)+1)=(pre.length:Int)+1:=wrapS (by omega) (by simp at hl;omega)
 have ht:(pre ++ x :: suf).take ((pre.length:Int)).toNat=pre:=by simp
 cases b with
 | true=>
   obtain rfl:=hb rfl
   refine ev_step ev_const (fun k=>?_)
   rw[impl_IsCatalogue.j1,if_pos rfl]
 | false=>
   have hs:=hs rfl
   have hle:(pre.length:Int)≤((pre ++ x :: suf).length:Int):=by simp;omega
   have hn:=idx_neg x.f0 pre
   by_cases c:x.f3≥0
   · have e:=rdR_app pre (x :: suf) x.f3 c (by omega)
     by_cases d:(rd_T47 pre x.f3).f2>x.f2
     · obtain rfl:=h1 rfl (by simp[yearsOk,c,d])
       refine ev_step ev_const (fun k=>?_)
       rw[impl_IsCatalogue.j1,if_neg (by decide),if_pos c,if_pos c,if_pos (by simp;omega),e,if_pos d]
     · have y:yearsOk pre x=true:=decide_eq_true (fun _=>d)
       cases q:pre.any (titled x.f0) with
       | true=>
         obtain rfl:=h3 rfl q
         refine ev_step ev_const (fun k=>?_)
         rw[impl_IsCatalogue.j1,if_neg (by decide),if_pos c,if_pos c,if_pos (by simp;omega),e,if_neg d,if_pos (by omega),if_pos hle,ht,impl_findRoll.f]
         simp only[Option.bind_some]
         rw[if_pos (hn.2 q)]
       | false=>
         refine ev_step (h2 rfl y q) (fun k=>?_)
         rw[impl_IsCatalogue.j1,if_neg (by decide),if_pos c,if_pos c,if_pos (by simp;omega),e,if_neg d,if_pos (by omega),if_pos hle,ht,impl_findRoll.f]
         simp only[Option.bind_some]
         rw[if_neg (fun z=>by have:=hn.1 z;rw[q]at this;cases this),hw]
   · have y:yearsOk pre x=true:=decide_eq_true (fun h=>absurd h c)
     cases q:pre.any (titled x.f0) with
     | true=>
       obtain rfl:=h3 rfl q
       refine ev_step ev_const (fun k=>?_)
       rw[impl_IsCatalogue.j1,if_neg (by decide),if_neg c,if_pos (by omega),if_pos hle,ht,impl_findRoll.f]
       simp only[Option.bind_some]
       rw[if_pos (hn.2 q)]
     | false=>
       refine ev_step (h2 rfl y q) (fun k=>?_)
       rw[impl_IsCatalogue.j1,if_neg (by decide),if_neg c,if_pos (by omega),if_pos hle,ht,impl_findRoll.f]
       simp only[Option.bind_some]
       rw[if_neg (fun z=>by have:=hn.1 z;rw[q]at this;cases this),hw]

theorem isCat_l0 (suf:List S47):∀pre:List S47,(pre ++ suf).length≤1048576→(∀x∈suf,x.f0.size≤1048576∧x.f1.size≤1048576) →
 Ev (fun k=>impl_IsCatalogue.l0 k (pre ++ suf) (pre ++ suf) ((pre ++ suf).length:Int) (pre.length:Int)) (goodFrom pre suf && decide ((pre ++ suf).length≤30)):=by
 induction suf with
 | nil=>
   intro pre _ _
   refine ev_step (f:=fun _=>some _) (Ev.now _) (fun k=>?_)
   rw[impl_IsCatalogue.l0,if_neg (by simp)]
   simp[goodFrom]
   omega
 | cons x suf ih=>
   intro pre hl hz
   have h:=ih (pre ++ [x]) (by simp at hl ⊢;omega) (fun y hy=>hz y (List.mem_cons_of_mem _ hy))
   rw[snoc_app,snoc_leni]at h
   have hl':(pre.length:Int)<((pre ++ x :: suf).length:Int):=by simp;omega
   have J:∀b,(b = !(wordOk x.f0 && (wordOk x.f1 && (decide (1800≤x.f2∧x.f2≤2100) && decide (-1≤x.f3∧x.f3≤(pre.length:Int)-1))))) →
    Ev (fun k=>impl_IsCatalogue.j1 k (pre ++ x :: suf) (pre.length:Int) (pre ++ x :: suf) ((pre ++ x :: suf).length:Int) (pre.length:Int) b x.f0 x.f1 x.f2 x.f3) (goodFrom pre (x :: suf) && decide ((pre ++ x :: suf).length≤30)):=by
    intro b hb
    refine isCat_j1 x pre suf _ b _ (by omega) (fun e=>?_) (fun e=>?_) (fun e e2=>?_) (fun e e2=>?_) (fun e e2 e4=>?_)
    · rw[e]at hb
      have hb2:=hb.symm
      simp only[Bool.not_eq_true',Bool.and_eq_false_iff]at hb2
      have:rollOk pre x=false:=by
       simp only[rollOk,Bool.and_eq_false_iff]
       rcases hb2 with h | h | h | h
       · exact .inl h
       · exact .inr (.inl h)
       · exact .inr (.inr (.inr (.inl h)))
       · exact .inr (.inr (.inr (.inr (.inl h))))
      simp[goodFrom,this]
    · rw[e]at hb
      have hb2:=hb.symm
      simp only[Bool.not_eq_false',Bool.and_eq_true,decide_eq_true_eq]at hb2
      exact hb2.2.2.2
    · simp[goodFrom,rollOk,e2]
    · simp[goodFrom,rollOk,e2]
    · rw[e]at hb
      have hb2:=hb.symm
      simp only[Bool.not_eq_false',Bool.and_eq_true]at hb2
      have:rollOk pre x=true:=by
       simp only[rollOk,Bool.and_eq_true]
       exact⟨hb2.1,hb2.2.1,by rw[e4];rfl,hb2.2.2.1,hb2.2.2.2,e2⟩
      have e3:goodFrom pre (x :: suf)=goodFrom (pre ++ [x]) suf:=by simp[goodFrom,this]
      rw[e3]
      exact h
   have hzx:=hz x List.mem_cons_self
   obtain⟨K1,e1⟩:=isWord_ok x.f0 hzx.1
   obtain⟨K2,e2⟩:=isWord_ok x.f1 hzx.2
   dsimp only at e1 e2
   have go:∀b,(b = !(wordOk x.f0 && (wordOk x.f1 && (decide (1800≤x.f2∧x.f2≤2100) && decide (-1≤x.f3∧x.f3≤(pre.length:Int)-1))))) →
    (∀k,K1≤k→K2≤k→impl_IsCatalogue.l0 (k+1) (pre ++ x :: suf) (pre ++ x :: suf) ((pre ++ x :: suf).length:Int) (pre.length:Int)=impl_IsCatalogue.j1 k (pre ++ x :: suf) (pre.length:Int) (pre ++ x :: suf) ((pre ++ x :: suf).length:Int) (pre.length:Int) b x.f0 x.f1 x.f2 x.f3) →
    Ev (fun k=>impl_IsCatalogue.l0 k (pre ++ x :: suf) (pre ++ x :: suf) ((pre ++ x :: suf).length:Int) (pre.length:Int)) (goodFrom pre (x :: suf) && decide ((pre ++ x :: suf).length≤30)):=by
    intro b hb hk
    obtain⟨K,hK⟩:=J b hb
    refine⟨K+K1+K2+1,fun k hk2=>?_⟩
    obtain⟨m,rfl⟩:∃m,k=m+1:=⟨k-1,by omega⟩
    dsimp only
    rw[hk m (by omega) (by omega)]
    exact hK m (by omega)
   have st:∀k,impl_IsCatalogue.l0 (k+1) (pre ++ x :: suf) (pre ++ x :: suf) ((pre ++ x :: suf).length:Int) (pre.length:Int)=_:=fun k=>by
    rw[impl_IsCatalogue.l0,if_pos hl',if_pos (by omega),if_pos hl',rdR_mid]
   cases w0:wordOk x.f0 with
   | false=>
     refine go true (by simp[w0]) (fun k h1 h2=>?_)
     rw[st,e1 k h1,w0];simp
   | true=>
     cases w1:wordOk x.f1 with
     | false=>
       refine go true (by simp[w1]) (fun k h1 h2=>?_)
       rw[st,e1 k h1,w0];simp only[Option.bind_some,if_true];rw[e2 k h2,w1];simp
     | true=>
       by_cases y1:x.f2<1800
       · refine go true (by rw[show decide (1800≤x.f2∧x.f2≤2100)=false from decide_eq_false (fun z=>by omega)];simp) (fun k h1 h2=>?_)
         rw[st,e1 k h1,w0];simp only[Option.bind_some,if_true];rw[e2 k h2,w1];simp only[Option.bind_some,if_true];rw[if_pos y1]
       by_cases y2:x.f2>2100
       · refine go true (by rw[show decide (1800≤x.f2∧x.f2≤2100)=false from decide_eq_false (fun z=>by omega)];simp) (fun k h1 h2=>?_)
         rw[st,e1 k h1,w0];simp only[Option.bind_some,if_true];rw[e2 k h2,w1];simp only[Option.bind_some,if_true];rw[if_neg y1,if_pos y2]
       by_cases y3:x.f3 < -1
       · refine go true (by rw[show decide (-1≤x.f3∧x.f3≤(pre.length:Int)-1)=false from decide_eq_false (fun z=>by omega)];simp) (fun k h1 h2=>?_)
         rw[st,e1 k h1,w0];simp only[Option.bind_some,if_true];rw[e2 k h2,w1];simp only[Option.bind_some,if_true];rw[if_neg y1,if_neg y2,if_pos y3]
       have d1:decide (1800≤x.f2∧x.f2≤2100)=true:=decide_eq_true (by omega)
       have d2:decide (x.f3≥(pre.length:Int)) = !(decide (-1≤x.f3∧x.f3≤(pre.length:Int)-1)):=by
        by_cases z:x.f3≥(pre.length:Int)
        · rw[show decide (-1≤x.f3∧x.f3≤(pre.length:Int)-1)=false from decide_eq_false (fun q=>by omega)];simp[z]
        · rw[show decide (-1≤x.f3∧x.f3≤(pre.length:Int)-1)=true from decide_eq_true (by omega)];simp[z]
       refine go (decide (x.f3≥(pre.length:Int))) (by rw[d1,d2,w0,w1];simp) (fun k h1 h2=>?_)
       rw[st,e1 k h1,w0];simp only[Option.bind_some,if_true];rw[e2 k h2,w1];simp only[Option.bind_some,if_true];rw[if_neg y1,if_neg y2,if_neg y3]
theorem isCat_ok (l:List S47) (h:l.length≤1048576) (hz:∀x∈l,x.f0.size≤1048576∧x.f1.size≤1048576):Ev (fun k=>impl_IsCatalogue.f k l) (good l):=
 Ev.congr (fun _=>rfl) (isCat_l0 l [] (by simpa using h) hz)

theorem bytes_append (a b:List UInt8):(⟨a.toArray⟩:ByteArray) ++ ⟨b.toArray⟩=⟨(a ++ b).toArray⟩:=by
 apply ByteArray.ext
 rw[ByteArray.data_append]
 simp
theorem bytes_size (a:List UInt8):(⟨a.toArray⟩:ByteArray).size=a.length:=by simp[ByteArray.size]
theorem dec_len (k n:Nat) (hn:n<10 ^ (k+1)):(Lib.decDigits n).length≤k+1:=by
 induction k generalizing n with
 | zero=>
   simp at hn
   rw[Lib.decDigits_one hn]
   simp
 | succ k ih=>
   have hn':n<10*10 ^ (k+1):=by rw[Nat.pow_succ]at hn;omega
   by_cases h:n<10
   · rw[Lib.decDigits_one h];simp
   · have:=ih (n / 10) (by omega)
     rw[Lib.decDigits,dif_neg h,List.length_append]
     simp only[List.length_cons,List.length_nil]
     omega
theorem num_ev (u:Nat) (hu:u<9223372036854775807):Ev (fun k=>spec_l1Num.f k (u:Int)) (⟨(Lib.decDigits u).toArray⟩:ByteArray):=by
 induction u using Nat.strongRecOn with
 | _ u ih=>
   by_cases h:u<10
   · refine Ev.step (f:=fun _=>some (⟨(Lib.decDigits u).toArray⟩:ByteArray)) (fun k=>?_) (Ev.now _)
     simp only[spec_l1Num.f]
     rw[if_pos (by omega),Lib.decDigits_one h,wrapS (by omega) (by omega),Int.emod_eq_of_lt (by omega) (by omega)]
     congr 2
   · have hd:wrap64 (Int.tdiv (u:Int) 10)=((u / 10:Nat):Int):=by
      rw[Int.tdiv_eq_ediv_of_nonneg (by omega),wrapS (by omega) (by omega)]
      omega
     have hm:(wrap64 (48+Int.tmod (u:Int) 10)) % 256=((48+u % 10:Nat):Int):=by
      rw[Int.tmod_eq_emod_of_nonneg (by omega),wrapS (by omega) (by omega)]
      omega
     have hl:(Lib.decDigits (u / 10)).length≤19:=dec_len 18 (u / 10) (by omega)
     have hc:(strOfNums [((48+u % 10:Nat):Int)])=(⟨[UInt8.ofNat (48+u % 10)].toArray⟩:ByteArray):=rfl
     refine Ev.step (f:=fun k=>(spec_l1Num.f k ((u / 10:Nat):Int)).bind fun t=>if t.size+(strOfNums [((48+u % 10:Nat):Int)]).size≤9223372036854775807 then some (t ++ strOfNums [((48+u % 10:Nat):Int)]) else none) (fun k=>?_) ?_
     · simp only[spec_l1Num.f]
       rw[if_neg (by omega),hd,hm]
       rfl
     · refine Ev.bind (ih (u / 10) (by omega) (by omega)) ?_
       refine Ev.congr (f:=fun _=>some (⟨(Lib.decDigits u).toArray⟩:ByteArray)) (fun k=>?_) (Ev.now _)
       rw[hc,if_pos (by simp[ByteArray.size];omega),bytes_append,Lib.decDigits.eq_1 u,dif_neg h]
theorem num_int (a:Int) (h0:0≤a) (h1:a<9223372036854775807):Ev (fun k=>spec_l1Num.f k a) (⟨(Lib.itoa a).toArray⟩:ByteArray):=by
 obtain⟨u,rfl⟩:∃u:Nat,a=u:=⟨a.toNat,by omega⟩
 rw[Lib.itoa_nonneg]
 exact num_ev u (by omega)
theorem itoa_len (a:Int) (h0:0≤a) (h1:a<9223372036854775807):(Lib.itoa a).length≤19:=by
 obtain⟨u,rfl⟩:∃u:Nat,a=u:=⟨a.toNat,by omega⟩
 rw[Lib.itoa_nonneg]
 exact dec_len 18 u (by omega)

def rollB (x:S47):Bool:=decide (x.f0.size≤12∧x.f1.size≤12∧1800≤x.f2∧x.f2≤2100 ∧ -1≤x.f3∧x.f3≤900000)
theorem goodFrom_all (suf:List S47):∀pre:List S47,pre.length+suf.length≤900000→goodFrom pre suf=true→suf.all rollB=true:=by
 induction suf with
 | nil=>intro pre _ _;rfl
 | cons x suf ih=>
   intro pre hl h
   simp only[goodFrom,Bool.and_eq_true]at h
   have h2:=ih (pre ++ [x]) (by simp at hl ⊢;omega) h.2
   have h1:=h.1
   simp only[rollOk,Bool.and_eq_true,wordOk,decide_eq_true_eq]at h1
   obtain⟨⟨_,a1,a2⟩,⟨_,b1,b2⟩,_,c1,d1,_⟩:=h1
   rw[List.all_cons,h2,Bool.and_true]
   exact decide_eq_true (by simp at hl;omega)
theorem good_all (l:List S47) (g:good l=true):l.all rollB=true:=by
 unfold good at g
 have h:=of_decide_eq_true (Bool.and_eq_true_iff.1 g).2
 exact goodFrom_all l [] (by simp;omega) (Bool.and_eq_true_iff.1 g).1
/-- The numeral. -/
def numB (n:Int):ByteArray:=⟨(Lib.itoa n).toArray⟩
def srcB (n:Int):ByteArray:=if 0≤n then numB n else(⟨#[45]⟩:ByteArray)
def lineB (x:S47):ByteArray:=((((((x.f0 ++ (⟨#[32]⟩:ByteArray)) ++ x.f1) ++ (⟨#[32]⟩:ByteArray)) ++ numB x.f2) ++ (⟨#[32]⟩:ByteArray)) ++ srcB x.f3) ++ (⟨#[10]⟩:ByteArray)
def lineC (x:S47):List UInt8:=(lineB x).data.toList
theorem num_eq (n:Int):numB n=(⟨(Lib.itoa n).toArray⟩:ByteArray):=rfl
theorem num_small (n:Int) (h0:0≤n) (h1:n<9223372036854775807):(numB n).size≤19:=by
 rw[num_eq,bytes_size]
 exact itoa_len n h0 h1
theorem num_spec (n:Int) (h0:0≤n) (h1:n<9223372036854775807):Ev (fun k=>spec_l1Num.f k n) (numB n):=by
 rw[num_eq]
 exact num_int n h0 h1
theorem src_small (n:Int) (h0 : -1≤n) (h1:n<9223372036854775807):(srcB n).size≤19:=by
 unfold srcB
 split
 · exact num_small n ‹_› h1
 · show 1≤19;omega
theorem specCat_l0 (suf:List S47) (hs:suf.all rollB=true):∀(pre:List S47) (acc:ByteArray),(pre ++ suf).length≤1048576→acc.size≤400*pre.length →
 Ev (fun k=>spec_caText.l0 k acc (pre ++ suf) ((pre ++ suf).length:Int) (pre.length:Int)) (⟨(acc.data.toList ++ suf.flatMap lineC).toArray⟩:ByteArray):=by
 induction suf with
 | nil=>
   intro pre acc hl ha
   refine ev_step (f:=fun _=>some _) (Ev.now _) (fun k=>?_)
   rw[spec_caText.l0,if_neg (by simp),List.flatMap_nil,List.append_nil]
 | cons x suf ih=>
   intro pre acc hl ha
   simp only[List.all_cons,Bool.and_eq_true]at hs
   have hx:=of_decide_eq_true hs.1
   have hp0:pre.length+1≤1048576:=by simp at hl;omega
   have hl':(pre.length:Int)<((pre ++ x :: suf).length:Int):=by simp;omega
   have hw:wrap64 ((pre.length:Int)+1)=(pre.length:Int)+1:=wrapS (by omega) (by omega)
   have hnn:(0:Int)≤(pre.length:Int):=by omega
   have e2:=num_spec x.f2 (by omega) (by omega)
   have n2:=num_small x.f2 (by omega) (by omega)
   have ih2:=ih hs.2 (pre ++ [x])
   rw[snoc_app,snoc_leni]at ih2
   have E32:(⟨#[32]⟩:ByteArray).size=1:=rfl
   have E10:(⟨#[10]⟩:ByteArray).size=1:=rfl
   have E45:(⟨#[45,10]⟩:ByteArray).size=2:=rfl
   have hlen1:(pre ++ [x]).length=pre.length+1:=by simp
   obtain⟨K2,e2⟩:=e2
   dsimp only at e2
   by_cases c:x.f3<0
   · have hsrc:srcB x.f3=(⟨#[45]⟩:ByteArray):=by unfold srcB;rw[if_neg (by omega)]
     have hline:∀T:ByteArray,numB x.f2=T→((acc ++ (((((x.f0 ++ (⟨#[32]⟩:ByteArray)) ++ x.f1) ++ (⟨#[32]⟩:ByteArray)) ++ T) ++ (⟨#[32]⟩:ByteArray))) ++ (⟨#[45,10]⟩:ByteArray)).data.toList=acc.data.toList ++ lineC x:=by
      intro T hT
      rw[lineC,lineB,hsrc,hT]
      simp only[ByteArray.data_append,Array.toList_append,List.append_assoc]
      rfl
     generalize numB x.f2=T at e2 n2 hline
     have h:=ih2 ((acc ++ (((((x.f0 ++ (⟨#[32]⟩:ByteArray)) ++ x.f1) ++ (⟨#[32]⟩:ByteArray)) ++ T) ++ (⟨#[32]⟩:ByteArray))) ++ (⟨#[45,10]⟩:ByteArray)) (by simp at hl ⊢;omega) (by rw[hlen1];simp only[ByteArray.size_append,E32,E45];omega)
     rw[hline T rfl,List.append_assoc, ← List.flatMap_cons]at h
     obtain⟨K3,e3⟩:=h
     dsimp only at e3
     refine⟨K2+K3+1,fun k hk=>?_⟩
     obtain⟨m,rfl⟩:∃m,k=m+1:=⟨k-1,by omega⟩
     dsimp only
     rw[spec_caText.l0,if_pos hl',if_pos hnn,if_pos hl',rdR_mid,if_pos (by omega),if_pos (by simp only[ByteArray.size_append,E32];omega),if_pos (by simp only[ByteArray.size_append,E32];omega),e2 m (by omega),Option.bind_some,
      if_pos (by simp only[ByteArray.size_append,E32];omega),if_pos (by simp only[ByteArray.size_append,E32];omega),if_pos (by simp only[ByteArray.size_append,E32];omega),if_pos c,if_pos (by simp only[ByteArray.size_append,E32];omega),hw,e3 m (by omega)]
   · have hsrc:srcB x.f3=numB x.f3:=by unfold srcB;rw[if_pos (by omega)]
     have e4:=num_spec x.f3 (by omega) (by omega)
     have n4:=num_small x.f3 (by omega) (by omega)
     have hline:∀T U:ByteArray,numB x.f2=T→numB x.f3=U→((acc ++ (((((x.f0 ++ (⟨#[32]⟩:ByteArray)) ++ x.f1) ++ (⟨#[32]⟩:ByteArray)) ++ T) ++ (⟨#[32]⟩:ByteArray))) ++ (U ++ (⟨#[10]⟩:ByteArray))).data.toList=acc.data.toList ++ lineC x:=by
      intro T U hT hU
      rw[lineC,lineB,hsrc,hT,hU]
      simp only[ByteArray.data_append,Array.toList_append,List.append_assoc]
     have hl2:=hline _ _ rfl rfl
     clear hline
     generalize numB x.f2=T at e2 n2 hl2
     generalize numB x.f3=U at e4 n4 hl2
     have h:=ih2 ((acc ++ (((((x.f0 ++ (⟨#[32]⟩:ByteArray)) ++ x.f1) ++ (⟨#[32]⟩:ByteArray)) ++ T) ++ (⟨#[32]⟩:ByteArray))) ++ (U ++ (⟨#[10]⟩:ByteArray))) (by simp at hl ⊢;omega) (by rw[hlen1];simp only[ByteArray.size_append,E32,E10];omega)
     rw[hl2,List.append_assoc, ← List.flatMap_cons]at h
     obtain⟨K3,e3⟩:=h
     obtain⟨K4,e4⟩:=e4
     dsimp only at e3 e4
     refine⟨K2+K3+K4+1,fun k hk=>?_⟩
     obtain⟨m,rfl⟩:∃m,k=m+1:=⟨k-1,by omega⟩
     dsimp only
     rw[spec_caText.l0,if_pos hl',if_pos hnn,if_pos hl',rdR_mid,if_pos (by omega),if_pos (by simp only[ByteArray.size_append,E32];omega),if_pos (by simp only[ByteArray.size_append,E32];omega),e2 m (by omega),Option.bind_some,
      if_pos (by simp only[ByteArray.size_append,E32];omega),if_pos (by simp only[ByteArray.size_append,E32];omega),if_pos (by simp only[ByteArray.size_append,E32];omega),if_neg c,e4 m (by omega),Option.bind_some,if_pos (by omega),if_pos (by simp only[ByteArray.size_append,E32,E10];omega),hw,e3 m (by omega)]

def sRoll (w:List (List UInt8)):Option S47:=match w with
 | [a,b,c,d]=>some ⟨ofL a,ofL b,rd6 c,if d = [45] then -1 else rd6 d⟩
 | _=>none
def sRolls:List (List UInt8)→Option (List S47)
 | []=>some []
 | l :: r=>(sRoll (spl 32 l)).bind fun x=>(sRolls r).map (x :: ·)
def iRoll (w:List (List UInt8)):Option S47:=match w with
 | [a,b,c,d]=>(decL c).bind fun y=>if d = [45] then some ⟨ofL a,ofL b,y, -1⟩ else(decL d).map fun m=>⟨ofL a,ofL b,y,m⟩
 | _=>none
def iRolls:List (List UInt8)→Option (List S47)
 | []=>some []
 | l :: r=>(iRoll (spl 32 l)).bind fun x=>(iRolls r).map (x :: ·)
def textC (l:List S47):List UInt8:=l.flatMap lineC
def sEnd (s:List UInt8):Option (List S47)→List S47×Bool
 | none=>([],false)
 | some out=>if good out=true∧textC out=s then(out,true) else([],false)
def iEnd:Option (List S47)→List S47×Bool
 | none=>([],false)
 | some out=>if good out=true then(out,true) else([],false)
def specP (s:List UInt8):List S47×Bool:=if(spl 10 s).length>31 then([],false) else sEnd s (sRolls (spl 10 s).dropLast)
def linesI (s:List UInt8):Option (List (List UInt8)):=match s.getLast? with
 | none=>some []
 | some x=>if x=10 then some (spl 10 s.dropLast) else none
def implP (s:List UInt8):List S47×Bool:=match linesI s with
 | none=>([],false)
 | some L=>if L.length>30 then([],false) else iEnd (iRolls L)
/-- A roll's line, without its end. -/
def bodyC (x:S47):List UInt8:=(x.f0.data.toList ++ [32]) ++ ((x.f1.data.toList ++ [32]) ++ ((Lib.itoa x.f2 ++ [32]) ++ (if 0≤x.f3 then Lib.itoa x.f3 else [45])))
theorem srcB_data (n:Int):(srcB n).data.toList=if 0≤n then Lib.itoa n else [45]:=by
 unfold srcB
 by_cases h:0≤n
 · rw[if_pos h,if_pos h];simp[numB]
 · rw[if_neg h,if_neg h]
theorem line_body (x:S47):lineC x=bodyC x ++ [10]:=by
 unfold lineC lineB bodyC
 simp only[ByteArray.data_append,Array.toList_append,srcB_data,List.append_assoc]
 simp[numB]
theorem text_bodies (l:List S47):textC l=(l.map bodyC).flatMap fun p=>p ++ [10]:=by
 unfold textC
 induction l with
 | nil=>rfl
 | cons x l ih=>rw[List.flatMap_cons,List.map_cons,List.flatMap_cons,ih,line_body]
theorem dec_digits (n:Nat):∀x∈Lib.decDigits n,48≤x.toNat∧x.toNat≤57:=by
 induction n using Nat.strongRecOn with
 | _ n ih=>
   intro x hx
   have small:∀d:Nat,d<10→(UInt8.ofNat (48+d)).toNat=48+d:=by
    intro d hd
    rw[UInt8.toNat_ofNat'];exact Nat.mod_eq_of_lt (by omega)
   by_cases h:n<10
   · rw[Lib.decDigits_one h]at hx
     rw[List.mem_singleton.1 hx,small n h];omega
   · rw[Lib.decDigits,dif_neg h]at hx
     rcases List.mem_append.1 hx with q | q
     · exact ih (n / 10) (by omega) x q
     · rw[List.mem_singleton.1 q,small _ (Nat.mod_lt _ (by omega))]
       have:=Nat.mod_lt n (show 0<10 by omega)
       omega
theorem itoa_no (n:Int) (h:0≤n) (c:UInt8) (hc:c.toNat<48):c ∉ Lib.itoa n:=by
 obtain⟨u,rfl⟩:∃u:Nat,n=u:=⟨n.toNat,by omega⟩
 rw[Lib.itoa_nonneg]
 intro hm
 have:=dec_digits u c hm
 omega
theorem itoa_of (n:Int) (h:0≤n):Lib.itoa n=Lib.decDigits n.toNat:=by
 obtain⟨u,rfl⟩:∃u:Nat,n=u:=⟨n.toNat,by omega⟩
 rw[Lib.itoa_nonneg];rfl
theorem four (w:List (List UInt8)) (h:w.length=4):∃a b c d,w = [a,b,c,d]:=by
 match w,h with
 | [a,b,c,d],_=>exact⟨a,b,c,d,rfl⟩
/-- A line of four words, put together. -/
theorem line_words {l a b c d:List UInt8} (h:spl 32 l = [a,b,c,d]):l=(a ++ [32]) ++ ((b ++ [32]) ++ ((c ++ [32]) ++ d))∧32 ∉ a∧32 ∉ b∧32 ∉ c∧32 ∉ d:=by
 obtain⟨X,z,h1,h2,h3,h4⟩:=splA_parts 32 l [] (by simp)
 rw[spl]at h
 rw[h]at h1
 have e : [a,b,c] ++ [d]=X ++ [z]:=h1
 obtain⟨e1,e2⟩:=List.append_inj' e rfl
 obtain rfl:=List.singleton_inj.1 e2
 subst e1
 refine⟨by simpa using h2,h3 a (by simp),h3 b (by simp),h3 c (by simp),h4⟩
theorem words_line (a b c d:List UInt8) (ha:32 ∉ a) (hb:32 ∉ b) (hc:32 ∉ c) (hd:32 ∉ d):spl 32 ((a ++ [32]) ++ ((b ++ [32]) ++ ((c ++ [32]) ++ d))) = [a,b,c,d]:=by
 have h:=spl_ends 32 [a,b,c] d (by intro p hp;simp at hp;rcases hp with rfl | rfl | rfl<;>assumption) hd
 simpa using h
theorem impl_spec (lines:List (List UInt8)):∀out,iRolls lines=some out→(∀x∈out,x.f2≤2100∧x.f3≤900000)→sRolls lines=some out∧lines=out.map bodyC:=by
 induction lines with
 | nil=>intro out h _;rw[iRolls]at h;obtain rfl:=Option.some.inj h;exact⟨rfl,rfl⟩
 | cons l lines ih=>
   intro out h hx
   rw[iRolls]at h
   obtain⟨x,h1,h2⟩:=Option.bind_eq_some_iff.1 h
   obtain⟨r,h3,rfl⟩:=Option.map_eq_some_iff.1 h2
   obtain⟨i1,i2⟩:=ih r h3 (fun y hy=>hx y (by simp[hy]))
   have hxx:=hx x (by simp)
   unfold iRoll at h1
   split at h1
   · rename_i a b c d hw
     obtain⟨y,h4,h5⟩:=Option.bind_eq_some_iff.1 h1
     obtain⟨e1,n1,n2,n3,n4⟩:=line_words hw
     by_cases hd:d = [45]
     · rw[if_pos hd]at h5
       obtain rfl:=Option.some.inj h5
       obtain⟨q1,q2,q3⟩:=dec_small c y h4 (by simp only at hxx;omega)
       refine⟨by rw[sRolls,hw,sRoll,i1,q1,if_pos hd];rfl,?_⟩
       rw[List.map_cons, ← i2,bodyC]
       simp only[data_ofL]
       rw[if_neg (by omega),itoa_of y q2,q3, ← hd, ← e1]
     · rw[if_neg hd]at h5
       obtain⟨m,h6,rfl⟩:=Option.map_eq_some_iff.1 h5
       obtain⟨q1,q2,q3⟩:=dec_small c y h4 (by simp only at hxx;omega)
       obtain⟨p1,p2,p3⟩:=dec_small d m h6 (by simp only at hxx;omega)
       refine⟨by rw[sRolls,hw,sRoll,i1,q1,if_neg hd,p1];rfl,?_⟩
       rw[List.map_cons, ← i2,bodyC]
       simp only[data_ofL]
       rw[if_pos p2,itoa_of y q2,q3,itoa_of m p2,p3, ← e1]
   · cases h1
theorem spec_impl (lines:List (List UInt8)):∀out,sRolls lines=some out→(∀x∈out,1800≤x.f2)→lines=out.map bodyC→iRolls lines=some out:=by
 induction lines with
 | nil=>intro out h _ _;rw[sRolls]at h;exact h
 | cons l lines ih=>
   intro out h hx hl
   rw[sRolls]at h
   obtain⟨x,h1,h2⟩:=Option.bind_eq_some_iff.1 h
   obtain⟨r,h3,rfl⟩:=Option.map_eq_some_iff.1 h2
   rw[List.map_cons,List.cons.injEq]at hl
   have i1:=ih r h3 (fun y hy=>hx y (by simp[hy])) hl.2
   have hxx:=hx x (by simp)
   unfold sRoll at h1
   split at h1
   · rename_i a b c d hw
     obtain rfl:=Option.some.inj h1
     obtain⟨e1,n1,n2,n3,n4⟩:=line_words hw
     simp only at hxx
     obtain⟨q1,q2,q3⟩:=rd6_dec c (by omega)
     rw[iRolls,hw,iRoll,q1,i1]
     by_cases hd:d = [45]
     · rw[Option.bind_some,if_pos hd,if_pos hd];rfl
     · rw[Option.bind_some,if_neg hd,if_neg hd]
       by_cases hm:rd6 d = -1
       · exfalso
         have hb:=hl.1
         rw[bodyC]at hb
         simp only[data_ofL,if_neg hd,hm]at hb
         rw[if_neg (by omega)]at hb
         have hs:=words_line a b (Lib.itoa (rd6 c)) [45] n1 n2 (itoa_no _ q2 32 (by decide)) (by decide)
         rw[← hb,hw]at hs
         injection hs with _ hs;injection hs with _ hs;injection hs with _ hs;injection hs with hs _
         exact hd hs
       · obtain⟨p1,p2,p3⟩:=rd6_dec d hm
         rw[p1];rfl
   · cases h1
theorem body_no (x:S47) (h0:10 ∉ x.f0.data.toList) (h1:10 ∉ x.f1.data.toList) (h2:0≤x.f2):10 ∉ bodyC x:=by
 unfold bodyC
 have h3:=itoa_no x.f2 h2 10 (by decide)
 have h4:(10:UInt8) ∉ (if 0≤x.f3 then Lib.itoa x.f3 else [45]):=by
  by_cases c:0≤x.f3
  · rw[if_pos c];exact itoa_no x.f3 c 10 (by decide)
  · rw[if_neg c];decide
 simp only[List.mem_append,not_or]
 exact⟨⟨h0,by decide⟩,⟨h1,by decide⟩,⟨h3,by decide⟩,h4⟩
theorem sRolls_no (lines:List (List UInt8)):∀out,(∀l∈lines,10 ∉ l)→sRolls lines=some out→∀x∈out,10 ∉ x.f0.data.toList∧10 ∉ x.f1.data.toList:=by
 induction lines with
 | nil=>intro out _ h x hx;rw[sRolls]at h;obtain rfl:=Option.some.inj h;cases hx
 | cons l lines ih=>
   intro out hl h x hx
   rw[sRolls]at h
   obtain⟨y,h1,h2⟩:=Option.bind_eq_some_iff.1 h
   obtain⟨r,h3,rfl⟩:=Option.map_eq_some_iff.1 h2
   rcases List.mem_cons.1 hx with rfl | q
   · unfold sRoll at h1
     split at h1
     · rename_i a b c d hw
       obtain rfl:=Option.some.inj h1
       have e1:=(line_words hw).1
       have hn:=hl l (by simp)
       rw[e1]at hn
       simp only[List.mem_append,not_or]at hn
       simp only[data_ofL]
       exact⟨hn.1.1,hn.2.1.1⟩
     · cases h1
   · exact ih r (fun z hz=>hl z (by simp[hz])) h3 x q
theorem rollB_of {l:List S47} (g:good l=true):∀x∈l,1800≤x.f2∧x.f2≤2100∧x.f3≤900000:=by
 intro x hx
 have h:=List.all_eq_true.1 (good_all l g) x hx
 have:=of_decide_eq_true h
 omega
theorem lines_len {s:List UInt8} {L:List (List UInt8)} (h:linesI s=some L) (hs:s ≠ []):(spl 10 s)=L ++ [[]]∧s=L.flatMap (fun p=>p ++ [10]):=by
 unfold linesI at h
 rcases List.eq_nil_or_concat s with e | ⟨s',x,rfl⟩
 · exact absurd e hs
 · simp only[List.concat_eq_append]at *
   rw[List.getLast?_concat]at h
   simp only at h
   by_cases c:x=10
   · rw[if_pos c,List.dropLast_concat]at h
     obtain rfl:=Option.some.inj h
     rw[c,spl,splA_snoc]
     refine⟨rfl,?_⟩
     obtain⟨X,z,h1,h2,h3,h4⟩:=splA_parts 10 s' [] (by simp)
     rw[spl,h1,List.flatMap_append]
     rw[List.nil_append]at h2
     rw[h2];simp
   · rw[if_neg c]at h;cases h
/-- The two parsers are one. -/
theorem parse_same (s:List UInt8):implP s=specP s:=by
 obtain⟨X,z,h1,h2,h3,h4⟩:=splA_parts 10 s [] (by simp)
 rw[List.nil_append]at h2
 have hd:(spl 10 s).dropLast=X:=by rw[spl,h1,List.dropLast_concat]
 have hlen:(spl 10 s).length=X.length+1:=by rw[spl,h1];simp
  -- what the model takes is what the program takes
 have fwd:∀out,sRolls X=some out→good out=true→textC out=s→z = []∧iRolls X=some out:=by
  intro out e1 e2 e3
  have hb:=rollB_of e2
  have hn:=sRolls_no X out h3 e1
  have hno:∀p∈out.map bodyC,10 ∉ p:=by
   intro p hp
   obtain⟨x,hx,rfl⟩:=List.mem_map.1 hp
   exact body_no x (hn x hx).1 (hn x hx).2 (by have:=(hb x hx).1;omega)
  have e4:=spl_ends 10 (out.map bodyC) [] hno (by simp)
  rw[List.append_nil, ← text_bodies,e3,spl,h1]at e4
  obtain⟨e5,e6⟩:=List.append_inj' e4 rfl
  exact⟨List.singleton_inj.1 e6,spec_impl X out e1 (fun x hx=>(hb x hx).1) e5⟩
 unfold implP specP
 rw[hd,hlen]
 cases hL:linesI s with
 | none=>
   simp only
   by_cases c:X.length+1>31
   · rw[if_pos c]
   · rw[if_neg c]
     cases hs:sRolls X with
     | none=>rfl
     | some out=>
       rw[sEnd,if_neg]
       rintro⟨g,t⟩
       obtain⟨e1,e2⟩:=fwd out hs g t
        -- the text ends with a newline, or is empty
       unfold linesI at hL
       rcases List.eq_nil_or_concat X with e | ⟨X',y,e⟩
       · rw[e,e1]at h2
         simp at h2
         rw[h2]at hL;cases hL
       · simp only[List.concat_eq_append]at e
         rw[e,e1,List.flatMap_append]at h2
         have h5:s=(X'.flatMap (fun p=>p ++ [10]) ++ y) ++ [10]:=by rw[h2];simp
         rw[h5,List.getLast?_concat]at hL
         simp at hL
 | some L=>
   simp only
   by_cases hs:s = []
   · subst hs
     have eL:L = []:=by unfold linesI at hL;simp at hL;first | exact hL | exact hL.symm
     have eX:X = []:=by
      have:=h2
      cases X with
      | nil=>rfl
      | cons p X=>simp at this
     rw[eL,eX]
     rfl
   · obtain⟨e1,e2⟩:=lines_len hL hs
     rw[spl,h1]at e1
     obtain⟨e3,e4⟩:=List.append_inj' e1 rfl
     obtain rfl:=e3
     have e4:=List.singleton_inj.1 e4
     by_cases c:X.length>30
     · rw[if_pos c,if_pos (by omega)]
     · rw[if_neg c,if_neg (by omega)]
       cases hi:iRolls X with
       | none=>
         cases hs':sRolls X with
         | none=>rfl
         | some out=>
           rw[iEnd,sEnd,if_neg]
           rintro⟨g,t⟩
           rw[(fwd out hs' g t).2]at hi;cases hi
       | some out=>
         by_cases g:good out=true
         · obtain⟨b1,b2⟩:=impl_spec X out hi (fun x hx=>(rollB_of g x hx).2)
           rw[b1,iEnd,sEnd,if_pos g,if_pos]
           refine⟨g,?_⟩
           rw[text_bodies, ← b2, ← e2]
         · rw[iEnd,if_neg g]
           cases hs':sRolls X with
           | none=>rfl
           | some out'=>
             rw[sEnd,if_neg]
             rintro⟨g',t⟩
             have:=(fwd out' hs' g' t).2
             rw[hi]at this
             obtain rfl:=Option.some.inj this
             exact g g'

theorem goodFrom_src (suf:List S47):∀pre:List S47,goodFrom pre suf=true→∀j:Nat,pre.length≤j→j<(pre ++ suf).length → -1≤(rd_T47 (pre ++ suf) (j:Int)).f3∧(rd_T47 (pre ++ suf) (j:Int)).f3≤(j:Int)-1:=by
 induction suf with
 | nil=>intro pre _ j h1 h2;simp at h2;omega
 | cons x suf ih=>
   intro pre h j h1 h2
   simp only[goodFrom,Bool.and_eq_true]at h
   by_cases e:j=pre.length
   · subst e
     rw[rdR_mid]
     have hr:=h.1
     simp only[rollOk,Bool.and_eq_true,decide_eq_true_eq]at hr
     exact hr.2.2.2.2.1
   · have:=ih (pre ++ [x]) h.2 j (by simp;omega) (by simpa using h2)
     rwa [snoc_app]at this
theorem good_src {l:List S47} (h:good l=true) (j:Int) (h0:0≤j) (h1:j<l.length) : -1≤(rd_T47 l j).f3∧(rd_T47 l j).f3≤j-1:=by
 simp only[good,Bool.and_eq_true]at h
 have:=goodFrom_src l [] h.1 j.toNat (Nat.zero_le _) (by simp;omega)
 rw[List.nil_append,show((j.toNat:Nat):Int)=j by omega]at this
 exact this
theorem good_len {l:List S47} (h:good l=true):l.length≤30:=by
 simp only[good,Bool.and_eq_true,decide_eq_true_eq]at h;exact h.2
def wayD (l:List S47):Nat→Int→List Int
 | 0,_=> []
 | d+1,i=>if i≥0 then i :: wayD l d (rd_T47 l i).f3 else []
/-- The provenance of a roll. -/
def way (l:List S47) (i:Int):List Int:=wayD l (i.toNat+1) i
theorem wayD_len (l:List S47) (d:Nat):∀i,(wayD l d i).length≤d:=by
 induction d with
 | zero=>intro i;simp[wayD]
 | succ d ih=>intro i;simp only[wayD];split<;>simp;exact ih _
theorem way_len (l:List S47) (i:Int):(way l i).length≤i.toNat+1:=wayD_len l _ i
theorem caWay_l0 (l:List S47) (hg:good l=true) (d:Nat):∀(i:Int) (out:List Int),i<d→i<l.length→out.length+d≤1048576→Ev (fun k=>spec_caWay.l0 k l i out) (out ++ wayD l d i):=by
 induction d with
 | zero=>
   intro i out h1 h2 h3
   refine ev_step (f:=fun _=>some _) (Ev.now _) (fun k=>?_)
   rw[spec_caWay.l0,if_neg (by omega)];simp[wayD]
 | succ d ih=>
   intro i out h1 h2 h3
   by_cases c:i≥0
   · have hs:=good_src hg i c h2
     have h:=ih (rd_T47 l i).f3 (out ++ [i]) (by omega) (by omega) (by simp;omega)
     refine ev_step (ev_eq h (by simp[wayD,c])) (fun k=>?_)
     rw[spec_caWay.l0,if_pos c,if_pos (by omega),if_pos c,if_pos h2]
   · refine ev_step (f:=fun _=>some _) (Ev.now _) (fun k=>?_)
     rw[spec_caWay.l0,if_neg c];simp[wayD,c]
theorem caWay_ok (l:List S47) (hg:good l=true) (i:Int) (h:i<l.length):Ev (fun k=>spec_caWay.f k l i) (way l i):=by
 have hl:=good_len hg
 exact Ev.congr (f:=fun k=>spec_caWay.l0 k l i []) (fun _=>rfl) (by simpa [way] using caWay_l0 l hg (i.toNat+1) i [] (by omega) h (by simp;omega))
theorem provenance_l0 (l:List S47) (hg:good l=true) (d:Nat):∀(i:Int) (out:List Int),i<d→i<l.length→out.length+d≤1048576→Ev (fun k=>impl_provenanceOf.l0 k l i out) (out ++ wayD l d i):=by
 induction d with
 | zero=>
   intro i out h1 h2 h3
   refine ev_step (f:=fun _=>some _) (Ev.now _) (fun k=>?_)
   rw[impl_provenanceOf.l0,if_neg (by omega)];simp[wayD]
 | succ d ih=>
   intro i out h1 h2 h3
   by_cases c:i≥0
   · have hs:=good_src hg i c h2
     have h:=ih (rd_T47 l i).f3 (out ++ [i]) (by omega) (by omega) (by simp;omega)
     refine ev_step (ev_eq h (by simp[wayD,c])) (fun k=>?_)
     rw[impl_provenanceOf.l0,if_pos c,if_pos (by omega),if_pos c,if_pos h2]
   · refine ev_step (f:=fun _=>some _) (Ev.now _) (fun k=>?_)
     rw[impl_provenanceOf.l0,if_neg c];simp[wayD,c]
theorem provenance_ok (l:List S47) (hg:good l=true) (i:Int) (h:i<l.length):Ev (fun k=>impl_provenanceOf.f k l i) (way l i):=by
 have hl:=good_len hg
 exact Ev.congr (f:=fun k=>impl_provenanceOf.l0 k l i []) (fun _=>rfl) (by simpa [way] using provenance_l0 l hg (i.toNat+1) i [] (by omega) h (by simp;omega))

def hasRoll (l:List S47) (i:Int):Bool:=good l && decide (0≤i∧i<l.length)
theorem caHas_ok (l:List S47) (i:Int) (h:l.length≤1048576) (hz:∀x∈l,x.f0.size≤1048576∧x.f1.size≤1048576):Ev (fun k=>spec_caHas.f k l i) (hasRoll l i):=by
 refine Ev.bind (caGood_ok l (by omega) hz) (ev_of_eq (fun _=>?_))
 cases g:good l with
 | false=>simp[hasRoll,g]
 | true=>
   have hw:wrap64 ((l.length:Int)-1)=(l.length:Int)-1:=wrapS (by omega) (by omega)
   simp only[if_true,hw,spec_l1In.f,hasRoll,g,Bool.true_and]
   by_cases c:i≥0
   · simp only[if_pos c,Option.bind_some]
     congr 1
     by_cases d:i<l.length
     · simp[d];omega
     · simp[d];omega
   · rw[if_neg c];simp;omega
theorem isRoll_ok (l:List S47) (i:Int) (h:l.length≤1048576) (hz:∀x∈l,x.f0.size≤1048576∧x.f1.size≤1048576):Ev (fun k=>impl_isRoll.f k l i) (hasRoll l i):=by
 refine Ev.bind (isCat_ok l (by omega) hz) (ev_of_eq (fun _=>?_))
 cases g:good l with
 | false=>simp[hasRoll,g]
 | true=>
   simp only[if_true,hasRoll,g,Bool.true_and]
   by_cases c:i≥0
   · simp[c]
   · rw[if_neg c];simp;omega
theorem hasRoll_of {l:List S47} {i:Int} (h:hasRoll l i=true):good l=true∧0≤i∧i<l.length:=by
 simpa [hasRoll] using h

theorem l1Has_l0 (n:Int) (suf:List Int):∀pre:List Int,(pre ++ suf).length≤1048576→Ev (fun k=>spec_l1Has.l0 k n (pre ++ suf) ((pre ++ suf).length:Int) (pre.length:Int)) (decide (n∈suf)):=by
 induction suf with
 | nil=>
   intro pre _
   refine ev_step (f:=fun _=>some _) (Ev.now _) (fun k=>?_)
   rw[spec_l1Has.l0,if_neg (by simp)];simp
 | cons x suf ih=>
   intro pre hl
   have h:=ih (pre ++ [x]) (by simp at hl ⊢;omega)
   rw[snoc_app,snoc_leni]at h
   have hl':(pre.length:Int)<((pre ++ x :: suf).length:Int):=by simp;omega
   have hw:wrap64 ((pre.length:Int)+1)=(pre.length:Int)+1:=wrapS (by omega) (by simp at hl;omega)
   by_cases c:x=n
   · refine ev_step (f:=fun _=>some _) (Ev.now _) (fun k=>?_)
     rw[spec_l1Has.l0,if_pos hl',if_pos (by omega),if_pos hl',rd_mid,if_pos c];simp[c]
   · refine ev_step (ev_eq h (by simp[fun q=>c (Eq.symm q)];intro q;exact absurd q.symm c)) (fun k=>?_)
     rw[spec_l1Has.l0,if_pos hl',if_pos (by omega),if_pos hl',rd_mid,if_neg c,hw]
theorem l1Has_ok (l:List Int) (n:Int) (h:l.length≤1048576):Ev (fun k=>spec_l1Has.f k l n) (decide (n∈l)):=
 Ev.congr (fun _=>rfl) (l1Has_l0 n l [] (by simpa using h))
theorem index_l0 (n:Int) (suf:List Int):∀pre:List Int,(pre ++ suf).length≤1048576→∃r,Ev (fun k=>slices_Index_int_int.l0 k (pre ++ suf) n ((pre ++ suf).length:Int) (pre.length:Int)) r∧(r≥0↔n∈suf):=by
 induction suf with
 | nil=>
   intro pre _
   refine⟨-1,ev_step (f:=fun _=>some _) (Ev.now _) (fun k=>?_),by simp⟩
   rw[slices_Index_int_int.l0,if_neg (by simp)]
 | cons x suf ih=>
   intro pre hl
   obtain⟨r,h,hr⟩:=ih (pre ++ [x]) (by simp at hl ⊢;omega)
   rw[snoc_app,snoc_leni]at h
   have hl':(pre.length:Int)<((pre ++ x :: suf).length:Int):=by simp;omega
   have hw:wrap64 ((pre.length:Int)+1)=(pre.length:Int)+1:=wrapS (by omega) (by simp at hl;omega)
   by_cases c:n=x
   · refine⟨(pre.length:Int),ev_step (f:=fun _=>some _) (Ev.now _) (fun k=>?_),by simp[c]⟩
     rw[slices_Index_int_int.l0,if_pos hl',if_pos (by omega),if_pos hl',rd_mid,if_pos c]
   · refine⟨r,ev_step h (fun k=>?_),by rw[hr];simp[c]⟩
     rw[slices_Index_int_int.l0,if_pos hl',if_pos (by omega),if_pos hl',rd_mid,if_neg c,hw]
theorem contains_ok (l:List Int) (n:Int) (h:l.length≤1048576):Ev (fun k=>slices_Contains_int_int.f k l n) (decide (n∈l)):=by
 obtain⟨r,hr,e⟩:=index_l0 n l [] (by simpa using h)
 refine Ev.bind (Ev.congr (fun _=>rfl) hr) (ev_of_eq (fun _=>?_))
 congr 1
 exact decide_eq_decide.2 e

def gens (l:List S47):Nat→Nat→List Int
 | 0,_=> []
 | d+1,i=>(((way l (i:Int)).length:Int)-1) :: gens l d (i+1)
theorem gens_len (l:List S47) (d:Nat):∀i,(gens l d i).length=d:=by
 induction d with
 | zero=>intro i;rfl
 | succ d ih=>intro i;simp[gens,ih]
theorem specGens_l0 (l:List S47) (hg:good l=true) (d:Nat):∀(i:Nat) (out:List Int),i+d=l.length→out.length+d≤1048576→Ev (fun k=>spec_GenerationsOf.l0 k l out (l.length:Int) (i:Int)) (out ++ gens l d i,true):=by
 have hgl:=good_len hg
 induction d with
 | zero=>
   intro i out h1 h2
   refine ev_step (f:=fun _=>some _) (Ev.now _) (fun k=>?_)
   rw[spec_GenerationsOf.l0,if_neg (by omega)];simp[gens]
 | succ d ih=>
   intro i out h1 h2
   have wl:=way_len l (i:Int)
   obtain⟨K1,e1⟩:=ih (i+1) (out ++ [((way l (i:Int)).length:Int)-1]) (by omega) (by simp;omega)
   obtain⟨K2,e2⟩:=caWay_ok l hg (i:Int) (by omega)
   dsimp only at e1 e2
   have hw:wrap64 (((way l (i:Int)).length:Int)-1)=((way l (i:Int)).length:Int)-1:=wrapS (by omega) (by omega)
   have hw2:wrap64 ((i:Int)+1)=((i+1:Nat):Int):=by rw[wrapS (by omega) (by omega)];simp
   refine⟨K1+K2+1,fun k hk=>?_⟩
   obtain⟨m,rfl⟩:∃m,k=m+1:=⟨k-1,by omega⟩
   dsimp only
   rw[spec_GenerationsOf.l0,if_pos (by omega),e2 m (by omega)]
   simp only[Option.bind_some]
   rw[if_pos (by omega),hw,hw2,e1 m (by omega)]
   simp[gens]
theorem implGens_l0 (l:List S47) (hg:good l=true) (d:Nat):∀(i:Nat) (out:List Int),i+d=l.length→out.length+d≤1048576→Ev (fun k=>impl_GenerationsOf.l0 k l out (l.length:Int) (i:Int)) (out ++ gens l d i,true):=by
 have hgl:=good_len hg
 induction d with
 | zero=>
   intro i out h1 h2
   refine ev_step (f:=fun _=>some _) (Ev.now _) (fun k=>?_)
   rw[impl_GenerationsOf.l0,if_neg (by omega)];simp[gens]
 | succ d ih=>
   intro i out h1 h2
   have wl:=way_len l (i:Int)
   obtain⟨K1,e1⟩:=ih (i+1) (out ++ [((way l (i:Int)).length:Int)-1]) (by omega) (by simp;omega)
   obtain⟨K2,e2⟩:=provenance_ok l hg (i:Int) (by omega)
   dsimp only at e1 e2
   have hw:wrap64 (((way l (i:Int)).length:Int)-1)=((way l (i:Int)).length:Int)-1:=wrapS (by omega) (by omega)
   have hw2:wrap64 ((i:Int)+1)=((i+1:Nat):Int):=by rw[wrapS (by omega) (by omega)];simp
   refine⟨K1+K2+1,fun k hk=>?_⟩
   obtain⟨m,rfl⟩:∃m,k=m+1:=⟨k-1,by omega⟩
   dsimp only
   rw[impl_GenerationsOf.l0,if_pos (by omega),e2 m (by omega)]
   simp only[Option.bind_some]
   rw[if_pos (by omega),hw,hw2,e1 m (by omega)]
   simp[gens]
def genR (l:List S47):List Int×Bool:=if good l=true then(gens l l.length 0,true) else([],false)
theorem genR_len (l:List S47) (hl:l.length≤1048576):(genR l).1.length≤1048576:=by
 unfold genR;split
 · simp only[gens_len];exact hl
 · simp
theorem specGenerationsOf_ok (l:List S47) (h:l.length≤1048576) (hz:∀x∈l,x.f0.size≤1048576∧x.f1.size≤1048576):Ev (fun k=>spec_GenerationsOf.f k l) (genR l):=by
 refine Ev.bind (caGood_ok l h hz) ?_
 cases g:good l with
 | false=>exact ev_of_eq (fun _=>by simp[genR,g])
 | true=>
   have hgl:=good_len g
   simp only[if_true]
   exact ev_eq (specGens_l0 l g l.length 0 [] (by omega) (by simp;omega)) (by simp[genR,g])
theorem implGenerationsOf_ok (l:List S47) (h:l.length≤1048576) (hz:∀x∈l,x.f0.size≤1048576∧x.f1.size≤1048576):Ev (fun k=>impl_GenerationsOf.f k l) (genR l):=by
 refine Ev.bind (isCat_ok l h hz) ?_
 cases g:good l with
 | false=>exact ev_of_eq (fun _=>by simp[genR,g])
 | true=>
   have hgl:=good_len g
   simp only[if_true]
   exact ev_eq (implGens_l0 l g l.length 0 [] (by omega) (by simp;omega)) (by simp[genR,g])

def minY:List S47→Int→Int
 | [],m=>m
 | x :: l,m=>minY l (if x.f3<0 then(if m<x.f2 then m else x.f2) else m)
def firsts (y:Int):Int→List S47→List Int
 | _, []=> []
 | i,x :: l=>if x.f3<0∧x.f2=y then i :: firsts y (i+1) l else firsts y (i+1) l
theorem firsts_snoc (y:Int) (l:List S47) (x:S47):∀i:Int,firsts y i (l ++ [x])=firsts y i l ++ (if x.f3<0∧x.f2=y then [i+l.length] else []):=by
 induction l with
 | nil=>intro i;simp only[List.nil_append,firsts,List.length_nil];split<;>simp
 | cons z l ih=>
   intro i
   simp only[List.cons_append,firsts,ih,List.length_cons]
   have e:i+1+(l.length:Int)=i+((l.length+1:Nat):Int):=by simp;omega
   rw[e]
   split<;>simp
theorem firsts_none (y:Int) (l:List S47) (h:∀x∈l,x.f3<0→x.f2≠y):∀i,firsts y i l = []:=by
 induction l with
 | nil=>intro i;rfl
 | cons x l ih=>
   intro i
   rw[firsts,if_neg (fun q=>h x List.mem_cons_self q.1 q.2)]
   exact ih (fun z hz=>h z (List.mem_cons_of_mem _ hz)) _
theorem firsts_len (y:Int) (l:List S47):∀i,(firsts y i l).length≤l.length:=by
 induction l with
 | nil=>intro i;simp[firsts]
 | cons x l ih=>intro i;have:=ih (i+1);simp only[firsts];split<;>simp<;>omega

/-- What stands when a part of the rolls has been seen. -/
structure Seen (pre:List S47) (m:Int) (out:List Int):Prop where
 least:∀x∈pre,x.f3<0→m≤x.f2
 out_eq:out=firsts m 0 pre
 cases_:(out = []∧m=3000∧∀x∈pre,¬x.f3<0)∨∃h t,out=h :: t∧0≤h∧h<pre.length∧(rd_T47 pre h).f2=m
theorem rd_snoc (pre:List S47) (x:S47) (h:Int) (h0:0≤h) (h1:h<pre.length):rd_T47 (pre ++ [x]) h=rd_T47 pre h:=rdR_app pre [x] h h0 h1
theorem rd_last (pre:List S47) (x:S47):rd_T47 (pre ++ [x]) (pre.length:Int)=x:=rdR_mid pre [] x

theorem seen_skip {pre:List S47} {m:Int} {out:List Int} {x:S47} (h:Seen pre m out) (hx:¬x.f3<0∨(m<x.f2∧out ≠ [])):Seen (pre ++ [x]) m out:=by
 refine⟨fun z hz hz2=>?_,?_,?_⟩
 · rcases List.mem_append.1 hz with hz | hz
   · exact h.least z hz hz2
   · rw[List.mem_singleton.1 hz]at hz2 ⊢
     rcases hx with hx | hx
     · exact absurd hz2 hx
     · omega
 · rw[firsts_snoc,if_neg (fun q=>by rcases hx with hx | hx;exact hx q.1;have:=q.2;omega),List.append_nil];exact h.out_eq
 · rcases h.cases_ with ⟨h1,h2,h3⟩ | ⟨a,t,h1,h2,h3,h4⟩
   · refine .inl ⟨h1,h2,fun z hz=>?_⟩
     rcases List.mem_append.1 hz with hz | hz
     · exact h3 z hz
     · rw[List.mem_singleton.1 hz]
       rcases hx with hx | hx
       · exact hx
       · exact absurd h1 hx.2
   · exact .inr ⟨a,t,h1,h2,by simp;omega,by rw[rd_snoc _ _ _ h2 h3];exact h4⟩
theorem seen_new {pre:List S47} {m:Int} {out:List Int} {x:S47} (h:Seen pre m out) (hx:x.f3<0) (hm:x.f2<m):Seen (pre ++ [x]) x.f2 [(pre.length:Int)]:=by
 refine⟨fun z hz hz2=>?_,?_, .inr ⟨_, [],rfl,by omega,by simp;omega,by rw[rd_last]⟩⟩
 · rcases List.mem_append.1 hz with hz | hz
   · have:=h.least z hz hz2;omega
   · rw[List.mem_singleton.1 hz];exact Int.le_refl _
 · rw[firsts_snoc,if_pos ⟨hx,rfl⟩,firsts_none x.f2 pre (fun z hz hz2=>by have:=h.least z hz hz2;omega)];simp
theorem seen_more {pre:List S47} {m:Int} {out:List Int} {x:S47} (h:Seen pre m out) (hx:x.f3<0) (hm:x.f2=m) (ho:out ≠ []):Seen (pre ++ [x]) m (out ++ [(pre.length:Int)]):=by
 refine⟨fun z hz hz2=>?_,?_,?_⟩
 · rcases List.mem_append.1 hz with hz | hz
   · exact h.least z hz hz2
   · rw[List.mem_singleton.1 hz];omega
 · rw[firsts_snoc,if_pos ⟨hx,hm⟩, ← h.out_eq];simp
 · rcases h.cases_ with ⟨h1,_⟩ | ⟨a,t,h1,h2,h3,h4⟩
   · exact absurd h1 ho
   · exact .inr ⟨a,t ++ [(pre.length:Int)],by rw[h1];rfl,h2,by simp;omega,by rw[rd_snoc _ _ _ h2 h3];exact h4⟩
theorem seen_out_len {pre:List S47} {m:Int} {out:List Int} (h:Seen pre m out):out.length≤pre.length:=by rw[h.out_eq];exact firsts_len _ _ _

theorem specFirst_l1 (m:Int) (suf:List S47):∀(pre:List S47) (out:List Int),(pre ++ suf).length≤1048576→out.length≤pre.length →
 Ev (fun k=>spec_FirstMasters.l1 k m out (pre ++ suf) ((pre ++ suf).length:Int) (pre.length:Int)) (out ++ firsts m (pre.length:Int) suf,true):=by
 induction suf with
 | nil=>
   intro pre out _ _
   refine ev_step (f:=fun _=>some _) (Ev.now _) (fun k=>?_)
   rw[spec_FirstMasters.l1,if_neg (by simp)];simp[firsts]
 | cons x suf ih=>
   intro pre out hl ho
   have hl':(pre.length:Int)<((pre ++ x :: suf).length:Int):=by simp;omega
   have hw:wrap64 ((pre.length:Int)+1)=(pre.length:Int)+1:=wrapS (by omega) (by simp at hl;omega)
   by_cases c:x.f3<0
   · by_cases d:x.f2=m
     · have h:=ih (pre ++ [x]) (out ++ [(pre.length:Int)]) (by simp at hl ⊢;omega) (by simp;omega)
       rw[snoc_app,snoc_leni]at h
       refine ev_step (ev_eq h (by simp[firsts,c,d])) (fun k=>?_)
       rw[spec_FirstMasters.l1,if_pos hl',if_pos (by omega),if_pos hl',rdR_mid,if_pos c,if_pos d,if_pos (by simp at hl;omega),hw]
     · have h:=ih (pre ++ [x]) out (by simp at hl ⊢;omega) (by simp;omega)
       rw[snoc_app,snoc_leni]at h
       refine ev_step (ev_eq h (by simp[firsts,d])) (fun k=>?_)
       rw[spec_FirstMasters.l1,if_pos hl',if_pos (by omega),if_pos hl',rdR_mid,if_pos c,if_neg d,hw]
   · have h:=ih (pre ++ [x]) out (by simp at hl ⊢;omega) (by simp;omega)
     rw[snoc_app,snoc_leni]at h
     refine ev_step (ev_eq h (by simp[firsts,c])) (fun k=>?_)
     rw[spec_FirstMasters.l1,if_pos hl',if_pos (by omega),if_pos hl',rdR_mid,if_neg c,hw]
theorem specFirst_l0 (suf:List S47):∀(pre:List S47) (m:Int),(pre ++ suf).length≤1048576 →
 Ev (fun k=>spec_FirstMasters.l0 k (pre ++ suf) m (pre ++ suf) ((pre ++ suf).length:Int) (pre.length:Int)) (firsts (minY suf m) 0 (pre ++ suf),true):=by
 induction suf with
 | nil=>
   intro pre m hl
   have h:=specFirst_l1 m (pre ++ []) [] [] (by simpa using hl) (by simp)
   refine ev_step (ev_eq h (by simp[minY])) (fun k=>?_)
   rw[spec_FirstMasters.l0,if_neg (by simp)];simp
 | cons x suf ih=>
   intro pre m hl
   have hl':(pre.length:Int)<((pre ++ x :: suf).length:Int):=by simp;omega
   have hw:wrap64 ((pre.length:Int)+1)=(pre.length:Int)+1:=wrapS (by omega) (by simp at hl;omega)
   have h:=ih (pre ++ [x]) (if x.f3<0 then(if m<x.f2 then m else x.f2) else m) (by simp at hl ⊢;omega)
   rw[snoc_app,snoc_leni]at h
   refine ev_step (ev_eq h (by simp[minY])) (fun k=>?_)
   rw[spec_FirstMasters.l0,if_pos hl',if_pos (by omega),if_pos hl',rdR_mid,hw]
   by_cases c:x.f3<0
   · rw[if_pos c,spec_l1Least.f,if_pos c]
     split<;>simp
   · rw[if_neg c,if_neg c]

theorem implFirst_l0 (suf:List S47):∀(pre:List S47) (m:Int) (out:List Int),(pre ++ suf).length≤1048576→(∀x∈suf,x.f2<3000)→Seen pre m out →
 Ev (fun k=>impl_FirstMasters.l0 k (pre ++ suf) out (pre ++ suf) ((pre ++ suf).length:Int) (pre.length:Int)) (firsts (minY suf m) 0 (pre ++ suf),true):=by
 induction suf with
 | nil=>
   intro pre m out hl _ hs
   refine ev_step (f:=fun _=>some _) (Ev.now _) (fun k=>?_)
   rw[impl_FirstMasters.l0,if_neg (by simp),hs.out_eq];simp[minY]
 | cons x suf ih=>
   intro pre m out hl hy hs
   have hl':(pre.length:Int)<((pre ++ x :: suf).length:Int):=by simp;omega
   have hw:wrap64 ((pre.length:Int)+1)=(pre.length:Int)+1:=wrapS (by omega) (by simp at hl;omega)
   have hyx:=hy x List.mem_cons_self
   have hol:=seen_out_len hs
   have hlp:pre.length≤1048576:=by simp at hl;omega
   have IH:=fun m2 out2 (h2:Seen (pre ++ [x]) m2 out2)=>ih (pre ++ [x]) m2 out2 (by simp at hl ⊢;omega) (fun z hz=>hy z (List.mem_cons_of_mem _ hz)) h2
   simp only[snoc_app,snoc_leni]at IH
   by_cases c:x.f3≥0
   · have h:=IH m out (seen_skip hs (.inl (by omega)))
     refine ev_step (f:=fun k=>impl_FirstMasters.j1 k (pre ++ x :: suf) out (pre.length:Int) (pre ++ x :: suf) ((pre ++ x :: suf).length:Int) (pre.length:Int) true x.f0 x.f1 x.f2 x.f3) (ev_step (ev_eq h (by simp[minY,show ¬x.f3<0 by omega])) (fun k=>?_)) (fun k=>?_)
     · rw[impl_FirstMasters.j1,if_pos rfl,hw]
     · rw[impl_FirstMasters.l0,if_pos hl',if_pos (by omega),if_pos hl',rdR_mid,if_pos c]
   · have c2:x.f3<0:=by omega
     rcases hs.cases_ with ⟨h1,h2,h3⟩ | ⟨a,t,h1,h2,h3,h4⟩
     · have h:=IH x.f2 [(pre.length:Int)] (seen_new hs c2 (by omega))
       subst h1
       refine ev_step (f:=fun k=>impl_FirstMasters.j1 k (pre ++ x :: suf) [] (pre.length:Int) (pre ++ x :: suf) ((pre ++ x :: suf).length:Int) (pre.length:Int) false x.f0 x.f1 x.f2 x.f3) (ev_step (ev_eq h (by simp only[minY,if_pos c2];rw[if_neg (by omega)])) (fun k=>?_)) (fun k=>?_)
       · rw[impl_FirstMasters.j1,if_neg (by decide),if_neg (by simp),if_pos (by simp),hw];rfl
       · rw[impl_FirstMasters.l0,if_pos hl',if_pos (by omega),if_pos hl',rdR_mid,if_neg c,if_neg (by simp)]
     · have e0:rd out 0=a:=by rw[h1];rfl
       have e1:=rdR_app pre (x :: suf) a h2 h3
       have hp:(out.length:Int)>0:=by rw[h1,List.length_cons];omega
       have hne:out ≠ []:=by rw[h1];simp
       have hal:a<((pre ++ x :: suf).length:Int):=by simp;omega
       have st:∀k,impl_FirstMasters.l0 (k+1) (pre ++ x :: suf) out (pre ++ x :: suf) ((pre ++ x :: suf).length:Int) (pre.length:Int)=impl_FirstMasters.j1 k (pre ++ x :: suf) out (pre.length:Int) (pre ++ x :: suf) ((pre ++ x :: suf).length:Int) (pre.length:Int) (decide (x.f2>m)) x.f0 x.f1 x.f2 x.f3:=fun k=>by
        rw[impl_FirstMasters.l0,if_pos hl',if_pos (by omega),if_pos hl',rdR_mid,if_neg c,if_pos hp,if_pos hp,e0,if_pos h2,if_pos hal,e1,h4]
       by_cases d:x.f2>m
       · have h:=IH m out (seen_skip hs (.inr ⟨d,hne⟩))
         refine ev_step (ev_step (ev_eq h (by simp only[minY,if_pos c2];rw[if_pos (by omega)])) (fun k=>?_)) st
         rw[impl_FirstMasters.j1,if_pos (by simpa using d),hw]
       · have d2:¬decide (x.f2>m)=true:=by simpa using d
         by_cases d3:x.f2<m
         · have h:=IH x.f2 [(pre.length:Int)] (seen_new hs c2 d3)
           refine ev_step (ev_step (ev_eq h (by simp only[minY,if_pos c2];rw[if_neg (by omega)])) (fun k=>?_)) st
           rw[impl_FirstMasters.j1,if_neg d2,if_pos hp,if_pos hp,e0,if_pos h2,if_pos hal,e1,h4,if_pos d3,if_pos (by simp),hw];rfl
         · have h:=IH m (out ++ [(pre.length:Int)]) (seen_more hs c2 (by omega) hne)
           refine ev_step (ev_step (ev_eq h (by simp only[minY,if_pos c2];rw[if_neg (by omega),show x.f2=m by omega])) (fun k=>?_)) st
           rw[impl_FirstMasters.j1,if_neg d2,if_pos hp,if_pos hp,e0,if_pos h2,if_pos hal,e1,h4,if_neg d3,if_pos (by omega),hw]
theorem goodFrom_year (suf:List S47):∀pre:List S47,goodFrom pre suf=true→∀x∈suf,x.f2<3000:=by
 induction suf with
 | nil=>intro pre _ x hx;exact absurd hx List.not_mem_nil
 | cons y suf ih=>
   intro pre h x hx
   simp only[goodFrom,Bool.and_eq_true]at h
   rcases List.mem_cons.1 hx with rfl | hx
   · have hr:=h.1
     simp only[rollOk,Bool.and_eq_true,decide_eq_true_eq]at hr
     have:=hr.2.2.2.1
     omega
   · exact ih _ h.2 x hx
def mastersR (l:List S47):List Int×Bool:=if good l=true then(firsts (minY l 3000) 0 l,true) else([],false)
theorem mastersR_len (l:List S47) (hl:l.length≤1048576):(mastersR l).1.length≤1048576:=by
 have:=firsts_len (minY l 3000) l 0
 unfold mastersR;split
 · simp only;omega
 · simp
theorem specFirstMasters_ok (l:List S47) (h:l.length≤1048576) (hz:∀x∈l,x.f0.size≤1048576∧x.f1.size≤1048576):Ev (fun k=>spec_FirstMasters.f k l) (mastersR l):=by
 refine Ev.bind (caGood_ok l h hz) ?_
 cases g:good l with
 | false=>exact ev_of_eq (fun _=>by simp[mastersR,g])
 | true=>
   simp only[if_true]
   exact ev_eq (specFirst_l0 l [] 3000 (by simpa using h)) (by simp[mastersR,g])
theorem implFirstMasters_ok (l:List S47) (h:l.length≤1048576) (hz:∀x∈l,x.f0.size≤1048576∧x.f1.size≤1048576):Ev (fun k=>impl_FirstMasters.f k l) (mastersR l):=by
 refine Ev.bind (isCat_ok l h hz) ?_
 cases g:good l with
 | false=>exact ev_of_eq (fun _=>by simp[mastersR,g])
 | true=>
   simp only[if_true]
   have g2:=g
   simp only[good,Bool.and_eq_true]at g2
   have s:Seen [] 3000 []:=⟨fun x hx=>absurd hx List.not_mem_nil,rfl, .inl ⟨rfl,rfl,fun x hx=>absurd hx List.not_mem_nil⟩⟩
   exact ev_eq (implFirst_l0 l [] 3000 [] (by simpa using h) (goodFrom_year l [] g2.1) s) (by simp[mastersR,g])

theorem rdS_mid (pre suf:List ByteArray) (x:ByteArray):rdOf ByteArray.empty (pre ++ x :: suf) (pre.length:Int)=x:=getD_mid _ _ _ _ _ (by simp)
def inS (l:List ByteArray) (n:ByteArray):Bool:=l.any (fun x=>decide (x.toList=n.toList))
theorem l1HasS_l0 (n:ByteArray) (suf:List ByteArray):∀pre:List ByteArray,(pre ++ suf).length≤9000000→Ev (fun k=>spec_l1HasS.l0 k n (pre ++ suf) ((pre ++ suf).length:Int) (pre.length:Int)) (inS suf n):=by
 induction suf with
 | nil=>
   intro pre _
   refine ev_step (f:=fun _=>some _) (Ev.now _) (fun k=>?_)
   rw[spec_l1HasS.l0,if_neg (by simp)];simp[inS]
 | cons x suf ih=>
   intro pre hl
   have h:=ih (pre ++ [x]) (by simp at hl ⊢;omega)
   rw[snoc_app,snoc_leni]at h
   have hl':(pre.length:Int)<((pre ++ x :: suf).length:Int):=by simp;omega
   have hw:wrap64 ((pre.length:Int)+1)=(pre.length:Int)+1:=wrapS (by omega) (by simp at hl;omega)
   by_cases c:x.toList=n.toList
   · refine ev_step (f:=fun _=>some _) (Ev.now _) (fun k=>?_)
     rw[spec_l1HasS.l0,if_pos hl',if_pos (by omega),if_pos hl',rdS_mid,if_pos c];simp[inS,c]
   · refine ev_step (ev_eq h (by simp[inS,c])) (fun k=>?_)
     rw[spec_l1HasS.l0,if_pos hl',if_pos (by omega),if_pos hl',rdS_mid,if_neg c,hw]
theorem l1HasS_ok (l:List ByteArray) (n:ByteArray) (h:l.length≤9000000):Ev (fun k=>spec_l1HasS.f k l n) (inS l n):=
 Ev.congr (f:=fun k=>spec_l1HasS.l0 k n l (l.length:Int) 0) (fun _=>rfl) (l1HasS_l0 n l [] (by simpa using h))
theorem indexS_l0 (n:ByteArray) (suf:List ByteArray):∀pre:List ByteArray,(pre ++ suf).length≤9000000→∃r,Ev (fun k=>slices_Index_string_string.l0 k (pre ++ suf) n ((pre ++ suf).length:Int) (pre.length:Int)) r∧(r≥0↔inS suf n=true):=by
 induction suf with
 | nil=>
   intro pre _
   refine⟨-1,ev_step (f:=fun _=>some _) (Ev.now _) (fun k=>?_),by simp[inS]⟩
   rw[slices_Index_string_string.l0,if_neg (by simp)]
 | cons x suf ih=>
   intro pre hl
   obtain⟨r,h,hr⟩:=ih (pre ++ [x]) (by simp at hl ⊢;omega)
   rw[snoc_app,snoc_leni]at h
   have hl':(pre.length:Int)<((pre ++ x :: suf).length:Int):=by simp;omega
   have hw:wrap64 ((pre.length:Int)+1)=(pre.length:Int)+1:=wrapS (by omega) (by simp at hl;omega)
   by_cases c:n.toList=x.toList
   · refine⟨(pre.length:Int),ev_step (f:=fun _=>some _) (Ev.now _) (fun k=>?_),by simp[inS,c]⟩
     rw[slices_Index_string_string.l0,if_pos hl',if_pos (by omega),if_pos hl',rdS_mid,if_pos c]
   · refine⟨r,ev_step h (fun k=>?_),by rw[hr];simp[inS,fun q=>c (Eq.symm q)];intro q;exact absurd q.symm c⟩
     rw[slices_Index_string_string.l0,if_pos hl',if_pos (by omega),if_pos hl',rdS_mid,if_neg c,hw]
theorem containsS_ok (l:List ByteArray) (n:ByteArray) (h:l.length≤9000000):Ev (fun k=>slices_Contains_string_string.f k l n) (inS l n):=by
 obtain⟨r,hr,e⟩:=indexS_l0 n l [] (by simpa using h)
 refine Ev.bind (Ev.congr (f:=fun k=>slices_Index_string_string.l0 k l n (l.length:Int) 0) (fun _=>rfl) hr) (ev_of_eq (fun _=>?_))
 congr 1
 cases g:inS l n with
 | true=>rw[g]at e;exact decide_eq_true (e.2 rfl)
 | false=>rw[g]at e;exact decide_eq_false (fun q=>Bool.noConfusion (e.1 q))

def makers (l:List S47):List ByteArray→List ByteArray:=fun out=>l.foldl (fun o x=>if inS o x.f1=true then o else o ++ [x.f1]) out
theorem makers_len (l:List S47):∀out,(makers l out).length≤out.length+l.length:=by
 induction l with
 | nil=>intro out;simp[makers]
 | cons x l ih=>
   intro out
   have:=ih (if inS out x.f1=true then out else out ++ [x.f1])
   have e:makers (x :: l) out=makers l (if inS out x.f1=true then out else out ++ [x.f1]):=rfl
   rw[e,List.length_cons]
   split at this<;>rename_i h<;>simp only[h,if_true,if_false,Bool.false_eq_true]<;>simp at this ⊢ <;> omega
theorem specMakers_l0 (suf:List S47):∀(pre:List S47) (out:List ByteArray),(pre ++ suf).length≤1048576→out.length≤pre.length →
 Ev (fun k=>spec_MakersOf.l0 k out (pre ++ suf) ((pre ++ suf).length:Int) (pre.length:Int)) (makers suf out,true):=by
 induction suf with
 | nil=>
   intro pre out _ _
   refine ev_step (f:=fun _=>some _) (Ev.now _) (fun k=>?_)
   rw[spec_MakersOf.l0,if_neg (by simp)];rfl
 | cons x suf ih=>
   intro pre out hl ho
   have hlp:pre.length≤1048576:=by simp at hl;omega
   have hl':(pre.length:Int)<((pre ++ x :: suf).length:Int):=by simp;omega
   have hw:wrap64 ((pre.length:Int)+1)=(pre.length:Int)+1:=wrapS (by omega) (by omega)
   obtain⟨K1,e1⟩:=l1HasS_ok out x.f1 (by omega)
   dsimp only at e1
   have h:=ih (pre ++ [x]) (if inS out x.f1=true then out else out ++ [x.f1]) (by simp at hl ⊢;omega) (by split<;>simp<;>omega)
   rw[snoc_app,snoc_leni]at h
   obtain⟨K2,e2⟩:=h
   dsimp only at e2
   refine⟨K1+K2+1,fun k hk=>?_⟩
   obtain⟨m,rfl⟩:∃m,k=m+1:=⟨k-1,by omega⟩
   dsimp only
   rw[spec_MakersOf.l0,if_pos hl',if_pos (by omega),if_pos hl',rdR_mid,e1 m (by omega)]
   simp only[Option.bind_some]
   rw[if_pos (show out.length<8796093022208 by omega),hw,show makers (x :: suf) out=makers suf (if inS out x.f1=true then out else out ++ [x.f1]) from rfl, ← e2 m (by omega)]
   split<;>rfl
theorem implMakers_l0 (suf:List S47):∀(pre:List S47) (out:List ByteArray),(pre ++ suf).length≤1048576→out.length≤pre.length →
 Ev (fun k=>impl_MakersOf.l0 k out (pre ++ suf) ((pre ++ suf).length:Int) (pre.length:Int)) (makers suf out,true):=by
 induction suf with
 | nil=>
   intro pre out _ _
   refine ev_step (f:=fun _=>some _) (Ev.now _) (fun k=>?_)
   rw[impl_MakersOf.l0,if_neg (by simp)];rfl
 | cons x suf ih=>
   intro pre out hl ho
   have hlp:pre.length≤1048576:=by simp at hl;omega
   have hl':(pre.length:Int)<((pre ++ x :: suf).length:Int):=by simp;omega
   have hw:wrap64 ((pre.length:Int)+1)=(pre.length:Int)+1:=wrapS (by omega) (by omega)
   obtain⟨K1,e1⟩:=containsS_ok out x.f1 (by omega)
   dsimp only at e1
   have h:=ih (pre ++ [x]) (if inS out x.f1=true then out else out ++ [x.f1]) (by simp at hl ⊢;omega) (by split<;>simp<;>omega)
   rw[snoc_app,snoc_leni]at h
   obtain⟨K2,e2⟩:=h
   dsimp only at e2
   refine⟨K1+K2+1,fun k hk=>?_⟩
   obtain⟨m,rfl⟩:∃m,k=m+1:=⟨k-1,by omega⟩
   dsimp only
   rw[impl_MakersOf.l0,if_pos hl',if_pos (by omega),if_pos hl',rdR_mid,e1 m (by omega)]
   simp only[Option.bind_some]
   rw[if_pos (show out.length<8796093022208 by omega),hw,show makers (x :: suf) out=makers suf (if inS out x.f1=true then out else out ++ [x.f1]) from rfl, ← e2 m (by omega)]
   split<;>rfl
def makersR (l:List S47):List ByteArray×Bool:=if good l=true then(makers l [],true) else([],false)
theorem makersR_len (l:List S47) (hl:l.length≤1048576):(makersR l).1.length≤1048576:=by
 have:=makers_len l []
 unfold makersR;split
 · simp only[List.length_nil]at this ⊢;omega
 · simp
theorem specMakersOf_ok (l:List S47) (h:l.length≤1048576) (hz:∀x∈l,x.f0.size≤1048576∧x.f1.size≤1048576):Ev (fun k=>spec_MakersOf.f k l) (makersR l):=by
 refine Ev.bind (caGood_ok l h hz) ?_
 cases g:good l with
 | false=>exact ev_of_eq (fun _=>by simp[makersR,g])
 | true=>
   simp only[if_true]
   exact ev_eq (specMakers_l0 l [] [] (by simpa using h) (by simp)) (by simp[makersR,g])
theorem implMakersOf_ok (l:List S47) (h:l.length≤1048576) (hz:∀x∈l,x.f0.size≤1048576∧x.f1.size≤1048576):Ev (fun k=>impl_MakersOf.f k l) (makersR l):=by
 refine Ev.bind (isCat_ok l h hz) ?_
 cases g:good l with
 | false=>exact ev_of_eq (fun _=>by simp[makersR,g])
 | true=>
   simp only[if_true]
   exact ev_eq (implMakers_l0 l [] [] (by simpa using h) (by simp)) (by simp[makersR,g])

def provR (l:List S47) (i:Int):List Int×Bool:=if hasRoll l i=true then(way l i,true) else([],false)
theorem specProvenanceOf_ok (l:List S47) (i:Int) (h:l.length≤1048576) (hz:∀x∈l,x.f0.size≤1048576∧x.f1.size≤1048576):Ev (fun k=>spec_ProvenanceOf.f k l i) (provR l i):=by
 refine Ev.bind (caHas_ok l i h hz) ?_
 cases g:hasRoll l i with
 | false=>exact ev_of_eq (fun _=>by simp[provR,g])
 | true=>
   have hh:=hasRoll_of g
   simp only[if_true]
   exact Ev.bind (caWay_ok l hh.1 i hh.2.2) (ev_of_eq (fun _=>by simp[provR,g]))
theorem implProvenanceOf_ok (l:List S47) (i:Int) (h:l.length≤1048576) (hz:∀x∈l,x.f0.size≤1048576∧x.f1.size≤1048576):Ev (fun k=>impl_ProvenanceOf.f k l i) (provR l i):=by
 refine Ev.bind (isRoll_ok l i h hz) ?_
 cases g:hasRoll l i with
 | false=>exact ev_of_eq (fun _=>by simp[provR,g])
 | true=>
   have hh:=hasRoll_of g
   simp only[if_true]
   exact Ev.bind (provenance_ok l hh.1 i hh.2.2) (ev_of_eq (fun _=>by simp[provR,g]))

def common (other:List Int):List Int→Int×Bool
 | []=>(0,false)
 | n :: r=>if n∈other then(n,true) else common other r
theorem specCommon_l0 (b:List Int) (hb:b.length≤1048576) (suf:List Int):∀pre:List Int,(pre ++ suf).length≤1048576 →
 Ev (fun k=>spec_CommonSource.l0 k b (pre ++ suf) ((pre ++ suf).length:Int) (pre.length:Int)) (common b suf):=by
 induction suf with
 | nil=>
   intro pre _
   refine ev_step (f:=fun _=>some _) (Ev.now _) (fun k=>?_)
   rw[spec_CommonSource.l0,if_neg (by simp)];rfl
 | cons x suf ih=>
   intro pre hl
   obtain⟨K1,e1⟩:=ih (pre ++ [x]) (by simp at hl ⊢;omega)
   obtain⟨K2,e2⟩:=l1Has_ok b x hb
   dsimp only at e1 e2
   simp only[snoc_app,snoc_leni]at e1
   have hl':(pre.length:Int)<((pre ++ x :: suf).length:Int):=by simp;omega
   have hw:wrap64 ((pre.length:Int)+1)=(pre.length:Int)+1:=wrapS (by omega) (by simp at hl;omega)
   refine⟨K1+K2+1,fun k hk=>?_⟩
   obtain⟨m,rfl⟩:∃m,k=m+1:=⟨k-1,by omega⟩
   dsimp only
   rw[spec_CommonSource.l0,if_pos hl',if_pos (by omega),if_pos hl',rd_mid,e2 m (by omega)]
   simp only[Option.bind_some]
   by_cases c:x∈b
   · simp[c,common]
   · rw[if_neg (by simpa using c),hw,e1 m (by omega),common,if_neg c]
theorem implCommon_l0 (b:List Int) (hb:b.length≤1048576) (suf:List Int):∀pre:List Int,(pre ++ suf).length≤1048576 →
 Ev (fun k=>impl_CommonSource.l0 k b (pre ++ suf) ((pre ++ suf).length:Int) (pre.length:Int)) (common b suf):=by
 induction suf with
 | nil=>
   intro pre _
   refine ev_step (f:=fun _=>some _) (Ev.now _) (fun k=>?_)
   rw[impl_CommonSource.l0,if_neg (by simp)];rfl
 | cons x suf ih=>
   intro pre hl
   obtain⟨K1,e1⟩:=ih (pre ++ [x]) (by simp at hl ⊢;omega)
   obtain⟨K2,e2⟩:=contains_ok b x hb
   dsimp only at e1 e2
   simp only[snoc_app,snoc_leni]at e1
   have hl':(pre.length:Int)<((pre ++ x :: suf).length:Int):=by simp;omega
   have hw:wrap64 ((pre.length:Int)+1)=(pre.length:Int)+1:=wrapS (by omega) (by simp at hl;omega)
   refine⟨K1+K2+1,fun k hk=>?_⟩
   obtain⟨m,rfl⟩:∃m,k=m+1:=⟨k-1,by omega⟩
   dsimp only
   rw[impl_CommonSource.l0,if_pos hl',if_pos (by omega),if_pos hl',rd_mid,e2 m (by omega)]
   simp only[Option.bind_some]
   by_cases c:x∈b
   · simp[c,common]
   · rw[if_neg (by simpa using c),hw,e1 m (by omega),common,if_neg c]
def commonR (l:List S47) (i j:Int):Int×Bool:=if hasRoll l i=true∧hasRoll l j=true then common (way l j) (way l i) else(0,false)
theorem specCommonSource_ok (l:List S47) (i j:Int) (h:l.length≤1048576) (hz:∀x∈l,x.f0.size≤1048576∧x.f1.size≤1048576):Ev (fun k=>spec_CommonSource.f k l i j) (commonR l i j):=by
 have J1:Ev (fun k=>spec_CommonSource.j0 k l i j true) (0,false):=by
  refine ev_step (f:=fun _=>some _) (Ev.now _) (fun k=>?_)
  rw[spec_CommonSource.j0,if_pos rfl]
 refine Ev.bind (caHas_ok l i h hz) ?_
 cases g:hasRoll l i with
 | false=>
   simp only[Bool.false_eq_true,if_false]
   exact ev_eq J1 (by simp[commonR,g])
 | true=>
   simp only[if_true]
   refine Ev.bind (caHas_ok l j h hz) ?_
   cases g2:hasRoll l j with
   | false=>exact ev_eq J1 (by simp[commonR,g2])
   | true=>
     have h1:=hasRoll_of g
     have h2:=hasRoll_of g2
     have w1:=way_len l i
     have w2:=way_len l j
     refine ev_step (f:=fun k=>(spec_caWay.f k l j).bind fun a=>(spec_caWay.f k l i).bind fun b=>spec_CommonSource.l0 k a b (b.length:Int) 0) ?_ (fun k=>?_)
     · refine Ev.bind (caWay_ok l h2.1 j h2.2.2) (Ev.bind (caWay_ok l h1.1 i h1.2.2) ?_)
       exact ev_eq (by simpa using specCommon_l0 (way l j) (by omega) (way l i) [] (by simp;omega)) (by simp[commonR,g,g2])
     · rw[spec_CommonSource.j0];simp
theorem implCommonSource_ok (l:List S47) (i j:Int) (h:l.length≤1048576) (hz:∀x∈l,x.f0.size≤1048576∧x.f1.size≤1048576):Ev (fun k=>impl_CommonSource.f k l i j) (commonR l i j):=by
 have J1:Ev (fun k=>impl_CommonSource.j0 k l i j true) (0,false):=by
  refine ev_step (f:=fun _=>some _) (Ev.now _) (fun k=>?_)
  rw[impl_CommonSource.j0,if_pos rfl]
 refine Ev.bind (isRoll_ok l i h hz) ?_
 cases g:hasRoll l i with
 | false=>
   simp only[Bool.false_eq_true,if_false]
   exact ev_eq J1 (by simp[commonR,g])
 | true=>
   simp only[if_true]
   refine Ev.bind (isRoll_ok l j h hz) ?_
   cases g2:hasRoll l j with
   | false=>exact ev_eq J1 (by simp[commonR,g2])
   | true=>
     have h1:=hasRoll_of g
     have h2:=hasRoll_of g2
     have w1:=way_len l i
     have w2:=way_len l j
     refine ev_step (f:=fun k=>(impl_provenanceOf.f k l j).bind fun a=>(impl_provenanceOf.f k l i).bind fun b=>impl_CommonSource.l0 k a b (b.length:Int) 0) ?_ (fun k=>?_)
     · refine Ev.bind (provenance_ok l h2.1 j h2.2.2) (Ev.bind (provenance_ok l h1.1 i h1.2.2) ?_)
       exact ev_eq (by simpa using implCommon_l0 (way l j) (by omega) (way l i) [] (by simp;omega)) (by simp[commonR,g,g2])
     · rw[impl_CommonSource.j0];simp

def copies (l:List S47) (n:Int):Nat→Nat→List Int
 | 0,_=> []
 | d+1,i=>if(i:Int)=n then copies l n d (i+1) else if n∈way l (i:Int) then(i:Int) :: copies l n d (i+1) else copies l n d (i+1)
theorem copies_len (l:List S47) (n:Int) (d:Nat):∀i,(copies l n d i).length≤d:=by
 induction d with
 | zero=>intro i;simp[copies]
 | succ d ih=>
   intro i
   have:=ih (i+1)
   simp only[copies];split
   · omega
   · split<;>simp<;>omega
theorem specCopies_l0 (l:List S47) (n:Int) (hg:good l=true) (d:Nat):∀(i:Nat) (out:List Int),i+d=l.length→out.length+d≤1048576→Ev (fun k=>spec_CopiesOf.l0 k l n out (l.length:Int) (i:Int)) (out ++ copies l n d i,true):=by
 have hgl:=good_len hg
 induction d with
 | zero=>
   intro i out h1 h2
   refine ev_step (f:=fun _=>some _) (Ev.now _) (fun k=>?_)
   rw[spec_CopiesOf.l0,if_neg (by omega)];simp[copies]
 | succ d ih=>
   intro i out h1 h2
   have wl:=way_len l (i:Int)
   have hw2:wrap64 ((i:Int)+1)=((i+1:Nat):Int):=by rw[wrapS (by omega) (by omega)];simp
   by_cases c:(i:Int)=n
   · refine ev_step (ev_eq (ih (i+1) out (by omega) (by omega)) (by rw[copies,if_pos c])) (fun k=>?_)
     rw[spec_CopiesOf.l0,if_pos (by omega),if_pos c,hw2]
   · obtain⟨K2,e2⟩:=caWay_ok l hg (i:Int) (by omega)
     obtain⟨K3,e3⟩:=l1Has_ok (way l (i:Int)) n (by omega)
     by_cases q:n∈way l (i:Int)
     · obtain⟨K1,e1⟩:=ih (i+1) (out ++ [(i:Int)]) (by omega) (by simp;omega)
       dsimp only at e1 e2 e3
       refine⟨K1+K2+K3+1,fun k hk=>?_⟩
       obtain⟨m,rfl⟩:∃m,k=m+1:=⟨k-1,by omega⟩
       dsimp only
       rw[spec_CopiesOf.l0,if_pos (by omega),if_neg c,e2 m (by omega)]
       simp only[Option.bind_some]
       rw[e3 m (by omega)]
       simp only[Option.bind_some]
       rw[if_pos (by simpa using q),if_pos (by omega),hw2,e1 m (by omega),copies,if_neg c,if_pos q]
       simp
     · obtain⟨K1,e1⟩:=ih (i+1) out (by omega) (by omega)
       dsimp only at e1 e2 e3
       refine⟨K1+K2+K3+1,fun k hk=>?_⟩
       obtain⟨m,rfl⟩:∃m,k=m+1:=⟨k-1,by omega⟩
       dsimp only
       rw[spec_CopiesOf.l0,if_pos (by omega),if_neg c,e2 m (by omega)]
       simp only[Option.bind_some]
       rw[e3 m (by omega)]
       simp only[Option.bind_some]
       rw[if_neg (by simpa using q),hw2,e1 m (by omega),copies,if_neg c,if_neg q]
theorem implCopies_l0 (l:List S47) (n:Int) (hg:good l=true) (d:Nat):∀(i:Nat) (out:List Int),i+d=l.length→out.length+d≤1048576→Ev (fun k=>impl_CopiesOf.l0 k l n out (l.length:Int) (i:Int)) (out ++ copies l n d i,true):=by
 have hgl:=good_len hg
 induction d with
 | zero=>
   intro i out h1 h2
   refine ev_step (f:=fun _=>some _) (Ev.now _) (fun k=>?_)
   rw[impl_CopiesOf.l0,if_neg (by omega)];simp[copies]
 | succ d ih=>
   intro i out h1 h2
   have wl:=way_len l (i:Int)
   have hw2:wrap64 ((i:Int)+1)=((i+1:Nat):Int):=by rw[wrapS (by omega) (by omega)];simp
   by_cases c:(i:Int)=n
   · refine ev_step (ev_eq (ih (i+1) out (by omega) (by omega)) (by rw[copies,if_pos c])) (fun k=>?_)
     rw[impl_CopiesOf.l0,if_pos (by omega),if_pos c,hw2]
   · obtain⟨K2,e2⟩:=provenance_ok l hg (i:Int) (by omega)
     obtain⟨K3,e3⟩:=contains_ok (way l (i:Int)) n (by omega)
     by_cases q:n∈way l (i:Int)
     · obtain⟨K1,e1⟩:=ih (i+1) (out ++ [(i:Int)]) (by omega) (by simp;omega)
       dsimp only at e1 e2 e3
       refine⟨K1+K2+K3+1,fun k hk=>?_⟩
       obtain⟨m,rfl⟩:∃m,k=m+1:=⟨k-1,by omega⟩
       dsimp only
       rw[impl_CopiesOf.l0,if_pos (by omega),if_neg c,e2 m (by omega)]
       simp only[Option.bind_some]
       rw[e3 m (by omega)]
       simp only[Option.bind_some]
       rw[if_pos (by simpa using q),if_pos (by omega),hw2,e1 m (by omega),copies,if_neg c,if_pos q]
       simp
     · obtain⟨K1,e1⟩:=ih (i+1) out (by omega) (by omega)
       dsimp only at e1 e2 e3
       refine⟨K1+K2+K3+1,fun k hk=>?_⟩
       obtain⟨m,rfl⟩:∃m,k=m+1:=⟨k-1,by omega⟩
       dsimp only
       rw[impl_CopiesOf.l0,if_pos (by omega),if_neg c,e2 m (by omega)]
       simp only[Option.bind_some]
       rw[e3 m (by omega)]
       simp only[Option.bind_some]
       rw[if_neg (by simpa using q),hw2,e1 m (by omega),copies,if_neg c,if_neg q]
def copiesR (l:List S47) (i:Int):List Int×Bool:=if hasRoll l i=true then(copies l i l.length 0,true) else([],false)
theorem specCopiesOf_ok (l:List S47) (i:Int) (h:l.length≤1048576) (hz:∀x∈l,x.f0.size≤1048576∧x.f1.size≤1048576):Ev (fun k=>spec_CopiesOf.f k l i) (copiesR l i):=by
 refine Ev.bind (caHas_ok l i h hz) ?_
 cases g:hasRoll l i with
 | false=>exact ev_of_eq (fun _=>by simp[copiesR,g])
 | true=>
   have hh:=hasRoll_of g
   have hgl:=good_len hh.1
   simp only[if_true]
   exact ev_eq (specCopies_l0 l i hh.1 l.length 0 [] (by omega) (by simp;omega)) (by simp[copiesR,g])
theorem implCopiesOf_ok (l:List S47) (i:Int) (h:l.length≤1048576) (hz:∀x∈l,x.f0.size≤1048576∧x.f1.size≤1048576):Ev (fun k=>impl_CopiesOf.f k l i) (copiesR l i):=by
 refine Ev.bind (isRoll_ok l i h hz) ?_
 cases g:hasRoll l i with
 | false=>exact ev_of_eq (fun _=>by simp[copiesR,g])
 | true=>
   have hh:=hasRoll_of g
   have hgl:=good_len hh.1
   simp only[if_true]
   exact ev_eq (implCopies_l0 l i hh.1 l.length 0 [] (by omega) (by simp;omega)) (by simp[copiesR,g])

theorem wayD_in (l:List S47) (hg:good l=true) (d:Nat):∀i:Int,i<l.length→∀x∈wayD l d i,0≤x∧x≤i:=by
 induction d with
 | zero=>intro i _ x hx;simp[wayD]at hx
 | succ d ih=>
   intro i hi x hx
   rw[wayD]at hx
   by_cases c:i≥0
   · rw[if_pos c]at hx
     have hs:=good_src hg i c hi
     rcases List.mem_cons.1 hx with rfl | q
     · exact⟨c,Int.le_refl _⟩
     · have:=ih (rd_T47 l i).f3 (by omega) x q
       omega
   · rw[if_neg c]at hx;cases hx
theorem wayD_dec (l:List S47) (hg:good l=true) (d:Nat):∀i:Int,i<l.length→(wayD l d i).Pairwise (fun a b=>b<a):=by
 induction d with
 | zero=>intro i _;simp[wayD]
 | succ d ih=>
   intro i hi
   rw[wayD]
   by_cases c:i≥0
   · rw[if_pos c]
     have hs:=good_src hg i c hi
     refine List.pairwise_cons.2 ⟨fun x hx=>?_,ih _ (by omega)⟩
     have:=wayD_in l hg d (rd_T47 l i).f3 (by omega) x hx
     omega
   · rw[if_neg c];exact List.Pairwise.nil
theorem wayD_more (l:List S47) (hg:good l=true) (d:Nat):∀i:Int,i<d→i<l.length→wayD l (d+1) i=wayD l d i:=by
 induction d with
 | zero=>
   intro i h _
   show(if i≥0 then i :: wayD l 0 (rd_T47 l i).f3 else []) = []
   rw[if_neg (by omega)]
 | succ d ih=>
   intro i h hi
   rw[wayD,wayD.eq_2 l i d]
   by_cases c:i≥0
   · have hs:=good_src hg i c hi
     rw[if_pos c,if_pos c,ih _ (by omega) (by omega)]
   · rw[if_neg c,if_neg c]
theorem wayD_way (l:List S47) (hg:good l=true) (i:Int) (hi:i<l.length) (e:Nat):wayD l (i.toNat+1+e) i=way l i:=by
 induction e with
 | zero=>rfl
 | succ e ih=>rw[← Nat.add_assoc,wayD_more l hg _ i (by omega) hi,ih]
theorem way_neg (l:List S47) (i:Int) (h:i<0):way l i = []:=by
 unfold way
 rw[wayD,if_neg (by omega)]
theorem way_cons (l:List S47) (hg:good l=true) (i:Int) (h0:0≤i) (h1:i<l.length):way l i=i :: way l (rd_T47 l i).f3:=by
 have hs:=good_src hg i h0 h1
 conv=>lhs;unfold way
 rw[wayD,if_pos h0]
 by_cases c:(rd_T47 l i).f3<0
 · rw[way_neg l _ c]
   cases hn:i.toNat with
   | zero=>rfl
   | succ d=>rw[wayD,if_neg (by omega)]
 · rw[← wayD_way l hg (rd_T47 l i).f3 (by omega) (i.toNat-((rd_T47 l i).f3.toNat+1)),show(rd_T47 l i).f3.toNat+1+(i.toNat-((rd_T47 l i).f3.toNat+1))=i.toNat by omega]
theorem way_dec (l:List S47) (hg:good l=true) (i:Int) (h1:i<l.length):(way l i).Pairwise (fun a b=>b<a):=wayD_dec l hg _ i h1
theorem way_end (l:List S47) (hg:good l=true) (n:Nat):∀i:Int,i.toNat<n→0≤i→i<l.length→∃(pre:List Int) (z:Int),way l i=pre ++ [z]∧0≤z∧z<l.length∧(rd_T47 l z).f3 = -1:=by
 induction n with
 | zero=>intro i h;omega
 | succ n ih=>
   intro i h h0 h1
   have hs:=good_src hg i h0 h1
   rw[way_cons l hg i h0 h1]
   by_cases c:(rd_T47 l i).f3<0
   · rw[way_neg l _ c]
     exact⟨[],i,rfl,h0,h1,by omega⟩
   · obtain⟨pre,z,e,r⟩:=ih (rd_T47 l i).f3 (by omega) (by omega) (by omega)
     exact⟨i :: pre,z,by rw[e];rfl,r⟩
theorem common_is (other:List Int) (l:List Int) (c:Int) (h:common other l=(c,true)):l.Pairwise (fun a b=>b<a)→c∈l∧c∈other∧∀n∈l,n>c→n ∉ other:=by
 induction l with
 | nil=>simp[common]at h
 | cons x l ih=>
   intro hp
   rw[common]at h
   obtain⟨h1,h2⟩:=List.pairwise_cons.1 hp
   by_cases q:x∈other
   · rw[if_pos q]at h
     obtain rfl:x=c:=by injection h
     refine⟨by simp,q,fun n hn hx=>?_⟩
     rcases List.mem_cons.1 hn with rfl | hn
     · omega
     · have:=h1 n hn;omega
   · rw[if_neg q]at h
     obtain⟨i1,i2,i3⟩:=ih h h2
     refine⟨by simp[i1],i2,fun n hn hx=>?_⟩
     rcases List.mem_cons.1 hn with rfl | hn
     · exact q
     · exact i3 n hn hx
theorem common_of (other:List Int) (l:List Int) (c:Int) (hc:c∈l) (ho:c∈other) (hn:∀n∈l,n>c→n ∉ other):l.Pairwise (fun a b=>b<a)→common other l=(c,true):=by
 induction l with
 | nil=>cases hc
 | cons x l ih=>
   intro hp
   obtain⟨h1,h2⟩:=List.pairwise_cons.1 hp
   rw[common]
   rcases List.mem_cons.1 hc with rfl | q
   · rw[if_pos ho]
   · have:=h1 c q
     rw[if_neg (hn x (by simp) (by omega))]
     exact ih q (fun n hm=>hn n (by simp[hm])) h2
theorem common_sym (a b:List Int) (ha:a.Pairwise (fun a b=>b<a)) (hb:b.Pairwise (fun a b=>b<a)) (c:Int) (h:common b a=(c,true)):common a b=(c,true):=by
 obtain⟨h1,h2,h3⟩:=common_is b a c h ha
 exact common_of a b c h2 h1 (fun n hn hx hm=>h3 n hm hx hn) hb
theorem copies_mem (l:List S47) (n:Int) (d:Nat):∀(i:Nat) (k:Int),k∈copies l n d i↔(i:Int)≤k∧k<(i:Int)+d∧k≠n∧n∈way l k:=by
 induction d with
 | zero=>intro i k;simp[copies];omega
 | succ d ih=>
   intro i k
   have h:=ih (i+1) k
   rw[copies]
   by_cases e:(i:Int)=k
   · subst e
     by_cases c:(i:Int)=n
     · rw[if_pos c,h];constructor
       · intro q;omega
       · intro q;omega
     · rw[if_neg c]
       by_cases q:n∈way l (i:Int)
       · rw[if_pos q];simp only[List.mem_cons,true_or,true_iff];exact⟨by omega,by omega,c,q⟩
       · rw[if_neg q,h];constructor
         · intro z;omega
         · intro z;exact absurd z.2.2.2 q
   · have e2:((i:Int)≤k∧k<(i:Int)+((d+1:Nat):Int)∧k≠n∧n∈way l k)↔(((i+1:Nat):Int)≤k∧k<((i+1:Nat):Int)+d∧k≠n∧n∈way l k):=by
      constructor
      · intro z;exact⟨by omega,by omega,z.2.2⟩
      · intro z;exact⟨by omega,by omega,z.2.2⟩
     rw[e2, ← h]
     by_cases c:(i:Int)=n
     · rw[if_pos c]
     · rw[if_neg c]
       by_cases q:n∈way l (i:Int)
       · rw[if_pos q,List.mem_cons]
         exact⟨fun z=>z.resolve_left (fun z2=>e z2.symm), .inr⟩
       · rw[if_neg q]
theorem gens_get (l:List S47) (d:Nat):∀i j:Nat,j<d→rd (gens l d i) (j:Int)=((way l ((i+j:Nat):Int)).length:Int)-1:=by
 induction d with
 | zero=>intro i j h;omega
 | succ d ih=>
   intro i j h
   rw[gens]
   cases j with
   | zero=>rfl
   | succ j=>
     have:=ih (i+1) j (by omega)
     rw[show i+1+j=i+(j+1) by omega]at this
     rw[← this,rd,rd]
     rfl
theorem firsts_mem (y:Int) (suf:List S47):∀(pre:List S47) (j:Int),j∈firsts y (pre.length:Int) suf→(rd_T47 (pre ++ suf) j).f3<0:=by
 induction suf with
 | nil=>intro pre j h;simp[firsts]at h
 | cons x suf ih=>
   intro pre j h
   have h2:=ih (pre ++ [x]) j
   rw[snoc_app,snoc_leni]at h2
   rw[firsts]at h
   by_cases c:x.f3<0∧x.f2=y
   · rw[if_pos c]at h
     rcases List.mem_cons.1 h with rfl | q
     · rw[rdR_mid];exact c.1
     · exact h2 q
   · rw[if_neg c]at h;exact h2 h
theorem dec_dig (n:Nat):digL (Lib.decDigits n) 0=some (n:Int):=by
 induction n using Nat.strongRecOn with
 | _ n ih=>
   have small:∀d:Nat,d<10→(UInt8.ofNat (48+d)).toNat=48+d:=by
    intro d hd
    rw[UInt8.toNat_ofNat'];exact Nat.mod_eq_of_lt (by omega)
   by_cases h:n<10
   · rw[Lib.decDigits_one h,digL,small n h,if_neg (by omega),if_neg (by omega),digL];congr 1;omega
   · have hm:=Nat.mod_lt n (show 0<10 by omega)
     rw[Lib.decDigits,dif_neg h,digL_snoc,ih (n / 10) (by omega),Option.bind_some,small _ hm,if_neg (by omega),if_neg (by omega)];congr 1;omega
theorem dec_head48 (n:Nat):(Lib.decDigits n).head? = some 48→n=0:=by
 induction n using Nat.strongRecOn with
 | _ n ih=>
   intro hh
   by_cases h:n<10
   · rw[Lib.decDigits_one h]at hh
     simp only[List.head?_cons,Option.some.injEq]at hh
     have h2:=congrArg UInt8.toNat hh
     rw[UInt8.toNat_ofNat']at h2
     have h3:(48:UInt8).toNat=48:=rfl
     rw[h3,Nat.mod_eq_of_lt (by omega)]at h2;omega
   · rw[Lib.decDigits,dif_neg h]at hh
     have hne:Lib.decDigits (n / 10) ≠ []:=by
      intro q
      have:=dec_dig (n / 10)
      rw[q,digL]at this
      have:=Option.some.inj this
      omega
     have:=ih (n / 10) (by omega) (by
      rw[List.head?_append]at hh
      cases hd:Lib.decDigits (n / 10) with
      | nil=>exact absurd hd hne
      | cons a t=>rw[hd]at hh;simpa using hh)
     omega
theorem dec_rd6 (n:Nat) (h:n<1000000):rd6 (Lib.decDigits n)=(n:Int):=by
 have h1:=dec_len 5 n (by simpa using h)
 have h0:Lib.decDigits n ≠ []:=by
  intro q
  rw[Lib.decDigits]at q
  split at q
  · cases q
  · simp at q
 have h2:1≤(Lib.decDigits n).length:=List.length_pos_iff.2 h0
 rw[rd6,if_pos,dec_dig];rfl
 refine⟨⟨h2,by omega⟩,fun q=>?_⟩
 have:=dec_head48 n q.1
 subst this
 have h3:=q.2
 rw[Lib.decDigits_one (by omega)]at h3
 simp at h3
theorem itoa_rd6 (n:Int) (h0:0≤n) (h1:n<1000000):rd6 (Lib.itoa n)=n:=by
 rw[itoa_of n h0,dec_rd6 _ (by omega)];omega
theorem letters_mem (s:ByteArray) (d:Nat):∀i:Nat,i+d=s.size→letters s d i=true→∀j:Nat,i≤j→j<s.size→97≤bt s (j:Int):=by
 induction d with
 | zero=>intro i hi _ j h1 h2;omega
 | succ d ih=>
   intro i hi h j h1 h2
   simp only[letters,Bool.and_eq_true,decide_eq_true_eq]at h
   by_cases e:j=i
   · subst e;omega
   · exact ih (i+1) (by omega) (by first | exact h.2 | exact h.2.2) j (by omega) h2
theorem word_no {s:ByteArray} (h:wordOk s=true) (c:UInt8) (hc:c.toNat<97):c ∉ s.data.toList:=by
 simp only[wordOk,Bool.and_eq_true]at h
 intro hm
 obtain⟨j,hj,e⟩:=List.mem_iff_getElem.1 hm
 have hsz:=ba_size s
 have h1:=letters_mem s s.size 0 (by omega) h.1 j (by omega) (by omega)
 rw[bt_data,List.getD_eq_getElem?_getD,List.getElem?_eq_getElem hj,e]at h1
 simp only[Option.getD_some]at h1
 omega
theorem goodFrom_words (suf:List S47):∀pre:List S47,goodFrom pre suf=true→∀x∈suf,wordOk x.f0=true∧wordOk x.f1=true:=by
 induction suf with
 | nil=>intro pre _ x hx;cases hx
 | cons y suf ih=>
   intro pre h x hx
   simp only[goodFrom,Bool.and_eq_true]at h
   rcases List.mem_cons.1 hx with rfl | q
   · have h1:=h.1
     simp only[rollOk,Bool.and_eq_true]at h1
     exact⟨h1.1,h1.2.1⟩
   · exact ih (pre ++ [y]) h.2 x q
theorem good_words {l:List S47} (g:good l=true):∀x∈l,wordOk x.f0=true∧wordOk x.f1=true:=by
 unfold good at g
 exact goodFrom_words l [] (Bool.and_eq_true_iff.1 g).1
theorem body_words (x:S47) (h0:wordOk x.f0=true) (h1:wordOk x.f1=true) (h2:0≤x.f2):spl 32 (bodyC x) = [x.f0.data.toList,x.f1.data.toList,Lib.itoa x.f2,if 0≤x.f3 then Lib.itoa x.f3 else [45]]:=by
 unfold bodyC
 refine words_line _ _ _ _ (word_no h0 32 (by decide)) (word_no h1 32 (by decide)) (itoa_no x.f2 h2 32 (by decide)) ?_
 by_cases c:0≤x.f3
 · rw[if_pos c];exact itoa_no x.f3 c 32 (by decide)
 · rw[if_neg c];decide
theorem itoa_ne45 (n:Int) (h:0≤n):Lib.itoa n ≠ [45]:=by
 intro q
 exact itoa_no n h 45 (by decide) (by rw[q];simp)
theorem body_read (x:S47) (h0:wordOk x.f0=true) (h1:wordOk x.f1=true) (h2:0≤x.f2) (h3:x.f2<1000000) (h4 : -1≤x.f3) (h5:x.f3<1000000):sRoll (spl 32 (bodyC x))=some x:=by
 rw[body_words x h0 h1 h2,sRoll,itoa_rd6 x.f2 h2 h3]
 by_cases c:0≤x.f3
 · rw[if_pos c,if_neg (itoa_ne45 x.f3 c),itoa_rd6 x.f3 c h5];rfl
 · rw[if_neg c,if_pos rfl,show(-1:Int)=x.f3 by omega];rfl
theorem bodies_read (l:List S47):(∀x∈l,(wordOk x.f0=true∧wordOk x.f1=true)∧1800≤x.f2∧x.f2≤2100 ∧ -1≤x.f3∧x.f3≤900000)→sRolls (l.map bodyC)=some l:=by
 induction l with
 | nil=>intro _;rfl
 | cons x l ih=>
   intro h
   have hx:=h x (by simp)
   rw[List.map_cons,sRolls,body_read x hx.1.1 hx.1.2 (by omega) (by omega) (by omega) (by omega),Option.bind_some,ih (fun y hy=>h y (by simp[hy]))];rfl
theorem text_read (l:List S47) (g:good l=true):specP (textC l)=(l,true):=by
 have hw:=good_words g
 have ha:∀x∈l,(wordOk x.f0=true∧wordOk x.f1=true)∧1800≤x.f2∧x.f2≤2100 ∧ -1≤x.f3∧x.f3≤900000:=by
  intro x hx
  have h:=of_decide_eq_true (List.all_eq_true.1 (good_all l g) x hx)
  exact⟨hw x hx,h.2.2.1,h.2.2.2.1,h.2.2.2.2.1,h.2.2.2.2.2⟩
 have hno:∀p∈l.map bodyC,10 ∉ p:=by
  intro p hp
  obtain⟨x,hx,rfl⟩:=List.mem_map.1 hp
  have:=ha x hx
  exact body_no x (word_no this.1.1 10 (by decide)) (word_no this.1.2 10 (by decide)) (by omega)
 have hs:=spl_ends 10 (l.map bodyC) [] hno (by simp)
 rw[List.append_nil, ← text_bodies]at hs
 have hl:=good_len g
 rw[specP,hs,if_neg (by simp;omega),List.dropLast_concat,bodies_read l ha,sEnd,if_pos ⟨g,rfl⟩]

theorem qTexts_l0 (suf:List ByteArray):∀pre:List ByteArray,(pre ++ suf).length≤9223372036854775806→Ev (fun k=>laws_qTexts.l0 k (pre ++ suf) (pre ++ suf) ((pre ++ suf).length:Int) (pre.length:Int)) true:=by
 induction suf with
 | nil=>
   intro pre _
   refine ev_step ev_const (fun k=>?_)
   rw[laws_qTexts.l0,if_neg (by simp)]
 | cons x suf ih=>
   intro pre hl
   have h:=ih (pre ++ [x]) (by simp at hl ⊢;omega)
   rw[snoc_app,snoc_leni]at h
   have hl':(pre.length:Int)<((pre ++ x :: suf).length:Int):=by simp;omega
   refine ev_step h (fun k=>?_)
   rw[laws_qTexts.l0,if_pos hl',if_pos (by omega),if_pos hl',if_pos hl',if_pos rfl,wrapS (by omega) (by simp at hl;omega)]
theorem qTexts_same (l:List ByteArray) (h:l.length≤9223372036854775806):Ev (fun k=>laws_qTexts.f k l l) true:=by
 have:=qTexts_l0 l [] (by simpa using h)
 refine Ev.congr (fun k=>?_) this
 rw[laws_qTexts.f,if_pos rfl]
 rfl
theorem qRolls_l0 (suf:List S47):∀pre:List S47,(pre ++ suf).length≤9223372036854775806→Ev (fun k=>laws_qRolls.l0 k (pre ++ suf) (pre ++ suf) ((pre ++ suf).length:Int) (pre.length:Int)) true:=by
 induction suf with
 | nil=>
   intro pre _
   refine ev_step ev_const (fun k=>?_)
   rw[laws_qRolls.l0,if_neg (by simp)]
 | cons x suf ih=>
   intro pre hl
   have h:=ih (pre ++ [x]) (by simp at hl ⊢;omega)
   rw[snoc_app,snoc_leni]at h
   have hl':(pre.length:Int)<((pre ++ x :: suf).length:Int):=by simp;omega
   refine ev_step h (fun k=>?_)
   rw[laws_qRolls.l0,if_pos hl',if_pos (by omega),if_pos hl',if_pos hl',if_neg (by simp),wrapS (by omega) (by simp at hl;omega)]
theorem qRolls_same (l:List S47) (h:l.length≤9223372036854775806):Ev (fun k=>laws_qRolls.f k l l) true:=by
 have:=qRolls_l0 l [] (by simpa using h)
 refine Ev.congr (fun k=>?_) this
 rw[laws_qRolls.f,if_pos rfl]
 rfl
theorem qHas_l0 (n:Int) (suf:List Int):∀pre:List Int,(pre ++ suf).length≤1048576→Ev (fun k=>laws_qHas.l0 k n (pre ++ suf) ((pre ++ suf).length:Int) (pre.length:Int)) (decide (n∈suf)):=by
 induction suf with
 | nil=>
   intro pre _
   refine ev_step (f:=fun _=>some _) (Ev.now _) (fun k=>?_)
   rw[laws_qHas.l0,if_neg (by simp)];simp
 | cons x suf ih=>
   intro pre hl
   have h:=ih (pre ++ [x]) (by simp at hl ⊢;omega)
   rw[snoc_app,snoc_leni]at h
   have hl':(pre.length:Int)<((pre ++ x :: suf).length:Int):=by simp;omega
   by_cases c:x=n
   · refine ev_step (f:=fun _=>some _) (Ev.now _) (fun k=>?_)
     rw[laws_qHas.l0,if_pos hl',if_pos (by omega),if_pos hl',rd_mid,if_pos c];simp[c]
   · refine ev_step (ev_eq h (by simp[show ¬n=x from fun e=>c e.symm])) (fun k=>?_)
     rw[laws_qHas.l0,if_pos hl',if_pos (by omega),if_pos hl',rd_mid,if_neg c,wrapS (by omega) (by simp at hl;omega)]
theorem qHas_ok (l:List Int) (n:Int) (h:l.length≤1048576):Ev (fun k=>laws_qHas.f k l n) (decide (n∈l)):=
 Ev.congr (fun _=>rfl) (qHas_l0 n l [] (by simpa using h))

theorem qInts_l0 (suf:List Int):∀pre:List Int,(pre ++ suf).length≤9223372036854775806→Ev (fun k=>laws_qInts.l0 k (pre ++ suf) (pre ++ suf) ((pre ++ suf).length:Int) (pre.length:Int)) true:=by
 induction suf with
 | nil=>
   intro pre _
   refine ev_step ev_const (fun k=>?_)
   rw[laws_qInts.l0,if_neg (by simp)]
 | cons x suf ih=>
   intro pre hl
   have h:=ih (pre ++ [x]) (by simp at hl ⊢;omega)
   rw[snoc_app,snoc_leni]at h
   have hl':(pre.length:Int)<((pre ++ x :: suf).length:Int):=by simp;omega
   refine ev_step h (fun k=>?_)
   rw[laws_qInts.l0,if_pos hl',if_pos (by omega),if_pos hl',if_pos hl',if_pos rfl,wrapS (by omega) (by simp at hl;omega)]
theorem qInts_same (l:List Int) (h:l.length≤9223372036854775806):Ev (fun k=>laws_qInts.f k l l) true:=by
 have:=qInts_l0 l [] (by simpa using h)
 refine Ev.congr (fun k=>?_) this
 rw[laws_qInts.f,if_pos rfl]
 rfl

end Go.Proofs.YtkkmeccdjpibmaaGreatDoor.LFnCatalogueA
