/- Plain lemmas on what the printed functions of this law compute; each with the conditions that it names. -/
import Derived.Test.YtplpjmhmochcfaaQFnMergesx14
import Derived.Test.YtplpjmhmochcfaaQFnMergesx15
import Derived.Test.YtplpjmhmochcfaaBaseM
import Derived.Test.YtplpjmhmochcfaaLFnMergesA
namespace Go.Proofs.Ytplpjmhmochcfaa.LFnMergesC
open Go Go.RowKit Go.Proofs.Ytplpjmhmochcfaa.QFnMerges Go.Proofs.YtplpjmhmochcfaaW.PrintWords Go.Proofs.YtplpjmhmochcfaaW.PrintLast Go.Proofs.YtplpjmhmochcfaaW.PrintMore Go.Proofs.Ytplpjmhmochcfaa.Base Go.Proofs.Ytplpjmhmochcfaa.LFnMergesA
set_option linter.unusedVariables false
set_option linter.unusedSimpArgs false

/-! the holes that clash -/
def clashB (x y:S42):Bool:=(spec_mgClash.f x.f0 x.f1 x.f2 y.f0 y.f1 y.f2).getD false
theorem specclash_ok (x y:S42):spec_mgClash.f x.f0 x.f1 x.f2 y.f0 y.f1 y.f2=some (clashB x y):=by
 unfold clashB spec_mgClash.f
 repeat' split
 all_goals rfl
theorem implclash_ok (x y:S42):impl_clash.f x.f0 x.f1 x.f2 y.f0 y.f1 y.f2=some (clashB x y):=(show impl_clash.f x.f0 x.f1 x.f2 y.f0 y.f1 y.f2=spec_mgClash.f x.f0 x.f1 x.f2 y.f0 y.f1 y.f2 from rfl).trans (specclash_ok x y)
def rowOf (x:S42):List S42→List (List S42)
 | []=> []
 | y :: l=>if clashB x y=true then [x,y] :: rowOf x l else rowOf x l
theorem rowOf_len (x:S42) (l:List S42):(rowOf x l).length≤l.length:=by
 induction l with
 | nil=>simp[rowOf]
 | cons y l ih=>
   rw[rowOf]
   by_cases c:clashB x y=true
   · rw[if_pos c];simp;omega
   · rw[if_neg c];simp;omega
theorem rowOf_two (x:S42) (l:List S42):∀z∈rowOf x l,z.length=2:=by
 induction l with
 | nil=>intro z hz;simp[rowOf]at hz
 | cons y l ih=>
   intro z hz
   rw[rowOf]at hz
   by_cases c:clashB x y=true
   · rw[if_pos c]at hz
     rcases List.mem_cons.1 hz with rfl | hz
     · rfl
     · exact ih z hz
   · rw[if_neg c]at hz;exact ih z hz
def pairsOf (ys:List S42):List S42→List (List S42)
 | []=> []
 | x :: l=>rowOf x ys ++ pairsOf ys l
theorem pairsOf_len (ys l:List S42) (hy:ys.length≤60):(pairsOf ys l).length≤60*l.length:=by
 induction l with
 | nil=>simp[pairsOf]
 | cons x l ih=>
   have:=rowOf_len x ys
   rw[pairsOf,List.length_append,List.length_cons];omega
theorem pairsOf_two (ys l:List S42):∀z∈pairsOf ys l,z.length=2:=by
 induction l with
 | nil=>intro z hz;simp[pairsOf]at hz
 | cons x l ih=>
   intro z hz
   rw[pairsOf]at hz
   rcases List.mem_append.1 hz with h | h
   · exact rowOf_two x ys z h
   · exact ih z h
theorem good60 {l:List S42} (h:good l=true):l.length≤60:=by
 unfold good at h
 exact of_decide_eq_true (Bool.and_eq_true_iff.1 h).2
def clashR (o a b:List S42):List (List S42)×Bool:=if(good o && (good a && good b))=true then(pairsOf (less b o) (less a o),true) else([],false)
theorem clashR_spec (o a b:List S42):(clashR o a b).1.length≤3600∧∀z∈(clashR o a b).1,z.length=2:=by
 unfold clashR
 by_cases c:(good o && (good a && good b))=true
 · rw[if_pos c]
   obtain⟨_,c2⟩:=Bool.and_eq_true_iff.1 c
   obtain⟨ca,cb⟩:=Bool.and_eq_true_iff.1 c2
   have h1:=good60 ca
   have h2:=good60 cb
   have h3:=less_len a o
   have h4:=less_len b o
   have h5:=pairsOf_len (less b o) (less a o) (by omega)
   exact⟨by simp only;omega,pairsOf_two _ _⟩
 · rw[if_neg c];exact⟨by simp,fun z hz=>by simp at hz⟩
theorem specClash_l1 (x0 x2:List S42) (xs:List S42) (i:Nat) (hi:i+1≤1048576) (x:S42) (R:List (List S42)×Bool) (suf:List S42):∀(pre:List S42) (out:List (List S42)),(pre ++ suf).length≤1048576→out.length+suf.length≤1000000000 →
 Ev (fun k=>spec_ClashingHoles.l0 k x0 x2 (out ++ rowOf x suf) xs (xs.length:Int) ((i:Int)+1)) R →
 Ev (fun k=>spec_ClashingHoles.l1 k x0 x2 out xs (xs.length:Int) (i:Int) (pre ++ suf) ((pre ++ suf).length:Int) (pre.length:Int) x.f0 x.f1 x.f2) R:=by
 induction suf with
 | nil=>
   intro pre out hl ho h
   rw[rowOf,List.append_nil]at h
   have hw:wrap64 ((i:Int)+1)=(i:Int)+1:=wrapS (by omega) (by omega)
   refine ev_step h (fun k=>?_)
   rw[spec_ClashingHoles.l1,if_neg (by simp),hw]
 | cons y suf ih=>
   intro pre out hl ho h
   have hlp:pre.length+1≤1048576:=by simp at hl;omega
   have hl':(pre.length:Int)<((pre ++ y :: suf).length:Int):=by simp;omega
   have hw:wrap64 ((pre.length:Int)+1)=(pre.length:Int)+1:=wrapS (by omega) (by omega)
   simp only[List.length_cons]at ho
   rw[rowOf]at h
   by_cases c:clashB x y=true
   · rw[if_pos c]at h
     have h2:=ih (pre ++ [y]) (out ++ [[x,y]]) (by simp at hl ⊢;omega) (by simp;omega) (by rw[List.append_assoc];exact h)
     rw[snoc_app,snoc_leni]at h2
     refine ev_step h2 (fun k=>?_)
     rw[spec_ClashingHoles.l1,if_pos hl',if_pos (by omega),if_pos hl',rdH_mid,specclash_ok x y,c]
     simp only[Option.bind_some,if_true]
     rw[if_pos (by omega),hw]
   · rw[if_neg c]at h
     have h2:=ih (pre ++ [y]) out (by simp at hl ⊢;omega) (by omega) h
     rw[snoc_app,snoc_leni]at h2
     have c2:clashB x y=false:=by simpa using c
     refine ev_step h2 (fun k=>?_)
     rw[spec_ClashingHoles.l1,if_pos hl',if_pos (by omega),if_pos hl',rdH_mid,specclash_ok x y,c2]
     simp only[Option.bind_some,Bool.false_eq_true,if_false]
     rw[hw]
theorem specClash_l0 (x0 x2:List S42) (h0:x0.length≤1048576) (h2:x2.length≤60) (suf:List S42):∀(pre:List S42) (out:List (List S42)),(pre ++ suf).length≤1048576→out.length+60*suf.length≤100000000 →
 Ev (fun k=>spec_ClashingHoles.l0 k x0 x2 out (pre ++ suf) ((pre ++ suf).length:Int) (pre.length:Int)) (out ++ pairsOf (less x2 x0) suf,true):=by
 induction suf with
 | nil=>
   intro pre out hl ho
   refine ev_step (f:=fun _=>some _) (Ev.now _) (fun k=>?_)
   rw[spec_ClashingHoles.l0,if_neg (by simp),pairsOf,List.append_nil]
 | cons x suf ih=>
   intro pre out hl ho
   simp only[List.length_cons]at ho
   have hlp:pre.length+1≤1048576:=by simp at hl;omega
   have hl':(pre.length:Int)<((pre ++ x :: suf).length:Int):=by simp;omega
   have hys:=less_len x2 x0
   have hr:=rowOf_len x (less x2 x0)
   have h:=ih (pre ++ [x]) (out ++ rowOf x (less x2 x0)) (by simp at hl ⊢;omega) (by simp;omega)
   rw[snoc_app,snoc_leni]at h
   have h1:=specClash_l1 x0 x2 (pre ++ x :: suf) pre.length hlp x _ (less x2 x0) [] out (by simp;omega) (by omega) h
   simp only[List.nil_append,List.length_nil,Int.natCast_zero]at h1
   obtain⟨K2,e2⟩:=h1
   dsimp only at e2
   obtain⟨K1,e1⟩:=mgLess_ok x2 x0 (by omega) h0
   dsimp only at e1
   refine⟨K1+K2+1,fun k hk=>?_⟩
   obtain⟨m,rfl⟩:∃m,k=m+1:=⟨k-1,by omega⟩
   dsimp only
   rw[spec_ClashingHoles.l0,if_pos hl',if_pos (by omega),if_pos hl',rdH_mid,e1 m (by omega)]
   simp only[Option.bind_some]
   rw[e2 m (by omega),pairsOf,List.append_assoc]
theorem implClash_l1 (x0 x2:List S42) (xs:List S42) (i:Nat) (hi:i+1≤1048576) (x:S42) (R:List (List S42)×Bool) (suf:List S42):∀(pre:List S42) (out:List (List S42)),(pre ++ suf).length≤1048576→out.length+suf.length≤1000000000 →
 Ev (fun k=>impl_ClashingHoles.l0 k x0 x2 (out ++ rowOf x suf) xs (xs.length:Int) ((i:Int)+1)) R →
 Ev (fun k=>impl_ClashingHoles.l1 k x0 x2 out xs (xs.length:Int) (i:Int) (pre ++ suf) ((pre ++ suf).length:Int) (pre.length:Int) x.f0 x.f1 x.f2) R:=by
 induction suf with
 | nil=>
   intro pre out hl ho h
   rw[rowOf,List.append_nil]at h
   have hw:wrap64 ((i:Int)+1)=(i:Int)+1:=wrapS (by omega) (by omega)
   refine ev_step h (fun k=>?_)
   rw[impl_ClashingHoles.l1,if_neg (by simp),hw]
 | cons y suf ih=>
   intro pre out hl ho h
   have hlp:pre.length+1≤1048576:=by simp at hl;omega
   have hl':(pre.length:Int)<((pre ++ y :: suf).length:Int):=by simp;omega
   have hw:wrap64 ((pre.length:Int)+1)=(pre.length:Int)+1:=wrapS (by omega) (by omega)
   simp only[List.length_cons]at ho
   rw[rowOf]at h
   by_cases c:clashB x y=true
   · rw[if_pos c]at h
     have h2:=ih (pre ++ [y]) (out ++ [[x,y]]) (by simp at hl ⊢;omega) (by simp;omega) (by rw[List.append_assoc];exact h)
     rw[snoc_app,snoc_leni]at h2
     refine ev_step h2 (fun k=>?_)
     rw[impl_ClashingHoles.l1,if_pos hl',if_pos (by omega),if_pos hl',rdH_mid,implclash_ok x y,c]
     simp only[Option.bind_some,if_true]
     rw[if_pos (by omega),hw]
   · rw[if_neg c]at h
     have h2:=ih (pre ++ [y]) out (by simp at hl ⊢;omega) (by omega) h
     rw[snoc_app,snoc_leni]at h2
     have c2:clashB x y=false:=by simpa using c
     refine ev_step h2 (fun k=>?_)
     rw[impl_ClashingHoles.l1,if_pos hl',if_pos (by omega),if_pos hl',rdH_mid,implclash_ok x y,c2]
     simp only[Option.bind_some,Bool.false_eq_true,if_false]
     rw[hw]
theorem implClash_l0 (x0 x2:List S42) (h0:x0.length≤1048576) (h2:x2.length≤60) (suf:List S42):∀(pre:List S42) (out:List (List S42)),(pre ++ suf).length≤1048576→out.length+60*suf.length≤100000000 →
 Ev (fun k=>impl_ClashingHoles.l0 k x0 x2 out (pre ++ suf) ((pre ++ suf).length:Int) (pre.length:Int)) (out ++ pairsOf (less x2 x0) suf,true):=by
 induction suf with
 | nil=>
   intro pre out hl ho
   refine ev_step (f:=fun _=>some _) (Ev.now _) (fun k=>?_)
   rw[impl_ClashingHoles.l0,if_neg (by simp),pairsOf,List.append_nil]
 | cons x suf ih=>
   intro pre out hl ho
   simp only[List.length_cons]at ho
   have hlp:pre.length+1≤1048576:=by simp at hl;omega
   have hl':(pre.length:Int)<((pre ++ x :: suf).length:Int):=by simp;omega
   have hys:=less_len x2 x0
   have hr:=rowOf_len x (less x2 x0)
   have h:=ih (pre ++ [x]) (out ++ rowOf x (less x2 x0)) (by simp at hl ⊢;omega) (by simp;omega)
   rw[snoc_app,snoc_leni]at h
   have h1:=implClash_l1 x0 x2 (pre ++ x :: suf) pre.length hlp x _ (less x2 x0) [] out (by simp;omega) (by omega) h
   simp only[List.nil_append,List.length_nil,Int.natCast_zero]at h1
   obtain⟨K2,e2⟩:=h1
   dsimp only at e2
   refine⟨K2+1,fun k hk=>?_⟩
   obtain⟨m,rfl⟩:∃m,k=m+1:=⟨k-1,by omega⟩
   dsimp only
   rw[impl_ClashingHoles.l0,if_pos hl',if_pos (by omega),if_pos hl',rdH_mid,lessHoles_ok x2 x0 (by omega)]
   simp only[Option.bind_some]
   rw[e2 m (by omega),pairsOf,List.append_assoc]
theorem specClash_ok (o a b:List S42) (ho:o.length≤1048576) (ha:a.length≤1048576) (hb:b.length≤1048576):Ev (fun k=>spec_ClashingHoles.f k o a b) (clashR o a b):=by
 have h3:Ev (fun k=>spec_mgThree.f k o a b) (good o && (good a && good b)):=by
  refine Ev.bind (shGood_ok o (by omega)) ?_
  cases good o with
  | false=>exact ev_of_eq (fun _=>rfl)
  | true=>
    simp only[if_true,Bool.true_and]
    exact Ev.bind (mgTwo_ok a b ha hb) (ev_of_eq (fun _=>rfl))
 refine Ev.bind h3 ?_
 cases g:(good o && (good a && good b)) with
 | false=>exact ev_of_eq (fun _=>by simp only[clashR,g,Bool.false_eq_true,if_false])
 | true=>
   simp only[if_true]
   obtain⟨_,c2⟩:=Bool.and_eq_true_iff.1 g
   obtain⟨ca,cb⟩:=Bool.and_eq_true_iff.1 c2
   have h1:=good60 ca
   have h2:=good60 cb
   have h4:=less_len a o
   refine Ev.bind (mgLess_ok a o ha ho) ?_
   have h:=specClash_l0 o b ho h2 (less a o) [] [] (by simp;omega) (by simp;omega)
   simp only[List.nil_append,List.length_nil,Int.natCast_zero]at h
   exact ev_eq h (by simp only[clashR,g,if_true])
theorem implClash_ok (o a b:List S42) (ho:o.length≤1048576) (ha:a.length≤1048576) (hb:b.length≤1048576):Ev (fun k=>impl_ClashingHoles.f k o a b) (clashR o a b):=by
 have no:∀z:Bool,z=true→clashR o a b=([],false)→Ev (fun k=>impl_ClashingHoles.j0 k o a b z) (clashR o a b):=fun z hz g=>by
  rw[hz,g]
  refine ev_step (f:=fun _=>some _) (Ev.now _) (fun k=>?_)
  rw[impl_ClashingHoles.j0,if_pos rfl]
 refine Ev.bind (isSheet_ok o (by omega)) ?_
 cases g0:good o with
 | false=>simp only[Bool.false_eq_true,if_false];exact no true rfl (by simp[clashR,g0])
 | true=>
   simp only[if_true]
   refine Ev.bind (isSheet_ok a (by omega)) ?_
   cases g1:good a with
   | false=>simp only[Bool.false_eq_true,if_false];exact no true rfl (by simp[clashR,g1])
   | true=>
     simp only[if_true]
     refine Ev.bind (isSheet_ok b (by omega)) ?_
     cases g2:good b with
     | false=>exact no _ rfl (by simp[clashR,g2])
     | true=>
       have h1:=good60 g1
       have h2:=good60 g2
       have h4:=less_len a o
       have h:=implClash_l0 o b ho h2 (less a o) [] [] (by simp;omega) (by simp;omega)
       simp only[List.nil_append,List.length_nil,Int.natCast_zero]at h
       refine ev_step (ev_eq h (by simp only[clashR,g0,g1,g2,Bool.and_self,if_true])) (fun k=>?_)
       rw[impl_ClashingHoles.j0,if_neg (by decide),lessHoles_ok a o ha]
       simp only[Option.bind_some]

end Go.Proofs.Ytplpjmhmochcfaa.LFnMergesC
