/- Plain lemmas on what the printed functions of this law compute; each with the conditions that it names. -/
import Derived.Test.YtplpjmhmochcfaaQFnMergesx1
import Derived.Test.YtplpjmhmochcfaaQFnMergesx2
import Derived.Test.YtplpjmhmochcfaaQFnMergesx3
import Derived.Test.YtplpjmhmochcfaaQFnMergesx4
import Derived.Test.YtplpjmhmochcfaaQFnMergesx5
import Derived.Test.YtplpjmhmochcfaaQFnMergesx6
import Derived.Test.YtplpjmhmochcfaaQFnMergesx7
import Derived.Test.YtplpjmhmochcfaaQFnMergesx8
import Derived.Test.YtplpjmhmochcfaaQFnMergesx9
import Derived.Test.YtplpjmhmochcfaaQFnMergesx10
import Derived.Test.YtplpjmhmochcfaaQFnMergesx11
import Derived.Test.YtplpjmhmochcfaaBaseM
namespace Go.Proofs.Ytplpjmhmochcfaa.LFnMergesA
open Go Go.RowKit Go.Proofs.Ytplpjmhmochcfaa.QFnMerges Go.Proofs.YtplpjmhmochcfaaW.PrintWords Go.Proofs.YtplpjmhmochcfaaW.PrintLast Go.Proofs.YtplpjmhmochcfaaW.PrintMore Go.Proofs.Ytplpjmhmochcfaa.Base
set_option linter.unusedVariables false
set_option linter.unusedSimpArgs false

/-! one hole: whether it is valid, its number -/
/-- A valid hole. -/
def holeOk (t a b:Int):Bool:=decide (0≤t∧t≤19∧0≤a∧a≤1999∧a<b∧b≤2000)

theorem shHole_ok (t a b:Int):spec_shHole.f t a b=some (holeOk t a b):=by
 unfold spec_shHole.f spec_l1In.f holeOk
 by_cases h1:0≤t
 · by_cases h2:t≤19
   · by_cases h3:0≤a
     · by_cases h4:a≤1999
       · have hw:wrap64 (a+1)=a+1:=wrapS (by omega) (by omega)
         by_cases h5:a+1≤b
         · simp[h1,h2,h3,h4,hw,h5,show a<b by omega]
         · simp[h1,h2,h3,h4,hw,h5,show ¬a<b by omega]
       · simp[h1,h2,h3,h4]
     · simp[h1,h2,h3]
   · simp[h1,h2]
 · simp[h1]

theorem isHole_ok (t a b:Int):impl_IsHole.f t a b=some (holeOk t a b):=by
 unfold impl_IsHole.f impl_isTrack.f holeOk
 by_cases h1:0≤t
 · by_cases h2:t<20
   · by_cases h3:0≤a
     · by_cases h4:a<b
       · by_cases h5:b≤2000
         · simp[h1,h2,h3,h4,h5,show t≤19 by omega,show a≤1999 by omega]
         · simp[h1,h2,h3,h4,h5]
       · simp[h1,h2,h3,h4]
     · simp[h1,h2,h3]
   · simp[h1,h2,show ¬t≤19 by omega]
 · simp[h1]

theorem holeOk_bounds {t a b:Int} (h:holeOk t a b=true):0≤t∧t≤19∧0≤a∧a≤1999∧a<b∧b≤2000:=by
 simpa [holeOk] using h

/-! slices of holes: copied, held against each other; valid sheets -/
theorem rdH_mid (pre suf:List S42) (x:S42):rd_T42 (pre ++ x :: suf) (pre.length:Int)=x:=getD_mid _ _ _ _ _ (by simp)

/-- The hole x meets the earlier hole y. -/
def meets (x y:S42):Bool:=decide (x.f0=y.f0∧x.f1≤y.f2)
def before (a b:S42):Bool:=decide (a.f1<b.f1∨(a.f1=b.f1∧a.f0<b.f0))
def lastBefore (pre:List S42) (x:S42):Bool:=match pre.getLast? with | none=>true | some p=>before p x
def goodAt (pre:List S42) (x:S42):Bool:=holeOk x.f0 x.f1 x.f2 && (lastBefore pre x && !(pre.any (meets x)))
def goodFrom:List S42→List S42→Bool
 | _, []=>true
 | pre,x :: suf=>goodAt pre x && goodFrom (pre ++ [x]) suf
/-- A valid sheet. -/
def good (l:List S42):Bool:=goodFrom [] l && decide (l.length≤60)

theorem shBefore_ok (a b:S42):spec_shBefore.f a.f0 a.f1 a.f2 b.f0 b.f1 b.f2=some (before a b):=by
 unfold spec_shBefore.f before
 by_cases h:a.f1<b.f1
 · simp[h]
 · by_cases h1:a.f1=b.f1
   · simp[h1]
   · simp[h,h1]
theorem holeLess_ok (a b:S42):impl_holeLess.f a.f0 a.f1 a.f2 b.f0 b.f1 b.f2=some (before a b):=by
 unfold impl_holeLess.f before
 by_cases h1:a.f1=b.f1
 · simp[h1]
 · simp[h1]

theorem shGood_l1 (x:S42) (l:List S42) (n i:Int) (r:Bool) (suf:List S42):∀pre:List S42,(pre ++ suf).length≤9223372036854775806 →
 (suf.any (meets x)=true→r=false)→(suf.any (meets x)=false→Ev (fun k=>spec_shGood.l0 k l l n (wrap64 (i+1))) r) →
 Ev (fun k=>spec_shGood.l1 k l l n i (pre ++ suf) ((pre ++ suf).length:Int) (pre.length:Int) x.f0 x.f1 x.f2) r:=by
 induction suf with
 | nil=>
   intro pre _ _ h
   refine ev_step (h rfl) (fun k=>?_)
   rw[spec_shGood.l1,if_neg (by simp)]
 | cons y suf ih=>
   intro pre hl h1 h2
   have hl':(pre.length:Int)<((pre ++ y :: suf).length:Int):=by simp;omega
   have hw:wrap64 ((pre.length:Int)+1)=(pre.length:Int)+1:=wrapS (by omega) (by simp at hl;omega)
   by_cases hm:meets x y=true
   · have e:r=false:=h1 (by simp[hm])
     subst e
     simp only[meets,decide_eq_true_eq]at hm
     refine ev_step ev_const (fun k=>?_)
     rw[spec_shGood.l1,if_pos hl',if_pos (by omega),if_pos hl',rdH_mid,if_pos hm.1,if_pos hm.2]
   · replace hm:meets x y=false:=by simpa using hm
     have h:=ih (pre ++ [y]) (by simp at hl ⊢;omega) (fun e=>h1 (by simp[e])) (fun e=>h2 (by simp[hm,e]))
     rw[snoc_app,snoc_leni]at h
     simp only[meets,decide_eq_false_iff_not]at hm
     refine ev_step h (fun k=>?_)
     rw[spec_shGood.l1,if_pos hl',if_pos (by omega),if_pos hl',rdH_mid,hw]
     by_cases e:x.f0=y.f0
     · rw[if_pos e,if_neg (fun e2=>hm ⟨e,e2⟩)]
     · rw[if_neg e]

theorem shGood_j1 (x:S42) (pre suf:List S42) (n:Int) (b r:Bool) (hl:(pre ++ suf).length≤9223372036854775806) (hb:b=true→r=false) (h1:b=false→pre.any (meets x)=true→r=false)
 (h2:b=false→pre.any (meets x)=false→Ev (fun k=>spec_shGood.l0 k (pre ++ suf) (pre ++ suf) n (wrap64 ((pre.length:Int)+1))) r) :
 Ev (fun k=>spec_shGood.j1 k (pre ++ suf) (pre.length:Int) (pre ++ suf) n (pre.length:Int) b x.f0 x.f1 x.f2) r:=by
 cases b with
 | true=>
   obtain rfl:=hb rfl
   refine ev_step ev_const (fun k=>?_)
   rw[spec_shGood.j1,if_pos rfl]
 | false=>
   have h:=shGood_l1 x (pre ++ suf) n (pre.length:Int) r pre [] (by simp at hl ⊢;omega) (h1 rfl) (h2 rfl)
   refine ev_step h (fun k=>?_)
   rw[spec_shGood.j1,if_neg (by decide),if_pos (by omega),if_pos (by simp;omega)]
   simp

theorem shGood_l0 (suf:List S42):∀pre:List S42,(pre ++ suf).length≤9223372036854775806 →
 Ev (fun k=>spec_shGood.l0 k (pre ++ suf) (pre ++ suf) ((pre ++ suf).length:Int) (pre.length:Int)) (goodFrom pre suf && decide ((pre ++ suf).length≤60)):=by
 induction suf with
 | nil=>
   intro pre _
   refine ev_step (Ev.now _) (fun k=>?_)
   rw[spec_shGood.l0,if_neg (by simp)]
   simp[goodFrom]
   omega
 | cons x suf ih=>
   intro pre hl
   have h:=ih (pre ++ [x]) (by simp at hl ⊢;omega)
   rw[snoc_app,snoc_leni]at h
   have hl':(pre.length:Int)<((pre ++ x :: suf).length:Int):=by simp;omega
   have hw:wrap64 ((pre.length:Int)+1)=(pre.length:Int)+1:=wrapS (by omega) (by simp at hl;omega)
   have J:∀b,(b = !(holeOk x.f0 x.f1 x.f2 && lastBefore pre x))→Ev (fun k=>spec_shGood.j1 k (pre ++ x :: suf) (pre.length:Int) (pre ++ x :: suf) ((pre ++ x :: suf).length:Int) (pre.length:Int) b x.f0 x.f1 x.f2) (goodFrom pre (x :: suf) && decide ((pre ++ x :: suf).length≤60)):=by
    intro b hb
    refine shGood_j1 x pre (x :: suf) _ b _ hl (fun e=>?_) (fun e e2=>?_) (fun e e2=>?_)
    · simp only[goodFrom,goodAt]
      cases h1:holeOk x.f0 x.f1 x.f2<;>cases h2:lastBefore pre x<;>simp_all
    · simp[goodFrom,goodAt,e2]
    · rw[hw]
      have e3:goodFrom pre (x :: suf)=goodFrom (pre ++ [x]) suf:=by
       simp only[goodFrom,goodAt,e2]
       cases h1:holeOk x.f0 x.f1 x.f2<;>cases h2:lastBefore pre x<;>simp_all
      rw[e3]
      exact h
   cases ho:holeOk x.f0 x.f1 x.f2 with
   | false=>
     refine ev_step (J true (by simp[ho])) (fun k=>?_)
     rw[spec_shGood.l0,if_pos hl',if_pos (by omega),if_pos hl',rdH_mid,shHole_ok,ho]
     simp
   | true=>
     rcases List.eq_nil_or_concat pre with rfl | ⟨pre',p,rfl⟩
     · refine ev_step (J false (by simp[ho,lastBefore])) (fun k=>?_)
       rw[spec_shGood.l0,if_pos hl',if_pos (by omega),if_pos hl',rdH_mid,shHole_ok,ho]
       simp
     · refine ev_step (J (!(before p x)) (by simp[ho,lastBefore])) (fun k=>?_)
       have e1:((pre' ++ [p]).length:Int)=(pre'.length:Int)+1:=by simp
       have hw2:wrap64 (((pre' ++ [p]).length:Int)-1)=(pre'.length:Int):=by
        rw[e1,wrapS (by omega) (by simp at hl;omega)];omega
       have e2:rd_T42 (pre' ++ [p] ++ x :: suf) (pre'.length:Int)=p:=by
        rw[snoc_app];exact rdH_mid _ _ _
       rw[spec_shGood.l0,if_pos hl',if_pos (by omega),if_pos hl',rdH_mid,shHole_ok,ho]
       simp only[List.concat_eq_append]at *
       simp only[Option.bind_some,if_true]
       rw[if_pos (by omega),hw2,if_pos (by omega),if_pos (by simp;omega),e2,shBefore_ok]
       simp only[Option.bind_some]

theorem shGood_ok (l:List S42) (h:l.length≤9223372036854775806):Ev (fun k=>spec_shGood.f k l) (good l):=
 Ev.congr (fun _=>rfl) (shGood_l0 l [] (by simpa using h))

theorem isSheet_l1 (x:S42) (l:List S42) (n i:Int) (r:Bool) (suf:List S42):∀pre:List S42,(pre ++ suf).length≤9223372036854775806 →
 (suf.any (meets x)=true→r=false)→(suf.any (meets x)=false→Ev (fun k=>impl_IsSheet.l0 k l l n (wrap64 (i+1))) r) →
 Ev (fun k=>impl_IsSheet.l1 k l l n i (pre ++ suf) ((pre ++ suf).length:Int) (pre.length:Int) x.f0 x.f1 x.f2) r:=by
 induction suf with
 | nil=>
   intro pre _ _ h
   refine ev_step (h rfl) (fun k=>?_)
   rw[impl_IsSheet.l1,if_neg (by simp)]
 | cons y suf ih=>
   intro pre hl h1 h2
   have hl':(pre.length:Int)<((pre ++ y :: suf).length:Int):=by simp;omega
   have hw:wrap64 ((pre.length:Int)+1)=(pre.length:Int)+1:=wrapS (by omega) (by simp at hl;omega)
   by_cases hm:meets x y=true
   · have e:r=false:=h1 (by simp[hm])
     subst e
     simp only[meets,decide_eq_true_eq]at hm
     refine ev_step ev_const (fun k=>?_)
     rw[impl_IsSheet.l1,if_pos hl',if_pos (by omega),if_pos hl',rdH_mid,if_pos hm.1.symm,if_pos hm.2]
   · replace hm:meets x y=false:=by simpa using hm
     have h:=ih (pre ++ [y]) (by simp at hl ⊢;omega) (fun e=>h1 (by simp[e])) (fun e=>h2 (by simp[hm,e]))
     rw[snoc_app,snoc_leni]at h
     simp only[meets,decide_eq_false_iff_not]at hm
     refine ev_step h (fun k=>?_)
     rw[impl_IsSheet.l1,if_pos hl',if_pos (by omega),if_pos hl',rdH_mid,hw]
     by_cases e:x.f0=y.f0
     · rw[if_pos e.symm,if_neg (fun e2=>hm ⟨e,e2⟩)]
     · rw[if_neg (fun e2=>e e2.symm)]

theorem isSheet_j1 (x:S42) (pre suf:List S42) (n:Int) (b r:Bool) (hl:(pre ++ suf).length≤9223372036854775806) (hb:b=true→r=false) (h1:b=false→pre.any (meets x)=true→r=false)
 (h2:b=false→pre.any (meets x)=false→Ev (fun k=>impl_IsSheet.l0 k (pre ++ suf) (pre ++ suf) n (wrap64 ((pre.length:Int)+1))) r) :
 Ev (fun k=>impl_IsSheet.j1 k (pre ++ suf) (pre.length:Int) (pre ++ suf) n (pre.length:Int) b x.f0 x.f1 x.f2) r:=by
 cases b with
 | true=>
   obtain rfl:=hb rfl
   refine ev_step ev_const (fun k=>?_)
   rw[impl_IsSheet.j1,if_pos rfl]
 | false=>
   have h:=isSheet_l1 x (pre ++ suf) n (pre.length:Int) r pre [] (by simp at hl ⊢;omega) (h1 rfl) (h2 rfl)
   refine ev_step h (fun k=>?_)
   rw[impl_IsSheet.j1,if_neg (by decide),if_pos (by omega),if_pos (by simp;omega)]
   simp

theorem isSheet_l0 (suf:List S42):∀pre:List S42,(pre ++ suf).length≤9223372036854775806 →
 Ev (fun k=>impl_IsSheet.l0 k (pre ++ suf) (pre ++ suf) ((pre ++ suf).length:Int) (pre.length:Int)) (goodFrom pre suf):=by
 induction suf with
 | nil=>
   intro pre _
   refine ev_step (Ev.now _) (fun k=>?_)
   rw[impl_IsSheet.l0,if_neg (by simp)]
   simp[goodFrom]
 | cons x suf ih=>
   intro pre hl
   have h:=ih (pre ++ [x]) (by simp at hl ⊢;omega)
   rw[snoc_app,snoc_leni]at h
   have hl':(pre.length:Int)<((pre ++ x :: suf).length:Int):=by simp;omega
   have hw:wrap64 ((pre.length:Int)+1)=(pre.length:Int)+1:=wrapS (by omega) (by simp at hl;omega)
   have J:∀b,(b = !(holeOk x.f0 x.f1 x.f2 && lastBefore pre x))→Ev (fun k=>impl_IsSheet.j1 k (pre ++ x :: suf) (pre.length:Int) (pre ++ x :: suf) ((pre ++ x :: suf).length:Int) (pre.length:Int) b x.f0 x.f1 x.f2) (goodFrom pre (x :: suf)):=by
    intro b hb
    refine isSheet_j1 x pre (x :: suf) _ b _ hl (fun e=>?_) (fun e e2=>?_) (fun e e2=>?_)
    · simp only[goodFrom,goodAt]
      cases h1:holeOk x.f0 x.f1 x.f2<;>cases h2:lastBefore pre x<;>simp_all
    · simp[goodFrom,goodAt,e2]
    · rw[hw]
      have e3:goodFrom pre (x :: suf)=goodFrom (pre ++ [x]) suf:=by
       simp only[goodFrom,goodAt,e2]
       cases h1:holeOk x.f0 x.f1 x.f2<;>cases h2:lastBefore pre x<;>simp_all
      rw[e3]
      exact h
   cases ho:holeOk x.f0 x.f1 x.f2 with
   | false=>
     refine ev_step (J true (by simp[ho])) (fun k=>?_)
     rw[impl_IsSheet.l0,if_pos hl',if_pos (by omega),if_pos hl',rdH_mid,isHole_ok,ho]
     simp
   | true=>
     rcases List.eq_nil_or_concat pre with rfl | ⟨pre',p,rfl⟩
     · refine ev_step (J false (by simp[ho,lastBefore])) (fun k=>?_)
       rw[impl_IsSheet.l0,if_pos hl',if_pos (by omega),if_pos hl',rdH_mid,isHole_ok,ho]
       simp
     · refine ev_step (J (!(before p x)) (by simp[ho,lastBefore])) (fun k=>?_)
       have e1:((pre' ++ [p]).length:Int)=(pre'.length:Int)+1:=by simp
       have hw2:wrap64 (((pre' ++ [p]).length:Int)-1)=(pre'.length:Int):=by
        rw[e1,wrapS (by omega) (by simp at hl;omega)];omega
       have e2:rd_T42 (pre' ++ [p] ++ x :: suf) (pre'.length:Int)=p:=by
        rw[snoc_app];exact rdH_mid _ _ _
       rw[impl_IsSheet.l0,if_pos hl',if_pos (by omega),if_pos hl',rdH_mid,isHole_ok,ho]
       simp only[List.concat_eq_append]at *
       simp only[Option.bind_some,if_true]
       rw[if_pos (by omega),hw2,if_pos (by omega),if_pos (by simp;omega),e2,holeLess_ok]
       simp only[Option.bind_some]

theorem isSheet_ok (l:List S42) (h:l.length≤9223372036854775806):Ev (fun k=>impl_IsSheet.f k l) (good l):=by
 by_cases h6:(l.length:Int)>60
 · refine Ev.congr (f:=fun _=>some (good l)) (fun k=>?_) ev_const
   rw[impl_IsSheet.f,if_pos h6]
   have:¬l.length≤60:=by omega
   simp[good,this]
 · refine Ev.congr (fun k=>?_) (ev_eq (isSheet_l0 l [] (by simpa using h)) ?_)
   · rw[impl_IsSheet.f,if_neg h6]
     rfl
   · have:l.length≤60:=by omega
     simp[good,this]

/-! holes that are in one slice and not in the other -/
def sameH (x y:S42):Bool:=x.f0 == y.f0 && (x.f1 == y.f1 && (x.f2 == y.f2))
def hasH (l:List S42) (x:S42):Bool:=l.any (sameH x)
def less (l b:List S42):List S42:=l.filter fun x=> !hasH b x
theorem sameH_eq (x y:S42):sameH x y=true↔x=y:=by
 obtain⟨a,b,c⟩:=x
 obtain⟨d,e,f⟩:=y
 simp[sameH]
theorem hasH_mem (l:List S42) (x:S42):hasH l x=true↔x∈l:=by
 simp only[hasH,List.any_eq_true]
 constructor
 · rintro⟨y,hy,h⟩;rw[(sameH_eq x y).1 h];exact hy
 · intro h;exact⟨x,h,(sameH_eq x x).2 rfl⟩
theorem less_len (l b:List S42):(less l b).length≤l.length:=List.length_filter_le _ _
theorem mgHas_l0 (x:S42) (suf:List S42):∀pre:List S42,(pre ++ suf).length≤1048576 →
 Ev (fun k=>spec_mgHas.l0 k (pre ++ suf) ((pre ++ suf).length:Int) (pre.length:Int) x.f0 x.f1 x.f2) (hasH suf x):=by
 induction suf with
 | nil=>
   intro pre _
   refine ev_step (f:=fun _=>some _) (Ev.now _) (fun k=>?_)
   rw[spec_mgHas.l0,if_neg (by simp)];rfl
 | cons y suf ih=>
   intro pre hl
   have hlp:pre.length≤1048576:=by simp at hl;omega
   have h:=ih (pre ++ [y]) (by simp at hl ⊢;omega)
   rw[snoc_app,snoc_leni]at h
   have hl':(pre.length:Int)<((pre ++ y :: suf).length:Int):=by simp;omega
   have hw:wrap64 ((pre.length:Int)+1)=(pre.length:Int)+1:=wrapS (by omega) (by omega)
   cases c:sameH x y with
   | true=>
     refine ev_step (f:=fun _=>some _) (Ev.now _) (fun k=>?_)
     rw[spec_mgHas.l0,if_pos hl',if_pos (by omega),if_pos hl',rdH_mid,if_pos (show(x.f0 == y.f0 && (x.f1 == y.f1 && (x.f2 == y.f2)))=true from c)]
     simp[hasH,c]
   | false=>
     refine ev_step (ev_eq h (by simp[hasH,c])) (fun k=>?_)
     rw[spec_mgHas.l0,if_pos hl',if_pos (by omega),if_pos hl',rdH_mid,if_neg (by rw[show(x.f0 == y.f0 && (x.f1 == y.f1 && (x.f2 == y.f2)))=false from c];decide),hw]
theorem mgHas_ok (l:List S42) (x:S42) (h:l.length≤1048576):Ev (fun k=>spec_mgHas.f k l x.f0 x.f1 x.f2) (hasH l x):=
 Ev.congr (f:=fun k=>spec_mgHas.l0 k l (l.length:Int) 0 x.f0 x.f1 x.f2) (fun _=>rfl) (mgHas_l0 x l [] (by simpa using h))
theorem mgLess_l0 (b:List S42) (hb:b.length≤1048576) (suf:List S42):∀(pre out:List S42),(pre ++ suf).length≤1048576→out.length≤pre.length →
 Ev (fun k=>spec_mgLess.l0 k b out (pre ++ suf) ((pre ++ suf).length:Int) (pre.length:Int)) (out ++ less suf b):=by
 induction suf with
 | nil=>
   intro pre out _ _
   refine ev_step (f:=fun _=>some _) (Ev.now _) (fun k=>?_)
   rw[spec_mgLess.l0,if_neg (by simp)];simp[less]
 | cons x suf ih=>
   intro pre out hl ho
   have hlp:pre.length≤1048576:=by simp at hl;omega
   have hl':(pre.length:Int)<((pre ++ x :: suf).length:Int):=by simp;omega
   have hw:wrap64 ((pre.length:Int)+1)=(pre.length:Int)+1:=wrapS (by omega) (by omega)
   obtain⟨K1,e1⟩:=mgHas_ok b x hb
   have h:=ih (pre ++ [x]) (if hasH b x=true then out else out ++ [x]) (by simp at hl ⊢;omega) (by split<;>simp<;>omega)
   rw[snoc_app,snoc_leni]at h
   obtain⟨K2,e2⟩:=h
   dsimp only at e1 e2
   refine⟨K1+K2+1,fun k hk=>?_⟩
   obtain⟨m,rfl⟩:∃m,k=m+1:=⟨k-1,by omega⟩
   dsimp only
   rw[spec_mgLess.l0,if_pos hl',if_pos (by omega),if_pos hl',rdH_mid,e1 m (by omega)]
   simp only[Option.bind_some]
   rw[if_pos (show out.length<5864062014805 by omega),hw]
   have e3:=e2 m (by omega)
   cases c:hasH b x with
   | true=>rw[c]at e3;simp only[if_true]at e3 ⊢;rw[e3];simp[less,c]
   | false=>rw[c]at e3;simp only[Bool.false_eq_true,if_false]at e3 ⊢;rw[e3];simp[less,c]
theorem mgLess_ok (l b:List S42) (h:l.length≤1048576) (hb:b.length≤1048576):Ev (fun k=>spec_mgLess.f k l b) (less l b):=
 Ev.congr (f:=fun k=>spec_mgLess.l0 k b [] l (l.length:Int) 0) (fun _=>rfl) (ev_eq (mgLess_l0 b hb l [] [] (by simpa using h) (by simp)) (by simp))

theorem lessHoles_ok (l b:List S42) (h:l.length≤1048576):impl_lessHoles.f l b=some (less l b):=by
 rw[impl_lessHoles.f,if_pos (by omega)];rfl

theorem mgTwo_ok (a b:List S42) (ha:a.length≤1048576) (hb:b.length≤1048576):Ev (fun k=>spec_mgTwo.f k a b) (good a && good b):=by
 obtain⟨K1,e1⟩:=shGood_ok a (by omega)
 obtain⟨K2,e2⟩:=shGood_ok b (by omega)
 dsimp only at e1 e2
 refine⟨K1+K2,fun k hk=>?_⟩
 dsimp only
 rw[spec_mgTwo.f,e1 k (by omega),e2 k (by omega)]
 cases good a<;>cases good b<;>rfl

/-! holes put in order -/
def srt (l:List S42):List S42:=impl_sheetOf.srt l
/-- The sheet of holes, if there is one. -/
def sortedR (l:List S42):List S42×Bool:=if good (srt l)=true then(srt l,true) else([],false)
theorem srt_perm (l:List S42):(srt l).Perm l:=(impl_sheetOf.srt_sorts l).1
theorem srt_len (l:List S42):(srt l).length=l.length:=(srt_perm l).length_eq
theorem goodFrom_eq (suf:List S42):∀pre,impl_sheetOf.goodFrom pre suf=goodFrom pre suf:=by
 induction suf with
 | nil=>intro _;rfl
 | cons x suf ih=>
   intro pre
   rw[impl_sheetOf.goodFrom,goodFrom,ih]
   rfl
theorem good_eq (l:List S42):impl_sheetOf.good l=good l:=by
 rw[impl_sheetOf.good,good,goodFrom_eq]
theorem good_strict (l:List S42) (h:good l=true):impl_sheetOf.strict l=true:=impl_sheetOf.good_strict l (by rw[good_eq];exact h)
theorem good_len (l:List S42) (h:good l=true):l.length≤60:=by
 simp only[good,Bool.and_eq_true,decide_eq_true_eq]at h;exact h.2
theorem sheetOf_ok (l:List S42) (h:l.length≤9000000):Ev (fun k=>impl_sheetOf.f k l) (sortedR l):=by
 have hs:=srt_len l
 by_cases h6:(l.length:Int)>60
 · refine ev_of_eq (fun k=>?_)
   rw[impl_sheetOf.f,if_pos h6,sortedR,if_neg]
   intro g
   have:=good_len _ g
   omega
 · by_cases c:impl_sheetOf.strict (impl_sheetOf.srt l)=true
   · obtain⟨K,e⟩:=isSheet_ok (srt l) (by omega)
     refine⟨K,fun k hk=>?_⟩
     have e1:=e k hk
     dsimp only at e1 ⊢
     rw[impl_sheetOf.f,if_neg h6,if_pos c,show impl_IsSheet.f k (impl_sheetOf.srt l)=some (good (srt l)) from e1,sortedR]
     simp only[Option.bind_some]
     by_cases g:good (srt l)=true
     · rw[if_pos g,if_pos g];rfl
     · rw[if_neg g,if_neg g]
   · refine ev_of_eq (fun k=>?_)
     rw[impl_sheetOf.f,if_neg h6,if_neg c,sortedR,if_neg]
     exact fun g=>c (good_strict _ g)
theorem ins_app (x:S42) (B:List S42) (hB:∀b∈B,before x b=true):∀A:List S42,(∀a∈A,before x a=false)→impl_sheetOf.ins x (A ++ B)=A ++ x :: B
 | [],_=>by
   cases B with
   | nil=>rfl
   | cons b B=>rw[List.nil_append,impl_sheetOf.ins,if_pos (show impl_sheetOf.lt x b=true from hB b List.mem_cons_self)];rfl
 | a :: A,h=>by
   rw[List.cons_append,impl_sheetOf.ins,if_neg (by rw[show impl_sheetOf.lt x a=before x a from rfl,h a List.mem_cons_self];decide),ins_app x B hB A (fun a ha=>h a (List.mem_cons_of_mem _ ha))];rfl
theorem shSorted_put (k:Nat) (x:S42) (A B l:List S42) (n i:Int) (hl:(A ++ B).length≤4000000) :
 ((some (([]:List S42):List S42)).bind fun y=>(if 0≤(A.length:Int) then(if(A.length:Int)≤((A ++ B).length:Int) then((some ((A ++ B).take ((A.length:Int)).toNat:List S42)).bind fun y1=>(if y.length+y1.length<5864062014805 then((some (y ++ y1:List S42)).bind fun y2=>((some (([(⟨x.f0,x.f1,x.f2⟩:S42)]:List S42):List S42)).bind fun y3=>(if y2.length+y3.length<5864062014805 then((some (y2 ++ y3:List S42)).bind fun y4=>((some ((A ++ B).drop ((A.length:Int)).toNat:List S42)).bind fun y5=>(if y4.length+y5.length<5864062014805 then(spec_shSorted.l0 k (y4 ++ y5) l n (wrap64 (i+1))) else(none)))) else(none)))) else(none))) else(none)) else(none)))
   = spec_shSorted.l0 k (A ++ x :: B) l n (wrap64 (i+1)):=by
 have h1:(A ++ B).take ((A.length:Int)).toNat=A:=by simp
 have h2:(A ++ B).drop ((A.length:Int)).toNat=B:=by simp
 simp only[List.length_append]at hl
 simp only[Option.bind_some,h1,h2]
 rw[if_pos (by omega),if_pos (by rw[List.length_append];omega),if_pos (by simp;omega),if_pos (by simp;omega),if_pos (by simp;omega)]
 simp
theorem shSorted_l1 (x:S42) (l:List S42) (n i:Int) (r:List S42×Bool) (R:List S42):∀B:List S42,(R.reverse ++ B).length≤4000000→(∀b∈B,before x b=true)→(R.reverse ++ B).Pairwise (fun a b=>before b a=false) →
 Ev (fun k=>spec_shSorted.l0 k (impl_sheetOf.ins x (R.reverse ++ B)) l n (wrap64 (i+1))) r →
 Ev (fun k=>spec_shSorted.l1 k (R.reverse ++ B) (R.length:Int) l n i x.f0 x.f1 x.f2) r:=by
 induction R with
 | nil=>
   intro B hl hB hs h
   rw[ins_app x B hB ([]:List S42).reverse (by simp)]at h
   refine ev_step h (fun k=>?_)
   have e:=shSorted_put k x ([]:List S42).reverse B l n i hl
   rw[spec_shSorted.l1,if_neg (by simp)]
   exact e
 | cons a R ih=>
   intro B hl hB hs h
   have hlr:(a :: R).reverse.length=R.length+1:=by simp
   have hl2:=hl
   simp only[List.length_append]at hl2
   have e0:(a :: R).reverse ++ B=R.reverse ++ a :: B:=by simp
   have hw:wrap64 ((((a :: R).length:Nat):Int)-1)=(R.length:Int):=by
    show wrap64 (((R.length+1:Nat):Int)-1)=_
    rw[wrapS (by omega) (by omega)];omega
   have e1:rd_T42 ((a :: R).reverse ++ B) (R.length:Int)=a:=by
    have:=rdH_mid R.reverse B a
    rw[List.length_reverse]at this
    rw[e0];exact this
   cases c:before x a with
   | true=>
     have h2:=ih (a :: B) (by rw[← e0];exact hl) (fun b hb=>(List.mem_cons.1 hb).elim (fun e=>by rw[e];exact c) (hB b)) (by rw[← e0];exact hs) (by rw[← e0];exact h)
     refine ev_step h2 (fun k=>?_)
     rw[spec_shSorted.l1,if_pos (by simp),hw,if_pos (by omega),if_pos (by simp;omega),e1,shBefore_ok,c]
     simp only[Option.bind_some,if_true]
     rw[e0]
   | false=>
     have hA:∀y∈(a :: R).reverse,before x y=false:=by
      intro y hy
      rw[List.reverse_cons,List.mem_append,List.mem_singleton]at hy
      rcases hy with hy | rfl
      · have h3:before a y=false:=by
         rw[e0]at hs
         exact(List.pairwise_append.1 hs).2.2 y hy a List.mem_cons_self
        exact impl_sheetOf.swo.ntrans x a y c h3
      · exact c
     rw[ins_app x B hB _ hA]at h
     refine ev_step h (fun k=>?_)
     have e:=shSorted_put k x (a :: R).reverse B l n i hl
     rw[List.length_reverse]at e
     rw[spec_shSorted.l1,if_pos (by simp),hw,if_pos (by omega),if_pos (by simp;omega),e1,shBefore_ok,c]
     simp only[Option.bind_some,Bool.false_eq_true,if_false]at e ⊢
     exact e
theorem ins_len (x:S42) (l:List S42):(impl_sheetOf.ins x l).length=l.length+1:=by
 rw[(impl_sheetOf.ins_perm x l).length_eq];rfl
theorem shSorted_l0 (suf:List S42):∀(pre out:List S42),(pre ++ suf).length≤4000000→out.length=pre.length→out.Pairwise (fun a b=>before b a=false) →
 Ev (fun k=>spec_shSorted.l0 k out (pre ++ suf) ((pre ++ suf).length:Int) (pre.length:Int)) (if good (suf.foldl (fun o x=>impl_sheetOf.ins x o) out)=true then(suf.foldl (fun o x=>impl_sheetOf.ins x o) out,true) else([],false)):=by
 induction suf with
 | nil=>
   intro pre out hl ho hs
   have hp:pre.length≤4000000:=by simpa using hl
   obtain⟨K,e⟩:=shGood_ok out (by omega)
   refine⟨K+1,fun k hk=>?_⟩
   obtain⟨m,rfl⟩:∃m,k=m+1:=⟨k-1,by omega⟩
   have e1:=e m (by omega)
   dsimp only at e1 ⊢
   rw[spec_shSorted.l0,if_neg (by simp),e1]
   show(if good out=true then some (out,true) else some ([],false))=some (if good out=true then(out,true) else([],false))
   cases good out<;>rfl
 | cons x suf ih=>
   intro pre out hl ho hs
   have hlp:pre.length+1≤4000000:=by simp at hl;omega
   have hl':(pre.length:Int)<((pre ++ x :: suf).length:Int):=by simp;omega
   have hw:wrap64 ((pre.length:Int)+1)=(pre.length:Int)+1:=wrapS (by omega) (by omega)
   have h:=ih (pre ++ [x]) (impl_sheetOf.ins x out) (by simp at hl ⊢;omega) (by rw[ins_len];simp;omega) (impl_sheetOf.ins_sorted x out hs)
   rw[snoc_app,snoc_leni, ← hw]at h
   have h2:=shSorted_l1 x (pre ++ x :: suf) ((pre ++ x :: suf).length:Int) (pre.length:Int) _ out.reverse [] (by simp;omega) (by simp) (by simpa using hs) (by simpa using h)
   simp only[List.reverse_reverse,List.append_nil,List.length_reverse]at h2
   refine ev_step h2 (fun k=>?_)
   rw[spec_shSorted.l0,if_pos hl',if_pos (by omega),if_pos hl',rdH_mid]
theorem shSorted_ok (l:List S42) (h:l.length≤4000000):Ev (fun k=>spec_shSorted.f k l) (sortedR l):=
 Ev.congr (f:=fun k=>spec_shSorted.l0 k [] l (l.length:Int) 0) (fun _=>rfl) (shSorted_l0 l [] [] (by simpa using h) rfl List.Pairwise.nil)
theorem sortedR_len (l:List S42):(sortedR l).1.length≤60:=by
 unfold sortedR
 by_cases c:good (srt l)=true
 · rw[if_pos c];exact good_len _ c
 · rw[if_neg c];simp

/-! two sheets merged -/
def kept (o a b:List S42):List S42:=o.filter fun x=>hasH a x && hasH b x
theorem kept_len (o a b:List S42):(kept o a b).length≤o.length:=List.length_filter_le _ _
theorem mgKept_l0 (a b:List S42) (ha:a.length≤1048576) (hb:b.length≤1048576) (suf:List S42):∀(pre out:List S42),(pre ++ suf).length≤1048576→out.length≤pre.length →
 Ev (fun k=>spec_mgKept.l0 k a b out (pre ++ suf) ((pre ++ suf).length:Int) (pre.length:Int)) (out ++ kept suf a b):=by
 induction suf with
 | nil=>
   intro pre out _ _
   refine ev_step (f:=fun _=>some _) (Ev.now _) (fun k=>?_)
   rw[spec_mgKept.l0,if_neg (by simp)];simp[kept]
 | cons x suf ih=>
   intro pre out hl ho
   have hlp:pre.length≤1048576:=by simp at hl;omega
   have hl':(pre.length:Int)<((pre ++ x :: suf).length:Int):=by simp;omega
   have hw:wrap64 ((pre.length:Int)+1)=(pre.length:Int)+1:=wrapS (by omega) (by omega)
   obtain⟨K1,e1⟩:=mgHas_ok a x ha
   obtain⟨K2,e2⟩:=mgHas_ok b x hb
   have h:=ih (pre ++ [x]) (if(hasH a x && hasH b x)=true then out ++ [x] else out) (by simp at hl ⊢;omega) (by split<;>simp<;>omega)
   rw[snoc_app,snoc_leni]at h
   obtain⟨K3,e3⟩:=h
   refine⟨K1+K2+K3+1,fun k hk=>?_⟩
   obtain⟨m,rfl⟩:∃m,k=m+1:=⟨k-1,by omega⟩
   have f1:=e1 m (by omega)
   have f2:=e2 m (by omega)
   have f3:=e3 m (by omega)
   dsimp only at f1 f2 f3 ⊢
   rw[spec_mgKept.l0,if_pos hl',if_pos (by omega),if_pos hl',rdH_mid,f1,hw]
   cases c:hasH a x with
   | false=>
     rw[c]at f3
     simp only[Bool.false_and,Bool.false_eq_true,if_false,Option.bind_some]at f3 ⊢
     rw[f3];simp[kept,c]
   | true=>
     simp only[if_true,Option.bind_some]
     rw[f2]
     cases d:hasH b x with
     | false=>
       rw[c,d]at f3
       simp only[Bool.and_false,Bool.false_eq_true,if_false,Option.bind_some]at f3 ⊢
       rw[f3];simp[kept,d]
     | true=>
       rw[c,d]at f3
       simp only[Bool.and_true,if_true,Option.bind_some]at f3 ⊢
       rw[if_pos (show out.length<5864062014805 by omega),f3];simp[kept,c,d]
theorem mgKept_ok (o a b:List S42) (ho:o.length≤1048576) (ha:a.length≤1048576) (hb:b.length≤1048576):Ev (fun k=>spec_mgKept.f k o a b) (kept o a b):=
 Ev.congr (f:=fun k=>spec_mgKept.l0 k a b [] o (o.length:Int) 0) (fun _=>rfl) (by simpa using mgKept_l0 a b ha hb o [] [] (by simpa using ho) (by simp))
theorem mgThree_ok (o a b:List S42) (ho:o.length≤1048576) (ha:a.length≤1048576) (hb:b.length≤1048576):Ev (fun k=>spec_mgThree.f k o a b) (good o && (good a && good b)):=by
 obtain⟨K1,e1⟩:=shGood_ok o (by omega)
 obtain⟨K2,e2⟩:=mgTwo_ok a b ha hb
 refine⟨K1+K2,fun k hk=>?_⟩
 have f1:=e1 k (by omega)
 have f2:=e2 k (by omega)
 dsimp only at f1 f2 ⊢
 rw[spec_mgThree.f,f1,f2]
 cases good o<;>rfl
theorem hasH_app (l r:List S42) (x:S42):hasH (l ++ r) x=(hasH l x || hasH r x):=by simp[hasH]
/-- What a merge takes from both sides first. -/
def firstA (o a b:List S42):List S42:=kept o a b ++ less a o
/-- And what it takes then. -/
def moreB (o a b:List S42):List S42:=less (less b o) a
theorem firstA_len (o a b:List S42):(firstA o a b).length≤o.length+a.length:=by
 have:=kept_len o a b
 have:=less_len a o
 simp only[firstA,List.length_append];omega
theorem moreB_len (o a b:List S42):(moreB o a b).length≤b.length:=Nat.le_trans (less_len _ _) (less_len _ _)
theorem hasH_less (a o:List S42) (x:S42) (h:hasH o x=false):hasH (less a o) x=hasH a x:=by
 rw[Bool.eq_iff_iff,hasH_mem,hasH_mem,less,List.mem_filter]
 constructor
 · exact fun q=>q.1
 · exact fun q=>⟨q,by rw[h];rfl⟩
theorem hasH_kept (o a b:List S42) (x:S42) (h:hasH o x=false):hasH (kept o a b) x=false:=by
 cases c:hasH (kept o a b) x with
 | false=>rfl
 | true=>
   rw[hasH_mem,kept,List.mem_filter]at c
   have:=(hasH_mem o x).2 c.1
   rw[h]at this;cases this
/-- The program leaves out what it has already taken; the reference what the first sheet has: the same holes. -/
theorem more_eq (o a b:List S42):less (less b o) (firstA o a b)=moreB o a b:=by
 unfold moreB
 show(less b o).filter (fun x=> !hasH (firstA o a b) x)=(less b o).filter (fun x=> !hasH a x)
 refine List.filter_congr (fun x hx=>?_)
 have ho:hasH o x=false:=by
  have:=(List.mem_filter.1 hx).2
  simpa using this
 rw[firstA,hasH_app,hasH_kept o a b x ho,hasH_less a o x ho];rfl
theorem shared_kept (o a b:List S42):((o.filter fun x=> !impl_sharedHoles.out a x).filter fun x=> !impl_sharedHoles.out b x)=kept o a b:=by
 rw[List.filter_filter,kept]
 refine List.filter_congr (fun x _=>?_)
 have e:∀l:List S42,(!impl_sharedHoles.out l x)=hasH l x:=fun l=>by
  show(!!hasH l x)=hasH l x
  simp
 rw[e,e,Bool.and_comm]
theorem firstMerged_ok (o a b:List S42) (ho:o.length≤1048576) (ha:a.length≤1048576) (hb:b.length≤1048576):impl_firstMerged.f o a b=some (firstA o a b,moreB o a b):=by
 have h1:=List.length_filter_le (fun x=> !impl_sharedHoles.out a x) o
 have h2:=kept_len o a b
 have h3:=less_len a o
 have h4:=less_len b o
 rw[impl_firstMerged.f,impl_sharedHoles.f,if_pos (by omega)]
 simp only[Option.bind_some]
 rw[impl_sharedHoles.f,if_pos (by omega)]
 simp only[Option.bind_some]
 rw[shared_kept,lessHoles_ok a o ha]
 simp only[Option.bind_some]
 rw[if_pos (by omega),lessHoles_ok b o hb]
 simp only[Option.bind_some]
 rw[lessHoles_ok (less b o) _ (by omega),show less (less b o) (kept o a b ++ less a o)=moreB o a b from more_eq o a b]
 rfl

/-! the merge as a whole -/
def mergeR (o a b:List S42):List S42×Bool:=if(good o && (good a && good b))=true then sortedR (firstA o a b ++ moreB o a b) else([],false)
theorem mergeR_len (o a b:List S42):(mergeR o a b).1.length≤60:=by
 unfold mergeR
 split
 · exact sortedR_len _
 · simp
theorem specMerge_ok (o a b:List S42) (ho:o.length≤1048576) (ha:a.length≤1048576) (hb:b.length≤1048576):Ev (fun k=>spec_MergeSheets.f k o a b) (mergeR o a b):=by
 have h1:=firstA_len o a b
 have h2:=moreB_len o a b
 have h3:=less_len b o
 have h4:=less_len a o
 have h5:=kept_len o a b
 obtain⟨K1,e1⟩:=mgThree_ok o a b ho ha hb
 obtain⟨K2,e2⟩:=mgKept_ok o a b ho ha hb
 obtain⟨K3,e3⟩:=mgLess_ok a o ha ho
 obtain⟨K4,e4⟩:=mgLess_ok b o hb ho
 obtain⟨K5,e5⟩:=mgLess_ok (less b o) a (by omega) ha
 obtain⟨K6,e6⟩:=shSorted_ok (firstA o a b ++ moreB o a b) (by simp;omega)
 refine⟨K1+K2+K3+K4+K5+K6,fun k hk=>?_⟩
 have f1:=e1 k (by omega)
 have f2:=e2 k (by omega)
 have f3:=e3 k (by omega)
 have f4:=e4 k (by omega)
 have f5:=e5 k (by omega)
 have f6:=e6 k (by omega)
 dsimp only at f1 f2 f3 f4 f5 f6 ⊢
 have hx:(kept o a b ++ less a o).length=(firstA o a b).length:=rfl
 have g6:spec_shSorted.f k (kept o a b ++ less a o ++ less (less b o) a)=some (sortedR (firstA o a b ++ moreB o a b)):=f6
 rw[spec_MergeSheets.f,f1]
 unfold mergeR
 cases hg:(good o && (good a && good b))
 · rfl
 · have m1:(kept o a b).length+(less a o).length<5864062014805:=by omega
   have m2:(kept o a b ++ less a o).length+(less (less b o) a).length<5864062014805:=by have:(less (less b o) a).length≤_:=h2;omega
   simp only[if_true,Option.bind_some,f2,f3,m1,f4,f5,m2,g6]
theorem implMerge_ok (o a b:List S42) (ho:o.length≤1048576) (ha:a.length≤1048576) (hb:b.length≤1048576):Ev (fun k=>impl_MergeSheets.f k o a b) (mergeR o a b):=by
 have h1:=firstA_len o a b
 have h2:=moreB_len o a b
 obtain⟨K1,e1⟩:=isSheet_ok o (by omega)
 obtain⟨K2,e2⟩:=isSheet_ok a (by omega)
 obtain⟨K3,e3⟩:=isSheet_ok b (by omega)
 obtain⟨K4,e4⟩:=sheetOf_ok (firstA o a b ++ moreB o a b) (by simp;omega)
 refine⟨K1+K2+K3+K4+1,fun k hk=>?_⟩
 obtain⟨m,rfl⟩:∃m,k=m+1:=⟨k-1,by omega⟩
 have f1:=e1 (m+1) (by omega)
 have f2:=e2 (m+1) (by omega)
 have f3:=e3 (m+1) (by omega)
 have f4:=e4 m (by omega)
 dsimp only at f1 f2 f3 f4 ⊢
 have j1:impl_MergeSheets.j0 (m+1) o a b true=some ([],false):=by rw[impl_MergeSheets.j0,if_pos rfl]
 have m1:(firstA o a b).length+(moreB o a b).length<5864062014805:=by omega
 have j2:impl_MergeSheets.j0 (m+1) o a b false=some (sortedR (firstA o a b ++ moreB o a b)):=by
  rw[impl_MergeSheets.j0,if_neg (by decide),firstMerged_ok o a b ho ha hb]
  simp only[Option.bind_some,m1,if_true,f4]
 rw[impl_MergeSheets.f,f1,f2,f3]
 unfold mergeR
 cases good o
 · exact j1
 · cases good a
   · exact j1
   · cases good b
     · exact j1
     · exact j2

/-! sheets, said pair by pair; holes of a sheet are a sheet -/
def okR (y x:S42):Prop:=before y x=true∧meets x y=false
theorem before_trans (a b c:S42) (h1:before a b=true) (h2:before b c=true):before a c=true:=impl_sheetOf.swo.trans a b c h1 h2
theorem goodFrom_iff (suf:List S42):∀pre:List S42,pre.Pairwise okR→(goodFrom pre suf=true↔(∀x∈suf,holeOk x.f0 x.f1 x.f2=true)∧(pre ++ suf).Pairwise okR):=by
 induction suf with
 | nil=>intro pre hp;simp[goodFrom,hp]
 | cons x suf ih=>
   intro pre hp
   have key:(lastBefore pre x && !(pre.any (meets x)))=true↔∀y∈pre,okR y x:=by
    rw[Bool.and_eq_true]
    constructor
    · rintro⟨h1,h2⟩ y hy
      have h3:meets x y=false:=by
       rw[Bool.not_eq_true',List.any_eq_false]at h2
       simpa using h2 y hy
      refine⟨?_,h3⟩
      rcases List.eq_nil_or_concat pre with rfl | ⟨pre',p,rfl⟩
      · cases hy
      · rw[List.concat_eq_append]at h1 hy hp
        simp only[lastBefore,List.getLast?_append,List.getLast?_singleton,Option.or]at h1
        rcases List.mem_append.1 hy with hy | hy
        · exact before_trans _ _ _ ((List.pairwise_append.1 hp).2.2 y hy p (by simp)).1 h1
        · rw[List.mem_singleton.1 hy];exact h1
    · intro h
      refine⟨?_,?_⟩
      · rcases List.eq_nil_or_concat pre with rfl | ⟨pre',p,rfl⟩
        · rfl
        · rw[List.concat_eq_append]at h ⊢
          simp only[lastBefore,List.getLast?_append,List.getLast?_singleton,Option.or]
          exact(h p (by simp)).1
      · rw[Bool.not_eq_true',List.any_eq_false]
        intro y hy
        rw[(h y hy).2];decide
   rw[goodFrom,Bool.and_eq_true,goodAt,Bool.and_eq_true,key]
   constructor
   · rintro⟨⟨h1,h2⟩,h3⟩
     have hp2:(pre ++ [x]).Pairwise okR:=List.pairwise_append.2 ⟨hp,by simp,fun y hy z hz=>by rw[List.mem_singleton.1 hz];exact h2 y hy⟩
     obtain⟨h4,h5⟩:=(ih (pre ++ [x]) hp2).1 h3
     refine⟨fun z hz=>?_,by rw[snoc_app]at h5;exact h5⟩
     rcases List.mem_cons.1 hz with rfl | hz
     · exact h1
     · exact h4 z hz
   · rintro⟨h1,h2⟩
     rw[← snoc_app]at h2
     have hp2:=(List.pairwise_append.1 h2).1
     refine⟨⟨h1 x List.mem_cons_self,fun y hy=>(List.pairwise_append.1 hp2).2.2 y hy x (by simp)⟩,(ih (pre ++ [x]) hp2).2 ⟨fun z hz=>h1 z (List.mem_cons_of_mem _ hz),h2⟩⟩
theorem good_iff (l:List S42):good l=true↔(∀x∈l,holeOk x.f0 x.f1 x.f2=true)∧l.Pairwise okR∧l.length≤60:=by
 rw[good,Bool.and_eq_true,goodFrom_iff l [] List.Pairwise.nil,decide_eq_true_eq,List.nil_append,and_assoc]
theorem pair_two {R:S42→S42→Prop} : ∀(l:List S42),l.Pairwise R→∀u∈l,∀v∈l,u=v∨R u v∨R v u
 | [],_,u,hu,_,_=>by cases hu
 | x :: l,h,u,hu,v,hv=>by
   have hx:=fun z hz=>List.rel_of_pairwise_cons h (a':=z) hz
   rcases List.mem_cons.1 hu with e1 | h1
   · rcases List.mem_cons.1 hv with e2 | h2
     · exact .inl (e1.trans e2.symm)
     · exact .inr (.inl (by rw[e1];exact hx v h2))
   · rcases List.mem_cons.1 hv with e2 | h2
     · exact .inr (.inr (by rw[e2];exact hx u h1))
     · exact pair_two l (List.Pairwise.of_cons h) u h1 v h2
theorem nodup_len:∀(c a:List S42),c.Nodup→(∀x∈c,x∈a)→c.length≤a.length
 | [],_,_,_=>Nat.zero_le _
 | x :: c,a,hn,hs=>by
   have hx:=hs x List.mem_cons_self
   obtain⟨s,t,rfl⟩:=List.append_of_mem hx
   have h:=nodup_len c (s ++ t) (List.nodup_cons.1 hn).2 (fun y hy=>by
    have h1:=hs y (List.mem_cons_of_mem _ hy)
    rcases List.mem_append.1 h1 with h1 | h1
    · exact List.mem_append.2 (.inl h1)
    · rcases List.mem_cons.1 h1 with rfl | h1
      · exact absurd hy (List.nodup_cons.1 hn).1
      · exact List.mem_append.2 (.inr h1))
   simp only[List.length_append,List.length_cons]at h ⊢
   omega
theorem good_nodup (a:List S42) (h:good a=true):a.Nodup:=by
 have:=((good_iff a).1 h).2.1
 exact this.imp (fun {y x} hr e=>by subst e;have:=hr.1;rw[show before y y=false from impl_sheetOf.swo.irrefl y]at this;cases this)
/-- Holes of a sheet, each once, put in order, are a sheet. -/
theorem good_sub (a c:List S42) (h:good a=true) (hn:c.Nodup) (hs:∀x∈c,x∈a):good (srt c)=true:=by
 obtain⟨h1,h2,h3⟩:=(good_iff a).1 h
 have hp:=srt_perm c
 have ho:(srt c).Pairwise (fun y x=>before x y=false):=(impl_sheetOf.srt_sorts c).2
 have hN:(srt c).Nodup:=hp.nodup_iff.2 hn
 refine(good_iff _).2 ⟨fun x hx=>h1 x (hs x (hp.mem_iff.1 hx)),?_,by rw[srt_len];exact Nat.le_trans (nodup_len c a hn hs) h3⟩
 refine List.Pairwise.imp_of_mem ?_ (List.Pairwise.and ho hN)
 intro y x hy hx hr
 rcases pair_two a h2 y (hs y (hp.mem_iff.1 hy)) x (hs x (hp.mem_iff.1 hx)) with e | e | e
 · exact absurd e hr.2
 · exact e
 · have:=e.1;rw[hr.1]at this;cases this
/-- What is a sheet's holes in another order, put in order, is the sheet. -/
theorem srt_of_perm (a c:List S42) (h:good a=true) (hp:c.Perm a):srt c=a:=
 impl_sheetOf.unique (srt c) a ((srt_perm c).trans hp) (impl_sheetOf.srt_sorts c).2 (((good_iff a).1 h).2.1.imp (fun hr=>hr.1))
theorem less_nodup (a b:List S42) (h:a.Nodup):(less a b).Nodup:=h.filter _
theorem mem_less (a b:List S42) (x:S42):x∈less a b↔x∈a∧x ∉ b:=by
 rw[less,List.mem_filter,Bool.not_eq_true', ← Bool.not_eq_true,hasH_mem]

/-! two sheets merged, hole by hole -/
theorem mem_kept (o a b:List S42) (x:S42):x∈kept o a b↔x∈o∧x∈a∧x∈b:=by
 rw[kept,List.mem_filter,Bool.and_eq_true,hasH_mem,hasH_mem]
theorem firstA_nodup (o a b:List S42) (ho:good o=true) (ha:good a=true):(firstA o a b).Nodup:=by
 refine List.nodup_append.2 ⟨(good_nodup o ho).filter _,less_nodup a o (good_nodup a ha),?_⟩
 intro x hx y hy e
 subst e
 exact((mem_less a o x).1 hy).2 ((mem_kept o a b x).1 hx).1
theorem firstA_sub (o a b:List S42):∀x∈firstA o a b,x∈a:=by
 intro x hx
 rcases List.mem_append.1 hx with h | h
 · exact((mem_kept o a b x).1 h).2.1
 · exact((mem_less a o x).1 h).1
theorem firstA_good (o a b:List S42) (ho:good o=true) (ha:good a=true):good (srt (firstA o a b))=true:=good_sub a _ ha (firstA_nodup o a b ho ha) (firstA_sub o a b)
def putH (s:List S42×Nat) (x:S42):List S42×Nat:=if good (srt (s.1 ++ [x]))=true then(srt (s.1 ++ [x]),s.2) else(s.1,s.2+1)
theorem putH_len (s:List S42×Nat) (x:S42) (h:s.1.length≤60):(putH s x).1.length≤60∧(putH s x).2≤s.2+1:=by
 unfold putH
 by_cases c:good (srt (s.1 ++ [x]))=true
 · rw[if_pos c];exact⟨good_len _ c,Nat.le_succ _⟩
 · rw[if_neg c];exact⟨h,Nat.le_refl _⟩
def firstR (o a b:List S42):List S42×Int×Bool:=if(good o && (good a && good b))=true then(((moreB o a b).foldl putH (srt (firstA o a b),0)).1,(((moreB o a b).foldl putH (srt (firstA o a b),0)).2:Int),true) else([],0,false)
theorem foldPut_len (l:List S42):∀s:List S42×Nat,s.1.length≤60→(l.foldl putH s).1.length≤60:=by
 induction l with
 | nil=>intro s h;exact h
 | cons x l ih=>intro s h;exact ih _ (putH_len s x h).1
theorem firstR_len (o a b:List S42):(firstR o a b).1.length≤60:=by
 unfold firstR
 by_cases c:(good o && (good a && good b))=true
 · rw[if_pos c]
   simp only[Bool.and_eq_true]at c
   exact foldPut_len _ _ (good_len _ (firstA_good o a b c.1 c.2.1))
 · rw[if_neg c];simp
theorem shWith_ok (l:List S42) (x:S42) (h:l.length≤60):Ev (fun k=>spec_shWith.f k l x.f0 x.f1 x.f2) (sortedR (l ++ [x])):=by
 obtain⟨K,e⟩:=shSorted_ok (l ++ [x]) (by simp;omega)
 refine⟨K,fun k hk=>?_⟩
 have f:=e k hk
 dsimp only at f ⊢
 have m1:(([]:List S42).length+l.length)<5864062014805:=by simp;omega
 have m2:(([] ++ l:List S42).length+([(⟨x.f0,x.f1,x.f2⟩:S42)]:List S42).length)<5864062014805:=by simp;omega
 rw[spec_shWith.f]
 simp only[Option.bind_some,m1,m2,if_true]
 rw[List.nil_append,show(l ++ [(⟨x.f0,x.f1,x.f2⟩:S42)])=l ++ [x] from rfl,f]
 rfl
theorem specFirst_l0 (suf:List S42):∀(pre:List S42) (s:List S42×Nat),(pre ++ suf).length≤1048576→s.1.length≤60→s.2≤pre.length →
 Ev (fun k=>spec_MergeFirst.l0 k s.1 (s.2:Int) (pre ++ suf) ((pre ++ suf).length:Int) (pre.length:Int)) ((suf.foldl putH s).1,((suf.foldl putH s).2:Int),true):=by
 induction suf with
 | nil=>
   intro pre s _ _ _
   refine ev_step (f:=fun _=>some _) (Ev.now _) (fun k=>?_)
   rw[spec_MergeFirst.l0,if_neg (by simp)];rfl
 | cons x suf ih=>
   intro pre s hl hs hc
   have hlp:pre.length+1≤1048576:=by simp at hl;omega
   have hl':(pre.length:Int)<((pre ++ x :: suf).length:Int):=by simp;omega
   have hw:wrap64 ((pre.length:Int)+1)=(pre.length:Int)+1:=wrapS (by omega) (by omega)
   have hw2:wrap64 ((s.2:Int)+1)=((s.2+1:Nat):Int):=by rw[wrapS (by omega) (by omega)];omega
   obtain⟨K1,e1⟩:=shWith_ok s.1 x hs
   have hq:=putH_len s x hs
   have h:=ih (pre ++ [x]) (putH s x) (by simp at hl ⊢;omega) hq.1 (by simp;omega)
   rw[snoc_app,snoc_leni]at h
   obtain⟨K2,e2⟩:=h
   refine⟨K1+K2+1,fun k hk=>?_⟩
   obtain⟨m,rfl⟩:∃m,k=m+1:=⟨k-1,by omega⟩
   have f1:=e1 m (by omega)
   have f2:=e2 m (by omega)
   dsimp only at f1 f2 ⊢
   rw[spec_MergeFirst.l0,if_pos hl',if_pos (by omega),if_pos hl',rdH_mid,f1,hw,hw2]
   show _=some (((suf.foldl putH (putH s x)).1,((suf.foldl putH (putH s x)).2:Int),true))
   by_cases c:good (srt (s.1 ++ [x]))=true
   · have e:putH s x=(srt (s.1 ++ [x]),s.2):=if_pos c
     rw[e]at f2 ⊢
     simp only[sortedR,if_pos c,Option.bind_some,if_true]
     exact f2
   · have e:putH s x=(s.1,s.2+1):=if_neg c
     rw[e]at f2 ⊢
     simp only[sortedR,if_neg c,Option.bind_some,Bool.false_eq_true,if_false]
     exact f2
theorem implFirst_l0 (suf:List S42):∀(pre:List S42) (s:List S42×Nat),(pre ++ suf).length≤1048576→s.1.length≤60→s.2≤pre.length →
 Ev (fun k=>impl_MergeFirst.l0 k s.1 (s.2:Int) (pre ++ suf) ((pre ++ suf).length:Int) (pre.length:Int)) ((suf.foldl putH s).1,((suf.foldl putH s).2:Int),true):=by
 induction suf with
 | nil=>
   intro pre s _ _ _
   refine ev_step (f:=fun _=>some _) (Ev.now _) (fun k=>?_)
   rw[impl_MergeFirst.l0,if_neg (by simp)];rfl
 | cons x suf ih=>
   intro pre s hl hs hc
   have hlp:pre.length+1≤1048576:=by simp at hl;omega
   have hl':(pre.length:Int)<((pre ++ x :: suf).length:Int):=by simp;omega
   have hw:wrap64 ((pre.length:Int)+1)=(pre.length:Int)+1:=wrapS (by omega) (by omega)
   have hw2:wrap64 ((s.2:Int)+1)=((s.2+1:Nat):Int):=by rw[wrapS (by omega) (by omega)];omega
   obtain⟨K1,e1⟩:=sheetOf_ok (s.1 ++ [x]) (by simp;omega)
   have hq:=putH_len s x hs
   have h:=ih (pre ++ [x]) (putH s x) (by simp at hl ⊢;omega) hq.1 (by simp;omega)
   rw[snoc_app,snoc_leni]at h
   obtain⟨K2,e2⟩:=h
   refine⟨K1+K2+1,fun k hk=>?_⟩
   obtain⟨m,rfl⟩:∃m,k=m+1:=⟨k-1,by omega⟩
   have f1:=e1 m (by omega)
   have f2:=e2 m (by omega)
   dsimp only at f1 f2 ⊢
   have hcl:impl_Hole_66.f s.1=some s.1:=if_pos (by omega)
   have m1:(s.1.length+([(⟨x.f0,x.f1,x.f2⟩:S42)]:List S42).length)<5864062014805:=by simp;omega
   rw[impl_MergeFirst.l0,if_pos hl',if_pos (by omega),if_pos hl',rdH_mid,hcl,hw,hw2]
   simp only[Option.bind_some]
   rw[if_pos m1,show(s.1 ++ [(⟨x.f0,x.f1,x.f2⟩:S42)])=s.1 ++ [x] from rfl,f1]
   show _=some (((suf.foldl putH (putH s x)).1,((suf.foldl putH (putH s x)).2:Int),true))
   by_cases c:good (srt (s.1 ++ [x]))=true
   · have e:putH s x=(srt (s.1 ++ [x]),s.2):=if_pos c
     rw[e]at f2 ⊢
     simp only[sortedR,if_pos c,Option.bind_some,if_true]
     exact f2
   · have e:putH s x=(s.1,s.2+1):=if_neg c
     rw[e]at f2 ⊢
     simp only[sortedR,if_neg c,Option.bind_some,Bool.false_eq_true,if_false]
     exact f2
theorem specFirst_ok (o a b:List S42) (ho:o.length≤1048576) (ha:a.length≤1048576) (hb:b.length≤1048576):Ev (fun k=>spec_MergeFirst.f k o a b) (firstR o a b):=by
 have h1:=firstA_len o a b
 have h2:=moreB_len o a b
 have h3:=less_len b o
 have h4:=less_len a o
 have h5:=kept_len o a b
 obtain⟨K1,e1⟩:=mgThree_ok o a b ho ha hb
 cases hg:(good o && (good a && good b))
 · refine⟨K1,fun k hk=>?_⟩
   have f1:=e1 k hk
   dsimp only at f1 ⊢
   rw[spec_MergeFirst.f,f1,hg,firstR,hg];rfl
 · have hg2:=hg
   simp only[Bool.and_eq_true]at hg2
   have hG:=firstA_good o a b hg2.1 hg2.2.1
   obtain⟨K2,e2⟩:=mgKept_ok o a b ho ha hb
   obtain⟨K3,e3⟩:=mgLess_ok a o ha ho
   obtain⟨K4,e4⟩:=mgLess_ok b o hb ho
   obtain⟨K5,e5⟩:=mgLess_ok (less b o) a (by omega) ha
   obtain⟨K6,e6⟩:=shSorted_ok (firstA o a b) (by omega)
   obtain⟨K7,e7⟩:=specFirst_l0 (moreB o a b) [] (srt (firstA o a b),0) (by simp;omega) (good_len _ hG) (by simp)
   refine⟨K1+K2+K3+K4+K5+K6+K7,fun k hk=>?_⟩
   have f1:=e1 k (by omega)
   have f2:=e2 k (by omega)
   have f3:=e3 k (by omega)
   have f4:=e4 k (by omega)
   have f5:=e5 k (by omega)
   have f6:=e6 k (by omega)
   have f7:=e7 k (by omega)
   dsimp only at f1 f2 f3 f4 f5 f6 f7 ⊢
   simp only[List.nil_append,List.length_nil,Int.natCast_zero]at f7
   have g6:spec_shSorted.f k (kept o a b ++ less a o)=some (srt (firstA o a b),true):=by
    rw[show(kept o a b ++ less a o)=firstA o a b from rfl,f6,sortedR,if_pos hG]
   have m1:(kept o a b).length+(less a o).length<5864062014805:=by omega
   have g7:spec_MergeFirst.l0 k (srt (firstA o a b)) 0 (less (less b o) a) ((less (less b o) a).length:Int) 0=some (((moreB o a b).foldl putH (srt (firstA o a b),0)).1,(((moreB o a b).foldl putH (srt (firstA o a b),0)).2:Int),true):=f7
   rw[spec_MergeFirst.f,f1,hg,firstR,hg]
   simp only[if_true,Option.bind_some,f2,f3,m1,g6,f4,f5,g7]
theorem implFirst_ok (o a b:List S42) (ho:o.length≤1048576) (ha:a.length≤1048576) (hb:b.length≤1048576):Ev (fun k=>impl_MergeFirst.f k o a b) (firstR o a b):=by
 have h1:=firstA_len o a b
 have h2:=moreB_len o a b
 obtain⟨K1,e1⟩:=isSheet_ok o (by omega)
 obtain⟨K2,e2⟩:=isSheet_ok a (by omega)
 obtain⟨K3,e3⟩:=isSheet_ok b (by omega)
 cases hg:(good o && (good a && good b))
 · refine⟨K1+K2+K3+1,fun k hk=>?_⟩
   obtain⟨m,rfl⟩:∃m,k=m+1:=⟨k-1,by omega⟩
   have f1:=e1 (m+1) (by omega)
   have f2:=e2 (m+1) (by omega)
   have f3:=e3 (m+1) (by omega)
   dsimp only at f1 f2 f3 ⊢
   have j1:impl_MergeFirst.j0 (m+1) o a b true=some ([],0,false):=by rw[impl_MergeFirst.j0,if_pos rfl]
   rw[impl_MergeFirst.f,f1,f2,f3,firstR,hg]
   revert hg
   cases good o
   · intro _;exact j1
   · cases good a
     · intro _;exact j1
     · cases good b
       · intro _;exact j1
       · intro hg;cases hg
 · have hg2:=hg
   simp only[Bool.and_eq_true]at hg2
   have hG:=firstA_good o a b hg2.1 hg2.2.1
   obtain⟨K6,e6⟩:=sheetOf_ok (firstA o a b) (by omega)
   obtain⟨K7,e7⟩:=implFirst_l0 (moreB o a b) [] (srt (firstA o a b),0) (by simp;omega) (good_len _ hG) (by simp)
   refine⟨K1+K2+K3+K6+K7+1,fun k hk=>?_⟩
   obtain⟨m,rfl⟩:∃m,k=m+1:=⟨k-1,by omega⟩
   have f1:=e1 (m+1) (by omega)
   have f2:=e2 (m+1) (by omega)
   have f3:=e3 (m+1) (by omega)
   have f6:=e6 m (by omega)
   have f7:=e7 m (by omega)
   dsimp only at f1 f2 f3 f6 f7 ⊢
   simp only[List.nil_append,List.length_nil,Int.natCast_zero]at f7
   have g6:impl_sheetOf.f m (firstA o a b)=some (srt (firstA o a b),true):=by rw[f6,sortedR,if_pos hG]
   have j2:impl_MergeFirst.j0 (m+1) o a b false=some (((moreB o a b).foldl putH (srt (firstA o a b),0)).1,(((moreB o a b).foldl putH (srt (firstA o a b),0)).2:Int),true):=by
    rw[impl_MergeFirst.j0,if_neg (by decide),firstMerged_ok o a b ho ha hb]
    simp only[Option.bind_some,g6,if_true]
    exact f7
   rw[impl_MergeFirst.f,f1,f2,f3,firstR,hg,hg2.1,hg2.2.1,hg2.2.2]
   exact j2

end Go.Proofs.Ytplpjmhmochcfaa.LFnMergesA
