/- Plain lemmas on what the printed functions of this law compute; each with the conditions that it names. -/
import Derived.Test.YtplpjmhmochcfaaGreatQFnDifferencesx2
import Derived.Test.YtplpjmhmochcfaaGreatQFnDifferencesx3
import Derived.Test.YtplpjmhmochcfaaGreatQFnDifferencesx4
import Derived.Test.YtplpjmhmochcfaaGreatQFnDifferencesx5
import Derived.Test.YtplpjmhmochcfaaGreatQFnDifferencesx7
import Derived.Test.YtplpjmhmochcfaaGreatQFnDifferencesx8
import Derived.Test.YtplpjmhmochcfaaGreatQFnDifferencesx9
import Derived.Test.YtplpjmhmochcfaaGreatQFnDifferencesx10
import Derived.Test.YtplpjmhmochcfaaGreatQFnDifferencesx11
import Derived.Test.YtplpjmhmochcfaaGreatQFnDifferencesx12
import Derived.Test.YtplpjmhmochcfaaGreatQFnDifferencesx13
import Derived.Test.YtplpjmhmochcfaaGreatQFnDifferencesx14
import Derived.Test.YtplpjmhmochcfaaGreatQFnDifferencesx15
import Derived.Test.YtplpjmhmochcfaaGreatQFnDifferencesx16
import Derived.Test.YtplpjmhmochcfaaGreatBaseD
namespace Go.Proofs.YtplpjmhmochcfaaGreat.LFnDifferencesA
open Go Go.RowKit Go.Proofs.YtplpjmhmochcfaaGreat.QFnDifferences Go.Proofs.YtplpjmhmochcfaaGreatW.PrintWords Go.Proofs.YtplpjmhmochcfaaGreatW.PrintLast Go.Proofs.YtplpjmhmochcfaaGreatW.PrintMore Go.Proofs.YtplpjmhmochcfaaGreat.Base
set_option linter.unusedVariables false
set_option linter.unusedSimpArgs false

/-- A valid hole. -/
def holeOk (t a b:Int):Bool:=decide (0≤t∧t≤19∧0≤a∧a≤1999∧a<b∧b≤2000)

theorem shHole_ok (t a b:Int):spec_shHole.f t a b=some (holeOk t a b):=by
 unfold spec_shHole.f spec_l1In.f holeOk
 by_cases h1:0≤t
 · by_cases h2:t≤19
   · by_cases h3:0≤a
     · by_cases h4:a≤1999
       · have hw:wrap64 (a+1)=a+1:=wrapS (by omega) (by omega)
         by_cases h5:a+1≤b
         · simp[h1,h2,h3,h4,hw,h5,show a<b by omega]
         · simp[h1,h2,h3,h4,hw,h5,show ¬a<b by omega]
       · simp[h1,h2,h3,h4]
     · simp[h1,h2,h3]
   · simp[h1,h2]
 · simp[h1]

theorem isHole_ok (t a b:Int):impl_IsHole.f t a b=some (holeOk t a b):=by
 unfold impl_IsHole.f impl_isTrack.f holeOk
 by_cases h1:0≤t
 · by_cases h2:t<20
   · by_cases h3:0≤a
     · by_cases h4:a<b
       · by_cases h5:b≤2000
         · simp[h1,h2,h3,h4,h5,show t≤19 by omega,show a≤1999 by omega]
         · simp[h1,h2,h3,h4,h5]
       · simp[h1,h2,h3,h4]
     · simp[h1,h2,h3]
   · simp[h1,h2,show ¬t≤19 by omega]
 · simp[h1]

theorem rdH_mid (pre suf:List S40) (x:S40):rd_T40 (pre ++ x :: suf) (pre.length:Int)=x:=getD_mid _ _ _ _ _ (by simp)

/-- The hole x meets the earlier hole y. -/
def meets (x y:S40):Bool:=decide (x.f0=y.f0∧x.f1≤y.f2)
def before (a b:S40):Bool:=decide (a.f1<b.f1∨(a.f1=b.f1∧a.f0<b.f0))
def lastBefore (pre:List S40) (x:S40):Bool:=match pre.getLast? with | none=>true | some p=>before p x
def goodAt (pre:List S40) (x:S40):Bool:=holeOk x.f0 x.f1 x.f2 && (lastBefore pre x && !(pre.any (meets x)))
def goodFrom:List S40→List S40→Bool
 | _, []=>true
 | pre,x :: suf=>goodAt pre x && goodFrom (pre ++ [x]) suf
/-- A valid sheet. -/
def good (l:List S40):Bool:=goodFrom [] l && decide (l.length≤60)

theorem shBefore_ok (a b:S40):spec_shBefore.f a.f0 a.f1 a.f2 b.f0 b.f1 b.f2=some (before a b):=by
 unfold spec_shBefore.f before
 by_cases h:a.f1<b.f1
 · simp[h]
 · by_cases h1:a.f1=b.f1
   · simp[h1]
   · simp[h,h1]
theorem holeLess_ok (a b:S40):impl_holeLess.f a.f0 a.f1 a.f2 b.f0 b.f1 b.f2=some (before a b):=by
 unfold impl_holeLess.f before
 by_cases h1:a.f1=b.f1
 · simp[h1]
 · simp[h1]

theorem shGood_l1 (x:S40) (l:List S40) (n i:Int) (r:Bool) (suf:List S40):∀pre:List S40,(pre ++ suf).length≤9223372036854775806 →
 (suf.any (meets x)=true→r=false)→(suf.any (meets x)=false→Ev (fun k=>spec_shGood.l0 k l l n (wrap64 (i+1))) r) →
 Ev (fun k=>spec_shGood.l1 k l l n i (pre ++ suf) ((pre ++ suf).length:Int) (pre.length:Int) x.f0 x.f1 x.f2) r:=by
 induction suf with
 | nil=>
   intro pre _ _ h
   refine ev_step (h rfl) (fun k=>?_)
   rw[spec_shGood.l1,if_neg (by simp)]
 | cons y suf ih=>
   intro pre hl h1 h2
   have hl':(pre.length:Int)<((pre ++ y :: suf).length:Int):=by simp;omega
   have hw:wrap64 ((pre.length:Int)+1)=(pre.length:Int)+1:=wrapS (by omega) (by simp at hl;omega)
   by_cases hm:meets x y=true
   · have e:r=false:=h1 (by simp[hm])
     subst e
     simp only[meets,decide_eq_true_eq]at hm
     refine ev_step ev_const (fun k=>?_)
     rw[spec_shGood.l1,if_pos hl',if_pos (by omega),if_pos hl',rdH_mid,if_pos hm.1,if_pos hm.2]
   · replace hm:meets x y=false:=by simpa using hm
     have h:=ih (pre ++ [y]) (by simp at hl ⊢;omega) (fun e=>h1 (by simp[e])) (fun e=>h2 (by simp[hm,e]))
     rw[snoc_app,snoc_leni]at h
     simp only[meets,decide_eq_false_iff_not]at hm
     refine ev_step h (fun k=>?_)
     rw[spec_shGood.l1,if_pos hl',if_pos (by omega),if_pos hl',rdH_mid,hw]
     by_cases e:x.f0=y.f0
     · rw[if_pos e,if_neg (fun e2=>hm ⟨e,e2⟩)]
     · rw[if_neg e]

theorem shGood_j1 (x:S40) (pre suf:List S40) (n:Int) (b r:Bool) (hl:(pre ++ suf).length≤9223372036854775806) (hb:b=true→r=false) (h1:b=false→pre.any (meets x)=true→r=false)
 (h2:b=false→pre.any (meets x)=false→Ev (fun k=>spec_shGood.l0 k (pre ++ suf) (pre ++ suf) n (wrap64 ((pre.length:Int)+1))) r) :
 Ev (fun k=>spec_shGood.j1 k (pre ++ suf) (pre.length:Int) (pre ++ suf) n (pre.length:Int) b x.f0 x.f1 x.f2) r:=by
 cases b with
 | true=>
   obtain rfl:=hb rfl
   refine ev_step ev_const (fun k=>?_)
   rw[spec_shGood.j1,if_pos rfl]
 | false=>
   have h:=shGood_l1 x (pre ++ suf) n (pre.length:Int) r pre [] (by simp at hl ⊢;omega) (h1 rfl) (h2 rfl)
   refine ev_step h (fun k=>?_)
   rw[spec_shGood.j1,if_neg (by decide),if_pos (by omega),if_pos (by simp;omega)]
   simp

theorem shGood_l0 (suf:List S40):∀pre:List S40,(pre ++ suf).length≤9223372036854775806 →
 Ev (fun k=>spec_shGood.l0 k (pre ++ suf) (pre ++ suf) ((pre ++ suf).length:Int) (pre.length:Int)) (goodFrom pre suf && decide ((pre ++ suf).length≤60)):=by
 induction suf with
 | nil=>
   intro pre _
   refine ev_step (Ev.now _) (fun k=>?_)
   rw[spec_shGood.l0,if_neg (by simp)]
   simp[goodFrom]
   omega
 | cons x suf ih=>
   intro pre hl
   have h:=ih (pre ++ [x]) (by simp at hl ⊢;omega)
   rw[snoc_app,snoc_leni]at h
   have hl':(pre.length:Int)<((pre ++ x :: suf).length:Int):=by simp;omega
   have hw:wrap64 ((pre.length:Int)+1)=(pre.length:Int)+1:=wrapS (by omega) (by simp at hl;omega)
   have J:∀b,(b = !(holeOk x.f0 x.f1 x.f2 && lastBefore pre x))→Ev (fun k=>spec_shGood.j1 k (pre ++ x :: suf) (pre.length:Int) (pre ++ x :: suf) ((pre ++ x :: suf).length:Int) (pre.length:Int) b x.f0 x.f1 x.f2) (goodFrom pre (x :: suf) && decide ((pre ++ x :: suf).length≤60)):=by
    intro b hb
    refine shGood_j1 x pre (x :: suf) _ b _ hl (fun e=>?_) (fun e e2=>?_) (fun e e2=>?_)
    · simp only[goodFrom,goodAt]
      cases h1:holeOk x.f0 x.f1 x.f2<;>cases h2:lastBefore pre x<;>simp_all
    · simp[goodFrom,goodAt,e2]
    · rw[hw]
      have e3:goodFrom pre (x :: suf)=goodFrom (pre ++ [x]) suf:=by
       simp only[goodFrom,goodAt,e2]
       cases h1:holeOk x.f0 x.f1 x.f2<;>cases h2:lastBefore pre x<;>simp_all
      rw[e3]
      exact h
   cases ho:holeOk x.f0 x.f1 x.f2 with
   | false=>
     refine ev_step (J true (by simp[ho])) (fun k=>?_)
     rw[spec_shGood.l0,if_pos hl',if_pos (by omega),if_pos hl',rdH_mid,shHole_ok,ho]
     simp
   | true=>
     rcases List.eq_nil_or_concat pre with rfl | ⟨pre',p,rfl⟩
     · refine ev_step (J false (by simp[ho,lastBefore])) (fun k=>?_)
       rw[spec_shGood.l0,if_pos hl',if_pos (by omega),if_pos hl',rdH_mid,shHole_ok,ho]
       simp
     · refine ev_step (J (!(before p x)) (by simp[ho,lastBefore])) (fun k=>?_)
       have e1:((pre' ++ [p]).length:Int)=(pre'.length:Int)+1:=by simp
       have hw2:wrap64 (((pre' ++ [p]).length:Int)-1)=(pre'.length:Int):=by
        rw[e1,wrapS (by omega) (by simp at hl;omega)];omega
       have e2:rd_T40 (pre' ++ [p] ++ x :: suf) (pre'.length:Int)=p:=by
        rw[snoc_app];exact rdH_mid _ _ _
       rw[spec_shGood.l0,if_pos hl',if_pos (by omega),if_pos hl',rdH_mid,shHole_ok,ho]
       simp only[List.concat_eq_append]at *
       simp only[Option.bind_some,if_true]
       rw[if_pos (by omega),hw2,if_pos (by omega),if_pos (by simp;omega),e2,shBefore_ok]
       simp only[Option.bind_some]

theorem shGood_ok (l:List S40) (h:l.length≤9223372036854775806):Ev (fun k=>spec_shGood.f k l) (good l):=
 Ev.congr (fun _=>rfl) (shGood_l0 l [] (by simpa using h))

theorem isSheet_l1 (x:S40) (l:List S40) (n i:Int) (r:Bool) (suf:List S40):∀pre:List S40,(pre ++ suf).length≤9223372036854775806 →
 (suf.any (meets x)=true→r=false)→(suf.any (meets x)=false→Ev (fun k=>impl_IsSheet.l0 k l l n (wrap64 (i+1))) r) →
 Ev (fun k=>impl_IsSheet.l1 k l l n i (pre ++ suf) ((pre ++ suf).length:Int) (pre.length:Int) x.f0 x.f1 x.f2) r:=by
 induction suf with
 | nil=>
   intro pre _ _ h
   refine ev_step (h rfl) (fun k=>?_)
   rw[impl_IsSheet.l1,if_neg (by simp)]
 | cons y suf ih=>
   intro pre hl h1 h2
   have hl':(pre.length:Int)<((pre ++ y :: suf).length:Int):=by simp;omega
   have hw:wrap64 ((pre.length:Int)+1)=(pre.length:Int)+1:=wrapS (by omega) (by simp at hl;omega)
   by_cases hm:meets x y=true
   · have e:r=false:=h1 (by simp[hm])
     subst e
     simp only[meets,decide_eq_true_eq]at hm
     refine ev_step ev_const (fun k=>?_)
     rw[impl_IsSheet.l1,if_pos hl',if_pos (by omega),if_pos hl',rdH_mid,if_pos hm.1.symm,if_pos hm.2]
   · replace hm:meets x y=false:=by simpa using hm
     have h:=ih (pre ++ [y]) (by simp at hl ⊢;omega) (fun e=>h1 (by simp[e])) (fun e=>h2 (by simp[hm,e]))
     rw[snoc_app,snoc_leni]at h
     simp only[meets,decide_eq_false_iff_not]at hm
     refine ev_step h (fun k=>?_)
     rw[impl_IsSheet.l1,if_pos hl',if_pos (by omega),if_pos hl',rdH_mid,hw]
     by_cases e:x.f0=y.f0
     · rw[if_pos e.symm,if_neg (fun e2=>hm ⟨e,e2⟩)]
     · rw[if_neg (fun e2=>e e2.symm)]

theorem isSheet_j1 (x:S40) (pre suf:List S40) (n:Int) (b r:Bool) (hl:(pre ++ suf).length≤9223372036854775806) (hb:b=true→r=false) (h1:b=false→pre.any (meets x)=true→r=false)
 (h2:b=false→pre.any (meets x)=false→Ev (fun k=>impl_IsSheet.l0 k (pre ++ suf) (pre ++ suf) n (wrap64 ((pre.length:Int)+1))) r) :
 Ev (fun k=>impl_IsSheet.j1 k (pre ++ suf) (pre.length:Int) (pre ++ suf) n (pre.length:Int) b x.f0 x.f1 x.f2) r:=by
 cases b with
 | true=>
   obtain rfl:=hb rfl
   refine ev_step ev_const (fun k=>?_)
   rw[impl_IsSheet.j1,if_pos rfl]
 | false=>
   have h:=isSheet_l1 x (pre ++ suf) n (pre.length:Int) r pre [] (by simp at hl ⊢;omega) (h1 rfl) (h2 rfl)
   refine ev_step h (fun k=>?_)
   rw[impl_IsSheet.j1,if_neg (by decide),if_pos (by omega),if_pos (by simp;omega)]
   simp

theorem isSheet_l0 (suf:List S40):∀pre:List S40,(pre ++ suf).length≤9223372036854775806 →
 Ev (fun k=>impl_IsSheet.l0 k (pre ++ suf) (pre ++ suf) ((pre ++ suf).length:Int) (pre.length:Int)) (goodFrom pre suf):=by
 induction suf with
 | nil=>
   intro pre _
   refine ev_step (Ev.now _) (fun k=>?_)
   rw[impl_IsSheet.l0,if_neg (by simp)]
   simp[goodFrom]
 | cons x suf ih=>
   intro pre hl
   have h:=ih (pre ++ [x]) (by simp at hl ⊢;omega)
   rw[snoc_app,snoc_leni]at h
   have hl':(pre.length:Int)<((pre ++ x :: suf).length:Int):=by simp;omega
   have hw:wrap64 ((pre.length:Int)+1)=(pre.length:Int)+1:=wrapS (by omega) (by simp at hl;omega)
   have J:∀b,(b = !(holeOk x.f0 x.f1 x.f2 && lastBefore pre x))→Ev (fun k=>impl_IsSheet.j1 k (pre ++ x :: suf) (pre.length:Int) (pre ++ x :: suf) ((pre ++ x :: suf).length:Int) (pre.length:Int) b x.f0 x.f1 x.f2) (goodFrom pre (x :: suf)):=by
    intro b hb
    refine isSheet_j1 x pre (x :: suf) _ b _ hl (fun e=>?_) (fun e e2=>?_) (fun e e2=>?_)
    · simp only[goodFrom,goodAt]
      cases h1:holeOk x.f0 x.f1 x.f2<;>cases h2:lastBefore pre x<;>simp_all
    · simp[goodFrom,goodAt,e2]
    · rw[hw]
      have e3:goodFrom pre (x :: suf)=goodFrom (pre ++ [x]) suf:=by
       simp only[goodFrom,goodAt,e2]
       cases h1:holeOk x.f0 x.f1 x.f2<;>cases h2:lastBefore pre x<;>simp_all
      rw[e3]
      exact h
   cases ho:holeOk x.f0 x.f1 x.f2 with
   | false=>
     refine ev_step (J true (by simp[ho])) (fun k=>?_)
     rw[impl_IsSheet.l0,if_pos hl',if_pos (by omega),if_pos hl',rdH_mid,isHole_ok,ho]
     simp
   | true=>
     rcases List.eq_nil_or_concat pre with rfl | ⟨pre',p,rfl⟩
     · refine ev_step (J false (by simp[ho,lastBefore])) (fun k=>?_)
       rw[impl_IsSheet.l0,if_pos hl',if_pos (by omega),if_pos hl',rdH_mid,isHole_ok,ho]
       simp
     · refine ev_step (J (!(before p x)) (by simp[ho,lastBefore])) (fun k=>?_)
       have e1:((pre' ++ [p]).length:Int)=(pre'.length:Int)+1:=by simp
       have hw2:wrap64 (((pre' ++ [p]).length:Int)-1)=(pre'.length:Int):=by
        rw[e1,wrapS (by omega) (by simp at hl;omega)];omega
       have e2:rd_T40 (pre' ++ [p] ++ x :: suf) (pre'.length:Int)=p:=by
        rw[snoc_app];exact rdH_mid _ _ _
       rw[impl_IsSheet.l0,if_pos hl',if_pos (by omega),if_pos hl',rdH_mid,isHole_ok,ho]
       simp only[List.concat_eq_append]at *
       simp only[Option.bind_some,if_true]
       rw[if_pos (by omega),hw2,if_pos (by omega),if_pos (by simp;omega),e2,holeLess_ok]
       simp only[Option.bind_some]

theorem isSheet_ok (l:List S40) (h:l.length≤9223372036854775806):Ev (fun k=>impl_IsSheet.f k l) (good l):=by
 by_cases h6:(l.length:Int)>60
 · refine Ev.congr (f:=fun _=>some (good l)) (fun k=>?_) ev_const
   rw[impl_IsSheet.f,if_pos h6]
   have:¬l.length≤60:=by omega
   simp[good,this]
 · refine Ev.congr (fun k=>?_) (ev_eq (isSheet_l0 l [] (by simpa using h)) ?_)
   · rw[impl_IsSheet.f,if_neg h6]
     rfl
   · have:l.length≤60:=by omega
     simp[good,this]

def sameH (x y:S40):Bool:=x.f0 == y.f0 && (x.f1 == y.f1 && (x.f2 == y.f2))
def hasH (l:List S40) (x:S40):Bool:=l.any (sameH x)
def less (l b:List S40):List S40:=l.filter fun x=> !hasH b x
theorem sameH_eq (x y:S40):sameH x y=true↔x=y:=by
 obtain⟨a,b,c⟩:=x
 obtain⟨d,e,f⟩:=y
 simp[sameH]
theorem hasH_mem (l:List S40) (x:S40):hasH l x=true↔x∈l:=by
 simp only[hasH,List.any_eq_true]
 constructor
 · rintro⟨y,hy,h⟩;rw[(sameH_eq x y).1 h];exact hy
 · intro h;exact⟨x,h,(sameH_eq x x).2 rfl⟩
theorem less_len (l b:List S40):(less l b).length≤l.length:=List.length_filter_le _ _
theorem mgHas_l0 (x:S40) (suf:List S40):∀pre:List S40,(pre ++ suf).length≤1048576 →
 Ev (fun k=>spec_mgHas.l0 k (pre ++ suf) ((pre ++ suf).length:Int) (pre.length:Int) x.f0 x.f1 x.f2) (hasH suf x):=by
 induction suf with
 | nil=>
   intro pre _
   refine ev_step (f:=fun _=>some _) (Ev.now _) (fun k=>?_)
   rw[spec_mgHas.l0,if_neg (by simp)];rfl
 | cons y suf ih=>
   intro pre hl
   have hlp:pre.length≤1048576:=by simp at hl;omega
   have h:=ih (pre ++ [y]) (by simp at hl ⊢;omega)
   rw[snoc_app,snoc_leni]at h
   have hl':(pre.length:Int)<((pre ++ y :: suf).length:Int):=by simp;omega
   have hw:wrap64 ((pre.length:Int)+1)=(pre.length:Int)+1:=wrapS (by omega) (by omega)
   cases c:sameH x y with
   | true=>
     refine ev_step (f:=fun _=>some _) (Ev.now _) (fun k=>?_)
     rw[spec_mgHas.l0,if_pos hl',if_pos (by omega),if_pos hl',rdH_mid,if_pos (show(x.f0 == y.f0 && (x.f1 == y.f1 && (x.f2 == y.f2)))=true from c)]
     simp[hasH,c]
   | false=>
     refine ev_step (ev_eq h (by simp[hasH,c])) (fun k=>?_)
     rw[spec_mgHas.l0,if_pos hl',if_pos (by omega),if_pos hl',rdH_mid,if_neg (by rw[show(x.f0 == y.f0 && (x.f1 == y.f1 && (x.f2 == y.f2)))=false from c];decide),hw]
theorem mgHas_ok (l:List S40) (x:S40) (h:l.length≤1048576):Ev (fun k=>spec_mgHas.f k l x.f0 x.f1 x.f2) (hasH l x):=
 Ev.congr (f:=fun k=>spec_mgHas.l0 k l (l.length:Int) 0 x.f0 x.f1 x.f2) (fun _=>rfl) (mgHas_l0 x l [] (by simpa using h))
theorem mgLess_l0 (b:List S40) (hb:b.length≤1048576) (suf:List S40):∀(pre out:List S40),(pre ++ suf).length≤1048576→out.length≤pre.length →
 Ev (fun k=>spec_mgLess.l0 k b out (pre ++ suf) ((pre ++ suf).length:Int) (pre.length:Int)) (out ++ less suf b):=by
 induction suf with
 | nil=>
   intro pre out _ _
   refine ev_step (f:=fun _=>some _) (Ev.now _) (fun k=>?_)
   rw[spec_mgLess.l0,if_neg (by simp)];simp[less]
 | cons x suf ih=>
   intro pre out hl ho
   have hlp:pre.length≤1048576:=by simp at hl;omega
   have hl':(pre.length:Int)<((pre ++ x :: suf).length:Int):=by simp;omega
   have hw:wrap64 ((pre.length:Int)+1)=(pre.length:Int)+1:=wrapS (by omega) (by omega)
   obtain⟨K1,e1⟩:=mgHas_ok b x hb
   have h:=ih (pre ++ [x]) (if hasH b x=true then out else out ++ [x]) (by simp at hl ⊢;omega) (by split<;>simp<;>omega)
   rw[snoc_app,snoc_leni]at h
   obtain⟨K2,e2⟩:=h
   dsimp only at e1 e2
   refine⟨K1+K2+1,fun k hk=>?_⟩
   obtain⟨m,rfl⟩:∃m,k=m+1:=⟨k-1,by omega⟩
   dsimp only
   rw[spec_mgLess.l0,if_pos hl',if_pos (by omega),if_pos hl',rdH_mid,e1 m (by omega)]
   simp only[Option.bind_some]
   rw[if_pos (show out.length<5864062014805 by omega),hw]
   have e3:=e2 m (by omega)
   cases c:hasH b x with
   | true=>rw[c]at e3;simp only[if_true]at e3 ⊢;rw[e3];simp[less,c]
   | false=>rw[c]at e3;simp only[Bool.false_eq_true,if_false]at e3 ⊢;rw[e3];simp[less,c]
theorem mgLess_ok (l b:List S40) (h:l.length≤1048576) (hb:b.length≤1048576):Ev (fun k=>spec_mgLess.f k l b) (less l b):=
 Ev.congr (f:=fun k=>spec_mgLess.l0 k b [] l (l.length:Int) 0) (fun _=>rfl) (ev_eq (mgLess_l0 b hb l [] [] (by simpa using h) (by simp)) (by simp))

theorem lessHoles_ok (l b:List S40) (h:l.length≤1048576):impl_lessHoles.f l b=some (less l b):=by
 rw[impl_lessHoles.f,if_pos (by omega)];rfl

theorem mgTwo_ok (a b:List S40) (ha:a.length≤1048576) (hb:b.length≤1048576):Ev (fun k=>spec_mgTwo.f k a b) (good a && good b):=by
 obtain⟨K1,e1⟩:=shGood_ok a (by omega)
 obtain⟨K2,e2⟩:=shGood_ok b (by omega)
 dsimp only at e1 e2
 refine⟨K1+K2,fun k hk=>?_⟩
 dsimp only
 rw[spec_mgTwo.f,e1 k (by omega),e2 k (by omega)]
 cases good a<;>cases good b<;>rfl

def dist (a b:List S40):Int:=wrap64 (((less a b).length:Int)+((less b a).length:Int))
theorem mgDistance_ok (a b:List S40) (ha:a.length≤1048576) (hb:b.length≤1048576):Ev (fun k=>spec_mgDistance.f k a b) (dist a b):=
 Ev.bind (mgLess_ok a b ha hb) (Ev.bind (mgLess_ok b a hb ha) (ev_of_eq (fun _=>rfl)))
theorem distanceOf_ok (a b:List S40) (ha:a.length≤1048576) (hb:b.length≤1048576):impl_distanceOf.f a b=some (dist a b):=by
 rw[impl_distanceOf.f,lessHoles_ok a b ha,lessHoles_ok b a hb];rfl

def srt (l:List S40):List S40:=impl_sheetOf.srt l
/-- The sheet of holes, if there is one. -/
def sortedR (l:List S40):List S40×Bool:=if good (srt l)=true then(srt l,true) else([],false)
theorem srt_perm (l:List S40):(srt l).Perm l:=(impl_sheetOf.srt_sorts l).1
theorem srt_len (l:List S40):(srt l).length=l.length:=(srt_perm l).length_eq
theorem goodFrom_eq (suf:List S40):∀pre,impl_sheetOf.goodFrom pre suf=goodFrom pre suf:=by
 induction suf with
 | nil=>intro _;rfl
 | cons x suf ih=>
   intro pre
   rw[impl_sheetOf.goodFrom,goodFrom,ih]
   rfl
theorem good_eq (l:List S40):impl_sheetOf.good l=good l:=by
 rw[impl_sheetOf.good,good,goodFrom_eq]
theorem good_strict (l:List S40) (h:good l=true):impl_sheetOf.strict l=true:=impl_sheetOf.good_strict l (by rw[good_eq];exact h)
theorem good_len (l:List S40) (h:good l=true):l.length≤60:=by
 simp only[good,Bool.and_eq_true,decide_eq_true_eq]at h;exact h.2
theorem sheetOf_ok (l:List S40) (h:l.length≤9000000):Ev (fun k=>impl_sheetOf.f k l) (sortedR l):=by
 have hs:=srt_len l
 by_cases h6:(l.length:Int)>60
 · refine ev_of_eq (fun k=>?_)
   rw[impl_sheetOf.f,if_pos h6,sortedR,if_neg]
   intro g
   have:=good_len _ g
   omega
 · by_cases c:impl_sheetOf.strict (impl_sheetOf.srt l)=true
   · obtain⟨K,e⟩:=isSheet_ok (srt l) (by omega)
     refine⟨K,fun k hk=>?_⟩
     have e1:=e k hk
     dsimp only at e1 ⊢
     rw[impl_sheetOf.f,if_neg h6,if_pos c,show impl_IsSheet.f k (impl_sheetOf.srt l)=some (good (srt l)) from e1,sortedR]
     simp only[Option.bind_some]
     by_cases g:good (srt l)=true
     · rw[if_pos g,if_pos g];rfl
     · rw[if_neg g,if_neg g]
   · refine ev_of_eq (fun k=>?_)
     rw[impl_sheetOf.f,if_neg h6,if_neg c,sortedR,if_neg]
     exact fun g=>c (good_strict _ g)
theorem ins_app (x:S40) (B:List S40) (hB:∀b∈B,before x b=true):∀A:List S40,(∀a∈A,before x a=false)→impl_sheetOf.ins x (A ++ B)=A ++ x :: B
 | [],_=>by
   cases B with
   | nil=>rfl
   | cons b B=>rw[List.nil_append,impl_sheetOf.ins,if_pos (show impl_sheetOf.lt x b=true from hB b List.mem_cons_self)];rfl
 | a :: A,h=>by
   rw[List.cons_append,impl_sheetOf.ins,if_neg (by rw[show impl_sheetOf.lt x a=before x a from rfl,h a List.mem_cons_self];decide),ins_app x B hB A (fun a ha=>h a (List.mem_cons_of_mem _ ha))];rfl
theorem shSorted_put (k:Nat) (x:S40) (A B l:List S40) (n i:Int) (hl:(A ++ B).length≤4000000) :
 ((some (([]:List S40):List S40)).bind fun y=>(if 0≤(A.length:Int) then(if(A.length:Int)≤((A ++ B).length:Int) then((some ((A ++ B).take ((A.length:Int)).toNat:List S40)).bind fun y1=>(if y.length+y1.length<5864062014805 then((some (y ++ y1:List S40)).bind fun y2=>((some (([(⟨x.f0,x.f1,x.f2⟩:S40)]:List S40):List S40)).bind fun y3=>(if y2.length+y3.length<5864062014805 then((some (y2 ++ y3:List S40)).bind fun y4=>((some ((A ++ B).drop ((A.length:Int)).toNat:List S40)).bind fun y5=>(if y4.length+y5.length<5864062014805 then(spec_shSorted.l0 k (y4 ++ y5) l n (wrap64 (i+1))) else(none)))) else(none)))) else(none))) else(none)) else(none)))
   = spec_shSorted.l0 k (A ++ x :: B) l n (wrap64 (i+1)):=by
 have h1:(A ++ B).take ((A.length:Int)).toNat=A:=by simp
 have h2:(A ++ B).drop ((A.length:Int)).toNat=B:=by simp
 simp only[List.length_append]at hl
 simp only[Option.bind_some,h1,h2]
 rw[if_pos (by omega),if_pos (by rw[List.length_append];omega),if_pos (by simp;omega),if_pos (by simp;omega),if_pos (by simp;omega)]
 simp
theorem shSorted_l1 (x:S40) (l:List S40) (n i:Int) (r:List S40×Bool) (R:List S40):∀B:List S40,(R.reverse ++ B).length≤4000000→(∀b∈B,before x b=true)→(R.reverse ++ B).Pairwise (fun a b=>before b a=false) →
 Ev (fun k=>spec_shSorted.l0 k (impl_sheetOf.ins x (R.reverse ++ B)) l n (wrap64 (i+1))) r →
 Ev (fun k=>spec_shSorted.l1 k (R.reverse ++ B) (R.length:Int) l n i x.f0 x.f1 x.f2) r:=by
 induction R with
 | nil=>
   intro B hl hB hs h
   rw[ins_app x B hB ([]:List S40).reverse (by simp)]at h
   refine ev_step h (fun k=>?_)
   have e:=shSorted_put k x ([]:List S40).reverse B l n i hl
   rw[spec_shSorted.l1,if_neg (by simp)]
   exact e
 | cons a R ih=>
   intro B hl hB hs h
   have hlr:(a :: R).reverse.length=R.length+1:=by simp
   have hl2:=hl
   simp only[List.length_append]at hl2
   have e0:(a :: R).reverse ++ B=R.reverse ++ a :: B:=by simp
   have hw:wrap64 ((((a :: R).length:Nat):Int)-1)=(R.length:Int):=by
    show wrap64 (((R.length+1:Nat):Int)-1)=_
    rw[wrapS (by omega) (by omega)];omega
   have e1:rd_T40 ((a :: R).reverse ++ B) (R.length:Int)=a:=by
    have:=rdH_mid R.reverse B a
    rw[List.length_reverse]at this
    rw[e0];exact this
   cases c:before x a with
   | true=>
     have h2:=ih (a :: B) (by rw[← e0];exact hl) (fun b hb=>(List.mem_cons.1 hb).elim (fun e=>by rw[e];exact c) (hB b)) (by rw[← e0];exact hs) (by rw[← e0];exact h)
     refine ev_step h2 (fun k=>?_)
     rw[spec_shSorted.l1,if_pos (by simp),hw,if_pos (by omega),if_pos (by simp;omega),e1,shBefore_ok,c]
     simp only[Option.bind_some,if_true]
     rw[e0]
   | false=>
     have hA:∀y∈(a :: R).reverse,before x y=false:=by
      intro y hy
      rw[List.reverse_cons,List.mem_append,List.mem_singleton]at hy
      rcases hy with hy | rfl
      · have h3:before a y=false:=by
         rw[e0]at hs
         exact(List.pairwise_append.1 hs).2.2 y hy a List.mem_cons_self
        exact impl_sheetOf.swo.ntrans x a y c h3
      · exact c
     rw[ins_app x B hB _ hA]at h
     refine ev_step h (fun k=>?_)
     have e:=shSorted_put k x (a :: R).reverse B l n i hl
     rw[List.length_reverse]at e
     rw[spec_shSorted.l1,if_pos (by simp),hw,if_pos (by omega),if_pos (by simp;omega),e1,shBefore_ok,c]
     simp only[Option.bind_some,Bool.false_eq_true,if_false]at e ⊢
     exact e
theorem ins_len (x:S40) (l:List S40):(impl_sheetOf.ins x l).length=l.length+1:=by
 rw[(impl_sheetOf.ins_perm x l).length_eq];rfl
theorem shSorted_l0 (suf:List S40):∀(pre out:List S40),(pre ++ suf).length≤4000000→out.length=pre.length→out.Pairwise (fun a b=>before b a=false) →
 Ev (fun k=>spec_shSorted.l0 k out (pre ++ suf) ((pre ++ suf).length:Int) (pre.length:Int)) (if good (suf.foldl (fun o x=>impl_sheetOf.ins x o) out)=true then(suf.foldl (fun o x=>impl_sheetOf.ins x o) out,true) else([],false)):=by
 induction suf with
 | nil=>
   intro pre out hl ho hs
   have hp:pre.length≤4000000:=by simpa using hl
   obtain⟨K,e⟩:=shGood_ok out (by omega)
   refine⟨K+1,fun k hk=>?_⟩
   obtain⟨m,rfl⟩:∃m,k=m+1:=⟨k-1,by omega⟩
   have e1:=e m (by omega)
   dsimp only at e1 ⊢
   rw[spec_shSorted.l0,if_neg (by simp),e1]
   show(if good out=true then some (out,true) else some ([],false))=some (if good out=true then(out,true) else([],false))
   cases good out<;>rfl
 | cons x suf ih=>
   intro pre out hl ho hs
   have hlp:pre.length+1≤4000000:=by simp at hl;omega
   have hl':(pre.length:Int)<((pre ++ x :: suf).length:Int):=by simp;omega
   have hw:wrap64 ((pre.length:Int)+1)=(pre.length:Int)+1:=wrapS (by omega) (by omega)
   have h:=ih (pre ++ [x]) (impl_sheetOf.ins x out) (by simp at hl ⊢;omega) (by rw[ins_len];simp;omega) (impl_sheetOf.ins_sorted x out hs)
   rw[snoc_app,snoc_leni, ← hw]at h
   have h2:=shSorted_l1 x (pre ++ x :: suf) ((pre ++ x :: suf).length:Int) (pre.length:Int) _ out.reverse [] (by simp;omega) (by simp) (by simpa using hs) (by simpa using h)
   simp only[List.reverse_reverse,List.append_nil,List.length_reverse]at h2
   refine ev_step h2 (fun k=>?_)
   rw[spec_shSorted.l0,if_pos hl',if_pos (by omega),if_pos hl',rdH_mid]
theorem shSorted_ok (l:List S40) (h:l.length≤4000000):Ev (fun k=>spec_shSorted.f k l) (sortedR l):=
 Ev.congr (f:=fun k=>spec_shSorted.l0 k [] l (l.length:Int) 0) (fun _=>rfl) (shSorted_l0 l [] [] (by simpa using h) rfl List.Pairwise.nil)
theorem sortedR_len (l:List S40):(sortedR l).1.length≤60:=by
 unfold sortedR
 by_cases c:good (srt l)=true
 · rw[if_pos c];exact good_len _ c
 · rw[if_neg c];simp

def okR (y x:S40):Prop:=before y x=true∧meets x y=false
theorem before_trans (a b c:S40) (h1:before a b=true) (h2:before b c=true):before a c=true:=impl_sheetOf.swo.trans a b c h1 h2
theorem goodFrom_iff (suf:List S40):∀pre:List S40,pre.Pairwise okR→(goodFrom pre suf=true↔(∀x∈suf,holeOk x.f0 x.f1 x.f2=true)∧(pre ++ suf).Pairwise okR):=by
 induction suf with
 | nil=>intro pre hp;simp[goodFrom,hp]
 | cons x suf ih=>
   intro pre hp
   have key:(lastBefore pre x && !(pre.any (meets x)))=true↔∀y∈pre,okR y x:=by
    rw[Bool.and_eq_true]
    constructor
    · rintro⟨h1,h2⟩ y hy
      have h3:meets x y=false:=by
       rw[Bool.not_eq_true',List.any_eq_false]at h2
       simpa using h2 y hy
      refine⟨?_,h3⟩
      rcases List.eq_nil_or_concat pre with rfl | ⟨pre',p,rfl⟩
      · cases hy
      · rw[List.concat_eq_append]at h1 hy hp
        simp only[lastBefore,List.getLast?_append,List.getLast?_singleton,Option.or]at h1
        rcases List.mem_append.1 hy with hy | hy
        · exact before_trans _ _ _ ((List.pairwise_append.1 hp).2.2 y hy p (by simp)).1 h1
        · rw[List.mem_singleton.1 hy];exact h1
    · intro h
      refine⟨?_,?_⟩
      · rcases List.eq_nil_or_concat pre with rfl | ⟨pre',p,rfl⟩
        · rfl
        · rw[List.concat_eq_append]at h ⊢
          simp only[lastBefore,List.getLast?_append,List.getLast?_singleton,Option.or]
          exact(h p (by simp)).1
      · rw[Bool.not_eq_true',List.any_eq_false]
        intro y hy
        rw[(h y hy).2];decide
   rw[goodFrom,Bool.and_eq_true,goodAt,Bool.and_eq_true,key]
   constructor
   · rintro⟨⟨h1,h2⟩,h3⟩
     have hp2:(pre ++ [x]).Pairwise okR:=List.pairwise_append.2 ⟨hp,by simp,fun y hy z hz=>by rw[List.mem_singleton.1 hz];exact h2 y hy⟩
     obtain⟨h4,h5⟩:=(ih (pre ++ [x]) hp2).1 h3
     refine⟨fun z hz=>?_,by rw[snoc_app]at h5;exact h5⟩
     rcases List.mem_cons.1 hz with rfl | hz
     · exact h1
     · exact h4 z hz
   · rintro⟨h1,h2⟩
     rw[← snoc_app]at h2
     have hp2:=(List.pairwise_append.1 h2).1
     refine⟨⟨h1 x List.mem_cons_self,fun y hy=>(List.pairwise_append.1 hp2).2.2 y hy x (by simp)⟩,(ih (pre ++ [x]) hp2).2 ⟨fun z hz=>h1 z (List.mem_cons_of_mem _ hz),h2⟩⟩
theorem good_iff (l:List S40):good l=true↔(∀x∈l,holeOk x.f0 x.f1 x.f2=true)∧l.Pairwise okR∧l.length≤60:=by
 rw[good,Bool.and_eq_true,goodFrom_iff l [] List.Pairwise.nil,decide_eq_true_eq,List.nil_append,and_assoc]
theorem good_nodup (a:List S40) (h:good a=true):a.Nodup:=by
 have:=((good_iff a).1 h).2.1
 exact this.imp (fun {y x} hr e=>by subst e;have:=hr.1;rw[show before y y=false from impl_sheetOf.swo.irrefl y]at this;cases this)
/-- What is a sheet's holes in another order, put in order, is the sheet. -/
theorem srt_of_perm (a c:List S40) (h:good a=true) (hp:c.Perm a):srt c=a:=
 impl_sheetOf.unique (srt c) a ((srt_perm c).trans hp) (impl_sheetOf.srt_sorts c).2 (((good_iff a).1 h).2.1.imp (fun hr=>hr.1))
theorem less_nodup (a b:List S40) (h:a.Nodup):(less a b).Nodup:=h.filter _
theorem mem_less (a b:List S40) (x:S40):x∈less a b↔x∈a∧x ∉ b:=by
 rw[less,List.mem_filter,Bool.not_eq_true', ← Bool.not_eq_true,hasH_mem]

def distR (a b:List S40):Int×Bool:=if(good a && good b)=true then(dist a b,true) else(0,false)
theorem specDist_ok (a b:List S40) (ha:a.length≤1048576) (hb:b.length≤1048576):Ev (fun k=>spec_DistanceOf.f k a b) (distR a b):=by
 refine Ev.bind (mgTwo_ok a b ha hb) ?_
 cases g:(good a && good b) with
 | false=>exact ev_of_eq (fun _=>by simp only[distR,g,Bool.false_eq_true,if_false])
 | true=>
   simp only[if_true]
   exact Ev.bind (mgDistance_ok a b ha hb) (ev_of_eq (fun _=>by simp only[distR,g,if_true]))
theorem implDist_ok (a b:List S40) (ha:a.length≤1048576) (hb:b.length≤1048576):Ev (fun k=>impl_DistanceOf.f k a b) (distR a b):=by
 obtain⟨K1,e1⟩:=isSheet_ok a (by omega)
 obtain⟨K2,e2⟩:=isSheet_ok b (by omega)
 dsimp only at e1 e2
 refine⟨K1+K2,fun k hk=>?_⟩
 dsimp only
 rw[impl_DistanceOf.f,e1 k (by omega),e2 k (by omega),distanceOf_ok a b ha hb]
 unfold distR
 cases good a<;>cases good b<;>rfl

def diffR (a b:List S40):List S40×List S40×Bool:=if(good a && good b)=true then(less a b,less b a,true) else([], [],false)
theorem diffR_len (a b:List S40) (h:a.length≤1048576) (h2:b.length≤1048576):(diffR a b).1.length≤1048576∧(diffR a b).2.1.length≤1048576:=by
 have:=less_len a b
 have:=less_len b a
 unfold diffR;split
 · simp only;omega
 · simp
theorem specDiff_ok (a b:List S40) (ha:a.length≤1048576) (hb:b.length≤1048576):Ev (fun k=>spec_DifferenceOf.f k a b) (diffR a b):=by
 refine Ev.bind (mgTwo_ok a b ha hb) ?_
 cases g:(good a && good b) with
 | false=>exact ev_of_eq (fun _=>by simp only[diffR,g,Bool.false_eq_true,if_false])
 | true=>
   simp only[if_true]
   exact Ev.bind (mgLess_ok a b ha hb) (Ev.bind (mgLess_ok b a hb ha) (ev_of_eq (fun _=>by simp only[diffR,g,if_true])))
theorem implDiff_ok (a b:List S40) (ha:a.length≤1048576) (hb:b.length≤1048576):Ev (fun k=>impl_DifferenceOf.f k a b) (diffR a b):=by
 obtain⟨K1,e1⟩:=isSheet_ok a (by omega)
 obtain⟨K2,e2⟩:=isSheet_ok b (by omega)
 dsimp only at e1 e2
 refine⟨K1+K2+1,fun k hk=>?_⟩
 obtain⟨m,rfl⟩:∃m,k=m+1:=⟨k-1,by omega⟩
 dsimp only
 rw[impl_DifferenceOf.f,e1 _ (by omega),e2 _ (by omega)]
 simp only[Option.bind_some,impl_DifferenceOf.j0,lessHoles_ok a b ha,lessHoles_ok b a hb]
 unfold diffR
 cases good a<;>cases good b<;>rfl

def shared (l b:List S40):List S40:=l.filter (hasH b)
theorem shared_eq (l b:List S40):less l (less l b)=shared l b:=by
 unfold less shared
 refine List.filter_congr (fun x hx=>?_)
 cases c:hasH b x with
 | true=>
   have:hasH (l.filter fun y=> !hasH b y) x=false:=by
    rw[Bool.eq_false_iff]
    intro h
    have:=(List.mem_filter.1 ((hasH_mem _ x).1 h)).2
    rw[c]at this
    exact Bool.noConfusion this
   rw[this];rfl
 | false=>
   have:hasH (l.filter fun y=> !hasH b y) x=true:=(hasH_mem _ x).2 (List.mem_filter.2 ⟨hx,by rw[c];rfl⟩)
   rw[this];rfl
theorem sharedHoles_ok (l b:List S40) (h:l.length≤1048576):impl_sharedHoles.f l b=some (shared l b):=by
 rw[impl_sharedHoles.f,if_pos (by omega)]
 congr 1
 exact List.filter_congr (fun x _=>Bool.not_not _)
def sharedR (a b:List S40):List S40×Bool:=if(good a && good b)=true then(shared a b,true) else([],false)
theorem sharedR_len (a b:List S40) (h:a.length≤1048576):(sharedR a b).1.length≤1048576:=by
 have:(shared a b).length≤a.length:=List.length_filter_le _ _
 unfold sharedR;split
 · simp only;omega
 · simp
theorem specShared_ok (a b:List S40) (ha:a.length≤1048576) (hb:b.length≤1048576):Ev (fun k=>spec_SharedHoles.f k a b) (sharedR a b):=by
 refine Ev.bind (mgTwo_ok a b ha hb) ?_
 cases g:(good a && good b) with
 | false=>exact ev_of_eq (fun _=>by simp only[sharedR,g,Bool.false_eq_true,if_false])
 | true=>
   simp only[if_true]
   exact Ev.bind (mgLess_ok a b ha hb) (Ev.bind (mgLess_ok a (less a b) ha (by have:=less_len a b;omega)) (ev_of_eq (fun _=>by simp only[sharedR,g,if_true,shared_eq])))
theorem implShared_ok (a b:List S40) (ha:a.length≤1048576) (hb:b.length≤1048576):Ev (fun k=>impl_SharedHoles.f k a b) (sharedR a b):=by
 obtain⟨K1,e1⟩:=isSheet_ok a (by omega)
 obtain⟨K2,e2⟩:=isSheet_ok b (by omega)
 dsimp only at e1 e2
 refine⟨K1+K2,fun k hk=>?_⟩
 dsimp only
 rw[impl_SharedHoles.f,e1 k (by omega),e2 k (by omega),sharedHoles_ok a b ha]
 unfold sharedR
 cases good a<;>cases good b<;>rfl

def putS:List Int→Int→List Int
 | [],n=> [n]
 | x :: l,n=>if x<n then x :: putS l n else if x=n then x :: l else n :: x :: l
theorem mem_putS (n y:Int) (l:List Int):y∈putS l n↔y=n∨y∈l:=by
 induction l with
 | nil=>simp[putS]
 | cons x l ih=>
   rw[putS]
   by_cases c:x<n
   · rw[if_pos c,List.mem_cons,ih,List.mem_cons];constructor
     · rintro(h | h | h)<;>simp[h]
     · rintro(h | h | h)<;>simp[h]
   · rw[if_neg c]
     by_cases e:x=n
     · rw[if_pos e,List.mem_cons];subst e;simp
     · rw[if_neg e,List.mem_cons]
theorem putS_len (n:Int) (l:List Int):(putS l n).length≤l.length+1:=by
 induction l with
 | nil=>simp[putS]
 | cons x l ih=>
   rw[putS]
   by_cases c:x<n
   · rw[if_pos c,List.length_cons,List.length_cons];omega
   · rw[if_neg c]
     by_cases e:x=n
     · rw[if_pos e];omega
     · rw[if_neg e];simp
theorem sorted_putS (n:Int) (l:List Int) (h:l.Pairwise (· < ·)):(putS l n).Pairwise (· < ·):=by
 induction l with
 | nil=>simp[putS]
 | cons x l ih=>
   obtain⟨hx,hl⟩:=List.pairwise_cons.1 h
   rw[putS]
   by_cases c:x<n
   · rw[if_pos c]
     refine List.pairwise_cons.2 ⟨fun y hy=>?_,ih hl⟩
     rcases (mem_putS n y l).1 hy with rfl | hy
     · exact c
     · exact hx y hy
   · rw[if_neg c]
     by_cases e:x=n
     · rw[if_pos e];exact h
     · rw[if_neg e]
       refine List.pairwise_cons.2 ⟨fun y hy=>?_,h⟩
       rcases List.mem_cons.1 hy with rfl | hy
       · omega
       · have:=hx y hy;omega
theorem sorted_ext:∀(l m:List Int),l.Pairwise (· < ·)→m.Pairwise (· < ·)→(∀x,x∈l↔x∈m)→l=m
 | [], [],_,_,_=>rfl
 | [],y :: m,_,_,h=>absurd ((h y).2 List.mem_cons_self) (by simp)
 | x :: l, [],_,_,h=>absurd ((h x).1 List.mem_cons_self) (by simp)
 | x :: l,y :: m,hl,hm,h=>by
   obtain⟨hx,hl1⟩:=List.pairwise_cons.1 hl
   obtain⟨hy,hm1⟩:=List.pairwise_cons.1 hm
   have e:x=y:=by
    rcases List.mem_cons.1 ((h x).1 List.mem_cons_self) with e | h1
    · exact e
    · rcases List.mem_cons.1 ((h y).2 List.mem_cons_self) with e | h2
      · exact e.symm
      · have:=hy x h1;have:=hx y h2;omega
   subst e
   rw[sorted_ext l m hl1 hm1 (fun z=>?_)]
   constructor
   · intro hz
     rcases List.mem_cons.1 ((h z).1 (List.mem_cons_of_mem _ hz)) with e | h1
     · have:=hx z hz;omega
     · exact h1
   · intro hz
     rcases List.mem_cons.1 ((h z).2 (List.mem_cons_of_mem _ hz)) with e | h1
     · have:=hy z hz;omega
     · exact h1
theorem comp_inv (d:Array Int) (hs:∀i j,i<j→j<d.size→d[i]! ≤ d[j]!) (m:Nat):m≤d.size→(Go.Lib.compactUpTo d m).Pairwise (· < ·)∧∀x,x∈Go.Lib.compactUpTo d m↔∃j,j<m∧d[j]! = x:=by
 induction m with
 | zero=>intro _;exact⟨by simp[Go.Lib.compactUpTo],fun x=>by simp[Go.Lib.compactUpTo]⟩
 | succ m ih=>
   intro hm
   obtain⟨h1,h2⟩:=ih (by omega)
   rw[Go.Lib.compactUpTo_succ]
   by_cases c:m=0∨d[m]! ≠ d[m-1]!
   · have hk:Go.Lib.keeps d m=true:=by
      rcases c with c | c
      · exact Go.Lib.keeps_lt_one d m (by omega)
      · exact Go.Lib.keeps_pos c
     rw[hk,if_pos rfl]
     constructor
     · refine List.pairwise_append.2 ⟨h1,List.pairwise_singleton _ _,fun a ha b hb=>?_⟩
       rw[List.mem_singleton.1 hb]
       obtain⟨j,hj,rfl⟩:=(h2 a).1 ha
       have h3:=hs (m-1) m (by omega) (by omega)
       have h4:d[j]! ≤ d[m-1]! := by
        rcases Nat.lt_or_ge j (m-1) with g | g
        · exact hs j (m-1) g (by omega)
        · rw[show j=m-1 by omega];exact Int.le_refl _
       rcases c with c | c
       · omega
       · omega
     · intro x
       rw[List.mem_append,h2,List.mem_singleton]
       constructor
       · rintro(⟨j,hj,e⟩ | e)
         · exact⟨j,by omega,e⟩
         · exact⟨m,by omega,e.symm⟩
       · rintro⟨j,hj,e⟩
         rcases Nat.lt_or_ge j m with g | g
         · exact .inl ⟨j,g,e⟩
         · rw[show j=m by omega]at e;exact .inr e.symm
   · have hm0:0<m:=by omega
     have he:d[m]! = d[m-1]! := by
      rcases Classical.em (d[m]! = d[m-1]!) with e | e
      · exact e
      · exact absurd (.inr e) c
     rw[Go.Lib.keeps_neg hm0 he,if_neg (by decide),List.append_nil]
     refine⟨h1,fun x=>?_⟩
     rw[h2]
     constructor
     · rintro⟨j,hj,e⟩;exact⟨j,by omega,e⟩
     · rintro⟨j,hj,e⟩
       rcases Nat.lt_or_ge j m with g | g
       · exact⟨j,g,e⟩
       · rw[show j=m by omega,he]at e;exact⟨m-1,by omega,e⟩
def setOf (l:List Int):List Int:=Go.Lib.compact (l.mergeSort fun x y=>decide (x≤y))
theorem setOf_sorted (l:List Int):(setOf l).Pairwise (· < ·)∧∀x,x∈setOf l↔x∈l:=by
 have hp:(l.mergeSort fun x y=>decide (x≤y)).Pairwise (fun x y=>decide (x≤y)=true):=List.pairwise_mergeSort (fun a b c h1 h2=>by simp at *;omega) (fun a b=>by simp;omega) l
 have hmem:∀x,x∈(l.mergeSort fun x y=>decide (x≤y))↔x∈l:=fun x=>List.mem_mergeSort
 unfold setOf Go.Lib.compact
 generalize (l.mergeSort fun x y=>decide (x≤y))=s at hp hmem
 have hs:∀i j,i<j→j<s.toArray.size→s.toArray[i]! ≤ s.toArray[j]! := fun i j hij hj=>by
  have h:=List.pairwise_iff_getElem.1 hp i j (by simp at hj;omega) (by simpa using hj) hij
  simp only[decide_eq_true_eq]at h
  rw[getElem!_pos _ i (by omega),getElem!_pos _ j hj]
  simpa using h
 obtain⟨h1,h2⟩:=comp_inv s.toArray hs s.length (by simp)
 refine⟨h1,fun x=>(h2 x).trans ((Iff.intro ?_ ?_).trans (hmem x))⟩
 · rintro⟨j,hj,e⟩
   rw[getElem!_pos _ j (by simpa using hj)]at e
   rw[← e];simp
 · intro hx
   obtain⟨j,hj,e⟩:=List.getElem_of_mem hx
   exact⟨j,hj,by rw[getElem!_pos _ j (by simpa using hj)];simpa using e⟩
theorem setOf_len (l:List Int):(setOf l).length≤l.length:=by
 unfold setOf Go.Lib.compact Go.Lib.compactUpTo
 rw[List.length_map]
 refine Nat.le_trans (List.length_filter_le _ _) ?_
 simp
def putsS:List Int→List Int→List Int
 | o, []=>o
 | o,x :: l=>putsS (putS o x) l
theorem putsS_sorted (l:List Int):∀o:List Int,o.Pairwise (· < ·)→(putsS o l).Pairwise (· < ·)∧∀x,x∈putsS o l↔x∈o∨x∈l:=by
 induction l with
 | nil=>intro o h;exact⟨h,fun x=>by simp[putsS]⟩
 | cons y l ih=>
   intro o h
   obtain⟨h1,h2⟩:=ih (putS o y) (sorted_putS y o h)
   refine⟨h1,fun x=>?_⟩
   rw[putsS,h2,mem_putS,List.mem_cons]
   constructor
   · rintro((h | h) | h)<;>simp[h]
   · rintro(h | h | h)<;>simp[h]
theorem putsS_eq (l:List Int):putsS [] l=setOf l:=by
 obtain⟨h1,h2⟩:=putsS_sorted l [] List.Pairwise.nil
 obtain⟨h3,h4⟩:=setOf_sorted l
 exact sorted_ext _ _ h1 h3 (fun x=>by rw[h2,h4];simp)
theorem l1Put_l0 (n:Int) (suf:List Int):∀pre:List Int,(pre ++ suf).length≤1000000000 →
 Ev (fun k=>spec_l1Put.l0 k (pre ++ suf) n (pre.length:Int)) (pre ++ putS suf n):=by
 induction suf with
 | nil=>
   intro pre hl
   simp only[List.append_nil]at hl ⊢
   refine ev_step (f:=fun _=>some _) (Ev.now _) (fun k=>?_)
   rw[spec_l1Put.l0,if_neg (by omega)]
   simp only[Option.bind_some]
   rw[if_pos (by omega),if_pos (by omega)]
   simp only[Int.toNat_natCast,List.take_length,List.drop_length,List.nil_append,List.length_nil,List.append_nil,putS]
   rw[if_pos (by omega),if_pos (by omega),if_pos (by simp;omega)]
 | cons x suf ih=>
   intro pre hl
   have hlp:pre.length+1≤1000000000:=by simp at hl;omega
   have hl':(pre.length:Int)<((pre ++ x :: suf).length:Int):=by simp;omega
   have hw:wrap64 ((pre.length:Int)+1)=(pre.length:Int)+1:=wrapS (by omega) (by omega)
   by_cases c:x<n
   · have h:=ih (pre ++ [x]) (by simp at hl ⊢;omega)
     rw[snoc_app,snoc_app,snoc_leni]at h
     refine ev_step (ev_eq h (by rw[putS,if_pos c])) (fun k=>?_)
     rw[spec_l1Put.l0,if_pos hl',if_pos (by omega),rd_mid,if_pos c,hw]
   · refine ev_step (f:=fun _=>some _) (Ev.now _) (fun k=>?_)
     rw[spec_l1Put.l0,if_pos hl',if_pos (by omega),rd_mid,if_neg c,putS,if_neg c]
     by_cases e:x=n
     · rw[if_pos e,if_pos e]
     · rw[if_neg e,if_neg e]
       have ht:(pre ++ x :: suf).take pre.length=pre:=List.take_left
       have hd:(pre ++ x :: suf).drop pre.length=x :: suf:=List.drop_left
       simp only[Option.bind_some,Int.toNat_natCast,ht,hd,List.nil_append,List.length_nil]
       rw[if_pos (by omega),if_pos (by omega),if_pos (by omega),if_pos (by simp at hl ⊢;omega)]
       simp
theorem l1Put_ok (l:List Int) (n:Int) (h:l.length≤1000000000):Ev (fun k=>spec_l1Put.f k l n) (putS l n):=
 Ev.congr (f:=fun k=>spec_l1Put.l0 k l n 0) (fun _=>rfl) (by simpa using l1Put_l0 n l [] (by simpa using h))

theorem sortedSet_ok (l:List Int) (h:l.length<1000000000):impl_sortedSet.f l=some (setOf l):=by
 rw[impl_sortedSet.f,if_pos h];rfl
theorem tracksUsed_l0 (suf:List S40):∀(pre:List S40) (out:List Int),(pre ++ suf).length≤4000000→out.length≤pre.length →
 Ev (fun k=>impl_tracksUsed.l0 k out (pre ++ suf) ((pre ++ suf).length:Int) (pre.length:Int)) (setOf (out ++ suf.map (fun x=>x.f0))):=by
 induction suf with
 | nil=>
   intro pre out hl ho
   simp only[List.append_nil]at hl
   refine ev_step (f:=fun _=>some _) (Ev.now _) (fun k=>?_)
   rw[impl_tracksUsed.l0,if_neg (by simp),sortedSet_ok out (by omega)]
   simp
 | cons x suf ih=>
   intro pre out hl ho
   have hlp:pre.length+1≤4000000:=by simp at hl;omega
   have hl':(pre.length:Int)<((pre ++ x :: suf).length:Int):=by simp;omega
   have hw:wrap64 ((pre.length:Int)+1)=(pre.length:Int)+1:=wrapS (by omega) (by omega)
   have h:=ih (pre ++ [x]) (out ++ [x.f0]) (by simp at hl ⊢;omega) (by simp;omega)
   rw[snoc_app,snoc_leni]at h
   refine ev_step (ev_eq h (by simp)) (fun k=>?_)
   rw[impl_tracksUsed.l0,if_pos hl',if_pos (by omega),if_pos hl',if_pos (by omega),rdH_mid,hw]
theorem tracksUsed_ok (l:List S40) (h:l.length≤4000000):Ev (fun k=>impl_tracksUsed.f k l) (setOf (l.map (fun x=>x.f0))):=
 Ev.congr (f:=fun k=>impl_tracksUsed.l0 k [] l (l.length:Int) 0) (fun _=>rfl) (by simpa using tracksUsed_l0 l [] [] (by simpa using h) (by simp))
theorem specTracks_l0 (suf:List S40):∀(pre:List S40) (out:List Int),(pre ++ suf).length≤4000000→out.length≤pre.length →
 Ev (fun k=>spec_ChangedTracks.l0 k out (pre ++ suf) ((pre ++ suf).length:Int) (pre.length:Int)) (putsS out (suf.map (fun x=>x.f0)),true):=by
 induction suf with
 | nil=>
   intro pre out hl ho
   refine ev_step (f:=fun _=>some _) (Ev.now _) (fun k=>?_)
   rw[spec_ChangedTracks.l0,if_neg (by simp)];rfl
 | cons x suf ih=>
   intro pre out hl ho
   have hlp:pre.length+1≤4000000:=by simp at hl;omega
   have hl':(pre.length:Int)<((pre ++ x :: suf).length:Int):=by simp;omega
   have hw:wrap64 ((pre.length:Int)+1)=(pre.length:Int)+1:=wrapS (by omega) (by omega)
   obtain⟨K1,e1⟩:=l1Put_ok out x.f0 (by omega)
   have h:=ih (pre ++ [x]) (putS out x.f0) (by simp at hl ⊢;omega) (by have:=putS_len x.f0 out;simp;omega)
   rw[snoc_app,snoc_leni]at h
   obtain⟨K2,e2⟩:=h
   dsimp only at e1 e2
   refine⟨K1+K2+1,fun k hk=>?_⟩
   obtain⟨m,rfl⟩:∃m,k=m+1:=⟨k-1,by omega⟩
   dsimp only
   rw[spec_ChangedTracks.l0,if_pos hl',if_pos (by omega),if_pos hl',rdH_mid,e1 m (by omega)]
   simp only[Option.bind_some]
   rw[hw,e2 m (by omega)];rfl
def changedR (a b:List S40):List Int×Bool:=if(good a && good b)=true then(setOf ((less a b ++ less b a).map (fun x=>x.f0)),true) else([],false)
theorem changedR_len (a b:List S40) (ha:a.length≤1048576) (hb:b.length≤1048576):(changedR a b).1.length≤4000000:=by
 have h1:=less_len a b
 have h2:=less_len b a
 have h3:=setOf_len ((less a b ++ less b a).map (fun x=>x.f0))
 simp only[List.length_map,List.length_append]at h3
 unfold changedR
 by_cases c:(good a && good b)=true
 · rw[if_pos c];simp only;omega
 · rw[if_neg c];simp
theorem specChanged_ok (a b:List S40) (ha:a.length≤1048576) (hb:b.length≤1048576):Ev (fun k=>spec_ChangedTracks.f k a b) (changedR a b):=by
 refine Ev.bind (mgTwo_ok a b ha hb) ?_
 cases g:(good a && good b) with
 | false=>exact ev_of_eq (fun _=>by simp only[changedR,g,Bool.false_eq_true,if_false])
 | true=>
   simp only[if_true]
   have h1:=less_len a b
   have h2:=less_len b a
   refine Ev.bind (mgLess_ok a b ha hb) (Ev.bind (mgLess_ok b a hb ha) ?_)
   have h:=specTracks_l0 (less a b ++ less b a) [] [] (by simp;omega) (by simp)
   simp only[List.nil_append,List.length_nil,Int.natCast_zero]at h
   refine Ev.congr (fun k=>?_) (ev_eq h (by simp only[changedR,g,if_true,putsS_eq]))
   rw[if_pos (show(less a b).length+(less b a).length<5864062014805 by omega)]
   simp only[Option.bind_some]
theorem implChanged_ok (a b:List S40) (ha:a.length≤1048576) (hb:b.length≤1048576):Ev (fun k=>impl_ChangedTracks.f k a b) (changedR a b):=by
 have h1:=less_len a b
 have h2:=less_len b a
 obtain⟨K1,e1⟩:=isSheet_ok a (by omega)
 obtain⟨K2,e2⟩:=isSheet_ok b (by omega)
 obtain⟨K3,e3⟩:=tracksUsed_ok (less a b ++ less b a) (by simp;omega)
 dsimp only at e1 e2 e3
 refine⟨K1+K2+K3+1,fun k hk=>?_⟩
 obtain⟨m,rfl⟩:∃m,k=m+1:=⟨k-1,by omega⟩
 dsimp only
 rw[impl_ChangedTracks.f,e1 (m+1) (by omega),e2 (m+1) (by omega)]
 have hj:impl_ChangedTracks.j0 (m+1) a b false=some (setOf ((less a b ++ less b a).map (fun x=>x.f0)),true):=by
  rw[impl_ChangedTracks.j0,if_neg (by decide),lessHoles_ok a b ha,lessHoles_ok b a hb]
  simp only[Option.bind_some]
  rw[if_pos (by omega),e3 m (by omega)]
  simp only[Option.bind_some]
 have hj2:impl_ChangedTracks.j0 (m+1) a b true=some ([],false):=by
  rw[impl_ChangedTracks.j0,if_pos rfl]
 unfold changedR
 cases good a
 · simp only[Option.bind_some,Bool.false_and,Bool.false_eq_true,if_false];exact hj2
 · cases good b
   · simp only[Option.bind_some,Bool.true_and,Bool.false_eq_true,if_false,if_true,Bool.not_false];exact hj2
   · simp only[Option.bind_some,Bool.true_and,if_true,Bool.not_true];exact hj

def applyR (l g f:List S40):List S40×Bool:=
 if(good l && (good g && good f))=true then(if(less g l).length>0 then([],false) else if f.any (hasH (less l g))=true then([],false) else sortedR (less l g ++ f)) else([],false)
theorem applyR_len (l g f:List S40):(applyR l g f).1.length≤60:=by
 unfold applyR
 split
 · split
   · simp
   · split
     · simp
     · exact sortedR_len _
 · simp
theorem less_any (f b:List S40):(less f b).length<f.length↔f.any (hasH b)=true:=by
 unfold less
 rw[List.length_filter_lt_length_iff_exists,List.any_eq_true]
 simp
theorem specApply_l0 (out all:List S40) (ho:out.length≤1048576) (ha:all.length≤1048576) (suf:List S40):∀pre:List S40,(pre ++ suf).length≤1048576 →
 Ev (fun k=>spec_ApplyDifference.l0 k all out (pre ++ suf) ((pre ++ suf).length:Int) (pre.length:Int)) (if suf.any (hasH out)=true then([],false) else sortedR (out ++ all)):=by
 induction suf with
 | nil=>
   intro pre _
   obtain⟨K,e⟩:=shSorted_ok (out ++ all) (by simp;omega)
   refine⟨K+1,fun k hk=>?_⟩
   obtain⟨m,rfl⟩:∃m,k=m+1:=⟨k-1,by omega⟩
   have e1:=e m (by omega)
   dsimp only at e1 ⊢
   rw[spec_ApplyDifference.l0,if_neg (by simp),if_pos (by omega),e1]
   rfl
 | cons x suf ih=>
   intro pre hl
   have hlp:pre.length≤1048576:=by simp at hl;omega
   have hl':(pre.length:Int)<((pre ++ x :: suf).length:Int):=by simp;omega
   have hw:wrap64 ((pre.length:Int)+1)=(pre.length:Int)+1:=wrapS (by omega) (by omega)
   obtain⟨K1,e1⟩:=mgHas_ok out x ho
   have h:=ih (pre ++ [x]) (by simp at hl ⊢;omega)
   rw[snoc_app,snoc_leni]at h
   obtain⟨K2,e2⟩:=h
   refine⟨K1+K2+1,fun k hk=>?_⟩
   obtain⟨m,rfl⟩:∃m,k=m+1:=⟨k-1,by omega⟩
   have e3:=e1 m (by omega)
   have e4:=e2 m (by omega)
   dsimp only at e3 e4 ⊢
   rw[spec_ApplyDifference.l0,if_pos hl',if_pos (by omega),if_pos hl',rdH_mid,e3,hw,e4]
   cases c:hasH out x<;>simp[c]
theorem specApply_ok (l g f:List S40) (hl:l.length≤1048576) (hg:g.length≤1048576) (hf:f.length≤1048576):Ev (fun k=>spec_ApplyDifference.f k l g f) (applyR l g f):=by
 have h1:=less_len l g
 obtain⟨K1,e1⟩:=shGood_ok l (by omega)
 obtain⟨K2,e2⟩:=mgTwo_ok g f hg hf
 obtain⟨K3,e3⟩:=mgLess_ok g l hg hl
 obtain⟨K4,e4⟩:=mgLess_ok l g hl hg
 obtain⟨K5,e5⟩:=specApply_l0 (less l g) f (by omega) hf f [] (by simpa using hf)
 refine⟨K1+K2+K3+K4+K5+1,fun k hk=>?_⟩
 obtain⟨m,rfl⟩:∃m,k=m+1:=⟨k-1,by omega⟩
 have f1:=e1 (m+1) (by omega)
 have f2:=e2 (m+1) (by omega)
 have f3:=e3 (m+1) (by omega)
 have f4:=e4 m (by omega)
 have f5:=e5 m (by omega)
 dsimp only at f1 f2 f3 f4 f5 ⊢
 simp only[List.nil_append,List.length_nil,Int.natCast_zero]at f5
 have j1:spec_ApplyDifference.j0 (m+1) l g f true=some ([],false):=by rw[spec_ApplyDifference.j0,if_pos rfl]
 have j2:spec_ApplyDifference.j0 (m+1) l g f false=some (if f.any (hasH (less l g))=true then([],false) else sortedR (less l g ++ f)):=by rw[spec_ApplyDifference.j0,if_neg (by decide),f4];exact f5
 rw[spec_ApplyDifference.f,f1,f2,f3]
 unfold applyR
 cases good l
 · exact j1
 · cases hgf:(good g && good f)
   · exact j1
   · show spec_ApplyDifference.j0 (m+1) l g f (decide (((less g l).length:Int)>0))=_
     by_cases c:(less g l).length>0
     · rw[decide_eq_true (by omega),j1];simp[c]
     · rw[decide_eq_false (by omega),j2];simp[c]
theorem implApply_ok (l g f:List S40) (hl:l.length≤1048576) (hg:g.length≤1048576) (hf:f.length≤1048576):Ev (fun k=>impl_ApplyDifference.f k l g f) (applyR l g f):=by
 have h1:=less_len l g
 obtain⟨K1,e1⟩:=isSheet_ok l (by omega)
 obtain⟨K2,e2⟩:=isSheet_ok g (by omega)
 obtain⟨K3,e3⟩:=isSheet_ok f (by omega)
 obtain⟨K4,e4⟩:=sheetOf_ok (less l g ++ f) (by simp;omega)
 refine⟨K1+K2+K3+K4+1,fun k hk=>?_⟩
 obtain⟨m,rfl⟩:∃m,k=m+1:=⟨k-1,by omega⟩
 have f1:=e1 (m+1) (by omega)
 have f2:=e2 (m+1) (by omega)
 have f3:=e3 (m+1) (by omega)
 have f4:=e4 m (by omega)
 dsimp only at f1 f2 f3 f4 ⊢
 have j1:impl_ApplyDifference.j0 (m+1) l g f true=some ([],false):=by rw[impl_ApplyDifference.j0,if_pos rfl]
 have j2:impl_ApplyDifference.j0 (m+1) l g f false=some (if f.any (hasH (less l g))=true then([],false) else sortedR (less l g ++ f)):=by
  rw[impl_ApplyDifference.j0,if_neg (by decide),lessHoles_ok l g hl]
  simp only[Option.bind_some]
  rw[lessHoles_ok f (less l g) hf]
  simp only[Option.bind_some]
  by_cases c:f.any (hasH (less l g))=true
  · rw[if_pos (by have:=(less_any f (less l g)).2 c;omega),if_pos c]
  · have n:¬(less f (less l g)).length<f.length:=fun q=>c ((less_any f (less l g)).1 q)
    rw[if_neg (by omega),if_neg c,if_pos (by omega),f4]
    rfl
 rw[impl_ApplyDifference.f,f1,f2,f3]
 unfold applyR
 cases good l
 · exact j1
 · cases good g
   · exact j1
   · cases good f
     · exact j1
     · rw[lessHoles_ok g l hg]
       show impl_ApplyDifference.j0 (m+1) l g f (decide (((less g l).length:Int)>0))=_
       by_cases c:(less g l).length>0
       · rw[decide_eq_true (by omega),j1];simp[c]
       · rw[decide_eq_false (by omega),j2];simp[c]

theorem rdHH_mid (pre suf:List (List S40)) (x:List S40):rd_L3 (pre ++ x :: suf) (pre.length:Int)=x:=getD_mid _ _ _ _ _ (by simp)

theorem areSheets_l0 (l:List (List S40)) (n:Int) (suf:List (List S40)):∀pre:List (List S40),(pre ++ suf).length≤1048576→(∀x∈suf,x.length≤1048576) →
 Ev (fun k=>impl_areSheets.l0 k l n (pre ++ suf) ((pre ++ suf).length:Int) (pre.length:Int)) (suf.all good && decide (1≤(l.length:Int)∧(l.length:Int)≤n)):=by
 induction suf with
 | nil=>
   intro pre _ _
   refine ev_step (f:=fun _=>some _) (Ev.now _) (fun k=>?_)
   rw[impl_areSheets.l0,if_neg (by simp)]
   by_cases c:(l.length:Int)≥1
   · rw[if_pos c];congr 1;simp only[List.all_nil,Bool.true_and];exact decide_eq_decide.2 ⟨fun q=>⟨c,q⟩,fun q=>q.2⟩
   · rw[if_neg c];congr 1;simp only[List.all_nil,Bool.true_and];exact(decide_eq_false (fun q=>c q.1)).symm
 | cons x suf ih=>
   intro pre hl hx
   have hlp:pre.length≤1048576:=by simp at hl;omega
   have h:=ih (pre ++ [x]) (by simp at hl ⊢;omega) (fun y hy=>hx y (List.mem_cons_of_mem _ hy))
   rw[snoc_app,snoc_leni]at h
   have hl':(pre.length:Int)<((pre ++ x :: suf).length:Int):=by simp;omega
   have hw:wrap64 ((pre.length:Int)+1)=(pre.length:Int)+1:=wrapS (by omega) (by omega)
   obtain⟨K1,e1⟩:=isSheet_ok x (by have:=hx x List.mem_cons_self;omega)
   obtain⟨K2,e2⟩:=h
   dsimp only at e1 e2
   refine⟨K1+K2+1,fun k hk=>?_⟩
   obtain⟨m,rfl⟩:∃m,k=m+1:=⟨k-1,by omega⟩
   dsimp only
   rw[impl_areSheets.l0,if_pos hl',if_pos (by omega),if_pos hl',rdHH_mid,e1 m (by omega)]
   simp only[Option.bind_some]
   rw[hw,e2 m (by omega)]
   cases g:good x<;>simp[g]
theorem areSheets_ok (l:List (List S40)) (n:Int) (hl:l.length≤1048576) (hx:∀x∈l,x.length≤1048576):Ev (fun k=>impl_areSheets.f k l n) (l.all good && decide (1≤(l.length:Int)∧(l.length:Int)≤n)):=
 Ev.congr (f:=fun k=>impl_areSheets.l0 k l n l (l.length:Int) 0) (fun _=>rfl) (areSheets_l0 l n l [] (by simpa using hl) hx)

theorem l1In_dec (a b c:Int):spec_l1In.f a b c=some (decide (b≤a∧a≤c)):=by
 unfold spec_l1In.f
 by_cases h:a≥b
 · rw[if_pos h];congr 1;exact decide_eq_decide.2 ⟨fun q=>⟨h,q⟩,fun q=>q.2⟩
 · rw[if_neg h];congr 1;exact(decide_eq_false (fun q=>h q.1)).symm
/-- The place of the nearest of the sheets seen so far, and what stands ahead. -/
def nearestBy (D:Int→Int):Nat→Int→Int→Int
 | 0,_,b=>b
 | d+1,i,b=>nearestBy D d (i+1) (if D i<D b then i else b)
theorem nearestBy_succ (D:Int→Int) (d:Nat) (i b:Int):nearestBy D (d+1) i b=nearestBy D d (i+1) (if D i<D b then i else b):=rfl
theorem nearestBy_zero (D:Int→Int) (i b:Int):nearestBy D 0 i b=b:=rfl
theorem row_len (s:List (List S40)) (hx:∀x∈s,x.length≤1048576) (i:Int):(rd_L3 s i).length≤1048576:=by
 by_cases c:i.toNat<s.length
 · refine hx _ ?_
   have e:rd_L3 s i=s[i.toNat]:=by simp[rd_L3,List.getD_eq_getElem?_getD,List.getElem?_eq_getElem c]
   rw[e];exact List.getElem_mem c
 · have e:rd_L3 s i = []:=by simp only[rd_L3,List.getD_eq_getElem?_getD];rw[List.getElem?_eq_none (by omega)];rfl
   rw[e];simp
theorem specNear_l1 (l:List S40) (s:List (List S40)) (D:Int→Int) (hs:s.length≤8) (hD:∀i:Int,Ev (fun k=>spec_mgDistance.f k l (rd_L3 s i)) (D i)) (d:Nat):∀(i:Nat) (b:Int),i+d=s.length→0≤b→b<s.length →
 Ev (fun k=>spec_NearestSheet.l1 k l s b s (s.length:Int) (i:Int)) (nearestBy D d (i:Int) b,D (nearestBy D d (i:Int) b),true):=by
 induction d with
 | zero=>
   intro i b hi h0 h1
   obtain⟨K,e⟩:=hD b
   refine⟨K+1,fun k hk=>?_⟩
   obtain⟨m,rfl⟩:∃m,k=m+1:=⟨k-1,by omega⟩
   have e1:=e m (by omega)
   dsimp only at e1
   dsimp only
   rw[spec_NearestSheet.l1,if_neg (by omega),if_pos h0,if_pos h1,e1,nearestBy_zero]
   simp only[Option.bind_some]
 | succ d ih=>
   intro i b hi h0 h1
   obtain⟨K1,e1⟩:=hD (i:Int)
   obtain⟨K2,e2⟩:=hD b
   have hw:wrap64 ((i:Int)+1)=((i+1:Nat):Int):=by rw[wrapS (by omega) (by omega)];simp
   have g0:0≤(if D (i:Int)<D b then(i:Int) else b):=by by_cases c:D (i:Int)<D b<;>simp only[c,if_true,if_false]<;>omega
   have g1:(if D (i:Int)<D b then(i:Int) else b)<s.length:=by by_cases c:D (i:Int)<D b<;>simp only[c,if_true,if_false]<;>omega
   obtain⟨K3,e3⟩:=ih (i+1) (if D (i:Int)<D b then(i:Int) else b) (by omega) g0 g1
   refine⟨K1+K2+K3+1,fun k hk=>?_⟩
   obtain⟨m,rfl⟩:∃m,k=m+1:=⟨k-1,by omega⟩
   have q1:=e1 m (by omega)
   have q2:=e2 m (by omega)
   have q3:=e3 m (by omega)
   dsimp only at q1 q2 q3
   have e:((i+1:Nat):Int)=(i:Int)+1:=by simp
   dsimp only
   rw[spec_NearestSheet.l1,if_pos (by omega),if_pos (by omega),if_pos (by omega),q1]
   simp only[Option.bind_some]
   rw[if_pos h0,if_pos h1,q2,hw]
   simp only[Option.bind_some]
   rw[nearestBy_succ, ← e, ← q3]
   by_cases c:D (i:Int)<D b
   · rw[if_pos c,if_pos c]
   · rw[if_neg c,if_neg c]
theorem implNear_l0 (l:List S40) (s:List (List S40)) (D:Int→Int) (hs:s.length≤8) (hD:∀i:Int,impl_distanceOf.f l (rd_L3 s i)=some (D i)) (d:Nat):∀(i:Nat) (b:Int),i+d=s.length →
 Ev (fun k=>impl_NearestSheet.l0 k l b (D b) s (s.length:Int) (i:Int)) (nearestBy D d (i:Int) b,D (nearestBy D d (i:Int) b),true):=by
 induction d with
 | zero=>
   intro i b hi
   refine ev_step (f:=fun _=>some _) (Ev.now _) (fun k=>?_)
   rw[impl_NearestSheet.l0,if_neg (by omega),nearestBy_zero]
 | succ d ih=>
   intro i b hi
   have hw:wrap64 ((i:Int)+1)=((i+1:Nat):Int):=by rw[wrapS (by omega) (by omega)];simp
   have h:=ih (i+1) (if D (i:Int)<D b then(i:Int) else b) (by omega)
   have e:((i+1:Nat):Int)=(i:Int)+1:=by simp
   rw[nearestBy_succ, ← e]
   refine ev_step h (fun k=>?_)
   rw[impl_NearestSheet.l0,if_pos (by omega),if_pos (by omega),if_pos (by omega),hD (i:Int),hw]
   simp only[Option.bind_some]
   by_cases c:D (i:Int)<D b
   · rw[if_pos c,if_pos c]
   · rw[if_neg c,if_neg c]
theorem specNear_l0 (l:List S40) (s:List (List S40)) (R:Int×Int×Bool) (suf:List (List S40)):∀pre:List (List S40),(pre ++ suf).length≤1048576→(∀x∈suf,x.length≤1048576) →
 Ev (fun k=>spec_NearestSheet.l1 k l s 0 s (s.length:Int) 0) R →
 Ev (fun k=>spec_NearestSheet.l0 k l s (pre ++ suf) ((pre ++ suf).length:Int) (pre.length:Int)) (if suf.all good=true then R else(0,0,false)):=by
 induction suf with
 | nil=>
   intro pre _ _ h
   refine ev_step (ev_eq h (by simp)) (fun k=>?_)
   rw[spec_NearestSheet.l0,if_neg (by simp)]
 | cons x suf ih=>
   intro pre hl hx h
   have hlp:pre.length≤1048576:=by simp at hl;omega
   have h2:=ih (pre ++ [x]) (by simp at hl ⊢;omega) (fun y hy=>hx y (List.mem_cons_of_mem _ hy)) h
   rw[snoc_app,snoc_leni]at h2
   have hl':(pre.length:Int)<((pre ++ x :: suf).length:Int):=by simp;omega
   have hw:wrap64 ((pre.length:Int)+1)=(pre.length:Int)+1:=wrapS (by omega) (by omega)
   obtain⟨K1,e1⟩:=shGood_ok x (by have:=hx x List.mem_cons_self;omega)
   obtain⟨K2,e2⟩:=h2
   dsimp only at e1 e2
   refine⟨K1+K2+1,fun k hk=>?_⟩
   obtain⟨m,rfl⟩:∃m,k=m+1:=⟨k-1,by omega⟩
   dsimp only
   rw[spec_NearestSheet.l0,if_pos hl',if_pos (by omega),if_pos hl',rdHH_mid,e1 m (by omega)]
   simp only[Option.bind_some]
   rw[hw,e2 m (by omega)]
   cases g:good x<;>simp[g]
def nearD (D:Int→Int) (n:Nat) (ok:Bool):Int×Int×Bool:=if ok=true then(nearestBy D n 0 0,D (nearestBy D n 0 0),true) else(0,0,false)
theorem nearD_false (D:Int→Int) (n:Nat):nearD D n false=(0,0,false):=rfl
theorem nearD_true (D:Int→Int) (n:Nat):nearD D n true=(nearestBy D n 0 0,D (nearestBy D n 0 0),true):=rfl
def nearOk (l:List S40) (s:List (List S40)):Bool:=good l && (s.all good && decide (1≤(s.length:Int)∧(s.length:Int)≤8))
theorem specNear_D (l:List S40) (s:List (List S40)) (hl:l.length≤1048576) (hs:s.length≤1048576) (hx:∀x∈s,x.length≤1048576) (D:Int→Int) (hD:∀i:Int,Ev (fun k=>spec_mgDistance.f k l (rd_L3 s i)) (D i)):Ev (fun k=>spec_NearestSheet.f k l s) (nearD D s.length (nearOk l s)):=by
 have no:∀b:Bool,b=true→nearOk l s=false→Ev (fun k=>spec_NearestSheet.j0 k l s b) (nearD D s.length (nearOk l s)):=fun b hb g=>by
  rw[hb,g,nearD_false]
  refine ev_step (f:=fun _=>some _) (Ev.now _) (fun k=>?_)
  rw[spec_NearestSheet.j0,if_pos rfl]
 refine Ev.bind (shGood_ok l (by omega)) ?_
 cases g:good l with
 | false=>
   simp only[Bool.false_eq_true,if_false]
   exact no true rfl (by simp[nearOk,g])
 | true=>
   simp only[if_true,l1In_dec,Option.bind_some]
   by_cases c:1≤(s.length:Int)∧(s.length:Int)≤8
   · have h1:=specNear_l1 l s D (by omega) hD s.length 0 0 (by omega) (by omega) (by omega)
     have h0:=specNear_l0 l s _ s [] (by simpa using hs) hx h1
     refine ev_step (ev_eq h0 ?_) (fun k=>?_)
     · simp only[nearOk,g,Bool.true_and,decide_eq_true c,Bool.and_true]
       cases ga:s.all good
       · rw[nearD_false,if_neg (by decide)]
       · rw[nearD_true,if_pos rfl];rfl
     · rw[spec_NearestSheet.j0,if_neg (by rw[decide_eq_true c];decide)];rfl
   · exact no _ (by rw[decide_eq_false c];rfl) (by simp only[nearOk,decide_eq_false c,Bool.and_false])
theorem implNear_D (l:List S40) (s:List (List S40)) (hl:l.length≤1048576) (hs:s.length≤1048576) (hx:∀x∈s,x.length≤1048576) (D:Int→Int) (hD:∀i:Int,impl_distanceOf.f l (rd_L3 s i)=some (D i)):Ev (fun k=>impl_NearestSheet.f k l s) (nearD D s.length (nearOk l s)):=by
 have no:∀b:Bool,b=true→nearOk l s=false→Ev (fun k=>impl_NearestSheet.j0 k l s b) (nearD D s.length (nearOk l s)):=fun b hb g=>by
  rw[hb,g,nearD_false]
  refine ev_step (f:=fun _=>some _) (Ev.now _) (fun k=>?_)
  rw[impl_NearestSheet.j0,if_pos rfl]
 refine Ev.bind (isSheet_ok l (by omega)) ?_
 cases g:good l with
 | false=>
   simp only[Bool.false_eq_true,if_false]
   exact no true rfl (by simp[nearOk,g])
 | true=>
   simp only[if_true]
   refine Ev.bind (areSheets_ok s 8 hs hx) ?_
   cases ga:(s.all good && decide (1≤(s.length:Int)∧(s.length:Int)≤8)) with
   | false=>exact no _ rfl (by simp only[nearOk,g,ga,Bool.and_false])
   | true=>
     have hc:=of_decide_eq_true (Bool.and_eq_true_iff.1 ga).2
     have h0:=implNear_l0 l s D (by omega) hD s.length 0 0 (by omega)
     have go:nearOk l s=true:=by simp only[nearOk,g,ga,Bool.and_self]
     rw[go,nearD_true]
     refine ev_step h0 (fun k=>?_)
     rw[impl_NearestSheet.j0,if_neg (by decide),if_pos (by omega),hD 0]
     simp only[Option.bind_some]
     simp
def nearR (l:List S40) (s:List (List S40)):Int×Int×Bool:=nearD (fun j=>dist l (rd_L3 s j)) s.length (nearOk l s)
theorem specNear_ok (l:List S40) (s:List (List S40)) (hl:l.length≤1048576) (hs:s.length≤1048576) (hx:∀x∈s,x.length≤1048576):Ev (fun k=>spec_NearestSheet.f k l s) (nearR l s):=
 specNear_D l s hl hs hx (fun j=>dist l (rd_L3 s j)) (fun i=>mgDistance_ok l (rd_L3 s i) hl (row_len s hx i))
theorem implNear_ok (l:List S40) (s:List (List S40)) (hl:l.length≤1048576) (hs:s.length≤1048576) (hx:∀x∈s,x.length≤1048576):Ev (fun k=>impl_NearestSheet.f k l s) (nearR l s):=
 implNear_D l s hl hs hx (fun j=>dist l (rd_L3 s j)) (fun i=>distanceOf_ok l (rd_L3 s i) hl (row_len s hx i))

theorem sameI_l0 (suf:List Int):∀pre:List Int,(pre ++ suf).length≤9223372036854775806→Ev (fun k=>laws_sameInts.l0 k (pre ++ suf) (pre ++ suf) ((pre ++ suf).length:Int) (pre.length:Int)) true:=by
 induction suf with
 | nil=>
   intro pre _
   refine ev_step (f:=fun _=>some _) (Ev.now _) (fun k=>?_)
   rw[laws_sameInts.l0,if_neg (by simp)]
 | cons x suf ih=>
   intro pre hl
   have h:=ih (pre ++ [x]) (by simp at hl ⊢;omega)
   rw[snoc_app,snoc_leni]at h
   have hl':(pre.length:Int)<((pre ++ x :: suf).length:Int):=by simp;omega
   refine ev_step h (fun k=>?_)
   rw[laws_sameInts.l0,if_pos hl',if_pos (by omega),if_pos hl',if_pos hl',if_pos rfl,wrapS (by omega) (by simp at hl;omega)]
theorem sameInts_ok (l:List Int) (h:l.length≤9223372036854775806):Ev (fun k=>laws_sameInts.f k l l) true:=by
 have:=sameI_l0 l [] (by simpa using h)
 refine Ev.congr (fun k=>?_) this
 rw[laws_sameInts.f,if_pos rfl]
 rfl
theorem pIn_l0 (v:Int) (suf:List Int):∀pre:List Int,(pre ++ suf).length≤1048576→Ev (fun k=>laws_pIn.l0 k v (pre ++ suf) ((pre ++ suf).length:Int) (pre.length:Int)) (decide (v∈suf)):=by
 induction suf with
 | nil=>
   intro pre _
   refine ev_step (f:=fun _=>some _) (Ev.now _) (fun k=>?_)
   rw[laws_pIn.l0,if_neg (by simp)];simp
 | cons x suf ih=>
   intro pre hl
   have h:=ih (pre ++ [x]) (by simp at hl ⊢;omega)
   rw[snoc_app,snoc_leni]at h
   have hl':(pre.length:Int)<((pre ++ x :: suf).length:Int):=by simp;omega
   by_cases c:x=v
   · refine ev_step (f:=fun _=>some _) (Ev.now _) (fun k=>?_)
     rw[laws_pIn.l0,if_pos hl',if_pos (by omega),if_pos hl',rd_mid,if_pos c];simp[c]
   · refine ev_step (ev_eq h (by simp[show ¬v=x from fun e=>c e.symm])) (fun k=>?_)
     rw[laws_pIn.l0,if_pos hl',if_pos (by omega),if_pos hl',rd_mid,if_neg c,wrapS (by omega) (by simp at hl;omega)]
theorem pIn_ok (l:List Int) (v:Int) (h:l.length≤1048576):Ev (fun k=>laws_pIn.f k l v) (decide (v∈l)):=
 Ev.congr (fun _=>rfl) (pIn_l0 v l [] (by simpa using h))

theorem sameH_l0 (suf:List S40):∀pre:List S40,(pre ++ suf).length≤4000000→Ev (fun k=>laws_pSameHoles.l0 k (pre ++ suf) (pre ++ suf) ((pre ++ suf).length:Int) (pre.length:Int)) true:=by
 induction suf with
 | nil=>
   intro pre _
   refine ev_step (f:=fun _=>some _) (Ev.now _) (fun k=>?_)
   rw[laws_pSameHoles.l0,if_neg (by simp)]
 | cons x suf ih=>
   intro pre hl
   have h:=ih (pre ++ [x]) (by simp at hl ⊢;omega)
   rw[snoc_app,snoc_leni]at h
   have hl':(pre.length:Int)<((pre ++ x :: suf).length:Int):=by simp;omega
   refine ev_step h (fun k=>?_)
   rw[laws_pSameHoles.l0,if_pos hl',if_pos (by omega),if_pos hl',if_pos hl',if_neg (by simp),wrapS (by omega) (by simp at hl;omega)]
theorem sameHoles_ok (l:List S40) (h:l.length≤4000000):Ev (fun k=>laws_pSameHoles.f k l l) true:=by
 have:=sameH_l0 l [] (by simpa using h)
 refine Ev.congr (fun k=>?_) this
 rw[laws_pSameHoles.f,if_pos rfl]
 rfl

theorem good_less (a b:List S40) (g:good a=true):good (less a b)=true:=by
 obtain⟨h1,h2,h3⟩:=(good_iff a).1 g
 refine(good_iff _).2 ⟨fun x hx=>h1 x (List.mem_filter.1 hx).1,h2.filter _,Nat.le_trans (less_len a b) h3⟩
theorem less_nil (a b:List S40) (h:∀x∈a,x∈b):less a b = []:=by
 unfold less
 refine List.filter_eq_nil_iff.2 (fun x hx=>?_)
 rw[(hasH_mem b x).2 (h x hx)];simp
theorem apply_there (a b:List S40) (ga:good a=true) (gb:good b=true):applyR a (less a b) (less b a)=(b,true):=by
 have g1:=good_less a b ga
 have g2:=good_less b a gb
 have e1:less (less a b) a = []:=less_nil _ _ (fun x hx=>((mem_less a b x).1 hx).1)
 have e2:¬(less b a).any (hasH (less a (less a b)))=true:=by
  intro h
  obtain⟨x,hx,hy⟩:=List.any_eq_true.1 h
  rw[hasH_mem,mem_less]at hy
  exact((mem_less b a x).1 hx).2 hy.1
 have hp:(less a (less a b) ++ less b a).Perm b:=by
  have n1:(less a (less a b) ++ less b a).Nodup:=by
   refine List.nodup_append.2 ⟨less_nodup _ _ (good_nodup a ga),less_nodup _ _ (good_nodup b gb),?_⟩
   intro x hx y hy e
   subst e
   exact((mem_less b a x).1 hy).2 ((mem_less _ _ x).1 hx).1
  refine(List.perm_ext_iff_of_nodup n1 (good_nodup b gb)).2 (fun x=>?_)
  rw[List.mem_append,mem_less,mem_less,mem_less]
  by_cases h1:x∈a<;>by_cases h2:x∈b<;>simp[h1,h2]
 have e3:=srt_of_perm b _ gb hp
 unfold applyR
 rw[ga,g1,g2,if_pos (show(true && (true && true))=true from rfl),e1,if_neg (by simp),if_neg e2,sortedR,e3,if_pos gb]
theorem filt_len (p:S40→Bool) (l:List S40):(l.filter p).length+(l.filter fun x=> !p x).length=l.length:=by
 induction l with
 | nil=>rfl
 | cons x l ih=>
   by_cases c:p x=true
   · rw[List.filter_cons_of_pos c,List.filter_cons_of_neg (by simp[c])];simp;omega
   · rw[List.filter_cons_of_neg c,List.filter_cons_of_pos (by simp[c])];simp;omega
theorem shared_less (a b:List S40):(shared a b).length+(less a b).length=a.length:=filt_len (hasH b) a
theorem shared_comm (a b:List S40) (ga:good a=true) (gb:good b=true):(shared a b).length=(shared b a).length:=by
 refine List.Perm.length_eq ((List.perm_ext_iff_of_nodup ((good_nodup a ga).filter _) ((good_nodup b gb).filter _)).2 (fun x=>?_))
 rw[List.mem_filter,List.mem_filter,hasH_mem,hasH_mem]
 exact⟨fun h=>⟨h.2,h.1⟩,fun h=>⟨h.2,h.1⟩⟩
theorem dist_len (a b:List S40) (ha:a.length≤1048576) (hb:b.length≤1048576):dist a b=((less a b).length:Int)+((less b a).length:Int):=by
 have:=less_len a b
 have:=less_len b a
 unfold dist
 exact wrapS (by omega) (by omega)
theorem dist_comm (a b:List S40):dist a b=dist b a:=by unfold dist;rw[Int.add_comm]
theorem nearest_is (D:Int→Int) (d:Nat):∀(i b:Int),b≤i→(nearestBy D d i b=b∨(i≤nearestBy D d i b∧nearestBy D d i b<i+d∧D (nearestBy D d i b)<D b))∧∀j,(j=b∨(i≤j∧j<i+d))→D (nearestBy D d i b)≤D j∧(D j=D (nearestBy D d i b)→nearestBy D d i b≤j):=by
 induction d with
 | zero=>
   intro i b hb
   rw[nearestBy_zero]
   refine⟨.inl rfl,fun j hj=>?_⟩
   rcases hj with rfl | h
   · exact⟨Int.le_refl _,fun _=>Int.le_refl _⟩
   · omega
 | succ d ih=>
   intro i b hb
   rw[nearestBy_succ]
   by_cases c:D i<D b
   · rw[if_pos c]
     obtain⟨h1,h2⟩:=ih (i+1) i (by omega)
     generalize nearestBy D d (i+1) i=r at h1 h2
     refine⟨.inr ?_,fun j hj=>?_⟩
     · rcases h1 with e | ⟨e1,e2,e3⟩
       · rw[e];exact⟨by omega,by omega,c⟩
       · exact⟨by omega,by omega,by omega⟩
     · have hi:=h2 i (.inl rfl)
       by_cases hji:j=b
       · subst hji
         exact⟨by omega,fun e=>by omega⟩
       · by_cases hj2:j=i
         · rw[hj2];exact hi
         · exact h2 j (.inr (by omega))
   · rw[if_neg c]
     obtain⟨h1,h2⟩:=ih (i+1) b (by omega)
     generalize nearestBy D d (i+1) b=r at h1 h2
     refine⟨?_,fun j hj=>?_⟩
     · rcases h1 with e | ⟨e1,e2,e3⟩
       · exact .inl e
       · exact .inr ⟨by omega,by omega,e3⟩
     · by_cases hji:j=i
       · subst hji
         have hb2:=h2 b (.inl rfl)
         refine⟨by omega,fun e=>?_⟩
         rcases h1 with e1 | ⟨e1,e2,e3⟩
         · rw[e1];exact hb
         · omega
       · exact h2 j (by omega)

end Go.Proofs.YtplpjmhmochcfaaGreat.LFnDifferencesA
