/- Plain lemmas on what the printed functions of this law compute; each with the conditions that it names. -/
import Derived.Test.YtcnegcdmmackeaaGreatQFnEditionsx3
import Derived.Test.YtcnegcdmmackeaaGreatQFnEditionsx4
import Derived.Test.YtcnegcdmmackeaaGreatQFnEditionsx5
import Derived.Test.YtcnegcdmmackeaaGreatQFnEditionsx6
import Derived.Test.YtcnegcdmmackeaaGreatQFnEditionsx7
import Derived.Test.YtcnegcdmmackeaaGreatQFnEditionsx8
import Derived.Test.YtcnegcdmmackeaaGreatQFnEditionsx9
import Derived.Test.YtcnegcdmmackeaaGreatQFnEditionsx10
import Derived.Test.YtcnegcdmmackeaaGreatQFnEditionsx11
import Derived.Test.YtcnegcdmmackeaaGreatQFnEditionsx12
import Derived.Test.YtcnegcdmmackeaaGreatQFnEditionsx13
import Derived.Test.YtcnegcdmmackeaaGreatQFnEditionsx14
import Derived.Test.YtcnegcdmmackeaaGreatQFnEditionsx15
import Derived.Test.YtcnegcdmmackeaaGreatQFnEditionsx16
import Derived.Test.YtcnegcdmmackeaaGreatQFnEditionsx17
import Derived.Test.YtcnegcdmmackeaaGreatQFnEditionsx18
import Derived.Test.YtcnegcdmmackeaaGreatQFnEditionsx19
import Derived.Test.YtcnegcdmmackeaaGreatQFnEditionsx20
import Derived.Test.YtcnegcdmmackeaaGreatQFnEditionsx21
import Derived.Test.YtcnegcdmmackeaaGreatQFnEditionsx22
import Derived.Test.YtcnegcdmmackeaaGreatQFnEditionsx23
import Derived.Test.YtcnegcdmmackeaaGreatBaseE
namespace Go.Proofs.YtcnegcdmmackeaaGreat.LFnEditionsA
open Go Go.RowKit Go.Proofs.YtcnegcdmmackeaaGreat.QFnEditions Go.Proofs.YtcnegcdmmackeaaGreatW.PrintWords Go.Proofs.YtcnegcdmmackeaaGreatW.PrintLast Go.Proofs.YtcnegcdmmackeaaGreatW.PrintMore Go.Proofs.YtcnegcdmmackeaaGreat.Base
set_option linter.unusedVariables false
set_option linter.unusedSimpArgs false

/-- A valid hole. -/
def holeOk (t a b:Int):Bool:=decide (0≤t∧t≤19∧0≤a∧a≤1999∧a<b∧b≤2000)

theorem shHole_ok (t a b:Int):Ya.f t a b=some (holeOk t a b):=by
 unfold Ya.f ZB.f holeOk
 by_cases h1:0≤t
 · by_cases h2:t≤19
   · by_cases h3:0≤a
     · by_cases h4:a≤1999
       · have hw:wrap64 (a+1)=a+1:=wrapS (by omega) (by omega)
         by_cases h5:a+1≤b
         · simp[h1,h2,h3,h4,hw,h5,show a<b by omega]
         · simp[h1,h2,h3,h4,hw,h5,show ¬a<b by omega]
       · simp[h1,h2,h3,h4]
     · simp[h1,h2,h3]
   · simp[h1,h2]
 · simp[h1]

theorem isHole_ok (t a b:Int):Z3.f t a b=some (holeOk t a b):=by
 unfold Z3.f Z2.f holeOk
 by_cases h1:0≤t
 · by_cases h2:t<20
   · by_cases h3:0≤a
     · by_cases h4:a<b
       · by_cases h5:b≤2000
         · simp[h1,h2,h3,h4,h5,show t≤19 by omega,show a≤1999 by omega]
         · simp[h1,h2,h3,h4,h5]
       · simp[h1,h2,h3,h4]
     · simp[h1,h2,h3]
   · simp[h1,h2,show ¬t≤19 by omega]
 · simp[h1]

theorem holeOk_bounds {t a b:Int} (h:holeOk t a b=true):0≤t∧t≤19∧0≤a∧a≤1999∧a<b∧b≤2000:=by
 simpa [holeOk] using h

theorem rdH_mid (pre suf:List S62) (x:S62):rd_T62 (pre ++ x :: suf) (pre.length:Int)=x:=getD_mid _ _ _ _ _ (by simp)

/-- The hole x meets the earlier hole y. -/
def meets (x y:S62):Bool:=decide (x.f0=y.f0∧x.f1≤y.f2)
def before (a b:S62):Bool:=decide (a.f1<b.f1∨(a.f1=b.f1∧a.f0<b.f0))
def lastBefore (pre:List S62) (x:S62):Bool:=match pre.getLast? with | none=>true | some p=>before p x
def goodAt (pre:List S62) (x:S62):Bool:=holeOk x.f0 x.f1 x.f2 && (lastBefore pre x && !(pre.any (meets x)))
def goodFrom:List S62→List S62→Bool
 | _, []=>true
 | pre,x :: suf=>goodAt pre x && goodFrom (pre ++ [x]) suf
/-- A valid sheet. -/
def good (l:List S62):Bool:=goodFrom [] l && decide (l.length≤60)

theorem shBefore_ok (a b:S62):Z7.f a.f0 a.f1 a.f2 b.f0 b.f1 b.f2=some (before a b):=by
 unfold Z7.f before
 by_cases h:a.f1<b.f1
 · simp[h]
 · by_cases h1:a.f1=b.f1
   · simp[h1]
   · simp[h,h1]
theorem holeLess_ok (a b:S62):Z8.f a.f0 a.f1 a.f2 b.f0 b.f1 b.f2=some (before a b):=by
 unfold Z8.f before
 by_cases h1:a.f1=b.f1
 · simp[h1]
 · simp[h1]

theorem shGood_l1 (x:S62) (l:List S62) (n i:Int) (r:Bool) (suf:List S62):∀pre:List S62,(pre ++ suf).length≤9223372036854775806 →
 (suf.any (meets x)=true→r=false)→(suf.any (meets x)=false→Ev (fun k=>Zg.l0 k l l n (wrap64 (i+1))) r) →
 Ev (fun k=>Zg.l1 k l l n i (pre ++ suf) ((pre ++ suf).length:Int) (pre.length:Int) x.f0 x.f1 x.f2) r:=by
 induction suf with
 | nil=>
   intro pre _ _ h
   refine ev_step (h rfl) (fun k=>?_)
   rw[Zg.l1,if_neg (by simp)]
 | cons y suf ih=>
   intro pre hl h1 h2
   have hl':(pre.length:Int)<((pre ++ y :: suf).length:Int):=by simp;omega
   have hw:wrap64 ((pre.length:Int)+1)=(pre.length:Int)+1:=wrapS (by omega) (by simp at hl;omega)
   by_cases hm:meets x y=true
   · have e:r=false:=h1 (by simp[hm])
     subst e
     simp only[meets,decide_eq_true_eq]at hm
     refine ev_step ev_const (fun k=>?_)
     rw[Zg.l1,if_pos hl',if_pos (by omega),if_pos hl',rdH_mid,if_pos hm.1,if_pos hm.2]
   · replace hm:meets x y=false:=by simpa using hm
     have h:=ih (pre ++ [y]) (by simp at hl ⊢;omega) (fun e=>h1 (by simp[e])) (fun e=>h2 (by simp[hm,e]))
     rw[snoc_app,snoc_leni]at h
     simp only[meets,decide_eq_false_iff_not]at hm
     refine ev_step h (fun k=>?_)
     rw[Zg.l1,if_pos hl',if_pos (by omega),if_pos hl',rdH_mid,hw]
     by_cases e:x.f0=y.f0
     · rw[if_pos e,if_neg (fun e2=>hm ⟨e,e2⟩)]
     · rw[if_neg e]

theorem shGood_j1 (x:S62) (pre suf:List S62) (n:Int) (b r:Bool) (hl:(pre ++ suf).length≤9223372036854775806) (hb:b=true→r=false) (h1:b=false→pre.any (meets x)=true→r=false)
 (h2:b=false→pre.any (meets x)=false→Ev (fun k=>Zg.l0 k (pre ++ suf) (pre ++ suf) n (wrap64 ((pre.length:Int)+1))) r) :
 Ev (fun k=>Zg.j1 k (pre ++ suf) (pre.length:Int) (pre ++ suf) n (pre.length:Int) b x.f0 x.f1 x.f2) r:=by
 cases b with
 | true=>
   obtain rfl:=hb rfl
   refine ev_step ev_const (fun k=>?_)
   rw[Zg.j1,if_pos rfl]
 | false=>
   have h:=shGood_l1 x (pre ++ suf) n (pre.length:Int) r pre [] (by simp at hl ⊢;omega) (h1 rfl) (h2 rfl)
   refine ev_step h (fun k=>?_)
   rw[Zg.j1,if_neg (by decide),if_pos (by omega),if_pos (by simp;omega)]
   simp

theorem shGood_l0 (suf:List S62):∀pre:List S62,(pre ++ suf).length≤9223372036854775806 →
 Ev (fun k=>Zg.l0 k (pre ++ suf) (pre ++ suf) ((pre ++ suf).length:Int) (pre.length:Int)) (goodFrom pre suf && decide ((pre ++ suf).length≤60)):=by
 induction suf with
 | nil=>
   intro pre _
   refine ev_step (Ev.now _) (fun k=>?_)
   rw[Zg.l0,if_neg (by simp)]
   simp[goodFrom]
   omega
 | cons x suf ih=>
   intro pre hl
   have h:=ih (pre ++ [x]) (by simp at hl ⊢;omega)
   rw[snoc_app,snoc_leni]at h
   have hl':(pre.length:Int)<((pre ++ x :: suf).length:Int):=by simp;omega
   have hw:wrap64 ((pre.length:Int)+1)=(pre.length:Int)+1:=wrapS (by omega) (by simp at hl;omega)
   have J:∀b,(b = !(holeOk x.f0 x.f1 x.f2 && lastBefore pre x))→Ev (fun k=>Zg.j1 k (pre ++ x :: suf) (pre.length:Int) (pre ++ x :: suf) ((pre ++ x :: suf).length:Int) (pre.length:Int) b x.f0 x.f1 x.f2) (goodFrom pre (x :: suf) && decide ((pre ++ x :: suf).length≤60)):=by
    intro b hb
    refine shGood_j1 x pre (x :: suf) _ b _ hl (fun e=>?_) (fun e e2=>?_) (fun e e2=>?_)
    · simp only[goodFrom,goodAt]
      cases h1:holeOk x.f0 x.f1 x.f2<;>cases h2:lastBefore pre x<;>simp_all
    · simp[goodFrom,goodAt,e2]
    · rw[hw]
      have e3:goodFrom pre (x :: suf)=goodFrom (pre ++ [x]) suf:=by
       simp only[goodFrom,goodAt,e2]
       cases h1:holeOk x.f0 x.f1 x.f2<;>cases h2:lastBefore pre x<;>simp_all
      rw[e3]
      exact h
   cases ho:holeOk x.f0 x.f1 x.f2 with
   | false=>
     refine ev_step (J true (by simp[ho])) (fun k=>?_)
     rw[Zg.l0,if_pos hl',if_pos (by omega),if_pos hl',rdH_mid,shHole_ok,ho]
     simp
   | true=>
     rcases List.eq_nil_or_concat pre with rfl | ⟨pre',p,rfl⟩
     · refine ev_step (J false (by simp[ho,lastBefore])) (fun k=>?_)
       rw[Zg.l0,if_pos hl',if_pos (by omega),if_pos hl',rdH_mid,shHole_ok,ho]
       simp
     · refine ev_step (J (!(before p x)) (by simp[ho,lastBefore])) (fun k=>?_)
       have e1:((pre' ++ [p]).length:Int)=(pre'.length:Int)+1:=by simp
       have hw2:wrap64 (((pre' ++ [p]).length:Int)-1)=(pre'.length:Int):=by
        rw[e1,wrapS (by omega) (by simp at hl;omega)];omega
       have e2:rd_T62 (pre' ++ [p] ++ x :: suf) (pre'.length:Int)=p:=by
        rw[snoc_app];exact rdH_mid _ _ _
       rw[Zg.l0,if_pos hl',if_pos (by omega),if_pos hl',rdH_mid,shHole_ok,ho]
       simp only[List.concat_eq_append]at *
       simp only[Option.bind_some,if_true]
       rw[if_pos (by omega),hw2,if_pos (by omega),if_pos (by simp;omega),e2,shBefore_ok]
       simp only[Option.bind_some]

theorem shGood_ok (l:List S62) (h:l.length≤9223372036854775806):Ev (fun k=>Zg.f k l) (good l):=
 Ev.congr (fun _=>rfl) (shGood_l0 l [] (by simpa using h))

theorem isSheet_l1 (x:S62) (l:List S62) (n i:Int) (r:Bool) (suf:List S62):∀pre:List S62,(pre ++ suf).length≤9223372036854775806 →
 (suf.any (meets x)=true→r=false)→(suf.any (meets x)=false→Ev (fun k=>Zd.l0 k l l n (wrap64 (i+1))) r) →
 Ev (fun k=>Zd.l1 k l l n i (pre ++ suf) ((pre ++ suf).length:Int) (pre.length:Int) x.f0 x.f1 x.f2) r:=by
 induction suf with
 | nil=>
   intro pre _ _ h
   refine ev_step (h rfl) (fun k=>?_)
   rw[Zd.l1,if_neg (by simp)]
 | cons y suf ih=>
   intro pre hl h1 h2
   have hl':(pre.length:Int)<((pre ++ y :: suf).length:Int):=by simp;omega
   have hw:wrap64 ((pre.length:Int)+1)=(pre.length:Int)+1:=wrapS (by omega) (by simp at hl;omega)
   by_cases hm:meets x y=true
   · have e:r=false:=h1 (by simp[hm])
     subst e
     simp only[meets,decide_eq_true_eq]at hm
     refine ev_step ev_const (fun k=>?_)
     rw[Zd.l1,if_pos hl',if_pos (by omega),if_pos hl',rdH_mid,if_pos hm.1.symm,if_pos hm.2]
   · replace hm:meets x y=false:=by simpa using hm
     have h:=ih (pre ++ [y]) (by simp at hl ⊢;omega) (fun e=>h1 (by simp[e])) (fun e=>h2 (by simp[hm,e]))
     rw[snoc_app,snoc_leni]at h
     simp only[meets,decide_eq_false_iff_not]at hm
     refine ev_step h (fun k=>?_)
     rw[Zd.l1,if_pos hl',if_pos (by omega),if_pos hl',rdH_mid,hw]
     by_cases e:x.f0=y.f0
     · rw[if_pos e.symm,if_neg (fun e2=>hm ⟨e,e2⟩)]
     · rw[if_neg (fun e2=>e e2.symm)]

theorem isSheet_j1 (x:S62) (pre suf:List S62) (n:Int) (b r:Bool) (hl:(pre ++ suf).length≤9223372036854775806) (hb:b=true→r=false) (h1:b=false→pre.any (meets x)=true→r=false)
 (h2:b=false→pre.any (meets x)=false→Ev (fun k=>Zd.l0 k (pre ++ suf) (pre ++ suf) n (wrap64 ((pre.length:Int)+1))) r) :
 Ev (fun k=>Zd.j1 k (pre ++ suf) (pre.length:Int) (pre ++ suf) n (pre.length:Int) b x.f0 x.f1 x.f2) r:=by
 cases b with
 | true=>
   obtain rfl:=hb rfl
   refine ev_step ev_const (fun k=>?_)
   rw[Zd.j1,if_pos rfl]
 | false=>
   have h:=isSheet_l1 x (pre ++ suf) n (pre.length:Int) r pre [] (by simp at hl ⊢;omega) (h1 rfl) (h2 rfl)
   refine ev_step h (fun k=>?_)
   rw[Zd.j1,if_neg (by decide),if_pos (by omega),if_pos (by simp;omega)]
   simp

theorem isSheet_l0 (suf:List S62):∀pre:List S62,(pre ++ suf).length≤9223372036854775806 →
 Ev (fun k=>Zd.l0 k (pre ++ suf) (pre ++ suf) ((pre ++ suf).length:Int) (pre.length:Int)) (goodFrom pre suf):=by
 induction suf with
 | nil=>
   intro pre _
   refine ev_step (Ev.now _) (fun k=>?_)
   rw[Zd.l0,if_neg (by simp)]
   simp[goodFrom]
 | cons x suf ih=>
   intro pre hl
   have h:=ih (pre ++ [x]) (by simp at hl ⊢;omega)
   rw[snoc_app,snoc_leni]at h
   have hl':(pre.length:Int)<((pre ++ x :: suf).length:Int):=by simp;omega
   have hw:wrap64 ((pre.length:Int)+1)=(pre.length:Int)+1:=wrapS (by omega) (by simp at hl;omega)
   have J:∀b,(b = !(holeOk x.f0 x.f1 x.f2 && lastBefore pre x))→Ev (fun k=>Zd.j1 k (pre ++ x :: suf) (pre.length:Int) (pre ++ x :: suf) ((pre ++ x :: suf).length:Int) (pre.length:Int) b x.f0 x.f1 x.f2) (goodFrom pre (x :: suf)):=by
    intro b hb
    refine isSheet_j1 x pre (x :: suf) _ b _ hl (fun e=>?_) (fun e e2=>?_) (fun e e2=>?_)
    · simp only[goodFrom,goodAt]
      cases h1:holeOk x.f0 x.f1 x.f2<;>cases h2:lastBefore pre x<;>simp_all
    · simp[goodFrom,goodAt,e2]
    · rw[hw]
      have e3:goodFrom pre (x :: suf)=goodFrom (pre ++ [x]) suf:=by
       simp only[goodFrom,goodAt,e2]
       cases h1:holeOk x.f0 x.f1 x.f2<;>cases h2:lastBefore pre x<;>simp_all
      rw[e3]
      exact h
   cases ho:holeOk x.f0 x.f1 x.f2 with
   | false=>
     refine ev_step (J true (by simp[ho])) (fun k=>?_)
     rw[Zd.l0,if_pos hl',if_pos (by omega),if_pos hl',rdH_mid,isHole_ok,ho]
     simp
   | true=>
     rcases List.eq_nil_or_concat pre with rfl | ⟨pre',p,rfl⟩
     · refine ev_step (J false (by simp[ho,lastBefore])) (fun k=>?_)
       rw[Zd.l0,if_pos hl',if_pos (by omega),if_pos hl',rdH_mid,isHole_ok,ho]
       simp
     · refine ev_step (J (!(before p x)) (by simp[ho,lastBefore])) (fun k=>?_)
       have e1:((pre' ++ [p]).length:Int)=(pre'.length:Int)+1:=by simp
       have hw2:wrap64 (((pre' ++ [p]).length:Int)-1)=(pre'.length:Int):=by
        rw[e1,wrapS (by omega) (by simp at hl;omega)];omega
       have e2:rd_T62 (pre' ++ [p] ++ x :: suf) (pre'.length:Int)=p:=by
        rw[snoc_app];exact rdH_mid _ _ _
       rw[Zd.l0,if_pos hl',if_pos (by omega),if_pos hl',rdH_mid,isHole_ok,ho]
       simp only[List.concat_eq_append]at *
       simp only[Option.bind_some,if_true]
       rw[if_pos (by omega),hw2,if_pos (by omega),if_pos (by simp;omega),e2,holeLess_ok]
       simp only[Option.bind_some]

theorem isSheet_ok (l:List S62) (h:l.length≤9223372036854775806):Ev (fun k=>Zd.f k l) (good l):=by
 by_cases h6:(l.length:Int)>60
 · refine Ev.congr (f:=fun _=>some (good l)) (fun k=>?_) ev_const
   rw[Zd.f,if_pos h6]
   have:¬l.length≤60:=by omega
   simp[good,this]
 · refine Ev.congr (fun k=>?_) (ev_eq (isSheet_l0 l [] (by simpa using h)) ?_)
   · rw[Zd.f,if_neg h6]
     rfl
   · have:l.length≤60:=by omega
     simp[good,this]

theorem rdHH_mid (pre suf:List (List S62)) (x:List S62):rd_L3 (pre ++ x :: suf) (pre.length:Int)=x:=getD_mid _ _ _ _ _ (by simp)

theorem rdP_mid (pre suf:List S46) (x:S46):rd_T46 (pre ++ x :: suf) (pre.length:Int)=x:=getD_mid _ _ _ _ _ (by simp)
def partOk (x:S46):Bool:=decide (0≤x.f0∧x.f0≤3∧0≤x.f1∧x.f1<x.f2∧x.f2≤2000)
def lenOf:List S46→Int→Int
 | [],m=>m
 | x :: l,m=>lenOf l (wrap64 (m+wrap64 (x.f2-x.f1)))
theorem l1In_ok (a b c:Int):ZB.f a b c=some (decide (b≤a∧a≤c)):=by
 unfold ZB.f
 by_cases h:a≥b
 · rw[if_pos h];congr 1;exact decide_eq_decide.2 ⟨fun q=>⟨h,q⟩,fun q=>q.2⟩
 · rw[if_neg h];congr 1;exact(decide_eq_false (fun q=>h q.1)).symm
theorem edPart_ok (a b c:Int):Z5.f a b c=some (partOk ⟨a,b,c⟩):=by
 unfold Z5.f Z4.f
 simp only[l1In_ok,Option.bind_some]
 by_cases h1:0≤a∧a≤3
 · rw[if_pos (decide_eq_true h1)]
   by_cases h2:0≤b∧b≤1999
   · rw[if_pos (decide_eq_true h2),wrapS (by omega) (by omega)]
     congr 1
     exact decide_eq_decide.2 (by simp only;omega)
   · rw[if_neg (by simpa using h2)]
     congr 1
     exact(decide_eq_false (by simp only;omega)).symm
 · rw[if_neg (by simpa using h1)]
   congr 1
   exact(decide_eq_false (by simp only;omega)).symm
theorem edLength_l0 (suf:List S46):∀(pre:List S46) (m:Int),(pre ++ suf).length≤1048576 →
 Ev (fun k=>Zp.l0 k m (pre ++ suf) ((pre ++ suf).length:Int) (pre.length:Int)) (lenOf suf m):=by
 induction suf with
 | nil=>
   intro pre m _
   refine ev_step (f:=fun _=>some _) (Ev.now _) (fun k=>?_)
   rw[Zp.l0,if_neg (by simp)];rfl
 | cons x suf ih=>
   intro pre m hl
   have hlp:pre.length≤1048576:=by simp at hl;omega
   have h:=ih (pre ++ [x]) (wrap64 (m+wrap64 (x.f2-x.f1))) (by simp at hl ⊢;omega)
   rw[snoc_app,snoc_leni]at h
   have hl':(pre.length:Int)<((pre ++ x :: suf).length:Int):=by simp;omega
   have hw:wrap64 ((pre.length:Int)+1)=(pre.length:Int)+1:=wrapS (by omega) (by omega)
   refine ev_step (ev_eq h rfl) (fun k=>?_)
   rw[Zp.l0,if_pos hl',if_pos (by omega),if_pos hl',rdP_mid,hw]
theorem edLength_ok (l:List S46) (h:l.length≤1048576):Ev (fun k=>Zp.f k l) (lenOf l 0):=
 Ev.congr (f:=fun k=>Zp.l0 k 0 l (l.length:Int) 0) (fun _=>rfl) (edLength_l0 l [] 0 (by simpa using h))
theorem editionLength_l0 (suf:List S46):∀(pre:List S46) (m:Int),(pre ++ suf).length≤1048576 →
 Ev (fun k=>Zw.l0 k m (pre ++ suf) ((pre ++ suf).length:Int) (pre.length:Int)) (lenOf suf m):=by
 induction suf with
 | nil=>
   intro pre m _
   refine ev_step (f:=fun _=>some _) (Ev.now _) (fun k=>?_)
   rw[Zw.l0,if_neg (by simp)];rfl
 | cons x suf ih=>
   intro pre m hl
   have hlp:pre.length≤1048576:=by simp at hl;omega
   have h:=ih (pre ++ [x]) (wrap64 (m+wrap64 (x.f2-x.f1))) (by simp at hl ⊢;omega)
   rw[snoc_app,snoc_leni]at h
   have hl':(pre.length:Int)<((pre ++ x :: suf).length:Int):=by simp;omega
   have hw:wrap64 ((pre.length:Int)+1)=(pre.length:Int)+1:=wrapS (by omega) (by omega)
   refine ev_step (ev_eq h rfl) (fun k=>?_)
   rw[Zw.l0,if_pos hl',if_pos (by omega),if_pos hl',rdP_mid,hw]
theorem editionLength_ok (l:List S46) (h:l.length≤1048576):Ev (fun k=>Zw.f k l) (lenOf l 0):=
 Ev.congr (f:=fun k=>Zw.l0 k 0 l (l.length:Int) 0) (fun _=>rfl) (editionLength_l0 l [] 0 (by simpa using h))
def partsGood (l:List S46):Bool:=l.all partOk && (decide (l.length≤12) && decide (lenOf l 0≤2000))
theorem edGood_l0 (l:List S46) (hll:l.length≤1048576) (suf:List S46):∀pre:List S46,(pre ++ suf).length≤1048576 →
 Ev (fun k=>Zl.l0 k l (pre ++ suf) ((pre ++ suf).length:Int) (pre.length:Int)) (suf.all partOk && (decide (l.length≤12) && decide (lenOf l 0≤2000))):=by
 induction suf with
 | nil=>
   intro pre _
   obtain⟨K,e⟩:=edLength_ok l hll
   dsimp only at e
   refine⟨K+1,fun k hk=>?_⟩
   obtain⟨m,rfl⟩:∃m,k=m+1:=⟨k-1,by omega⟩
   dsimp only
   rw[Zl.l0,if_neg (by simp),e m (by omega)]
   by_cases c:l.length≤12
   · rw[if_pos (by omega)];simp[c]
   · rw[if_neg (by omega)];simp[c]
 | cons x suf ih=>
   intro pre hl
   have hlp:pre.length≤1048576:=by simp at hl;omega
   have h:=ih (pre ++ [x]) (by simp at hl ⊢;omega)
   rw[snoc_app,snoc_leni]at h
   have hl':(pre.length:Int)<((pre ++ x :: suf).length:Int):=by simp;omega
   have hw:wrap64 ((pre.length:Int)+1)=(pre.length:Int)+1:=wrapS (by omega) (by omega)
   cases c:partOk x with
   | true=>
     refine ev_step (ev_eq h (by simp[c])) (fun k=>?_)
     rw[Zl.l0,if_pos hl',if_pos (by omega),if_pos hl',rdP_mid,edPart_ok]
     simp only[Option.bind_some]
     rw[if_pos c,hw]
   | false=>
     refine ev_step (f:=fun _=>some _) (Ev.now _) (fun k=>?_)
     rw[Zl.l0,if_pos hl',if_pos (by omega),if_pos hl',rdP_mid,edPart_ok]
     simp only[Option.bind_some]
     rw[if_neg (by rw[show partOk ⟨x.f0,x.f1,x.f2⟩=partOk x from rfl,c];decide)]
     simp[c]
theorem edGood_ok (l:List S46) (h:l.length≤1048576):Ev (fun k=>Zl.f k l) (partsGood l):=
 Ev.congr (f:=fun k=>Zl.l0 k l l (l.length:Int) 0) (fun _=>rfl) (edGood_l0 l h l [] (by simpa using h))
def under (n:Int) (x:S46):Bool:=decide (x.f0<n)
def areParts (l:List S46) (n:Int):Bool:=partsGood l && (decide (1≤n∧n≤4) && l.all (under n))
theorem specAreParts_l0 (n:Int) (suf:List S46):∀pre:List S46,(pre ++ suf).length≤1048576 →
 Ev (fun k=>Zs.l0 k n (pre ++ suf) ((pre ++ suf).length:Int) (pre.length:Int)) (suf.all (under n)):=by
 induction suf with
 | nil=>
   intro pre _
   refine ev_step (f:=fun _=>some _) (Ev.now _) (fun k=>?_)
   rw[Zs.l0,if_neg (by simp)];simp
 | cons x suf ih=>
   intro pre hl
   have hlp:pre.length≤1048576:=by simp at hl;omega
   have h:=ih (pre ++ [x]) (by simp at hl ⊢;omega)
   rw[snoc_app,snoc_leni]at h
   have hl':(pre.length:Int)<((pre ++ x :: suf).length:Int):=by simp;omega
   have hw:wrap64 ((pre.length:Int)+1)=(pre.length:Int)+1:=wrapS (by omega) (by omega)
   by_cases c:x.f0≥n
   · refine ev_step (f:=fun _=>some _) (Ev.now _) (fun k=>?_)
     rw[Zs.l0,if_pos hl',if_pos (by omega),if_pos hl',rdP_mid,if_pos c]
     simp[under,show ¬x.f0<n by omega]
   · refine ev_step (ev_eq h (by simp[under,show x.f0<n by omega])) (fun k=>?_)
     rw[Zs.l0,if_pos hl',if_pos (by omega),if_pos hl',rdP_mid,if_neg c,hw]
theorem specAreParts_ok (l:List S46) (n:Int) (h:l.length≤1048576):Ev (fun k=>Zs.f k l n) (areParts l n):=by
 refine Ev.bind (edGood_ok l h) ?_
 simp only[l1In_ok,Option.bind_some]
 cases g:partsGood l with
 | false=>
   simp only[Bool.false_eq_true,if_false]
   refine ev_step (f:=fun _=>some _) (Ev.now _) (fun k=>?_)
   rw[Zs.j0,if_pos rfl];simp[areParts,g]
 | true=>
   simp only[if_true]
   by_cases c:1≤n∧n≤4
   · have h0:=specAreParts_l0 n l [] (by simpa using h)
     refine ev_step (ev_eq h0 (by simp[areParts,g,c])) (fun k=>?_)
     rw[Zs.j0,if_neg (by rw[decide_eq_true c];decide)];rfl
   · refine ev_step (f:=fun _=>some _) (Ev.now _) (fun k=>?_)
     rw[Zs.j0,if_pos (by rw[decide_eq_false c];rfl)];simp[areParts,c]
theorem implAreParts_l0 (l:List S46) (hll:l.length≤1048576) (n:Int) (hn:n≤4) (suf:List S46):∀pre:List S46,(pre ++ suf).length≤1048576 →
 Ev (fun k=>Zo.l0 k l n (pre ++ suf) ((pre ++ suf).length:Int) (pre.length:Int)) (suf.all (fun x=>partOk x && under n x) && decide (lenOf l 0≤2000)):=by
 induction suf with
 | nil=>
   intro pre _
   obtain⟨K,e⟩:=editionLength_ok l hll
   dsimp only at e
   refine⟨K+1,fun k hk=>?_⟩
   obtain⟨m,rfl⟩:∃m,k=m+1:=⟨k-1,by omega⟩
   dsimp only
   rw[Zo.l0,if_neg (by simp),e m (by omega)]
   simp
 | cons x suf ih=>
   intro pre hl
   have hlp:pre.length≤1048576:=by simp at hl;omega
   have h:=ih (pre ++ [x]) (by simp at hl ⊢;omega)
   rw[snoc_app,snoc_leni]at h
   have hl':(pre.length:Int)<((pre ++ x :: suf).length:Int):=by simp;omega
   have hw:wrap64 ((pre.length:Int)+1)=(pre.length:Int)+1:=wrapS (by omega) (by omega)
   by_cases c:0≤x.f0∧x.f0<n∧0≤x.f1∧x.f1<x.f2∧x.f2≤2000
   · have c1:partOk x=true:=decide_eq_true (by omega)
     have c2:under n x=true:=decide_eq_true (by omega)
     refine ev_step (ev_eq h (by simp[c1,c2])) (fun k=>?_)
     rw[Zo.l0,if_pos hl',if_pos (by omega),if_pos hl',rdP_mid,if_neg (by omega),if_neg (by omega),if_neg (by omega),if_neg (by omega),if_neg (by omega),hw]
   · have c1:(partOk x && under n x)=false:=by
      simp only[partOk,under,Bool.and_eq_false_iff,decide_eq_false_iff_not]
      omega
     refine ev_step (f:=fun _=>some _) (Ev.now _) (fun k=>?_)
     rw[Zo.l0,if_pos hl',if_pos (by omega),if_pos hl',rdP_mid]
     rw[List.all_cons,c1,Bool.false_and,Bool.false_and]
     repeat (first | rfl | (split;rfl))
     omega
theorem implAreParts_ok (l:List S46) (n:Int) (h:l.length≤1048576):Ev (fun k=>Zo.f k l n) (areParts l n):=by
 have stop:∀b:Bool,b=true→areParts l n=false→Ev (fun k=>Zo.j0 k l n b) (areParts l n):=fun b hb ha=>by
  rw[ha,hb]
  refine ev_step (f:=fun _=>some _) (Ev.now _) (fun k=>?_)
  rw[Zo.j0,if_pos rfl]
 by_cases c1:n<1
 · refine Ev.congr (fun k=>by rw[Zo.f,if_pos c1]) (stop true rfl ?_)
   simp[areParts,show ¬(1≤n∧n≤4) by omega]
 · by_cases c2:n>4
   · refine Ev.congr (fun k=>by rw[Zo.f,if_neg c1,if_pos c2]) (stop true rfl ?_)
     simp[areParts,show ¬(1≤n∧n≤4) by omega]
   · by_cases c3:(l.length:Int)>12
     · refine Ev.congr (fun k=>by rw[Zo.f,if_neg c1,if_neg c2]) (stop _ (decide_eq_true c3) ?_)
       simp[areParts,partsGood,show ¬l.length≤12 by omega]
     · have h0:=implAreParts_l0 l h n (by omega) l [] (by simpa using h)
       refine Ev.congr (f:=fun k=>Zo.j0 k l n (decide ((l.length:Int)>12))) (fun k=>by rw[Zo.f,if_neg c1,if_neg c2]) ?_
       refine ev_step (ev_eq h0 ?_) (fun k=>?_)
       · simp only[areParts,partsGood,show l.length≤12 by omega,show 1≤n∧n≤4 by omega,decide_true,Bool.true_and,and_self]
         rw[Bool.eq_iff_iff]
         simp only[Bool.and_eq_true,List.all_eq_true]
         constructor
         · rintro⟨h1,h2⟩
           exact⟨⟨fun x hx=>(h1 x hx).1,h2⟩,fun x hx=>(h1 x hx).2⟩
         · rintro⟨⟨h1,h2⟩,h3⟩
           exact⟨fun x hx=>⟨h1 x hx,h3 x hx⟩,h2⟩
       · rw[Zo.j0,if_neg (by simpa using c3)];rfl

theorem edSheets_l0 (l:List (List S62)) (p:List S46) (hp:p.length≤1048576) (suf:List (List S62)):∀pre:List (List S62),(pre ++ suf).length≤1048576→(∀x∈suf,x.length≤1048576) →
 Ev (fun k=>ZA.l0 k l p (pre ++ suf) ((pre ++ suf).length:Int) (pre.length:Int)) (suf.all good && areParts p (l.length:Int)):=by
 induction suf with
 | nil=>
   intro pre _ _
   obtain⟨K,e⟩:=specAreParts_ok p (l.length:Int) hp
   dsimp only at e
   refine⟨K+1,fun k hk=>?_⟩
   obtain⟨m,rfl⟩:∃m,k=m+1:=⟨k-1,by omega⟩
   dsimp only
   rw[ZA.l0,if_neg (by simp),e m (by omega)]
   simp
 | cons x suf ih=>
   intro pre hl hx
   have hlp:pre.length≤1048576:=by simp at hl;omega
   have h:=ih (pre ++ [x]) (by simp at hl ⊢;omega) (fun y hy=>hx y (List.mem_cons_of_mem _ hy))
   rw[snoc_app,snoc_leni]at h
   have hl':(pre.length:Int)<((pre ++ x :: suf).length:Int):=by simp;omega
   have hw:wrap64 ((pre.length:Int)+1)=(pre.length:Int)+1:=wrapS (by omega) (by omega)
   obtain⟨K1,e1⟩:=shGood_ok x (by have:=hx x List.mem_cons_self;omega)
   obtain⟨K2,e2⟩:=h
   dsimp only at e1 e2
   refine⟨K1+K2+1,fun k hk=>?_⟩
   obtain⟨m,rfl⟩:∃m,k=m+1:=⟨k-1,by omega⟩
   dsimp only
   rw[ZA.l0,if_pos hl',if_pos (by omega),if_pos hl',rdHH_mid,e1 m (by omega)]
   simp only[Option.bind_some]
   rw[hw,e2 m (by omega)]
   cases g:good x<;>simp[g]
theorem edSheets_ok (l:List (List S62)) (p:List S46) (hl:l.length≤1048576) (hx:∀x∈l,x.length≤1048576) (hp:p.length≤1048576):Ev (fun k=>ZA.f k l p) (l.all good && areParts p (l.length:Int)):=
 Ev.congr (f:=fun k=>ZA.l0 k l p l (l.length:Int) 0) (fun _=>rfl) (edSheets_l0 l p hp l [] (by simpa using hl) hx)
theorem areSheets_l0 (l:List (List S62)) (n:Int) (suf:List (List S62)):∀pre:List (List S62),(pre ++ suf).length≤1048576→(∀x∈suf,x.length≤1048576) →
 Ev (fun k=>Zz.l0 k l n (pre ++ suf) ((pre ++ suf).length:Int) (pre.length:Int)) (suf.all good && decide (1≤(l.length:Int)∧(l.length:Int)≤n)):=by
 induction suf with
 | nil=>
   intro pre _ _
   refine ev_step (f:=fun _=>some _) (Ev.now _) (fun k=>?_)
   rw[Zz.l0,if_neg (by simp)]
   by_cases c:(l.length:Int)≥1
   · rw[if_pos c];congr 1;simp only[List.all_nil,Bool.true_and];exact decide_eq_decide.2 ⟨fun q=>⟨c,q⟩,fun q=>q.2⟩
   · rw[if_neg c];congr 1;simp only[List.all_nil,Bool.true_and];exact(decide_eq_false (fun q=>c q.1)).symm
 | cons x suf ih=>
   intro pre hl hx
   have hlp:pre.length≤1048576:=by simp at hl;omega
   have h:=ih (pre ++ [x]) (by simp at hl ⊢;omega) (fun y hy=>hx y (List.mem_cons_of_mem _ hy))
   rw[snoc_app,snoc_leni]at h
   have hl':(pre.length:Int)<((pre ++ x :: suf).length:Int):=by simp;omega
   have hw:wrap64 ((pre.length:Int)+1)=(pre.length:Int)+1:=wrapS (by omega) (by omega)
   obtain⟨K1,e1⟩:=isSheet_ok x (by have:=hx x List.mem_cons_self;omega)
   obtain⟨K2,e2⟩:=h
   dsimp only at e1 e2
   refine⟨K1+K2+1,fun k hk=>?_⟩
   obtain⟨m,rfl⟩:∃m,k=m+1:=⟨k-1,by omega⟩
   dsimp only
   rw[Zz.l0,if_pos hl',if_pos (by omega),if_pos hl',rdHH_mid,e1 m (by omega)]
   simp only[Option.bind_some]
   rw[hw,e2 m (by omega)]
   cases g:good x<;>simp[g]
theorem areSheets_ok (l:List (List S62)) (n:Int) (hl:l.length≤1048576) (hx:∀x∈l,x.length≤1048576):Ev (fun k=>Zz.f k l n) (l.all good && decide (1≤(l.length:Int)∧(l.length:Int)≤n)):=
 Ev.congr (f:=fun k=>Zz.l0 k l n l (l.length:Int) 0) (fun _=>rfl) (areSheets_l0 l n l [] (by simpa using hl) hx)
theorem areParts_of {p:List S46} {n:Int} (h:areParts p n=true):p.length≤12∧1≤n∧n≤4∧∀i:Nat,i<p.length→(0≤(rd_T46 p i).f0∧(rd_T46 p i).f0<n)∧(1≤(rd_T46 p i).f2∧(rd_T46 p i).f2≤2000):=by
 simp only[areParts,partsGood,Bool.and_eq_true,List.all_eq_true,decide_eq_true_eq]at h
 refine⟨h.1.2.1,h.2.1.1,h.2.1.2,fun i hi=>?_⟩
 have hm:rd_T46 p (i:Int)∈p:=by
  have e:rd_T46 p (i:Int)=p[i]:=by simp[rd_T46,List.getD_eq_getElem?_getD,List.getElem?_eq_getElem hi]
  rw[e];exact List.getElem_mem hi
 have h1:=h.1.1 _ hm
 have h2:=h.2.2 _ hm
 simp only[partOk,under,decide_eq_true_eq]at h1 h2
 omega

def srt (l:List S62):List S62:=Zb.srt l
/-- The sheet of holes, if there is one. -/
def sortedR (l:List S62):List S62×Bool:=if good (srt l)=true then(srt l,true) else([],false)
theorem srt_perm (l:List S62):(srt l).Perm l:=(Zb.srt_sorts l).1
theorem srt_len (l:List S62):(srt l).length=l.length:=(srt_perm l).length_eq
theorem goodFrom_eq (suf:List S62):∀pre,Zb.goodFrom pre suf=goodFrom pre suf:=by
 induction suf with
 | nil=>intro _;rfl
 | cons x suf ih=>
   intro pre
   rw[Zb.goodFrom,goodFrom,ih]
   rfl
theorem good_eq (l:List S62):Zb.good l=good l:=by
 rw[Zb.good,good,goodFrom_eq]
theorem good_strict (l:List S62) (h:good l=true):Zb.strict l=true:=Zb.good_strict l (by rw[good_eq];exact h)
theorem good_len (l:List S62) (h:good l=true):l.length≤60:=by
 simp only[good,Bool.and_eq_true,decide_eq_true_eq]at h;exact h.2
theorem sheetOf_ok (l:List S62) (h:l.length≤9000000):Ev (fun k=>Zb.f k l) (sortedR l):=by
 have hs:=srt_len l
 by_cases h6:(l.length:Int)>60
 · refine ev_of_eq (fun k=>?_)
   rw[Zb.f,if_pos h6,sortedR,if_neg]
   intro g
   have:=good_len _ g
   omega
 · by_cases c:Zb.strict (Zb.srt l)=true
   · obtain⟨K,e⟩:=isSheet_ok (srt l) (by omega)
     refine⟨K,fun k hk=>?_⟩
     have e1:=e k hk
     dsimp only at e1 ⊢
     rw[Zb.f,if_neg h6,if_pos c,show Zd.f k (Zb.srt l)=some (good (srt l)) from e1,sortedR]
     simp only[Option.bind_some]
     by_cases g:good (srt l)=true
     · rw[if_pos g,if_pos g];rfl
     · rw[if_neg g,if_neg g]
   · refine ev_of_eq (fun k=>?_)
     rw[Zb.f,if_neg h6,if_neg c,sortedR,if_neg]
     exact fun g=>c (good_strict _ g)
theorem ins_app (x:S62) (B:List S62) (hB:∀b∈B,before x b=true):∀A:List S62,(∀a∈A,before x a=false)→Zb.ins x (A ++ B)=A ++ x :: B
 | [],_=>by
   cases B with
   | nil=>rfl
   | cons b B=>rw[List.nil_append,Zb.ins,if_pos (show Zb.lt x b=true from hB b List.mem_cons_self)];rfl
 | a :: A,h=>by
   rw[List.cons_append,Zb.ins,if_neg (by rw[show Zb.lt x a=before x a from rfl,h a List.mem_cons_self];decide),ins_app x B hB A (fun a ha=>h a (List.mem_cons_of_mem _ ha))];rfl
theorem shSorted_put (k:Nat) (x:S62) (A B l:List S62) (n i:Int) (hl:(A ++ B).length≤4000000) :
 ((some (([]:List S62):List S62)).bind fun y=>(if 0≤(A.length:Int) then(if(A.length:Int)≤((A ++ B).length:Int) then((some ((A ++ B).take ((A.length:Int)).toNat:List S62)).bind fun y1=>(if y.length+y1.length<5864062014805 then((some (y ++ y1:List S62)).bind fun y2=>((some (([(⟨x.f0,x.f1,x.f2⟩:S62)]:List S62):List S62)).bind fun y3=>(if y2.length+y3.length<5864062014805 then((some (y2 ++ y3:List S62)).bind fun y4=>((some ((A ++ B).drop ((A.length:Int)).toNat:List S62)).bind fun y5=>(if y4.length+y5.length<5864062014805 then(Zh.l0 k (y4 ++ y5) l n (wrap64 (i+1))) else(none)))) else(none)))) else(none))) else(none)) else(none)))
   = Zh.l0 k (A ++ x :: B) l n (wrap64 (i+1)):=by
 have h1:(A ++ B).take ((A.length:Int)).toNat=A:=by simp
 have h2:(A ++ B).drop ((A.length:Int)).toNat=B:=by simp
 simp only[List.length_append]at hl
 simp only[Option.bind_some,h1,h2]
 rw[if_pos (by omega),if_pos (by rw[List.length_append];omega),if_pos (by simp;omega),if_pos (by simp;omega),if_pos (by simp;omega)]
 simp
theorem shSorted_l1 (x:S62) (l:List S62) (n i:Int) (r:List S62×Bool) (R:List S62):∀B:List S62,(R.reverse ++ B).length≤4000000→(∀b∈B,before x b=true)→(R.reverse ++ B).Pairwise (fun a b=>before b a=false) →
 Ev (fun k=>Zh.l0 k (Zb.ins x (R.reverse ++ B)) l n (wrap64 (i+1))) r →
 Ev (fun k=>Zh.l1 k (R.reverse ++ B) (R.length:Int) l n i x.f0 x.f1 x.f2) r:=by
 induction R with
 | nil=>
   intro B hl hB hs h
   rw[ins_app x B hB ([]:List S62).reverse (by simp)]at h
   refine ev_step h (fun k=>?_)
   have e:=shSorted_put k x ([]:List S62).reverse B l n i hl
   rw[Zh.l1,if_neg (by simp)]
   exact e
 | cons a R ih=>
   intro B hl hB hs h
   have hlr:(a :: R).reverse.length=R.length+1:=by simp
   have hl2:=hl
   simp only[List.length_append]at hl2
   have e0:(a :: R).reverse ++ B=R.reverse ++ a :: B:=by simp
   have hw:wrap64 ((((a :: R).length:Nat):Int)-1)=(R.length:Int):=by
    show wrap64 (((R.length+1:Nat):Int)-1)=_
    rw[wrapS (by omega) (by omega)];omega
   have e1:rd_T62 ((a :: R).reverse ++ B) (R.length:Int)=a:=by
    have:=rdH_mid R.reverse B a
    rw[List.length_reverse]at this
    rw[e0];exact this
   cases c:before x a with
   | true=>
     have h2:=ih (a :: B) (by rw[← e0];exact hl) (fun b hb=>(List.mem_cons.1 hb).elim (fun e=>by rw[e];exact c) (hB b)) (by rw[← e0];exact hs) (by rw[← e0];exact h)
     refine ev_step h2 (fun k=>?_)
     rw[Zh.l1,if_pos (by simp),hw,if_pos (by omega),if_pos (by simp;omega),e1,shBefore_ok,c]
     simp only[Option.bind_some,if_true]
     rw[e0]
   | false=>
     have hA:∀y∈(a :: R).reverse,before x y=false:=by
      intro y hy
      rw[List.reverse_cons,List.mem_append,List.mem_singleton]at hy
      rcases hy with hy | rfl
      · have h3:before a y=false:=by
         rw[e0]at hs
         exact(List.pairwise_append.1 hs).2.2 y hy a List.mem_cons_self
        exact Zb.swo.ntrans x a y c h3
      · exact c
     rw[ins_app x B hB _ hA]at h
     refine ev_step h (fun k=>?_)
     have e:=shSorted_put k x (a :: R).reverse B l n i hl
     rw[List.length_reverse]at e
     rw[Zh.l1,if_pos (by simp),hw,if_pos (by omega),if_pos (by simp;omega),e1,shBefore_ok,c]
     simp only[Option.bind_some,Bool.false_eq_true,if_false]at e ⊢
     exact e
theorem ins_len (x:S62) (l:List S62):(Zb.ins x l).length=l.length+1:=by
 rw[(Zb.ins_perm x l).length_eq];rfl
theorem shSorted_l0 (suf:List S62):∀(pre out:List S62),(pre ++ suf).length≤4000000→out.length=pre.length→out.Pairwise (fun a b=>before b a=false) →
 Ev (fun k=>Zh.l0 k out (pre ++ suf) ((pre ++ suf).length:Int) (pre.length:Int)) (if good (suf.foldl (fun o x=>Zb.ins x o) out)=true then(suf.foldl (fun o x=>Zb.ins x o) out,true) else([],false)):=by
 induction suf with
 | nil=>
   intro pre out hl ho hs
   have hp:pre.length≤4000000:=by simpa using hl
   obtain⟨K,e⟩:=shGood_ok out (by omega)
   refine⟨K+1,fun k hk=>?_⟩
   obtain⟨m,rfl⟩:∃m,k=m+1:=⟨k-1,by omega⟩
   have e1:=e m (by omega)
   dsimp only at e1 ⊢
   rw[Zh.l0,if_neg (by simp),e1]
   show(if good out=true then some (out,true) else some ([],false))=some (if good out=true then(out,true) else([],false))
   cases good out<;>rfl
 | cons x suf ih=>
   intro pre out hl ho hs
   have hlp:pre.length+1≤4000000:=by simp at hl;omega
   have hl':(pre.length:Int)<((pre ++ x :: suf).length:Int):=by simp;omega
   have hw:wrap64 ((pre.length:Int)+1)=(pre.length:Int)+1:=wrapS (by omega) (by omega)
   have h:=ih (pre ++ [x]) (Zb.ins x out) (by simp at hl ⊢;omega) (by rw[ins_len];simp;omega) (Zb.ins_sorted x out hs)
   rw[snoc_app,snoc_leni, ← hw]at h
   have h2:=shSorted_l1 x (pre ++ x :: suf) ((pre ++ x :: suf).length:Int) (pre.length:Int) _ out.reverse [] (by simp;omega) (by simp) (by simpa using hs) (by simpa using h)
   simp only[List.reverse_reverse,List.append_nil,List.length_reverse]at h2
   refine ev_step h2 (fun k=>?_)
   rw[Zh.l0,if_pos hl',if_pos (by omega),if_pos hl',rdH_mid]
theorem shSorted_ok (l:List S62) (h:l.length≤4000000):Ev (fun k=>Zh.f k l) (sortedR l):=
 Ev.congr (f:=fun k=>Zh.l0 k [] l (l.length:Int) 0) (fun _=>rfl) (shSorted_l0 l [] [] (by simpa using h) rfl List.Pairwise.nil)
theorem sortedR_len (l:List S62):(sortedR l).1.length≤60:=by
 unfold sortedR
 by_cases c:good (srt l)=true
 · rw[if_pos c];exact good_len _ c
 · rw[if_neg c];simp

def okR (y x:S62):Prop:=before y x=true∧meets x y=false
theorem before_trans (a b c:S62) (h1:before a b=true) (h2:before b c=true):before a c=true:=Zb.swo.trans a b c h1 h2
theorem goodFrom_iff (suf:List S62):∀pre:List S62,pre.Pairwise okR→(goodFrom pre suf=true↔(∀x∈suf,holeOk x.f0 x.f1 x.f2=true)∧(pre ++ suf).Pairwise okR):=by
 induction suf with
 | nil=>intro pre hp;simp[goodFrom,hp]
 | cons x suf ih=>
   intro pre hp
   have key:(lastBefore pre x && !(pre.any (meets x)))=true↔∀y∈pre,okR y x:=by
    rw[Bool.and_eq_true]
    constructor
    · rintro⟨h1,h2⟩ y hy
      have h3:meets x y=false:=by
       rw[Bool.not_eq_true',List.any_eq_false]at h2
       simpa using h2 y hy
      refine⟨?_,h3⟩
      rcases List.eq_nil_or_concat pre with rfl | ⟨pre',p,rfl⟩
      · cases hy
      · rw[List.concat_eq_append]at h1 hy hp
        simp only[lastBefore,List.getLast?_append,List.getLast?_singleton,Option.or]at h1
        rcases List.mem_append.1 hy with hy | hy
        · exact before_trans _ _ _ ((List.pairwise_append.1 hp).2.2 y hy p (by simp)).1 h1
        · rw[List.mem_singleton.1 hy];exact h1
    · intro h
      refine⟨?_,?_⟩
      · rcases List.eq_nil_or_concat pre with rfl | ⟨pre',p,rfl⟩
        · rfl
        · rw[List.concat_eq_append]at h ⊢
          simp only[lastBefore,List.getLast?_append,List.getLast?_singleton,Option.or]
          exact(h p (by simp)).1
      · rw[Bool.not_eq_true',List.any_eq_false]
        intro y hy
        rw[(h y hy).2];decide
   rw[goodFrom,Bool.and_eq_true,goodAt,Bool.and_eq_true,key]
   constructor
   · rintro⟨⟨h1,h2⟩,h3⟩
     have hp2:(pre ++ [x]).Pairwise okR:=List.pairwise_append.2 ⟨hp,by simp,fun y hy z hz=>by rw[List.mem_singleton.1 hz];exact h2 y hy⟩
     obtain⟨h4,h5⟩:=(ih (pre ++ [x]) hp2).1 h3
     refine⟨fun z hz=>?_,by rw[snoc_app]at h5;exact h5⟩
     rcases List.mem_cons.1 hz with rfl | hz
     · exact h1
     · exact h4 z hz
   · rintro⟨h1,h2⟩
     rw[← snoc_app]at h2
     have hp2:=(List.pairwise_append.1 h2).1
     refine⟨⟨h1 x List.mem_cons_self,fun y hy=>(List.pairwise_append.1 hp2).2.2 y hy x (by simp)⟩,(ih (pre ++ [x]) hp2).2 ⟨fun z hz=>h1 z (List.mem_cons_of_mem _ hz),h2⟩⟩
theorem good_iff (l:List S62):good l=true↔(∀x∈l,holeOk x.f0 x.f1 x.f2=true)∧l.Pairwise okR∧l.length≤60:=by
 rw[good,Bool.and_eq_true,goodFrom_iff l [] List.Pairwise.nil,decide_eq_true_eq,List.nil_append,and_assoc]
/-- What is a sheet's holes in another order, put in order, is the sheet. -/
theorem srt_of_perm (a c:List S62) (h:good a=true) (hp:c.Perm a):srt c=a:=
 Zb.unique (srt c) a ((srt_perm c).trans hp) (Zb.srt_sorts c).2 (((good_iff a).1 h).2.1.imp (fun hr=>hr.1))

def cov (pt:List S62) (t s:Int):Bool:=pt.any fun y=>decide (y.f0=t∧y.f1≤s∧s<y.f2)
def on2 (on:Int→Int→Bool) (t s:Int):Bool:=decide (s<2000) && on t s
/-- The ranges of one track, from a step on. -/
def scan (on:Int→Int→Bool) (t:Int):Nat→Int→Int→List (List Int)
 | 0,_,_=> []
 | n+1,s,f=>
   if on2 on t s=true then scan on t n (s+1) (if f<0 then s else f)
   else if f<0 then scan on t n (s+1) f else [t,f,s] :: scan on t n (s+1) (-1)
def runs (on:Int→Int→Bool):List (List Int):=(List.range 20).flatMap fun(t:Nat)=>scan on (t:Int) 2001 0 (-1)
structure Run (on:Int→Int→Bool) (t a b:Int):Prop where
 a0:0≤a
 ab:a<b
 ins:∀s,a≤s→s<b→on2 on t s=true
 lft:a=0∨on2 on t (a-1)=false
 rgt:on2 on t b=false
theorem Run.le {on:Int→Int→Bool} {t a b:Int} (h:Run on t a b):b≤2000:=by
 have:=h.ins (b-1) (by have:=h.ab;omega) (by omega)
 simp only[on2,Bool.and_eq_true,decide_eq_true_eq]at this
 omega
theorem Run.uniq {on:Int→Int→Bool} {t a b c d:Int} (h:Run on t a b) (g:Run on t c d) (h1:c≤a) (h2:a<d):a=c∧b=d:=by
 have e1:a=c:=by
  rcases Int.lt_or_eq_of_le h1 with h3 | h3
  · have h4:=g.ins (a-1) (by omega) (by omega)
    rcases h.lft with h5 | h5
    · have:=g.a0;omega
    · rw[h4]at h5;cases h5
  · exact h3.symm
 refine⟨e1,?_⟩
 have hab:=h.ab
 rcases Int.lt_trichotomy b d with h3 | h3 | h3
 · have h4:=g.ins b (by omega) h3
   rw[h.rgt]at h4;cases h4
 · exact h3
 · have h4:=h.ins d (by omega) h3
   rw[g.rgt]at h4;cases h4
/-- Where the scan stands: outside a range, or in one that began at a step. -/
def Stand (on:Int→Int→Bool) (t s f:Int):Prop:=
 (f = -1∧(s=0∨on2 on t (s-1)=false))∨(0≤f∧f<s∧(∀u,f≤u→u<s→on2 on t u=true)∧(f=0∨on2 on t (f-1)=false))
theorem scan_mem (on:Int→Int→Bool) (t:Int):∀(n:Nat) (s f:Int),0≤s→s+n=2001→Stand on t s f→∀x,x∈scan on t n s f↔∃a b,x = [t,a,b]∧Run on t a b∧s≤b
 | 0,s,f,h0,hs,_,x=>by
   constructor
   · intro h;cases h
   · rintro⟨a,b,_,h,hb⟩
     have:=h.le;omega
 | n+1,s,f,h0,hs,hst,x=>by
   have hn:(s+1)+(n:Int)=2001:=by omega
   cases c:on2 on t s with
   | true=>
     rw[scan,if_pos c,scan_mem on t n (s+1) _ (by omega) hn ?_ x]
     · constructor
       · rintro⟨a,b,e,h,hb⟩;exact⟨a,b,e,h,by omega⟩
       · rintro⟨a,b,e,h,hb⟩
         refine⟨a,b,e,h,?_⟩
         rcases Int.lt_or_eq_of_le hb with h3 | h3
         · omega
         · have:=h.rgt;rw[← h3,c]at this;cases this
     · right
       rcases hst with ⟨hf,h1⟩ | ⟨h1,h2,h3,h4⟩
       · rw[if_pos (by omega)]
         refine⟨h0,by omega,fun u hu1 hu2=>?_,h1⟩
         have:u=s:=by omega
         rw[this,c]
       · rw[if_neg (by omega)]
         refine⟨h1,by omega,fun u hu1 hu2=>?_,h4⟩
         rcases Int.lt_or_eq_of_le (show u≤s by omega) with h5 | h5
         · exact h3 u hu1 h5
         · rw[h5,c]
   | false=>
     have hof:(s+1=0∨on2 on t (s+1-1)=false):= .inr (by rw[show s+1-1=s by omega];exact c)
     rw[scan,if_neg (by rw[c];decide)]
     rcases hst with ⟨hf,h1⟩ | ⟨h1,h2,h3,h4⟩
     · rw[if_pos (by omega),scan_mem on t n (s+1) f (by omega) hn (.inl ⟨hf,hof⟩) x]
       constructor
       · rintro⟨a,b,e,h,hb⟩;exact⟨a,b,e,h,by omega⟩
       · rintro⟨a,b,e,h,hb⟩
         refine⟨a,b,e,h,?_⟩
         rcases Int.lt_or_eq_of_le hb with h5 | h5
         · omega
         · have h6:=h.ins (s-1) (by have:=h.ab;omega) (by omega)
           rcases h1 with h1 | h1
           · have:=h.ab;have:=h.a0;omega
           · rw[h1]at h6;cases h6
     · have hR:Run on t f s:=⟨h1,h2,h3,h4,c⟩
       rw[if_neg (by omega),List.mem_cons,scan_mem on t n (s+1) (-1) (by omega) hn (.inl ⟨rfl,hof⟩) x]
       constructor
       · rintro(e | ⟨a,b,e,h,hb⟩)
         · exact⟨f,s,e,hR,Int.le_refl _⟩
         · exact⟨a,b,e,h,by omega⟩
       · rintro⟨a,b,e,h,hb⟩
         rcases Int.lt_or_eq_of_le hb with h5 | h5
         · exact .inr ⟨a,b,e,h,by omega⟩
         · left
           subst h5
           have hab:=h.ab
           rcases Int.lt_or_le a f with h6 | h6
           · have:=(hR.uniq h (by omega) (by omega)).1;omega
           · rw[e,(h.uniq hR h6 hab).1]
theorem scan_third (on:Int→Int→Bool) (t:Int):∀(n:Nat) (s f:Int),(scan on t n s f).Nodup∧∀x∈scan on t n s f,∃a b,x = [t,a,b]∧s≤b
 | 0,_,_=>⟨List.nodup_nil,fun _ h=>by cases h⟩
 | n+1,s,f=>by
   rw[scan]
   split
   · have h:=scan_third on t n (s+1) (if f<0 then s else f)
     refine⟨h.1,fun x hx=>?_⟩
     obtain⟨a,b,e,hb⟩:=h.2 x hx
     exact⟨a,b,e,by omega⟩
   · split
     · have h:=scan_third on t n (s+1) f
       refine⟨h.1,fun x hx=>?_⟩
       obtain⟨a,b,e,hb⟩:=h.2 x hx
       exact⟨a,b,e,by omega⟩
     · have h:=scan_third on t n (s+1) (-1)
       refine⟨List.nodup_cons.2 ⟨fun hx=>?_,h.1⟩,fun x hx=>?_⟩
       · obtain⟨a,b,e,hb⟩:=h.2 _ hx
         injection e with _ e;injection e with _ e;injection e with e _
         omega
       · rcases List.mem_cons.1 hx with e | hx
         · exact⟨f,s,e,Int.le_refl _⟩
         · obtain⟨a,b,e,hb⟩:=h.2 x hx
           exact⟨a,b,e,by omega⟩
theorem runs_mem (on:Int→Int→Bool) (x:List Int):x∈runs on↔∃t a b,x = [t,a,b]∧0≤t∧t≤19∧Run on t a b:=by
 rw[runs,List.mem_flatMap]
 constructor
 · rintro⟨t,ht,hx⟩
   rw[List.mem_range]at ht
   obtain⟨a,b,e,h,_⟩:=(scan_mem on t 2001 0 (-1) (by omega) (by omega) (.inl ⟨rfl, .inl rfl⟩) x).1 hx
   exact⟨t,a,b,e,by omega,by omega,h⟩
 · rintro⟨t,a,b,e,h0,h1,h⟩
   refine⟨t.toNat,List.mem_range.2 (by omega),?_⟩
   rw[show((t.toNat:Nat):Int)=t by omega]
   exact(scan_mem on t 2001 0 (-1) (by omega) (by omega) (.inl ⟨rfl, .inl rfl⟩) x).2 ⟨a,b,e,h,by have:=h.a0;have:=h.ab;omega⟩
theorem nodup_flat {α β:Type} (f:α→List β):∀l:List α,l.Nodup→(∀a∈l,(f a).Nodup)→(∀a∈l,∀b∈l,a≠b→∀x∈f a,x ∉ f b)→(l.flatMap f).Nodup
 | [],_,_,_=>by simp
 | a :: l,h,h1,h2=>by
   rw[List.flatMap_cons,List.nodup_append]
   have hc:=List.nodup_cons.1 h
   refine⟨h1 a List.mem_cons_self,nodup_flat f l hc.2 (fun b hb=>h1 b (List.mem_cons_of_mem _ hb)) (fun b hb c hc=>h2 b (List.mem_cons_of_mem _ hb) c (List.mem_cons_of_mem _ hc)),?_⟩
   intro x hx y hy e
   subst e
   obtain⟨b,hb,hy⟩:=List.mem_flatMap.1 hy
   exact h2 a List.mem_cons_self b (List.mem_cons_of_mem _ hb) (fun e=>hc.1 (e ▸ hb)) x hx hy
theorem runs_nodup (on:Int→Int→Bool):(runs on).Nodup:=by
 refine nodup_flat _ _ List.nodup_range (fun t _=>(scan_third on t 2001 0 (-1)).1) (fun t _ u _ hne x hx hy=>hne ?_)
 obtain⟨a,b,e,_⟩:=(scan_third on t 2001 0 (-1)).2 x hx
 obtain⟨c,d,e2,_⟩:=(scan_third on u 2001 0 (-1)).2 x hy
 rw[e]at e2
 injection e2 with e2 _
 omega
def rowH (r:List Int):S62:=⟨r.getD 0 0,r.getD 1 0,r.getD 2 0⟩
/-- The holes of a grid. -/
def gridH (on:Int→Int→Bool):List S62:=(runs on).map rowH
theorem gridH_mem (on:Int→Int→Bool) (x:S62):x∈gridH on↔0≤x.f0∧x.f0≤19∧Run on x.f0 x.f1 x.f2:=by
 rw[gridH,List.mem_map]
 constructor
 · rintro⟨r,hr,e⟩
   obtain⟨t,a,b,e1,h0,h1,h⟩:=(runs_mem on r).1 hr
   subst e1;subst e
   exact⟨h0,h1,h⟩
 · rintro⟨h0,h1,h⟩
   exact⟨[x.f0,x.f1,x.f2],(runs_mem on _).2 ⟨x.f0,x.f1,x.f2,rfl,h0,h1,h⟩,rfl⟩
theorem nodup_map_of {α β:Type} (f:α→β):∀l:List α,l.Nodup→(∀a∈l,∀b∈l,f a=f b→a=b)→(l.map f).Nodup
 | [],_,_=>List.nodup_nil
 | a :: l,h,hi=>by
   have hc:=List.nodup_cons.1 h
   rw[List.map_cons,List.nodup_cons]
   refine⟨fun hx=>?_,nodup_map_of f l hc.2 (fun b hb c hc'=>hi b (List.mem_cons_of_mem _ hb) c (List.mem_cons_of_mem _ hc'))⟩
   obtain⟨b,hb,e⟩:=List.mem_map.1 hx
   exact hc.1 ((hi b (List.mem_cons_of_mem _ hb) a List.mem_cons_self e) ▸ hb)
theorem gridH_nodup (on:Int→Int→Bool):(gridH on).Nodup:=by
 refine nodup_map_of rowH _ (runs_nodup on) (fun r hr u hu e=>?_)
 obtain⟨t,a,b,e1,_,_,_⟩:=(runs_mem on r).1 hr
 obtain⟨t2,a2,b2,e2,_,_,_⟩:=(runs_mem on u).1 hu
 subst e1;subst e2
 injection e with e3 e4 e5
 have e3:t=t2:=e3
 have e4:a=a2:=e4
 have e5:b=b2:=e5
 rw[e3,e4,e5]
def apart (x y:S62):Prop:=x.f0=y.f0→x.f2<y.f1∨y.f2<x.f1
theorem apart_symm {x y:S62} (h:apart x y):apart y x:=fun e=>(h e.symm).symm
theorem apart_of {l:List S62} (hp:l.Pairwise apart):∀x∈l,∀y∈l,x=y∨apart x y:=by
 induction l with
 | nil=>intro x hx;cases hx
 | cons a l ih=>
   intro x hx y hy
   obtain⟨h1,h2⟩:=List.pairwise_cons.1 hp
   rcases List.mem_cons.1 hx with ex | hx
   · rcases List.mem_cons.1 hy with ey | hy
     · exact .inl (ex.trans ey.symm)
     · exact .inr (by rw[ex];exact h1 y hy)
   · rcases List.mem_cons.1 hy with ey | hy
     · exact .inr (by rw[ey];exact apart_symm (h1 x hx))
     · exact ih h2 x hx y hy
theorem cov_true (pt:List S62) (t s:Int):cov pt t s=true↔∃y∈pt,y.f0=t∧y.f1≤s∧s<y.f2:=by
 simp[cov,List.any_eq_true]
theorem run_of_mem (all:List S62) (hv:∀x∈all,holeOk x.f0 x.f1 x.f2=true) (hp:all.Pairwise apart) (x:S62) (hx:x∈all):Run (cov all) x.f0 x.f1 x.f2:=by
 obtain⟨v0,v1,v2,v3,v4,v5⟩:=holeOk_bounds (hv x hx)
 refine⟨v2,v4,fun s h1 h2=>?_,?_,?_⟩
 · simp only[on2,Bool.and_eq_true,decide_eq_true_eq]
   exact⟨by omega,(cov_true all x.f0 s).2 ⟨x,hx,rfl,h1,h2⟩⟩
 · by_cases h0:x.f1=0
   · exact .inl h0
   · right
     rw[← Bool.not_eq_true]
     intro h
     simp only[on2,Bool.and_eq_true]at h
     obtain⟨y,hy,e,h1,h2⟩:=(cov_true _ _ _).1 h.2
     rcases apart_of hp x hx y hy with e1 | h3
     · subst e1;omega
     · rcases h3 e.symm with h4 | h4<;>omega
 · rw[← Bool.not_eq_true]
   intro h
   simp only[on2,Bool.and_eq_true]at h
   obtain⟨y,hy,e,h1,h2⟩:=(cov_true _ _ _).1 h.2
   rcases apart_of hp x hx y hy with e1 | h3
   · subst e1;omega
   · rcases h3 e.symm with h4 | h4<;>omega
theorem nodup_apart (all:List S62) (hv:∀x∈all,holeOk x.f0 x.f1 x.f2=true) (hp:all.Pairwise apart):all.Nodup:=by
 refine List.Pairwise.imp_of_mem ?_ hp
 intro x y hx _ h e
 subst e
 have:=(holeOk_bounds (hv x hx)).2.2.2.2.1
 rcases h rfl with h | h<;>omega
theorem run_congr {on on':Int→Int→Bool} {t a b:Int} (e:∀s,0≤s→on t s=on' t s) (h:Run on t a b):Run on' t a b:=by
 have e2:∀s,0≤s→on2 on t s=on2 on' t s:=fun s hs=>by rw[on2,on2,e s hs]
 have h0:=h.a0
 have hab:=h.ab
 refine⟨h0,hab,fun s h1 h2=>by rw[← e2 s (by omega)];exact h.ins s h1 h2,?_,by rw[← e2 b (by omega)];exact h.rgt⟩
 rcases h.lft with h3 | h3
 · exact .inl h3
 · by_cases h4:a=0
   · exact .inl h4
   · exact .inr (by rw[← e2 (a-1) (by omega)];exact h3)
open Classical in
/-- The ranges of a grid in which the same steps are open are the holes, in another order. -/
theorem grid_perm (on:Int→Int→Bool) (all:List S62) (hv:∀x∈all,holeOk x.f0 x.f1 x.f2=true) (hp:all.Pairwise apart) (he:∀t s,0≤s→on t s=cov all t s):(gridH on).Perm all:=by
 refine(List.perm_ext_iff_of_nodup (gridH_nodup on) (nodup_apart all hv hp)).2 (fun x=>?_)
 rw[gridH_mem]
 constructor
 · rintro⟨h0,h1,h⟩
   have h2:=run_congr (on':=cov all) (fun s hs=>he x.f0 s hs) h
   have h3:=h2.ins x.f1 (Int.le_refl _) h2.ab
   simp only[on2,Bool.and_eq_true]at h3
   obtain⟨y,hy,e,h4,h5⟩:=(cov_true _ _ _).1 h3.2
   have hy2:=run_of_mem all hv hp y hy
   rw[e]at hy2
   obtain⟨e1,e2⟩:=h2.uniq hy2 h4 h5
   have:x=y:=by
    cases x;cases y
    simp only at e e1 e2
    rw[e,e1,e2]
   rw[this];exact hy
 · intro hx
   have hb:=holeOk_bounds (hv x hx)
   exact⟨hb.1,hb.2.1,run_congr (fun s hs=>(he x.f0 s hs).symm) (run_of_mem all hv hp x hx)⟩
def joinH:List S62→S62→List S62
 | [],x=> [x]
 | y :: l,x=>if y.f0=x.f0∧y.f2=x.f1 then⟨y.f0,y.f1,x.f2⟩ :: l else y :: joinH l x
theorem joinH_len (l:List S62) (x:S62):(joinH l x).length≤l.length+1:=by
 induction l with
 | nil=>simp[joinH]
 | cons y l ih=>rw[joinH];split<;>simp<;>omega
/-- What joining does: a hole is appended, or the one that it touches grows. -/
theorem joinH_cases (x:S62):∀l:List S62,((∀y∈l,¬(y.f0=x.f0∧y.f2=x.f1))∧joinH l x=l ++ [x])∨∃A y B,l=A ++ y :: B∧(∀z∈A,¬(z.f0=x.f0∧z.f2=x.f1))∧y.f0=x.f0∧y.f2=x.f1∧joinH l x=A ++ ⟨y.f0,y.f1,x.f2⟩ :: B
 | []=> .inl ⟨fun _ h=>(by cases h),rfl⟩
 | y :: l=>by
   by_cases c:y.f0=x.f0∧y.f2=x.f1
   · exact .inr ⟨[],y,l,rfl,fun _ h=>(by cases h),c.1,c.2,(by rw[joinH,if_pos c];rfl)⟩
   · rcases joinH_cases x l with ⟨h1,h2⟩ | ⟨A,z,B,h1,h2,h3,h4,h5⟩
     · refine .inl ⟨fun z hz=>?_,by rw[joinH,if_neg c,h2];rfl⟩
       rcases List.mem_cons.1 hz with e | hz
       · rw[e];exact c
       · exact h1 z hz
     · refine .inr ⟨y :: A,z,B,by rw[h1];rfl,fun u hu=>?_,h3,h4,by rw[joinH,if_neg c,h5];rfl⟩
       rcases List.mem_cons.1 hu with e | hu
       · rw[e];exact c
       · exact h2 u hu
theorem cov_app (a b:List S62) (t s:Int):cov (a ++ b) t s=(cov a t s || cov b t s):=by simp[cov,List.any_append]
theorem cov_cons (y:S62) (b:List S62) (t s:Int):cov (y :: b) t s=(decide (y.f0=t∧y.f1≤s∧s<y.f2) || cov b t s):=by simp[cov]
theorem cov_perm {a b:List S62} (h:a.Perm b) (t s:Int):cov a t s=cov b t s:=by
 rw[Bool.eq_iff_iff,cov_true,cov_true]
 constructor
 · rintro⟨y,hy,e⟩;exact⟨y,h.mem_iff.1 hy,e⟩
 · rintro⟨y,hy,e⟩;exact⟨y,h.mem_iff.2 hy,e⟩
theorem cov_joinH (l:List S62) (x:S62) (hx:x.f1<x.f2) (hv:∀y∈l,y.f1<y.f2) (t s:Int):cov (joinH l x) t s=(cov l t s || cov [x] t s):=by
 rcases joinH_cases x l with ⟨_,h2⟩ | ⟨A,z,B,h1,_,h3,h4,h5⟩
 · rw[h2,cov_app]
 · have hz:=hv z (by rw[h1];simp)
   rw[h5,h1,cov_app,cov_app,cov_cons,cov_cons,cov_cons]
   have e:decide (z.f0=t∧z.f1≤s∧s<x.f2)=(decide (z.f0=t∧z.f1≤s∧s<z.f2) || decide (x.f0=t∧x.f1≤s∧s<x.f2)):=by
    rw[Bool.eq_iff_iff,Bool.or_eq_true,decide_eq_true_eq,decide_eq_true_eq,decide_eq_true_eq]
    constructor
    · rintro⟨q1,q2,q3⟩
      by_cases q:s<z.f2
      · exact .inl ⟨q1,q2,q⟩
      · exact .inr ⟨by omega,by omega,q3⟩
    · rintro(⟨q1,q2,q3⟩ | ⟨q1,q2,q3⟩)
      · exact⟨q1,q2,by omega⟩
      · exact⟨by omega,by omega,q3⟩
   dsimp only
   rw[e]
   cases decide (z.f0=t∧z.f1≤s∧s<z.f2)<;>cases decide (x.f0=t∧x.f1≤s∧s<x.f2)<;>cases cov A t s<;>cases cov B t s<;>rfl
/-- How what is joined stands to the holes of a part that are still to be joined: it ends no later than the part begins, or lies apart. -/
def Before (at_:Int) (all rest:List S62):Prop:= ∀y∈all,∀h∈rest,y.f2≤at_∨apart y h
theorem joinH_good (at_:Int) (rest l:List S62) (x:S62) (hv:∀y∈l,holeOk y.f0 y.f1 y.f2=true) (hp:l.Pairwise apart) (hx:holeOk x.f0 x.f1 x.f2=true) (hxa:at_≤x.f1) (hra:∀h∈rest,at_≤h.f1∧h.f1<h.f2) (hxr:∀h∈rest,apart x h) (hb:Before at_ l (x :: rest)) :
 (∀y∈joinH l x,holeOk y.f0 y.f1 y.f2=true)∧(joinH l x).Pairwise apart∧Before at_ (joinH l x) rest:=by
 have hxb:=holeOk_bounds hx
 rcases joinH_cases x l with ⟨h1,h2⟩ | ⟨A,z,B,h1,_,h3,h4,h5⟩
 · rw[h2]
   have hap:∀y∈l,apart y x:=by
    intro y hy
    rcases hb y hy x List.mem_cons_self with h | h
    · intro e
      left
      have:=h1 y hy
      have:y.f2≠x.f1:=fun e2=>this ⟨e,e2⟩
      omega
    · exact h
   refine⟨fun y hy=>?_,List.pairwise_append.2 ⟨hp,List.pairwise_singleton _ _,fun y hy u hu=>by rw[List.mem_singleton.1 hu];exact hap y hy⟩,fun y hy h hh=>?_⟩
   · rcases List.mem_append.1 hy with hy | hy
     · exact hv y hy
     · rw[List.mem_singleton.1 hy];exact hx
   · rcases List.mem_append.1 hy with hy | hy
     · exact hb y hy h (List.mem_cons_of_mem _ hh)
     · rw[List.mem_singleton.1 hy];exact .inr (hxr h hh)
 · rw[h5]
   subst h1
   have hz:=holeOk_bounds (hv z (by simp))
   have hza:z.f2≤at_:=by
    rcases hb z (by simp) x List.mem_cons_self with h | h
    · exact h
    · rcases h h3 with h | h<;>omega
   have hxe:x.f1=at_:=by omega
   have hap:∀y,(y∈A∨y∈B)→apart y ⟨z.f0,z.f1,x.f2⟩:=by
    intro y hy e
    have e:y.f0=z.f0:=e
    have hyl:y∈A ++ z :: B:=by
     rcases hy with h | h
     · simp[h]
     · simp[h]
    have hyv:=holeOk_bounds (hv y hyl)
    have hyz:apart y z:=by
     rw[List.pairwise_append]at hp
     rcases hy with h | h
     · exact hp.2.2 y h z List.mem_cons_self
     · exact apart_symm (List.rel_of_pairwise_cons hp.2.1 h)
    show y.f2<z.f1∨x.f2<y.f1
    rcases hyz e with h | h
    · exact .inl h
    · right
      rcases hb y hyl x List.mem_cons_self with h6 | h6
      · omega
      · rcases h6 (e.trans h3) with h7 | h7<;>omega
   have hz2:holeOk z.f0 z.f1 x.f2=true:=by
    simp only[holeOk,decide_eq_true_eq];omega
   refine⟨fun y hy=>?_,?_,fun y hy h hh=>?_⟩
   · rcases List.mem_append.1 hy with hy | hy
     · exact hv y (by simp[hy])
     · rcases List.mem_cons.1 hy with e | hy
       · rw[e];exact hz2
       · exact hv y (by simp[hy])
   · rw[List.pairwise_append]at hp ⊢
     obtain⟨p1,p2,p3⟩:=hp
     obtain⟨p4,p5⟩:=List.pairwise_cons.1 p2
     refine⟨p1,List.pairwise_cons.2 ⟨fun y hy=>apart_symm (hap y (.inr hy)),p5⟩,fun y hy u hu=>?_⟩
     rcases List.mem_cons.1 hu with e | hu
     · rw[e];exact hap y (.inl hy)
     · exact p3 y hy u (List.mem_cons_of_mem _ hu)
   · have hold:∀y,(y∈A∨y∈B)→y.f2≤at_∨apart y h:=fun y hy=>hb y (by rcases hy with q | q<;>simp[q]) h (List.mem_cons_of_mem _ hh)
     rcases List.mem_append.1 hy with hy | hy
     · exact hold y (.inl hy)
     · rcases List.mem_cons.1 hy with e | hy
       · right
         rw[e]
         intro e2
         have e2:z.f0=h.f0:=e2
         show x.f2<h.f1∨h.f2<z.f1
         have:=hra h hh
         rcases hxr h hh (h3.symm.trans e2) with q | q
         · exact .inl q
         · omega
       · exact hold y (.inr hy)
def shiftH (d:Int) (x:S62):S62:=⟨x.f0,x.f1+d,x.f2+d⟩
def joinAll (all:List S62) (at_:Int) (cs:List S62):List S62:=cs.foldl (fun a h=>joinH a (shiftH at_ h)) all
theorem joinAll_good (at_:Int) (h0:0≤at_):∀(cs l:List S62),(∀c∈cs,0≤c.f1∧holeOk (shiftH at_ c).f0 (shiftH at_ c).f1 (shiftH at_ c).f2=true)→cs.Pairwise apart→(∀y∈l,holeOk y.f0 y.f1 y.f2=true)→l.Pairwise apart→Before at_ l (cs.map (shiftH at_)) →
 (∀y∈joinAll l at_ cs,holeOk y.f0 y.f1 y.f2=true)∧(joinAll l at_ cs).Pairwise apart∧(∀t s,cov (joinAll l at_ cs) t s=(cov l t s || cov (cs.map (shiftH at_)) t s))∧(∀m,(∀y∈l,y.f2≤m)→(∀c∈cs,c.f2+at_≤m)→∀y∈joinAll l at_ cs,y.f2≤m)
 | [],l,_,_,hv,hp,_=>⟨hv,hp,fun t s=>by simp[joinAll,cov],fun m h _=>h⟩
 | c :: cs,l,hc,hcp,hv,hp,hb=>by
   obtain⟨q1,q2⟩:=List.pairwise_cons.1 hcp
   have hx:=hc c List.mem_cons_self
   have hxb:=holeOk_bounds hx.2
   have hsh:∀a b:S62,apart a b→apart (shiftH at_ a) (shiftH at_ b):=by
    intro a b h e
    show a.f2+at_<b.f1+at_∨b.f2+at_<a.f1+at_
    rcases h e with h | h<;>omega
   have hra:∀h∈cs.map (shiftH at_),at_≤h.f1∧h.f1<h.f2:=by
    intro h hh
    obtain⟨d,hd,e⟩:=List.mem_map.1 hh
    subst e
    have h1:=hc d (List.mem_cons_of_mem _ hd)
    exact⟨show at_≤d.f1+at_ by omega,(holeOk_bounds h1.2).2.2.2.2.1⟩
   obtain⟨g1,g2,g3⟩:=joinH_good at_ (cs.map (shiftH at_)) l (shiftH at_ c) hv hp hx.2 (show at_≤c.f1+at_ by omega) hra (fun h hh=>by
    obtain⟨d,hd,e⟩:=List.mem_map.1 hh
    subst e
    exact hsh c d (q1 d hd)) hb
   obtain⟨k1,k2,k3,k4⟩:=joinAll_good at_ h0 cs (joinH l (shiftH at_ c)) (fun d hd=>hc d (List.mem_cons_of_mem _ hd)) q2 g1 g2 g3
   refine⟨k1,k2,fun t s=>?_,fun m hm hcm=>k4 m ?_ (fun d hd=>hcm d (List.mem_cons_of_mem _ hd))⟩
   · show cov (joinAll (joinH l (shiftH at_ c)) at_ cs) t s=_
     rw[k3,cov_joinH l _ hxb.2.2.2.2.1 (fun y hy=>(holeOk_bounds (hv y hy)).2.2.2.2.1),List.map_cons,cov_cons _ (cs.map _),cov_cons]
     cases cov l t s<;>simp[cov]
   · intro y hy
     have hcm1:=hcm c List.mem_cons_self
     rcases joinH_cases (shiftH at_ c) l with ⟨_,h2⟩ | ⟨A,z,B,h1,_,_,_,h5⟩
     · rw[h2]at hy
       rcases List.mem_append.1 hy with hy | hy
       · exact hm y hy
       · rw[List.mem_singleton.1 hy];exact hcm1
     · rw[h5]at hy
       rcases List.mem_append.1 hy with hy | hy
       · exact hm y (by rw[h1];simp[hy])
       · rcases List.mem_cons.1 hy with e | hy
         · rw[e];exact hcm1
         · exact hm y (by rw[h1];simp[hy])
def cutH (l:List S62) (a b:Int):List S62:=l.filterMap fun x=>if max x.f1 a<min x.f2 b then some ⟨x.f0,max x.f1 a-a,min x.f2 b-a⟩ else none
theorem cutH_good (l:List S62) (a b:Int) (ha:0≤a) (hb:b≤2000) (hv:∀x∈l,holeOk x.f0 x.f1 x.f2=true) (hp:l.Pairwise apart) :
 (∀c∈cutH l a b,0≤c.f1∧c.f2≤b-a∧holeOk c.f0 c.f1 c.f2=true)∧(cutH l a b).Pairwise apart:=by
 constructor
 · intro c hc
   obtain⟨x,hx,e⟩:=List.mem_filterMap.1 hc
   have:=holeOk_bounds (hv x hx)
   split at e
   · rename_i q
     injection e with e
     subst e
     refine⟨by dsimp only;omega,by dsimp only;omega,?_⟩
     simp only[holeOk,decide_eq_true_eq]
     omega
   · cases e
 · refine List.Pairwise.filterMap _ ?_ hp
   intro x y h c hc d hd
   split at hc
   · split at hd
     · injection hc with hc;injection hd with hd
       subst hc;subst hd
       intro e
       have e:x.f0=y.f0:=e
       show min x.f2 b-a<max y.f1 a-a∨min y.f2 b-a<max x.f1 a-a
       rcases h e with q | q<;>omega
     · cases hd
   · cases hc
theorem cov_cutH (l:List S62) (a b d t s:Int):cov ((cutH l a b).map (shiftH d)) t s=cov (l.map fun x=>(⟨x.f0,d+max x.f1 a-a,d+min x.f2 b-a⟩:S62)) t s:=by
 rw[Bool.eq_iff_iff,cov_true,cov_true]
 constructor
 · rintro⟨y,hy,e,h1,h2⟩
   obtain⟨c,hc,e1⟩:=List.mem_map.1 hy
   obtain⟨x,hx,e2⟩:=List.mem_filterMap.1 hc
   split at e2
   · injection e2 with e2
     subst e2;subst e1
     refine⟨_,List.mem_map.2 ⟨x,hx,rfl⟩,e,?_,?_⟩
     · have h1:max x.f1 a-a+d≤s:=h1
       show d+max x.f1 a-a≤s
       omega
     · have h2:s<min x.f2 b-a+d:=h2
       show s<d+min x.f2 b-a
       omega
   · cases e2
 · rintro⟨y,hy,e,h1,h2⟩
   obtain⟨x,hx,e1⟩:=List.mem_map.1 hy
   subst e1
   have h1:d+max x.f1 a-a≤s:=h1
   have h2:s<d+min x.f2 b-a:=h2
   refine⟨_,List.mem_map.2 ⟨⟨x.f0,max x.f1 a-a,min x.f2 b-a⟩,List.mem_filterMap.2 ⟨x,hx,by rw[if_pos (by omega)]⟩,rfl⟩,e,?_,?_⟩
   · show max x.f1 a-a+d≤s;omega
   · show s<min x.f2 b-a+d;omega
theorem apart_of_good (l:List S62) (h:good l=true):l.Pairwise apart:=by
 refine((good_iff l).1 h).2.1.imp ?_
 intro y x hr e
 left
 have h1:=hr.2
 simp only[meets,decide_eq_false_iff_not,not_and]at h1
 have:=h1 e.symm
 omega
/-- Holes that lie apart, put in order, are a sheet, if they are not too many. -/
theorem good_of_apart (c:List S62) (hv:∀x∈c,holeOk x.f0 x.f1 x.f2=true) (hp:c.Pairwise apart) (hl:c.length≤60):good (srt c)=true:=by
 have hq:=srt_perm c
 have ho:(srt c).Pairwise (fun y x=>before x y=false):=(Zb.srt_sorts c).2
 have hN:(srt c).Nodup:=hq.nodup_iff.2 (nodup_apart c hv hp)
 refine(good_iff _).2 ⟨fun x hx=>hv x (hq.mem_iff.1 hx),?_,by rw[srt_len];exact hl⟩
 refine List.Pairwise.imp_of_mem ?_ (List.Pairwise.and ho hN)
 intro y x hy hx hr
 have vy:=holeOk_bounds (hv y (hq.mem_iff.1 hy))
 have vx:=holeOk_bounds (hv x (hq.mem_iff.1 hx))
 have h1:=hr.1
 simp only[before,decide_eq_false_iff_not,not_or,not_and]at h1
 have ha:apart y x:=by
  rcases apart_of hp y (hq.mem_iff.1 hy) x (hq.mem_iff.1 hx) with e | e
  · exact absurd e hr.2
  · exact e
 constructor
 · simp only[before,decide_eq_true_eq]
   by_cases e:y.f1=x.f1
   · right
     refine⟨e,?_⟩
     have h2:=h1.2 e.symm
     by_cases e2:y.f0=x.f0
     · rcases ha e2 with q | q<;>omega
     · omega
   · left
     have h2:=h1.1
     omega
 · simp only[meets,decide_eq_false_iff_not,not_and]
   intro e
   have h2:=h1.1
   rcases ha e.symm with q | q<;>omega
theorem sortedR_perm (a b:List S62) (h:a.Perm b):sortedR a=sortedR b:=by
 unfold sortedR
 by_cases ga:good (srt a)=true
 · have e:srt b=srt a:=srt_of_perm (srt a) b ga (h.symm.trans (srt_perm a).symm)
   rw[e]
 · by_cases gb:good (srt b)=true
   · have e:srt a=srt b:=srt_of_perm (srt b) a gb (h.trans (srt_perm b).symm)
     rw[e]
   · rw[if_neg ga,if_neg gb]
structure EdInv (all pt:List S62) (at_:Int):Prop where
 a0:0≤at_
 ok:∀y∈all,holeOk y.f0 y.f1 y.f2=true
 ap:all.Pairwise apart
 le:∀y∈all,y.f2≤at_
 cv:∀t s,cov all t s=cov pt t s
/-- What a part paints. -/
def paintH (at_ a b:Int) (x:S62):S62:=⟨x.f0,at_+max x.f1 a-a,at_+min x.f2 b-a⟩
theorem EdInv.step {all pt l:List S62} {at_ a b:Int} (h:EdInv all pt at_) (hl:good l=true) (ha:0≤a) (hb:b≤2000) (hab:a<b) (hm:at_+(b-a)≤2000) :
 good (srt (cutH l a b))=true∧EdInv (joinAll all at_ (srt (cutH l a b))) (pt ++ l.map (paintH at_ a b)) (at_+(b-a)):=by
 have hg:=(good_iff l).1 hl
 obtain⟨c1,c2⟩:=cutH_good l a b ha hb hg.1 (apart_of_good l hl)
 have hlen:(cutH l a b).length≤60:=Nat.le_trans (List.length_filterMap_le _ _) hg.2.2
 have hgs:=good_of_apart (cutH l a b) (fun x hx=>(c1 x hx).2.2) c2 hlen
 have hq:=srt_perm (cutH l a b)
 have hcs:∀c∈srt (cutH l a b),0≤c.f1∧c.f2≤b-a∧holeOk c.f0 c.f1 c.f2=true:=fun c hc=>c1 c (hq.mem_iff.1 hc)
 have hbf:Before at_ all ((srt (cutH l a b)).map (shiftH at_)):=fun y hy _ _=> .inl (h.le y hy)
 have a0:=h.a0
 obtain⟨k1,k2,k3,k4⟩:=joinAll_good at_ h.a0 (srt (cutH l a b)) all (fun c hc=>by
  obtain⟨q1,q2,q3⟩:=hcs c hc
  have q4:=holeOk_bounds q3
  refine⟨q1,?_⟩
  show decide (0≤c.f0∧c.f0≤19∧0≤c.f1+at_∧c.f1+at_≤1999∧c.f1+at_<c.f2+at_∧c.f2+at_≤2000)=true
  rw[decide_eq_true_eq]
  omega) (apart_of_good _ hgs) h.ok h.ap hbf
 refine⟨hgs,⟨by omega,k1,k2,k4 _ (fun y hy=>by have:=h.le y hy;omega) (fun c hc=>by have:=(hcs c hc).2.1;omega),fun t s=>?_⟩⟩
 rw[k3,cov_app,h.cv,cov_perm (hq.map (shiftH at_)),cov_cutH]
 rfl
theorem edition_same {all pt:List S62} {at_:Int} (h:EdInv all pt at_):sortedR (gridH (cov pt))=sortedR all∧(gridH (cov pt)).length=all.length:=by
 have hp:=grid_perm (cov pt) all h.ok h.ap (fun t s _=>(h.cv t s).symm)
 exact⟨sortedR_perm _ _ hp,hp.length_eq⟩

end Go.Proofs.YtcnegcdmmackeaaGreat.LFnEditionsA
