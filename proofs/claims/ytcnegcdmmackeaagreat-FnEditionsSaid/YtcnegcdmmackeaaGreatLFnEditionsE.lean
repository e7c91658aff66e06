/- Plain lemmas on what the printed functions of this law compute; each with the conditions that it names. -/
import Derived.Test.YtcnegcdmmackeaaGreatLFnEditionsB
import Derived.Test.YtcnegcdmmackeaaGreatLFnEditionsA
import Derived.Test.YtcnegcdmmackeaaGreatQFnEditionsx3
import Derived.Test.YtcnegcdmmackeaaGreatQFnEditionsx4
import Derived.Test.YtcnegcdmmackeaaGreatQFnEditionsx5
import Derived.Test.YtcnegcdmmackeaaGreatQFnEditionsx6
import Derived.Test.YtcnegcdmmackeaaGreatQFnEditionsx7
import Derived.Test.YtcnegcdmmackeaaGreatQFnEditionsx8
import Derived.Test.YtcnegcdmmackeaaGreatQFnEditionsx9
import Derived.Test.YtcnegcdmmackeaaGreatQFnEditionsx10
import Derived.Test.YtcnegcdmmackeaaGreatQFnEditionsx11
import Derived.Test.YtcnegcdmmackeaaGreatQFnEditionsx12
import Derived.Test.YtcnegcdmmackeaaGreatQFnEditionsx13
import Derived.Test.YtcnegcdmmackeaaGreatQFnEditionsx14
import Derived.Test.YtcnegcdmmackeaaGreatQFnEditionsx15
import Derived.Test.YtcnegcdmmackeaaGreatQFnEditionsx16
import Derived.Test.YtcnegcdmmackeaaGreatQFnEditionsx17
import Derived.Test.YtcnegcdmmackeaaGreatQFnEditionsx18
import Derived.Test.YtcnegcdmmackeaaGreatQFnEditionsx19
import Derived.Test.YtcnegcdmmackeaaGreatQFnEditionsx20
import Derived.Test.YtcnegcdmmackeaaGreatQFnEditionsx21
import Derived.Test.YtcnegcdmmackeaaGreatQFnEditionsx22
import Derived.Test.YtcnegcdmmackeaaGreatQFnEditionsx23
import Derived.Test.YtcnegcdmmackeaaGreatBaseE
namespace Go.Proofs.YtcnegcdmmackeaaGreat.LFnEditionsE
open Go Go.RowKit Go.Proofs.YtcnegcdmmackeaaGreat.QFnEditions Go.Proofs.YtcnegcdmmackeaaGreatW.PrintWords Go.Proofs.YtcnegcdmmackeaaGreatW.PrintLast Go.Proofs.YtcnegcdmmackeaaGreatW.PrintMore Go.Proofs.YtcnegcdmmackeaaGreat.Base Go.Proofs.YtcnegcdmmackeaaGreat.LFnEditionsA Go.Proofs.YtcnegcdmmackeaaGreat.LFnEditionsB
set_option linter.unusedVariables false
set_option linter.unusedSimpArgs false

def cutIn (c:Int) (x:S62):Bool:=decide (x.f1<c∧x.f2>c)
/-- The count goes on, one for each hole that the cut goes through. -/
def cutsAt (c:Int):List S62→Int→Int
 | [],m=>m
 | x :: l,m=>cutsAt c l (if cutIn c x=true then wrap64 (m+1) else m)
/-- The count over the parts from place i on. -/
def cuts (l:List (List S62)) (p:List S46):Nat→Int→Int→Int
 | 0,_,m=>m
 | d+1,i,m=>cuts l p d (i+1) (if i+1<(p.length:Int)∧(rd_T46 p (i+1)).f0=(rd_T46 p i).f0∧(rd_T46 p (i+1)).f1=(rd_T46 p i).f2 then m else cutsAt (rd_T46 p i).f2 (rd_L3 l (rd_T46 p i).f0) m)
theorem isOpen_cut (x:S62) (c:Int) (h:1≤c∧c≤2000):ZT.f x.f0 x.f1 x.f2 (wrap64 (c-1))=some (decide (x.f1≤c-1∧c-1<x.f2))∧ZT.f x.f0 x.f1 x.f2 c=some (decide (x.f1≤c∧c<x.f2)):=by
 have gen:∀q,ZT.f x.f0 x.f1 x.f2 q=some (decide (x.f1≤q∧q<x.f2)):=fun q=>by
  unfold ZT.f
  by_cases c1:x.f1≤q
  · rw[if_pos c1];congr 1;exact decide_eq_decide.2 ⟨fun w=>⟨c1,w⟩,fun w=>w.2⟩
  · rw[if_neg c1];congr 1;exact(decide_eq_false (fun w=>c1 w.1)).symm
 rw[wrapS (by omega) (by omega)]
 exact⟨gen _,gen _⟩
section
variable (l:List (List S62)) (p:List S46)
theorem specCut_l1 (n:Int) (i:Nat) (hi:i+1≤12) (x:S46) (R:Int×Bool) (suf:List S62):∀(pre:List S62) (m:Int),(pre ++ suf).length≤1048576 →
 Ev (fun k=>Zm.l0 k l p (cutsAt x.f2 suf m) p n ((i+1:Nat):Int)) R →
 Ev (fun k=>Zm.l1 k l p m p n (i:Int) (pre ++ suf) ((pre ++ suf).length:Int) (pre.length:Int) x.f0 x.f1 x.f2) R:=by
 induction suf with
 | nil=>
   intro pre m _ h
   refine ev_step h (fun k=>?_)
   rw[Zm.l1,if_neg (by simp),wrapS (by omega) (by omega)]
   simp[cutsAt]
 | cons y suf ih=>
   intro pre m hl h
   have hlp:pre.length≤1048576:=by simp at hl;omega
   have h2:=ih (pre ++ [y]) (if cutIn x.f2 y=true then wrap64 (m+1) else m) (by simp at hl ⊢;omega) h
   rw[snoc_app,snoc_leni]at h2
   have hl':(pre.length:Int)<((pre ++ y :: suf).length:Int):=by simp;omega
   have hw:wrap64 ((pre.length:Int)+1)=(pre.length:Int)+1:=wrapS (by omega) (by omega)
   refine ev_step h2 (fun k=>?_)
   rw[Zm.l1,if_pos hl',if_pos (by omega),if_pos hl',rdH_mid,hw]
   unfold cutIn
   by_cases c1:y.f1<x.f2
   · rw[if_pos c1]
     by_cases c2:y.f2>x.f2
     · rw[if_pos c2,if_pos (decide_eq_true ⟨c1,c2⟩)]
     · rw[if_neg c2,if_neg (by simp only[decide_eq_true_eq];exact fun w=>c2 w.2)]
   · rw[if_neg c1,if_neg (by simp only[decide_eq_true_eq];exact fun w=>c1 w.1)]
theorem implCut_l1 (n:Int) (i:Nat) (hi:i+1≤12) (x:S46) (hx:1≤x.f2∧x.f2≤2000) (R:Int×Bool) (suf:List S62):∀(pre:List S62) (m:Int),(pre ++ suf).length≤1048576 →
 Ev (fun k=>Zi.l0 k l p (cutsAt x.f2 suf m) p n ((i+1:Nat):Int)) R →
 Ev (fun k=>Zi.l1 k l p m p n (i:Int) (pre ++ suf) ((pre ++ suf).length:Int) (pre.length:Int) x.f0 x.f1 x.f2) R:=by
 induction suf with
 | nil=>
   intro pre m _ h
   refine ev_step h (fun k=>?_)
   rw[Zi.l1,if_neg (by simp),wrapS (by omega) (by omega)]
   simp[cutsAt]
 | cons y suf ih=>
   intro pre m hl h
   have hlp:pre.length≤1048576:=by simp at hl;omega
   have h2:=ih (pre ++ [y]) (if cutIn x.f2 y=true then wrap64 (m+1) else m) (by simp at hl ⊢;omega) h
   rw[snoc_app,snoc_leni]at h2
   have hl':(pre.length:Int)<((pre ++ y :: suf).length:Int):=by simp;omega
   have hw:wrap64 ((pre.length:Int)+1)=(pre.length:Int)+1:=wrapS (by omega) (by omega)
   obtain⟨o1,o2⟩:=isOpen_cut y x.f2 hx
   refine ev_step h2 (fun k=>?_)
   rw[Zi.l1,if_pos hl',if_pos (by omega),if_pos hl',rdH_mid,hw,o1,o2]
   simp only[Option.bind_some]
   unfold cutIn
   by_cases c:y.f1<x.f2∧y.f2>x.f2
   · rw[if_pos (decide_eq_true (by omega)),if_pos (decide_eq_true (by omega)),if_pos (decide_eq_true c)]
   · rw[if_neg (show ¬(decide (y.f1<x.f2∧y.f2>x.f2)=true) by rw[decide_eq_true_eq];exact c)]
     by_cases c1:y.f1≤x.f2-1∧x.f2-1<y.f2
     · rw[if_pos (decide_eq_true c1),if_neg (by simp only[decide_eq_true_eq];omega)]
     · rw[if_neg (by simpa using c1)]
theorem specCut_l0 (hp:p.length≤12) (hx:∀x∈l,x.length≤1048576) (hb:∀i:Nat,i<p.length→0≤(rd_T46 p i).f0∧(rd_T46 p i).f0<(l.length:Int)) (d:Nat):∀(i:Nat) (m:Int),i+d=p.length →
 Ev (fun k=>Zm.l0 k l p m p (p.length:Int) (i:Int)) (cuts l p d i m,true):=by
 induction d with
 | zero=>
   intro i m hi
   refine ev_step (f:=fun _=>some _) (Ev.now _) (fun k=>?_)
   rw[Zm.l0,if_neg (by omega)];rfl
 | succ d ih=>
   intro i m hi
   have hw:wrap64 ((i:Int)+1)=(i:Int)+1:=wrapS (by omega) (by omega)
   have hb0:=hb i (by omega)
   obtain⟨y,hy⟩:∃y,y=rd_T46 p (i:Int):=⟨_,rfl⟩
   rw[← hy]at hb0
   have hrow:(rd_L3 l y.f0).length≤1048576:=by
    have c:y.f0.toNat<l.length:=by omega
    refine hx _ ?_
    have e:rd_L3 l y.f0=l[y.f0.toNat]:=by simp[rd_L3,List.getD_eq_getElem?_getD,List.getElem?_eq_getElem c]
    rw[e];exact List.getElem_mem c
   have J:∀b:Bool,Ev (fun k=>Zm.j1 k l p m p (p.length:Int) (i:Int) b y.f0 y.f1 y.f2) (cuts l p d ((i:Int)+1) (if b=true then m else cutsAt y.f2 (rd_L3 l y.f0) m),true):=fun b=>by
    cases b with
    | true=>
      have h:=ih (i+1) m (by omega)
      refine ev_step (ev_eq h (by simp)) (fun k=>?_)
      rw[Zm.j1,if_pos rfl,hw];simp
    | false=>
      have h:=ih (i+1) (cutsAt y.f2 (rd_L3 l y.f0) m) (by omega)
      have h2:=specCut_l1 l p (p.length:Int) i (by omega) y _ (rd_L3 l y.f0) [] m (by simpa using hrow) h
      refine ev_step (ev_eq h2 (by simp)) (fun k=>?_)
      rw[Zm.j1,if_neg (by decide),if_pos hb0.1,if_pos hb0.2];simp
   have fin:∀b:Bool,(b=true↔((i:Int)+1<(p.length:Int)∧(rd_T46 p ((i:Int)+1)).f0=y.f0∧(rd_T46 p ((i:Int)+1)).f1=y.f2))→Ev (fun k=>Zm.j1 k l p m p (p.length:Int) (i:Int) b y.f0 y.f1 y.f2) (cuts l p (d+1) (i:Int) m,true):=fun b hb=>by
    refine ev_eq (J b) ?_
    rw[cuts, ← hy]
    congr 2
    cases b with
    | true=>rw[if_pos rfl,if_pos (hb.1 rfl)]
    | false=>rw[if_neg (by decide),if_neg (fun q=>Bool.noConfusion (hb.2 q))]
   by_cases c1:(i:Int)+1<(p.length:Int)
   · by_cases c2:(rd_T46 p ((i:Int)+1)).f0=y.f0
     · refine ev_step (fin ((rd_T46 p ((i:Int)+1)).f1 == y.f2) (by rw[beq_iff_eq];exact⟨fun q=>⟨c1,c2,q⟩,fun q=>q.2.2⟩)) (fun k=>?_)
       rw[Zm.l0,if_pos (by omega),if_pos (by omega),if_pos (by omega),hw,if_pos c1,if_pos (by omega), ← hy,if_pos c2]
     · refine ev_step (fin false ⟨fun q=>Bool.noConfusion q,fun q=>absurd q.2.1 c2⟩) (fun k=>?_)
       rw[Zm.l0,if_pos (by omega),if_pos (by omega),if_pos (by omega),hw,if_pos c1,if_pos (by omega), ← hy,if_neg c2]
   · refine ev_step (fin false ⟨fun q=>Bool.noConfusion q,fun q=>absurd q.1 c1⟩) (fun k=>?_)
     rw[Zm.l0,if_pos (by omega),if_pos (by omega),if_pos (by omega),hw,if_neg c1, ← hy]
theorem implCut_l0 (hp:p.length≤12) (hx:∀x∈l,x.length≤1048576) (hb:∀i:Nat,i<p.length→0≤(rd_T46 p i).f0∧(rd_T46 p i).f0<(l.length:Int)) (hq:∀i:Nat,i<p.length→1≤(rd_T46 p i).f2∧(rd_T46 p i).f2≤2000) (d:Nat):∀(i:Nat) (m:Int),i+d=p.length →
 Ev (fun k=>Zi.l0 k l p m p (p.length:Int) (i:Int)) (cuts l p d i m,true):=by
 induction d with
 | zero=>
   intro i m hi
   refine ev_step (f:=fun _=>some _) (Ev.now _) (fun k=>?_)
   rw[Zi.l0,if_neg (by omega)];rfl
 | succ d ih=>
   intro i m hi
   have hw:wrap64 ((i:Int)+1)=(i:Int)+1:=wrapS (by omega) (by omega)
   have hb0:=hb i (by omega)
   have hq0:=hq i (by omega)
   obtain⟨y,hy⟩:∃y,y=rd_T46 p (i:Int):=⟨_,rfl⟩
   rw[← hy]at hb0 hq0
   have hrow:(rd_L3 l y.f0).length≤1048576:=by
    have c:y.f0.toNat<l.length:=by omega
    refine hx _ ?_
    have e:rd_L3 l y.f0=l[y.f0.toNat]:=by simp[rd_L3,List.getD_eq_getElem?_getD,List.getElem?_eq_getElem c]
    rw[e];exact List.getElem_mem c
   have J:∀b:Bool,Ev (fun k=>Zi.j2 k l p m p (p.length:Int) (i:Int) b y.f0 y.f1 y.f2) (cuts l p d ((i:Int)+1) (if b=true then m else cutsAt y.f2 (rd_L3 l y.f0) m),true):=fun b=>by
    cases b with
    | true=>
      have h:=ih (i+1) m (by omega)
      refine ev_step (ev_eq h (by simp)) (fun k=>?_)
      rw[Zi.j2,if_pos rfl,hw];simp
    | false=>
      have h:=ih (i+1) (cutsAt y.f2 (rd_L3 l y.f0) m) (by omega)
      have h2:=implCut_l1 l p (p.length:Int) i (by omega) y hq0 _ (rd_L3 l y.f0) [] m (by simpa using hrow) h
      refine ev_step (ev_eq h2 (by simp)) (fun k=>?_)
      rw[Zi.j2,if_neg (by decide),if_pos hb0.1,if_pos hb0.2];simp
   have fin:∀b:Bool,(b=true↔((i:Int)+1<(p.length:Int)∧(rd_T46 p ((i:Int)+1)).f0=y.f0∧(rd_T46 p ((i:Int)+1)).f1=y.f2))→Ev (fun k=>Zi.j2 k l p m p (p.length:Int) (i:Int) b y.f0 y.f1 y.f2) (cuts l p (d+1) (i:Int) m,true):=fun b hb=>by
    refine ev_eq (J b) ?_
    rw[cuts, ← hy]
    congr 2
    cases b with
    | true=>rw[if_pos rfl,if_pos (hb.1 rfl)]
    | false=>rw[if_neg (by decide),if_neg (fun q=>Bool.noConfusion (hb.2 q))]
   by_cases c1:(i:Int)+1<(p.length:Int)
   · by_cases c2:(rd_T46 p ((i:Int)+1)).f0=y.f0
     · refine ev_step (fin ((rd_T46 p ((i:Int)+1)).f1 == y.f2) (by rw[beq_iff_eq];exact⟨fun q=>⟨c1,c2,q⟩,fun q=>q.2.2⟩)) (fun k=>?_)
       rw[Zi.l0,if_pos (by omega),if_pos (by omega),if_pos (by omega),hw,if_pos c1,if_pos (by omega), ← hy,if_pos c2]
     · refine ev_step (fin false ⟨fun q=>Bool.noConfusion q,fun q=>absurd q.2.1 c2⟩) (fun k=>?_)
       rw[Zi.l0,if_pos (by omega),if_pos (by omega),if_pos (by omega),hw,if_pos c1,if_pos (by omega), ← hy,if_neg c2]
   · refine ev_step (fin false ⟨fun q=>Bool.noConfusion q,fun q=>absurd q.1 c1⟩) (fun k=>?_)
     rw[Zi.l0,if_pos (by omega),if_pos (by omega),if_pos (by omega),hw,if_neg c1, ← hy]
end
def cutHR (l:List (List S62)) (p:List S46):Int×Bool:=if(l.all good && areParts p (l.length:Int))=true then(cuts l p p.length 0 0,true) else(0,false)
theorem specCutH_ok (l:List (List S62)) (p:List S46) (hl:l.length≤1048576) (hx:∀x∈l,x.length≤1048576) (hp:p.length≤1048576):Ev (fun k=>Zm.f k l p) (cutHR l p):=by
 refine Ev.bind (edSheets_ok l p hl hx hp) ?_
 cases g:(l.all good && areParts p (l.length:Int)) with
 | false=>exact ev_of_eq (fun _=>by simp only[cutHR,g,Bool.false_eq_true,if_false])
 | true=>
   obtain⟨h1,h2,h3,h4⟩:=areParts_of (Bool.and_eq_true_iff.1 g).2
   simp only[if_true]
   exact ev_eq (specCut_l0 l p h1 hx (fun i hi=>(h4 i hi).1) p.length 0 0 (by omega)) (by simp only[cutHR,g,if_true];rfl)
theorem implCutH_ok (l:List (List S62)) (p:List S46) (hl:l.length≤1048576) (hx:∀x∈l,x.length≤1048576) (hp:p.length≤1048576):Ev (fun k=>Zi.f k l p) (cutHR l p):=by
 have no:∀b:Bool,b=true→(l.all good && areParts p (l.length:Int))=false→Ev (fun k=>Zi.j0 k l p b) (cutHR l p):=fun b hb g=>by
  rw[hb]
  refine ev_step (f:=fun _=>some _) (Ev.now _) (fun k=>?_)
  rw[Zi.j0,if_pos rfl];simp only[cutHR,g,Bool.false_eq_true,if_false]
 refine Ev.bind (areSheets_ok l 4 hl hx) ?_
 cases g:(l.all good && decide (1≤(l.length:Int)∧(l.length:Int)≤4)) with
 | false=>
   simp only[Bool.false_eq_true,if_false]
   refine no true rfl ?_
   cases ga:l.all good with
   | false=>rfl
   | true=>
     rw[ga,Bool.true_and]at g
     simp only[areParts,g,Bool.false_and,Bool.and_false]
 | true=>
   simp only[if_true]
   have ga:=(Bool.and_eq_true_iff.1 g).1
   refine Ev.bind (implAreParts_ok p (l.length:Int) hp) ?_
   cases gp:areParts p (l.length:Int) with
   | false=>exact no _ rfl (by rw[gp,Bool.and_false])
   | true=>
     obtain⟨h1,h2,h3,h4⟩:=areParts_of gp
     have h:=implCut_l0 l p h1 hx (fun i hi=>(h4 i hi).1) (fun i hi=>(h4 i hi).2) p.length 0 0 (by omega)
     refine ev_step (ev_eq h (by simp only[cutHR,ga,gp,Bool.and_self,if_true];rfl)) (fun k=>?_)
     rw[Zi.j0,if_neg (by decide)];rfl

def putS:List Int→Int→List Int
 | [],n=> [n]
 | x :: l,n=>if x<n then x :: putS l n else if x=n then x :: l else n :: x :: l
theorem mem_putS (n y:Int) (l:List Int):y∈putS l n↔y=n∨y∈l:=by
 induction l with
 | nil=>simp[putS]
 | cons x l ih=>
   rw[putS]
   by_cases c:x<n
   · rw[if_pos c,List.mem_cons,ih,List.mem_cons];constructor
     · rintro(h | h | h)<;>simp[h]
     · rintro(h | h | h)<;>simp[h]
   · rw[if_neg c]
     by_cases e:x=n
     · rw[if_pos e,List.mem_cons];subst e;simp
     · rw[if_neg e,List.mem_cons]
theorem putS_len (n:Int) (l:List Int):(putS l n).length≤l.length+1:=by
 induction l with
 | nil=>simp[putS]
 | cons x l ih=>
   rw[putS]
   by_cases c:x<n
   · rw[if_pos c,List.length_cons,List.length_cons];omega
   · rw[if_neg c]
     by_cases e:x=n
     · rw[if_pos e];omega
     · rw[if_neg e];simp
theorem sorted_putS (n:Int) (l:List Int) (h:l.Pairwise (· < ·)):(putS l n).Pairwise (· < ·):=by
 induction l with
 | nil=>simp[putS]
 | cons x l ih=>
   obtain⟨hx,hl⟩:=List.pairwise_cons.1 h
   rw[putS]
   by_cases c:x<n
   · rw[if_pos c]
     refine List.pairwise_cons.2 ⟨fun y hy=>?_,ih hl⟩
     rcases (mem_putS n y l).1 hy with rfl | hy
     · exact c
     · exact hx y hy
   · rw[if_neg c]
     by_cases e:x=n
     · rw[if_pos e];exact h
     · rw[if_neg e]
       refine List.pairwise_cons.2 ⟨fun y hy=>?_,h⟩
       rcases List.mem_cons.1 hy with rfl | hy
       · omega
       · have:=hx y hy;omega
theorem sorted_ext:∀(l m:List Int),l.Pairwise (· < ·)→m.Pairwise (· < ·)→(∀x,x∈l↔x∈m)→l=m
 | [], [],_,_,_=>rfl
 | [],y :: m,_,_,h=>absurd ((h y).2 List.mem_cons_self) (by simp)
 | x :: l, [],_,_,h=>absurd ((h x).1 List.mem_cons_self) (by simp)
 | x :: l,y :: m,hl,hm,h=>by
   obtain⟨hx,hl1⟩:=List.pairwise_cons.1 hl
   obtain⟨hy,hm1⟩:=List.pairwise_cons.1 hm
   have e:x=y:=by
    rcases List.mem_cons.1 ((h x).1 List.mem_cons_self) with e | h1
    · exact e
    · rcases List.mem_cons.1 ((h y).2 List.mem_cons_self) with e | h2
      · exact e.symm
      · have:=hy x h1;have:=hx y h2;omega
   subst e
   rw[sorted_ext l m hl1 hm1 (fun z=>?_)]
   constructor
   · intro hz
     rcases List.mem_cons.1 ((h z).1 (List.mem_cons_of_mem _ hz)) with e | h1
     · have:=hx z hz;omega
     · exact h1
   · intro hz
     rcases List.mem_cons.1 ((h z).2 (List.mem_cons_of_mem _ hz)) with e | h1
     · have:=hy z hz;omega
     · exact h1
def putsS:List Int→List Int→List Int
 | o, []=>o
 | o,x :: l=>putsS (putS o x) l
theorem putsS_sorted (l:List Int):∀o:List Int,o.Pairwise (· < ·)→(putsS o l).Pairwise (· < ·)∧∀x,x∈putsS o l↔x∈o∨x∈l:=by
 induction l with
 | nil=>intro o h;exact⟨h,fun x=>by simp[putsS]⟩
 | cons y l ih=>
   intro o h
   obtain⟨h1,h2⟩:=ih (putS o y) (sorted_putS y o h)
   refine⟨h1,fun x=>?_⟩
   rw[putsS,h2,mem_putS,List.mem_cons]
   constructor
   · rintro((h | h) | h)<;>simp[h]
   · rintro(h | h | h)<;>simp[h]
theorem l1Put_l0 (n:Int) (suf:List Int):∀pre:List Int,(pre ++ suf).length≤1000000000 →
 Ev (fun k=>ZK.l0 k (pre ++ suf) n (pre.length:Int)) (pre ++ putS suf n):=by
 induction suf with
 | nil=>
   intro pre hl
   simp only[List.append_nil]at hl ⊢
   refine ev_step (f:=fun _=>some _) (Ev.now _) (fun k=>?_)
   rw[ZK.l0,if_neg (by omega)]
   simp only[Option.bind_some]
   rw[if_pos (by omega),if_pos (by omega)]
   simp only[Int.toNat_natCast,List.take_length,List.drop_length,List.nil_append,List.length_nil,List.append_nil,putS]
   rw[if_pos (by omega),if_pos (by omega),if_pos (by simp;omega)]
 | cons x suf ih=>
   intro pre hl
   have hlp:pre.length+1≤1000000000:=by simp at hl;omega
   have hl':(pre.length:Int)<((pre ++ x :: suf).length:Int):=by simp;omega
   have hw:wrap64 ((pre.length:Int)+1)=(pre.length:Int)+1:=wrapS (by omega) (by omega)
   by_cases c:x<n
   · have h:=ih (pre ++ [x]) (by simp at hl ⊢;omega)
     rw[snoc_app,snoc_app,snoc_leni]at h
     refine ev_step (ev_eq h (by rw[putS,if_pos c])) (fun k=>?_)
     rw[ZK.l0,if_pos hl',if_pos (by omega),rd_mid,if_pos c,hw]
   · refine ev_step (f:=fun _=>some _) (Ev.now _) (fun k=>?_)
     rw[ZK.l0,if_pos hl',if_pos (by omega),rd_mid,if_neg c,putS,if_neg c]
     by_cases e:x=n
     · rw[if_pos e,if_pos e]
     · rw[if_neg e,if_neg e]
       have ht:(pre ++ x :: suf).take pre.length=pre:=List.take_left
       have hd:(pre ++ x :: suf).drop pre.length=x :: suf:=List.drop_left
       simp only[Option.bind_some,Int.toNat_natCast,ht,hd,List.nil_append,List.length_nil]
       rw[if_pos (by omega),if_pos (by omega),if_pos (by omega),if_pos (by simp at hl ⊢;omega)]
       simp
theorem l1Put_ok (l:List Int) (n:Int) (h:l.length≤1000000000):Ev (fun k=>ZK.f k l n) (putS l n):=
 Ev.congr (f:=fun k=>ZK.l0 k l n 0) (fun _=>rfl) (by simpa using l1Put_l0 n l [] (by simpa using h))

def openT (l:List S62) (s:Int):List Int:=(l.filter fun x=>decide (x.f1≤s∧s<x.f2)).map fun x=>x.f0
theorem openT_len (l:List S62) (s:Int):(openT l s).length≤l.length:=by
 unfold openT;rw[List.length_map];exact List.length_filter_le _ _
theorem openT_in (x:S62) (l:List S62) (s:Int) (c:x.f1≤s∧s<x.f2):openT (x :: l) s=x.f0 :: openT l s:=by
 simp only[openT,List.filter_cons,decide_eq_true c,if_true,List.map_cons]
theorem openT_out (x:S62) (l:List S62) (s:Int) (c:¬(x.f1≤s∧s<x.f2)):openT (x :: l) s=openT l s:=by
 simp only[openT,List.filter_cons,decide_eq_false c,Bool.false_eq_true,if_false]
theorem isOpen_gen (x:S62) (q:Int):ZT.f x.f0 x.f1 x.f2 q=some (decide (x.f1≤q∧q<x.f2)):=by
 unfold ZT.f
 by_cases c1:x.f1≤q
 · rw[if_pos c1];congr 1;exact decide_eq_decide.2 ⟨fun w=>⟨c1,w⟩,fun w=>w.2⟩
 · rw[if_neg c1];congr 1;exact(decide_eq_false (fun w=>c1 w.1)).symm
theorem implOpen_l0 (s:Int) (suf:List S62):∀(pre:List S62) (out:List Int),(pre ++ suf).length≤1000000→out.length≤pre.length →
 Ev (fun k=>Zj.l0 k s out (pre ++ suf) ((pre ++ suf).length:Int) (pre.length:Int)) (((out ++ openT suf s).mergeSort fun x y=>decide (x≤y)),true):=by
 induction suf with
 | nil=>
   intro pre out hl ho
   have hp:out.length<1000000000:=by simp at hl;omega
   refine ev_step (f:=fun _=>some _) (Ev.now _) (fun k=>?_)
   rw[Zj.l0,if_neg (by simp),if_pos hp]
   simp[openT]
 | cons x suf ih=>
   intro pre out hl ho
   have hlp:pre.length≤1000000:=by simp at hl;omega
   have hl':(pre.length:Int)<((pre ++ x :: suf).length:Int):=by simp;omega
   have q0:(0:Int)≤(pre.length:Int):=by omega
   have q1:out.length<17592186044416:=by omega
   have hw:wrap64 ((pre.length:Int)+1)=(pre.length:Int)+1:=wrapS (by omega) (by omega)
   have IH:=fun o2 (ho2:o2.length≤pre.length+1)=>ih (pre ++ [x]) o2 (by rw[snoc_app];exact hl) (by simpa using ho2)
   simp only[snoc_app,snoc_leni]at IH
   by_cases c:x.f1≤s∧s<x.f2
   · refine ev_step (ev_eq (IH (out ++ [x.f0]) (by simp;omega)) (by rw[openT_in x suf s c,List.append_assoc];rfl)) (fun k=>?_)
     rw[Zj.l0,if_pos hl',if_pos q0,if_pos hl',rdH_mid,isOpen_gen,Option.bind_some,if_pos (decide_eq_true c),if_pos q1,hw]
   · refine ev_step (ev_eq (IH out (by omega)) (by rw[openT_out x suf s c])) (fun k=>?_)
     rw[Zj.l0,if_pos hl',if_pos q0,if_pos hl',rdH_mid,isOpen_gen,Option.bind_some,if_neg (by simpa using c),hw]
theorem specOpen_l0 (s:Int) (suf:List S62) (hs:∀x∈suf, -9223372036854775807≤x.f2∧x.f2≤9223372036854775807):∀(pre:List S62) (out:List Int),(pre ++ suf).length≤1000000→out.length≤pre.length →
 Ev (fun k=>ZL.l0 k s out (pre ++ suf) ((pre ++ suf).length:Int) (pre.length:Int)) (putsS out (openT suf s)):=by
 induction suf with
 | nil=>
   intro pre out hl ho
   refine ev_step (f:=fun _=>some _) (Ev.now _) (fun k=>?_)
   rw[ZL.l0,if_neg (by simp)]
   rfl
 | cons x suf ih=>
   intro pre out hl ho
   have hlp:pre.length≤1000000:=by simp at hl;omega
   have hl':(pre.length:Int)<((pre ++ x :: suf).length:Int):=by simp;omega
   have q0:(0:Int)≤(pre.length:Int):=by omega
   have hw:wrap64 ((pre.length:Int)+1)=(pre.length:Int)+1:=wrapS (by omega) (by omega)
   have hx:=hs x List.mem_cons_self
   have hx2:wrap64 (x.f2-1)=x.f2-1:=wrapS (by omega) (by omega)
   have IH:=fun o2 (ho2:o2.length≤pre.length+1)=>ih (fun y hy=>hs y (List.mem_cons_of_mem _ hy)) (pre ++ [x]) o2 (by rw[snoc_app];exact hl) (by simpa using ho2)
   simp only[snoc_app,snoc_leni]at IH
   by_cases c:x.f1≤s∧s<x.f2
   · obtain⟨K1,e1⟩:=l1Put_ok out x.f0 (by omega)
     have hp:=putS_len x.f0 out
     obtain⟨K2,e2⟩:=IH (putS out x.f0) (by omega)
     dsimp only at e1 e2
     refine⟨K1+K2+1,fun k hk=>?_⟩
     obtain⟨m,rfl⟩:∃m,k=m+1:=⟨k-1,by omega⟩
     dsimp only
     rw[ZL.l0,if_pos hl',if_pos q0,if_pos hl',rdH_mid,hx2,l1In_ok,Option.bind_some,if_pos (decide_eq_true (show x.f1≤s∧s≤x.f2-1 by omega)),e1 m (by omega),Option.bind_some,hw,e2 m (by omega),openT_in x suf s c]
     rfl
   · refine ev_step (ev_eq (IH out (by omega)) (by rw[openT_out x suf s c])) (fun k=>?_)
     rw[ZL.l0,if_pos hl',if_pos q0,if_pos hl',rdH_mid,hx2,l1In_ok,Option.bind_some,if_neg (by rw[decide_eq_true_eq];omega),hw]
theorem mem_openT (l:List S62) (t s:Int):t∈openT l s↔cov l t s=true:=by
 rw[cov_true,openT,List.mem_map]
 constructor
 · rintro⟨x,hx,e⟩
   obtain⟨h1,h2⟩:=List.mem_filter.1 hx
   exact⟨x,h1,e,of_decide_eq_true h2⟩
 · rintro⟨x,hx,e,h⟩
   exact⟨x,List.mem_filter.2 ⟨hx,decide_eq_true h⟩,e⟩
/-- A sheet's track is open once: the open tracks in order are the set of them. -/
theorem openT_sorted (l:List S62) (s:Int) (h:good l=true):((openT l s).mergeSort fun x y=>decide (x≤y))=putsS [] (openT l s):=by
 have hn:(openT l s).Pairwise (· ≠ ·):=by
  unfold openT
  refine List.pairwise_map.2 (List.Pairwise.imp_of_mem ?_ ((apart_of_good l h).sublist (List.filter_sublist)))
  intro x y hx hy hr e
  have h1:=of_decide_eq_true (List.mem_filter.1 hx).2
  have h2:=of_decide_eq_true (List.mem_filter.1 hy).2
  rcases hr e with q | q<;>omega
 have hp:((openT l s).mergeSort fun x y=>decide (x≤y)).Pairwise (fun x y=>decide (x≤y)=true):=List.pairwise_mergeSort (fun a b c h1 h2=>by simp at *;omega) (fun a b=>by simp;omega) _
 have hq:((openT l s).mergeSort fun x y=>decide (x≤y)).Pairwise (· ≠ ·):=(List.mergeSort_perm _ _).symm.pairwise hn (fun h e=>h e.symm)
 obtain⟨g1,g2⟩:=putsS_sorted (openT l s) [] List.Pairwise.nil
 refine sorted_ext _ _ ((hp.and hq).imp fun {x y} w=>?_) g1 (fun x=>by rw[List.mem_mergeSort,g2];simp)
 have:=of_decide_eq_true w.1
 have:=w.2
 omega
def openR (l:List S62) (s:Int):List Int×Bool:=if good l=true∧0≤s∧s<2000 then(putsS [] (openT l s),true) else([],false)
theorem implOpen_ok (l:List S62) (s:Int) (h:l.length≤1000000):Ev (fun k=>Zj.f k l s) (openR l s):=by
 have J:¬(good l=true∧0≤s∧s<2000)→Ev (fun k=>Zj.j0 k l s true) (openR l s):=fun c=>ev_step (f:=fun _=>some _) (Ev.now _) (fun k=>by rw[Zj.j0,if_pos rfl,openR,if_neg c])
 refine Ev.bind (isSheet_ok l (by omega)) ?_
 cases g:good l with
 | false=>
   simp only[Bool.false_eq_true,if_false]
   exact J (fun w=>by rw[g]at w;exact Bool.false_ne_true w.1)
 | true=>
   simp only[if_true]
   by_cases c:s<0
   · simp only[if_pos c]
     exact J (fun w=>by omega)
   · simp only[if_neg c]
     by_cases d:s≥2000
     · simp only[decide_eq_true d]
       exact J (fun w=>by omega)
     · simp only[decide_eq_false d]
       have e:=implOpen_l0 s l [] [] (by simpa using h) (by simp)
       refine ev_step (ev_eq (by simpa using e) ?_) (fun k=>by rw[Zj.j0,if_neg (by simp)])
       rw[openR,if_pos ⟨g,by omega,by omega⟩,openT_sorted l s g]
theorem specOpen_ok (l:List S62) (s:Int) (h:l.length≤1000000):Ev (fun k=>ZY.f k l s) (openR l s):=by
 refine Ev.bind (shGood_ok l (by omega)) ?_
 cases g:good l with
 | false=>exact ev_of_eq (fun _=>by simp only[Bool.false_eq_true,if_false,openR,g,false_and])
 | true=>
   simp only[if_true]
   have e0:Z4.f s=some (decide (0≤s∧s<2000)):=by
    rw[Z4.f,l1In_ok,Option.bind_some]
    congr 1
    exact decide_eq_decide.2 (by omega)
   simp only[e0,Option.bind_some]
   by_cases c:0≤s∧s<2000
   · simp only[decide_eq_true c,if_true]
     have hb:∀x∈l, -9223372036854775807≤x.f2∧x.f2≤9223372036854775807:=fun x hx=>by
      have:=holeOk_bounds (((good_iff l).1 g).1 x hx)
      omega
     have e:=specOpen_l0 s l hb [] [] (by simpa using h) (by simp)
     have e2:Ev (fun k=>ZL.f k l s) (putsS [] (openT l s)):=Ev.congr (f:=fun k=>ZL.l0 k s [] l (l.length:Int) 0) (fun _=>rfl) (by simpa using e)
     refine Ev.bind e2 (ev_of_eq (fun _=>?_))
     rw[openR,if_pos ⟨g,c⟩]
   · exact ev_of_eq (fun _=>by simp only[decide_eq_false c,Bool.false_eq_true,if_false,openR,if_neg (fun w:good l=true∧0≤s∧s<2000=>c w.2)])
theorem openR_same (l m:List S62) (s u:Int) (hl:good l=true) (hm:good m=true) (hs:0≤s∧s<2000) (hu:0≤u∧u<2000) (h:∀t,cov l t s=cov m t u):openR l s=openR m u:=by
 rw[openR,if_pos ⟨hl,hs⟩,openR,if_pos ⟨hm,hu⟩]
 obtain⟨g1,g2⟩:=putsS_sorted (openT l s) [] List.Pairwise.nil
 obtain⟨k1,k2⟩:=putsS_sorted (openT m u) [] List.Pairwise.nil
 rw[sorted_ext _ _ g1 k1 (fun t=>by rw[g2,k2,mem_openT,mem_openT,h t])]
theorem putsS_len (l:List Int):∀o:List Int,(putsS o l).length≤o.length+l.length:=by
 induction l with
 | nil=>intro o;exact Nat.le_refl _
 | cons x l ih=>intro o;have:=ih (putS o x);have:=putS_len x o;rw[putsS,List.length_cons];omega
theorem openR_len (l:List S62) (s:Int):(openR l s).1.length≤l.length:=by
 unfold openR
 split
 · have:=putsS_len (openT l s) []
   have:=openT_len l s
   simp only[List.length_nil]at *
   omega
 · exact Nat.zero_le _

end Go.Proofs.YtcnegcdmmackeaaGreat.LFnEditionsE
