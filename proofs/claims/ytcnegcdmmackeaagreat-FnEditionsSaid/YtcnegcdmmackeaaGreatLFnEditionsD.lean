/- Plain lemmas on what the printed functions of this law compute; each with the conditions that it names. -/
import Derived.Test.YtcnegcdmmackeaaGreatLFnEditionsB
import Derived.Test.YtcnegcdmmackeaaGreatLFnEditionsA
import Derived.Test.YtcnegcdmmackeaaGreatQFnEditionsx3
import Derived.Test.YtcnegcdmmackeaaGreatQFnEditionsx4
import Derived.Test.YtcnegcdmmackeaaGreatQFnEditionsx5
import Derived.Test.YtcnegcdmmackeaaGreatQFnEditionsx6
import Derived.Test.YtcnegcdmmackeaaGreatQFnEditionsx7
import Derived.Test.YtcnegcdmmackeaaGreatQFnEditionsx8
import Derived.Test.YtcnegcdmmackeaaGreatQFnEditionsx9
import Derived.Test.YtcnegcdmmackeaaGreatQFnEditionsx10
import Derived.Test.YtcnegcdmmackeaaGreatQFnEditionsx11
import Derived.Test.YtcnegcdmmackeaaGreatQFnEditionsx12
import Derived.Test.YtcnegcdmmackeaaGreatQFnEditionsx13
import Derived.Test.YtcnegcdmmackeaaGreatQFnEditionsx14
import Derived.Test.YtcnegcdmmackeaaGreatQFnEditionsx15
import Derived.Test.YtcnegcdmmackeaaGreatQFnEditionsx16
import Derived.Test.YtcnegcdmmackeaaGreatQFnEditionsx17
import Derived.Test.YtcnegcdmmackeaaGreatQFnEditionsx18
import Derived.Test.YtcnegcdmmackeaaGreatQFnEditionsx19
import Derived.Test.YtcnegcdmmackeaaGreatQFnEditionsx20
import Derived.Test.YtcnegcdmmackeaaGreatQFnEditionsx21
import Derived.Test.YtcnegcdmmackeaaGreatQFnEditionsx22
import Derived.Test.YtcnegcdmmackeaaGreatQFnEditionsx23
import Derived.Test.YtcnegcdmmackeaaGreatBaseE
namespace Go.Proofs.YtcnegcdmmackeaaGreat.LFnEditionsD
open Go Go.RowKit Go.Proofs.YtcnegcdmmackeaaGreat.QFnEditions Go.Proofs.YtcnegcdmmackeaaGreatW.PrintWords Go.Proofs.YtcnegcdmmackeaaGreatW.PrintLast Go.Proofs.YtcnegcdmmackeaaGreatW.PrintMore Go.Proofs.YtcnegcdmmackeaaGreat.Base Go.Proofs.YtcnegcdmmackeaaGreat.LFnEditionsA Go.Proofs.YtcnegcdmmackeaaGreat.LFnEditionsB
set_option linter.unusedVariables false
set_option linter.unusedSimpArgs false

theorem on_ok (pt:List S62) (t s:Int) (h:0≤t∧t<20∧0≤s∧s<2000):Za.on pt t s=some (cov pt t s):=by
 rw[Za.on,if_pos h];rfl
theorem scan_len (on:Int→Int→Bool) (t:Int):∀(n:Nat) (s f:Int),(scan on t n s f).length≤n
 | 0,_,_=>Nat.le_refl 0
 | n+1,s,f=>by
   rw[scan]
   split
   · have:=scan_len on t n (s+1) (if f<0 then s else f);omega
   · split
     · have:=scan_len on t n (s+1) f;omega
     · have:=scan_len on t n (s+1) (-1);rw[List.length_cons];omega
theorem rg_l1 (pt:List S62) (t:Int) (ht:0≤t∧t<20) (R:List (List Int)) (M:Nat) (hM:M<5864062014805) (n:Nat):∀(s f:Int) (out:List (List Int)),s+n=2001→0≤s→out.length+n≤M →
 Ev (fun k=>Za.rg.l0 pt k (out ++ scan (cov pt) t n s f) (t+1)) R →
 Ev (fun k=>Za.rg.l1 pt k out t f s t) R:=by
 induction n with
 | zero=>
   intro s f out hs h0 _ h
   refine ev_step h (fun k=>?_)
   rw[Za.rg.l1,if_neg (by omega),show wrap64 (t+1)=t+1 from wrapS (by omega) (by omega),scan,List.append_nil]
 | succ n ih=>
   intro s f out hs h0 hl h
   have hw:wrap64 (s+1)=s+1:=wrapS (by omega) (by omega)
   have hlt:out.length<5864062014805:=Nat.lt_of_le_of_lt (Nat.le_trans (Nat.le_add_right _ _) hl) hM
   have hl1:out.length+n≤M:=Nat.le_trans (Nat.add_le_add_left (Nat.le_succ n) _) hl
   have J:∀b:Bool,on2 (cov pt) t s=b→Ev (fun k=>Za.rg.j2 pt k out t f s b t) R:=fun b hb=>by
    cases b with
    | true=>
      rw[scan,if_pos hb]at h
      refine ev_step (f:=fun k=>Za.rg.j3 pt k out t f s true t (decide (f<0))) ?_ (fun k=>by rw[Za.rg.j2,if_pos rfl])
      by_cases c:f<0
      · rw[if_pos c]at h
        rw[decide_eq_true c]
        exact ev_step (ih (s+1) s out (by omega) (by omega) hl1 h) (fun k=>by rw[Za.rg.j3,if_pos rfl,if_pos rfl,hw])
      · rw[if_neg c]at h
        rw[decide_eq_false c]
        exact ev_step (ih (s+1) f out (by omega) (by omega) hl1 h) (fun k=>by rw[Za.rg.j3,if_neg (by decide),if_pos rfl,hw])
    | false=>
      rw[scan,if_neg (by rw[hb];decide)]at h
      refine ev_step (f:=fun k=>Za.rg.j3 pt k out t f s false t false) ?_ (fun k=>by rw[Za.rg.j2,if_neg (by decide)])
      by_cases c:f<0
      · rw[if_pos c]at h
        exact ev_step (ih (s+1) f out (by omega) (by omega) hl1 h) (fun k=>by rw[Za.rg.j3,if_neg (by decide),if_neg (by decide),if_neg (show ¬f≥0 by omega),hw])
      · rw[if_neg c]at h
        have h2:=ih (s+1) (-1) (out ++ [[t,f,s]]) (by omega) (by omega) (by rw[List.length_append,List.length_singleton,Nat.add_assoc,Nat.add_comm 1 n];exact hl) (by rw[snoc_app];exact h)
        exact ev_step h2 (fun k=>by rw[Za.rg.j3,if_neg (by decide),if_neg (by decide),if_pos (show f≥0 by omega),if_pos hlt,hw])
   by_cases c:s<2000
   · refine ev_step (J (cov pt t s) (by rw[on2,decide_eq_true c,Bool.true_and])) (fun k=>?_)
     rw[Za.rg.l1,if_pos (by omega),if_pos c,on_ok pt t s (by omega)]
     rfl
   · refine ev_step (J false (by rw[on2,decide_eq_false c,Bool.false_and])) (fun k=>?_)
     rw[Za.rg.l1,if_pos (by omega),if_neg c]
theorem rg_l0 (pt:List S62) (M:Nat) (hM:M<5864062014805) (d:Nat):∀(t:Nat) (out:List (List Int)),t+d=20→out.length+d*2001≤M →
 Ev (fun k=>Za.rg.l0 pt k out (t:Int)) (out ++ (List.range' t d).flatMap fun(u:Nat)=>scan (cov pt) (u:Int) 2001 0 (-1)):=by
 induction d with
 | zero=>
   intro t out ht _
   refine ev_step (f:=fun _=>some _) (Ev.now _) (fun k=>?_)
   rw[Za.rg.l0,if_neg (by omega)]
   simp
 | succ d ih=>
   intro t out ht hl
   have hs:=scan_len (cov pt) (t:Int) 2001 0 (-1)
   have h:=ih (t+1) (out ++ scan (cov pt) (t:Int) 2001 0 (-1)) (by omega) (by
    rw[List.length_append]
    refine Nat.le_trans ?_ hl
    rw[Nat.succ_mul];omega)
   rw[show((t+1:Nat):Int)=(t:Int)+1 by omega]at h
   have h2:=rg_l1 pt (t:Int) (by omega) _ M hM 2001 0 (-1) out (by omega) (by omega) (by
    refine Nat.le_trans ?_ hl
    rw[Nat.succ_mul];omega) h
   refine ev_step (ev_eq h2 ?_) (fun k=>?_)
   · rw[List.range'_succ,List.flatMap_cons,List.append_assoc]
   · rw[Za.rg.l0,if_pos (by omega)]
theorem rg_ok (pt:List S62):Ev (fun k=>Za.rg.f pt k) (runs (cov pt)):=by
 have h:=rg_l0 pt 50000 (by decide) 20 0 [] (by omega) (by decide)
 refine Ev.congr (f:=fun k=>Za.rg.l0 pt k [] ((0:Nat):Int)) (fun _=>rfl) (ev_eq h ?_)
 rw[List.nil_append,runs,List.range_eq_range']
theorem rd7_mid (pre suf:List (List Int)) (x:List Int):Za.rd_L7 (pre ++ x :: suf) (pre.length:Int)=x:=getD_mid _ _ _ _ _ (by simp)
theorem sg_l0 (R:List S62×Bool) (suf:List (List Int)):∀(pre:List (List Int)) (out:List S62),(pre ++ suf).length≤1048576→out.length≤pre.length→(∀r∈suf,r.length=3) →
 Ev (fun k=>Zb.f k (out ++ suf.map rowH)) R →
 Ev (fun k=>Za.sg.l0 k out (pre ++ suf) ((pre ++ suf).length:Int) (pre.length:Int)) R:=by
 induction suf with
 | nil=>
   intro pre out _ _ _ h
   refine ev_step h (fun k=>?_)
   rw[Za.sg.l0,if_neg (by simp)]
   simp
 | cons x suf ih=>
   intro pre out hl ho hr h
   have h3:=hr x List.mem_cons_self
   have hlp:pre.length≤1048576:=by simp at hl;omega
   have hl':(pre.length:Int)<((pre ++ x :: suf).length:Int):=by simp;omega
   have hw:wrap64 ((pre.length:Int)+1)=(pre.length:Int)+1:=wrapS (by omega) (by omega)
   have hol:out.length<5864062014805:=by omega
   have h2:=ih (pre ++ [x]) (out ++ [rowH x]) (by simp at hl ⊢;omega) (by simp;omega) (fun r hx=>hr r (List.mem_cons_of_mem _ hx)) (by rw[snoc_app];exact h)
   rw[snoc_app,snoc_leni]at h2
   refine ev_step h2 (fun k=>?_)
   rw[Za.sg.l0,if_pos hl',if_pos (show(0:Int)≤(pre.length:Int) by omega),if_pos hl',rd7_mid,h3,if_pos (by decide),if_pos (by decide),if_pos (by decide),if_pos hol,hw]
   rfl
theorem sg_ok (pt:List S62) (hl:(gridH (cov pt)).length≤1048576):Ev (fun k=>Za.sg.f pt k) (sortedR (gridH (cov pt))):=by
 have hl2:(runs (cov pt)).length≤1048576:=by rw[gridH,List.length_map]at hl;exact hl
 have h:=sheetOf_ok (gridH (cov pt)) (by omega)
 have h2:=sg_l0 (sortedR (gridH (cov pt))) (runs (cov pt)) [] [] (by simpa using hl2) (by simp) (fun r hr=>by
  obtain⟨t,a,b,e,_⟩:=(runs_mem (cov pt) r).1 hr
  rw[e];rfl) (by rw[List.nil_append];exact h)
 refine Ev.bind (g:=fun k=>Za.rg.f pt k) (f:=fun k t=>Za.sg.l0 k [] t (t.length:Int) 0) (rg_ok pt) ?_
 simpa using h2
theorem lenOf_sum (M:Int) (hM:M≤1000000):∀(p:List S46) (m:Int),(∀y∈p,partOk y=true)→0≤m→m+2000*(p.length:Int)≤M→lenOf p m=m+sumP p
 | [],m,_,_,_=>by rw[lenOf,sumP];omega
 | y :: p,m,h,h0,h1=>by
   have hy:=h y List.mem_cons_self
   simp only[partOk,decide_eq_true_eq]at hy
   have hl:((y :: p).length:Int)=(p.length:Int)+1:=by simp
   rw[hl]at h1
   rw[lenOf,sumP,show wrap64 (y.f2-y.f1)=y.f2-y.f1 from wrapS (by omega) (by omega),show wrap64 (m+(y.f2-y.f1))=m+(y.f2-y.f1) from wrapS (by omega) (by omega),lenOf_sum M hM p (m+(y.f2-y.f1)) (fun z hz=>h z (List.mem_cons_of_mem _ hz)) (by omega) (by omega)]
   omega
theorem parts_in (l:List (List S62)) (p:List S46) (h:areParts p (l.length:Int)=true):p.length≤12∧(∀y∈p,PartIn l y)∧sumP p≤2000:=by
 simp only[areParts,partsGood,Bool.and_eq_true,List.all_eq_true,decide_eq_true_eq]at h
 refine⟨h.1.2.1,fun y hy=>?_,?_⟩
 · have h1:=h.1.1 y hy
   have h2:=h.2.2 y hy
   simp only[partOk,under,decide_eq_true_eq]at h1 h2
   unfold PartIn
   omega
 · have h1:=lenOf_sum 100000 (by omega) p 0 h.1.1 (by omega) (by have:=h.1.2.1;omega)
   have h2:=h.1.2.2
   rw[h1]at h2;omega
def edR (l:List (List S62)) (p:List S46):List S62×Bool:=if(l.all good && areParts p (l.length:Int))=true then sortedR (edAll l p [] 0) else([],false)
theorem edR_len (l:List (List S62)) (p:List S46):(edR l p).1.length≤60:=by
 unfold edR
 split
 · exact sortedR_len _
 · simp
theorem specEd_ok (l:List (List S62)) (p:List S46) (hl:l.length≤1048576) (hx:∀x∈l,x.length≤1048576) (hp:p.length≤1048576):Ev (fun k=>Ze.f k l p) (edR l p):=by
 refine Ev.bind (edSheets_ok l p hl hx hp) ?_
 cases g:(l.all good && areParts p (l.length:Int)) with
 | false=>exact ev_of_eq (fun _=>by simp only[edR,g,Bool.false_eq_true,if_false])
 | true=>
   obtain⟨g1,g2⟩:=Bool.and_eq_true_iff.1 g
   obtain⟨h1,h2,h3⟩:=parts_in l p g2
   simp only[if_true]
   exact ev_eq (by simpa using specEd_l0 l (fun r hr=>List.all_eq_true.1 g1 r hr) p [] [] 0 (by simpa using h1) h2 (by simp) (by omega) (by omega)) (by simp only[edR,g,if_true])
theorem implEd_ok (l:List (List S62)) (p:List S46) (hl:l.length≤1048576) (hx:∀x∈l,x.length≤1048576) (hp:p.length≤1048576):Ev (fun k=>Za.f k l p) (edR l p):=by
 have no:∀b:Bool,b=true→(l.all good && areParts p (l.length:Int))=false→Ev (fun k=>Za.j0 k l p b) (edR l p):=fun b hb g=>by
  rw[hb]
  refine ev_step (f:=fun _=>some _) (Ev.now _) (fun k=>?_)
  rw[Za.j0,if_pos rfl];simp only[edR,g,Bool.false_eq_true,if_false]
 refine Ev.bind (areSheets_ok l 4 hl hx) ?_
 cases g:(l.all good && decide (1≤(l.length:Int)∧(l.length:Int)≤4)) with
 | false=>
   simp only[Bool.false_eq_true,if_false]
   refine no true rfl ?_
   cases ga:l.all good with
   | false=>rfl
   | true=>
     rw[ga,Bool.true_and]at g
     simp only[areParts,g,Bool.false_and,Bool.and_false]
 | true=>
   simp only[if_true]
   have ga:=(Bool.and_eq_true_iff.1 g).1
   refine Ev.bind (implAreParts_ok p (l.length:Int) hp) ?_
   cases gp:areParts p (l.length:Int) with
   | false=>exact no _ rfl (by rw[gp,Bool.and_false])
   | true=>
     obtain⟨h1,h2,h3⟩:=parts_in l p gp
     have hg:∀r∈l,good r=true:=fun r hr=>List.all_eq_true.1 ga r hr
     obtain⟨m,hi⟩:=ed_same l hg p [] [] 0 ⟨Int.le_refl 0,(fun _ h=>by cases h),List.Pairwise.nil,(fun _ h=>by cases h),fun _ _=>rfl⟩ h2 (by omega)
     obtain⟨q1,q2⟩:=edition_same hi
     have q3:=edAll_len l hg p [] 0 h2
     have hs:=sg_ok (edUn l p [] 0) (by rw[q2];simp at q3;omega)
     rw[q1]at hs
     have h:=implEd_l0 l hg (sortedR (edAll l p [] 0)) p [] [] 0 (by simpa using h1) h2 (by omega) (by omega) hs
     refine ev_step (ev_eq (by simpa using h) (by simp only[edR,ga,gp,Bool.and_self,if_true])) (fun k=>?_)
     rw[Za.j0,if_neg (by decide)]

end Go.Proofs.YtcnegcdmmackeaaGreat.LFnEditionsD
