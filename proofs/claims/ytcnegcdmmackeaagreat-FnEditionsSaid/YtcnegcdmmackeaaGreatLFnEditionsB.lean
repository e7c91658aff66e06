/- Plain lemmas on what the printed functions of this law compute; each with the conditions that it names. -/
import Derived.Test.YtcnegcdmmackeaaGreatLFnEditionsA
import Derived.Test.YtcnegcdmmackeaaGreatQFnEditionsx3
import Derived.Test.YtcnegcdmmackeaaGreatQFnEditionsx4
import Derived.Test.YtcnegcdmmackeaaGreatQFnEditionsx5
import Derived.Test.YtcnegcdmmackeaaGreatQFnEditionsx6
import Derived.Test.YtcnegcdmmackeaaGreatQFnEditionsx7
import Derived.Test.YtcnegcdmmackeaaGreatQFnEditionsx8
import Derived.Test.YtcnegcdmmackeaaGreatQFnEditionsx9
import Derived.Test.YtcnegcdmmackeaaGreatQFnEditionsx10
import Derived.Test.YtcnegcdmmackeaaGreatQFnEditionsx11
import Derived.Test.YtcnegcdmmackeaaGreatQFnEditionsx12
import Derived.Test.YtcnegcdmmackeaaGreatQFnEditionsx13
import Derived.Test.YtcnegcdmmackeaaGreatQFnEditionsx14
import Derived.Test.YtcnegcdmmackeaaGreatQFnEditionsx15
import Derived.Test.YtcnegcdmmackeaaGreatQFnEditionsx16
import Derived.Test.YtcnegcdmmackeaaGreatQFnEditionsx17
import Derived.Test.YtcnegcdmmackeaaGreatQFnEditionsx18
import Derived.Test.YtcnegcdmmackeaaGreatQFnEditionsx19
import Derived.Test.YtcnegcdmmackeaaGreatQFnEditionsx20
import Derived.Test.YtcnegcdmmackeaaGreatQFnEditionsx21
import Derived.Test.YtcnegcdmmackeaaGreatQFnEditionsx22
import Derived.Test.YtcnegcdmmackeaaGreatQFnEditionsx23
import Derived.Test.YtcnegcdmmackeaaGreatBaseE
namespace Go.Proofs.YtcnegcdmmackeaaGreat.LFnEditionsB
open Go Go.RowKit Go.Proofs.YtcnegcdmmackeaaGreat.QFnEditions Go.Proofs.YtcnegcdmmackeaaGreatW.PrintWords Go.Proofs.YtcnegcdmmackeaaGreatW.PrintLast Go.Proofs.YtcnegcdmmackeaaGreatW.PrintMore Go.Proofs.YtcnegcdmmackeaaGreat.Base Go.Proofs.YtcnegcdmmackeaaGreat.LFnEditionsA
set_option linter.unusedVariables false
set_option linter.unusedSimpArgs false

theorem mx_eq (a b:Int):mx a b=max a b:=by unfold mx;split<;>omega
theorem mn_eq (a b:Int):mn a b=min a b:=by unfold mn;split<;>omega
theorem l1Most_max (a b:Int):ZQ.f a b=some (max a b):=by
 unfold ZQ.f;split<;>(congr 1;omega)
theorem l1Least_min (a b:Int):ZS.f a b=some (min a b):=by
 unfold ZS.f;split<;>(congr 1;omega)
theorem cutH_cons_in (x:S62) (l:List S62) (a b:Int) (c:max x.f1 a<min x.f2 b):cutH (x :: l) a b=⟨x.f0,max x.f1 a-a,min x.f2 b-a⟩ :: cutH l a b:=by
 unfold cutH;rw[List.filterMap_cons_some (by rw[if_pos c])]
theorem cutH_cons_out (x:S62) (l:List S62) (a b:Int) (c:¬max x.f1 a<min x.f2 b):cutH (x :: l) a b=cutH l a b:=by
 unfold cutH;rw[List.filterMap_cons_none (by rw[if_neg c])]
theorem shCut_l0 (a b:Int) (ha:0≤a∧a≤2000) (hb:0≤b∧b≤2000) (suf:List S62):∀(pre out:List S62),(pre ++ suf).length≤1000000→out.length≤pre.length→(∀x∈suf,holeOk x.f0 x.f1 x.f2=true) →
 Ev (fun k=>ZJ.l0 k a b out (pre ++ suf) ((pre ++ suf).length:Int) (pre.length:Int)) (sortedR (out ++ cutH suf a b)).1:=by
 induction suf with
 | nil=>
   intro pre out hl ho _
   have hl2:pre.length≤1000000:=by simpa using hl
   obtain⟨K,e⟩:=shSorted_ok out (by omega)
   refine⟨K+1,fun k hk=>?_⟩
   obtain⟨m,rfl⟩:∃m,k=m+1:=⟨k-1,by omega⟩
   have e1:=e m (by omega)
   dsimp only at e1 ⊢
   rw[ZJ.l0,if_neg (by simp),e1]
   simp[cutH]
 | cons x suf ih=>
   intro pre out hl ho hv
   have hx:=holeOk_bounds (hv x List.mem_cons_self)
   have hlp:pre.length≤1000000:=by simp at hl;omega
   have hl':(pre.length:Int)<((pre ++ x :: suf).length:Int):=by simp;omega
   have hw:wrap64 ((pre.length:Int)+1)=(pre.length:Int)+1:=wrapS (by omega) (by omega)
   by_cases c:max x.f1 a<min x.f2 b
   · have h:=ih (pre ++ [x]) (out ++ [⟨x.f0,max x.f1 a-a,min x.f2 b-a⟩]) (by simp at hl ⊢;omega) (by simp;omega) (fun y hy=>hv y (List.mem_cons_of_mem _ hy))
     rw[snoc_app,snoc_leni]at h
     refine ev_step (ev_eq h (by rw[cutH_cons_in x suf a b c,snoc_app])) (fun k=>?_)
     rw[ZJ.l0,if_pos hl',if_pos (by omega),if_pos hl',rdH_mid,l1Most_max]
     simp only[Option.bind_some]
     rw[l1Least_min]
     simp only[Option.bind_some]
     rw[if_pos c,if_pos (by omega),hw,show wrap64 (max x.f1 a-a)=max x.f1 a-a from wrapS (by omega) (by omega),show wrap64 (min x.f2 b-a)=min x.f2 b-a from wrapS (by omega) (by omega)]
   · have h:=ih (pre ++ [x]) out (by simp at hl ⊢;omega) (by simp;omega) (fun y hy=>hv y (List.mem_cons_of_mem _ hy))
     rw[snoc_app,snoc_leni]at h
     refine ev_step (ev_eq h (by rw[cutH_cons_out x suf a b c])) (fun k=>?_)
     rw[ZJ.l0,if_pos hl',if_pos (by omega),if_pos hl',rdH_mid,l1Most_max]
     simp only[Option.bind_some]
     rw[l1Least_min]
     simp only[Option.bind_some]
     rw[if_neg c,hw]
theorem cut_sheet (l:List S62) (a b:Int) (hl:good l=true) (ha:0≤a) (hb:b≤2000):good (srt (cutH l a b))=true:=by
 have hg:=(good_iff l).1 hl
 obtain⟨c1,c2⟩:=cutH_good l a b ha hb hg.1 (apart_of_good l hl)
 exact good_of_apart (cutH l a b) (fun x hx=>(c1 x hx).2.2) c2 (Nat.le_trans (List.length_filterMap_le _ _) hg.2.2)
theorem shCut_ok (l:List S62) (a b:Int) (hl:good l=true) (ha:0≤a∧a≤2000) (hb:0≤b∧b≤2000):Ev (fun k=>ZJ.f k l a b) (srt (cutH l a b)):=by
 have hg:=(good_iff l).1 hl
 have h:=shCut_l0 a b ha hb l [] [] (by have:=hg.2.2;simp;omega) (by simp) hg.1
 refine Ev.congr (f:=fun k=>ZJ.l0 k a b [] l (l.length:Int) 0) (fun _=>rfl) (ev_eq (by simpa using h) ?_)
 rw[sortedR,if_pos (cut_sheet l a b hl ha.1 hb.2)]
theorem join_eq (x:S62):∀l:List S62,Ze.join l x=joinH l x
 | []=>rfl
 | y :: l=>by rw[Ze.join,joinH,join_eq x l]
theorem joinAll_len (at_:Int):∀(cs l:List S62),(joinAll l at_ cs).length≤l.length+cs.length
 | [],l=>by simp[joinAll]
 | c :: cs,l=>by
   have h:=joinAll_len at_ cs (joinH l (shiftH at_ c))
   have h2:=joinH_len l (shiftH at_ c)
   show(joinAll (joinH l (shiftH at_ c)) at_ cs).length≤_
   simp only[List.length_cons];omega
theorem specEd_l1 (l:List (List S62)) (p:List S46) (n:Int) (i:Nat) (hi:i≤100) (y:S46) (hy:0≤y.f1∧y.f1<y.f2∧y.f2≤2000) (at_:Int) (hat:0≤at_∧at_≤2000) (R:List S62×Bool) (M:Nat) (hM:M<5864062014805) (suf:List S62):∀(pre all:List S62),(pre ++ suf).length≤60→all.length+suf.length≤M→(∀c∈suf,holeOk c.f0 c.f1 c.f2=true) →
 Ev (fun k=>Ze.l0 k l (joinAll all at_ suf) (at_+(y.f2-y.f1)) p n ((i+1:Nat):Int)) R →
 Ev (fun k=>Ze.l1 k l all at_ p n (i:Int) (pre ++ suf) ((pre ++ suf).length:Int) (pre.length:Int) y.f0 y.f1 y.f2) R:=by
 induction suf with
 | nil=>
   intro pre all _ _ _ h
   refine ev_step h (fun k=>?_)
   rw[Ze.l1,if_neg (by simp),show wrap64 (y.f2-y.f1)=y.f2-y.f1 from wrapS (by omega) (by omega),show wrap64 (at_+(y.f2-y.f1))=at_+(y.f2-y.f1) from wrapS (by omega) (by omega),show wrap64 ((i:Int)+1)=((i+1:Nat):Int) from by rw[wrapS (by omega) (by omega)];omega]
   rfl
 | cons c suf ih=>
   intro pre all hl hal hv h
   have hc:=holeOk_bounds (hv c List.mem_cons_self)
   have hlp:pre.length≤60:=by simp at hl;omega
   have hl':(pre.length:Int)<((pre ++ c :: suf).length:Int):=by simp;omega
   have hw:wrap64 ((pre.length:Int)+1)=(pre.length:Int)+1:=wrapS (by omega) (by omega)
   have hp0:(0:Int)≤(pre.length:Int):=Int.natCast_nonneg _
   have w1:wrap64 (c.f1+at_)=c.f1+at_:=wrapS (by omega) (by omega)
   have w2:wrap64 (c.f2+at_)=c.f2+at_:=wrapS (by omega) (by omega)
   have hal1:all.length+suf.length+1≤M:=by rw[Nat.add_assoc];exact hal
   have hal3:all.length<5864062014805:=Nat.lt_of_le_of_lt (Nat.le_trans (Nat.le_add_right _ _) hal) hM
   have hj:(joinH all (shiftH at_ c)).length+suf.length≤M:=Nat.le_trans (Nat.add_le_add_right (joinH_len all (shiftH at_ c)) _) (by rw[Nat.add_right_comm];exact hal1)
   have h2:=ih (pre ++ [c]) (joinH all (shiftH at_ c)) (by simp at hl ⊢;omega) hj (fun y hy=>hv y (List.mem_cons_of_mem _ hy)) h
   rw[snoc_app,snoc_leni]at h2
   refine ev_step h2 (fun k=>?_)
   rw[Ze.l1,if_pos hl',if_pos hp0,if_pos hl',rdH_mid,if_pos hal3,hw,join_eq,w1,w2]
   rfl
def edAll (l:List (List S62)):List S46→List S62→Int→List S62
 | [],all,_=>all
 | y :: ps,all,at_=>edAll l ps (joinAll all at_ (srt (cutH (rd_L3 l y.f0) y.f1 y.f2))) (at_+(y.f2-y.f1))
def sumP:List S46→Int
 | []=>0
 | y :: ps=>(y.f2-y.f1)+sumP ps
def PartIn (l:List (List S62)) (y:S46):Prop:=0≤y.f0∧y.f0<(l.length:Int)∧0≤y.f1∧y.f1<y.f2∧y.f2≤2000
theorem sumP_nn (l:List (List S62)):∀ps:List S46,(∀y∈ps,PartIn l y)→0≤sumP ps
 | [],_=>Int.le_refl 0
 | y :: ps,h=>by
   have h1:=sumP_nn l ps (fun z hz=>h z (List.mem_cons_of_mem _ hz))
   have h2:=h y List.mem_cons_self
   unfold PartIn at h2
   rw[sumP];omega
theorem row_in (l:List (List S62)) (i:Int) (h0:0≤i) (h1:i<(l.length:Int)):rd_L3 l i∈l:=by
 have c:i.toNat<l.length:=by omega
 have e:rd_L3 l i=l[i.toNat]:=by simp[rd_L3,List.getD_eq_getElem?_getD,List.getElem?_eq_getElem c]
 rw[e];exact List.getElem_mem c
theorem specEd_l0 (l:List (List S62)) (hg:∀r∈l,good r=true) (suf:List S46):∀(pre:List S46) (all:List S62) (at_:Int),(pre ++ suf).length≤12→(∀y∈suf,PartIn l y)→all.length≤60*pre.length→0≤at_→at_+sumP suf≤2000 →
 Ev (fun k=>Ze.l0 k l all at_ (pre ++ suf) ((pre ++ suf).length:Int) (pre.length:Int)) (sortedR (edAll l suf all at_)):=by
 induction suf with
 | nil=>
   intro pre all at_ hl _ ha _ _
   have hl2:pre.length≤12:=by simpa using hl
   obtain⟨K,e⟩:=shSorted_ok all (by omega)
   refine⟨K+1,fun k hk=>?_⟩
   obtain⟨m,rfl⟩:∃m,k=m+1:=⟨k-1,by omega⟩
   have e1:=e m (by omega)
   dsimp only at e1 ⊢
   rw[Ze.l0,if_neg (by simp),e1]
   rfl
 | cons y suf ih=>
   intro pre all at_ hl hp ha h0 hs
   have hy:=hp y List.mem_cons_self
   unfold PartIn at hy
   have hsn:=sumP_nn l suf (fun z hz=>hp z (List.mem_cons_of_mem _ hz))
   rw[sumP]at hs
   have hlp:pre.length≤12:=by simp at hl;omega
   have hr:=hg _ (row_in l y.f0 hy.1 hy.2.1)
   obtain⟨r,hre⟩:∃r,r=rd_L3 l y.f0:=⟨_,rfl⟩
   rw[← hre]at hr
   have hcs:=(good_iff _).1 (cut_sheet r y.f1 y.f2 hr hy.2.2.1 hy.2.2.2.2)
   obtain⟨K1,e1⟩:=shCut_ok r y.f1 y.f2 hr (by omega) (by omega)
   have hjl:=joinAll_len at_ (srt (cutH r y.f1 y.f2)) all
   have h:=ih (pre ++ [y]) (joinAll all at_ (srt (cutH r y.f1 y.f2))) (at_+(y.f2-y.f1)) (by simp at hl ⊢;omega) (fun z hz=>hp z (List.mem_cons_of_mem _ hz)) (by have:=hcs.2.2;simp;omega) (by omega) (by omega)
   rw[snoc_app,snoc_leni]at h
   have h2:=specEd_l1 l (pre ++ y :: suf) ((pre ++ y :: suf).length:Int) pre.length (by omega) y ⟨hy.2.2.1,hy.2.2.2.1,hy.2.2.2.2⟩ at_ (by omega) (sortedR (edAll l suf (joinAll all at_ (srt (cutH r y.f1 y.f2))) (at_+(y.f2-y.f1)))) 1000 (by decide) (srt (cutH r y.f1 y.f2)) [] all (by simpa using hcs.2.2) (by have:=hcs.2.2;omega) hcs.1 (by
    rw[show((pre.length+1:Nat):Int)=(pre.length:Int)+1 by omega];exact h)
   obtain⟨K2,e2⟩:=h2
   have hl':(pre.length:Int)<((pre ++ y :: suf).length:Int):=by simp;omega
   refine⟨K1+K2+1,fun k hk=>?_⟩
   obtain⟨m,rfl⟩:∃m,k=m+1:=⟨k-1,by omega⟩
   have f1:=e1 m (by omega)
   have f2:=e2 m (by omega)
   dsimp only at f1 f2 ⊢
   rw[Ze.l0,if_pos hl',if_pos (by omega),if_pos hl',rdP_mid,if_pos hy.1,if_pos hy.2.1, ← hre,f1]
   simp only[Option.bind_some]
   rw[edAll, ← hre]
   simpa using f2
def units (t e:Int):Nat→List S62
 | 0=> []
 | d+1=>⟨t,e,e+1⟩ :: units t (e+1) d
def unitsOf (at_ a b:Int) (x:S62):List S62:=units x.f0 (at_+max x.f1 a-a) (min x.f2 b-max x.f1 a).toNat
theorem cov_units (t u s:Int):∀(d:Nat) (e:Int),cov (units t e d) u s=decide (t=u∧e≤s∧s<e+d)
 | 0,e=>by
   rw[units]
   exact(decide_eq_false (by omega)).symm
 | d+1,e=>by
   rw[units,cov_cons,cov_units t u s d (e+1),Bool.eq_iff_iff,Bool.or_eq_true,decide_eq_true_eq,decide_eq_true_eq,decide_eq_true_eq]
   dsimp only
   omega
theorem cov_unitsOf (at_ a b u s:Int) (x:S62):cov (unitsOf at_ a b x) u s=cov [paintH at_ a b x] u s:=by
 rw[unitsOf,cov_units,cov_cons,paintH,Bool.eq_iff_iff,Bool.or_eq_true,decide_eq_true_eq,decide_eq_true_eq]
 dsimp only
 have e:cov ([]:List S62) u s=false:=rfl
 rw[e]
 simp only[Bool.false_eq_true,or_false]
 omega
theorem cov_flat (at_ a b u s:Int):∀l:List S62,cov (l.flatMap (unitsOf at_ a b)) u s=cov (l.map (paintH at_ a b)) u s
 | []=>rfl
 | x :: l=>by
   rw[List.flatMap_cons,List.map_cons,cov_app,cov_flat at_ a b u s l,cov_unitsOf,cov_cons,cov_cons _ (l.map _)]
   simp[cov]
set_option linter.unusedSectionVars false
theorem implEd_l2 (l:List (List S62)) (p:List S46) (n:Int) (i:Nat) (hi:i≤100) (y:S46) (hy:0≤y.f1∧y.f1<y.f2∧y.f2≤2000) (at_:Int) (hat:0≤at_∧at_+(y.f2-y.f1)≤2000) (R:List S62×Bool) (r:List S62) (j:Nat) (hj:j≤100) (x:S62) (hx:holeOk x.f0 x.f1 x.f2=true) (d:Nat):∀(s:Int) (pt:List S62),(s+d=min x.f2 y.f2∨(d=0∧min x.f2 y.f2≤s))→y.f1≤s→s≤4000 →
 Ev (fun k=>Za.l1 k l (pt ++ units x.f0 (at_+s-y.f1) d) at_ p n (i:Int) r (r.length:Int) ((j:Int)+1) y.f0 y.f1 y.f2) R →
 Ev (fun k=>Za.l2 k l pt at_ s p n (i:Int) r (r.length:Int) (j:Int) y.f0 y.f1 y.f2 x.f0 x.f1 x.f2) R:=by
 have hb:=holeOk_bounds hx
 induction d with
 | zero=>
   intro s pt hs h1 h2 h
   refine ev_step h (fun k=>?_)
   rw[Za.l2,mn_eq,if_neg (by omega),show wrap64 ((j:Int)+1)=(j:Int)+1 from wrapS (by omega) (by omega),units,List.append_nil]
 | succ d ih=>
   intro s pt hs h1 h2 h
   have h3:=ih (s+1) (pt ++ [⟨x.f0,at_+s-y.f1,at_+s-y.f1+1⟩]) (by omega) (by omega) (by omega) (by
    rw[show at_+(s+1)-y.f1=at_+s-y.f1+1 by omega,snoc_app];exact h)
   refine ev_step h3 (fun k=>?_)
   rw[Za.l2,mn_eq,if_pos (by omega),if_pos (by omega),if_pos (by omega),show wrap64 (at_+s)=at_+s from wrapS (by omega) (by omega),show wrap64 (at_+s-y.f1)=at_+s-y.f1 from wrapS (by omega) (by omega),if_pos (by omega),if_pos (by omega),show wrap64 (s+1)=s+1 from wrapS (by omega) (by omega)]
theorem implEd_l1 (l:List (List S62)) (p:List S46) (n:Int) (i:Nat) (hi:i≤100) (y:S46) (hy:0≤y.f1∧y.f1<y.f2∧y.f2≤2000) (at_:Int) (hat:0≤at_∧at_+(y.f2-y.f1)≤2000) (R:List S62×Bool) (suf:List S62):∀(pre pt:List S62),(pre ++ suf).length≤60→(∀c∈suf,holeOk c.f0 c.f1 c.f2=true) →
 Ev (fun k=>Za.l0 k l (pt ++ suf.flatMap (unitsOf at_ y.f1 y.f2)) (at_+(y.f2-y.f1)) p n ((i+1:Nat):Int)) R →
 Ev (fun k=>Za.l1 k l pt at_ p n (i:Int) (pre ++ suf) ((pre ++ suf).length:Int) (pre.length:Int) y.f0 y.f1 y.f2) R:=by
 induction suf with
 | nil=>
   intro pre pt _ _ h
   refine ev_step h (fun k=>?_)
   rw[Za.l1,if_neg (by simp),show wrap64 (y.f2-y.f1)=y.f2-y.f1 from wrapS (by omega) (by omega),show wrap64 (at_+(y.f2-y.f1))=at_+(y.f2-y.f1) from wrapS (by omega) (by omega),show wrap64 ((i:Int)+1)=((i+1:Nat):Int) from by rw[wrapS (by omega) (by omega)];omega]
   simp
 | cons x suf ih=>
   intro pre pt hl hv h
   have hx:=hv x List.mem_cons_self
   have hb:=holeOk_bounds hx
   have hlp:pre.length≤60:=by simp at hl;omega
   have hl':(pre.length:Int)<((pre ++ x :: suf).length:Int):=by simp;omega
   have h2:=ih (pre ++ [x]) (pt ++ unitsOf at_ y.f1 y.f2 x) (by simp at hl ⊢;omega) (fun z hz=>hv z (List.mem_cons_of_mem _ hz)) (by
    rw[List.append_assoc, ← List.flatMap_cons];exact h)
   rw[snoc_app,snoc_leni]at h2
   have h3:=implEd_l2 l p n i hi y hy at_ hat R (pre ++ x :: suf) pre.length (by omega) x hx (min x.f2 y.f2-max x.f1 y.f1).toNat (max x.f1 y.f1) pt (by omega) (by omega) (by omega) h2
   refine ev_step h3 (fun k=>?_)
   rw[Za.l1,if_pos hl',if_pos (by omega),if_pos hl',rdH_mid,mx_eq]
def edUn (l:List (List S62)):List S46→List S62→Int→List S62
 | [],pt,_=>pt
 | y :: ps,pt,at_=>edUn l ps (pt ++ (rd_L3 l y.f0).flatMap (unitsOf at_ y.f1 y.f2)) (at_+(y.f2-y.f1))
theorem implEd_l0 (l:List (List S62)) (hg:∀r∈l,good r=true) (R:List S62×Bool) (suf:List S46):∀(pre:List S46) (pt:List S62) (at_:Int),(pre ++ suf).length≤12→(∀y∈suf,PartIn l y)→0≤at_→at_+sumP suf≤2000 →
 Ev (fun k=>Za.sg.f (edUn l suf pt at_) k) R →
 Ev (fun k=>Za.l0 k l pt at_ (pre ++ suf) ((pre ++ suf).length:Int) (pre.length:Int)) R:=by
 induction suf with
 | nil=>
   intro pre pt at_ hl _ _ _ h
   refine ev_step h (fun k=>?_)
   rw[Za.l0,if_neg (by simp)]
   rfl
 | cons y suf ih=>
   intro pre pt at_ hl hp h0 hs h
   have hy:=hp y List.mem_cons_self
   unfold PartIn at hy
   have hsn:=sumP_nn l suf (fun z hz=>hp z (List.mem_cons_of_mem _ hz))
   rw[sumP]at hs
   have hlp:pre.length≤12:=by simp at hl;omega
   have hr:=(good_iff _).1 (hg _ (row_in l y.f0 hy.1 hy.2.1))
   have h1:=ih (pre ++ [y]) (pt ++ (rd_L3 l y.f0).flatMap (unitsOf at_ y.f1 y.f2)) (at_+(y.f2-y.f1)) (by simp at hl ⊢;omega) (fun z hz=>hp z (List.mem_cons_of_mem _ hz)) (by omega) (by omega) h
   rw[snoc_app,snoc_leni]at h1
   have h2:=implEd_l1 l (pre ++ y :: suf) ((pre ++ y :: suf).length:Int) pre.length (by omega) y ⟨hy.2.2.1,hy.2.2.2.1,hy.2.2.2.2⟩ at_ (by omega) R (rd_L3 l y.f0) [] pt (by simpa using hr.2.2) hr.1 (by
    rw[show((pre.length+1:Nat):Int)=(pre.length:Int)+1 by omega];exact h1)
   have hl':(pre.length:Int)<((pre ++ y :: suf).length:Int):=by simp;omega
   refine ev_step h2 (fun k=>?_)
   rw[Za.l0,if_pos hl',if_pos (by omega),if_pos hl',rdP_mid,if_pos hy.1,if_pos hy.2.1]
   simp
theorem ed_same (l:List (List S62)) (hg:∀r∈l,good r=true):∀(suf:List S46) (all pt:List S62) (at_:Int),EdInv all pt at_→(∀y∈suf,PartIn l y)→at_+sumP suf≤2000→∃m,EdInv (edAll l suf all at_) (edUn l suf pt at_) m
 | [],_,_,at_,h,_,_=>⟨at_,h⟩
 | y :: suf,all,pt,at_,h,hp,hs=>by
   have hy:=hp y List.mem_cons_self
   unfold PartIn at hy
   have hsn:=sumP_nn l suf (fun z hz=>hp z (List.mem_cons_of_mem _ hz))
   rw[sumP]at hs
   have h1:=(h.step (hg _ (row_in l y.f0 hy.1 hy.2.1)) hy.2.2.1 hy.2.2.2.2 hy.2.2.2.1 (by omega)).2
   have h2:EdInv (joinAll all at_ (srt (cutH (rd_L3 l y.f0) y.f1 y.f2))) (pt ++ (rd_L3 l y.f0).flatMap (unitsOf at_ y.f1 y.f2)) (at_+(y.f2-y.f1)):=
    ⟨h1.a0,h1.ok,h1.ap,h1.le,fun t s=>by rw[h1.cv,cov_app,cov_app,cov_flat]⟩
   exact ed_same l hg suf _ _ _ h2 (fun z hz=>hp z (List.mem_cons_of_mem _ hz)) (by omega)
theorem edAll_len (l:List (List S62)) (hg:∀r∈l,good r=true):∀(suf:List S46) (all:List S62) (at_:Int),(∀y∈suf,PartIn l y)→(edAll l suf all at_).length≤all.length+60*suf.length
 | [],all,_,_=>by rw[edAll];simp
 | y :: suf,all,at_,hp=>by
   have hy:=hp y List.mem_cons_self
   unfold PartIn at hy
   have h1:=edAll_len l hg suf (joinAll all at_ (srt (cutH (rd_L3 l y.f0) y.f1 y.f2))) (at_+(y.f2-y.f1)) (fun z hz=>hp z (List.mem_cons_of_mem _ hz))
   have h2:=joinAll_len at_ (srt (cutH (rd_L3 l y.f0) y.f1 y.f2)) all
   have h3:=((good_iff _).1 (cut_sheet (rd_L3 l y.f0) y.f1 y.f2 (hg _ (row_in l y.f0 hy.1 hy.2.1)) hy.2.2.1 hy.2.2.2.2)).2.2
   rw[edAll,List.length_cons]
   omega

/-- Is a step of a track open in the edition that begins at a step. -/
def covP (l:List (List S62)):List S46→Int→Int→Int→Bool
 | [],_,_,_=>false
 | y :: ps,at_,t,s=>cov ((rd_L3 l y.f0).map (paintH at_ y.f1 y.f2)) t s || covP l ps (at_+(y.f2-y.f1)) t s
theorem cov_edUn (l:List (List S62)) (t s:Int):∀(ps:List S46) (pt:List S62) (at_:Int),cov (edUn l ps pt at_) t s=(cov pt t s || covP l ps at_ t s)
 | [],pt,at_=>by rw[edUn,covP,Bool.or_false]
 | y :: ps,pt,at_=>by rw[edUn,cov_edUn l t s ps,cov_app,cov_flat,covP,Bool.or_assoc]
theorem cov_paint (r:List S62) (at_ a b t s:Int):cov (r.map (paintH at_ a b)) t s=true↔∃h∈r,h.f0=t∧at_+max h.f1 a-a≤s∧s<at_+min h.f2 b-a:=by
 rw[cov_true]
 constructor
 · rintro⟨y,hy,e⟩
   obtain⟨h,hh,rfl⟩:=List.mem_map.1 hy
   exact⟨h,hh,e⟩
 · rintro⟨h,hh,e⟩
   exact⟨_,List.mem_map.2 ⟨h,hh,rfl⟩,e⟩
/-- Two parts of one source that go on paint what one paints. -/
theorem cov_glue (r:List S62) (at_ a b c t s:Int) (h1:a≤b) (h2:b≤c):cov (r.map (paintH at_ a c)) t s=(cov (r.map (paintH at_ a b)) t s || cov (r.map (paintH (at_+(b-a)) b c)) t s):=by
 rw[Bool.eq_iff_iff,Bool.or_eq_true,cov_paint,cov_paint,cov_paint]
 constructor
 · rintro⟨h,hh,e1,e2,e3⟩
   by_cases q:s<at_+b-a
   · exact .inl ⟨h,hh,e1,by omega,by omega⟩
   · exact .inr ⟨h,hh,e1,by omega,by omega⟩
 · rintro(⟨h,hh,e1,e2,e3⟩ | ⟨h,hh,e1,e2,e3⟩)
   · exact⟨h,hh,e1,by omega,by omega⟩
   · exact⟨h,hh,e1,by omega,by omega⟩
/-- A part put to those before it: glued to the last one, if it goes on where that one ends. -/
def glueP:List S46→S46→List S46
 | [],x=> [x]
 | [y],x=>if y.f0=x.f0∧y.f2=x.f1 then [⟨y.f0,y.f1,x.f2⟩] else [y,x]
 | y :: z :: l,x=>y :: glueP (z :: l) x
def shortR (p:List S46):List S46:=p.foldl glueP []
theorem glueP_facts (l:List (List S62)) (x:S46) (hx:PartIn l x):∀out:List S46,(∀y∈out,PartIn l y) →
 (∀y∈glueP out x,PartIn l y)∧sumP (glueP out x)=sumP out+(x.f2-x.f1)∧(glueP out x).length≤out.length+1∧∀at_ t s,covP l (glueP out x) at_ t s=(covP l out at_ t s || covP l [x] (at_+sumP out) t s)
 | [],_=>by
   refine⟨fun y hy=>?_,?_,Nat.le_refl _,fun at_ t s=>?_⟩
   · rw[glueP,List.mem_singleton]at hy;rw[hy];exact hx
   · simp only[glueP,sumP];omega
   · rw[glueP]
     show covP l [x] at_ t s=(covP l [] at_ t s || covP l [x] (at_+sumP []) t s)
     rw[sumP,Int.add_zero]
     rfl
 | [y],h=>by
   have hy:=h y List.mem_cons_self
   unfold PartIn at hy hx
   rw[glueP]
   by_cases c:y.f0=x.f0∧y.f2=x.f1
   · rw[if_pos c]
     refine⟨fun z hz=>?_,?_,by simp,fun at_ t s=>?_⟩
     · rw[List.mem_singleton]at hz
       rw[hz]
       unfold PartIn
       dsimp only
       omega
     · simp only[sumP];omega
     · simp only[covP,sumP,Bool.or_false]
       rw[cov_glue (rd_L3 l y.f0) at_ y.f1 y.f2 x.f2 t s (by omega) (by omega),c.1,c.2,Int.add_zero]
   · rw[if_neg c]
     refine⟨fun z hz=>?_,?_,by simp,fun at_ t s=>?_⟩
     · rcases List.mem_cons.1 hz with e | hz
       · rw[e];exact h y List.mem_cons_self
       · rw[List.mem_singleton.1 hz];exact hx
     · simp only[sumP];omega
     · simp only[covP,sumP,Bool.or_false,Int.add_zero]
 | y :: z :: out,h=>by
   obtain⟨g1,g2,g3,g4⟩:=glueP_facts l x hx (z :: out) (fun w hw=>h w (List.mem_cons_of_mem _ hw))
   rw[glueP]
   refine⟨fun w hw=>?_,?_,?_,fun at_ t s=>?_⟩
   · rcases List.mem_cons.1 hw with e | hw
     · rw[e];exact h y List.mem_cons_self
     · exact g1 w hw
   · show(y.f2-y.f1)+sumP (glueP (z :: out) x)=((y.f2-y.f1)+sumP (z :: out))+(x.f2-x.f1)
     rw[g2];omega
   · rw[List.length_cons,List.length_cons (a:=y)];omega
   · show(cov ((rd_L3 l y.f0).map (paintH at_ y.f1 y.f2)) t s || covP l (glueP (z :: out) x) (at_+(y.f2-y.f1)) t s)=((cov ((rd_L3 l y.f0).map (paintH at_ y.f1 y.f2)) t s || covP l (z :: out) (at_+(y.f2-y.f1)) t s) || covP l [x] (at_+((y.f2-y.f1)+sumP (z :: out))) t s)
     rw[g4,Bool.or_assoc,Int.add_assoc]
theorem shortR_facts (l:List (List S62)):∀(p out:List S46),(∀y∈p,PartIn l y)→(∀y∈out,PartIn l y) →
 (∀y∈p.foldl glueP out,PartIn l y)∧sumP (p.foldl glueP out)=sumP out+sumP p∧(p.foldl glueP out).length≤out.length+p.length∧∀at_ t s,covP l (p.foldl glueP out) at_ t s=(covP l out at_ t s || covP l p (at_+sumP out) t s)
 | [],out,_,ho=>⟨ho,by rw[List.foldl_nil,sumP];omega,Nat.le_refl _,fun at_ t s=>by rw[List.foldl_nil,covP,Bool.or_false]⟩
 | x :: p,out,hp,ho=>by
   have hx:=hp x List.mem_cons_self
   obtain⟨g1,g2,g3,g4⟩:=glueP_facts l x hx out ho
   obtain⟨k1,k2,k3,k4⟩:=shortR_facts l p (glueP out x) (fun y hy=>hp y (List.mem_cons_of_mem _ hy)) g1
   rw[List.foldl_cons]
   refine⟨k1,by rw[k2,g2,sumP];omega,by rw[List.length_cons];omega,fun at_ t s=>?_⟩
   rw[k4,g4,g2,Bool.or_assoc]
   congr 1
   simp only[covP,Bool.or_false]
   rw[Int.add_assoc]
/-- The short parts are an edition of the same sheets; it is the same one. -/
theorem short_same (l:List (List S62)) (hg:∀r∈l,good r=true) (p:List S46) (hp:∀y∈p,PartIn l y) (hs:sumP p≤2000):sortedR (edAll l (shortR p) [] 0)=sortedR (edAll l p [] 0):=by
 obtain⟨k1,k2,k3,k4⟩:=shortR_facts l p [] hp (fun _ h=>by cases h)
 have e0:EdInv ([]:List S62) [] 0:=⟨Int.le_refl 0,(fun _ h=>by cases h),List.Pairwise.nil,(fun _ h=>by cases h),fun _ _=>rfl⟩
 have hs2:(0:Int)+sumP (shortR p)≤2000:=by
  unfold shortR;rw[k2,sumP];omega
 obtain⟨m1,i1⟩:=ed_same l hg (shortR p) [] [] 0 e0 k1 hs2
 obtain⟨m2,i2⟩:=ed_same l hg p [] [] 0 e0 hp (by omega)
 rw[← (edition_same i1).1, ← (edition_same i2).1]
 have e:cov (edUn l (shortR p) [] 0)=cov (edUn l p [] 0):=by
  funext t s
  rw[cov_edUn,cov_edUn]
  congr 1
  unfold shortR
  rw[k4]
  simp only[covP,sumP,Bool.false_or,Int.add_zero]
 rw[e]
theorem covP_before (l:List (List S62)) (t s:Int):∀(ps:List S46) (at_:Int),(∀y∈ps,PartIn l y)→s<at_→covP l ps at_ t s=false
 | [],_,_,_=>rfl
 | y :: ps,at_,hp,h=>by
   have hy:=hp y List.mem_cons_self
   unfold PartIn at hy
   rw[covP,covP_before l t s ps _ (fun z hz=>hp z (List.mem_cons_of_mem _ hz)) (by omega),Bool.or_false, ← Bool.not_eq_true,cov_paint]
   rintro⟨x,hx,e1,e2,e3⟩
   omega
/-- The source of a step, and the step there. -/
def srcP:List S46→Int→Int×Int
 | [],u=>(0,u)
 | y :: ps,u=>if u<y.f2-y.f1 then(y.f0,y.f1+u) else srcP ps (u-(y.f2-y.f1))
theorem covP_src (l:List (List S62)) (t:Int):∀(ps:List S46) (at_ u:Int),(∀y∈ps,PartIn l y)→0≤u→u<sumP ps→covP l ps at_ t (at_+u)=cov (rd_L3 l (srcP ps u).1) t (srcP ps u).2
 | [],_,u,_,h0,h1=>by rw[sumP]at h1;omega
 | y :: ps,at_,u,hp,h0,h1=>by
   have hy:=hp y List.mem_cons_self
   unfold PartIn at hy
   rw[sumP]at h1
   rw[covP,srcP]
   by_cases c:u<y.f2-y.f1
   · rw[if_pos c,covP_before l t (at_+u) ps _ (fun z hz=>hp z (List.mem_cons_of_mem _ hz)) (by omega),Bool.or_false,Bool.eq_iff_iff,cov_paint,cov_true]
     constructor
     · rintro⟨x,hx,e1,e2,e3⟩;exact⟨x,hx,e1,by dsimp only;omega,by dsimp only;omega⟩
     · rintro⟨x,hx,e1,e2,e3⟩;exact⟨x,hx,e1,by dsimp only at e2 e3;omega,by dsimp only at e2 e3;omega⟩
   · rw[if_neg c]
     have h2:=covP_src l t ps (at_+(y.f2-y.f1)) (u-(y.f2-y.f1)) (fun z hz=>hp z (List.mem_cons_of_mem _ hz)) (by omega) (by omega)
     rw[show at_+(y.f2-y.f1)+(u-(y.f2-y.f1))=at_+u by omega]at h2
     rw[h2]
     have e:cov ((rd_L3 l y.f0).map (paintH at_ y.f1 y.f2)) t (at_+u)=false:=by
      rw[← Bool.not_eq_true,cov_paint]
      rintro⟨x,hx,e1,e2,e3⟩
      omega
     rw[e,Bool.false_or]
/-- The tracks that are open in the edition at a step are those of its source's step. -/
theorem edition_open (l:List (List S62)) (hg:∀r∈l,good r=true) (p:List S46) (hp:∀y∈p,PartIn l y) (hs:sumP p≤2000) (t u:Int) (h0:0≤u) (h1:u<sumP p):cov (edAll l p [] 0) t u=cov (rd_L3 l (srcP p u).1) t (srcP p u).2:=by
 have e0:EdInv ([]:List S62) [] 0:=⟨Int.le_refl 0,(fun _ h=>by cases h),List.Pairwise.nil,(fun _ h=>by cases h),fun _ _=>rfl⟩
 obtain⟨m,i⟩:=ed_same l hg p [] [] 0 e0 hp (by omega)
 rw[i.cv,cov_edUn,show cov ([]:List S62) t u=false from rfl,Bool.false_or]
 have h:=covP_src l t p 0 u hp h0 h1
 rw[Int.zero_add]at h
 exact h

end Go.Proofs.YtcnegcdmmackeaaGreat.LFnEditionsB
namespace Go.Proofs.YtcnegcdmmackeaaGreat.LFnEditionsC
open Go Go.RowKit Go.Proofs.YtcnegcdmmackeaaGreat.QFnEditions Go.Proofs.YtcnegcdmmackeaaGreatW.PrintWords Go.Proofs.YtcnegcdmmackeaaGreatW.PrintLast Go.Proofs.YtcnegcdmmackeaaGreatW.PrintMore Go.Proofs.YtcnegcdmmackeaaGreat.Base Go.Proofs.YtcnegcdmmackeaaGreat.LFnEditionsA Go.Proofs.YtcnegcdmmackeaaGreat.LFnEditionsB
set_option linter.unusedVariables false
set_option linter.unusedSimpArgs false

def len1 (x:S46):Int:=x.f2-x.f1
def total:List S46→Int
 | []=>0
 | x :: l=>len1 x+total l
theorem ok_len {x:S46} (h:partOk x=true):1≤len1 x∧len1 x≤2000∧0≤x.f1∧x.f2≤2000∧0≤x.f0∧x.f0≤3:=by
 simp only[partOk,decide_eq_true_eq]at h
 unfold len1;omega
theorem total_ge {l:List S46} (h:l.all partOk=true):0≤total l∧total l≤2000*l.length:=by
 induction l with
 | nil=>simp[total]
 | cons x l ih=>
   simp only[List.all_cons,Bool.and_eq_true]at h
   have:=ih h.2
   have:=ok_len h.1
   simp only[total,List.length_cons];omega
theorem lenOf_eq {l:List S46} (h:l.all partOk=true):∀m:Int,0≤m→m+2000*l.length≤1000000000000→lenOf l m=m+total l:=by
 induction l with
 | nil=>intro m _ _;simp[lenOf,total]
 | cons x l ih=>
   intro m h0 h1
   simp only[List.all_cons,Bool.and_eq_true]at h
   obtain⟨o1,o2,o3,o4,o5,o6⟩:=ok_len h.1
   simp only[List.length_cons]at h1
   have hl:len1 x=x.f2-x.f1:=rfl
   rw[lenOf,wrapS (x:=x.f2-x.f1) (by omega) (by omega),wrapS (by omega) (by omega),ih h.2 _ (by omega) (by omega),total]
   omega
theorem good_parts {l:List S46} (h:partsGood l=true):l.all partOk=true∧l.length≤12∧0≤total l∧total l≤2000∧lenOf l 0=total l:=by
 simp only[partsGood,Bool.and_eq_true,decide_eq_true_eq]at h
 have e:=lenOf_eq h.1 0 (by omega) (by omega)
 have:=total_ge h.1
 exact⟨h.1,h.2.1,by omega,by omega,by omega⟩
theorem parts_good {l:List S46} (h1:l.all partOk=true) (h2:l.length≤12) (h3:total l≤2000):partsGood l=true:=by
 have e:=lenOf_eq h1 0 (by omega) (by omega)
 simp only[partsGood,Bool.and_eq_true,decide_eq_true_eq]
 exact⟨h1,h2,by omega⟩
def at_:List S46→Int→Int×Int
 | [],_=>(0,0)
 | x :: l,s=>if s<len1 x then(x.f0,x.f1+s) else at_ l (s-len1 x)
def cutL (a b:Int):Int→List S46→List S46
 | _, []=> []
 | p,x :: l=>if max p a<min (p+len1 x) b then⟨x.f0,x.f1+max p a-p,x.f1+min (p+len1 x) b-p⟩ :: cutL a b (p+len1 x) l else cutL a b (p+len1 x) l
theorem cutL_len (a b:Int) (l:List S46):∀p,(cutL a b p l).length≤l.length:=by
 induction l with
 | nil=>intro p;simp[cutL]
 | cons x l ih=>intro p;have:=ih (p+len1 x);simp only[cutL];split<;>simp<;>omega
theorem cutL_ok (a b:Int) {l:List S46} (h:l.all partOk=true):∀p,(cutL a b p l).all partOk=true:=by
 induction l with
 | nil=>intro p;simp[cutL]
 | cons x l ih=>
   intro p
   simp only[List.all_cons,Bool.and_eq_true]at h
   obtain⟨o1,o2,o3,o4,o5,o6⟩:=ok_len h.1
   have hl:len1 x=x.f2-x.f1:=rfl
   have:=ih h.2 (p+len1 x)
   simp only[cutL]
   split
   · simp only[List.all_cons,Bool.and_eq_true]
     refine⟨?_,this⟩
     simp only[partOk,decide_eq_true_eq]
     omega
   · exact this
theorem cutL_total (a b:Int) (hab:a<b) {l:List S46} (h:l.all partOk=true):∀p,total (cutL a b p l)=max 0 (min (p+total l) b-max p a):=by
 induction l with
 | nil=>intro p;simp only[cutL,total];omega
 | cons x l ih=>
   intro p
   simp only[List.all_cons,Bool.and_eq_true]at h
   obtain⟨o1,_⟩:=ok_len h.1
   have:=ih h.2 (p+len1 x)
   have ht:=(total_ge h.2).1
   simp only[cutL]
   split
   · have hy:len1 (⟨x.f0,x.f1+max p a-p,x.f1+min (p+len1 x) b-p⟩:S46)=min (p+len1 x) b-max p a:=by simp only[len1];omega
     simp only[total,this,hy];omega
   · simp only[total,this];omega
def srcAtR (l:List S46) (s:Int):Int×Int×Bool:=if partsGood l=true∧0≤s∧s<total l then((at_ l s).1,(at_ l s).2,true) else(0,0,false)
theorem areParts4 (l:List S46):areParts l 4=partsGood l:=by
 unfold areParts
 cases g:partsGood l with
 | false=>rfl
 | true=>
   have h:l.all (under 4)=true:=by
    rw[List.all_eq_true]
    intro x hx
    have h1:l.all partOk=true:=by
     unfold partsGood at g
     exact(Bool.and_eq_true_iff.1 g).1
    have h2:=List.all_eq_true.1 h1 x hx
    unfold partOk at h2
    have h3:=of_decide_eq_true h2
    exact decide_eq_true (by omega)
   rw[h];rfl

theorem isEd_ok (l:List S46) (h:l.length≤1048576):Ev (fun k=>Zt.f k l) (partsGood l):=by
 refine Ev.congr (fun k=>?_) (ev_eq (implAreParts_ok l 4 h) (areParts4 l))
 simp only[Zt.f]
 cases Zo.f k l 4<;>rfl
theorem implLength_ok (l:List S46) (h:l.length≤1048576):Ev (fun k=>ZR.f k l) (if partsGood l=true then(total l,true) else(0,false)):=by
 refine Ev.bind (isEd_ok l h) ?_
 cases g:partsGood l with
 | false=>exact ev_of_eq (fun _=>by simp)
 | true=>
   simp only[if_true]
   exact Ev.bind (editionLength_ok l h) (ev_of_eq (fun _=>by rw[(good_parts g).2.2.2.2]))
theorem specLength_ok (l:List S46) (h:l.length≤1048576):Ev (fun k=>ZV.f k l) (if partsGood l=true then(total l,true) else(0,false)):=by
 refine Ev.bind (edGood_ok l h) ?_
 cases g:partsGood l with
 | false=>exact ev_of_eq (fun _=>by simp)
 | true=>
   simp only[if_true]
   exact Ev.bind (edLength_ok l h) (ev_of_eq (fun _=>by rw[(good_parts g).2.2.2.2]))
theorem implCut_l0 (a b:Int) (ha:0≤a) (ha2:a≤2000) (hb:0≤b) (hb2:b≤2000) (suf:List S46) (hs:suf.all partOk=true):∀(pre:List S46) (out:List S46) (p:Int),(pre ++ suf).length≤1048576→out.length≤pre.length→0≤p→p+2000*suf.length≤1000000000000 →
 Ev (fun k=>Zx.l0 k a b out p (pre ++ suf) ((pre ++ suf).length:Int) (pre.length:Int)) (out ++ cutL a b p suf):=by
 induction suf with
 | nil=>
   intro pre out p _ _ _ _
   refine ev_step (f:=fun _=>some _) (Ev.now _) (fun k=>?_)
   rw[Zx.l0,if_neg (by simp)];simp[cutL]
 | cons x suf ih=>
   intro pre out p hl ho h0 h1
   simp only[List.all_cons,Bool.and_eq_true]at hs
   obtain⟨o1,o2,o3,o4,o5,o6⟩:=ok_len hs.1
   have hx:len1 x=x.f2-x.f1:=rfl
   have hlp:pre.length+(suf.length+1)≤1048576:=by simpa using hl
   have hl':(pre.length:Int)<((pre ++ x :: suf).length:Int):=by simp;omega
   have hb0:out.length≤pre.length+1:=by omega
   have q0:(0:Int)≤(pre.length:Int):=by omega
   have q1:out.length<5864062014805:=by omega
   have hb1:∀z:S46,(out ++ [z]).length≤pre.length+1:=fun z=>by simp;omega
   have hw:wrap64 ((pre.length:Int)+1)=(pre.length:Int)+1:=wrapS (by omega) (by omega)
   simp only[List.length_cons]at h1
   have IH:=fun o2 (ho2:o2.length≤pre.length+1)=>ih hs.2 (pre ++ [x]) o2 (p+len1 x) (by rw[snoc_app];exact hl) (by simpa using ho2) (by omega) (by omega)
   simp only[snoc_app,snoc_leni]at IH
   have e1:wrap64 (wrap64 (p+x.f2)-x.f1)=p+len1 x:=by rw[wrapS (x:=p+x.f2) (by omega) (by omega),wrapS (by omega) (by omega)];omega
   have e2:wrap64 (wrap64 (x.f1+max p a)-p)=x.f1+max p a-p:=by rw[wrapS (x:=x.f1+max p a) (by omega) (by omega),wrapS (by omega) (by omega)]
   have e3:wrap64 (wrap64 (x.f1+min (p+len1 x) b)-p)=x.f1+min (p+len1 x) b-p:=by rw[wrapS (x:=x.f1+min (p+len1 x) b) (by omega) (by omega),wrapS (by omega) (by omega)]
   by_cases c:max p a<min (p+len1 x) b
   · refine ev_step (ev_eq (IH (out ++ [⟨x.f0,x.f1+max p a-p,x.f1+min (p+len1 x) b-p⟩]) (hb1 _)) (by rw[cutL,if_pos c,List.append_assoc];rfl)) (fun k=>?_)
     rw[Zx.l0,if_pos hl',if_pos q0,if_pos hl',rdP_mid,e1,mx_eq,mn_eq,if_pos c,if_pos q1,e2,e3,hw]
   · refine ev_step (ev_eq (IH out hb0) (by rw[cutL,if_neg c])) (fun k=>?_)
     rw[Zx.l0,if_pos hl',if_pos q0,if_pos hl',rdP_mid,e1,mx_eq,mn_eq,if_neg c,hw]
theorem specCut_l0 (a b:Int) (ha:0≤a) (ha2:a≤2000) (hb:0≤b) (hb2:b≤2000) (suf:List S46) (hs:suf.all partOk=true):∀(pre:List S46) (out:List S46) (p:Int),(pre ++ suf).length≤1048576→out.length≤pre.length→0≤p→p+2000*suf.length≤1000000000000 →
 Ev (fun k=>Zy.l0 k a b out p (pre ++ suf) ((pre ++ suf).length:Int) (pre.length:Int)) (out ++ cutL a b p suf):=by
 induction suf with
 | nil=>
   intro pre out p _ _ _ _
   refine ev_step (f:=fun _=>some _) (Ev.now _) (fun k=>?_)
   rw[Zy.l0,if_neg (by simp)];simp[cutL]
 | cons x suf ih=>
   intro pre out p hl ho h0 h1
   simp only[List.all_cons,Bool.and_eq_true]at hs
   obtain⟨o1,o2,o3,o4,o5,o6⟩:=ok_len hs.1
   have hx:len1 x=x.f2-x.f1:=rfl
   have hlp:pre.length+(suf.length+1)≤1048576:=by simpa using hl
   have hl':(pre.length:Int)<((pre ++ x :: suf).length:Int):=by simp;omega
   have hb0:out.length≤pre.length+1:=by omega
   have q0:(0:Int)≤(pre.length:Int):=by omega
   have q1:out.length<5864062014805:=by omega
   have hb1:∀z:S46,(out ++ [z]).length≤pre.length+1:=fun z=>by simp;omega
   have hw:wrap64 ((pre.length:Int)+1)=(pre.length:Int)+1:=wrapS (by omega) (by omega)
   simp only[List.length_cons]at h1
   have IH:=fun o2 (ho2:o2.length≤pre.length+1)=>ih hs.2 (pre ++ [x]) o2 (p+len1 x) (by rw[snoc_app];exact hl) (by simpa using ho2) (by omega) (by omega)
   simp only[snoc_app,snoc_leni]at IH
   have e1:wrap64 (wrap64 (p+x.f2)-x.f1)=p+len1 x:=by rw[wrapS (x:=p+x.f2) (by omega) (by omega),wrapS (by omega) (by omega)];omega
   have e4:wrap64 (p+wrap64 (x.f2-x.f1))=p+len1 x:=by rw[wrapS (x:=x.f2-x.f1) (by omega) (by omega),wrapS (by omega) (by omega)];omega
   have e2:wrap64 (wrap64 (x.f1+max p a)-p)=x.f1+max p a-p:=by rw[wrapS (x:=x.f1+max p a) (by omega) (by omega),wrapS (by omega) (by omega)]
   have e3:wrap64 (wrap64 (x.f1+min (p+len1 x) b)-p)=x.f1+min (p+len1 x) b-p:=by rw[wrapS (x:=x.f1+min (p+len1 x) b) (by omega) (by omega),wrapS (by omega) (by omega)]
   by_cases c:max p a<min (p+len1 x) b
   · refine ev_step (ev_eq (IH (out ++ [⟨x.f0,x.f1+max p a-p,x.f1+min (p+len1 x) b-p⟩]) (hb1 _)) (by rw[cutL,if_pos c,List.append_assoc];rfl)) (fun k=>?_)
     rw[Zy.l0,if_pos hl',if_pos q0,if_pos hl',rdP_mid,l1Most_max,Option.bind_some,e1,l1Least_min,Option.bind_some,if_pos c,if_pos q1,e2,e3,e4,hw]
   · refine ev_step (ev_eq (IH out hb0) (by rw[cutL,if_neg c])) (fun k=>?_)
     rw[Zy.l0,if_pos hl',if_pos q0,if_pos hl',rdP_mid,l1Most_max,Option.bind_some,e1,l1Least_min,Option.bind_some,if_neg c,e4,hw]
theorem edHas_ok (l:List S46) (s:Int) (h:l.length≤1048576):Ev (fun k=>ZW.f k l s) (partsGood l && decide (0≤s∧s<total l)):=by
 refine Ev.bind (edGood_ok l h) ?_
 cases g:partsGood l with
 | false=>exact ev_of_eq (fun _=>by simp)
 | true=>
   obtain⟨g1,g2,g3,g4,g5⟩:=good_parts g
   simp only[if_true]
   refine Ev.bind (edLength_ok l h) (ev_of_eq (fun _=>?_))
   rw[g5,wrapS (by omega) (by omega),l1In_ok,Option.bind_some,Bool.true_and]
   congr 1;exact decide_eq_decide.2 (by omega)
theorem implSrcAt_l0 (suf:List S46) (hs:suf.all partOk=true):∀(pre:List S46) (s:Int),(pre ++ suf).length≤1048576→0≤s→s≤1000000000000000000 →
 Ev (fun k=>Zq.l0 k s (pre ++ suf) ((pre ++ suf).length:Int) (pre.length:Int)) (if s<total suf then((at_ suf s).1,(at_ suf s).2,true) else(0,0,false)):=by
 induction suf with
 | nil=>
   intro pre s _ h0 _
   refine ev_step (f:=fun _=>some _) (Ev.now _) (fun k=>?_)
   rw[Zq.l0,if_neg (by simp),total,if_neg (by omega)]
 | cons x suf ih=>
   intro pre s hl h0 h1
   simp only[List.all_cons,Bool.and_eq_true]at hs
   obtain⟨o1,o2,o3,o4,o5,o6⟩:=ok_len hs.1
   have hx:len1 x=x.f2-x.f1:=rfl
   have ht:=(total_ge hs.2).1
   have hlp:pre.length+(suf.length+1)≤1048576:=by simpa using hl
   have hl':(pre.length:Int)<((pre ++ x :: suf).length:Int):=by simp;omega
   have hw:wrap64 ((pre.length:Int)+1)=(pre.length:Int)+1:=wrapS (by omega) (by omega)
   have e1:wrap64 (x.f2-x.f1)=len1 x:=wrapS (by omega) (by omega)
   by_cases c:s<len1 x
   · refine ev_step (f:=fun _=>some _) (Ev.now _) (fun k=>?_)
     rw[Zq.l0,if_pos hl',if_pos (by omega),if_pos hl',rdP_mid,e1,if_pos c,wrapS (by omega) (by omega),total,if_pos (by omega),at_,if_pos c]
   · have IH:=ih hs.2 (pre ++ [x]) (s-len1 x) (by rw[snoc_app];exact hl) (by omega) (by omega)
     rw[snoc_app,snoc_leni]at IH
     refine ev_step (ev_eq IH ?_) (fun k=>?_)
     · rw[total,at_,if_neg c]
       by_cases d:s-len1 x<total suf
       · rw[if_pos d,if_pos (by omega)]
       · rw[if_neg d,if_neg (by omega)]
     · rw[Zq.l0,if_pos hl',if_pos (by omega),if_pos hl',rdP_mid,e1,if_neg c,wrapS (x:=s-len1 x) (by omega) (by omega),hw]
theorem implSrcAt_ok (l:List S46) (s:Int) (h:l.length≤1048576) (hs:s≤1000000000000000000):Ev (fun k=>Zq.f k l s) (srcAtR l s):=by
 refine Ev.bind (isEd_ok l h) ?_
 have J:Ev (fun k=>Zq.j0 k l s true) (0,0,false):=ev_step (f:=fun _=>some _) (Ev.now _) (fun k=>by rw[Zq.j0,if_pos rfl])
 cases g:partsGood l with
 | false=>
   simp only[Bool.false_eq_true,if_false]
   exact ev_eq J (by rw[srcAtR,if_neg (fun q=>by rw[g]at q;exact Bool.false_ne_true q.1)])
 | true=>
   simp only[if_true]
   obtain⟨g1,g2,g3,g4,g5⟩:=good_parts g
   by_cases c:s<0
   · rw[decide_eq_true c]
     exact ev_eq J (by rw[srcAtR,if_neg (fun q=>by omega)])
   · rw[decide_eq_false c]
     have:=implSrcAt_l0 l g1 [] s (by simpa using h) (by omega) hs
     simp only[List.nil_append,List.length_nil,Int.natCast_zero]at this
     refine ev_step (ev_eq this ?_) (fun k=>by rw[Zq.j0,if_neg (by simp)])
     by_cases d:s<total l
     · rw[if_pos d,srcAtR,if_pos ⟨g,by omega,d⟩]
     · rw[if_neg d,srcAtR,if_neg (fun q=>d q.2.2)]
theorem edSource_l0 (suf:List S46) (hs:suf.all partOk=true):∀(pre:List S46) (s:Int),(pre ++ suf).length≤1048576→0≤s→s<total suf→s≤1000000000000000000 →
 ∃i:Int,Ev (fun k=>ZM.l0 k (pre ++ suf) s (pre.length:Int)) (i,(at_ suf s).2)∧0≤i∧i<((pre ++ suf).length:Int)∧(rd_T46 (pre ++ suf) i).f0=(at_ suf s).1:=by
 induction suf with
 | nil=>intro pre s _ h0 h1 _;simp only[total]at h1;omega
 | cons x suf ih=>
   intro pre s hl h0 ht h1
   simp only[List.all_cons,Bool.and_eq_true]at hs
   obtain⟨o1,o2,o3,o4,o5,o6⟩:=ok_len hs.1
   have hx:len1 x=x.f2-x.f1:=rfl
   have hlp:pre.length+(suf.length+1)≤1048576:=by simpa using hl
   have hl':(pre.length:Int)<((pre ++ x :: suf).length:Int):=by simp;omega
   have hw:wrap64 ((pre.length:Int)+1)=(pre.length:Int)+1:=wrapS (by omega) (by omega)
   have e1:wrap64 (x.f2-x.f1)=len1 x:=wrapS (by omega) (by omega)
   by_cases c:s<len1 x
   · refine⟨(pre.length:Int),ev_step (f:=fun _=>some _) (Ev.now _) (fun k=>?_),by omega,hl',?_⟩
     · rw[ZM.l0,if_pos (by omega),if_pos hl',rdP_mid,e1,if_neg (by omega),wrapS (by omega) (by omega),at_,if_pos c]
     · rw[rdP_mid,at_,if_pos c]
   · rw[total]at ht
     obtain⟨i,e,i0,i1,i2⟩:=ih hs.2 (pre ++ [x]) (s-len1 x) (by rw[snoc_app];exact hl) (by omega) (by omega) (by omega)
     rw[snoc_app,snoc_leni]at e
     rw[snoc_app]at i1 i2
     refine⟨i,ev_step (ev_eq e (by rw[at_,if_neg c])) (fun k=>?_),i0,i1,by rw[i2,at_,if_neg c]⟩
     rw[ZM.l0,if_pos (by omega),if_pos hl',rdP_mid,e1,if_pos (by omega),wrapS (x:=s-len1 x) (by omega) (by omega),hw]
theorem specSrcAt_ok (l:List S46) (s:Int) (h:l.length≤1048576) (hs:s≤1000000000000000000):Ev (fun k=>ZX.f k l s) (srcAtR l s):=by
 refine Ev.bind (edHas_ok l s h) ?_
 by_cases q:partsGood l=true∧0≤s∧s<total l
 · obtain⟨g,q0,q1⟩:=q
   obtain⟨i,e,i0,i1,i2⟩:=edSource_l0 l (good_parts g).1 [] s (by simpa using h) q0 q1 hs
   simp only[List.nil_append,List.length_nil,Int.natCast_zero]at e i1 i2
   rw[g,Bool.true_and,decide_eq_true (show 0≤s∧s<total l from⟨q0,q1⟩)]
   simp only[if_true]
   refine Ev.bind (Ev.congr (fun _=>rfl) e) (ev_of_eq (fun _=>?_))
   simp only
   rw[if_pos i0,if_pos i1,i2,srcAtR,if_pos ⟨g,q0,q1⟩]
 · have:(partsGood l && decide (0≤s∧s<total l))=false:=by
    cases g:partsGood l with
    | false=>rfl
    | true=>rw[Bool.true_and];exact decide_eq_false (fun z=>q ⟨g,z⟩)
   rw[this]
   simp only[Bool.false_eq_true,if_false]
   exact ev_of_eq (fun _=>by rw[srcAtR,if_neg q])

theorem glueP_snoc (x y:S46):∀pre:List S46,glueP (pre ++ [y]) x=if y.f0=x.f0∧y.f2=x.f1 then pre ++ [(⟨y.f0,y.f1,x.f2⟩:S46)] else pre ++ [y] ++ [x]
 | []=>by rw[List.nil_append,glueP];split<;>rfl
 | [z]=>by
   show z :: glueP [y] x=_
   rw[glueP];split<;>rfl
 | z :: w :: pre=>by
   show z :: glueP ((w :: pre) ++ [y]) x=_
   rw[glueP_snoc x y (w :: pre)];split<;>rfl
theorem last_set (pre:List S46) (y z:S46):(pre ++ [y]).set ((pre.length:Int)).toNat z=pre ++ [z]:=by
 rw[Int.toNat_natCast,List.set_append_right _ _ (Nat.le_refl _),Nat.sub_self];rfl
theorem implShort_l0 (suf:List S46):∀(pre out:List S46),(pre ++ suf).length≤1048576→out.length≤pre.length →
 Ev (fun k=>ZE.l0 k out (pre ++ suf) ((pre ++ suf).length:Int) (pre.length:Int)) (suf.foldl glueP out,true):=by
 induction suf with
 | nil=>
   intro pre out _ _
   refine ev_step (f:=fun _=>some _) (Ev.now _) (fun k=>?_)
   rw[ZE.l0,if_neg (by simp)];rfl
 | cons x suf ih=>
   intro pre out hl ho
   have hlp:pre.length≤1048576:=by simp at hl;omega
   have hl':(pre.length:Int)<((pre ++ x :: suf).length:Int):=by simp;omega
   have hp0:(0:Int)≤(pre.length:Int):=Int.natCast_nonneg _
   have hw:wrap64 ((pre.length:Int)+1)=(pre.length:Int)+1:=wrapS (by omega) (by omega)
   have hol:out.length<5864062014805:=by omega
   rcases List.eq_nil_or_concat out with rfl | ⟨q,y,rfl⟩
   · have h:=ih (pre ++ [x]) [x] (by simp at hl ⊢;omega) (by simp)
     rw[snoc_app,snoc_leni]at h
     refine ev_step h (fun k=>?_)
     have hm:wrap64 ((([]:List S46).length:Int)-1) = -1:=by rw[wrapS (by simp) (by simp)];rfl
     rw[ZE.l0,if_pos hl',if_pos hp0,if_pos hl',rdP_mid,hm,if_neg (by decide),if_pos hol,hw]
     rfl
   · rw[List.concat_eq_append]at ho hol ⊢
     have hql:(q ++ [y]).length=q.length+1:=by simp
     have hm:wrap64 (((q ++ [y]).length:Int)-1)=(q.length:Int):=by rw[hql,wrapS (by omega) (by omega)];omega
     have hq0:(q.length:Int)≥0:=Int.natCast_nonneg _
     have hq1:(0:Int)≤(q.length:Int):=hq0
     have hq2:(q.length:Int)<((q ++ [y]).length:Int):=by rw[hql];omega
     have hrd:rd_T46 (q ++ [y]) (q.length:Int)=y:=rdP_mid q [] y
     have h:=ih (pre ++ [x]) (glueP (q ++ [y]) x) (by simp at hl ⊢;omega) (by
      rw[glueP_snoc];split<;>simp<;>omega)
     rw[snoc_app,snoc_leni]at h
     refine ev_step h (fun k=>?_)
     rw[ZE.l0,if_pos hl',if_pos hp0,if_pos hl',rdP_mid,hm,if_pos hq0,if_pos hq1,if_pos hq2,hrd,hw,last_set,glueP_snoc]
     by_cases c1:y.f0=x.f0
     · by_cases c2:y.f2=x.f1
       · rw[if_pos c1,if_pos c2,if_pos ⟨c1,c2⟩]
       · rw[if_pos c1,if_neg c2,if_pos hol,if_neg (fun e=>c2 e.2)]
     · rw[if_neg c1,if_pos hol,if_neg (fun e=>c1 e.1)]
theorem specShort_l0 (suf:List S46):∀(pre out:List S46),(pre ++ suf).length≤1048576→out.length≤pre.length →
 Ev (fun k=>ZF.l0 k out (pre ++ suf) ((pre ++ suf).length:Int) (pre.length:Int)) (suf.foldl glueP out,true):=by
 induction suf with
 | nil=>
   intro pre out _ _
   refine ev_step (f:=fun _=>some _) (Ev.now _) (fun k=>?_)
   rw[ZF.l0,if_neg (by simp)];rfl
 | cons x suf ih=>
   intro pre out hl ho
   have hlp:pre.length≤1048576:=by simp at hl;omega
   have hl':(pre.length:Int)<((pre ++ x :: suf).length:Int):=by simp;omega
   have hp0:(0:Int)≤(pre.length:Int):=Int.natCast_nonneg _
   have hw:wrap64 ((pre.length:Int)+1)=(pre.length:Int)+1:=wrapS (by omega) (by omega)
   have hol:out.length<5864062014805:=by omega
   rcases List.eq_nil_or_concat out with rfl | ⟨q,y,rfl⟩
   · have h:=ih (pre ++ [x]) [x] (by simp at hl ⊢;omega) (by simp)
     rw[snoc_app,snoc_leni]at h
     refine ev_step h (fun k=>?_)
     rw[ZF.l0,if_pos hl',if_pos hp0,if_pos hl',rdP_mid,if_neg (by simp),if_pos hol,hw]
     rfl
   · rw[List.concat_eq_append]at ho hol ⊢
     have hql:(q ++ [y]).length=q.length+1:=by simp
     have hm:wrap64 (((q ++ [y]).length:Int)-1)=(q.length:Int):=by rw[hql,wrapS (by omega) (by omega)];omega
     have hq1:(0:Int)≤(q.length:Int):=Int.natCast_nonneg _
     have hq2:(q.length:Int)<((q ++ [y]).length:Int):=by rw[hql];omega
     have hq3:((q ++ [y]).length:Int)>0:=by rw[hql];omega
     have hrd:rd_T46 (q ++ [y]) (q.length:Int)=y:=rdP_mid q [] y
     have h:=ih (pre ++ [x]) (glueP (q ++ [y]) x) (by simp at hl ⊢;omega) (by
      rw[glueP_snoc];split<;>simp<;>omega)
     rw[snoc_app,snoc_leni]at h
     refine ev_step h (fun k=>?_)
     rw[ZF.l0,if_pos hl',if_pos hp0,if_pos hl',rdP_mid,if_pos hq3,hm,if_pos hq1,if_pos hq2,hrd,hw,last_set,glueP_snoc]
     by_cases c1:y.f0=x.f0
     · by_cases c2:y.f2=x.f1
       · rw[if_pos c1,if_pos c2,if_pos ⟨c1,c2⟩]
       · rw[if_pos c1,if_neg c2,if_pos hol,if_neg (fun e=>c2 e.2)]
     · rw[if_neg c1,if_pos hol,if_neg (fun e=>c1 e.1)]
def shortsR (l:List S46):List S46×Bool:=if partsGood l=true then(shortR l,true) else([],false)
theorem implShort_ok (l:List S46) (h:l.length≤1048576):Ev (fun k=>ZE.f k l) (shortsR l):=by
 refine Ev.bind (isEd_ok l h) ?_
 cases g:partsGood l with
 | false=>exact ev_of_eq (fun _=>by simp only[shortsR,g,Bool.false_eq_true,if_false])
 | true=>
   simp only[if_true]
   exact ev_eq (by simpa using implShort_l0 l [] [] (by simpa using h) (by simp)) (by simp only[shortsR,g,if_true];rfl)
theorem specShort_ok (l:List S46) (h:l.length≤1048576):Ev (fun k=>ZF.f k l) (shortsR l):=by
 refine Ev.bind (edGood_ok l h) ?_
 cases g:partsGood l with
 | false=>exact ev_of_eq (fun _=>by simp only[shortsR,g,Bool.false_eq_true,if_false])
 | true=>
   simp only[if_true]
   exact ev_eq (by simpa using specShort_l0 l [] [] (by simpa using h) (by simp)) (by simp only[shortsR,g,if_true];rfl)

end Go.Proofs.YtcnegcdmmackeaaGreat.LFnEditionsC
