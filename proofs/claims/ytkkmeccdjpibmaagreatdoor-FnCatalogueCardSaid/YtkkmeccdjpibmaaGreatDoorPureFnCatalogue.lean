/- For every input the law FnCatalogue answers true, after some number of rounds; the conditions are the input's own bounds. -/
import Derived.Test.YtkkmeccdjpibmaaGreatDoorQFnCataloguex19
import Derived.Test.YtkkmeccdjpibmaaGreatDoorBaseC
import Derived.Test.YtkkmeccdjpibmaaGreatDoorLFnCatalogueA
import Derived.Test.YtkkmeccdjpibmaaGreatDoorLFnCatalogueB
import Derived.Test.YtkkmeccdjpibmaaGreatDoorLFnCatalogueC
namespace Go.Proofs.YtkkmeccdjpibmaaGreatDoor.Pure
open Go Go.RowKit Go.Proofs.YtkkmeccdjpibmaaGreatDoor.QFnCatalogue Go.Proofs.YtkkmeccdjpibmaaGreatDoorW.PrintWords Go.Proofs.YtkkmeccdjpibmaaGreatDoorW.PrintLast Go.Proofs.YtkkmeccdjpibmaaGreatDoorW.PrintMore Go.Proofs.YtkkmeccdjpibmaaGreatDoor.Base Go.Proofs.YtkkmeccdjpibmaaGreatDoor.LFnCatalogueA Go.Proofs.YtkkmeccdjpibmaaGreatDoor.LFnCatalogueB Go.Proofs.YtkkmeccdjpibmaaGreatDoor.LFnCatalogueC
set_option linter.unusedVariables false
set_option linter.unusedSimpArgs false

/-! the law of catalogues, join by join -/
theorem u8_bytes {l:List Int} (h:∀x∈l,(Lit.int .u8 x).wf=true):bytesOk l:=by
 intro x hx
 have:=h x hx
 simp[Lit.wf,IntKind.min,IntKind.max,IntKind.bits,IntKind.signed]at this
 omega
theorem ne2 (x:Bool):¬(x != x)=true:=by simp
theorem provR_good (l:List S47) (g:good l=true) (i:Int) (h0:0≤i) (h1:i<l.length):provR l i=(way l i,true):=by
 rw[provR,if_pos];simp[hasRoll,g];exact⟨h0,h1⟩
theorem copiesR_good (l:List S47) (g:good l=true) (i:Int) (h0:0≤i) (h1:i<l.length):copiesR l i=(copies l i l.length 0,true):=by
 rw[copiesR,if_pos];simp[hasRoll,g];exact⟨h0,h1⟩
theorem law_l2 (l:List S47) (g:good l=true) (hz:∀x∈l,x.f0.size≤1048576∧x.f1.size≤1048576) (G M:List Int) (i:Int) (h0:0≤i) (h1:i<l.length)
 (hM:M.length≤1048576) (hm:i∈M→rd G i=0) (hG:G.length=l.length)
 (hnext:Ev (fun k=>laws_FnCatalogue.l1 k l G M l (l.length:Int) (i+1)) true) (d:Nat):∀j:Int,0≤j→j+d=l.length →
 Ev (fun k=>laws_FnCatalogue.l2 k l G M i (copies l i l.length 0) l (l.length:Int) i (l.length:Int) j) true:=by
 have hl:=good_len g
 have hw:wrap64 (i+1)=i+1:=wrapS (by omega) (by omega)
 induction d with
 | zero=>
   intro j hj he
   obtain⟨K1,e1⟩:=qHas_ok M i hM
   obtain⟨K2,e2⟩:=hnext
   refine⟨K1+K2+1,fun k hk=>?_⟩
   obtain⟨q,rfl⟩:∃q,k=q+1:=⟨k-1,by omega⟩
   have e1:=e1 q (by omega)
   have e2:=e2 q (by omega)
   dsimp only at e1 e2 ⊢
   rw[laws_FnCatalogue.l2,if_neg (by omega),e1,Option.bind_some]
   by_cases c:i∈M
   · rw[if_pos (decide_eq_true c),if_pos h0,if_pos (by omega),if_pos (hm c),hw];exact e2
   · rw[if_neg (by simpa using c),hw];exact e2
 | succ d ih=>
   intro j hj he
   have cl:=copies_len l i l.length 0
   have wl:=way_len l j
   obtain⟨K1,e1⟩:=specProvenanceOf_ok l j (by omega) hz
   obtain⟨K2,e2⟩:=qHas_ok (copies l i l.length 0) j (by omega)
   obtain⟨K3,e3⟩:=qHas_ok (way l j) i (by omega)
   obtain⟨K4,e4⟩:=ih (j+1) (by omega) (by omega)
   have hj1:wrap64 (j+1)=j+1:=wrapS (by omega) (by omega)
   have hc:=copies_mem l i l.length 0 j
   rw[provR_good l g j hj (by omega)]at e1
   refine⟨K1+K2+K3+K4+1,fun k hk=>?_⟩
   obtain⟨q,rfl⟩:∃q,k=q+1:=⟨k-1,by omega⟩
   have e1:=e1 q (by omega)
   have e2:=e2 q (by omega)
   have e3:=e3 q (by omega)
   have e4:=e4 q (by omega)
   dsimp only at e1 e2 e3 e4 ⊢
   rw[laws_FnCatalogue.l2,if_pos (by omega),e1,Option.bind_some,if_pos rfl,e2,Option.bind_some,hj1]
   by_cases c:j=i
   · rw[if_pos c,decide_eq_false (fun z=>(hc.1 z).2.2.1 c),if_neg (by simp)];exact e4
   · rw[if_neg c,e3,Option.bind_some,show decide (j∈copies l i l.length 0)=decide (i∈way l j) from decide_eq_decide.2 ⟨fun z=>(hc.1 z).2.2.2,fun z=>hc.2 ⟨by omega,by omega,c,z⟩⟩,if_neg (ne2 _)];exact e4
theorem law_l1 (l:List S47) (g:good l=true) (hz:∀x∈l,x.f0.size≤1048576∧x.f1.size≤1048576) (d:Nat):∀i:Int,0≤i→i+d=l.length →
 Ev (fun k=>laws_FnCatalogue.l1 k l (gens l l.length 0) (firsts (minY l 3000) 0 l) l (l.length:Int) i) true:=by
 have hl:=good_len g
 induction d with
 | zero=>intro i _ he;exact ev_step ev_const (fun k=>by rw[laws_FnCatalogue.l1,if_neg (by omega)])
 | succ d ih=>
   intro i h0 he
   have h1:i<l.length:=by omega
   have cl:=copies_len l i l.length 0
   have fl:=firsts_len (minY l 3000) l 0
   have wl:=way_len l i
   have hs:=good_src g i h0 h1
   have hway:=way_cons l g i h0 h1
   obtain⟨pre,z,hend,z0,z1,z2⟩:=way_end l g (i.toNat+1) i (by omega) h0 h1
   have hget:rd (gens l l.length 0) i=((way l i).length:Int)-1:=by
    have:=gens_get l l.length 0 i.toNat (by omega)
    rw[show((i.toNat:Nat):Int)=i by omega,show((0+i.toNat:Nat):Int)=i by omega]at this
    exact this
   have hm:i∈firsts (minY l 3000) 0 l→rd (gens l l.length 0) i=0:=by
    intro q
    have h2:=firsts_mem (minY l 3000) l [] i q
    rw[List.nil_append]at h2
    rw[hget,hway,way_neg l _ h2];rfl
   obtain⟨K1,e1⟩:=implProvenanceOf_ok l i (by omega) hz
   obtain⟨K2,e2⟩:=specProvenanceOf_ok l i (by omega) hz
   obtain⟨K3,e3⟩:=implCopiesOf_ok l i (by omega) hz
   obtain⟨K4,e4⟩:=specCopiesOf_ok l i (by omega) hz
   obtain⟨K5,e5⟩:=qInts_same (way l i) (by omega)
   obtain⟨K6,e6⟩:=qInts_same (copies l i l.length 0) (by omega)
   obtain⟨K7,e7⟩:=law_l2 l g hz (gens l l.length 0) (firsts (minY l 3000) 0 l) i h0 h1 (by omega) hm (gens_len l _ _) (ih (i+1) (by omega) (by omega)) l.length 0 (by omega) (by omega)
   rw[provR_good l g i h0 h1]at e1 e2
   rw[copiesR_good l g i h0 h1]at e3 e4
   have n0:0<(way l i).length:=by rw[hway];simp
   have f0:rd (way l i) 0=i:=by rw[hway];rfl
   have hlen:wrap64 (((way l i).length:Int)-1)=(pre.length:Int):=by rw[wrapS (by omega) (by omega),hend];simp
   have flast:rd (way l i) (pre.length:Int)=z:=by rw[hend];exact rd_mid pre [] z
   have hpl:pre.length<(way l i).length:=by rw[hend];simp
   have hgl:(gens l l.length 0).length=l.length:=gens_len l _ _
   have hw1:wrap64 (rd (gens l l.length 0) i+1)=((way l i).length:Int):=by rw[hget,wrapS (by omega) (by omega)];omega
   have f1:(way l i).length>1→rd (way l i) 1=(rd_T47 l i).f3:=by
    intro q
    rw[hway]at q ⊢
    by_cases c:(rd_T47 l i).f3<0
    · rw[way_neg l _ c]at q;simp at q
    · rw[way_cons l g _ (by omega) (by omega)];rfl
   refine⟨K1+K2+K3+K4+K5+K6+K7+2,fun k hk=>?_⟩
   obtain⟨q,rfl⟩:∃q,k=q+2:=⟨k-2,by omega⟩
   have e1:=e1 (q+1) (by omega)
   have e2:=e2 (q+1) (by omega)
   have e3:=e3 (q+1) (by omega)
   have e4:=e4 (q+1) (by omega)
   have e5:=e5 (q+1) (by omega)
   have e6:=e6 (q+1) (by omega)
   have e7:=e7 q (by omega)
   dsimp only at e1 e2 e3 e4 e5 e6 e7 ⊢
   have hj6:laws_FnCatalogue.j6 (q+1) l (gens l l.length 0) (firsts (minY l 3000) 0 l) i (copies l i l.length 0) l (l.length:Int) i false=some true:=by
    rw[laws_FnCatalogue.j6,if_neg (by simp)];exact e7
   rw[laws_FnCatalogue.l1,if_pos (by omega),if_pos h0,if_pos h1,e1,Option.bind_some,e2,Option.bind_some,e3,Option.bind_some,e4,Option.bind_some,if_pos rfl,if_pos rfl,e5,Option.bind_some,if_pos rfl,if_pos rfl,if_pos rfl,e6,Option.bind_some,if_pos rfl]
   dsimp only
   rw[if_pos (by omega),hw1,if_pos rfl,if_pos (by omega),f0,if_pos rfl,hlen,if_pos (by omega),if_pos (by omega),flast,if_pos z0,if_pos z1,if_pos z2]
   by_cases c:(way l i).length>1
   · rw[if_pos (by omega),if_pos (by omega),f1 c,show((rd_T47 l i).f3 != (rd_T47 l i).f3)=false by simp];exact hj6
   · rw[if_neg (by omega)];exact hj6
theorem law_j3 (l:List S47) (hl:l.length≤31) (hz:∀x∈l,x.f0.size≤1048576∧x.f1.size≤1048576):Ev (fun k=>laws_FnCatalogue.j3 k l (textR l).1 (textR l).2 (genR l).1 (mastersR l).1) true:=by
 cases g:good l with
 | false=>exact ev_step ev_const (fun k=>by rw[laws_FnCatalogue.j3,if_neg (by simp[textR,g])])
 | true=>
   have ht:=text_size l g
   obtain⟨K1,e1⟩:=implParse_ok (ofL (textC l)) (by omega)
   obtain⟨K2,e2⟩:=qRolls_same l (by omega)
   obtain⟨K3,e3⟩:=law_l1 l g hz l.length 0 (by omega) (by omega)
   rw[data_ofL,parse_same,text_read l g]at e1
   refine⟨K1+K2+K3+2,fun k hk=>?_⟩
   obtain⟨q,rfl⟩:∃q,k=q+2:=⟨k-2,by omega⟩
   have e1:=e1 (q+1) (by omega)
   have e2:=e2 (q+1) (by omega)
   have e3:=e3 q (by omega)
   dsimp only at e1 e2 e3 ⊢
   rw[show textR l=(ofL (textC l),true) by rw[textR,if_pos g],show genR l=(gens l l.length 0,true) by rw[genR,if_pos g],show mastersR l=(firsts (minY l 3000) 0 l,true) by rw[mastersR,if_pos g]]
   dsimp only
   rw[laws_FnCatalogue.j3,if_pos rfl,e1,Option.bind_some,if_pos rfl,e2,Option.bind_some,Bool.not_true,laws_FnCatalogue.j4,if_neg (by simp)]
   exact e3
theorem law_l0 (l:List S47) (hl:l.length≤31) (hz:∀x∈l,x.f0.size≤1048576∧x.f1.size≤1048576) (c:Int) (b:List Int) (hb:b.length≤1048576) (suf:List Int):∀pre:List Int,(pre ++ suf).length≤1048576→(∀n∈suf,n>c→n ∉ b) →
 Ev (fun k=>laws_FnCatalogue.l0 k l (textR l).1 (textR l).2 (genR l).1 (mastersR l).1 c b (pre ++ suf) ((pre ++ suf).length:Int) (pre.length:Int)) true:=by
 induction suf with
 | nil=>
   intro pre _ _
   exact ev_step (law_j3 l hl hz) (fun k=>by rw[laws_FnCatalogue.l0,if_neg (by simp)])
 | cons x suf ih=>
   intro pre hp hn
   have h:=ih (pre ++ [x]) (by simp at hp ⊢;omega) (fun n q=>hn n (by simp[q]))
   rw[snoc_app,snoc_leni]at h
   obtain⟨K1,e1⟩:=h
   obtain⟨K2,e2⟩:=qHas_ok b x hb
   have hl':(pre.length:Int)<((pre ++ x :: suf).length:Int):=by simp;omega
   have hw:wrap64 ((pre.length:Int)+1)=(pre.length:Int)+1:=wrapS (by omega) (by simp at hp;omega)
   refine⟨K1+K2+1,fun k hk=>?_⟩
   obtain⟨q,rfl⟩:∃q,k=q+1:=⟨k-1,by omega⟩
   have e1:=e1 q (by omega)
   have e2:=e2 q (by omega)
   dsimp only at e1 e2 ⊢
   rw[laws_FnCatalogue.l0,if_pos hl',if_pos (by omega),if_pos hl',rd_mid,hw]
   by_cases d:x>c
   · rw[if_pos d,e2,Option.bind_some,if_neg (by simpa using hn x (by simp) d)];exact e1
   · rw[if_neg d];exact e1
theorem law_j0 (l:List S47) (hl:l.length≤31) (hz:∀x∈l,x.f0.size≤1048576∧x.f1.size≤1048576) (a:List S47) (ha:a.length≤31) (hy:∀x∈a,x.f0.size≤1048576∧x.f1.size≤1048576) (i j:Int) :
 Ev (fun k=>laws_FnCatalogue.j0 k l (textR l).1 (textR l).2 (genR l).1 (mastersR l).1 a i j (commonR a i j).2 (commonR a i j).1 false) true:=by
 by_cases c:(commonR a i j).2=true
 · have hb:hasRoll a i=true∧hasRoll a j=true:=by
    apply Classical.byContradiction
    intro q
    rw[commonR,if_neg q]at c;cases c
   obtain⟨g,i0,i1⟩:=hasRoll_of hb.1
   obtain⟨_,j0,j1⟩:=hasRoll_of hb.2
   have e:common (way a j) (way a i)=((commonR a i j).1,true):=by
    rw[commonR,if_pos hb]at c ⊢
    exact Prod.ext rfl c
   generalize hcv:(commonR a i j).1=v at e
   have w1:=way_len a i
   have w2:=way_len a j
   have d1:=way_dec a g i i1
   have d2:=way_dec a g j j1
   obtain⟨m1,m2,m3⟩:=common_is _ _ _ e d1
   have e':=common_sym _ _ d1 d2 _ e
   obtain⟨K1,e1⟩:=implProvenanceOf_ok a i (by omega) hy
   obtain⟨K2,e2⟩:=implProvenanceOf_ok a j (by omega) hy
   obtain⟨K3,e3⟩:=specProvenanceOf_ok a i (by omega) hy
   obtain⟨K4,e4⟩:=specProvenanceOf_ok a j (by omega) hy
   obtain⟨K5,e5⟩:=implCommonSource_ok a j i (by omega) hy
   obtain⟨K6,e6⟩:=qInts_same (way a i) (by omega)
   obtain⟨K7,e7⟩:=qInts_same (way a j) (by omega)
   obtain⟨K8,e8⟩:=qHas_ok (way a i) v (by omega)
   obtain⟨K9,e9⟩:=qHas_ok (way a j) v (by omega)
   obtain⟨K10,e10⟩:=law_l0 l hl hz v (way a j) (by omega) (way a i) [] (by simp;omega) m3
   rw[provR_good a g i i0 i1]at e1 e3
   rw[provR_good a g j j0 j1]at e2 e4
   rw[show commonR a j i=(v,true) by rw[commonR,if_pos ⟨hb.2,hb.1⟩,e']]at e5
   rw[decide_eq_true m1]at e8
   rw[decide_eq_true m2]at e9
   refine⟨K1+K2+K3+K4+K5+K6+K7+K8+K9+K10+2,fun k hk=>?_⟩
   obtain⟨q,rfl⟩:∃q,k=q+2:=⟨k-2,by omega⟩
   have e1:=e1 (q+1) (by omega)
   have e2:=e2 (q+1) (by omega)
   have e3:=e3 (q+1) (by omega)
   have e4:=e4 (q+1) (by omega)
   have e5:=e5 (q+1) (by omega)
   have e6:=e6 (q+1) (by omega)
   have e7:=e7 (q+1) (by omega)
   have e8:=e8 (q+1) (by omega)
   have e9:=e9 (q+1) (by omega)
   have e10:=e10 q (by omega)
   dsimp only at e1 e2 e3 e4 e5 e6 e7 e8 e9 e10 ⊢
   rw[laws_FnCatalogue.j0,if_neg (by simp),if_pos c,e1,Option.bind_some,e2,Option.bind_some,e3,Option.bind_some,e4,Option.bind_some,e5,Option.bind_some,if_pos rfl,if_pos rfl,if_pos rfl,if_pos rfl,e6,Option.bind_some,if_pos rfl,e7,Option.bind_some,if_pos rfl,if_pos rfl,if_pos rfl,e8,Option.bind_some,if_pos rfl,e9,Option.bind_some,Bool.not_true,laws_FnCatalogue.j1,if_neg (by simp)]
   exact e10
 · exact ev_step (law_j3 l hl hz) (fun k=>by rw[laws_FnCatalogue.j0,if_neg (by simp),if_neg c])
set_option maxHeartbeats 4000000 in
theorem FnCatalogue:laws_FnCatalogue.Pure:=by
 intro l0 l1 hm0 hb0 hw0 hm1 hb1 hw1
 by_cases big:(wrap64 ((l0.length:Int)+(l1.length:Int)))>1048576
 · exact⟨0,by rw[laws_FnCatalogue.f,if_pos big]⟩
 obtain⟨l,⟨K1,e1⟩,hl,hs⟩:=drawCat_ok (u8_bytes hw0)
 obtain⟨a,i,j,⟨K2,e2⟩,ha,hs2⟩:=drawCommon_ok (u8_bytes hw1)
 obtain⟨t,⟨K3,e3⟩,ht⟩:=drawText_ok (u8_bytes hw1)
 have hz:∀x∈l,x.f0.size≤1048576∧x.f1.size≤1048576:=fun x q=>by have:=hs x q;unfold tiny at this;omega
 have hy:∀x∈a,x.f0.size≤1048576∧x.f1.size≤1048576:=fun x q=>by have:=hs2 x q;unfold tiny at this;omega
 obtain⟨K4,e4⟩:=implText_ok l (by omega) hz
 obtain⟨K5,e5⟩:=specText_ok l (by omega) hz
 obtain⟨K6,e6⟩:=implGenerationsOf_ok l (by omega) hz
 obtain⟨K7,e7⟩:=specGenerationsOf_ok l (by omega) hz
 obtain⟨K8,e8⟩:=implFirstMasters_ok l (by omega) hz
 obtain⟨K9,e9⟩:=specFirstMasters_ok l (by omega) hz
 obtain⟨K10,e10⟩:=implMakersOf_ok l (by omega) hz
 obtain⟨K11,e11⟩:=specMakersOf_ok l (by omega) hz
 obtain⟨K12,e12⟩:=implCommonSource_ok a i j (by omega) hy
 obtain⟨K13,e13⟩:=specCommonSource_ok a i j (by omega) hy
 obtain⟨K14,e14⟩:=implParse_ok t ht
 obtain⟨K15,e15⟩:=specParse_ok t ht
 obtain⟨K16,e16⟩:=isCat_ok l (by omega) hz
 have n1:=genR_len l (by omega)
 have n2:=mastersR_len l (by omega)
 have n3:=makersR_len l (by omega)
 have n4:=specP_len t.data.toList
 obtain⟨K17,e17⟩:=qInts_same (genR l).1 (by omega)
 obtain⟨K18,e18⟩:=qInts_same (mastersR l).1 (by omega)
 obtain⟨K19,e19⟩:=qTexts_same (makersR l).1 (by omega)
 obtain⟨K20,e20⟩:=qRolls_same (specP t.data.toList).1 (by omega)
 obtain⟨K21,e21⟩:=law_j0 l hl hz a ha hy i j
 have q1:(textR l).2=good l:=by unfold textR;cases good l<;>rfl
 have q2:(genR l).2=good l:=by unfold genR;cases good l<;>rfl
 have q3:(mastersR l).2=good l:=by unfold mastersR;cases good l<;>rfl
 have q4:(makersR l).2=good l:=by unfold makersR;cases good l<;>rfl
 rw[parse_same]at e14
 dsimp only at e1 e2 e3 e4 e5 e6 e7 e8 e9 e10 e11 e12 e13 e14 e15 e16 e17 e18 e19 e20 e21
 refine⟨K1+K2+K3+K4+K5+K6+K7+K8+K9+K10+K11+K12+K13+K14+K15+K16+K17+K18+K19+K20+K21,?_⟩
 generalize hK:K1+K2+K3+K4+K5+K6+K7+K8+K9+K10+K11+K12+K13+K14+K15+K16+K17+K18+K19+K20+K21=k
 have e21:=e21 k (by omega)
 rw[laws_FnCatalogue.f,if_neg big,e1 k (by omega),Option.bind_some,e4 k (by omega),Option.bind_some,e5 k (by omega),Option.bind_some,e6 k (by omega),Option.bind_some,e7 k (by omega),Option.bind_some,e8 k (by omega),Option.bind_some,e9 k (by omega),Option.bind_some,e10 k (by omega),Option.bind_some,e11 k (by omega),Option.bind_some,e2 k (by omega),Option.bind_some]
 dsimp only
 rw[e12 k (by omega),Option.bind_some,e13 k (by omega),Option.bind_some,e3 k (by omega),Option.bind_some,e14 k (by omega),Option.bind_some,e15 k (by omega),Option.bind_some]
 rw[if_neg (ne2 _),if_pos rfl,if_neg (ne2 _),e17 k (by omega),Option.bind_some,if_pos rfl,if_neg (ne2 _),e18 k (by omega),Option.bind_some,if_pos rfl,if_neg (ne2 _),e19 k (by omega),Option.bind_some,if_pos rfl,if_neg (ne2 _),if_pos rfl,if_neg (ne2 _),e20 k (by omega),Option.bind_some,if_pos rfl,e16 k (by omega),Option.bind_some]
 rw[q2,q3,q4,if_neg (by rw[q1];exact ne2 _),if_neg (by rw[q1];exact ne2 _),if_neg (by rw[q1];exact ne2 _),show(good l != (textR l).2)=false by rw[q1];simp]
 exact e21

end Go.Proofs.YtkkmeccdjpibmaaGreatDoor.Pure
