/- For every input the law FnDifferences answers true, after some number of rounds; the conditions are the input's own bounds. -/
import Derived.Test.YtplpjmhmochcfaaGreatQFnDifferencesx17
import Derived.Test.YtplpjmhmochcfaaGreatBaseD
import Derived.Test.YtplpjmhmochcfaaGreatLFnDifferencesA
import Derived.Test.YtplpjmhmochcfaaGreatLFnDifferencesB
namespace Go.Proofs.YtplpjmhmochcfaaGreat.Pure
open Go Go.RowKit Go.Proofs.YtplpjmhmochcfaaGreat.QFnDifferences Go.Proofs.YtplpjmhmochcfaaGreatW.PrintWords Go.Proofs.YtplpjmhmochcfaaGreatW.PrintLast Go.Proofs.YtplpjmhmochcfaaGreatW.PrintMore Go.Proofs.YtplpjmhmochcfaaGreat.Base Go.Proofs.YtplpjmhmochcfaaGreat.LFnDifferencesA Go.Proofs.YtplpjmhmochcfaaGreat.LFnDifferencesB
set_option linter.unusedVariables false
set_option linter.unusedSimpArgs false

/-! the law of differences, join by join -/
theorem u8_bytes {l:List Int} (h:∀x∈l,(Lit.int .u8 x).wf=true):bytesOk l:=by
 intro x hx
 have:=h x hx
 simp[Lit.wf,IntKind.min,IntKind.max,IntKind.bits,IntKind.signed]at this
 omega
theorem ne2 (x:Bool):¬(x != x)=true:=by simp
theorem law_j6 {x1:List Int} (hb:bytesOk x1):Ev (fun k=>laws_FnDifferences.j6 k x1) true:=by
 obtain⟨a,g,f,⟨K1,e1⟩,ha,hg,hf⟩:=drawApply_ok hb
 obtain⟨K2,e2⟩:=implApply_ok a g f (by omega) (by omega) (by omega)
 obtain⟨K3,e3⟩:=specApply_ok a g f (by omega) (by omega) (by omega)
 obtain⟨K4,e4⟩:=sameHoles_ok (applyR a g f).1 (by have:=applyR_len a g f;omega)
 refine⟨K1+K2+K3+K4+1,fun k hk=>?_⟩
 obtain⟨q,rfl⟩:∃q,k=q+1:=⟨k-1,by omega⟩
 have e1:=e1 q (by omega)
 have e2:=e2 q (by omega)
 have e3:=e3 q (by omega)
 have e4:=e4 q (by omega)
 dsimp only at e1 e2 e3 e4 ⊢
 rw[laws_FnDifferences.j6,e1,Option.bind_some]
 dsimp only
 rw[e2,Option.bind_some,e3,Option.bind_some,if_pos (by simp),e4,Option.bind_some]
theorem law_l1 {x1:List Int} (hb:bytesOk x1) (l:List S40) (hl:l.length≤61) (gl:good l=true) (all:List (List S40)) (hall:all.length≤10) (hg:∀z∈all,good z=true∧z.length≤61) (n m:Int)
 (hn:∀(j:Nat) (h:j<all.length),m≤dist l (all[j]'h)∧(dist l (all[j]'h)=m→n≤(j:Int))∧((j:Int)=n→dist l (all[j]'h)=m)) (suf:List (List S40)):∀pre:List (List S40),all=pre ++ suf →
 Ev (fun k=>laws_FnDifferences.l1 k x1 l n m (pre ++ suf) ((pre ++ suf).length:Int) (pre.length:Int)) true:=by
 induction suf with
 | nil=>
   intro pre _
   exact ev_step (law_j6 hb) (fun k=>by rw[laws_FnDifferences.l1,if_neg (by simp)])
 | cons z suf ih=>
   intro pre he
   have hz:=hg z (by rw[he];simp)
   have hp:(pre ++ z :: suf).length≤10:=by rw[← he];exact hall
   have hj:pre.length<all.length:=by rw[he];simp
   have hzj:all[pre.length]'hj=z:=by simp[he]
   obtain⟨n1,n2,n3⟩:=hn pre.length hj
   rw[hzj]at n1 n2 n3
   obtain⟨K1,e1⟩:=implDist_ok l z (by omega) (by omega)
   have hd:distR l z=(dist l z,true):=by rw[distR,gl,hz.1];rfl
   rw[hd]at e1
   have h:=ih (pre ++ [z]) (by rw[snoc_app];exact he)
   rw[snoc_app,snoc_leni]at h
   obtain⟨K2,e2⟩:=h
   have hl':(pre.length:Int)<((pre ++ z :: suf).length:Int):=by simp;omega
   have hw:wrap64 ((pre.length:Int)+1)=(pre.length:Int)+1:=wrapS (by omega) (by simp at hp;omega)
   refine⟨K1+K2+1,fun k hk=>?_⟩
   obtain⟨q,rfl⟩:∃q,k=q+1:=⟨k-1,by omega⟩
   have e1:=e1 q (by omega)
   have e2:=e2 q (by omega)
   dsimp only at e1 e2 ⊢
   rw[laws_FnDifferences.l1,if_pos hl',if_pos (by omega),if_pos hl',rdHH_mid,e1,Option.bind_some,if_pos rfl,if_neg (by omega),hw]
   by_cases c:dist l z=m
   · rw[if_pos c,if_neg (by have:=n2 c;omega)]
     by_cases c2:(pre.length:Int)=n
     · rw[if_pos c2];exact e2
     · rw[if_neg c2];exact e2
   · rw[if_neg c,if_neg (fun q=>c (n3 q))]
     exact e2
theorem law_j3 {x1:List Int} (hb:bytesOk x1):Ev (fun k=>laws_FnDifferences.j3 k x1) true:=by
 obtain⟨x,r,⟨K1,e1⟩,hx,hr,hz⟩:=drawNear_ok hb
 obtain⟨K2,e2⟩:=implNear_ok x r (by omega) (by omega) (fun z q=>by have:=hz z q;omega)
 obtain⟨K3,e3⟩:=specNear_ok x r (by omega) (by omega) (fun z q=>by have:=hz z q;omega)
 have h4:Ev (fun k=>laws_FnDifferences.j4 k x1 x r (nearR x r).2.2 (nearR x r).1 (nearR x r).2.1 false) true:=by
  unfold nearR
  by_cases g:nearOk x r=true
  · rw[g,nearD_true]
    unfold nearOk at g
    simp only[Bool.and_eq_true,decide_eq_true_eq]at g
    obtain⟨g1,g2,g3,g4⟩:=g
    obtain⟨h1,h2⟩:=nearest_is (fun j=>dist x (rd_L3 r j)) r.length 0 0 (by omega)
    generalize nearestBy (fun j=>dist x (rd_L3 r j)) r.length 0 0=n at h1 h2
    have hget:∀(j:Nat) (h:j<r.length),rd_L3 r (j:Int)=r[j]'h:=by
     intro j h
     rw[rd_L3,List.getD_eq_getElem?_getD,Int.toNat_natCast,List.getElem?_eq_getElem h];rfl
    have h3:=law_l1 hb x hx g1 r hr (fun z q=>⟨List.all_eq_true.1 g2 z q,hz z q⟩) n (dist x (rd_L3 r n)) (by
     intro j h
     have q:=h2 (j:Int) (.inr ⟨by omega,by omega⟩)
     try simp only at q
     rw[hget j h]at q
     refine⟨q.1,q.2,fun e=>?_⟩
     rw[← e,hget j h]) r [] rfl
    exact ev_step h3 (fun k=>by rw[laws_FnDifferences.j4,if_neg (by simp),if_pos rfl];rfl)
  · rw[Bool.eq_false_iff.2 g,nearD_false]
    exact ev_step (law_j6 hb) (fun k=>by rw[laws_FnDifferences.j4,if_neg (by simp),if_neg (by simp)])
 obtain⟨K4,e4⟩:=h4
 refine⟨K1+K2+K3+K4+1,fun k hk=>?_⟩
 obtain⟨q,rfl⟩:∃q,k=q+1:=⟨k-1,by omega⟩
 have e1:=e1 q (by omega)
 have e2:=e2 q (by omega)
 have e3:=e3 q (by omega)
 have e4:=e4 q (by omega)
 dsimp only at e1 e2 e3 e4 ⊢
 rw[laws_FnDifferences.j3,e1,Option.bind_some]
 dsimp only
 rw[e2,Option.bind_some,e3,Option.bind_some,if_neg (ne2 _),if_pos rfl,show((nearR x r).2.1 != (nearR x r).2.1)=false by simp]
 exact e4
theorem law_l0 {x1:List Int} (hb:bytesOk x1) (T:List Int) (hT:T.length≤1048576) (suf:List S40):∀pre:List S40,(pre ++ suf).length≤1048576→(∀x∈suf,x.f0∈T) →
 Ev (fun k=>laws_FnDifferences.l0 k x1 T (pre ++ suf) ((pre ++ suf).length:Int) (pre.length:Int)) true:=by
 induction suf with
 | nil=>
   intro pre _ _
   exact ev_step (law_j3 hb) (fun k=>by rw[laws_FnDifferences.l0,if_neg (by simp)])
 | cons x suf ih=>
   intro pre hl hm
   obtain⟨K1,e1⟩:=pIn_ok T x.f0 hT
   have h:=ih (pre ++ [x]) (by simp at hl ⊢;omega) (fun y q=>hm y (by simp[q]))
   rw[snoc_app,snoc_leni]at h
   obtain⟨K2,e2⟩:=h
   have hl':(pre.length:Int)<((pre ++ x :: suf).length:Int):=by simp;omega
   have hw:wrap64 ((pre.length:Int)+1)=(pre.length:Int)+1:=wrapS (by omega) (by simp at hl;omega)
   refine⟨K1+K2+1,fun k hk=>?_⟩
   obtain⟨q,rfl⟩:∃q,k=q+1:=⟨k-1,by omega⟩
   have e1:=e1 q (by omega)
   have e2:=e2 q (by omega)
   dsimp only at e1 e2 ⊢
   rw[decide_eq_true (hm x (by simp))]at e1
   rw[laws_FnDifferences.l0,if_pos hl',if_pos (by omega),if_pos hl',rdH_mid,e1,Option.bind_some,if_pos rfl,hw]
   exact e2
theorem law_j1 {x1:List Int} (hb:bytesOk x1) (a b:List S40) (ha:a.length≤61) (hb':b.length≤61):Ev (fun k=>laws_FnDifferences.j1 k x1 (less a b) (less b a) (setOf ((less a b ++ less b a).map (fun x=>x.f0))) false) true:=by
 have l1:=less_len a b
 have l2:=less_len b a
 have hT:=setOf_len ((less a b ++ less b a).map (fun x=>x.f0))
 have h:=law_l0 hb (setOf ((less a b ++ less b a).map (fun x=>x.f0))) (by rw[List.length_map,List.length_append]at hT;omega) (([] ++ less a b) ++ less b a) [] (by simp;omega) (by
  intro x hx
  refine((setOf_sorted _).2 _).2 (List.mem_map.2 ⟨x,?_,rfl⟩)
  simpa using hx)
 have m1:([]:List S40).length+(less a b).length<5864062014805:=by simp;omega
 have m2:([] ++ less a b:List S40).length+(less b a).length<5864062014805:=by simp;omega
 refine ev_step h (fun k=>?_)
 rw[laws_FnDifferences.j1,if_neg (by simp)]
 simp only[Option.bind_some,m1,m2,if_true]
 rfl
theorem law_j0 {x1:List Int} (hb:bytesOk x1) (a b:List S40) (ha:a.length≤61) (hb':b.length≤61) (ga:good a=true) (gb:good b=true):Ev (fun k=>laws_FnDifferences.j0 k x1 a b (less a b) (less b a) true (less a b) (less b a) (dist a b) (shared a b) (setOf ((less a b ++ less b a).map (fun x=>x.f0))) false) true:=by
 have l1:=less_len a b
 have l2:=less_len b a
 obtain⟨K1,e1⟩:=implApply_ok a (less a b) (less b a) (by omega) (by omega) (by omega)
 obtain⟨K2,e2⟩:=implApply_ok b (less b a) (less a b) (by omega) (by omega) (by omega)
 obtain⟨K3,e3⟩:=implDist_ok b a (by omega) (by omega)
 obtain⟨K4,e4⟩:=sameHoles_ok a (by omega)
 obtain⟨K5,e5⟩:=sameHoles_ok b (by omega)
 obtain⟨K6,e6⟩:=law_j1 hb a b ha hb'
 rw[apply_there a b ga gb]at e1
 rw[apply_there b a gb ga]at e2
 have hd:distR b a=(dist a b,true):=by rw[distR,ga,gb,dist_comm b a];rfl
 rw[hd]at e3
 have d1:=dist_len a b (by omega) (by omega)
 have s1:=shared_less a b
 have s2:=shared_less b a
 have s3:=shared_comm a b ga gb
 have c1:wrap64 (((less a b).length:Int)+((less b a).length:Int))=dist a b:=rfl
 have c2:wrap64 (((shared a b).length:Int)+((less a b).length:Int))=(a.length:Int):=by rw[wrapS (by omega) (by omega)];omega
 have c3:(wrap64 (((shared a b).length:Int)+((less b a).length:Int)) != (b.length:Int))=false:=by rw[wrapS (by omega) (by omega)];simp;omega
 refine⟨K1+K2+K3+K4+K5+K6+1,fun k hk=>?_⟩
 obtain⟨q,rfl⟩:∃q,k=q+1:=⟨k-1,by omega⟩
 have e1:=e1 q (by omega)
 have e2:=e2 q (by omega)
 have e3:=e3 q (by omega)
 have e4:=e4 q (by omega)
 have e5:=e5 q (by omega)
 have e6:=e6 q (by omega)
 dsimp only at e1 e2 e3 e4 e5 e6 ⊢
 rw[laws_FnDifferences.j0,if_neg (by simp),if_pos rfl,e1,Option.bind_some,e2,Option.bind_some,e3,Option.bind_some,if_pos rfl,e5,Option.bind_some,if_pos rfl,if_pos rfl,e4,Option.bind_some,if_pos rfl,if_pos rfl,if_pos rfl,if_pos c1,if_pos c2,c3]
 exact e6
theorem law_j0n {x1:List Int} (hb:bytesOk x1) (a b:List S40):Ev (fun k=>laws_FnDifferences.j0 k x1 a b [] [] false [] [] 0 [] [] false) true:=
 ev_step (law_j3 hb) (fun k=>by rw[laws_FnDifferences.j0,if_neg (by simp),if_neg (by simp)])
set_option maxHeartbeats 4000000 in
theorem FnDifferences:laws_FnDifferences.Pure:=by
 intro l0 l1 hm0 hb0 hw0 hm1 hb1 hw1
 by_cases big:(l0.length:Int)>1048576
 · exact⟨0,by rw[laws_FnDifferences.f,laws_big.f,if_pos big,Option.bind_some,if_pos rfl]⟩
 have eb:laws_big.f l0 l1=some (decide ((l1.length:Int)>wrap64 (1048576-(l0.length:Int)))):=by rw[laws_big.f,if_neg big]
 cases hbig:decide ((l1.length:Int)>wrap64 (1048576-(l0.length:Int))) with
 | true=>exact⟨0,by rw[laws_FnDifferences.f,eb,hbig,Option.bind_some,if_pos rfl]⟩
 | false=>
 rw[hbig]at eb
 obtain⟨a,b,⟨K1,e1⟩,ha,hb⟩:=drawDiff_ok (u8_bytes hw0)
 obtain⟨K2,e2⟩:=implDiff_ok a b (by omega) (by omega)
 obtain⟨K3,e3⟩:=specDiff_ok a b (by omega) (by omega)
 obtain⟨K4,e4⟩:=implDist_ok a b (by omega) (by omega)
 obtain⟨K5,e5⟩:=specDist_ok a b (by omega) (by omega)
 obtain⟨K6,e6⟩:=implShared_ok a b (by omega) (by omega)
 obtain⟨K7,e7⟩:=specShared_ok a b (by omega) (by omega)
 obtain⟨K8,e8⟩:=implChanged_ok a b (by omega) (by omega)
 obtain⟨K9,e9⟩:=specChanged_ok a b (by omega) (by omega)
 have n1:=diffR_len a b (by omega) (by omega)
 have n2:=sharedR_len a b (by omega)
 have n3:=changedR_len a b (by omega) (by omega)
 obtain⟨K10,e10⟩:=sameHoles_ok (diffR a b).1 (by omega)
 obtain⟨K11,e11⟩:=sameHoles_ok (diffR a b).2.1 (by omega)
 obtain⟨K12,e12⟩:=sameHoles_ok (sharedR a b).1 (by omega)
 obtain⟨K13,e13⟩:=sameInts_ok (changedR a b).1 (by omega)
 have h0:∃b1:Bool,diffR a b=(if b1=true then(less a b,less b a,true) else([], [],false))∧distR a b=(if b1=true then(dist a b,true) else(0,false))∧sharedR a b=(if b1=true then(shared a b,true) else([],false))∧changedR a b=(if b1=true then(setOf ((less a b ++ less b a).map (fun x=>x.f0)),true) else([],false))∧Ev (fun k=>laws_FnDifferences.j0 k l1 a b (diffR a b).1 (diffR a b).2.1 (diffR a b).2.2 (diffR a b).1 (diffR a b).2.1 (distR a b).1 (sharedR a b).1 (changedR a b).1 false) true:=by
  refine⟨good a && good b,rfl,rfl,rfl,rfl,?_⟩
  cases g:(good a && good b) with
  | true=>
    obtain⟨g1,g2⟩:=Bool.and_eq_true_iff.1 g
    rw[show diffR a b=(less a b,less b a,true) by rw[diffR,g,if_pos rfl],show distR a b=(dist a b,true) by rw[distR,g,if_pos rfl],show sharedR a b=(shared a b,true) by rw[sharedR,g,if_pos rfl],show changedR a b=(setOf ((less a b ++ less b a).map (fun x=>x.f0)),true) by rw[changedR,g,if_pos rfl]]
    exact law_j0 (u8_bytes hw1) a b ha hb g1 g2
  | false=>
    rw[show diffR a b=([], [],false) by rw[diffR,g,if_neg (by simp)],show distR a b=(0,false) by rw[distR,g,if_neg (by simp)],show sharedR a b=([],false) by rw[sharedR,g,if_neg (by simp)],show changedR a b=([],false) by rw[changedR,g,if_neg (by simp)]]
    exact law_j0n (u8_bytes hw1) a b
 obtain⟨b1,f1,f2,f3,f4,K14,e14⟩:=h0
 have q1:((distR a b).2 != (diffR a b).2.2)=false:=by rw[f1,f2];cases b1<;>rfl
 have q2:((sharedR a b).2 != (diffR a b).2.2)=false:=by rw[f1,f3];cases b1<;>rfl
 have q3:((changedR a b).2 != (diffR a b).2.2)=false:=by rw[f1,f4];cases b1<;>rfl
 clear f1 f2 f3 f4
 dsimp only at e1 e2 e3 e4 e5 e6 e7 e8 e9 e10 e11 e12 e13 e14
 refine⟨K1+K2+K3+K4+K5+K6+K7+K8+K9+K10+K11+K12+K13+K14,?_⟩
 generalize hK:K1+K2+K3+K4+K5+K6+K7+K8+K9+K10+K11+K12+K13+K14=k
 rw[laws_FnDifferences.f,eb,Option.bind_some,if_neg (by simp),e1 k (by omega),Option.bind_some]
 dsimp only
 rw[e2 k (by omega),Option.bind_some,e3 k (by omega),Option.bind_some,e4 k (by omega),Option.bind_some,e5 k (by omega),Option.bind_some,e6 k (by omega),Option.bind_some,e7 k (by omega),Option.bind_some,e8 k (by omega),Option.bind_some,e9 k (by omega),Option.bind_some]
 rw[if_neg (ne2 _),e10 k (by omega),Option.bind_some,if_pos rfl,e11 k (by omega),Option.bind_some,if_pos rfl,if_neg (ne2 _),if_pos rfl,if_neg (ne2 _),e12 k (by omega),Option.bind_some,if_pos rfl,if_neg (ne2 _),e13 k (by omega),Option.bind_some,if_pos rfl,q1,if_neg (by simp),q2,if_neg (by simp),q3]
 exact e14 k (by omega)

end Go.Proofs.YtplpjmhmochcfaaGreat.Pure
