/- For every input the law FnEditions answers true, after some number of rounds; the conditions are the input's own bounds. -/
import Derived.Test.YtcnegcdmmackeaaGreatLFnEditionsF
import Derived.Test.YtcnegcdmmackeaaGreatLFnEditionsE
import Derived.Test.YtcnegcdmmackeaaGreatLFnEditionsD
import Derived.Test.YtcnegcdmmackeaaGreatLFnEditionsB
import Derived.Test.YtcnegcdmmackeaaGreatLFnEditionsA
import Derived.Test.YtcnegcdmmackeaaGreatQFnEditionsx3
import Derived.Test.YtcnegcdmmackeaaGreatQFnEditionsx4
import Derived.Test.YtcnegcdmmackeaaGreatQFnEditionsx5
import Derived.Test.YtcnegcdmmackeaaGreatQFnEditionsx6
import Derived.Test.YtcnegcdmmackeaaGreatQFnEditionsx7
import Derived.Test.YtcnegcdmmackeaaGreatQFnEditionsx8
import Derived.Test.YtcnegcdmmackeaaGreatQFnEditionsx9
import Derived.Test.YtcnegcdmmackeaaGreatQFnEditionsx10
import Derived.Test.YtcnegcdmmackeaaGreatQFnEditionsx11
import Derived.Test.YtcnegcdmmackeaaGreatQFnEditionsx12
import Derived.Test.YtcnegcdmmackeaaGreatQFnEditionsx13
import Derived.Test.YtcnegcdmmackeaaGreatQFnEditionsx14
import Derived.Test.YtcnegcdmmackeaaGreatQFnEditionsx15
import Derived.Test.YtcnegcdmmackeaaGreatQFnEditionsx16
import Derived.Test.YtcnegcdmmackeaaGreatQFnEditionsx17
import Derived.Test.YtcnegcdmmackeaaGreatQFnEditionsx18
import Derived.Test.YtcnegcdmmackeaaGreatQFnEditionsx19
import Derived.Test.YtcnegcdmmackeaaGreatQFnEditionsx20
import Derived.Test.YtcnegcdmmackeaaGreatQFnEditionsx21
import Derived.Test.YtcnegcdmmackeaaGreatQFnEditionsx22
import Derived.Test.YtcnegcdmmackeaaGreatQFnEditionsx23
import Derived.Test.YtcnegcdmmackeaaGreatQFnEditionsx24
import Derived.Test.YtcnegcdmmackeaaGreatBaseE
namespace Go.Proofs.YtcnegcdmmackeaaGreat.Pure
open Go Go.RowKit Go.Proofs.YtcnegcdmmackeaaGreat.QFnEditions Go.Proofs.YtcnegcdmmackeaaGreatW.PrintWords Go.Proofs.YtcnegcdmmackeaaGreatW.PrintLast Go.Proofs.YtcnegcdmmackeaaGreatW.PrintMore Go.Proofs.YtcnegcdmmackeaaGreat.Base Go.Proofs.YtcnegcdmmackeaaGreat.LFnEditionsA Go.Proofs.YtcnegcdmmackeaaGreat.LFnEditionsB Go.Proofs.YtcnegcdmmackeaaGreat.LFnEditionsC Go.Proofs.YtcnegcdmmackeaaGreat.LFnEditionsD Go.Proofs.YtcnegcdmmackeaaGreat.LFnEditionsE Go.Proofs.YtcnegcdmmackeaaGreat.LFnEditionsF Go.Proofs.YtcnegcdmmackeaaGreat.LFnEditionsG
set_option linter.unusedVariables false
set_option linter.unusedSimpArgs false

/-! lists of holes, and of sheets, held against themselves -/
theorem sameH_l0 (suf:List S62):∀pre:List S62,(pre ++ suf).length≤4000000→Ev (fun k=>ZD.l0 k (pre ++ suf) (pre ++ suf) ((pre ++ suf).length:Int) (pre.length:Int)) true:=by
 induction suf with
 | nil=>
   intro pre _
   refine ev_step (f:=fun _=>some _) (Ev.now _) (fun k=>?_)
   rw[ZD.l0,if_neg (by simp)]
 | cons x suf ih=>
   intro pre hl
   have h:=ih (pre ++ [x]) (by simp at hl ⊢;omega)
   rw[snoc_app,snoc_leni]at h
   have hl':(pre.length:Int)<((pre ++ x :: suf).length:Int):=by simp;omega
   refine ev_step h (fun k=>?_)
   rw[ZD.l0,if_pos hl',if_pos (by omega),if_pos hl',if_pos hl',if_neg (by simp),wrapS (by omega) (by simp at hl;omega)]
theorem sameHoles_ok (l:List S62) (h:l.length≤4000000):Ev (fun k=>ZD.f k l l) true:=by
 have:=sameH_l0 l [] (by simpa using h)
 refine Ev.congr (fun k=>?_) this
 rw[ZD.f,if_pos rfl]
 rfl

/-! numbers held against themselves, looked for -/
theorem sameI_l0 (suf:List Int):∀pre:List Int,(pre ++ suf).length≤9223372036854775806→Ev (fun k=>ZH.l0 k (pre ++ suf) (pre ++ suf) ((pre ++ suf).length:Int) (pre.length:Int)) true:=by
 induction suf with
 | nil=>
   intro pre _
   refine ev_step (f:=fun _=>some _) (Ev.now _) (fun k=>?_)
   rw[ZH.l0,if_neg (by simp)]
 | cons x suf ih=>
   intro pre hl
   have h:=ih (pre ++ [x]) (by simp at hl ⊢;omega)
   rw[snoc_app,snoc_leni]at h
   have hl':(pre.length:Int)<((pre ++ x :: suf).length:Int):=by simp;omega
   refine ev_step h (fun k=>?_)
   rw[ZH.l0,if_pos hl',if_pos (by omega),if_pos hl',if_pos hl',if_pos rfl,wrapS (by omega) (by simp at hl;omega)]
theorem sameInts_ok (l:List Int) (h:l.length≤9223372036854775806):Ev (fun k=>ZH.f k l l) true:=by
 have:=sameI_l0 l [] (by simpa using h)
 refine Ev.congr (fun k=>?_) this
 rw[ZH.f,if_pos rfl]
 rfl

/-! the same parts -/
theorem pSame_l0 (suf:List S46):∀pre:List S46,(pre ++ suf).length≤4000000→Ev (fun k=>ZG.l0 k (pre ++ suf) (pre ++ suf) ((pre ++ suf).length:Int) (pre.length:Int)) true:=by
 induction suf with
 | nil=>
   intro pre _
   refine ev_step (f:=fun _=>some _) (Ev.now _) (fun k=>?_)
   rw[ZG.l0,if_neg (by simp)]
 | cons x suf ih=>
   intro pre hl
   have h:=ih (pre ++ [x]) (by simp at hl ⊢;omega)
   rw[snoc_app,snoc_leni]at h
   have hl':(pre.length:Int)<((pre ++ x :: suf).length:Int):=by simp;omega
   refine ev_step h (fun k=>?_)
   rw[ZG.l0,if_pos hl',if_pos (by omega),if_pos hl',if_pos hl',if_neg (by simp),wrapS (by omega) (by simp at hl;omega)]
theorem pSame_ok (l:List S46) (h:l.length≤4000000):Ev (fun k=>ZG.f k l l) true:=by
 have:=pSame_l0 l [] (by simpa using h)
 refine Ev.congr (fun k=>?_) this
 rw[ZG.f,if_pos rfl]
 rfl

/-! the law of editions -/
theorem u8_bytes {l:List Int} (h:∀x∈l,(Lit.int .u8 x).wf=true):bytesOk l:=by
 intro x hx
 have:=h x hx
 simp[Lit.wf,IntKind.min,IntKind.max,IntKind.bits,IntKind.signed]at this
 omega
theorem law_j6 {x1:List Int} (hb:bytesOk x1):Ev (fun k=>Zc.j6 k x1) true:=by
 obtain⟨u,s,a,b,c,⟨K1,e1⟩,hu,s0,s1⟩:=drawIns_ok hb
 obtain⟨K2,e2⟩:=implIns_ok u s a b c (by omega)
 obtain⟨K3,e3⟩:=specIns_ok u s a b c (by omega)
 have hl:=insR_len u s a b c (by omega)
 obtain⟨K4,e4⟩:=pSame_ok (insR u s a b c).1 (by omega)
 have h5:Ev (fun k=>Zc.j7 k u s (insR u s a b c).1 (insR u s a b c).2 false a b c) true:=by
  by_cases g:(insR u s a b c).2=true
  · obtain⟨f1,f2,f3,f4,f5,f6,f7⟩:=ins_law u s a b c g
    obtain⟨o1,o2,o3,o4,_⟩:=ok_len f5
    have oc:len1 (⟨a,b,c⟩:S46)=c-b:=rfl
    obtain⟨g1,g2,g3,g4,_⟩:=good_parts f3
    obtain⟨K5,e5⟩:=implSrcAt_ok (insR u s a b c).1 s (by omega) (by omega)
    obtain⟨K6,e6⟩:=implLength_ok (insR u s a b c).1 (by omega)
    obtain⟨K7,e7⟩:=implLength_ok u (by omega)
    rw[f1]at e5
    rw[if_pos f2,f4]at e6
    rw[if_pos f3]at e7
    dsimp only at o3 o4 e5 e6 e7
    have hw:wrap64 (wrap64 (total u+c)-b)=total u+(c-b):=by
     rw[wrapS (x:=total u+c) (by omega) (by omega),wrapS (by omega) (by omega)];omega
    refine⟨K5+K6+K7+1,fun k hk=>?_⟩
    obtain⟨q,rfl⟩:∃q,k=q+1:=⟨k-1,by omega⟩
    dsimp only
    rw[Zc.j7,if_neg (by simp),if_pos g,e5 q (by omega),Option.bind_some,e6 q (by omega),Option.bind_some,e7 q (by omega),Option.bind_some]
    dsimp only
    rw[if_pos rfl,if_pos rfl,if_pos rfl,if_pos rfl,if_pos rfl,if_pos hw.symm]
  · exact ev_step (f:=fun _=>some true) (Ev.now _) (fun k=>by rw[Zc.j7,if_neg (by simp),if_neg g])
 obtain⟨K5,e5⟩:=h5
 refine⟨K1+K2+K3+K4+K5+1,fun k hk=>?_⟩
 obtain⟨q,rfl⟩:∃q,k=q+1:=⟨k-1,by omega⟩
 have e1:=e1 q (by omega)
 have e2:=e2 q (by omega)
 have e3:=e3 q (by omega)
 have e4:=e4 q (by omega)
 have e5:=e5 q (by omega)
 dsimp only at e1 e2 e3 e4 e5 ⊢
 rw[Zc.j6,e1,Option.bind_some]
 dsimp only
 rw[e2,Option.bind_some,e3,Option.bind_some,if_neg (by simp),e4,Option.bind_some]
 exact e5
theorem total_sum:∀l:List S46,total l=sumP l
 | []=>rfl
 | x :: l=>by rw[total,sumP,total_sum l];rfl
theorem at_src:∀(l:List S46) (u:Int),u<sumP l→0≤u→at_ l u=srcP l u
 | [],u,h,h0=>by rw[sumP]at h;omega
 | x :: l,u,h,h0=>by
   rw[sumP]at h
   rw[at_,srcP]
   show(if u<x.f2-x.f1 then _ else at_ l (u-(x.f2-x.f1)))=_
   by_cases c:u<x.f2-x.f1
   · rw[if_pos c,if_pos c]
   · rw[if_neg c,if_neg c];exact at_src l _ (by omega) (by omega)
theorem src_in (l:List (List S62)):∀(p:List S46) (u:Int),(∀y∈p,PartIn l y)→0≤u→u<sumP p→0≤(srcP p u).1∧(srcP p u).1<(l.length:Int)∧0≤(srcP p u).2∧(srcP p u).2<2000
 | [],u,_,h0,h1=>by rw[sumP]at h1;omega
 | y :: p,u,hp,h0,h1=>by
   have hy:=hp y List.mem_cons_self
   unfold PartIn at hy
   rw[sumP]at h1
   rw[srcP]
   by_cases c:u<y.f2-y.f1
   · rw[if_pos c];dsimp only;omega
   · rw[if_neg c];exact src_in l p _ (fun z hz=>hp z (List.mem_cons_of_mem _ hz)) (by omega) (by omega)
theorem law_l0 {x1:List Int} (hb:bytesOk x1) (L:List (List S62)) (hL:∀r∈L,good r=true) (hr:∀r∈L,r.length≤61) (p:List S46) (hp:areParts p (L.length:Int)=true) (m:List S62) (ok:Bool) (hm:ok=true→good m=true∧m.length≤60∧∀t u,cov m t u=cov (edAll L p [] 0) t u) (d:Nat):∀i:Int,0≤i→i+d=21 →
 Ev (fun k=>Zc.l0 k x1 L p m ok (total p) i) true:=by
 obtain⟨p1,p2,p3⟩:=parts_in L p hp
 have pg:partsGood p=true:=(Bool.and_eq_true_iff.1 hp).1
 obtain⟨g1,g2,g3,g4,g5⟩:=good_parts pg
 have ts:=total_sum p
 have J4:∀i:Int,Ev (fun k=>Zc.j4 k x1 L p m ok (total p) i false) true:=fun i=>ev_step (law_j6 hb) (fun k=>by rw[Zc.j4,if_neg (by simp)])
 induction d with
 | zero=>
   intro i i0 i1
   exact ev_step (J4 i) (fun k=>by rw[Zc.l0,if_neg (by omega)])
 | succ d ih=>
   intro i i0 i1
   have hw:wrap64 (i+1)=i+1:=wrapS (by omega) (by omega)
   have IH:=ih (i+1) (by omega) (by omega)
   by_cases c:total p>0
   · obtain⟨s,hs⟩:∃s,s=i*(total p-1) / 20:=⟨_,rfl⟩
     have m0:0≤i*(total p-1):=Int.mul_nonneg i0 (by omega)
     have m1:i*(total p-1)≤20*(total p-1):=Int.mul_le_mul_of_nonneg_right (by omega) (by omega)
     have s0:0≤s:=by omega
     have s1:s<total p:=by omega
     have hst:wrap64 (Int.tdiv (wrap64 (i*(wrap64 (total p-1)))) 20)=s:=by
      rw[wrapS (x:=total p-1) (by omega) (by omega),wrapS (x:=i*(total p-1)) (by omega) (by omega),Int.tdiv_eq_ediv_of_nonneg m0, ← hs,wrapS (by omega) (by omega)]
     have hsrc:=at_src p s (by omega) s0
     obtain⟨v0,v1,v2,v3⟩:=src_in L p s p2 s0 (by omega)
     have hR:srcAtR p s=((srcP p s).1,(srcP p s).2,true):=by rw[srcAtR,if_pos ⟨pg,s0,s1⟩,hsrc]
     obtain⟨K1,e1⟩:=implSrcAt_ok p s (by omega) (by omega)
     obtain⟨K2,e2⟩:=specSrcAt_ok p s (by omega) (by omega)
     rw[hR]at e1 e2
     have h5:Ev (fun k=>Zc.j5 k x1 L p m ok (total p) i s (srcP p s).1 (srcP p s).2 false) true:=by
      cases o:ok with
      | false=>
        rw[o]at IH
        exact ev_step IH (fun k=>by rw[Zc.j5,if_neg (by simp),if_neg (by simp),hw])
      | true=>
        rw[o]at IH
        obtain⟨h1,h2,h3⟩:=hm o
        have hin:=row_in L (srcP p s).1 v0 v1
        have hgr:=hL _ hin
        have hlr:=hr _ hin
        have same:openR m s=openR (rd_L3 L (srcP p s).1) (srcP p s).2:=openR_same _ _ _ _ h1 hgr (by omega) (by omega) (fun t=>by rw[h3];exact edition_open L hL p p2 p3 t s s0 (by omega))
        have ho:(openR m s).2=true:=by rw[openR,if_pos ⟨h1,by omega,by omega⟩]
        obtain⟨K3,e3⟩:=implOpen_ok m s (by omega)
        obtain⟨K4,e4⟩:=implOpen_ok (rd_L3 L (srcP p s).1) (srcP p s).2 (by omega)
        obtain⟨K5,e5⟩:=specOpen_ok (rd_L3 L (srcP p s).1) (srcP p s).2 (by omega)
        rw[← same]at e4 e5
        have hln:=openR_len m s
        obtain⟨K6,e6⟩:=sameInts_ok (openR m s).1 (by omega)
        obtain⟨K7,e7⟩:=IH
        refine⟨K3+K4+K5+K6+K7+1,fun k hk=>?_⟩
        obtain⟨q,rfl⟩:∃q,k=q+1:=⟨k-1,by omega⟩
        have e3:=e3 q (by omega)
        have e4:=e4 q (by omega)
        have e5:=e5 q (by omega)
        have e6:=e6 q (by omega)
        have e7:=e7 q (by omega)
        dsimp only at e3 e4 e5 e6 e7 ⊢
        rw[Zc.j5,if_neg (by simp),if_pos rfl,e3,Option.bind_some,if_pos v0,if_pos v1,e4,Option.bind_some,e5,Option.bind_some,if_pos ho,if_pos ho,if_pos ho,e6,Option.bind_some,if_pos rfl,Option.bind_some,if_pos rfl,hw,e7]
     obtain⟨K3,e3⟩:=h5
     refine⟨K1+K2+K3+2,fun k hk=>?_⟩
     obtain⟨q,rfl⟩:∃q,k=q+2:=⟨k-2,by omega⟩
     have e1:=e1 q (by omega)
     have e2:=e2 q (by omega)
     have e3:=e3 q (by omega)
     dsimp only at e1 e2 e3 ⊢
     rw[show q+2=(q+1)+1 from rfl,Zc.l0,if_pos (by omega),decide_eq_true c,Zc.j4,if_pos rfl,hst,e1,Option.bind_some,e2,Option.bind_some]
     dsimp only
     rw[if_pos rfl,if_pos rfl,if_pos rfl,bne_self_eq_false]
     exact e3
   · exact ev_step (J4 i) (fun k=>by rw[Zc.l0,if_pos (by omega),decide_eq_false c])
theorem short_parts (L:List (List S62)) (hL:∀r∈L,good r=true) (p:List S46) (hp:areParts p (L.length:Int)=true):areParts (shortR p) (L.length:Int)=true∧(shortR p).length≤p.length∧edR L (shortR p)=edR L p:=by
 obtain⟨p1,p2,p3⟩:=parts_in L p hp
 obtain⟨k1,k2,k3,k4⟩:=shortR_facts L p [] p2 (fun _ h=>by cases h)
 have hlen:=areParts_of hp
 have k3':(shortR p).length≤p.length:=by unfold shortR;simpa using k3
 have pk:∀y∈shortR p,partOk y=true:=fun y hy=>by
  have:=k1 y hy
  unfold PartIn at this
  simp only[partOk,decide_eq_true_eq]
  omega
 have ht:total (shortR p)=total p:=by
  rw[total_sum,total_sum]
  unfold shortR
  rw[k2,sumP];omega
 have hg:partsGood (shortR p)=true:=parts_good (List.all_eq_true.2 pk) (by omega) (by rw[ht,total_sum];exact p3)
 have ha:areParts (shortR p) (L.length:Int)=true:=by
  unfold areParts
  rw[hg,Bool.true_and,Bool.and_eq_true]
  refine⟨decide_eq_true (by omega),List.all_eq_true.2 fun y hy=>?_⟩
  have:=k1 y hy
  unfold PartIn at this
  exact decide_eq_true this.2.1
 have hall:L.all good=true:=List.all_eq_true.2 hL
 refine⟨ha,k3',?_⟩
 unfold edR
 rw[hall,hp,ha]
 exact short_same L hL p p2 p3
theorem law_j0 {x1:List Int} (hb:bytesOk x1) (L:List (List S62)) (hL:∀r∈L,good r=true) (hr:∀r∈L,r.length≤61) (p:List S46) (hp:areParts p (L.length:Int)=true) (m:List S62) (ok:Bool) (hm:edR L p=(m,ok)):Ev (fun k=>Zc.j0 k x1 L p m ok m true false) true:=by
 have hall:L.all good=true:=List.all_eq_true.2 hL
 have pg:partsGood p=true:=(Bool.and_eq_true_iff.1 hp).1
 have ap:=areParts_of hp
 obtain⟨s1,s2,s3⟩:=short_parts L hL p hp
 have hml:=edR_len L p
 rw[hm]at hml
 have ml:m.length≤60:=hml
 have hmm:ok=true→good m=true∧m.length≤60∧∀t u,cov m t u=cov (edAll L p [] 0) t u:=by
  intro o
  have h1:=hm
  unfold edR at h1
  rw[hall,hp,Bool.and_self,if_pos rfl,sortedR]at h1
  by_cases z:good (srt (edAll L p [] 0))=true
  · rw[if_pos z]at h1
    injection h1 with h1 h2
    rw[← h1]
    exact⟨z,by rw[h1];exact ml,fun t u=>cov_perm (srt_perm _) t u⟩
  · rw[if_neg z]at h1
    injection h1 with h1 h2
    rw[← h2]at o
    exact absurd o (by simp)
 obtain⟨K1,e1⟩:=implLength_ok p (by omega)
 obtain⟨K2,e2⟩:=specLength_ok p (by omega)
 obtain⟨K3,e3⟩:=implShort_ok p (by omega)
 obtain⟨K4,e4⟩:=specShort_ok p (by omega)
 rw[if_pos pg]at e1 e2
 have hsh:shortsR p=(shortR p,true):=by rw[shortsR,if_pos pg]
 rw[hsh]at e3 e4
 obtain⟨K5,e5⟩:=pSame_ok (shortR p) (by omega)
 obtain⟨K6,e6⟩:=implAreParts_ok p (L.length:Int) (by omega)
 rw[hp]at e6
 obtain⟨K7,e7⟩:=implEd_ok L (shortR p) (by omega) (fun x hx=>by have:=hr x hx;omega) (by omega)
 rw[s3,hm]at e7
 obtain⟨K8,e8⟩:=sameHoles_ok m (by omega)
 obtain⟨K9,e9⟩:=law_l0 hb L hL hr p hp m ok hmm 21 0 (by omega) (by omega)
 refine⟨K1+K2+K3+K4+K5+K6+K7+K8+K9+3,fun k hk=>?_⟩
 obtain⟨q,rfl⟩:∃q,k=q+3:=⟨k-3,by omega⟩
 have e1:=e1 (q+2) (by omega)
 have e2:=e2 (q+2) (by omega)
 have e3:=e3 (q+2) (by omega)
 have e4:=e4 (q+2) (by omega)
 have e5:=e5 (q+2) (by omega)
 have e6:=e6 (q+2) (by omega)
 have e7:=e7 (q+1) (by omega)
 have e8:=e8 (q+1) (by omega)
 have e9:=e9 q (by omega)
 dsimp only at e1 e2 e3 e4 e5 e6 e7 e8 e9 ⊢
 rw[show q+3=(q+2)+1 from rfl,Zc.j0,if_neg (by simp),if_pos rfl,e1,Option.bind_some,e2,Option.bind_some,e3,Option.bind_some,e4,Option.bind_some]
 dsimp only
 rw[if_pos rfl,if_pos rfl,if_pos rfl,if_pos rfl,if_pos rfl,e5,Option.bind_some,if_pos rfl,if_neg (by omega),e6,Option.bind_some]
 rw[show q+2=(q+1)+1 from rfl,Zc.j1,if_neg (by simp),e7,Option.bind_some]
 dsimp only
 rw[if_neg (by simp),e8,Option.bind_some,Zc.j2,if_neg (by simp)]
 exact e9
theorem FnEditions:Zc.Pure:=by
 intro l0 l1 _ _ w0 _ _ w1
 have b0:=u8_bytes w0
 have b1:=u8_bytes w1
 by_cases big:Yb.f l0 l1=some true
 · exact⟨0,by rw[Zc.f,big,Option.bind_some,if_pos rfl]⟩
 have hbig:Yb.f l0 l1=some false:=by
  unfold Yb.f at big ⊢
  split
  · rename_i h;rw[if_pos h]at big;exact absurd rfl big
  · rename_i h
    rw[if_neg h]at big
    congr 1
    exact Bool.eq_false_iff.2 (fun w=>big (by rw[w]))
 obtain⟨L,p,⟨K1,e1⟩,hL,hr,hp⟩:=drawMake_ok b0
 have hr2:∀x∈L,x.length≤1048576:=fun x hx=>by have:=hr x hx;omega
 obtain⟨K2,e2⟩:=implEd_ok L p (by omega) hr2 (by omega)
 obtain⟨K3,e3⟩:=specEd_ok L p (by omega) hr2 (by omega)
 obtain⟨K4,e4⟩:=implCutH_ok L p (by omega) hr2 (by omega)
 obtain⟨K5,e5⟩:=specCutH_ok L p (by omega) hr2 (by omega)
 have hml:=edR_len L p
 obtain⟨K6,e6⟩:=sameHoles_ok (edR L p).1 (by omega)
 have h7:Ev (fun k=>Zc.j0 k l1 L p (edR L p).1 (edR L p).2 (edR L p).1 (cutHR L p).2 false) true∧((edR L p).2=true→(cutHR L p).2=true):=by
  by_cases g:(L.all good && areParts p (L.length:Int))=true
  · have hc:(cutHR L p).2=true:=by rw[cutHR,if_pos g]
    obtain⟨ga,gp⟩:=Bool.and_eq_true_iff.1 g
    rw[hc]
    exact⟨law_j0 b1 L (List.all_eq_true.1 ga) hr p gp (edR L p).1 (edR L p).2 rfl,fun _=>rfl⟩
  · have hc:(cutHR L p).2=false:=by rw[cutHR,if_neg g]
    have he:(edR L p).2=false:=by rw[edR,if_neg g]
    rw[hc]
    exact⟨ev_step (law_j6 b1) (fun k=>by rw[Zc.j0,if_neg (by simp),if_neg (by simp)]),fun w=>by rw[he]at w;exact w⟩
 obtain⟨⟨K7,e7⟩,hi⟩:=h7
 have e1:=e1 (K1+K2+K3+K4+K5+K6+K7) (by omega)
 have e2:=e2 (K1+K2+K3+K4+K5+K6+K7) (by omega)
 have e3:=e3 (K1+K2+K3+K4+K5+K6+K7) (by omega)
 have e4:=e4 (K1+K2+K3+K4+K5+K6+K7) (by omega)
 have e5:=e5 (K1+K2+K3+K4+K5+K6+K7) (by omega)
 have e6:=e6 (K1+K2+K3+K4+K5+K6+K7) (by omega)
 have e7:=e7 (K1+K2+K3+K4+K5+K6+K7) (by omega)
 refine⟨K1+K2+K3+K4+K5+K6+K7,?_⟩
 dsimp only at e1 e2 e3 e4 e5 e6 e7
 rw[Zc.f,hbig,Option.bind_some,if_neg (by simp),e1,Option.bind_some]
 dsimp only
 rw[e2,Option.bind_some,e3,Option.bind_some,e4,Option.bind_some,e5,Option.bind_some,if_neg (by simp),e6,Option.bind_some,if_pos rfl,if_neg (by simp),if_pos rfl]
 by_cases o:(edR L p).2=true
 · rw[if_pos o,hi o]
   rw[hi o]at e7
   exact e7
 · rw[if_neg o];exact e7

end Go.Proofs.YtcnegcdmmackeaaGreat.Pure
