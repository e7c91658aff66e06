/- For every input the law FnMerges answers true, after some number of rounds; the conditions are the input's own bounds. -/
import Derived.Test.YtplpjmhmochcfaaQFnMergesx16
import Derived.Test.YtplpjmhmochcfaaBaseM
import Derived.Test.YtplpjmhmochcfaaLFnMergesA
import Derived.Test.YtplpjmhmochcfaaLFnMergesB
import Derived.Test.YtplpjmhmochcfaaLFnMergesC
namespace Go.Proofs.Ytplpjmhmochcfaa.Pure
open Go Go.RowKit Go.Proofs.Ytplpjmhmochcfaa.QFnMerges Go.Proofs.YtplpjmhmochcfaaW.PrintWords Go.Proofs.YtplpjmhmochcfaaW.PrintLast Go.Proofs.YtplpjmhmochcfaaW.PrintMore Go.Proofs.Ytplpjmhmochcfaa.Base Go.Proofs.Ytplpjmhmochcfaa.LFnMergesA Go.Proofs.Ytplpjmhmochcfaa.LFnMergesB Go.Proofs.Ytplpjmhmochcfaa.LFnMergesC
set_option linter.unusedVariables false
set_option linter.unusedSimpArgs false

/-! what the law asks of merged sheets -/
def mergeL (o a b:List S42):List S42:=firstA o a b ++ moreB o a b
theorem mem_firstA (o a b:List S42) (x:S42):x∈firstA o a b↔(x∈o∧x∈a∧x∈b)∨(x∈a∧x ∉ o):=by
 unfold firstA;rw[List.mem_append,mem_kept,mem_less]
theorem mem_moreB (o a b:List S42) (x:S42):x∈moreB o a b↔(x∈b∧x ∉ o)∧x ∉ a:=by
 unfold moreB;rw[mem_less,mem_less]
theorem mem_mergeL (o a b:List S42) (x:S42):x∈mergeL o a b↔(x∈o∧x∈a∧x∈b)∨(x∈a∧x ∉ o)∨(x∈b∧x ∉ o∧x ∉ a):=by
 unfold mergeL;rw[List.mem_append,mem_firstA,mem_moreB]
 constructor
 · rintro((h | h) | h)
   · exact .inl h
   · exact .inr (.inl h)
   · exact .inr (.inr ⟨h.1.1,h.1.2,h.2⟩)
 · rintro(h | h | h)
   · exact .inl (.inl h)
   · exact .inl (.inr h)
   · exact .inr ⟨⟨h.1,h.2.1⟩,h.2.2⟩
theorem mergeL_nodup (o a b:List S42) (ho:good o=true) (ha:good a=true) (hb:good b=true):(mergeL o a b).Nodup:=by
 refine List.nodup_append.2 ⟨firstA_nodup o a b ho ha,less_nodup _ _ (less_nodup _ _ (good_nodup b hb)),?_⟩
 intro x hx y hy e
 subst e
 have h1:=firstA_sub o a b x hx
 exact((mem_moreB o a b x).1 hy).2 h1
theorem merge_swap (o a b:List S42) (ho:good o=true) (ha:good a=true) (hb:good b=true):(mergeL o b a).Perm (mergeL o a b):=by
 refine(List.perm_ext_iff_of_nodup (mergeL_nodup o b a ho hb ha) (mergeL_nodup o a b ho ha hb)).2 (fun x=>?_)
 rw[mem_mergeL,mem_mergeL]
 by_cases h1:x∈o<;>by_cases h2:x∈a<;>by_cases h3:x∈b<;>simp[h1,h2,h3]
theorem merge_base (o a:List S42) (ho:good o=true) (ha:good a=true):(mergeL o a o).Perm a:=by
 refine(List.perm_ext_iff_of_nodup (mergeL_nodup o a o ho ha ho) (good_nodup a ha)).2 (fun x=>?_)
 rw[mem_mergeL]
 by_cases h1:x∈o<;>by_cases h2:x∈a<;>simp[h1,h2]
theorem merge_same (o b:List S42) (ho:good o=true) (hb:good b=true):(mergeL o b b).Perm b:=by
 refine(List.perm_ext_iff_of_nodup (mergeL_nodup o b b ho hb hb) (good_nodup b hb)).2 (fun x=>?_)
 rw[mem_mergeL]
 by_cases h1:x∈o<;>by_cases h2:x∈b<;>simp[h1,h2]
theorem mergeR_of (o a b c:List S42) (ho:good o=true) (ha:good a=true) (hb:good b=true) (hc:good c=true) (h:(mergeL o a b).Perm c):mergeR o a b=(c,true):=by
 have e:srt (firstA o a b ++ moreB o a b)=c:=srt_of_perm c _ hc h
 rw[mergeR,ho,ha,hb,if_pos (show(true && (true && true))=true from rfl),sortedR,e,if_pos hc]
theorem mergeR_base (o a:List S42) (ho:good o=true) (ha:good a=true):mergeR o a o=(a,true):=mergeR_of o a o a ho ha ho ha (merge_base o a ho ha)
theorem mergeR_same (o b:List S42) (ho:good o=true) (hb:good b=true):mergeR o b b=(b,true):=mergeR_of o b b b ho hb hb hb (merge_same o b ho hb)
/-- A merge that goes well: all three are sheets, and the sorted holes are one. -/
theorem mergeR_true (o a b:List S42) (h:(mergeR o a b).2=true):good o=true∧good a=true∧good b=true∧good (srt (mergeL o a b))=true∧mergeR o a b=(srt (mergeL o a b),true):=by
 rw[mergeR]at h ⊢
 by_cases g:(good o && (good a && good b))=true
 · rw[if_pos g]at h ⊢
   simp only[Bool.and_eq_true]at g
   rw[sortedR]at h ⊢
   by_cases k:good (srt (firstA o a b ++ moreB o a b))=true
   · exact⟨g.1,g.2.1,g.2.2,k,by rw[if_pos k];rfl⟩
   · rw[if_neg k]at h;cases h
 · rw[if_neg g]at h;cases h
theorem mergeR_swap (o a b:List S42) (h:(mergeR o a b).2=true):mergeR o b a=mergeR o a b:=by
 obtain⟨ho,ha,hb,hg,e⟩:=mergeR_true o a b h
 rw[e]
 exact mergeR_of o b a _ ho hb ha hg ((merge_swap o a b ho ha hb).trans (srt_perm _).symm)
theorem clash_of (x y:S42) (h:clashB x y=true):x≠y∧x.f0=y.f0∧y.f1≤x.f2∧x.f1≤y.f2:=by
 unfold clashB spec_mgClash.f at h
 refine⟨fun e=>?_,?_⟩
 · subst e;simp at h
 · by_cases c1:x.f0=y.f0
   · by_cases c2:x.f2≥y.f1
     · by_cases c3:y.f2≥x.f1
       · exact⟨c1,c2,c3⟩
       · rw[if_pos c1,if_pos c2,decide_eq_false c3]at h;split at h<;>simp at h
     · rw[if_pos c1,if_neg c2]at h;split at h<;>simp at h
   · rw[if_neg c1]at h;split at h<;>simp at h
theorem pairsOf_nil (ys l:List S42) (h:∀x∈l,∀y∈ys,clashB x y=false):pairsOf ys l = []:=by
 have hr:∀(x:S42) (zs:List S42),(∀y∈zs,clashB x y=false)→rowOf x zs = []:=by
  intro x zs
  induction zs with
  | nil=>intro _;rfl
  | cons z zs ih=>intro hz;rw[rowOf,hz z (by simp),if_neg (by simp)];exact ih (fun y hy=>hz y (by simp[hy]))
 induction l with
 | nil=>rfl
 | cons x l ih=>rw[pairsOf,hr x ys (h x (by simp)),ih (fun z hz=>h z (by simp[hz]))];rfl
theorem no_clash (o a b:List S42) (h:(mergeR o a b).2=true):clashR o a b=([],true):=by
 obtain⟨ho,ha,hb,hg,_⟩:=mergeR_true o a b h
 have hp:=((good_iff _).1 hg).2.1
 have hm:∀x,x∈srt (mergeL o a b)↔x∈mergeL o a b:=fun x=>(srt_perm _).mem_iff
 rw[clashR,ho,ha,hb,if_pos (show(true && (true && true))=true from rfl),pairsOf_nil]
 intro x hx y hy
 rw[mem_less]at hx hy
 have h1:x∈srt (mergeL o a b):=(hm x).2 ((mem_mergeL o a b x).2 (.inr (.inl hx)))
 have h2:y∈srt (mergeL o a b):=(hm y).2 ((mem_mergeL o a b y).2 (by
  by_cases c:y∈a
  · exact .inr (.inl ⟨c,hy.2⟩)
  · exact .inr (.inr ⟨hy.1,hy.2,c⟩)))
 cases g:clashB x y with
 | false=>rfl
 | true=>
   obtain⟨n,e,u,v⟩:=clash_of x y g
   rcases pair_two _ hp x h1 y h2 with q | q | q
   · exact absurd q n
   · have:=q.2;unfold meets at this;simp at this;omega
   · have:=q.2;unfold meets at this;simp at this;omega
theorem fold_ok (m:List S42) (hm:good m=true) (l:List S42):∀s:List S42×Nat,good s.1=true→(∀x∈s.1,x∈m)→(s.1 ++ l).Nodup→(∀x∈l,x∈m) →
 (l.foldl putH s).2=s.2∧good (l.foldl putH s).1=true∧(l.foldl putH s).1.Perm (s.1 ++ l):=by
 induction l with
 | nil=>intro s hs _ _ _;exact⟨rfl,hs,by simp⟩
 | cons x l ih=>
   intro s hs h1 h2 h3
   have hn:(s.1 ++ [x]).Nodup:=by
    have e:s.1 ++ x :: l=(s.1 ++ [x]) ++ l:=by simp
    rw[e]at h2;exact(List.nodup_append.1 h2).1
   have hk:∀y∈s.1 ++ [x],y∈m:=by
    intro y hy
    rcases List.mem_append.1 hy with q | q
    · exact h1 y q
    · rw[List.mem_singleton.1 q];exact h3 x (by simp)
   have hg:=good_sub m _ hm hn hk
   have hp:=srt_perm (s.1 ++ [x])
   have e:putH s x=(srt (s.1 ++ [x]),s.2):=by rw[putH,if_pos hg]
   have hq:(srt (s.1 ++ [x]) ++ l).Perm (s.1 ++ x :: l):=by
    have:=hp.append_right l
    simpa using this
   obtain⟨r1,r2,r3⟩:=ih (srt (s.1 ++ [x]),s.2) hg (fun y hy=>hk y (hp.mem_iff.1 hy)) (hq.nodup_iff.2 h2) (fun y hy=>h3 y (by simp[hy]))
   rw[List.foldl_cons,e]
   exact⟨r1,r2,r3.trans hq⟩
theorem firstR_merged (o a b:List S42) (h:(mergeR o a b).2=true):firstR o a b=((mergeR o a b).1,0,true):=by
 obtain⟨ho,ha,hb,hg,e⟩:=mergeR_true o a b h
 have hm:∀x,x∈srt (mergeL o a b)↔x∈mergeL o a b:=fun x=>(srt_perm _).mem_iff
 have hp:(srt (firstA o a b) ++ moreB o a b).Perm (mergeL o a b):=(srt_perm (firstA o a b)).append_right _
 obtain⟨r1,r2,r3⟩:=fold_ok (srt (mergeL o a b)) hg (moreB o a b) (srt (firstA o a b),0) (firstA_good o a b ho ha)
  (fun x hx=>(hm x).2 (List.mem_append.2 (.inl ((srt_perm _).mem_iff.1 hx)))) (hp.nodup_iff.2 (mergeL_nodup o a b ho ha hb))
  (fun x hx=>(hm x).2 (List.mem_append.2 (.inr hx)))
 have r4:srt (mergeL o a b)=((moreB o a b).foldl putH (srt (firstA o a b),0)).1:=srt_of_perm _ _ r2 ((r3.trans hp).symm)
 rw[e,firstR,ho,ha,hb,if_pos (show(true && (true && true))=true from rfl),r1,r4]
 rfl
theorem fold_good (l:List S42):∀s:List S42×Nat,good s.1=true→good (l.foldl putH s).1=true∧(l.foldl putH s).2≤s.2+l.length:=by
 induction l with
 | nil=>intro s hs;exact⟨hs,by simp⟩
 | cons x l ih=>
   intro s hs
   rw[List.foldl_cons]
   by_cases g:good (srt (s.1 ++ [x]))=true
   · have e:putH s x=(srt (s.1 ++ [x]),s.2):=by rw[putH,if_pos g]
     rw[e]
     obtain⟨r1,r2⟩:=ih (srt (s.1 ++ [x]),s.2) g
     exact⟨r1,by simp only[List.length_cons];simp only at r2;omega⟩
   · have e:putH s x=(s.1,s.2+1):=by rw[putH,if_neg g]
     rw[e]
     obtain⟨r1,r2⟩:=ih (s.1,s.2+1) hs
     exact⟨r1,by simp only[List.length_cons];simp only at r2;omega⟩
theorem firstR_good (o a b:List S42) (ho:good o=true) (ha:good a=true) (hb:good b=true):good (firstR o a b).1=true∧0≤(firstR o a b).2.1∧(firstR o a b).2.1≤(b.length:Int)∧(firstR o a b).2.2=true:=by
 obtain⟨r1,r2⟩:=fold_good (moreB o a b) (srt (firstA o a b),0) (firstA_good o a b ho ha)
 have:=moreB_len o a b
 rw[firstR,ho,ha,hb,if_pos (show(true && (true && true))=true from rfl)]
 simp only at r2
 exact⟨r1,by simp,by simp only;omega,rfl⟩
theorem sameH_l0 (suf:List S42):∀pre:List S42,(pre ++ suf).length≤4000000→Ev (fun k=>laws_pSameHoles.l0 k (pre ++ suf) (pre ++ suf) ((pre ++ suf).length:Int) (pre.length:Int)) true:=by
 induction suf with
 | nil=>
   intro pre _
   refine ev_step (f:=fun _=>some _) (Ev.now _) (fun k=>?_)
   rw[laws_pSameHoles.l0,if_neg (by simp)]
 | cons x suf ih=>
   intro pre hl
   have h:=ih (pre ++ [x]) (by simp at hl ⊢;omega)
   rw[snoc_app,snoc_leni]at h
   have hl':(pre.length:Int)<((pre ++ x :: suf).length:Int):=by simp;omega
   refine ev_step h (fun k=>?_)
   rw[laws_pSameHoles.l0,if_pos hl',if_pos (by omega),if_pos hl',if_pos hl',if_neg (by simp),wrapS (by omega) (by simp at hl;omega)]
theorem sameHoles_ok (l:List S42) (h:l.length≤4000000):Ev (fun k=>laws_pSameHoles.f k l l) true:=by
 have:=sameH_l0 l [] (by simpa using h)
 refine Ev.congr (fun k=>?_) this
 rw[laws_pSameHoles.f,if_pos rfl]
 rfl
theorem rdR_mid (pre suf:List (List S42)) (x:List S42):rd_L3 (pre ++ x :: suf) (pre.length:Int)=x:=getD_mid _ _ _ _ _ (by simp)
theorem sameS_l0 (suf:List (List S42)) (hz:∀z∈suf,z.length≤4000000):∀pre:List (List S42),(pre ++ suf).length≤4000000→Ev (fun k=>laws_pSameSheets.l0 k (pre ++ suf) (pre ++ suf) ((pre ++ suf).length:Int) (pre.length:Int)) true:=by
 induction suf with
 | nil=>
   intro pre _
   refine ev_step (f:=fun _=>some _) (Ev.now _) (fun k=>?_)
   rw[laws_pSameSheets.l0,if_neg (by simp)]
 | cons x suf ih=>
   intro pre hl
   have h:=ih (fun z q=>hz z (by simp[q])) (pre ++ [x]) (by simp at hl ⊢;omega)
   rw[snoc_app,snoc_leni]at h
   have hl':(pre.length:Int)<((pre ++ x :: suf).length:Int):=by simp;omega
   obtain⟨K1,e1⟩:=sameHoles_ok x (hz x (by simp))
   obtain⟨K2,e2⟩:=h
   refine⟨K1+K2+1,fun k hk=>?_⟩
   obtain⟨q,rfl⟩:∃q,k=q+1:=⟨k-1,by omega⟩
   have e1:=e1 q (by omega)
   have e2:=e2 q (by omega)
   dsimp only at e1 e2 ⊢
   rw[laws_pSameSheets.l0,if_pos hl',if_pos (by omega),if_pos hl',if_pos hl',rdR_mid,e1,Option.bind_some,if_pos rfl,wrapS (by omega) (by simp at hl;omega)]
   exact e2
theorem sameSheets_ok (l:List (List S42)) (h:l.length≤4000000) (hz:∀z∈l,z.length≤4000000):Ev (fun k=>laws_pSameSheets.f k l l) true:=by
 have:=sameS_l0 l hz [] (by simpa using h)
 refine Ev.congr (fun k=>?_) this
 rw[laws_pSameSheets.f,if_pos rfl]
 rfl

/-! the law, join by join -/
theorem u8_bytes {l:List Int} (h:∀x∈l,(Lit.int .u8 x).wf=true):bytesOk l:=by
 intro x hx
 have:=h x hx
 simp[Lit.wf,IntKind.min,IntKind.max,IntKind.bits,IntKind.signed]at this
 omega
theorem ne2 (x:Bool):¬(x != x)=true:=by simp
theorem law_j5 {x1:List Int} (hb:bytesOk x1):Ev (fun k=>laws_FnMerges.j5 k x1 false) true:=by
 obtain⟨o,a,b,⟨K1,e1⟩,ho,ha,hb'⟩:=drawFirst_ok hb
 obtain⟨K2,e2⟩:=implFirst_ok o a b (by omega) (by omega) (by omega)
 obtain⟨K3,e3⟩:=specFirst_ok o a b (by omega) (by omega) (by omega)
 obtain⟨K4,e4⟩:=sameHoles_ok (firstR o a b).1 (by have:=firstR_len o a b;omega)
 refine⟨K1+K2+K3+K4+1,fun k hk=>?_⟩
 obtain⟨q,rfl⟩:∃q,k=q+1:=⟨k-1,by omega⟩
 have e1:=e1 q (by omega)
 have e2:=e2 q (by omega)
 have e3:=e3 q (by omega)
 have e4:=e4 q (by omega)
 dsimp only at e1 e2 e3 e4 ⊢
 rw[laws_FnMerges.j5,if_neg (by simp),e1,Option.bind_some]
 dsimp only
 rw[e2,Option.bind_some,e3,Option.bind_some,if_pos (by simp),e4,Option.bind_some,if_pos rfl]
 simp
theorem law_j4 {x1:List Int} (hb:bytesOk x1) (o a b:List S42):Ev (fun k=>laws_FnMerges.j4 k x1 b (firstR o a b).1 (firstR o a b).2.2 (firstR o a b).2.1) true:=by
 by_cases g:(good o && (good a && good b))=true
 · have g':=g
   simp only[Bool.and_eq_true]at g'
   obtain⟨r1,r2,r3,r4⟩:=firstR_good o a b g'.1 g'.2.1 g'.2.2
   obtain⟨K1,e1⟩:=isSheet_ok (firstR o a b).1 (by have:=firstR_len o a b;omega)
   obtain⟨K2,e2⟩:=law_j5 hb
   refine⟨K1+K2+1,fun k hk=>?_⟩
   obtain⟨q,rfl⟩:∃q,k=q+1:=⟨k-1,by omega⟩
   have e1:=e1 q (by omega)
   have e2:=e2 q (by omega)
   dsimp only at e1 e2 ⊢
   rw[laws_FnMerges.j4,r4,if_pos rfl,e1,r1,Option.bind_some,if_pos rfl,if_neg (by omega),show decide ((firstR o a b).2.1>(b.length:Int))=false from decide_eq_false (by omega)]
   exact e2
 · have e:(firstR o a b).2.2=false:=by rw[firstR,if_neg g]
   refine ev_step (law_j5 hb) (fun k=>?_)
   rw[laws_FnMerges.j4,e,if_neg (by simp)]
theorem rowOf_mem (x:S42) (l:List S42):∀z∈rowOf x l,∃y,z = [x,y]∧clashB x y=true:=by
 induction l with
 | nil=>intro z hz;rw[rowOf]at hz;cases hz
 | cons y l ih=>
   intro z hz
   rw[rowOf]at hz
   by_cases c:clashB x y=true
   · rw[if_pos c]at hz
     rcases List.mem_cons.1 hz with e | e
     · exact⟨y,e,c⟩
     · exact ih z e
   · rw[if_neg c]at hz
     exact ih z hz
theorem pairsOf_mem (ys l:List S42):∀z∈pairsOf ys l,∃x y,z = [x,y]∧clashB x y=true:=by
 induction l with
 | nil=>intro z hz;rw[pairsOf]at hz;cases hz
 | cons x l ih=>
   intro z hz
   rw[pairsOf]at hz
   rcases List.mem_append.1 hz with e | e
   · obtain⟨y,h⟩:=rowOf_mem x ys z e;exact⟨x,y,h⟩
   · exact ih z e
theorem clashR_mem (o a b:List S42):∀z∈(clashR o a b).1,∃x y,z = [x,y]∧clashB x y=true:=by
 intro z hz
 rw[clashR]at hz
 by_cases g:(good o && (good a && good b))=true
 · rw[if_pos g]at hz;exact pairsOf_mem _ _ z hz
 · rw[if_neg g]at hz;cases hz
theorem hole_ne (x y:S42) (h:x≠y):¬((x.f0 == y.f0) && ((x.f1 == y.f1) && (x.f2 == y.f2)))=true:=by
 intro c
 simp only[Bool.and_eq_true,beq_iff_eq]at c
 obtain⟨c1,c2,c3⟩:=c
 cases x;cases y;simp only at c1 c2 c3;subst c1;subst c2;subst c3;exact h rfl
theorem law_l0 {x1:List Int} (hb:bytesOk x1) (o a b:List S42) (suf:List (List S42)):∀pre:List (List S42),(∀z∈suf,∃x y,z = [x,y]∧clashB x y=true)→(pre ++ suf).length≤4000000 →
 Ev (fun k=>laws_FnMerges.l0 k x1 b (firstR o a b).1 (firstR o a b).2.2 (firstR o a b).2.1 (pre ++ suf) ((pre ++ suf).length:Int) (pre.length:Int)) true:=by
 induction suf with
 | nil=>
   intro pre _ _
   refine ev_step (law_j4 hb o a b) (fun k=>?_)
   rw[laws_FnMerges.l0,if_neg (by simp)]
 | cons z suf ih=>
   intro pre hz hl
   have h:=ih (pre ++ [z]) (fun w q=>hz w (by simp[q])) (by simp at hl ⊢;omega)
   rw[snoc_app,snoc_leni]at h
   have hl':(pre.length:Int)<((pre ++ z :: suf).length:Int):=by simp;omega
   obtain⟨x,y,e,c⟩:=hz z (by simp)
   obtain⟨c1,c2,c3,c4⟩:=clash_of x y c
   refine ev_step h (fun k=>?_)
   rw[laws_FnMerges.l0,if_pos hl',if_pos (by omega),if_pos hl',rdR_mid,e,if_pos (show((([x,y]:List S42).length:Nat):Int)=2 from rfl),if_pos (show(0:Int)<((([x,y]:List S42).length:Nat):Int) from(show(0:Int)<2 by decide)),if_pos (show(1:Int)<((([x,y]:List S42).length:Nat):Int) from(show(1:Int)<2 by decide)),show rd_T42 [x,y] 0=x from rfl,show rd_T42 [x,y] 1=y from rfl,if_neg (hole_ne x y c1),if_pos c2,if_neg (by omega),if_neg (by omega),wrapS (by omega) (by simp at hl;omega)]
theorem law_j2 {x1:List Int} (hb:bytesOk x1) (o a b:List S42):Ev (fun k=>laws_FnMerges.j2 k x1 b (clashR o a b).1 (firstR o a b).1 (firstR o a b).2.2 (firstR o a b).2.1 false) true:=by
 have h:=law_l0 hb o a b (clashR o a b).1 [] (clashR_mem o a b) (by have:=(clashR_spec o a b).1;simpa using (by omega:(clashR o a b).1.length≤4000000))
 refine ev_step h (fun k=>?_)
 rw[laws_FnMerges.j2,if_neg (by simp)]
 rfl
theorem clashR_true (o a b:List S42) (h:(clashR o a b).2=true):good o=true∧good a=true∧good b=true:=by
 rw[clashR]at h
 by_cases g:(good o && (good a && good b))=true
 · simp only[Bool.and_eq_true]at g;exact⟨g.1,g.2.1,g.2.2⟩
 · rw[if_neg g]at h;cases h
theorem law_j1 {x1:List Int} (hb:bytesOk x1) (o a b:List S42) (ho:o.length≤61) (ha:a.length≤61) (hb':b.length≤61):Ev (fun k=>laws_FnMerges.j1 k x1 o a b (clashR o a b).2 (clashR o a b).1 (firstR o a b).1 (firstR o a b).2.2 (firstR o a b).2.1) true:=by
 by_cases g:(clashR o a b).2=true
 · obtain⟨g1,g2,g3⟩:=clashR_true o a b g
   obtain⟨K1,e1⟩:=implMerge_ok o a o (by omega) (by omega) (by omega)
   obtain⟨K2,e2⟩:=implMerge_ok o b b (by omega) (by omega) (by omega)
   obtain⟨K3,e3⟩:=sameHoles_ok a (by omega)
   obtain⟨K4,e4⟩:=sameHoles_ok b (by omega)
   obtain⟨K5,e5⟩:=law_j2 hb o a b
   rw[mergeR_base o a g1 g2]at e1
   rw[mergeR_same o b g1 g3]at e2
   refine⟨K1+K2+K3+K4+K5+1,fun k hk=>?_⟩
   obtain⟨q,rfl⟩:∃q,k=q+1:=⟨k-1,by omega⟩
   have e1:=e1 q (by omega)
   have e2:=e2 q (by omega)
   have e3:=e3 q (by omega)
   have e4:=e4 q (by omega)
   have e5:=e5 q (by omega)
   dsimp only at e1 e2 e3 e4 e5 ⊢
   rw[laws_FnMerges.j1,if_pos g,e1,Option.bind_some,e2,Option.bind_some,if_pos rfl,e3,Option.bind_some,if_pos rfl,if_pos rfl,e4,Option.bind_some]
   exact e5
 · refine ev_step (law_j4 hb o a b) (fun k=>?_)
   rw[laws_FnMerges.j1,if_neg g]
theorem law_j0 {x1:List Int} (hb:bytesOk x1) (o a b:List S42) (ho:o.length≤61) (ha:a.length≤61) (hb':b.length≤61):Ev (fun k=>laws_FnMerges.j0 k x1 o a b (mergeR o a b).2 (mergeR o a b).1 (clashR o a b).2 (clashR o a b).1 (firstR o a b).1 (firstR o a b).2.2 (firstR o a b).1 (firstR o a b).2.1 false) true:=by
 have h1:=law_j1 hb o a b ho ha hb'
 by_cases g:(mergeR o a b).2=true
 · have f:=firstR_merged o a b g
   have f1:(firstR o a b).1=(mergeR o a b).1:=by rw[f]
   have f2:(firstR o a b).2.1=0:=by rw[f]
   have f3:(firstR o a b).2.2=true:=by rw[f]
   obtain⟨K1,e1⟩:=implMerge_ok o b a (by omega) (by omega) (by omega)
   obtain⟨K2,e2⟩:=sameHoles_ok (mergeR o a b).1 (by have:=mergeR_len o a b;omega)
   obtain⟨K3,e3⟩:=h1
   rw[mergeR_swap o a b g]at e1
   refine⟨K1+K2+K3+1,fun k hk=>?_⟩
   obtain⟨q,rfl⟩:∃q,k=q+1:=⟨k-1,by omega⟩
   have e1:=e1 q (by omega)
   have e2:=e2 q (by omega)
   have e3:=e3 q (by omega)
   dsimp only at e1 e2 e3 ⊢
   have e4:laws_pSameHoles.f q (firstR o a b).1 (mergeR o a b).1=some true:=by rw[f1];exact e2
   rw[laws_FnMerges.j0,if_neg (by simp),if_pos g,e1,Option.bind_some,if_pos g,e2,Option.bind_some,if_pos rfl,if_pos f3,if_pos f2,e4,Option.bind_some,if_pos rfl]
   exact e3
 · refine ev_step h1 (fun k=>?_)
   rw[laws_FnMerges.j0,if_neg (by simp),if_neg g]
theorem mergeR_of_clash (o a b:List S42) (h:(mergeR o a b).2=true):(clashR o a b).2=true:=by rw[no_clash o a b h]
theorem firstR_clash (o a b:List S42) (h:(firstR o a b).2.2=true):(clashR o a b).2=true:=by
 rw[firstR]at h;rw[clashR]
 by_cases g:(good o && (good a && good b))=true
 · rw[if_pos g]
 · rw[if_neg g]at h;cases h
set_option maxHeartbeats 4000000 in
theorem FnMerges:laws_FnMerges.Pure:=by
 intro l0 l1 hm0 hb0 hw0 hm1 hb1 hw1
 by_cases big:(l0.length:Int)>1048576
 · exact⟨0,by rw[laws_FnMerges.f,laws_big.f,if_pos big,Option.bind_some,if_pos rfl]⟩
 have eb:laws_big.f l0 l1=some (decide ((l1.length:Int)>wrap64 (1048576-(l0.length:Int)))):=by rw[laws_big.f,if_neg big]
 cases hbig:decide ((l1.length:Int)>wrap64 (1048576-(l0.length:Int))) with
 | true=>exact⟨0,by rw[laws_FnMerges.f,eb,hbig,Option.bind_some,if_pos rfl]⟩
 | false=>
 rw[hbig]at eb
 obtain⟨o,a,b,⟨K1,e1⟩,ho,ha,hb⟩:=drawMerge_ok (u8_bytes hw0)
 obtain⟨K2,e2⟩:=implMerge_ok o a b (by omega) (by omega) (by omega)
 obtain⟨K3,e3⟩:=specMerge_ok o a b (by omega) (by omega) (by omega)
 obtain⟨K4,e4⟩:=implClash_ok o a b (by omega) (by omega) (by omega)
 obtain⟨K5,e5⟩:=specClash_ok o a b (by omega) (by omega) (by omega)
 obtain⟨K6,e6⟩:=implFirst_ok o a b (by omega) (by omega) (by omega)
 obtain⟨K7,e7⟩:=specFirst_ok o a b (by omega) (by omega) (by omega)
 obtain⟨K8,e8⟩:=sameHoles_ok (mergeR o a b).1 (by have:=mergeR_len o a b;omega)
 obtain⟨K9,e9⟩:=sameSheets_ok (clashR o a b).1 (by have:=(clashR_spec o a b).1;omega) (fun z hz=>by have:=(clashR_spec o a b).2 z hz;omega)
 obtain⟨K10,e10⟩:=sameHoles_ok (firstR o a b).1 (by have:=firstR_len o a b;omega)
 obtain⟨K11,e11⟩:=law_j0 (u8_bytes hw1) o a b ho ha hb
 have m1:=mergeR_of_clash o a b
 have m2:=firstR_clash o a b
 have m3:(mergeR o a b).2=true→decide (((clashR o a b).1.length:Int)>0)=false:=by intro h;rw[no_clash o a b h];rfl
 have m4:(mergeR o a b).2=true→(firstR o a b).2.2=true:=by intro h;rw[firstR_merged o a b h]
 dsimp only at e1 e2 e3 e4 e5 e6 e7 e8 e9 e10 e11
 refine⟨K1+K2+K3+K4+K5+K6+K7+K8+K9+K10+K11,?_⟩
 generalize hK:K1+K2+K3+K4+K5+K6+K7+K8+K9+K10+K11=k
 rw[laws_FnMerges.f,eb,Option.bind_some,if_neg (by simp),e1 k (by omega),Option.bind_some]
 dsimp only
 rw[e2 k (by omega),Option.bind_some,e3 k (by omega),Option.bind_some,e4 k (by omega),Option.bind_some,e5 k (by omega),Option.bind_some,e6 k (by omega),Option.bind_some,e7 k (by omega),Option.bind_some]
 rw[if_neg (ne2 _),e8 k (by omega),Option.bind_some,if_pos rfl,if_neg (ne2 _),e9 k (by omega),Option.bind_some,if_pos rfl,if_neg (ne2 _),e10 k (by omega),Option.bind_some,if_pos rfl,if_pos rfl]
 have e11:=e11 k (by omega)
 by_cases g:(mergeR o a b).2=true
 · rw[if_pos g,if_pos (m1 g),if_pos (m4 g),m3 g]
   exact e11
 · rw[if_neg g]
   by_cases g2:(firstR o a b).2.2=true
   · rw[if_pos g2,if_pos (m2 g2)]
     exact e11
   · rw[if_neg g2]
     exact e11

end Go.Proofs.Ytplpjmhmochcfaa.Pure
