/- Plain lemmas on what the printed functions of this law compute; each with the conditions that it names. -/
import Derived.Test.YtcnegcdmmackeaaGreatLFnEditionsB
import Derived.Test.YtcnegcdmmackeaaGreatLFnEditionsA
import Derived.Test.YtcnegcdmmackeaaGreatQFnEditionsx3
import Derived.Test.YtcnegcdmmackeaaGreatQFnEditionsx4
import Derived.Test.YtcnegcdmmackeaaGreatQFnEditionsx5
import Derived.Test.YtcnegcdmmackeaaGreatQFnEditionsx6
import Derived.Test.YtcnegcdmmackeaaGreatQFnEditionsx7
import Derived.Test.YtcnegcdmmackeaaGreatQFnEditionsx8
import Derived.Test.YtcnegcdmmackeaaGreatQFnEditionsx9
import Derived.Test.YtcnegcdmmackeaaGreatQFnEditionsx10
import Derived.Test.YtcnegcdmmackeaaGreatQFnEditionsx11
import Derived.Test.YtcnegcdmmackeaaGreatQFnEditionsx12
import Derived.Test.YtcnegcdmmackeaaGreatQFnEditionsx13
import Derived.Test.YtcnegcdmmackeaaGreatQFnEditionsx14
import Derived.Test.YtcnegcdmmackeaaGreatQFnEditionsx15
import Derived.Test.YtcnegcdmmackeaaGreatQFnEditionsx16
import Derived.Test.YtcnegcdmmackeaaGreatQFnEditionsx17
import Derived.Test.YtcnegcdmmackeaaGreatQFnEditionsx18
import Derived.Test.YtcnegcdmmackeaaGreatQFnEditionsx19
import Derived.Test.YtcnegcdmmackeaaGreatQFnEditionsx20
import Derived.Test.YtcnegcdmmackeaaGreatQFnEditionsx21
import Derived.Test.YtcnegcdmmackeaaGreatQFnEditionsx22
import Derived.Test.YtcnegcdmmackeaaGreatQFnEditionsx23
import Derived.Test.YtcnegcdmmackeaaGreatBaseE
import Derived.Laws.Bits64b
namespace Go.Proofs.YtcnegcdmmackeaaGreat.LFnEditionsF
open Go Go.RowKit Go.Proofs.YtcnegcdmmackeaaGreat.QFnEditions Go.Proofs.YtcnegcdmmackeaaGreatW.PrintWords Go.Proofs.YtcnegcdmmackeaaGreatW.PrintLast Go.Proofs.YtcnegcdmmackeaaGreatW.PrintMore Go.Proofs.YtcnegcdmmackeaaGreat.Base Go.Proofs.YtcnegcdmmackeaaGreat.LFnEditionsA Go.Proofs.YtcnegcdmmackeaaGreat.LFnEditionsB Go.Proofs.YtcnegcdmmackeaaGreat.LFnEditionsC
set_option linter.unusedVariables false
set_option linter.unusedSimpArgs false

theorem cutL_none (a b:Int) (hab:b≤a):∀(l:List S46) (p:Int),cutL a b p l = []
 | [],_=>rfl
 | x :: l,p=>by rw[cutL,if_neg (by omega)];exact cutL_none a b hab l _
theorem total_app (l m:List S46):total (l ++ m)=total l+total m:=by
 induction l with
 | nil=>simp[total]
 | cons x l ih=>simp only[List.cons_append,total,ih];omega
theorem at_app (m:List S46):∀(l:List S46) (s:Int),l.all partOk=true→total l≤s→at_ (l ++ m) s=at_ m (s-total l)
 | [],s,_,_=>by rw[List.nil_append,total,Int.sub_zero]
 | x :: l,s,h,hs=>by
   simp only[List.all_cons,Bool.and_eq_true]at h
   have:=(total_ge h.2).1
   simp only[total]at hs ⊢
   rw[List.cons_append,at_,if_neg (by omega),at_app m l _ h.2 (by omega)]
   congr 1;omega
theorem cutParts_ok (l:List S46) (a b:Int) (hg:partsGood l=true) (ha:0≤a∧a≤2000) (hb:0≤b∧b≤2000):Ev (fun k=>Zx.f k l a b) (cutL a b 0 l):=by
 obtain⟨g1,g2,_⟩:=good_parts hg
 have e:=implCut_l0 a b ha.1 ha.2 hb.1 hb.2 l g1 [] [] 0 (by simp;omega) (by simp) (by omega) (by omega)
 exact Ev.congr (f:=fun k=>Zx.l0 k a b [] 0 l (l.length:Int) 0) (fun _=>rfl) (by simpa using e)
theorem edCut_ok (l:List S46) (a b:Int) (hg:partsGood l=true) (ha:0≤a∧a≤2000) (hb:0≤b∧b≤2000):Ev (fun k=>Zy.f k l a b) (cutL a b 0 l):=by
 obtain⟨g1,g2,_⟩:=good_parts hg
 have e:=specCut_l0 a b ha.1 ha.2 hb.1 hb.2 l g1 [] [] 0 (by simp;omega) (by simp) (by omega) (by omega)
 exact Ev.congr (f:=fun k=>Zy.l0 k a b [] 0 l (l.length:Int) 0) (fun _=>rfl) (by simpa using e)
def insL (l:List S46) (s:Int) (x:S46):List S46:=cutL 0 s 0 l ++ [x] ++ cutL s 2000 0 l
def insR (l:List S46) (s a b c:Int):List S46×Bool:=if(partsGood l=true∧0≤s∧s≤total l∧partOk ⟨a,b,c⟩=true)∧partsGood (insL l s ⟨a,b,c⟩)=true then(insL l s ⟨a,b,c⟩,true) else([],false)
theorem one_good (x:S46):partsGood [x]=partOk x:=by
 cases g:partOk x with
 | true=>exact parts_good (by simp[g]) (by simp) (by have:=ok_len g;simp only[total];omega)
 | false=>simp[partsGood,g]
theorem insL_len (l:List S46) (s:Int) (x:S46):(insL l s x).length≤2*l.length+1:=by
 have:=cutL_len 0 s l 0
 have:=cutL_len s 2000 l 0
 unfold insL
 simp only[List.length_append,List.length_cons,List.length_nil]
 omega
theorem insR_len (l:List S46) (s a b c:Int) (h:l.length≤1000):(insR l s a b c).1.length≤3000:=by
 have:=insL_len l s ⟨a,b,c⟩
 unfold insR
 split
 · dsimp only;omega
 · simp
theorem implIns_ok (l:List S46) (s a b c:Int) (h:l.length≤1000):Ev (fun k=>ZI.f k l s a b c) (insR l s a b c):=by
 have J:¬(partsGood l=true∧0≤s∧s≤total l∧partOk ⟨a,b,c⟩=true)→Ev (fun k=>ZI.j0 k l s true a b c) (insR l s a b c):=fun q=>ev_step (f:=fun _=>some _) (Ev.now _) (fun k=>by rw[ZI.j0,if_pos rfl,insR,if_neg (fun w=>q w.1)])
 refine Ev.bind (isEd_ok l (by omega)) ?_
 cases g:partsGood l with
 | false=>
   simp only[Bool.false_eq_true,if_false]
   exact J (fun w=>by rw[g]at w;exact Bool.false_ne_true w.1)
 | true=>
   simp only[if_true]
   by_cases c0:s<0
   · simp only[if_pos c0]
     exact J (fun w=>by omega)
   simp only[if_neg c0]
   obtain⟨g1,g2,g3,g4,g5⟩:=good_parts g
   refine Ev.bind (editionLength_ok l (by omega)) ?_
   simp only[g5]
   by_cases c1:s>total l
   · simp only[if_pos c1]
     exact J (fun w=>by omega)
   simp only[if_neg c1]
   refine Ev.bind (isEd_ok [⟨a,b,c⟩] (by simp)) ?_
   rw[one_good]
   cases q:partOk ⟨a,b,c⟩ with
   | false=>exact J (fun w=>by rw[q]at w;exact Bool.false_ne_true w.2.2.2)
   | true=>
     obtain⟨K1,e1⟩:=cutParts_ok l 0 s g (by omega) (by omega)
     obtain⟨K2,e2⟩:=cutParts_ok l s 2000 g (by omega) (by omega)
     have hn:=insL_len l s ⟨a,b,c⟩
     obtain⟨K3,e3⟩:=isEd_ok (insL l s ⟨a,b,c⟩) (by omega)
     have l1:=cutL_len 0 s l 0
     have l2:=cutL_len s 2000 l 0
     have q1:(cutL 0 s 0 l).length+([(⟨a,b,c⟩:S46)]).length<5864062014805:=by simp;omega
     have q2:(cutL 0 s 0 l ++ [(⟨a,b,c⟩:S46)]).length+(cutL s 2000 0 l).length<5864062014805:=by simp;omega
     dsimp only at e1 e2 e3
     refine⟨K1+K2+K3+1,fun k hk=>?_⟩
     obtain⟨m,rfl⟩:∃m,k=m+1:=⟨k-1,by omega⟩
     dsimp only
     rw[ZI.j0,if_neg (by simp),e1 m (by omega),Option.bind_some,Option.bind_some,if_pos q1,Option.bind_some,e2 m (by omega),Option.bind_some,if_pos q2,Option.bind_some]
     rw[show cutL 0 s 0 l ++ [(⟨a,b,c⟩:S46)] ++ cutL s 2000 0 l=insL l s ⟨a,b,c⟩ from rfl,e3 m (by omega),Option.bind_some,insR]
     cases z:partsGood (insL l s ⟨a,b,c⟩) with
     | true=>rw[if_pos rfl,if_pos ⟨⟨g,by omega,by omega,q⟩,rfl⟩]
     | false=>rw[if_neg (by simp),if_neg (by simp)]
theorem specIns_ok (l:List S46) (s a b c:Int) (h:l.length≤1000):Ev (fun k=>Zr.f k l s a b c) (insR l s a b c):=by
 have J:¬(partsGood l=true∧0≤s∧s≤total l∧partOk ⟨a,b,c⟩=true)→Ev (fun k=>Zr.j0 k l s true a b c) (insR l s a b c):=fun q=>ev_step (f:=fun _=>some _) (Ev.now _) (fun k=>by rw[Zr.j0,if_pos rfl,insR,if_neg (fun w=>q w.1)])
 refine Ev.bind (edGood_ok l (by omega)) ?_
 cases g:partsGood l with
 | false=>
   simp only[Bool.false_eq_true,if_false]
   exact J (fun w=>by rw[g]at w;exact Bool.false_ne_true w.1)
 | true=>
   simp only[if_true]
   simp only[edPart_ok,Option.bind_some]
   cases q:partOk ⟨a,b,c⟩ with
   | false=>
     simp only[Bool.false_eq_true,if_false]
     exact J (fun w=>by rw[q]at w;exact Bool.false_ne_true w.2.2.2)
   | true=>
     simp only[if_true]
     obtain⟨g1,g2,g3,g4,g5⟩:=good_parts g
     refine Ev.bind (edLength_ok l (by omega)) ?_
     simp only[g5,l1In_ok,Option.bind_some]
     by_cases c0:0≤s∧s≤total l
     · simp only[decide_eq_true c0,Bool.not_true]
       obtain⟨K1,e1⟩:=edCut_ok l 0 s g (by omega) (by omega)
       obtain⟨K2,e2⟩:=edCut_ok l s 2000 g (by omega) (by omega)
       have hn:=insL_len l s ⟨a,b,c⟩
       obtain⟨K3,e3⟩:=edGood_ok (insL l s ⟨a,b,c⟩) (by omega)
       have l1:=cutL_len 0 s l 0
       have l2:=cutL_len s 2000 l 0
       have q1:(cutL 0 s 0 l).length+([(⟨a,b,c⟩:S46)]).length<5864062014805:=by simp;omega
       have q2:(cutL 0 s 0 l ++ [(⟨a,b,c⟩:S46)]).length+(cutL s 2000 0 l).length<5864062014805:=by simp;omega
       dsimp only at e1 e2 e3
       refine⟨K1+K2+K3+1,fun k hk=>?_⟩
       obtain⟨m,rfl⟩:∃m,k=m+1:=⟨k-1,by omega⟩
       dsimp only
       rw[Zr.j0,if_neg (by simp),e1 m (by omega),Option.bind_some,Option.bind_some,if_pos q1,Option.bind_some,e2 m (by omega),Option.bind_some,if_pos q2,Option.bind_some]
       rw[show cutL 0 s 0 l ++ [(⟨a,b,c⟩:S46)] ++ cutL s 2000 0 l=insL l s ⟨a,b,c⟩ from rfl,e3 m (by omega),Option.bind_some,insR]
       cases z:partsGood (insL l s ⟨a,b,c⟩) with
       | true=>rw[if_pos rfl,if_pos ⟨⟨g,c0.1,c0.2,q⟩,rfl⟩]
       | false=>rw[if_neg (by simp),if_neg (by simp)]
     · simp only[decide_eq_false c0,Bool.not_false]
       exact J (fun w=>c0 ⟨w.2.1,w.2.2.1⟩)
/-- The step where a part was put in comes from that part, and the edition is longer by it. -/
theorem ins_law (l:List S46) (s a b c:Int) (h:(insR l s a b c).2=true):srcAtR (insR l s a b c).1 s=(a,b,true)∧partsGood (insR l s a b c).1=true∧partsGood l=true∧total (insR l s a b c).1=total l+(c-b)∧partOk ⟨a,b,c⟩=true∧0≤s∧s≤total l:=by
 unfold insR at h ⊢
 by_cases q:(partsGood l=true∧0≤s∧s≤total l∧partOk ⟨a,b,c⟩=true)∧partsGood (insL l s ⟨a,b,c⟩)=true
 · rw[if_pos q]
   obtain⟨⟨g,s0,s1,hx⟩,hi⟩:=q
   obtain⟨g1,g2,g3,g4,g5⟩:=good_parts g
   have ox:=ok_len hx
   have hlen:len1 (⟨a,b,c⟩:S46)=c-b:=rfl
   have tA:total (cutL 0 s 0 l)=s:=by
    by_cases z:0<s
    · have:=cutL_total 0 s z g1 0;omega
    · rw[cutL_none 0 s (by omega),total];omega
   have tB:total (cutL s 2000 0 l)=total l-s:=by
    by_cases z:s<2000
    · have:=cutL_total s 2000 z g1 0;omega
    · rw[cutL_none s 2000 (by omega),total];omega
   have tI:total (insL l s ⟨a,b,c⟩)=total l+(c-b):=by
    unfold insL
    rw[total_app,total_app,tA,tB,total,total,hlen];omega
   have aI:at_ (insL l s ⟨a,b,c⟩) s=(a,b):=by
    unfold insL
    rw[List.append_assoc,at_app _ _ _ (cutL_ok 0 s g1 0) (by omega),tA,Int.sub_self,List.cons_append,at_,if_pos (by omega),Int.add_zero]
   refine⟨?_,hi,g,tI,hx,s0,s1⟩
   dsimp only
   rw[srcAtR,if_pos ⟨hi,s0,by omega⟩,aI]
 · rw[if_neg q]at h
   exact absurd h (by simp)

end Go.Proofs.YtcnegcdmmackeaaGreat.LFnEditionsF
namespace Go.Proofs.YtcnegcdmmackeaaGreat.LFnEditionsG
open Go Go.RowKit Go.Proofs.YtcnegcdmmackeaaGreat.QFnEditions Go.Proofs.YtcnegcdmmackeaaGreatW.PrintWords Go.Proofs.YtcnegcdmmackeaaGreatW.PrintLast Go.Proofs.YtcnegcdmmackeaaGreatW.PrintMore Go.Proofs.YtcnegcdmmackeaaGreat.Base Go.Proofs.YtcnegcdmmackeaaGreat.LFnEditionsA Go.Proofs.YtcnegcdmmackeaaGreat.LFnEditionsB Go.Proofs.YtcnegcdmmackeaaGreat.LFnEditionsC
set_option linter.unusedVariables false
set_option linter.unusedSimpArgs false

def bytesOk (l:List Int):Prop:= ∀x∈l,0≤x∧x≤255
def lcg (s b:Int):Int:=(s*6364136223846793005+b+1442695040888963407) % 18446744073709551616
theorem and255 (x:Int) (h0:0≤x) (h1:x<18446744073709551616):Go.bits .and .u64 x 255=x % 256:=by
 obtain⟨n,rfl⟩:∃n:Nat,x=n:=⟨x.toNat,by omega⟩
 have h:=bits_and_u64_nat n 255 (by omega) (by omega)
 have h2:=Nat.and_two_pow_sub_one_eq_mod n 8
 rw[show(2:Nat) ^ 8-1=255 from rfl,show(2:Nat) ^ 8=256 from rfl]at h2
 rw[h2]at h
 exact h.trans (by omega)
theorem lcg_eq (s b:Int):IntKind.u64.wrap ((IntKind.u64.wrap ((IntKind.u64.wrap (s*6364136223846793005))+(IntKind.u64.wrap b)))+1442695040888963407)=lcg s b:=by
 simp only[IntKind.wrap_u64,lcg];omega
theorem lcg_eq0 (s:Int):IntKind.u64.wrap ((IntKind.u64.wrap (IntKind.u64.wrap (s*6364136223846793005)))+1442695040888963407)=lcg s 0:=by
 simp only[IntKind.wrap_u64,lcg];omega
theorem lcg_lt (s b:Int):0≤lcg s b∧lcg s b<18446744073709551616:=by unfold lcg;omega
theorem rd_byte {l:List Int} (hb:bytesOk l) (p:Int) (h0:0≤p) (h1:p<l.length):0≤rd l p∧rd l p≤255:=by
 obtain⟨n,rfl⟩:∃n:Nat,p=n:=⟨p.toNat,by omega⟩
 rw[rd_nat l n (by omega)]
 exact hb _ (List.getElem_mem _)
theorem next_in {l:List Int} (hb:bytesOk l) (p s:Int) (h0:0≤p) (h1:p<l.length) (h2:p≤4000000000000000000):Z6.f l p s=some (rd l p,p+1,lcg s (rd l p)):=by
 have hr:=rd_byte hb p h0 h1
 have hw:wrap64 (p+1)=p+1:=wrapS (by omega) (by omega)
 have hw2:wrap64 (rd l p)=rd l p:=wrapS (by omega) (by omega)
 rw[Z6.f,if_pos h1,if_pos h0,hw,if_pos (by omega),hw2,lcg_eq]
theorem next_out {l:List Int} (p s:Int) (h1:¬p<l.length) (h0:0≤p) (h2:p≤4000000000000000000):Z6.f l p s=some ((lcg s 0 / 1099511627776) % 256,p+1,lcg s 0):=by
 have hw:wrap64 (p+1)=p+1:=wrapS (by omega) (by omega)
 have hl:=lcg_lt s 0
 rw[Z6.f,if_neg h1,hw,if_neg (by omega),lcg_eq0,and255 _ (by omega) (by omega),wrapS (by omega) (by omega)]
theorem next_ok {l:List Int} (hb:bytesOk l) (p s:Int) (h0:0≤p) (h2:p≤4000000000000000000):∃b s',Z6.f l p s=some (b,p+1,s')∧0≤b∧b≤255:=by
 by_cases h:p<l.length
 · exact⟨_,_,next_in hb p s h0 h h2,rd_byte hb p h0 h⟩
 · exact⟨_,_,next_out p s h h0 h2,by omega,by omega⟩
theorem pick_ok {l:List Int} (hb:bytesOk l) (p s n:Int) (h0:0≤p) (h2:p≤3000000000000000000):∃r p' s',Zf.f l p s n=some (r,p',s')∧0≤r∧(1≤n→r<n)∧p≤p'∧p'≤p+2∧(2≤n→p+1≤p'):=by
 by_cases c:n≤1
 · exact⟨0,p,s,by rw[Zf.f,if_pos c],by omega,by omega,by omega,by omega,by omega⟩
 · obtain⟨b,s1,e1,b0,b1⟩:=next_ok hb p s h0 (by omega)
   by_cases d:n>200
   · obtain⟨b2,s2,e2,c0,c1⟩:=next_ok hb (p+1) s1 (by omega) (by omega)
     refine⟨Int.tmod (b*256+b2) n,p+1+1,s2,?_,?_,?_,by omega,by omega,by omega⟩
     · rw[Zf.f,if_neg c,e1]
       simp only[Option.bind_some]
       rw[if_pos d,e2]
       simp only[Option.bind_some]
       rw[if_neg (by omega),wrapS (x:=b*256) (by omega) (by omega),wrapS (by omega) (by omega)]
     · exact Int.tmod_nonneg _ (by omega)
     · intro _;exact Int.tmod_lt_of_pos _ (by omega)
   · refine⟨Int.tmod b n,p+1,s1,?_,?_,?_,by omega,by omega,by omega⟩
     · rw[Zf.f,if_neg c,e1]
       simp only[Option.bind_some]
       rw[if_neg d,if_neg (by omega)]
     · exact Int.tmod_nonneg _ (by omega)
     · intro _;exact Int.tmod_lt_of_pos _ (by omega)
theorem rd_mem {xs:List Int} (r:Int) (h0:0≤r) (h1:r<xs.length):rd xs r∈xs:=by
 obtain⟨n,rfl⟩:∃n:Nat,r=n:=⟨r.toNat,by omega⟩
 rw[rd_nat xs n (by omega)]
 exact List.getElem_mem _
theorem among_ok {l:List Int} (hb:bytesOk l) (p s:Int) (xs:List Int) (hx:1≤xs.length) (h0:0≤p) (h2:p≤3000000000000000000):∃r p' s',ZC.f l p s xs=some (r,p',s')∧r∈xs∧p≤p'∧p'≤p+2:=by
 obtain⟨r,p',s',e,r0,r1,q0,q1⟩:=pick_ok hb p s (xs.length:Int) h0 h2
 have r1:=r1 (by omega)
 refine⟨rd xs r,p',s',?_,rd_mem r r0 r1,q0,q1.1⟩
 rw[ZC.f,e]
 simp only[Option.bind_some]
 rw[if_pos r0,if_pos r1]
theorem one_ok {l:List Int} (hb:bytesOk l) (p s n:Int) (h0:0≤p) (h2:p≤3000000000000000000):∃r p' s',ZP.f l p s n=some (r,p',s')∧p≤p'∧p'≤p+2:=by
 obtain⟨r,p',s',e,_,_,q0,q1⟩:=pick_ok hb p s n h0 h2
 exact⟨r == 0,p',s',by rw[ZP.f,e];rfl,q0,q1.1⟩

theorem shWith_ok (l:List S62) (x:S62) (h:l.length≤60):Ev (fun k=>ZO.f k l x.f0 x.f1 x.f2) (sortedR (l ++ [x])):=by
 obtain⟨K,e⟩:=shSorted_ok (l ++ [x]) (by simp;omega)
 refine⟨K,fun k hk=>?_⟩
 have f:=e k hk
 dsimp only at f ⊢
 have m1:(([]:List S62).length+l.length)<5864062014805:=by simp;omega
 have m2:(([] ++ l:List S62).length+([(⟨x.f0,x.f1,x.f2⟩:S62)]:List S62).length)<5864062014805:=by simp;omega
 rw[ZO.f]
 simp only[Option.bind_some,m1,m2,if_true]
 rw[List.nil_append,show(l ++ [(⟨x.f0,x.f1,x.f2⟩:S62)])=l ++ [x] from rfl,f]
 rfl

theorem hole_ok {l:List Int} (hb:bytesOk l) (p s:Int) (h0:0≤p) (h2:p≤1000000000000000000):∃a b c p' s',Z0.f l p s=some (a,b,c,p',s')∧p≤p'∧p'≤p+12:=by
 obtain⟨i,p1,s1,e1,_,_,a1,b1⟩:=pick_ok hb p s 40 h0 (by omega)
 obtain⟨j,p2,s2,e2,_,_,a2,b2⟩:=pick_ok hb p1 s1 60 (by omega) (by omega)
 obtain⟨u,p3,s3,e3,_,a3,b3⟩:=among_ok hb p2 s2 (([0,2,5,i,j,1990]:List Int)) (by simp) (by omega) (by omega)
 obtain⟨k,p4,s4,e4,_,_,a4,b4⟩:=pick_ok hb p3 s3 20 (by omega) (by omega)
 obtain⟨v,p5,s5,e5,_,a5,b5⟩:=among_ok hb p4 s4 (([0,1,2,3,5,k]:List Int)) (by simp) (by omega) (by omega)
 obtain⟨w,p6,s6,e6,_,a6,b6⟩:=among_ok hb p5 s5 (([1,2,3,4,10]:List Int)) (by simp) (by omega) (by omega)
 refine⟨v,u,wrap64 (u+w),p6,s6,?_,by omega,by omega⟩
 rw[Z0.f,e1,Option.bind_some,e2,Option.bind_some,e3,Option.bind_some,e4,Option.bind_some,e5,Option.bind_some,e6,Option.bind_some]
theorem sheet_l0 {l:List Int} (hb:bytesOk l) (d:Nat):∀(x:List S62) (p s:Int),x.length+d=60→0≤p→p+2*d≤1000000000000000000 →
 ∃r p' s',Ev (fun k=>Zk.l0 k x l p s) (r,p',s')∧r.length≤60∧p≤p'∧p'≤p+2*d:=by
 induction d with
 | zero=>
   intro x p s hx h0 h2
   refine⟨x,p,s,ev_step (f:=fun _=>some _) (Ev.now _) (fun k=>?_),by omega,by omega,by omega⟩
   rw[Zk.l0,if_neg (by omega)]
 | succ d ih=>
   intro x p s hx h0 h2
   obtain⟨i,p1,s1,e1,_,_,a1,b1⟩:=pick_ok hb p s 5 h0 (by omega)
   obtain⟨r,p',s',e,hr,a2,b2⟩:=ih (x ++ [⟨3*((x.length:Int) % 5),wrap64 (6*(wrap64 ((x.length:Int) / 5))),wrap64 ((wrap64 ((wrap64 (6*(wrap64 ((x.length:Int) / 5))))+1))+i)⟩]) p1 s1 (by simp;omega) (by omega) (by omega)
   refine⟨r,p',s',ev_step e (fun k=>?_),hr,by omega,by omega⟩
   rw[Zk.l0,if_pos (by omega),e1,Option.bind_some,if_pos (by omega)]
theorem sheet_l1 {l:List Int} (hb:bytesOk l) (n:Int) (d:Nat):∀(i:Nat) (x:List S62) (p s:Int),i+d=60→x.length≤60→0≤p→p+12*d≤1000000000000000000 →
 ∃r p' s',Ev (fun k=>Zk.l1 k x n (i:Int) l p s) (r,p',s')∧r.length≤60∧p≤p'∧p'≤p+12*d:=by
 induction d with
 | zero=>
   intro i x p s hi hx h0 h2
   have J:Ev (fun k=>Zk.j2 k x n (i:Int) false l p s) (x,p,s):=ev_step (f:=fun _=>some _) (Ev.now _) (fun k=>by rw[Zk.j2,if_neg (by simp)])
   refine⟨x,p,s,ev_step J (fun k=>?_),by omega,by omega,by omega⟩
   rw[Zk.l1]
   by_cases c:(x.length:Int)<n
   · rw[if_pos c,show decide ((i:Int)<60)=false from decide_eq_false (by omega)]
   · rw[if_neg c]
 | succ d ih=>
   intro i x p s hi hx h0 h2
   by_cases c:(x.length:Int)<n
   · obtain⟨u,v,w,p1,s1,e1,a1,b1⟩:=hole_ok hb p s h0 (by omega)
     have hw:wrap64 ((i:Int)+1)=((i+1:Nat):Int):=wrapS (by omega) (by omega)
     obtain⟨K2,e2⟩:=shWith_ok x ⟨u,v,w⟩ hx
     obtain⟨y,g⟩:∃y,(if(sortedR (x ++ [⟨u,v,w⟩])).2=true then(sortedR (x ++ [⟨u,v,w⟩])).1 else x)=y:=⟨_,rfl⟩
     have hy:y.length≤60:=by rw[← g];split;exact sortedR_len _;exact hx
     obtain⟨r,p',s',⟨K3,e3⟩,hr,a2,b2⟩:=ih (i+1) y p1 s1 (by omega) hy (by omega) (by omega)
     refine⟨r,p',s',⟨K2+K3+2,fun k hk=>?_⟩,hr,by omega,by omega⟩
     obtain⟨q,rfl⟩:∃q,k=q+1+1:=⟨k-2,by omega⟩
     have e2:=e2 q (by omega)
     have e3:=e3 q (by omega)
     dsimp only at e2 e3 ⊢
     rw[Zk.l1,if_pos c,show decide ((i:Int)<60)=true from decide_eq_true (by omega),Zk.j2,if_pos rfl,e1,Option.bind_some]
     dsimp only
     rw[e2,Option.bind_some,hw]
     rw[← g]at e3
     split<;>rename_i z
     · rw[if_pos z]at e3;exact e3
     · rw[if_neg z]at e3;exact e3
   · have J:Ev (fun k=>Zk.j2 k x n (i:Int) false l p s) (x,p,s):=ev_step (f:=fun _=>some _) (Ev.now _) (fun k=>by rw[Zk.j2,if_neg (by simp)])
     refine⟨x,p,s,ev_step J (fun k=>?_),by omega,by omega,by omega⟩
     rw[Zk.l1,if_neg c]
theorem sheet_ok {l:List Int} (hb:bytesOk l) (p s:Int) (h0:0≤p) (h2:p≤100000000000000000):∃r p' s',Ev (fun k=>Zk.f k l p s) (r,p',s')∧r.length≤60∧p≤p'∧p'≤p+800:=by
 obtain⟨b,p1,s1,e1,a1,b1⟩:=one_ok hb p s 24 h0 (by omega)
 cases b with
 | true=>
   obtain⟨r,p',s',e,hr,a2,b2⟩:=sheet_l0 hb 60 [] p1 s1 (by simp) (by omega) (by omega)
   refine⟨r,p',s',Ev.congr (fun k=>?_) e,hr,by omega,by omega⟩
   rw[Zk.f,e1,Option.bind_some,if_pos rfl]
 | false=>
   obtain⟨n,p2,s2,e2,_,_,a2,b2⟩:=pick_ok hb p1 s1 9 (by omega) (by omega)
   obtain⟨r,p',s',e,hr,a3,b3⟩:=sheet_l1 hb n 60 0 [] p2 s2 (by omega) (by simp) (by omega) (by omega)
   refine⟨r,p',s',Ev.congr (fun k=>?_) e,hr,by omega,by omega⟩
   rw[Zk.f,e1,Option.bind_some,if_neg (by simp),e2,Option.bind_some]
   rfl
theorem anyHole_ok {l:List Int} (hb:bytesOk l) (p s:Int) (h0:0≤p) (h2:p≤100000000000000000):∃a b c p' s',Yc.f l p s=some (a,b,c,p',s')∧p≤p'∧p'≤p+20:=by
 obtain⟨u,v,w,p1,s1,e1,a1,b1⟩:=hole_ok hb p s h0 (by omega)
 obtain⟨q,p2,s2,e2,_,_,a2,b2⟩:=pick_ok hb p1 s1 24 (by omega) (by omega)
 by_cases c0:q=0
 · obtain⟨z,p3,s3,e3,_,a3,b3⟩:=among_ok hb p2 s2 (([(-1),19,20]:List Int)) (by simp) (by omega) (by omega)
   refine⟨z,v,w,p3,s3,?_,by omega,by omega⟩
   rw[Yc.f,e1,Option.bind_some,e2,Option.bind_some,if_pos c0,e3,Option.bind_some]
 by_cases c1:q=1
 · obtain⟨z,p3,s3,e3,_,a3,b3⟩:=among_ok hb p2 s2 (([(-1),w]:List Int)) (by simp) (by omega) (by omega)
   refine⟨u,z,w,p3,s3,?_,by omega,by omega⟩
   rw[Yc.f,e1,Option.bind_some,e2,Option.bind_some,if_neg c0,if_pos c1,e3,Option.bind_some]
 by_cases c2:q=2
 · obtain⟨z,p3,s3,e3,_,a3,b3⟩:=among_ok hb p2 s2 (([v,2000,2001]:List Int)) (by simp) (by omega) (by omega)
   refine⟨u,v,z,p3,s3,?_,by omega,by omega⟩
   rw[Yc.f,e1,Option.bind_some,e2,Option.bind_some,if_neg c0,if_neg c1,if_pos c2,e3,Option.bind_some]
 · refine⟨u,v,w,p2,s2,?_,by omega,by omega⟩
   rw[Yc.f,e1,Option.bind_some,e2,Option.bind_some,if_neg c0,if_neg c1,if_neg c2]
theorem anySheet_l0 (l:List Int) (p s:Int) (d:Nat):∀x:List S62,x.length+d=61 →
 ∃r,Ev (fun k=>Zu.l0 k x l p s) (r,p,s)∧r.length≤61:=by
 induction d with
 | zero=>
   intro x hx
   refine⟨x,ev_step (f:=fun _=>some _) (Ev.now _) (fun k=>?_),by omega⟩
   rw[Zu.l0,if_neg (by omega)]
 | succ d ih=>
   intro x hx
   obtain⟨r,e,hr⟩:=ih (x ++ [⟨1,wrap64 (3*(x.length:Int)),wrap64 ((wrap64 (3*(x.length:Int)))+1)⟩]) (by simp;omega)
   refine⟨r,ev_step e (fun k=>?_),hr⟩
   rw[Zu.l0,if_pos (by omega),if_pos (by omega)]
theorem anySheet_ok {l:List Int} (hb:bytesOk l) (p s:Int) (h0:0≤p) (h2:p≤10000000000000000):∃r p' s',Ev (fun k=>Zu.f k l p s) (r,p',s')∧r.length≤61∧p≤p'∧p'≤p+900:=by
 obtain⟨x,p1,s1,e1,hx,a1,b1⟩:=sheet_ok hb p s h0 (by omega)
 by_cases c:(x.length:Int)>0
 · obtain⟨i,p2,s2,e2,i0,i1,a2,b2⟩:=pick_ok hb p1 s1 (x.length:Int) (by omega) (by omega)
   have i1:=i1 (by omega)
   obtain⟨q,p3,s3,e3,_,_,a3,b3⟩:=pick_ok hb p2 s2 30 (by omega) (by omega)
   by_cases c0:q=0
   · obtain⟨u,v,w,p4,s4,e4,a4,b4⟩:=anyHole_ok hb p3 s3 (by omega) (by omega)
     refine⟨x.set (i:Int).toNat ⟨u,v,w⟩,p4,s4,Ev.bind e1 (ev_of_eq (fun _=>?_)),by simp;omega,by omega,by omega⟩
     dsimp only
     rw[if_pos c,e2,Option.bind_some,e3,Option.bind_some,if_pos c0,e4,Option.bind_some,if_pos i0,if_pos i1]
   by_cases c1:q=1
   · refine⟨x ++ [⟨(rd_T62 x i).f0,(rd_T62 x i).f1,(rd_T62 x i).f2⟩],p3,s3,Ev.bind e1 (ev_of_eq (fun _=>?_)),by simp;omega,by omega,by omega⟩
     dsimp only
     rw[if_pos c,e2,Option.bind_some,e3,Option.bind_some,if_neg c0,if_pos c1,if_pos i0,if_pos i1,if_pos (by omega)]
   by_cases c2:q=2
   · refine⟨x ++ [⟨(rd_T62 x i).f0,(rd_T62 x i).f2,wrap64 (((rd_T62 x i).f2)+2)⟩],p3,s3,Ev.bind e1 (ev_of_eq (fun _=>?_)),by simp;omega,by omega,by omega⟩
     dsimp only
     rw[if_pos c,e2,Option.bind_some,e3,Option.bind_some,if_neg c0,if_neg c1,if_pos c2,if_pos i0,if_pos i1,if_pos (by omega)]
   by_cases c3:q=3
   · obtain⟨r,e5,hr⟩:=anySheet_l0 l p3 s3 61 [] (by simp)
     refine⟨r,p3,s3,Ev.bind e1 (Ev.congr (fun k=>?_) e5),hr,by omega,by omega⟩
     dsimp only
     rw[if_pos c,e2,Option.bind_some,e3,Option.bind_some,if_neg c0,if_neg c1,if_neg c2,if_pos c3]
   · refine⟨x,p3,s3,Ev.bind e1 (ev_of_eq (fun _=>?_)),by omega,by omega,by omega⟩
     dsimp only
     rw[if_pos c,e2,Option.bind_some,e3,Option.bind_some,if_neg c0,if_neg c1,if_neg c2,if_neg c3]
 · refine⟨x,p1,s1,Ev.bind e1 (ev_of_eq (fun _=>?_)),by omega,by omega,by omega⟩
   dsimp only
   rw[if_neg c]

theorem splice_ok {l:List Int} (hb:bytesOk l) (p s n:Int) (h0:0≤p) (h1:p≤1000000000000000000):∃a b c p' s',Z1.f l p s n=some (a,b,c,p',s')∧p≤p'∧p'≤p+8:=by
 obtain⟨i,p1,s1,e1,_,_,a1,b1⟩:=pick_ok hb p s 40 h0 (by omega)
 obtain⟨v,p2,s2,e2,_,a2,b2⟩:=among_ok hb p1 s1 (([0,2,4,i]:List Int)) (by simp) (by omega) (by omega)
 obtain⟨m,em⟩:∃m,ZQ.f 1 n=some m:=by unfold ZQ.f;split<;>exact⟨_,rfl⟩
 obtain⟨j,p3,s3,e3,_,_,a3,b3⟩:=pick_ok hb p2 s2 m (by omega) (by omega)
 obtain⟨w,p4,s4,e4,_,a4,b4⟩:=among_ok hb p3 s3 (([1,2,5,10,30]:List Int)) (by simp) (by omega) (by omega)
 refine⟨j,v,wrap64 (v+w),p4,s4,?_,by omega,by omega⟩
 rw[Z1.f,e1,Option.bind_some,e2,Option.bind_some,em,Option.bind_some,e3,Option.bind_some,e4,Option.bind_some]
theorem parts_l0 {l:List Int} (hb:bytesOk l) (y:Int) (n:Int) (hn:n≤13) (d:Nat):∀(x:List S46) (p s:Int),((x.length:Int)+d=n∨d=0∧n≤x.length∧x.length≤13)→0≤p→p+20*d≤500000000000000000 →
 ∃r p' s',Ev (fun k=>Zn.l0 k y x n l p s) (r,p',s')∧r.length≤13∧p≤p'∧p'≤p+20*d+10:=by
 induction d with
 | zero=>
   intro x p s hl h0 h1
   have hl2:n≤x.length∧x.length≤13:=by omega
   by_cases c:(x.length:Int)>0
   · obtain⟨i,p1,s1,e1,i0,i1,a1,b1⟩:=pick_ok hb p s (x.length:Int) h0 (by omega)
     have i1:=i1 (by omega)
     obtain⟨q,p2,s2,e2,_,_,a2,b2⟩:=pick_ok hb p1 s1 30 (by omega) (by omega)
     by_cases c0:q=0
     · obtain⟨v,p3,s3,e3,hv,a3,b3⟩:=among_ok hb p2 s2 (([(-1),3,4]:List Int)) (by decide) (by omega) (by omega)
       refine⟨x.set (i:Int).toNat ⟨v,(rd_T46 x i).f1,(rd_T46 x i).f2⟩,p3,s3,ev_step (f:=fun _=>some _) (Ev.now _) (fun k=>?_),by simpa using hl2.2,by omega,by omega⟩
       rw[Zn.l0,if_neg (by omega),if_pos c,e1,Option.bind_some,if_pos i0,if_pos i1,e2,Option.bind_some,if_pos c0,e3,Option.bind_some]
     by_cases c1:q=1
     · obtain⟨v,p3,s3,e3,hv,a3,b3⟩:=among_ok hb p2 s2 (([(-1),(rd_T46 x i).f2]:List Int)) (by simp) (by omega) (by omega)
       refine⟨x.set (i:Int).toNat ⟨(rd_T46 x i).f0,v,(rd_T46 x i).f2⟩,p3,s3,ev_step (f:=fun _=>some _) (Ev.now _) (fun k=>?_),by simpa using hl2.2,by omega,by omega⟩
       rw[Zn.l0,if_neg (by omega),if_pos c,e1,Option.bind_some,if_pos i0,if_pos i1,e2,Option.bind_some,if_neg c0,if_pos c1,e3,Option.bind_some]
     by_cases c2:q=2
     · obtain⟨v,p3,s3,e3,hv,a3,b3⟩:=among_ok hb p2 s2 (([(rd_T46 x i).f1,2000,2001]:List Int)) (by simp) (by omega) (by omega)
       refine⟨x.set (i:Int).toNat ⟨(rd_T46 x i).f0,(rd_T46 x i).f1,v⟩,p3,s3,ev_step (f:=fun _=>some _) (Ev.now _) (fun k=>?_),by simpa using hl2.2,by omega,by omega⟩
       rw[Zn.l0,if_neg (by omega),if_pos c,e1,Option.bind_some,if_pos i0,if_pos i1,e2,Option.bind_some,if_neg c0,if_neg c1,if_pos c2,e3,Option.bind_some]
     by_cases c3:q=3
     · obtain⟨v,p3,s3,e3,_,_,a3,b3⟩:=pick_ok hb p2 s2 2 (by omega) (by omega)
       refine⟨[(⟨0,0,1000⟩:S46),(⟨0,500,wrap64 (1500+v)⟩:S46)],p3,s3,ev_step (f:=fun _=>some _) (Ev.now _) (fun k=>?_),by simp,by omega,by omega⟩
       rw[Zn.l0,if_neg (by omega),if_pos c,e1,Option.bind_some,if_pos i0,if_pos i1,e2,Option.bind_some,if_neg c0,if_neg c1,if_neg c2,if_pos c3,e3,Option.bind_some]
     · refine⟨x,p2,s2,ev_step (f:=fun _=>some _) (Ev.now _) (fun k=>?_),hl2.2,by omega,by omega⟩
       rw[Zn.l0,if_neg (by omega),if_pos c,e1,Option.bind_some,if_pos i0,if_pos i1,e2,Option.bind_some,if_neg c0,if_neg c1,if_neg c2,if_neg c3]
   · refine⟨x,p,s,ev_step (f:=fun _=>some _) (Ev.now _) (fun k=>?_),hl2.2,by omega,by omega⟩
     rw[Zn.l0,if_neg (by omega),if_neg c]
 | succ d ih=>
   intro x p s hl h0 h1
   have hl2:(x.length:Int)+(d+1:Nat)=n:=by omega
   obtain⟨u,v,w,p1,s1,e1,a1,b1⟩:=splice_ok hb p s y h0 (by omega)
   by_cases c:(x.length:Int)>0
   · obtain⟨b,p2,s2,e2,a2,b2⟩:=one_ok hb p1 s1 4 (by omega) (by omega)
     cases b with
     | true=>
       have hw:wrap64 ((x.length:Int)-1)=(x.length:Int)-1:=wrapS (by omega) (by omega)
       obtain⟨q,p3,s3,e3,_,_,a3,b3⟩:=pick_ok hb p2 s2 9 (by omega) (by omega)
       obtain⟨r,p',s',e,hr,a4,b4⟩:=ih (x ++ [⟨(rd_T46 x ((x.length:Int)-1)).f0,(rd_T46 x ((x.length:Int)-1)).f2,wrap64 ((wrap64 (((rd_T46 x ((x.length:Int)-1)).f2)+1))+q)⟩]) p3 s3 (by simp;omega) (by omega) (by omega)
       refine⟨r,p',s',ev_step e (fun k=>?_),hr,by omega,by omega⟩
       rw[Zn.l0,if_pos (by omega),e1,Option.bind_some,if_pos c,e2,Option.bind_some,if_pos rfl,hw,if_pos (by omega),if_pos (by omega),e3,Option.bind_some,if_pos (by omega)]
     | false=>
       obtain⟨r,p',s',e,hr,a4,b4⟩:=ih (x ++ [⟨u,v,w⟩]) p2 s2 (by simp;omega) (by omega) (by omega)
       refine⟨r,p',s',ev_step e (fun k=>?_),hr,by omega,by omega⟩
       rw[Zn.l0,if_pos (by omega),e1,Option.bind_some,if_pos c,e2,Option.bind_some,if_neg (by simp),if_pos (by omega)]
   · obtain⟨r,p',s',e,hr,a4,b4⟩:=ih (x ++ [⟨u,v,w⟩]) p1 s1 (by simp;omega) (by omega) (by omega)
     refine⟨r,p',s',ev_step e (fun k=>?_),hr,by omega,by omega⟩
     rw[Zn.l0,if_pos (by omega),e1,Option.bind_some,if_neg c,if_pos (by omega)]
theorem parts_ok {l:List Int} (hb:bytesOk l) (p s y:Int) (h0:0≤p) (h1:p≤100000000000000000) :
 ∃r p' s',Ev (fun k=>Zn.f k l p s y) (r,p',s')∧r.length≤13∧p≤p'∧p'≤p+400:=by
 obtain⟨n,p1,s1,e1,n0,n1,a1,b1⟩:=pick_ok hb p s 6 h0 (by omega)
 have n1:=n1 (by omega)
 obtain⟨b,p2,s2,e2,a2,b2⟩:=one_ok hb p1 s1 20 (by omega) (by omega)
 cases b with
 | true=>
   obtain⟨m,p3,s3,e3,m0,m1,a3,b3⟩:=pick_ok hb p2 s2 2 (by omega) (by omega)
   have m1:=m1 (by omega)
   have hw:wrap64 (12+m)=12+m:=wrapS (by omega) (by omega)
   obtain⟨r,p',s',e,hr,a4,b4⟩:=parts_l0 hb y (12+m) (by omega) (12+m).toNat [] p3 s3 (.inl (by simp;omega)) (by omega) (by omega)
   refine⟨r,p',s',Ev.congr (fun k=>?_) (ev_step (g:=fun k=>Zn.j0 k y [] (12+m) l p3 s3) e (fun k=>by rw[Zn.j0])),hr,by omega,by omega⟩
   rw[Zn.f,e1,Option.bind_some,e2,Option.bind_some,if_pos rfl,e3,Option.bind_some,hw]
 | false=>
   obtain⟨r,p',s',e,hr,a4,b4⟩:=parts_l0 hb y n (by omega) n.toNat [] p2 s2 (.inl (by simp;omega)) (by omega) (by omega)
   refine⟨r,p',s',Ev.congr (fun k=>?_) (ev_step (g:=fun k=>Zn.j0 k y [] n l p2 s2) e (fun k=>by rw[Zn.j0])),hr,by omega,by omega⟩
   rw[Zn.f,e1,Option.bind_some,e2,Option.bind_some,if_neg (by simp)]
theorem edStep_ok {l:List Int} (hb:bytesOk l) (p s:Int) (x:List S46) (hx:x.length≤13) (h0:0≤p) (h1:p≤100000000000000000) :
 ∃r p' s',Ev (fun k=>ZU.f k l p s x) (r,p',s') ∧ -1≤r∧r≤1000000∧p≤p'∧p'≤p+6:=by
 have fin:∀n:Int,1≤n→n≤100000→∃r p' s',(Zf.f l p s 16).bind (fun bt215=>((Zf.f l bt215.2.1 bt215.2.2 (wrap64 (n+(wrap64 (Int.tdiv bt215.1 15))))).bind fun bt218=>((Zf.f l bt218.2.1 bt218.2.2 24).bind fun bt221=>(some (wrap64 (bt218.1-(wrap64 (Int.tdiv bt221.1 23))),bt221.2.1,bt221.2.2)))))=some (r,p',s') ∧ -1≤r∧r≤1000000∧p≤p'∧p'≤p+6:=by
  intro n hn hn2
  obtain⟨i,p1,s1,e1,i0,i1,a1,b1⟩:=pick_ok hb p s 16 h0 (by omega)
  have i1:=i1 (by omega)
  have hi:Int.tdiv i 15=i / 15:=Int.tdiv_eq_ediv_of_nonneg i0
  have hw:wrap64 (n+(wrap64 (Int.tdiv i 15)))=n+i / 15:=by rw[hi,wrapS (x:=i / 15) (by omega) (by omega),wrapS (by omega) (by omega)]
  obtain⟨j,p2,s2,e2,j0,j1,a2,b2⟩:=pick_ok hb p1 s1 (n+i / 15) (by omega) (by omega)
  have j1:=j1 (by omega)
  obtain⟨k,p3,s3,e3,k0,k1,a3,b3⟩:=pick_ok hb p2 s2 24 (by omega) (by omega)
  have k1:=k1 (by omega)
  have hk:Int.tdiv k 23=k / 23:=Int.tdiv_eq_ediv_of_nonneg k0
  have hw2:wrap64 (j-(wrap64 (Int.tdiv k 23)))=j-k / 23:=by rw[hk,wrapS (x:=k / 23) (by omega) (by omega),wrapS (by omega) (by omega)]
  exact⟨j-k / 23,p3,s3,by rw[e1,Option.bind_some,hw,e2,Option.bind_some,e3,Option.bind_some,hw2],by omega,by omega,by omega,by omega⟩
 cases g:partsGood x with
 | false=>
   obtain⟨r,p',s',e,q⟩:=fin 1 (by omega) (by omega)
   refine⟨r,p',s',Ev.bind (edGood_ok x (by omega)) ?_,q⟩
   rw[g]
   exact ev_of_eq (fun _=>by simp only[Bool.false_eq_true,if_false];exact e)
 | true=>
   obtain⟨g1,g2,g3,g4,g5⟩:=good_parts g
   obtain⟨r,p',s',e,q⟩:=fin (total x+1) (by omega) (by omega)
   refine⟨r,p',s',Ev.bind (edGood_ok x (by omega)) ?_,q⟩
   rw[g]
   simp only[if_true]
   refine Ev.bind (edLength_ok x (by omega)) (ev_of_eq (fun _=>?_))
   rw[g5,wrapS (x:=total x+1) (by omega) (by omega)]
   exact e

theorem sheets_l0 {l:List Int} (hb:bytesOk l) (n:Int) (hn:n≤5) (d:Nat):∀(x:List (List S62)) (p s:Int),((x.length:Int)+d=n∨d=0∧n≤x.length∧x.length≤5)→(∀y∈x,y.length≤61)→0≤p→p+1000*d≤5000000000000000 →
 ∃r p' s',Ev (fun k=>Zv.l0 k x n l p s) (r,p',s')∧r.length≤5∧(∀y∈r,y.length≤61)∧p≤p'∧p'≤p+1000*d+1000:=by
 induction d with
 | zero=>
   intro x p s hl hx h0 h1
   have hl2:n≤x.length∧x.length≤5:=by omega
   by_cases c:n>0
   · obtain⟨b,p1,s1,e1,a1,b1⟩:=one_ok hb p s 20 h0 (by omega)
     cases b with
     | true=>
       obtain⟨v,p2,s2,⟨K,e2⟩,hv,a2,b2⟩:=anySheet_ok hb p1 s1 (by omega) (by omega)
       dsimp only at e2
       have q:0<(x.length:Int):=by omega
       refine⟨x.set (0:Int).toNat v,p2,s2,⟨K+1,fun k hk=>?_⟩,by simpa using hl2.2,?_,by omega,by omega⟩
       · obtain⟨m,rfl⟩:∃m,k=m+1:=⟨k-1,by omega⟩
         dsimp only
         rw[Zv.l0,if_neg (by omega),if_pos c,e1,Option.bind_some,if_pos rfl,e2 m (by omega),Option.bind_some,if_pos q]
       · intro y hy
         rcases List.mem_or_eq_of_mem_set hy with h | h
         · exact hx y h
         · rw[h];exact hv
     | false=>
       refine⟨x,p1,s1,ev_step (f:=fun _=>some _) (Ev.now _) (fun k=>?_),hl2.2,hx,by omega,by omega⟩
       rw[Zv.l0,if_neg (by omega),if_pos c,e1,Option.bind_some,if_neg (by simp)]
   · refine⟨x,p,s,ev_step (f:=fun _=>some _) (Ev.now _) (fun k=>?_),hl2.2,hx,by omega,by omega⟩
     rw[Zv.l0,if_neg (by omega),if_neg c]
 | succ d ih=>
   intro x p s hl hx h0 h1
   have hl2:(x.length:Int)+(d+1:Nat)=n:=by omega
   obtain⟨v,p1,s1,⟨K1,e1⟩,hv,a1,b1⟩:=sheet_ok hb p s h0 (by omega)
   obtain⟨r,p',s',⟨K2,e⟩,hr,hr2,a2,b2⟩:=ih (x ++ [v]) p1 s1 (by simp;omega) (fun y hy=>by
    rcases List.mem_append.1 hy with h | h
    · exact hx y h
    · rw[List.mem_singleton.1 h];omega) (by omega) (by omega)
   dsimp only at e1 e
   refine⟨r,p',s',⟨K1+K2+1,fun k hk=>?_⟩,hr,hr2,by omega,by omega⟩
   obtain⟨m,rfl⟩:∃m,k=m+1:=⟨k-1,by omega⟩
   dsimp only
   rw[Zv.l0,if_pos (by omega),e1 m (by omega),Option.bind_some,if_pos (by omega),e m (by omega)]
theorem sheets_ok {l:List Int} (hb:bytesOk l) (p s:Int) (h0:0≤p) (h1:p≤1000000000000000) :
 ∃r p' s',Ev (fun k=>Zv.f k l p s) (r,p',s')∧r.length≤5∧(∀y∈r,y.length≤61)∧p≤p'∧p'≤p+10000:=by
 obtain⟨n,p1,s1,e1,n0,n1,a1,b1⟩:=pick_ok hb p s 3 h0 (by omega)
 have n1:=n1 (by omega)
 obtain⟨b,p2,s2,e2,a2,b2⟩:=one_ok hb p1 s1 16 (by omega) (by omega)
 cases b with
 | true=>
   obtain⟨m,p3,s3,e3,m0,a3,b3⟩:=among_ok hb p2 s2 (([0,4,5]:List Int)) (by simp) (by omega) (by omega)
   have hm:0≤m∧m≤5:=by
    simp only[List.mem_cons,List.not_mem_nil,or_false]at m0
    omega
   obtain⟨r,p',s',e,hr,hr2,a4,b4⟩:=sheets_l0 hb m hm.2 m.toNat [] p3 s3 (.inl (by simp;omega)) (by simp) (by omega) (by omega)
   refine⟨r,p',s',Ev.congr (fun k=>?_) (ev_step (g:=fun k=>Zv.j0 k [] m l p3 s3) e (fun k=>by rw[Zv.j0])),hr,hr2,by omega,by omega⟩
   rw[Zv.f,e1,Option.bind_some,e2,Option.bind_some,if_pos rfl,e3,Option.bind_some]
 | false=>
   have hw:wrap64 (1+n)=1+n:=wrapS (by omega) (by omega)
   obtain⟨r,p',s',e,hr,hr2,a4,b4⟩:=sheets_l0 hb (1+n) (by omega) (1+n).toNat [] p2 s2 (.inl (by simp;omega)) (by simp) (by omega) (by omega)
   refine⟨r,p',s',Ev.congr (fun k=>?_) (ev_step (g:=fun k=>Zv.j0 k [] (1+n) l p2 s2) e (fun k=>by rw[Zv.j0])),hr,hr2,by omega,by omega⟩
   rw[Zv.f,e1,Option.bind_some,e2,Option.bind_some,if_neg (by simp),hw]
theorem drawMake_ok {l:List Int} (hb:bytesOk l):∃r q,Ev (fun k=>ZZ.f k l) (r,q)∧r.length≤5∧(∀y∈r,y.length≤61)∧q.length≤13:=by
 obtain⟨r,p,s,e,hr,hr2,a1,b1⟩:=sheets_ok hb 0 0 (by omega) (by omega)
 obtain⟨q,p2,s2,e2,hq,a2,b2⟩:=parts_ok hb p s (r.length:Int) (by omega) (by omega)
 exact⟨r,q,Ev.bind e (Ev.bind e2 (ev_of_eq (fun _=>rfl))),hr,hr2,hq⟩
theorem drawIns_ok {l:List Int} (hb:bytesOk l):∃r i a b c,Ev (fun k=>ZN.f k l) (r,i,a,b,c)∧r.length≤13 ∧ -1≤i∧i≤1000000:=by
 obtain⟨r,p,s,e,hr,a1,b1⟩:=parts_ok hb 0 0 3 (by omega) (by omega)
 obtain⟨u,v,w,p2,s2,e2,a2,b2⟩:=splice_ok hb p s 4 (by omega) (by omega)
 obtain⟨b,p3,s3,e3,a3,b3⟩:=one_ok hb p2 s2 16 (by omega) (by omega)
 cases b with
 | true=>
   obtain⟨z,p4,s4,e4,_,a4,b4⟩:=among_ok hb p3 s3 (([v,2001]:List Int)) (by simp) (by omega) (by omega)
   obtain⟨i,p5,s5,e5,i0,i1,a5,b5⟩:=edStep_ok hb p4 s4 r hr (by omega) (by omega)
   refine⟨r,i,u,v,z,Ev.bind e ?_,hr,i0,i1⟩
   simp only[e2,Option.bind_some,e3,if_true,e4]
   exact Ev.bind e5 (ev_of_eq (fun _=>rfl))
 | false=>
   obtain⟨i,p5,s5,e5,i0,i1,a5,b5⟩:=edStep_ok hb p3 s3 r hr (by omega) (by omega)
   refine⟨r,i,u,v,w,Ev.bind e ?_,hr,i0,i1⟩
   simp only[e2,Option.bind_some,e3,Bool.false_eq_true,if_false]
   exact Ev.bind e5 (ev_of_eq (fun _=>rfl))

end Go.Proofs.YtcnegcdmmackeaaGreat.LFnEditionsG
