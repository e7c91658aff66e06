/- Plain lemmas on what the printed functions of this law compute; each with the conditions that it names. -/
import Derived.Test.YtplpjmhmochcfaaGreatQFnDifferencesx2
import Derived.Test.YtplpjmhmochcfaaGreatQFnDifferencesx3
import Derived.Test.YtplpjmhmochcfaaGreatQFnDifferencesx4
import Derived.Test.YtplpjmhmochcfaaGreatQFnDifferencesx5
import Derived.Test.YtplpjmhmochcfaaGreatQFnDifferencesx7
import Derived.Test.YtplpjmhmochcfaaGreatQFnDifferencesx9
import Derived.Test.YtplpjmhmochcfaaGreatQFnDifferencesx12
import Derived.Test.YtplpjmhmochcfaaGreatQFnDifferencesx13
import Derived.Test.YtplpjmhmochcfaaGreatQFnDifferencesx15
import Derived.Test.YtplpjmhmochcfaaGreatBaseD
import Derived.Laws.Bits64b
import Derived.Test.YtplpjmhmochcfaaGreatLFnDifferencesA
namespace Go.Proofs.YtplpjmhmochcfaaGreat.LFnDifferencesB
open Go Go.RowKit Go.Proofs.YtplpjmhmochcfaaGreat.QFnDifferences Go.Proofs.YtplpjmhmochcfaaGreatW.PrintWords Go.Proofs.YtplpjmhmochcfaaGreatW.PrintLast Go.Proofs.YtplpjmhmochcfaaGreatW.PrintMore Go.Proofs.YtplpjmhmochcfaaGreat.Base Go.Proofs.YtplpjmhmochcfaaGreat.LFnDifferencesA
set_option linter.unusedVariables false
set_option linter.unusedSimpArgs false

def bytesOk (l:List Int):Prop:= ∀x∈l,0≤x∧x≤255
def lcg (s b:Int):Int:=(s*6364136223846793005+b+1442695040888963407) % 18446744073709551616
theorem and255 (x:Int) (h0:0≤x) (h1:x<18446744073709551616):Go.bits .and .u64 x 255=x % 256:=by
 obtain⟨n,rfl⟩:∃n:Nat,x=n:=⟨x.toNat,by omega⟩
 have h:=bits_and_u64_nat n 255 (by omega) (by omega)
 have h2:=Nat.and_two_pow_sub_one_eq_mod n 8
 rw[show(2:Nat) ^ 8-1=255 from rfl,show(2:Nat) ^ 8=256 from rfl]at h2
 rw[h2]at h
 exact h.trans (by omega)
theorem lcg_eq (s b:Int):IntKind.u64.wrap ((IntKind.u64.wrap ((IntKind.u64.wrap (s*6364136223846793005))+(IntKind.u64.wrap b)))+1442695040888963407)=lcg s b:=by
 simp only[IntKind.wrap_u64,lcg];omega
theorem lcg_eq0 (s:Int):IntKind.u64.wrap ((IntKind.u64.wrap (IntKind.u64.wrap (s*6364136223846793005)))+1442695040888963407)=lcg s 0:=by
 simp only[IntKind.wrap_u64,lcg];omega
theorem lcg_lt (s b:Int):0≤lcg s b∧lcg s b<18446744073709551616:=by unfold lcg;omega
theorem rd_byte {l:List Int} (hb:bytesOk l) (p:Int) (h0:0≤p) (h1:p<l.length):0≤rd l p∧rd l p≤255:=by
 obtain⟨n,rfl⟩:∃n:Nat,p=n:=⟨p.toNat,by omega⟩
 rw[rd_nat l n (by omega)]
 exact hb _ (List.getElem_mem _)
theorem next_in {l:List Int} (hb:bytesOk l) (p s:Int) (h0:0≤p) (h1:p<l.length) (h2:p≤4000000000000000000):spec_l1Cur_next.f l p s=some (rd l p,p+1,lcg s (rd l p)):=by
 have hr:=rd_byte hb p h0 h1
 have hw:wrap64 (p+1)=p+1:=wrapS (by omega) (by omega)
 have hw2:wrap64 (rd l p)=rd l p:=wrapS (by omega) (by omega)
 rw[spec_l1Cur_next.f,if_pos h1,if_pos h0,hw,if_pos (by omega),hw2,lcg_eq]
theorem next_out {l:List Int} (p s:Int) (h1:¬p<l.length) (h0:0≤p) (h2:p≤4000000000000000000):spec_l1Cur_next.f l p s=some ((lcg s 0 / 1099511627776) % 256,p+1,lcg s 0):=by
 have hw:wrap64 (p+1)=p+1:=wrapS (by omega) (by omega)
 have hl:=lcg_lt s 0
 rw[spec_l1Cur_next.f,if_neg h1,hw,if_neg (by omega),lcg_eq0,and255 _ (by omega) (by omega),wrapS (by omega) (by omega)]
theorem next_ok {l:List Int} (hb:bytesOk l) (p s:Int) (h0:0≤p) (h2:p≤4000000000000000000):∃b s',spec_l1Cur_next.f l p s=some (b,p+1,s')∧0≤b∧b≤255:=by
 by_cases h:p<l.length
 · exact⟨_,_,next_in hb p s h0 h h2,rd_byte hb p h0 h⟩
 · exact⟨_,_,next_out p s h h0 h2,by omega,by omega⟩
theorem pick_ok {l:List Int} (hb:bytesOk l) (p s n:Int) (h0:0≤p) (h2:p≤3000000000000000000):∃r p' s',spec_l1Cur_pick.f l p s n=some (r,p',s')∧0≤r∧(1≤n→r<n)∧p≤p'∧p'≤p+2∧(2≤n→p+1≤p'):=by
 by_cases c:n≤1
 · exact⟨0,p,s,by rw[spec_l1Cur_pick.f,if_pos c],by omega,by omega,by omega,by omega,by omega⟩
 · obtain⟨b,s1,e1,b0,b1⟩:=next_ok hb p s h0 (by omega)
   by_cases d:n>200
   · obtain⟨b2,s2,e2,c0,c1⟩:=next_ok hb (p+1) s1 (by omega) (by omega)
     refine⟨Int.tmod (b*256+b2) n,p+1+1,s2,?_,?_,?_,by omega,by omega,by omega⟩
     · rw[spec_l1Cur_pick.f,if_neg c,e1]
       simp only[Option.bind_some]
       rw[if_pos d,e2]
       simp only[Option.bind_some]
       rw[if_neg (by omega),wrapS (x:=b*256) (by omega) (by omega),wrapS (by omega) (by omega)]
     · exact Int.tmod_nonneg _ (by omega)
     · intro _;exact Int.tmod_lt_of_pos _ (by omega)
   · refine⟨Int.tmod b n,p+1,s1,?_,?_,?_,by omega,by omega,by omega⟩
     · rw[spec_l1Cur_pick.f,if_neg c,e1]
       simp only[Option.bind_some]
       rw[if_neg d,if_neg (by omega)]
     · exact Int.tmod_nonneg _ (by omega)
     · intro _;exact Int.tmod_lt_of_pos _ (by omega)
theorem rd_mem {xs:List Int} (r:Int) (h0:0≤r) (h1:r<xs.length):rd xs r∈xs:=by
 obtain⟨n,rfl⟩:∃n:Nat,r=n:=⟨r.toNat,by omega⟩
 rw[rd_nat xs n (by omega)]
 exact List.getElem_mem _
theorem among_ok {l:List Int} (hb:bytesOk l) (p s:Int) (xs:List Int) (hx:1≤xs.length) (h0:0≤p) (h2:p≤3000000000000000000):∃r p' s',spec_l1Cur_among.f l p s xs=some (r,p',s')∧r∈xs∧p≤p'∧p'≤p+2:=by
 obtain⟨r,p',s',e,r0,r1,q0,q1⟩:=pick_ok hb p s (xs.length:Int) h0 h2
 have r1:=r1 (by omega)
 refine⟨rd xs r,p',s',?_,rd_mem r r0 r1,q0,q1.1⟩
 rw[spec_l1Cur_among.f,e]
 simp only[Option.bind_some]
 rw[if_pos r0,if_pos r1]
theorem one_ok {l:List Int} (hb:bytesOk l) (p s n:Int) (h0:0≤p) (h2:p≤3000000000000000000):∃r p' s',spec_l1Cur_one.f l p s n=some (r,p',s')∧p≤p'∧p'≤p+2:=by
 obtain⟨r,p',s',e,_,_,q0,q1⟩:=pick_ok hb p s n h0 h2
 exact⟨r == 0,p',s',by rw[spec_l1Cur_one.f,e];rfl,q0,q1.1⟩

theorem shWith_ok (l:List S40) (x:S40) (h:l.length≤60):Ev (fun k=>spec_shWith.f k l x.f0 x.f1 x.f2) (sortedR (l ++ [x])):=by
 obtain⟨K,e⟩:=shSorted_ok (l ++ [x]) (by simp;omega)
 refine⟨K,fun k hk=>?_⟩
 have f:=e k hk
 dsimp only at f ⊢
 have m1:(([]:List S40).length+l.length)<5864062014805:=by simp;omega
 have m2:(([] ++ l:List S40).length+([(⟨x.f0,x.f1,x.f2⟩:S40)]:List S40).length)<5864062014805:=by simp;omega
 rw[spec_shWith.f]
 simp only[Option.bind_some,m1,m2,if_true]
 rw[List.nil_append,show(l ++ [(⟨x.f0,x.f1,x.f2⟩:S40)])=l ++ [x] from rfl,f]
 rfl

theorem hole_ok {l:List Int} (hb:bytesOk l) (p s:Int) (h0:0≤p) (h2:p≤1000000000000000000):∃a b c p' s',spec_l1Cur_hole.f l p s=some (a,b,c,p',s')∧p≤p'∧p'≤p+12:=by
 obtain⟨i,p1,s1,e1,_,_,a1,b1⟩:=pick_ok hb p s 40 h0 (by omega)
 obtain⟨j,p2,s2,e2,_,_,a2,b2⟩:=pick_ok hb p1 s1 60 (by omega) (by omega)
 obtain⟨u,p3,s3,e3,_,a3,b3⟩:=among_ok hb p2 s2 (([0,2,5,i,j,1990]:List Int)) (by simp) (by omega) (by omega)
 obtain⟨k,p4,s4,e4,_,_,a4,b4⟩:=pick_ok hb p3 s3 20 (by omega) (by omega)
 obtain⟨v,p5,s5,e5,_,a5,b5⟩:=among_ok hb p4 s4 (([0,1,2,3,5,k]:List Int)) (by simp) (by omega) (by omega)
 obtain⟨w,p6,s6,e6,_,a6,b6⟩:=among_ok hb p5 s5 (([1,2,3,4,10]:List Int)) (by simp) (by omega) (by omega)
 refine⟨v,u,wrap64 (u+w),p6,s6,?_,by omega,by omega⟩
 rw[spec_l1Cur_hole.f,e1,Option.bind_some,e2,Option.bind_some,e3,Option.bind_some,e4,Option.bind_some,e5,Option.bind_some,e6,Option.bind_some]
theorem sheet_l0 {l:List Int} (hb:bytesOk l) (d:Nat):∀(x:List S40) (p s:Int),x.length+d=60→0≤p→p+2*d≤1000000000000000000 →
 ∃r p' s',Ev (fun k=>spec_l1Cur_sheet.l0 k x l p s) (r,p',s')∧r.length≤60∧p≤p'∧p'≤p+2*d:=by
 induction d with
 | zero=>
   intro x p s hx h0 h2
   refine⟨x,p,s,ev_step (f:=fun _=>some _) (Ev.now _) (fun k=>?_),by omega,by omega,by omega⟩
   rw[spec_l1Cur_sheet.l0,if_neg (by omega)]
 | succ d ih=>
   intro x p s hx h0 h2
   obtain⟨i,p1,s1,e1,_,_,a1,b1⟩:=pick_ok hb p s 5 h0 (by omega)
   obtain⟨r,p',s',e,hr,a2,b2⟩:=ih (x ++ [⟨3*((x.length:Int) % 5),wrap64 (6*(wrap64 ((x.length:Int) / 5))),wrap64 ((wrap64 ((wrap64 (6*(wrap64 ((x.length:Int) / 5))))+1))+i)⟩]) p1 s1 (by simp;omega) (by omega) (by omega)
   refine⟨r,p',s',ev_step e (fun k=>?_),hr,by omega,by omega⟩
   rw[spec_l1Cur_sheet.l0,if_pos (by omega),e1,Option.bind_some,if_pos (by omega)]
theorem sheet_l1 {l:List Int} (hb:bytesOk l) (n:Int) (d:Nat):∀(i:Nat) (x:List S40) (p s:Int),i+d=60→x.length≤60→0≤p→p+12*d≤1000000000000000000 →
 ∃r p' s',Ev (fun k=>spec_l1Cur_sheet.l1 k x n (i:Int) l p s) (r,p',s')∧r.length≤60∧p≤p'∧p'≤p+12*d:=by
 induction d with
 | zero=>
   intro i x p s hi hx h0 h2
   have J:Ev (fun k=>spec_l1Cur_sheet.j2 k x n (i:Int) false l p s) (x,p,s):=ev_step (f:=fun _=>some _) (Ev.now _) (fun k=>by rw[spec_l1Cur_sheet.j2,if_neg (by simp)])
   refine⟨x,p,s,ev_step J (fun k=>?_),by omega,by omega,by omega⟩
   rw[spec_l1Cur_sheet.l1]
   by_cases c:(x.length:Int)<n
   · rw[if_pos c,show decide ((i:Int)<60)=false from decide_eq_false (by omega)]
   · rw[if_neg c]
 | succ d ih=>
   intro i x p s hi hx h0 h2
   by_cases c:(x.length:Int)<n
   · obtain⟨u,v,w,p1,s1,e1,a1,b1⟩:=hole_ok hb p s h0 (by omega)
     have hw:wrap64 ((i:Int)+1)=((i+1:Nat):Int):=wrapS (by omega) (by omega)
     obtain⟨K2,e2⟩:=shWith_ok x ⟨u,v,w⟩ hx
     obtain⟨y,g⟩:∃y,(if(sortedR (x ++ [⟨u,v,w⟩])).2=true then(sortedR (x ++ [⟨u,v,w⟩])).1 else x)=y:=⟨_,rfl⟩
     have hy:y.length≤60:=by rw[← g];split;exact sortedR_len _;exact hx
     obtain⟨r,p',s',⟨K3,e3⟩,hr,a2,b2⟩:=ih (i+1) y p1 s1 (by omega) hy (by omega) (by omega)
     refine⟨r,p',s',⟨K2+K3+2,fun k hk=>?_⟩,hr,by omega,by omega⟩
     obtain⟨q,rfl⟩:∃q,k=q+1+1:=⟨k-2,by omega⟩
     have e2:=e2 q (by omega)
     have e3:=e3 q (by omega)
     dsimp only at e2 e3 ⊢
     rw[spec_l1Cur_sheet.l1,if_pos c,show decide ((i:Int)<60)=true from decide_eq_true (by omega),spec_l1Cur_sheet.j2,if_pos rfl,e1,Option.bind_some]
     dsimp only
     rw[e2,Option.bind_some,hw]
     rw[← g]at e3
     split<;>rename_i z
     · rw[if_pos z]at e3;exact e3
     · rw[if_neg z]at e3;exact e3
   · have J:Ev (fun k=>spec_l1Cur_sheet.j2 k x n (i:Int) false l p s) (x,p,s):=ev_step (f:=fun _=>some _) (Ev.now _) (fun k=>by rw[spec_l1Cur_sheet.j2,if_neg (by simp)])
     refine⟨x,p,s,ev_step J (fun k=>?_),by omega,by omega,by omega⟩
     rw[spec_l1Cur_sheet.l1,if_neg c]
theorem sheet_ok {l:List Int} (hb:bytesOk l) (p s:Int) (h0:0≤p) (h2:p≤100000000000000000):∃r p' s',Ev (fun k=>spec_l1Cur_sheet.f k l p s) (r,p',s')∧r.length≤60∧p≤p'∧p'≤p+800:=by
 obtain⟨b,p1,s1,e1,a1,b1⟩:=one_ok hb p s 24 h0 (by omega)
 cases b with
 | true=>
   obtain⟨r,p',s',e,hr,a2,b2⟩:=sheet_l0 hb 60 [] p1 s1 (by simp) (by omega) (by omega)
   refine⟨r,p',s',Ev.congr (fun k=>?_) e,hr,by omega,by omega⟩
   rw[spec_l1Cur_sheet.f,e1,Option.bind_some,if_pos rfl]
 | false=>
   obtain⟨n,p2,s2,e2,_,_,a2,b2⟩:=pick_ok hb p1 s1 9 (by omega) (by omega)
   obtain⟨r,p',s',e,hr,a3,b3⟩:=sheet_l1 hb n 60 0 [] p2 s2 (by omega) (by simp) (by omega) (by omega)
   refine⟨r,p',s',Ev.congr (fun k=>?_) e,hr,by omega,by omega⟩
   rw[spec_l1Cur_sheet.f,e1,Option.bind_some,if_neg (by simp),e2,Option.bind_some]
   rfl
theorem anyHole_ok {l:List Int} (hb:bytesOk l) (p s:Int) (h0:0≤p) (h2:p≤100000000000000000):∃a b c p' s',spec_l1Cur_anyHole.f l p s=some (a,b,c,p',s')∧p≤p'∧p'≤p+20:=by
 obtain⟨u,v,w,p1,s1,e1,a1,b1⟩:=hole_ok hb p s h0 (by omega)
 obtain⟨q,p2,s2,e2,_,_,a2,b2⟩:=pick_ok hb p1 s1 24 (by omega) (by omega)
 by_cases c0:q=0
 · obtain⟨z,p3,s3,e3,_,a3,b3⟩:=among_ok hb p2 s2 (([(-1),19,20]:List Int)) (by simp) (by omega) (by omega)
   refine⟨z,v,w,p3,s3,?_,by omega,by omega⟩
   rw[spec_l1Cur_anyHole.f,e1,Option.bind_some,e2,Option.bind_some,if_pos c0,e3,Option.bind_some]
 by_cases c1:q=1
 · obtain⟨z,p3,s3,e3,_,a3,b3⟩:=among_ok hb p2 s2 (([(-1),w]:List Int)) (by simp) (by omega) (by omega)
   refine⟨u,z,w,p3,s3,?_,by omega,by omega⟩
   rw[spec_l1Cur_anyHole.f,e1,Option.bind_some,e2,Option.bind_some,if_neg c0,if_pos c1,e3,Option.bind_some]
 by_cases c2:q=2
 · obtain⟨z,p3,s3,e3,_,a3,b3⟩:=among_ok hb p2 s2 (([v,2000,2001]:List Int)) (by simp) (by omega) (by omega)
   refine⟨u,v,z,p3,s3,?_,by omega,by omega⟩
   rw[spec_l1Cur_anyHole.f,e1,Option.bind_some,e2,Option.bind_some,if_neg c0,if_neg c1,if_pos c2,e3,Option.bind_some]
 · refine⟨u,v,w,p2,s2,?_,by omega,by omega⟩
   rw[spec_l1Cur_anyHole.f,e1,Option.bind_some,e2,Option.bind_some,if_neg c0,if_neg c1,if_neg c2]
theorem anySheet_l0 (l:List Int) (p s:Int) (d:Nat):∀x:List S40,x.length+d=61 →
 ∃r,Ev (fun k=>spec_l1Cur_anySheet.l0 k x l p s) (r,p,s)∧r.length≤61:=by
 induction d with
 | zero=>
   intro x hx
   refine⟨x,ev_step (f:=fun _=>some _) (Ev.now _) (fun k=>?_),by omega⟩
   rw[spec_l1Cur_anySheet.l0,if_neg (by omega)]
 | succ d ih=>
   intro x hx
   obtain⟨r,e,hr⟩:=ih (x ++ [⟨1,wrap64 (3*(x.length:Int)),wrap64 ((wrap64 (3*(x.length:Int)))+1)⟩]) (by simp;omega)
   refine⟨r,ev_step e (fun k=>?_),hr⟩
   rw[spec_l1Cur_anySheet.l0,if_pos (by omega),if_pos (by omega)]
theorem anySheet_ok {l:List Int} (hb:bytesOk l) (p s:Int) (h0:0≤p) (h2:p≤10000000000000000):∃r p' s',Ev (fun k=>spec_l1Cur_anySheet.f k l p s) (r,p',s')∧r.length≤61∧p≤p'∧p'≤p+900:=by
 obtain⟨x,p1,s1,e1,hx,a1,b1⟩:=sheet_ok hb p s h0 (by omega)
 by_cases c:(x.length:Int)>0
 · obtain⟨i,p2,s2,e2,i0,i1,a2,b2⟩:=pick_ok hb p1 s1 (x.length:Int) (by omega) (by omega)
   have i1:=i1 (by omega)
   obtain⟨q,p3,s3,e3,_,_,a3,b3⟩:=pick_ok hb p2 s2 30 (by omega) (by omega)
   by_cases c0:q=0
   · obtain⟨u,v,w,p4,s4,e4,a4,b4⟩:=anyHole_ok hb p3 s3 (by omega) (by omega)
     refine⟨x.set (i:Int).toNat ⟨u,v,w⟩,p4,s4,Ev.bind e1 (ev_of_eq (fun _=>?_)),by simp;omega,by omega,by omega⟩
     dsimp only
     rw[if_pos c,e2,Option.bind_some,e3,Option.bind_some,if_pos c0,e4,Option.bind_some,if_pos i0,if_pos i1]
   by_cases c1:q=1
   · refine⟨x ++ [⟨(rd_T40 x i).f0,(rd_T40 x i).f1,(rd_T40 x i).f2⟩],p3,s3,Ev.bind e1 (ev_of_eq (fun _=>?_)),by simp;omega,by omega,by omega⟩
     dsimp only
     rw[if_pos c,e2,Option.bind_some,e3,Option.bind_some,if_neg c0,if_pos c1,if_pos i0,if_pos i1,if_pos (by omega)]
   by_cases c2:q=2
   · refine⟨x ++ [⟨(rd_T40 x i).f0,(rd_T40 x i).f2,wrap64 (((rd_T40 x i).f2)+2)⟩],p3,s3,Ev.bind e1 (ev_of_eq (fun _=>?_)),by simp;omega,by omega,by omega⟩
     dsimp only
     rw[if_pos c,e2,Option.bind_some,e3,Option.bind_some,if_neg c0,if_neg c1,if_pos c2,if_pos i0,if_pos i1,if_pos (by omega)]
   by_cases c3:q=3
   · obtain⟨r,e5,hr⟩:=anySheet_l0 l p3 s3 61 [] (by simp)
     refine⟨r,p3,s3,Ev.bind e1 (Ev.congr (fun k=>?_) e5),hr,by omega,by omega⟩
     dsimp only
     rw[if_pos c,e2,Option.bind_some,e3,Option.bind_some,if_neg c0,if_neg c1,if_neg c2,if_pos c3]
   · refine⟨x,p3,s3,Ev.bind e1 (ev_of_eq (fun _=>?_)),by omega,by omega,by omega⟩
     dsimp only
     rw[if_pos c,e2,Option.bind_some,e3,Option.bind_some,if_neg c0,if_neg c1,if_neg c2,if_neg c3]
 · refine⟨x,p1,s1,Ev.bind e1 (ev_of_eq (fun _=>?_)),by omega,by omega,by omega⟩
   dsimp only
   rw[if_neg c]
theorem shDrop_ok (x:List S40) (i:Int) (h0:0≤i) (h1:i<x.length) (hx:x.length≤1048576):∃r,spec_shDrop.f x i=some r∧r.length≤x.length:=by
 have hw:wrap64 (i+1)=i+1:=wrapS (by omega) (by omega)
 refine⟨([] ++ x.take (i:Int).toNat) ++ x.drop (i+1).toNat,?_,by simp;omega⟩
 rw[spec_shDrop.f,Option.bind_some,if_pos h0,if_pos (by omega),Option.bind_some,if_pos (by simp;omega),Option.bind_some,hw,if_pos (by omega),if_pos (by omega),Option.bind_some,if_pos (by simp;omega)]
theorem changed_l0 {l:List Int} (hb:bytesOk l) (d:Nat):∀(x:List S40) (p s:Int),d≤1000→x.length≤60→0≤p→p+20*d≤1000000000000000000 →
 ∃r p' s',Ev (fun k=>spec_l1Cur_changed.l0 k x (d:Int) l p s) (r,p',s')∧r.length≤60∧p≤p'∧p'≤p+20*d:=by
 induction d with
 | zero=>
   intro x p s hd hx h0 h2
   refine⟨x,p,s,ev_step (f:=fun _=>some _) (Ev.now _) (fun k=>?_),by omega,by omega,by omega⟩
   rw[spec_l1Cur_changed.l0,if_neg (by omega)]
 | succ d ih=>
   intro x p s hd hx h0 h2
   have hw:wrap64 (((d+1:Nat):Int)-1)=(d:Int):=by rw[wrapS (by omega) (by omega)];omega
   have J2:∀(y:List S40) (p1 s1:Int),y.length≤60→0≤p1→p1≤p+4→∃r p' s',Ev (fun k=>spec_l1Cur_changed.j2 k y ((d+1:Nat):Int) l p1 s1) (r,p',s')∧r.length≤60∧p1≤p'∧p'≤p1+12+20*d:=by
    intro y p1 s1 hy g0 g2
    obtain⟨u,v,w,p2,s2,e1,a1,b1⟩:=hole_ok hb p1 s1 g0 (by omega)
    obtain⟨K2,e2⟩:=shWith_ok y ⟨u,v,w⟩ hy
    obtain⟨z,g⟩:∃z,(if(sortedR (y ++ [⟨u,v,w⟩])).2=true then(sortedR (y ++ [⟨u,v,w⟩])).1 else y)=z:=⟨_,rfl⟩
    have hz:z.length≤60:=by rw[← g];split;exact sortedR_len _;exact hy
    obtain⟨r,p',s',⟨K3,e3⟩,hr,a2,b2⟩:=ih z p2 s2 (by omega) hz (by omega) (by omega)
    refine⟨r,p',s',⟨K2+K3+1,fun k hk=>?_⟩,hr,by omega,by omega⟩
    obtain⟨q,rfl⟩:∃q,k=q+1:=⟨k-1,by omega⟩
    have e2:=e2 q (by omega)
    have e3:=e3 q (by omega)
    dsimp only at e2 e3 ⊢
    rw[spec_l1Cur_changed.j2,e1,Option.bind_some]
    dsimp only
    rw[e2,Option.bind_some,hw]
    rw[← g]at e3
    split<;>rename_i t
    · rw[if_pos t]at e3;exact e3
    · rw[if_neg t]at e3;exact e3
   have J1:∀(t:Bool) (p1 s1:Int),(t=true→(x.length:Int)>0)→p≤p1→p1≤p+2→∃r p' s',Ev (fun k=>spec_l1Cur_changed.j1 k x ((d+1:Nat):Int) t l p1 s1) (r,p',s')∧r.length≤60∧p≤p'∧p'≤p+20*(d+1:Nat):=by
    intro t p1 s1 ht g0 g2
    cases t with
    | true=>
      have hl:=ht rfl
      obtain⟨i,p2,s2,e1,i0,i1,a1,b1⟩:=pick_ok hb p1 s1 (x.length:Int) (by omega) (by omega)
      obtain⟨y,e2,hy⟩:=shDrop_ok x i i0 (i1 (by omega)) (by omega)
      obtain⟨r,p',s',e3,hr,a2,b2⟩:=J2 y p2 s2 (by omega) (by omega) (by omega)
      refine⟨r,p',s',ev_step e3 (fun k=>?_),hr,by omega,by omega⟩
      rw[spec_l1Cur_changed.j1,if_pos rfl,e1,Option.bind_some,e2,Option.bind_some]
    | false=>
      obtain⟨r,p',s',e3,hr,a2,b2⟩:=J2 x p1 s1 hx (by omega) (by omega)
      refine⟨r,p',s',ev_step e3 (fun k=>?_),hr,by omega,by omega⟩
      rw[spec_l1Cur_changed.j1,if_neg (by simp)]
   by_cases c:(x.length:Int)>0
   · obtain⟨b,p1,s1,e1,a1,b1⟩:=one_ok hb p s 2 h0 (by omega)
     obtain⟨r,p',s',e3,hr,a2,b2⟩:=J1 b p1 s1 (fun _=>c) (by omega) (by omega)
     refine⟨r,p',s',ev_step e3 (fun k=>?_),hr,by omega,by omega⟩
     rw[spec_l1Cur_changed.l0,if_pos (by omega),if_pos c,e1,Option.bind_some]
   · obtain⟨r,p',s',e3,hr,a2,b2⟩:=J1 false p s (fun h=>by cases h) (by omega) (by omega)
     refine⟨r,p',s',ev_step e3 (fun k=>?_),hr,by omega,by omega⟩
     rw[spec_l1Cur_changed.l0,if_pos (by omega),if_neg c]
theorem changed_ok {l:List Int} (hb:bytesOk l) (p s:Int) (x:List S40) (hx:x.length≤61) (h0:0≤p) (h2:p≤10000000000000000):∃r p' s',Ev (fun k=>spec_l1Cur_changed.f k l p s x) (r,p',s')∧r.length≤61∧p≤p'∧p'≤p+900:=by
 obtain⟨K1,e1⟩:=shGood_ok x (by omega)
 dsimp only at e1
 have hl:([]:List S40).length+x.length<5864062014805:=by simp;omega
 cases g:good x with
 | false=>
   refine⟨[] ++ x,p,s,⟨K1,fun k hk=>?_⟩,by simpa using hx,by omega,by omega⟩
   dsimp only
   rw[spec_l1Cur_changed.f,Option.bind_some,if_pos hl,Option.bind_some,e1 k hk,g,Option.bind_some,if_neg (by simp)]
 | true=>
   have hx60:=good_len x g
   obtain⟨n,p1,s1,e2,n0,n1,a1,b1⟩:=pick_ok hb p s 4 h0 (by omega)
   have n1:=n1 (by omega)
   obtain⟨d,rfl⟩:∃d:Nat,n=(d:Int):=⟨n.toNat,by omega⟩
   obtain⟨r,p',s',⟨K3,e3⟩,hr,a2,b2⟩:=changed_l0 hb d ([] ++ x) p1 s1 (by omega) (by simpa using hx60) (by omega) (by omega)
   refine⟨r,p',s',⟨K1+K3,fun k hk=>?_⟩,by omega,by omega,by omega⟩
   dsimp only at e3 ⊢
   rw[spec_l1Cur_changed.f,Option.bind_some,if_pos hl,Option.bind_some,e1 k (by omega),g,Option.bind_some,if_pos rfl,e2,Option.bind_some]
   exact e3 k (by omega)

theorem drawDiff_ok {l:List Int} (hb:bytesOk l):∃(a b:List S40),Ev (fun k=>spec_DrawDifferenceOf.f k l) (a,b)∧a.length≤61∧b.length≤61:=by
 obtain⟨a,p1,s1,⟨K1,e1⟩,ha,a1,b1⟩:=anySheet_ok hb 0 0 (by omega) (by omega)
 obtain⟨c,p2,s2,e2,a2,b2⟩:=one_ok hb p1 s1 6 (by omega) (by omega)
 cases c with
 | true=>
   obtain⟨b,p3,s3,⟨K3,e3⟩,hb',_,_⟩:=anySheet_ok hb p2 s2 (by omega) (by omega)
   refine⟨a,b,⟨K1+K3,fun k hk=>?_⟩,ha,hb'⟩
   have e1:=e1 k (by omega)
   have e3:=e3 k (by omega)
   dsimp only at e1 e3 ⊢
   rw[spec_DrawDifferenceOf.f,e1,Option.bind_some]
   dsimp only
   rw[e2,Option.bind_some,if_pos rfl,e3,Option.bind_some]
 | false=>
   obtain⟨b,p3,s3,⟨K3,e3⟩,hb',_,_⟩:=changed_ok hb p2 s2 a ha (by omega) (by omega)
   refine⟨a,b,⟨K1+K3,fun k hk=>?_⟩,ha,hb'⟩
   have e1:=e1 k (by omega)
   have e3:=e3 k (by omega)
   dsimp only at e1 e3 ⊢
   rw[spec_DrawDifferenceOf.f,e1,Option.bind_some]
   dsimp only
   rw[e2,Option.bind_some,if_neg (by simp),e3,Option.bind_some]
theorem nearDraw_l0 {l:List Int} (hb:bytesOk l) (x:List S40) (hx:x.length≤61) (n:Int) (hn:n≤10) (d:Nat):∀(out:List (List S40)) (p s:Int),n=(out.length:Int)+d∨(n≤(out.length:Int)∧d=0)→(0<n→d=0→0<out.length)→out.length≤10→(∀z∈out,z.length≤61)→0≤p→p+1000*d≤100000000 →
 ∃r,Ev (fun k=>spec_DrawNearestSheet.l0 k x out n l p s) (x,r)∧r.length≤10∧∀z∈r,z.length≤61:=by
 induction d with
 | zero=>
   intro out p s hd hpos ho hz h0 h2
   by_cases c:n>0
   · obtain⟨b,p1,s1,e1,a1,b1⟩:=one_ok hb p s 16 h0 (by omega)
     cases b with
     | true=>
       obtain⟨y,p2,s2,⟨K2,e2⟩,hy,_,_⟩:=anySheet_ok hb p1 s1 (by omega) (by omega)
       refine⟨out.set (0:Int).toNat y,⟨K2+1,fun k hk=>?_⟩,by simpa using ho,fun z hm=>?_⟩
       · obtain⟨q,rfl⟩:∃q,k=q+1:=⟨k-1,by omega⟩
         have e2:=e2 q (by omega)
         have:=hpos c rfl
         dsimp only at e2 ⊢
         rw[spec_DrawNearestSheet.l0,if_neg (by omega),if_pos c,e1,Option.bind_some,if_pos rfl,e2,Option.bind_some,if_pos (by omega)]
       · rcases List.mem_or_eq_of_mem_set hm with q | q
         · exact hz z q
         · rw[q];exact hy
     | false=>
       refine⟨out,ev_step (f:=fun _=>some _) (Ev.now _) (fun k=>?_),ho,hz⟩
       rw[spec_DrawNearestSheet.l0,if_neg (by omega),if_pos c,e1,Option.bind_some,if_neg (by simp)]
   · refine⟨out,ev_step (f:=fun _=>some _) (Ev.now _) (fun k=>?_),ho,hz⟩
     rw[spec_DrawNearestSheet.l0,if_neg (by omega),if_neg c]
 | succ d ih=>
   intro out p s hd hpos ho hz h0 h2
   obtain⟨y,p2,s2,⟨K2,e2⟩,hy,a2,b2⟩:=changed_ok hb p s x hx h0 (by omega)
   obtain⟨r,⟨K3,e3⟩,h3,h4⟩:=ih (out ++ [y]) p2 s2 (by simp;omega) (by simp) (by simp;omega) (by
    intro z hm
    rcases List.mem_append.1 hm with q | q
    · exact hz z q
    · rw[List.mem_singleton.1 q];exact hy) (by omega) (by omega)
   refine⟨r,⟨K2+K3+1,fun k hk=>?_⟩,h3,h4⟩
   obtain⟨q,rfl⟩:∃q,k=q+1:=⟨k-1,by omega⟩
   have e2:=e2 q (by omega)
   dsimp only at e2 ⊢
   rw[spec_DrawNearestSheet.l0,if_pos (by omega),e2,Option.bind_some,if_pos (by omega)]
   exact e3 q (by omega)
theorem nearDraw_j0 {l:List Int} (hb:bytesOk l) (x:List S40) (hx:x.length≤61) (n p s:Int) (h1:0≤n) (h2:n≤10) (h3:0≤p) (h4:p≤1000000) :
 ∃r,Ev (fun k=>spec_DrawNearestSheet.j0 k x [] n l p s) (x,r)∧r.length≤10∧∀z∈r,z.length≤61:=by
 obtain⟨r,e,h5,h6⟩:=nearDraw_l0 hb x hx n h2 n.toNat [] p s (.inl (by simp;omega)) (by omega) (by simp) (by simp) h3 (by omega)
 exact⟨r,ev_step e (fun k=>by rw[spec_DrawNearestSheet.j0]),h5,h6⟩
theorem drawNear_ok {l:List Int} (hb:bytesOk l):∃x r,Ev (fun k=>spec_DrawNearestSheet.f k l) (x,r)∧x.length≤61∧r.length≤10∧∀z∈r,z.length≤61:=by
 obtain⟨x,p1,s1,⟨K1,e1⟩,hx,a1,b1⟩:=anySheet_ok hb 0 0 (by omega) (by omega)
 obtain⟨n,p2,s2,e2,n0,n1,a2,b2⟩:=pick_ok hb p1 s1 4 (by omega) (by omega)
 have n1:=n1 (by omega)
 obtain⟨c,p3,s3,e3,a3,b3⟩:=one_ok hb p2 s2 16 (by omega) (by omega)
 cases c with
 | true=>
   obtain⟨m,p4,s4,e4,hm,a4,b4⟩:=among_ok hb p3 s3 [0,8,9] (by simp) (by omega) (by omega)
   have hm2:0≤m∧m≤10:=by simp at hm;omega
   obtain⟨r,⟨K2,e5⟩,h3,h4⟩:=nearDraw_j0 hb x hx m p4 s4 hm2.1 hm2.2 (by omega) (by omega)
   refine⟨x,r,⟨K1+K2,fun k hk=>?_⟩,hx,h3,h4⟩
   have e1:=e1 k (by omega)
   dsimp only at e1 ⊢
   rw[spec_DrawNearestSheet.f,e1,Option.bind_some]
   dsimp only
   rw[e2,Option.bind_some]
   dsimp only
   rw[e3,Option.bind_some,if_pos rfl,e4,Option.bind_some]
   exact e5 k (by omega)
 | false=>
   obtain⟨r,⟨K2,e5⟩,h3,h4⟩:=nearDraw_j0 hb x hx (wrap64 (1+n)) p3 s3 (by rw[wrapS (by omega) (by omega)];omega) (by rw[wrapS (by omega) (by omega)];omega) (by omega) (by omega)
   refine⟨x,r,⟨K1+K2,fun k hk=>?_⟩,hx,h3,h4⟩
   have e1:=e1 k (by omega)
   dsimp only at e1 ⊢
   rw[spec_DrawNearestSheet.f,e1,Option.bind_some]
   dsimp only
   rw[e2,Option.bind_some]
   dsimp only
   rw[e3,Option.bind_some,if_neg (by simp)]
   exact e5 k (by omega)
theorem drawApply_ok {l:List Int} (hb:bytesOk l):∃(a g f:List S40),Ev (fun k=>spec_DrawApplyDifference.f k l) (a,g,f)∧a.length≤70∧g.length≤70∧f.length≤70:=by
 obtain⟨a,p1,s1,⟨K1,e1⟩,ha,a1,b1⟩:=anySheet_ok hb 0 0 (by omega) (by omega)
 obtain⟨b,p2,s2,⟨K2,e2⟩,hb',a2,b2⟩:=changed_ok hb p1 s1 a ha (by omega) (by omega)
 obtain⟨K3,e3⟩:=mgLess_ok a b (by omega) (by omega)
 obtain⟨K4,e4⟩:=mgLess_ok b a (by omega) (by omega)
 have l1:=less_len a b
 have l2:=less_len b a
 obtain⟨c,p3,s3,e5,_,_,a3,b3⟩:=pick_ok hb p2 s2 8 (by omega) (by omega)
 obtain⟨y,p4,s4,⟨K6,e6⟩,hy,_,_⟩:=sheet_ok hb p3 s3 (by omega) (by omega)
 obtain⟨u,v,w,p5,s5,e7,_,_⟩:=anyHole_ok hb p3 s3 (by omega) (by omega)
 have start:∀k,K1+K2+K3+K4+K6≤k→spec_DrawApplyDifference.f k l=(if c=0 then some (a,y,less b a) else(if c=1 then some (a,less a b,y) else(if c=2 then some (a,less a b,less b a ++ [(⟨u,v,w⟩:S40)]) else some (a,less a b,less b a)))):=by
  intro k hk
  have e1:=e1 k (by omega)
  have e2:=e2 k (by omega)
  have e3:=e3 k (by omega)
  have e4:=e4 k (by omega)
  have e6:=e6 k (by omega)
  dsimp only at e1 e2 e3 e4 e6
  rw[spec_DrawApplyDifference.f,e1,Option.bind_some]
  dsimp only
  rw[e2,Option.bind_some]
  dsimp only
  rw[e3,Option.bind_some,e4,Option.bind_some,e5,Option.bind_some]
  dsimp only
  rw[e6,Option.bind_some,Option.bind_some,e7,Option.bind_some,if_pos (show(less b a).length<5864062014805 by omega)]
 by_cases c0:c=0
 · refine⟨a,y,less b a,⟨K1+K2+K3+K4+K6,fun k hk=>?_⟩,by omega,by omega,by omega⟩
   dsimp only
   rw[start k hk,if_pos c0]
 by_cases c1:c=1
 · refine⟨a,less a b,y,⟨K1+K2+K3+K4+K6,fun k hk=>?_⟩,by omega,by omega,by omega⟩
   dsimp only
   rw[start k hk,if_neg c0,if_pos c1]
 by_cases c2:c=2
 · refine⟨a,less a b,less b a ++ [(⟨u,v,w⟩:S40)],⟨K1+K2+K3+K4+K6,fun k hk=>?_⟩,by omega,by omega,by simp;omega⟩
   dsimp only
   rw[start k hk,if_neg c0,if_neg c1,if_pos c2]
 · refine⟨a,less a b,less b a,⟨K1+K2+K3+K4+K6,fun k hk=>?_⟩,by omega,by omega,by omega⟩
   dsimp only
   rw[start k hk,if_neg c0,if_neg c1,if_neg c2]

end Go.Proofs.YtplpjmhmochcfaaGreat.LFnDifferencesB
