/- Plain lemmas on what the printed functions of this law compute; each with the conditions that it names. -/
import Derived.Test.YtkkmeccdjpibmaaGreatDoorQFnCataloguex2
import Derived.Test.YtkkmeccdjpibmaaGreatDoorQFnCataloguex3
import Derived.Test.YtkkmeccdjpibmaaGreatDoorQFnCataloguex4
import Derived.Test.YtkkmeccdjpibmaaGreatDoorQFnCataloguex6
import Derived.Test.YtkkmeccdjpibmaaGreatDoorQFnCataloguex7
import Derived.Test.YtkkmeccdjpibmaaGreatDoorQFnCataloguex8
import Derived.Test.YtkkmeccdjpibmaaGreatDoorQFnCataloguex11
import Derived.Test.YtkkmeccdjpibmaaGreatDoorQFnCataloguex12
import Derived.Test.YtkkmeccdjpibmaaGreatDoorQFnCataloguex13
import Derived.Test.YtkkmeccdjpibmaaGreatDoorQFnCataloguex15
import Derived.Test.YtkkmeccdjpibmaaGreatDoorBaseC
import Derived.Laws.Bits64b
import Derived.Test.YtkkmeccdjpibmaaGreatDoorLFnCatalogueA
namespace Go.Proofs.YtkkmeccdjpibmaaGreatDoor.LFnCatalogueB
open Go Go.RowKit Go.Proofs.YtkkmeccdjpibmaaGreatDoor.QFnCatalogue Go.Proofs.YtkkmeccdjpibmaaGreatDoorW.PrintWords Go.Proofs.YtkkmeccdjpibmaaGreatDoorW.PrintLast Go.Proofs.YtkkmeccdjpibmaaGreatDoorW.PrintMore Go.Proofs.YtkkmeccdjpibmaaGreatDoor.Base Go.Proofs.YtkkmeccdjpibmaaGreatDoor.LFnCatalogueA
set_option linter.unusedVariables false
set_option linter.unusedSimpArgs false

def bytesOk (l:List Int):Prop:= ∀x∈l,0≤x∧x≤255
def lcg (s b:Int):Int:=(s*6364136223846793005+b+1442695040888963407) % 18446744073709551616
theorem and255 (x:Int) (h0:0≤x) (h1:x<18446744073709551616):Go.bits .and .u64 x 255=x % 256:=by
 obtain⟨n,rfl⟩:∃n:Nat,x=n:=⟨x.toNat,by omega⟩
 have h:=bits_and_u64_nat n 255 (by omega) (by omega)
 have h2:=Nat.and_two_pow_sub_one_eq_mod n 8
 rw[show(2:Nat) ^ 8-1=255 from rfl,show(2:Nat) ^ 8=256 from rfl]at h2
 rw[h2]at h
 exact h.trans (by omega)
theorem lcg_eq (s b:Int):IntKind.u64.wrap ((IntKind.u64.wrap ((IntKind.u64.wrap (s*6364136223846793005))+(IntKind.u64.wrap b)))+1442695040888963407)=lcg s b:=by
 simp only[IntKind.wrap_u64,lcg];omega
theorem lcg_eq0 (s:Int):IntKind.u64.wrap ((IntKind.u64.wrap (IntKind.u64.wrap (s*6364136223846793005)))+1442695040888963407)=lcg s 0:=by
 simp only[IntKind.wrap_u64,lcg];omega
theorem lcg_lt (s b:Int):0≤lcg s b∧lcg s b<18446744073709551616:=by unfold lcg;omega
theorem rd_byte {l:List Int} (hb:bytesOk l) (p:Int) (h0:0≤p) (h1:p<l.length):0≤rd l p∧rd l p≤255:=by
 obtain⟨n,rfl⟩:∃n:Nat,p=n:=⟨p.toNat,by omega⟩
 rw[rd_nat l n (by omega)]
 exact hb _ (List.getElem_mem _)
theorem next_in {l:List Int} (hb:bytesOk l) (p s:Int) (h0:0≤p) (h1:p<l.length) (h2:p≤4000000000000000000):spec_l1Cur_next.f l p s=some (rd l p,p+1,lcg s (rd l p)):=by
 have hr:=rd_byte hb p h0 h1
 have hw:wrap64 (p+1)=p+1:=wrapS (by omega) (by omega)
 have hw2:wrap64 (rd l p)=rd l p:=wrapS (by omega) (by omega)
 rw[spec_l1Cur_next.f,if_pos h1,if_pos h0,hw,if_pos (by omega),hw2,lcg_eq]
theorem next_out {l:List Int} (p s:Int) (h1:¬p<l.length) (h0:0≤p) (h2:p≤4000000000000000000):spec_l1Cur_next.f l p s=some ((lcg s 0 / 1099511627776) % 256,p+1,lcg s 0):=by
 have hw:wrap64 (p+1)=p+1:=wrapS (by omega) (by omega)
 have hl:=lcg_lt s 0
 rw[spec_l1Cur_next.f,if_neg h1,hw,if_neg (by omega),lcg_eq0,and255 _ (by omega) (by omega),wrapS (by omega) (by omega)]
theorem next_ok {l:List Int} (hb:bytesOk l) (p s:Int) (h0:0≤p) (h2:p≤4000000000000000000):∃b s',spec_l1Cur_next.f l p s=some (b,p+1,s')∧0≤b∧b≤255:=by
 by_cases h:p<l.length
 · exact⟨_,_,next_in hb p s h0 h h2,rd_byte hb p h0 h⟩
 · exact⟨_,_,next_out p s h h0 h2,by omega,by omega⟩
theorem pick_ok {l:List Int} (hb:bytesOk l) (p s n:Int) (h0:0≤p) (h2:p≤3000000000000000000):∃r p' s',spec_l1Cur_pick.f l p s n=some (r,p',s')∧0≤r∧(1≤n→r<n)∧p≤p'∧p'≤p+2∧(2≤n→p+1≤p'):=by
 by_cases c:n≤1
 · exact⟨0,p,s,by rw[spec_l1Cur_pick.f,if_pos c],by omega,by omega,by omega,by omega,by omega⟩
 · obtain⟨b,s1,e1,b0,b1⟩:=next_ok hb p s h0 (by omega)
   by_cases d:n>200
   · obtain⟨b2,s2,e2,c0,c1⟩:=next_ok hb (p+1) s1 (by omega) (by omega)
     refine⟨Int.tmod (b*256+b2) n,p+1+1,s2,?_,?_,?_,by omega,by omega,by omega⟩
     · rw[spec_l1Cur_pick.f,if_neg c,e1]
       simp only[Option.bind_some]
       rw[if_pos d,e2]
       simp only[Option.bind_some]
       rw[if_neg (by omega),wrapS (x:=b*256) (by omega) (by omega),wrapS (by omega) (by omega)]
     · exact Int.tmod_nonneg _ (by omega)
     · intro _;exact Int.tmod_lt_of_pos _ (by omega)
   · refine⟨Int.tmod b n,p+1,s1,?_,?_,?_,by omega,by omega,by omega⟩
     · rw[spec_l1Cur_pick.f,if_neg c,e1]
       simp only[Option.bind_some]
       rw[if_neg d,if_neg (by omega)]
     · exact Int.tmod_nonneg _ (by omega)
     · intro _;exact Int.tmod_lt_of_pos _ (by omega)
theorem rd_mem {xs:List Int} (r:Int) (h0:0≤r) (h1:r<xs.length):rd xs r∈xs:=by
 obtain⟨n,rfl⟩:∃n:Nat,r=n:=⟨r.toNat,by omega⟩
 rw[rd_nat xs n (by omega)]
 exact List.getElem_mem _
theorem among_ok {l:List Int} (hb:bytesOk l) (p s:Int) (xs:List Int) (hx:1≤xs.length) (h0:0≤p) (h2:p≤3000000000000000000):∃r p' s',spec_l1Cur_among.f l p s xs=some (r,p',s')∧r∈xs∧p≤p'∧p'≤p+2:=by
 obtain⟨r,p',s',e,r0,r1,q0,q1⟩:=pick_ok hb p s (xs.length:Int) h0 h2
 have r1:=r1 (by omega)
 refine⟨rd xs r,p',s',?_,rd_mem r r0 r1,q0,q1.1⟩
 rw[spec_l1Cur_among.f,e]
 simp only[Option.bind_some]
 rw[if_pos r0,if_pos r1]
theorem one_ok {l:List Int} (hb:bytesOk l) (p s n:Int) (h0:0≤p) (h2:p≤3000000000000000000):∃r p' s',spec_l1Cur_one.f l p s n=some (r,p',s')∧p≤p'∧p'≤p+2:=by
 obtain⟨r,p',s',e,_,_,q0,q1⟩:=pick_ok hb p s n h0 h2
 exact⟨r == 0,p',s',by rw[spec_l1Cur_one.f,e];rfl,q0,q1.1⟩

def tiny (x:S47):Prop:=x.f0.size≤20∧x.f1.size≤20
theorem rdO_mem {xs:List ByteArray} (r:Int) (h0:0≤r) (h1:r<xs.length):rdOf ByteArray.empty xs r∈xs:=by
 obtain⟨n,rfl⟩:∃n:Nat,r=n:=⟨r.toNat,by omega⟩
 have h:n<xs.length:=by omega
 simp only[rdOf,List.getD_eq_getElem?_getD,Int.toNat_natCast,List.getElem?_eq_getElem h,Option.getD_some]
 exact List.getElem_mem _
theorem rdR_mem {xs:List S47} (r:Int) (h0:0≤r) (h1:r<xs.length):rd_T47 xs r∈xs:=by
 obtain⟨n,rfl⟩:∃n:Nat,r=n:=⟨r.toNat,by omega⟩
 have h:n<xs.length:=by omega
 simp only[rd_T47,List.getD_eq_getElem?_getD,Int.toNat_natCast,List.getElem?_eq_getElem h,Option.getD_some]
 exact List.getElem_mem _
theorem of_ok {l:List Int} (hb:bytesOk l) (p s:Int) (xs:List ByteArray) (hx:1≤xs.length) (h0:0≤p) (h2:p≤3000000000000000000):∃r p' s',spec_l1Cur_of.f l p s xs=some (r,p',s')∧r∈xs∧p≤p'∧p'≤p+2:=by
 obtain⟨r,p',s',e,r0,r1,q0,q1⟩:=pick_ok hb p s (xs.length:Int) h0 h2
 have r1:=r1 (by omega)
 refine⟨rdOf ByteArray.empty xs r,p',s',?_,rdO_mem r r0 r1,q0,q1.1⟩
 rw[spec_l1Cur_of.f,e]
 simp only[Option.bind_some]
 rw[if_pos r0,if_pos r1]
theorem of_small {l:List Int} (hb:bytesOk l) (p s:Int) (xs:List ByteArray) (hx:1≤xs.length) (hs:∀y∈xs,y.size≤20) (h0:0≤p) (h2:p≤3000000000000000000):∃r p' s',spec_l1Cur_of.f l p s xs=some (r,p',s')∧r.size≤20∧p≤p'∧p'≤p+2:=by
 obtain⟨r,p',s',e,hr,q⟩:=of_ok hb p s xs hx h0 h2
 exact⟨r,p',s',e,hs r hr,q⟩
theorem maker_ok {l:List Int} (hb:bytesOk l) (p s:Int) (h0:0≤p) (h2:p≤3000000000000000000):∃r p' s',spec_l1Cur_maker.f l p s=some (r,p',s')∧r.size≤20∧p≤p'∧p'≤p+2:=by
 unfold spec_l1Cur_maker.f
 obtain⟨r,p',s',e,hr,q⟩:=of_small hb p s (([(⟨#[119,101,108,116,101]⟩:ByteArray),(⟨#[104,117,112,102,101,108,100]⟩:ByteArray),(⟨#[114,101,117,103,101]⟩:ByteArray),(⟨#[97]⟩:ByteArray),(⟨#[112,111,112,112,101,114]⟩:ByteArray)]:List ByteArray)) (by decide) (by decide) h0 h2
 exact⟨r,p',s',by rw[e];rfl,hr,q⟩
theorem tiny_set {x:List S47} (hx:∀y∈x,tiny y) (i:Nat) (z:S47) (hz:tiny z):∀y∈x.set i z,tiny y:=by
 intro y hy
 rcases List.mem_or_eq_of_mem_set hy with h | rfl
 · exact hx y h
 · exact hz
theorem tiny_snoc {x:List S47} (hx:∀y∈x,tiny y) (z:S47) (hz:tiny z):∀y∈x ++ [z],tiny y:=by
 intro y hy
 rcases List.mem_append.1 hy with h | h
 · exact hx y h
 · rw[List.mem_singleton.1 h];exact hz
theorem rolls_j3 {l:List Int} (hb:bytesOk l) (x:List S47) (hl:x.length≤31) (hx:∀y∈x,tiny y) (p s:Int) (h0:0≤p) (h1:p≤1000000000000000000) :
 ∃r p' s',Ev (fun k=>spec_l1Cur_rolls.j3 k x l p s) (r,p',s')∧r.length≤31∧(∀y∈r,tiny y)∧p≤p'∧p'≤p+6:=by
 by_cases c:(x.length:Int)>0
 · obtain⟨i,p1,s1,e1,i0,i1,a1,b1⟩:=pick_ok hb p s (x.length:Int) h0 (by omega)
   have i1:=i1 (by omega)
   obtain⟨n,p2,s2,e2,_,_,a2,b2⟩:=pick_ok hb p1 s1 30 (by omega) (by omega)
   have hm:=hx _ (rdR_mem i i0 i1)
   by_cases c0:n=0
   · obtain⟨v,p3,s3,e3,hv,a3,b3⟩:=of_small hb p2 s2 (([(⟨#[]⟩:ByteArray),(⟨#[65]⟩:ByteArray),(⟨#[119,97,108,116,122]⟩:ByteArray),(⟨#[97,98,99,100,101,102,103,104,105,106,107,108,109]⟩:ByteArray),(⟨#[97,32,98]⟩:ByteArray)]:List ByteArray)) (by decide) (by decide) (by omega) (by omega)
     refine⟨x.set (i:Int).toNat ⟨v,(rd_T47 x i).f1,(rd_T47 x i).f2,(rd_T47 x i).f3⟩,p3,s3,ev_step (f:=fun _=>some _) (Ev.now _) (fun k=>?_),by simpa using hl,tiny_set hx _ _ ⟨hv,hm.2⟩,by omega,by omega⟩
     rw[spec_l1Cur_rolls.j3,if_pos c,e1,Option.bind_some,if_pos i0,if_pos i1,e2,Option.bind_some,if_pos c0,e3,Option.bind_some]
   by_cases c1:n=1
   · obtain⟨v,p3,s3,e3,hv,a3,b3⟩:=of_small hb p2 s2 (([(⟨#[]⟩:ByteArray),(⟨#[66]⟩:ByteArray),(⟨#[97,98,99,100,101,102,103,104,105,106,107,108,109]⟩:ByteArray)]:List ByteArray)) (by decide) (by decide) (by omega) (by omega)
     refine⟨x.set (i:Int).toNat ⟨(rd_T47 x i).f0,v,(rd_T47 x i).f2,(rd_T47 x i).f3⟩,p3,s3,ev_step (f:=fun _=>some _) (Ev.now _) (fun k=>?_),by simpa using hl,tiny_set hx _ _ ⟨hm.1,hv⟩,by omega,by omega⟩
     rw[spec_l1Cur_rolls.j3,if_pos c,e1,Option.bind_some,if_pos i0,if_pos i1,e2,Option.bind_some,if_neg c0,if_pos c1,e3,Option.bind_some]
   by_cases c2:n=2
   · obtain⟨v,p3,s3,e3,hv,a3,b3⟩:=among_ok hb p2 s2 (([1799,1800,2100,2101]:List Int)) (by decide) (by omega) (by omega)
     refine⟨x.set (i:Int).toNat ⟨(rd_T47 x i).f0,(rd_T47 x i).f1,v,(rd_T47 x i).f3⟩,p3,s3,ev_step (f:=fun _=>some _) (Ev.now _) (fun k=>?_),by simpa using hl,tiny_set hx _ _ ⟨hm.1,hm.2⟩,by omega,by omega⟩
     rw[spec_l1Cur_rolls.j3,if_pos c,e1,Option.bind_some,if_pos i0,if_pos i1,e2,Option.bind_some,if_neg c0,if_neg c1,if_pos c2,e3,Option.bind_some]
   by_cases c3:n=3
   · obtain⟨v,p3,s3,e3,hv,a3,b3⟩:=among_ok hb p2 s2 (([(-2),0,wrap64 ((x.length:Int)-1),(x.length:Int)]:List Int)) (by simp) (by omega) (by omega)
     refine⟨x.set (i:Int).toNat ⟨(rd_T47 x i).f0,(rd_T47 x i).f1,(rd_T47 x i).f2,v⟩,p3,s3,ev_step (f:=fun _=>some _) (Ev.now _) (fun k=>?_),by simpa using hl,tiny_set hx _ _ ⟨hm.1,hm.2⟩,by omega,by omega⟩
     rw[spec_l1Cur_rolls.j3,if_pos c,e1,Option.bind_some,if_pos i0,if_pos i1,e2,Option.bind_some,if_neg c0,if_neg c1,if_neg c2,if_pos c3,e3,Option.bind_some]
   · refine⟨x,p2,s2,ev_step (f:=fun _=>some _) (Ev.now _) (fun k=>?_),hl,hx,by omega,by omega⟩
     rw[spec_l1Cur_rolls.j3,if_pos c,e1,Option.bind_some,if_pos i0,if_pos i1,e2,Option.bind_some,if_neg c0,if_neg c1,if_neg c2,if_neg c3]
 · refine⟨x,p,s,ev_step (f:=fun _=>some _) (Ev.now _) (fun k=>?_),hl,hx,by omega,by omega⟩
   rw[spec_l1Cur_rolls.j3,if_neg c]
theorem rolls_l1 {l:List Int} (hb:bytesOk l) (n:Int) (hn:n≤31) (d:Nat):∀(x:List S47) (p s:Int),(x.length:Int)+d=n→(∀y∈x,tiny y)→0≤p→p≤1000000000000000000 →
 ∃r p' s',Ev (fun k=>spec_l1Cur_rolls.l1 k x n l p s) (r,p',s')∧r.length≤31∧(∀y∈r,tiny y)∧p≤p'∧p'≤p+6:=by
 induction d with
 | zero=>
   intro x p s hl hx h0 h1
   obtain⟨r,p',s',e,q⟩:=rolls_j3 hb x (by omega) hx p s h0 h1
   refine⟨r,p',s',ev_step e (fun k=>?_),q⟩
   rw[spec_l1Cur_rolls.l1,if_neg (by omega)]
 | succ d ih=>
   intro x p s hl hx h0 h1
   have hz:∀a b:Int,(strOfNums [a,b]).size=2:=fun a b=>by rw[strOfNums_size];rfl
   obtain⟨r,p',s',e,q⟩:=ih (x ++ [(⟨(⟨#[120]⟩:ByteArray) ++ (strOfNums ([97+((x.length:Int) % 26),(wrap64 (97+(wrap64 ((x.length:Int) / 26)))) % 256]:List Int)),(⟨#[119,101,108,116,101]⟩:ByteArray),1900,wrap64 ((x.length:Int)-1)⟩:S47)]) p s (by simp;omega) (tiny_snoc hx _ ⟨by
    show(_ ++ _:ByteArray).size≤20
    rw[ByteArray.size_append,hz];decide,(by decide:(⟨#[119,101,108,116,101]⟩:ByteArray).size≤20)⟩) h0 h1
   refine⟨r,p',s',ev_step e (fun k=>?_),q⟩
   rw[spec_l1Cur_rolls.l1,if_pos (by omega),Option.bind_some,if_pos (by rw[hz];omega),if_pos (by omega)]
theorem titles_small:∀y∈([(⟨#[119,97,108,116,122]⟩:ByteArray),(⟨#[109,97,114,99,104]⟩:ByteArray),(⟨#[112,111,108,107,97]⟩:ByteArray),(⟨#[97,114,105,97]⟩:ByteArray),(⟨#[102,117,103,117,101]⟩:ByteArray),(⟨#[114,111,110,100,111]⟩:ByteArray),(⟨#[97]⟩:ByteArray),(⟨#[122]⟩:ByteArray),(⟨#[97,98,99,100,101,102,103,104,105,106,107,108]⟩:ByteArray),(⟨#[103,97,118,111,116,116,101]⟩:ByteArray),(⟨#[103,97,108,111,112]⟩:ByteArray),(⟨#[104,121,109,110]⟩:ByteArray)]:List ByteArray),y.size≤20:=by decide
theorem titles_ok:∃t:List ByteArray,spec_caTitles.f=some t∧t.length=12∧∀y∈t,y.size≤20:=⟨_,rfl,rfl,titles_small⟩
theorem rolls_l0 {l:List Int} (hb:bytesOk l) (n:Int) (hn:n≤8) (d:Nat):∀(x:List S47) (y p s:Int),(x.length:Int)+d=n→(∀y∈x,tiny y)→0≤p→p+10*d≤500000000000000000 →
 ∃r p' s',Ev (fun k=>spec_l1Cur_rolls.l0 k x n y (x.length:Int) l p s) (r,p',s')∧r.length≤31∧(∀y∈r,tiny y)∧p≤p'∧p'≤p+10*d+20:=by
 induction d with
 | zero=>
   intro x y p s hl hx h0 h1
   obtain⟨b,p1,s1,e1,a1,b1⟩:=one_ok hb p s 20 h0 (by omega)
   cases b with
   | true=>
     obtain⟨m,p2,s2,e2,m0,m1,a2,b2⟩:=pick_ok hb p1 s1 2 (by omega) (by omega)
     have m1:=m1 (by omega)
     have hw:wrap64 (30+m)=30+m:=wrapS (by omega) (by omega)
     obtain⟨r,p',s',e,hr,hr2,a3,b3⟩:=rolls_l1 hb (30+m) (by omega) (30+m).toNat [] p2 s2 (by simp;omega) (by simp) (by omega) (by omega)
     refine⟨r,p',s',ev_step e (fun k=>?_),hr,hr2,by omega,by omega⟩
     rw[spec_l1Cur_rolls.l0,if_neg (by omega),e1,Option.bind_some,if_pos rfl,e2,Option.bind_some,hw]
   | false=>
     obtain⟨r,p',s',e,hr,hr2,a3,b3⟩:=rolls_j3 hb x (by omega) hx p1 s1 (by omega) (by omega)
     refine⟨r,p',s',ev_step e (fun k=>?_),hr,hr2,by omega,by omega⟩
     rw[spec_l1Cur_rolls.l0,if_neg (by omega),e1,Option.bind_some,if_neg (by simp)]
 | succ d ih=>
   intro x y p s hl hx h0 h1
   obtain⟨t,et,ht,htz⟩:=titles_ok
   obtain⟨mk,p1,s1,e1,hmk,a1,b1⟩:=maker_ok hb p s h0 (by omega)
   have hti:(rdOf ByteArray.empty t (x.length:Int)).size≤20:=htz _ (rdO_mem _ (by omega) (by omega))
   have hw:wrap64 ((x.length:Int)+1)=(x.length:Int)+1:=wrapS (by omega) (by omega)
   have J:∀(b:Bool) (q u:Int),0≤q→q≤p+4→p≤q→∃r p' s',Ev (fun k=>spec_l1Cur_rolls.j1 k x n y (x.length:Int) b l q u (rdOf ByteArray.empty t (x.length:Int)) mk y (-1)) (r,p',s')∧r.length≤31∧(∀y∈r,tiny y)∧p≤p'∧p'≤p+10*(d+1:Nat)+20:=by
    intro b q u q0 q1 q2
    cases b with
    | true=>
      obtain⟨v,p2,s2,e2,_,_,a2,b2⟩:=pick_ok hb q u (x.length:Int) q0 (by omega)
      obtain⟨w,p3,s3,e3,_,a3,b3⟩:=among_ok hb p2 s2 (([0,0,1,10]:List Int)) (by decide) (by omega) (by omega)
      obtain⟨r,p',s',e,hr,hr2,a4,b4⟩:=ih (x ++ [⟨rdOf ByteArray.empty t (x.length:Int),mk,y,v⟩]) (wrap64 (y+w)) p3 s3 (by simp;omega) (tiny_snoc hx _ ⟨hti,hmk⟩) (by omega) (by omega)
      rw[snoc_leni]at e
      refine⟨r,p',s',ev_step e (fun k=>?_),hr,hr2,by omega,by omega⟩
      rw[spec_l1Cur_rolls.j1,if_pos rfl,e2,Option.bind_some,if_pos (by omega),e3,Option.bind_some,hw]
    | false=>
      obtain⟨w,p3,s3,e3,_,a3,b3⟩:=among_ok hb q u (([0,0,1,10]:List Int)) (by decide) (by omega) (by omega)
      obtain⟨r,p',s',e,hr,hr2,a4,b4⟩:=ih (x ++ [⟨rdOf ByteArray.empty t (x.length:Int),mk,y, -1⟩]) (wrap64 (y+w)) p3 s3 (by simp;omega) (tiny_snoc hx _ ⟨hti,hmk⟩) (by omega) (by omega)
      rw[snoc_leni]at e
      refine⟨r,p',s',ev_step e (fun k=>?_),hr,hr2,by omega,by omega⟩
      rw[spec_l1Cur_rolls.j1,if_neg (by decide),if_pos (by omega),e3,Option.bind_some,hw]
   by_cases c:(x.length:Int)>0
   · obtain⟨b,p2,s2,e2,a2,b2⟩:=one_ok hb p1 s1 3 (by omega) (by omega)
     obtain⟨r,p',s',e,q⟩:=J (!b) p2 s2 (by omega) (by omega) (by omega)
     refine⟨r,p',s',ev_step e (fun k=>?_),q⟩
     rw[spec_l1Cur_rolls.l0,if_pos (by omega),et,Option.bind_some,if_pos (by omega),if_pos (by omega),e1,Option.bind_some,if_pos c,e2,Option.bind_some]
   · obtain⟨r,p',s',e,q⟩:=J false p1 s1 (by omega) (by omega) (by omega)
     refine⟨r,p',s',ev_step e (fun k=>?_),q⟩
     rw[spec_l1Cur_rolls.l0,if_pos (by omega),et,Option.bind_some,if_pos (by omega),if_pos (by omega),e1,Option.bind_some,if_neg c]
theorem rolls_ok {l:List Int} (hb:bytesOk l) (p s:Int) (h0:0≤p) (h1:p≤100000000000000000) :
 ∃r p' s',Ev (fun k=>spec_l1Cur_rolls.f k l p s) (r,p',s')∧r.length≤31∧(∀y∈r,tiny y)∧p≤p'∧p'≤p+120:=by
 obtain⟨n,p1,s1,e1,n0,n1,a1,b1⟩:=pick_ok hb p s 9 h0 (by omega)
 have n1:=n1 (by omega)
 obtain⟨r,p',s',e,hr,hr2,a2,b2⟩:=rolls_l0 hb n (by omega) n.toNat [] 1880 p1 s1 (by simp;omega) (by simp) (by omega) (by omega)
 refine⟨r,p',s',Ev.congr (fun k=>?_) e,hr,hr2,by omega,by omega⟩
 rw[spec_l1Cur_rolls.f,e1,Option.bind_some]
 rfl
theorem rdLL_mid (pre suf:List (List UInt8)) (x:List UInt8):rdOf ByteArray.empty ((pre ++ x :: suf).map ofL) (pre.length:Int)=ofL x:=by
 rw[List.map_append,List.map_cons,rdOf,List.getD_eq_getElem?_getD,Int.toNat_natCast,List.getElem?_append_right (by simp)]
 simp
theorem map_step (x:S47) (out:List S47) (r:Option (List S47)):((some x).bind fun y=>r.map (y :: ·)).map (out ++ ·)=r.map ((out ++ [x]) ++ ·):=by
 cases r<;>simp
theorem toList_ofL (l:List UInt8):(ofL l).toList=l:=by rw[Lib.toList_data,data_ofL]
theorem size_ofL (l:List UInt8):(ofL l).size=l.length:=by rw[ba_size,data_ofL]
theorem split_ofL (z:List UInt8) (h:z.length≤1048576):Ev (fun k=>spec_l1Split.f k (ofL z) 32) ((spl 32 z).map ofL):=by
 have e:=specSplit_ok (ofL z) 32 (by rw[size_ofL];exact h)
 rw[data_ofL]at e
 exact e
theorem read_ofL (z:List UInt8):Ev (fun k=>spec_l1Read.f k (ofL z)) (rd6 z):=by
 have e:=l1Read_ok (ofL z)
 rw[data_ofL]at e
 exact e
theorem decimal_ofL (z:List UInt8):Ev (fun k=>impl_decimal.f k (ofL z)) (decR (decL z)):=by
 have e:=decimal_ok (ofL z)
 rw[data_ofL]at e
 exact e
theorem word_small {z a b c d:List UInt8} (hw:spl 32 z = [a,b,c,d]):a.length≤z.length∧b.length≤z.length:=by
 have h:=splA_small 32 z []
 rw[spl]at hw
 rw[hw]at h
 have h1:=h a (by simp)
 have h2:=h b (by simp)
 simp at h1 h2
 exact⟨h1,h2⟩
theorem catext_ok (l:List S47) (g:good l=true) (h:l.length≤1048576):Ev (fun k=>spec_caText.f k l) (ofL (textC l)):=by
 have h2:=specCat_l0 l (good_all l g) [] (⟨#[]⟩:ByteArray) (by simpa using h) (by show 0≤_;omega)
 simp only[List.nil_append,List.length_nil,Int.natCast_zero]at h2
 exact Ev.congr (fun _=>rfl) h2

theorem rollIndex2_ok {l:List Int} (hb:bytesOk l) (p s:Int) (x:List S47) (h0:0≤p) (h1:p≤100000000000000000):∃r p' s',spec_l1Cur_rollIndex.f l p s x=some (r,p',s')∧p≤p'∧p'≤p+10:=by
 obtain⟨n,p1,s1,e1,_,_,a1,b1⟩:=pick_ok hb p s 16 h0 (by omega)
 obtain⟨m,p2,s2,e2,_,_,a2,b2⟩:=pick_ok hb p1 s1 (wrap64 ((x.length:Int)+(wrap64 (Int.tdiv n 15)))) (by omega) (by omega)
 obtain⟨w,p3,s3,e3,_,_,a3,b3⟩:=pick_ok hb p2 s2 24 (by omega) (by omega)
 exact⟨_,p3,s3,by rw[spec_l1Cur_rollIndex.f,e1,Option.bind_some,e2,Option.bind_some,e3,Option.bind_some],by omega,by omega⟩
theorem drawCat_ok {l:List Int} (hb:bytesOk l):∃r,Ev (fun k=>spec_DrawCatalogueText.f k l) r∧r.length≤31∧∀y∈r,tiny y:=by
 obtain⟨r,p,s,e,hr,hr2,a,b⟩:=rolls_ok hb 0 0 (by omega) (by omega)
 exact⟨r,Ev.bind (Ev.bind e (ev_of_eq (fun _=>rfl))) (ev_of_eq (fun _=>rfl)),hr,hr2⟩
theorem drawCommon_ok {l:List Int} (hb:bytesOk l):∃r i j,Ev (fun k=>spec_DrawCommonSource.f k l) (r,i,j)∧r.length≤31∧∀y∈r,tiny y:=by
 obtain⟨r,p,s,e,hr,hr2,a,b⟩:=rolls_ok hb 0 0 (by omega) (by omega)
 obtain⟨i,p2,s2,e2,a2,b2⟩:=rollIndex2_ok hb p s r (by omega) (by omega)
 obtain⟨j,p3,s3,e3,a3,b3⟩:=rollIndex2_ok hb p2 s2 r (by omega) (by omega)
 exact⟨r,i,j,Ev.bind e (ev_of_eq (fun _=>by simp only;rw[e2,Option.bind_some];simp only;rw[e3,Option.bind_some])),hr,hr2⟩
theorem spoilt_l0 {l:List Int} (hb:bytesOk l) (x2:ByteArray) (h1:1≤x2.size) (h2:x2.size≤20) (d:Nat):∀(x1:ByteArray) (x7 p s:Int),x7=(d:Int)→d≤10→x1.size+d≤1000000→0≤p→p+10*d≤1000000000000 →
 ∃r p' s',Ev (fun k=>spec_l1Cur_spoilt.l0 k x1 x2 x7 l p s) (r,p',s')∧r.size≤x1.size+d:=by
 induction d with
 | zero=>
   intro x1 x7 p s h7 _ _ _ _
   refine⟨x1,p,s,⟨2,fun k hk=>?_⟩,Nat.le_refl _⟩
   obtain⟨m,rfl⟩:∃m,k=m+2:=⟨k-2,by omega⟩
   dsimp only
   rw[spec_l1Cur_spoilt.l0,if_neg (by omega),spec_l1Cur_spoilt.j1,if_neg (by simp)]
 | succ d ih=>
   intro x1 x7 p s h7 hd hs h0 hp
   by_cases c:(x1.size:Int)>0
   · obtain⟨t,p1,s1,e1,t0,t1,a1,b1⟩:=pick_ok hb p s (x1.size:Int) h0 (by omega)
     obtain⟨u,p2,s2,e2,u0,u1,a2,b2⟩:=pick_ok hb p1 s1 (x2.size:Int) (by omega) (by omega)
     obtain⟨v,p3,s3,e3,v0,v1,a3,b3⟩:=pick_ok hb p2 s2 3 (by omega) (by omega)
     have t1:=t1 (by omega)
     have u1:=u1 (by omega)
     have hw:wrap64 (t+1)=t+1:=wrapS (by omega) (by omega)
     have g1:(x1.extract 0 t.toNat).size=t.toNat:=by rw[ByteArray.size_extract];omega
     have g2:(x1.extract t.toNat x1.size).size=x1.size-t.toNat:=by rw[ByteArray.size_extract];omega
     have g3:(x1.extract (t+1).toNat x1.size).size=x1.size-(t+1).toNat:=by rw[ByteArray.size_extract];omega
     have g4:(strOfNums [bt x2 u]).size=1:=strOfNums_size _
     have go:∀x':ByteArray,x'.size≤x1.size+1→∃r p' s',Ev (fun k=>spec_l1Cur_spoilt.l0 k x' x2 (wrap64 (x7-1)) l p3 s3) (r,p',s')∧r.size≤x1.size+(d+1):=by
      intro x' hx
      obtain⟨r,p',s',e,hr⟩:=ih x' (wrap64 (x7-1)) p3 s3 (by rw[wrapS (by omega) (by omega)];omega) (by omega) (by omega) (by omega) (by omega)
      exact⟨r,p',s',e,by omega⟩
     by_cases c0:v=0
     · obtain⟨r,p',s',⟨K,e⟩,hr⟩:=go (((x1.extract 0 t.toNat) ++ (strOfNums [bt x2 u])) ++ (x1.extract t.toNat x1.size)) (by rw[ByteArray.size_append,ByteArray.size_append];omega)
       refine⟨r,p',s',⟨K+2,fun k hk=>?_⟩,hr⟩
       obtain⟨m,rfl⟩:∃m,k=m+2:=⟨k-2,by omega⟩
       have e:=e m (by omega)
       dsimp only at e ⊢
       rw[spec_l1Cur_spoilt.l0,if_pos (by omega),spec_l1Cur_spoilt.j1,if_pos (decide_eq_true c),e1,Option.bind_some]
       dsimp only
       rw[e2,Option.bind_some]
       dsimp only
       rw[if_pos u0,if_pos u1,Option.bind_some,e3,Option.bind_some]
       dsimp only
       rw[if_pos c0,if_pos t0,if_pos (by omega),if_pos (by omega),if_pos (by rw[ByteArray.size_append];omega)]
       exact e
     by_cases c1:v=1
     · obtain⟨r,p',s',⟨K,e⟩,hr⟩:=go (((x1.extract 0 t.toNat) ++ (strOfNums [bt x2 u])) ++ (x1.extract (t+1).toNat x1.size)) (by rw[ByteArray.size_append,ByteArray.size_append];omega)
       refine⟨r,p',s',⟨K+2,fun k hk=>?_⟩,hr⟩
       obtain⟨m,rfl⟩:∃m,k=m+2:=⟨k-2,by omega⟩
       have e:=e m (by omega)
       dsimp only at e ⊢
       rw[spec_l1Cur_spoilt.l0,if_pos (by omega),spec_l1Cur_spoilt.j1,if_pos (decide_eq_true c),e1,Option.bind_some]
       dsimp only
       rw[e2,Option.bind_some]
       dsimp only
       rw[if_pos u0,if_pos u1,Option.bind_some,e3,Option.bind_some]
       dsimp only
       rw[if_neg c0,if_pos c1,if_pos t0,if_pos (by omega),if_pos (by omega),hw,if_pos (by omega),if_pos (by omega),if_pos (by rw[ByteArray.size_append];omega)]
       exact e
     · obtain⟨r,p',s',⟨K,e⟩,hr⟩:=go ((x1.extract 0 t.toNat) ++ (x1.extract (t+1).toNat x1.size)) (by rw[ByteArray.size_append];omega)
       refine⟨r,p',s',⟨K+2,fun k hk=>?_⟩,hr⟩
       obtain⟨m,rfl⟩:∃m,k=m+2:=⟨k-2,by omega⟩
       have e:=e m (by omega)
       dsimp only at e ⊢
       rw[spec_l1Cur_spoilt.l0,if_pos (by omega),spec_l1Cur_spoilt.j1,if_pos (decide_eq_true c),e1,Option.bind_some]
       dsimp only
       rw[e2,Option.bind_some]
       dsimp only
       rw[if_pos u0,if_pos u1,Option.bind_some,e3,Option.bind_some]
       dsimp only
       rw[if_neg c0,if_neg c1,if_pos t0,if_pos (by omega),hw,if_pos (by omega),if_pos (by omega),if_pos (by omega)]
       exact e
   · refine⟨x1,p,s,⟨2,fun k hk=>?_⟩,by omega⟩
     obtain⟨m,rfl⟩:∃m,k=m+2:=⟨k-2,by omega⟩
     dsimp only
     rw[spec_l1Cur_spoilt.l0,if_pos (by omega),spec_l1Cur_spoilt.j1,if_neg (by simpa using c)]
theorem line_size (x:S47) (h:rollB x=true):(lineC x).length≤400:=by
 have h:=of_decide_eq_true h
 have n2:=num_small x.f2 (by omega) (by omega)
 have n3:=src_small x.f3 (by omega) (by omega)
 have E32:(⟨#[32]⟩:ByteArray).size=1:=rfl
 have E10:(⟨#[10]⟩:ByteArray).size=1:=rfl
 rw[lineC, ← ba_size,lineB]
 simp only[ByteArray.size_append,E32,E10]
 omega
theorem text_len (l:List S47):l.all rollB=true→(textC l).length≤400*l.length:=by
 unfold textC
 induction l with
 | nil=>intro _;simp
 | cons x l ih=>
   intro h
   simp only[List.all_cons,Bool.and_eq_true]at h
   have h1:=line_size x h.1
   have h2:=ih h.2
   rw[List.flatMap_cons,List.length_append,List.length_cons]
   omega
theorem text_size (l:List S47) (g:good l=true):(ofL (textC l)).size≤12000:=by
 have h:=text_len l (good_all l g)
 have:=good_len g
 rw[size_ofL];omega
theorem drawText_ok {l:List Int} (hb:bytesOk l):∃t,Ev (fun k=>spec_DrawParseCatalogue.f k l) t∧t.size≤1048576:=by
 obtain⟨r,p,s,⟨K0,e0⟩,hr,hr2,a,b⟩:=rolls_ok hb 0 0 (by omega) (by omega)
 obtain⟨K1,e1⟩:=caGood_ok r (by omega) (fun y hy=>by have:=hr2 y hy;unfold tiny at this;omega)
 by_cases g:good r=true
 · obtain⟨K2,e2⟩:=catext_ok r g (by omega)
   obtain⟨c,p1,s1,e3,a1,b1⟩:=one_ok hb p s 3 (by omega) (by omega)
   have hsz:=text_size r g
   cases c with
   | false=>
     refine⟨ofL (textC r),⟨K0+K1+K2,fun k hk=>?_⟩,by omega⟩
     have e0:=e0 k (by omega)
     have e1:=e1 k (by omega)
     have e2:=e2 k (by omega)
     dsimp only at e0 e1 e2 ⊢
     rw[spec_DrawParseCatalogue.f,e0,Option.bind_some]
     dsimp only
     rw[e1,Option.bind_some,if_pos g,e2,Option.bind_some,e3,Option.bind_some,if_neg (by simp)]
   | true=>
     obtain⟨n,p2,s2,e4,n0,n1,a2,b2⟩:=pick_ok hb p1 s1 2 (by omega) (by omega)
     have n1:=n1 (by omega)
     have hw:wrap64 (1+n)=((1+n).toNat:Int):=by rw[wrapS (by omega) (by omega)];omega
     obtain⟨t,p3,s3,⟨K3,e5⟩,ht⟩:=spoilt_l0 hb (⟨#[97,48,49,57,45,32,10]⟩:ByteArray) (by decide) (by decide) (1+n).toNat (ofL (textC r)) (wrap64 (1+n)) p2 s2 hw (by omega) (by omega) (by omega) (by omega)
     refine⟨t,⟨K0+K1+K2+K3,fun k hk=>?_⟩,by omega⟩
     have e0:=e0 k (by omega)
     have e1:=e1 k (by omega)
     have e2:=e2 k (by omega)
     have e5:=e5 k (by omega)
     dsimp only at e0 e1 e2 e5 ⊢
     rw[spec_DrawParseCatalogue.f,e0,Option.bind_some]
     dsimp only
     rw[e1,Option.bind_some,if_pos g,e2,Option.bind_some,e3,Option.bind_some,if_pos rfl,spec_l1Cur_spoilt.f,e4,Option.bind_some,e5,Option.bind_some]
 · obtain⟨t,p1,s1,e3,ht,_⟩:=of_small hb p s ([(⟨#[]⟩:ByteArray),(⟨#[97,32,98,32,49,57,48,48,32,45]⟩:ByteArray),(⟨#[97,32,98,32,49,57,48,48,32,48,10]⟩:ByteArray),(⟨#[97,32,98,32,49,57,48,48,32,45,49,10]⟩:ByteArray),(⟨#[97,32,98,32,49,55,57,57,32,45,10]⟩:ByteArray),(⟨#[97,32,98,32,48,49,57,48,48,32,45,10]⟩:ByteArray),(⟨#[97,32,98,32,49,57,48,48,10]⟩:ByteArray),(⟨#[97,32,32,49,57,48,48,32,45,10]⟩:ByteArray),(⟨#[10]⟩:ByteArray)]:List ByteArray) (by decide) (by decide) (by omega) (by omega)
   refine⟨t,⟨K0+K1,fun k hk=>?_⟩,by omega⟩
   have e0:=e0 k (by omega)
   have e1:=e1 k (by omega)
   dsimp only at e0 e1 ⊢
   rw[spec_DrawParseCatalogue.f,e0,Option.bind_some]
   dsimp only
   rw[e1,Option.bind_some,if_neg g,e3,Option.bind_some]

theorem num_i (n:Int):impl_CatalogueText.num n=numB n:=by
 rw[impl_CatalogueText.num,DoorLib.wordsOf,List.map_cons,List.map_nil,Lib.join_one,numB]
theorem line_i (x:S47):impl_CatalogueText.line x=lineC x:=by
 unfold impl_CatalogueText.line lineC impl_CatalogueText.lineB lineB impl_CatalogueText.src srcB
 rw[num_i,num_i]
def textR (l:List S47):ByteArray×Bool:=if good l=true then(ofL (textC l),true) else((⟨#[]⟩:ByteArray),false)
theorem specText_ok (l:List S47) (h:l.length≤1048576) (hz:∀x∈l,x.f0.size≤1048576∧x.f1.size≤1048576):Ev (fun k=>spec_CatalogueText.f k l) (textR l):=by
 refine Ev.bind (caGood_ok l h hz) ?_
 cases g:good l with
 | false=>exact ev_of_eq (fun _=>by simp only[textR,g,Bool.false_eq_true,if_false])
 | true=>
   simp only[if_true]
   exact Ev.bind (catext_ok l g h) (ev_of_eq (fun _=>by simp only[textR,g,if_true]))
theorem implText_ok (l:List S47) (h:l.length≤1048576) (hz:∀x∈l,x.f0.size≤1048576∧x.f1.size≤1048576):Ev (fun k=>impl_CatalogueText.f k l) (textR l):=by
 refine Ev.bind (isCat_ok l h hz) ?_
 cases g:good l with
 | false=>exact ev_of_eq (fun _=>by simp only[textR,g,Bool.false_eq_true,if_false])
 | true=>
   have ha:=good_all l g
   have hok:l.all impl_CatalogueText.ok=true:=by
    rw[List.all_eq_true]
    intro x hx
    have h3:=of_decide_eq_true (List.all_eq_true.1 ha x hx)
    simp only[impl_CatalogueText.ok,Bool.and_eq_true,decide_eq_true_eq]
    omega
   refine ev_of_eq (fun _=>?_)
   simp only[textR,g,if_true]
   rw[if_pos hok,if_pos (by have:=good_len g;omega),textC,ofL,show impl_CatalogueText.line=lineC from funext line_i]

end Go.Proofs.YtkkmeccdjpibmaaGreatDoor.LFnCatalogueB
