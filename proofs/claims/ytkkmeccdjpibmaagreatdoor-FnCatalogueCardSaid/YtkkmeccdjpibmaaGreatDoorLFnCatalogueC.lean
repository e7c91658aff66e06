/- Plain lemmas on what the printed functions of this law compute; each with the conditions that it names. -/
import Derived.Test.YtkkmeccdjpibmaaGreatDoorQFnCataloguex14
import Derived.Test.YtkkmeccdjpibmaaGreatDoorQFnCataloguex15
import Derived.Test.YtkkmeccdjpibmaaGreatDoorQFnCataloguex16
import Derived.Test.YtkkmeccdjpibmaaGreatDoorBaseC
import Derived.Test.YtkkmeccdjpibmaaGreatDoorLFnCatalogueB
namespace Go.Proofs.YtkkmeccdjpibmaaGreatDoor.LFnCatalogueC
open Go Go.RowKit Go.Proofs.YtkkmeccdjpibmaaGreatDoor.QFnCatalogue Go.Proofs.YtkkmeccdjpibmaaGreatDoorW.PrintWords Go.Proofs.YtkkmeccdjpibmaaGreatDoorW.PrintLast Go.Proofs.YtkkmeccdjpibmaaGreatDoorW.PrintMore Go.Proofs.YtkkmeccdjpibmaaGreatDoor.Base Go.Proofs.YtkkmeccdjpibmaaGreatDoor.LFnCatalogueA Go.Proofs.YtkkmeccdjpibmaaGreatDoor.LFnCatalogueB
set_option linter.unusedVariables false
set_option linter.unusedSimpArgs false

theorem sizes_snoc (out:List S47) (a b:List UInt8) (y m:Int) (h:∀x∈out,x.f0.size≤1048576∧x.f1.size≤1048576) (ha:a.length≤1048576) (hb:b.length≤1048576):∀x∈out ++ [(⟨ofL a,ofL b,y,m⟩:S47)],x.f0.size≤1048576∧x.f1.size≤1048576:=by
 intro x hx
 rcases List.mem_append.1 hx with q | q
 · exact h x q
 · rw[List.mem_singleton.1 q]
   simp only
   rw[size_ofL,size_ofL]
   exact⟨ha,hb⟩
theorem specP_l0 (s:ByteArray) (suf:List (List UInt8)):∀(pre:List (List UInt8)) (out:List S47),(pre ++ suf).length≤31→(∀l∈suf,l.length≤1048576)→out.length≤pre.length→(∀x∈out,x.f0.size≤1048576∧x.f1.size≤1048576) →
 Ev (fun k=>spec_ParseCatalogue.l0 k s out ((pre ++ suf).map ofL) (((pre ++ suf).map ofL).length:Int) (pre.length:Int)) (sEnd s.data.toList ((sRolls suf).map (out ++ ·))):=by
 induction suf with
 | nil=>
   intro pre out hl _ ho hz
   have hr:(sRolls []).map (out ++ ·)=some out:=by simp[sRolls]
   rw[hr]
   have hol:out.length≤1048576:=by simp at hl;omega
   obtain⟨K1,e1⟩:=caGood_ok out hol hz
   by_cases g:good out=true
   · obtain⟨K2,e2⟩:=catext_ok out g hol
     refine⟨K1+K2+1,fun k hk=>?_⟩
     obtain⟨q,rfl⟩:∃q,k=q+1:=⟨k-1,by omega⟩
     have e1:=e1 q (by omega)
     have e2:=e2 q (by omega)
     dsimp only at e1 e2 ⊢
     rw[g]at e1
     rw[spec_ParseCatalogue.l0,if_neg (by simp),e1,Option.bind_some,if_pos rfl,e2,Option.bind_some,toList_ofL,Lib.toList_data,sEnd]
     by_cases c:textC out=s.data.toList
     · rw[if_pos c,if_pos ⟨g,c⟩]
     · rw[if_neg c,if_neg (fun q=>c q.2)]
   · refine⟨K1+1,fun k hk=>?_⟩
     obtain⟨q,rfl⟩:∃q,k=q+1:=⟨k-1,by omega⟩
     have e1:=e1 q (by omega)
     dsimp only at e1 ⊢
     rw[Bool.eq_false_iff.2 g]at e1
     rw[spec_ParseCatalogue.l0,if_neg (by simp),e1,Option.bind_some,if_neg (by simp),sEnd,if_neg (fun q=>g q.1)]
 | cons z suf ih=>
   intro pre out hl hz ho hs
   have hzl:=hz z (by simp)
   have hlen:(((pre ++ z :: suf).map ofL).length:Int)=(pre.length:Int)+1+suf.length:=by simp;omega
   have hp:pre.length+1≤31:=by simp at hl;omega
   have hl':(pre.length:Int)<(((pre ++ z :: suf).map ofL).length:Int):=by omega
   have hwr:wrap64 ((pre.length:Int)+1)=(pre.length:Int)+1:=wrapS (by omega) (by omega)
   obtain⟨K1,e1⟩:=split_ofL z hzl
   by_cases h4:(spl 32 z).length=4
   · obtain⟨a,b,c,d,hw⟩:=four _ h4
     obtain⟨w1,w2⟩:=word_small hw
     have next:∀m:Int,Ev (fun k=>spec_ParseCatalogue.l0 k s (out ++ [(⟨ofL a,ofL b,rd6 c,m⟩:S47)]) ((pre ++ z :: suf).map ofL) (((pre ++ z :: suf).map ofL).length:Int) ((pre.length:Int)+1)) (sEnd s.data.toList ((sRolls suf).map ((out ++ [(⟨ofL a,ofL b,rd6 c,m⟩:S47)]) ++ ·))):=by
      intro m
      have h:=ih (pre ++ [z]) (out ++ [(⟨ofL a,ofL b,rd6 c,m⟩:S47)]) (by simp at hl ⊢;omega) (fun l q=>hz l (by simp[q])) (by simp;omega) (sizes_snoc out a b (rd6 c) m hs (by omega) (by omega))
      rw[snoc_app,snoc_leni]at h
      exact h
     obtain⟨K2,e2⟩:=read_ofL c
     rw[sRolls,hw,sRoll]
     rw[hw]at e1
     by_cases hd:d = [45]
     · obtain⟨K3,e3⟩:=next (-1)
       rw[if_pos hd,map_step]
       refine⟨K1+K2+K3+1,fun k hk=>?_⟩
       obtain⟨q,rfl⟩:∃q,k=q+1:=⟨k-1,by omega⟩
       have e1:spec_l1Split.f q (ofL z) 32=some [ofL a,ofL b,ofL c,ofL d]:=e1 q (by omega)
       have e2:=e2 q (by omega)
       have e3:=e3 q (by omega)
       dsimp only at e2 e3 ⊢
       rw[spec_ParseCatalogue.l0,if_pos hl',if_pos (by omega),if_pos hl',rdLL_mid,e1,Option.bind_some,show((([ofL a,ofL b,ofL c,ofL d]:List ByteArray).length:Nat):Int)=4 from rfl,if_pos rfl,if_pos (show(0:Int)<4 from by decide),if_pos (show(1:Int)<4 from by decide),if_pos (show(2:Int)<4 from by decide),
        show rdOf ByteArray.empty [ofL a,ofL b,ofL c,ofL d] 2=ofL c from rfl,e2,Option.bind_some,if_pos (show(3:Int)<4 from by decide),show rdOf ByteArray.empty [ofL a,ofL b,ofL c,ofL d] 3=ofL d from rfl,toList_ofL,if_pos hd,if_pos (by omega),hwr]
       exact e3
     · obtain⟨K3,e3⟩:=next (rd6 d)
       obtain⟨K4,e4⟩:=read_ofL d
       rw[if_neg hd,map_step]
       refine⟨K1+K2+K3+K4+1,fun k hk=>?_⟩
       obtain⟨q,rfl⟩:∃q,k=q+1:=⟨k-1,by omega⟩
       have e1:spec_l1Split.f q (ofL z) 32=some [ofL a,ofL b,ofL c,ofL d]:=e1 q (by omega)
       have e2:=e2 q (by omega)
       have e3:=e3 q (by omega)
       have e4:=e4 q (by omega)
       dsimp only at e2 e3 e4 ⊢
       rw[spec_ParseCatalogue.l0,if_pos hl',if_pos (by omega),if_pos hl',rdLL_mid,e1,Option.bind_some,show((([ofL a,ofL b,ofL c,ofL d]:List ByteArray).length:Nat):Int)=4 from rfl,if_pos rfl,if_pos (show(0:Int)<4 from by decide),if_pos (show(1:Int)<4 from by decide),if_pos (show(2:Int)<4 from by decide),
        show rdOf ByteArray.empty [ofL a,ofL b,ofL c,ofL d] 2=ofL c from rfl,e2,Option.bind_some,if_pos (show(3:Int)<4 from by decide),show rdOf ByteArray.empty [ofL a,ofL b,ofL c,ofL d] 3=ofL d from rfl,toList_ofL,if_neg hd,e4,Option.bind_some,if_pos (by omega),hwr]
       exact e3
   · have hn:sRoll (spl 32 z)=none:=by
      unfold sRoll
      split
      · rename_i hq;rw[hq]at h4;exact absurd rfl h4
      · rfl
     rw[sRolls,hn]
     refine⟨K1+1,fun k hk=>?_⟩
     obtain⟨q,rfl⟩:∃q,k=q+1:=⟨k-1,by omega⟩
     have e1:=e1 q (by omega)
     dsimp only at e1 ⊢
     rw[spec_ParseCatalogue.l0,if_pos hl',if_pos (by omega),if_pos hl',rdLL_mid,e1,Option.bind_some,if_neg (by rw[List.length_map];omega)]
     rfl
theorem implP_l0 (suf:List (List UInt8)):∀(pre:List (List UInt8)) (out:List S47),(pre ++ suf).length≤31→(∀l∈suf,l.length≤1048576)→out.length≤pre.length→(∀x∈out,x.f0.size≤1048576∧x.f1.size≤1048576) →
 Ev (fun k=>impl_ParseCatalogue.l0 k out ((pre ++ suf).map ofL) (((pre ++ suf).map ofL).length:Int) (pre.length:Int)) (iEnd ((iRolls suf).map (out ++ ·))):=by
 induction suf with
 | nil=>
   intro pre out hl _ ho hz
   have hr:(iRolls []).map (out ++ ·)=some out:=by simp[iRolls]
   rw[hr]
   have hol:out.length≤1048576:=by simp at hl;omega
   obtain⟨K1,e1⟩:=isCat_ok out hol hz
   refine⟨K1+1,fun k hk=>?_⟩
   obtain⟨q,rfl⟩:∃q,k=q+1:=⟨k-1,by omega⟩
   have e1:=e1 q (by omega)
   dsimp only at e1 ⊢
   rw[impl_ParseCatalogue.l0,if_neg (by simp),e1,Option.bind_some,iEnd]
   by_cases g:good out=true
   · rw[if_pos g,if_pos g]
   · rw[if_neg g,if_neg g]
 | cons z suf ih=>
   intro pre out hl hz ho hs
   have hzl:=hz z (by simp)
   have hlen:(((pre ++ z :: suf).map ofL).length:Int)=(pre.length:Int)+1+suf.length:=by simp;omega
   have hp:pre.length+1≤31:=by simp at hl;omega
   have hl':(pre.length:Int)<(((pre ++ z :: suf).map ofL).length:Int):=by omega
   have hwr:wrap64 ((pre.length:Int)+1)=(pre.length:Int)+1:=wrapS (by omega) (by omega)
   have e1:strings_Split.f (ofL z) (⟨#[32]⟩:ByteArray)=some ((spl 32 z).map ofL):=by
    have e:=implSplit_ok (ofL z) 32 (by rw[size_ofL];omega)
    rw[data_ofL]at e
    exact e
   by_cases h4:(spl 32 z).length=4
   · obtain⟨a,b,c,d,hw⟩:=four _ h4
     obtain⟨w1,w2⟩:=word_small hw
     have next:∀y m:Int,Ev (fun k=>impl_ParseCatalogue.l0 k (out ++ [(⟨ofL a,ofL b,y,m⟩:S47)]) ((pre ++ z :: suf).map ofL) (((pre ++ z :: suf).map ofL).length:Int) ((pre.length:Int)+1)) (iEnd ((iRolls suf).map ((out ++ [(⟨ofL a,ofL b,y,m⟩:S47)]) ++ ·))):=by
      intro y m
      have h:=ih (pre ++ [z]) (out ++ [(⟨ofL a,ofL b,y,m⟩:S47)]) (by simp at hl ⊢;omega) (fun l q=>hz l (by simp[q])) (by simp;omega) (sizes_snoc out a b y m hs (by omega) (by omega))
      rw[snoc_app,snoc_leni]at h
      exact h
     obtain⟨K1,e2⟩:=decimal_ofL c
     obtain⟨K2,e3⟩:=decimal_ofL d
     rw[hw]at e1
     have e1:strings_Split.f (ofL z) (⟨#[32]⟩:ByteArray)=some [ofL a,ofL b,ofL c,ofL d]:=e1
     rw[iRolls,hw,iRoll]
     have start:∀q,K1+K2≤q→impl_ParseCatalogue.l0 (q+1) out ((pre ++ z :: suf).map ofL) (((pre ++ z :: suf).map ofL).length:Int) (pre.length:Int)=(if d=([45]:List UInt8) then(if(decR (decL c)).2=true then impl_ParseCatalogue.l0 q (out ++ [(⟨ofL a,ofL b,(decR (decL c)).1, -1⟩:S47)]) ((pre ++ z :: suf).map ofL) (((pre ++ z :: suf).map ofL).length:Int) ((pre.length:Int)+1) else some ([],false)) else(if(decR (decL c)).2=true then(if(decR (decL d)).2=true then impl_ParseCatalogue.l0 q (out ++ [(⟨ofL a,ofL b,(decR (decL c)).1,(decR (decL d)).1⟩:S47)]) ((pre ++ z :: suf).map ofL) (((pre ++ z :: suf).map ofL).length:Int) ((pre.length:Int)+1) else some ([],false)) else some ([],false))):=by
      intro q hq
      have e2:=e2 q (by omega)
      have e3:=e3 q (by omega)
      dsimp only at e2 e3
      rw[impl_ParseCatalogue.l0,if_pos hl',if_pos (by omega),if_pos hl',rdLL_mid,e1,Option.bind_some,show((([ofL a,ofL b,ofL c,ofL d]:List ByteArray).length:Nat):Int)=4 from rfl,if_pos rfl,if_pos (show(2:Int)<4 from by decide),
       show rdOf ByteArray.empty [ofL a,ofL b,ofL c,ofL d] 2=ofL c from rfl,e2,Option.bind_some,if_pos (show(3:Int)<4 from by decide),show rdOf ByteArray.empty [ofL a,ofL b,ofL c,ofL d] 3=ofL d from rfl,e3,Option.bind_some,toList_ofL,
       if_pos (show(0:Int)<4 from by decide),if_pos (show(1:Int)<4 from by decide),if_pos (show out.length<2932031007402 by omega),if_pos (show out.length<2932031007402 by omega),hwr]
      rfl
     cases hc:decL c with
     | none=>
       refine⟨K1+K2+1,fun k hk=>?_⟩
       obtain⟨q,rfl⟩:∃q,k=q+1:=⟨k-1,by omega⟩
       dsimp only
       rw[start q (by omega),hc]
       by_cases hd:d = [45]
       · rw[if_pos hd];rfl
       · rw[if_neg hd];rfl
     | some y=>
       by_cases hd:d = [45]
       · obtain⟨K3,e4⟩:=next y (-1)
         rw[Option.bind_some,if_pos hd,map_step]
         refine⟨K1+K2+K3+1,fun k hk=>?_⟩
         obtain⟨q,rfl⟩:∃q,k=q+1:=⟨k-1,by omega⟩
         have e4:=e4 q (by omega)
         dsimp only at e4 ⊢
         rw[start q (by omega),hc,if_pos hd]
         exact e4
       · cases hm:decL d with
         | none=>
           refine⟨K1+K2+1,fun k hk=>?_⟩
           obtain⟨q,rfl⟩:∃q,k=q+1:=⟨k-1,by omega⟩
           dsimp only
           rw[start q (by omega),hc,hm,if_neg hd,Option.bind_some,if_neg hd]
           rfl
         | some m=>
           obtain⟨K3,e4⟩:=next y m
           rw[Option.bind_some,if_neg hd,Option.map_some,map_step]
           refine⟨K1+K2+K3+1,fun k hk=>?_⟩
           obtain⟨q,rfl⟩:∃q,k=q+1:=⟨k-1,by omega⟩
           have e4:=e4 q (by omega)
           dsimp only at e4 ⊢
           rw[start q (by omega),hc,hm,if_neg hd]
           exact e4
   · have hn:iRoll (spl 32 z)=none:=by
      unfold iRoll
      split
      · rename_i hq;rw[hq]at h4;exact absurd rfl h4
      · rfl
     rw[iRolls,hn]
     refine ev_step (f:=fun _=>some _) (Ev.now _) (fun k=>?_)
     rw[impl_ParseCatalogue.l0,if_pos hl',if_pos (by omega),if_pos hl',rdLL_mid,e1,Option.bind_some,if_neg (by rw[List.length_map];omega)]
     rfl
theorem specParse_ok (s:ByteArray) (hs:s.size≤1048576):Ev (fun k=>spec_ParseCatalogue.f k s) (specP s.data.toList):=by
 obtain⟨X,z,h1,h2,h3,h4⟩:=splA_parts 10 s.data.toList [] (by simp)
 have hsp:spl 10 s.data.toList=X ++ [z]:=h1
 have hle:=splA_le 10 s.data.toList []
 have hsm:=splA_small 10 s.data.toList []
 rw[h1]at hle hsm
 have hsz:=ba_size s
 have e1:Ev (fun k=>spec_l1Split.f k s 10) ((X ++ [z]).map ofL):=by
  have e:=specSplit_ok s 10 hs
  rw[hsp]at e
  exact e
 have hlen:(((X ++ [z]).map ofL).length:Int)=(X.length:Int)+1:=by simp
 have hX:X.length≤1048576:=by simp at hle;omega
 unfold specP
 rw[hsp,List.dropLast_concat,List.length_append,List.length_singleton]
 refine Ev.bind e1 ?_
 by_cases c:X.length+1>31
 · rw[if_pos c]
   exact ev_of_eq (fun _=>by rw[if_pos (by omega)])
 · rw[if_neg c]
   have h:=specP_l0 s X [] [] (by simp;omega) (fun l hl=>by have:=hsm l (by simp[hl]);simp at this;omega) (by simp) (by simp)
   have e2:(sRolls X).map (([]:List S47) ++ ·)=sRolls X:=by cases sRolls X<;>simp
   rw[e2]at h
   refine Ev.congr (fun k=>?_) h
   have hw:wrap64 ((((X ++ [z]).map ofL).length:Int)-1)=(X.length:Int):=by rw[hlen,wrapS (by omega) (by omega)];omega
   rw[if_neg (by omega),hw,if_pos (by omega),if_pos (by omega),Option.bind_some]
   have e3:((X ++ [z]).map ofL).take ((X.length:Int)).toNat=X.map ofL:=by simp
   rw[e3]
   rfl
theorem suffix_ok (s:ByteArray) (h1:1≤s.size) (hs:s.size≤1048576) (D:List UInt8) (x:UInt8) (hD:s.data.toList=D ++ [x]):strings_HasSuffix.f s (⟨#[10]⟩:ByteArray)=some (decide (x=10)):=by
 have hsz:=ba_size s
 have hl:s.size=D.length+1:=by rw[hsz,hD];simp
 have e1:((⟨#[10]⟩:ByteArray).size:Int)=1:=rfl
 have hw:wrap64 ((s.size:Int)-1)=(D.length:Int):=by rw[wrapS (by omega) (by omega)];omega
 have e2:(s.extract D.length s.size).toList = [x]:=by rw[Lib.toList_data,Lib.extract_to_end,hD];simp
 have e3:(⟨#[10]⟩:ByteArray).toList = [10]:=toList_ofL [10]
 rw[strings_HasSuffix.f,stringslite_HasSuffix.f,e1,if_pos (by omega),hw,if_pos (by omega),if_pos (by omega),Int.toNat_natCast,e2,e3,Option.bind_some]
 congr 1
 by_cases c:x=10
 · simp[c]
 · simp[c]
theorem textLines_ok (s:ByteArray) (hs:s.size≤1048576):impl_textLines.f s=some (match linesI s.data.toList with | none=>([],false) | some L=>(L.map ofL,true)):=by
 have hsz:=ba_size s
 rcases List.eq_nil_or_concat s.data.toList with e | ⟨D,x,e⟩
 · rw[impl_textLines.f,if_pos (by rw[Lib.toList_data];exact e),e];rfl
 · simp only[List.concat_eq_append]at e
   have hl:s.size=D.length+1:=by rw[hsz,e];simp
   have hw:wrap64 ((s.size:Int)-1)=(D.length:Int):=by rw[wrapS (by omega) (by omega)];omega
   have hL:linesI s.data.toList=if x=10 then some (spl 10 D) else none:=by rw[linesI,e,List.getLast?_concat,List.dropLast_concat]
   rw[impl_textLines.f,if_neg (by rw[Lib.toList_data,e];simp),suffix_ok s (by omega) hs D x e,Option.bind_some,hL]
   by_cases c:x=10
   · have hx:s.extract 0 ((D.length:Int)).toNat=ofL D:=by
      apply ba_ext
      rw[Int.toNat_natCast,Lib.extract_from_zero,e,data_ofL];simp
     rw[if_pos (decide_eq_true c),hw,if_pos (by omega),if_pos (by omega),hx,implSplit_ok (ofL D) 10 (by rw[size_ofL];omega),Option.bind_some,if_pos c,data_ofL]
   · rw[if_neg (by simp[c]),if_neg c]
theorem implParse_ok (s:ByteArray) (hs:s.size≤1048576):Ev (fun k=>impl_ParseCatalogue.f k s) (implP s.data.toList):=by
 have e1:=textLines_ok s hs
 unfold implP
 have hj:∀L:List ByteArray,Ev (fun k=>impl_ParseCatalogue.j0 k L true) ([],false):=fun L=>ev_step (f:=fun _=>some _) (Ev.now _) (fun k=>by rw[impl_ParseCatalogue.j0,if_pos rfl])
 cases hL:linesI s.data.toList with
 | none=>
   rw[hL]at e1
   refine Ev.congr (fun k=>?_) (hj [])
   rw[impl_ParseCatalogue.f,e1,Option.bind_some,if_neg (by simp)]
 | some L=>
   rw[hL]at e1
   simp only
   have hsm:∀l∈L,l.length≤1048576:=by
    have hsz:=ba_size s
    by_cases h0:s.data.toList = []
    · rw[h0]at hL
      simp[linesI]at hL
      intro l hl
      first | (rw[hL]at hl;cases hl) | (rw[← hL]at hl;cases hl)
    · have e:=(lines_len hL h0).1
      have h:=splA_small 10 s.data.toList []
      rw[spl]at e
      rw[e]at h
      intro l hl
      have:=h l (by simp[hl])
      simp at this
      omega
   by_cases c:L.length>30
   · rw[if_pos c]
     refine Ev.congr (fun k=>?_) (hj (L.map ofL))
     rw[impl_ParseCatalogue.f,e1,Option.bind_some,if_pos rfl]
     simp only
     rw[decide_eq_true (by rw[List.length_map];omega)]
   · rw[if_neg c]
     have h:=implP_l0 L [] [] (by simp;omega) hsm (by simp) (by simp)
     have e2:(iRolls L).map (([]:List S47) ++ ·)=iRolls L:=by cases iRolls L<;>simp
     rw[e2]at h
     have hj2:Ev (fun k=>impl_ParseCatalogue.j0 k (L.map ofL) false) (iEnd (iRolls L)):=ev_step h (fun k=>by rw[impl_ParseCatalogue.j0,if_neg (by simp)];rfl)
     refine Ev.congr (fun k=>?_) hj2
     rw[impl_ParseCatalogue.f,e1,Option.bind_some,if_pos rfl]
     simp only
     rw[decide_eq_false (by rw[List.length_map];omega)]

theorem specP_len (s:List UInt8):(specP s).1.length≤30:=by
 unfold specP
 by_cases c:(spl 10 s).length>31
 · rw[if_pos c];simp
 · rw[if_neg c]
   cases sRolls (spl 10 s).dropLast with
   | none=>simp[sEnd]
   | some out=>
     rw[sEnd]
     by_cases g:good out=true∧textC out=s
     · rw[if_pos g]
       have h:=g.1
       unfold good at h
       exact of_decide_eq_true (Bool.and_eq_true_iff.1 h).2
     · rw[if_neg g];simp

end Go.Proofs.YtkkmeccdjpibmaaGreatDoor.LFnCatalogueC
