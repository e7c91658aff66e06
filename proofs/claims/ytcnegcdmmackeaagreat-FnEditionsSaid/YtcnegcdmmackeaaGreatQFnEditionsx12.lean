/- What each Go function computes, and that its call computes it; each theorem names its conditions. -/
import Derived.Test.YtcnegcdmmackeaaGreatQFnEditionsx0
import Derived.Test.YtcnegcdmmackeaaGreatQFnEditionsx10
import Derived.Test.YtcnegcdmmackeaaGreatQFnEditionsx11
import Derived.Test.YtcnegcdmmackeaaGreatSrFnEditions
namespace Go.Proofs.YtcnegcdmmackeaaGreat.QFnEditions
open Go.RowKit Go.Proofs.YtcnegcdmmackeaaGreatW.PrintWords Go.Proofs.YtcnegcdmmackeaaGreatW.PrintLast Go.Proofs.YtcnegcdmmackeaaGreatW.PrintMore
attribute [local go_sem] max2_int min2_int max_two min_two max_three min_three max_four min_four
set_option linter.unusedVariables false
set_option maxHeartbeats 8000000
set_option maxRecDepth 100000
set_option linter.unusedSimpArgs false
def Zz.l0:Nat→List (List (S62))→Int→List (List (S62))→Int→Int→Option (Bool)
 | 0,_,_,_,_,_=>none
 | k+1,x0,x1,x7,x8,x9=>if x9<x8 then(if 0≤x9 then(if x9<(x7.length:Int) then((Zd.f k (rd_L3 x7 x9)).bind fun t453=>(if t453=true then(Zz.l0 k x0 x1 x7 x8 (wrap64 (x9+1))) else(some false))) else(none)) else(none)) else(if(x0.length:Int)≥1 then(some (decide ((x0.length:Int)≤x1))) else(some false))
def Zz.f (k:Nat) (l0:List (List (S62))) (a1:Int):Option (Bool):=Zz.l0 k l0 a1 l0 (l0.length:Int) 0
theorem Zz.mono_l:∀k,(∀y0 y1 y2 y3 y4,LeO (Zz.l0 k y0 y1 y2 y3 y4) (Zz.l0 (k+1) y0 y1 y2 y3 y4))
 | 0=>fun _ _ _ _ _ r h=>by simp[Zz.l0]at h
 | k+1=>by
  have ih0:=Zz.mono_l k
  have m0:=@Zd.mono;intros;unfold Zz.l0;exact mo_
theorem Zz.mono:∀a0 a1 k,LeO (Zz.f k a0 a1) (Zz.f (k+1) a0 a1):=by
 intro a0 a1 k;(have ih0:=Zz.mono_l k);have m0:=@Zd.mono;unfold Zz.f;exact mo_
theorem Zz.calls (k:Nat) (A0:Option Addr) (c0:Nat) (l0:List (List (S62))) (a1:Int) (r:Bool) (w:World) (hr0:Kd.C (Kd.slice 62 k62) w A0 l0.length l0) (hc0:l0.length≤c0) (h:Zz.f k l0 a1=some r) :
 Calls Tryz.prog 27 #[.slice A0 l0.length c0, .int .i64 a1] w fun e w'=>e = .returned (.bool r)∧Below w.heap.size w w':=by
 (have HR0:=am_ hr0);clear hr0 hc0;(have HB:=am_ (Below.refl w.heap.size w));(have H:=h);clear h;unfold Zz.f at H;(have H':=am_ H);clear H;(go_enter Tryz.func27,Tryz.ntmps27);go_wp2;(try simp only[Act.put,List.setIfInBounds_toArray,List.set_cons_zero,List.set_cons_succ])
 go_loopg [9] k (fun kq v9 w'=>∃(x9_1:Int),v9 = .int .i64 x9_1∧Aside0 (Zz.l0 kq l0 a1 l0 (l0.length:Int) x9_1=some r)∧Aside0 (kq≤k)∧Aside0 (Below w.heap.size w w'))
 case atStart=>exact⟨(0),(by first | rfl|(simp;done)|(simp[*];done)),H',⟨Nat.le_refl _⟩,⟨a0_⟩⟩
 case round=>
  clear H';(try clear c2);(try clear p2);obtain⟨x9_1,rfl,HA,HK1,HB⟩:=hrel;cases gk with
  | zero=>exact absurd HA.out (by simp[Zz.l0])
  | succ k1=>
   (have H:=HA.out);clear HA;simp only[Zz.l0]at H;obtain⟨c3b0,H⟩|⟨c3b0,H⟩:=bd_ H
   ·(obtain⟨c4b0,H⟩:=gj_ H);(obtain⟨c5b0,H⟩:=gj_ H);obtain⟨t453,A6,H⟩:=bo_ H;replace H:=bt_ H;obtain⟨rfl,H⟩|⟨rfl,H⟩:=H
    ·(have H':=am_ H);clear H;(have p452:0≤(x9_1:Int):=of_decide_eq_true (a8_));(have q452:x9_1<(l0.length:Int):=of_decide_eq_true (a8_));obtain⟨ad452,A452_0,c452_0,e452,hx452_0,hl452_0,hi452_0⟩:=at_L3 HR0.out x9_1 p452 q452;cases e452;replace hx452_0:=ce_ HB hx452_0;(have HR452_0:=am_ hi452_0);(have HC452_0:=am_ hl452_0);clear hi452_0 hl452_0;replace p452:=eq_true p452;replace q452:=eq_true q452;(go_wp2_with (first|((with_reducible refine gl_ 14 Tryz.func40 #[.slice A452_0 (rd_L3 l0 x9_1).length c452_0] ?_);(with_reducible refine(Zd.calls k1 _ _ (rd_L3 l0 x9_1) true _ ?side1 ?side2 A6.out).mono ?_);(case side1=>exact(a13_ HR452_0.out));(case side2=>exact HC452_0.out);rintro e w8 ⟨rfl,hb⟩;refine⟨_,rfl,?_⟩;replace HB:=bs_ HB hb;clear hb)));(go_roundg k1)
     case measure=>have:=HK1.out;omega
     case rel=>exact⟨(wrap64 (x9_1+1)),(by first | rfl|(simp;done)|(simp[*];done)),H',⟨by have:=HK1.out;omega⟩,⟨a0_⟩⟩
    (focus obtain rfl:=Option.some.inj H;(have p452:0≤(x9_1:Int):=of_decide_eq_true (a8_));(have q452:x9_1<(l0.length:Int):=of_decide_eq_true (a8_));obtain⟨ad452,A452_0,c452_0,e452,hx452_0,hl452_0,hi452_0⟩:=at_L3 HR0.out x9_1 p452 q452;cases e452;replace hx452_0:=ce_ HB hx452_0;(have HR452_0:=am_ hi452_0);(have HC452_0:=am_ hl452_0);clear hi452_0 hl452_0;replace p452:=eq_true p452;replace q452:=eq_true q452;(go_wp2_with (first|((with_reducible refine gl_ 14 Tryz.func40 #[.slice A452_0 (rd_L3 l0 x9_1).length c452_0] ?_);(with_reducible refine(Zd.calls k1 _ _ (rd_L3 l0 x9_1) false _ ?side1 ?side2 A6.out).mono ?_);(case side1=>exact(a13_ HR452_0.out));(case side2=>exact HC452_0.out);rintro e w9 ⟨rfl,hb⟩;refine⟨_,rfl,?_⟩;replace HB:=bs_ HB hb;clear hb)));go_ret;exact⟨a9_,a0_⟩)
   (focus by_cases c10:(l0.length:Int)≥1;(focus rw[if_pos c10]at H;(have c10b0:decide (1≤(l0.length:Int))=true:=decide_eq_true c10);(have c10b1:decide (1≤l0.length)=true:=decide_eq_true (by omega));clear c10;obtain rfl:=Option.some.inj H;go_wp2;go_ret;exact⟨a9_,a0_⟩);(focus rw[if_neg c10]at H;(have c10b0:decide (1≤(l0.length:Int))=false:=decide_eq_false c10);(have c10b1:decide (1≤l0.length)=false:=decide_eq_false (by omega));clear c10;obtain rfl:=Option.some.inj H;go_wp2;go_ret;exact⟨a9_,a0_⟩))
-- NOT PRINTED: function 56 (Yd)
def Z9.f (l0:List S62):Option (List S62):=if l0.length<1000000000 then some l0 else none
theorem Z9.info:(Tryz.prog.info? 62).map (fun i=>(i.zero,i.size,i.bytes))=some (some (.agg #[(.int .i64 0),(.int .i64 0),(.int .i64 0)]),3,24):=by kernel_rfl
theorem Z9.calls (A0:Option Addr) (c0:Nat) (l0:List S62) (r:List S62) (w:World) (hr0:Kd.C k62 w A0 l0.length l0) (hc0:l0.length≤c0) (h:Z9.f l0=some r) :
 Calls Tryz.prog 72 #[.slice A0 l0.length c0] w fun e w'=>∃v0_:Value,e = .returned (v0_)∧Kd.R k62 62 w' w.heap.size (fun _=>True) v0_ r∧Below w.heap.size w w':=by
 unfold Z9.f at h;by_cases hlen:l0.length<1000000000
 ·rw[if_pos hlen]at h;obtain rfl:=Option.some.inj h;clear h;cases A0 with
  | none=>
   have hz:l0 = []:=by
    rcases Nat.eq_zero_or_pos l0.length with h0 | h0
    ·exact List.eq_nil_of_length_eq_zero h0
    ·obtain⟨ad,e,_⟩:=hr0.2.2 h0
     cases e
   subst hz;(have hq:∀W:World,(binOp .eql 28 (.slice none 0 c0) (.slice none 0 0)).run Tryz.prog W = .ok (.bool true) W:=fun W=>Go.run_eql_slice_nil W 28 62 none 0 c0 Tryz.underlying28);clear hr0 hc0 hlen;(go_enter Tryz.func72,Tryz.ntmps72);go_wp2;go_ret;exact⟨_,rfl,Kd.R_nil _ _ _ _ _,Below.refl _ _⟩
  | some ad=>
   (have hq:∀W:World,(binOp .eql 28 (.slice (some ad) l0.length c0) (.slice none 0 0)).run Tryz.prog W = .ok (.bool false) W:=fun W=>Go.run_eql_slice_nil W 28 62 (some ad) l0.length c0 Tryz.underlying28);(have HR0:=am_ hr0);(have HL:=am_ hlen);clear hr0 hc0 hlen;(have HB:=am_ (Below.refl w.heap.size w));(go_enter Tryz.func72,Tryz.ntmps72);(go_wp2_with (first|((with_reducible refine li_ k62 62 5 (([]:List S62)) ([]) ?_ ?_);(focus exact(Reps.none _ _));intro v112 w3 ho4 hb hg_ hnew_;clear hg_ hnew_;have HO113:=am_ (Kd.R_lower ho4 (below_size (a0_)));replace HB:=bs_ HB hb;clear hb ho4)|((with_reducible refine gate_builtin (b:= .append) (xs:= #[.tmp 5, .tmp 6]) rfl ?_);at_builtin;refine Kd.R_append_rows k62 (w0:=w) w.heap.size rfl (.tmp 5) (.tmp 6) 28 62 (.agg #[(.int .i64 0),(.int .i64 0),(.int .i64 0)]) 24 rfl Tryz.underlying28 Z9.info rfl (by decide) (by omega) v112 [] l0 _ _ _ (fun _=>True) (fun _=>False) rfl rfl ?aO ?aR (fun _ _ h=>h) (fun _ h=>h.elim) ?aF ?aB ?aS ?aL ?_;(case aR=>exact(a13_ HR0.out));(case aB=>exact(a0_));(case aF=>exact(fun _ _=>trivial));(case aO=>exact((a2_ HO113.out)));(case aS=>exact(below_size (a0_)));(case aL=>have:=HL.out;simp only[List.length_nil];omega);intro v115 w5 ho hb hg hat;have n0_:=am_ (hb);have n1_:=am_ (ho);clear HB HO113;have HB:=n0_;have HO116:=n1_;clear n0_ n1_ ho hb hg hat)));go_ret;refine⟨_,rfl,?_,a0_⟩;(have HX:=HO116.out);rw[List.nil_append]at HX;exact(by(with_reducible repeat (first|apply Kd.R_alloc|apply Kd.R_drewN|apply Kd.R_drew));exact HX)
 (focus rw[if_neg hlen]at h;exact absurd h (by simp))
-- NOT PRINTED: function 78 (reflectlite_ValueOf)
-- NOT PRINTED: function 79 (reflectlite_Swapper)
-- NOT PRINTED: function 102 (sort_insertionSort_func)
-- NOT PRINTED: function 112 (sort_swapRange_func)
-- NOT PRINTED: function 110 (sort_rotate_func)
-- NOT PRINTED: function 103 (sort_symMerge_func)
-- NOT PRINTED: function 80 (sort_stable_func)
-- NOT PRINTED: function 81 (reflectlite_Value_Len)
-- NOT PRINTED: function 73 (sort_SliceStable)
section
open Go.Sort Go.Proofs.YtcnegcdmmackeaaGreat.SymSort
instance Zb.inh:Inhabited S62:=⟨⟨0,0,0⟩⟩
def Zb.enc (x:S62):List Value:=[.int .i64 x.f0, .int .i64 x.f1, .int .i64 x.f2]
def Zb.lt (a b:S62):Bool:=decide (a.f1<b.f1∨(a.f1=b.f1∧a.f0<b.f0))
theorem Zb.less (a b:S62) (W:World):Calls Tryz.prog 64 #[.agg #[.int .i64 a.f0, .int .i64 a.f1, .int .i64 a.f2], .agg #[.int .i64 b.f0, .int .i64 b.f1, .int .i64 b.f2]] W fun e w'=>e = .returned (.bool (Zb.lt a b))∧∃o1 o2,w'=(W.alloc o1).alloc o2:=by
 by_cases h:a.f1=b.f1;(focus (have h1:(a.f1 == b.f1)=true:=beq_iff_eq.2 h);(have h2:(a.f1 != b.f1)=false:=by simp[bne,h1]);(have H:Aside0 (Zb.lt a b=decide (a.f0<b.f0)):=⟨by simp[Zb.lt,h]⟩);clear h;(go_enter Tryz.func64,Tryz.ntmps64);go_wp2;go_ret;exact⟨by rw[H.out];rfl,_,_,rfl⟩);(focus (have h1:(a.f1 == b.f1)=false:=beq_eq_false_iff_ne.2 h);(have h2:(a.f1 != b.f1)=true:=by simp[bne,h1]);(have H:Aside0 (Zb.lt a b=decide (a.f1<b.f1)):=⟨by simp[Zb.lt,h]⟩);clear h;(go_enter Tryz.func64,Tryz.ntmps64);go_wp2;go_ret;exact⟨by rw[H.out];rfl,_,_,rfl⟩)
theorem Zb.other {enc:S62→List Value} {k:Nat} {w W:World} {blk off:Nat} {d:Array S62} (h:AtK enc k w blk off d W) (B o:Nat) (hB:B≠blk) (hl:B<w.heap.size):W.cell? ⟨B,o,none⟩=w.cell? ⟨B,o,none⟩:=by
 obtain⟨m,os',rfl⟩:=h;(have hs:∀X:World,(putRowK enc k X blk off d).heap.size=X.heap.size:=fun X=>by simp[putRowK,putRow,mapBlock]);rw[cell?_grow _ _ _ (by rw[hs];exact hl),cell?_putRowK_other enc k _ blk off d _ hB];rfl
set_option maxHeartbeats 4000000 in
theorem Zb.lays (w:World) (B g n cap:Nat) (hB:w.cell? ⟨B,0,none⟩=some (.slice (some ⟨g,0,none⟩) n cap)) (hBg:B≠g) (d:Array S62) (hH:HoldsK Zb.enc 3 w g 0 d) (hds:d.size=n) (hg:g<w.heap.size) (hBl:B<w.heap.size) (hn:n≤9223372036854775807) :
 LessLays Tryz.prog 74 #[.pointer (some ⟨B,0,none⟩)] Zb.enc 3 Zb.lt g 0 n w:=by
 intro W dk hAt hdk i j hi hj;obtain⟨hHk,hgk⟩:=hAt.holds hH (hdk.trans hds.symm) hg;(have cB:=(Zb.other hAt B 0 hBg hBl).trans hB);(have x0:=(hHk.cell (i:=i) (c:=0) (by omega) (by omega)).1);(have x1:=(hHk.cell (i:=i) (c:=1) (by omega) (by omega)).1);(have x2:=(hHk.cell (i:=i) (c:=2) (by omega) (by omega)).1);(have y0:=(hHk.cell (i:=j) (c:=0) (by omega) (by omega)).1);(have y1:=(hHk.cell (i:=j) (c:=1) (by omega) (by omega)).1);(have y2:=(hHk.cell (i:=j) (c:=2) (by omega) (by omega)).1);generalize hx:dk[i]! = x at x0 x1 x2;generalize hy:dk[j]! = y at y0 y1 y2;simp only[Zb.enc,Nat.zero_add,Nat.add_zero]at x0 x1 x2 y0 y1 y2;(have hS:=(SWK.start hHk));(go_enter Tryz.func74,Tryz.ntmps74);go_wp2;(go_still_tail 8,(by kernel_rfl));change wpList _ _ _ _ _ W.drew;(have hS2:AtK Zb.enc 3 W g 0 dk W.drew:=hS.drewN 1);generalize W.drew=w2 at hS2 ⊢;clear hS hHk hAt cB x0 x1 x2 y0 y1 y2;(go_wp2_with (go_at_call 64;refine(Zb.less x y _).mono ?_;rintro e w' ⟨rfl,o1,o2,rfl⟩));go_ret;exact⟨rfl,SWK.alloc (SWK.alloc hS2 o1) o2⟩
theorem Zb.flat (ys:List S62) (j c:Nat) (y:S62) (hy:ys[j]? = some y) (hc:c<3):(flatK Zb.enc 3 ys.toArray)[j*3+c]? = (Zb.enc y)[c]? := by
 obtain⟨hj,e⟩:=List.getElem?_eq_some_iff.1 hy;(have hlt:j*3+c<ys.toArray.size*3:=by simp;omega);(have h:=get_flatK Zb.enc 3 ys.toArray (j*3+c) hlt);rw[show(j*3+c) / 3=j by omega,show(j*3+c) % 3=c by omega,getElem!_pos ys.toArray j (by simpa using hj),show ys.toArray[j]'(by simpa using hj)=y by simpa using e]at h;rw[getElem!_pos _ _ (by rw[size_flatK];exact hlt),getElem!_pos (Zb.enc y) c (by simpa [Zb.enc] using hc)]at h;rw[Array.getElem?_eq_getElem (by rw[size_flatK];exact hlt),h,List.getElem?_eq_getElem]
theorem Zb.open {W:World} {base g n cap:Nat} {okp:Nat→Prop} {xs:List S62} (HO:Kd.R k62 62 W base okp (.slice (some ⟨g,0,none⟩) n cap) xs) :
 ∃cur,W.heap[g]? = some (.cells cur 62 (0,0))∧base≤g∧n=xs.length∧n≤cap∧cap≤maxLen∧cur.size=cap*3:=by
 (have hn:=(Kd.R_reads' HO).1);obtain⟨hok,inner,hown,hr⟩:=HO;(rcases hown.2 with ⟨hv,_⟩ | ⟨g',cap',cur,hv,hb,hh,hnc,hcm,hcs,htake⟩);(focus cases hv);injection hv with ha hnn hc;injection ha with ha;injection ha with hg;subst hg;subst hc;exact⟨cur,hh,hb,hn,by omega,hcm,hcs⟩
theorem Zb.holds {W:World} {base g n cap:Nat} {okp:Nat→Prop} {xs:List S62} (HO:Kd.R k62 62 W base okp (.slice (some ⟨g,0,none⟩) n cap) xs) :
 HoldsK Zb.enc 3 W g 0 xs.toArray∧g<W.heap.size∧n=xs.length:=by
 obtain⟨cur,hh,hb,hn,hnc,hcm,hcs⟩:=Zb.open HO;refine⟨fun t ht=>?_,?_,hn⟩
 ·(have ht2:t<xs.length*3:=by simpa using ht);(have hj:t / 3<xs.length:=by omega);obtain⟨ce,hcl,hM,hcc,hfr⟩:=Kd.R_elem HO ⟨0,0,0⟩ ((t / 3:Nat):Int) (by omega) (by omega);obtain rfl:=k62_openM hM;(have hx:xs[t / 3]? = some (xs.getD (t / 3) ⟨0,0,0⟩):=by rw[List.getD_eq_getElem?_getD,List.getElem?_eq_getElem hj];rfl);(have h1:=Zb.flat xs (t / 3) (t % 3) _ hx (by omega));rw[show t / 3*3+t % 3=t by omega]at h1
  have h2:(Zb.enc (xs.getD (t / 3) ⟨0,0,0⟩))[t % 3]? = some (flatK Zb.enc 3 xs.toArray)[t]! := by
   rw[← h1,getElem!_pos (flatK Zb.enc 3 xs.toArray) t ht,Array.getElem?_eq_getElem ht]
  (have h3:=hcc (t % 3) _ h2);(have h4:=hfr (t % 3));simp only[Int.toNat_natCast,show(k62).sz=3 from rfl,show t / 3*3+t % 3=t by omega]at h3 h4;rw[Nat.zero_add];exact⟨h3,h4⟩
 (focus (rcases Nat.lt_or_ge g W.heap.size with h | h);(focus exact h);(focus rw[Array.getElem?_eq_none h]at hh;cases hh))
theorem Zb.row (W w':World) (base g n cap:Nat) (xs ys:List S62) (HO:Kd.R k62 62 W base (fun _=>True) (.slice (some ⟨g,0,none⟩) n cap) xs) (hy:ys.length=xs.length) (hA:AtK Zb.enc 3 W g 0 ys.toArray w') :
 Kd.R k62 62 w' base (fun _=>True) (.slice (some ⟨g,0,none⟩) n cap) ys:=by
 obtain⟨hH,hg,hc⟩:=Zb.holds HO;obtain⟨cur,hh,hb,hn,hnc,hcm,hcs⟩:=Zb.open HO;obtain⟨q,os,rfl⟩:=hA
 have hheap:(grow (putRowK Zb.enc 3 (Go.Sort.ahead W q) g 0 ys.toArray) os).heap[g]? = some (.cells (putCells id 0 (flatK Zb.enc 3 ys.toArray) cur) 62 (0,0)):=by
  unfold putRowK
  rw[heap_grow_old _ _ (by simpa using hg)]
  simp[putRow,mapBlock,Array.getElem?_modify,hh,onCells]
 (have hsz:(flatK Zb.enc 3 ys.toArray).size=n*3:=by rw[size_flatK];simp;omega);refine⟨fun _ _=>trivial,(flatK Zb.enc 3 ys.toArray).toList,⟨by rw[Array.length_toList,hsz,show(k62).sz=3 from rfl];omega, .inr ⟨g,cap,_,by congr 1;omega,hb,hheap,by omega,hcm,by rw[show(k62).sz=3 from rfl, ← hcs];simp[putCells],?_⟩⟩,⟨by rw[Array.length_toList,hsz,show(k62).sz=3 from rfl];omega,fun j p hp=>?_⟩⟩;(focus refine List.ext_getElem? (fun j=>?_);rw[show(k62).sz=3 from rfl,List.getElem?_take,Array.getElem?_toList];by_cases hj:j<ys.length*3;(focus rw[if_pos hj];(have h1:j<cur.size:=by omega);(have h2:j<(flatK Zb.enc 3 ys.toArray).size:=by omega);rw[Array.getElem?_toList,Array.getElem?_eq_getElem h2];simp only[putCells,Nat.zero_le,Nat.zero_add,Nat.sub_zero,true_and,Array.getElem?_mapIdx,Array.getElem?_eq_getElem h1,Option.map_some,if_pos h2,id];rw[getElem!_pos (flatK Zb.enc 3 ys.toArray) j h2]);(focus rw[if_neg hj,Array.getElem?_toList,Array.getElem?_eq_none (by omega)]))
 ·rw[show(k62).sz=3 from rfl];(have hj:j<ys.length:=(List.getElem?_eq_some_iff.1 hp).1)
  have e:((flatK Zb.enc 3 ys.toArray).toList.drop (j*3)).take 3=Zb.enc p:=by
   refine List.ext_getElem? (fun c=>?_)
   rw[List.getElem?_take]
   by_cases hc3:c<3
   ·rw[if_pos hc3,List.getElem?_drop,Array.getElem?_toList,Zb.flat ys j c p hp hc3]
   ·rw[if_neg hc3,List.getElem?_eq_none (by simp[Zb.enc];omega)]
  rw[e];exact k62_mkM _ _ _ _
theorem Zb.below {W w':World} {base g:Nat} {d:Array S62} (hA:AtK Zb.enc 3 W g 0 d w') (hb:base≤g) (hs:base≤W.heap.size):Go.RowKit.Below base W w':=by
 obtain⟨q,os,rfl⟩:=hA;unfold putRowK;refine⟨rfl,rfl,rfl,by simp,fun k hk=>?_⟩;rw[heap_grow_old _ _ (by simp;omega)];(have hne:g≠k:=by omega);simp[putRow,mapBlock,Array.getElem?_modify,hne]
theorem Zb.swo:SWO Zb.lt where
 irrefl:=fun x=>by simp[Zb.lt]
 trans:=fun x y z h1 h2=>by
  simp only[Zb.lt,decide_eq_true_eq]at *;omega
 ntrans:=fun x y z h1 h2=>by
  simp only[Zb.lt,decide_eq_false_iff_not]at *;omega
noncomputable def Zb.T:TypeInfo:=(Tryz.prog.info? 28).get (by kernel_rfl)
noncomputable def Zb.E:TypeInfo:=(Tryz.prog.info? 62).get (by kernel_rfl)
theorem Zb.K (n:Nat) (h2:2≤n):Lib.swapperK n Zb.E 25=9:=by
 (have a:Zb.E.hasPointers=false:=by kernel_rfl);(have b:Zb.E.bytes=24:=by kernel_rfl);(have c:(n == 0)=false:=by simp;omega);(have d:(n == 1)=false:=by simp;omega);simp[Lib.swapperK,a,b,c,d]
/-- A sorted permutation. -/
def Zb.Sorts (xs ys:List S62):Prop:=ys.Perm xs∧ys.Pairwise (fun a b=>Zb.lt b a=false)
theorem Zb.sorts (xs:List S62) (d':Array S62) (p:PermIn 0 xs.toArray.size xs.toArray d') (s:SortedIn Zb.lt 0 xs.toArray.size d'):Zb.Sorts xs d'.toList∧d'.toList.length=xs.length:=by
 (have hz:d'.size=xs.length:=by have:=p.1;simpa using this);refine⟨⟨?_,?_⟩,by simpa using hz⟩
 ·(have h:=p.2.2);simp[hz]at h
  rwa [List.take_of_length_le (by simp;omega)]at h
 (focus rw[List.pairwise_iff_getElem];intro i j hi hj hij;(have h:=s i j (Nat.zero_le _) hij (by simpa [hz] using hj));rw[getElem!_pos d' i (by simpa using hi),getElem!_pos d' j (by simpa using hj)]at h;(simpa using h))
theorem Zb.sort (W:World) (B g base n cap:Nat) (xs:List S62) (HO:Kd.R k62 62 W base (fun _=>True) (.slice (some ⟨g,0,none⟩) n cap) xs) (hB:W.cell? ⟨B,0,none⟩=some (.slice (some ⟨g,0,none⟩) n cap)) (hBg:B≠g) (hBl:B<W.heap.size) (hbase:base≤W.heap.size) (hlen:xs.length≤60) :
 Calls Tryz.prog 73 #[.iface 28 (.slice (some ⟨g,0,none⟩) n cap), .func (.func 74) #[] #[.pointer (some ⟨B,0,none⟩)]] W fun e w'=>e = .returned (.tuple #[])∧(fun W'=>∃ys,Zb.Sorts xs ys∧ys.length=xs.length∧Kd.R k62 62 W' base (fun _=>True) (.slice (some ⟨g,0,none⟩) n cap) ys∧Go.RowKit.Below base W W'∧W'.cell? ⟨B,0,none⟩=some (.slice (some ⟨g,0,none⟩) n cap)∧W.heap.size≤W'.heap.size) w':=by
 obtain⟨hH,hg,hn⟩:=Zb.holds HO;obtain⟨cur,hh,hb,_,hnc,hcm,hcs⟩:=Zb.open HO
 have fin:∀(W':World) (ys:List S62),Zb.Sorts xs ys→ys.length=xs.length→AtK Zb.enc 3 W g 0 ys.toArray W'→(fun W'=>∃ys,Zb.Sorts xs ys∧ys.length=xs.length∧Kd.R k62 62 W' base (fun _=>True) (.slice (some ⟨g,0,none⟩) n cap) ys∧Go.RowKit.Below base W W'∧W'.cell? ⟨B,0,none⟩=some (.slice (some ⟨g,0,none⟩) n cap)∧W.heap.size≤W'.heap.size) W':=fun W' ys hs hl hA=>
  ⟨ys,hs,hl,Zb.row W W' base g n cap xs ys HO hl hA,Zb.below hA hb hbase,(Zb.other hA B 0 hBg hBl).trans hB,AtK.below hA⟩
 (rcases Nat.lt_or_ge n 2 with h2 | h2)
 ·have hf:Tryz.prog.funcs.findIdx? (·.name == "internal/reflectlite" ++ ".Swapper$" ++ toString (Lib.swapperK n Zb.E 25))=some (93+n):=by
   rcases (show n=0∨n=1 by omega) with h | h
   ·rw[h];kernel_rfl
   ·rw[h];kernel_rfl
  refine(sliceStable_tiny Tryz.laysGt8 28 62 Zb.T Zb.E (by kernel_rfl) (by kernel_rfl) (by kernel_rfl) (by kernel_rfl) 25 (fun _=>by kernel_rfl) (some ⟨g,0,none⟩) n cap (by omega) (93+n) hf (.func 74) #[] _ W).mono ?_;rintro e w' ⟨rfl,os,rfl⟩;refine⟨rfl,fin _ xs ⟨List.Perm.refl _,?_⟩ rfl ⟨0,os,by rw[show Go.Sort.ahead W 0=W from rfl,putRowK_self Zb.enc 3 W g 0 _ hH]⟩⟩;(rcases xs with _ | ⟨x,_ | ⟨y,r⟩⟩);(focus exact List.Pairwise.nil);(focus simp);(focus simp at hn;omega)
 ·have hS:=sliceStable Tryz.laysGt8 28 62 Zb.T Zb.E (by kernel_rfl) (by kernel_rfl) (by kernel_rfl) (by kernel_rfl) 25 (fun _=>by kernel_rfl) Zb.enc 3 (fun _=>rfl) (by kernel_rfl) (fun _=>by kernel_rfl)
   (fun x v hv=>by simp[Zb.enc]at hv;rcases hv with rfl | rfl | rfl<;>rfl) Zb.lt Zb.swo 74 #[.pointer (some ⟨B,0,none⟩)]
   (enters_of Tryz.func74 (by kernel_rfl) rfl) g 0 cap xs.toArray (by simp;omega) (by simp;omega) 101 (by rw[Zb.K _ (by simp;omega)];kernel_rfl) false
   (fun args W=>run_callFunc_extern Tryz.func101 (by kernel_rfl) (by kernel_rfl) (by kernel_rfl) (e:=Extern.ReflectliteSwapper.swap false) (by kernel_rfl) args W) W
   (Zb.lays W B g xs.toArray.size cap (by rw[hB,hn];simp) hBg xs.toArray hH rfl hg hBl (by simp;omega)) hH hg
  (have ez:xs.toArray.size=n:=by simp[hn]);rw[ez]at hS;refine Calls.mono hS ?_;rintro e w' ⟨rfl,d',p,s,hA⟩;rw[← ez]at p s;obtain⟨h3,h4⟩:=Zb.sorts xs d' p s;exact⟨rfl,fin w' d'.toList h3 h4 (by simpa using hA)⟩
end
section
open Go.Proofs.YtcnegcdmmackeaaGreat.Base
/-- A valid hole. -/
def Zb.holeOk (t a b:Int):Bool:=decide (0≤t∧t≤19∧0≤a∧a≤1999∧a<b∧b≤2000)
theorem Zb.isHole_ok (t a b:Int):Z3.f t a b=some (Zb.holeOk t a b):=by
 unfold Z3.f Z2.f Zb.holeOk;by_cases h1:0≤t;(focus by_cases h2:t<20;(focus by_cases h3:0≤a;(focus by_cases h4:a<b;(focus by_cases h5:b≤2000;(focus simp[h1,h2,h3,h4,h5,show t≤19 by omega,show a≤1999 by omega]);(focus simp[h1,h2,h3,h4,h5]));(focus simp[h1,h2,h3,h4]));(focus simp[h1,h2,h3]));(focus simp[h1,h2,show ¬t≤19 by omega]));(focus simp[h1])
theorem Zb.rdH_mid (pre suf:List S62) (x:S62):rd_T62 (pre ++ x :: suf) (pre.length:Int)=x:=getD_mid _ _ _ _ _ (by simp)
/-- The hole x Zb.meets the earlier hole y. -/
def Zb.meets (x y:S62):Bool:=decide (x.f0=y.f0∧x.f1≤y.f2)
def Zb.before (a b:S62):Bool:=decide (a.f1<b.f1∨(a.f1=b.f1∧a.f0<b.f0))
def Zb.lastBefore (pre:List S62) (x:S62):Bool:=match pre.getLast? with | none=>true | some p=>Zb.before p x
def Zb.goodAt (pre:List S62) (x:S62):Bool:=Zb.holeOk x.f0 x.f1 x.f2 && (Zb.lastBefore pre x && !(pre.any (Zb.meets x)))
def Zb.goodFrom:List S62→List S62→Bool
 | _, []=>true
 | pre,x :: suf=>Zb.goodAt pre x && Zb.goodFrom (pre ++ [x]) suf
/-- A valid sheet. -/
def Zb.good (l:List S62):Bool:=Zb.goodFrom [] l && decide (l.length≤60)
theorem Zb.holeLess_ok (a b:S62):Z8.f a.f0 a.f1 a.f2 b.f0 b.f1 b.f2=some (Zb.before a b):=by
 unfold Z8.f Zb.before;by_cases h1:a.f1=b.f1;(focus simp[h1]);(focus simp[h1])
theorem Zb.isSheet_l1 (x:S62) (l:List S62) (n i:Int) (r:Bool) (suf:List S62):∀pre:List S62,(pre ++ suf).length≤9223372036854775806 →
 (suf.any (Zb.meets x)=true→r=false)→(suf.any (Zb.meets x)=false→Ev (fun k=>Zd.l0 k l l n (wrap64 (i+1))) r) →
 Ev (fun k=>Zd.l1 k l l n i (pre ++ suf) ((pre ++ suf).length:Int) (pre.length:Int) x.f0 x.f1 x.f2) r:=by
 induction suf with
 | nil=>
  intro pre _ _ h;refine ev_step (h rfl) (fun k=>?_);rw[Zd.l1,if_neg (by simp)]
 | cons y suf ih=>
  intro pre hl h1 h2;(have hl':(pre.length:Int)<((pre ++ y :: suf).length:Int):=by simp;omega);(have hw:wrap64 ((pre.length:Int)+1)=(pre.length:Int)+1:=wrapS (by omega) (by simp at hl;omega));by_cases hm:Zb.meets x y=true;(focus (have e:r=false:=h1 (by simp[hm]));subst e;simp only[Zb.meets,decide_eq_true_eq]at hm;refine ev_step ev_const (fun k=>?_);rw[Zd.l1,if_pos hl',if_pos (by omega),if_pos hl',Zb.rdH_mid,if_pos hm.1.symm,if_pos hm.2]);(focus (replace hm:Zb.meets x y=false:=by simpa using hm);(have h:=ih (pre ++ [y]) (by simp at hl ⊢;omega) (fun e=>h1 (by simp[e])) (fun e=>h2 (by simp[hm,e])));rw[snoc_app,snoc_leni]at h;simp only[Zb.meets,decide_eq_false_iff_not]at hm;refine ev_step h (fun k=>?_);rw[Zd.l1,if_pos hl',if_pos (by omega),if_pos hl',Zb.rdH_mid,hw];by_cases e:x.f0=y.f0;(focus rw[if_pos e.symm,if_neg (fun e2=>hm ⟨e,e2⟩)]);(focus rw[if_neg (fun e2=>e e2.symm)]))
theorem Zb.isSheet_j1 (x:S62) (pre suf:List S62) (n:Int) (b r:Bool) (hl:(pre ++ suf).length≤9223372036854775806) (hb:b=true→r=false) (h1:b=false→pre.any (Zb.meets x)=true→r=false)
 (h2:b=false→pre.any (Zb.meets x)=false→Ev (fun k=>Zd.l0 k (pre ++ suf) (pre ++ suf) n (wrap64 ((pre.length:Int)+1))) r) :
 Ev (fun k=>Zd.j1 k (pre ++ suf) (pre.length:Int) (pre ++ suf) n (pre.length:Int) b x.f0 x.f1 x.f2) r:=by
 cases b with
 | true=>
  obtain rfl:=hb rfl;refine ev_step ev_const (fun k=>?_);rw[Zd.j1,if_pos rfl]
 | false=>
  (have h:=Zb.isSheet_l1 x (pre ++ suf) n (pre.length:Int) r pre [] (by simp at hl ⊢;omega) (h1 rfl) (h2 rfl));refine ev_step h (fun k=>?_);rw[Zd.j1,if_neg (by decide),if_pos (by omega),if_pos (by simp;omega)];simp
theorem Zb.isSheet_l0 (suf:List S62):∀pre:List S62,(pre ++ suf).length≤9223372036854775806 →
 Ev (fun k=>Zd.l0 k (pre ++ suf) (pre ++ suf) ((pre ++ suf).length:Int) (pre.length:Int)) (Zb.goodFrom pre suf):=by
 induction suf with
 | nil=>
  intro pre _;refine ev_step (Ev.now _) (fun k=>?_);rw[Zd.l0,if_neg (by simp)];simp[Zb.goodFrom]
 | cons x suf ih=>
  intro pre hl;(have h:=ih (pre ++ [x]) (by simp at hl ⊢;omega));rw[snoc_app,snoc_leni]at h;(have hl':(pre.length:Int)<((pre ++ x :: suf).length:Int):=by simp;omega);(have hw:wrap64 ((pre.length:Int)+1)=(pre.length:Int)+1:=wrapS (by omega) (by simp at hl;omega))
  have J:∀b,(b = !(Zb.holeOk x.f0 x.f1 x.f2 && Zb.lastBefore pre x))→Ev (fun k=>Zd.j1 k (pre ++ x :: suf) (pre.length:Int) (pre ++ x :: suf) ((pre ++ x :: suf).length:Int) (pre.length:Int) b x.f0 x.f1 x.f2) (Zb.goodFrom pre (x :: suf)):=by
   intro b hb
   refine Zb.isSheet_j1 x pre (x :: suf) _ b _ hl (fun e=>?_) (fun e e2=>?_) (fun e e2=>?_)
   ·simp only[Zb.goodFrom,Zb.goodAt]
    cases h1:Zb.holeOk x.f0 x.f1 x.f2<;>cases h2:Zb.lastBefore pre x<;>simp_all
   ·simp[Zb.goodFrom,Zb.goodAt,e2]
   ·rw[hw]
    have e3:Zb.goodFrom pre (x :: suf)=Zb.goodFrom (pre ++ [x]) suf:=by
     simp only[Zb.goodFrom,Zb.goodAt,e2]
     cases h1:Zb.holeOk x.f0 x.f1 x.f2<;>cases h2:Zb.lastBefore pre x<;>simp_all
    rw[e3]
    exact h
  cases ho:Zb.holeOk x.f0 x.f1 x.f2 with
  | false=>
   refine ev_step (J true (by simp[ho])) (fun k=>?_);rw[Zd.l0,if_pos hl',if_pos (by omega),if_pos hl',Zb.rdH_mid,Zb.isHole_ok,ho];simp
  | true=>
   (rcases List.eq_nil_or_concat pre with rfl | ⟨pre',p,rfl⟩);(focus refine ev_step (J false (by simp[ho,Zb.lastBefore])) (fun k=>?_);rw[Zd.l0,if_pos hl',if_pos (by omega),if_pos hl',Zb.rdH_mid,Zb.isHole_ok,ho];simp)
   ·refine ev_step (J (!(Zb.before p x)) (by simp[ho,Zb.lastBefore])) (fun k=>?_);(have e1:((pre' ++ [p]).length:Int)=(pre'.length:Int)+1:=by simp)
    have hw2:wrap64 (((pre' ++ [p]).length:Int)-1)=(pre'.length:Int):=by
     rw[e1,wrapS (by omega) (by simp at hl;omega)];omega
    have e2:rd_T62 (pre' ++ [p] ++ x :: suf) (pre'.length:Int)=p:=by
     rw[snoc_app];exact Zb.rdH_mid _ _ _
    rw[Zd.l0,if_pos hl',if_pos (by omega),if_pos hl',Zb.rdH_mid,Zb.isHole_ok,ho];simp only[List.concat_eq_append]at *;simp only[Option.bind_some,if_true];rw[if_pos (by omega),hw2,if_pos (by omega),if_pos (by simp;omega),e2,Zb.holeLess_ok];simp only[Option.bind_some]
theorem Zb.isSheet_ok (l:List S62) (h:l.length≤9223372036854775806):Ev (fun k=>Zd.f k l) (Zb.good l):=by
 by_cases h6:(l.length:Int)>60;(focus refine Ev.congr (f:=fun _=>some (Zb.good l)) (fun k=>?_) ev_const;rw[Zd.f,if_pos h6];(have:¬l.length≤60:=by omega);simp[Zb.good,this]);(focus refine Ev.congr (fun k=>?_) (ev_eq (Zb.isSheet_l0 l [] (by simpa using h)) ?_);(focus rw[Zd.f,if_neg h6];rfl);(focus (have:l.length≤60:=by omega);simp[Zb.good,this]))
def Zb.strict:List S62→Bool
 | []=>true
 | [_]=>true
 | a :: b :: r=>Zb.lt a b && Zb.strict (b :: r)
theorem Zb.strict_pair:∀l:List S62,Zb.strict l=true→l.Pairwise (fun a b=>Zb.lt a b=true)
 | [],_=>List.Pairwise.nil
 | [_],_=>by simp
 | a :: b :: r,h=>by
  simp only[Zb.strict,Bool.and_eq_true]at h
  have ih:=Zb.strict_pair (b :: r) h.2
  refine List.Pairwise.cons ?_ ih
  intro c hc
  rcases List.mem_cons.1 hc with rfl | hc
  ·exact h.1
  ·exact Zb.swo.trans _ _ _ h.1 (List.rel_of_pairwise_cons ih hc)
theorem Zb.strict_of:∀l:List S62,l.Pairwise (fun a b=>Zb.lt a b=true)→Zb.strict l=true
 | [],_=>rfl
 | [_],_=>rfl
 | a :: b :: r,h=>by
  rw[Zb.strict,Bool.and_eq_true]
  exact⟨List.rel_of_pairwise_cons h List.mem_cons_self,Zb.strict_of (b :: r) (List.Pairwise.of_cons h)⟩
theorem Zb.unique:∀(ys zs:List S62),ys.Perm zs→ys.Pairwise (fun a b=>Zb.lt b a=false)→zs.Pairwise (fun a b=>Zb.lt a b=true)→ys=zs
 | [],zs,p,_,_=>(List.Perm.nil_eq p)
 | y :: ys, [],p,_,_=>by simp at p
 | y :: ys,z :: zs,p,h1,h2=>by
  have e:y=z:=by
   (rcases List.mem_cons.1 (p.mem_iff.1 List.mem_cons_self) with e | hy);(focus exact e);(focus (rcases List.mem_cons.1 (p.mem_iff.2 (List.mem_cons_self (a:=z) (l:=zs))) with e | hz);(focus exact e.symm);(focus (have a1:=List.rel_of_pairwise_cons h2 hy);(have a2:=List.rel_of_pairwise_cons h1 hz);rw[a1]at a2;cases a2))
  subst e
  rw[Zb.unique ys zs (List.perm_cons y |>.1 p) (List.Pairwise.of_cons h1) (List.Pairwise.of_cons h2)]
theorem Zb.goodFrom_strict (suf:List S62):∀(pre:List S62) (p:S62),Zb.goodFrom (pre ++ [p]) suf=true→Zb.strict (p :: suf)=true:=by
 induction suf with
 | nil=>intro _ _ _;rfl
 | cons x suf ih=>
  intro pre p h;simp only[Zb.goodFrom,Zb.goodAt,Zb.lastBefore,List.getLast?_append,List.getLast?_singleton,Option.or,Bool.and_eq_true]at h;rw[Zb.strict,Bool.and_eq_true];exact⟨h.1.2.1,ih (pre ++ [p]) x h.2⟩
theorem Zb.good_strict (l:List S62) (h:Zb.good l=true):Zb.strict l=true:=by
 simp only[Zb.good,Bool.and_eq_true]at h;cases l with
 | nil=>rfl
 | cons x r=>
  have:=h.1;simp only[Zb.goodFrom,Bool.and_eq_true]at this;exact Zb.goodFrom_strict r [] x this.2
/-- x, put behind all that it is not less than. -/
def Zb.ins (x:S62):List S62→List S62
 | []=> [x]
 | y :: r=>if Zb.lt x y=true then x :: y :: r else y :: Zb.ins x r
def Zb.srt (l:List S62):List S62:=l.foldl (fun out x=>Zb.ins x out) []
theorem Zb.ins_perm (x:S62):∀l:List S62,(Zb.ins x l).Perm (x :: l)
 | []=>List.Perm.refl _
 | y :: r=>by
  rw[Zb.ins]
  by_cases c:Zb.lt x y=true
  ·rw[if_pos c]
  ·rw[if_neg c];exact((Zb.ins_perm x r).cons y).trans (List.Perm.swap x y r)
theorem Zb.ins_sorted (x:S62):∀l:List S62,l.Pairwise (fun a b=>Zb.lt b a=false)→(Zb.ins x l).Pairwise (fun a b=>Zb.lt b a=false)
 | [],_=>by simp[Zb.ins]
 | y :: r,h=>by
  rw[Zb.ins]
  by_cases c:Zb.lt x y=true
  ·rw[if_pos c]
   refine List.Pairwise.cons ?_ h
   intro z hz
   rcases List.mem_cons.1 hz with rfl | hz
   ·exact Zb.swo.asymmA c
   ·cases e:Zb.lt z x with
    | false=>rfl
    | true=>have:=Zb.swo.trans _ _ _ e c;rw[List.rel_of_pairwise_cons h hz]at this;cases this
  ·rw[if_neg c]
   refine List.Pairwise.cons ?_ (Zb.ins_sorted x r (List.Pairwise.of_cons h))
   intro z hz
   rcases List.mem_cons.1 ((Zb.ins_perm x r).mem_iff.1 hz) with rfl | hz
   ·simpa using c
   ·exact List.rel_of_pairwise_cons h hz
theorem Zb.fold (l:List S62):∀out:List S62,out.Pairwise (fun a b=>Zb.lt b a=false)→(l.foldl (fun out x=>Zb.ins x out) out).Perm (out ++ l)∧(l.foldl (fun out x=>Zb.ins x out) out).Pairwise (fun a b=>Zb.lt b a=false):=by
 induction l with
 | nil=>intro out h;simpa using h
 | cons x l ih=>
  intro out h;obtain⟨h1,h2⟩:=ih (Zb.ins x out) (Zb.ins_sorted x out h);refine⟨h1.trans (((Zb.ins_perm x out).append_right l).trans ?_),h2⟩;exact List.perm_middle.symm
theorem Zb.srt_sorts (l:List S62):Zb.Sorts l (Zb.srt l):=by
 have:=Zb.fold l [] List.Pairwise.nil;(simpa [Zb.Sorts,Zb.srt] using this)
theorem Zb.same (l ys:List S62) (h:Zb.Sorts l ys) (hs:Zb.strict (Zb.srt l)=true):ys=Zb.srt l:=
 Zb.unique ys (Zb.srt l) (h.1.trans (Zb.srt_sorts l).1.symm) h.2 (Zb.strict_pair _ hs)
theorem Zb.not (l ys:List S62) (h:Zb.Sorts l ys) (hs:¬Zb.strict (Zb.srt l)=true):Zb.good ys=false:=by
 cases g:Zb.good ys with
 | false=>rfl
 | true=>
  (have hy:=Zb.good_strict ys g);have:=Zb.unique (Zb.srt l) ys ((Zb.srt_sorts l).1.trans h.1.symm) (Zb.srt_sorts l).2 (Zb.strict_pair _ hy);rw[this]at hs;exact absurd hy hs
def Zb.f (k:Nat) (l0:List S62):Option (List S62×Bool):=if(l0.length:Int)>60 then some ([],false) else if Zb.strict (Zb.srt l0)=true then(Zd.f k (Zb.srt l0)).bind fun b=>(if b=true then some (Zb.srt l0,true) else some ([],false)) else some ([],false)
theorem Zb.mono:∀a0 k,LeO (Zb.f k a0) (Zb.f (k+1) a0):=by
 intro a0 k;have m0:=@Zd.mono;unfold Zb.f;exact mo_
theorem Zb.tells (k:Nat) (l0:List S62) (r1:List S62) (r2:Bool) (hl:¬(l0.length:Int)>60) (h:Zb.f k l0=some (r1,r2)) (ys:List S62) (hs:Zb.Sorts l0 ys):∃K b,Zd.f K ys=some b∧(b=true→r1=ys∧r2=true)∧(b=false→r1 = []∧r2=false):=by
 unfold Zb.f at h;rw[if_neg hl]at h;by_cases c:Zb.strict (Zb.srt l0)=true;(focus rw[if_pos c]at h;obtain⟨b,e,h⟩:=Option.bind_eq_some_iff.mp h;refine⟨k,b,by rw[Zb.same l0 ys hs c];exact e,fun hb=>?_,fun hb=>?_⟩;(focus subst hb;rw[if_pos rfl]at h;injection h with h;injection h with h1 h2;exact⟨by rw[Zb.same l0 ys hs c];exact h1.symm,h2.symm⟩);(focus subst hb;rw[if_neg (by decide)]at h;injection h with h;injection h with h1 h2;exact⟨h1.symm,h2.symm⟩))
 ·rw[if_neg c]at h;injection h with h;injection h with h1 h2;(have hlen:ys.length=l0.length:=hs.1.length_eq);obtain⟨K,e⟩:=Zb.isSheet_ok ys (by omega);refine⟨K,false,?_,(fun hb=>absurd hb (by decide)),(fun _=>⟨h1.symm,h2.symm⟩)⟩;have:=e K (Nat.le_refl _)
  rwa [Zb.not l0 ys hs c]at this
end
theorem Zb.cloneNil (v:Value) (W:World) (base:Nat) (xs:List S62) (HO:Kd.R k62 62 W base (fun _=>True) v xs):(v = .slice none 0 0∧xs = [])∨∃g cap,v = .slice (some ⟨g,0,none⟩) xs.length cap∧g<W.heap.size:=by
 obtain⟨_,inner,hown,_⟩:=HO;(rcases hown.2 with ⟨hv,hn⟩ | ⟨g,cap,cur,hv,_,hh,_⟩);(focus exact .inl ⟨hv,List.eq_nil_of_length_eq_zero hn⟩);(focus refine .inr ⟨g,cap,hv,?_⟩;(rcases Nat.lt_or_ge g W.heap.size with h | h);(focus exact h);(focus rw[Array.getElem?_eq_none h]at hh;cases hh))
def Zb.SortPost (W:World) (B base:Nat) (v:Value) (xs:List S62) (e:Ending) (W':World):Prop:=e = .returned (.tuple #[])∧∃ys,Zb.Sorts xs ys∧ys.length=xs.length∧Kd.R k62 62 W' base (fun _=>True) v ys∧Below base W W'∧W'.cell? ⟨B,0,none⟩=some v∧W.heap.size≤W'.heap.size
theorem Zb.sortV (w2:World) (base:Nat) (v:Value) (xs:List S62) (HO:Kd.R k62 62 w2 base (fun _=>True) v xs) (hbase:base≤w2.heap.size) (hlen:xs.length≤60) :
 Calls Tryz.prog 73 #[.iface 28 v, .func (.func 74) #[] #[.pointer (some ⟨w2.heap.size,0,none⟩)]] (w2.alloc (.cells #[v] 28)) (Zb.SortPost (w2.alloc (.cells #[v] 28)) w2.heap.size base v xs):=by
 (have HO2:Kd.R k62 62 (w2.alloc (.cells #[v] 28)) base (fun _=>True) v xs:=Kd.R_alloc HO _);(have hB:(w2.alloc (.cells #[v] 28)).cell? ⟨w2.heap.size,0,none⟩=some v:=by simp);(rcases Zb.cloneNil v w2 base xs HO with ⟨rfl,rfl⟩ | ⟨g,cap,rfl,hg⟩)
 ·refine(Go.Proofs.YtcnegcdmmackeaaGreat.SymSort.sliceStable_tiny Tryz.laysGt8 28 62 Zb.T Zb.E (by kernel_rfl) (by kernel_rfl) (by kernel_rfl) (by kernel_rfl) 25 (fun _=>by kernel_rfl) none 0 0 (by omega) 93 (by kernel_rfl) (.func 74) #[] _ _).mono ?_;rintro e w' ⟨rfl,os,rfl⟩
  have hbl:Below (w2.alloc (.cells #[.slice none 0 0] 28)).heap.size (w2.alloc (.cells #[.slice none 0 0] 28)) (Go.Sort.grow (w2.alloc (.cells #[.slice none 0 0] 28)) os):=
   ⟨rfl,rfl,rfl,by rw[Go.Sort.size_grow];omega,fun k hk=>Go.Sort.heap_grow_old _ _ hk⟩
  exact⟨rfl, [],⟨List.Perm.refl _,List.Pairwise.nil⟩,rfl,Kd.R_nil _ _ _ _ _,hbl.mono (by simp;omega),by rw[hbl.cell (by simp)];exact hB,hbl.size⟩
 (focus (exact(Zb.sort (w2.alloc (.cells #[.slice (some ⟨g,0,none⟩) xs.length cap] 28)) w2.heap.size g base xs.length cap xs HO2 hB (by omega) (by simp) (by simp;omega) hlen).mono fun e w' h=>h))
set_option maxHeartbeats 4000000 in
theorem Zb.calls (k:Nat) (A0:Option Addr) (c0:Nat) (l0:List S62) (r1:List S62) (r2:Bool) (w:World) (hr0:Kd.C k62 w A0 l0.length l0) (hc0:l0.length≤c0) (h:Zb.f k l0=some (r1,r2)) :
 Calls Tryz.prog 58 #[.slice A0 l0.length c0] w fun e w'=>∃v0_:Value,e = .returned (.tuple #[v0_, .bool r2])∧Kd.R k62 62 w' w.heap.size (fun _=>True) v0_ r1∧Below w.heap.size w w':=by
 by_cases hl:(l0.length:Int)>60;(focus (have hl2:60<l0.length:=by omega);unfold Zb.f at h;rw[if_pos hl]at h;injection h with h;injection h with h1 h2;subst h1;subst h2;clear hr0 hc0;(go_enter Tryz.func58,Tryz.ntmps58);go_wp2;go_ret2;exact⟨_,rfl,Kd.R_nil _ _ _ _ _,Below.refl _ _⟩)
 ·(have hl2:l0.length≤60:=by omega);(have HT:=am_ (Zb.tells k l0 r1 r2 hl h));(have hcl:Z9.f l0=some l0:=if_pos (by omega));(have HR0:=am_ hr0);(have HC0:=am_ hc0);(have HCL:=am_ hcl);clear hr0 hc0 hcl h;(go_enter Tryz.func58,Tryz.ntmps58)
  go_wp2_with (first
   |(go_at_call 72;refine(Z9.calls A0 c0 l0 l0 _ HR0.out HC0.out HCL.out).mono ?_;rintro e w2 ⟨v2,rfl,ho,hb⟩;obtain⟨A2,c2,rfl⟩:=Kd.R_slice ho;have HO:=am_ ho;have HB2:=am_ hb;clear ho hb)
   |(go_at_call 73;refine(Zb.sortV w2 w.heap.size (.slice A2 l0.length c2) l0 HO.out HB2.out.size hl2).mono ?_;rintro e w3 ⟨rfl,ys,hS,hy,ho,hb,hcB,hsz⟩;have HS:=am_ hS;have HY:=am_ hy;have HO3:=am_ ho;have HB3:=am_ hb;clear hS hy ho hb))
  obtain⟨K,b,e,ht,hf⟩:=HT.out ys HS.out;obtain⟨_,hyc,hrd⟩:=Kd.R_reads' HO3.out;(have hcall:=Zd.calls K A2 c2 ys b w3 hrd (by have:=HY.out;omega) e);rw[HY.out]at hcall;(have HB:Aside0 (Below w.heap.size w w3):=⟨(below_alloc HB2.out _).trans HB3.out⟩);(have hws:w.heap.size≤w3.heap.size:=HB.out.size);(have hB2:w2.heap.size<w3.heap.size:=by simp at hsz;omega);clear hrd hyc HB3 HB2 HT HS;cases b with
  | false=>
   obtain⟨rfl,rfl⟩:=hf rfl;clear ht hf e;(go_wp2_with (go_at_call 40;refine hcall.mono ?_;rintro e w4 ⟨rfl,hb4⟩));go_ret2;exact⟨_,rfl,Kd.R_nil _ _ _ _ _,HB.out.trans (hb4.mono hws)⟩
  | true=>
   obtain⟨rfl,rfl⟩:=ht rfl;clear ht hf e;(go_wp2_with (go_at_call 40;refine hcall.mono ?_;rintro e w4 ⟨rfl,hb4⟩;have hc4:=(hb4.cell (p:=⟨w2.heap.size,0,none⟩) hB2).trans hcB));go_ret2;exact⟨_,rfl,by have h:=Kd.R_below HO3.out hb4;first|exact h|(rw[← HY.out]at h;exact h),HB.out.trans (hb4.mono hws)⟩
-- NOT PRINTED: function 28 (Ye)
end Go.Proofs.YtcnegcdmmackeaaGreat.QFnEditions
