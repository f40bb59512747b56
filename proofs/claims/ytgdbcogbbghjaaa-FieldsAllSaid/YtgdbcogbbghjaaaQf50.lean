import Derived.Test.YtgdbcogbbghjaaaQ0
namespace Go.Proofs.Ytgdbcogbbghjaaa.Q
open Go.RowKit Go.Proofs.YtgdbcogbbghjaaaW.PrintWords Go.Proofs.YtgdbcogbbghjaaaW.PrintLast Go.Proofs.YtgdbcogbbghjaaaW.PrintMore
attribute [local go_sem] max2_int min2_int max_two min_two max_three min_three max_four min_four   -- for this text's walks alone
set_option linter.unusedVariables false
set_option linter.unusedSimpArgs false
mutual
def arboristref15_levels.l0:Nat→List Bool→Int→List ByteArray→List ByteArray→List Int→List (S67)→List (S78)→Option (Bool)
 | 0,_,_,_,_,_,_,_=>none
 | k + 1,x3,x4,x367000,x367001,x367002,x367003,x367004=>if x4 < (x367004.length:Int)then(if 0≤x4 then(if ((rd_T78 x367004 x4).f0) < 1 then(arboristref15_levels.j1 k x3 x4 true x367000 x367001 x367002 x367003 x367004 ((rd_T78 x367004 x4).f0) ((rd_T78 x367004 x4).f1))else(arboristref15_levels.j1 k x3 x4 (decide (((rd_T78 x367004 x4).f0) > 4)) x367000 x367001 x367002 x367003 x367004 ((rd_T78 x367004 x4).f0) ((rd_T78 x367004 x4).f1)))else(none))else(some true)
def arboristref15_levels.j1:Nat→List Bool→Int→Bool→List ByteArray→List ByteArray→List Int→List (S67)→List (S78)→Int→List Int→Option (Bool)
 | 0,_,_,_,_,_,_,_,_,_,_=>none
 | k + 1,x3,x4,x31,x367000,x367001,x367002,x367003,x367004,x372000,x372001=>if x31=true then(some false)else(arboristref15_levels.l1 k x3 x4 0 x367000 x367001 x367002 x367003 x367004 x372000 x372001)
def arboristref15_levels.l1:Nat→List Bool→Int→Int→List ByteArray→List ByteArray→List Int→List (S67)→List (S78)→Int→List Int→Option (Bool)
 | 0,_,_,_,_,_,_,_,_,_,_=>none
 | k + 1,x3,x4,x6,x367000,x367001,x367002,x367003,x367004,x372000,x372001=>if x6 < (x372001.length:Int)then(if 0≤x6 then(if (rd x372001 x6) < 2 then(some false)else(if (rd x372001 x6) ≥ (x367000.length:Int)then(some false)else(if 0≤(rd x372001 x6)then(if (rd x372001 x6) < (x3.length:Int)then(if rdOf false x3 (rd x372001 x6)=true then(some false)else(arboristref15_levels.l1 k (x3.set ((rd x372001 x6):Int).toNat true) x4 (wrap64 (x6 + 1)) x367000 x367001 x367002 x367003 x367004 x372000 x372001))else(none))else(none))))else(none))else(arboristref15_levels.l0 k x3 (wrap64 (x4 + 1)) x367000 x367001 x367002 x367003 x367004)
end
def arboristref15_levels.f (k:Nat)(l0_0:List ByteArray)(l0_1:List ByteArray)(l0_2:List Int)(l0_3:List (S67))(l0_4:List (S78)):Option (Bool):=if 0≤(l0_0.length:Int)then(if ((l0_0.length:Int):Int).toNat≤281474976710656 then(arboristref15_levels.l0 k (List.replicate ((l0_0.length:Int):Int).toNat false) 0 l0_0 l0_1 l0_2 l0_3 l0_4)else(none))else(none)
set_option maxHeartbeats 8000000 in
set_option maxRecDepth 100000 in
theorem arboristref15_levels.calls (k:Nat)(A0_0:Option Addr)(c0_0:Nat)(l0_0:List ByteArray)(A0_1:Option Addr)(c0_1:Nat)(l0_1:List ByteArray)(A0_2:Option Addr)(c0_2:Nat)(l0_2:List Int)(A0_3:Option Addr)(c0_3:Nat)(l0_3:List (S67))(A0_4:Option Addr)(c0_4:Nat)(l0_4:List (S78))(r:Bool)(w:World)(hr0_0:Kd.C Kd.string w A0_0 l0_0.length l0_0)(hc0_0:l0_0.length≤c0_0)(hr0_1:Kd.C Kd.string w A0_1 l0_1.length l0_1)(hc0_1:l0_1.length≤c0_1)(hr0_2:Kd.C (Kd.int .i64) w A0_2 l0_2.length l0_2)(hc0_2:l0_2.length≤c0_2)(hr0_3:Kd.C k67 w A0_3 l0_3.length l0_3)(hc0_3:l0_3.length≤c0_3)(hr0_4:Kd.C k78 w A0_4 l0_4.length l0_4)(hc0_4:l0_4.length≤c0_4)(h:arboristref15_levels.f k l0_0 l0_1 l0_2 l0_3 l0_4=some r) :
  Calls Try.prog 50 #[.agg #[.slice A0_0 l0_0.length c0_0,.slice A0_1 l0_1.length c0_1,.slice A0_2 l0_2.length c0_2,.slice A0_3 l0_3.length c0_3,.slice A0_4 l0_4.length c0_4]] w fun e w'=>e=.returned (.bool r)∧Below w.heap.size w w':=by
 have hu27:=Try.underlying27
 have hu78:=Try.underlying78
 have HR0_0:=Az.mk hr0_0
 have HC0_0:=Az.mk hc0_0
 clear hr0_0 hc0_0
 have HR0_1:=Az.mk hr0_1
 have HC0_1:=Az.mk hc0_1
 clear hr0_1 hc0_1
 have HR0_2:=Az.mk hr0_2
 have HC0_2:=Az.mk hc0_2
 clear hr0_2 hc0_2
 have HR0_3:=Az.mk hr0_3
 have HC0_3:=Az.mk hc0_3
 clear hr0_3 hc0_3
 have HR0_4:=Az.mk hr0_4
 have HC0_4:=Az.mk hc0_4
 clear hr0_4 hc0_4
 have HB:=Az.mk (Below.refl w.heap.size w)
 have H:(if 0≤(l0_0.length:Int)then(if ((l0_0.length:Int):Int).toNat≤281474976710656 then(arboristref15_levels.l0 k (List.replicate ((l0_0.length:Int):Int).toNat false) 0 l0_0 l0_1 l0_2 l0_3 l0_4)else(none))else(none))=some r:=h
 clear h
 by_cases c2:0≤(l0_0.length:Int)
 rotate_left
 ·rw [if_neg c2] at H
  exact absurd H (by simp)
 rw [if_pos c2] at H
 have c2b0:=eq_true c2
 have c2b1:=decide_eq_true c2
 clear c2
 by_cases c3:((l0_0.length:Int):Int).toNat≤281474976710656
 rotate_left
 ·rw [if_neg c3] at H
  exact absurd H (by simp)
 rw [if_pos c3] at H
 have c3b0:=eq_true c3
 have c3b1:=decide_eq_true c3
 clear c3
 obtain⟨y367,hy367⟩:∃ y_:List Bool,y_=(List.replicate ((l0_0.length:Int):Int).toNat false):=⟨_,rfl⟩
 replace H:(arboristref15_levels.l0 k y367 0 l0_0 l0_1 l0_2 l0_3 l0_4)=some r:=by first|(rw [hy367];with_reducible exact H)|(have H2_:=(Option.bind_some _ _).symm.trans H;rw [hy367];with_reducible exact H2_)|(have H2_:=(Option.bind_some _ _).symm.trans H;with_reducible exact H2_)|with_reducible exact H|(rw [hy367];exact H)|exact H
 have Ny367:=Az.mk hy367
 clear hy367
 have H':=Az.mk H
 clear H
 go_enter Try.func50,Try.ntmps50
 go_wp2_with (first|((with_reducible refine gate_dst (N:=1) rfl ?_);(try (refine gate_guard (by rfl) ?_;dsimp only));refine box_event ?hg (N:=1) ?hd (cs:=#[.slice A0_0 l0_0.length c0_0,.slice A0_1 l0_1.length c0_1,.slice A0_2 l0_2.length c0_2,.slice A0_3 l0_3.length c0_3,.slice A0_4 l0_4.length c0_4]) (t:=27) ?hr ?_;(case hd=>rfl);(case hg=>rfl);(case hr=>first|(go_simp;done)|(go_simp;rfl));intro gb366 hg w4 hbox hb;have n0_:=Az.mk (bT_ HB.out hb);have n1_:=Az.mk (hbox);have n2_:=Az.mk ((szl_ HB.out hg));have n3_:=Az.mk ((szl_ HB.out hg));clear HB;have HB:=n0_;have BK366:=n1_;have GW366:=n2_;have GE366:=n3_;clear n0_ n1_ n2_ n3_;clear hb hbox hg;obtain⟨hcz5_0,hcz5_1,hcz5_2,hcz5_3,hcz5_4,hfz5_0,hfz5_1,hfz5_2,hfz5_3,hfz5_4⟩:=cf5_ BK366.out)|((with_reducible refine gate_dst (N:=11) rfl ?_);(try (refine gate_guard (by rfl) ?_;dsimp only));refine Kd.R_make Kd.bool _ 4 rfl (N:=11) rfl 86 _ _ rfl (l0_0.length:Int) rfl rfl Try.underlying86 (.bool false) 1 info4 rfl (by decide) (by omega) false (ok:=fun _=>True) (okp:=fun _=>True) rfl (fun _ hk=>hk) trivial (of_decide_eq_true (by assumption)) (Nat.le_trans (Nat.mul_le_mul_right _ (of_decide_eq_true (by assumption):(l0_0.length:Int).toNat≤281474976710656)) (by omega)) (Below.refl _ _) (Nat.le_refl _) ?_;intro v368 w6 ho7 hb hg_ hnew_;clear hg_ hnew_;(first|rw [← Ny367.out] at ho7|(simp only [Int.reduceToNat] at ho7;rw [← Ny367.out] at ho7));have n0_:=Az.mk (Kd.R_lower ho7 (bZ_ (by repeat (first|(with_reducible first|exact HB.out|apply bA_|apply bN_|apply bD_|refine bS_ ?_ GE366.out)|exact HB.out))));have n1_:=Az.mk (kB_ BK366.out hb);have n2_:=Az.mk (bT_ HB.out hb);clear BK366;clear HB;have HO369:=n0_;have BK366:=n1_;have HB:=n2_;clear n0_ n1_ n2_;clear hb ho7))
 go_loopg [4] k (fun kq v4 w'=>∃ (x3_1:List Bool) (x4_1:Int),v4=.int .i64 x4_1∧Az (arboristref15_levels.l0 kq x3_1 x4_1 l0_0 l0_1 l0_2 l0_3 l0_4=some r)∧Az (kq≤k)∧Az (Kd.R Kd.bool 4 w' w.heap.size (fun _=>True) v368 x3_1)∧Az (w'.heap[gb366]?=some (.cells #[(.slice A0_0 l0_0.length c0_0),(.slice A0_1 l0_1.length c0_1),(.slice A0_2 l0_2.length c0_2),(.slice A0_3 l0_3.length c0_3),(.slice A0_4 l0_4.length c0_4)] 27 (0,0)))∧Az (Below w.heap.size w w'))
 case atStart=>exact⟨(y367),(0),(by first|rfl|(simp;done)|(simp [*];done)|(refine congrArg Value.bool ?_;exact isE_ _)),H',⟨Nat.le_refl _⟩,⟨by(with_reducible repeat (first|apply Kd.R_alloc|apply Kd.R_drewN|apply Kd.R_drew));exact HO369.out⟩,⟨by(with_reducible repeat (first|refine kN_ ?_ _|refine kD_ ?_|refine kA_ ?_ _));exact BK366.out⟩,⟨by repeat (first|(with_reducible first|exact HB.out|apply bA_|apply bN_|apply bD_|refine bS_ ?_ GE366.out)|exact HB.out)⟩⟩
 case round =>
  clear H'
  try clear c2
  try clear c2b0
  try clear c2b1
  try clear p2
  try clear c3
  try clear c3b0
  try clear c3b1
  try clear c5
  try clear hcz5_0 hcz5_1 hcz5_2 hcz5_3 hcz5_4 hfz5_0 hfz5_1 hfz5_2 hfz5_3 hfz5_4
  obtain⟨x3_1,x4_1,rfl,HA,HK1,HO_3,BK366,HB⟩:=hrel
  cases gk with
  | zero=>exact absurd HA.out (by simp [arboristref15_levels.l0])
  | succ k1 =>
   have H:=HA.out
   clear HA
   simp only [arboristref15_levels.l0] at H
   by_cases c8:x4_1 < (l0_4.length:Int)
   rotate_left
   ·rw [if_neg c8] at H
    have c8b0:=decide_eq_false c8
    clear c8
    obtain rfl:=Option.some.inj H
    obtain⟨hcz47_0,hcz47_1,hcz47_2,hcz47_3,hcz47_4,hfz47_0,hfz47_1,hfz47_2,hfz47_3,hfz47_4⟩:=cf5_ BK366.out
    go_wp2
    go_ret
    exact⟨by first|rfl|(simp [errW_none,errW_some] <;> rfl)|(simp [*,errW_none,errW_some] <;> rfl),by repeat (first|(with_reducible first|exact HB.out|apply bA_|apply bN_|apply bD_|refine bS_ ?_ GE366.out)|exact HB.out)⟩
   rw [if_pos c8] at H
   have c8b0:=decide_eq_true c8
   clear c8
   by_cases c9:0≤x4_1
   rotate_left
   ·rw [if_neg c9] at H
    exact absurd H (by simp)
   rw [if_pos c9] at H
   have c9b0:=decide_eq_true c9
   clear c9
   have HC10:=Az.mk H
   clear H
   obtain⟨hcz11_0,hcz11_1,hcz11_2,hcz11_3,hcz11_4,hfz11_0,hfz11_1,hfz11_2,hfz11_3,hfz11_4⟩:=cf5_ BK366.out
   have p370:0≤(x4_1:Int):=of_decide_eq_true (by assumption)
   have q370:x4_1 < (l0_4.length:Int):=of_decide_eq_true (by assumption)
   obtain⟨ad370,A370_1,c370_1,e370,hx370_0,hx370_1,hl370_1,hi370_1⟩:=at_T78 HR0_4.out x4_1 p370 q370
   cases e370
   replace hx370_0:=bc_ HB.out hx370_0
   replace hx370_1:=bc_ HB.out hx370_1
   have HR370_1:=Az.mk hi370_1
   have HC370_1:=Az.mk hl370_1
   clear hi370_1 hl370_1
   replace p370:=eq_true p370
   replace q370:=eq_true q370
   go_upto_region 6 with(first|((with_reducible refine gate_dst (N:=5) rfl ?_);(try (refine gate_guard (by rfl) ?_;dsimp only));refine box_event ?hg (N:=5) ?hd (cs:=#[.int .i64 0,.slice none 0 0]) (t:=78) ?hr ?_;(case hd=>rfl);(case hg=>rfl);(case hr=>first|(go_simp;done)|(go_simp;rfl));intro gb371 hg w12 hbox hb;have n0_:=Az.mk (Kd.R_below (by(with_reducible repeat (first|apply Kd.R_alloc|apply Kd.R_drewN|apply Kd.R_drew));exact HO_3.out) hb);have n1_:=Az.mk (kB_ BK366.out hb);have n2_:=Az.mk (bT_ HB.out hb);have n3_:=Az.mk (hbox);have n4_:=Az.mk ((szl_ HB.out hg));have n5_:=Az.mk ((szl_ HB.out hg));have n6_:=Az.mk ((nel_ BK366.out hg));have n7_:=Az.mk ((ner_ BK366.out hg));clear HO_3;clear BK366;clear HB;have HO_3:=n0_;have BK366:=n1_;have HB:=n2_;have BK371:=n3_;have GW371:=n4_;have GE371:=n5_;have NB366_371:=n6_;have NB371_366:=n7_;clear n0_ n1_ n2_ n3_ n4_ n5_ n6_ n7_;clear hb hbox hg;have hnb13:=NB371_366.out;have hnc13:=NB366_371.out;obtain⟨hcz14_0,hcz14_1,hfz14_0,hfz14_1⟩:=cf2_ BK371.out))
   (try simp only [Act.put,sT_,s0_,sC_])
   go_cut [31] (fun v31 wc=>∃ (kq:Nat) (x31_9:Bool),v31=.bool x31_9∧Az (arboristref15_levels.j1 kq x3_1 x4_1 x31_9 l0_0 l0_1 l0_2 l0_3 l0_4 ((rd_T78 l0_4 x4_1).f0) ((rd_T78 l0_4 x4_1).f1)=some r)∧Az (kq≤k1)∧Az (Kd.R Kd.bool 4 wc w.heap.size (fun _=>True) v368 x3_1)∧Az (wc.heap[gb366]?=some (.cells #[(.slice A0_0 l0_0.length c0_0),(.slice A0_1 l0_1.length c0_1),(.slice A0_2 l0_2.length c0_2),(.slice A0_3 l0_3.length c0_3),(.slice (some ad370) l0_4.length c0_4)] 27 (0,0)))∧Az (wc.heap[gb371]?=some (.cells #[.int .i64 ((rd_T78 l0_4 x4_1).f0),(.slice A370_1 ((rd_T78 l0_4 x4_1).f1).length c370_1)] 78 (0,0)))∧Az (Below w.heap.size w wc))
   case first =>
    have H:=HC10.out
    clear HC10
    by_cases c15:((rd_T78 l0_4 x4_1).f0) < 1
    ·rw [if_pos c15] at H
     have c15b0:=decide_eq_true c15
     clear c15
     (first|rw [c15b0]|(simp only [i64_w,i32_w];rw [c15b0])|skip)
     have H':=Az.mk H
     clear H
     have hnb16:=NB371_366.out
     have hnc16:=NB366_371.out
     obtain⟨hcz17_0,hcz17_1,hfz17_0,hfz17_1⟩:=cf2_ BK371.out
     go_wp2
     go_meet
     case rel=>exact⟨_,(true),(by first|rfl|(simp;done)|(simp [*];done)|(refine congrArg Value.bool ?_;exact isE_ _)),H',⟨by have:=HK1.out;first|omega|exact Nat.le_refl _⟩,⟨by(with_reducible repeat (first|apply Kd.R_alloc|apply Kd.R_drewN|apply Kd.R_drew));exact Kd.R_mono (Kd.R_far (p:=⟨gb371,1,none⟩) (Kd.R_far (p:=⟨gb371,0,none⟩) (Kd.R_types HO_3.out BK371.out (by decide)) (fun _ hk=>hk.2) (.int .i64 ((rd_T78 l0_4 x4_1).f0))) (fun _ hk=>hk.2) (.slice A370_1 ((rd_T78 l0_4 x4_1).f1).length c370_1)) (fun _ hk=>trivial)⟩,⟨by(with_reducible repeat (first|refine kN_ ?_ _|refine kD_ ?_|refine kA_ ?_ _));refine kF_ ?_ NB366_371.out _;(with_reducible repeat (first|refine kN_ ?_ _|refine kD_ ?_|refine kA_ ?_ _));refine kF_ ?_ NB366_371.out _;(with_reducible repeat (first|refine kN_ ?_ _|refine kD_ ?_|refine kA_ ?_ _));exact BK366.out⟩,⟨by(with_reducible repeat (first|refine kN_ ?_ _|refine kD_ ?_|refine kA_ ?_ _));refine kP_ (cs:=#[.int .i64 ((rd_T78 l0_4 x4_1).f0),.slice none 0 0]) ?_ 1 _ rfl;(with_reducible repeat (first|refine kN_ ?_ _|refine kD_ ?_|refine kA_ ?_ _));refine kP_ (cs:=#[.int .i64 0,.slice none 0 0]) ?_ 0 _ rfl;(with_reducible repeat (first|refine kN_ ?_ _|refine kD_ ?_|refine kA_ ?_ _));exact BK371.out⟩,⟨by repeat (first|(with_reducible first|exact HB.out|apply bA_|apply bN_|apply bD_|refine bS_ ?_ GE366.out|refine bS_ ?_ GE371.out)|exact HB.out)⟩⟩
    rw [if_neg c15] at H
    have c15b0:=decide_eq_false c15
    clear c15
    (first|rw [c15b0]|(simp only [i64_w,i32_w];rw [c15b0])|skip)
    have H':=Az.mk H
    clear H
    have hnb18:=NB371_366.out
    have hnc18:=NB366_371.out
    obtain⟨hcz19_0,hcz19_1,hfz19_0,hfz19_1⟩:=cf2_ BK371.out
    go_wp2
    go_meet
    case rel=>exact⟨_,(decide (((rd_T78 l0_4 x4_1).f0) > 4)),(by first|rfl|(simp;done)|(simp [*];done)|(refine congrArg Value.bool ?_;exact isE_ _)),H',⟨by have:=HK1.out;first|omega|exact Nat.le_refl _⟩,⟨by(with_reducible repeat (first|apply Kd.R_alloc|apply Kd.R_drewN|apply Kd.R_drew));exact Kd.R_mono (Kd.R_far (p:=⟨gb371,1,none⟩) (Kd.R_far (p:=⟨gb371,0,none⟩) (Kd.R_types HO_3.out BK371.out (by decide)) (fun _ hk=>hk.2) (.int .i64 ((rd_T78 l0_4 x4_1).f0))) (fun _ hk=>hk.2) (.slice A370_1 ((rd_T78 l0_4 x4_1).f1).length c370_1)) (fun _ hk=>trivial)⟩,⟨by(with_reducible repeat (first|refine kN_ ?_ _|refine kD_ ?_|refine kA_ ?_ _));refine kF_ ?_ NB366_371.out _;(with_reducible repeat (first|refine kN_ ?_ _|refine kD_ ?_|refine kA_ ?_ _));refine kF_ ?_ NB366_371.out _;(with_reducible repeat (first|refine kN_ ?_ _|refine kD_ ?_|refine kA_ ?_ _));exact BK366.out⟩,⟨by(with_reducible repeat (first|refine kN_ ?_ _|refine kD_ ?_|refine kA_ ?_ _));refine kP_ (cs:=#[.int .i64 ((rd_T78 l0_4 x4_1).f0),.slice none 0 0]) ?_ 1 _ rfl;(with_reducible repeat (first|refine kN_ ?_ _|refine kD_ ?_|refine kA_ ?_ _));refine kP_ (cs:=#[.int .i64 0,.slice none 0 0]) ?_ 0 _ rfl;(with_reducible repeat (first|refine kN_ ?_ _|refine kD_ ?_|refine kA_ ?_ _));exact BK371.out⟩,⟨by repeat (first|(with_reducible first|exact HB.out|apply bA_|apply bN_|apply bD_|refine bS_ ?_ GE366.out|refine bS_ ?_ GE371.out)|exact HB.out)⟩⟩
   case rest =>
    clear HC10
    try clear c1
    try clear c2
    try clear c2b0
    try clear c2b1
    try clear p2 p2
    try clear c3
    try clear c3b0
    try clear c3b1
    try clear p3
    try clear q3
    try clear hx3
    try clear c5
    try clear c8
    try clear c8b0
    try clear c9
    try clear c9b0
    try clear c13
    try clear c15
    try clear c15b0
    try clear c16
    try clear c18
    try clear hcz11_0 hcz11_1 hcz11_2 hcz11_3 hcz11_4 hfz11_0 hfz11_1 hfz11_2 hfz11_3 hfz11_4
    try clear hcz14_0 hcz14_1 hfz14_0 hfz14_1
    try clear hcz17_0 hcz17_1 hfz17_0 hfz17_1
    try clear hcz19_0 hcz19_1 hfz19_0 hfz19_1
    try clear hcz5_0 hcz5_1 hcz5_2 hcz5_3 hcz5_4 hfz5_0 hfz5_1 hfz5_2 hfz5_3 hfz5_4
    try clear hx370_0
    try clear hx370_1
    try clear p370
    try clear q370
    obtain⟨kq,x31_9,rfl,HA,HJ9,HO_3,BK366,BK371,HB⟩:=hcut
    cases kq with
    | zero=>exact absurd HA.out (by simp [arboristref15_levels.j1])
    | succ kj9 =>
     have H:=HA.out
     clear HA
     simp only [arboristref15_levels.j1] at H
     by_cases c20:x31_9=true
     ·subst c20
      have H1:(some false)=some r:=by rw [if_pos rfl] at H;exact H
      clear H
      have H:=H1
      clear H1
      obtain rfl:=Option.some.inj H
      go_wp2
      go_ret
      exact⟨by first|rfl|(simp [errW_none,errW_some] <;> rfl)|(simp [*,errW_none,errW_some] <;> rfl),by repeat (first|(with_reducible first|exact HB.out|apply bA_|apply bN_|apply bD_|refine bS_ ?_ GE366.out|refine bS_ ?_ GE371.out)|exact HB.out)⟩
     replace c20:=Bool.eq_false_iff.mpr c20
     subst c20
     have H1:(arboristref15_levels.l1 kj9 x3_1 x4_1 0 l0_0 l0_1 l0_2 l0_3 l0_4 ((rd_T78 l0_4 x4_1).f0) ((rd_T78 l0_4 x4_1).f1))=some r:=by rw [if_neg (show ¬ (false=true) by decide)] at H;exact H
     clear H
     have H:=H1
     clear H1
     have H':=Az.mk H
     clear H
     go_wp2
     go_loopg [6] kj9 (fun kq v6 w'=>∃ (x3_3:List Bool) (x6_3:Int),v6=.int .i64 x6_3∧Az (arboristref15_levels.l1 kq x3_3 x4_1 x6_3 l0_0 l0_1 l0_2 l0_3 l0_4 ((rd_T78 l0_4 x4_1).f0) ((rd_T78 l0_4 x4_1).f1)=some r)∧Az (kq≤kj9)∧Az (Kd.R Kd.bool 4 w' w.heap.size (fun _=>True) v368 x3_3)∧Az (w'.heap[gb366]?=some (.cells #[(.slice A0_0 l0_0.length c0_0),(.slice A0_1 l0_1.length c0_1),(.slice A0_2 l0_2.length c0_2),(.slice A0_3 l0_3.length c0_3),(.slice (some ad370) l0_4.length c0_4)] 27 (0,0)))∧Az (w'.heap[gb371]?=some (.cells #[.int .i64 ((rd_T78 l0_4 x4_1).f0),(.slice A370_1 ((rd_T78 l0_4 x4_1).f1).length c370_1)] 78 (0,0)))∧Az (Below w.heap.size w w'))
     case atStart=>exact⟨(x3_1),(0),(by first|rfl|(simp;done)|(simp [*];done)|(refine congrArg Value.bool ?_;exact isE_ _)),H',⟨Nat.le_refl _⟩,⟨by(with_reducible repeat (first|apply Kd.R_alloc|apply Kd.R_drewN|apply Kd.R_drew));exact HO_3.out⟩,⟨by(with_reducible repeat (first|refine kN_ ?_ _|refine kD_ ?_|refine kA_ ?_ _));exact BK366.out⟩,⟨by(with_reducible repeat (first|refine kN_ ?_ _|refine kD_ ?_|refine kA_ ?_ _));exact BK371.out⟩,⟨by repeat (first|(with_reducible first|exact HB.out|apply bA_|apply bN_|apply bD_|refine bS_ ?_ GE366.out|refine bS_ ?_ GE371.out)|exact HB.out)⟩⟩
     case round =>
      clear H'
      try clear c1
      try clear c2
      try clear c2b0
      try clear c2b1
      try clear p2 p2
      try clear c3
      try clear c3b0
      try clear c3b1
      try clear p3 p3
      try clear q3 q3
      try clear hx3
      try clear c5
      try clear c8
      try clear c8b0
      try clear c9
      try clear c9b0
      try clear c13
      try clear c15
      try clear c15b0
      try clear c16
      try clear c18
      try clear c20
      try clear hcz11_0 hcz11_1 hcz11_2 hcz11_3 hcz11_4 hfz11_0 hfz11_1 hfz11_2 hfz11_3 hfz11_4
      try clear hcz14_0 hcz14_1 hfz14_0 hfz14_1
      try clear hcz17_0 hcz17_1 hfz17_0 hfz17_1
      try clear hcz19_0 hcz19_1 hfz19_0 hfz19_1
      try clear hcz5_0 hcz5_1 hcz5_2 hcz5_3 hcz5_4 hfz5_0 hfz5_1 hfz5_2 hfz5_3 hfz5_4
      try clear hx370_0
      try clear hx370_1
      try clear p370
      try clear q370
      obtain⟨x3_3,x6_3,rfl,HA,HK3,HO_3,BK366,BK371,HB⟩:=hrel
      cases gk with
      | zero=>exact absurd HA.out (by simp [arboristref15_levels.l1])
      | succ k3 =>
       have H:=HA.out
       clear HA
       simp only [arboristref15_levels.l1] at H
       by_cases c21:x6_3 < (((rd_T78 l0_4 x4_1).f1).length:Int)
       rotate_left
       ·rw [if_neg c21] at H
        have c21b0:=decide_eq_false c21
        clear c21
        have H':=Az.mk H
        clear H
        have hnb45:=NB371_366.out
        have hnc45:=NB366_371.out
        obtain⟨hcz46_0,hcz46_1,hfz46_0,hfz46_1⟩:=cf2_ BK371.out
        go_wp2
        go_roundg k3
        case measure=>have:=HK1.out;have:=HJ9.out;have:=HK3.out;omega
        case rel=>exact⟨(x3_3),(wrap64 (x4_1 + 1)),(by first|rfl|(simp;done)|(simp [*];done)|(refine congrArg Value.bool ?_;exact isE_ _)),H',⟨by have:=HK1.out;have:=HJ9.out;have:=HK3.out;omega⟩,⟨by(with_reducible repeat (first|apply Kd.R_alloc|apply Kd.R_drewN|apply Kd.R_drew));exact HO_3.out⟩,⟨by(with_reducible repeat (first|refine kN_ ?_ _|refine kD_ ?_|refine kA_ ?_ _));exact BK366.out⟩,⟨by repeat (first|(with_reducible first|exact HB.out|apply bA_|apply bN_|apply bD_|refine bS_ ?_ GE366.out|refine bS_ ?_ GE371.out)|exact HB.out)⟩⟩
       rw [if_pos c21] at H
       have c21b0:=decide_eq_true c21
       clear c21
       by_cases c22:0≤x6_3
       rotate_left
       ·rw [if_neg c22] at H
        exact absurd H (by simp)
       rw [if_pos c22] at H
       have c22b0:=decide_eq_true c22
       clear c22
       by_cases c23:(rd ((rd_T78 l0_4 x4_1).f1) x6_3) < 2
       ·rw [if_pos c23] at H
        have c23b0:=decide_eq_true c23
        clear c23
        obtain rfl:=Option.some.inj H
        have hnb24:=NB371_366.out
        have hnc24:=NB366_371.out
        obtain⟨hcz25_0,hcz25_1,hfz25_0,hfz25_1⟩:=cf2_ BK371.out
        have p372:0≤(x6_3:Int):=of_decide_eq_true (by assumption)
        have q372:x6_3 < (((rd_T78 l0_4 x4_1).f1).length:Int):=of_decide_eq_true (by assumption)
        obtain⟨ad372,e372,hx372_0⟩:=Kd.at_int HR370_1.out x6_3 p372 q372
        cases e372
        replace hx372_0:=bc_ HB.out hx372_0
        replace p372:=eq_true p372
        replace q372:=eq_true q372
        go_wp2
        go_ret
        exact⟨by first|rfl|(simp [errW_none,errW_some] <;> rfl)|(simp [*,errW_none,errW_some] <;> rfl),by repeat (first|(with_reducible first|exact HB.out|apply bA_|apply bN_|apply bD_|refine bS_ ?_ GE366.out|refine bS_ ?_ GE371.out)|exact HB.out)⟩
       rw [if_neg c23] at H
       have c23b0:=decide_eq_false c23
       clear c23
       by_cases c26:(rd ((rd_T78 l0_4 x4_1).f1) x6_3) ≥ (l0_0.length:Int)
       ·rw [if_pos c26] at H
        have c26b0:=decide_eq_true c26
        clear c26
        obtain rfl:=Option.some.inj H
        have hnb27:=NB371_366.out
        have hnc27:=NB366_371.out
        obtain⟨hcz28_0,hcz28_1,hfz28_0,hfz28_1⟩:=cf2_ BK371.out
        have p372:0≤(x6_3:Int):=of_decide_eq_true (by assumption)
        have q372:x6_3 < (((rd_T78 l0_4 x4_1).f1).length:Int):=of_decide_eq_true (by assumption)
        obtain⟨ad372,e372,hx372_0⟩:=Kd.at_int HR370_1.out x6_3 p372 q372
        cases e372
        replace hx372_0:=bc_ HB.out hx372_0
        replace p372:=eq_true p372
        replace q372:=eq_true q372
        obtain⟨hcz29_0,hcz29_1,hcz29_2,hcz29_3,hcz29_4,hfz29_0,hfz29_1,hfz29_2,hfz29_3,hfz29_4⟩:=cf5_ BK366.out
        go_wp2
        go_ret
        exact⟨by first|rfl|(simp [errW_none,errW_some] <;> rfl)|(simp [*,errW_none,errW_some] <;> rfl),by repeat (first|(with_reducible first|exact HB.out|apply bA_|apply bN_|apply bD_|refine bS_ ?_ GE366.out|refine bS_ ?_ GE371.out)|exact HB.out)⟩
       rw [if_neg c26] at H
       have c26b0:=decide_eq_false c26
       clear c26
       by_cases c30:0≤(rd ((rd_T78 l0_4 x4_1).f1) x6_3)
       rotate_left
       ·rw [if_neg c30] at H
        exact absurd H (by simp)
       rw [if_pos c30] at H
       have c30b0:=decide_eq_true c30
       clear c30
       by_cases c31:(rd ((rd_T78 l0_4 x4_1).f1) x6_3) < (x3_3.length:Int)
       rotate_left
       ·rw [if_neg c31] at H
        exact absurd H (by simp)
       rw [if_pos c31] at H
       have c31b0:=decide_eq_true c31
       clear c31
       obtain⟨bq32,hbq32⟩:∃ b_:Bool,b_=(rdOf false x3_3 (rd ((rd_T78 l0_4 x4_1).f1) x6_3)):=⟨_,rfl⟩
       replace H:(if bq32=true then(some false)else(arboristref15_levels.l1 k3 (x3_3.set ((rd ((rd_T78 l0_4 x4_1).f1) x6_3):Int).toNat true) x4_1 (wrap64 (x6_3 + 1)) l0_0 l0_1 l0_2 l0_3 l0_4 ((rd_T78 l0_4 x4_1).f0) ((rd_T78 l0_4 x4_1).f1)))=some r:=by rw [← hbq32] at H;exact H
       have Nbq32:=Az.mk hbq32
       clear hbq32
       by_cases c33:bq32=true
       ·subst c33
        have H1:(some false)=some r:=by rw [if_pos rfl] at H;exact H
        clear H
        have H:=H1
        clear H1
        obtain rfl:=Option.some.inj H
        have hnb34:=NB371_366.out
        have hnc34:=NB366_371.out
        obtain⟨hcz35_0,hcz35_1,hfz35_0,hfz35_1⟩:=cf2_ BK371.out
        have p372:0≤(x6_3:Int):=of_decide_eq_true (by assumption)
        have q372:x6_3 < (((rd_T78 l0_4 x4_1).f1).length:Int):=of_decide_eq_true (by assumption)
        obtain⟨ad372,e372,hx372_0⟩:=Kd.at_int HR370_1.out x6_3 p372 q372
        cases e372
        replace hx372_0:=bc_ HB.out hx372_0
        replace p372:=eq_true p372
        replace q372:=eq_true q372
        obtain⟨hcz36_0,hcz36_1,hcz36_2,hcz36_3,hcz36_4,hfz36_0,hfz36_1,hfz36_2,hfz36_3,hfz36_4⟩:=cf5_ BK366.out
        obtain⟨Ao37,co37,eo37⟩:=Kd.R_slice HO_3.out
        subst eo37
        have p373:0≤((rd ((rd_T78 l0_4 x4_1).f1) x6_3):Int):=of_decide_eq_true (by assumption)
        have q373:(rd ((rd_T78 l0_4 x4_1).f1) x6_3) < (x3_3.length:Int):=of_decide_eq_true (by assumption)
        obtain⟨ad373,e373,hx373_0⟩:=Kd.at_bool (Kd.R_reads' HO_3.out).2.2 (rd ((rd_T78 l0_4 x4_1).f1) x6_3) p373 q373
        (try rw [← Nbq32.out] at hx373_0)
        cases e373
        replace p373:=eq_true p373
        replace q373:=eq_true q373
        go_wp2
        go_ret
        exact⟨by first|rfl|(simp [errW_none,errW_some] <;> rfl)|(simp [*,errW_none,errW_some] <;> rfl),by repeat (first|(with_reducible first|exact HB.out|apply bA_|apply bN_|apply bD_|refine bS_ ?_ GE366.out|refine bS_ ?_ GE371.out)|exact HB.out)⟩
       replace c33:=Bool.eq_false_iff.mpr c33
       subst c33
       have H1:(arboristref15_levels.l1 k3 (x3_3.set ((rd ((rd_T78 l0_4 x4_1).f1) x6_3):Int).toNat true) x4_1 (wrap64 (x6_3 + 1)) l0_0 l0_1 l0_2 l0_3 l0_4 ((rd_T78 l0_4 x4_1).f0) ((rd_T78 l0_4 x4_1).f1))=some r:=by rw [if_neg (show ¬ (false=true) by decide)] at H;exact H
       clear H
       have H:=H1
       clear H1
       obtain⟨y374,hy374⟩:∃ y_:List Bool,y_=(x3_3.set ((rd ((rd_T78 l0_4 x4_1).f1) x6_3):Int).toNat true):=⟨_,rfl⟩
       replace H:(arboristref15_levels.l1 k3 y374 x4_1 (wrap64 (x6_3 + 1)) l0_0 l0_1 l0_2 l0_3 l0_4 ((rd_T78 l0_4 x4_1).f0) ((rd_T78 l0_4 x4_1).f1))=some r:=by first|(rw [hy374];with_reducible exact H)|(have H2_:=(Option.bind_some _ _).symm.trans H;rw [hy374];with_reducible exact H2_)|(have H2_:=(Option.bind_some _ _).symm.trans H;with_reducible exact H2_)|with_reducible exact H|(rw [hy374];exact H)|exact H
       have Ny374:=Az.mk hy374
       clear hy374
       have H':=Az.mk H
       clear H
       have hnb39:=NB371_366.out
       have hnc39:=NB366_371.out
       obtain⟨hcz40_0,hcz40_1,hfz40_0,hfz40_1⟩:=cf2_ BK371.out
       have p372:0≤(x6_3:Int):=of_decide_eq_true (by assumption)
       have q372:x6_3 < (((rd_T78 l0_4 x4_1).f1).length:Int):=of_decide_eq_true (by assumption)
       obtain⟨ad372,e372,hx372_0⟩:=Kd.at_int HR370_1.out x6_3 p372 q372
       cases e372
       replace hx372_0:=bc_ HB.out hx372_0
       replace p372:=eq_true p372
       replace q372:=eq_true q372
       obtain⟨hcz41_0,hcz41_1,hcz41_2,hcz41_3,hcz41_4,hfz41_0,hfz41_1,hfz41_2,hfz41_3,hfz41_4⟩:=cf5_ BK366.out
       obtain⟨Ao42,co42,eo42⟩:=Kd.R_slice HO_3.out
       subst eo42
       have p373:0≤((rd ((rd_T78 l0_4 x4_1).f1) x6_3):Int):=of_decide_eq_true (by assumption)
       have q373:(rd ((rd_T78 l0_4 x4_1).f1) x6_3) < (x3_3.length:Int):=of_decide_eq_true (by assumption)
       obtain⟨ad373,e373,hx373_0⟩:=Kd.at_bool (Kd.R_reads' HO_3.out).2.2 (rd ((rd_T78 l0_4 x4_1).f1) x6_3) p373 q373
       (try rw [← Nbq32.out] at hx373_0)
       cases e373
       replace p373:=eq_true p373
       replace q373:=eq_true q373
       have p38:0≤((rd ((rd_T78 l0_4 x4_1).f1) x6_3):Int):=of_decide_eq_true (by assumption)
       have q38:((rd ((rd_T78 l0_4 x4_1).f1) x6_3):Int) < ((x3_3.length:Int):Int):=of_decide_eq_true (by assumption)
       obtain⟨go38,co38,eo38,gb38,gl38,cl38,HG38⟩:=Kd.R_form HO_3.out (by omega)
       (first|cases eo38|(injection eo38 with ea_ en_ ec_;(first|subst ea_|(injection ea_ with ea_;subst ea_));subst ec_;clear en_))
       have GB38:=Az.mk gb38
       have GG38:=Az.mk HG38
       clear gb38 gl38 HG38
       (first|simp only [add_plain] at hx373_0|skip)
       obtain⟨hx38_0,hf38_0⟩:=Kd.R_celln false HO_3.out ((rd ((rd_T78 l0_4 x4_1).f1) x6_3):Int) p38 q38
       replace p38:=eq_true p38
       replace q38:=eq_true q38
       have HP43:=Kd.R_putg HO_3.out ((rd ((rd_T78 l0_4 x4_1).f1) x6_3):Int) true
       go_wp2_with (first|((with_reducible refine gate_store (t:=4) (p:=61) rfl ?_);refine store_event (t:=4) (p:=61) (v:=?vo_w44) (w1:=(wr.setCell ⟨go38,((rd ((rd_T78 l0_4 x4_1).f1) x6_3):Int).toNat,none⟩ (.bool true))) ?hg ?ho ?hn ?hr ?_;(case ho=>rfl);(case hg=>rfl);(case hn=>rfl);(case hr=>first|(go_simp;done)|(go_simp;rfl));intro w44 hw;have hg:wr.grownBy w44 (some go38):=(by rw [hw];exact HP43.2);have hp_:Kd.R Kd.bool 4 w44 w.heap.size (fun _=>True) (.slice (some ⟨go38,0,none⟩) x3_3.length co42) y374:=(by rw [hw,Ny374.out];exact HP43.1);clear HP43;have n0_:=Az.mk (hp_);have n1_:=Az.mk (blk_grown (g:=gb366) (o:=.cells #[.slice A0_0 l0_0.length c0_0,.slice A0_1 l0_1.length c0_1,.slice A0_2 l0_2.length c0_2,.slice A0_3 l0_3.length c0_3,.slice (some ad370) l0_4.length c0_4] 27 (0,0)) (by(with_reducible repeat (first|refine kN_ ?_ _|refine kD_ ?_|refine kA_ ?_ _));exact BK366.out) hg (Kd.R_ne HO_3.out BK366.out (by decide)));have n2_:=Az.mk (blk_grown (g:=gb371) (o:=.cells #[.int .i64 ((rd_T78 l0_4 x4_1).f0),.slice (some ad372) ((rd_T78 l0_4 x4_1).f1).length c370_1] 78 (0,0)) (by(with_reducible repeat (first|refine kN_ ?_ _|refine kD_ ?_|refine kA_ ?_ _));exact BK371.out) hg (Kd.R_ne HO_3.out BK371.out (by decide)));have n3_:=Az.mk ((by rw [hw];exact bS_ (HB.out) GB38.out:Below w.heap.size w w44));clear HO_3;clear BK366;clear BK371;clear HB;have HO_3:=n0_;have BK366:=n1_;have BK371:=n2_;have HB:=n3_;clear n0_ n1_ n2_ n3_;clear hg hw hp_))
       go_roundg k3
       case measure=>have:=HK1.out;have:=HJ9.out;have:=HK3.out;omega
       case rel=>exact⟨(y374),(wrap64 (x6_3 + 1)),(by first|rfl|(simp;done)|(simp [*];done)|(refine congrArg Value.bool ?_;exact isE_ _)),H',⟨by have:=HK1.out;have:=HJ9.out;have:=HK3.out;omega⟩,⟨by(with_reducible repeat (first|apply Kd.R_alloc|apply Kd.R_drewN|apply Kd.R_drew));exact HO_3.out⟩,⟨by(with_reducible repeat (first|refine kN_ ?_ _|refine kD_ ?_|refine kA_ ?_ _));exact BK366.out⟩,⟨by(with_reducible repeat (first|refine kN_ ?_ _|refine kD_ ?_|refine kA_ ?_ _));exact BK371.out⟩,⟨by repeat (first|(with_reducible first|exact HB.out|apply bA_|apply bN_|apply bD_|refine bS_ ?_ GE366.out|refine bS_ ?_ GE371.out)|exact HB.out)⟩⟩
end Go.Proofs.Ytgdbcogbbghjaaa.Q
