import Derived.Test.YtgdbcogbbghjaaaQ0
namespace Go.Proofs.Ytgdbcogbbghjaaa.Q
open Go.RowKit Go.Proofs.YtgdbcogbbghjaaaW.PrintWords Go.Proofs.YtgdbcogbbghjaaaW.PrintLast Go.Proofs.YtgdbcogbbghjaaaW.PrintMore
attribute [local go_sem] max2_int min2_int max_two min_two max_three min_three max_four min_four   -- for this text's walks alone
set_option linter.unusedVariables false
set_option linter.unusedSimpArgs false
def fields_dissolves.f (l0_0:List ByteArray)(l0_1:List ByteArray)(l0_2:List Int)(l0_3:List (S67))(l0_4:List (S78))(a1_0:Int)(a1_1:Int)(a1_2:Int)(a1_3:Int)(l1_4:List (S53))(a1_5:ByteArray)(l1_6:List (S32)):Option (Bool):=if a1_0 < 0 then(if (wrap64 ((-1) - a1_0)) ≥ 0 then(if (wrap64 ((-1) - a1_0)) < (l0_1.length:Int)then(if (wrap64 ((-1) - a1_0)) < (l0_2.length:Int)then(if 0≤(wrap64 ((-1) - a1_0))then(some ((rd l0_2 (wrap64 ((-1) - a1_0))) != 0))else(none))else(some false))else(some false))else(some false))else(some false)
set_option maxHeartbeats 8000000 in
set_option maxRecDepth 100000 in
theorem fields_dissolves.calls (A0_0:Option Addr)(c0_0:Nat)(l0_0:List ByteArray)(A0_1:Option Addr)(c0_1:Nat)(l0_1:List ByteArray)(A0_2:Option Addr)(c0_2:Nat)(l0_2:List Int)(A0_3:Option Addr)(c0_3:Nat)(l0_3:List (S67))(A0_4:Option Addr)(c0_4:Nat)(l0_4:List (S78))(a1_0:Int)(a1_1:Int)(a1_2:Int)(a1_3:Int)(A1_4:Option Addr)(c1_4:Nat)(l1_4:List (S53))(a1_5:ByteArray)(A1_6:Option Addr)(c1_6:Nat)(l1_6:List (S32))(r:Bool)(w:World)(hr0_0:Kd.C Kd.string w A0_0 l0_0.length l0_0)(hc0_0:l0_0.length≤c0_0)(hr0_1:Kd.C Kd.string w A0_1 l0_1.length l0_1)(hc0_1:l0_1.length≤c0_1)(hr0_2:Kd.C (Kd.int .i64) w A0_2 l0_2.length l0_2)(hc0_2:l0_2.length≤c0_2)(hr0_3:Kd.C k67 w A0_3 l0_3.length l0_3)(hc0_3:l0_3.length≤c0_3)(hr0_4:Kd.C k78 w A0_4 l0_4.length l0_4)(hc0_4:l0_4.length≤c0_4)(hr1_4:Kd.C k53 w A1_4 l1_4.length l1_4)(hc1_4:l1_4.length≤c1_4)(hr1_6:Kd.C k32 w A1_6 l1_6.length l1_6)(hc1_6:l1_6.length≤c1_6)(h:fields_dissolves.f l0_0 l0_1 l0_2 l0_3 l0_4 a1_0 a1_1 a1_2 a1_3 l1_4 a1_5 l1_6=some r) :
  Calls Try.prog 44 #[.agg #[.slice A0_0 l0_0.length c0_0,.slice A0_1 l0_1.length c0_1,.slice A0_2 l0_2.length c0_2,.slice A0_3 l0_3.length c0_3,.slice A0_4 l0_4.length c0_4],.agg #[.int .i64 a1_0,.int .i64 a1_1,.int .i64 a1_2,.int .i64 a1_3,.slice A1_4 l1_4.length c1_4,.string a1_5,.slice A1_6 l1_6.length c1_6]] w fun e w'=>e=.returned (.bool r)∧Below w.heap.size w w':=by
 have hu27:=Try.underlying27
 have hu32:=Try.underlying32
 have HR0_0:=Az.mk hr0_0
 have HC0_0:=Az.mk hc0_0
 clear hr0_0 hc0_0
 have HR0_1:=Az.mk hr0_1
 have HC0_1:=Az.mk hc0_1
 clear hr0_1 hc0_1
 have HR0_2:=Az.mk hr0_2
 have HC0_2:=Az.mk hc0_2
 clear hr0_2 hc0_2
 have HR0_3:=Az.mk hr0_3
 have HC0_3:=Az.mk hc0_3
 clear hr0_3 hc0_3
 have HR0_4:=Az.mk hr0_4
 have HC0_4:=Az.mk hc0_4
 clear hr0_4 hc0_4
 have HR1_4:=Az.mk hr1_4
 have HC1_4:=Az.mk hc1_4
 clear hr1_4 hc1_4
 have HR1_6:=Az.mk hr1_6
 have HC1_6:=Az.mk hc1_6
 clear hr1_6 hc1_6
 have HB:=Az.mk (Below.refl w.heap.size w)
 have H:(if a1_0 < 0 then(if (wrap64 ((-1) - a1_0)) ≥ 0 then(if (wrap64 ((-1) - a1_0)) < (l0_1.length:Int)then(if (wrap64 ((-1) - a1_0)) < (l0_2.length:Int)then(if 0≤(wrap64 ((-1) - a1_0))then(some ((rd l0_2 (wrap64 ((-1) - a1_0))) != 0))else(none))else(some false))else(some false))else(some false))else(some false))=some r:=h
 clear h
 by_cases c3:a1_0 < 0
 rotate_left
 ·rw [if_neg c3] at H
  have c3b0:=decide_eq_false c3
  clear c3
  obtain rfl:=Option.some.inj H
  go_enter Try.func44,Try.ntmps44
  go_wp2_with (first|((with_reducible refine gate_dst (N:=2) rfl ?_);(try (refine gate_guard (by rfl) ?_;dsimp only));refine box_event ?hg (N:=2) ?hd (cs:=#[.slice A0_0 l0_0.length c0_0,.slice A0_1 l0_1.length c0_1,.slice A0_2 l0_2.length c0_2,.slice A0_3 l0_3.length c0_3,.slice A0_4 l0_4.length c0_4]) (t:=27) ?hr ?_;(case hd=>rfl);(case hg=>rfl);(case hr=>first|(go_simp;done)|(go_simp;rfl));intro gb451 hg w28 hbox hb;have n0_:=Az.mk (bT_ HB.out hb);have n1_:=Az.mk (hbox);have n2_:=Az.mk ((szl_ HB.out hg));have n3_:=Az.mk ((szl_ HB.out hg));clear HB;have HB:=n0_;have BK451:=n1_;have GW451:=n2_;have GE451:=n3_;clear n0_ n1_ n2_ n3_;clear hb hbox hg)|((with_reducible refine gate_dst (N:=3) rfl ?_);(try (refine gate_guard (by rfl) ?_;dsimp only));refine box_event ?hg (N:=3) ?hd (cs:=#[.int .i64 a1_0,.int .i64 a1_1,.int .i64 a1_2,.int .i64 a1_3,.slice A1_4 l1_4.length c1_4,.string a1_5,.slice A1_6 l1_6.length c1_6]) (t:=32) ?hr ?_;(case hd=>rfl);(case hg=>rfl);(case hr=>first|(go_simp;done)|(go_simp;rfl));intro gb452 hg w29 hbox hb;have n0_:=Az.mk (kB_ BK451.out hb);have n1_:=Az.mk (bT_ HB.out hb);have n2_:=Az.mk (hbox);have n3_:=Az.mk ((szl_ HB.out hg));have n4_:=Az.mk ((szl_ HB.out hg));have n5_:=Az.mk ((nel_ BK451.out hg));have n6_:=Az.mk ((ner_ BK451.out hg));clear BK451;clear HB;have BK451:=n0_;have HB:=n1_;have BK452:=n2_;have GW452:=n3_;have GE452:=n4_;have NB451_452:=n5_;have NB452_451:=n6_;clear n0_ n1_ n2_ n3_ n4_ n5_ n6_;clear hb hbox hg;have hnb30:=NB452_451.out;have hnc30:=NB451_452.out;obtain⟨hcz31_0,hcz31_1,hcz31_2,hcz31_3,hcz31_4,hcz31_5,hcz31_6,hfz31_0,hfz31_1,hfz31_2,hfz31_3,hfz31_4,hfz31_5,hfz31_6⟩:=cf7_ BK452.out))
  go_ret
  exact⟨by first|rfl|(simp [errW_none,errW_some] <;> rfl)|(simp [*,errW_none,errW_some] <;> rfl),by repeat (first|(with_reducible first|exact HB.out|apply bA_|apply bN_|apply bD_|refine bS_ ?_ GE451.out|refine bS_ ?_ GE452.out)|exact HB.out)⟩
 rw [if_pos c3] at H
 have c3b0:=decide_eq_true c3
 clear c3
 by_cases c4:(wrap64 ((-1) - a1_0)) ≥ 0
 rotate_left
 ·rw [if_neg c4] at H
  have c4b0:=decide_eq_false c4
  clear c4
  obtain rfl:=Option.some.inj H
  go_enter Try.func44,Try.ntmps44
  go_wp2_with (first|((with_reducible refine gate_dst (N:=2) rfl ?_);(try (refine gate_guard (by rfl) ?_;dsimp only));refine box_event ?hg (N:=2) ?hd (cs:=#[.slice A0_0 l0_0.length c0_0,.slice A0_1 l0_1.length c0_1,.slice A0_2 l0_2.length c0_2,.slice A0_3 l0_3.length c0_3,.slice A0_4 l0_4.length c0_4]) (t:=27) ?hr ?_;(case hd=>rfl);(case hg=>rfl);(case hr=>first|(go_simp;done)|(go_simp;rfl));intro gb451 hg w24 hbox hb;have n0_:=Az.mk (bT_ HB.out hb);have n1_:=Az.mk (hbox);have n2_:=Az.mk ((szl_ HB.out hg));have n3_:=Az.mk ((szl_ HB.out hg));clear HB;have HB:=n0_;have BK451:=n1_;have GW451:=n2_;have GE451:=n3_;clear n0_ n1_ n2_ n3_;clear hb hbox hg)|((with_reducible refine gate_dst (N:=3) rfl ?_);(try (refine gate_guard (by rfl) ?_;dsimp only));refine box_event ?hg (N:=3) ?hd (cs:=#[.int .i64 a1_0,.int .i64 a1_1,.int .i64 a1_2,.int .i64 a1_3,.slice A1_4 l1_4.length c1_4,.string a1_5,.slice A1_6 l1_6.length c1_6]) (t:=32) ?hr ?_;(case hd=>rfl);(case hg=>rfl);(case hr=>first|(go_simp;done)|(go_simp;rfl));intro gb452 hg w25 hbox hb;have n0_:=Az.mk (kB_ BK451.out hb);have n1_:=Az.mk (bT_ HB.out hb);have n2_:=Az.mk (hbox);have n3_:=Az.mk ((szl_ HB.out hg));have n4_:=Az.mk ((szl_ HB.out hg));have n5_:=Az.mk ((nel_ BK451.out hg));have n6_:=Az.mk ((ner_ BK451.out hg));clear BK451;clear HB;have BK451:=n0_;have HB:=n1_;have BK452:=n2_;have GW452:=n3_;have GE452:=n4_;have NB451_452:=n5_;have NB452_451:=n6_;clear n0_ n1_ n2_ n3_ n4_ n5_ n6_;clear hb hbox hg;have hnb26:=NB452_451.out;have hnc26:=NB451_452.out;obtain⟨hcz27_0,hcz27_1,hcz27_2,hcz27_3,hcz27_4,hcz27_5,hcz27_6,hfz27_0,hfz27_1,hfz27_2,hfz27_3,hfz27_4,hfz27_5,hfz27_6⟩:=cf7_ BK452.out))
  go_ret
  exact⟨by first|rfl|(simp [errW_none,errW_some] <;> rfl)|(simp [*,errW_none,errW_some] <;> rfl),by repeat (first|(with_reducible first|exact HB.out|apply bA_|apply bN_|apply bD_|refine bS_ ?_ GE451.out|refine bS_ ?_ GE452.out)|exact HB.out)⟩
 rw [if_pos c4] at H
 have c4b0:=decide_eq_true c4
 clear c4
 by_cases c5:(wrap64 ((-1) - a1_0)) < (l0_1.length:Int)
 rotate_left
 ·rw [if_neg c5] at H
  have c5b0:=decide_eq_false c5
  clear c5
  obtain rfl:=Option.some.inj H
  go_enter Try.func44,Try.ntmps44
  go_wp2_with (first|((with_reducible refine gate_dst (N:=2) rfl ?_);(try (refine gate_guard (by rfl) ?_;dsimp only));refine box_event ?hg (N:=2) ?hd (cs:=#[.slice A0_0 l0_0.length c0_0,.slice A0_1 l0_1.length c0_1,.slice A0_2 l0_2.length c0_2,.slice A0_3 l0_3.length c0_3,.slice A0_4 l0_4.length c0_4]) (t:=27) ?hr ?_;(case hd=>rfl);(case hg=>rfl);(case hr=>first|(go_simp;done)|(go_simp;rfl));intro gb451 hg w19 hbox hb;have n0_:=Az.mk (bT_ HB.out hb);have n1_:=Az.mk (hbox);have n2_:=Az.mk ((szl_ HB.out hg));have n3_:=Az.mk ((szl_ HB.out hg));clear HB;have HB:=n0_;have BK451:=n1_;have GW451:=n2_;have GE451:=n3_;clear n0_ n1_ n2_ n3_;clear hb hbox hg)|((with_reducible refine gate_dst (N:=3) rfl ?_);(try (refine gate_guard (by rfl) ?_;dsimp only));refine box_event ?hg (N:=3) ?hd (cs:=#[.int .i64 a1_0,.int .i64 a1_1,.int .i64 a1_2,.int .i64 a1_3,.slice A1_4 l1_4.length c1_4,.string a1_5,.slice A1_6 l1_6.length c1_6]) (t:=32) ?hr ?_;(case hd=>rfl);(case hg=>rfl);(case hr=>first|(go_simp;done)|(go_simp;rfl));intro gb452 hg w20 hbox hb;have n0_:=Az.mk (kB_ BK451.out hb);have n1_:=Az.mk (bT_ HB.out hb);have n2_:=Az.mk (hbox);have n3_:=Az.mk ((szl_ HB.out hg));have n4_:=Az.mk ((szl_ HB.out hg));have n5_:=Az.mk ((nel_ BK451.out hg));have n6_:=Az.mk ((ner_ BK451.out hg));clear BK451;clear HB;have BK451:=n0_;have HB:=n1_;have BK452:=n2_;have GW452:=n3_;have GE452:=n4_;have NB451_452:=n5_;have NB452_451:=n6_;clear n0_ n1_ n2_ n3_ n4_ n5_ n6_;clear hb hbox hg;have hnb21:=NB452_451.out;have hnc21:=NB451_452.out;obtain⟨hcz22_0,hcz22_1,hcz22_2,hcz22_3,hcz22_4,hcz22_5,hcz22_6,hfz22_0,hfz22_1,hfz22_2,hfz22_3,hfz22_4,hfz22_5,hfz22_6⟩:=cf7_ BK452.out;obtain⟨hcz23_0,hcz23_1,hcz23_2,hcz23_3,hcz23_4,hfz23_0,hfz23_1,hfz23_2,hfz23_3,hfz23_4⟩:=cf5_ BK451.out))
  go_ret
  exact⟨by first|rfl|(simp [errW_none,errW_some] <;> rfl)|(simp [*,errW_none,errW_some] <;> rfl),by repeat (first|(with_reducible first|exact HB.out|apply bA_|apply bN_|apply bD_|refine bS_ ?_ GE451.out|refine bS_ ?_ GE452.out)|exact HB.out)⟩
 rw [if_pos c5] at H
 have c5b0:=decide_eq_true c5
 clear c5
 by_cases c6:(wrap64 ((-1) - a1_0)) < (l0_2.length:Int)
 ·rw [if_pos c6] at H
  have c6b0:=decide_eq_true c6
  clear c6
  obtain⟨ji7,hji7⟩:∃ j_:Int,(wrap64 ((-1) - a1_0))=j_:=⟨_,rfl⟩
  replace H:(if 0≤(ji7)then(some ((rd l0_2 (ji7)) != 0))else(none))=some r:=by first|(rw [hji7] at H;exact H)|(simp only [hji7] at H ⊢;exact H)
  (try rw [hji7] at c4b0)
  (try rw [hji7] at c5b0)
  (try rw [hji7] at c6b0)
  have hji7w:(IntKind.i64.wrap ((-1) - a1_0))=ji7:=(i64_w _).trans hji7
  by_cases c8:0≤(ji7)
  ·rw [if_pos c8] at H
   have c8b0:=decide_eq_true c8
   clear c8
   obtain rfl:=Option.some.inj H
   go_enter Try.func44,Try.ntmps44
   go_wp2_with (first|((with_reducible refine gate_dst (N:=2) rfl ?_);(try (refine gate_guard (by rfl) ?_;dsimp only));refine box_event ?hg (N:=2) ?hd (cs:=#[.slice A0_0 l0_0.length c0_0,.slice A0_1 l0_1.length c0_1,.slice A0_2 l0_2.length c0_2,.slice A0_3 l0_3.length c0_3,.slice A0_4 l0_4.length c0_4]) (t:=27) ?hr ?_;(case hd=>rfl);(case hg=>rfl);(case hr=>first|(go_simp;done)|(go_simp;rfl));intro gb451 hg w9 hbox hb;have n0_:=Az.mk (bT_ HB.out hb);have n1_:=Az.mk (hbox);have n2_:=Az.mk ((szl_ HB.out hg));have n3_:=Az.mk ((szl_ HB.out hg));clear HB;have HB:=n0_;have BK451:=n1_;have GW451:=n2_;have GE451:=n3_;clear n0_ n1_ n2_ n3_;clear hb hbox hg)|((with_reducible refine gate_dst (N:=3) rfl ?_);(try (refine gate_guard (by rfl) ?_;dsimp only));refine box_event ?hg (N:=3) ?hd (cs:=#[.int .i64 a1_0,.int .i64 a1_1,.int .i64 a1_2,.int .i64 a1_3,.slice A1_4 l1_4.length c1_4,.string a1_5,.slice A1_6 l1_6.length c1_6]) (t:=32) ?hr ?_;(case hd=>rfl);(case hg=>rfl);(case hr=>first|(go_simp;done)|(go_simp;rfl));intro gb452 hg w10 hbox hb;have n0_:=Az.mk (kB_ BK451.out hb);have n1_:=Az.mk (bT_ HB.out hb);have n2_:=Az.mk (hbox);have n3_:=Az.mk ((szl_ HB.out hg));have n4_:=Az.mk ((szl_ HB.out hg));have n5_:=Az.mk ((nel_ BK451.out hg));have n6_:=Az.mk ((ner_ BK451.out hg));clear BK451;clear HB;have BK451:=n0_;have HB:=n1_;have BK452:=n2_;have GW452:=n3_;have GE452:=n4_;have NB451_452:=n5_;have NB452_451:=n6_;clear n0_ n1_ n2_ n3_ n4_ n5_ n6_;clear hb hbox hg;have hnb11:=NB452_451.out;have hnc11:=NB451_452.out;obtain⟨hcz12_0,hcz12_1,hcz12_2,hcz12_3,hcz12_4,hcz12_5,hcz12_6,hfz12_0,hfz12_1,hfz12_2,hfz12_3,hfz12_4,hfz12_5,hfz12_6⟩:=cf7_ BK452.out;obtain⟨hcz13_0,hcz13_1,hcz13_2,hcz13_3,hcz13_4,hfz13_0,hfz13_1,hfz13_2,hfz13_3,hfz13_4⟩:=cf5_ BK451.out;have p453:0≤((ji7):Int):=of_decide_eq_true (by assumption);have q453:(ji7) < (l0_2.length:Int):=of_decide_eq_true (by assumption);obtain⟨ad453,e453,hx453_0⟩:=Kd.at_int HR0_2.out (ji7) p453 q453;cases e453;replace hx453_0:=bc_ HB.out hx453_0;replace p453:=eq_true p453;replace q453:=eq_true q453))
   go_ret
   exact⟨by first|rfl|(simp [errW_none,errW_some] <;> rfl)|(simp only [← hji7];first|rfl|(simp [errW_none,errW_some] <;> rfl))|(simp [*,errW_none,errW_some] <;> rfl),by repeat (first|(with_reducible first|exact HB.out|apply bA_|apply bN_|apply bD_|refine bS_ ?_ GE451.out|refine bS_ ?_ GE452.out)|exact HB.out)⟩
  rw [if_neg c8] at H
  exact absurd H (by simp)
 rw [if_neg c6] at H
 have c6b0:=decide_eq_false c6
 clear c6
 obtain rfl:=Option.some.inj H
 go_enter Try.func44,Try.ntmps44
 go_wp2_with (first|((with_reducible refine gate_dst (N:=2) rfl ?_);(try (refine gate_guard (by rfl) ?_;dsimp only));refine box_event ?hg (N:=2) ?hd (cs:=#[.slice A0_0 l0_0.length c0_0,.slice A0_1 l0_1.length c0_1,.slice A0_2 l0_2.length c0_2,.slice A0_3 l0_3.length c0_3,.slice A0_4 l0_4.length c0_4]) (t:=27) ?hr ?_;(case hd=>rfl);(case hg=>rfl);(case hr=>first|(go_simp;done)|(go_simp;rfl));intro gb451 hg w14 hbox hb;have n0_:=Az.mk (bT_ HB.out hb);have n1_:=Az.mk (hbox);have n2_:=Az.mk ((szl_ HB.out hg));have n3_:=Az.mk ((szl_ HB.out hg));clear HB;have HB:=n0_;have BK451:=n1_;have GW451:=n2_;have GE451:=n3_;clear n0_ n1_ n2_ n3_;clear hb hbox hg)|((with_reducible refine gate_dst (N:=3) rfl ?_);(try (refine gate_guard (by rfl) ?_;dsimp only));refine box_event ?hg (N:=3) ?hd (cs:=#[.int .i64 a1_0,.int .i64 a1_1,.int .i64 a1_2,.int .i64 a1_3,.slice A1_4 l1_4.length c1_4,.string a1_5,.slice A1_6 l1_6.length c1_6]) (t:=32) ?hr ?_;(case hd=>rfl);(case hg=>rfl);(case hr=>first|(go_simp;done)|(go_simp;rfl));intro gb452 hg w15 hbox hb;have n0_:=Az.mk (kB_ BK451.out hb);have n1_:=Az.mk (bT_ HB.out hb);have n2_:=Az.mk (hbox);have n3_:=Az.mk ((szl_ HB.out hg));have n4_:=Az.mk ((szl_ HB.out hg));have n5_:=Az.mk ((nel_ BK451.out hg));have n6_:=Az.mk ((ner_ BK451.out hg));clear BK451;clear HB;have BK451:=n0_;have HB:=n1_;have BK452:=n2_;have GW452:=n3_;have GE452:=n4_;have NB451_452:=n5_;have NB452_451:=n6_;clear n0_ n1_ n2_ n3_ n4_ n5_ n6_;clear hb hbox hg;have hnb16:=NB452_451.out;have hnc16:=NB451_452.out;obtain⟨hcz17_0,hcz17_1,hcz17_2,hcz17_3,hcz17_4,hcz17_5,hcz17_6,hfz17_0,hfz17_1,hfz17_2,hfz17_3,hfz17_4,hfz17_5,hfz17_6⟩:=cf7_ BK452.out;obtain⟨hcz18_0,hcz18_1,hcz18_2,hcz18_3,hcz18_4,hfz18_0,hfz18_1,hfz18_2,hfz18_3,hfz18_4⟩:=cf5_ BK451.out))
 go_ret
 exact⟨by first|rfl|(simp [errW_none,errW_some] <;> rfl)|(simp [*,errW_none,errW_some] <;> rfl),by repeat (first|(with_reducible first|exact HB.out|apply bA_|apply bN_|apply bD_|refine bS_ ?_ GE451.out|refine bS_ ?_ GE452.out)|exact HB.out)⟩
end Go.Proofs.Ytgdbcogbbghjaaa.Q
