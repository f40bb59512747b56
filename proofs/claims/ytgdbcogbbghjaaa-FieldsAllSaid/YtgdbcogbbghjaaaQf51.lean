import Derived.Test.YtgdbcogbbghjaaaQ0
namespace Go.Proofs.Ytgdbcogbbghjaaa.Q
open Go.RowKit Go.Proofs.YtgdbcogbbghjaaaW.PrintWords Go.Proofs.YtgdbcogbbghjaaaW.PrintLast Go.Proofs.YtgdbcogbbghjaaaW.PrintMore
attribute [local go_sem] max2_int min2_int max_two min_two max_three min_three max_four min_four   -- for this text's walks alone
set_option linter.unusedVariables false
set_option linter.unusedSimpArgs false
def arboristref15_Is.f (l0_0:List ByteArray)(l0_1:List ByteArray)(l0_2:List Int)(l0_3:List (S67))(l0_4:List (S78))(a1:Int):Option (Bool):=if a1 ≥ 0 then(if a1 < (l0_0.length:Int)then(some true)else(if a1 < 0 then(some (decide (a1 ≥ (wrap64 (-(l0_1.length:Int))))))else(some false)))else(if a1 < 0 then(some (decide (a1 ≥ (wrap64 (-(l0_1.length:Int))))))else(some false))
set_option maxHeartbeats 8000000 in
set_option maxRecDepth 100000 in
theorem arboristref15_Is.calls (A0_0:Option Addr)(c0_0:Nat)(l0_0:List ByteArray)(A0_1:Option Addr)(c0_1:Nat)(l0_1:List ByteArray)(A0_2:Option Addr)(c0_2:Nat)(l0_2:List Int)(A0_3:Option Addr)(c0_3:Nat)(l0_3:List (S67))(A0_4:Option Addr)(c0_4:Nat)(l0_4:List (S78))(a1:Int)(r:Bool)(w:World)(hr0_0:Kd.C Kd.string w A0_0 l0_0.length l0_0)(hc0_0:l0_0.length≤c0_0)(hr0_1:Kd.C Kd.string w A0_1 l0_1.length l0_1)(hc0_1:l0_1.length≤c0_1)(hr0_2:Kd.C (Kd.int .i64) w A0_2 l0_2.length l0_2)(hc0_2:l0_2.length≤c0_2)(hr0_3:Kd.C k67 w A0_3 l0_3.length l0_3)(hc0_3:l0_3.length≤c0_3)(hr0_4:Kd.C k78 w A0_4 l0_4.length l0_4)(hc0_4:l0_4.length≤c0_4)(h:arboristref15_Is.f l0_0 l0_1 l0_2 l0_3 l0_4 a1=some r) :
  Calls Try.prog 51 #[.agg #[.slice A0_0 l0_0.length c0_0,.slice A0_1 l0_1.length c0_1,.slice A0_2 l0_2.length c0_2,.slice A0_3 l0_3.length c0_3,.slice A0_4 l0_4.length c0_4],.int .i64 a1] w fun e w'=>e=.returned (.bool r)∧Below w.heap.size w w':=by
 have hu27:=Try.underlying27
 have HR0_0:=Az.mk hr0_0
 have HC0_0:=Az.mk hc0_0
 clear hr0_0 hc0_0
 have HR0_1:=Az.mk hr0_1
 have HC0_1:=Az.mk hc0_1
 clear hr0_1 hc0_1
 have HR0_2:=Az.mk hr0_2
 have HC0_2:=Az.mk hc0_2
 clear hr0_2 hc0_2
 have HR0_3:=Az.mk hr0_3
 have HC0_3:=Az.mk hc0_3
 clear hr0_3 hc0_3
 have HR0_4:=Az.mk hr0_4
 have HC0_4:=Az.mk hc0_4
 clear hr0_4 hc0_4
 have HB:=Az.mk (Below.refl w.heap.size w)
 have H:(if a1 ≥ 0 then(if a1 < (l0_0.length:Int)then(some true)else(if a1 < 0 then(some (decide (a1 ≥ (wrap64 (-(l0_1.length:Int))))))else(some false)))else(if a1 < 0 then(some (decide (a1 ≥ (wrap64 (-(l0_1.length:Int))))))else(some false)))=some r:=h
 clear h
 by_cases c3:a1 ≥ 0
 ·rw [if_pos c3] at H
  have c3b0:=decide_eq_true c3
  clear c3
  by_cases c4:a1 < (l0_0.length:Int)
  ·rw [if_pos c4] at H
   have c4b0:=decide_eq_true c4
   clear c4
   obtain rfl:=Option.some.inj H
   go_enter Try.func51,Try.ntmps51
   go_wp2_with (first|((with_reducible refine gate_dst (N:=2) rfl ?_);(try (refine gate_guard (by rfl) ?_;dsimp only));refine box_event ?hg (N:=2) ?hd (cs:=#[.slice A0_0 l0_0.length c0_0,.slice A0_1 l0_1.length c0_1,.slice A0_2 l0_2.length c0_2,.slice A0_3 l0_3.length c0_3,.slice A0_4 l0_4.length c0_4]) (t:=27) ?hr ?_;(case hd=>rfl);(case hg=>rfl);(case hr=>first|(go_simp;done)|(go_simp;rfl));intro gb352 hg w5 hbox hb;have n0_:=Az.mk (bT_ HB.out hb);have n1_:=Az.mk (hbox);have n2_:=Az.mk ((szl_ HB.out hg));have n3_:=Az.mk ((szl_ HB.out hg));clear HB;have HB:=n0_;have BK352:=n1_;have GW352:=n2_;have GE352:=n3_;clear n0_ n1_ n2_ n3_;clear hb hbox hg;obtain⟨hcz6_0,hcz6_1,hcz6_2,hcz6_3,hcz6_4,hfz6_0,hfz6_1,hfz6_2,hfz6_3,hfz6_4⟩:=cf5_ BK352.out))
   go_ret
   exact⟨by first|rfl|(simp [errW_none,errW_some] <;> rfl)|(simp [*,errW_none,errW_some] <;> rfl),by repeat (first|(with_reducible first|exact HB.out|apply bA_|apply bN_|apply bD_|refine bS_ ?_ GE352.out)|exact HB.out)⟩
  rw [if_neg c4] at H
  have c4b0:=decide_eq_false c4
  clear c4
  by_cases c7:a1 < 0
  ·rw [if_pos c7] at H
   have c7b0:=decide_eq_true c7
   clear c7
   obtain rfl:=Option.some.inj H
   go_enter Try.func51,Try.ntmps51
   go_wp2_with (first|((with_reducible refine gate_dst (N:=2) rfl ?_);(try (refine gate_guard (by rfl) ?_;dsimp only));refine box_event ?hg (N:=2) ?hd (cs:=#[.slice A0_0 l0_0.length c0_0,.slice A0_1 l0_1.length c0_1,.slice A0_2 l0_2.length c0_2,.slice A0_3 l0_3.length c0_3,.slice A0_4 l0_4.length c0_4]) (t:=27) ?hr ?_;(case hd=>rfl);(case hg=>rfl);(case hr=>first|(go_simp;done)|(go_simp;rfl));intro gb352 hg w8 hbox hb;have n0_:=Az.mk (bT_ HB.out hb);have n1_:=Az.mk (hbox);have n2_:=Az.mk ((szl_ HB.out hg));have n3_:=Az.mk ((szl_ HB.out hg));clear HB;have HB:=n0_;have BK352:=n1_;have GW352:=n2_;have GE352:=n3_;clear n0_ n1_ n2_ n3_;clear hb hbox hg;obtain⟨hcz9_0,hcz9_1,hcz9_2,hcz9_3,hcz9_4,hfz9_0,hfz9_1,hfz9_2,hfz9_3,hfz9_4⟩:=cf5_ BK352.out))
   go_ret
   exact⟨by first|rfl|(simp [errW_none,errW_some] <;> rfl)|(simp [*,errW_none,errW_some] <;> rfl),by repeat (first|(with_reducible first|exact HB.out|apply bA_|apply bN_|apply bD_|refine bS_ ?_ GE352.out)|exact HB.out)⟩
  rw [if_neg c7] at H
  have c7b0:=decide_eq_false c7
  clear c7
  obtain rfl:=Option.some.inj H
  go_enter Try.func51,Try.ntmps51
  go_wp2_with (first|((with_reducible refine gate_dst (N:=2) rfl ?_);(try (refine gate_guard (by rfl) ?_;dsimp only));refine box_event ?hg (N:=2) ?hd (cs:=#[.slice A0_0 l0_0.length c0_0,.slice A0_1 l0_1.length c0_1,.slice A0_2 l0_2.length c0_2,.slice A0_3 l0_3.length c0_3,.slice A0_4 l0_4.length c0_4]) (t:=27) ?hr ?_;(case hd=>rfl);(case hg=>rfl);(case hr=>first|(go_simp;done)|(go_simp;rfl));intro gb352 hg w10 hbox hb;have n0_:=Az.mk (bT_ HB.out hb);have n1_:=Az.mk (hbox);have n2_:=Az.mk ((szl_ HB.out hg));have n3_:=Az.mk ((szl_ HB.out hg));clear HB;have HB:=n0_;have BK352:=n1_;have GW352:=n2_;have GE352:=n3_;clear n0_ n1_ n2_ n3_;clear hb hbox hg;obtain⟨hcz11_0,hcz11_1,hcz11_2,hcz11_3,hcz11_4,hfz11_0,hfz11_1,hfz11_2,hfz11_3,hfz11_4⟩:=cf5_ BK352.out))
  go_ret
  exact⟨by first|rfl|(simp [errW_none,errW_some] <;> rfl)|(simp [*,errW_none,errW_some] <;> rfl),by repeat (first|(with_reducible first|exact HB.out|apply bA_|apply bN_|apply bD_|refine bS_ ?_ GE352.out)|exact HB.out)⟩
 rw [if_neg c3] at H
 have c3b0:=decide_eq_false c3
 clear c3
 by_cases c12:a1 < 0
 ·rw [if_pos c12] at H
  have c12b0:=decide_eq_true c12
  clear c12
  obtain rfl:=Option.some.inj H
  go_enter Try.func51,Try.ntmps51
  go_wp2_with (first|((with_reducible refine gate_dst (N:=2) rfl ?_);(try (refine gate_guard (by rfl) ?_;dsimp only));refine box_event ?hg (N:=2) ?hd (cs:=#[.slice A0_0 l0_0.length c0_0,.slice A0_1 l0_1.length c0_1,.slice A0_2 l0_2.length c0_2,.slice A0_3 l0_3.length c0_3,.slice A0_4 l0_4.length c0_4]) (t:=27) ?hr ?_;(case hd=>rfl);(case hg=>rfl);(case hr=>first|(go_simp;done)|(go_simp;rfl));intro gb352 hg w13 hbox hb;have n0_:=Az.mk (bT_ HB.out hb);have n1_:=Az.mk (hbox);have n2_:=Az.mk ((szl_ HB.out hg));have n3_:=Az.mk ((szl_ HB.out hg));clear HB;have HB:=n0_;have BK352:=n1_;have GW352:=n2_;have GE352:=n3_;clear n0_ n1_ n2_ n3_;clear hb hbox hg;obtain⟨hcz14_0,hcz14_1,hcz14_2,hcz14_3,hcz14_4,hfz14_0,hfz14_1,hfz14_2,hfz14_3,hfz14_4⟩:=cf5_ BK352.out))
  go_ret
  exact⟨by first|rfl|(simp [errW_none,errW_some] <;> rfl)|(simp [*,errW_none,errW_some] <;> rfl),by repeat (first|(with_reducible first|exact HB.out|apply bA_|apply bN_|apply bD_|refine bS_ ?_ GE352.out)|exact HB.out)⟩
 rw [if_neg c12] at H
 have c12b0:=decide_eq_false c12
 clear c12
 obtain rfl:=Option.some.inj H
 go_enter Try.func51,Try.ntmps51
 go_wp2_with (first|((with_reducible refine gate_dst (N:=2) rfl ?_);(try (refine gate_guard (by rfl) ?_;dsimp only));refine box_event ?hg (N:=2) ?hd (cs:=#[.slice A0_0 l0_0.length c0_0,.slice A0_1 l0_1.length c0_1,.slice A0_2 l0_2.length c0_2,.slice A0_3 l0_3.length c0_3,.slice A0_4 l0_4.length c0_4]) (t:=27) ?hr ?_;(case hd=>rfl);(case hg=>rfl);(case hr=>first|(go_simp;done)|(go_simp;rfl));intro gb352 hg w15 hbox hb;have n0_:=Az.mk (bT_ HB.out hb);have n1_:=Az.mk (hbox);have n2_:=Az.mk ((szl_ HB.out hg));have n3_:=Az.mk ((szl_ HB.out hg));clear HB;have HB:=n0_;have BK352:=n1_;have GW352:=n2_;have GE352:=n3_;clear n0_ n1_ n2_ n3_;clear hb hbox hg))
 go_ret
 exact⟨by first|rfl|(simp [errW_none,errW_some] <;> rfl)|(simp [*,errW_none,errW_some] <;> rfl),by repeat (first|(with_reducible first|exact HB.out|apply bA_|apply bN_|apply bD_|refine bS_ ?_ GE352.out)|exact HB.out)⟩
end Go.Proofs.Ytgdbcogbbghjaaa.Q
