import Derived.Test.YtgdbcogbbghjaaaQ0
import Derived.Test.YtgdbcogbbghjaaaQf28
namespace Go.Proofs.Ytgdbcogbbghjaaa.Q
open Go.RowKit Go.Proofs.YtgdbcogbbghjaaaW.PrintWords Go.Proofs.YtgdbcogbbghjaaaW.PrintLast Go.Proofs.YtgdbcogbbghjaaaW.PrintMore
attribute [local go_sem] max2_int min2_int max_two min_two max_three min_three max_four min_four   -- for this text's walks alone
set_option linter.unusedVariables false
set_option linter.unusedSimpArgs false
def arboristlaw46_fewGram.f (k:Nat)(l0_0:List ByteArray)(l0_1:List ByteArray)(l0_2:List Int)(l0_3:List (S67))(l0_4:List (S78)):Option (Bool):=(arboristlaw17_Few.f k l0_0 l0_1 l0_2 l0_3 l0_4).bind fun t106=>(if t106=true then(some (decide ((l0_2.length:Int) < 1000)))else(some false))
set_option maxHeartbeats 8000000 in
set_option maxRecDepth 100000 in
theorem arboristlaw46_fewGram.calls (k:Nat)(A0_0:Option Addr)(c0_0:Nat)(l0_0:List ByteArray)(A0_1:Option Addr)(c0_1:Nat)(l0_1:List ByteArray)(A0_2:Option Addr)(c0_2:Nat)(l0_2:List Int)(A0_3:Option Addr)(c0_3:Nat)(l0_3:List (S67))(A0_4:Option Addr)(c0_4:Nat)(l0_4:List (S78))(r:Bool)(w:World)(hr0_0:Kd.C Kd.string w A0_0 l0_0.length l0_0)(hc0_0:l0_0.length≤c0_0)(hr0_1:Kd.C Kd.string w A0_1 l0_1.length l0_1)(hc0_1:l0_1.length≤c0_1)(hr0_2:Kd.C (Kd.int .i64) w A0_2 l0_2.length l0_2)(hc0_2:l0_2.length≤c0_2)(hr0_3:Kd.C k67 w A0_3 l0_3.length l0_3)(hc0_3:l0_3.length≤c0_3)(hr0_4:Kd.C k78 w A0_4 l0_4.length l0_4)(hc0_4:l0_4.length≤c0_4)(h:arboristlaw46_fewGram.f k l0_0 l0_1 l0_2 l0_3 l0_4=some r) :
  Calls Try.prog 8 #[.agg #[.slice A0_0 l0_0.length c0_0,.slice A0_1 l0_1.length c0_1,.slice A0_2 l0_2.length c0_2,.slice A0_3 l0_3.length c0_3,.slice A0_4 l0_4.length c0_4]] w fun e w'=>e=.returned (.bool r)∧Below w.heap.size w w':=by
 have hu27:=Try.underlying27
 have HR0_0:=Az.mk hr0_0
 have HC0_0:=Az.mk hc0_0
 clear hr0_0 hc0_0
 have HR0_1:=Az.mk hr0_1
 have HC0_1:=Az.mk hc0_1
 clear hr0_1 hc0_1
 have HR0_2:=Az.mk hr0_2
 have HC0_2:=Az.mk hc0_2
 clear hr0_2 hc0_2
 have HR0_3:=Az.mk hr0_3
 have HC0_3:=Az.mk hc0_3
 clear hr0_3 hc0_3
 have HR0_4:=Az.mk hr0_4
 have HC0_4:=Az.mk hc0_4
 clear hr0_4 hc0_4
 have HB:=Az.mk (Below.refl w.heap.size w)
 have H:((arboristlaw17_Few.f k l0_0 l0_1 l0_2 l0_3 l0_4).bind fun t106=>(if t106=true then(some (decide ((l0_2.length:Int) < 1000)))else(some false)))=some r:=h
 clear h
 replace H:=Option.bind_eq_some_iff.mp H
 obtain⟨t106,A20,H⟩:=H
 replace H:(if t106=true then(some (decide ((l0_2.length:Int) < 1000)))else(some false))=some r:=H
 have A2:=Az.mk A20
 clear A20
 by_cases c3:t106=true
 ·subst c3
  have H1:(some (decide ((l0_2.length:Int) < 1000)))=some r:=by rw [if_pos rfl] at H;exact H
  clear H
  have H:=H1
  clear H1
  obtain rfl:=Option.some.inj H
  go_enter Try.func8,Try.ntmps8
  go_wp2_with (first|((with_reducible refine gate_dst (N:=1) rfl ?_);(try (refine gate_guard (by rfl) ?_;dsimp only));refine box_event ?hg (N:=1) ?hd (cs:=#[.slice A0_0 l0_0.length c0_0,.slice A0_1 l0_1.length c0_1,.slice A0_2 l0_2.length c0_2,.slice A0_3 l0_3.length c0_3,.slice A0_4 l0_4.length c0_4]) (t:=27) ?hr ?_;(case hd=>rfl);(case hg=>rfl);(case hr=>first|(go_simp;done)|(go_simp;rfl));intro gb105 hg w4 hbox hb;have n0_:=Az.mk (bT_ HB.out hb);have n1_:=Az.mk (hbox);have n2_:=Az.mk ((szl_ HB.out hg));have n3_:=Az.mk ((szl_ HB.out hg));clear HB;have HB:=n0_;have BK105:=n1_;have GW105:=n2_;have GE105:=n3_;clear n0_ n1_ n2_ n3_;clear hb hbox hg;obtain⟨hcz5_0,hcz5_1,hcz5_2,hcz5_3,hcz5_4,hfz5_0,hfz5_1,hfz5_2,hfz5_3,hfz5_4⟩:=cf5_ BK105.out)|((with_reducible refine gate_callee (f:=28) rfl ?_);refine goesL_ (some 4) rfl rfl Try.func28 (by kernel_rfl) rfl #[.agg #[.slice A0_0 l0_0.length c0_0,.slice A0_1 l0_1.length c0_1,.slice A0_2 l0_2.length c0_2,.slice A0_3 l0_3.length c0_3,.slice A0_4 l0_4.length c0_4]] rfl (by(try simp only [List.map_toArray,List.map_cons,List.map_nil]);first|done|rfl|(simp only [List.length_drop,List.length_take];rfl)) ?_;(with_reducible refine(arboristlaw17_Few.calls k _ _ l0_0 _ _ l0_1 _ _ l0_2 _ _ l0_3 _ _ l0_4 true _ ?side1 ?side2 ?side3 ?side4 ?side5 ?side6 ?side7 ?side8 ?side9 ?side10 A2.out).mono ?_);(case side1=>repeat (first|exact(Kd.C_below HR0_0.out HB.out)|(with_reducible first|refine Kd.C_alloc ?_ _|refine Kd.C_drewN ?_ _|refine Kd.C_drew ?_)));(case side2=>exact HC0_0.out);(case side3=>repeat (first|exact(Kd.C_below HR0_1.out HB.out)|(with_reducible first|refine Kd.C_alloc ?_ _|refine Kd.C_drewN ?_ _|refine Kd.C_drew ?_)));(case side4=>exact HC0_1.out);(case side5=>repeat (first|exact(Kd.C_below HR0_2.out HB.out)|(with_reducible first|refine Kd.C_alloc ?_ _|refine Kd.C_drewN ?_ _|refine Kd.C_drew ?_)));(case side6=>exact HC0_2.out);(case side7=>repeat (first|exact(Kd.C_below HR0_3.out HB.out)|(with_reducible first|refine Kd.C_alloc ?_ _|refine Kd.C_drewN ?_ _|refine Kd.C_drew ?_)));(case side8=>exact HC0_3.out);(case side9=>repeat (first|exact(Kd.C_below HR0_4.out HB.out)|(with_reducible first|refine Kd.C_alloc ?_ _|refine Kd.C_drewN ?_ _|refine Kd.C_drew ?_)));(case side10=>exact HC0_4.out);rintro e w6 ⟨rfl,hb⟩;refine⟨_,rfl,?_⟩;have n0_:=Az.mk (kB_ BK105.out hb);have n1_:=Az.mk (bT_ HB.out hb);clear BK105;clear HB;have BK105:=n0_;have HB:=n1_;clear n0_ n1_;(try clear hb);(try clear hb2);(try clear hk);(try clear hi);obtain⟨hcz7_0,hcz7_1,hcz7_2,hcz7_3,hcz7_4,hfz7_0,hfz7_1,hfz7_2,hfz7_3,hfz7_4⟩:=cf5_ BK105.out))
  go_ret
  exact⟨by first|rfl|(simp [errW_none,errW_some] <;> rfl)|(simp [*,errW_none,errW_some] <;> rfl),by repeat (first|(with_reducible first|exact HB.out|apply bA_|apply bN_|apply bD_|refine bS_ ?_ GE105.out)|exact HB.out)⟩
 replace c3:=Bool.eq_false_iff.mpr c3
 subst c3
 have H1:(some false)=some r:=by rw [if_neg (show ¬ (false=true) by decide)] at H;exact H
 clear H
 have H:=H1
 clear H1
 obtain rfl:=Option.some.inj H
 go_enter Try.func8,Try.ntmps8
 go_wp2_with (first|((with_reducible refine gate_dst (N:=1) rfl ?_);(try (refine gate_guard (by rfl) ?_;dsimp only));refine box_event ?hg (N:=1) ?hd (cs:=#[.slice A0_0 l0_0.length c0_0,.slice A0_1 l0_1.length c0_1,.slice A0_2 l0_2.length c0_2,.slice A0_3 l0_3.length c0_3,.slice A0_4 l0_4.length c0_4]) (t:=27) ?hr ?_;(case hd=>rfl);(case hg=>rfl);(case hr=>first|(go_simp;done)|(go_simp;rfl));intro gb105 hg w8 hbox hb;have n0_:=Az.mk (bT_ HB.out hb);have n1_:=Az.mk (hbox);have n2_:=Az.mk ((szl_ HB.out hg));have n3_:=Az.mk ((szl_ HB.out hg));clear HB;have HB:=n0_;have BK105:=n1_;have GW105:=n2_;have GE105:=n3_;clear n0_ n1_ n2_ n3_;clear hb hbox hg;obtain⟨hcz9_0,hcz9_1,hcz9_2,hcz9_3,hcz9_4,hfz9_0,hfz9_1,hfz9_2,hfz9_3,hfz9_4⟩:=cf5_ BK105.out)|((with_reducible refine gate_callee (f:=28) rfl ?_);refine goesL_ (some 4) rfl rfl Try.func28 (by kernel_rfl) rfl #[.agg #[.slice A0_0 l0_0.length c0_0,.slice A0_1 l0_1.length c0_1,.slice A0_2 l0_2.length c0_2,.slice A0_3 l0_3.length c0_3,.slice A0_4 l0_4.length c0_4]] rfl (by(try simp only [List.map_toArray,List.map_cons,List.map_nil]);first|done|rfl|(simp only [List.length_drop,List.length_take];rfl)) ?_;(with_reducible refine(arboristlaw17_Few.calls k _ _ l0_0 _ _ l0_1 _ _ l0_2 _ _ l0_3 _ _ l0_4 false _ ?side1 ?side2 ?side3 ?side4 ?side5 ?side6 ?side7 ?side8 ?side9 ?side10 A2.out).mono ?_);(case side1=>repeat (first|exact(Kd.C_below HR0_0.out HB.out)|(with_reducible first|refine Kd.C_alloc ?_ _|refine Kd.C_drewN ?_ _|refine Kd.C_drew ?_)));(case side2=>exact HC0_0.out);(case side3=>repeat (first|exact(Kd.C_below HR0_1.out HB.out)|(with_reducible first|refine Kd.C_alloc ?_ _|refine Kd.C_drewN ?_ _|refine Kd.C_drew ?_)));(case side4=>exact HC0_1.out);(case side5=>repeat (first|exact(Kd.C_below HR0_2.out HB.out)|(with_reducible first|refine Kd.C_alloc ?_ _|refine Kd.C_drewN ?_ _|refine Kd.C_drew ?_)));(case side6=>exact HC0_2.out);(case side7=>repeat (first|exact(Kd.C_below HR0_3.out HB.out)|(with_reducible first|refine Kd.C_alloc ?_ _|refine Kd.C_drewN ?_ _|refine Kd.C_drew ?_)));(case side8=>exact HC0_3.out);(case side9=>repeat (first|exact(Kd.C_below HR0_4.out HB.out)|(with_reducible first|refine Kd.C_alloc ?_ _|refine Kd.C_drewN ?_ _|refine Kd.C_drew ?_)));(case side10=>exact HC0_4.out);rintro e w10 ⟨rfl,hb⟩;refine⟨_,rfl,?_⟩;have n0_:=Az.mk (kB_ BK105.out hb);have n1_:=Az.mk (bT_ HB.out hb);clear BK105;clear HB;have BK105:=n0_;have HB:=n1_;clear n0_ n1_;(try clear hb);(try clear hb2);(try clear hk);(try clear hi)))
 go_ret
 exact⟨by first|rfl|(simp [errW_none,errW_some] <;> rfl)|(simp [*,errW_none,errW_some] <;> rfl),by repeat (first|(with_reducible first|exact HB.out|apply bA_|apply bN_|apply bD_|refine bS_ ?_ GE105.out)|exact HB.out)⟩
end Go.Proofs.Ytgdbcogbbghjaaa.Q
