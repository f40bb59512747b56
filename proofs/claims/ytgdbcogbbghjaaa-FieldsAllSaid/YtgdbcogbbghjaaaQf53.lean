import Derived.Test.YtgdbcogbbghjaaaQ0
namespace Go.Proofs.Ytgdbcogbbghjaaa.Q
open Go.RowKit Go.Proofs.YtgdbcogbbghjaaaW.PrintWords Go.Proofs.YtgdbcogbbghjaaaW.PrintLast Go.Proofs.YtgdbcogbbghjaaaW.PrintMore
attribute [local go_sem] max2_int min2_int max_two min_two max_three min_three max_four min_four   -- for this text's walks alone
set_option linter.unusedVariables false
set_option linter.unusedSimpArgs false
mutual
def arboristref42_byRule.j0:Nat→Bool→List ByteArray→List ByteArray→List Int→List (S67)→List (S78)→Int→Int→Int→Int→List (S53)→ByteArray→List (S32)→Option (Bool)
 | 0,_,_,_,_,_,_,_,_,_,_,_,_,_=>none
 | k + 1,x43,x389000,x389001,x389002,x389003,x389004,x390000,x390001,x390002,x390003,x390004,x390005,x390006=>if x43=true then(some false)else(arboristref42_byRule.l0 k 0 x389000 x389001 x389002 x389003 x389004 x390000 x390001 x390002 x390003 x390004 x390005 x390006)
def arboristref42_byRule.l0:Nat→Int→List ByteArray→List ByteArray→List Int→List (S67)→List (S78)→Int→Int→Int→Int→List (S53)→ByteArray→List (S32)→Option (Bool)
 | 0,_,_,_,_,_,_,_,_,_,_,_,_,_=>none
 | k + 1,x5,x389000,x389001,x389002,x389003,x389004,x390000,x390001,x390002,x390003,x390004,x390005,x390006=>if x5 < (x390006.length:Int)then(if 0≤x5 then(if 0≤x390001 then(if x390001 < (x389003.length:Int)then(if x5 < (((rd_T67 x389003 x390001).f1).length:Int)then(if ((rd_T32 x390006 x5).f0)=(rd ((rd_T67 x389003 x390001).f1) x5)then(arboristref42_byRule.l0 k (wrap64 (x5 + 1)) x389000 x389001 x389002 x389003 x389004 x390000 x390001 x390002 x390003 x390004 x390005 x390006)else(some false))else(none))else(none))else(none))else(none))else(some true)
end
def arboristref42_byRule.f (k:Nat)(l0_0:List ByteArray)(l0_1:List ByteArray)(l0_2:List Int)(l0_3:List (S67))(l0_4:List (S78))(a1_0:Int)(a1_1:Int)(a1_2:Int)(a1_3:Int)(l1_4:List (S53))(a1_5:ByteArray)(l1_6:List (S32)):Option (Bool):=if a1_1 < 0 then(arboristref42_byRule.j0 k true l0_0 l0_1 l0_2 l0_3 l0_4 a1_0 a1_1 a1_2 a1_3 l1_4 a1_5 l1_6)else(if a1_1 ≥ (l0_3.length:Int)then(arboristref42_byRule.j0 k true l0_0 l0_1 l0_2 l0_3 l0_4 a1_0 a1_1 a1_2 a1_3 l1_4 a1_5 l1_6)else(if 0≤a1_1 then(if a1_1 < (l0_3.length:Int)then(if ((rd_T67 l0_3 a1_1).f0)=(wrap64 ((-1) - a1_0))then(arboristref42_byRule.j0 k ((l1_6.length:Int) != (((rd_T67 l0_3 a1_1).f1).length:Int)) l0_0 l0_1 l0_2 l0_3 l0_4 a1_0 a1_1 a1_2 a1_3 l1_4 a1_5 l1_6)else(arboristref42_byRule.j0 k true l0_0 l0_1 l0_2 l0_3 l0_4 a1_0 a1_1 a1_2 a1_3 l1_4 a1_5 l1_6))else(none))else(none)))
set_option maxHeartbeats 8000000 in
set_option maxRecDepth 100000 in
theorem arboristref42_byRule.calls (k:Nat)(A0_0:Option Addr)(c0_0:Nat)(l0_0:List ByteArray)(A0_1:Option Addr)(c0_1:Nat)(l0_1:List ByteArray)(A0_2:Option Addr)(c0_2:Nat)(l0_2:List Int)(A0_3:Option Addr)(c0_3:Nat)(l0_3:List (S67))(A0_4:Option Addr)(c0_4:Nat)(l0_4:List (S78))(a1_0:Int)(a1_1:Int)(a1_2:Int)(a1_3:Int)(A1_4:Option Addr)(c1_4:Nat)(l1_4:List (S53))(a1_5:ByteArray)(A1_6:Option Addr)(c1_6:Nat)(l1_6:List (S32))(r:Bool)(w:World)(hr0_0:Kd.C Kd.string w A0_0 l0_0.length l0_0)(hc0_0:l0_0.length≤c0_0)(hr0_1:Kd.C Kd.string w A0_1 l0_1.length l0_1)(hc0_1:l0_1.length≤c0_1)(hr0_2:Kd.C (Kd.int .i64) w A0_2 l0_2.length l0_2)(hc0_2:l0_2.length≤c0_2)(hr0_3:Kd.C k67 w A0_3 l0_3.length l0_3)(hc0_3:l0_3.length≤c0_3)(hr0_4:Kd.C k78 w A0_4 l0_4.length l0_4)(hc0_4:l0_4.length≤c0_4)(hr1_4:Kd.C k53 w A1_4 l1_4.length l1_4)(hc1_4:l1_4.length≤c1_4)(hr1_6:Kd.C k32 w A1_6 l1_6.length l1_6)(hc1_6:l1_6.length≤c1_6)(h:arboristref42_byRule.f k l0_0 l0_1 l0_2 l0_3 l0_4 a1_0 a1_1 a1_2 a1_3 l1_4 a1_5 l1_6=some r) :
  Calls Try.prog 53 #[.agg #[.slice A0_0 l0_0.length c0_0,.slice A0_1 l0_1.length c0_1,.slice A0_2 l0_2.length c0_2,.slice A0_3 l0_3.length c0_3,.slice A0_4 l0_4.length c0_4],.agg #[.int .i64 a1_0,.int .i64 a1_1,.int .i64 a1_2,.int .i64 a1_3,.slice A1_4 l1_4.length c1_4,.string a1_5,.slice A1_6 l1_6.length c1_6]] w fun e w'=>e=.returned (.bool r)∧Below w.heap.size w w':=by
 have hu27:=Try.underlying27
 have hu32:=Try.underlying32
 have HR0_0:=Az.mk hr0_0
 have HC0_0:=Az.mk hc0_0
 clear hr0_0 hc0_0
 have HR0_1:=Az.mk hr0_1
 have HC0_1:=Az.mk hc0_1
 clear hr0_1 hc0_1
 have HR0_2:=Az.mk hr0_2
 have HC0_2:=Az.mk hc0_2
 clear hr0_2 hc0_2
 have HR0_3:=Az.mk hr0_3
 have HC0_3:=Az.mk hc0_3
 clear hr0_3 hc0_3
 have HR0_4:=Az.mk hr0_4
 have HC0_4:=Az.mk hc0_4
 clear hr0_4 hc0_4
 have HR1_4:=Az.mk hr1_4
 have HC1_4:=Az.mk hc1_4
 clear hr1_4 hc1_4
 have HR1_6:=Az.mk hr1_6
 have HC1_6:=Az.mk hc1_6
 clear hr1_6 hc1_6
 have HB:=Az.mk (Below.refl w.heap.size w)
 have H:(if a1_1 < 0 then(arboristref42_byRule.j0 k true l0_0 l0_1 l0_2 l0_3 l0_4 a1_0 a1_1 a1_2 a1_3 l1_4 a1_5 l1_6)else(if a1_1 ≥ (l0_3.length:Int)then(arboristref42_byRule.j0 k true l0_0 l0_1 l0_2 l0_3 l0_4 a1_0 a1_1 a1_2 a1_3 l1_4 a1_5 l1_6)else(if 0≤a1_1 then(if a1_1 < (l0_3.length:Int)then(if ((rd_T67 l0_3 a1_1).f0)=(wrap64 ((-1) - a1_0))then(arboristref42_byRule.j0 k ((l1_6.length:Int) != (((rd_T67 l0_3 a1_1).f1).length:Int)) l0_0 l0_1 l0_2 l0_3 l0_4 a1_0 a1_1 a1_2 a1_3 l1_4 a1_5 l1_6)else(arboristref42_byRule.j0 k true l0_0 l0_1 l0_2 l0_3 l0_4 a1_0 a1_1 a1_2 a1_3 l1_4 a1_5 l1_6))else(none))else(none))))=some r:=h
 clear h
 have HC3:=Az.mk H
 clear H
 go_enter Try.func53,Try.ntmps53
 go_upto_region 1 with(first|((with_reducible refine gate_dst (N:=2) rfl ?_);(try (refine gate_guard (by rfl) ?_;dsimp only));refine box_event ?hg (N:=2) ?hd (cs:=#[.slice A0_0 l0_0.length c0_0,.slice A0_1 l0_1.length c0_1,.slice A0_2 l0_2.length c0_2,.slice A0_3 l0_3.length c0_3,.slice A0_4 l0_4.length c0_4]) (t:=27) ?hr ?_;(case hd=>rfl);(case hg=>rfl);(case hr=>first|(go_simp;done)|(go_simp;rfl));intro gb388 hg w4 hbox hb;have n0_:=Az.mk (bT_ HB.out hb);have n1_:=Az.mk (hbox);have n2_:=Az.mk ((szl_ HB.out hg));have n3_:=Az.mk ((szl_ HB.out hg));clear HB;have HB:=n0_;have BK388:=n1_;have GW388:=n2_;have GE388:=n3_;clear n0_ n1_ n2_ n3_;clear hb hbox hg)|((with_reducible refine gate_dst (N:=3) rfl ?_);(try (refine gate_guard (by rfl) ?_;dsimp only));refine box_event ?hg (N:=3) ?hd (cs:=#[.int .i64 a1_0,.int .i64 a1_1,.int .i64 a1_2,.int .i64 a1_3,.slice A1_4 l1_4.length c1_4,.string a1_5,.slice A1_6 l1_6.length c1_6]) (t:=32) ?hr ?_;(case hd=>rfl);(case hg=>rfl);(case hr=>first|(go_simp;done)|(go_simp;rfl));intro gb389 hg w5 hbox hb;have n0_:=Az.mk (kB_ BK388.out hb);have n1_:=Az.mk (bT_ HB.out hb);have n2_:=Az.mk (hbox);have n3_:=Az.mk ((szl_ HB.out hg));have n4_:=Az.mk ((szl_ HB.out hg));have n5_:=Az.mk ((nel_ BK388.out hg));have n6_:=Az.mk ((ner_ BK388.out hg));clear BK388;clear HB;have BK388:=n0_;have HB:=n1_;have BK389:=n2_;have GW389:=n3_;have GE389:=n4_;have NB388_389:=n5_;have NB389_388:=n6_;clear n0_ n1_ n2_ n3_ n4_ n5_ n6_;clear hb hbox hg))
 repeat (go_quiet (first|((with_reducible refine gate_dst (N:=2) rfl ?_);(try (refine gate_guard (by rfl) ?_;dsimp only));refine box_event ?hg (N:=2) ?hd (cs:=#[.slice A0_0 l0_0.length c0_0,.slice A0_1 l0_1.length c0_1,.slice A0_2 l0_2.length c0_2,.slice A0_3 l0_3.length c0_3,.slice A0_4 l0_4.length c0_4]) (t:=27) ?hr ?_;(case hd=>rfl);(case hg=>rfl);(case hr=>first|(go_simp;done)|(go_simp;rfl));intro gb388 hg w4 hbox hb;have n0_:=Az.mk (bT_ HB.out hb);have n1_:=Az.mk (hbox);have n2_:=Az.mk ((szl_ HB.out hg));have n3_:=Az.mk ((szl_ HB.out hg));clear HB;have HB:=n0_;have BK388:=n1_;have GW388:=n2_;have GE388:=n3_;clear n0_ n1_ n2_ n3_;clear hb hbox hg)|((with_reducible refine gate_dst (N:=3) rfl ?_);(try (refine gate_guard (by rfl) ?_;dsimp only));refine box_event ?hg (N:=3) ?hd (cs:=#[.int .i64 a1_0,.int .i64 a1_1,.int .i64 a1_2,.int .i64 a1_3,.slice A1_4 l1_4.length c1_4,.string a1_5,.slice A1_6 l1_6.length c1_6]) (t:=32) ?hr ?_;(case hd=>rfl);(case hg=>rfl);(case hr=>first|(go_simp;done)|(go_simp;rfl));intro gb389 hg w5 hbox hb;have n0_:=Az.mk (kB_ BK388.out hb);have n1_:=Az.mk (bT_ HB.out hb);have n2_:=Az.mk (hbox);have n3_:=Az.mk ((szl_ HB.out hg));have n4_:=Az.mk ((szl_ HB.out hg));have n5_:=Az.mk ((nel_ BK388.out hg));have n6_:=Az.mk ((ner_ BK388.out hg));clear BK388;clear HB;have BK388:=n0_;have HB:=n1_;have BK389:=n2_;have GW389:=n3_;have GE389:=n4_;have NB388_389:=n5_;have NB389_388:=n6_;clear n0_ n1_ n2_ n3_ n4_ n5_ n6_;clear hb hbox hg));go_upto_region 1 with(first|((with_reducible refine gate_dst (N:=2) rfl ?_);(try (refine gate_guard (by rfl) ?_;dsimp only));refine box_event ?hg (N:=2) ?hd (cs:=#[.slice A0_0 l0_0.length c0_0,.slice A0_1 l0_1.length c0_1,.slice A0_2 l0_2.length c0_2,.slice A0_3 l0_3.length c0_3,.slice A0_4 l0_4.length c0_4]) (t:=27) ?hr ?_;(case hd=>rfl);(case hg=>rfl);(case hr=>first|(go_simp;done)|(go_simp;rfl));intro gb388 hg w4 hbox hb;have n0_:=Az.mk (bT_ HB.out hb);have n1_:=Az.mk (hbox);have n2_:=Az.mk ((szl_ HB.out hg));have n3_:=Az.mk ((szl_ HB.out hg));clear HB;have HB:=n0_;have BK388:=n1_;have GW388:=n2_;have GE388:=n3_;clear n0_ n1_ n2_ n3_;clear hb hbox hg)|((with_reducible refine gate_dst (N:=3) rfl ?_);(try (refine gate_guard (by rfl) ?_;dsimp only));refine box_event ?hg (N:=3) ?hd (cs:=#[.int .i64 a1_0,.int .i64 a1_1,.int .i64 a1_2,.int .i64 a1_3,.slice A1_4 l1_4.length c1_4,.string a1_5,.slice A1_6 l1_6.length c1_6]) (t:=32) ?hr ?_;(case hd=>rfl);(case hg=>rfl);(case hr=>first|(go_simp;done)|(go_simp;rfl));intro gb389 hg w5 hbox hb;have n0_:=Az.mk (kB_ BK388.out hb);have n1_:=Az.mk (bT_ HB.out hb);have n2_:=Az.mk (hbox);have n3_:=Az.mk ((szl_ HB.out hg));have n4_:=Az.mk ((szl_ HB.out hg));have n5_:=Az.mk ((nel_ BK388.out hg));have n6_:=Az.mk ((ner_ BK388.out hg));clear BK388;clear HB;have BK388:=n0_;have HB:=n1_;have BK389:=n2_;have GW389:=n3_;have GE389:=n4_;have NB388_389:=n5_;have NB389_388:=n6_;clear n0_ n1_ n2_ n3_ n4_ n5_ n6_;clear hb hbox hg)))
 (try simp only [Act.put,sT_,s0_,sC_])
 go_cut [43] (fun v43 wc=>∃ (kq:Nat) (x43_2:Bool),v43=.bool x43_2∧Az (arboristref42_byRule.j0 kq x43_2 l0_0 l0_1 l0_2 l0_3 l0_4 a1_0 a1_1 a1_2 a1_3 l1_4 a1_5 l1_6=some r)∧Az (kq≤k)∧Az (wc.heap[gb388]?=some (.cells #[(.slice A0_0 l0_0.length c0_0),(.slice A0_1 l0_1.length c0_1),(.slice A0_2 l0_2.length c0_2),(.slice A0_3 l0_3.length c0_3),(.slice A0_4 l0_4.length c0_4)] 27 (0,0)))∧Az (wc.heap[gb389]?=some (.cells #[.int .i64 a1_0,.int .i64 a1_1,.int .i64 a1_2,.int .i64 a1_3,(.slice A1_4 l1_4.length c1_4),.string a1_5,(.slice A1_6 l1_6.length c1_6)] 32 (0,0)))∧Az (Below w.heap.size w wc))
 case first =>
  have H:=HC3.out
  clear HC3
  by_cases c6:a1_1 < 0
  ·rw [if_pos c6] at H
   have c6b0:=decide_eq_true c6
   clear c6
   (first|rw [c6b0]|(simp only [i64_w,i32_w];rw [c6b0])|skip)
   have H':=Az.mk H
   clear H
   have hnb7:=NB389_388.out
   have hnc7:=NB388_389.out
   obtain⟨hcz8_0,hcz8_1,hcz8_2,hcz8_3,hcz8_4,hcz8_5,hcz8_6,hfz8_0,hfz8_1,hfz8_2,hfz8_3,hfz8_4,hfz8_5,hfz8_6⟩:=cf7_ BK389.out
   go_wp2
   repeat (go_quiet (fail);try go_wp2)
   go_meet
   case rel=>exact⟨_,(true),(by first|rfl|(simp;done)|(simp [*];done)|(refine congrArg Value.bool ?_;exact isE_ _)),H',⟨by first|omega|exact Nat.le_refl _⟩,⟨by(with_reducible repeat (first|refine kN_ ?_ _|refine kD_ ?_|refine kA_ ?_ _));exact BK388.out⟩,⟨by(with_reducible repeat (first|refine kN_ ?_ _|refine kD_ ?_|refine kA_ ?_ _));exact BK389.out⟩,⟨by repeat (first|(with_reducible first|exact HB.out|apply bA_|apply bN_|apply bD_|refine bS_ ?_ GE388.out|refine bS_ ?_ GE389.out)|exact HB.out)⟩⟩
  rw [if_neg c6] at H
  have c6b0:=decide_eq_false c6
  clear c6
  (first|rw [c6b0]|(simp only [i64_w,i32_w];rw [c6b0])|skip)
  by_cases c9:a1_1 ≥ (l0_3.length:Int)
  ·rw [if_pos c9] at H
   have c9b0:=decide_eq_true c9
   clear c9
   have H':=Az.mk H
   clear H
   have hnb10:=NB389_388.out
   have hnc10:=NB388_389.out
   obtain⟨hcz11_0,hcz11_1,hcz11_2,hcz11_3,hcz11_4,hcz11_5,hcz11_6,hfz11_0,hfz11_1,hfz11_2,hfz11_3,hfz11_4,hfz11_5,hfz11_6⟩:=cf7_ BK389.out
   obtain⟨hcz12_0,hcz12_1,hcz12_2,hcz12_3,hcz12_4,hfz12_0,hfz12_1,hfz12_2,hfz12_3,hfz12_4⟩:=cf5_ BK388.out
   go_wp2
   repeat (go_quiet (fail);try go_wp2)
   go_meet
   case rel=>exact⟨_,(true),(by first|rfl|(simp;done)|(simp [*];done)|(refine congrArg Value.bool ?_;exact isE_ _)),H',⟨by first|omega|exact Nat.le_refl _⟩,⟨by(with_reducible repeat (first|refine kN_ ?_ _|refine kD_ ?_|refine kA_ ?_ _));exact BK388.out⟩,⟨by(with_reducible repeat (first|refine kN_ ?_ _|refine kD_ ?_|refine kA_ ?_ _));exact BK389.out⟩,⟨by repeat (first|(with_reducible first|exact HB.out|apply bA_|apply bN_|apply bD_|refine bS_ ?_ GE388.out|refine bS_ ?_ GE389.out)|exact HB.out)⟩⟩
  rw [if_neg c9] at H
  have c9b0:=decide_eq_false c9
  clear c9
  by_cases c13:0≤a1_1
  rotate_left
  ·rw [if_neg c13] at H
   exact absurd H (by simp)
  rw [if_pos c13] at H
  have c13b0:=decide_eq_true c13
  clear c13
  by_cases c14:a1_1 < (l0_3.length:Int)
  rotate_left
  ·rw [if_neg c14] at H
   exact absurd H (by simp)
  rw [if_pos c14] at H
  have c14b0:=decide_eq_true c14
  clear c14
  by_cases c15:((rd_T67 l0_3 a1_1).f0)=(wrap64 ((-1) - a1_0))
  rotate_left
  ·rw [if_neg c15] at H
   have c15b0:=beq_eq_false_iff_ne.mpr c15
   have c15b1:=bne_iff_ne.mpr c15
   have H':=Az.mk H
   clear H
   have hnb19:=NB389_388.out
   have hnc19:=NB388_389.out
   obtain⟨hcz20_0,hcz20_1,hcz20_2,hcz20_3,hcz20_4,hcz20_5,hcz20_6,hfz20_0,hfz20_1,hfz20_2,hfz20_3,hfz20_4,hfz20_5,hfz20_6⟩:=cf7_ BK389.out
   obtain⟨hcz21_0,hcz21_1,hcz21_2,hcz21_3,hcz21_4,hfz21_0,hfz21_1,hfz21_2,hfz21_3,hfz21_4⟩:=cf5_ BK388.out
   have p390:0≤(a1_1:Int):=of_decide_eq_true (by assumption)
   have q390:a1_1 < (l0_3.length:Int):=of_decide_eq_true (by assumption)
   obtain⟨ad390,A390_1,c390_1,A390_2,c390_2,e390,hx390_0,hx390_1,hx390_2,hx390_3,hx390_4,hl390_1,hi390_1,hl390_2,hi390_2⟩:=at_T67 HR0_3.out a1_1 p390 q390
   cases e390
   replace hx390_0:=bc_ HB.out hx390_0
   replace hx390_1:=bc_ HB.out hx390_1
   replace hx390_2:=bc_ HB.out hx390_2
   replace hx390_3:=bc_ HB.out hx390_3
   replace hx390_4:=bc_ HB.out hx390_4
   have HR390_1:=Az.mk hi390_1
   have HC390_1:=Az.mk hl390_1
   clear hi390_1 hl390_1
   have HR390_2:=Az.mk hi390_2
   have HC390_2:=Az.mk hl390_2
   clear hi390_2 hl390_2
   replace p390:=eq_true p390
   replace q390:=eq_true q390
   go_wp2
   repeat (go_quiet (fail);try go_wp2)
   go_meet
   case rel=>exact⟨_,(true),(by first|rfl|(simp;done)|(simp [*];done)|(refine congrArg Value.bool ?_;exact isE_ _)),H',⟨by first|omega|exact Nat.le_refl _⟩,⟨by(with_reducible repeat (first|refine kN_ ?_ _|refine kD_ ?_|refine kA_ ?_ _));exact BK388.out⟩,⟨by(with_reducible repeat (first|refine kN_ ?_ _|refine kD_ ?_|refine kA_ ?_ _));exact BK389.out⟩,⟨by repeat (first|(with_reducible first|exact HB.out|apply bA_|apply bN_|apply bD_|refine bS_ ?_ GE388.out|refine bS_ ?_ GE389.out)|exact HB.out)⟩⟩
  rw [if_pos c15] at H
  have c15b0:=beq_iff_eq.mpr c15
  have c15b1:=bne_eq_false_iff_eq.mpr c15
  clear c15
  have H':=Az.mk H
  clear H
  have hnb16:=NB389_388.out
  have hnc16:=NB388_389.out
  obtain⟨hcz17_0,hcz17_1,hcz17_2,hcz17_3,hcz17_4,hcz17_5,hcz17_6,hfz17_0,hfz17_1,hfz17_2,hfz17_3,hfz17_4,hfz17_5,hfz17_6⟩:=cf7_ BK389.out
  obtain⟨hcz18_0,hcz18_1,hcz18_2,hcz18_3,hcz18_4,hfz18_0,hfz18_1,hfz18_2,hfz18_3,hfz18_4⟩:=cf5_ BK388.out
  have p390:0≤(a1_1:Int):=of_decide_eq_true (by assumption)
  have q390:a1_1 < (l0_3.length:Int):=of_decide_eq_true (by assumption)
  obtain⟨ad390,A390_1,c390_1,A390_2,c390_2,e390,hx390_0,hx390_1,hx390_2,hx390_3,hx390_4,hl390_1,hi390_1,hl390_2,hi390_2⟩:=at_T67 HR0_3.out a1_1 p390 q390
  cases e390
  replace hx390_0:=bc_ HB.out hx390_0
  replace hx390_1:=bc_ HB.out hx390_1
  replace hx390_2:=bc_ HB.out hx390_2
  replace hx390_3:=bc_ HB.out hx390_3
  replace hx390_4:=bc_ HB.out hx390_4
  have HR390_1:=Az.mk hi390_1
  have HC390_1:=Az.mk hl390_1
  clear hi390_1 hl390_1
  have HR390_2:=Az.mk hi390_2
  have HC390_2:=Az.mk hl390_2
  clear hi390_2 hl390_2
  replace p390:=eq_true p390
  replace q390:=eq_true q390
  have p391:0≤(a1_1:Int):=of_decide_eq_true (by assumption)
  have q391:a1_1 < (l0_3.length:Int):=of_decide_eq_true (by assumption)
  obtain⟨ad391,A391_1,c391_1,A391_2,c391_2,e391,hx391_0,hx391_1,hx391_2,hx391_3,hx391_4,hl391_1,hi391_1,hl391_2,hi391_2⟩:=at_T67 HR0_3.out a1_1 p391 q391
  obtain rfl:ad390=ad391:=(by injection e391)
  replace hx391_0:=bc_ HB.out hx391_0
  replace hx391_1:=bc_ HB.out hx391_1
  replace hx391_2:=bc_ HB.out hx391_2
  replace hx391_3:=bc_ HB.out hx391_3
  replace hx391_4:=bc_ HB.out hx391_4
  have HR391_1:=Az.mk hi391_1
  have HC391_1:=Az.mk hl391_1
  clear hi391_1 hl391_1
  have HR391_2:=Az.mk hi391_2
  have HC391_2:=Az.mk hl391_2
  clear hi391_2 hl391_2
  replace p391:=eq_true p391
  replace q391:=eq_true q391
  have ea_:=Option.some.inj (hx390_1.symm.trans hx391_1)
  injection ea_ with ea_ en_ ec_
  subst ea_
  subst ec_
  clear en_
  have ea_:=Option.some.inj (hx390_2.symm.trans hx391_2)
  injection ea_ with ea_ en_ ec_
  subst ea_
  subst ec_
  clear en_
  go_wp2
  repeat (go_quiet (fail);try go_wp2)
  go_meet
  case rel=>exact⟨_,(((l1_6.length:Int) != (((rd_T67 l0_3 a1_1).f1).length:Int))),(by first|rfl|(simp;done)|(simp [*];done)|(refine congrArg Value.bool ?_;exact isE_ _)),H',⟨by first|omega|exact Nat.le_refl _⟩,⟨by(with_reducible repeat (first|refine kN_ ?_ _|refine kD_ ?_|refine kA_ ?_ _));exact BK388.out⟩,⟨by(with_reducible repeat (first|refine kN_ ?_ _|refine kD_ ?_|refine kA_ ?_ _));exact BK389.out⟩,⟨by repeat (first|(with_reducible first|exact HB.out|apply bA_|apply bN_|apply bD_|refine bS_ ?_ GE388.out|refine bS_ ?_ GE389.out)|exact HB.out)⟩⟩
 case rest =>
  clear HC3
  try clear c1
  try clear p2
  try clear c3
  try clear p3
  try clear q3
  try clear hx3
  try clear c5
  try clear c6
  try clear c6b0
  try clear p6
  try clear c7
  try clear c9
  try clear c9b0
  try clear c10
  try clear c13
  try clear c13b0
  try clear c14
  try clear c14b0
  try clear c15
  try clear c15b0
  try clear c15b1
  try clear c16
  try clear c19
  try clear hcz11_0 hcz11_1 hcz11_2 hcz11_3 hcz11_4 hcz11_5 hcz11_6 hfz11_0 hfz11_1 hfz11_2 hfz11_3 hfz11_4 hfz11_5 hfz11_6
  try clear hcz12_0 hcz12_1 hcz12_2 hcz12_3 hcz12_4 hfz12_0 hfz12_1 hfz12_2 hfz12_3 hfz12_4
  try clear hcz17_0 hcz17_1 hcz17_2 hcz17_3 hcz17_4 hcz17_5 hcz17_6 hfz17_0 hfz17_1 hfz17_2 hfz17_3 hfz17_4 hfz17_5 hfz17_6
  try clear hcz18_0 hcz18_1 hcz18_2 hcz18_3 hcz18_4 hfz18_0 hfz18_1 hfz18_2 hfz18_3 hfz18_4
  try clear hcz20_0 hcz20_1 hcz20_2 hcz20_3 hcz20_4 hcz20_5 hcz20_6 hfz20_0 hfz20_1 hfz20_2 hfz20_3 hfz20_4 hfz20_5 hfz20_6
  try clear hcz21_0 hcz21_1 hcz21_2 hcz21_3 hcz21_4 hfz21_0 hfz21_1 hfz21_2 hfz21_3 hfz21_4
  try clear hcz8_0 hcz8_1 hcz8_2 hcz8_3 hcz8_4 hcz8_5 hcz8_6 hfz8_0 hfz8_1 hfz8_2 hfz8_3 hfz8_4 hfz8_5 hfz8_6
  try clear hx390_0
  try clear hx390_1
  try clear hx390_2
  try clear hx390_3
  try clear hx390_4
  try clear hx391_0
  try clear hx391_1
  try clear hx391_2
  try clear hx391_3
  try clear hx391_4
  try clear p390
  try clear p391
  try clear q390
  try clear q391
  obtain⟨kq,x43_2,rfl,HA,HJ2,BK388,BK389,HB⟩:=hcut
  cases kq with
  | zero=>exact absurd HA.out (by simp [arboristref42_byRule.j0])
  | succ kj2 =>
   have H:=HA.out
   clear HA
   simp only [arboristref42_byRule.j0] at H
   by_cases c22:x43_2=true
   ·subst c22
    have H1:(some false)=some r:=by rw [if_pos rfl] at H;exact H
    clear H
    have H:=H1
    clear H1
    obtain rfl:=Option.some.inj H
    go_wp2
    repeat (go_quiet (fail);try go_wp2)
    go_ret
    exact⟨by first|rfl|(simp [errW_none,errW_some] <;> rfl)|(simp [*,errW_none,errW_some] <;> rfl),by repeat (first|(with_reducible first|exact HB.out|apply bA_|apply bN_|apply bD_|refine bS_ ?_ GE388.out|refine bS_ ?_ GE389.out)|exact HB.out)⟩
   replace c22:=Bool.eq_false_iff.mpr c22
   subst c22
   have H1:(arboristref42_byRule.l0 kj2 0 l0_0 l0_1 l0_2 l0_3 l0_4 a1_0 a1_1 a1_2 a1_3 l1_4 a1_5 l1_6)=some r:=by rw [if_neg (show ¬ (false=true) by decide)] at H;exact H
   clear H
   have H:=H1
   clear H1
   have H':=Az.mk H
   clear H
   go_wp2
   repeat (go_quiet (fail);try go_wp2)
   go_loopg [5] kj2 (fun kq v5 w'=>∃ (x5_2:Int),v5=.int .i64 x5_2∧Az (arboristref42_byRule.l0 kq x5_2 l0_0 l0_1 l0_2 l0_3 l0_4 a1_0 a1_1 a1_2 a1_3 l1_4 a1_5 l1_6=some r)∧Az (kq≤kj2)∧Az (w'.heap[gb388]?=some (.cells #[(.slice A0_0 l0_0.length c0_0),(.slice A0_1 l0_1.length c0_1),(.slice A0_2 l0_2.length c0_2),(.slice A0_3 l0_3.length c0_3),(.slice A0_4 l0_4.length c0_4)] 27 (0,0)))∧Az (w'.heap[gb389]?=some (.cells #[.int .i64 a1_0,.int .i64 a1_1,.int .i64 a1_2,.int .i64 a1_3,(.slice A1_4 l1_4.length c1_4),.string a1_5,(.slice A1_6 l1_6.length c1_6)] 32 (0,0)))∧Az (Below w.heap.size w w'))
   case atStart=>exact⟨(0),(by first|rfl|(simp;done)|(simp [*];done)|(refine congrArg Value.bool ?_;exact isE_ _)),H',⟨Nat.le_refl _⟩,⟨by(with_reducible repeat (first|refine kN_ ?_ _|refine kD_ ?_|refine kA_ ?_ _));exact BK388.out⟩,⟨by(with_reducible repeat (first|refine kN_ ?_ _|refine kD_ ?_|refine kA_ ?_ _));exact BK389.out⟩,⟨by repeat (first|(with_reducible first|exact HB.out|apply bA_|apply bN_|apply bD_|refine bS_ ?_ GE388.out|refine bS_ ?_ GE389.out)|exact HB.out)⟩⟩
   case round =>
    clear H'
    try clear c1
    try clear c2
    try clear p2 p2
    try clear c3
    try clear p3 p3
    try clear q3 q3
    try clear hx3
    try clear c5
    try clear c6
    try clear c6b0
    try clear p6 p6
    try clear c7
    try clear c9
    try clear c9b0
    try clear c10
    try clear c13
    try clear c13b0
    try clear c14
    try clear c14b0
    try clear c15
    try clear c15b0
    try clear c15b1
    try clear c16
    try clear c19
    try clear c22
    try clear hcz11_0 hcz11_1 hcz11_2 hcz11_3 hcz11_4 hcz11_5 hcz11_6 hfz11_0 hfz11_1 hfz11_2 hfz11_3 hfz11_4 hfz11_5 hfz11_6
    try clear hcz12_0 hcz12_1 hcz12_2 hcz12_3 hcz12_4 hfz12_0 hfz12_1 hfz12_2 hfz12_3 hfz12_4
    try clear hcz17_0 hcz17_1 hcz17_2 hcz17_3 hcz17_4 hcz17_5 hcz17_6 hfz17_0 hfz17_1 hfz17_2 hfz17_3 hfz17_4 hfz17_5 hfz17_6
    try clear hcz18_0 hcz18_1 hcz18_2 hcz18_3 hcz18_4 hfz18_0 hfz18_1 hfz18_2 hfz18_3 hfz18_4
    try clear hcz20_0 hcz20_1 hcz20_2 hcz20_3 hcz20_4 hcz20_5 hcz20_6 hfz20_0 hfz20_1 hfz20_2 hfz20_3 hfz20_4 hfz20_5 hfz20_6
    try clear hcz21_0 hcz21_1 hcz21_2 hcz21_3 hcz21_4 hfz21_0 hfz21_1 hfz21_2 hfz21_3 hfz21_4
    try clear hcz8_0 hcz8_1 hcz8_2 hcz8_3 hcz8_4 hcz8_5 hcz8_6 hfz8_0 hfz8_1 hfz8_2 hfz8_3 hfz8_4 hfz8_5 hfz8_6
    try clear hx390_0
    try clear hx390_1
    try clear hx390_2
    try clear hx390_3
    try clear hx390_4
    try clear hx391_0
    try clear hx391_1
    try clear hx391_2
    try clear hx391_3
    try clear hx391_4
    try clear p390
    try clear p391
    try clear q390
    try clear q391
    obtain⟨x5_2,rfl,HA,HK2,BK388,BK389,HB⟩:=hrel
    cases gk with
    | zero=>exact absurd HA.out (by simp [arboristref42_byRule.l0])
    | succ k2 =>
     have H:=HA.out
     clear HA
     simp only [arboristref42_byRule.l0] at H
     by_cases c23:x5_2 < (l1_6.length:Int)
     rotate_left
     ·rw [if_neg c23] at H
      have c23b0:=decide_eq_false c23
      clear c23
      obtain rfl:=Option.some.inj H
      have hnb35:=NB389_388.out
      have hnc35:=NB388_389.out
      obtain⟨hcz36_0,hcz36_1,hcz36_2,hcz36_3,hcz36_4,hcz36_5,hcz36_6,hfz36_0,hfz36_1,hfz36_2,hfz36_3,hfz36_4,hfz36_5,hfz36_6⟩:=cf7_ BK389.out
      go_wp2
      repeat (go_quiet (fail);try go_wp2)
      go_ret
      exact⟨by first|rfl|(simp [errW_none,errW_some] <;> rfl)|(simp [*,errW_none,errW_some] <;> rfl),by repeat (first|(with_reducible first|exact HB.out|apply bA_|apply bN_|apply bD_|refine bS_ ?_ GE388.out|refine bS_ ?_ GE389.out)|exact HB.out)⟩
     rw [if_pos c23] at H
     have c23b0:=decide_eq_true c23
     clear c23
     by_cases c24:0≤x5_2
     rotate_left
     ·rw [if_neg c24] at H
      exact absurd H (by simp)
     rw [if_pos c24] at H
     have c24b0:=decide_eq_true c24
     clear c24
     by_cases c25:0≤a1_1
     rotate_left
     ·rw [if_neg c25] at H
      exact absurd H (by simp)
     rw [if_pos c25] at H
     have c25b0:=decide_eq_true c25
     clear c25
     by_cases c26:a1_1 < (l0_3.length:Int)
     rotate_left
     ·rw [if_neg c26] at H
      exact absurd H (by simp)
     rw [if_pos c26] at H
     have c26b0:=decide_eq_true c26
     clear c26
     by_cases c27:x5_2 < (((rd_T67 l0_3 a1_1).f1).length:Int)
     rotate_left
     ·rw [if_neg c27] at H
      exact absurd H (by simp)
     rw [if_pos c27] at H
     have c27b0:=decide_eq_true c27
     clear c27
     by_cases c28:((rd_T32 l1_6 x5_2).f0)=(rd ((rd_T67 l0_3 a1_1).f1) x5_2)
     ·rw [if_pos c28] at H
      have c28b0:=beq_iff_eq.mpr c28
      have c28b1:=bne_eq_false_iff_eq.mpr c28
      clear c28
      have H':=Az.mk H
      clear H
      have hnb29:=NB389_388.out
      have hnc29:=NB388_389.out
      obtain⟨hcz30_0,hcz30_1,hcz30_2,hcz30_3,hcz30_4,hcz30_5,hcz30_6,hfz30_0,hfz30_1,hfz30_2,hfz30_3,hfz30_4,hfz30_5,hfz30_6⟩:=cf7_ BK389.out
      have p392:0≤(x5_2:Int):=of_decide_eq_true (by assumption)
      have q392:x5_2 < (l1_6.length:Int):=of_decide_eq_true (by assumption)
      obtain⟨ad392,A392_4,c392_4,A392_6,c392_6,e392,hx392_0,hx392_1,hx392_2,hx392_3,hx392_4,hx392_5,hx392_6,hl392_4,hi392_4,hl392_6,hi392_6⟩:=at_T32 HR1_6.out x5_2 p392 q392
      cases e392
      replace hx392_0:=bc_ HB.out hx392_0
      replace hx392_1:=bc_ HB.out hx392_1
      replace hx392_2:=bc_ HB.out hx392_2
      replace hx392_3:=bc_ HB.out hx392_3
      replace hx392_4:=bc_ HB.out hx392_4
      replace hx392_5:=bc_ HB.out hx392_5
      replace hx392_6:=bc_ HB.out hx392_6
      have HR392_4:=Az.mk hi392_4
      have HC392_4:=Az.mk hl392_4
      clear hi392_4 hl392_4
      have HR392_6:=Az.mk hi392_6
      have HC392_6:=Az.mk hl392_6
      clear hi392_6 hl392_6
      replace p392:=eq_true p392
      replace q392:=eq_true q392
      obtain⟨hcz31_0,hcz31_1,hcz31_2,hcz31_3,hcz31_4,hfz31_0,hfz31_1,hfz31_2,hfz31_3,hfz31_4⟩:=cf5_ BK388.out
      have p393:0≤(a1_1:Int):=of_decide_eq_true (by assumption)
      have q393:a1_1 < (l0_3.length:Int):=of_decide_eq_true (by assumption)
      obtain⟨ad393,A393_1,c393_1,A393_2,c393_2,e393,hx393_0,hx393_1,hx393_2,hx393_3,hx393_4,hl393_1,hi393_1,hl393_2,hi393_2⟩:=at_T67 HR0_3.out a1_1 p393 q393
      cases e393
      replace hx393_0:=bc_ HB.out hx393_0
      replace hx393_1:=bc_ HB.out hx393_1
      replace hx393_2:=bc_ HB.out hx393_2
      replace hx393_3:=bc_ HB.out hx393_3
      replace hx393_4:=bc_ HB.out hx393_4
      have HR393_1:=Az.mk hi393_1
      have HC393_1:=Az.mk hl393_1
      clear hi393_1 hl393_1
      have HR393_2:=Az.mk hi393_2
      have HC393_2:=Az.mk hl393_2
      clear hi393_2 hl393_2
      replace p393:=eq_true p393
      replace q393:=eq_true q393
      have p394:0≤(x5_2:Int):=of_decide_eq_true (by assumption)
      have q394:x5_2 < (((rd_T67 l0_3 a1_1).f1).length:Int):=of_decide_eq_true (by assumption)
      obtain⟨ad394,e394,hx394_0⟩:=Kd.at_int HR393_1.out x5_2 p394 q394
      cases e394
      replace hx394_0:=bc_ HB.out hx394_0
      replace p394:=eq_true p394
      replace q394:=eq_true q394
      go_wp2
      repeat (go_quiet (fail);try go_wp2)
      go_roundg k2
      case measure=>have:=HJ2.out;have:=HK2.out;omega
      case rel=>exact⟨(wrap64 (x5_2 + 1)),(by first|rfl|(simp;done)|(simp [*];done)|(refine congrArg Value.bool ?_;exact isE_ _)),H',⟨by have:=HJ2.out;have:=HK2.out;omega⟩,⟨by(with_reducible repeat (first|refine kN_ ?_ _|refine kD_ ?_|refine kA_ ?_ _));exact BK388.out⟩,⟨by(with_reducible repeat (first|refine kN_ ?_ _|refine kD_ ?_|refine kA_ ?_ _));exact BK389.out⟩,⟨by repeat (first|(with_reducible first|exact HB.out|apply bA_|apply bN_|apply bD_|refine bS_ ?_ GE388.out|refine bS_ ?_ GE389.out)|exact HB.out)⟩⟩
     rw [if_neg c28] at H
     have c28b0:=beq_eq_false_iff_ne.mpr c28
     have c28b1:=bne_iff_ne.mpr c28
     obtain rfl:=Option.some.inj H
     have hnb32:=NB389_388.out
     have hnc32:=NB388_389.out
     obtain⟨hcz33_0,hcz33_1,hcz33_2,hcz33_3,hcz33_4,hcz33_5,hcz33_6,hfz33_0,hfz33_1,hfz33_2,hfz33_3,hfz33_4,hfz33_5,hfz33_6⟩:=cf7_ BK389.out
     have p392:0≤(x5_2:Int):=of_decide_eq_true (by assumption)
     have q392:x5_2 < (l1_6.length:Int):=of_decide_eq_true (by assumption)
     obtain⟨ad392,A392_4,c392_4,A392_6,c392_6,e392,hx392_0,hx392_1,hx392_2,hx392_3,hx392_4,hx392_5,hx392_6,hl392_4,hi392_4,hl392_6,hi392_6⟩:=at_T32 HR1_6.out x5_2 p392 q392
     cases e392
     replace hx392_0:=bc_ HB.out hx392_0
     replace hx392_1:=bc_ HB.out hx392_1
     replace hx392_2:=bc_ HB.out hx392_2
     replace hx392_3:=bc_ HB.out hx392_3
     replace hx392_4:=bc_ HB.out hx392_4
     replace hx392_5:=bc_ HB.out hx392_5
     replace hx392_6:=bc_ HB.out hx392_6
     have HR392_4:=Az.mk hi392_4
     have HC392_4:=Az.mk hl392_4
     clear hi392_4 hl392_4
     have HR392_6:=Az.mk hi392_6
     have HC392_6:=Az.mk hl392_6
     clear hi392_6 hl392_6
     replace p392:=eq_true p392
     replace q392:=eq_true q392
     obtain⟨hcz34_0,hcz34_1,hcz34_2,hcz34_3,hcz34_4,hfz34_0,hfz34_1,hfz34_2,hfz34_3,hfz34_4⟩:=cf5_ BK388.out
     have p393:0≤(a1_1:Int):=of_decide_eq_true (by assumption)
     have q393:a1_1 < (l0_3.length:Int):=of_decide_eq_true (by assumption)
     obtain⟨ad393,A393_1,c393_1,A393_2,c393_2,e393,hx393_0,hx393_1,hx393_2,hx393_3,hx393_4,hl393_1,hi393_1,hl393_2,hi393_2⟩:=at_T67 HR0_3.out a1_1 p393 q393
     cases e393
     replace hx393_0:=bc_ HB.out hx393_0
     replace hx393_1:=bc_ HB.out hx393_1
     replace hx393_2:=bc_ HB.out hx393_2
     replace hx393_3:=bc_ HB.out hx393_3
     replace hx393_4:=bc_ HB.out hx393_4
     have HR393_1:=Az.mk hi393_1
     have HC393_1:=Az.mk hl393_1
     clear hi393_1 hl393_1
     have HR393_2:=Az.mk hi393_2
     have HC393_2:=Az.mk hl393_2
     clear hi393_2 hl393_2
     replace p393:=eq_true p393
     replace q393:=eq_true q393
     have p394:0≤(x5_2:Int):=of_decide_eq_true (by assumption)
     have q394:x5_2 < (((rd_T67 l0_3 a1_1).f1).length:Int):=of_decide_eq_true (by assumption)
     obtain⟨ad394,e394,hx394_0⟩:=Kd.at_int HR393_1.out x5_2 p394 q394
     cases e394
     replace hx394_0:=bc_ HB.out hx394_0
     replace p394:=eq_true p394
     replace q394:=eq_true q394
     go_wp2
     repeat (go_quiet (fail);try go_wp2)
     go_ret
     exact⟨by first|rfl|(simp [errW_none,errW_some] <;> rfl)|(simp [*,errW_none,errW_some] <;> rfl),by repeat (first|(with_reducible first|exact HB.out|apply bA_|apply bN_|apply bD_|refine bS_ ?_ GE388.out|refine bS_ ?_ GE389.out)|exact HB.out)⟩
end Go.Proofs.Ytgdbcogbbghjaaa.Q
