import Derived.Test.YtgdbcogbbghjaaaQ0
import Derived.Test.YtgdbcogbbghjaaaQf37
import Derived.Test.YtgdbcogbbghjaaaQf38
import Derived.Test.YtgdbcogbbghjaaaQf39
namespace Go.Proofs.Ytgdbcogbbghjaaa.Q
open Go.RowKit Go.Proofs.YtgdbcogbbghjaaaW.PrintWords Go.Proofs.YtgdbcogbbghjaaaW.PrintLast Go.Proofs.YtgdbcogbbghjaaaW.PrintMore
attribute [local go_sem] max2_int min2_int max_two min_two max_three min_three max_four min_four   -- for this text's walks alone
set_option linter.unusedVariables false
set_option linter.unusedSimpArgs false
mutual
def arboristref42_Right.j0:Nat→Bool→List ByteArray→List ByteArray→List Int→List (S67)→List (S78)→Int→Int→Int→Int→List (S53)→ByteArray→List (S32)→Option (Bool)
 | 0,_,_,_,_,_,_,_,_,_,_,_,_,_=>none
 | k + 1,x12,x403000,x403001,x403002,x403003,x403004,x404000,x404001,x404002,x404003,x404004,x404005,x404006=>if x12=true then(some false)else(if x404000=(-1)then(if x404001=0 then(if x404003=0 then(if x404002 < 0 then(arboristref42_Right.j1 k true x403000 x403001 x403002 x403003 x403004 x404000 x404001 x404002 x404003 x404004 x404005 x404006)else(if (x404004.length:Int) > 0 then(arboristref42_Right.j1 k true x403000 x403001 x403002 x403003 x403004 x404000 x404001 x404002 x404003 x404004 x404005 x404006)else(if x404005.toList=([]:List UInt8)then(arboristref42_Right.j1 k ((x404006.length:Int) != 2) x403000 x403001 x403002 x403003 x403004 x404000 x404001 x404002 x404003 x404004 x404005 x404006)else(arboristref42_Right.j1 k true x403000 x403001 x403002 x403003 x403004 x404000 x404001 x404002 x404003 x404004 x404005 x404006))))else(arboristref42_Right.j1 k true x403000 x403001 x403002 x403003 x403004 x404000 x404001 x404002 x404003 x404004 x404005 x404006))else(arboristref42_Right.j1 k true x403000 x403001 x403002 x403003 x403004 x404000 x404001 x404002 x404003 x404004 x404005 x404006))else(arboristref42_Right.j1 k true x403000 x403001 x403002 x403003 x403004 x404000 x404001 x404002 x404003 x404004 x404005 x404006))
def arboristref42_Right.j1:Nat→Bool→List ByteArray→List ByteArray→List Int→List (S67)→List (S78)→Int→Int→Int→Int→List (S53)→ByteArray→List (S32)→Option (Bool)
 | 0,_,_,_,_,_,_,_,_,_,_,_,_,_=>none
 | k + 1,x47,x403000,x403001,x403002,x403003,x403004,x404000,x404001,x404002,x404003,x404004,x404005,x404006=>if x47=true then(some false)else(if 0 < (x404006.length:Int)then(if 0 < (x403003.length:Int)then(if 0 < (((rd_T67 x403003 0).f1).length:Int)then(if ((rd_T32 x404006 0).f0)=(rd ((rd_T67 x403003 0).f1) 0)then((arboristref42_within.f k x403000 x403001 x403002 x403003 x403004 ((rd_T32 x404006 0).f0) ((rd_T32 x404006 0).f1) ((rd_T32 x404006 0).f2) ((rd_T32 x404006 0).f3) ((rd_T32 x404006 0).f4) ((rd_T32 x404006 0).f5) ((rd_T32 x404006 0).f6) false).bind fun t410=>(if t410=true then(if 1 < (x404006.length:Int)then((arboristref42_within.f k x403000 x403001 x403002 x403003 x403004 ((rd_T32 x404006 1).f0) ((rd_T32 x404006 1).f1) ((rd_T32 x404006 1).f2) ((rd_T32 x404006 1).f3) ((rd_T32 x404006 1).f4) ((rd_T32 x404006 1).f5) ((rd_T32 x404006 1).f6) true).bind fun t412=>(some t412))else(none))else(some false)))else(some false))else(none))else(none))else(none))
end
def arboristref42_Right.f (k:Nat)(l0_0:List ByteArray)(l0_1:List ByteArray)(l0_2:List Int)(l0_3:List (S67))(l0_4:List (S78))(a1_0:Int)(a1_1:Int)(a1_2:Int)(a1_3:Int)(l1_4:List (S53))(a1_5:ByteArray)(l1_6:List (S32)):Option (Bool):=(arboristref15_Right.f k l0_0 l0_1 l0_2 l0_3 l0_4).bind fun t404=>(if t404=0 then((arboristref42_Size.f k a1_0 a1_1 a1_2 a1_3 l1_4 a1_5 l1_6).bind fun t405=>(arboristref42_Right.j0 k (decide (t405 > 65536)) l0_0 l0_1 l0_2 l0_3 l0_4 a1_0 a1_1 a1_2 a1_3 l1_4 a1_5 l1_6))else(arboristref42_Right.j0 k true l0_0 l0_1 l0_2 l0_3 l0_4 a1_0 a1_1 a1_2 a1_3 l1_4 a1_5 l1_6))
def arboristref42_Right.T5:Bool × List (List Nat × List Nat):=(true,[([],[]),([0],[0]),([1],[1]),([2],[2]),([3],[3]),([],[]),([5],[5]),([6],[6]),([7],[7]),([8],[8]),([9],[9]),([10],[10]),([4,11],[4,11]),([12],[12]),([13],[13]),([13],[13]),([15,13],[13,15]),([16,13],[13,16]),([17,13],[13,17]),([14,18,13,13],[13,14,18]),([13,19],[13,19]),([20,19],[20]),([21],[21]),([21],[21]),([23,21],[21,23]),([24,21],[21,24]),([25,21],[21,25]),([22,26,21,21],[21,22,26]),([21,27],[21,27]),([28,27,0,1,2,3,4,5,6,7,8,9,10,11,12,13,14,15,16,17,18,19,20,21,22,23,24,25,26,27,28],[28])])
def arboristref42_Right.B5:List Nat:=[0,1,3,7,15,0,32,96,224,480,992,2016,4095,8191,16383,16383,49151,114687,245759,524287,1048575,2097151,4194303,4194303,12582911,29360127,62914559,134217727,268435455,536870911]
theorem arboristref42_Right.tab5:rtab .any (opsOf Try.f26 5)=arboristref42_Right.T5:=by kernel_rfl
theorem arboristref42_Right.bits5:waitsOk arboristref42_Right.T5.2 arboristref42_Right.B5=true:=by kernel_rfl
set_option maxHeartbeats 8000000 in
set_option maxRecDepth 100000 in
theorem arboristref42_Right.calls (k:Nat)(A0_0:Option Addr)(c0_0:Nat)(l0_0:List ByteArray)(A0_1:Option Addr)(c0_1:Nat)(l0_1:List ByteArray)(A0_2:Option Addr)(c0_2:Nat)(l0_2:List Int)(A0_3:Option Addr)(c0_3:Nat)(l0_3:List (S67))(A0_4:Option Addr)(c0_4:Nat)(l0_4:List (S78))(a1_0:Int)(a1_1:Int)(a1_2:Int)(a1_3:Int)(A1_4:Option Addr)(c1_4:Nat)(l1_4:List (S53))(a1_5:ByteArray)(A1_6:Option Addr)(c1_6:Nat)(l1_6:List (S32))(r:Bool)(w:World)(hr0_0:Kd.C Kd.string w A0_0 l0_0.length l0_0)(hc0_0:l0_0.length≤c0_0)(hr0_1:Kd.C Kd.string w A0_1 l0_1.length l0_1)(hc0_1:l0_1.length≤c0_1)(hr0_2:Kd.C (Kd.int .i64) w A0_2 l0_2.length l0_2)(hc0_2:l0_2.length≤c0_2)(hr0_3:Kd.C k67 w A0_3 l0_3.length l0_3)(hc0_3:l0_3.length≤c0_3)(hr0_4:Kd.C k78 w A0_4 l0_4.length l0_4)(hc0_4:l0_4.length≤c0_4)(hr1_4:Kd.C k53 w A1_4 l1_4.length l1_4)(hc1_4:l1_4.length≤c1_4)(hr1_6:Kd.C k32 w A1_6 l1_6.length l1_6)(hc1_6:l1_6.length≤c1_6)(h:arboristref42_Right.f k l0_0 l0_1 l0_2 l0_3 l0_4 a1_0 a1_1 a1_2 a1_3 l1_4 a1_5 l1_6=some r) :
  Calls Try.prog 26 #[.agg #[.slice A0_0 l0_0.length c0_0,.slice A0_1 l0_1.length c0_1,.slice A0_2 l0_2.length c0_2,.slice A0_3 l0_3.length c0_3,.slice A0_4 l0_4.length c0_4],.agg #[.int .i64 a1_0,.int .i64 a1_1,.int .i64 a1_2,.int .i64 a1_3,.slice A1_4 l1_4.length c1_4,.string a1_5,.slice A1_6 l1_6.length c1_6]] w fun e w'=>e=.returned (.bool r)∧Below w.heap.size w w':=by
 have hu27:=Try.underlying27
 have hu32:=Try.underlying32
 have HR0_0:=Az.mk hr0_0
 have HC0_0:=Az.mk hc0_0
 clear hr0_0 hc0_0
 have HR0_1:=Az.mk hr0_1
 have HC0_1:=Az.mk hc0_1
 clear hr0_1 hc0_1
 have HR0_2:=Az.mk hr0_2
 have HC0_2:=Az.mk hc0_2
 clear hr0_2 hc0_2
 have HR0_3:=Az.mk hr0_3
 have HC0_3:=Az.mk hc0_3
 clear hr0_3 hc0_3
 have HR0_4:=Az.mk hr0_4
 have HC0_4:=Az.mk hc0_4
 clear hr0_4 hc0_4
 have HR1_4:=Az.mk hr1_4
 have HC1_4:=Az.mk hc1_4
 clear hr1_4 hc1_4
 have HR1_6:=Az.mk hr1_6
 have HC1_6:=Az.mk hc1_6
 clear hr1_6 hc1_6
 have HB:=Az.mk (Below.refl w.heap.size w)
 have H:((arboristref15_Right.f k l0_0 l0_1 l0_2 l0_3 l0_4).bind fun t404=>(if t404=0 then((arboristref42_Size.f k a1_0 a1_1 a1_2 a1_3 l1_4 a1_5 l1_6).bind fun t405=>(arboristref42_Right.j0 k (decide (t405 > 65536)) l0_0 l0_1 l0_2 l0_3 l0_4 a1_0 a1_1 a1_2 a1_3 l1_4 a1_5 l1_6))else(arboristref42_Right.j0 k true l0_0 l0_1 l0_2 l0_3 l0_4 a1_0 a1_1 a1_2 a1_3 l1_4 a1_5 l1_6)))=some r:=h
 clear h
 have HC3:=Az.mk H
 clear H
 go_enter Try.func26,Try.ntmps26
 go_upto_region 1 with(first|((with_reducible refine gate_dst (N:=2) rfl ?_);(try (refine gate_guard (by rfl) ?_;dsimp only));refine box_event ?hg (N:=2) ?hd (cs:=#[.slice A0_0 l0_0.length c0_0,.slice A0_1 l0_1.length c0_1,.slice A0_2 l0_2.length c0_2,.slice A0_3 l0_3.length c0_3,.slice A0_4 l0_4.length c0_4]) (t:=27) ?hr ?_;(case hd=>rfl);(case hg=>rfl);(case hr=>first|(go_simp;done)|(go_simp;rfl));intro gb402 hg w4 hbox hb;have n0_:=Az.mk (bT_ HB.out hb);have n1_:=Az.mk (hbox);have n2_:=Az.mk ((szl_ HB.out hg));have n3_:=Az.mk ((szl_ HB.out hg));clear HB;have HB:=n0_;have BK402:=n1_;have GW402:=n2_;have GE402:=n3_;clear n0_ n1_ n2_ n3_;clear hb hbox hg)|((with_reducible refine gate_dst (N:=3) rfl ?_);(try (refine gate_guard (by rfl) ?_;dsimp only));refine box_event ?hg (N:=3) ?hd (cs:=#[.int .i64 a1_0,.int .i64 a1_1,.int .i64 a1_2,.int .i64 a1_3,.slice A1_4 l1_4.length c1_4,.string a1_5,.slice A1_6 l1_6.length c1_6]) (t:=32) ?hr ?_;(case hd=>rfl);(case hg=>rfl);(case hr=>first|(go_simp;done)|(go_simp;rfl));intro gb403 hg w5 hbox hb;have n0_:=Az.mk (kB_ BK402.out hb);have n1_:=Az.mk (bT_ HB.out hb);have n2_:=Az.mk (hbox);have n3_:=Az.mk ((szl_ HB.out hg));have n4_:=Az.mk ((szl_ HB.out hg));have n5_:=Az.mk ((nel_ BK402.out hg));have n6_:=Az.mk ((ner_ BK402.out hg));clear BK402;clear HB;have BK402:=n0_;have HB:=n1_;have BK403:=n2_;have GW403:=n3_;have GE403:=n4_;have NB402_403:=n5_;have NB403_402:=n6_;clear n0_ n1_ n2_ n3_ n4_ n5_ n6_;clear hb hbox hg))
 (try simp only [Act.put,sT_,s0_,sC_])
 go_cut [12] (fun v12 wc=>∃ (kq:Nat) (x12_2:Bool),v12=.bool x12_2∧Az (arboristref42_Right.j0 kq x12_2 l0_0 l0_1 l0_2 l0_3 l0_4 a1_0 a1_1 a1_2 a1_3 l1_4 a1_5 l1_6=some r)∧Az (kq≤k)∧Az (wc.heap[gb402]?=some (.cells #[(.slice A0_0 l0_0.length c0_0),(.slice A0_1 l0_1.length c0_1),(.slice A0_2 l0_2.length c0_2),(.slice A0_3 l0_3.length c0_3),(.slice A0_4 l0_4.length c0_4)] 27 (0,0)))∧Az (wc.heap[gb403]?=some (.cells #[.int .i64 a1_0,.int .i64 a1_1,.int .i64 a1_2,.int .i64 a1_3,(.slice A1_4 l1_4.length c1_4),.string a1_5,(.slice A1_6 l1_6.length c1_6)] 32 (0,0)))∧Az (Below w.heap.size w wc))
 case first =>
  have H:=HC3.out
  clear HC3
  replace H:=Option.bind_eq_some_iff.mp H
  obtain⟨t404,A60,H⟩:=H
  replace H:(if t404=0 then((arboristref42_Size.f k a1_0 a1_1 a1_2 a1_3 l1_4 a1_5 l1_6).bind fun t405=>(arboristref42_Right.j0 k (decide (t405 > 65536)) l0_0 l0_1 l0_2 l0_3 l0_4 a1_0 a1_1 a1_2 a1_3 l1_4 a1_5 l1_6))else(arboristref42_Right.j0 k true l0_0 l0_1 l0_2 l0_3 l0_4 a1_0 a1_1 a1_2 a1_3 l1_4 a1_5 l1_6))=some r:=H
  have A6:=Az.mk A60
  clear A60
  by_cases c7:t404=0
  ·rw [if_pos c7] at H
   have c7b0:=beq_iff_eq.mpr c7
   have c7b1:=bne_eq_false_iff_eq.mpr c7
   clear c7
   (first|rw [c7b0]|(simp only [i64_w,i32_w];rw [c7b0])|skip)
   replace H:=Option.bind_eq_some_iff.mp H
   obtain⟨t405,A80,H⟩:=H
   replace H:(arboristref42_Right.j0 k (decide (t405 > 65536)) l0_0 l0_1 l0_2 l0_3 l0_4 a1_0 a1_1 a1_2 a1_3 l1_4 a1_5 l1_6)=some r:=H
   have A8:=Az.mk A80
   clear A80
   have H':=Az.mk H
   clear H
   have hnb9:=NB402_403.out
   have hnc9:=NB403_402.out
   obtain⟨hcz10_0,hcz10_1,hcz10_2,hcz10_3,hcz10_4,hfz10_0,hfz10_1,hfz10_2,hfz10_3,hfz10_4⟩:=cf5_ BK402.out
   go_wp2_with (first|((with_reducible refine gate_callee (f:=37) rfl ?_);refine goesL_ (some 6) rfl rfl Try.func37 (by kernel_rfl) rfl #[.agg #[.slice A0_0 l0_0.length c0_0,.slice A0_1 l0_1.length c0_1,.slice A0_2 l0_2.length c0_2,.slice A0_3 l0_3.length c0_3,.slice A0_4 l0_4.length c0_4]] rfl (by(try simp only [List.map_toArray,List.map_cons,List.map_nil]);first|done|rfl|(simp only [List.length_drop,List.length_take];rfl)) ?_;(with_reducible refine(arboristref15_Right.calls k _ _ l0_0 _ _ l0_1 _ _ l0_2 _ _ l0_3 _ _ l0_4 t404 _ ?side1 ?side2 ?side3 ?side4 ?side5 ?side6 ?side7 ?side8 ?side9 ?side10 A6.out).mono ?_);(case side1=>repeat (first|exact(Kd.C_below HR0_0.out HB.out)|(with_reducible first|refine Kd.C_alloc ?_ _|refine Kd.C_drewN ?_ _|refine Kd.C_drew ?_)));(case side2=>exact HC0_0.out);(case side3=>repeat (first|exact(Kd.C_below HR0_1.out HB.out)|(with_reducible first|refine Kd.C_alloc ?_ _|refine Kd.C_drewN ?_ _|refine Kd.C_drew ?_)));(case side4=>exact HC0_1.out);(case side5=>repeat (first|exact(Kd.C_below HR0_2.out HB.out)|(with_reducible first|refine Kd.C_alloc ?_ _|refine Kd.C_drewN ?_ _|refine Kd.C_drew ?_)));(case side6=>exact HC0_2.out);(case side7=>repeat (first|exact(Kd.C_below HR0_3.out HB.out)|(with_reducible first|refine Kd.C_alloc ?_ _|refine Kd.C_drewN ?_ _|refine Kd.C_drew ?_)));(case side8=>exact HC0_3.out);(case side9=>repeat (first|exact(Kd.C_below HR0_4.out HB.out)|(with_reducible first|refine Kd.C_alloc ?_ _|refine Kd.C_drewN ?_ _|refine Kd.C_drew ?_)));(case side10=>exact HC0_4.out);rintro e w11 ⟨rfl,hb⟩;refine⟨_,rfl,?_⟩;have n0_:=Az.mk (kB_ BK402.out hb);have n1_:=Az.mk (kB_ BK403.out hb);have n2_:=Az.mk (bT_ HB.out hb);clear BK402;clear BK403;clear HB;have BK402:=n0_;have BK403:=n1_;have HB:=n2_;clear n0_ n1_ n2_;(try clear hb);(try clear hb2);(try clear hk);(try clear hi);obtain⟨hcz12_0,hcz12_1,hcz12_2,hcz12_3,hcz12_4,hcz12_5,hcz12_6,hfz12_0,hfz12_1,hfz12_2,hfz12_3,hfz12_4,hfz12_5,hfz12_6⟩:=cf7_ BK403.out)|(go_at_call 38;(with_reducible refine(arboristref42_Size.calls k a1_0 a1_1 a1_2 a1_3 _ _ l1_4 a1_5 _ _ l1_6 t405 _ ?side1 ?side2 ?side3 ?side4 A8.out).mono ?_);(case side1=>repeat (first|exact(Kd.C_below HR1_4.out HB.out)|(with_reducible first|refine Kd.C_alloc ?_ _|refine Kd.C_drewN ?_ _|refine Kd.C_drew ?_)));(case side2=>exact HC1_4.out);(case side3=>repeat (first|exact(Kd.C_below HR1_6.out HB.out)|(with_reducible first|refine Kd.C_alloc ?_ _|refine Kd.C_drewN ?_ _|refine Kd.C_drew ?_)));(case side4=>exact HC1_6.out);rintro e w13 ⟨rfl,hb⟩;have n0_:=Az.mk (kB_ BK402.out hb);have n1_:=Az.mk (kB_ BK403.out hb);have n2_:=Az.mk (bT_ HB.out hb);clear BK402;clear BK403;clear HB;have BK402:=n0_;have BK403:=n1_;have HB:=n2_;clear n0_ n1_ n2_;(try clear hb);(try clear hb2);(try clear hk);(try clear hi)))
   go_meet
   case rel=>exact⟨_,(decide (t405 > 65536)),(by first|rfl|(simp;done)|(simp [*];done)|(refine congrArg Value.bool ?_;exact isE_ _)),H',⟨by first|omega|exact Nat.le_refl _⟩,⟨by(with_reducible repeat (first|refine kN_ ?_ _|refine kD_ ?_|refine kA_ ?_ _));exact BK402.out⟩,⟨by(with_reducible repeat (first|refine kN_ ?_ _|refine kD_ ?_|refine kA_ ?_ _));exact BK403.out⟩,⟨by repeat (first|(with_reducible first|exact HB.out|apply bA_|apply bN_|apply bD_|refine bS_ ?_ GE402.out|refine bS_ ?_ GE403.out)|exact HB.out)⟩⟩
  rw [if_neg c7] at H
  have c7b0:=beq_eq_false_iff_ne.mpr c7
  have c7b1:=bne_iff_ne.mpr c7
  (first|rw [c7b0]|(simp only [i64_w,i32_w];rw [c7b0])|skip)
  have H':=Az.mk H
  clear H
  have hnb14:=NB402_403.out
  have hnc14:=NB403_402.out
  obtain⟨hcz15_0,hcz15_1,hcz15_2,hcz15_3,hcz15_4,hfz15_0,hfz15_1,hfz15_2,hfz15_3,hfz15_4⟩:=cf5_ BK402.out
  go_wp2_with (first|((with_reducible refine gate_callee (f:=37) rfl ?_);refine goesL_ (some 6) rfl rfl Try.func37 (by kernel_rfl) rfl #[.agg #[.slice A0_0 l0_0.length c0_0,.slice A0_1 l0_1.length c0_1,.slice A0_2 l0_2.length c0_2,.slice A0_3 l0_3.length c0_3,.slice A0_4 l0_4.length c0_4]] rfl (by(try simp only [List.map_toArray,List.map_cons,List.map_nil]);first|done|rfl|(simp only [List.length_drop,List.length_take];rfl)) ?_;(with_reducible refine(arboristref15_Right.calls k _ _ l0_0 _ _ l0_1 _ _ l0_2 _ _ l0_3 _ _ l0_4 t404 _ ?side1 ?side2 ?side3 ?side4 ?side5 ?side6 ?side7 ?side8 ?side9 ?side10 A6.out).mono ?_);(case side1=>repeat (first|exact(Kd.C_below HR0_0.out HB.out)|(with_reducible first|refine Kd.C_alloc ?_ _|refine Kd.C_drewN ?_ _|refine Kd.C_drew ?_)));(case side2=>exact HC0_0.out);(case side3=>repeat (first|exact(Kd.C_below HR0_1.out HB.out)|(with_reducible first|refine Kd.C_alloc ?_ _|refine Kd.C_drewN ?_ _|refine Kd.C_drew ?_)));(case side4=>exact HC0_1.out);(case side5=>repeat (first|exact(Kd.C_below HR0_2.out HB.out)|(with_reducible first|refine Kd.C_alloc ?_ _|refine Kd.C_drewN ?_ _|refine Kd.C_drew ?_)));(case side6=>exact HC0_2.out);(case side7=>repeat (first|exact(Kd.C_below HR0_3.out HB.out)|(with_reducible first|refine Kd.C_alloc ?_ _|refine Kd.C_drewN ?_ _|refine Kd.C_drew ?_)));(case side8=>exact HC0_3.out);(case side9=>repeat (first|exact(Kd.C_below HR0_4.out HB.out)|(with_reducible first|refine Kd.C_alloc ?_ _|refine Kd.C_drewN ?_ _|refine Kd.C_drew ?_)));(case side10=>exact HC0_4.out);rintro e w16 ⟨rfl,hb⟩;refine⟨_,rfl,?_⟩;have n0_:=Az.mk (kB_ BK402.out hb);have n1_:=Az.mk (kB_ BK403.out hb);have n2_:=Az.mk (bT_ HB.out hb);clear BK402;clear BK403;clear HB;have BK402:=n0_;have BK403:=n1_;have HB:=n2_;clear n0_ n1_ n2_;(try clear hb);(try clear hb2);(try clear hk);(try clear hi)))
  go_meet
  case rel=>exact⟨_,(true),(by first|rfl|(simp;done)|(simp [*];done)|(refine congrArg Value.bool ?_;exact isE_ _)),H',⟨by first|omega|exact Nat.le_refl _⟩,⟨by(with_reducible repeat (first|refine kN_ ?_ _|refine kD_ ?_|refine kA_ ?_ _));exact BK402.out⟩,⟨by(with_reducible repeat (first|refine kN_ ?_ _|refine kD_ ?_|refine kA_ ?_ _));exact BK403.out⟩,⟨by repeat (first|(with_reducible first|exact HB.out|apply bA_|apply bN_|apply bD_|refine bS_ ?_ GE402.out|refine bS_ ?_ GE403.out)|exact HB.out)⟩⟩
 case rest =>
  clear HC3
  try clear c1
  try clear c2
  try clear p2
  try clear c3
  try clear c7
  try clear c7b0
  try clear c7b1
  try clear c9
  try clear c14
  try clear hcz10_0 hcz10_1 hcz10_2 hcz10_3 hcz10_4 hfz10_0 hfz10_1 hfz10_2 hfz10_3 hfz10_4
  try clear hcz12_0 hcz12_1 hcz12_2 hcz12_3 hcz12_4 hcz12_5 hcz12_6 hfz12_0 hfz12_1 hfz12_2 hfz12_3 hfz12_4 hfz12_5 hfz12_6
  try clear hcz15_0 hcz15_1 hcz15_2 hcz15_3 hcz15_4 hfz15_0 hfz15_1 hfz15_2 hfz15_3 hfz15_4
  obtain⟨kq,x12_2,rfl,HA,HJ2,BK402,BK403,HB⟩:=hcut
  cases kq with
  | zero=>exact absurd HA.out (by simp [arboristref42_Right.j0])
  | succ kj2 =>
   have H:=HA.out
   clear HA
   simp only [arboristref42_Right.j0] at H
   by_cases c17:x12_2=true
   ·subst c17
    have H1:(some false)=some r:=by rw [if_pos rfl] at H;exact H
    clear H
    have H:=H1
    clear H1
    obtain rfl:=Option.some.inj H
    go_wp2
    go_ret
    exact⟨by first|rfl|(simp [errW_none,errW_some] <;> rfl)|(simp [*,errW_none,errW_some] <;> rfl),by repeat (first|(with_reducible first|exact HB.out|apply bA_|apply bN_|apply bD_|refine bS_ ?_ GE402.out|refine bS_ ?_ GE403.out)|exact HB.out)⟩
   replace c17:=Bool.eq_false_iff.mpr c17
   subst c17
   have H1:(if a1_0=(-1)then(if a1_1=0 then(if a1_3=0 then(if a1_2 < 0 then(arboristref42_Right.j1 kj2 true l0_0 l0_1 l0_2 l0_3 l0_4 a1_0 a1_1 a1_2 a1_3 l1_4 a1_5 l1_6)else(if (l1_4.length:Int) > 0 then(arboristref42_Right.j1 kj2 true l0_0 l0_1 l0_2 l0_3 l0_4 a1_0 a1_1 a1_2 a1_3 l1_4 a1_5 l1_6)else(if a1_5.toList=([]:List UInt8)then(arboristref42_Right.j1 kj2 ((l1_6.length:Int) != 2) l0_0 l0_1 l0_2 l0_3 l0_4 a1_0 a1_1 a1_2 a1_3 l1_4 a1_5 l1_6)else(arboristref42_Right.j1 kj2 true l0_0 l0_1 l0_2 l0_3 l0_4 a1_0 a1_1 a1_2 a1_3 l1_4 a1_5 l1_6))))else(arboristref42_Right.j1 kj2 true l0_0 l0_1 l0_2 l0_3 l0_4 a1_0 a1_1 a1_2 a1_3 l1_4 a1_5 l1_6))else(arboristref42_Right.j1 kj2 true l0_0 l0_1 l0_2 l0_3 l0_4 a1_0 a1_1 a1_2 a1_3 l1_4 a1_5 l1_6))else(arboristref42_Right.j1 kj2 true l0_0 l0_1 l0_2 l0_3 l0_4 a1_0 a1_1 a1_2 a1_3 l1_4 a1_5 l1_6))=some r:=by rw [if_neg (show ¬ (false=true) by decide)] at H;exact H
   clear H
   have H:=H1
   clear H1
   have HC18:=Az.mk H
   clear H
   go_upto_region 3 with(fail)
   go_cut [47] (fun v47 wc=>∃ (kq:Nat) (x47_17:Bool),v47=.bool x47_17∧Az (arboristref42_Right.j1 kq x47_17 l0_0 l0_1 l0_2 l0_3 l0_4 a1_0 a1_1 a1_2 a1_3 l1_4 a1_5 l1_6=some r)∧Az (kq≤kj2)∧Az (wc.heap[gb402]?=some (.cells #[(.slice A0_0 l0_0.length c0_0),(.slice A0_1 l0_1.length c0_1),(.slice A0_2 l0_2.length c0_2),(.slice A0_3 l0_3.length c0_3),(.slice A0_4 l0_4.length c0_4)] 27 (0,0)))∧Az (wc.heap[gb403]?=some (.cells #[.int .i64 a1_0,.int .i64 a1_1,.int .i64 a1_2,.int .i64 a1_3,(.slice A1_4 l1_4.length c1_4),.string a1_5,(.slice A1_6 l1_6.length c1_6)] 32 (0,0)))∧Az (Below w.heap.size w wc))
   case first =>
    have H:=HC18.out
    clear HC18
    by_cases c19:a1_0=(-1)
    rotate_left
    ·rw [if_neg c19] at H
     have c19b0:=beq_eq_false_iff_ne.mpr c19
     have c19b1:=bne_iff_ne.mpr c19
     (first|rw [c19b0]|(simp only [i64_w,i32_w];rw [c19b0])|skip)
     have H':=Az.mk H
     clear H
     have hnb37:=NB403_402.out
     have hnc37:=NB402_403.out
     obtain⟨hcz38_0,hcz38_1,hcz38_2,hcz38_3,hcz38_4,hcz38_5,hcz38_6,hfz38_0,hfz38_1,hfz38_2,hfz38_3,hfz38_4,hfz38_5,hfz38_6⟩:=cf7_ BK403.out
     go_wp2
     go_meet
     case rel=>exact⟨_,(true),(by first|rfl|(simp;done)|(simp [*];done)|(refine congrArg Value.bool ?_;exact isE_ _)),H',⟨by have:=HJ2.out;first|omega|exact Nat.le_refl _⟩,⟨by(with_reducible repeat (first|refine kN_ ?_ _|refine kD_ ?_|refine kA_ ?_ _));exact BK402.out⟩,⟨by(with_reducible repeat (first|refine kN_ ?_ _|refine kD_ ?_|refine kA_ ?_ _));exact BK403.out⟩,⟨by repeat (first|(with_reducible first|exact HB.out|apply bA_|apply bN_|apply bD_|refine bS_ ?_ GE402.out|refine bS_ ?_ GE403.out)|exact HB.out)⟩⟩
    rw [if_pos c19] at H
    have c19b0:=beq_iff_eq.mpr c19
    have c19b1:=bne_eq_false_iff_eq.mpr c19
    clear c19
    (first|rw [c19b0]|(simp only [i64_w,i32_w];rw [c19b0])|skip)
    by_cases c20:a1_1=0
    rotate_left
    ·rw [if_neg c20] at H
     have c20b0:=beq_eq_false_iff_ne.mpr c20
     have c20b1:=bne_iff_ne.mpr c20
     have H':=Az.mk H
     clear H
     have hnb35:=NB403_402.out
     have hnc35:=NB402_403.out
     obtain⟨hcz36_0,hcz36_1,hcz36_2,hcz36_3,hcz36_4,hcz36_5,hcz36_6,hfz36_0,hfz36_1,hfz36_2,hfz36_3,hfz36_4,hfz36_5,hfz36_6⟩:=cf7_ BK403.out
     go_wp2
     go_meet
     case rel=>exact⟨_,(true),(by first|rfl|(simp;done)|(simp [*];done)|(refine congrArg Value.bool ?_;exact isE_ _)),H',⟨by have:=HJ2.out;first|omega|exact Nat.le_refl _⟩,⟨by(with_reducible repeat (first|refine kN_ ?_ _|refine kD_ ?_|refine kA_ ?_ _));exact BK402.out⟩,⟨by(with_reducible repeat (first|refine kN_ ?_ _|refine kD_ ?_|refine kA_ ?_ _));exact BK403.out⟩,⟨by repeat (first|(with_reducible first|exact HB.out|apply bA_|apply bN_|apply bD_|refine bS_ ?_ GE402.out|refine bS_ ?_ GE403.out)|exact HB.out)⟩⟩
    rw [if_pos c20] at H
    have c20b0:=beq_iff_eq.mpr c20
    have c20b1:=bne_eq_false_iff_eq.mpr c20
    clear c20
    by_cases c21:a1_3=0
    rotate_left
    ·rw [if_neg c21] at H
     have c21b0:=beq_eq_false_iff_ne.mpr c21
     have c21b1:=bne_iff_ne.mpr c21
     have H':=Az.mk H
     clear H
     have hnb33:=NB403_402.out
     have hnc33:=NB402_403.out
     obtain⟨hcz34_0,hcz34_1,hcz34_2,hcz34_3,hcz34_4,hcz34_5,hcz34_6,hfz34_0,hfz34_1,hfz34_2,hfz34_3,hfz34_4,hfz34_5,hfz34_6⟩:=cf7_ BK403.out
     go_wp2
     go_meet
     case rel=>exact⟨_,(true),(by first|rfl|(simp;done)|(simp [*];done)|(refine congrArg Value.bool ?_;exact isE_ _)),H',⟨by have:=HJ2.out;first|omega|exact Nat.le_refl _⟩,⟨by(with_reducible repeat (first|refine kN_ ?_ _|refine kD_ ?_|refine kA_ ?_ _));exact BK402.out⟩,⟨by(with_reducible repeat (first|refine kN_ ?_ _|refine kD_ ?_|refine kA_ ?_ _));exact BK403.out⟩,⟨by repeat (first|(with_reducible first|exact HB.out|apply bA_|apply bN_|apply bD_|refine bS_ ?_ GE402.out|refine bS_ ?_ GE403.out)|exact HB.out)⟩⟩
    rw [if_pos c21] at H
    have c21b0:=beq_iff_eq.mpr c21
    have c21b1:=bne_eq_false_iff_eq.mpr c21
    clear c21
    by_cases c22:a1_2 < 0
    ·rw [if_pos c22] at H
     have c22b0:=decide_eq_true c22
     clear c22
     have H':=Az.mk H
     clear H
     have hnb23:=NB403_402.out
     have hnc23:=NB402_403.out
     obtain⟨hcz24_0,hcz24_1,hcz24_2,hcz24_3,hcz24_4,hcz24_5,hcz24_6,hfz24_0,hfz24_1,hfz24_2,hfz24_3,hfz24_4,hfz24_5,hfz24_6⟩:=cf7_ BK403.out
     go_wp2
     go_meet
     case rel=>exact⟨_,(true),(by first|rfl|(simp;done)|(simp [*];done)|(refine congrArg Value.bool ?_;exact isE_ _)),H',⟨by have:=HJ2.out;first|omega|exact Nat.le_refl _⟩,⟨by(with_reducible repeat (first|refine kN_ ?_ _|refine kD_ ?_|refine kA_ ?_ _));exact BK402.out⟩,⟨by(with_reducible repeat (first|refine kN_ ?_ _|refine kD_ ?_|refine kA_ ?_ _));exact BK403.out⟩,⟨by repeat (first|(with_reducible first|exact HB.out|apply bA_|apply bN_|apply bD_|refine bS_ ?_ GE402.out|refine bS_ ?_ GE403.out)|exact HB.out)⟩⟩
    rw [if_neg c22] at H
    have c22b0:=decide_eq_false c22
    clear c22
    by_cases c25:(l1_4.length:Int) > 0
    ·rw [if_pos c25] at H
     have c25b0:=decide_eq_true c25
     have c25b1:decide (0 < l1_4.length)=true:=decide_eq_true (by omega)
     clear c25
     have H':=Az.mk H
     clear H
     have hnb26:=NB403_402.out
     have hnc26:=NB402_403.out
     obtain⟨hcz27_0,hcz27_1,hcz27_2,hcz27_3,hcz27_4,hcz27_5,hcz27_6,hfz27_0,hfz27_1,hfz27_2,hfz27_3,hfz27_4,hfz27_5,hfz27_6⟩:=cf7_ BK403.out
     go_wp2
     go_meet
     case rel=>exact⟨_,(true),(by first|rfl|(simp;done)|(simp [*];done)|(refine congrArg Value.bool ?_;exact isE_ _)),H',⟨by have:=HJ2.out;first|omega|exact Nat.le_refl _⟩,⟨by(with_reducible repeat (first|refine kN_ ?_ _|refine kD_ ?_|refine kA_ ?_ _));exact BK402.out⟩,⟨by(with_reducible repeat (first|refine kN_ ?_ _|refine kD_ ?_|refine kA_ ?_ _));exact BK403.out⟩,⟨by repeat (first|(with_reducible first|exact HB.out|apply bA_|apply bN_|apply bD_|refine bS_ ?_ GE402.out|refine bS_ ?_ GE403.out)|exact HB.out)⟩⟩
    rw [if_neg c25] at H
    have c25b0:=decide_eq_false c25
    have c25b1:decide (0 < l1_4.length)=false:=decide_eq_false (by omega)
    clear c25
    by_cases c28:a1_5.toList=([]:List UInt8)
    ·rw [if_pos c28] at H
     have c28b0:=beq_iff_eq.mpr c28
     have c28b2:(a1_5.toList).isEmpty=true:=(show ∀ l_:List UInt8,(l_ == [])=true→l_.isEmpty=true from fun l_ h_=>by cases l_ <;> first|rfl|cases h_) _ c28b0
     have c28b3:(!(a1_5.toList).isEmpty)=false:=by rw [c28b2];rfl
     have c28b1:=bne_eq_false_iff_eq.mpr c28
     clear c28
     have H':=Az.mk H
     clear H
     have hnb29:=NB403_402.out
     have hnc29:=NB402_403.out
     obtain⟨hcz30_0,hcz30_1,hcz30_2,hcz30_3,hcz30_4,hcz30_5,hcz30_6,hfz30_0,hfz30_1,hfz30_2,hfz30_3,hfz30_4,hfz30_5,hfz30_6⟩:=cf7_ BK403.out
     go_wp2
     go_meet
     case rel=>exact⟨_,(((l1_6.length:Int) != 2)),(by first|rfl|(simp;done)|(simp [*];done)|(refine congrArg Value.bool ?_;exact isE_ _)),H',⟨by have:=HJ2.out;first|omega|exact Nat.le_refl _⟩,⟨by(with_reducible repeat (first|refine kN_ ?_ _|refine kD_ ?_|refine kA_ ?_ _));exact BK402.out⟩,⟨by(with_reducible repeat (first|refine kN_ ?_ _|refine kD_ ?_|refine kA_ ?_ _));exact BK403.out⟩,⟨by repeat (first|(with_reducible first|exact HB.out|apply bA_|apply bN_|apply bD_|refine bS_ ?_ GE402.out|refine bS_ ?_ GE403.out)|exact HB.out)⟩⟩
    rw [if_neg c28] at H
    have c28b0:=beq_eq_false_iff_ne.mpr c28
    have c28b2:(a1_5.toList).isEmpty=false:=(show ∀ l_:List UInt8,(l_ == [])=false→l_.isEmpty=false from fun l_ h_=>by cases l_ <;> first|rfl|cases h_) _ c28b0
    have c28b3:(!(a1_5.toList).isEmpty)=true:=by rw [c28b2];rfl
    have c28b1:=bne_iff_ne.mpr c28
    have H':=Az.mk H
    clear H
    have hnb31:=NB403_402.out
    have hnc31:=NB402_403.out
    obtain⟨hcz32_0,hcz32_1,hcz32_2,hcz32_3,hcz32_4,hcz32_5,hcz32_6,hfz32_0,hfz32_1,hfz32_2,hfz32_3,hfz32_4,hfz32_5,hfz32_6⟩:=cf7_ BK403.out
    go_wp2
    go_meet
    case rel=>exact⟨_,(true),(by first|rfl|(simp;done)|(simp [*];done)|(refine congrArg Value.bool ?_;exact isE_ _)),H',⟨by have:=HJ2.out;first|omega|exact Nat.le_refl _⟩,⟨by(with_reducible repeat (first|refine kN_ ?_ _|refine kD_ ?_|refine kA_ ?_ _));exact BK402.out⟩,⟨by(with_reducible repeat (first|refine kN_ ?_ _|refine kD_ ?_|refine kA_ ?_ _));exact BK403.out⟩,⟨by repeat (first|(with_reducible first|exact HB.out|apply bA_|apply bN_|apply bD_|refine bS_ ?_ GE402.out|refine bS_ ?_ GE403.out)|exact HB.out)⟩⟩
   case rest =>
    clear HC18
    try clear c1
    try clear c2
    try clear p2 p2
    try clear c3
    try clear c7
    try clear c7b0
    try clear c7b1
    try clear c9
    try clear c14
    try clear c17
    try clear c19
    try clear c19b0
    try clear c19b1
    try clear c20
    try clear c20b0
    try clear c20b1
    try clear c21
    try clear c21b0
    try clear c21b1
    try clear c22
    try clear c22b0
    try clear c23
    try clear c25
    try clear c25b0
    try clear c25b1
    try clear c26
    try clear c28
    try clear c28b0
    try clear c28b1
    try clear c29
    try clear c31
    try clear c33
    try clear c35
    try clear c37
    try clear hcz10_0 hcz10_1 hcz10_2 hcz10_3 hcz10_4 hfz10_0 hfz10_1 hfz10_2 hfz10_3 hfz10_4
    try clear hcz12_0 hcz12_1 hcz12_2 hcz12_3 hcz12_4 hcz12_5 hcz12_6 hfz12_0 hfz12_1 hfz12_2 hfz12_3 hfz12_4 hfz12_5 hfz12_6
    try clear hcz15_0 hcz15_1 hcz15_2 hcz15_3 hcz15_4 hfz15_0 hfz15_1 hfz15_2 hfz15_3 hfz15_4
    try clear hcz24_0 hcz24_1 hcz24_2 hcz24_3 hcz24_4 hcz24_5 hcz24_6 hfz24_0 hfz24_1 hfz24_2 hfz24_3 hfz24_4 hfz24_5 hfz24_6
    try clear hcz27_0 hcz27_1 hcz27_2 hcz27_3 hcz27_4 hcz27_5 hcz27_6 hfz27_0 hfz27_1 hfz27_2 hfz27_3 hfz27_4 hfz27_5 hfz27_6
    try clear hcz30_0 hcz30_1 hcz30_2 hcz30_3 hcz30_4 hcz30_5 hcz30_6 hfz30_0 hfz30_1 hfz30_2 hfz30_3 hfz30_4 hfz30_5 hfz30_6
    try clear hcz32_0 hcz32_1 hcz32_2 hcz32_3 hcz32_4 hcz32_5 hcz32_6 hfz32_0 hfz32_1 hfz32_2 hfz32_3 hfz32_4 hfz32_5 hfz32_6
    try clear hcz34_0 hcz34_1 hcz34_2 hcz34_3 hcz34_4 hcz34_5 hcz34_6 hfz34_0 hfz34_1 hfz34_2 hfz34_3 hfz34_4 hfz34_5 hfz34_6
    try clear hcz36_0 hcz36_1 hcz36_2 hcz36_3 hcz36_4 hcz36_5 hcz36_6 hfz36_0 hfz36_1 hfz36_2 hfz36_3 hfz36_4 hfz36_5 hfz36_6
    try clear hcz38_0 hcz38_1 hcz38_2 hcz38_3 hcz38_4 hcz38_5 hcz38_6 hfz38_0 hfz38_1 hfz38_2 hfz38_3 hfz38_4 hfz38_5 hfz38_6
    obtain⟨kq,x47_17,rfl,HA,HJ17,BK402,BK403,HB⟩:=hcut
    cases kq with
    | zero=>exact absurd HA.out (by simp [arboristref42_Right.j1])
    | succ kj17 =>
     have H:=HA.out
     clear HA
     simp only [arboristref42_Right.j1] at H
     by_cases c39:x47_17=true
     ·subst c39
      have H1:(some false)=some r:=by rw [if_pos rfl] at H;exact H
      clear H
      have H:=H1
      clear H1
      obtain rfl:=Option.some.inj H
      go_wp2
      go_ret
      exact⟨by first|rfl|(simp [errW_none,errW_some] <;> rfl)|(simp [*,errW_none,errW_some] <;> rfl),by repeat (first|(with_reducible first|exact HB.out|apply bA_|apply bN_|apply bD_|refine bS_ ?_ GE402.out|refine bS_ ?_ GE403.out)|exact HB.out)⟩
     replace c39:=Bool.eq_false_iff.mpr c39
     subst c39
     have H1:(if 0 < (l1_6.length:Int)then(if 0 < (l0_3.length:Int)then(if 0 < (((rd_T67 l0_3 0).f1).length:Int)then(if ((rd_T32 l1_6 0).f0)=(rd ((rd_T67 l0_3 0).f1) 0)then((arboristref42_within.f kj17 l0_0 l0_1 l0_2 l0_3 l0_4 ((rd_T32 l1_6 0).f0) ((rd_T32 l1_6 0).f1) ((rd_T32 l1_6 0).f2) ((rd_T32 l1_6 0).f3) ((rd_T32 l1_6 0).f4) ((rd_T32 l1_6 0).f5) ((rd_T32 l1_6 0).f6) false).bind fun t410=>(if t410=true then(if 1 < (l1_6.length:Int)then((arboristref42_within.f kj17 l0_0 l0_1 l0_2 l0_3 l0_4 ((rd_T32 l1_6 1).f0) ((rd_T32 l1_6 1).f1) ((rd_T32 l1_6 1).f2) ((rd_T32 l1_6 1).f3) ((rd_T32 l1_6 1).f4) ((rd_T32 l1_6 1).f5) ((rd_T32 l1_6 1).f6) true).bind fun t412=>(some t412))else(none))else(some false)))else(some false))else(none))else(none))else(none))=some r:=by rw [if_neg (show ¬ (false=true) by decide)] at H;exact H
     clear H
     have H:=H1
     clear H1
     by_cases c40:0 < (l1_6.length:Int)
     rotate_left
     ·rw [if_neg c40] at H
      exact absurd H (by simp)
     rw [if_pos c40] at H
     have c40b0:=decide_eq_true c40
     have c40b1:decide (0 < l1_6.length)=true:=decide_eq_true (by omega)
     clear c40
     by_cases c41:0 < (l0_3.length:Int)
     rotate_left
     ·rw [if_neg c41] at H
      exact absurd H (by simp)
     rw [if_pos c41] at H
     have c41b0:=decide_eq_true c41
     have c41b1:decide (0 < l0_3.length)=true:=decide_eq_true (by omega)
     clear c41
     by_cases c42:0 < (((rd_T67 l0_3 0).f1).length:Int)
     rotate_left
     ·rw [if_neg c42] at H
      exact absurd H (by simp)
     rw [if_pos c42] at H
     have c42b0:=decide_eq_true c42
     have c42b1:decide (0 < ((rd_T67 l0_3 0).f1).length)=true:=decide_eq_true (by omega)
     clear c42
     by_cases c43:((rd_T32 l1_6 0).f0)=(rd ((rd_T67 l0_3 0).f1) 0)
     rotate_left
     ·rw [if_neg c43] at H
      have c43b0:=beq_eq_false_iff_ne.mpr c43
      have c43b1:=bne_iff_ne.mpr c43
      obtain rfl:=Option.some.inj H
      try go_wp2
      have n0_:=Az.mk (kD_ BK402.out)
      have n1_:=Az.mk (kD_ BK403.out)
      have n2_:=Az.mk (bD_ HB.out)
      clear BK402
      clear BK403
      clear HB
      have BK402:=n0_
      have BK403:=n1_
      have HB:=n2_
      clear n0_ n1_ n2_
      have p406:0≤(0:Int):=(by omega)
      have q406:0 < (l1_6.length:Int):=of_decide_eq_true (by assumption)
      obtain⟨ad406,A406_4,c406_4,A406_6,c406_6,e406,hx406_0,hx406_1,hx406_2,hx406_3,hx406_4,hx406_5,hx406_6,hl406_4,hi406_4,hl406_6,hi406_6⟩:=at_T32 HR1_6.out 0 p406 q406
      have hw406_6:=hx406_6
      (try rw [tn0_] at hw406_6)
      (try rw [show 0 * 7=0 from rfl] at hw406_6)
      (try rw [Addr.add_zero'] at hw406_6)
      have hw406_5:=hx406_5
      (try rw [tn0_] at hw406_5)
      (try rw [show 0 * 7=0 from rfl] at hw406_5)
      (try rw [Addr.add_zero'] at hw406_5)
      have hw406_4:=hx406_4
      (try rw [tn0_] at hw406_4)
      (try rw [show 0 * 7=0 from rfl] at hw406_4)
      (try rw [Addr.add_zero'] at hw406_4)
      have hw406_3:=hx406_3
      (try rw [tn0_] at hw406_3)
      (try rw [show 0 * 7=0 from rfl] at hw406_3)
      (try rw [Addr.add_zero'] at hw406_3)
      have hw406_2:=hx406_2
      (try rw [tn0_] at hw406_2)
      (try rw [show 0 * 7=0 from rfl] at hw406_2)
      (try rw [Addr.add_zero'] at hw406_2)
      have hw406_1:=hx406_1
      (try rw [tn0_] at hw406_1)
      (try rw [show 0 * 7=0 from rfl] at hw406_1)
      (try rw [Addr.add_zero'] at hw406_1)
      have hw406_0:=hx406_0
      (try rw [tn0_] at hw406_0)
      (try rw [show 0 * 7=0 from rfl] at hw406_0)
      (try rw [Addr.add_zero'] at hw406_0)
      cases e406
      have qi406:(0 < l1_6.length)=True:=eq_true (by omega)
      (try rw [tn0_] at hx406_0)
      (try rw [show 0 * 7=0 from rfl] at hx406_0)
      (try rw [Addr.add_zero'] at hx406_0)
      (try rw [tn0_] at hx406_1)
      (try rw [show 0 * 7=0 from rfl] at hx406_1)
      (try rw [Addr.add_zero'] at hx406_1)
      (try rw [tn0_] at hx406_2)
      (try rw [show 0 * 7=0 from rfl] at hx406_2)
      (try rw [Addr.add_zero'] at hx406_2)
      (try rw [tn0_] at hx406_3)
      (try rw [show 0 * 7=0 from rfl] at hx406_3)
      (try rw [Addr.add_zero'] at hx406_3)
      (try rw [tn0_] at hx406_4)
      (try rw [show 0 * 7=0 from rfl] at hx406_4)
      (try rw [Addr.add_zero'] at hx406_4)
      (try rw [tn0_] at hx406_5)
      (try rw [show 0 * 7=0 from rfl] at hx406_5)
      (try rw [Addr.add_zero'] at hx406_5)
      (try rw [tn0_] at hx406_6)
      (try rw [show 0 * 7=0 from rfl] at hx406_6)
      (try rw [Addr.add_zero'] at hx406_6)
      replace hx406_0:=bc_ HB.out hx406_0
      replace hx406_1:=bc_ HB.out hx406_1
      replace hx406_2:=bc_ HB.out hx406_2
      replace hx406_3:=bc_ HB.out hx406_3
      replace hx406_4:=bc_ HB.out hx406_4
      replace hx406_5:=bc_ HB.out hx406_5
      replace hx406_6:=bc_ HB.out hx406_6
      have HR406_4:=Az.mk hi406_4
      have HC406_4:=Az.mk hl406_4
      clear hi406_4 hl406_4
      have HR406_6:=Az.mk hi406_6
      have HC406_6:=Az.mk hl406_6
      clear hi406_6 hl406_6
      replace p406:=eq_true p406
      replace q406:=eq_true q406
      have p407:0≤(0:Int):=(by omega)
      have q407:0 < (l0_3.length:Int):=of_decide_eq_true (by assumption)
      obtain⟨ad407,A407_1,c407_1,A407_2,c407_2,e407,hx407_0,hx407_1,hx407_2,hx407_3,hx407_4,hl407_1,hi407_1,hl407_2,hi407_2⟩:=at_T67 HR0_3.out 0 p407 q407
      have hw407_4:=hx407_4
      (try rw [tn0_] at hw407_4)
      (try rw [show 0 * 5=0 from rfl] at hw407_4)
      (try rw [Addr.add_zero'] at hw407_4)
      have hw407_3:=hx407_3
      (try rw [tn0_] at hw407_3)
      (try rw [show 0 * 5=0 from rfl] at hw407_3)
      (try rw [Addr.add_zero'] at hw407_3)
      have hw407_2:=hx407_2
      (try rw [tn0_] at hw407_2)
      (try rw [show 0 * 5=0 from rfl] at hw407_2)
      (try rw [Addr.add_zero'] at hw407_2)
      have hw407_1:=hx407_1
      (try rw [tn0_] at hw407_1)
      (try rw [show 0 * 5=0 from rfl] at hw407_1)
      (try rw [Addr.add_zero'] at hw407_1)
      have hw407_0:=hx407_0
      (try rw [tn0_] at hw407_0)
      (try rw [show 0 * 5=0 from rfl] at hw407_0)
      (try rw [Addr.add_zero'] at hw407_0)
      cases e407
      have qi407:(0 < l0_3.length)=True:=eq_true (by omega)
      (try rw [tn0_] at hx407_0)
      (try rw [show 0 * 5=0 from rfl] at hx407_0)
      (try rw [Addr.add_zero'] at hx407_0)
      (try rw [tn0_] at hx407_1)
      (try rw [show 0 * 5=0 from rfl] at hx407_1)
      (try rw [Addr.add_zero'] at hx407_1)
      (try rw [tn0_] at hx407_2)
      (try rw [show 0 * 5=0 from rfl] at hx407_2)
      (try rw [Addr.add_zero'] at hx407_2)
      (try rw [tn0_] at hx407_3)
      (try rw [show 0 * 5=0 from rfl] at hx407_3)
      (try rw [Addr.add_zero'] at hx407_3)
      (try rw [tn0_] at hx407_4)
      (try rw [show 0 * 5=0 from rfl] at hx407_4)
      (try rw [Addr.add_zero'] at hx407_4)
      replace hx407_0:=bc_ HB.out hx407_0
      replace hx407_1:=bc_ HB.out hx407_1
      replace hx407_2:=bc_ HB.out hx407_2
      replace hx407_3:=bc_ HB.out hx407_3
      replace hx407_4:=bc_ HB.out hx407_4
      have HR407_1:=Az.mk hi407_1
      have HC407_1:=Az.mk hl407_1
      clear hi407_1 hl407_1
      have HR407_2:=Az.mk hi407_2
      have HC407_2:=Az.mk hl407_2
      clear hi407_2 hl407_2
      replace p407:=eq_true p407
      replace q407:=eq_true q407
      have p408:0≤(0:Int):=(by omega)
      have q408:0 < (((rd_T67 l0_3 0).f1).length:Int):=of_decide_eq_true (by assumption)
      obtain⟨ad408,e408,hx408_0⟩:=Kd.at_int HR407_1.out 0 p408 q408
      have hw408_0:=hx408_0
      (try rw [tn0_] at hw408_0)
      (try rw [show 0 * 1=0 from rfl] at hw408_0)
      (try rw [Addr.add_zero'] at hw408_0)
      cases e408
      have qi408:(0 < ((rd_T67 l0_3 0).f1).length)=True:=eq_true (by omega)
      (try rw [tn0_] at hx408_0)
      (try rw [Addr.add_zero'] at hx408_0)
      replace hx408_0:=bc_ HB.out hx408_0
      replace p408:=eq_true p408
      replace q408:=eq_true q408
      refine start_ (n:=30) (S:=fun w'=>w'.cell? ⟨gb403,0,none⟩=some (.int .i64 a1_0)∧w'.cell? ⟨gb403,1,none⟩=some (.int .i64 a1_1)∧w'.cell? ⟨gb403,2,none⟩=some (.int .i64 a1_2)∧w'.cell? ⟨gb403,3,none⟩=some (.int .i64 a1_3)∧w'.cell? ⟨gb403,4,none⟩=some (.slice A1_4 l1_4.length c1_4)∧w'.cell? ⟨gb403,5,none⟩=some (.string a1_5)∧w'.cell? ⟨gb403,6,none⟩=some (.slice (some ad406) l1_6.length c1_6)∧w'.cell? ⟨gb402,0,none⟩=some (.slice A0_0 l0_0.length c0_0)∧w'.cell? ⟨gb402,1,none⟩=some (.slice A0_1 l0_1.length c0_1)∧w'.cell? ⟨gb402,2,none⟩=some (.slice A0_2 l0_2.length c0_2)∧w'.cell? ⟨gb402,3,none⟩=some (.slice (some ad407) l0_3.length c0_3)∧w'.cell? ⟨gb402,4,none⟩=some (.slice A0_4 l0_4.length c0_4)∧w'.cell? ad406=some (.int .i64 ((rd_T32 l1_6 0).f0))∧w'.cell? ⟨ad406.block,ad406.off + 1,none⟩=some (.int .i64 ((rd_T32 l1_6 0).f1))∧w'.cell? ⟨ad406.block,ad406.off + 2,none⟩=some (.int .i64 ((rd_T32 l1_6 0).f2))∧w'.cell? ⟨ad406.block,ad406.off + 3,none⟩=some (.int .i64 ((rd_T32 l1_6 0).f3))∧w'.cell? ⟨ad406.block,ad406.off + 4,none⟩=some (.slice A406_4 ((rd_T32 l1_6 0).f4).length c406_4)∧w'.cell? ⟨ad406.block,ad406.off + 5,none⟩=some (.string ((rd_T32 l1_6 0).f5))∧w'.cell? ⟨ad406.block,ad406.off + 6,none⟩=some (.slice A406_6 ((rd_T32 l1_6 0).f6).length c406_6)∧w'.cell? ad407=some (.int .i64 ((rd_T67 l0_3 0).f0))∧w'.cell? ⟨ad407.block,ad407.off + 1,none⟩=some (.slice (some ad408) ((rd_T67 l0_3 0).f1).length c407_1)∧w'.cell? ⟨ad407.block,ad407.off + 2,none⟩=some (.slice A407_2 ((rd_T67 l0_3 0).f2).length c407_2)∧w'.cell? ⟨ad407.block,ad407.off + 3,none⟩=some (.string ((rd_T67 l0_3 0).f3))∧w'.cell? ⟨ad407.block,ad407.off + 4,none⟩=some (.int .i64 ((rd_T67 l0_3 0).f4))∧w'.cell? ad408=some (.int .i64 (rd ((rd_T67 l0_3 0).f1) 0))) (ds:=[]) #[Z,Z,Z,Z,Z,Z,Z,Z,Z,Z,Z,Z,Z,Z,Z,Z,Z,Z,Z,Z,Z,Z,Z,Z,Z,Z,Z,Z,Z,Z] (by kernel_rfl) rfl rfl ⟨(bC_ BK403.out 0).trans rfl,(bC_ BK403.out 1).trans rfl,(bC_ BK403.out 2).trans rfl,(bC_ BK403.out 3).trans rfl,(bC_ BK403.out 4).trans rfl,(bC_ BK403.out 5).trans rfl,(bC_ BK403.out 6).trans rfl,(bC_ BK402.out 0).trans rfl,(bC_ BK402.out 1).trans rfl,(bC_ BK402.out 2).trans rfl,(bC_ BK402.out 3).trans rfl,(bC_ BK402.out 4).trans rfl,(bc_ HB.out hw406_0),(bc_ HB.out hw406_1),(bc_ HB.out hw406_2),(bc_ HB.out hw406_3),(bc_ HB.out hw406_4),(bc_ HB.out hw406_5),(bc_ HB.out hw406_6),(bc_ HB.out hw407_0),(bc_ HB.out hw407_1),(bc_ HB.out hw407_2),(bc_ HB.out hw407_3),(bc_ HB.out hw407_4),(bc_ HB.out hw408_0)⟩ (fun hHeld=>?_);refine with_tabW arboristref42_Right.tab5 arboristref42_Right.bits5 (fun HT_ HW_=>?_)
      generalize wc.drew=w53 at BK402 BK403 HB HR406_4 HR406_6 HR407_1 HR407_2 hx406_0 hx406_1 hx406_2 hx406_3 hx406_4 hx406_5 hx406_6 hx407_0 hx407_1 hx407_2 hx407_3 hx407_4 hx408_0 hHeld ⊢
      refine pure_ (i:=0) (N:=some 48) (v:=?_) (a':=?_) #[Y,Z,Z,Z,Z,Z,Z,Z,Z,Z,Z,Z,Z,Z,Z,Z,Z,Z,Z,Z,Z,Z,Z,Z,Z,Z,Z,Z,Z,Z] rfl rfl (any_of HT_.out (by kernel_rfl)) (fun _ _ _ h=>h) (Or.inl ⟨by rfl,?_⟩) ?_ ?_
      rotate_left
      ·intro w'
       go_simp
       with_reducible rfl
      rotate_left
      ·simp only [Act.put,sT_,s0_,sC_,i64_w,i32_w]
       rfl
      refine pure_ (i:=5) (N:=some 53) (v:=?_) (a':=?_) #[Y,Z,Z,Z,Z,Y,Z,Z,Z,Z,Z,Z,Z,Z,Z,Z,Z,Z,Z,Z,Z,Z,Z,Z,Z,Z,Z,Z,Z,Z] rfl rfl (any_of HT_.out (by kernel_rfl)) (fun _ _ _ h=>h) (Or.inl ⟨by rfl,?_⟩) ?_ ?_
      rotate_left
      ·intro w'
       go_simp
       with_reducible rfl
      rotate_left
      ·simp only [Act.put,sT_,s0_,sC_,i64_w,i32_w]
       rfl
      refine take_ (i:=1) (N:=some 49) (v:=?_) (a':=?_) #[Y,Y,Z,Z,Z,Y,Z,Z,Z,Z,Z,Z,Z,Z,Z,Z,Z,Z,Z,Z,Z,Z,Z,Z,Z,Z,Z,Z,Z,Z] rfl rfl (take_ofW HT_.out HW_.out (by kernel_rfl)) (fun _ _ _ h=>h) (Or.inl ⟨by rfl,?_⟩) hHeld ?_ ?_
      rotate_left
      ·rintro w' ⟨s0,s1,s2,s3,s4,s5,s6,s7,s8,s9,s10,s11,s12,s13,s14,s15,s16,s17,s18,s19,s20,s21,s22,s23,s24⟩
       go_simp
       with_reducible rfl
      rotate_left
      ·simp only [Act.put,sT_,s0_,sC_,i64_w,i32_w]
       rfl
      refine pure_ (i:=2) (N:=some 50) (v:=?_) (a':=?_) #[Y,Y,Y,Z,Z,Y,Z,Z,Z,Z,Z,Z,Z,Z,Z,Z,Z,Z,Z,Z,Z,Z,Z,Z,Z,Z,Z,Z,Z,Z] rfl rfl (any_of HT_.out (by kernel_rfl)) (fun _ _ _ h=>h) (Or.inl ⟨by rfl,?_⟩) ?_ ?_
      rotate_left
      ·intro w'
       go_simp
       with_reducible rfl
      rotate_left
      ·simp only [Act.put,sT_,s0_,sC_,i64_w,i32_w]
       rfl
      refine pure_ (i:=3) (N:=some 51) (v:=?_) (a':=?_) #[Y,Y,Y,Y,Z,Y,Z,Z,Z,Z,Z,Z,Z,Z,Z,Z,Z,Z,Z,Z,Z,Z,Z,Z,Z,Z,Z,Z,Z,Z] rfl rfl (any_of HT_.out (by kernel_rfl)) (fun _ _ _ h=>h) (Or.inl ⟨by rfl,?_⟩) ?_ ?_
      rotate_left
      ·intro w'
       go_simp
       with_reducible rfl
      rotate_left
      ·simp only [Act.put,sT_,s0_,sC_,i64_w,i32_w]
       rfl
      refine take_ (i:=4) (N:=some 52) (v:=?_) (a':=?_) #[Y,Y,Y,Y,Y,Y,Z,Z,Z,Z,Z,Z,Z,Z,Z,Z,Z,Z,Z,Z,Z,Z,Z,Z,Z,Z,Z,Z,Z,Z] rfl rfl (take_ofW HT_.out HW_.out (by kernel_rfl)) (fun _ _ _ h=>h) (Or.inl ⟨by rfl,?_⟩) hHeld ?_ ?_
      rotate_left
      ·rintro w' ⟨s0,s1,s2,s3,s4,s5,s6,s7,s8,s9,s10,s11,s12,s13,s14,s15,s16,s17,s18,s19,s20,s21,s22,s23,s24⟩
       go_simp
       with_reducible rfl
      rotate_left
      ·simp only [Act.put,sT_,s0_,sC_,i64_w,i32_w]
       rfl
      refine take_ (i:=6) (N:=some 54) (v:=?_) (a':=?_) #[Y,Y,Y,Y,Y,Y,Y,Z,Z,Z,Z,Z,Z,Z,Z,Z,Z,Z,Z,Z,Z,Z,Z,Z,Z,Z,Z,Z,Z,Z] rfl rfl (take_ofW HT_.out HW_.out (by kernel_rfl)) (fun _ _ _ h=>h) (Or.inl ⟨by rfl,?_⟩) hHeld ?_ ?_
      rotate_left
      ·rintro w' ⟨s0,s1,s2,s3,s4,s5,s6,s7,s8,s9,s10,s11,s12,s13,s14,s15,s16,s17,s18,s19,s20,s21,s22,s23,s24⟩
       go_simp
       with_reducible rfl
      rotate_left
      ·simp only [Act.put,sT_,s0_,sC_,i64_w,i32_w]
       rfl
      refine pure_ (i:=7) (N:=some 55) (v:=?_) (a':=?_) #[Y,Y,Y,Y,Y,Y,Y,Y,Z,Z,Z,Z,Z,Z,Z,Z,Z,Z,Z,Z,Z,Z,Z,Z,Z,Z,Z,Z,Z,Z] rfl rfl (any_of HT_.out (by kernel_rfl)) (fun _ _ _ h=>h) (Or.inl ⟨by rfl,?_⟩) ?_ ?_
      rotate_left
      ·intro w'
       go_simp
       with_reducible rfl
      rotate_left
      ·simp only [Act.put,sT_,s0_,sC_,i64_w,i32_w]
       rfl
      refine pure_ (i:=8) (N:=some 56) (v:=?_) (a':=?_) #[Y,Y,Y,Y,Y,Y,Y,Y,Y,Z,Z,Z,Z,Z,Z,Z,Z,Z,Z,Z,Z,Z,Z,Z,Z,Z,Z,Z,Z,Z] rfl rfl (any_of HT_.out (by kernel_rfl)) (fun _ _ _ h=>h) (Or.inl ⟨by rfl,?_⟩) ?_ ?_
      rotate_left
      ·intro w'
       go_simp
       with_reducible rfl
      rotate_left
      ·simp only [Act.put,sT_,s0_,sC_,i64_w,i32_w]
       rfl
      refine take_ (i:=9) (N:=some 57) (v:=?_) (a':=?_) #[Y,Y,Y,Y,Y,Y,Y,Y,Y,Y,Z,Z,Z,Z,Z,Z,Z,Z,Z,Z,Z,Z,Z,Z,Z,Z,Z,Z,Z,Z] rfl rfl (take_ofW HT_.out HW_.out (by kernel_rfl)) (fun _ _ _ h=>h) (Or.inl ⟨by rfl,?_⟩) hHeld ?_ ?_
      rotate_left
      ·rintro w' ⟨s0,s1,s2,s3,s4,s5,s6,s7,s8,s9,s10,s11,s12,s13,s14,s15,s16,s17,s18,s19,s20,s21,s22,s23,s24⟩
       go_simp
       with_reducible rfl
      rotate_left
      ·simp only [Act.put,sT_,s0_,sC_,i64_w,i32_w]
       rfl
      refine pure_ (i:=10) (N:=some 58) (v:=?_) (a':=?_) #[Y,Y,Y,Y,Y,Y,Y,Y,Y,Y,Y,Z,Z,Z,Z,Z,Z,Z,Z,Z,Z,Z,Z,Z,Z,Z,Z,Z,Z,Z] rfl rfl (any_of HT_.out (by kernel_rfl)) (fun _ _ _ h=>h) (Or.inl ⟨by rfl,?_⟩) ?_ ?_
      rotate_left
      ·intro w'
       go_simp
       with_reducible rfl
      rotate_left
      ·simp only [Act.put,sT_,s0_,sC_,i64_w,i32_w]
       rfl
      refine take_ (i:=11) (N:=some 59) (v:=?_) (a':=?_) #[Y,Y,Y,Y,Y,Y,Y,Y,Y,Y,Y,Y,Z,Z,Z,Z,Z,Z,Z,Z,Z,Z,Z,Z,Z,Z,Z,Z,Z,Z] rfl rfl (take_ofW HT_.out HW_.out (by kernel_rfl)) (fun _ _ _ h=>h) (Or.inl ⟨by rfl,?_⟩) hHeld ?_ ?_
      rotate_left
      ·rintro w' ⟨s0,s1,s2,s3,s4,s5,s6,s7,s8,s9,s10,s11,s12,s13,s14,s15,s16,s17,s18,s19,s20,s21,s22,s23,s24⟩
       go_simp
       with_reducible rfl
      rotate_left
      ·simp only [Act.put,sT_,s0_,sC_,i64_w,i32_w]
       rfl
      refine pure_ (i:=12) (N:=some 60) (v:=?_) (a':=?_) #[Y,Y,Y,Y,Y,Y,Y,Y,Y,Y,Y,Y,Y,Z,Z,Z,Z,Z,Z,Z,Z,Z,Z,Z,Z,Z,Z,Z,Z,Z] rfl rfl (any_of HT_.out (by kernel_rfl)) (fun _ _ _ h=>h) (Or.inl ⟨by rfl,?_⟩) ?_ ?_
      rotate_left
      ·intro w'
       go_simp
       with_reducible rfl
      rotate_left
      ·simp only [Act.put,sT_,s0_,sC_,i64_w,i32_w]
       rfl
      refine pure_ (i:=13) (N:=some 61) (v:=?_) (a':=?_) #[Y,Y,Y,Y,Y,Y,Y,Y,Y,Y,Y,Y,Y,Y,Z,Z,Z,Z,Z,Z,Z,Z,Z,Z,Z,Z,Z,Z,Z,Z] rfl rfl (any_of HT_.out (by kernel_rfl)) (fun _ _ _ h=>h) (Or.inl ⟨by rfl,?_⟩) ?_ ?_
      rotate_left
      ·intro w'
       go_simp
       with_reducible rfl
      rotate_left
      ·simp only [Act.put,sT_,s0_,sC_,i64_w,i32_w]
       rfl
      refine pure_ (i:=14) (N:=some 62) (v:=undef) (a':=?_) #[Y,Y,Y,Y,Y,Y,Y,Y,Y,Y,Y,Y,Y,Y,Y,Z,Z,Z,Z,Z,Z,Z,Z,Z,Z,Z,Z,Z,Z,Z] rfl rfl (any_of HT_.out (by kernel_rfl)) (fun _ _ _ h=>h) (Or.inr ⟨by rfl,rfl⟩) ?_ ?_
      rotate_left
      ·simp only [Act.put,sT_,s0_,sC_,i64_w,i32_w]
       rfl
      refine pure_ (i:=15) (N:=some 63) (v:=undef) (a':=?_) #[Y,Y,Y,Y,Y,Y,Y,Y,Y,Y,Y,Y,Y,Y,Y,Y,Z,Z,Z,Z,Z,Z,Z,Z,Z,Z,Z,Z,Z,Z] rfl rfl (any_of HT_.out (by kernel_rfl)) (fun _ _ _ h=>h) (Or.inr ⟨by rfl,rfl⟩) ?_ ?_
      rotate_left
      ·simp only [Act.put,sT_,s0_,sC_,i64_w,i32_w]
       rfl
      refine pure_ (i:=16) (N:=some 64) (v:=undef) (a':=?_) #[Y,Y,Y,Y,Y,Y,Y,Y,Y,Y,Y,Y,Y,Y,Y,Y,Y,Z,Z,Z,Z,Z,Z,Z,Z,Z,Z,Z,Z,Z] rfl rfl (any_of HT_.out (by kernel_rfl)) (fun _ _ _ h=>h) (Or.inr ⟨by rfl,rfl⟩) ?_ ?_
      rotate_left
      ·simp only [Act.put,sT_,s0_,sC_,i64_w,i32_w]
       rfl
      refine pure_ (i:=17) (N:=some 65) (v:=undef) (a':=?_) #[Y,Y,Y,Y,Y,Y,Y,Y,Y,Y,Y,Y,Y,Y,Y,Y,Y,Y,Z,Z,Z,Z,Z,Z,Z,Z,Z,Z,Z,Z] rfl rfl (any_of HT_.out (by kernel_rfl)) (fun _ _ _ h=>h) (Or.inr ⟨by rfl,rfl⟩) ?_ ?_
      rotate_left
      ·simp only [Act.put,sT_,s0_,sC_,i64_w,i32_w]
       rfl
      refine pure_ (i:=18) (N:=some 66) (v:=undef) (a':=?_) #[Y,Y,Y,Y,Y,Y,Y,Y,Y,Y,Y,Y,Y,Y,Y,Y,Y,Y,Y,Z,Z,Z,Z,Z,Z,Z,Z,Z,Z,Z] rfl rfl (any_of HT_.out (by kernel_rfl)) (fun _ _ _ h=>h) (Or.inr ⟨by rfl,rfl⟩) ?_ ?_
      rotate_left
      ·simp only [Act.put,sT_,s0_,sC_,i64_w,i32_w]
       rfl
      refine pure_ (i:=19) (N:=some 67) (v:=undef) (a':=?_) #[Y,Y,Y,Y,Y,Y,Y,Y,Y,Y,Y,Y,Y,Y,Y,Y,Y,Y,Y,Y,Z,Z,Z,Z,Z,Z,Z,Z,Z,Z] rfl rfl (any_of HT_.out (by kernel_rfl)) (fun _ _ _ h=>h) (Or.inr ⟨by rfl,rfl⟩) ?_ ?_
      rotate_left
      ·simp only [Act.put,sT_,s0_,sC_,i64_w,i32_w]
       rfl
      refine pure_ (i:=20) (N:=some 68) (v:=?_) (a':=?_) #[Y,Y,Y,Y,Y,Y,Y,Y,Y,Y,Y,Y,Y,Y,Y,Y,Y,Y,Y,Y,Y,Z,Z,Z,Z,Z,Z,Z,Z,Z] rfl rfl (any_of HT_.out (by kernel_rfl)) (fun _ _ _ h=>h) (Or.inl ⟨by rfl,?_⟩) ?_ ?_
      rotate_left
      ·intro w'
       go_simp
       with_reducible rfl
      rotate_left
      ·simp only [Act.put,sT_,s0_,sC_,i64_w,i32_w]
       rfl
      refine pure_ (i:=21) (N:=some 69) (v:=?_) (a':=?_) #[Y,Y,Y,Y,Y,Y,Y,Y,Y,Y,Y,Y,Y,Y,Y,Y,Y,Y,Y,Y,Y,Y,Z,Z,Z,Z,Z,Z,Z,Z] rfl rfl (any_of HT_.out (by kernel_rfl)) (fun _ _ _ h=>h) (Or.inl ⟨by rfl,?_⟩) ?_ ?_
      rotate_left
      ·intro w'
       go_simp
       with_reducible rfl
      rotate_left
      ·simp only [Act.put,sT_,s0_,sC_,i64_w,i32_w]
       rfl
      refine pure_ (i:=22) (N:=some 70) (v:=undef) (a':=?_) #[Y,Y,Y,Y,Y,Y,Y,Y,Y,Y,Y,Y,Y,Y,Y,Y,Y,Y,Y,Y,Y,Y,Y,Z,Z,Z,Z,Z,Z,Z] rfl rfl (any_of HT_.out (by kernel_rfl)) (fun _ _ _ h=>h) (Or.inr ⟨by rfl,rfl⟩) ?_ ?_
      rotate_left
      ·simp only [Act.put,sT_,s0_,sC_,i64_w,i32_w]
       rfl
      refine pure_ (i:=23) (N:=some 71) (v:=undef) (a':=?_) #[Y,Y,Y,Y,Y,Y,Y,Y,Y,Y,Y,Y,Y,Y,Y,Y,Y,Y,Y,Y,Y,Y,Y,Y,Z,Z,Z,Z,Z,Z] rfl rfl (any_of HT_.out (by kernel_rfl)) (fun _ _ _ h=>h) (Or.inr ⟨by rfl,rfl⟩) ?_ ?_
      rotate_left
      ·simp only [Act.put,sT_,s0_,sC_,i64_w,i32_w]
       rfl
      refine pure_ (i:=24) (N:=some 72) (v:=undef) (a':=?_) #[Y,Y,Y,Y,Y,Y,Y,Y,Y,Y,Y,Y,Y,Y,Y,Y,Y,Y,Y,Y,Y,Y,Y,Y,Y,Z,Z,Z,Z,Z] rfl rfl (any_of HT_.out (by kernel_rfl)) (fun _ _ _ h=>h) (Or.inr ⟨by rfl,rfl⟩) ?_ ?_
      rotate_left
      ·simp only [Act.put,sT_,s0_,sC_,i64_w,i32_w]
       rfl
      refine pure_ (i:=25) (N:=some 73) (v:=undef) (a':=?_) #[Y,Y,Y,Y,Y,Y,Y,Y,Y,Y,Y,Y,Y,Y,Y,Y,Y,Y,Y,Y,Y,Y,Y,Y,Y,Y,Z,Z,Z,Z] rfl rfl (any_of HT_.out (by kernel_rfl)) (fun _ _ _ h=>h) (Or.inr ⟨by rfl,rfl⟩) ?_ ?_
      rotate_left
      ·simp only [Act.put,sT_,s0_,sC_,i64_w,i32_w]
       rfl
      refine pure_ (i:=26) (N:=some 74) (v:=undef) (a':=?_) #[Y,Y,Y,Y,Y,Y,Y,Y,Y,Y,Y,Y,Y,Y,Y,Y,Y,Y,Y,Y,Y,Y,Y,Y,Y,Y,Y,Z,Z,Z] rfl rfl (any_of HT_.out (by kernel_rfl)) (fun _ _ _ h=>h) (Or.inr ⟨by rfl,rfl⟩) ?_ ?_
      rotate_left
      ·simp only [Act.put,sT_,s0_,sC_,i64_w,i32_w]
       rfl
      refine pure_ (i:=27) (N:=some 75) (v:=undef) (a':=?_) #[Y,Y,Y,Y,Y,Y,Y,Y,Y,Y,Y,Y,Y,Y,Y,Y,Y,Y,Y,Y,Y,Y,Y,Y,Y,Y,Y,Y,Z,Z] rfl rfl (any_of HT_.out (by kernel_rfl)) (fun _ _ _ h=>h) (Or.inr ⟨by rfl,rfl⟩) ?_ ?_
      rotate_left
      ·simp only [Act.put,sT_,s0_,sC_,i64_w,i32_w]
       rfl
      refine pure_ (i:=28) (N:=some 76) (v:=?_) (a':=?_) #[Y,Y,Y,Y,Y,Y,Y,Y,Y,Y,Y,Y,Y,Y,Y,Y,Y,Y,Y,Y,Y,Y,Y,Y,Y,Y,Y,Y,Y,Z] rfl rfl (any_of HT_.out (by kernel_rfl)) (fun _ _ _ h=>h) (Or.inl ⟨by rfl,?_⟩) ?_ ?_
      rotate_left
      ·intro w'
       go_simp
       with_reducible rfl
      rotate_left
      ·simp only [Act.put,sT_,s0_,sC_,i64_w,i32_w]
       rfl
      refine pure_ (i:=29) (N:=some 4) (v:=?_) (a':=?_) #[Y,Y,Y,Y,Y,Y,Y,Y,Y,Y,Y,Y,Y,Y,Y,Y,Y,Y,Y,Y,Y,Y,Y,Y,Y,Y,Y,Y,Y,Y] rfl rfl (any_of HT_.out (by kernel_rfl)) (fun _ _ _ h=>h) (Or.inl ⟨by rfl,?_⟩) ?_ ?_
      rotate_left
      ·intro w'
       go_simp
       with_reducible rfl
      rotate_left
      ·simp only [Act.put,sT_,s0_,sC_,i64_w,i32_w]
       rfl
      refine done_ (done_of HT_.out (by kernel_rfl)) ?_
      try go_wp2
      go_ret
      exact⟨by first|rfl|(simp [errW_none,errW_some] <;> rfl)|(simp [*,errW_none,errW_some] <;> rfl),by repeat (first|(with_reducible first|exact HB.out|apply bA_|apply bN_|apply bD_|refine bS_ ?_ GE402.out|refine bS_ ?_ GE403.out)|exact HB.out)⟩
     rw [if_pos c43] at H
     have c43b0:=beq_iff_eq.mpr c43
     have c43b1:=bne_eq_false_iff_eq.mpr c43
     clear c43
     replace H:=Option.bind_eq_some_iff.mp H
     obtain⟨t410,A440,H⟩:=H
     replace H:(if t410=true then(if 1 < (l1_6.length:Int)then((arboristref42_within.f kj17 l0_0 l0_1 l0_2 l0_3 l0_4 ((rd_T32 l1_6 1).f0) ((rd_T32 l1_6 1).f1) ((rd_T32 l1_6 1).f2) ((rd_T32 l1_6 1).f3) ((rd_T32 l1_6 1).f4) ((rd_T32 l1_6 1).f5) ((rd_T32 l1_6 1).f6) true).bind fun t412=>(some t412))else(none))else(some false))=some r:=H
     have A44:=Az.mk A440
     clear A440
     by_cases c45:t410=true
     rotate_left
     ·replace c45:=Bool.eq_false_iff.mpr c45
      subst c45
      have H1:(some false)=some r:=by rw [if_neg (show ¬ (false=true) by decide)] at H;exact H
      clear H
      have H:=H1
      clear H1
      obtain rfl:=Option.some.inj H
      try go_wp2
      have n0_:=Az.mk (kD_ BK402.out)
      have n1_:=Az.mk (kD_ BK403.out)
      have n2_:=Az.mk (bD_ HB.out)
      clear BK402
      clear BK403
      clear HB
      have BK402:=n0_
      have BK403:=n1_
      have HB:=n2_
      clear n0_ n1_ n2_
      have p406:0≤(0:Int):=(by omega)
      have q406:0 < (l1_6.length:Int):=of_decide_eq_true (by assumption)
      obtain⟨ad406,A406_4,c406_4,A406_6,c406_6,e406,hx406_0,hx406_1,hx406_2,hx406_3,hx406_4,hx406_5,hx406_6,hl406_4,hi406_4,hl406_6,hi406_6⟩:=at_T32 HR1_6.out 0 p406 q406
      have hw406_6:=hx406_6
      (try rw [tn0_] at hw406_6)
      (try rw [show 0 * 7=0 from rfl] at hw406_6)
      (try rw [Addr.add_zero'] at hw406_6)
      have hw406_5:=hx406_5
      (try rw [tn0_] at hw406_5)
      (try rw [show 0 * 7=0 from rfl] at hw406_5)
      (try rw [Addr.add_zero'] at hw406_5)
      have hw406_4:=hx406_4
      (try rw [tn0_] at hw406_4)
      (try rw [show 0 * 7=0 from rfl] at hw406_4)
      (try rw [Addr.add_zero'] at hw406_4)
      have hw406_3:=hx406_3
      (try rw [tn0_] at hw406_3)
      (try rw [show 0 * 7=0 from rfl] at hw406_3)
      (try rw [Addr.add_zero'] at hw406_3)
      have hw406_2:=hx406_2
      (try rw [tn0_] at hw406_2)
      (try rw [show 0 * 7=0 from rfl] at hw406_2)
      (try rw [Addr.add_zero'] at hw406_2)
      have hw406_1:=hx406_1
      (try rw [tn0_] at hw406_1)
      (try rw [show 0 * 7=0 from rfl] at hw406_1)
      (try rw [Addr.add_zero'] at hw406_1)
      have hw406_0:=hx406_0
      (try rw [tn0_] at hw406_0)
      (try rw [show 0 * 7=0 from rfl] at hw406_0)
      (try rw [Addr.add_zero'] at hw406_0)
      cases e406
      have qi406:(0 < l1_6.length)=True:=eq_true (by omega)
      (try rw [tn0_] at hx406_0)
      (try rw [show 0 * 7=0 from rfl] at hx406_0)
      (try rw [Addr.add_zero'] at hx406_0)
      (try rw [tn0_] at hx406_1)
      (try rw [show 0 * 7=0 from rfl] at hx406_1)
      (try rw [Addr.add_zero'] at hx406_1)
      (try rw [tn0_] at hx406_2)
      (try rw [show 0 * 7=0 from rfl] at hx406_2)
      (try rw [Addr.add_zero'] at hx406_2)
      (try rw [tn0_] at hx406_3)
      (try rw [show 0 * 7=0 from rfl] at hx406_3)
      (try rw [Addr.add_zero'] at hx406_3)
      (try rw [tn0_] at hx406_4)
      (try rw [show 0 * 7=0 from rfl] at hx406_4)
      (try rw [Addr.add_zero'] at hx406_4)
      (try rw [tn0_] at hx406_5)
      (try rw [show 0 * 7=0 from rfl] at hx406_5)
      (try rw [Addr.add_zero'] at hx406_5)
      (try rw [tn0_] at hx406_6)
      (try rw [show 0 * 7=0 from rfl] at hx406_6)
      (try rw [Addr.add_zero'] at hx406_6)
      replace hx406_0:=bc_ HB.out hx406_0
      replace hx406_1:=bc_ HB.out hx406_1
      replace hx406_2:=bc_ HB.out hx406_2
      replace hx406_3:=bc_ HB.out hx406_3
      replace hx406_4:=bc_ HB.out hx406_4
      replace hx406_5:=bc_ HB.out hx406_5
      replace hx406_6:=bc_ HB.out hx406_6
      have HR406_4:=Az.mk hi406_4
      have HC406_4:=Az.mk hl406_4
      clear hi406_4 hl406_4
      have HR406_6:=Az.mk hi406_6
      have HC406_6:=Az.mk hl406_6
      clear hi406_6 hl406_6
      replace p406:=eq_true p406
      replace q406:=eq_true q406
      have p407:0≤(0:Int):=(by omega)
      have q407:0 < (l0_3.length:Int):=of_decide_eq_true (by assumption)
      obtain⟨ad407,A407_1,c407_1,A407_2,c407_2,e407,hx407_0,hx407_1,hx407_2,hx407_3,hx407_4,hl407_1,hi407_1,hl407_2,hi407_2⟩:=at_T67 HR0_3.out 0 p407 q407
      have hw407_4:=hx407_4
      (try rw [tn0_] at hw407_4)
      (try rw [show 0 * 5=0 from rfl] at hw407_4)
      (try rw [Addr.add_zero'] at hw407_4)
      have hw407_3:=hx407_3
      (try rw [tn0_] at hw407_3)
      (try rw [show 0 * 5=0 from rfl] at hw407_3)
      (try rw [Addr.add_zero'] at hw407_3)
      have hw407_2:=hx407_2
      (try rw [tn0_] at hw407_2)
      (try rw [show 0 * 5=0 from rfl] at hw407_2)
      (try rw [Addr.add_zero'] at hw407_2)
      have hw407_1:=hx407_1
      (try rw [tn0_] at hw407_1)
      (try rw [show 0 * 5=0 from rfl] at hw407_1)
      (try rw [Addr.add_zero'] at hw407_1)
      have hw407_0:=hx407_0
      (try rw [tn0_] at hw407_0)
      (try rw [show 0 * 5=0 from rfl] at hw407_0)
      (try rw [Addr.add_zero'] at hw407_0)
      cases e407
      have qi407:(0 < l0_3.length)=True:=eq_true (by omega)
      (try rw [tn0_] at hx407_0)
      (try rw [show 0 * 5=0 from rfl] at hx407_0)
      (try rw [Addr.add_zero'] at hx407_0)
      (try rw [tn0_] at hx407_1)
      (try rw [show 0 * 5=0 from rfl] at hx407_1)
      (try rw [Addr.add_zero'] at hx407_1)
      (try rw [tn0_] at hx407_2)
      (try rw [show 0 * 5=0 from rfl] at hx407_2)
      (try rw [Addr.add_zero'] at hx407_2)
      (try rw [tn0_] at hx407_3)
      (try rw [show 0 * 5=0 from rfl] at hx407_3)
      (try rw [Addr.add_zero'] at hx407_3)
      (try rw [tn0_] at hx407_4)
      (try rw [show 0 * 5=0 from rfl] at hx407_4)
      (try rw [Addr.add_zero'] at hx407_4)
      replace hx407_0:=bc_ HB.out hx407_0
      replace hx407_1:=bc_ HB.out hx407_1
      replace hx407_2:=bc_ HB.out hx407_2
      replace hx407_3:=bc_ HB.out hx407_3
      replace hx407_4:=bc_ HB.out hx407_4
      have HR407_1:=Az.mk hi407_1
      have HC407_1:=Az.mk hl407_1
      clear hi407_1 hl407_1
      have HR407_2:=Az.mk hi407_2
      have HC407_2:=Az.mk hl407_2
      clear hi407_2 hl407_2
      replace p407:=eq_true p407
      replace q407:=eq_true q407
      have p408:0≤(0:Int):=(by omega)
      have q408:0 < (((rd_T67 l0_3 0).f1).length:Int):=of_decide_eq_true (by assumption)
      obtain⟨ad408,e408,hx408_0⟩:=Kd.at_int HR407_1.out 0 p408 q408
      have hw408_0:=hx408_0
      (try rw [tn0_] at hw408_0)
      (try rw [show 0 * 1=0 from rfl] at hw408_0)
      (try rw [Addr.add_zero'] at hw408_0)
      cases e408
      have qi408:(0 < ((rd_T67 l0_3 0).f1).length)=True:=eq_true (by omega)
      (try rw [tn0_] at hx408_0)
      (try rw [Addr.add_zero'] at hx408_0)
      replace hx408_0:=bc_ HB.out hx408_0
      replace p408:=eq_true p408
      replace q408:=eq_true q408
      have p409:0≤(0:Int):=(by omega)
      have q409:0 < (l1_6.length:Int):=of_decide_eq_true (by assumption)
      obtain⟨ad409,A409_4,c409_4,A409_6,c409_6,e409,hx409_0,hx409_1,hx409_2,hx409_3,hx409_4,hx409_5,hx409_6,hl409_4,hi409_4,hl409_6,hi409_6⟩:=at_T32 HR1_6.out 0 p409 q409
      have hw409_6:=hx409_6
      (try rw [tn0_] at hw409_6)
      (try rw [show 0 * 7=0 from rfl] at hw409_6)
      (try rw [Addr.add_zero'] at hw409_6)
      have hw409_5:=hx409_5
      (try rw [tn0_] at hw409_5)
      (try rw [show 0 * 7=0 from rfl] at hw409_5)
      (try rw [Addr.add_zero'] at hw409_5)
      have hw409_4:=hx409_4
      (try rw [tn0_] at hw409_4)
      (try rw [show 0 * 7=0 from rfl] at hw409_4)
      (try rw [Addr.add_zero'] at hw409_4)
      have hw409_3:=hx409_3
      (try rw [tn0_] at hw409_3)
      (try rw [show 0 * 7=0 from rfl] at hw409_3)
      (try rw [Addr.add_zero'] at hw409_3)
      have hw409_2:=hx409_2
      (try rw [tn0_] at hw409_2)
      (try rw [show 0 * 7=0 from rfl] at hw409_2)
      (try rw [Addr.add_zero'] at hw409_2)
      have hw409_1:=hx409_1
      (try rw [tn0_] at hw409_1)
      (try rw [show 0 * 7=0 from rfl] at hw409_1)
      (try rw [Addr.add_zero'] at hw409_1)
      have hw409_0:=hx409_0
      (try rw [tn0_] at hw409_0)
      (try rw [show 0 * 7=0 from rfl] at hw409_0)
      (try rw [Addr.add_zero'] at hw409_0)
      obtain rfl:ad406=ad409:=(by injection e409)
      have qi409:(0 < l1_6.length)=True:=eq_true (by omega)
      (try rw [tn0_] at hx409_0)
      (try rw [show 0 * 7=0 from rfl] at hx409_0)
      (try rw [Addr.add_zero'] at hx409_0)
      (try rw [tn0_] at hx409_1)
      (try rw [show 0 * 7=0 from rfl] at hx409_1)
      (try rw [Addr.add_zero'] at hx409_1)
      (try rw [tn0_] at hx409_2)
      (try rw [show 0 * 7=0 from rfl] at hx409_2)
      (try rw [Addr.add_zero'] at hx409_2)
      (try rw [tn0_] at hx409_3)
      (try rw [show 0 * 7=0 from rfl] at hx409_3)
      (try rw [Addr.add_zero'] at hx409_3)
      (try rw [tn0_] at hx409_4)
      (try rw [show 0 * 7=0 from rfl] at hx409_4)
      (try rw [Addr.add_zero'] at hx409_4)
      (try rw [tn0_] at hx409_5)
      (try rw [show 0 * 7=0 from rfl] at hx409_5)
      (try rw [Addr.add_zero'] at hx409_5)
      (try rw [tn0_] at hx409_6)
      (try rw [show 0 * 7=0 from rfl] at hx409_6)
      (try rw [Addr.add_zero'] at hx409_6)
      replace hx409_0:=bc_ HB.out hx409_0
      replace hx409_1:=bc_ HB.out hx409_1
      replace hx409_2:=bc_ HB.out hx409_2
      replace hx409_3:=bc_ HB.out hx409_3
      replace hx409_4:=bc_ HB.out hx409_4
      replace hx409_5:=bc_ HB.out hx409_5
      replace hx409_6:=bc_ HB.out hx409_6
      have HR409_4:=Az.mk hi409_4
      have HC409_4:=Az.mk hl409_4
      clear hi409_4 hl409_4
      have HR409_6:=Az.mk hi409_6
      have HC409_6:=Az.mk hl409_6
      clear hi409_6 hl409_6
      replace p409:=eq_true p409
      replace q409:=eq_true q409
      have ea_:=Option.some.inj (hx406_4.symm.trans hx409_4)
      injection ea_ with ea_ en_ ec_
      subst ea_
      subst ec_
      clear en_
      have ea_:=Option.some.inj (hx406_6.symm.trans hx409_6)
      injection ea_ with ea_ en_ ec_
      subst ea_
      subst ec_
      clear en_
      refine start_ (n:=30) (S:=fun w'=>w'.cell? ⟨gb403,0,none⟩=some (.int .i64 a1_0)∧w'.cell? ⟨gb403,1,none⟩=some (.int .i64 a1_1)∧w'.cell? ⟨gb403,2,none⟩=some (.int .i64 a1_2)∧w'.cell? ⟨gb403,3,none⟩=some (.int .i64 a1_3)∧w'.cell? ⟨gb403,4,none⟩=some (.slice A1_4 l1_4.length c1_4)∧w'.cell? ⟨gb403,5,none⟩=some (.string a1_5)∧w'.cell? ⟨gb403,6,none⟩=some (.slice (some ad406) l1_6.length c1_6)∧w'.cell? ⟨gb402,0,none⟩=some (.slice A0_0 l0_0.length c0_0)∧w'.cell? ⟨gb402,1,none⟩=some (.slice A0_1 l0_1.length c0_1)∧w'.cell? ⟨gb402,2,none⟩=some (.slice A0_2 l0_2.length c0_2)∧w'.cell? ⟨gb402,3,none⟩=some (.slice (some ad407) l0_3.length c0_3)∧w'.cell? ⟨gb402,4,none⟩=some (.slice A0_4 l0_4.length c0_4)∧w'.cell? ad406=some (.int .i64 ((rd_T32 l1_6 0).f0))∧w'.cell? ⟨ad406.block,ad406.off + 1,none⟩=some (.int .i64 ((rd_T32 l1_6 0).f1))∧w'.cell? ⟨ad406.block,ad406.off + 2,none⟩=some (.int .i64 ((rd_T32 l1_6 0).f2))∧w'.cell? ⟨ad406.block,ad406.off + 3,none⟩=some (.int .i64 ((rd_T32 l1_6 0).f3))∧w'.cell? ⟨ad406.block,ad406.off + 4,none⟩=some (.slice A406_4 ((rd_T32 l1_6 0).f4).length c406_4)∧w'.cell? ⟨ad406.block,ad406.off + 5,none⟩=some (.string ((rd_T32 l1_6 0).f5))∧w'.cell? ⟨ad406.block,ad406.off + 6,none⟩=some (.slice A406_6 ((rd_T32 l1_6 0).f6).length c406_6)∧w'.cell? ad407=some (.int .i64 ((rd_T67 l0_3 0).f0))∧w'.cell? ⟨ad407.block,ad407.off + 1,none⟩=some (.slice (some ad408) ((rd_T67 l0_3 0).f1).length c407_1)∧w'.cell? ⟨ad407.block,ad407.off + 2,none⟩=some (.slice A407_2 ((rd_T67 l0_3 0).f2).length c407_2)∧w'.cell? ⟨ad407.block,ad407.off + 3,none⟩=some (.string ((rd_T67 l0_3 0).f3))∧w'.cell? ⟨ad407.block,ad407.off + 4,none⟩=some (.int .i64 ((rd_T67 l0_3 0).f4))∧w'.cell? ad408=some (.int .i64 (rd ((rd_T67 l0_3 0).f1) 0))∧w'.cell? ad406=some (.int .i64 ((rd_T32 l1_6 0).f0))∧w'.cell? ⟨ad406.block,ad406.off + 1,none⟩=some (.int .i64 ((rd_T32 l1_6 0).f1))∧w'.cell? ⟨ad406.block,ad406.off + 2,none⟩=some (.int .i64 ((rd_T32 l1_6 0).f2))∧w'.cell? ⟨ad406.block,ad406.off + 3,none⟩=some (.int .i64 ((rd_T32 l1_6 0).f3))∧w'.cell? ⟨ad406.block,ad406.off + 4,none⟩=some (.slice A406_4 ((rd_T32 l1_6 0).f4).length c406_4)∧w'.cell? ⟨ad406.block,ad406.off + 5,none⟩=some (.string ((rd_T32 l1_6 0).f5))∧w'.cell? ⟨ad406.block,ad406.off + 6,none⟩=some (.slice A406_6 ((rd_T32 l1_6 0).f6).length c406_6)) (ds:=[]) #[Z,Z,Z,Z,Z,Z,Z,Z,Z,Z,Z,Z,Z,Z,Z,Z,Z,Z,Z,Z,Z,Z,Z,Z,Z,Z,Z,Z,Z,Z] (by kernel_rfl) rfl rfl ⟨(bC_ BK403.out 0).trans rfl,(bC_ BK403.out 1).trans rfl,(bC_ BK403.out 2).trans rfl,(bC_ BK403.out 3).trans rfl,(bC_ BK403.out 4).trans rfl,(bC_ BK403.out 5).trans rfl,(bC_ BK403.out 6).trans rfl,(bC_ BK402.out 0).trans rfl,(bC_ BK402.out 1).trans rfl,(bC_ BK402.out 2).trans rfl,(bC_ BK402.out 3).trans rfl,(bC_ BK402.out 4).trans rfl,(bc_ HB.out hw406_0),(bc_ HB.out hw406_1),(bc_ HB.out hw406_2),(bc_ HB.out hw406_3),(bc_ HB.out hw406_4),(bc_ HB.out hw406_5),(bc_ HB.out hw406_6),(bc_ HB.out hw407_0),(bc_ HB.out hw407_1),(bc_ HB.out hw407_2),(bc_ HB.out hw407_3),(bc_ HB.out hw407_4),(bc_ HB.out hw408_0),(bc_ HB.out hw409_0),(bc_ HB.out hw409_1),(bc_ HB.out hw409_2),(bc_ HB.out hw409_3),(bc_ HB.out hw409_4),(bc_ HB.out hw409_5),(bc_ HB.out hw409_6)⟩ (fun hHeld=>?_);refine with_tabW arboristref42_Right.tab5 arboristref42_Right.bits5 (fun HT_ HW_=>?_)
      generalize wc.drew=w51 at BK402 BK403 HB HR406_4 HR406_6 HR407_1 HR407_2 HR409_4 HR409_6 hx406_0 hx406_1 hx406_2 hx406_3 hx406_4 hx406_5 hx406_6 hx407_0 hx407_1 hx407_2 hx407_3 hx407_4 hx408_0 hx409_0 hx409_1 hx409_2 hx409_3 hx409_4 hx409_5 hx409_6 hHeld ⊢
      refine pure_ (i:=0) (N:=some 48) (v:=?_) (a':=?_) #[Y,Z,Z,Z,Z,Z,Z,Z,Z,Z,Z,Z,Z,Z,Z,Z,Z,Z,Z,Z,Z,Z,Z,Z,Z,Z,Z,Z,Z,Z] rfl rfl (any_of HT_.out (by kernel_rfl)) (fun _ _ _ h=>h) (Or.inl ⟨by rfl,?_⟩) ?_ ?_
      rotate_left
      ·intro w'
       go_simp
       with_reducible rfl
      rotate_left
      ·simp only [Act.put,sT_,s0_,sC_,i64_w,i32_w]
       rfl
      refine pure_ (i:=5) (N:=some 53) (v:=?_) (a':=?_) #[Y,Z,Z,Z,Z,Y,Z,Z,Z,Z,Z,Z,Z,Z,Z,Z,Z,Z,Z,Z,Z,Z,Z,Z,Z,Z,Z,Z,Z,Z] rfl rfl (any_of HT_.out (by kernel_rfl)) (fun _ _ _ h=>h) (Or.inl ⟨by rfl,?_⟩) ?_ ?_
      rotate_left
      ·intro w'
       go_simp
       with_reducible rfl
      rotate_left
      ·simp only [Act.put,sT_,s0_,sC_,i64_w,i32_w]
       rfl
      refine take_ (i:=1) (N:=some 49) (v:=?_) (a':=?_) #[Y,Y,Z,Z,Z,Y,Z,Z,Z,Z,Z,Z,Z,Z,Z,Z,Z,Z,Z,Z,Z,Z,Z,Z,Z,Z,Z,Z,Z,Z] rfl rfl (take_ofW HT_.out HW_.out (by kernel_rfl)) (fun _ _ _ h=>h) (Or.inl ⟨by rfl,?_⟩) hHeld ?_ ?_
      rotate_left
      ·rintro w' ⟨s0,s1,s2,s3,s4,s5,s6,s7,s8,s9,s10,s11,s12,s13,s14,s15,s16,s17,s18,s19,s20,s21,s22,s23,s24,s25,s26,s27,s28,s29,s30,s31⟩
       go_simp
       with_reducible rfl
      rotate_left
      ·simp only [Act.put,sT_,s0_,sC_,i64_w,i32_w]
       rfl
      refine pure_ (i:=2) (N:=some 50) (v:=?_) (a':=?_) #[Y,Y,Y,Z,Z,Y,Z,Z,Z,Z,Z,Z,Z,Z,Z,Z,Z,Z,Z,Z,Z,Z,Z,Z,Z,Z,Z,Z,Z,Z] rfl rfl (any_of HT_.out (by kernel_rfl)) (fun _ _ _ h=>h) (Or.inl ⟨by rfl,?_⟩) ?_ ?_
      rotate_left
      ·intro w'
       go_simp
       with_reducible rfl
      rotate_left
      ·simp only [Act.put,sT_,s0_,sC_,i64_w,i32_w]
       rfl
      refine pure_ (i:=3) (N:=some 51) (v:=?_) (a':=?_) #[Y,Y,Y,Y,Z,Y,Z,Z,Z,Z,Z,Z,Z,Z,Z,Z,Z,Z,Z,Z,Z,Z,Z,Z,Z,Z,Z,Z,Z,Z] rfl rfl (any_of HT_.out (by kernel_rfl)) (fun _ _ _ h=>h) (Or.inl ⟨by rfl,?_⟩) ?_ ?_
      rotate_left
      ·intro w'
       go_simp
       with_reducible rfl
      rotate_left
      ·simp only [Act.put,sT_,s0_,sC_,i64_w,i32_w]
       rfl
      refine take_ (i:=4) (N:=some 52) (v:=?_) (a':=?_) #[Y,Y,Y,Y,Y,Y,Z,Z,Z,Z,Z,Z,Z,Z,Z,Z,Z,Z,Z,Z,Z,Z,Z,Z,Z,Z,Z,Z,Z,Z] rfl rfl (take_ofW HT_.out HW_.out (by kernel_rfl)) (fun _ _ _ h=>h) (Or.inl ⟨by rfl,?_⟩) hHeld ?_ ?_
      rotate_left
      ·rintro w' ⟨s0,s1,s2,s3,s4,s5,s6,s7,s8,s9,s10,s11,s12,s13,s14,s15,s16,s17,s18,s19,s20,s21,s22,s23,s24,s25,s26,s27,s28,s29,s30,s31⟩
       go_simp
       with_reducible rfl
      rotate_left
      ·simp only [Act.put,sT_,s0_,sC_,i64_w,i32_w]
       rfl
      refine take_ (i:=6) (N:=some 54) (v:=?_) (a':=?_) #[Y,Y,Y,Y,Y,Y,Y,Z,Z,Z,Z,Z,Z,Z,Z,Z,Z,Z,Z,Z,Z,Z,Z,Z,Z,Z,Z,Z,Z,Z] rfl rfl (take_ofW HT_.out HW_.out (by kernel_rfl)) (fun _ _ _ h=>h) (Or.inl ⟨by rfl,?_⟩) hHeld ?_ ?_
      rotate_left
      ·rintro w' ⟨s0,s1,s2,s3,s4,s5,s6,s7,s8,s9,s10,s11,s12,s13,s14,s15,s16,s17,s18,s19,s20,s21,s22,s23,s24,s25,s26,s27,s28,s29,s30,s31⟩
       go_simp
       with_reducible rfl
      rotate_left
      ·simp only [Act.put,sT_,s0_,sC_,i64_w,i32_w]
       rfl
      refine pure_ (i:=7) (N:=some 55) (v:=?_) (a':=?_) #[Y,Y,Y,Y,Y,Y,Y,Y,Z,Z,Z,Z,Z,Z,Z,Z,Z,Z,Z,Z,Z,Z,Z,Z,Z,Z,Z,Z,Z,Z] rfl rfl (any_of HT_.out (by kernel_rfl)) (fun _ _ _ h=>h) (Or.inl ⟨by rfl,?_⟩) ?_ ?_
      rotate_left
      ·intro w'
       go_simp
       with_reducible rfl
      rotate_left
      ·simp only [Act.put,sT_,s0_,sC_,i64_w,i32_w]
       rfl
      refine pure_ (i:=8) (N:=some 56) (v:=?_) (a':=?_) #[Y,Y,Y,Y,Y,Y,Y,Y,Y,Z,Z,Z,Z,Z,Z,Z,Z,Z,Z,Z,Z,Z,Z,Z,Z,Z,Z,Z,Z,Z] rfl rfl (any_of HT_.out (by kernel_rfl)) (fun _ _ _ h=>h) (Or.inl ⟨by rfl,?_⟩) ?_ ?_
      rotate_left
      ·intro w'
       go_simp
       with_reducible rfl
      rotate_left
      ·simp only [Act.put,sT_,s0_,sC_,i64_w,i32_w]
       rfl
      refine take_ (i:=9) (N:=some 57) (v:=?_) (a':=?_) #[Y,Y,Y,Y,Y,Y,Y,Y,Y,Y,Z,Z,Z,Z,Z,Z,Z,Z,Z,Z,Z,Z,Z,Z,Z,Z,Z,Z,Z,Z] rfl rfl (take_ofW HT_.out HW_.out (by kernel_rfl)) (fun _ _ _ h=>h) (Or.inl ⟨by rfl,?_⟩) hHeld ?_ ?_
      rotate_left
      ·rintro w' ⟨s0,s1,s2,s3,s4,s5,s6,s7,s8,s9,s10,s11,s12,s13,s14,s15,s16,s17,s18,s19,s20,s21,s22,s23,s24,s25,s26,s27,s28,s29,s30,s31⟩
       go_simp
       with_reducible rfl
      rotate_left
      ·simp only [Act.put,sT_,s0_,sC_,i64_w,i32_w]
       rfl
      refine pure_ (i:=10) (N:=some 58) (v:=?_) (a':=?_) #[Y,Y,Y,Y,Y,Y,Y,Y,Y,Y,Y,Z,Z,Z,Z,Z,Z,Z,Z,Z,Z,Z,Z,Z,Z,Z,Z,Z,Z,Z] rfl rfl (any_of HT_.out (by kernel_rfl)) (fun _ _ _ h=>h) (Or.inl ⟨by rfl,?_⟩) ?_ ?_
      rotate_left
      ·intro w'
       go_simp
       with_reducible rfl
      rotate_left
      ·simp only [Act.put,sT_,s0_,sC_,i64_w,i32_w]
       rfl
      refine take_ (i:=11) (N:=some 59) (v:=?_) (a':=?_) #[Y,Y,Y,Y,Y,Y,Y,Y,Y,Y,Y,Y,Z,Z,Z,Z,Z,Z,Z,Z,Z,Z,Z,Z,Z,Z,Z,Z,Z,Z] rfl rfl (take_ofW HT_.out HW_.out (by kernel_rfl)) (fun _ _ _ h=>h) (Or.inl ⟨by rfl,?_⟩) hHeld ?_ ?_
      rotate_left
      ·rintro w' ⟨s0,s1,s2,s3,s4,s5,s6,s7,s8,s9,s10,s11,s12,s13,s14,s15,s16,s17,s18,s19,s20,s21,s22,s23,s24,s25,s26,s27,s28,s29,s30,s31⟩
       go_simp
       with_reducible rfl
      rotate_left
      ·simp only [Act.put,sT_,s0_,sC_,i64_w,i32_w]
       rfl
      refine pure_ (i:=12) (N:=some 60) (v:=?_) (a':=?_) #[Y,Y,Y,Y,Y,Y,Y,Y,Y,Y,Y,Y,Y,Z,Z,Z,Z,Z,Z,Z,Z,Z,Z,Z,Z,Z,Z,Z,Z,Z] rfl rfl (any_of HT_.out (by kernel_rfl)) (fun _ _ _ h=>h) (Or.inl ⟨by rfl,?_⟩) ?_ ?_
      rotate_left
      ·intro w'
       go_simp
       with_reducible rfl
      rotate_left
      ·simp only [Act.put,sT_,s0_,sC_,i64_w,i32_w]
       rfl
      refine pure_ (i:=13) (N:=some 61) (v:=?_) (a':=?_) #[Y,Y,Y,Y,Y,Y,Y,Y,Y,Y,Y,Y,Y,Y,Z,Z,Z,Z,Z,Z,Z,Z,Z,Z,Z,Z,Z,Z,Z,Z] rfl rfl (any_of HT_.out (by kernel_rfl)) (fun _ _ _ h=>h) (Or.inl ⟨by rfl,?_⟩) ?_ ?_
      rotate_left
      ·intro w'
       go_simp
       with_reducible rfl
      rotate_left
      ·simp only [Act.put,sT_,s0_,sC_,i64_w,i32_w]
       rfl
      refine pure_ (i:=15) (N:=some 63) (v:=?_) (a':=?_) #[Y,Y,Y,Y,Y,Y,Y,Y,Y,Y,Y,Y,Y,Y,Z,Y,Z,Z,Z,Z,Z,Z,Z,Z,Z,Z,Z,Z,Z,Z] rfl rfl (any_of HT_.out (by kernel_rfl)) (fun _ _ _ h=>h) (Or.inl ⟨by rfl,?_⟩) ?_ ?_
      rotate_left
      ·intro w'
       go_simp
       with_reducible rfl
      rotate_left
      ·simp only [Act.put,sT_,s0_,sC_,i64_w,i32_w]
       rfl
      refine take_ (i:=14) (N:=some 62) (v:=?_) (a':=?_) #[Y,Y,Y,Y,Y,Y,Y,Y,Y,Y,Y,Y,Y,Y,Y,Y,Z,Z,Z,Z,Z,Z,Z,Z,Z,Z,Z,Z,Z,Z] rfl rfl (take_ofW HT_.out HW_.out (by kernel_rfl)) (fun _ _ _ h=>h) (Or.inl ⟨by rfl,?_⟩) hHeld ?_ ?_
      rotate_left
      ·rintro w' ⟨s0,s1,s2,s3,s4,s5,s6,s7,s8,s9,s10,s11,s12,s13,s14,s15,s16,s17,s18,s19,s20,s21,s22,s23,s24,s25,s26,s27,s28,s29,s30,s31⟩
       go_simp
       with_reducible rfl
      rotate_left
      ·simp only [Act.put,sT_,s0_,sC_,i64_w,i32_w]
       rfl
      refine take_ (i:=16) (N:=some 64) (v:=?_) (a':=?_) #[Y,Y,Y,Y,Y,Y,Y,Y,Y,Y,Y,Y,Y,Y,Y,Y,Y,Z,Z,Z,Z,Z,Z,Z,Z,Z,Z,Z,Z,Z] rfl rfl (take_ofW HT_.out HW_.out (by kernel_rfl)) (fun _ _ _ h=>h) (Or.inl ⟨by rfl,?_⟩) hHeld ?_ ?_
      rotate_left
      ·rintro w' ⟨s0,s1,s2,s3,s4,s5,s6,s7,s8,s9,s10,s11,s12,s13,s14,s15,s16,s17,s18,s19,s20,s21,s22,s23,s24,s25,s26,s27,s28,s29,s30,s31⟩
       go_simp
       with_reducible rfl
      rotate_left
      ·simp only [Act.put,sT_,s0_,sC_,i64_w,i32_w]
       rfl
      refine pure_ (i:=17) (N:=some 65) (v:=?_) (a':=?_) #[Y,Y,Y,Y,Y,Y,Y,Y,Y,Y,Y,Y,Y,Y,Y,Y,Y,Y,Z,Z,Z,Z,Z,Z,Z,Z,Z,Z,Z,Z] rfl rfl (any_of HT_.out (by kernel_rfl)) (fun _ _ _ h=>h) (Or.inl ⟨by rfl,?_⟩) ?_ ?_
      rotate_left
      ·intro w'
       go_simp
       with_reducible rfl
      rotate_left
      ·simp only [Act.put,sT_,s0_,sC_,i64_w,i32_w]
       rfl
      refine take_ (i:=18) (N:=some 66) (v:=?_) (a':=?_) #[Y,Y,Y,Y,Y,Y,Y,Y,Y,Y,Y,Y,Y,Y,Y,Y,Y,Y,Y,Z,Z,Z,Z,Z,Z,Z,Z,Z,Z,Z] rfl rfl (take_ofW HT_.out HW_.out (by kernel_rfl)) (fun _ _ _ h=>h) (Or.inl ⟨by rfl,?_⟩) hHeld ?_ ?_
      rotate_left
      ·rintro w' ⟨s0,s1,s2,s3,s4,s5,s6,s7,s8,s9,s10,s11,s12,s13,s14,s15,s16,s17,s18,s19,s20,s21,s22,s23,s24,s25,s26,s27,s28,s29,s30,s31⟩
       go_simp
       with_reducible rfl
      rotate_left
      ·simp only [Act.put,sT_,s0_,sC_,i64_w,i32_w]
       rfl
      refine one_ (i:=19) (N:=some 67) #[Y,Y,Y,Y,Y,Y,Y,Y,Y,Y,Y,Y,Y,Y,Y,Y,Y,Y,Y,Y,Z,Z,Z,Z,Z,Z,Z,Z,Z,Z] rfl rfl (one_of HT_.out (by kernel_rfl)) (by decide) (fun K hK=>?_)
      refine goes_ Try.func39 (by kernel_rfl) rfl #[.agg #[.slice A0_0 l0_0.length c0_0,.slice A0_1 l0_1.length c0_1,.slice A0_2 l0_2.length c0_2,.slice (some ad407) l0_3.length c0_3,.slice A0_4 l0_4.length c0_4],.agg #[.int .i64 ((rd_T32 l1_6 0).f0),.int .i64 ((rd_T32 l1_6 0).f1),.int .i64 ((rd_T32 l1_6 0).f2),.int .i64 ((rd_T32 l1_6 0).f3),.slice A406_4 ((rd_T32 l1_6 0).f4).length c406_4,.string ((rd_T32 l1_6 0).f5),.slice A406_6 ((rd_T32 l1_6 0).f6).length c406_6],.bool false] (by rfl) rfl rfl (by(try simp only [List.map_toArray,List.map_cons,List.map_nil]);first|done|rfl|(simp only [List.length_drop,List.length_take];rfl)) ?_
      with_reducible refine(arboristref42_within.calls kj17 _ _ l0_0 _ _ l0_1 _ _ l0_2 _ _ l0_3 _ _ l0_4 ((rd_T32 l1_6 0).f0) ((rd_T32 l1_6 0).f1) ((rd_T32 l1_6 0).f2) ((rd_T32 l1_6 0).f3) _ _ ((rd_T32 l1_6 0).f4) ((rd_T32 l1_6 0).f5) _ _ ((rd_T32 l1_6 0).f6) false false _ ?side1 ?side2 ?side3 ?side4 ?side5 ?side6 ?side7 ?side8 ?side9 ?side10 ?side11 ?side12 ?side13 ?side14 A44.out).mono ?_
      (case side1=>repeat (first|exact(Kd.C_below HR0_0.out HB.out)|(with_reducible first|refine Kd.C_alloc ?_ _|refine Kd.C_drewN ?_ _|refine Kd.C_drew ?_)))
      (case side2=>exact HC0_0.out)
      (case side3=>repeat (first|exact(Kd.C_below HR0_1.out HB.out)|(with_reducible first|refine Kd.C_alloc ?_ _|refine Kd.C_drewN ?_ _|refine Kd.C_drew ?_)))
      (case side4=>exact HC0_1.out)
      (case side5=>repeat (first|exact(Kd.C_below HR0_2.out HB.out)|(with_reducible first|refine Kd.C_alloc ?_ _|refine Kd.C_drewN ?_ _|refine Kd.C_drew ?_)))
      (case side6=>exact HC0_2.out)
      (case side7=>repeat (first|exact(Kd.C_below HR0_3.out HB.out)|(with_reducible first|refine Kd.C_alloc ?_ _|refine Kd.C_drewN ?_ _|refine Kd.C_drew ?_)))
      (case side8=>exact HC0_3.out)
      (case side9=>repeat (first|exact(Kd.C_below HR0_4.out HB.out)|(with_reducible first|refine Kd.C_alloc ?_ _|refine Kd.C_drewN ?_ _|refine Kd.C_drew ?_)))
      (case side10=>exact HC0_4.out)
      (case side11=>repeat (first|exact(Kd.C_below HR409_4.out HB.out)|(with_reducible first|refine Kd.C_alloc ?_ _|refine Kd.C_drewN ?_ _|refine Kd.C_drew ?_)))
      (case side12=>exact HC409_4.out)
      (case side13=>repeat (first|exact(Kd.C_below HR409_6.out HB.out)|(with_reducible first|refine Kd.C_alloc ?_ _|refine Kd.C_drewN ?_ _|refine Kd.C_drew ?_)))
      (case side14=>exact HC409_6.out)
      rintro e w52 ⟨rfl,hb⟩
      refine⟨_,rfl,?_⟩
      have n0_:=Az.mk (kB_ BK402.out hb)
      have n1_:=Az.mk (kB_ BK403.out hb)
      have n2_:=Az.mk (bT_ HB.out hb)
      clear BK402
      clear BK403
      clear HB
      have BK402:=n0_
      have BK403:=n1_
      have HB:=n2_
      clear n0_ n1_ n2_
      (try clear hb)
      (try clear hb2)
      (try clear hk)
      (try clear hi)
      refine hK.out _ _ ⟨(bC_ BK403.out 0).trans rfl,(bC_ BK403.out 1).trans rfl,(bC_ BK403.out 2).trans rfl,(bC_ BK403.out 3).trans rfl,(bC_ BK403.out 4).trans rfl,(bC_ BK403.out 5).trans rfl,(bC_ BK403.out 6).trans rfl,(bC_ BK402.out 0).trans rfl,(bC_ BK402.out 1).trans rfl,(bC_ BK402.out 2).trans rfl,(bC_ BK402.out 3).trans rfl,(bC_ BK402.out 4).trans rfl,(bc_ HB.out hw406_0),(bc_ HB.out hw406_1),(bc_ HB.out hw406_2),(bc_ HB.out hw406_3),(bc_ HB.out hw406_4),(bc_ HB.out hw406_5),(bc_ HB.out hw406_6),(bc_ HB.out hw407_0),(bc_ HB.out hw407_1),(bc_ HB.out hw407_2),(bc_ HB.out hw407_3),(bc_ HB.out hw407_4),(bc_ HB.out hw408_0),(bc_ HB.out hw409_0),(bc_ HB.out hw409_1),(bc_ HB.out hw409_2),(bc_ HB.out hw409_3),(bc_ HB.out hw409_4),(bc_ HB.out hw409_5),(bc_ HB.out hw409_6)⟩ (fun hHeld=>?_)
      clear hK K
      refine norm_ (a':=?_) ?_ ?_
      rotate_left
      ·show Act.put _ (some 67) _=_
       simp only [Act.put,sT_,s0_,sC_,i64_w,i32_w]
       rfl
      refine pure_ (i:=20) (N:=some 68) (v:=?_) (a':=?_) #[Y,Y,Y,Y,Y,Y,Y,Y,Y,Y,Y,Y,Y,Y,Y,Y,Y,Y,Y,Y,Y,Z,Z,Z,Z,Z,Z,Z,Z,Z] rfl rfl (any_of HT_.out (by kernel_rfl)) (fun _ _ _ h=>h) (Or.inl ⟨by rfl,?_⟩) ?_ ?_
      rotate_left
      ·intro w'
       go_simp
       with_reducible rfl
      rotate_left
      ·simp only [Act.put,sT_,s0_,sC_,i64_w,i32_w]
       rfl
      refine pure_ (i:=21) (N:=some 69) (v:=?_) (a':=?_) #[Y,Y,Y,Y,Y,Y,Y,Y,Y,Y,Y,Y,Y,Y,Y,Y,Y,Y,Y,Y,Y,Y,Z,Z,Z,Z,Z,Z,Z,Z] rfl rfl (any_of HT_.out (by kernel_rfl)) (fun _ _ _ h=>h) (Or.inl ⟨by rfl,?_⟩) ?_ ?_
      rotate_left
      ·intro w'
       go_simp
       with_reducible rfl
      rotate_left
      ·simp only [Act.put,sT_,s0_,sC_,i64_w,i32_w]
       rfl
      refine pure_ (i:=22) (N:=some 70) (v:=undef) (a':=?_) #[Y,Y,Y,Y,Y,Y,Y,Y,Y,Y,Y,Y,Y,Y,Y,Y,Y,Y,Y,Y,Y,Y,Y,Z,Z,Z,Z,Z,Z,Z] rfl rfl (any_of HT_.out (by kernel_rfl)) (fun _ _ _ h=>h) (Or.inr ⟨by rfl,rfl⟩) ?_ ?_
      rotate_left
      ·simp only [Act.put,sT_,s0_,sC_,i64_w,i32_w]
       rfl
      refine pure_ (i:=23) (N:=some 71) (v:=undef) (a':=?_) #[Y,Y,Y,Y,Y,Y,Y,Y,Y,Y,Y,Y,Y,Y,Y,Y,Y,Y,Y,Y,Y,Y,Y,Y,Z,Z,Z,Z,Z,Z] rfl rfl (any_of HT_.out (by kernel_rfl)) (fun _ _ _ h=>h) (Or.inr ⟨by rfl,rfl⟩) ?_ ?_
      rotate_left
      ·simp only [Act.put,sT_,s0_,sC_,i64_w,i32_w]
       rfl
      refine pure_ (i:=24) (N:=some 72) (v:=undef) (a':=?_) #[Y,Y,Y,Y,Y,Y,Y,Y,Y,Y,Y,Y,Y,Y,Y,Y,Y,Y,Y,Y,Y,Y,Y,Y,Y,Z,Z,Z,Z,Z] rfl rfl (any_of HT_.out (by kernel_rfl)) (fun _ _ _ h=>h) (Or.inr ⟨by rfl,rfl⟩) ?_ ?_
      rotate_left
      ·simp only [Act.put,sT_,s0_,sC_,i64_w,i32_w]
       rfl
      refine pure_ (i:=25) (N:=some 73) (v:=undef) (a':=?_) #[Y,Y,Y,Y,Y,Y,Y,Y,Y,Y,Y,Y,Y,Y,Y,Y,Y,Y,Y,Y,Y,Y,Y,Y,Y,Y,Z,Z,Z,Z] rfl rfl (any_of HT_.out (by kernel_rfl)) (fun _ _ _ h=>h) (Or.inr ⟨by rfl,rfl⟩) ?_ ?_
      rotate_left
      ·simp only [Act.put,sT_,s0_,sC_,i64_w,i32_w]
       rfl
      refine pure_ (i:=26) (N:=some 74) (v:=undef) (a':=?_) #[Y,Y,Y,Y,Y,Y,Y,Y,Y,Y,Y,Y,Y,Y,Y,Y,Y,Y,Y,Y,Y,Y,Y,Y,Y,Y,Y,Z,Z,Z] rfl rfl (any_of HT_.out (by kernel_rfl)) (fun _ _ _ h=>h) (Or.inr ⟨by rfl,rfl⟩) ?_ ?_
      rotate_left
      ·simp only [Act.put,sT_,s0_,sC_,i64_w,i32_w]
       rfl
      refine pure_ (i:=27) (N:=some 75) (v:=undef) (a':=?_) #[Y,Y,Y,Y,Y,Y,Y,Y,Y,Y,Y,Y,Y,Y,Y,Y,Y,Y,Y,Y,Y,Y,Y,Y,Y,Y,Y,Y,Z,Z] rfl rfl (any_of HT_.out (by kernel_rfl)) (fun _ _ _ h=>h) (Or.inr ⟨by rfl,rfl⟩) ?_ ?_
      rotate_left
      ·simp only [Act.put,sT_,s0_,sC_,i64_w,i32_w]
       rfl
      refine pure_ (i:=28) (N:=some 76) (v:=?_) (a':=?_) #[Y,Y,Y,Y,Y,Y,Y,Y,Y,Y,Y,Y,Y,Y,Y,Y,Y,Y,Y,Y,Y,Y,Y,Y,Y,Y,Y,Y,Y,Z] rfl rfl (any_of HT_.out (by kernel_rfl)) (fun _ _ _ h=>h) (Or.inl ⟨by rfl,?_⟩) ?_ ?_
      rotate_left
      ·intro w'
       go_simp
       with_reducible rfl
      rotate_left
      ·simp only [Act.put,sT_,s0_,sC_,i64_w,i32_w]
       rfl
      refine pure_ (i:=29) (N:=some 4) (v:=?_) (a':=?_) #[Y,Y,Y,Y,Y,Y,Y,Y,Y,Y,Y,Y,Y,Y,Y,Y,Y,Y,Y,Y,Y,Y,Y,Y,Y,Y,Y,Y,Y,Y] rfl rfl (any_of HT_.out (by kernel_rfl)) (fun _ _ _ h=>h) (Or.inl ⟨by rfl,?_⟩) ?_ ?_
      rotate_left
      ·intro w'
       go_simp
       with_reducible rfl
      rotate_left
      ·simp only [Act.put,sT_,s0_,sC_,i64_w,i32_w]
       rfl
      refine done_ (done_of HT_.out (by kernel_rfl)) ?_
      try go_wp2
      go_ret
      exact⟨by first|rfl|(simp [errW_none,errW_some] <;> rfl)|(simp [*,errW_none,errW_some] <;> rfl),by repeat (first|(with_reducible first|exact HB.out|apply bA_|apply bN_|apply bD_|refine bS_ ?_ GE402.out|refine bS_ ?_ GE403.out)|exact HB.out)⟩
     subst c45
     have H1:(if 1 < (l1_6.length:Int)then((arboristref42_within.f kj17 l0_0 l0_1 l0_2 l0_3 l0_4 ((rd_T32 l1_6 1).f0) ((rd_T32 l1_6 1).f1) ((rd_T32 l1_6 1).f2) ((rd_T32 l1_6 1).f3) ((rd_T32 l1_6 1).f4) ((rd_T32 l1_6 1).f5) ((rd_T32 l1_6 1).f6) true).bind fun t412=>(some t412))else(none))=some r:=by rw [if_pos rfl] at H;exact H
     clear H
     have H:=H1
     clear H1
     by_cases c46:1 < (l1_6.length:Int)
     rotate_left
     ·rw [if_neg c46] at H
      exact absurd H (by simp)
     rw [if_pos c46] at H
     have c46b0:=decide_eq_true c46
     have c46b1:decide (1 < l1_6.length)=true:=decide_eq_true (by omega)
     clear c46
     replace H:=Option.bind_eq_some_iff.mp H
     obtain⟨t412,A470,H⟩:=H
     replace H:(some t412)=some r:=H
     have A47:=Az.mk A470
     clear A470
     obtain rfl:=Option.some.inj H
     try go_wp2
     have n0_:=Az.mk (kD_ BK402.out)
     have n1_:=Az.mk (kD_ BK403.out)
     have n2_:=Az.mk (bD_ HB.out)
     clear BK402
     clear BK403
     clear HB
     have BK402:=n0_
     have BK403:=n1_
     have HB:=n2_
     clear n0_ n1_ n2_
     have p406:0≤(0:Int):=(by omega)
     have q406:0 < (l1_6.length:Int):=of_decide_eq_true (by assumption)
     obtain⟨ad406,A406_4,c406_4,A406_6,c406_6,e406,hx406_0,hx406_1,hx406_2,hx406_3,hx406_4,hx406_5,hx406_6,hl406_4,hi406_4,hl406_6,hi406_6⟩:=at_T32 HR1_6.out 0 p406 q406
     have hw406_6:=hx406_6
     (try rw [tn0_] at hw406_6)
     (try rw [show 0 * 7=0 from rfl] at hw406_6)
     (try rw [Addr.add_zero'] at hw406_6)
     have hw406_5:=hx406_5
     (try rw [tn0_] at hw406_5)
     (try rw [show 0 * 7=0 from rfl] at hw406_5)
     (try rw [Addr.add_zero'] at hw406_5)
     have hw406_4:=hx406_4
     (try rw [tn0_] at hw406_4)
     (try rw [show 0 * 7=0 from rfl] at hw406_4)
     (try rw [Addr.add_zero'] at hw406_4)
     have hw406_3:=hx406_3
     (try rw [tn0_] at hw406_3)
     (try rw [show 0 * 7=0 from rfl] at hw406_3)
     (try rw [Addr.add_zero'] at hw406_3)
     have hw406_2:=hx406_2
     (try rw [tn0_] at hw406_2)
     (try rw [show 0 * 7=0 from rfl] at hw406_2)
     (try rw [Addr.add_zero'] at hw406_2)
     have hw406_1:=hx406_1
     (try rw [tn0_] at hw406_1)
     (try rw [show 0 * 7=0 from rfl] at hw406_1)
     (try rw [Addr.add_zero'] at hw406_1)
     have hw406_0:=hx406_0
     (try rw [tn0_] at hw406_0)
     (try rw [show 0 * 7=0 from rfl] at hw406_0)
     (try rw [Addr.add_zero'] at hw406_0)
     cases e406
     have qi406:(0 < l1_6.length)=True:=eq_true (by omega)
     (try rw [tn0_] at hx406_0)
     (try rw [show 0 * 7=0 from rfl] at hx406_0)
     (try rw [Addr.add_zero'] at hx406_0)
     (try rw [tn0_] at hx406_1)
     (try rw [show 0 * 7=0 from rfl] at hx406_1)
     (try rw [Addr.add_zero'] at hx406_1)
     (try rw [tn0_] at hx406_2)
     (try rw [show 0 * 7=0 from rfl] at hx406_2)
     (try rw [Addr.add_zero'] at hx406_2)
     (try rw [tn0_] at hx406_3)
     (try rw [show 0 * 7=0 from rfl] at hx406_3)
     (try rw [Addr.add_zero'] at hx406_3)
     (try rw [tn0_] at hx406_4)
     (try rw [show 0 * 7=0 from rfl] at hx406_4)
     (try rw [Addr.add_zero'] at hx406_4)
     (try rw [tn0_] at hx406_5)
     (try rw [show 0 * 7=0 from rfl] at hx406_5)
     (try rw [Addr.add_zero'] at hx406_5)
     (try rw [tn0_] at hx406_6)
     (try rw [show 0 * 7=0 from rfl] at hx406_6)
     (try rw [Addr.add_zero'] at hx406_6)
     replace hx406_0:=bc_ HB.out hx406_0
     replace hx406_1:=bc_ HB.out hx406_1
     replace hx406_2:=bc_ HB.out hx406_2
     replace hx406_3:=bc_ HB.out hx406_3
     replace hx406_4:=bc_ HB.out hx406_4
     replace hx406_5:=bc_ HB.out hx406_5
     replace hx406_6:=bc_ HB.out hx406_6
     have HR406_4:=Az.mk hi406_4
     have HC406_4:=Az.mk hl406_4
     clear hi406_4 hl406_4
     have HR406_6:=Az.mk hi406_6
     have HC406_6:=Az.mk hl406_6
     clear hi406_6 hl406_6
     replace p406:=eq_true p406
     replace q406:=eq_true q406
     have p407:0≤(0:Int):=(by omega)
     have q407:0 < (l0_3.length:Int):=of_decide_eq_true (by assumption)
     obtain⟨ad407,A407_1,c407_1,A407_2,c407_2,e407,hx407_0,hx407_1,hx407_2,hx407_3,hx407_4,hl407_1,hi407_1,hl407_2,hi407_2⟩:=at_T67 HR0_3.out 0 p407 q407
     have hw407_4:=hx407_4
     (try rw [tn0_] at hw407_4)
     (try rw [show 0 * 5=0 from rfl] at hw407_4)
     (try rw [Addr.add_zero'] at hw407_4)
     have hw407_3:=hx407_3
     (try rw [tn0_] at hw407_3)
     (try rw [show 0 * 5=0 from rfl] at hw407_3)
     (try rw [Addr.add_zero'] at hw407_3)
     have hw407_2:=hx407_2
     (try rw [tn0_] at hw407_2)
     (try rw [show 0 * 5=0 from rfl] at hw407_2)
     (try rw [Addr.add_zero'] at hw407_2)
     have hw407_1:=hx407_1
     (try rw [tn0_] at hw407_1)
     (try rw [show 0 * 5=0 from rfl] at hw407_1)
     (try rw [Addr.add_zero'] at hw407_1)
     have hw407_0:=hx407_0
     (try rw [tn0_] at hw407_0)
     (try rw [show 0 * 5=0 from rfl] at hw407_0)
     (try rw [Addr.add_zero'] at hw407_0)
     cases e407
     have qi407:(0 < l0_3.length)=True:=eq_true (by omega)
     (try rw [tn0_] at hx407_0)
     (try rw [show 0 * 5=0 from rfl] at hx407_0)
     (try rw [Addr.add_zero'] at hx407_0)
     (try rw [tn0_] at hx407_1)
     (try rw [show 0 * 5=0 from rfl] at hx407_1)
     (try rw [Addr.add_zero'] at hx407_1)
     (try rw [tn0_] at hx407_2)
     (try rw [show 0 * 5=0 from rfl] at hx407_2)
     (try rw [Addr.add_zero'] at hx407_2)
     (try rw [tn0_] at hx407_3)
     (try rw [show 0 * 5=0 from rfl] at hx407_3)
     (try rw [Addr.add_zero'] at hx407_3)
     (try rw [tn0_] at hx407_4)
     (try rw [show 0 * 5=0 from rfl] at hx407_4)
     (try rw [Addr.add_zero'] at hx407_4)
     replace hx407_0:=bc_ HB.out hx407_0
     replace hx407_1:=bc_ HB.out hx407_1
     replace hx407_2:=bc_ HB.out hx407_2
     replace hx407_3:=bc_ HB.out hx407_3
     replace hx407_4:=bc_ HB.out hx407_4
     have HR407_1:=Az.mk hi407_1
     have HC407_1:=Az.mk hl407_1
     clear hi407_1 hl407_1
     have HR407_2:=Az.mk hi407_2
     have HC407_2:=Az.mk hl407_2
     clear hi407_2 hl407_2
     replace p407:=eq_true p407
     replace q407:=eq_true q407
     have p408:0≤(0:Int):=(by omega)
     have q408:0 < (((rd_T67 l0_3 0).f1).length:Int):=of_decide_eq_true (by assumption)
     obtain⟨ad408,e408,hx408_0⟩:=Kd.at_int HR407_1.out 0 p408 q408
     have hw408_0:=hx408_0
     (try rw [tn0_] at hw408_0)
     (try rw [show 0 * 1=0 from rfl] at hw408_0)
     (try rw [Addr.add_zero'] at hw408_0)
     cases e408
     have qi408:(0 < ((rd_T67 l0_3 0).f1).length)=True:=eq_true (by omega)
     (try rw [tn0_] at hx408_0)
     (try rw [Addr.add_zero'] at hx408_0)
     replace hx408_0:=bc_ HB.out hx408_0
     replace p408:=eq_true p408
     replace q408:=eq_true q408
     have p409:0≤(0:Int):=(by omega)
     have q409:0 < (l1_6.length:Int):=of_decide_eq_true (by assumption)
     obtain⟨ad409,A409_4,c409_4,A409_6,c409_6,e409,hx409_0,hx409_1,hx409_2,hx409_3,hx409_4,hx409_5,hx409_6,hl409_4,hi409_4,hl409_6,hi409_6⟩:=at_T32 HR1_6.out 0 p409 q409
     have hw409_6:=hx409_6
     (try rw [tn0_] at hw409_6)
     (try rw [show 0 * 7=0 from rfl] at hw409_6)
     (try rw [Addr.add_zero'] at hw409_6)
     have hw409_5:=hx409_5
     (try rw [tn0_] at hw409_5)
     (try rw [show 0 * 7=0 from rfl] at hw409_5)
     (try rw [Addr.add_zero'] at hw409_5)
     have hw409_4:=hx409_4
     (try rw [tn0_] at hw409_4)
     (try rw [show 0 * 7=0 from rfl] at hw409_4)
     (try rw [Addr.add_zero'] at hw409_4)
     have hw409_3:=hx409_3
     (try rw [tn0_] at hw409_3)
     (try rw [show 0 * 7=0 from rfl] at hw409_3)
     (try rw [Addr.add_zero'] at hw409_3)
     have hw409_2:=hx409_2
     (try rw [tn0_] at hw409_2)
     (try rw [show 0 * 7=0 from rfl] at hw409_2)
     (try rw [Addr.add_zero'] at hw409_2)
     have hw409_1:=hx409_1
     (try rw [tn0_] at hw409_1)
     (try rw [show 0 * 7=0 from rfl] at hw409_1)
     (try rw [Addr.add_zero'] at hw409_1)
     have hw409_0:=hx409_0
     (try rw [tn0_] at hw409_0)
     (try rw [show 0 * 7=0 from rfl] at hw409_0)
     (try rw [Addr.add_zero'] at hw409_0)
     obtain rfl:ad406=ad409:=(by injection e409)
     have qi409:(0 < l1_6.length)=True:=eq_true (by omega)
     (try rw [tn0_] at hx409_0)
     (try rw [show 0 * 7=0 from rfl] at hx409_0)
     (try rw [Addr.add_zero'] at hx409_0)
     (try rw [tn0_] at hx409_1)
     (try rw [show 0 * 7=0 from rfl] at hx409_1)
     (try rw [Addr.add_zero'] at hx409_1)
     (try rw [tn0_] at hx409_2)
     (try rw [show 0 * 7=0 from rfl] at hx409_2)
     (try rw [Addr.add_zero'] at hx409_2)
     (try rw [tn0_] at hx409_3)
     (try rw [show 0 * 7=0 from rfl] at hx409_3)
     (try rw [Addr.add_zero'] at hx409_3)
     (try rw [tn0_] at hx409_4)
     (try rw [show 0 * 7=0 from rfl] at hx409_4)
     (try rw [Addr.add_zero'] at hx409_4)
     (try rw [tn0_] at hx409_5)
     (try rw [show 0 * 7=0 from rfl] at hx409_5)
     (try rw [Addr.add_zero'] at hx409_5)
     (try rw [tn0_] at hx409_6)
     (try rw [show 0 * 7=0 from rfl] at hx409_6)
     (try rw [Addr.add_zero'] at hx409_6)
     replace hx409_0:=bc_ HB.out hx409_0
     replace hx409_1:=bc_ HB.out hx409_1
     replace hx409_2:=bc_ HB.out hx409_2
     replace hx409_3:=bc_ HB.out hx409_3
     replace hx409_4:=bc_ HB.out hx409_4
     replace hx409_5:=bc_ HB.out hx409_5
     replace hx409_6:=bc_ HB.out hx409_6
     have HR409_4:=Az.mk hi409_4
     have HC409_4:=Az.mk hl409_4
     clear hi409_4 hl409_4
     have HR409_6:=Az.mk hi409_6
     have HC409_6:=Az.mk hl409_6
     clear hi409_6 hl409_6
     replace p409:=eq_true p409
     replace q409:=eq_true q409
     have ea_:=Option.some.inj (hx406_4.symm.trans hx409_4)
     injection ea_ with ea_ en_ ec_
     subst ea_
     subst ec_
     clear en_
     have ea_:=Option.some.inj (hx406_6.symm.trans hx409_6)
     injection ea_ with ea_ en_ ec_
     subst ea_
     subst ec_
     clear en_
     have p411:0≤(1:Int):=(by omega)
     have q411:1 < (l1_6.length:Int):=of_decide_eq_true (by assumption)
     obtain⟨ad411,A411_4,c411_4,A411_6,c411_6,e411,hx411_0,hx411_1,hx411_2,hx411_3,hx411_4,hx411_5,hx411_6,hl411_4,hi411_4,hl411_6,hi411_6⟩:=at_T32 HR1_6.out 1 p411 q411
     have hw411_6:=hx411_6
     (try rw [tn1_] at hw411_6)
     (try rw [show 1 * 7=7 from rfl] at hw411_6)
     (try simp only [Nat.reduceMul,Nat.reduceEqDiff,Go.Addr.add,↓reduceIte] at hw411_6)
     have hw411_5:=hx411_5
     (try rw [tn1_] at hw411_5)
     (try rw [show 1 * 7=7 from rfl] at hw411_5)
     (try simp only [Nat.reduceMul,Nat.reduceEqDiff,Go.Addr.add,↓reduceIte] at hw411_5)
     have hw411_4:=hx411_4
     (try rw [tn1_] at hw411_4)
     (try rw [show 1 * 7=7 from rfl] at hw411_4)
     (try simp only [Nat.reduceMul,Nat.reduceEqDiff,Go.Addr.add,↓reduceIte] at hw411_4)
     have hw411_3:=hx411_3
     (try rw [tn1_] at hw411_3)
     (try rw [show 1 * 7=7 from rfl] at hw411_3)
     (try simp only [Nat.reduceMul,Nat.reduceEqDiff,Go.Addr.add,↓reduceIte] at hw411_3)
     have hw411_2:=hx411_2
     (try rw [tn1_] at hw411_2)
     (try rw [show 1 * 7=7 from rfl] at hw411_2)
     (try simp only [Nat.reduceMul,Nat.reduceEqDiff,Go.Addr.add,↓reduceIte] at hw411_2)
     have hw411_1:=hx411_1
     (try rw [tn1_] at hw411_1)
     (try rw [show 1 * 7=7 from rfl] at hw411_1)
     (try simp only [Nat.reduceMul,Nat.reduceEqDiff,Go.Addr.add,↓reduceIte] at hw411_1)
     have hw411_0:=hx411_0
     (try rw [tn1_] at hw411_0)
     (try rw [show 1 * 7=7 from rfl] at hw411_0)
     (try simp only [Nat.reduceMul,Nat.reduceEqDiff,Go.Addr.add,↓reduceIte] at hw411_0)
     obtain rfl:ad406=ad411:=(by injection e411)
     (try simp only [show(1:Int).toNat=1 from rfl,Nat.reduceMul,Nat.reduceEqDiff,Go.Addr.add,↓reduceIte] at hx411_0)
     (try simp only [show(1:Int).toNat=1 from rfl,Nat.reduceMul,Nat.reduceEqDiff,Go.Addr.add,↓reduceIte] at hx411_1)
     (try simp only [show(1:Int).toNat=1 from rfl,Nat.reduceMul,Nat.reduceEqDiff,Go.Addr.add,↓reduceIte] at hx411_2)
     (try simp only [show(1:Int).toNat=1 from rfl,Nat.reduceMul,Nat.reduceEqDiff,Go.Addr.add,↓reduceIte] at hx411_3)
     (try simp only [show(1:Int).toNat=1 from rfl,Nat.reduceMul,Nat.reduceEqDiff,Go.Addr.add,↓reduceIte] at hx411_4)
     (try simp only [show(1:Int).toNat=1 from rfl,Nat.reduceMul,Nat.reduceEqDiff,Go.Addr.add,↓reduceIte] at hx411_5)
     (try simp only [show(1:Int).toNat=1 from rfl,Nat.reduceMul,Nat.reduceEqDiff,Go.Addr.add,↓reduceIte] at hx411_6)
     have qi411:(1 < l1_6.length)=True:=eq_true (by omega)
     (try rw [tn1_] at hx411_0)
     (try rw [show 1 * 7=7 from rfl] at hx411_0)
     (try rw [tn1_] at hx411_1)
     (try rw [show 1 * 7=7 from rfl] at hx411_1)
     (try rw [tn1_] at hx411_2)
     (try rw [show 1 * 7=7 from rfl] at hx411_2)
     (try rw [tn1_] at hx411_3)
     (try rw [show 1 * 7=7 from rfl] at hx411_3)
     (try rw [tn1_] at hx411_4)
     (try rw [show 1 * 7=7 from rfl] at hx411_4)
     (try rw [tn1_] at hx411_5)
     (try rw [show 1 * 7=7 from rfl] at hx411_5)
     (try rw [tn1_] at hx411_6)
     (try rw [show 1 * 7=7 from rfl] at hx411_6)
     replace hx411_0:=bc_ HB.out hx411_0
     replace hx411_1:=bc_ HB.out hx411_1
     replace hx411_2:=bc_ HB.out hx411_2
     replace hx411_3:=bc_ HB.out hx411_3
     replace hx411_4:=bc_ HB.out hx411_4
     replace hx411_5:=bc_ HB.out hx411_5
     replace hx411_6:=bc_ HB.out hx411_6
     have HR411_4:=Az.mk hi411_4
     have HC411_4:=Az.mk hl411_4
     clear hi411_4 hl411_4
     have HR411_6:=Az.mk hi411_6
     have HC411_6:=Az.mk hl411_6
     clear hi411_6 hl411_6
     replace p411:=eq_true p411
     replace q411:=eq_true q411
     refine start_ (n:=30) (S:=fun w'=>w'.cell? ⟨gb403,0,none⟩=some (.int .i64 a1_0)∧w'.cell? ⟨gb403,1,none⟩=some (.int .i64 a1_1)∧w'.cell? ⟨gb403,2,none⟩=some (.int .i64 a1_2)∧w'.cell? ⟨gb403,3,none⟩=some (.int .i64 a1_3)∧w'.cell? ⟨gb403,4,none⟩=some (.slice A1_4 l1_4.length c1_4)∧w'.cell? ⟨gb403,5,none⟩=some (.string a1_5)∧w'.cell? ⟨gb403,6,none⟩=some (.slice (some ad406) l1_6.length c1_6)∧w'.cell? ⟨gb402,0,none⟩=some (.slice A0_0 l0_0.length c0_0)∧w'.cell? ⟨gb402,1,none⟩=some (.slice A0_1 l0_1.length c0_1)∧w'.cell? ⟨gb402,2,none⟩=some (.slice A0_2 l0_2.length c0_2)∧w'.cell? ⟨gb402,3,none⟩=some (.slice (some ad407) l0_3.length c0_3)∧w'.cell? ⟨gb402,4,none⟩=some (.slice A0_4 l0_4.length c0_4)∧w'.cell? ad406=some (.int .i64 ((rd_T32 l1_6 0).f0))∧w'.cell? ⟨ad406.block,ad406.off + 1,none⟩=some (.int .i64 ((rd_T32 l1_6 0).f1))∧w'.cell? ⟨ad406.block,ad406.off + 2,none⟩=some (.int .i64 ((rd_T32 l1_6 0).f2))∧w'.cell? ⟨ad406.block,ad406.off + 3,none⟩=some (.int .i64 ((rd_T32 l1_6 0).f3))∧w'.cell? ⟨ad406.block,ad406.off + 4,none⟩=some (.slice A406_4 ((rd_T32 l1_6 0).f4).length c406_4)∧w'.cell? ⟨ad406.block,ad406.off + 5,none⟩=some (.string ((rd_T32 l1_6 0).f5))∧w'.cell? ⟨ad406.block,ad406.off + 6,none⟩=some (.slice A406_6 ((rd_T32 l1_6 0).f6).length c406_6)∧w'.cell? ad407=some (.int .i64 ((rd_T67 l0_3 0).f0))∧w'.cell? ⟨ad407.block,ad407.off + 1,none⟩=some (.slice (some ad408) ((rd_T67 l0_3 0).f1).length c407_1)∧w'.cell? ⟨ad407.block,ad407.off + 2,none⟩=some (.slice A407_2 ((rd_T67 l0_3 0).f2).length c407_2)∧w'.cell? ⟨ad407.block,ad407.off + 3,none⟩=some (.string ((rd_T67 l0_3 0).f3))∧w'.cell? ⟨ad407.block,ad407.off + 4,none⟩=some (.int .i64 ((rd_T67 l0_3 0).f4))∧w'.cell? ad408=some (.int .i64 (rd ((rd_T67 l0_3 0).f1) 0))∧w'.cell? ad406=some (.int .i64 ((rd_T32 l1_6 0).f0))∧w'.cell? ⟨ad406.block,ad406.off + 1,none⟩=some (.int .i64 ((rd_T32 l1_6 0).f1))∧w'.cell? ⟨ad406.block,ad406.off + 2,none⟩=some (.int .i64 ((rd_T32 l1_6 0).f2))∧w'.cell? ⟨ad406.block,ad406.off + 3,none⟩=some (.int .i64 ((rd_T32 l1_6 0).f3))∧w'.cell? ⟨ad406.block,ad406.off + 4,none⟩=some (.slice A406_4 ((rd_T32 l1_6 0).f4).length c406_4)∧w'.cell? ⟨ad406.block,ad406.off + 5,none⟩=some (.string ((rd_T32 l1_6 0).f5))∧w'.cell? ⟨ad406.block,ad406.off + 6,none⟩=some (.slice A406_6 ((rd_T32 l1_6 0).f6).length c406_6)∧w'.cell? ⟨ad406.block,ad406.off + 7,none⟩=some (.int .i64 ((rd_T32 l1_6 1).f0))∧w'.cell? ⟨ad406.block,ad406.off + 7 + 1,none⟩=some (.int .i64 ((rd_T32 l1_6 1).f1))∧w'.cell? ⟨ad406.block,ad406.off + 7 + 2,none⟩=some (.int .i64 ((rd_T32 l1_6 1).f2))∧w'.cell? ⟨ad406.block,ad406.off + 7 + 3,none⟩=some (.int .i64 ((rd_T32 l1_6 1).f3))∧w'.cell? ⟨ad406.block,ad406.off + 7 + 4,none⟩=some (.slice A411_4 ((rd_T32 l1_6 1).f4).length c411_4)∧w'.cell? ⟨ad406.block,ad406.off + 7 + 5,none⟩=some (.string ((rd_T32 l1_6 1).f5))∧w'.cell? ⟨ad406.block,ad406.off + 7 + 6,none⟩=some (.slice A411_6 ((rd_T32 l1_6 1).f6).length c411_6)) (ds:=[]) #[Z,Z,Z,Z,Z,Z,Z,Z,Z,Z,Z,Z,Z,Z,Z,Z,Z,Z,Z,Z,Z,Z,Z,Z,Z,Z,Z,Z,Z,Z] (by kernel_rfl) rfl rfl ⟨(bC_ BK403.out 0).trans rfl,(bC_ BK403.out 1).trans rfl,(bC_ BK403.out 2).trans rfl,(bC_ BK403.out 3).trans rfl,(bC_ BK403.out 4).trans rfl,(bC_ BK403.out 5).trans rfl,(bC_ BK403.out 6).trans rfl,(bC_ BK402.out 0).trans rfl,(bC_ BK402.out 1).trans rfl,(bC_ BK402.out 2).trans rfl,(bC_ BK402.out 3).trans rfl,(bC_ BK402.out 4).trans rfl,(bc_ HB.out hw406_0),(bc_ HB.out hw406_1),(bc_ HB.out hw406_2),(bc_ HB.out hw406_3),(bc_ HB.out hw406_4),(bc_ HB.out hw406_5),(bc_ HB.out hw406_6),(bc_ HB.out hw407_0),(bc_ HB.out hw407_1),(bc_ HB.out hw407_2),(bc_ HB.out hw407_3),(bc_ HB.out hw407_4),(bc_ HB.out hw408_0),(bc_ HB.out hw409_0),(bc_ HB.out hw409_1),(bc_ HB.out hw409_2),(bc_ HB.out hw409_3),(bc_ HB.out hw409_4),(bc_ HB.out hw409_5),(bc_ HB.out hw409_6),(bc_ HB.out hw411_0),(bc_ HB.out hw411_1),(bc_ HB.out hw411_2),(bc_ HB.out hw411_3),(bc_ HB.out hw411_4),(bc_ HB.out hw411_5),(bc_ HB.out hw411_6)⟩ (fun hHeld=>?_);refine with_tabW arboristref42_Right.tab5 arboristref42_Right.bits5 (fun HT_ HW_=>?_)
     generalize wc.drew=w48 at BK402 BK403 HB HR406_4 HR406_6 HR407_1 HR407_2 HR409_4 HR409_6 HR411_4 HR411_6 hx406_0 hx406_1 hx406_2 hx406_3 hx406_4 hx406_5 hx406_6 hx407_0 hx407_1 hx407_2 hx407_3 hx407_4 hx408_0 hx409_0 hx409_1 hx409_2 hx409_3 hx409_4 hx409_5 hx409_6 hx411_0 hx411_1 hx411_2 hx411_3 hx411_4 hx411_5 hx411_6 hHeld ⊢
     refine pure_ (i:=0) (N:=some 48) (v:=?_) (a':=?_) #[Y,Z,Z,Z,Z,Z,Z,Z,Z,Z,Z,Z,Z,Z,Z,Z,Z,Z,Z,Z,Z,Z,Z,Z,Z,Z,Z,Z,Z,Z] rfl rfl (any_of HT_.out (by kernel_rfl)) (fun _ _ _ h=>h) (Or.inl ⟨by rfl,?_⟩) ?_ ?_
     rotate_left
     ·intro w'
      go_simp
      with_reducible rfl
     rotate_left
     ·simp only [Act.put,sT_,s0_,sC_,i64_w,i32_w]
      rfl
     refine pure_ (i:=5) (N:=some 53) (v:=?_) (a':=?_) #[Y,Z,Z,Z,Z,Y,Z,Z,Z,Z,Z,Z,Z,Z,Z,Z,Z,Z,Z,Z,Z,Z,Z,Z,Z,Z,Z,Z,Z,Z] rfl rfl (any_of HT_.out (by kernel_rfl)) (fun _ _ _ h=>h) (Or.inl ⟨by rfl,?_⟩) ?_ ?_
     rotate_left
     ·intro w'
      go_simp
      with_reducible rfl
     rotate_left
     ·simp only [Act.put,sT_,s0_,sC_,i64_w,i32_w]
      rfl
     refine take_ (i:=1) (N:=some 49) (v:=?_) (a':=?_) #[Y,Y,Z,Z,Z,Y,Z,Z,Z,Z,Z,Z,Z,Z,Z,Z,Z,Z,Z,Z,Z,Z,Z,Z,Z,Z,Z,Z,Z,Z] rfl rfl (take_ofW HT_.out HW_.out (by kernel_rfl)) (fun _ _ _ h=>h) (Or.inl ⟨by rfl,?_⟩) hHeld ?_ ?_
     rotate_left
     ·rintro w' ⟨s0,s1,s2,s3,s4,s5,s6,s7,s8,s9,s10,s11,s12,s13,s14,s15,s16,s17,s18,s19,s20,s21,s22,s23,s24,s25,s26,s27,s28,s29,s30,s31,s32,s33,s34,s35,s36,s37,s38⟩
      go_simp
      with_reducible rfl
     rotate_left
     ·simp only [Act.put,sT_,s0_,sC_,i64_w,i32_w]
      rfl
     refine pure_ (i:=2) (N:=some 50) (v:=?_) (a':=?_) #[Y,Y,Y,Z,Z,Y,Z,Z,Z,Z,Z,Z,Z,Z,Z,Z,Z,Z,Z,Z,Z,Z,Z,Z,Z,Z,Z,Z,Z,Z] rfl rfl (any_of HT_.out (by kernel_rfl)) (fun _ _ _ h=>h) (Or.inl ⟨by rfl,?_⟩) ?_ ?_
     rotate_left
     ·intro w'
      go_simp
      with_reducible rfl
     rotate_left
     ·simp only [Act.put,sT_,s0_,sC_,i64_w,i32_w]
      rfl
     refine pure_ (i:=3) (N:=some 51) (v:=?_) (a':=?_) #[Y,Y,Y,Y,Z,Y,Z,Z,Z,Z,Z,Z,Z,Z,Z,Z,Z,Z,Z,Z,Z,Z,Z,Z,Z,Z,Z,Z,Z,Z] rfl rfl (any_of HT_.out (by kernel_rfl)) (fun _ _ _ h=>h) (Or.inl ⟨by rfl,?_⟩) ?_ ?_
     rotate_left
     ·intro w'
      go_simp
      with_reducible rfl
     rotate_left
     ·simp only [Act.put,sT_,s0_,sC_,i64_w,i32_w]
      rfl
     refine take_ (i:=4) (N:=some 52) (v:=?_) (a':=?_) #[Y,Y,Y,Y,Y,Y,Z,Z,Z,Z,Z,Z,Z,Z,Z,Z,Z,Z,Z,Z,Z,Z,Z,Z,Z,Z,Z,Z,Z,Z] rfl rfl (take_ofW HT_.out HW_.out (by kernel_rfl)) (fun _ _ _ h=>h) (Or.inl ⟨by rfl,?_⟩) hHeld ?_ ?_
     rotate_left
     ·rintro w' ⟨s0,s1,s2,s3,s4,s5,s6,s7,s8,s9,s10,s11,s12,s13,s14,s15,s16,s17,s18,s19,s20,s21,s22,s23,s24,s25,s26,s27,s28,s29,s30,s31,s32,s33,s34,s35,s36,s37,s38⟩
      go_simp
      with_reducible rfl
     rotate_left
     ·simp only [Act.put,sT_,s0_,sC_,i64_w,i32_w]
      rfl
     refine take_ (i:=6) (N:=some 54) (v:=?_) (a':=?_) #[Y,Y,Y,Y,Y,Y,Y,Z,Z,Z,Z,Z,Z,Z,Z,Z,Z,Z,Z,Z,Z,Z,Z,Z,Z,Z,Z,Z,Z,Z] rfl rfl (take_ofW HT_.out HW_.out (by kernel_rfl)) (fun _ _ _ h=>h) (Or.inl ⟨by rfl,?_⟩) hHeld ?_ ?_
     rotate_left
     ·rintro w' ⟨s0,s1,s2,s3,s4,s5,s6,s7,s8,s9,s10,s11,s12,s13,s14,s15,s16,s17,s18,s19,s20,s21,s22,s23,s24,s25,s26,s27,s28,s29,s30,s31,s32,s33,s34,s35,s36,s37,s38⟩
      go_simp
      with_reducible rfl
     rotate_left
     ·simp only [Act.put,sT_,s0_,sC_,i64_w,i32_w]
      rfl
     refine pure_ (i:=7) (N:=some 55) (v:=?_) (a':=?_) #[Y,Y,Y,Y,Y,Y,Y,Y,Z,Z,Z,Z,Z,Z,Z,Z,Z,Z,Z,Z,Z,Z,Z,Z,Z,Z,Z,Z,Z,Z] rfl rfl (any_of HT_.out (by kernel_rfl)) (fun _ _ _ h=>h) (Or.inl ⟨by rfl,?_⟩) ?_ ?_
     rotate_left
     ·intro w'
      go_simp
      with_reducible rfl
     rotate_left
     ·simp only [Act.put,sT_,s0_,sC_,i64_w,i32_w]
      rfl
     refine pure_ (i:=8) (N:=some 56) (v:=?_) (a':=?_) #[Y,Y,Y,Y,Y,Y,Y,Y,Y,Z,Z,Z,Z,Z,Z,Z,Z,Z,Z,Z,Z,Z,Z,Z,Z,Z,Z,Z,Z,Z] rfl rfl (any_of HT_.out (by kernel_rfl)) (fun _ _ _ h=>h) (Or.inl ⟨by rfl,?_⟩) ?_ ?_
     rotate_left
     ·intro w'
      go_simp
      with_reducible rfl
     rotate_left
     ·simp only [Act.put,sT_,s0_,sC_,i64_w,i32_w]
      rfl
     refine take_ (i:=9) (N:=some 57) (v:=?_) (a':=?_) #[Y,Y,Y,Y,Y,Y,Y,Y,Y,Y,Z,Z,Z,Z,Z,Z,Z,Z,Z,Z,Z,Z,Z,Z,Z,Z,Z,Z,Z,Z] rfl rfl (take_ofW HT_.out HW_.out (by kernel_rfl)) (fun _ _ _ h=>h) (Or.inl ⟨by rfl,?_⟩) hHeld ?_ ?_
     rotate_left
     ·rintro w' ⟨s0,s1,s2,s3,s4,s5,s6,s7,s8,s9,s10,s11,s12,s13,s14,s15,s16,s17,s18,s19,s20,s21,s22,s23,s24,s25,s26,s27,s28,s29,s30,s31,s32,s33,s34,s35,s36,s37,s38⟩
      go_simp
      with_reducible rfl
     rotate_left
     ·simp only [Act.put,sT_,s0_,sC_,i64_w,i32_w]
      rfl
     refine pure_ (i:=10) (N:=some 58) (v:=?_) (a':=?_) #[Y,Y,Y,Y,Y,Y,Y,Y,Y,Y,Y,Z,Z,Z,Z,Z,Z,Z,Z,Z,Z,Z,Z,Z,Z,Z,Z,Z,Z,Z] rfl rfl (any_of HT_.out (by kernel_rfl)) (fun _ _ _ h=>h) (Or.inl ⟨by rfl,?_⟩) ?_ ?_
     rotate_left
     ·intro w'
      go_simp
      with_reducible rfl
     rotate_left
     ·simp only [Act.put,sT_,s0_,sC_,i64_w,i32_w]
      rfl
     refine take_ (i:=11) (N:=some 59) (v:=?_) (a':=?_) #[Y,Y,Y,Y,Y,Y,Y,Y,Y,Y,Y,Y,Z,Z,Z,Z,Z,Z,Z,Z,Z,Z,Z,Z,Z,Z,Z,Z,Z,Z] rfl rfl (take_ofW HT_.out HW_.out (by kernel_rfl)) (fun _ _ _ h=>h) (Or.inl ⟨by rfl,?_⟩) hHeld ?_ ?_
     rotate_left
     ·rintro w' ⟨s0,s1,s2,s3,s4,s5,s6,s7,s8,s9,s10,s11,s12,s13,s14,s15,s16,s17,s18,s19,s20,s21,s22,s23,s24,s25,s26,s27,s28,s29,s30,s31,s32,s33,s34,s35,s36,s37,s38⟩
      go_simp
      with_reducible rfl
     rotate_left
     ·simp only [Act.put,sT_,s0_,sC_,i64_w,i32_w]
      rfl
     refine pure_ (i:=12) (N:=some 60) (v:=?_) (a':=?_) #[Y,Y,Y,Y,Y,Y,Y,Y,Y,Y,Y,Y,Y,Z,Z,Z,Z,Z,Z,Z,Z,Z,Z,Z,Z,Z,Z,Z,Z,Z] rfl rfl (any_of HT_.out (by kernel_rfl)) (fun _ _ _ h=>h) (Or.inl ⟨by rfl,?_⟩) ?_ ?_
     rotate_left
     ·intro w'
      go_simp
      with_reducible rfl
     rotate_left
     ·simp only [Act.put,sT_,s0_,sC_,i64_w,i32_w]
      rfl
     refine pure_ (i:=13) (N:=some 61) (v:=?_) (a':=?_) #[Y,Y,Y,Y,Y,Y,Y,Y,Y,Y,Y,Y,Y,Y,Z,Z,Z,Z,Z,Z,Z,Z,Z,Z,Z,Z,Z,Z,Z,Z] rfl rfl (any_of HT_.out (by kernel_rfl)) (fun _ _ _ h=>h) (Or.inl ⟨by rfl,?_⟩) ?_ ?_
     rotate_left
     ·intro w'
      go_simp
      with_reducible rfl
     rotate_left
     ·simp only [Act.put,sT_,s0_,sC_,i64_w,i32_w]
      rfl
     refine pure_ (i:=15) (N:=some 63) (v:=?_) (a':=?_) #[Y,Y,Y,Y,Y,Y,Y,Y,Y,Y,Y,Y,Y,Y,Z,Y,Z,Z,Z,Z,Z,Z,Z,Z,Z,Z,Z,Z,Z,Z] rfl rfl (any_of HT_.out (by kernel_rfl)) (fun _ _ _ h=>h) (Or.inl ⟨by rfl,?_⟩) ?_ ?_
     rotate_left
     ·intro w'
      go_simp
      with_reducible rfl
     rotate_left
     ·simp only [Act.put,sT_,s0_,sC_,i64_w,i32_w]
      rfl
     refine take_ (i:=14) (N:=some 62) (v:=?_) (a':=?_) #[Y,Y,Y,Y,Y,Y,Y,Y,Y,Y,Y,Y,Y,Y,Y,Y,Z,Z,Z,Z,Z,Z,Z,Z,Z,Z,Z,Z,Z,Z] rfl rfl (take_ofW HT_.out HW_.out (by kernel_rfl)) (fun _ _ _ h=>h) (Or.inl ⟨by rfl,?_⟩) hHeld ?_ ?_
     rotate_left
     ·rintro w' ⟨s0,s1,s2,s3,s4,s5,s6,s7,s8,s9,s10,s11,s12,s13,s14,s15,s16,s17,s18,s19,s20,s21,s22,s23,s24,s25,s26,s27,s28,s29,s30,s31,s32,s33,s34,s35,s36,s37,s38⟩
      go_simp
      with_reducible rfl
     rotate_left
     ·simp only [Act.put,sT_,s0_,sC_,i64_w,i32_w]
      rfl
     refine take_ (i:=16) (N:=some 64) (v:=?_) (a':=?_) #[Y,Y,Y,Y,Y,Y,Y,Y,Y,Y,Y,Y,Y,Y,Y,Y,Y,Z,Z,Z,Z,Z,Z,Z,Z,Z,Z,Z,Z,Z] rfl rfl (take_ofW HT_.out HW_.out (by kernel_rfl)) (fun _ _ _ h=>h) (Or.inl ⟨by rfl,?_⟩) hHeld ?_ ?_
     rotate_left
     ·rintro w' ⟨s0,s1,s2,s3,s4,s5,s6,s7,s8,s9,s10,s11,s12,s13,s14,s15,s16,s17,s18,s19,s20,s21,s22,s23,s24,s25,s26,s27,s28,s29,s30,s31,s32,s33,s34,s35,s36,s37,s38⟩
      go_simp
      with_reducible rfl
     rotate_left
     ·simp only [Act.put,sT_,s0_,sC_,i64_w,i32_w]
      rfl
     refine pure_ (i:=17) (N:=some 65) (v:=?_) (a':=?_) #[Y,Y,Y,Y,Y,Y,Y,Y,Y,Y,Y,Y,Y,Y,Y,Y,Y,Y,Z,Z,Z,Z,Z,Z,Z,Z,Z,Z,Z,Z] rfl rfl (any_of HT_.out (by kernel_rfl)) (fun _ _ _ h=>h) (Or.inl ⟨by rfl,?_⟩) ?_ ?_
     rotate_left
     ·intro w'
      go_simp
      with_reducible rfl
     rotate_left
     ·simp only [Act.put,sT_,s0_,sC_,i64_w,i32_w]
      rfl
     refine take_ (i:=18) (N:=some 66) (v:=?_) (a':=?_) #[Y,Y,Y,Y,Y,Y,Y,Y,Y,Y,Y,Y,Y,Y,Y,Y,Y,Y,Y,Z,Z,Z,Z,Z,Z,Z,Z,Z,Z,Z] rfl rfl (take_ofW HT_.out HW_.out (by kernel_rfl)) (fun _ _ _ h=>h) (Or.inl ⟨by rfl,?_⟩) hHeld ?_ ?_
     rotate_left
     ·rintro w' ⟨s0,s1,s2,s3,s4,s5,s6,s7,s8,s9,s10,s11,s12,s13,s14,s15,s16,s17,s18,s19,s20,s21,s22,s23,s24,s25,s26,s27,s28,s29,s30,s31,s32,s33,s34,s35,s36,s37,s38⟩
      go_simp
      with_reducible rfl
     rotate_left
     ·simp only [Act.put,sT_,s0_,sC_,i64_w,i32_w]
      rfl
     refine one_ (i:=19) (N:=some 67) #[Y,Y,Y,Y,Y,Y,Y,Y,Y,Y,Y,Y,Y,Y,Y,Y,Y,Y,Y,Y,Z,Z,Z,Z,Z,Z,Z,Z,Z,Z] rfl rfl (one_of HT_.out (by kernel_rfl)) (by decide) (fun K hK=>?_)
     refine goes_ Try.func39 (by kernel_rfl) rfl #[.agg #[.slice A0_0 l0_0.length c0_0,.slice A0_1 l0_1.length c0_1,.slice A0_2 l0_2.length c0_2,.slice (some ad407) l0_3.length c0_3,.slice A0_4 l0_4.length c0_4],.agg #[.int .i64 ((rd_T32 l1_6 0).f0),.int .i64 ((rd_T32 l1_6 0).f1),.int .i64 ((rd_T32 l1_6 0).f2),.int .i64 ((rd_T32 l1_6 0).f3),.slice A406_4 ((rd_T32 l1_6 0).f4).length c406_4,.string ((rd_T32 l1_6 0).f5),.slice A406_6 ((rd_T32 l1_6 0).f6).length c406_6],.bool false] (by rfl) rfl rfl (by(try simp only [List.map_toArray,List.map_cons,List.map_nil]);first|done|rfl|(simp only [List.length_drop,List.length_take];rfl)) ?_
     with_reducible refine(arboristref42_within.calls kj17 _ _ l0_0 _ _ l0_1 _ _ l0_2 _ _ l0_3 _ _ l0_4 ((rd_T32 l1_6 0).f0) ((rd_T32 l1_6 0).f1) ((rd_T32 l1_6 0).f2) ((rd_T32 l1_6 0).f3) _ _ ((rd_T32 l1_6 0).f4) ((rd_T32 l1_6 0).f5) _ _ ((rd_T32 l1_6 0).f6) false true _ ?side1 ?side2 ?side3 ?side4 ?side5 ?side6 ?side7 ?side8 ?side9 ?side10 ?side11 ?side12 ?side13 ?side14 A44.out).mono ?_
     (case side1=>repeat (first|exact(Kd.C_below HR0_0.out HB.out)|(with_reducible first|refine Kd.C_alloc ?_ _|refine Kd.C_drewN ?_ _|refine Kd.C_drew ?_)))
     (case side2=>exact HC0_0.out)
     (case side3=>repeat (first|exact(Kd.C_below HR0_1.out HB.out)|(with_reducible first|refine Kd.C_alloc ?_ _|refine Kd.C_drewN ?_ _|refine Kd.C_drew ?_)))
     (case side4=>exact HC0_1.out)
     (case side5=>repeat (first|exact(Kd.C_below HR0_2.out HB.out)|(with_reducible first|refine Kd.C_alloc ?_ _|refine Kd.C_drewN ?_ _|refine Kd.C_drew ?_)))
     (case side6=>exact HC0_2.out)
     (case side7=>repeat (first|exact(Kd.C_below HR0_3.out HB.out)|(with_reducible first|refine Kd.C_alloc ?_ _|refine Kd.C_drewN ?_ _|refine Kd.C_drew ?_)))
     (case side8=>exact HC0_3.out)
     (case side9=>repeat (first|exact(Kd.C_below HR0_4.out HB.out)|(with_reducible first|refine Kd.C_alloc ?_ _|refine Kd.C_drewN ?_ _|refine Kd.C_drew ?_)))
     (case side10=>exact HC0_4.out)
     (case side11=>repeat (first|exact(Kd.C_below HR409_4.out HB.out)|(with_reducible first|refine Kd.C_alloc ?_ _|refine Kd.C_drewN ?_ _|refine Kd.C_drew ?_)))
     (case side12=>exact HC409_4.out)
     (case side13=>repeat (first|exact(Kd.C_below HR409_6.out HB.out)|(with_reducible first|refine Kd.C_alloc ?_ _|refine Kd.C_drewN ?_ _|refine Kd.C_drew ?_)))
     (case side14=>exact HC409_6.out)
     rintro e w49 ⟨rfl,hb⟩
     refine⟨_,rfl,?_⟩
     have n0_:=Az.mk (kB_ BK402.out hb)
     have n1_:=Az.mk (kB_ BK403.out hb)
     have n2_:=Az.mk (bT_ HB.out hb)
     clear BK402
     clear BK403
     clear HB
     have BK402:=n0_
     have BK403:=n1_
     have HB:=n2_
     clear n0_ n1_ n2_
     (try clear hb)
     (try clear hb2)
     (try clear hk)
     (try clear hi)
     refine hK.out _ _ ⟨(bC_ BK403.out 0).trans rfl,(bC_ BK403.out 1).trans rfl,(bC_ BK403.out 2).trans rfl,(bC_ BK403.out 3).trans rfl,(bC_ BK403.out 4).trans rfl,(bC_ BK403.out 5).trans rfl,(bC_ BK403.out 6).trans rfl,(bC_ BK402.out 0).trans rfl,(bC_ BK402.out 1).trans rfl,(bC_ BK402.out 2).trans rfl,(bC_ BK402.out 3).trans rfl,(bC_ BK402.out 4).trans rfl,(bc_ HB.out hw406_0),(bc_ HB.out hw406_1),(bc_ HB.out hw406_2),(bc_ HB.out hw406_3),(bc_ HB.out hw406_4),(bc_ HB.out hw406_5),(bc_ HB.out hw406_6),(bc_ HB.out hw407_0),(bc_ HB.out hw407_1),(bc_ HB.out hw407_2),(bc_ HB.out hw407_3),(bc_ HB.out hw407_4),(bc_ HB.out hw408_0),(bc_ HB.out hw409_0),(bc_ HB.out hw409_1),(bc_ HB.out hw409_2),(bc_ HB.out hw409_3),(bc_ HB.out hw409_4),(bc_ HB.out hw409_5),(bc_ HB.out hw409_6),(bc_ HB.out hw411_0),(bc_ HB.out hw411_1),(bc_ HB.out hw411_2),(bc_ HB.out hw411_3),(bc_ HB.out hw411_4),(bc_ HB.out hw411_5),(bc_ HB.out hw411_6)⟩ (fun hHeld=>?_)
     clear hK K
     refine norm_ (a':=?_) ?_ ?_
     rotate_left
     ·show Act.put _ (some 67) _=_
      simp only [Act.put,sT_,s0_,sC_,i64_w,i32_w]
      rfl
     refine pure_ (i:=20) (N:=some 68) (v:=?_) (a':=?_) #[Y,Y,Y,Y,Y,Y,Y,Y,Y,Y,Y,Y,Y,Y,Y,Y,Y,Y,Y,Y,Y,Z,Z,Z,Z,Z,Z,Z,Z,Z] rfl rfl (any_of HT_.out (by kernel_rfl)) (fun _ _ _ h=>h) (Or.inl ⟨by rfl,?_⟩) ?_ ?_
     rotate_left
     ·intro w'
      go_simp
      with_reducible rfl
     rotate_left
     ·simp only [Act.put,sT_,s0_,sC_,i64_w,i32_w]
      rfl
     refine pure_ (i:=21) (N:=some 69) (v:=?_) (a':=?_) #[Y,Y,Y,Y,Y,Y,Y,Y,Y,Y,Y,Y,Y,Y,Y,Y,Y,Y,Y,Y,Y,Y,Z,Z,Z,Z,Z,Z,Z,Z] rfl rfl (any_of HT_.out (by kernel_rfl)) (fun _ _ _ h=>h) (Or.inl ⟨by rfl,?_⟩) ?_ ?_
     rotate_left
     ·intro w'
      go_simp
      with_reducible rfl
     rotate_left
     ·simp only [Act.put,sT_,s0_,sC_,i64_w,i32_w]
      rfl
     refine pure_ (i:=23) (N:=some 71) (v:=?_) (a':=?_) #[Y,Y,Y,Y,Y,Y,Y,Y,Y,Y,Y,Y,Y,Y,Y,Y,Y,Y,Y,Y,Y,Y,Z,Y,Z,Z,Z,Z,Z,Z] rfl rfl (any_of HT_.out (by kernel_rfl)) (fun _ _ _ h=>h) (Or.inl ⟨by rfl,?_⟩) ?_ ?_
     rotate_left
     ·intro w'
      go_simp
      with_reducible rfl
     rotate_left
     ·simp only [Act.put,sT_,s0_,sC_,i64_w,i32_w]
      rfl
     refine take_ (i:=22) (N:=some 70) (v:=?_) (a':=?_) #[Y,Y,Y,Y,Y,Y,Y,Y,Y,Y,Y,Y,Y,Y,Y,Y,Y,Y,Y,Y,Y,Y,Y,Y,Z,Z,Z,Z,Z,Z] rfl rfl (take_ofW HT_.out HW_.out (by kernel_rfl)) (fun _ _ _ h=>h) (Or.inl ⟨by rfl,?_⟩) hHeld ?_ ?_
     rotate_left
     ·rintro w' ⟨s0,s1,s2,s3,s4,s5,s6,s7,s8,s9,s10,s11,s12,s13,s14,s15,s16,s17,s18,s19,s20,s21,s22,s23,s24,s25,s26,s27,s28,s29,s30,s31,s32,s33,s34,s35,s36,s37,s38⟩
      go_simp
      with_reducible rfl
     rotate_left
     ·simp only [Act.put,sT_,s0_,sC_,i64_w,i32_w]
      rfl
     refine take_ (i:=24) (N:=some 72) (v:=?_) (a':=?_) #[Y,Y,Y,Y,Y,Y,Y,Y,Y,Y,Y,Y,Y,Y,Y,Y,Y,Y,Y,Y,Y,Y,Y,Y,Y,Z,Z,Z,Z,Z] rfl rfl (take_ofW HT_.out HW_.out (by kernel_rfl)) (fun _ _ _ h=>h) (Or.inl ⟨by rfl,?_⟩) hHeld ?_ ?_
     rotate_left
     ·rintro w' ⟨s0,s1,s2,s3,s4,s5,s6,s7,s8,s9,s10,s11,s12,s13,s14,s15,s16,s17,s18,s19,s20,s21,s22,s23,s24,s25,s26,s27,s28,s29,s30,s31,s32,s33,s34,s35,s36,s37,s38⟩
      go_simp
      with_reducible rfl
     rotate_left
     ·simp only [Act.put,sT_,s0_,sC_,i64_w,i32_w]
      rfl
     refine pure_ (i:=25) (N:=some 73) (v:=?_) (a':=?_) #[Y,Y,Y,Y,Y,Y,Y,Y,Y,Y,Y,Y,Y,Y,Y,Y,Y,Y,Y,Y,Y,Y,Y,Y,Y,Y,Z,Z,Z,Z] rfl rfl (any_of HT_.out (by kernel_rfl)) (fun _ _ _ h=>h) (Or.inl ⟨by rfl,?_⟩) ?_ ?_
     rotate_left
     ·intro w'
      go_simp
      with_reducible rfl
     rotate_left
     ·simp only [Act.put,sT_,s0_,sC_,i64_w,i32_w]
      rfl
     refine take_ (i:=26) (N:=some 74) (v:=?_) (a':=?_) #[Y,Y,Y,Y,Y,Y,Y,Y,Y,Y,Y,Y,Y,Y,Y,Y,Y,Y,Y,Y,Y,Y,Y,Y,Y,Y,Y,Z,Z,Z] rfl rfl (take_ofW HT_.out HW_.out (by kernel_rfl)) (fun _ _ _ h=>h) (Or.inl ⟨by rfl,?_⟩) hHeld ?_ ?_
     rotate_left
     ·rintro w' ⟨s0,s1,s2,s3,s4,s5,s6,s7,s8,s9,s10,s11,s12,s13,s14,s15,s16,s17,s18,s19,s20,s21,s22,s23,s24,s25,s26,s27,s28,s29,s30,s31,s32,s33,s34,s35,s36,s37,s38⟩
      go_simp
      with_reducible rfl
     rotate_left
     ·simp only [Act.put,sT_,s0_,sC_,i64_w,i32_w]
      rfl
     refine one_ (i:=27) (N:=some 75) #[Y,Y,Y,Y,Y,Y,Y,Y,Y,Y,Y,Y,Y,Y,Y,Y,Y,Y,Y,Y,Y,Y,Y,Y,Y,Y,Y,Y,Z,Z] rfl rfl (one_of HT_.out (by kernel_rfl)) (by decide) (fun K hK=>?_)
     refine goes_ Try.func39 (by kernel_rfl) rfl #[.agg #[.slice A0_0 l0_0.length c0_0,.slice A0_1 l0_1.length c0_1,.slice A0_2 l0_2.length c0_2,.slice (some ad407) l0_3.length c0_3,.slice A0_4 l0_4.length c0_4],.agg #[.int .i64 ((rd_T32 l1_6 1).f0),.int .i64 ((rd_T32 l1_6 1).f1),.int .i64 ((rd_T32 l1_6 1).f2),.int .i64 ((rd_T32 l1_6 1).f3),.slice A411_4 ((rd_T32 l1_6 1).f4).length c411_4,.string ((rd_T32 l1_6 1).f5),.slice A411_6 ((rd_T32 l1_6 1).f6).length c411_6],.bool true] (by rfl) rfl rfl (by(try simp only [List.map_toArray,List.map_cons,List.map_nil]);first|done|rfl|(simp only [List.length_drop,List.length_take];rfl)) ?_
     with_reducible refine(arboristref42_within.calls kj17 _ _ l0_0 _ _ l0_1 _ _ l0_2 _ _ l0_3 _ _ l0_4 ((rd_T32 l1_6 1).f0) ((rd_T32 l1_6 1).f1) ((rd_T32 l1_6 1).f2) ((rd_T32 l1_6 1).f3) _ _ ((rd_T32 l1_6 1).f4) ((rd_T32 l1_6 1).f5) _ _ ((rd_T32 l1_6 1).f6) true t412 _ ?side1 ?side2 ?side3 ?side4 ?side5 ?side6 ?side7 ?side8 ?side9 ?side10 ?side11 ?side12 ?side13 ?side14 A47.out).mono ?_
     (case side1=>repeat (first|exact(Kd.C_below HR0_0.out HB.out)|(with_reducible first|refine Kd.C_alloc ?_ _|refine Kd.C_drewN ?_ _|refine Kd.C_drew ?_)))
     (case side2=>exact HC0_0.out)
     (case side3=>repeat (first|exact(Kd.C_below HR0_1.out HB.out)|(with_reducible first|refine Kd.C_alloc ?_ _|refine Kd.C_drewN ?_ _|refine Kd.C_drew ?_)))
     (case side4=>exact HC0_1.out)
     (case side5=>repeat (first|exact(Kd.C_below HR0_2.out HB.out)|(with_reducible first|refine Kd.C_alloc ?_ _|refine Kd.C_drewN ?_ _|refine Kd.C_drew ?_)))
     (case side6=>exact HC0_2.out)
     (case side7=>repeat (first|exact(Kd.C_below HR0_3.out HB.out)|(with_reducible first|refine Kd.C_alloc ?_ _|refine Kd.C_drewN ?_ _|refine Kd.C_drew ?_)))
     (case side8=>exact HC0_3.out)
     (case side9=>repeat (first|exact(Kd.C_below HR0_4.out HB.out)|(with_reducible first|refine Kd.C_alloc ?_ _|refine Kd.C_drewN ?_ _|refine Kd.C_drew ?_)))
     (case side10=>exact HC0_4.out)
     (case side11=>repeat (first|exact(Kd.C_below HR411_4.out HB.out)|(with_reducible first|refine Kd.C_alloc ?_ _|refine Kd.C_drewN ?_ _|refine Kd.C_drew ?_)))
     (case side12=>exact HC411_4.out)
     (case side13=>repeat (first|exact(Kd.C_below HR411_6.out HB.out)|(with_reducible first|refine Kd.C_alloc ?_ _|refine Kd.C_drewN ?_ _|refine Kd.C_drew ?_)))
     (case side14=>exact HC411_6.out)
     rintro e w50 ⟨rfl,hb⟩
     refine⟨_,rfl,?_⟩
     have n0_:=Az.mk (kB_ BK402.out hb)
     have n1_:=Az.mk (kB_ BK403.out hb)
     have n2_:=Az.mk (bT_ HB.out hb)
     clear BK402
     clear BK403
     clear HB
     have BK402:=n0_
     have BK403:=n1_
     have HB:=n2_
     clear n0_ n1_ n2_
     (try clear hb)
     (try clear hb2)
     (try clear hk)
     (try clear hi)
     refine hK.out _ _ ⟨(bC_ BK403.out 0).trans rfl,(bC_ BK403.out 1).trans rfl,(bC_ BK403.out 2).trans rfl,(bC_ BK403.out 3).trans rfl,(bC_ BK403.out 4).trans rfl,(bC_ BK403.out 5).trans rfl,(bC_ BK403.out 6).trans rfl,(bC_ BK402.out 0).trans rfl,(bC_ BK402.out 1).trans rfl,(bC_ BK402.out 2).trans rfl,(bC_ BK402.out 3).trans rfl,(bC_ BK402.out 4).trans rfl,(bc_ HB.out hw406_0),(bc_ HB.out hw406_1),(bc_ HB.out hw406_2),(bc_ HB.out hw406_3),(bc_ HB.out hw406_4),(bc_ HB.out hw406_5),(bc_ HB.out hw406_6),(bc_ HB.out hw407_0),(bc_ HB.out hw407_1),(bc_ HB.out hw407_2),(bc_ HB.out hw407_3),(bc_ HB.out hw407_4),(bc_ HB.out hw408_0),(bc_ HB.out hw409_0),(bc_ HB.out hw409_1),(bc_ HB.out hw409_2),(bc_ HB.out hw409_3),(bc_ HB.out hw409_4),(bc_ HB.out hw409_5),(bc_ HB.out hw409_6),(bc_ HB.out hw411_0),(bc_ HB.out hw411_1),(bc_ HB.out hw411_2),(bc_ HB.out hw411_3),(bc_ HB.out hw411_4),(bc_ HB.out hw411_5),(bc_ HB.out hw411_6)⟩ (fun hHeld=>?_)
     clear hK K
     refine norm_ (a':=?_) ?_ ?_
     rotate_left
     ·show Act.put _ (some 75) _=_
      simp only [Act.put,sT_,s0_,sC_,i64_w,i32_w]
      rfl
     refine pure_ (i:=28) (N:=some 76) (v:=?_) (a':=?_) #[Y,Y,Y,Y,Y,Y,Y,Y,Y,Y,Y,Y,Y,Y,Y,Y,Y,Y,Y,Y,Y,Y,Y,Y,Y,Y,Y,Y,Y,Z] rfl rfl (any_of HT_.out (by kernel_rfl)) (fun _ _ _ h=>h) (Or.inl ⟨by rfl,?_⟩) ?_ ?_
     rotate_left
     ·intro w'
      go_simp
      with_reducible rfl
     rotate_left
     ·simp only [Act.put,sT_,s0_,sC_,i64_w,i32_w]
      rfl
     refine pure_ (i:=29) (N:=some 4) (v:=?_) (a':=?_) #[Y,Y,Y,Y,Y,Y,Y,Y,Y,Y,Y,Y,Y,Y,Y,Y,Y,Y,Y,Y,Y,Y,Y,Y,Y,Y,Y,Y,Y,Y] rfl rfl (any_of HT_.out (by kernel_rfl)) (fun _ _ _ h=>h) (Or.inl ⟨by rfl,?_⟩) ?_ ?_
     rotate_left
     ·intro w'
      go_simp
      with_reducible rfl
     rotate_left
     ·simp only [Act.put,sT_,s0_,sC_,i64_w,i32_w]
      rfl
     refine done_ (done_of HT_.out (by kernel_rfl)) ?_
     try go_wp2
     go_ret
     exact⟨by first|rfl|(simp [errW_none,errW_some] <;> rfl)|(simp [*,errW_none,errW_some] <;> rfl),by repeat (first|(with_reducible first|exact HB.out|apply bA_|apply bN_|apply bD_|refine bS_ ?_ GE402.out|refine bS_ ?_ GE403.out)|exact HB.out)⟩
end Go.Proofs.Ytgdbcogbbghjaaa.Q
