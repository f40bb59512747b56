import Derived.Test.YtgdbcogbbghjaaaQ0
import Derived.Test.YtgdbcogbbghjaaaQf10
import Derived.Test.YtgdbcogbbghjaaaQf16
import Derived.Test.YtgdbcogbbghjaaaQf26
import Derived.Test.YtgdbcogbbghjaaaQf27
import Derived.Test.YtgdbcogbbghjaaaQf8
import Derived.Test.YtgdbcogbbghjaaaQf9
namespace Go.Proofs.Ytgdbcogbbghjaaa.Q
open Go.RowKit Go.Proofs.YtgdbcogbbghjaaaW.PrintWords Go.Proofs.YtgdbcogbbghjaaaW.PrintLast Go.Proofs.YtgdbcogbbghjaaaW.PrintMore
attribute [local go_sem] max2_int min2_int max_two min_two max_three min_three max_four min_four   -- for this text's walks alone
set_option linter.unusedVariables false
set_option linter.unusedSimpArgs false
mutual
def arboristlaw46_FieldsAll_.j0:Nat→Bool→List ByteArray→List ByteArray→List Int→List (S67)→List (S78)→Int→Int→Int→Int→List (S53)→ByteArray→List (S32)→Option (Bool)
 | 0,_,_,_,_,_,_,_,_,_,_,_,_,_=>none
 | k + 1,x27,x420000,x420001,x420002,x420003,x420004,x421000,x421001,x421002,x421003,x421004,x421005,x421006=>if x27=true then((arboristlaw46_knows.f k).bind fun t424=>(some t424))else((fields_Kids.f k x420000 x420001 x420002 x420003 x420004 x421000 x421001 x421002 x421003 x421004 x421005 x421006).bind fun t425=>(arboristlaw46_FieldsAll_.l0 k (⟨#[]⟩:ByteArray) t425 0 x421000 x421001 x421002 x421003 x421004 x421005 x421006))
def arboristlaw46_FieldsAll_.l0:Nat→ByteArray→List (S32)→Int→Int→Int→Int→Int→List (S53)→ByteArray→List (S32)→Option (Bool)
 | 0,_,_,_,_,_,_,_,_,_,_=>none
 | k + 1,x5,x6,x7,x421000,x421001,x421002,x421003,x421004,x421005,x421006=>if x7 < (x6.length:Int)then(if 0≤x7 then((arboristref42_Text.f k ((rd_T32 x6 x7).f0) ((rd_T32 x6 x7).f1) ((rd_T32 x6 x7).f2) ((rd_T32 x6 x7).f3) ((rd_T32 x6 x7).f4) ((rd_T32 x6 x7).f5) ((rd_T32 x6 x7).f6)).bind fun t429=>(if x5.size + t429.size≤9223372036854775807 then(arboristlaw46_FieldsAll_.l0 k (x5 ++ t429) x6 (wrap64 (x7 + 1)) x421000 x421001 x421002 x421003 x421004 x421005 x421006)else(none)))else(none))else((arboristref42_Text.f k x421000 x421001 x421002 x421003 x421004 x421005 x421006).bind fun t430=>(if x5.toList=t430.toList then((arboristlaw46_knows.f k).bind fun t431=>(some t431))else(some false)))
end
def arboristlaw46_FieldsAll_.f (k:Nat)(l0_0:List ByteArray)(l0_1:List ByteArray)(l0_2:List Int)(l0_3:List (S67))(l0_4:List (S78))(a1_0:Int)(a1_1:Int)(a1_2:Int)(a1_3:Int)(l1_4:List (S53))(a1_5:ByteArray)(l1_6:List (S32)):Option (Bool):=(arboristlaw46_fewGram.f k l0_0 l0_1 l0_2 l0_3 l0_4).bind fun t421=>(if t421=true then((arboristlaw46_Nodes.f k a1_0 a1_1 a1_2 a1_3 l1_4 a1_5 l1_6 300).bind fun t422=>(if t422 ≥ 300 then(arboristlaw46_FieldsAll_.j0 k true l0_0 l0_1 l0_2 l0_3 l0_4 a1_0 a1_1 a1_2 a1_3 l1_4 a1_5 l1_6)else(if (l1_6.length:Int)=0 then(arboristlaw46_FieldsAll_.j0 k true l0_0 l0_1 l0_2 l0_3 l0_4 a1_0 a1_1 a1_2 a1_3 l1_4 a1_5 l1_6)else((arboristref42_Right.f k l0_0 l0_1 l0_2 l0_3 l0_4 a1_0 a1_1 a1_2 a1_3 l1_4 a1_5 l1_6).bind fun t423=>(arboristlaw46_FieldsAll_.j0 k (!t423) l0_0 l0_1 l0_2 l0_3 l0_4 a1_0 a1_1 a1_2 a1_3 l1_4 a1_5 l1_6)))))else(arboristlaw46_FieldsAll_.j0 k true l0_0 l0_1 l0_2 l0_3 l0_4 a1_0 a1_1 a1_2 a1_3 l1_4 a1_5 l1_6))
set_option maxHeartbeats 8000000 in
set_option maxRecDepth 100000 in
theorem arboristlaw46_FieldsAll_.calls (k:Nat)(A0_0:Option Addr)(c0_0:Nat)(l0_0:List ByteArray)(A0_1:Option Addr)(c0_1:Nat)(l0_1:List ByteArray)(A0_2:Option Addr)(c0_2:Nat)(l0_2:List Int)(A0_3:Option Addr)(c0_3:Nat)(l0_3:List (S67))(A0_4:Option Addr)(c0_4:Nat)(l0_4:List (S78))(a1_0:Int)(a1_1:Int)(a1_2:Int)(a1_3:Int)(A1_4:Option Addr)(c1_4:Nat)(l1_4:List (S53))(a1_5:ByteArray)(A1_6:Option Addr)(c1_6:Nat)(l1_6:List (S32))(r:Bool)(w:World)(hT:r=true)(hr0_0:Kd.C Kd.string w A0_0 l0_0.length l0_0)(hc0_0:l0_0.length≤c0_0)(hr0_1:Kd.C Kd.string w A0_1 l0_1.length l0_1)(hc0_1:l0_1.length≤c0_1)(hr0_2:Kd.C (Kd.int .i64) w A0_2 l0_2.length l0_2)(hc0_2:l0_2.length≤c0_2)(hr0_3:Kd.C k67 w A0_3 l0_3.length l0_3)(hc0_3:l0_3.length≤c0_3)(hr0_4:Kd.C k78 w A0_4 l0_4.length l0_4)(hc0_4:l0_4.length≤c0_4)(hr1_4:Kd.C k53 w A1_4 l1_4.length l1_4)(hc1_4:l1_4.length≤c1_4)(hr1_6:Kd.C k32 w A1_6 l1_6.length l1_6)(hc1_6:l1_6.length≤c1_6)(h:arboristlaw46_FieldsAll_.f k l0_0 l0_1 l0_2 l0_3 l0_4 a1_0 a1_1 a1_2 a1_3 l1_4 a1_5 l1_6=some r) :
  Calls Try.prog 6 #[.agg #[.slice A0_0 l0_0.length c0_0,.slice A0_1 l0_1.length c0_1,.slice A0_2 l0_2.length c0_2,.slice A0_3 l0_3.length c0_3,.slice A0_4 l0_4.length c0_4],.agg #[.int .i64 a1_0,.int .i64 a1_1,.int .i64 a1_2,.int .i64 a1_3,.slice A1_4 l1_4.length c1_4,.string a1_5,.slice A1_6 l1_6.length c1_6]] w fun e w'=>e=.returned (.bool r)∧Below w.heap.size w w':=by
 have hu27:=Try.underlying27
 have hu32:=Try.underlying32
 have HT:=Az.mk hT
 clear hT
 have HR0_0:=Az.mk hr0_0
 have HC0_0:=Az.mk hc0_0
 clear hr0_0 hc0_0
 have HR0_1:=Az.mk hr0_1
 have HC0_1:=Az.mk hc0_1
 clear hr0_1 hc0_1
 have HR0_2:=Az.mk hr0_2
 have HC0_2:=Az.mk hc0_2
 clear hr0_2 hc0_2
 have HR0_3:=Az.mk hr0_3
 have HC0_3:=Az.mk hc0_3
 clear hr0_3 hc0_3
 have HR0_4:=Az.mk hr0_4
 have HC0_4:=Az.mk hc0_4
 clear hr0_4 hc0_4
 have HR1_4:=Az.mk hr1_4
 have HC1_4:=Az.mk hc1_4
 clear hr1_4 hc1_4
 have HR1_6:=Az.mk hr1_6
 have HC1_6:=Az.mk hc1_6
 clear hr1_6 hc1_6
 have HB:=Az.mk (Below.refl w.heap.size w)
 have H:((arboristlaw46_fewGram.f k l0_0 l0_1 l0_2 l0_3 l0_4).bind fun t421=>(if t421=true then((arboristlaw46_Nodes.f k a1_0 a1_1 a1_2 a1_3 l1_4 a1_5 l1_6 300).bind fun t422=>(if t422 ≥ 300 then(arboristlaw46_FieldsAll_.j0 k true l0_0 l0_1 l0_2 l0_3 l0_4 a1_0 a1_1 a1_2 a1_3 l1_4 a1_5 l1_6)else(if (l1_6.length:Int)=0 then(arboristlaw46_FieldsAll_.j0 k true l0_0 l0_1 l0_2 l0_3 l0_4 a1_0 a1_1 a1_2 a1_3 l1_4 a1_5 l1_6)else((arboristref42_Right.f k l0_0 l0_1 l0_2 l0_3 l0_4 a1_0 a1_1 a1_2 a1_3 l1_4 a1_5 l1_6).bind fun t423=>(arboristlaw46_FieldsAll_.j0 k (!t423) l0_0 l0_1 l0_2 l0_3 l0_4 a1_0 a1_1 a1_2 a1_3 l1_4 a1_5 l1_6)))))else(arboristlaw46_FieldsAll_.j0 k true l0_0 l0_1 l0_2 l0_3 l0_4 a1_0 a1_1 a1_2 a1_3 l1_4 a1_5 l1_6)))=some r:=h
 clear h
 have HC3:=Az.mk H
 clear H
 go_enter Try.func6,Try.ntmps6
 go_upto_region 1 with(first|((with_reducible refine gate_dst (N:=2) rfl ?_);(try (refine gate_guard (by rfl) ?_;dsimp only));refine box_event ?hg (N:=2) ?hd (cs:=#[.slice A0_0 l0_0.length c0_0,.slice A0_1 l0_1.length c0_1,.slice A0_2 l0_2.length c0_2,.slice A0_3 l0_3.length c0_3,.slice A0_4 l0_4.length c0_4]) (t:=27) ?hr ?_;(case hd=>rfl);(case hg=>rfl);(case hr=>first|(go_simp;done)|(go_simp;rfl));intro gb419 hg w4 hbox hb;have n0_:=Az.mk (bT_ HB.out hb);have n1_:=Az.mk (hbox);have n2_:=Az.mk ((szl_ HB.out hg));have n3_:=Az.mk ((szl_ HB.out hg));clear HB;have HB:=n0_;have BK419:=n1_;have GW419:=n2_;have GE419:=n3_;clear n0_ n1_ n2_ n3_;clear hb hbox hg)|((with_reducible refine gate_dst (N:=3) rfl ?_);(try (refine gate_guard (by rfl) ?_;dsimp only));refine box_event ?hg (N:=3) ?hd (cs:=#[.int .i64 a1_0,.int .i64 a1_1,.int .i64 a1_2,.int .i64 a1_3,.slice A1_4 l1_4.length c1_4,.string a1_5,.slice A1_6 l1_6.length c1_6]) (t:=32) ?hr ?_;(case hd=>rfl);(case hg=>rfl);(case hr=>first|(go_simp;done)|(go_simp;rfl));intro gb420 hg w5 hbox hb;have n0_:=Az.mk (kB_ BK419.out hb);have n1_:=Az.mk (bT_ HB.out hb);have n2_:=Az.mk (hbox);have n3_:=Az.mk ((szl_ HB.out hg));have n4_:=Az.mk ((szl_ HB.out hg));have n5_:=Az.mk ((nel_ BK419.out hg));have n6_:=Az.mk ((ner_ BK419.out hg));clear BK419;clear HB;have BK419:=n0_;have HB:=n1_;have BK420:=n2_;have GW420:=n3_;have GE420:=n4_;have NB419_420:=n5_;have NB420_419:=n6_;clear n0_ n1_ n2_ n3_ n4_ n5_ n6_;clear hb hbox hg))
 (try simp only [Act.put,sT_,s0_,sC_])
 go_cut [27] (fun v27 wc=>∃ (kq:Nat) (x27_2:Bool),v27=.bool x27_2∧Az (arboristlaw46_FieldsAll_.j0 kq x27_2 l0_0 l0_1 l0_2 l0_3 l0_4 a1_0 a1_1 a1_2 a1_3 l1_4 a1_5 l1_6=some r)∧Az (kq≤k)∧Az (wc.heap[gb419]?=some (.cells #[(.slice A0_0 l0_0.length c0_0),(.slice A0_1 l0_1.length c0_1),(.slice A0_2 l0_2.length c0_2),(.slice A0_3 l0_3.length c0_3),(.slice A0_4 l0_4.length c0_4)] 27 (0,0)))∧Az (wc.heap[gb420]?=some (.cells #[.int .i64 a1_0,.int .i64 a1_1,.int .i64 a1_2,.int .i64 a1_3,(.slice A1_4 l1_4.length c1_4),.string a1_5,(.slice A1_6 l1_6.length c1_6)] 32 (0,0)))∧Az (Below w.heap.size w wc))
 case first =>
  have H:=HC3.out
  clear HC3
  replace H:=Option.bind_eq_some_iff.mp H
  obtain⟨t421,A60,H⟩:=H
  replace H:(if t421=true then((arboristlaw46_Nodes.f k a1_0 a1_1 a1_2 a1_3 l1_4 a1_5 l1_6 300).bind fun t422=>(if t422 ≥ 300 then(arboristlaw46_FieldsAll_.j0 k true l0_0 l0_1 l0_2 l0_3 l0_4 a1_0 a1_1 a1_2 a1_3 l1_4 a1_5 l1_6)else(if (l1_6.length:Int)=0 then(arboristlaw46_FieldsAll_.j0 k true l0_0 l0_1 l0_2 l0_3 l0_4 a1_0 a1_1 a1_2 a1_3 l1_4 a1_5 l1_6)else((arboristref42_Right.f k l0_0 l0_1 l0_2 l0_3 l0_4 a1_0 a1_1 a1_2 a1_3 l1_4 a1_5 l1_6).bind fun t423=>(arboristlaw46_FieldsAll_.j0 k (!t423) l0_0 l0_1 l0_2 l0_3 l0_4 a1_0 a1_1 a1_2 a1_3 l1_4 a1_5 l1_6)))))else(arboristlaw46_FieldsAll_.j0 k true l0_0 l0_1 l0_2 l0_3 l0_4 a1_0 a1_1 a1_2 a1_3 l1_4 a1_5 l1_6))=some r:=H
  have A6:=Az.mk A60
  clear A60
  by_cases c7:t421=true
  rotate_left
  ·replace c7:=Bool.eq_false_iff.mpr c7
   subst c7
   have H1:(arboristlaw46_FieldsAll_.j0 k true l0_0 l0_1 l0_2 l0_3 l0_4 a1_0 a1_1 a1_2 a1_3 l1_4 a1_5 l1_6)=some r:=by rw [if_neg (show ¬ (false=true) by decide)] at H;exact H
   clear H
   have H:=H1
   clear H1
   have H':=Az.mk H
   clear H
   have hnb31:=NB419_420.out
   have hnc31:=NB420_419.out
   obtain⟨hcz32_0,hcz32_1,hcz32_2,hcz32_3,hcz32_4,hfz32_0,hfz32_1,hfz32_2,hfz32_3,hfz32_4⟩:=cf5_ BK419.out
   go_wp2_with (first|((with_reducible refine gate_callee (f:=8) rfl ?_);refine goesL_ (some 9) rfl rfl Try.func8 (by kernel_rfl) rfl #[.agg #[.slice A0_0 l0_0.length c0_0,.slice A0_1 l0_1.length c0_1,.slice A0_2 l0_2.length c0_2,.slice A0_3 l0_3.length c0_3,.slice A0_4 l0_4.length c0_4]] rfl (by(try simp only [List.map_toArray,List.map_cons,List.map_nil]);first|done|rfl|(simp only [List.length_drop,List.length_take];rfl)) ?_;(with_reducible refine(arboristlaw46_fewGram.calls k _ _ l0_0 _ _ l0_1 _ _ l0_2 _ _ l0_3 _ _ l0_4 false _ ?side1 ?side2 ?side3 ?side4 ?side5 ?side6 ?side7 ?side8 ?side9 ?side10 A6.out).mono ?_);(case side1=>repeat (first|exact(Kd.C_below HR0_0.out HB.out)|(with_reducible first|refine Kd.C_alloc ?_ _|refine Kd.C_drewN ?_ _|refine Kd.C_drew ?_)));(case side2=>exact HC0_0.out);(case side3=>repeat (first|exact(Kd.C_below HR0_1.out HB.out)|(with_reducible first|refine Kd.C_alloc ?_ _|refine Kd.C_drewN ?_ _|refine Kd.C_drew ?_)));(case side4=>exact HC0_1.out);(case side5=>repeat (first|exact(Kd.C_below HR0_2.out HB.out)|(with_reducible first|refine Kd.C_alloc ?_ _|refine Kd.C_drewN ?_ _|refine Kd.C_drew ?_)));(case side6=>exact HC0_2.out);(case side7=>repeat (first|exact(Kd.C_below HR0_3.out HB.out)|(with_reducible first|refine Kd.C_alloc ?_ _|refine Kd.C_drewN ?_ _|refine Kd.C_drew ?_)));(case side8=>exact HC0_3.out);(case side9=>repeat (first|exact(Kd.C_below HR0_4.out HB.out)|(with_reducible first|refine Kd.C_alloc ?_ _|refine Kd.C_drewN ?_ _|refine Kd.C_drew ?_)));(case side10=>exact HC0_4.out);rintro e w33 ⟨rfl,hb⟩;refine⟨_,rfl,?_⟩;have n0_:=Az.mk (kB_ BK419.out hb);have n1_:=Az.mk (kB_ BK420.out hb);have n2_:=Az.mk (bT_ HB.out hb);clear BK419;clear BK420;clear HB;have BK419:=n0_;have BK420:=n1_;have HB:=n2_;clear n0_ n1_ n2_;(try clear hb);(try clear hb2);(try clear hk);(try clear hi)))
   go_meet
   case rel=>exact⟨_,(true),(by first|rfl|(simp;done)|(simp [*];done)|(refine congrArg Value.bool ?_;exact isE_ _)),H',⟨by first|omega|exact Nat.le_refl _⟩,⟨by(with_reducible repeat (first|refine kN_ ?_ _|refine kD_ ?_|refine kA_ ?_ _));exact BK419.out⟩,⟨by(with_reducible repeat (first|refine kN_ ?_ _|refine kD_ ?_|refine kA_ ?_ _));exact BK420.out⟩,⟨by repeat (first|(with_reducible first|exact HB.out|apply bA_|apply bN_|apply bD_|refine bS_ ?_ GE419.out|refine bS_ ?_ GE420.out)|exact HB.out)⟩⟩
  subst c7
  have H1:((arboristlaw46_Nodes.f k a1_0 a1_1 a1_2 a1_3 l1_4 a1_5 l1_6 300).bind fun t422=>(if t422 ≥ 300 then(arboristlaw46_FieldsAll_.j0 k true l0_0 l0_1 l0_2 l0_3 l0_4 a1_0 a1_1 a1_2 a1_3 l1_4 a1_5 l1_6)else(if (l1_6.length:Int)=0 then(arboristlaw46_FieldsAll_.j0 k true l0_0 l0_1 l0_2 l0_3 l0_4 a1_0 a1_1 a1_2 a1_3 l1_4 a1_5 l1_6)else((arboristref42_Right.f k l0_0 l0_1 l0_2 l0_3 l0_4 a1_0 a1_1 a1_2 a1_3 l1_4 a1_5 l1_6).bind fun t423=>(arboristlaw46_FieldsAll_.j0 k (!t423) l0_0 l0_1 l0_2 l0_3 l0_4 a1_0 a1_1 a1_2 a1_3 l1_4 a1_5 l1_6)))))=some r:=by rw [if_pos rfl] at H;exact H
  clear H
  have H:=H1
  clear H1
  replace H:=Option.bind_eq_some_iff.mp H
  obtain⟨t422,A80,H⟩:=H
  replace H:(if t422 ≥ 300 then(arboristlaw46_FieldsAll_.j0 k true l0_0 l0_1 l0_2 l0_3 l0_4 a1_0 a1_1 a1_2 a1_3 l1_4 a1_5 l1_6)else(if (l1_6.length:Int)=0 then(arboristlaw46_FieldsAll_.j0 k true l0_0 l0_1 l0_2 l0_3 l0_4 a1_0 a1_1 a1_2 a1_3 l1_4 a1_5 l1_6)else((arboristref42_Right.f k l0_0 l0_1 l0_2 l0_3 l0_4 a1_0 a1_1 a1_2 a1_3 l1_4 a1_5 l1_6).bind fun t423=>(arboristlaw46_FieldsAll_.j0 k (!t423) l0_0 l0_1 l0_2 l0_3 l0_4 a1_0 a1_1 a1_2 a1_3 l1_4 a1_5 l1_6))))=some r:=H
  have A8:=Az.mk A80
  clear A80
  by_cases c9:t422 ≥ 300
  ·rw [if_pos c9] at H
   have c9b0:=decide_eq_true c9
   clear c9
   (first|rw [c9b0]|(simp only [i64_w,i32_w];rw [c9b0])|skip)
   have H':=Az.mk H
   clear H
   have hnb10:=NB419_420.out
   have hnc10:=NB420_419.out
   obtain⟨hcz11_0,hcz11_1,hcz11_2,hcz11_3,hcz11_4,hfz11_0,hfz11_1,hfz11_2,hfz11_3,hfz11_4⟩:=cf5_ BK419.out
   go_wp2_with (first|((with_reducible refine gate_callee (f:=8) rfl ?_);refine goesL_ (some 9) rfl rfl Try.func8 (by kernel_rfl) rfl #[.agg #[.slice A0_0 l0_0.length c0_0,.slice A0_1 l0_1.length c0_1,.slice A0_2 l0_2.length c0_2,.slice A0_3 l0_3.length c0_3,.slice A0_4 l0_4.length c0_4]] rfl (by(try simp only [List.map_toArray,List.map_cons,List.map_nil]);first|done|rfl|(simp only [List.length_drop,List.length_take];rfl)) ?_;(with_reducible refine(arboristlaw46_fewGram.calls k _ _ l0_0 _ _ l0_1 _ _ l0_2 _ _ l0_3 _ _ l0_4 true _ ?side1 ?side2 ?side3 ?side4 ?side5 ?side6 ?side7 ?side8 ?side9 ?side10 A6.out).mono ?_);(case side1=>repeat (first|exact(Kd.C_below HR0_0.out HB.out)|(with_reducible first|refine Kd.C_alloc ?_ _|refine Kd.C_drewN ?_ _|refine Kd.C_drew ?_)));(case side2=>exact HC0_0.out);(case side3=>repeat (first|exact(Kd.C_below HR0_1.out HB.out)|(with_reducible first|refine Kd.C_alloc ?_ _|refine Kd.C_drewN ?_ _|refine Kd.C_drew ?_)));(case side4=>exact HC0_1.out);(case side5=>repeat (first|exact(Kd.C_below HR0_2.out HB.out)|(with_reducible first|refine Kd.C_alloc ?_ _|refine Kd.C_drewN ?_ _|refine Kd.C_drew ?_)));(case side6=>exact HC0_2.out);(case side7=>repeat (first|exact(Kd.C_below HR0_3.out HB.out)|(with_reducible first|refine Kd.C_alloc ?_ _|refine Kd.C_drewN ?_ _|refine Kd.C_drew ?_)));(case side8=>exact HC0_3.out);(case side9=>repeat (first|exact(Kd.C_below HR0_4.out HB.out)|(with_reducible first|refine Kd.C_alloc ?_ _|refine Kd.C_drewN ?_ _|refine Kd.C_drew ?_)));(case side10=>exact HC0_4.out);rintro e w12 ⟨rfl,hb⟩;refine⟨_,rfl,?_⟩;have n0_:=Az.mk (kB_ BK419.out hb);have n1_:=Az.mk (kB_ BK420.out hb);have n2_:=Az.mk (bT_ HB.out hb);clear BK419;clear BK420;clear HB;have BK419:=n0_;have BK420:=n1_;have HB:=n2_;clear n0_ n1_ n2_;(try clear hb);(try clear hb2);(try clear hk);(try clear hi);obtain⟨hcz13_0,hcz13_1,hcz13_2,hcz13_3,hcz13_4,hcz13_5,hcz13_6,hfz13_0,hfz13_1,hfz13_2,hfz13_3,hfz13_4,hfz13_5,hfz13_6⟩:=cf7_ BK420.out)|(go_at_call 9;(with_reducible refine(arboristlaw46_Nodes.calls k a1_0 a1_1 a1_2 a1_3 _ _ l1_4 a1_5 _ _ l1_6 300 t422 _ ?side1 ?side2 ?side3 ?side4 A8.out).mono ?_);(case side1=>repeat (first|exact(Kd.C_below HR1_4.out HB.out)|(with_reducible first|refine Kd.C_alloc ?_ _|refine Kd.C_drewN ?_ _|refine Kd.C_drew ?_)));(case side2=>exact HC1_4.out);(case side3=>repeat (first|exact(Kd.C_below HR1_6.out HB.out)|(with_reducible first|refine Kd.C_alloc ?_ _|refine Kd.C_drewN ?_ _|refine Kd.C_drew ?_)));(case side4=>exact HC1_6.out);rintro e w14 ⟨rfl,hb⟩;have n0_:=Az.mk (kB_ BK419.out hb);have n1_:=Az.mk (kB_ BK420.out hb);have n2_:=Az.mk (bT_ HB.out hb);clear BK419;clear BK420;clear HB;have BK419:=n0_;have BK420:=n1_;have HB:=n2_;clear n0_ n1_ n2_;(try clear hb);(try clear hb2);(try clear hk);(try clear hi)))
   go_meet
   case rel=>exact⟨_,(true),(by first|rfl|(simp;done)|(simp [*];done)|(refine congrArg Value.bool ?_;exact isE_ _)),H',⟨by first|omega|exact Nat.le_refl _⟩,⟨by(with_reducible repeat (first|refine kN_ ?_ _|refine kD_ ?_|refine kA_ ?_ _));exact BK419.out⟩,⟨by(with_reducible repeat (first|refine kN_ ?_ _|refine kD_ ?_|refine kA_ ?_ _));exact BK420.out⟩,⟨by repeat (first|(with_reducible first|exact HB.out|apply bA_|apply bN_|apply bD_|refine bS_ ?_ GE419.out|refine bS_ ?_ GE420.out)|exact HB.out)⟩⟩
  rw [if_neg c9] at H
  have c9b0:=decide_eq_false c9
  clear c9
  (first|rw [c9b0]|(simp only [i64_w,i32_w];rw [c9b0])|skip)
  by_cases c15:(l1_6.length:Int)=0
  ·rw [if_pos c15] at H
   have c15b0:=beq_iff_eq.mpr c15
   have c15b1:=bne_eq_false_iff_eq.mpr c15
   clear c15
   have H':=Az.mk H
   clear H
   have hnb16:=NB419_420.out
   have hnc16:=NB420_419.out
   obtain⟨hcz17_0,hcz17_1,hcz17_2,hcz17_3,hcz17_4,hfz17_0,hfz17_1,hfz17_2,hfz17_3,hfz17_4⟩:=cf5_ BK419.out
   go_wp2_with (first|((with_reducible refine gate_callee (f:=8) rfl ?_);refine goesL_ (some 9) rfl rfl Try.func8 (by kernel_rfl) rfl #[.agg #[.slice A0_0 l0_0.length c0_0,.slice A0_1 l0_1.length c0_1,.slice A0_2 l0_2.length c0_2,.slice A0_3 l0_3.length c0_3,.slice A0_4 l0_4.length c0_4]] rfl (by(try simp only [List.map_toArray,List.map_cons,List.map_nil]);first|done|rfl|(simp only [List.length_drop,List.length_take];rfl)) ?_;(with_reducible refine(arboristlaw46_fewGram.calls k _ _ l0_0 _ _ l0_1 _ _ l0_2 _ _ l0_3 _ _ l0_4 true _ ?side1 ?side2 ?side3 ?side4 ?side5 ?side6 ?side7 ?side8 ?side9 ?side10 A6.out).mono ?_);(case side1=>repeat (first|exact(Kd.C_below HR0_0.out HB.out)|(with_reducible first|refine Kd.C_alloc ?_ _|refine Kd.C_drewN ?_ _|refine Kd.C_drew ?_)));(case side2=>exact HC0_0.out);(case side3=>repeat (first|exact(Kd.C_below HR0_1.out HB.out)|(with_reducible first|refine Kd.C_alloc ?_ _|refine Kd.C_drewN ?_ _|refine Kd.C_drew ?_)));(case side4=>exact HC0_1.out);(case side5=>repeat (first|exact(Kd.C_below HR0_2.out HB.out)|(with_reducible first|refine Kd.C_alloc ?_ _|refine Kd.C_drewN ?_ _|refine Kd.C_drew ?_)));(case side6=>exact HC0_2.out);(case side7=>repeat (first|exact(Kd.C_below HR0_3.out HB.out)|(with_reducible first|refine Kd.C_alloc ?_ _|refine Kd.C_drewN ?_ _|refine Kd.C_drew ?_)));(case side8=>exact HC0_3.out);(case side9=>repeat (first|exact(Kd.C_below HR0_4.out HB.out)|(with_reducible first|refine Kd.C_alloc ?_ _|refine Kd.C_drewN ?_ _|refine Kd.C_drew ?_)));(case side10=>exact HC0_4.out);rintro e w18 ⟨rfl,hb⟩;refine⟨_,rfl,?_⟩;have n0_:=Az.mk (kB_ BK419.out hb);have n1_:=Az.mk (kB_ BK420.out hb);have n2_:=Az.mk (bT_ HB.out hb);clear BK419;clear BK420;clear HB;have BK419:=n0_;have BK420:=n1_;have HB:=n2_;clear n0_ n1_ n2_;(try clear hb);(try clear hb2);(try clear hk);(try clear hi);obtain⟨hcz19_0,hcz19_1,hcz19_2,hcz19_3,hcz19_4,hcz19_5,hcz19_6,hfz19_0,hfz19_1,hfz19_2,hfz19_3,hfz19_4,hfz19_5,hfz19_6⟩:=cf7_ BK420.out)|(go_at_call 9;(with_reducible refine(arboristlaw46_Nodes.calls k a1_0 a1_1 a1_2 a1_3 _ _ l1_4 a1_5 _ _ l1_6 300 t422 _ ?side1 ?side2 ?side3 ?side4 A8.out).mono ?_);(case side1=>repeat (first|exact(Kd.C_below HR1_4.out HB.out)|(with_reducible first|refine Kd.C_alloc ?_ _|refine Kd.C_drewN ?_ _|refine Kd.C_drew ?_)));(case side2=>exact HC1_4.out);(case side3=>repeat (first|exact(Kd.C_below HR1_6.out HB.out)|(with_reducible first|refine Kd.C_alloc ?_ _|refine Kd.C_drewN ?_ _|refine Kd.C_drew ?_)));(case side4=>exact HC1_6.out);rintro e w20 ⟨rfl,hb⟩;have n0_:=Az.mk (kB_ BK419.out hb);have n1_:=Az.mk (kB_ BK420.out hb);have n2_:=Az.mk (bT_ HB.out hb);clear BK419;clear BK420;clear HB;have BK419:=n0_;have BK420:=n1_;have HB:=n2_;clear n0_ n1_ n2_;(try clear hb);(try clear hb2);(try clear hk);(try clear hi);obtain⟨hcz21_0,hcz21_1,hcz21_2,hcz21_3,hcz21_4,hcz21_5,hcz21_6,hfz21_0,hfz21_1,hfz21_2,hfz21_3,hfz21_4,hfz21_5,hfz21_6⟩:=cf7_ BK420.out))
   go_meet
   case rel=>exact⟨_,(true),(by first|rfl|(simp;done)|(simp [*];done)|(refine congrArg Value.bool ?_;exact isE_ _)),H',⟨by first|omega|exact Nat.le_refl _⟩,⟨by(with_reducible repeat (first|refine kN_ ?_ _|refine kD_ ?_|refine kA_ ?_ _));exact BK419.out⟩,⟨by(with_reducible repeat (first|refine kN_ ?_ _|refine kD_ ?_|refine kA_ ?_ _));exact BK420.out⟩,⟨by repeat (first|(with_reducible first|exact HB.out|apply bA_|apply bN_|apply bD_|refine bS_ ?_ GE419.out|refine bS_ ?_ GE420.out)|exact HB.out)⟩⟩
  rw [if_neg c15] at H
  have c15b0:=beq_eq_false_iff_ne.mpr c15
  have c15b1:=bne_iff_ne.mpr c15
  have c15b2:¬ (l1_6=[]):=fun h_=>c15 (by rw [h_];rfl)
  replace H:=Option.bind_eq_some_iff.mp H
  obtain⟨t423,A220,H⟩:=H
  replace H:(arboristlaw46_FieldsAll_.j0 k (!t423) l0_0 l0_1 l0_2 l0_3 l0_4 a1_0 a1_1 a1_2 a1_3 l1_4 a1_5 l1_6)=some r:=H
  have A22:=Az.mk A220
  clear A220
  have H':=Az.mk H
  clear H
  have hnb23:=NB419_420.out
  have hnc23:=NB420_419.out
  obtain⟨hcz24_0,hcz24_1,hcz24_2,hcz24_3,hcz24_4,hfz24_0,hfz24_1,hfz24_2,hfz24_3,hfz24_4⟩:=cf5_ BK419.out
  go_wp2_with (first|((with_reducible refine gate_callee (f:=8) rfl ?_);refine goesL_ (some 9) rfl rfl Try.func8 (by kernel_rfl) rfl #[.agg #[.slice A0_0 l0_0.length c0_0,.slice A0_1 l0_1.length c0_1,.slice A0_2 l0_2.length c0_2,.slice A0_3 l0_3.length c0_3,.slice A0_4 l0_4.length c0_4]] rfl (by(try simp only [List.map_toArray,List.map_cons,List.map_nil]);first|done|rfl|(simp only [List.length_drop,List.length_take];rfl)) ?_;(with_reducible refine(arboristlaw46_fewGram.calls k _ _ l0_0 _ _ l0_1 _ _ l0_2 _ _ l0_3 _ _ l0_4 true _ ?side1 ?side2 ?side3 ?side4 ?side5 ?side6 ?side7 ?side8 ?side9 ?side10 A6.out).mono ?_);(case side1=>repeat (first|exact(Kd.C_below HR0_0.out HB.out)|(with_reducible first|refine Kd.C_alloc ?_ _|refine Kd.C_drewN ?_ _|refine Kd.C_drew ?_)));(case side2=>exact HC0_0.out);(case side3=>repeat (first|exact(Kd.C_below HR0_1.out HB.out)|(with_reducible first|refine Kd.C_alloc ?_ _|refine Kd.C_drewN ?_ _|refine Kd.C_drew ?_)));(case side4=>exact HC0_1.out);(case side5=>repeat (first|exact(Kd.C_below HR0_2.out HB.out)|(with_reducible first|refine Kd.C_alloc ?_ _|refine Kd.C_drewN ?_ _|refine Kd.C_drew ?_)));(case side6=>exact HC0_2.out);(case side7=>repeat (first|exact(Kd.C_below HR0_3.out HB.out)|(with_reducible first|refine Kd.C_alloc ?_ _|refine Kd.C_drewN ?_ _|refine Kd.C_drew ?_)));(case side8=>exact HC0_3.out);(case side9=>repeat (first|exact(Kd.C_below HR0_4.out HB.out)|(with_reducible first|refine Kd.C_alloc ?_ _|refine Kd.C_drewN ?_ _|refine Kd.C_drew ?_)));(case side10=>exact HC0_4.out);rintro e w25 ⟨rfl,hb⟩;refine⟨_,rfl,?_⟩;have n0_:=Az.mk (kB_ BK419.out hb);have n1_:=Az.mk (kB_ BK420.out hb);have n2_:=Az.mk (bT_ HB.out hb);clear BK419;clear BK420;clear HB;have BK419:=n0_;have BK420:=n1_;have HB:=n2_;clear n0_ n1_ n2_;(try clear hb);(try clear hb2);(try clear hk);(try clear hi);obtain⟨hcz26_0,hcz26_1,hcz26_2,hcz26_3,hcz26_4,hcz26_5,hcz26_6,hfz26_0,hfz26_1,hfz26_2,hfz26_3,hfz26_4,hfz26_5,hfz26_6⟩:=cf7_ BK420.out)|(go_at_call 9;(with_reducible refine(arboristlaw46_Nodes.calls k a1_0 a1_1 a1_2 a1_3 _ _ l1_4 a1_5 _ _ l1_6 300 t422 _ ?side1 ?side2 ?side3 ?side4 A8.out).mono ?_);(case side1=>repeat (first|exact(Kd.C_below HR1_4.out HB.out)|(with_reducible first|refine Kd.C_alloc ?_ _|refine Kd.C_drewN ?_ _|refine Kd.C_drew ?_)));(case side2=>exact HC1_4.out);(case side3=>repeat (first|exact(Kd.C_below HR1_6.out HB.out)|(with_reducible first|refine Kd.C_alloc ?_ _|refine Kd.C_drewN ?_ _|refine Kd.C_drew ?_)));(case side4=>exact HC1_6.out);rintro e w27 ⟨rfl,hb⟩;have n0_:=Az.mk (kB_ BK419.out hb);have n1_:=Az.mk (kB_ BK420.out hb);have n2_:=Az.mk (bT_ HB.out hb);clear BK419;clear BK420;clear HB;have BK419:=n0_;have BK420:=n1_;have HB:=n2_;clear n0_ n1_ n2_;(try clear hb);(try clear hb2);(try clear hk);(try clear hi);obtain⟨hcz28_0,hcz28_1,hcz28_2,hcz28_3,hcz28_4,hcz28_5,hcz28_6,hfz28_0,hfz28_1,hfz28_2,hfz28_3,hfz28_4,hfz28_5,hfz28_6⟩:=cf7_ BK420.out;obtain⟨hcz29_0,hcz29_1,hcz29_2,hcz29_3,hcz29_4,hfz29_0,hfz29_1,hfz29_2,hfz29_3,hfz29_4⟩:=cf5_ BK419.out)|(go_at_call 26;(with_reducible refine(arboristref42_Right.calls k _ _ l0_0 _ _ l0_1 _ _ l0_2 _ _ l0_3 _ _ l0_4 a1_0 a1_1 a1_2 a1_3 _ _ l1_4 a1_5 _ _ l1_6 t423 _ ?side1 ?side2 ?side3 ?side4 ?side5 ?side6 ?side7 ?side8 ?side9 ?side10 ?side11 ?side12 ?side13 ?side14 A22.out).mono ?_);(case side1=>repeat (first|exact(Kd.C_below HR0_0.out HB.out)|(with_reducible first|refine Kd.C_alloc ?_ _|refine Kd.C_drewN ?_ _|refine Kd.C_drew ?_)));(case side2=>exact HC0_0.out);(case side3=>repeat (first|exact(Kd.C_below HR0_1.out HB.out)|(with_reducible first|refine Kd.C_alloc ?_ _|refine Kd.C_drewN ?_ _|refine Kd.C_drew ?_)));(case side4=>exact HC0_1.out);(case side5=>repeat (first|exact(Kd.C_below HR0_2.out HB.out)|(with_reducible first|refine Kd.C_alloc ?_ _|refine Kd.C_drewN ?_ _|refine Kd.C_drew ?_)));(case side6=>exact HC0_2.out);(case side7=>repeat (first|exact(Kd.C_below HR0_3.out HB.out)|(with_reducible first|refine Kd.C_alloc ?_ _|refine Kd.C_drewN ?_ _|refine Kd.C_drew ?_)));(case side8=>exact HC0_3.out);(case side9=>repeat (first|exact(Kd.C_below HR0_4.out HB.out)|(with_reducible first|refine Kd.C_alloc ?_ _|refine Kd.C_drewN ?_ _|refine Kd.C_drew ?_)));(case side10=>exact HC0_4.out);(case side11=>repeat (first|exact(Kd.C_below HR1_4.out HB.out)|(with_reducible first|refine Kd.C_alloc ?_ _|refine Kd.C_drewN ?_ _|refine Kd.C_drew ?_)));(case side12=>exact HC1_4.out);(case side13=>repeat (first|exact(Kd.C_below HR1_6.out HB.out)|(with_reducible first|refine Kd.C_alloc ?_ _|refine Kd.C_drewN ?_ _|refine Kd.C_drew ?_)));(case side14=>exact HC1_6.out);rintro e w30 ⟨rfl,hb⟩;have n0_:=Az.mk (kB_ BK419.out hb);have n1_:=Az.mk (kB_ BK420.out hb);have n2_:=Az.mk (bT_ HB.out hb);clear BK419;clear BK420;clear HB;have BK419:=n0_;have BK420:=n1_;have HB:=n2_;clear n0_ n1_ n2_;(try clear hb);(try clear hb2);(try clear hk);(try clear hi)))
  go_meet
  case rel=>exact⟨_,(!t423),(by first|rfl|(simp;done)|(simp [*];done)|(refine congrArg Value.bool ?_;exact isE_ _)),H',⟨by first|omega|exact Nat.le_refl _⟩,⟨by(with_reducible repeat (first|refine kN_ ?_ _|refine kD_ ?_|refine kA_ ?_ _));exact BK419.out⟩,⟨by(with_reducible repeat (first|refine kN_ ?_ _|refine kD_ ?_|refine kA_ ?_ _));exact BK420.out⟩,⟨by repeat (first|(with_reducible first|exact HB.out|apply bA_|apply bN_|apply bD_|refine bS_ ?_ GE419.out|refine bS_ ?_ GE420.out)|exact HB.out)⟩⟩
 case rest =>
  clear HC3
  try clear c1
  try clear c2
  try clear p2
  try clear c3
  try clear c6
  try clear c7
  try clear c8
  try clear c9
  try clear c9b0
  try clear c10
  try clear c15
  try clear c15b0
  try clear c15b1
  try clear c15b2
  try clear c16
  try clear c23
  try clear c31
  try clear hcz11_0 hcz11_1 hcz11_2 hcz11_3 hcz11_4 hfz11_0 hfz11_1 hfz11_2 hfz11_3 hfz11_4
  try clear hcz13_0 hcz13_1 hcz13_2 hcz13_3 hcz13_4 hcz13_5 hcz13_6 hfz13_0 hfz13_1 hfz13_2 hfz13_3 hfz13_4 hfz13_5 hfz13_6
  try clear hcz17_0 hcz17_1 hcz17_2 hcz17_3 hcz17_4 hfz17_0 hfz17_1 hfz17_2 hfz17_3 hfz17_4
  try clear hcz19_0 hcz19_1 hcz19_2 hcz19_3 hcz19_4 hcz19_5 hcz19_6 hfz19_0 hfz19_1 hfz19_2 hfz19_3 hfz19_4 hfz19_5 hfz19_6
  try clear hcz21_0 hcz21_1 hcz21_2 hcz21_3 hcz21_4 hcz21_5 hcz21_6 hfz21_0 hfz21_1 hfz21_2 hfz21_3 hfz21_4 hfz21_5 hfz21_6
  try clear hcz24_0 hcz24_1 hcz24_2 hcz24_3 hcz24_4 hfz24_0 hfz24_1 hfz24_2 hfz24_3 hfz24_4
  try clear hcz26_0 hcz26_1 hcz26_2 hcz26_3 hcz26_4 hcz26_5 hcz26_6 hfz26_0 hfz26_1 hfz26_2 hfz26_3 hfz26_4 hfz26_5 hfz26_6
  try clear hcz28_0 hcz28_1 hcz28_2 hcz28_3 hcz28_4 hcz28_5 hcz28_6 hfz28_0 hfz28_1 hfz28_2 hfz28_3 hfz28_4 hfz28_5 hfz28_6
  try clear hcz29_0 hcz29_1 hcz29_2 hcz29_3 hcz29_4 hfz29_0 hfz29_1 hfz29_2 hfz29_3 hfz29_4
  try clear hcz32_0 hcz32_1 hcz32_2 hcz32_3 hcz32_4 hfz32_0 hfz32_1 hfz32_2 hfz32_3 hfz32_4
  obtain⟨kq,x27_2,rfl,HA,HJ2,BK419,BK420,HB⟩:=hcut
  cases kq with
  | zero=>exact absurd HA.out (by simp [arboristlaw46_FieldsAll_.j0])
  | succ kj2 =>
   have H:=HA.out
   clear HA
   simp only [arboristlaw46_FieldsAll_.j0] at H
   by_cases c34:x27_2=true
   ·subst c34
    have H1:((arboristlaw46_knows.f kj2).bind fun t424=>(some t424))=some r:=by rw [if_pos rfl] at H;exact H
    clear H
    have H:=H1
    clear H1
    replace H:=Option.bind_eq_some_iff.mp H
    obtain⟨t424,A350,H⟩:=H
    replace H:(some t424)=some r:=H
    have A35:=Az.mk A350
    clear A350
    obtain rfl:=Option.some.inj H
    go_wp2_with (first|((with_reducible refine gate_callee (f:=10) rfl ?_);refine goesL_ (some 28) rfl rfl Try.func10 (by kernel_rfl) rfl #[] rfl (by(try simp only [List.map_toArray,List.map_cons,List.map_nil]);first|done|rfl|(simp only [List.length_drop,List.length_take];rfl)) ?_;(with_reducible refine(arboristlaw46_knows.calls kj2  t424 _ A35.out).mono ?_);rintro e w36 ⟨rfl,hb⟩;refine⟨_,rfl,?_⟩;have n0_:=Az.mk (kB_ BK419.out hb);have n1_:=Az.mk (kB_ BK420.out hb);have n2_:=Az.mk (bT_ HB.out hb);clear BK419;clear BK420;clear HB;have BK419:=n0_;have BK420:=n1_;have HB:=n2_;clear n0_ n1_ n2_;(try clear hb);(try clear hb2);(try clear hk);(try clear hi)))
    go_ret
    exact⟨by first|rfl|(simp [errW_none,errW_some] <;> rfl)|(simp [*,errW_none,errW_some] <;> rfl),by repeat (first|(with_reducible first|exact HB.out|apply bA_|apply bN_|apply bD_|refine bS_ ?_ GE419.out|refine bS_ ?_ GE420.out)|exact HB.out)⟩
   replace c34:=Bool.eq_false_iff.mpr c34
   subst c34
   have H1:((fields_Kids.f kj2 l0_0 l0_1 l0_2 l0_3 l0_4 a1_0 a1_1 a1_2 a1_3 l1_4 a1_5 l1_6).bind fun t425=>(arboristlaw46_FieldsAll_.l0 kj2 (⟨#[]⟩:ByteArray) t425 0 a1_0 a1_1 a1_2 a1_3 l1_4 a1_5 l1_6))=some r:=by rw [if_neg (show ¬ (false=true) by decide)] at H;exact H
   clear H
   have H:=H1
   clear H1
   replace H:=Option.bind_eq_some_iff.mp H
   obtain⟨t425,A370,H⟩:=H
   replace H:(arboristlaw46_FieldsAll_.l0 kj2 (⟨#[]⟩:ByteArray) t425 0 a1_0 a1_1 a1_2 a1_3 l1_4 a1_5 l1_6)=some r:=H
   have A37:=Az.mk A370
   clear A370
   have H':=Az.mk H
   clear H
   have hnb38:=NB419_420.out
   have hnc38:=NB420_419.out
   obtain⟨hcz39_0,hcz39_1,hcz39_2,hcz39_3,hcz39_4,hfz39_0,hfz39_1,hfz39_2,hfz39_3,hfz39_4⟩:=cf5_ BK419.out
   obtain⟨hcz40_0,hcz40_1,hcz40_2,hcz40_3,hcz40_4,hcz40_5,hcz40_6,hfz40_0,hfz40_1,hfz40_2,hfz40_3,hfz40_4,hfz40_5,hfz40_6⟩:=cf7_ BK420.out
   go_wp2_with (first|((with_reducible refine gate_callee (f:=16) rfl ?_);refine goesL_ (some 31) rfl rfl Try.func16 (by kernel_rfl) rfl #[.agg #[.slice A0_0 l0_0.length c0_0,.slice A0_1 l0_1.length c0_1,.slice A0_2 l0_2.length c0_2,.slice A0_3 l0_3.length c0_3,.slice A0_4 l0_4.length c0_4],.agg #[.int .i64 a1_0,.int .i64 a1_1,.int .i64 a1_2,.int .i64 a1_3,.slice A1_4 l1_4.length c1_4,.string a1_5,.slice A1_6 l1_6.length c1_6]] rfl (by(try simp only [List.map_toArray,List.map_cons,List.map_nil]);first|done|rfl|(simp only [List.length_drop,List.length_take];rfl)) ?_;(with_reducible refine(fields_Kids.calls kj2 _ _ l0_0 _ _ l0_1 _ _ l0_2 _ _ l0_3 _ _ l0_4 a1_0 a1_1 a1_2 a1_3 _ _ l1_4 a1_5 _ _ l1_6 t425 _ ?side1 ?side2 ?side3 ?side4 ?side5 ?side6 ?side7 ?side8 ?side9 ?side10 ?side11 ?side12 ?side13 ?side14 A37.out).mono ?_);(case side1=>repeat (first|exact(Kd.C_below HR0_0.out HB.out)|(with_reducible first|refine Kd.C_alloc ?_ _|refine Kd.C_drewN ?_ _|refine Kd.C_drew ?_)));(case side2=>exact HC0_0.out);(case side3=>repeat (first|exact(Kd.C_below HR0_1.out HB.out)|(with_reducible first|refine Kd.C_alloc ?_ _|refine Kd.C_drewN ?_ _|refine Kd.C_drew ?_)));(case side4=>exact HC0_1.out);(case side5=>repeat (first|exact(Kd.C_below HR0_2.out HB.out)|(with_reducible first|refine Kd.C_alloc ?_ _|refine Kd.C_drewN ?_ _|refine Kd.C_drew ?_)));(case side6=>exact HC0_2.out);(case side7=>repeat (first|exact(Kd.C_below HR0_3.out HB.out)|(with_reducible first|refine Kd.C_alloc ?_ _|refine Kd.C_drewN ?_ _|refine Kd.C_drew ?_)));(case side8=>exact HC0_3.out);(case side9=>repeat (first|exact(Kd.C_below HR0_4.out HB.out)|(with_reducible first|refine Kd.C_alloc ?_ _|refine Kd.C_drewN ?_ _|refine Kd.C_drew ?_)));(case side10=>exact HC0_4.out);(case side11=>repeat (first|exact(Kd.C_below HR1_4.out HB.out)|(with_reducible first|refine Kd.C_alloc ?_ _|refine Kd.C_drewN ?_ _|refine Kd.C_drew ?_)));(case side12=>exact HC1_4.out);(case side13=>repeat (first|exact(Kd.C_below HR1_6.out HB.out)|(with_reducible first|refine Kd.C_alloc ?_ _|refine Kd.C_drewN ?_ _|refine Kd.C_drew ?_)));(case side14=>exact HC1_6.out);rintro e w41 ⟨v426,rfl,ho0,hb⟩;refine⟨_,rfl,?_⟩;have n0_:=Az.mk (Kd.R_lower (Kd.R_newB ho0 (g:=gb420) (o:=.cells #[.int .i64 a1_0,.int .i64 a1_1,.int .i64 a1_2,.int .i64 a1_3,.slice A1_4 l1_4.length c1_4,.string a1_5,.slice A1_6 l1_6.length c1_6] 32 (0,0)) (by(with_reducible repeat (first|refine kN_ ?_ _|refine kD_ ?_|refine kA_ ?_ _));exact BK420.out)) (bZ_ (by repeat (first|(with_reducible first|exact HB.out|apply bA_|apply bN_|apply bD_|refine bS_ ?_ GE419.out|refine bS_ ?_ GE420.out)|exact HB.out))));have n1_:=Az.mk (kB_ BK419.out hb);have n2_:=Az.mk (kB_ BK420.out hb);have n3_:=Az.mk (bT_ HB.out hb);clear BK419;clear BK420;clear HB;have HO427:=n0_;have BK419:=n1_;have BK420:=n2_;have HB:=n3_;clear n0_ n1_ n2_ n3_;(try clear hb);(try clear hb2);(try clear hk);(try clear hi);(try clear ho0)))
   go_loopg [5,7] kj2 (fun kq v5 v7 w'=>∃ (x5_2:ByteArray) (x7_2:Int),v5=.string x5_2∧v7=.int .i64 x7_2∧Az (arboristlaw46_FieldsAll_.l0 kq x5_2 t425 x7_2 a1_0 a1_1 a1_2 a1_3 l1_4 a1_5 l1_6=some r)∧Az (kq≤kj2)∧Az (Kd.R k32 32 w' w.heap.size (fun k_=>k_≠gb420) v426 t425)∧Az (w'.heap[gb419]?=some (.cells #[(.slice A0_0 l0_0.length c0_0),(.slice A0_1 l0_1.length c0_1),(.slice A0_2 l0_2.length c0_2),(.slice A0_3 l0_3.length c0_3),(.slice A0_4 l0_4.length c0_4)] 27 (0,0)))∧Az (w'.heap[gb420]?=some (.cells #[.int .i64 a1_0,.int .i64 a1_1,.int .i64 a1_2,.int .i64 a1_3,(.slice A1_4 l1_4.length c1_4),.string a1_5,(.slice A1_6 l1_6.length c1_6)] 32 (0,0)))∧Az (Below w.heap.size w w'))
   case atStart=>exact⟨((⟨#[]⟩:ByteArray)),(0),(by first|rfl|(simp;done)|(simp [*];done)|(refine congrArg Value.bool ?_;exact isE_ _)),(by first|rfl|(simp;done)|(simp [*];done)|(refine congrArg Value.bool ?_;exact isE_ _)),H',⟨Nat.le_refl _⟩,⟨by(with_reducible repeat (first|apply Kd.R_alloc|apply Kd.R_drewN|apply Kd.R_drew));exact Kd.R_mono HO427.out (fun _ hk=>hk.2)⟩,⟨by(with_reducible repeat (first|refine kN_ ?_ _|refine kD_ ?_|refine kA_ ?_ _));exact BK419.out⟩,⟨by(with_reducible repeat (first|refine kN_ ?_ _|refine kD_ ?_|refine kA_ ?_ _));exact BK420.out⟩,⟨by repeat (first|(with_reducible first|exact HB.out|apply bA_|apply bN_|apply bD_|refine bS_ ?_ GE419.out|refine bS_ ?_ GE420.out)|exact HB.out)⟩⟩
   case round =>
    clear H'
    try clear c1
    try clear c2
    try clear p2 p2
    try clear c3
    try clear c6
    try clear c7
    try clear c8
    try clear c9
    try clear c9b0
    try clear c10
    try clear c15
    try clear c15b0
    try clear c15b1
    try clear c15b2
    try clear c16
    try clear c23
    try clear c31
    try clear c34
    try clear c38
    try clear hcz11_0 hcz11_1 hcz11_2 hcz11_3 hcz11_4 hfz11_0 hfz11_1 hfz11_2 hfz11_3 hfz11_4
    try clear hcz13_0 hcz13_1 hcz13_2 hcz13_3 hcz13_4 hcz13_5 hcz13_6 hfz13_0 hfz13_1 hfz13_2 hfz13_3 hfz13_4 hfz13_5 hfz13_6
    try clear hcz17_0 hcz17_1 hcz17_2 hcz17_3 hcz17_4 hfz17_0 hfz17_1 hfz17_2 hfz17_3 hfz17_4
    try clear hcz19_0 hcz19_1 hcz19_2 hcz19_3 hcz19_4 hcz19_5 hcz19_6 hfz19_0 hfz19_1 hfz19_2 hfz19_3 hfz19_4 hfz19_5 hfz19_6
    try clear hcz21_0 hcz21_1 hcz21_2 hcz21_3 hcz21_4 hcz21_5 hcz21_6 hfz21_0 hfz21_1 hfz21_2 hfz21_3 hfz21_4 hfz21_5 hfz21_6
    try clear hcz24_0 hcz24_1 hcz24_2 hcz24_3 hcz24_4 hfz24_0 hfz24_1 hfz24_2 hfz24_3 hfz24_4
    try clear hcz26_0 hcz26_1 hcz26_2 hcz26_3 hcz26_4 hcz26_5 hcz26_6 hfz26_0 hfz26_1 hfz26_2 hfz26_3 hfz26_4 hfz26_5 hfz26_6
    try clear hcz28_0 hcz28_1 hcz28_2 hcz28_3 hcz28_4 hcz28_5 hcz28_6 hfz28_0 hfz28_1 hfz28_2 hfz28_3 hfz28_4 hfz28_5 hfz28_6
    try clear hcz29_0 hcz29_1 hcz29_2 hcz29_3 hcz29_4 hfz29_0 hfz29_1 hfz29_2 hfz29_3 hfz29_4
    try clear hcz32_0 hcz32_1 hcz32_2 hcz32_3 hcz32_4 hfz32_0 hfz32_1 hfz32_2 hfz32_3 hfz32_4
    try clear hcz39_0 hcz39_1 hcz39_2 hcz39_3 hcz39_4 hfz39_0 hfz39_1 hfz39_2 hfz39_3 hfz39_4
    try clear hcz40_0 hcz40_1 hcz40_2 hcz40_3 hcz40_4 hcz40_5 hcz40_6 hfz40_0 hfz40_1 hfz40_2 hfz40_3 hfz40_4 hfz40_5 hfz40_6
    obtain⟨x5_2,x7_2,rfl,rfl,HA,HK2,HO_6,BK419,BK420,HB⟩:=hrel
    cases gk with
    | zero=>exact absurd HA.out (by simp [arboristlaw46_FieldsAll_.l0])
    | succ k2 =>
     have H:=HA.out
     clear HA
     simp only [arboristlaw46_FieldsAll_.l0] at H
     by_cases c42:x7_2 < (t425.length:Int)
     rotate_left
     ·rw [if_neg c42] at H
      have c42b0:=decide_eq_false c42
      clear c42
      replace H:=Option.bind_eq_some_iff.mp H
      obtain⟨t430,A480,H⟩:=H
      replace H:(if x5_2.toList=t430.toList then((arboristlaw46_knows.f k2).bind fun t431=>(some t431))else(some false))=some r:=H
      have A48:=Az.mk A480
      clear A480
      by_cases c49:x5_2.toList=t430.toList
      ·rw [if_pos c49] at H
       have c49b0:=beq_iff_eq.mpr c49
       have c49b1:=bne_eq_false_iff_eq.mpr c49
       clear c49
       replace H:=Option.bind_eq_some_iff.mp H
       obtain⟨t431,A500,H⟩:=H
       replace H:(some t431)=some r:=H
       have A50:=Az.mk A500
       clear A500
       obtain rfl:=Option.some.inj H
       obtain⟨Ao51,co51,eo51⟩:=Kd.R_slice HO_6.out
       subst eo51
       have hnb52:=NB420_419.out
       have hnc52:=NB419_420.out
       obtain⟨hcz53_0,hcz53_1,hcz53_2,hcz53_3,hcz53_4,hcz53_5,hcz53_6,hfz53_0,hfz53_1,hfz53_2,hfz53_3,hfz53_4,hfz53_5,hfz53_6⟩:=cf7_ BK420.out
       go_wp2_with (first|((with_reducible refine gate_callee (f:=27) rfl ?_);refine goesL_ (some 47) rfl rfl Try.func27 (by kernel_rfl) rfl #[.agg #[.int .i64 a1_0,.int .i64 a1_1,.int .i64 a1_2,.int .i64 a1_3,.slice A1_4 l1_4.length c1_4,.string a1_5,.slice A1_6 l1_6.length c1_6]] rfl (by(try simp only [List.map_toArray,List.map_cons,List.map_nil]);first|done|rfl|(simp only [List.length_drop,List.length_take];rfl)) ?_;(with_reducible refine(arboristref42_Text.calls k2 a1_0 a1_1 a1_2 a1_3 _ _ l1_4 a1_5 _ _ l1_6 t430 _ ?side1 ?side2 ?side3 ?side4 A48.out).mono ?_);(case side1=>repeat (first|exact(Kd.C_below HR1_4.out HB.out)|(with_reducible first|refine Kd.C_alloc ?_ _|refine Kd.C_drewN ?_ _|refine Kd.C_drew ?_)));(case side2=>exact HC1_4.out);(case side3=>repeat (first|exact(Kd.C_below HR1_6.out HB.out)|(with_reducible first|refine Kd.C_alloc ?_ _|refine Kd.C_drewN ?_ _|refine Kd.C_drew ?_)));(case side4=>exact HC1_6.out);rintro e w54 ⟨rfl,hb⟩;refine⟨_,rfl,?_⟩;have n0_:=Az.mk (Kd.R_below (by(with_reducible repeat (first|apply Kd.R_alloc|apply Kd.R_drewN|apply Kd.R_drew));exact HO_6.out) hb);have n1_:=Az.mk (kB_ BK419.out hb);have n2_:=Az.mk (kB_ BK420.out hb);have n3_:=Az.mk (bT_ HB.out hb);clear HO_6;clear BK419;clear BK420;clear HB;have HO_6:=n0_;have BK419:=n1_;have BK420:=n2_;have HB:=n3_;clear n0_ n1_ n2_ n3_;(try clear hb);(try clear hb2);(try clear hk);(try clear hi))|(go_at_call 10;(with_reducible refine(arboristlaw46_knows.calls k2  t431 _ A50.out).mono ?_);rintro e w55 ⟨rfl,hb⟩;have n0_:=Az.mk (Kd.R_below (by(with_reducible repeat (first|apply Kd.R_alloc|apply Kd.R_drewN|apply Kd.R_drew));exact HO_6.out) hb);have n1_:=Az.mk (kB_ BK419.out hb);have n2_:=Az.mk (kB_ BK420.out hb);have n3_:=Az.mk (bT_ HB.out hb);clear HO_6;clear BK419;clear BK420;clear HB;have HO_6:=n0_;have BK419:=n1_;have BK420:=n2_;have HB:=n3_;clear n0_ n1_ n2_ n3_;(try clear hb);(try clear hb2);(try clear hk);(try clear hi)))
       go_ret
       exact⟨by first|rfl|(simp [errW_none,errW_some] <;> rfl)|(simp [*,errW_none,errW_some] <;> rfl),by repeat (first|(with_reducible first|exact HB.out|apply bA_|apply bN_|apply bD_|refine bS_ ?_ GE419.out|refine bS_ ?_ GE420.out)|exact HB.out)⟩
      rw [if_neg c49] at H
      have c49b0:=beq_eq_false_iff_ne.mpr c49
      have c49b1:=bne_iff_ne.mpr c49
      exact absurd ((Option.some.inj H).trans HT.out) (by decide)
     rw [if_pos c42] at H
     have c42b0:=decide_eq_true c42
     clear c42
     by_cases c43:0≤x7_2
     rotate_left
     ·rw [if_neg c43] at H
      exact absurd H (by simp)
     rw [if_pos c43] at H
     have c43b0:=decide_eq_true c43
     clear c43
     replace H:=Option.bind_eq_some_iff.mp H
     obtain⟨t429,A440,H⟩:=H
     replace H:(if x5_2.size + t429.size≤9223372036854775807 then(arboristlaw46_FieldsAll_.l0 k2 (x5_2 ++ t429) t425 (wrap64 (x7_2 + 1)) a1_0 a1_1 a1_2 a1_3 l1_4 a1_5 l1_6)else(none))=some r:=H
     have A44:=Az.mk A440
     clear A440
     by_cases c45:x5_2.size + t429.size≤9223372036854775807
     rotate_left
     ·rw [if_neg c45] at H
      exact absurd H (by simp)
     rw [if_pos c45] at H
     have c45b0:=eq_true c45
     have c45b1:=decide_eq_true c45
     try have c45b2:(9223372036854775807 < x5_2.size + t429.size)=False:=eq_false (Nat.not_lt.2 c45)
     have H':=Az.mk H
     clear H
     obtain⟨Ao46,co46,eo46⟩:=Kd.R_slice HO_6.out
     subst eo46
     have p428:0≤(x7_2:Int):=of_decide_eq_true (by assumption)
     have q428:x7_2 < (t425.length:Int):=of_decide_eq_true (by assumption)
     obtain⟨ad428,A428_4,c428_4,A428_6,c428_6,e428,hx428_0,hx428_1,hx428_2,hx428_3,hx428_4,hx428_5,hx428_6,hl428_4,hi428_4,hl428_6,hi428_6⟩:=at_T32 (Kd.R_reads' HO_6.out).2.2 x7_2 p428 q428
     cases e428
     obtain⟨ce428,hce428,hMe428,hcc428⟩:=Kd.R_get HO_6.out z32 x7_2 p428 (by first|exact q428|exact of_decide_eq_true (by assumption)|(have e_:=(Kd.R_reads' HO_6.out).1;omega))
     obtain⟨ve428_4,ve428_6,rfl,ge428_4,ge428_6⟩:=k32_openM hMe428
     have hv428_4:=hcc428 4 _ rfl
     rw [add_field _ _ 4 (by omega)] at hv428_4
     replace hv428_4:=Option.some.inj (hv428_4.symm.trans hx428_4)
     rw [hv428_4] at ge428_4
     have HL428_4:=Az.mk (show Kd.R k53 53 _ _ _ _ ((rd_T32 t425 x7_2).f4)from ge428_4)
     clear hv428_4 ge428_4
     have hv428_6:=hcc428 6 _ rfl
     rw [add_field _ _ 6 (by omega)] at hv428_6
     replace hv428_6:=Option.some.inj (hv428_6.symm.trans hx428_6)
     rw [hv428_6] at ge428_6
     have HL428_6:=Az.mk (show Kd.R k32 32 _ _ _ _ ((rd_T32 t425 x7_2).f6)from ge428_6)
     clear hv428_6 ge428_6
     clear hcc428 hce428
     have HR428_4:=Az.mk hi428_4
     have HC428_4:=Az.mk hl428_4
     clear hi428_4 hl428_4
     have HR428_6:=Az.mk hi428_6
     have HC428_6:=Az.mk hl428_6
     clear hi428_6 hl428_6
     replace p428:=eq_true p428
     replace q428:=eq_true q428
     go_wp2_with (first|((with_reducible refine gate_callee (f:=27) rfl ?_);refine goesL_ (some 43) rfl rfl Try.func27 (by kernel_rfl) rfl #[.agg #[.int .i64 ((rd_T32 t425 x7_2).f0),.int .i64 ((rd_T32 t425 x7_2).f1),.int .i64 ((rd_T32 t425 x7_2).f2),.int .i64 ((rd_T32 t425 x7_2).f3),.slice A428_4 ((rd_T32 t425 x7_2).f4).length c428_4,.string ((rd_T32 t425 x7_2).f5),.slice A428_6 ((rd_T32 t425 x7_2).f6).length c428_6]] rfl (by(try simp only [List.map_toArray,List.map_cons,List.map_nil]);first|done|rfl|(simp only [List.length_drop,List.length_take];rfl)) ?_;(with_reducible refine(arboristref42_Text.calls k2 ((rd_T32 t425 x7_2).f0) ((rd_T32 t425 x7_2).f1) ((rd_T32 t425 x7_2).f2) ((rd_T32 t425 x7_2).f3) _ _ ((rd_T32 t425 x7_2).f4) ((rd_T32 t425 x7_2).f5) _ _ ((rd_T32 t425 x7_2).f6) t429 _ ?side1 ?side2 ?side3 ?side4 A44.out).mono ?_);(case side1=>repeat (first|exact(by repeat (first|(with_reducible exact HR428_4.out)|(with_reducible first|refine Kd.C_alloc ?_ _|refine Kd.C_drewN ?_ _|refine Kd.C_drew ?_)|exact HR428_4.out))|(with_reducible first|refine Kd.C_alloc ?_ _|refine Kd.C_drewN ?_ _|refine Kd.C_drew ?_)));(case side2=>exact HC428_4.out);(case side3=>repeat (first|exact(by repeat (first|(with_reducible exact HR428_6.out)|(with_reducible first|refine Kd.C_alloc ?_ _|refine Kd.C_drewN ?_ _|refine Kd.C_drew ?_)|exact HR428_6.out))|(with_reducible first|refine Kd.C_alloc ?_ _|refine Kd.C_drewN ?_ _|refine Kd.C_drew ?_)));(case side4=>exact HC428_6.out);rintro e w47 ⟨rfl,hb⟩;refine⟨_,rfl,?_⟩;have n0_:=Az.mk (Kd.R_below (by(with_reducible repeat (first|apply Kd.R_alloc|apply Kd.R_drewN|apply Kd.R_drew));exact HO_6.out) hb);have n1_:=Az.mk (Kd.R_below (by(with_reducible repeat (first|apply Kd.R_alloc|apply Kd.R_drewN|apply Kd.R_drew));exact HL428_4.out) hb);have n2_:=Az.mk (Kd.R_below (by(with_reducible repeat (first|apply Kd.R_alloc|apply Kd.R_drewN|apply Kd.R_drew));exact HL428_6.out) hb);have n3_:=Az.mk (kB_ BK419.out hb);have n4_:=Az.mk (kB_ BK420.out hb);have n5_:=Az.mk (Kd.C_below (by repeat (first|(with_reducible exact HR428_4.out)|(with_reducible first|refine Kd.C_alloc ?_ _|refine Kd.C_drewN ?_ _|refine Kd.C_drew ?_)|exact HR428_4.out)) hb);have n6_:=Az.mk (Kd.C_below (by repeat (first|(with_reducible exact HR428_6.out)|(with_reducible first|refine Kd.C_alloc ?_ _|refine Kd.C_drewN ?_ _|refine Kd.C_drew ?_)|exact HR428_6.out)) hb);have n7_:=Az.mk (bT_ HB.out hb);clear HO_6;clear HL428_4;clear HL428_6;clear BK419;clear BK420;clear HR428_4;clear HR428_6;clear HB;have HO_6:=n0_;have HL428_4:=n1_;have HL428_6:=n2_;have BK419:=n3_;have BK420:=n4_;have HR428_4:=n5_;have HR428_6:=n6_;have HB:=n7_;clear n0_ n1_ n2_ n3_ n4_ n5_ n6_ n7_;(try clear hb);(try clear hb2);(try clear hk);(try clear hi)))
     go_roundg k2
     case measure=>have:=HJ2.out;have:=HK2.out;omega
     case rel=>exact⟨(x5_2 ++ t429),(wrap64 (x7_2 + 1)),(by first|rfl|(simp;done)|(simp [*];done)|(refine congrArg Value.bool ?_;exact isE_ _)),(by first|rfl|(simp;done)|(simp [*];done)|(refine congrArg Value.bool ?_;exact isE_ _)),H',⟨by have:=HJ2.out;have:=HK2.out;omega⟩,⟨by(with_reducible repeat (first|apply Kd.R_alloc|apply Kd.R_drewN|apply Kd.R_drew));exact HO_6.out⟩,⟨by(with_reducible repeat (first|refine kN_ ?_ _|refine kD_ ?_|refine kA_ ?_ _));exact BK419.out⟩,⟨by(with_reducible repeat (first|refine kN_ ?_ _|refine kD_ ?_|refine kA_ ?_ _));exact BK420.out⟩,⟨by repeat (first|(with_reducible first|exact HB.out|apply bA_|apply bN_|apply bD_|refine bS_ ?_ GE419.out|refine bS_ ?_ GE420.out)|exact HB.out)⟩⟩
def arboristlaw46_FieldsAll.f (k:Nat)(l0_0:List ByteArray)(l0_1:List ByteArray)(l0_2:List Int)(l0_3:List (S67))(l0_4:List (S78))(a1_0:Int)(a1_1:Int)(a1_2:Int)(a1_3:Int)(l1_4:List (S53))(a1_5:ByteArray)(l1_6:List (S32)):Option Bool:=(arboristlaw46_FieldsAll_.f k l0_0 l0_1 l0_2 l0_3 l0_4 a1_0 a1_1 a1_2 a1_3 l1_4 a1_5 l1_6).bind fun r=>if r=true then some true else none
theorem arboristlaw46_FieldsAll.calls (k:Nat)(A0_0:Option Addr)(c0_0:Nat)(l0_0:List ByteArray)(A0_1:Option Addr)(c0_1:Nat)(l0_1:List ByteArray)(A0_2:Option Addr)(c0_2:Nat)(l0_2:List Int)(A0_3:Option Addr)(c0_3:Nat)(l0_3:List (S67))(A0_4:Option Addr)(c0_4:Nat)(l0_4:List (S78))(a1_0:Int)(a1_1:Int)(a1_2:Int)(a1_3:Int)(A1_4:Option Addr)(c1_4:Nat)(l1_4:List (S53))(a1_5:ByteArray)(A1_6:Option Addr)(c1_6:Nat)(l1_6:List (S32))(r:Bool)(w:World)(hr0_0:Kd.C Kd.string w A0_0 l0_0.length l0_0)(hc0_0:l0_0.length≤c0_0)(hr0_1:Kd.C Kd.string w A0_1 l0_1.length l0_1)(hc0_1:l0_1.length≤c0_1)(hr0_2:Kd.C (Kd.int .i64) w A0_2 l0_2.length l0_2)(hc0_2:l0_2.length≤c0_2)(hr0_3:Kd.C k67 w A0_3 l0_3.length l0_3)(hc0_3:l0_3.length≤c0_3)(hr0_4:Kd.C k78 w A0_4 l0_4.length l0_4)(hc0_4:l0_4.length≤c0_4)(hr1_4:Kd.C k53 w A1_4 l1_4.length l1_4)(hc1_4:l1_4.length≤c1_4)(hr1_6:Kd.C k32 w A1_6 l1_6.length l1_6)(hc1_6:l1_6.length≤c1_6)(h:arboristlaw46_FieldsAll.f k l0_0 l0_1 l0_2 l0_3 l0_4 a1_0 a1_1 a1_2 a1_3 l1_4 a1_5 l1_6=some r) :
  Calls Try.prog 6 #[.agg #[.slice A0_0 l0_0.length c0_0,.slice A0_1 l0_1.length c0_1,.slice A0_2 l0_2.length c0_2,.slice A0_3 l0_3.length c0_3,.slice A0_4 l0_4.length c0_4],.agg #[.int .i64 a1_0,.int .i64 a1_1,.int .i64 a1_2,.int .i64 a1_3,.slice A1_4 l1_4.length c1_4,.string a1_5,.slice A1_6 l1_6.length c1_6]] w fun e w'=>e=.returned (.bool r)∧Below w.heap.size w w':=by
 unfold arboristlaw46_FieldsAll.f at h
 obtain⟨r',h1,h2⟩:=Option.bind_eq_some_iff.1 h
 by_cases hr:r'=true
 ·subst hr
  rw [if_pos rfl] at h2
  obtain rfl:=Option.some.inj h2
  exact arboristlaw46_FieldsAll_.calls k A0_0 c0_0 l0_0 A0_1 c0_1 l0_1 A0_2 c0_2 l0_2 A0_3 c0_3 l0_3 A0_4 c0_4 l0_4 a1_0 a1_1 a1_2 a1_3 A1_4 c1_4 l1_4 a1_5 A1_6 c1_6 l1_6 true w rfl hr0_0 hc0_0 hr0_1 hc0_1 hr0_2 hc0_2 hr0_3 hc0_3 hr0_4 hc0_4 hr1_4 hc1_4 hr1_6 hc1_6 h1
 rw [if_neg hr] at h2
 cases h2
end Go.Proofs.Ytgdbcogbbghjaaa.Q
