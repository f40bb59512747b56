import Derived.Test.YtgdbcogbbghjaaaQ0
import Derived.Test.YtgdbcogbbghjaaaQf10
import Derived.Test.YtgdbcogbbghjaaaQf11
import Derived.Test.YtgdbcogbbghjaaaQf12
import Derived.Test.YtgdbcogbbghjaaaQf13
import Derived.Test.YtgdbcogbbghjaaaQf14
import Derived.Test.YtgdbcogbbghjaaaQf15
import Derived.Test.YtgdbcogbbghjaaaQf16
import Derived.Test.YtgdbcogbbghjaaaQf17
import Derived.Test.YtgdbcogbbghjaaaQf18
import Derived.Test.YtgdbcogbbghjaaaQf8
import Derived.Test.YtgdbcogbbghjaaaQf9
namespace Go.Proofs.Ytgdbcogbbghjaaa.Q
open Go.RowKit Go.Proofs.YtgdbcogbbghjaaaW.PrintWords Go.Proofs.YtgdbcogbbghjaaaW.PrintLast Go.Proofs.YtgdbcogbbghjaaaW.PrintMore
attribute [local go_sem] max2_int min2_int max_two min_two max_three min_three max_four min_four   -- for this text's walks alone
set_option linter.unusedVariables false
set_option linter.unusedSimpArgs false
mutual
def arboristlaw46_FieldsTells_.j0:Nat→Bool→List ByteArray→List ByteArray→List Int→List (S67)→List (S78)→Int→Int→Int→Int→List (S53)→ByteArray→List (S32)→Option (Bool)
 | 0,_,_,_,_,_,_,_,_,_,_,_,_,_=>none
 | k + 1,x15,x243000,x243001,x243002,x243003,x243004,x244000,x244001,x244002,x244003,x244004,x244005,x244006=>if x15=true then((arboristlaw46_knows.f k).bind fun t246=>(some t246))else((fields_Paths.f k x243000 x243001 x243002 x243003 x243004 x244000 x244001 x244002 x244003 x244004 x244005 x244006).bind fun t247=>((arboristref46_Paths.f k x243000 x243001 x243002 x243003 x243004 x244000 x244001 x244002 x244003 x244004 x244005 x244006).bind fun t250=>((fields_Name.f k x243000 x243001 x243002 x243003 x243004 x244000 x244001 x244002 x244003 x244004 x244005 x244006).bind fun t253=>((arboristref46_Name.f k x243000 x243001 x243002 x243003 x243004 x244000 x244001 x244002 x244003 x244004 x244005 x244006).bind fun t254=>(if t253.toList=t254.toList then((fields_Kids.f k x243000 x243001 x243002 x243003 x243004 x244000 x244001 x244002 x244003 x244004 x244005 x244006).bind fun t255=>((arboristref46_Kids.f k x243000 x243001 x243002 x243003 x243004 x244000 x244001 x244002 x244003 x244004 x244005 x244006).bind fun t258=>((arboristlaw46_sameNodes.f k t255 t258).bind fun t261=>(if t261=true then(arboristlaw46_FieldsTells_.j1 k t247 t250 ((t247.length:Int) != (t250.length:Int)))else(arboristlaw46_FieldsTells_.j1 k t247 t250 true)))))else(arboristlaw46_FieldsTells_.j1 k t247 t250 true))))))
def arboristlaw46_FieldsTells_.j1:Nat→List (List Int)→List (List Int)→Bool→Option (Bool)
 | 0,_,_,_=>none
 | k + 1,x5,x6,x46=>if x46=true then(some false)else(arboristlaw46_FieldsTells_.l0 k x5 x6 0)
def arboristlaw46_FieldsTells_.l0:Nat→List (List Int)→List (List Int)→Int→Option (Bool)
 | 0,_,_,_=>none
 | k + 1,x5,x6,x7=>if x7 < (x5.length:Int)then(if 0≤x7 then(if x7 < (x6.length:Int)then((arboristlaw46_ints.f k (rd_L1 x5 x7) (rd_L1 x6 x7)).bind fun t264=>(if t264=true then(arboristlaw46_FieldsTells_.l0 k x5 x6 (wrap64 (x7 + 1)))else(some false)))else(none))else(none))else((arboristlaw46_knows.f k).bind fun t265=>(some t265))
end
def arboristlaw46_FieldsTells_.f (k:Nat)(l0_0:List ByteArray)(l0_1:List ByteArray)(l0_2:List Int)(l0_3:List (S67))(l0_4:List (S78))(a1_0:Int)(a1_1:Int)(a1_2:Int)(a1_3:Int)(l1_4:List (S53))(a1_5:ByteArray)(l1_6:List (S32)):Option (Bool):=(arboristlaw46_fewGram.f k l0_0 l0_1 l0_2 l0_3 l0_4).bind fun t244=>(if t244=true then((arboristlaw46_Nodes.f k a1_0 a1_1 a1_2 a1_3 l1_4 a1_5 l1_6 300).bind fun t245=>(arboristlaw46_FieldsTells_.j0 k (decide (t245 ≥ 300)) l0_0 l0_1 l0_2 l0_3 l0_4 a1_0 a1_1 a1_2 a1_3 l1_4 a1_5 l1_6))else(arboristlaw46_FieldsTells_.j0 k true l0_0 l0_1 l0_2 l0_3 l0_4 a1_0 a1_1 a1_2 a1_3 l1_4 a1_5 l1_6))
def arboristlaw46_FieldsTells_.T3:Bool × List (List Nat × List Nat):=(true,[([],[]),([],[]),([0,1],[0,1]),([],[]),([],[]),([3,4,2],[3,4]),([2,5,0,1,2],[2]),([5,6,0,1,2,3,4,5,6],[5])])
def arboristlaw46_FieldsTells_.B3:List Nat:=[0,0,3,0,0,31,63,127]
theorem arboristlaw46_FieldsTells_.tab3:rtab .any (opsOf Try.f3 3)=arboristlaw46_FieldsTells_.T3:=by kernel_rfl
theorem arboristlaw46_FieldsTells_.bits3:waitsOk arboristlaw46_FieldsTells_.T3.2 arboristlaw46_FieldsTells_.B3=true:=by kernel_rfl
def arboristlaw46_FieldsTells_.T4:Bool × List (List Nat × List Nat):=(true,[([],[]),([],[]),([0,1],[0,1]),([],[]),([],[]),([3,4,2],[3,4]),([2,5],[2,5]),([6,5],[6]),([7],[7]),([7],[7]),([8,9,7,7],[7,8,9]),([7],[7]),([7],[7]),([11,12,10,7],[7,11,12]),([10,13,13,7],[7,10,13]),([14,7],[7,14]),([7,15],[7,15]),([16,14],[16]),([17],[17]),([18,17],[17,18]),([17],[17]),([20,17],[17,20]),([19,21,17],[17,19,21]),([17,22],[17,22])])
def arboristlaw46_FieldsTells_.B4:List Nat:=[0,0,3,0,0,31,63,127,255,255,1023,255,255,8191,16383,32767,65535,131071,262143,524287,262143,1310719,4194303,8388607]
theorem arboristlaw46_FieldsTells_.tab4:rtab .any (opsOf Try.f3 4)=arboristlaw46_FieldsTells_.T4:=by kernel_rfl
theorem arboristlaw46_FieldsTells_.bits4:waitsOk arboristlaw46_FieldsTells_.T4.2 arboristlaw46_FieldsTells_.B4=true:=by kernel_rfl
def arboristlaw46_FieldsTells_.T9:Bool × List (List Nat × List Nat):=(true,[([],[]),([],[]),([0,1],[0,1]),([2],[2]),([],[]),([],[]),([4,5],[4,5]),([6],[6]),([3,7],[3,7]),([8],[8])])
def arboristlaw46_FieldsTells_.B9:List Nat:=[0,0,3,7,0,0,48,112,255,511]
theorem arboristlaw46_FieldsTells_.tab9:rtab .any (opsOf Try.f3 9)=arboristlaw46_FieldsTells_.T9:=by kernel_rfl
theorem arboristlaw46_FieldsTells_.bits9:waitsOk arboristlaw46_FieldsTells_.T9.2 arboristlaw46_FieldsTells_.B9=true:=by kernel_rfl
set_option maxHeartbeats 8000000 in
set_option maxRecDepth 100000 in
theorem arboristlaw46_FieldsTells_.calls (k:Nat)(A0_0:Option Addr)(c0_0:Nat)(l0_0:List ByteArray)(A0_1:Option Addr)(c0_1:Nat)(l0_1:List ByteArray)(A0_2:Option Addr)(c0_2:Nat)(l0_2:List Int)(A0_3:Option Addr)(c0_3:Nat)(l0_3:List (S67))(A0_4:Option Addr)(c0_4:Nat)(l0_4:List (S78))(a1_0:Int)(a1_1:Int)(a1_2:Int)(a1_3:Int)(A1_4:Option Addr)(c1_4:Nat)(l1_4:List (S53))(a1_5:ByteArray)(A1_6:Option Addr)(c1_6:Nat)(l1_6:List (S32))(r:Bool)(w:World)(hT:r=true)(hr0_0:Kd.C Kd.string w A0_0 l0_0.length l0_0)(hc0_0:l0_0.length≤c0_0)(hr0_1:Kd.C Kd.string w A0_1 l0_1.length l0_1)(hc0_1:l0_1.length≤c0_1)(hr0_2:Kd.C (Kd.int .i64) w A0_2 l0_2.length l0_2)(hc0_2:l0_2.length≤c0_2)(hr0_3:Kd.C k67 w A0_3 l0_3.length l0_3)(hc0_3:l0_3.length≤c0_3)(hr0_4:Kd.C k78 w A0_4 l0_4.length l0_4)(hc0_4:l0_4.length≤c0_4)(hr1_4:Kd.C k53 w A1_4 l1_4.length l1_4)(hc1_4:l1_4.length≤c1_4)(hr1_6:Kd.C k32 w A1_6 l1_6.length l1_6)(hc1_6:l1_6.length≤c1_6)(h:arboristlaw46_FieldsTells_.f k l0_0 l0_1 l0_2 l0_3 l0_4 a1_0 a1_1 a1_2 a1_3 l1_4 a1_5 l1_6=some r) :
  Calls Try.prog 3 #[.agg #[.slice A0_0 l0_0.length c0_0,.slice A0_1 l0_1.length c0_1,.slice A0_2 l0_2.length c0_2,.slice A0_3 l0_3.length c0_3,.slice A0_4 l0_4.length c0_4],.agg #[.int .i64 a1_0,.int .i64 a1_1,.int .i64 a1_2,.int .i64 a1_3,.slice A1_4 l1_4.length c1_4,.string a1_5,.slice A1_6 l1_6.length c1_6]] w fun e w'=>e=.returned (.bool r)∧Below w.heap.size w w':=by
 have hu27:=Try.underlying27
 have hu32:=Try.underlying32
 have HT:=Az.mk hT
 clear hT
 have HR0_0:=Az.mk hr0_0
 have HC0_0:=Az.mk hc0_0
 clear hr0_0 hc0_0
 have HR0_1:=Az.mk hr0_1
 have HC0_1:=Az.mk hc0_1
 clear hr0_1 hc0_1
 have HR0_2:=Az.mk hr0_2
 have HC0_2:=Az.mk hc0_2
 clear hr0_2 hc0_2
 have HR0_3:=Az.mk hr0_3
 have HC0_3:=Az.mk hc0_3
 clear hr0_3 hc0_3
 have HR0_4:=Az.mk hr0_4
 have HC0_4:=Az.mk hc0_4
 clear hr0_4 hc0_4
 have HR1_4:=Az.mk hr1_4
 have HC1_4:=Az.mk hc1_4
 clear hr1_4 hc1_4
 have HR1_6:=Az.mk hr1_6
 have HC1_6:=Az.mk hc1_6
 clear hr1_6 hc1_6
 have HB:=Az.mk (Below.refl w.heap.size w)
 have H:((arboristlaw46_fewGram.f k l0_0 l0_1 l0_2 l0_3 l0_4).bind fun t244=>(if t244=true then((arboristlaw46_Nodes.f k a1_0 a1_1 a1_2 a1_3 l1_4 a1_5 l1_6 300).bind fun t245=>(arboristlaw46_FieldsTells_.j0 k (decide (t245 ≥ 300)) l0_0 l0_1 l0_2 l0_3 l0_4 a1_0 a1_1 a1_2 a1_3 l1_4 a1_5 l1_6))else(arboristlaw46_FieldsTells_.j0 k true l0_0 l0_1 l0_2 l0_3 l0_4 a1_0 a1_1 a1_2 a1_3 l1_4 a1_5 l1_6)))=some r:=h
 clear h
 have HC3:=Az.mk H
 clear H
 go_enter Try.func3,Try.ntmps3
 go_upto_region 1 with(first|((with_reducible refine gate_dst (N:=2) rfl ?_);(try (refine gate_guard (by rfl) ?_;dsimp only));refine box_event ?hg (N:=2) ?hd (cs:=#[.slice A0_0 l0_0.length c0_0,.slice A0_1 l0_1.length c0_1,.slice A0_2 l0_2.length c0_2,.slice A0_3 l0_3.length c0_3,.slice A0_4 l0_4.length c0_4]) (t:=27) ?hr ?_;(case hd=>rfl);(case hg=>rfl);(case hr=>first|(go_simp;done)|(go_simp;rfl));intro gb242 hg w4 hbox hb;have n0_:=Az.mk (bT_ (by repeat (first|(with_reducible first|exact HB.out|apply bA_|apply bN_|apply bD_)|exact HB.out)) hb);have n1_:=Az.mk (hbox);have n2_:=Az.mk ((by rw [hg];exact(bZ_ (by repeat (first|(with_reducible first|exact HB.out|apply bA_|apply bN_|apply bD_)|exact HB.out))):w.heap.size≤gb242));have n3_:=Az.mk ((by rw [hg];exact(bZ_ (by repeat (first|(with_reducible first|exact HB.out|apply bA_|apply bN_|apply bD_)|exact HB.out))):w.heap.size≤gb242));clear HB;have HB:=n0_;have BK242:=n1_;have GW242:=n2_;have GE242:=n3_;clear n0_ n1_ n2_ n3_;clear hb hbox hg)|((with_reducible refine gate_dst (N:=3) rfl ?_);(try (refine gate_guard (by rfl) ?_;dsimp only));refine box_event ?hg (N:=3) ?hd (cs:=#[.int .i64 a1_0,.int .i64 a1_1,.int .i64 a1_2,.int .i64 a1_3,.slice A1_4 l1_4.length c1_4,.string a1_5,.slice A1_6 l1_6.length c1_6]) (t:=32) ?hr ?_;(case hd=>rfl);(case hg=>rfl);(case hr=>first|(go_simp;done)|(go_simp;rfl));intro gb243 hg w5 hbox hb;have n0_:=Az.mk (kB_ (g:=gb242) (o:=.cells #[.slice A0_0 l0_0.length c0_0,.slice A0_1 l0_1.length c0_1,.slice A0_2 l0_2.length c0_2,.slice A0_3 l0_3.length c0_3,.slice A0_4 l0_4.length c0_4] 27 (0,0)) (by(with_reducible repeat (first|refine kN_ ?_ _|refine kD_ ?_|refine kA_ ?_ _));exact BK242.out) hb);have n1_:=Az.mk (bT_ (by repeat (first|(with_reducible first|exact HB.out|apply bA_|apply bN_|apply bD_|refine bS_ ?_ GE242.out)|exact HB.out)) hb);have n2_:=Az.mk (hbox);have n3_:=Az.mk ((by rw [hg];exact(bZ_ (by repeat (first|(with_reducible first|exact HB.out|apply bA_|apply bN_|apply bD_|refine bS_ ?_ GE242.out)|exact HB.out))):w.heap.size≤gb243));have n4_:=Az.mk ((by rw [hg];exact(bZ_ (by repeat (first|(with_reducible first|exact HB.out|apply bA_|apply bN_|apply bD_|refine bS_ ?_ GE242.out)|exact HB.out))):w.heap.size≤gb243));have n5_:=Az.mk ((by rw [hg];exact Nat.ne_of_lt (blk_lt (g:=gb242) (o:=.cells #[.slice A0_0 l0_0.length c0_0,.slice A0_1 l0_1.length c0_1,.slice A0_2 l0_2.length c0_2,.slice A0_3 l0_3.length c0_3,.slice A0_4 l0_4.length c0_4] 27 (0,0)) (by(with_reducible repeat (first|refine kN_ ?_ _|refine kD_ ?_|refine kA_ ?_ _));exact BK242.out)):gb242≠gb243));have n6_:=Az.mk ((by rw [hg];exact Nat.ne_of_gt (blk_lt (g:=gb242) (o:=.cells #[.slice A0_0 l0_0.length c0_0,.slice A0_1 l0_1.length c0_1,.slice A0_2 l0_2.length c0_2,.slice A0_3 l0_3.length c0_3,.slice A0_4 l0_4.length c0_4] 27 (0,0)) (by(with_reducible repeat (first|refine kN_ ?_ _|refine kD_ ?_|refine kA_ ?_ _));exact BK242.out)):gb243≠gb242));clear BK242;clear HB;have BK242:=n0_;have HB:=n1_;have BK243:=n2_;have GW243:=n3_;have GE243:=n4_;have NB242_243:=n5_;have NB243_242:=n6_;clear n0_ n1_ n2_ n3_ n4_ n5_ n6_;clear hb hbox hg))
 (try simp only [Act.put,sT_,s0_,sC_])
 go_cut [15] (fun v15 wc=>∃ (kq:Nat) (x15_2:Bool),v15=.bool x15_2∧Az (arboristlaw46_FieldsTells_.j0 kq x15_2 l0_0 l0_1 l0_2 l0_3 l0_4 a1_0 a1_1 a1_2 a1_3 l1_4 a1_5 l1_6=some r)∧Az (kq≤k)∧Az (wc.heap[gb242]?=some (.cells #[(.slice A0_0 l0_0.length c0_0),(.slice A0_1 l0_1.length c0_1),(.slice A0_2 l0_2.length c0_2),(.slice A0_3 l0_3.length c0_3),(.slice A0_4 l0_4.length c0_4)] 27 (0,0)))∧Az (wc.heap[gb243]?=some (.cells #[.int .i64 a1_0,.int .i64 a1_1,.int .i64 a1_2,.int .i64 a1_3,(.slice A1_4 l1_4.length c1_4),.string a1_5,(.slice A1_6 l1_6.length c1_6)] 32 (0,0)))∧Az (Below w.heap.size w wc))
 case first =>
  have H:=HC3.out
  clear HC3
  replace H:=Option.bind_eq_some_iff.mp H
  obtain⟨t244,A60,H⟩:=H
  replace H:(if t244=true then((arboristlaw46_Nodes.f k a1_0 a1_1 a1_2 a1_3 l1_4 a1_5 l1_6 300).bind fun t245=>(arboristlaw46_FieldsTells_.j0 k (decide (t245 ≥ 300)) l0_0 l0_1 l0_2 l0_3 l0_4 a1_0 a1_1 a1_2 a1_3 l1_4 a1_5 l1_6))else(arboristlaw46_FieldsTells_.j0 k true l0_0 l0_1 l0_2 l0_3 l0_4 a1_0 a1_1 a1_2 a1_3 l1_4 a1_5 l1_6))=some r:=H
  have A6:=Az.mk A60
  clear A60
  by_cases c7:t244=true
  ·subst c7
   have H1:((arboristlaw46_Nodes.f k a1_0 a1_1 a1_2 a1_3 l1_4 a1_5 l1_6 300).bind fun t245=>(arboristlaw46_FieldsTells_.j0 k (decide (t245 ≥ 300)) l0_0 l0_1 l0_2 l0_3 l0_4 a1_0 a1_1 a1_2 a1_3 l1_4 a1_5 l1_6))=some r:=by rw [if_pos rfl] at H;exact H
   clear H
   have H:=H1
   clear H1
   replace H:=Option.bind_eq_some_iff.mp H
   obtain⟨t245,A80,H⟩:=H
   replace H:(arboristlaw46_FieldsTells_.j0 k (decide (t245 ≥ 300)) l0_0 l0_1 l0_2 l0_3 l0_4 a1_0 a1_1 a1_2 a1_3 l1_4 a1_5 l1_6)=some r:=H
   have A8:=Az.mk A80
   clear A80
   have H':=Az.mk H
   clear H
   have hnb9:=NB242_243.out
   have hnc9:=NB243_242.out
   have hcz10_0:w5.cell? ⟨gb242,0,none⟩=some (.slice A0_0 l0_0.length c0_0):=(bC_ BK242.out 0).trans rfl
   have hcz10_1:w5.cell? ⟨gb242,1,none⟩=some (.slice A0_1 l0_1.length c0_1):=(bC_ BK242.out 1).trans rfl
   have hcz10_2:w5.cell? ⟨gb242,2,none⟩=some (.slice A0_2 l0_2.length c0_2):=(bC_ BK242.out 2).trans rfl
   have hcz10_3:w5.cell? ⟨gb242,3,none⟩=some (.slice A0_3 l0_3.length c0_3):=(bC_ BK242.out 3).trans rfl
   have hcz10_4:w5.cell? ⟨gb242,4,none⟩=some (.slice A0_4 l0_4.length c0_4):=(bC_ BK242.out 4).trans rfl
   have hfz10_0:=bF_ BK242.out 0
   have hfz10_1:=bF_ BK242.out 1
   have hfz10_2:=bF_ BK242.out 2
   have hfz10_3:=bF_ BK242.out 3
   have hfz10_4:=bF_ BK242.out 4
   go_wp2_with (first|((with_reducible refine gate_callee (f:=8) rfl ?_);refine goesL_ (some 9) rfl rfl Try.func8 (by kernel_rfl) rfl #[.agg #[.slice A0_0 l0_0.length c0_0,.slice A0_1 l0_1.length c0_1,.slice A0_2 l0_2.length c0_2,.slice A0_3 l0_3.length c0_3,.slice A0_4 l0_4.length c0_4]] rfl (by(try simp only [List.map_toArray,List.map_cons,List.map_nil]);first|done|rfl|(simp only [List.length_drop,List.length_take];rfl)) ?_;(with_reducible refine(arboristlaw46_fewGram.calls k _ _ l0_0 _ _ l0_1 _ _ l0_2 _ _ l0_3 _ _ l0_4 true _ ?side1 ?side2 ?side3 ?side4 ?side5 ?side6 ?side7 ?side8 ?side9 ?side10 A6.out).mono ?_);(case side1=>repeat (first|exact(Kd.C_below HR0_0.out HB.out)|(with_reducible first|refine Kd.C_alloc ?_ _|refine Kd.C_drewN ?_ _|refine Kd.C_drew ?_)));(case side2=>exact HC0_0.out);(case side3=>repeat (first|exact(Kd.C_below HR0_1.out HB.out)|(with_reducible first|refine Kd.C_alloc ?_ _|refine Kd.C_drewN ?_ _|refine Kd.C_drew ?_)));(case side4=>exact HC0_1.out);(case side5=>repeat (first|exact(Kd.C_below HR0_2.out HB.out)|(with_reducible first|refine Kd.C_alloc ?_ _|refine Kd.C_drewN ?_ _|refine Kd.C_drew ?_)));(case side6=>exact HC0_2.out);(case side7=>repeat (first|exact(Kd.C_below HR0_3.out HB.out)|(with_reducible first|refine Kd.C_alloc ?_ _|refine Kd.C_drewN ?_ _|refine Kd.C_drew ?_)));(case side8=>exact HC0_3.out);(case side9=>repeat (first|exact(Kd.C_below HR0_4.out HB.out)|(with_reducible first|refine Kd.C_alloc ?_ _|refine Kd.C_drewN ?_ _|refine Kd.C_drew ?_)));(case side10=>exact HC0_4.out);rintro e w11 ⟨rfl,hb⟩;refine⟨_,rfl,?_⟩;have n0_:=Az.mk (kB_ (g:=gb242) (o:=.cells #[.slice A0_0 l0_0.length c0_0,.slice A0_1 l0_1.length c0_1,.slice A0_2 l0_2.length c0_2,.slice A0_3 l0_3.length c0_3,.slice A0_4 l0_4.length c0_4] 27 (0,0)) (by(with_reducible repeat (first|refine kN_ ?_ _|refine kD_ ?_|refine kA_ ?_ _));exact BK242.out) hb);have n1_:=Az.mk (kB_ (g:=gb243) (o:=.cells #[.int .i64 a1_0,.int .i64 a1_1,.int .i64 a1_2,.int .i64 a1_3,.slice A1_4 l1_4.length c1_4,.string a1_5,.slice A1_6 l1_6.length c1_6] 32 (0,0)) (by(with_reducible repeat (first|refine kN_ ?_ _|refine kD_ ?_|refine kA_ ?_ _));exact BK243.out) hb);have n2_:=Az.mk (bT_ (by repeat (first|(with_reducible first|exact HB.out|apply bA_|apply bN_|apply bD_|refine bS_ ?_ GE242.out|refine bS_ ?_ GE243.out)|exact HB.out)) hb);clear BK242;clear BK243;clear HB;have BK242:=n0_;have BK243:=n1_;have HB:=n2_;clear n0_ n1_ n2_;(try clear hb);(try clear hb2);(try clear hk);(try clear hi);have hcz12_0:w11.cell? ⟨gb243,0,none⟩=some (.int .i64 a1_0):=(bC_ BK243.out 0).trans rfl;have hcz12_1:w11.cell? ⟨gb243,1,none⟩=some (.int .i64 a1_1):=(bC_ BK243.out 1).trans rfl;have hcz12_2:w11.cell? ⟨gb243,2,none⟩=some (.int .i64 a1_2):=(bC_ BK243.out 2).trans rfl;have hcz12_3:w11.cell? ⟨gb243,3,none⟩=some (.int .i64 a1_3):=(bC_ BK243.out 3).trans rfl;have hcz12_4:w11.cell? ⟨gb243,4,none⟩=some (.slice A1_4 l1_4.length c1_4):=(bC_ BK243.out 4).trans rfl;have hcz12_5:w11.cell? ⟨gb243,5,none⟩=some (.string a1_5):=(bC_ BK243.out 5).trans rfl;have hcz12_6:w11.cell? ⟨gb243,6,none⟩=some (.slice A1_6 l1_6.length c1_6):=(bC_ BK243.out 6).trans rfl;have hfz12_0:=bF_ BK243.out 0;have hfz12_1:=bF_ BK243.out 1;have hfz12_2:=bF_ BK243.out 2;have hfz12_3:=bF_ BK243.out 3;have hfz12_4:=bF_ BK243.out 4;have hfz12_5:=bF_ BK243.out 5;have hfz12_6:=bF_ BK243.out 6)|(go_at_call 9;(with_reducible refine(arboristlaw46_Nodes.calls k a1_0 a1_1 a1_2 a1_3 _ _ l1_4 a1_5 _ _ l1_6 300 t245 _ ?side1 ?side2 ?side3 ?side4 A8.out).mono ?_);(case side1=>repeat (first|exact(Kd.C_below HR1_4.out HB.out)|(with_reducible first|refine Kd.C_alloc ?_ _|refine Kd.C_drewN ?_ _|refine Kd.C_drew ?_)));(case side2=>exact HC1_4.out);(case side3=>repeat (first|exact(Kd.C_below HR1_6.out HB.out)|(with_reducible first|refine Kd.C_alloc ?_ _|refine Kd.C_drewN ?_ _|refine Kd.C_drew ?_)));(case side4=>exact HC1_6.out);rintro e w13 ⟨rfl,hb⟩;have n0_:=Az.mk (kB_ (g:=gb242) (o:=.cells #[.slice A0_0 l0_0.length c0_0,.slice A0_1 l0_1.length c0_1,.slice A0_2 l0_2.length c0_2,.slice A0_3 l0_3.length c0_3,.slice A0_4 l0_4.length c0_4] 27 (0,0)) (by(with_reducible repeat (first|refine kN_ ?_ _|refine kD_ ?_|refine kA_ ?_ _));exact BK242.out) hb);have n1_:=Az.mk (kB_ (g:=gb243) (o:=.cells #[.int .i64 a1_0,.int .i64 a1_1,.int .i64 a1_2,.int .i64 a1_3,.slice A1_4 l1_4.length c1_4,.string a1_5,.slice A1_6 l1_6.length c1_6] 32 (0,0)) (by(with_reducible repeat (first|refine kN_ ?_ _|refine kD_ ?_|refine kA_ ?_ _));exact BK243.out) hb);have n2_:=Az.mk (bT_ (by repeat (first|(with_reducible first|exact HB.out|apply bA_|apply bN_|apply bD_|refine bS_ ?_ GE242.out|refine bS_ ?_ GE243.out)|exact HB.out)) hb);clear BK242;clear BK243;clear HB;have BK242:=n0_;have BK243:=n1_;have HB:=n2_;clear n0_ n1_ n2_;(try clear hb);(try clear hb2);(try clear hk);(try clear hi)))
   go_meet
   case rel=>exact⟨_,(decide (t245 ≥ 300)),(by first|rfl|(simp;done)|(simp [*];done)|(refine congrArg Value.bool ?_;exact isE_ _)),H',⟨by first|omega|exact Nat.le_refl _⟩,⟨by(with_reducible repeat (first|refine kN_ ?_ _|refine kD_ ?_|refine kA_ ?_ _));exact BK242.out⟩,⟨by(with_reducible repeat (first|refine kN_ ?_ _|refine kD_ ?_|refine kA_ ?_ _));exact BK243.out⟩,⟨by repeat (first|(with_reducible first|exact HB.out|apply bA_|apply bN_|apply bD_|refine bS_ ?_ GE242.out|refine bS_ ?_ GE243.out)|exact HB.out)⟩⟩
  ·replace c7:=Bool.eq_false_iff.mpr c7
   subst c7
   have H1:(arboristlaw46_FieldsTells_.j0 k true l0_0 l0_1 l0_2 l0_3 l0_4 a1_0 a1_1 a1_2 a1_3 l1_4 a1_5 l1_6)=some r:=by rw [if_neg (show ¬ (false=true) by decide)] at H;exact H
   clear H
   have H:=H1
   clear H1
   have H':=Az.mk H
   clear H
   have hnb14:=NB242_243.out
   have hnc14:=NB243_242.out
   have hcz15_0:w5.cell? ⟨gb242,0,none⟩=some (.slice A0_0 l0_0.length c0_0):=(bC_ BK242.out 0).trans rfl
   have hcz15_1:w5.cell? ⟨gb242,1,none⟩=some (.slice A0_1 l0_1.length c0_1):=(bC_ BK242.out 1).trans rfl
   have hcz15_2:w5.cell? ⟨gb242,2,none⟩=some (.slice A0_2 l0_2.length c0_2):=(bC_ BK242.out 2).trans rfl
   have hcz15_3:w5.cell? ⟨gb242,3,none⟩=some (.slice A0_3 l0_3.length c0_3):=(bC_ BK242.out 3).trans rfl
   have hcz15_4:w5.cell? ⟨gb242,4,none⟩=some (.slice A0_4 l0_4.length c0_4):=(bC_ BK242.out 4).trans rfl
   have hfz15_0:=bF_ BK242.out 0
   have hfz15_1:=bF_ BK242.out 1
   have hfz15_2:=bF_ BK242.out 2
   have hfz15_3:=bF_ BK242.out 3
   have hfz15_4:=bF_ BK242.out 4
   go_wp2_with (first|((with_reducible refine gate_callee (f:=8) rfl ?_);refine goesL_ (some 9) rfl rfl Try.func8 (by kernel_rfl) rfl #[.agg #[.slice A0_0 l0_0.length c0_0,.slice A0_1 l0_1.length c0_1,.slice A0_2 l0_2.length c0_2,.slice A0_3 l0_3.length c0_3,.slice A0_4 l0_4.length c0_4]] rfl (by(try simp only [List.map_toArray,List.map_cons,List.map_nil]);first|done|rfl|(simp only [List.length_drop,List.length_take];rfl)) ?_;(with_reducible refine(arboristlaw46_fewGram.calls k _ _ l0_0 _ _ l0_1 _ _ l0_2 _ _ l0_3 _ _ l0_4 false _ ?side1 ?side2 ?side3 ?side4 ?side5 ?side6 ?side7 ?side8 ?side9 ?side10 A6.out).mono ?_);(case side1=>repeat (first|exact(Kd.C_below HR0_0.out HB.out)|(with_reducible first|refine Kd.C_alloc ?_ _|refine Kd.C_drewN ?_ _|refine Kd.C_drew ?_)));(case side2=>exact HC0_0.out);(case side3=>repeat (first|exact(Kd.C_below HR0_1.out HB.out)|(with_reducible first|refine Kd.C_alloc ?_ _|refine Kd.C_drewN ?_ _|refine Kd.C_drew ?_)));(case side4=>exact HC0_1.out);(case side5=>repeat (first|exact(Kd.C_below HR0_2.out HB.out)|(with_reducible first|refine Kd.C_alloc ?_ _|refine Kd.C_drewN ?_ _|refine Kd.C_drew ?_)));(case side6=>exact HC0_2.out);(case side7=>repeat (first|exact(Kd.C_below HR0_3.out HB.out)|(with_reducible first|refine Kd.C_alloc ?_ _|refine Kd.C_drewN ?_ _|refine Kd.C_drew ?_)));(case side8=>exact HC0_3.out);(case side9=>repeat (first|exact(Kd.C_below HR0_4.out HB.out)|(with_reducible first|refine Kd.C_alloc ?_ _|refine Kd.C_drewN ?_ _|refine Kd.C_drew ?_)));(case side10=>exact HC0_4.out);rintro e w16 ⟨rfl,hb⟩;refine⟨_,rfl,?_⟩;have n0_:=Az.mk (kB_ (g:=gb242) (o:=.cells #[.slice A0_0 l0_0.length c0_0,.slice A0_1 l0_1.length c0_1,.slice A0_2 l0_2.length c0_2,.slice A0_3 l0_3.length c0_3,.slice A0_4 l0_4.length c0_4] 27 (0,0)) (by(with_reducible repeat (first|refine kN_ ?_ _|refine kD_ ?_|refine kA_ ?_ _));exact BK242.out) hb);have n1_:=Az.mk (kB_ (g:=gb243) (o:=.cells #[.int .i64 a1_0,.int .i64 a1_1,.int .i64 a1_2,.int .i64 a1_3,.slice A1_4 l1_4.length c1_4,.string a1_5,.slice A1_6 l1_6.length c1_6] 32 (0,0)) (by(with_reducible repeat (first|refine kN_ ?_ _|refine kD_ ?_|refine kA_ ?_ _));exact BK243.out) hb);have n2_:=Az.mk (bT_ (by repeat (first|(with_reducible first|exact HB.out|apply bA_|apply bN_|apply bD_|refine bS_ ?_ GE242.out|refine bS_ ?_ GE243.out)|exact HB.out)) hb);clear BK242;clear BK243;clear HB;have BK242:=n0_;have BK243:=n1_;have HB:=n2_;clear n0_ n1_ n2_;(try clear hb);(try clear hb2);(try clear hk);(try clear hi)))
   go_meet
   case rel=>exact⟨_,(true),(by first|rfl|(simp;done)|(simp [*];done)|(refine congrArg Value.bool ?_;exact isE_ _)),H',⟨by first|omega|exact Nat.le_refl _⟩,⟨by(with_reducible repeat (first|refine kN_ ?_ _|refine kD_ ?_|refine kA_ ?_ _));exact BK242.out⟩,⟨by(with_reducible repeat (first|refine kN_ ?_ _|refine kD_ ?_|refine kA_ ?_ _));exact BK243.out⟩,⟨by repeat (first|(with_reducible first|exact HB.out|apply bA_|apply bN_|apply bD_|refine bS_ ?_ GE242.out|refine bS_ ?_ GE243.out)|exact HB.out)⟩⟩
 case rest =>
  clear HC3
  try clear c1
  try clear p2
  try clear c3
  try clear c7
  try clear c8
  try clear c9
  try clear c14
  try clear hcz10_0
  try clear hcz10_1
  try clear hcz10_2
  try clear hcz10_3
  try clear hcz10_4
  try clear hcz12_0
  try clear hcz12_1
  try clear hcz12_2
  try clear hcz12_3
  try clear hcz12_4
  try clear hcz12_5
  try clear hcz12_6
  try clear hcz15_0
  try clear hcz15_1
  try clear hcz15_2
  try clear hcz15_3
  try clear hcz15_4
  try clear hfz10_0
  try clear hfz10_1
  try clear hfz10_2
  try clear hfz10_3
  try clear hfz10_4
  try clear hfz12_0
  try clear hfz12_1
  try clear hfz12_2
  try clear hfz12_3
  try clear hfz12_4
  try clear hfz12_5
  try clear hfz12_6
  try clear hfz15_0
  try clear hfz15_1
  try clear hfz15_2
  try clear hfz15_3
  try clear hfz15_4
  obtain⟨kq,x15_2,rfl,HA,HJ2,BK242,BK243,HB⟩:=hcut
  cases kq with
  | zero=>exact absurd HA.out (by simp [arboristlaw46_FieldsTells_.j0])
  | succ kj2 =>
   have H:=HA.out
   clear HA
   simp only [arboristlaw46_FieldsTells_.j0] at H
   by_cases c17:x15_2=true
   ·subst c17
    have H1:((arboristlaw46_knows.f kj2).bind fun t246=>(some t246))=some r:=by rw [if_pos rfl] at H;exact H
    clear H
    have H:=H1
    clear H1
    replace H:=Option.bind_eq_some_iff.mp H
    obtain⟨t246,A180,H⟩:=H
    replace H:(some t246)=some r:=H
    have A18:=Az.mk A180
    clear A180
    obtain rfl:=Option.some.inj H
    go_wp2_with (first|((with_reducible refine gate_callee (f:=10) rfl ?_);refine goesL_ (some 16) rfl rfl Try.func10 (by kernel_rfl) rfl #[] rfl (by(try simp only [List.map_toArray,List.map_cons,List.map_nil]);first|done|rfl|(simp only [List.length_drop,List.length_take];rfl)) ?_;(with_reducible refine(arboristlaw46_knows.calls kj2  t246 _ A18.out).mono ?_);rintro e w19 ⟨rfl,hb⟩;refine⟨_,rfl,?_⟩;have n0_:=Az.mk (kB_ (g:=gb242) (o:=.cells #[.slice A0_0 l0_0.length c0_0,.slice A0_1 l0_1.length c0_1,.slice A0_2 l0_2.length c0_2,.slice A0_3 l0_3.length c0_3,.slice A0_4 l0_4.length c0_4] 27 (0,0)) (by(with_reducible repeat (first|refine kN_ ?_ _|refine kD_ ?_|refine kA_ ?_ _));exact BK242.out) hb);have n1_:=Az.mk (kB_ (g:=gb243) (o:=.cells #[.int .i64 a1_0,.int .i64 a1_1,.int .i64 a1_2,.int .i64 a1_3,.slice A1_4 l1_4.length c1_4,.string a1_5,.slice A1_6 l1_6.length c1_6] 32 (0,0)) (by(with_reducible repeat (first|refine kN_ ?_ _|refine kD_ ?_|refine kA_ ?_ _));exact BK243.out) hb);have n2_:=Az.mk (bT_ (by repeat (first|(with_reducible first|exact HB.out|apply bA_|apply bN_|apply bD_|refine bS_ ?_ GE242.out|refine bS_ ?_ GE243.out)|exact HB.out)) hb);clear BK242;clear BK243;clear HB;have BK242:=n0_;have BK243:=n1_;have HB:=n2_;clear n0_ n1_ n2_;(try clear hb);(try clear hb2);(try clear hk);(try clear hi)))
    go_ret
    exact⟨by first|rfl|(simp [errW_none,errW_some] <;> rfl)|(simp [*,errW_none,errW_some] <;> rfl),by repeat (first|(with_reducible first|exact HB.out|apply bA_|apply bN_|apply bD_|refine bS_ ?_ GE242.out|refine bS_ ?_ GE243.out)|exact HB.out)⟩
   ·replace c17:=Bool.eq_false_iff.mpr c17
    subst c17
    have H1:((fields_Paths.f kj2 l0_0 l0_1 l0_2 l0_3 l0_4 a1_0 a1_1 a1_2 a1_3 l1_4 a1_5 l1_6).bind fun t247=>((arboristref46_Paths.f kj2 l0_0 l0_1 l0_2 l0_3 l0_4 a1_0 a1_1 a1_2 a1_3 l1_4 a1_5 l1_6).bind fun t250=>((fields_Name.f kj2 l0_0 l0_1 l0_2 l0_3 l0_4 a1_0 a1_1 a1_2 a1_3 l1_4 a1_5 l1_6).bind fun t253=>((arboristref46_Name.f kj2 l0_0 l0_1 l0_2 l0_3 l0_4 a1_0 a1_1 a1_2 a1_3 l1_4 a1_5 l1_6).bind fun t254=>(if t253.toList=t254.toList then((fields_Kids.f kj2 l0_0 l0_1 l0_2 l0_3 l0_4 a1_0 a1_1 a1_2 a1_3 l1_4 a1_5 l1_6).bind fun t255=>((arboristref46_Kids.f kj2 l0_0 l0_1 l0_2 l0_3 l0_4 a1_0 a1_1 a1_2 a1_3 l1_4 a1_5 l1_6).bind fun t258=>((arboristlaw46_sameNodes.f kj2 t255 t258).bind fun t261=>(if t261=true then(arboristlaw46_FieldsTells_.j1 kj2 t247 t250 ((t247.length:Int) != (t250.length:Int)))else(arboristlaw46_FieldsTells_.j1 kj2 t247 t250 true)))))else(arboristlaw46_FieldsTells_.j1 kj2 t247 t250 true))))))=some r:=by rw [if_neg (show ¬ (false=true) by decide)] at H;exact H
    clear H
    have H:=H1
    clear H1
    replace H:=Option.bind_eq_some_iff.mp H
    obtain⟨t247,A200,H⟩:=H
    replace H:((arboristref46_Paths.f kj2 l0_0 l0_1 l0_2 l0_3 l0_4 a1_0 a1_1 a1_2 a1_3 l1_4 a1_5 l1_6).bind fun t250=>((fields_Name.f kj2 l0_0 l0_1 l0_2 l0_3 l0_4 a1_0 a1_1 a1_2 a1_3 l1_4 a1_5 l1_6).bind fun t253=>((arboristref46_Name.f kj2 l0_0 l0_1 l0_2 l0_3 l0_4 a1_0 a1_1 a1_2 a1_3 l1_4 a1_5 l1_6).bind fun t254=>(if t253.toList=t254.toList then((fields_Kids.f kj2 l0_0 l0_1 l0_2 l0_3 l0_4 a1_0 a1_1 a1_2 a1_3 l1_4 a1_5 l1_6).bind fun t255=>((arboristref46_Kids.f kj2 l0_0 l0_1 l0_2 l0_3 l0_4 a1_0 a1_1 a1_2 a1_3 l1_4 a1_5 l1_6).bind fun t258=>((arboristlaw46_sameNodes.f kj2 t255 t258).bind fun t261=>(if t261=true then(arboristlaw46_FieldsTells_.j1 kj2 t247 t250 ((t247.length:Int) != (t250.length:Int)))else(arboristlaw46_FieldsTells_.j1 kj2 t247 t250 true)))))else(arboristlaw46_FieldsTells_.j1 kj2 t247 t250 true)))))=some r:=H
    have A20:=Az.mk A200
    clear A200
    replace H:=Option.bind_eq_some_iff.mp H
    obtain⟨t250,A210,H⟩:=H
    replace H:((fields_Name.f kj2 l0_0 l0_1 l0_2 l0_3 l0_4 a1_0 a1_1 a1_2 a1_3 l1_4 a1_5 l1_6).bind fun t253=>((arboristref46_Name.f kj2 l0_0 l0_1 l0_2 l0_3 l0_4 a1_0 a1_1 a1_2 a1_3 l1_4 a1_5 l1_6).bind fun t254=>(if t253.toList=t254.toList then((fields_Kids.f kj2 l0_0 l0_1 l0_2 l0_3 l0_4 a1_0 a1_1 a1_2 a1_3 l1_4 a1_5 l1_6).bind fun t255=>((arboristref46_Kids.f kj2 l0_0 l0_1 l0_2 l0_3 l0_4 a1_0 a1_1 a1_2 a1_3 l1_4 a1_5 l1_6).bind fun t258=>((arboristlaw46_sameNodes.f kj2 t255 t258).bind fun t261=>(if t261=true then(arboristlaw46_FieldsTells_.j1 kj2 t247 t250 ((t247.length:Int) != (t250.length:Int)))else(arboristlaw46_FieldsTells_.j1 kj2 t247 t250 true)))))else(arboristlaw46_FieldsTells_.j1 kj2 t247 t250 true))))=some r:=H
    have A21:=Az.mk A210
    clear A210
    have HC22:=Az.mk H
    clear H
    try go_wp2
    have n0_:=Az.mk (kD_ BK242.out)
    have n1_:=Az.mk (kD_ BK243.out)
    have n2_:=Az.mk (bD_ HB.out)
    clear BK242
    clear BK243
    clear HB
    have BK242:=n0_
    have BK243:=n1_
    have HB:=n2_
    clear n0_ n1_ n2_
    refine start_ (n:=8) (S:=fun w'=>w'.cell? ⟨gb242,0,none⟩=some (.slice A0_0 l0_0.length c0_0)∧w'.cell? ⟨gb242,1,none⟩=some (.slice A0_1 l0_1.length c0_1)∧w'.cell? ⟨gb242,2,none⟩=some (.slice A0_2 l0_2.length c0_2)∧w'.cell? ⟨gb242,3,none⟩=some (.slice A0_3 l0_3.length c0_3)∧w'.cell? ⟨gb242,4,none⟩=some (.slice A0_4 l0_4.length c0_4)∧w'.cell? ⟨gb243,0,none⟩=some (.int .i64 a1_0)∧w'.cell? ⟨gb243,1,none⟩=some (.int .i64 a1_1)∧w'.cell? ⟨gb243,2,none⟩=some (.int .i64 a1_2)∧w'.cell? ⟨gb243,3,none⟩=some (.int .i64 a1_3)∧w'.cell? ⟨gb243,4,none⟩=some (.slice A1_4 l1_4.length c1_4)∧w'.cell? ⟨gb243,5,none⟩=some (.string a1_5)∧w'.cell? ⟨gb243,6,none⟩=some (.slice A1_6 l1_6.length c1_6)) (ds:=[]) #[false,false,false,false,false,false,false,false] (by kernel_rfl) rfl rfl ⟨(bC_ BK242.out 0).trans rfl,(bC_ BK242.out 1).trans rfl,(bC_ BK242.out 2).trans rfl,(bC_ BK242.out 3).trans rfl,(bC_ BK242.out 4).trans rfl,(bC_ BK243.out 0).trans rfl,(bC_ BK243.out 1).trans rfl,(bC_ BK243.out 2).trans rfl,(bC_ BK243.out 3).trans rfl,(bC_ BK243.out 4).trans rfl,(bC_ BK243.out 5).trans rfl,(bC_ BK243.out 6).trans rfl⟩ (fun hHeld=>?_);refine with_tabW arboristlaw46_FieldsTells_.tab3 arboristlaw46_FieldsTells_.bits3 (fun HT_ HW_=>?_)
    generalize wc.drew=w23 at BK242 BK243 HB hHeld ⊢
    refine take_ (i:=0) (N:=some 17) (v:=?_) (a':=?_) #[true,false,false,false,false,false,false,false] rfl rfl (take_ofW HT_.out HW_.out (by kernel_rfl)) (fun _ _ _ h=>h) (Or.inl ⟨by rfl,?_⟩) hHeld ?_ ?_
    rotate_left
    ·rintro w' ⟨s0,s1,s2,s3,s4,s5,s6,s7,s8,s9,s10,s11⟩
     go_simp
     with_reducible rfl
    rotate_left
    ·simp only [Act.put,sT_,s0_,sC_,i64_w,i32_w]
     rfl
    refine take_ (i:=1) (N:=some 18) (v:=?_) (a':=?_) #[true,true,false,false,false,false,false,false] rfl rfl (take_ofW HT_.out HW_.out (by kernel_rfl)) (fun _ _ _ h=>h) (Or.inl ⟨by rfl,?_⟩) hHeld ?_ ?_
    rotate_left
    ·rintro w' ⟨s0,s1,s2,s3,s4,s5,s6,s7,s8,s9,s10,s11⟩
     go_simp
     with_reducible rfl
    rotate_left
    ·simp only [Act.put,sT_,s0_,sC_,i64_w,i32_w]
     rfl
    refine take_ (i:=3) (N:=some 20) (v:=?_) (a':=?_) #[true,true,false,true,false,false,false,false] rfl rfl (take_ofW HT_.out HW_.out (by kernel_rfl)) (fun _ _ _ h=>h) (Or.inl ⟨by rfl,?_⟩) hHeld ?_ ?_
    rotate_left
    ·rintro w' ⟨s0,s1,s2,s3,s4,s5,s6,s7,s8,s9,s10,s11⟩
     go_simp
     with_reducible rfl
    rotate_left
    ·simp only [Act.put,sT_,s0_,sC_,i64_w,i32_w]
     rfl
    refine take_ (i:=4) (N:=some 21) (v:=?_) (a':=?_) #[true,true,false,true,true,false,false,false] rfl rfl (take_ofW HT_.out HW_.out (by kernel_rfl)) (fun _ _ _ h=>h) (Or.inl ⟨by rfl,?_⟩) hHeld ?_ ?_
    rotate_left
    ·rintro w' ⟨s0,s1,s2,s3,s4,s5,s6,s7,s8,s9,s10,s11⟩
     go_simp
     with_reducible rfl
    rotate_left
    ·simp only [Act.put,sT_,s0_,sC_,i64_w,i32_w]
     rfl
    refine one_ (i:=2) (N:=some 19) #[true,true,true,true,true,false,false,false] rfl rfl (one_of HT_.out (by kernel_rfl)) (by decide) (fun K hK=>?_)
    refine goes_ Try.func11 (by kernel_rfl) rfl #[.agg #[.slice A0_0 l0_0.length c0_0,.slice A0_1 l0_1.length c0_1,.slice A0_2 l0_2.length c0_2,.slice A0_3 l0_3.length c0_3,.slice A0_4 l0_4.length c0_4],.agg #[.int .i64 a1_0,.int .i64 a1_1,.int .i64 a1_2,.int .i64 a1_3,.slice A1_4 l1_4.length c1_4,.string a1_5,.slice A1_6 l1_6.length c1_6]] (by rfl) rfl rfl (by(try simp only [List.map_toArray,List.map_cons,List.map_nil]);first|done|rfl|(simp only [List.length_drop,List.length_take];rfl)) ?_
    with_reducible refine(fields_Paths.calls kj2 _ _ l0_0 _ _ l0_1 _ _ l0_2 _ _ l0_3 _ _ l0_4 a1_0 a1_1 a1_2 a1_3 _ _ l1_4 a1_5 _ _ l1_6 t247 _ ?side1 ?side2 ?side3 ?side4 ?side5 ?side6 ?side7 ?side8 ?side9 ?side10 ?side11 ?side12 ?side13 ?side14 A20.out).mono ?_
    (case side1=>repeat (first|exact(Kd.C_below HR0_0.out HB.out)|(with_reducible first|refine Kd.C_alloc ?_ _|refine Kd.C_drewN ?_ _|refine Kd.C_drew ?_)))
    (case side2=>exact HC0_0.out)
    (case side3=>repeat (first|exact(Kd.C_below HR0_1.out HB.out)|(with_reducible first|refine Kd.C_alloc ?_ _|refine Kd.C_drewN ?_ _|refine Kd.C_drew ?_)))
    (case side4=>exact HC0_1.out)
    (case side5=>repeat (first|exact(Kd.C_below HR0_2.out HB.out)|(with_reducible first|refine Kd.C_alloc ?_ _|refine Kd.C_drewN ?_ _|refine Kd.C_drew ?_)))
    (case side6=>exact HC0_2.out)
    (case side7=>repeat (first|exact(Kd.C_below HR0_3.out HB.out)|(with_reducible first|refine Kd.C_alloc ?_ _|refine Kd.C_drewN ?_ _|refine Kd.C_drew ?_)))
    (case side8=>exact HC0_3.out)
    (case side9=>repeat (first|exact(Kd.C_below HR0_4.out HB.out)|(with_reducible first|refine Kd.C_alloc ?_ _|refine Kd.C_drewN ?_ _|refine Kd.C_drew ?_)))
    (case side10=>exact HC0_4.out)
    (case side11=>repeat (first|exact(Kd.C_below HR1_4.out HB.out)|(with_reducible first|refine Kd.C_alloc ?_ _|refine Kd.C_drewN ?_ _|refine Kd.C_drew ?_)))
    (case side12=>exact HC1_4.out)
    (case side13=>repeat (first|exact(Kd.C_below HR1_6.out HB.out)|(with_reducible first|refine Kd.C_alloc ?_ _|refine Kd.C_drewN ?_ _|refine Kd.C_drew ?_)))
    (case side14=>exact HC1_6.out)
    rintro e w24 ⟨v248,rfl,ho0,hb⟩
    refine⟨_,rfl,?_⟩
    have n0_:=Az.mk (Kd.N_lower (Kd.N_mono (ok':=fun k_=>k_≠gb242∧k_≠gb243) (Kd.S_N (Kd.S_bound ho0)) (fun k_ hk_=>⟨(Kd.freshB (g:=gb242) (o:=.cells #[.slice A0_0 l0_0.length c0_0,.slice A0_1 l0_1.length c0_1,.slice A0_2 l0_2.length c0_2,.slice A0_3 l0_3.length c0_3,.slice A0_4 l0_4.length c0_4] 27 (0,0)) (by(with_reducible repeat (first|refine kN_ ?_ _|refine kD_ ?_|refine kA_ ?_ _));exact BK242.out) k_ hk_.2.1),(Kd.freshB (g:=gb243) (o:=.cells #[.int .i64 a1_0,.int .i64 a1_1,.int .i64 a1_2,.int .i64 a1_3,.slice A1_4 l1_4.length c1_4,.string a1_5,.slice A1_6 l1_6.length c1_6] 32 (0,0)) (by(with_reducible repeat (first|refine kN_ ?_ _|refine kD_ ?_|refine kA_ ?_ _));exact BK243.out) k_ hk_.2.1)⟩)) (bZ_ (by repeat (first|(with_reducible first|exact HB.out|apply bA_|apply bN_|apply bD_|refine bS_ ?_ GE242.out|refine bS_ ?_ GE243.out)|exact HB.out))))
    have n1_:=Az.mk (kB_ (g:=gb242) (o:=.cells #[.slice A0_0 l0_0.length c0_0,.slice A0_1 l0_1.length c0_1,.slice A0_2 l0_2.length c0_2,.slice A0_3 l0_3.length c0_3,.slice A0_4 l0_4.length c0_4] 27 (0,0)) (by(with_reducible repeat (first|refine kN_ ?_ _|refine kD_ ?_|refine kA_ ?_ _));exact BK242.out) hb)
    have n2_:=Az.mk (kB_ (g:=gb243) (o:=.cells #[.int .i64 a1_0,.int .i64 a1_1,.int .i64 a1_2,.int .i64 a1_3,.slice A1_4 l1_4.length c1_4,.string a1_5,.slice A1_6 l1_6.length c1_6] 32 (0,0)) (by(with_reducible repeat (first|refine kN_ ?_ _|refine kD_ ?_|refine kA_ ?_ _));exact BK243.out) hb)
    have n3_:=Az.mk (bT_ (by repeat (first|(with_reducible first|exact HB.out|apply bA_|apply bN_|apply bD_|refine bS_ ?_ GE242.out|refine bS_ ?_ GE243.out)|exact HB.out)) hb)
    clear BK242
    clear BK243
    clear HB
    have HO249:=n0_
    have BK242:=n1_
    have BK243:=n2_
    have HB:=n3_
    clear n0_ n1_ n2_ n3_
    (try clear hb)
    (try clear hb2)
    (try clear hk)
    (try clear hi)
    (try clear ho0)
    refine hK.out _ _ ⟨(bC_ BK242.out 0).trans rfl,(bC_ BK242.out 1).trans rfl,(bC_ BK242.out 2).trans rfl,(bC_ BK242.out 3).trans rfl,(bC_ BK242.out 4).trans rfl,(bC_ BK243.out 0).trans rfl,(bC_ BK243.out 1).trans rfl,(bC_ BK243.out 2).trans rfl,(bC_ BK243.out 3).trans rfl,(bC_ BK243.out 4).trans rfl,(bC_ BK243.out 5).trans rfl,(bC_ BK243.out 6).trans rfl⟩ (fun hHeld=>?_)
    clear hK K
    refine norm_ (a':=?_) ?_ ?_
    rotate_left
    ·show Act.put _ (some 19) _=_
     simp only [Act.put,sT_,s0_,sC_,i64_w,i32_w]
     rfl
    refine one_ (i:=5) (N:=some 22) #[true,true,true,true,true,true,false,false] rfl rfl (one_of HT_.out (by kernel_rfl)) (by decide) (fun K hK=>?_)
    refine goes_ Try.func12 (by kernel_rfl) rfl #[.agg #[.slice A0_0 l0_0.length c0_0,.slice A0_1 l0_1.length c0_1,.slice A0_2 l0_2.length c0_2,.slice A0_3 l0_3.length c0_3,.slice A0_4 l0_4.length c0_4],.agg #[.int .i64 a1_0,.int .i64 a1_1,.int .i64 a1_2,.int .i64 a1_3,.slice A1_4 l1_4.length c1_4,.string a1_5,.slice A1_6 l1_6.length c1_6]] (by rfl) rfl rfl (by(try simp only [List.map_toArray,List.map_cons,List.map_nil]);first|done|rfl|(simp only [List.length_drop,List.length_take];rfl)) ?_
    with_reducible refine(arboristref46_Paths.calls kj2 _ _ l0_0 _ _ l0_1 _ _ l0_2 _ _ l0_3 _ _ l0_4 a1_0 a1_1 a1_2 a1_3 _ _ l1_4 a1_5 (fun k_=>k_ < w.heap.size) _ _ l1_6 t250 _ ?side1 ?side2 ?side3 ?side4 ?side5 ?side6 ?side7 ?side8 ?side9 ?side10 ?side11 ?side12 ?side13 A21.out).mono ?_
    (case side1=>repeat (first|exact(Kd.C_below HR0_0.out HB.out)|(with_reducible first|refine Kd.C_alloc ?_ _|refine Kd.C_drewN ?_ _|refine Kd.C_drew ?_)))
    (case side2=>exact HC0_0.out)
    (case side3=>repeat (first|exact(Kd.C_below HR0_1.out HB.out)|(with_reducible first|refine Kd.C_alloc ?_ _|refine Kd.C_drewN ?_ _|refine Kd.C_drew ?_)))
    (case side4=>exact HC0_1.out)
    (case side5=>repeat (first|exact(Kd.C_below HR0_2.out HB.out)|(with_reducible first|refine Kd.C_alloc ?_ _|refine Kd.C_drewN ?_ _|refine Kd.C_drew ?_)))
    (case side6=>exact HC0_2.out)
    (case side7=>repeat (first|exact(Kd.C_below HR0_3.out HB.out)|(with_reducible first|refine Kd.C_alloc ?_ _|refine Kd.C_drewN ?_ _|refine Kd.C_drew ?_)))
    (case side8=>exact HC0_3.out)
    (case side9=>repeat (first|exact(Kd.C_below HR0_4.out HB.out)|(with_reducible first|refine Kd.C_alloc ?_ _|refine Kd.C_drewN ?_ _|refine Kd.C_drew ?_)))
    (case side10=>exact HC0_4.out)
    (case side11=>repeat (first|exact(Kd.C_below HR1_4.out HB.out)|(with_reducible first|refine Kd.C_alloc ?_ _|refine Kd.C_drewN ?_ _|refine Kd.C_drew ?_)))
    (case side12=>exact HC1_4.out)
    (case side13=>exact Kd.V_mk HC1_6.out (Kd.F_below (Kd.C_F k32_heap HR1_6.out) (by repeat (first|(with_reducible first|exact HB.out|apply bA_|apply bN_|apply bD_|refine bS_ ?_ GE242.out|refine bS_ ?_ GE243.out)|exact HB.out))))
    rintro e w25 ⟨v251,rfl,ho0,hb⟩
    refine⟨_,rfl,?_⟩
    have n0_:=Az.mk (Kd.N_elder' (by(with_reducible repeat (first|apply Kd.N_alloc|apply Kd.N_drewN|apply Kd.N_drew));exact HO249.out) (Kd.N_base ho0) hb)
    have n1_:=Az.mk (Kd.N_lower (Kd.N_mono (ok':=fun k_=>some k_≠(v248:Value).ownBlock∧k_≠gb242∧k_≠gb243) ho0 (fun k_ hk_=>⟨Or.elim hk_ (fun hs_=>fun e_=>Nat.not_le.2 hs_ (Kd.N_base HO249.out k_ e_.symm)) (fun hn_=>(Kd.fresh' (Kd.N_lt (by(with_reducible repeat (first|apply Kd.N_alloc|apply Kd.N_drewN|apply Kd.N_drew));exact HO249.out)) k_ hn_)),Or.elim hk_ (fun hs_=>fun e_=>Nat.not_le.2 hs_ (by rw [e_];exact GW242.out)) (fun hn_=>(Kd.freshB (g:=gb242) (o:=.cells #[.slice A0_0 l0_0.length c0_0,.slice A0_1 l0_1.length c0_1,.slice A0_2 l0_2.length c0_2,.slice A0_3 l0_3.length c0_3,.slice A0_4 l0_4.length c0_4] 27 (0,0)) (by(with_reducible repeat (first|refine kN_ ?_ _|refine kD_ ?_|refine kA_ ?_ _));exact BK242.out) k_ hn_)),Or.elim hk_ (fun hs_=>fun e_=>Nat.not_le.2 hs_ (by rw [e_];exact GW243.out)) (fun hn_=>(Kd.freshB (g:=gb243) (o:=.cells #[.int .i64 a1_0,.int .i64 a1_1,.int .i64 a1_2,.int .i64 a1_3,.slice A1_4 l1_4.length c1_4,.string a1_5,.slice A1_6 l1_6.length c1_6] 32 (0,0)) (by(with_reducible repeat (first|refine kN_ ?_ _|refine kD_ ?_|refine kA_ ?_ _));exact BK243.out) k_ hn_))⟩)) (bZ_ (by repeat (first|(with_reducible first|exact HB.out|apply bA_|apply bN_|apply bD_|refine bS_ ?_ GE242.out|refine bS_ ?_ GE243.out)|exact HB.out))))
    have n2_:=Az.mk (kB_ (g:=gb242) (o:=.cells #[.slice A0_0 l0_0.length c0_0,.slice A0_1 l0_1.length c0_1,.slice A0_2 l0_2.length c0_2,.slice A0_3 l0_3.length c0_3,.slice A0_4 l0_4.length c0_4] 27 (0,0)) (by(with_reducible repeat (first|refine kN_ ?_ _|refine kD_ ?_|refine kA_ ?_ _));exact BK242.out) hb)
    have n3_:=Az.mk (kB_ (g:=gb243) (o:=.cells #[.int .i64 a1_0,.int .i64 a1_1,.int .i64 a1_2,.int .i64 a1_3,.slice A1_4 l1_4.length c1_4,.string a1_5,.slice A1_6 l1_6.length c1_6] 32 (0,0)) (by(with_reducible repeat (first|refine kN_ ?_ _|refine kD_ ?_|refine kA_ ?_ _));exact BK243.out) hb)
    have n4_:=Az.mk (bT_ (by repeat (first|(with_reducible first|exact HB.out|apply bA_|apply bN_|apply bD_|refine bS_ ?_ GE242.out|refine bS_ ?_ GE243.out)|exact HB.out)) hb)
    clear HO249
    clear BK242
    clear BK243
    clear HB
    have HO249:=n0_
    have HO252:=n1_
    have BK242:=n2_
    have BK243:=n3_
    have HB:=n4_
    clear n0_ n1_ n2_ n3_ n4_
    (try clear hb)
    (try clear hb2)
    (try clear hk)
    (try clear hi)
    (try clear ho0)
    refine hK.out _ _ ⟨(bC_ BK242.out 0).trans rfl,(bC_ BK242.out 1).trans rfl,(bC_ BK242.out 2).trans rfl,(bC_ BK242.out 3).trans rfl,(bC_ BK242.out 4).trans rfl,(bC_ BK243.out 0).trans rfl,(bC_ BK243.out 1).trans rfl,(bC_ BK243.out 2).trans rfl,(bC_ BK243.out 3).trans rfl,(bC_ BK243.out 4).trans rfl,(bC_ BK243.out 5).trans rfl,(bC_ BK243.out 6).trans rfl⟩ (fun hHeld=>?_)
    clear hK K
    refine norm_ (a':=?_) ?_ ?_
    rotate_left
    ·show Act.put _ (some 22) _=_
     simp only [Act.put,sT_,s0_,sC_,i64_w,i32_w]
     rfl
    refine pure_ (i:=6) (N:=some 5) (v:=?_) (a':=?_) #[true,true,true,true,true,true,true,false] rfl rfl (any_of HT_.out (by kernel_rfl)) (fun _ _ _ h=>h) (Or.inl ⟨by rfl,?_⟩) ?_ ?_
    rotate_left
    ·intro w'
     go_simp
     with_reducible rfl
    rotate_left
    ·simp only [Act.put,sT_,s0_,sC_,i64_w,i32_w]
     rfl
    refine pure_ (i:=7) (N:=some 6) (v:=?_) (a':=?_) #[true,true,true,true,true,true,true,true] rfl rfl (any_of HT_.out (by kernel_rfl)) (fun _ _ _ h=>h) (Or.inl ⟨by rfl,?_⟩) ?_ ?_
    rotate_left
    ·intro w'
     go_simp
     with_reducible rfl
    rotate_left
    ·simp only [Act.put,sT_,s0_,sC_,i64_w,i32_w]
     rfl
    refine done_ (done_of HT_.out (by kernel_rfl)) ?_
    go_upto_region 4 with(fail)
    go_cut [46] (fun v46 wc=>∃ (kq:Nat) (x46_21:Bool),v46=.bool x46_21∧Az (arboristlaw46_FieldsTells_.j1 kq t247 t250 x46_21=some r)∧Az (kq≤kj2)∧Az (Kd.N (Kd.slice 3 (Kd.int .i64)) 42 wc w.heap.size (fun k_=>some k_≠(v251:Value).ownBlock∧k_≠gb242∧k_≠gb243) v248 t247)∧Az (Kd.N (Kd.slice 3 (Kd.int .i64)) 42 wc w.heap.size (fun k_=>some k_≠(v248:Value).ownBlock∧k_≠gb242∧k_≠gb243) v251 t250)∧Az (wc.heap[gb242]?=some (.cells #[(.slice A0_0 l0_0.length c0_0),(.slice A0_1 l0_1.length c0_1),(.slice A0_2 l0_2.length c0_2),(.slice A0_3 l0_3.length c0_3),(.slice A0_4 l0_4.length c0_4)] 27 (0,0)))∧Az (wc.heap[gb243]?=some (.cells #[.int .i64 a1_0,.int .i64 a1_1,.int .i64 a1_2,.int .i64 a1_3,(.slice A1_4 l1_4.length c1_4),.string a1_5,(.slice A1_6 l1_6.length c1_6)] 32 (0,0)))∧Az (Below w.heap.size w wc))
    case first =>
     have H:=HC22.out
     clear HC22
     replace H:=Option.bind_eq_some_iff.mp H
     obtain⟨t253,A260,H⟩:=H
     replace H:((arboristref46_Name.f kj2 l0_0 l0_1 l0_2 l0_3 l0_4 a1_0 a1_1 a1_2 a1_3 l1_4 a1_5 l1_6).bind fun t254=>(if t253.toList=t254.toList then((fields_Kids.f kj2 l0_0 l0_1 l0_2 l0_3 l0_4 a1_0 a1_1 a1_2 a1_3 l1_4 a1_5 l1_6).bind fun t255=>((arboristref46_Kids.f kj2 l0_0 l0_1 l0_2 l0_3 l0_4 a1_0 a1_1 a1_2 a1_3 l1_4 a1_5 l1_6).bind fun t258=>((arboristlaw46_sameNodes.f kj2 t255 t258).bind fun t261=>(if t261=true then(arboristlaw46_FieldsTells_.j1 kj2 t247 t250 ((t247.length:Int) != (t250.length:Int)))else(arboristlaw46_FieldsTells_.j1 kj2 t247 t250 true)))))else(arboristlaw46_FieldsTells_.j1 kj2 t247 t250 true)))=some r:=H
     have A26:=Az.mk A260
     clear A260
     replace H:=Option.bind_eq_some_iff.mp H
     obtain⟨t254,A270,H⟩:=H
     replace H:(if t253.toList=t254.toList then((fields_Kids.f kj2 l0_0 l0_1 l0_2 l0_3 l0_4 a1_0 a1_1 a1_2 a1_3 l1_4 a1_5 l1_6).bind fun t255=>((arboristref46_Kids.f kj2 l0_0 l0_1 l0_2 l0_3 l0_4 a1_0 a1_1 a1_2 a1_3 l1_4 a1_5 l1_6).bind fun t258=>((arboristlaw46_sameNodes.f kj2 t255 t258).bind fun t261=>(if t261=true then(arboristlaw46_FieldsTells_.j1 kj2 t247 t250 ((t247.length:Int) != (t250.length:Int)))else(arboristlaw46_FieldsTells_.j1 kj2 t247 t250 true)))))else(arboristlaw46_FieldsTells_.j1 kj2 t247 t250 true))=some r:=H
     have A27:=Az.mk A270
     clear A270
     by_cases c28:t253.toList=t254.toList
     ·rw [if_pos c28] at H
      have c28b0:(t253.toList == t254.toList)=true:=beq_iff_eq.mpr c28
      have c28b1:(t253.toList != t254.toList)=false:=bne_eq_false_iff_eq.mpr c28
      clear c28
      (first|rw [c28b0]|(simp only [i64_w,i32_w];rw [c28b0])|skip)
      replace H:=Option.bind_eq_some_iff.mp H
      obtain⟨t255,A290,H⟩:=H
      replace H:((arboristref46_Kids.f kj2 l0_0 l0_1 l0_2 l0_3 l0_4 a1_0 a1_1 a1_2 a1_3 l1_4 a1_5 l1_6).bind fun t258=>((arboristlaw46_sameNodes.f kj2 t255 t258).bind fun t261=>(if t261=true then(arboristlaw46_FieldsTells_.j1 kj2 t247 t250 ((t247.length:Int) != (t250.length:Int)))else(arboristlaw46_FieldsTells_.j1 kj2 t247 t250 true))))=some r:=H
      have A29:=Az.mk A290
      clear A290
      replace H:=Option.bind_eq_some_iff.mp H
      obtain⟨t258,A300,H⟩:=H
      replace H:((arboristlaw46_sameNodes.f kj2 t255 t258).bind fun t261=>(if t261=true then(arboristlaw46_FieldsTells_.j1 kj2 t247 t250 ((t247.length:Int) != (t250.length:Int)))else(arboristlaw46_FieldsTells_.j1 kj2 t247 t250 true)))=some r:=H
      have A30:=Az.mk A300
      clear A300
      replace H:=Option.bind_eq_some_iff.mp H
      obtain⟨t261,A310,H⟩:=H
      replace H:(if t261=true then(arboristlaw46_FieldsTells_.j1 kj2 t247 t250 ((t247.length:Int) != (t250.length:Int)))else(arboristlaw46_FieldsTells_.j1 kj2 t247 t250 true))=some r:=H
      have A31:=Az.mk A310
      clear A310
      by_cases c32:t261=true
      ·subst c32
       have H1:(arboristlaw46_FieldsTells_.j1 kj2 t247 t250 ((t247.length:Int) != (t250.length:Int)))=some r:=by rw [if_pos rfl] at H;exact H
       clear H
       have H:=H1
       clear H1
       have H':=Az.mk H
       clear H
       try go_wp2
       have n0_:=Az.mk (Kd.N_drew HO249.out)
       have n1_:=Az.mk (Kd.N_drew HO252.out)
       have n2_:=Az.mk (kD_ BK242.out)
       have n3_:=Az.mk (kD_ BK243.out)
       have n4_:=Az.mk (bD_ HB.out)
       clear HO249
       clear HO252
       clear BK242
       clear BK243
       clear HB
       have HO249:=n0_
       have HO252:=n1_
       have BK242:=n2_
       have BK243:=n3_
       have HB:=n4_
       clear n0_ n1_ n2_ n3_ n4_
       refine start_ (n:=24) (S:=fun w'=>w'.cell? ⟨gb242,0,none⟩=some (.slice A0_0 l0_0.length c0_0)∧w'.cell? ⟨gb242,1,none⟩=some (.slice A0_1 l0_1.length c0_1)∧w'.cell? ⟨gb242,2,none⟩=some (.slice A0_2 l0_2.length c0_2)∧w'.cell? ⟨gb242,3,none⟩=some (.slice A0_3 l0_3.length c0_3)∧w'.cell? ⟨gb242,4,none⟩=some (.slice A0_4 l0_4.length c0_4)∧w'.cell? ⟨gb243,0,none⟩=some (.int .i64 a1_0)∧w'.cell? ⟨gb243,1,none⟩=some (.int .i64 a1_1)∧w'.cell? ⟨gb243,2,none⟩=some (.int .i64 a1_2)∧w'.cell? ⟨gb243,3,none⟩=some (.int .i64 a1_3)∧w'.cell? ⟨gb243,4,none⟩=some (.slice A1_4 l1_4.length c1_4)∧w'.cell? ⟨gb243,5,none⟩=some (.string a1_5)∧w'.cell? ⟨gb243,6,none⟩=some (.slice A1_6 l1_6.length c1_6)) (ds:=[]) #[false,false,false,false,false,false,false,false,false,false,false,false,false,false,false,false,false,false,false,false,false,false,false,false] (by kernel_rfl) rfl rfl ⟨(bC_ BK242.out 0).trans rfl,(bC_ BK242.out 1).trans rfl,(bC_ BK242.out 2).trans rfl,(bC_ BK242.out 3).trans rfl,(bC_ BK242.out 4).trans rfl,(bC_ BK243.out 0).trans rfl,(bC_ BK243.out 1).trans rfl,(bC_ BK243.out 2).trans rfl,(bC_ BK243.out 3).trans rfl,(bC_ BK243.out 4).trans rfl,(bC_ BK243.out 5).trans rfl,(bC_ BK243.out 6).trans rfl⟩ (fun hHeld=>?_);refine with_tabW arboristlaw46_FieldsTells_.tab4 arboristlaw46_FieldsTells_.bits4 (fun HT_ HW_=>?_)
       generalize w25.drew=w33 at HO249 HO252 BK242 BK243 HB hHeld ⊢
       refine take_ (i:=0) (N:=some 23) (v:=?_) (a':=?_) #[true,false,false,false,false,false,false,false,false,false,false,false,false,false,false,false,false,false,false,false,false,false,false,false] rfl rfl (take_ofW HT_.out HW_.out (by kernel_rfl)) (fun _ _ _ h=>h) (Or.inl ⟨by rfl,?_⟩) hHeld ?_ ?_
       rotate_left
       ·rintro w' ⟨s0,s1,s2,s3,s4,s5,s6,s7,s8,s9,s10,s11⟩
        go_simp
        with_reducible rfl
       rotate_left
       ·simp only [Act.put,sT_,s0_,sC_,i64_w,i32_w]
        rfl
       refine take_ (i:=1) (N:=some 24) (v:=?_) (a':=?_) #[true,true,false,false,false,false,false,false,false,false,false,false,false,false,false,false,false,false,false,false,false,false,false,false] rfl rfl (take_ofW HT_.out HW_.out (by kernel_rfl)) (fun _ _ _ h=>h) (Or.inl ⟨by rfl,?_⟩) hHeld ?_ ?_
       rotate_left
       ·rintro w' ⟨s0,s1,s2,s3,s4,s5,s6,s7,s8,s9,s10,s11⟩
        go_simp
        with_reducible rfl
       rotate_left
       ·simp only [Act.put,sT_,s0_,sC_,i64_w,i32_w]
        rfl
       refine take_ (i:=3) (N:=some 26) (v:=?_) (a':=?_) #[true,true,false,true,false,false,false,false,false,false,false,false,false,false,false,false,false,false,false,false,false,false,false,false] rfl rfl (take_ofW HT_.out HW_.out (by kernel_rfl)) (fun _ _ _ h=>h) (Or.inl ⟨by rfl,?_⟩) hHeld ?_ ?_
       rotate_left
       ·rintro w' ⟨s0,s1,s2,s3,s4,s5,s6,s7,s8,s9,s10,s11⟩
        go_simp
        with_reducible rfl
       rotate_left
       ·simp only [Act.put,sT_,s0_,sC_,i64_w,i32_w]
        rfl
       refine take_ (i:=4) (N:=some 27) (v:=?_) (a':=?_) #[true,true,false,true,true,false,false,false,false,false,false,false,false,false,false,false,false,false,false,false,false,false,false,false] rfl rfl (take_ofW HT_.out HW_.out (by kernel_rfl)) (fun _ _ _ h=>h) (Or.inl ⟨by rfl,?_⟩) hHeld ?_ ?_
       rotate_left
       ·rintro w' ⟨s0,s1,s2,s3,s4,s5,s6,s7,s8,s9,s10,s11⟩
        go_simp
        with_reducible rfl
       rotate_left
       ·simp only [Act.put,sT_,s0_,sC_,i64_w,i32_w]
        rfl
       refine one_ (i:=2) (N:=some 25) #[true,true,true,true,true,false,false,false,false,false,false,false,false,false,false,false,false,false,false,false,false,false,false,false] rfl rfl (one_of HT_.out (by kernel_rfl)) (by decide) (fun K hK=>?_)
       refine goes_ Try.func13 (by kernel_rfl) rfl #[.agg #[.slice A0_0 l0_0.length c0_0,.slice A0_1 l0_1.length c0_1,.slice A0_2 l0_2.length c0_2,.slice A0_3 l0_3.length c0_3,.slice A0_4 l0_4.length c0_4],.agg #[.int .i64 a1_0,.int .i64 a1_1,.int .i64 a1_2,.int .i64 a1_3,.slice A1_4 l1_4.length c1_4,.string a1_5,.slice A1_6 l1_6.length c1_6]] (by rfl) rfl rfl (by(try simp only [List.map_toArray,List.map_cons,List.map_nil]);first|done|rfl|(simp only [List.length_drop,List.length_take];rfl)) ?_
       with_reducible refine(fields_Name.calls kj2 _ _ l0_0 _ _ l0_1 _ _ l0_2 _ _ l0_3 _ _ l0_4 a1_0 a1_1 a1_2 a1_3 _ _ l1_4 a1_5 _ _ l1_6 t253 _ ?side1 ?side2 ?side3 ?side4 ?side5 ?side6 ?side7 ?side8 ?side9 ?side10 ?side11 ?side12 ?side13 ?side14 A26.out).mono ?_
       (case side1=>repeat (first|exact(Kd.C_below HR0_0.out HB.out)|(with_reducible first|refine Kd.C_alloc ?_ _|refine Kd.C_drewN ?_ _|refine Kd.C_drew ?_)))
       (case side2=>exact HC0_0.out)
       (case side3=>repeat (first|exact(Kd.C_below HR0_1.out HB.out)|(with_reducible first|refine Kd.C_alloc ?_ _|refine Kd.C_drewN ?_ _|refine Kd.C_drew ?_)))
       (case side4=>exact HC0_1.out)
       (case side5=>repeat (first|exact(Kd.C_below HR0_2.out HB.out)|(with_reducible first|refine Kd.C_alloc ?_ _|refine Kd.C_drewN ?_ _|refine Kd.C_drew ?_)))
       (case side6=>exact HC0_2.out)
       (case side7=>repeat (first|exact(Kd.C_below HR0_3.out HB.out)|(with_reducible first|refine Kd.C_alloc ?_ _|refine Kd.C_drewN ?_ _|refine Kd.C_drew ?_)))
       (case side8=>exact HC0_3.out)
       (case side9=>repeat (first|exact(Kd.C_below HR0_4.out HB.out)|(with_reducible first|refine Kd.C_alloc ?_ _|refine Kd.C_drewN ?_ _|refine Kd.C_drew ?_)))
       (case side10=>exact HC0_4.out)
       (case side11=>repeat (first|exact(Kd.C_below HR1_4.out HB.out)|(with_reducible first|refine Kd.C_alloc ?_ _|refine Kd.C_drewN ?_ _|refine Kd.C_drew ?_)))
       (case side12=>exact HC1_4.out)
       (case side13=>repeat (first|exact(Kd.C_below HR1_6.out HB.out)|(with_reducible first|refine Kd.C_alloc ?_ _|refine Kd.C_drewN ?_ _|refine Kd.C_drew ?_)))
       (case side14=>exact HC1_6.out)
       rintro e w34 ⟨rfl,hb⟩
       refine⟨_,rfl,?_⟩
       have n0_:=Az.mk (Kd.N_below (by(with_reducible repeat (first|apply Kd.N_alloc|apply Kd.N_drewN|apply Kd.N_drew));exact HO249.out) hb)
       have n1_:=Az.mk (Kd.N_below (by(with_reducible repeat (first|apply Kd.N_alloc|apply Kd.N_drewN|apply Kd.N_drew));exact HO252.out) hb)
       have n2_:=Az.mk (kB_ (g:=gb242) (o:=.cells #[.slice A0_0 l0_0.length c0_0,.slice A0_1 l0_1.length c0_1,.slice A0_2 l0_2.length c0_2,.slice A0_3 l0_3.length c0_3,.slice A0_4 l0_4.length c0_4] 27 (0,0)) (by(with_reducible repeat (first|refine kN_ ?_ _|refine kD_ ?_|refine kA_ ?_ _));exact BK242.out) hb)
       have n3_:=Az.mk (kB_ (g:=gb243) (o:=.cells #[.int .i64 a1_0,.int .i64 a1_1,.int .i64 a1_2,.int .i64 a1_3,.slice A1_4 l1_4.length c1_4,.string a1_5,.slice A1_6 l1_6.length c1_6] 32 (0,0)) (by(with_reducible repeat (first|refine kN_ ?_ _|refine kD_ ?_|refine kA_ ?_ _));exact BK243.out) hb)
       have n4_:=Az.mk (bT_ (by repeat (first|(with_reducible first|exact HB.out|apply bA_|apply bN_|apply bD_|refine bS_ ?_ GE242.out|refine bS_ ?_ GE243.out)|exact HB.out)) hb)
       clear HO249
       clear HO252
       clear BK242
       clear BK243
       clear HB
       have HO249:=n0_
       have HO252:=n1_
       have BK242:=n2_
       have BK243:=n3_
       have HB:=n4_
       clear n0_ n1_ n2_ n3_ n4_
       (try clear hb)
       (try clear hb2)
       (try clear hk)
       (try clear hi)
       refine hK.out _ _ ⟨(bC_ BK242.out 0).trans rfl,(bC_ BK242.out 1).trans rfl,(bC_ BK242.out 2).trans rfl,(bC_ BK242.out 3).trans rfl,(bC_ BK242.out 4).trans rfl,(bC_ BK243.out 0).trans rfl,(bC_ BK243.out 1).trans rfl,(bC_ BK243.out 2).trans rfl,(bC_ BK243.out 3).trans rfl,(bC_ BK243.out 4).trans rfl,(bC_ BK243.out 5).trans rfl,(bC_ BK243.out 6).trans rfl⟩ (fun hHeld=>?_)
       clear hK K
       refine norm_ (a':=?_) ?_ ?_
       rotate_left
       ·show Act.put _ (some 25) _=_
        simp only [Act.put,sT_,s0_,sC_,i64_w,i32_w]
        rfl
       refine one_ (i:=5) (N:=some 28) #[true,true,true,true,true,true,false,false,false,false,false,false,false,false,false,false,false,false,false,false,false,false,false,false] rfl rfl (one_of HT_.out (by kernel_rfl)) (by decide) (fun K hK=>?_)
       refine goes_ Try.func14 (by kernel_rfl) rfl #[.agg #[.slice A0_0 l0_0.length c0_0,.slice A0_1 l0_1.length c0_1,.slice A0_2 l0_2.length c0_2,.slice A0_3 l0_3.length c0_3,.slice A0_4 l0_4.length c0_4],.agg #[.int .i64 a1_0,.int .i64 a1_1,.int .i64 a1_2,.int .i64 a1_3,.slice A1_4 l1_4.length c1_4,.string a1_5,.slice A1_6 l1_6.length c1_6]] (by rfl) rfl rfl (by(try simp only [List.map_toArray,List.map_cons,List.map_nil]);first|done|rfl|(simp only [List.length_drop,List.length_take];rfl)) ?_
       with_reducible refine(arboristref46_Name.calls kj2 _ _ l0_0 _ _ l0_1 _ _ l0_2 _ _ l0_3 _ _ l0_4 a1_0 a1_1 a1_2 a1_3 _ _ l1_4 a1_5 _ _ l1_6 t254 _ ?side1 ?side2 ?side3 ?side4 ?side5 ?side6 ?side7 ?side8 ?side9 ?side10 ?side11 ?side12 ?side13 ?side14 A27.out).mono ?_
       (case side1=>repeat (first|exact(Kd.C_below HR0_0.out HB.out)|(with_reducible first|refine Kd.C_alloc ?_ _|refine Kd.C_drewN ?_ _|refine Kd.C_drew ?_)))
       (case side2=>exact HC0_0.out)
       (case side3=>repeat (first|exact(Kd.C_below HR0_1.out HB.out)|(with_reducible first|refine Kd.C_alloc ?_ _|refine Kd.C_drewN ?_ _|refine Kd.C_drew ?_)))
       (case side4=>exact HC0_1.out)
       (case side5=>repeat (first|exact(Kd.C_below HR0_2.out HB.out)|(with_reducible first|refine Kd.C_alloc ?_ _|refine Kd.C_drewN ?_ _|refine Kd.C_drew ?_)))
       (case side6=>exact HC0_2.out)
       (case side7=>repeat (first|exact(Kd.C_below HR0_3.out HB.out)|(with_reducible first|refine Kd.C_alloc ?_ _|refine Kd.C_drewN ?_ _|refine Kd.C_drew ?_)))
       (case side8=>exact HC0_3.out)
       (case side9=>repeat (first|exact(Kd.C_below HR0_4.out HB.out)|(with_reducible first|refine Kd.C_alloc ?_ _|refine Kd.C_drewN ?_ _|refine Kd.C_drew ?_)))
       (case side10=>exact HC0_4.out)
       (case side11=>repeat (first|exact(Kd.C_below HR1_4.out HB.out)|(with_reducible first|refine Kd.C_alloc ?_ _|refine Kd.C_drewN ?_ _|refine Kd.C_drew ?_)))
       (case side12=>exact HC1_4.out)
       (case side13=>repeat (first|exact(Kd.C_below HR1_6.out HB.out)|(with_reducible first|refine Kd.C_alloc ?_ _|refine Kd.C_drewN ?_ _|refine Kd.C_drew ?_)))
       (case side14=>exact HC1_6.out)
       rintro e w35 ⟨rfl,hb⟩
       refine⟨_,rfl,?_⟩
       have n0_:=Az.mk (Kd.N_below (by(with_reducible repeat (first|apply Kd.N_alloc|apply Kd.N_drewN|apply Kd.N_drew));exact HO249.out) hb)
       have n1_:=Az.mk (Kd.N_below (by(with_reducible repeat (first|apply Kd.N_alloc|apply Kd.N_drewN|apply Kd.N_drew));exact HO252.out) hb)
       have n2_:=Az.mk (kB_ (g:=gb242) (o:=.cells #[.slice A0_0 l0_0.length c0_0,.slice A0_1 l0_1.length c0_1,.slice A0_2 l0_2.length c0_2,.slice A0_3 l0_3.length c0_3,.slice A0_4 l0_4.length c0_4] 27 (0,0)) (by(with_reducible repeat (first|refine kN_ ?_ _|refine kD_ ?_|refine kA_ ?_ _));exact BK242.out) hb)
       have n3_:=Az.mk (kB_ (g:=gb243) (o:=.cells #[.int .i64 a1_0,.int .i64 a1_1,.int .i64 a1_2,.int .i64 a1_3,.slice A1_4 l1_4.length c1_4,.string a1_5,.slice A1_6 l1_6.length c1_6] 32 (0,0)) (by(with_reducible repeat (first|refine kN_ ?_ _|refine kD_ ?_|refine kA_ ?_ _));exact BK243.out) hb)
       have n4_:=Az.mk (bT_ (by repeat (first|(with_reducible first|exact HB.out|apply bA_|apply bN_|apply bD_|refine bS_ ?_ GE242.out|refine bS_ ?_ GE243.out)|exact HB.out)) hb)
       clear HO249
       clear HO252
       clear BK242
       clear BK243
       clear HB
       have HO249:=n0_
       have HO252:=n1_
       have BK242:=n2_
       have BK243:=n3_
       have HB:=n4_
       clear n0_ n1_ n2_ n3_ n4_
       (try clear hb)
       (try clear hb2)
       (try clear hk)
       (try clear hi)
       refine hK.out _ _ ⟨(bC_ BK242.out 0).trans rfl,(bC_ BK242.out 1).trans rfl,(bC_ BK242.out 2).trans rfl,(bC_ BK242.out 3).trans rfl,(bC_ BK242.out 4).trans rfl,(bC_ BK243.out 0).trans rfl,(bC_ BK243.out 1).trans rfl,(bC_ BK243.out 2).trans rfl,(bC_ BK243.out 3).trans rfl,(bC_ BK243.out 4).trans rfl,(bC_ BK243.out 5).trans rfl,(bC_ BK243.out 6).trans rfl⟩ (fun hHeld=>?_)
       clear hK K
       refine norm_ (a':=?_) ?_ ?_
       rotate_left
       ·show Act.put _ (some 28) _=_
        simp only [Act.put,sT_,s0_,sC_,i64_w,i32_w]
        rfl
       refine pure_ (i:=6) (N:=some 29) (v:=?_) (a':=?_) #[true,true,true,true,true,true,true,false,false,false,false,false,false,false,false,false,false,false,false,false,false,false,false,false] rfl rfl (any_of HT_.out (by kernel_rfl)) (fun _ _ _ h=>h) (Or.inl ⟨by rfl,?_⟩) ?_ ?_
       rotate_left
       ·intro w'
        go_simp
        with_reducible rfl
       rotate_left
       ·simp only [Act.put,sT_,s0_,sC_,i64_w,i32_w]
        rfl
       refine pure_ (i:=7) (N:=some 30) (v:=?_) (a':=?_) #[true,true,true,true,true,true,true,true,false,false,false,false,false,false,false,false,false,false,false,false,false,false,false,false] rfl rfl (any_of HT_.out (by kernel_rfl)) (fun _ _ _ h=>h) (Or.inl ⟨by rfl,?_⟩) ?_ ?_
       rotate_left
       ·intro w'
        go_simp
        with_reducible rfl
       rotate_left
       ·simp only [Act.put,sT_,s0_,sC_,i64_w,i32_w]
        rfl
       refine take_ (i:=8) (N:=some 31) (v:=?_) (a':=?_) #[true,true,true,true,true,true,true,true,true,false,false,false,false,false,false,false,false,false,false,false,false,false,false,false] rfl rfl (take_ofW HT_.out HW_.out (by kernel_rfl)) (fun _ _ _ h=>h) (Or.inl ⟨by rfl,?_⟩) hHeld ?_ ?_
       rotate_left
       ·rintro w' ⟨s0,s1,s2,s3,s4,s5,s6,s7,s8,s9,s10,s11⟩
        go_simp
        with_reducible rfl
       rotate_left
       ·simp only [Act.put,sT_,s0_,sC_,i64_w,i32_w]
        rfl
       refine take_ (i:=9) (N:=some 32) (v:=?_) (a':=?_) #[true,true,true,true,true,true,true,true,true,true,false,false,false,false,false,false,false,false,false,false,false,false,false,false] rfl rfl (take_ofW HT_.out HW_.out (by kernel_rfl)) (fun _ _ _ h=>h) (Or.inl ⟨by rfl,?_⟩) hHeld ?_ ?_
       rotate_left
       ·rintro w' ⟨s0,s1,s2,s3,s4,s5,s6,s7,s8,s9,s10,s11⟩
        go_simp
        with_reducible rfl
       rotate_left
       ·simp only [Act.put,sT_,s0_,sC_,i64_w,i32_w]
        rfl
       refine take_ (i:=11) (N:=some 34) (v:=?_) (a':=?_) #[true,true,true,true,true,true,true,true,true,true,false,true,false,false,false,false,false,false,false,false,false,false,false,false] rfl rfl (take_ofW HT_.out HW_.out (by kernel_rfl)) (fun _ _ _ h=>h) (Or.inl ⟨by rfl,?_⟩) hHeld ?_ ?_
       rotate_left
       ·rintro w' ⟨s0,s1,s2,s3,s4,s5,s6,s7,s8,s9,s10,s11⟩
        go_simp
        with_reducible rfl
       rotate_left
       ·simp only [Act.put,sT_,s0_,sC_,i64_w,i32_w]
        rfl
       refine take_ (i:=12) (N:=some 35) (v:=?_) (a':=?_) #[true,true,true,true,true,true,true,true,true,true,false,true,true,false,false,false,false,false,false,false,false,false,false,false] rfl rfl (take_ofW HT_.out HW_.out (by kernel_rfl)) (fun _ _ _ h=>h) (Or.inl ⟨by rfl,?_⟩) hHeld ?_ ?_
       rotate_left
       ·rintro w' ⟨s0,s1,s2,s3,s4,s5,s6,s7,s8,s9,s10,s11⟩
        go_simp
        with_reducible rfl
       rotate_left
       ·simp only [Act.put,sT_,s0_,sC_,i64_w,i32_w]
        rfl
       refine one_ (i:=10) (N:=some 33) #[true,true,true,true,true,true,true,true,true,true,true,true,true,false,false,false,false,false,false,false,false,false,false,false] rfl rfl (one_of HT_.out (by kernel_rfl)) (by decide) (fun K hK=>?_)
       refine goes_ Try.func16 (by kernel_rfl) rfl #[.agg #[.slice A0_0 l0_0.length c0_0,.slice A0_1 l0_1.length c0_1,.slice A0_2 l0_2.length c0_2,.slice A0_3 l0_3.length c0_3,.slice A0_4 l0_4.length c0_4],.agg #[.int .i64 a1_0,.int .i64 a1_1,.int .i64 a1_2,.int .i64 a1_3,.slice A1_4 l1_4.length c1_4,.string a1_5,.slice A1_6 l1_6.length c1_6]] (by rfl) rfl rfl (by(try simp only [List.map_toArray,List.map_cons,List.map_nil]);first|done|rfl|(simp only [List.length_drop,List.length_take];rfl)) ?_
       with_reducible refine(fields_Kids.calls kj2 _ _ l0_0 _ _ l0_1 _ _ l0_2 _ _ l0_3 _ _ l0_4 a1_0 a1_1 a1_2 a1_3 _ _ l1_4 a1_5 _ _ l1_6 t255 _ ?side1 ?side2 ?side3 ?side4 ?side5 ?side6 ?side7 ?side8 ?side9 ?side10 ?side11 ?side12 ?side13 ?side14 A29.out).mono ?_
       (case side1=>repeat (first|exact(Kd.C_below HR0_0.out HB.out)|(with_reducible first|refine Kd.C_alloc ?_ _|refine Kd.C_drewN ?_ _|refine Kd.C_drew ?_)))
       (case side2=>exact HC0_0.out)
       (case side3=>repeat (first|exact(Kd.C_below HR0_1.out HB.out)|(with_reducible first|refine Kd.C_alloc ?_ _|refine Kd.C_drewN ?_ _|refine Kd.C_drew ?_)))
       (case side4=>exact HC0_1.out)
       (case side5=>repeat (first|exact(Kd.C_below HR0_2.out HB.out)|(with_reducible first|refine Kd.C_alloc ?_ _|refine Kd.C_drewN ?_ _|refine Kd.C_drew ?_)))
       (case side6=>exact HC0_2.out)
       (case side7=>repeat (first|exact(Kd.C_below HR0_3.out HB.out)|(with_reducible first|refine Kd.C_alloc ?_ _|refine Kd.C_drewN ?_ _|refine Kd.C_drew ?_)))
       (case side8=>exact HC0_3.out)
       (case side9=>repeat (first|exact(Kd.C_below HR0_4.out HB.out)|(with_reducible first|refine Kd.C_alloc ?_ _|refine Kd.C_drewN ?_ _|refine Kd.C_drew ?_)))
       (case side10=>exact HC0_4.out)
       (case side11=>repeat (first|exact(Kd.C_below HR1_4.out HB.out)|(with_reducible first|refine Kd.C_alloc ?_ _|refine Kd.C_drewN ?_ _|refine Kd.C_drew ?_)))
       (case side12=>exact HC1_4.out)
       (case side13=>repeat (first|exact(Kd.C_below HR1_6.out HB.out)|(with_reducible first|refine Kd.C_alloc ?_ _|refine Kd.C_drewN ?_ _|refine Kd.C_drew ?_)))
       (case side14=>exact HC1_6.out)
       rintro e w36 ⟨v256,rfl,ho0,hb⟩
       refine⟨_,rfl,?_⟩
       have n0_:=Az.mk (Kd.N_elder' (by(with_reducible repeat (first|apply Kd.N_alloc|apply Kd.N_drewN|apply Kd.N_drew));exact HO249.out) (Kd.N_base (Kd.R_N ho0)) hb)
       have n1_:=Az.mk (Kd.N_elder' (by(with_reducible repeat (first|apply Kd.N_alloc|apply Kd.N_drewN|apply Kd.N_drew));exact HO252.out) (Kd.N_base (Kd.R_N ho0)) hb)
       have n2_:=Az.mk (Kd.N_lower (Kd.N_mono (ok':=fun k_=>some k_≠(v248:Value).ownBlock∧some k_≠(v251:Value).ownBlock∧k_≠gb242∧k_≠gb243) (Kd.R_N (Kd.R_bound ho0)) (fun k_ hk_=>⟨(Kd.fresh' (Kd.N_lt (by(with_reducible repeat (first|apply Kd.N_alloc|apply Kd.N_drewN|apply Kd.N_drew));exact HO249.out)) k_ hk_.2.1),(Kd.fresh' (Kd.N_lt (by(with_reducible repeat (first|apply Kd.N_alloc|apply Kd.N_drewN|apply Kd.N_drew));exact HO252.out)) k_ hk_.2.1),(Kd.freshB (g:=gb242) (o:=.cells #[.slice A0_0 l0_0.length c0_0,.slice A0_1 l0_1.length c0_1,.slice A0_2 l0_2.length c0_2,.slice A0_3 l0_3.length c0_3,.slice A0_4 l0_4.length c0_4] 27 (0,0)) (by(with_reducible repeat (first|refine kN_ ?_ _|refine kD_ ?_|refine kA_ ?_ _));exact BK242.out) k_ hk_.2.1),(Kd.freshB (g:=gb243) (o:=.cells #[.int .i64 a1_0,.int .i64 a1_1,.int .i64 a1_2,.int .i64 a1_3,.slice A1_4 l1_4.length c1_4,.string a1_5,.slice A1_6 l1_6.length c1_6] 32 (0,0)) (by(with_reducible repeat (first|refine kN_ ?_ _|refine kD_ ?_|refine kA_ ?_ _));exact BK243.out) k_ hk_.2.1)⟩)) (bZ_ (by repeat (first|(with_reducible first|exact HB.out|apply bA_|apply bN_|apply bD_|refine bS_ ?_ GE242.out|refine bS_ ?_ GE243.out)|exact HB.out))))
       have n3_:=Az.mk (kB_ (g:=gb242) (o:=.cells #[.slice A0_0 l0_0.length c0_0,.slice A0_1 l0_1.length c0_1,.slice A0_2 l0_2.length c0_2,.slice A0_3 l0_3.length c0_3,.slice A0_4 l0_4.length c0_4] 27 (0,0)) (by(with_reducible repeat (first|refine kN_ ?_ _|refine kD_ ?_|refine kA_ ?_ _));exact BK242.out) hb)
       have n4_:=Az.mk (kB_ (g:=gb243) (o:=.cells #[.int .i64 a1_0,.int .i64 a1_1,.int .i64 a1_2,.int .i64 a1_3,.slice A1_4 l1_4.length c1_4,.string a1_5,.slice A1_6 l1_6.length c1_6] 32 (0,0)) (by(with_reducible repeat (first|refine kN_ ?_ _|refine kD_ ?_|refine kA_ ?_ _));exact BK243.out) hb)
       have n5_:=Az.mk (bT_ (by repeat (first|(with_reducible first|exact HB.out|apply bA_|apply bN_|apply bD_|refine bS_ ?_ GE242.out|refine bS_ ?_ GE243.out)|exact HB.out)) hb)
       clear HO249
       clear HO252
       clear BK242
       clear BK243
       clear HB
       have HO249:=n0_
       have HO252:=n1_
       have HO257:=n2_
       have BK242:=n3_
       have BK243:=n4_
       have HB:=n5_
       clear n0_ n1_ n2_ n3_ n4_ n5_
       (try clear hb)
       (try clear hb2)
       (try clear hk)
       (try clear hi)
       (try clear ho0)
       refine hK.out _ _ ⟨(bC_ BK242.out 0).trans rfl,(bC_ BK242.out 1).trans rfl,(bC_ BK242.out 2).trans rfl,(bC_ BK242.out 3).trans rfl,(bC_ BK242.out 4).trans rfl,(bC_ BK243.out 0).trans rfl,(bC_ BK243.out 1).trans rfl,(bC_ BK243.out 2).trans rfl,(bC_ BK243.out 3).trans rfl,(bC_ BK243.out 4).trans rfl,(bC_ BK243.out 5).trans rfl,(bC_ BK243.out 6).trans rfl⟩ (fun hHeld=>?_)
       clear hK K
       refine norm_ (a':=?_) ?_ ?_
       rotate_left
       ·show Act.put _ (some 33) _=_
        simp only [Act.put,sT_,s0_,sC_,i64_w,i32_w]
        rfl
       refine one_ (i:=13) (N:=some 36) #[true,true,true,true,true,true,true,true,true,true,true,true,true,true,false,false,false,false,false,false,false,false,false,false] rfl rfl (one_of HT_.out (by kernel_rfl)) (by decide) (fun K hK=>?_)
       refine goes_ Try.func17 (by kernel_rfl) rfl #[.agg #[.slice A0_0 l0_0.length c0_0,.slice A0_1 l0_1.length c0_1,.slice A0_2 l0_2.length c0_2,.slice A0_3 l0_3.length c0_3,.slice A0_4 l0_4.length c0_4],.agg #[.int .i64 a1_0,.int .i64 a1_1,.int .i64 a1_2,.int .i64 a1_3,.slice A1_4 l1_4.length c1_4,.string a1_5,.slice A1_6 l1_6.length c1_6]] (by rfl) rfl rfl (by(try simp only [List.map_toArray,List.map_cons,List.map_nil]);first|done|rfl|(simp only [List.length_drop,List.length_take];rfl)) ?_
       with_reducible refine(arboristref46_Kids.calls kj2 _ _ l0_0 _ _ l0_1 _ _ l0_2 _ _ l0_3 _ _ l0_4 a1_0 a1_1 a1_2 a1_3 _ _ l1_4 a1_5 (fun k_=>k_ < w.heap.size) _ _ l1_6 t258 _ ?side1 ?side2 ?side3 ?side4 ?side5 ?side6 ?side7 ?side8 ?side9 ?side10 ?side11 ?side12 ?side13 A30.out).mono ?_
       (case side1=>repeat (first|exact(Kd.C_below HR0_0.out HB.out)|(with_reducible first|refine Kd.C_alloc ?_ _|refine Kd.C_drewN ?_ _|refine Kd.C_drew ?_)))
       (case side2=>exact HC0_0.out)
       (case side3=>repeat (first|exact(Kd.C_below HR0_1.out HB.out)|(with_reducible first|refine Kd.C_alloc ?_ _|refine Kd.C_drewN ?_ _|refine Kd.C_drew ?_)))
       (case side4=>exact HC0_1.out)
       (case side5=>repeat (first|exact(Kd.C_below HR0_2.out HB.out)|(with_reducible first|refine Kd.C_alloc ?_ _|refine Kd.C_drewN ?_ _|refine Kd.C_drew ?_)))
       (case side6=>exact HC0_2.out)
       (case side7=>repeat (first|exact(Kd.C_below HR0_3.out HB.out)|(with_reducible first|refine Kd.C_alloc ?_ _|refine Kd.C_drewN ?_ _|refine Kd.C_drew ?_)))
       (case side8=>exact HC0_3.out)
       (case side9=>repeat (first|exact(Kd.C_below HR0_4.out HB.out)|(with_reducible first|refine Kd.C_alloc ?_ _|refine Kd.C_drewN ?_ _|refine Kd.C_drew ?_)))
       (case side10=>exact HC0_4.out)
       (case side11=>repeat (first|exact(Kd.C_below HR1_4.out HB.out)|(with_reducible first|refine Kd.C_alloc ?_ _|refine Kd.C_drewN ?_ _|refine Kd.C_drew ?_)))
       (case side12=>exact HC1_4.out)
       (case side13=>exact Kd.V_mk HC1_6.out (Kd.F_below (Kd.C_F k32_heap HR1_6.out) (by repeat (first|(with_reducible first|exact HB.out|apply bA_|apply bN_|apply bD_|refine bS_ ?_ GE242.out|refine bS_ ?_ GE243.out)|exact HB.out))))
       rintro e w37 ⟨v259,rfl,ho0,hb⟩
       refine⟨_,rfl,?_⟩
       have n0_:=Az.mk (Kd.N_elder' (by(with_reducible repeat (first|apply Kd.N_alloc|apply Kd.N_drewN|apply Kd.N_drew));exact HO249.out) (Kd.N_base ho0) hb)
       have n1_:=Az.mk (Kd.N_elder' (by(with_reducible repeat (first|apply Kd.N_alloc|apply Kd.N_drewN|apply Kd.N_drew));exact HO252.out) (Kd.N_base ho0) hb)
       have n2_:=Az.mk (Kd.N_elder' (by(with_reducible repeat (first|apply Kd.N_alloc|apply Kd.N_drewN|apply Kd.N_drew));exact HO257.out) (Kd.N_base ho0) hb)
       have n3_:=Az.mk (Kd.N_lower (Kd.N_mono (ok':=fun k_=>some k_≠(v248:Value).ownBlock∧some k_≠(v251:Value).ownBlock∧some k_≠(v256:Value).ownBlock∧k_≠gb242∧k_≠gb243) ho0 (fun k_ hk_=>⟨Or.elim hk_ (fun hs_=>fun e_=>Nat.not_le.2 hs_ (Kd.N_base HO249.out k_ e_.symm)) (fun hn_=>(Kd.fresh' (Kd.N_lt (by(with_reducible repeat (first|apply Kd.N_alloc|apply Kd.N_drewN|apply Kd.N_drew));exact HO249.out)) k_ hn_)),Or.elim hk_ (fun hs_=>fun e_=>Nat.not_le.2 hs_ (Kd.N_base HO252.out k_ e_.symm)) (fun hn_=>(Kd.fresh' (Kd.N_lt (by(with_reducible repeat (first|apply Kd.N_alloc|apply Kd.N_drewN|apply Kd.N_drew));exact HO252.out)) k_ hn_)),Or.elim hk_ (fun hs_=>fun e_=>Nat.not_le.2 hs_ (Kd.N_base HO257.out k_ e_.symm)) (fun hn_=>(Kd.fresh' (Kd.N_lt (by(with_reducible repeat (first|apply Kd.N_alloc|apply Kd.N_drewN|apply Kd.N_drew));exact HO257.out)) k_ hn_)),Or.elim hk_ (fun hs_=>fun e_=>Nat.not_le.2 hs_ (by rw [e_];exact GW242.out)) (fun hn_=>(Kd.freshB (g:=gb242) (o:=.cells #[.slice A0_0 l0_0.length c0_0,.slice A0_1 l0_1.length c0_1,.slice A0_2 l0_2.length c0_2,.slice A0_3 l0_3.length c0_3,.slice A0_4 l0_4.length c0_4] 27 (0,0)) (by(with_reducible repeat (first|refine kN_ ?_ _|refine kD_ ?_|refine kA_ ?_ _));exact BK242.out) k_ hn_)),Or.elim hk_ (fun hs_=>fun e_=>Nat.not_le.2 hs_ (by rw [e_];exact GW243.out)) (fun hn_=>(Kd.freshB (g:=gb243) (o:=.cells #[.int .i64 a1_0,.int .i64 a1_1,.int .i64 a1_2,.int .i64 a1_3,.slice A1_4 l1_4.length c1_4,.string a1_5,.slice A1_6 l1_6.length c1_6] 32 (0,0)) (by(with_reducible repeat (first|refine kN_ ?_ _|refine kD_ ?_|refine kA_ ?_ _));exact BK243.out) k_ hn_))⟩)) (bZ_ (by repeat (first|(with_reducible first|exact HB.out|apply bA_|apply bN_|apply bD_|refine bS_ ?_ GE242.out|refine bS_ ?_ GE243.out)|exact HB.out))))
       have n4_:=Az.mk (kB_ (g:=gb242) (o:=.cells #[.slice A0_0 l0_0.length c0_0,.slice A0_1 l0_1.length c0_1,.slice A0_2 l0_2.length c0_2,.slice A0_3 l0_3.length c0_3,.slice A0_4 l0_4.length c0_4] 27 (0,0)) (by(with_reducible repeat (first|refine kN_ ?_ _|refine kD_ ?_|refine kA_ ?_ _));exact BK242.out) hb)
       have n5_:=Az.mk (kB_ (g:=gb243) (o:=.cells #[.int .i64 a1_0,.int .i64 a1_1,.int .i64 a1_2,.int .i64 a1_3,.slice A1_4 l1_4.length c1_4,.string a1_5,.slice A1_6 l1_6.length c1_6] 32 (0,0)) (by(with_reducible repeat (first|refine kN_ ?_ _|refine kD_ ?_|refine kA_ ?_ _));exact BK243.out) hb)
       have n6_:=Az.mk (bT_ (by repeat (first|(with_reducible first|exact HB.out|apply bA_|apply bN_|apply bD_|refine bS_ ?_ GE242.out|refine bS_ ?_ GE243.out)|exact HB.out)) hb)
       clear HO249
       clear HO252
       clear HO257
       clear BK242
       clear BK243
       clear HB
       have HO249:=n0_
       have HO252:=n1_
       have HO257:=n2_
       have HO260:=n3_
       have BK242:=n4_
       have BK243:=n5_
       have HB:=n6_
       clear n0_ n1_ n2_ n3_ n4_ n5_ n6_
       (try clear hb)
       (try clear hb2)
       (try clear hk)
       (try clear hi)
       (try clear ho0)
       obtain⟨Ao38,co38,eo38⟩:=Kd.N_slice HO257.out
       (first|subst eo38|(injection eo38 with f1_ f2_ f3_;have f4_:=f1_.symm;have f5_:=f3_.symm;clear f1_ f2_ f3_;subst f4_;subst f5_))
       obtain⟨Ao39,co39,eo39⟩:=Kd.N_slice HO260.out
       (first|subst eo39|(injection eo39 with f1_ f2_ f3_;have f4_:=f1_.symm;have f5_:=f3_.symm;clear f1_ f2_ f3_;subst f4_;subst f5_))
       refine hK.out _ _ ⟨(bC_ BK242.out 0).trans rfl,(bC_ BK242.out 1).trans rfl,(bC_ BK242.out 2).trans rfl,(bC_ BK242.out 3).trans rfl,(bC_ BK242.out 4).trans rfl,(bC_ BK243.out 0).trans rfl,(bC_ BK243.out 1).trans rfl,(bC_ BK243.out 2).trans rfl,(bC_ BK243.out 3).trans rfl,(bC_ BK243.out 4).trans rfl,(bC_ BK243.out 5).trans rfl,(bC_ BK243.out 6).trans rfl⟩ (fun hHeld=>?_)
       clear hK K
       refine norm_ (a':=?_) ?_ ?_
       rotate_left
       ·show Act.put _ (some 36) _=_
        simp only [Act.put,sT_,s0_,sC_,i64_w,i32_w]
        rfl
       refine one_ (i:=14) (N:=some 37) #[true,true,true,true,true,true,true,true,true,true,true,true,true,true,true,false,false,false,false,false,false,false,false,false] rfl rfl (one_of HT_.out (by kernel_rfl)) (by decide) (fun K hK=>?_)
       refine goes_ Try.func15 (by kernel_rfl) rfl #[.slice Ao38 t255.length co38,.slice Ao39 t258.length co39] (by rfl) rfl rfl (by(try simp only [List.map_toArray,List.map_cons,List.map_nil]);first|done|rfl|(simp only [List.length_drop,List.length_take];rfl)) ?_
       with_reducible refine(arboristlaw46_sameNodes.calls kj2 _ _ t255 _ _ t258 true _ ?side1 ?side2 ?side3 ?side4 A31.out).mono ?_
       (case side1=>repeat (first|exact(Kd.N_reads' HO257.out).2.2|(with_reducible first|refine Kd.C_alloc ?_ _|refine Kd.C_drewN ?_ _|refine Kd.C_drew ?_)))
       (case side2=>exact(Kd.N_reads' HO257.out).2.1)
       (case side3=>repeat (first|exact(Kd.N_reads' HO260.out).2.2|(with_reducible first|refine Kd.C_alloc ?_ _|refine Kd.C_drewN ?_ _|refine Kd.C_drew ?_)))
       (case side4=>exact(Kd.N_reads' HO260.out).2.1)
       rintro e w40 ⟨rfl,hb⟩
       refine⟨_,rfl,?_⟩
       have n0_:=Az.mk (Kd.N_below (by(with_reducible repeat (first|apply Kd.N_alloc|apply Kd.N_drewN|apply Kd.N_drew));exact HO249.out) hb)
       have n1_:=Az.mk (Kd.N_below (by(with_reducible repeat (first|apply Kd.N_alloc|apply Kd.N_drewN|apply Kd.N_drew));exact HO252.out) hb)
       have n2_:=Az.mk (Kd.N_below (by(with_reducible repeat (first|apply Kd.N_alloc|apply Kd.N_drewN|apply Kd.N_drew));exact HO257.out) hb)
       have n3_:=Az.mk (Kd.N_below (by(with_reducible repeat (first|apply Kd.N_alloc|apply Kd.N_drewN|apply Kd.N_drew));exact HO260.out) hb)
       have n4_:=Az.mk (kB_ (g:=gb242) (o:=.cells #[.slice A0_0 l0_0.length c0_0,.slice A0_1 l0_1.length c0_1,.slice A0_2 l0_2.length c0_2,.slice A0_3 l0_3.length c0_3,.slice A0_4 l0_4.length c0_4] 27 (0,0)) (by(with_reducible repeat (first|refine kN_ ?_ _|refine kD_ ?_|refine kA_ ?_ _));exact BK242.out) hb)
       have n5_:=Az.mk (kB_ (g:=gb243) (o:=.cells #[.int .i64 a1_0,.int .i64 a1_1,.int .i64 a1_2,.int .i64 a1_3,.slice A1_4 l1_4.length c1_4,.string a1_5,.slice A1_6 l1_6.length c1_6] 32 (0,0)) (by(with_reducible repeat (first|refine kN_ ?_ _|refine kD_ ?_|refine kA_ ?_ _));exact BK243.out) hb)
       have n6_:=Az.mk (bT_ (by repeat (first|(with_reducible first|exact HB.out|apply bA_|apply bN_|apply bD_|refine bS_ ?_ GE242.out|refine bS_ ?_ GE243.out)|exact HB.out)) hb)
       clear HO249
       clear HO252
       clear HO257
       clear HO260
       clear BK242
       clear BK243
       clear HB
       have HO249:=n0_
       have HO252:=n1_
       have HO257:=n2_
       have HO260:=n3_
       have BK242:=n4_
       have BK243:=n5_
       have HB:=n6_
       clear n0_ n1_ n2_ n3_ n4_ n5_ n6_
       (try clear hb)
       (try clear hb2)
       (try clear hk)
       (try clear hi)
       obtain⟨Ao41,co41,eo41⟩:=Kd.N_slice HO249.out
       (first|subst eo41|(injection eo41 with f1_ f2_ f3_;have f4_:=f1_.symm;have f5_:=f3_.symm;clear f1_ f2_ f3_;subst f4_;subst f5_))
       obtain⟨Ao42,co42,eo42⟩:=Kd.N_slice HO252.out
       (first|subst eo42|(injection eo42 with f1_ f2_ f3_;have f4_:=f1_.symm;have f5_:=f3_.symm;clear f1_ f2_ f3_;subst f4_;subst f5_))
       refine hK.out _ _ ⟨(bC_ BK242.out 0).trans rfl,(bC_ BK242.out 1).trans rfl,(bC_ BK242.out 2).trans rfl,(bC_ BK242.out 3).trans rfl,(bC_ BK242.out 4).trans rfl,(bC_ BK243.out 0).trans rfl,(bC_ BK243.out 1).trans rfl,(bC_ BK243.out 2).trans rfl,(bC_ BK243.out 3).trans rfl,(bC_ BK243.out 4).trans rfl,(bC_ BK243.out 5).trans rfl,(bC_ BK243.out 6).trans rfl⟩ (fun hHeld=>?_)
       clear hK K
       refine norm_ (a':=?_) ?_ ?_
       rotate_left
       ·show Act.put _ (some 37) _=_
        simp only [Act.put,sT_,s0_,sC_,i64_w,i32_w]
        rfl
       refine pure_ (i:=15) (N:=some 38) (v:=?_) (a':=?_) #[true,true,true,true,true,true,true,true,true,true,true,true,true,true,true,true,false,false,false,false,false,false,false,false] rfl rfl (any_of HT_.out (by kernel_rfl)) (fun _ _ _ h=>h) (Or.inl ⟨by rfl,?_⟩) ?_ ?_
       rotate_left
       ·intro w'
        go_simp
        with_reducible rfl
       rotate_left
       ·simp only [Act.put,sT_,s0_,sC_,i64_w,i32_w]
        rfl
       refine pure_ (i:=16) (N:=some 39) (v:=?_) (a':=?_) #[true,true,true,true,true,true,true,true,true,true,true,true,true,true,true,true,true,false,false,false,false,false,false,false] rfl rfl (any_of HT_.out (by kernel_rfl)) (fun _ _ _ h=>h) (Or.inl ⟨by rfl,?_⟩) ?_ ?_
       rotate_left
       ·intro w'
        go_simp
        with_reducible rfl
       rotate_left
       ·simp only [Act.put,sT_,s0_,sC_,i64_w,i32_w]
        rfl
       refine pure_ (i:=17) (N:=some 40) (v:=?_) (a':=?_) #[true,true,true,true,true,true,true,true,true,true,true,true,true,true,true,true,true,true,false,false,false,false,false,false] rfl rfl (any_of HT_.out (by kernel_rfl)) (fun _ _ _ h=>h) (Or.inl ⟨by rfl,?_⟩) ?_ ?_
       rotate_left
       ·intro w'
        go_simp
        with_reducible rfl
       rotate_left
       ·simp only [Act.put,sT_,s0_,sC_,i64_w,i32_w]
        rfl
       refine pure_ (i:=18) (N:=some 41) (v:=?_) (a':=?_) #[true,true,true,true,true,true,true,true,true,true,true,true,true,true,true,true,true,true,true,false,false,false,false,false] rfl rfl (any_of HT_.out (by kernel_rfl)) (fun _ _ _ h=>h) (Or.inl ⟨by rfl,?_⟩) ?_ ?_
       rotate_left
       ·intro w'
        go_simp
        with_reducible rfl
       rotate_left
       ·simp only [Act.put,sT_,s0_,sC_,i64_w,i32_w]
        rfl
       refine pure_ (i:=19) (N:=some 42) (v:=?_) (a':=?_) #[true,true,true,true,true,true,true,true,true,true,true,true,true,true,true,true,true,true,true,true,false,false,false,false] rfl rfl (any_of HT_.out (by kernel_rfl)) (fun _ _ _ h=>h) (Or.inl ⟨by rfl,?_⟩) ?_ ?_
       rotate_left
       ·intro w'
        go_simp
        with_reducible rfl
       rotate_left
       ·simp only [Act.put,sT_,s0_,sC_,i64_w,i32_w]
        rfl
       refine pure_ (i:=20) (N:=some 43) (v:=?_) (a':=?_) #[true,true,true,true,true,true,true,true,true,true,true,true,true,true,true,true,true,true,true,true,true,false,false,false] rfl rfl (any_of HT_.out (by kernel_rfl)) (fun _ _ _ h=>h) (Or.inl ⟨by rfl,?_⟩) ?_ ?_
       rotate_left
       ·intro w'
        go_simp
        with_reducible rfl
       rotate_left
       ·simp only [Act.put,sT_,s0_,sC_,i64_w,i32_w]
        rfl
       refine pure_ (i:=21) (N:=some 44) (v:=?_) (a':=?_) #[true,true,true,true,true,true,true,true,true,true,true,true,true,true,true,true,true,true,true,true,true,true,false,false] rfl rfl (any_of HT_.out (by kernel_rfl)) (fun _ _ _ h=>h) (Or.inl ⟨by rfl,?_⟩) ?_ ?_
       rotate_left
       ·intro w'
        go_simp
        with_reducible rfl
       rotate_left
       ·simp only [Act.put,sT_,s0_,sC_,i64_w,i32_w]
        rfl
       refine pure_ (i:=22) (N:=some 45) (v:=?_) (a':=?_) #[true,true,true,true,true,true,true,true,true,true,true,true,true,true,true,true,true,true,true,true,true,true,true,false] rfl rfl (any_of HT_.out (by kernel_rfl)) (fun _ _ _ h=>h) (Or.inl ⟨by rfl,?_⟩) ?_ ?_
       rotate_left
       ·intro w'
        go_simp
        with_reducible rfl
       rotate_left
       ·simp only [Act.put,sT_,s0_,sC_,i64_w,i32_w]
        rfl
       refine pure_ (i:=23) (N:=some 46) (v:=?_) (a':=?_) #[true,true,true,true,true,true,true,true,true,true,true,true,true,true,true,true,true,true,true,true,true,true,true,true] rfl rfl (any_of HT_.out (by kernel_rfl)) (fun _ _ _ h=>h) (Or.inl ⟨by rfl,?_⟩) ?_ ?_
       rotate_left
       ·intro w'
        go_simp
        with_reducible rfl
       rotate_left
       ·simp only [Act.put,sT_,s0_,sC_,i64_w,i32_w]
        rfl
       refine done_ (done_of HT_.out (by kernel_rfl)) ?_
       try go_wp2
       go_meet
       case rel=>exact⟨_,(((t247.length:Int) != (t250.length:Int))),(by first|rfl|(simp;done)|(simp [*];done)|(refine congrArg Value.bool ?_;exact isE_ _)),H',⟨by have:=HJ2.out;first|omega|exact Nat.le_refl _⟩,⟨by(with_reducible repeat (first|apply Kd.N_alloc|apply Kd.N_drewN|apply Kd.N_drew));exact Kd.N_mono HO249.out (fun _ hk=>⟨hk.1.1.2,⟨hk.1.1.1.1,hk.1.1.1.2⟩⟩)⟩,⟨by(with_reducible repeat (first|apply Kd.N_alloc|apply Kd.N_drewN|apply Kd.N_drew));exact Kd.N_mono HO252.out (fun _ hk=>⟨hk.1.1.1,⟨hk.1.1.2.1,hk.1.1.2.2⟩⟩)⟩,⟨by(with_reducible repeat (first|refine kN_ ?_ _|refine kD_ ?_|refine kA_ ?_ _));exact BK242.out⟩,⟨by(with_reducible repeat (first|refine kN_ ?_ _|refine kD_ ?_|refine kA_ ?_ _));exact BK243.out⟩,⟨by repeat (first|(with_reducible first|exact HB.out|apply bA_|apply bN_|apply bD_|refine bS_ ?_ GE242.out|refine bS_ ?_ GE243.out)|exact HB.out)⟩⟩
      ·replace c32:=Bool.eq_false_iff.mpr c32
       subst c32
       have H1:(arboristlaw46_FieldsTells_.j1 kj2 t247 t250 true)=some r:=by rw [if_neg (show ¬ (false=true) by decide)] at H;exact H
       clear H
       have H:=H1
       clear H1
       have H':=Az.mk H
       clear H
       try go_wp2
       have n0_:=Az.mk (Kd.N_drew HO249.out)
       have n1_:=Az.mk (Kd.N_drew HO252.out)
       have n2_:=Az.mk (kD_ BK242.out)
       have n3_:=Az.mk (kD_ BK243.out)
       have n4_:=Az.mk (bD_ HB.out)
       clear HO249
       clear HO252
       clear BK242
       clear BK243
       clear HB
       have HO249:=n0_
       have HO252:=n1_
       have BK242:=n2_
       have BK243:=n3_
       have HB:=n4_
       clear n0_ n1_ n2_ n3_ n4_
       refine start_ (n:=24) (S:=fun w'=>w'.cell? ⟨gb242,0,none⟩=some (.slice A0_0 l0_0.length c0_0)∧w'.cell? ⟨gb242,1,none⟩=some (.slice A0_1 l0_1.length c0_1)∧w'.cell? ⟨gb242,2,none⟩=some (.slice A0_2 l0_2.length c0_2)∧w'.cell? ⟨gb242,3,none⟩=some (.slice A0_3 l0_3.length c0_3)∧w'.cell? ⟨gb242,4,none⟩=some (.slice A0_4 l0_4.length c0_4)∧w'.cell? ⟨gb243,0,none⟩=some (.int .i64 a1_0)∧w'.cell? ⟨gb243,1,none⟩=some (.int .i64 a1_1)∧w'.cell? ⟨gb243,2,none⟩=some (.int .i64 a1_2)∧w'.cell? ⟨gb243,3,none⟩=some (.int .i64 a1_3)∧w'.cell? ⟨gb243,4,none⟩=some (.slice A1_4 l1_4.length c1_4)∧w'.cell? ⟨gb243,5,none⟩=some (.string a1_5)∧w'.cell? ⟨gb243,6,none⟩=some (.slice A1_6 l1_6.length c1_6)) (ds:=[]) #[false,false,false,false,false,false,false,false,false,false,false,false,false,false,false,false,false,false,false,false,false,false,false,false] (by kernel_rfl) rfl rfl ⟨(bC_ BK242.out 0).trans rfl,(bC_ BK242.out 1).trans rfl,(bC_ BK242.out 2).trans rfl,(bC_ BK242.out 3).trans rfl,(bC_ BK242.out 4).trans rfl,(bC_ BK243.out 0).trans rfl,(bC_ BK243.out 1).trans rfl,(bC_ BK243.out 2).trans rfl,(bC_ BK243.out 3).trans rfl,(bC_ BK243.out 4).trans rfl,(bC_ BK243.out 5).trans rfl,(bC_ BK243.out 6).trans rfl⟩ (fun hHeld=>?_);refine with_tabW arboristlaw46_FieldsTells_.tab4 arboristlaw46_FieldsTells_.bits4 (fun HT_ HW_=>?_)
       generalize w25.drew=w43 at HO249 HO252 BK242 BK243 HB hHeld ⊢
       refine take_ (i:=0) (N:=some 23) (v:=?_) (a':=?_) #[true,false,false,false,false,false,false,false,false,false,false,false,false,false,false,false,false,false,false,false,false,false,false,false] rfl rfl (take_ofW HT_.out HW_.out (by kernel_rfl)) (fun _ _ _ h=>h) (Or.inl ⟨by rfl,?_⟩) hHeld ?_ ?_
       rotate_left
       ·rintro w' ⟨s0,s1,s2,s3,s4,s5,s6,s7,s8,s9,s10,s11⟩
        go_simp
        with_reducible rfl
       rotate_left
       ·simp only [Act.put,sT_,s0_,sC_,i64_w,i32_w]
        rfl
       refine take_ (i:=1) (N:=some 24) (v:=?_) (a':=?_) #[true,true,false,false,false,false,false,false,false,false,false,false,false,false,false,false,false,false,false,false,false,false,false,false] rfl rfl (take_ofW HT_.out HW_.out (by kernel_rfl)) (fun _ _ _ h=>h) (Or.inl ⟨by rfl,?_⟩) hHeld ?_ ?_
       rotate_left
       ·rintro w' ⟨s0,s1,s2,s3,s4,s5,s6,s7,s8,s9,s10,s11⟩
        go_simp
        with_reducible rfl
       rotate_left
       ·simp only [Act.put,sT_,s0_,sC_,i64_w,i32_w]
        rfl
       refine take_ (i:=3) (N:=some 26) (v:=?_) (a':=?_) #[true,true,false,true,false,false,false,false,false,false,false,false,false,false,false,false,false,false,false,false,false,false,false,false] rfl rfl (take_ofW HT_.out HW_.out (by kernel_rfl)) (fun _ _ _ h=>h) (Or.inl ⟨by rfl,?_⟩) hHeld ?_ ?_
       rotate_left
       ·rintro w' ⟨s0,s1,s2,s3,s4,s5,s6,s7,s8,s9,s10,s11⟩
        go_simp
        with_reducible rfl
       rotate_left
       ·simp only [Act.put,sT_,s0_,sC_,i64_w,i32_w]
        rfl
       refine take_ (i:=4) (N:=some 27) (v:=?_) (a':=?_) #[true,true,false,true,true,false,false,false,false,false,false,false,false,false,false,false,false,false,false,false,false,false,false,false] rfl rfl (take_ofW HT_.out HW_.out (by kernel_rfl)) (fun _ _ _ h=>h) (Or.inl ⟨by rfl,?_⟩) hHeld ?_ ?_
       rotate_left
       ·rintro w' ⟨s0,s1,s2,s3,s4,s5,s6,s7,s8,s9,s10,s11⟩
        go_simp
        with_reducible rfl
       rotate_left
       ·simp only [Act.put,sT_,s0_,sC_,i64_w,i32_w]
        rfl
       refine one_ (i:=2) (N:=some 25) #[true,true,true,true,true,false,false,false,false,false,false,false,false,false,false,false,false,false,false,false,false,false,false,false] rfl rfl (one_of HT_.out (by kernel_rfl)) (by decide) (fun K hK=>?_)
       refine goes_ Try.func13 (by kernel_rfl) rfl #[.agg #[.slice A0_0 l0_0.length c0_0,.slice A0_1 l0_1.length c0_1,.slice A0_2 l0_2.length c0_2,.slice A0_3 l0_3.length c0_3,.slice A0_4 l0_4.length c0_4],.agg #[.int .i64 a1_0,.int .i64 a1_1,.int .i64 a1_2,.int .i64 a1_3,.slice A1_4 l1_4.length c1_4,.string a1_5,.slice A1_6 l1_6.length c1_6]] (by rfl) rfl rfl (by(try simp only [List.map_toArray,List.map_cons,List.map_nil]);first|done|rfl|(simp only [List.length_drop,List.length_take];rfl)) ?_
       with_reducible refine(fields_Name.calls kj2 _ _ l0_0 _ _ l0_1 _ _ l0_2 _ _ l0_3 _ _ l0_4 a1_0 a1_1 a1_2 a1_3 _ _ l1_4 a1_5 _ _ l1_6 t253 _ ?side1 ?side2 ?side3 ?side4 ?side5 ?side6 ?side7 ?side8 ?side9 ?side10 ?side11 ?side12 ?side13 ?side14 A26.out).mono ?_
       (case side1=>repeat (first|exact(Kd.C_below HR0_0.out HB.out)|(with_reducible first|refine Kd.C_alloc ?_ _|refine Kd.C_drewN ?_ _|refine Kd.C_drew ?_)))
       (case side2=>exact HC0_0.out)
       (case side3=>repeat (first|exact(Kd.C_below HR0_1.out HB.out)|(with_reducible first|refine Kd.C_alloc ?_ _|refine Kd.C_drewN ?_ _|refine Kd.C_drew ?_)))
       (case side4=>exact HC0_1.out)
       (case side5=>repeat (first|exact(Kd.C_below HR0_2.out HB.out)|(with_reducible first|refine Kd.C_alloc ?_ _|refine Kd.C_drewN ?_ _|refine Kd.C_drew ?_)))
       (case side6=>exact HC0_2.out)
       (case side7=>repeat (first|exact(Kd.C_below HR0_3.out HB.out)|(with_reducible first|refine Kd.C_alloc ?_ _|refine Kd.C_drewN ?_ _|refine Kd.C_drew ?_)))
       (case side8=>exact HC0_3.out)
       (case side9=>repeat (first|exact(Kd.C_below HR0_4.out HB.out)|(with_reducible first|refine Kd.C_alloc ?_ _|refine Kd.C_drewN ?_ _|refine Kd.C_drew ?_)))
       (case side10=>exact HC0_4.out)
       (case side11=>repeat (first|exact(Kd.C_below HR1_4.out HB.out)|(with_reducible first|refine Kd.C_alloc ?_ _|refine Kd.C_drewN ?_ _|refine Kd.C_drew ?_)))
       (case side12=>exact HC1_4.out)
       (case side13=>repeat (first|exact(Kd.C_below HR1_6.out HB.out)|(with_reducible first|refine Kd.C_alloc ?_ _|refine Kd.C_drewN ?_ _|refine Kd.C_drew ?_)))
       (case side14=>exact HC1_6.out)
       rintro e w44 ⟨rfl,hb⟩
       refine⟨_,rfl,?_⟩
       have n0_:=Az.mk (Kd.N_below (by(with_reducible repeat (first|apply Kd.N_alloc|apply Kd.N_drewN|apply Kd.N_drew));exact HO249.out) hb)
       have n1_:=Az.mk (Kd.N_below (by(with_reducible repeat (first|apply Kd.N_alloc|apply Kd.N_drewN|apply Kd.N_drew));exact HO252.out) hb)
       have n2_:=Az.mk (kB_ (g:=gb242) (o:=.cells #[.slice A0_0 l0_0.length c0_0,.slice A0_1 l0_1.length c0_1,.slice A0_2 l0_2.length c0_2,.slice A0_3 l0_3.length c0_3,.slice A0_4 l0_4.length c0_4] 27 (0,0)) (by(with_reducible repeat (first|refine kN_ ?_ _|refine kD_ ?_|refine kA_ ?_ _));exact BK242.out) hb)
       have n3_:=Az.mk (kB_ (g:=gb243) (o:=.cells #[.int .i64 a1_0,.int .i64 a1_1,.int .i64 a1_2,.int .i64 a1_3,.slice A1_4 l1_4.length c1_4,.string a1_5,.slice A1_6 l1_6.length c1_6] 32 (0,0)) (by(with_reducible repeat (first|refine kN_ ?_ _|refine kD_ ?_|refine kA_ ?_ _));exact BK243.out) hb)
       have n4_:=Az.mk (bT_ (by repeat (first|(with_reducible first|exact HB.out|apply bA_|apply bN_|apply bD_|refine bS_ ?_ GE242.out|refine bS_ ?_ GE243.out)|exact HB.out)) hb)
       clear HO249
       clear HO252
       clear BK242
       clear BK243
       clear HB
       have HO249:=n0_
       have HO252:=n1_
       have BK242:=n2_
       have BK243:=n3_
       have HB:=n4_
       clear n0_ n1_ n2_ n3_ n4_
       (try clear hb)
       (try clear hb2)
       (try clear hk)
       (try clear hi)
       refine hK.out _ _ ⟨(bC_ BK242.out 0).trans rfl,(bC_ BK242.out 1).trans rfl,(bC_ BK242.out 2).trans rfl,(bC_ BK242.out 3).trans rfl,(bC_ BK242.out 4).trans rfl,(bC_ BK243.out 0).trans rfl,(bC_ BK243.out 1).trans rfl,(bC_ BK243.out 2).trans rfl,(bC_ BK243.out 3).trans rfl,(bC_ BK243.out 4).trans rfl,(bC_ BK243.out 5).trans rfl,(bC_ BK243.out 6).trans rfl⟩ (fun hHeld=>?_)
       clear hK K
       refine norm_ (a':=?_) ?_ ?_
       rotate_left
       ·show Act.put _ (some 25) _=_
        simp only [Act.put,sT_,s0_,sC_,i64_w,i32_w]
        rfl
       refine one_ (i:=5) (N:=some 28) #[true,true,true,true,true,true,false,false,false,false,false,false,false,false,false,false,false,false,false,false,false,false,false,false] rfl rfl (one_of HT_.out (by kernel_rfl)) (by decide) (fun K hK=>?_)
       refine goes_ Try.func14 (by kernel_rfl) rfl #[.agg #[.slice A0_0 l0_0.length c0_0,.slice A0_1 l0_1.length c0_1,.slice A0_2 l0_2.length c0_2,.slice A0_3 l0_3.length c0_3,.slice A0_4 l0_4.length c0_4],.agg #[.int .i64 a1_0,.int .i64 a1_1,.int .i64 a1_2,.int .i64 a1_3,.slice A1_4 l1_4.length c1_4,.string a1_5,.slice A1_6 l1_6.length c1_6]] (by rfl) rfl rfl (by(try simp only [List.map_toArray,List.map_cons,List.map_nil]);first|done|rfl|(simp only [List.length_drop,List.length_take];rfl)) ?_
       with_reducible refine(arboristref46_Name.calls kj2 _ _ l0_0 _ _ l0_1 _ _ l0_2 _ _ l0_3 _ _ l0_4 a1_0 a1_1 a1_2 a1_3 _ _ l1_4 a1_5 _ _ l1_6 t254 _ ?side1 ?side2 ?side3 ?side4 ?side5 ?side6 ?side7 ?side8 ?side9 ?side10 ?side11 ?side12 ?side13 ?side14 A27.out).mono ?_
       (case side1=>repeat (first|exact(Kd.C_below HR0_0.out HB.out)|(with_reducible first|refine Kd.C_alloc ?_ _|refine Kd.C_drewN ?_ _|refine Kd.C_drew ?_)))
       (case side2=>exact HC0_0.out)
       (case side3=>repeat (first|exact(Kd.C_below HR0_1.out HB.out)|(with_reducible first|refine Kd.C_alloc ?_ _|refine Kd.C_drewN ?_ _|refine Kd.C_drew ?_)))
       (case side4=>exact HC0_1.out)
       (case side5=>repeat (first|exact(Kd.C_below HR0_2.out HB.out)|(with_reducible first|refine Kd.C_alloc ?_ _|refine Kd.C_drewN ?_ _|refine Kd.C_drew ?_)))
       (case side6=>exact HC0_2.out)
       (case side7=>repeat (first|exact(Kd.C_below HR0_3.out HB.out)|(with_reducible first|refine Kd.C_alloc ?_ _|refine Kd.C_drewN ?_ _|refine Kd.C_drew ?_)))
       (case side8=>exact HC0_3.out)
       (case side9=>repeat (first|exact(Kd.C_below HR0_4.out HB.out)|(with_reducible first|refine Kd.C_alloc ?_ _|refine Kd.C_drewN ?_ _|refine Kd.C_drew ?_)))
       (case side10=>exact HC0_4.out)
       (case side11=>repeat (first|exact(Kd.C_below HR1_4.out HB.out)|(with_reducible first|refine Kd.C_alloc ?_ _|refine Kd.C_drewN ?_ _|refine Kd.C_drew ?_)))
       (case side12=>exact HC1_4.out)
       (case side13=>repeat (first|exact(Kd.C_below HR1_6.out HB.out)|(with_reducible first|refine Kd.C_alloc ?_ _|refine Kd.C_drewN ?_ _|refine Kd.C_drew ?_)))
       (case side14=>exact HC1_6.out)
       rintro e w45 ⟨rfl,hb⟩
       refine⟨_,rfl,?_⟩
       have n0_:=Az.mk (Kd.N_below (by(with_reducible repeat (first|apply Kd.N_alloc|apply Kd.N_drewN|apply Kd.N_drew));exact HO249.out) hb)
       have n1_:=Az.mk (Kd.N_below (by(with_reducible repeat (first|apply Kd.N_alloc|apply Kd.N_drewN|apply Kd.N_drew));exact HO252.out) hb)
       have n2_:=Az.mk (kB_ (g:=gb242) (o:=.cells #[.slice A0_0 l0_0.length c0_0,.slice A0_1 l0_1.length c0_1,.slice A0_2 l0_2.length c0_2,.slice A0_3 l0_3.length c0_3,.slice A0_4 l0_4.length c0_4] 27 (0,0)) (by(with_reducible repeat (first|refine kN_ ?_ _|refine kD_ ?_|refine kA_ ?_ _));exact BK242.out) hb)
       have n3_:=Az.mk (kB_ (g:=gb243) (o:=.cells #[.int .i64 a1_0,.int .i64 a1_1,.int .i64 a1_2,.int .i64 a1_3,.slice A1_4 l1_4.length c1_4,.string a1_5,.slice A1_6 l1_6.length c1_6] 32 (0,0)) (by(with_reducible repeat (first|refine kN_ ?_ _|refine kD_ ?_|refine kA_ ?_ _));exact BK243.out) hb)
       have n4_:=Az.mk (bT_ (by repeat (first|(with_reducible first|exact HB.out|apply bA_|apply bN_|apply bD_|refine bS_ ?_ GE242.out|refine bS_ ?_ GE243.out)|exact HB.out)) hb)
       clear HO249
       clear HO252
       clear BK242
       clear BK243
       clear HB
       have HO249:=n0_
       have HO252:=n1_
       have BK242:=n2_
       have BK243:=n3_
       have HB:=n4_
       clear n0_ n1_ n2_ n3_ n4_
       (try clear hb)
       (try clear hb2)
       (try clear hk)
       (try clear hi)
       refine hK.out _ _ ⟨(bC_ BK242.out 0).trans rfl,(bC_ BK242.out 1).trans rfl,(bC_ BK242.out 2).trans rfl,(bC_ BK242.out 3).trans rfl,(bC_ BK242.out 4).trans rfl,(bC_ BK243.out 0).trans rfl,(bC_ BK243.out 1).trans rfl,(bC_ BK243.out 2).trans rfl,(bC_ BK243.out 3).trans rfl,(bC_ BK243.out 4).trans rfl,(bC_ BK243.out 5).trans rfl,(bC_ BK243.out 6).trans rfl⟩ (fun hHeld=>?_)
       clear hK K
       refine norm_ (a':=?_) ?_ ?_
       rotate_left
       ·show Act.put _ (some 28) _=_
        simp only [Act.put,sT_,s0_,sC_,i64_w,i32_w]
        rfl
       refine pure_ (i:=6) (N:=some 29) (v:=?_) (a':=?_) #[true,true,true,true,true,true,true,false,false,false,false,false,false,false,false,false,false,false,false,false,false,false,false,false] rfl rfl (any_of HT_.out (by kernel_rfl)) (fun _ _ _ h=>h) (Or.inl ⟨by rfl,?_⟩) ?_ ?_
       rotate_left
       ·intro w'
        go_simp
        with_reducible rfl
       rotate_left
       ·simp only [Act.put,sT_,s0_,sC_,i64_w,i32_w]
        rfl
       refine pure_ (i:=7) (N:=some 30) (v:=?_) (a':=?_) #[true,true,true,true,true,true,true,true,false,false,false,false,false,false,false,false,false,false,false,false,false,false,false,false] rfl rfl (any_of HT_.out (by kernel_rfl)) (fun _ _ _ h=>h) (Or.inl ⟨by rfl,?_⟩) ?_ ?_
       rotate_left
       ·intro w'
        go_simp
        with_reducible rfl
       rotate_left
       ·simp only [Act.put,sT_,s0_,sC_,i64_w,i32_w]
        rfl
       refine take_ (i:=8) (N:=some 31) (v:=?_) (a':=?_) #[true,true,true,true,true,true,true,true,true,false,false,false,false,false,false,false,false,false,false,false,false,false,false,false] rfl rfl (take_ofW HT_.out HW_.out (by kernel_rfl)) (fun _ _ _ h=>h) (Or.inl ⟨by rfl,?_⟩) hHeld ?_ ?_
       rotate_left
       ·rintro w' ⟨s0,s1,s2,s3,s4,s5,s6,s7,s8,s9,s10,s11⟩
        go_simp
        with_reducible rfl
       rotate_left
       ·simp only [Act.put,sT_,s0_,sC_,i64_w,i32_w]
        rfl
       refine take_ (i:=9) (N:=some 32) (v:=?_) (a':=?_) #[true,true,true,true,true,true,true,true,true,true,false,false,false,false,false,false,false,false,false,false,false,false,false,false] rfl rfl (take_ofW HT_.out HW_.out (by kernel_rfl)) (fun _ _ _ h=>h) (Or.inl ⟨by rfl,?_⟩) hHeld ?_ ?_
       rotate_left
       ·rintro w' ⟨s0,s1,s2,s3,s4,s5,s6,s7,s8,s9,s10,s11⟩
        go_simp
        with_reducible rfl
       rotate_left
       ·simp only [Act.put,sT_,s0_,sC_,i64_w,i32_w]
        rfl
       refine take_ (i:=11) (N:=some 34) (v:=?_) (a':=?_) #[true,true,true,true,true,true,true,true,true,true,false,true,false,false,false,false,false,false,false,false,false,false,false,false] rfl rfl (take_ofW HT_.out HW_.out (by kernel_rfl)) (fun _ _ _ h=>h) (Or.inl ⟨by rfl,?_⟩) hHeld ?_ ?_
       rotate_left
       ·rintro w' ⟨s0,s1,s2,s3,s4,s5,s6,s7,s8,s9,s10,s11⟩
        go_simp
        with_reducible rfl
       rotate_left
       ·simp only [Act.put,sT_,s0_,sC_,i64_w,i32_w]
        rfl
       refine take_ (i:=12) (N:=some 35) (v:=?_) (a':=?_) #[true,true,true,true,true,true,true,true,true,true,false,true,true,false,false,false,false,false,false,false,false,false,false,false] rfl rfl (take_ofW HT_.out HW_.out (by kernel_rfl)) (fun _ _ _ h=>h) (Or.inl ⟨by rfl,?_⟩) hHeld ?_ ?_
       rotate_left
       ·rintro w' ⟨s0,s1,s2,s3,s4,s5,s6,s7,s8,s9,s10,s11⟩
        go_simp
        with_reducible rfl
       rotate_left
       ·simp only [Act.put,sT_,s0_,sC_,i64_w,i32_w]
        rfl
       refine one_ (i:=10) (N:=some 33) #[true,true,true,true,true,true,true,true,true,true,true,true,true,false,false,false,false,false,false,false,false,false,false,false] rfl rfl (one_of HT_.out (by kernel_rfl)) (by decide) (fun K hK=>?_)
       refine goes_ Try.func16 (by kernel_rfl) rfl #[.agg #[.slice A0_0 l0_0.length c0_0,.slice A0_1 l0_1.length c0_1,.slice A0_2 l0_2.length c0_2,.slice A0_3 l0_3.length c0_3,.slice A0_4 l0_4.length c0_4],.agg #[.int .i64 a1_0,.int .i64 a1_1,.int .i64 a1_2,.int .i64 a1_3,.slice A1_4 l1_4.length c1_4,.string a1_5,.slice A1_6 l1_6.length c1_6]] (by rfl) rfl rfl (by(try simp only [List.map_toArray,List.map_cons,List.map_nil]);first|done|rfl|(simp only [List.length_drop,List.length_take];rfl)) ?_
       with_reducible refine(fields_Kids.calls kj2 _ _ l0_0 _ _ l0_1 _ _ l0_2 _ _ l0_3 _ _ l0_4 a1_0 a1_1 a1_2 a1_3 _ _ l1_4 a1_5 _ _ l1_6 t255 _ ?side1 ?side2 ?side3 ?side4 ?side5 ?side6 ?side7 ?side8 ?side9 ?side10 ?side11 ?side12 ?side13 ?side14 A29.out).mono ?_
       (case side1=>repeat (first|exact(Kd.C_below HR0_0.out HB.out)|(with_reducible first|refine Kd.C_alloc ?_ _|refine Kd.C_drewN ?_ _|refine Kd.C_drew ?_)))
       (case side2=>exact HC0_0.out)
       (case side3=>repeat (first|exact(Kd.C_below HR0_1.out HB.out)|(with_reducible first|refine Kd.C_alloc ?_ _|refine Kd.C_drewN ?_ _|refine Kd.C_drew ?_)))
       (case side4=>exact HC0_1.out)
       (case side5=>repeat (first|exact(Kd.C_below HR0_2.out HB.out)|(with_reducible first|refine Kd.C_alloc ?_ _|refine Kd.C_drewN ?_ _|refine Kd.C_drew ?_)))
       (case side6=>exact HC0_2.out)
       (case side7=>repeat (first|exact(Kd.C_below HR0_3.out HB.out)|(with_reducible first|refine Kd.C_alloc ?_ _|refine Kd.C_drewN ?_ _|refine Kd.C_drew ?_)))
       (case side8=>exact HC0_3.out)
       (case side9=>repeat (first|exact(Kd.C_below HR0_4.out HB.out)|(with_reducible first|refine Kd.C_alloc ?_ _|refine Kd.C_drewN ?_ _|refine Kd.C_drew ?_)))
       (case side10=>exact HC0_4.out)
       (case side11=>repeat (first|exact(Kd.C_below HR1_4.out HB.out)|(with_reducible first|refine Kd.C_alloc ?_ _|refine Kd.C_drewN ?_ _|refine Kd.C_drew ?_)))
       (case side12=>exact HC1_4.out)
       (case side13=>repeat (first|exact(Kd.C_below HR1_6.out HB.out)|(with_reducible first|refine Kd.C_alloc ?_ _|refine Kd.C_drewN ?_ _|refine Kd.C_drew ?_)))
       (case side14=>exact HC1_6.out)
       rintro e w46 ⟨v256,rfl,ho0,hb⟩
       refine⟨_,rfl,?_⟩
       have n0_:=Az.mk (Kd.N_elder' (by(with_reducible repeat (first|apply Kd.N_alloc|apply Kd.N_drewN|apply Kd.N_drew));exact HO249.out) (Kd.N_base (Kd.R_N ho0)) hb)
       have n1_:=Az.mk (Kd.N_elder' (by(with_reducible repeat (first|apply Kd.N_alloc|apply Kd.N_drewN|apply Kd.N_drew));exact HO252.out) (Kd.N_base (Kd.R_N ho0)) hb)
       have n2_:=Az.mk (Kd.N_lower (Kd.N_mono (ok':=fun k_=>some k_≠(v248:Value).ownBlock∧some k_≠(v251:Value).ownBlock∧k_≠gb242∧k_≠gb243) (Kd.R_N (Kd.R_bound ho0)) (fun k_ hk_=>⟨(Kd.fresh' (Kd.N_lt (by(with_reducible repeat (first|apply Kd.N_alloc|apply Kd.N_drewN|apply Kd.N_drew));exact HO249.out)) k_ hk_.2.1),(Kd.fresh' (Kd.N_lt (by(with_reducible repeat (first|apply Kd.N_alloc|apply Kd.N_drewN|apply Kd.N_drew));exact HO252.out)) k_ hk_.2.1),(Kd.freshB (g:=gb242) (o:=.cells #[.slice A0_0 l0_0.length c0_0,.slice A0_1 l0_1.length c0_1,.slice A0_2 l0_2.length c0_2,.slice A0_3 l0_3.length c0_3,.slice A0_4 l0_4.length c0_4] 27 (0,0)) (by(with_reducible repeat (first|refine kN_ ?_ _|refine kD_ ?_|refine kA_ ?_ _));exact BK242.out) k_ hk_.2.1),(Kd.freshB (g:=gb243) (o:=.cells #[.int .i64 a1_0,.int .i64 a1_1,.int .i64 a1_2,.int .i64 a1_3,.slice A1_4 l1_4.length c1_4,.string a1_5,.slice A1_6 l1_6.length c1_6] 32 (0,0)) (by(with_reducible repeat (first|refine kN_ ?_ _|refine kD_ ?_|refine kA_ ?_ _));exact BK243.out) k_ hk_.2.1)⟩)) (bZ_ (by repeat (first|(with_reducible first|exact HB.out|apply bA_|apply bN_|apply bD_|refine bS_ ?_ GE242.out|refine bS_ ?_ GE243.out)|exact HB.out))))
       have n3_:=Az.mk (kB_ (g:=gb242) (o:=.cells #[.slice A0_0 l0_0.length c0_0,.slice A0_1 l0_1.length c0_1,.slice A0_2 l0_2.length c0_2,.slice A0_3 l0_3.length c0_3,.slice A0_4 l0_4.length c0_4] 27 (0,0)) (by(with_reducible repeat (first|refine kN_ ?_ _|refine kD_ ?_|refine kA_ ?_ _));exact BK242.out) hb)
       have n4_:=Az.mk (kB_ (g:=gb243) (o:=.cells #[.int .i64 a1_0,.int .i64 a1_1,.int .i64 a1_2,.int .i64 a1_3,.slice A1_4 l1_4.length c1_4,.string a1_5,.slice A1_6 l1_6.length c1_6] 32 (0,0)) (by(with_reducible repeat (first|refine kN_ ?_ _|refine kD_ ?_|refine kA_ ?_ _));exact BK243.out) hb)
       have n5_:=Az.mk (bT_ (by repeat (first|(with_reducible first|exact HB.out|apply bA_|apply bN_|apply bD_|refine bS_ ?_ GE242.out|refine bS_ ?_ GE243.out)|exact HB.out)) hb)
       clear HO249
       clear HO252
       clear BK242
       clear BK243
       clear HB
       have HO249:=n0_
       have HO252:=n1_
       have HO257:=n2_
       have BK242:=n3_
       have BK243:=n4_
       have HB:=n5_
       clear n0_ n1_ n2_ n3_ n4_ n5_
       (try clear hb)
       (try clear hb2)
       (try clear hk)
       (try clear hi)
       (try clear ho0)
       refine hK.out _ _ ⟨(bC_ BK242.out 0).trans rfl,(bC_ BK242.out 1).trans rfl,(bC_ BK242.out 2).trans rfl,(bC_ BK242.out 3).trans rfl,(bC_ BK242.out 4).trans rfl,(bC_ BK243.out 0).trans rfl,(bC_ BK243.out 1).trans rfl,(bC_ BK243.out 2).trans rfl,(bC_ BK243.out 3).trans rfl,(bC_ BK243.out 4).trans rfl,(bC_ BK243.out 5).trans rfl,(bC_ BK243.out 6).trans rfl⟩ (fun hHeld=>?_)
       clear hK K
       refine norm_ (a':=?_) ?_ ?_
       rotate_left
       ·show Act.put _ (some 33) _=_
        simp only [Act.put,sT_,s0_,sC_,i64_w,i32_w]
        rfl
       refine one_ (i:=13) (N:=some 36) #[true,true,true,true,true,true,true,true,true,true,true,true,true,true,false,false,false,false,false,false,false,false,false,false] rfl rfl (one_of HT_.out (by kernel_rfl)) (by decide) (fun K hK=>?_)
       refine goes_ Try.func17 (by kernel_rfl) rfl #[.agg #[.slice A0_0 l0_0.length c0_0,.slice A0_1 l0_1.length c0_1,.slice A0_2 l0_2.length c0_2,.slice A0_3 l0_3.length c0_3,.slice A0_4 l0_4.length c0_4],.agg #[.int .i64 a1_0,.int .i64 a1_1,.int .i64 a1_2,.int .i64 a1_3,.slice A1_4 l1_4.length c1_4,.string a1_5,.slice A1_6 l1_6.length c1_6]] (by rfl) rfl rfl (by(try simp only [List.map_toArray,List.map_cons,List.map_nil]);first|done|rfl|(simp only [List.length_drop,List.length_take];rfl)) ?_
       with_reducible refine(arboristref46_Kids.calls kj2 _ _ l0_0 _ _ l0_1 _ _ l0_2 _ _ l0_3 _ _ l0_4 a1_0 a1_1 a1_2 a1_3 _ _ l1_4 a1_5 (fun k_=>k_ < w.heap.size) _ _ l1_6 t258 _ ?side1 ?side2 ?side3 ?side4 ?side5 ?side6 ?side7 ?side8 ?side9 ?side10 ?side11 ?side12 ?side13 A30.out).mono ?_
       (case side1=>repeat (first|exact(Kd.C_below HR0_0.out HB.out)|(with_reducible first|refine Kd.C_alloc ?_ _|refine Kd.C_drewN ?_ _|refine Kd.C_drew ?_)))
       (case side2=>exact HC0_0.out)
       (case side3=>repeat (first|exact(Kd.C_below HR0_1.out HB.out)|(with_reducible first|refine Kd.C_alloc ?_ _|refine Kd.C_drewN ?_ _|refine Kd.C_drew ?_)))
       (case side4=>exact HC0_1.out)
       (case side5=>repeat (first|exact(Kd.C_below HR0_2.out HB.out)|(with_reducible first|refine Kd.C_alloc ?_ _|refine Kd.C_drewN ?_ _|refine Kd.C_drew ?_)))
       (case side6=>exact HC0_2.out)
       (case side7=>repeat (first|exact(Kd.C_below HR0_3.out HB.out)|(with_reducible first|refine Kd.C_alloc ?_ _|refine Kd.C_drewN ?_ _|refine Kd.C_drew ?_)))
       (case side8=>exact HC0_3.out)
       (case side9=>repeat (first|exact(Kd.C_below HR0_4.out HB.out)|(with_reducible first|refine Kd.C_alloc ?_ _|refine Kd.C_drewN ?_ _|refine Kd.C_drew ?_)))
       (case side10=>exact HC0_4.out)
       (case side11=>repeat (first|exact(Kd.C_below HR1_4.out HB.out)|(with_reducible first|refine Kd.C_alloc ?_ _|refine Kd.C_drewN ?_ _|refine Kd.C_drew ?_)))
       (case side12=>exact HC1_4.out)
       (case side13=>exact Kd.V_mk HC1_6.out (Kd.F_below (Kd.C_F k32_heap HR1_6.out) (by repeat (first|(with_reducible first|exact HB.out|apply bA_|apply bN_|apply bD_|refine bS_ ?_ GE242.out|refine bS_ ?_ GE243.out)|exact HB.out))))
       rintro e w47 ⟨v259,rfl,ho0,hb⟩
       refine⟨_,rfl,?_⟩
       have n0_:=Az.mk (Kd.N_elder' (by(with_reducible repeat (first|apply Kd.N_alloc|apply Kd.N_drewN|apply Kd.N_drew));exact HO249.out) (Kd.N_base ho0) hb)
       have n1_:=Az.mk (Kd.N_elder' (by(with_reducible repeat (first|apply Kd.N_alloc|apply Kd.N_drewN|apply Kd.N_drew));exact HO252.out) (Kd.N_base ho0) hb)
       have n2_:=Az.mk (Kd.N_elder' (by(with_reducible repeat (first|apply Kd.N_alloc|apply Kd.N_drewN|apply Kd.N_drew));exact HO257.out) (Kd.N_base ho0) hb)
       have n3_:=Az.mk (Kd.N_lower (Kd.N_mono (ok':=fun k_=>some k_≠(v248:Value).ownBlock∧some k_≠(v251:Value).ownBlock∧some k_≠(v256:Value).ownBlock∧k_≠gb242∧k_≠gb243) ho0 (fun k_ hk_=>⟨Or.elim hk_ (fun hs_=>fun e_=>Nat.not_le.2 hs_ (Kd.N_base HO249.out k_ e_.symm)) (fun hn_=>(Kd.fresh' (Kd.N_lt (by(with_reducible repeat (first|apply Kd.N_alloc|apply Kd.N_drewN|apply Kd.N_drew));exact HO249.out)) k_ hn_)),Or.elim hk_ (fun hs_=>fun e_=>Nat.not_le.2 hs_ (Kd.N_base HO252.out k_ e_.symm)) (fun hn_=>(Kd.fresh' (Kd.N_lt (by(with_reducible repeat (first|apply Kd.N_alloc|apply Kd.N_drewN|apply Kd.N_drew));exact HO252.out)) k_ hn_)),Or.elim hk_ (fun hs_=>fun e_=>Nat.not_le.2 hs_ (Kd.N_base HO257.out k_ e_.symm)) (fun hn_=>(Kd.fresh' (Kd.N_lt (by(with_reducible repeat (first|apply Kd.N_alloc|apply Kd.N_drewN|apply Kd.N_drew));exact HO257.out)) k_ hn_)),Or.elim hk_ (fun hs_=>fun e_=>Nat.not_le.2 hs_ (by rw [e_];exact GW242.out)) (fun hn_=>(Kd.freshB (g:=gb242) (o:=.cells #[.slice A0_0 l0_0.length c0_0,.slice A0_1 l0_1.length c0_1,.slice A0_2 l0_2.length c0_2,.slice A0_3 l0_3.length c0_3,.slice A0_4 l0_4.length c0_4] 27 (0,0)) (by(with_reducible repeat (first|refine kN_ ?_ _|refine kD_ ?_|refine kA_ ?_ _));exact BK242.out) k_ hn_)),Or.elim hk_ (fun hs_=>fun e_=>Nat.not_le.2 hs_ (by rw [e_];exact GW243.out)) (fun hn_=>(Kd.freshB (g:=gb243) (o:=.cells #[.int .i64 a1_0,.int .i64 a1_1,.int .i64 a1_2,.int .i64 a1_3,.slice A1_4 l1_4.length c1_4,.string a1_5,.slice A1_6 l1_6.length c1_6] 32 (0,0)) (by(with_reducible repeat (first|refine kN_ ?_ _|refine kD_ ?_|refine kA_ ?_ _));exact BK243.out) k_ hn_))⟩)) (bZ_ (by repeat (first|(with_reducible first|exact HB.out|apply bA_|apply bN_|apply bD_|refine bS_ ?_ GE242.out|refine bS_ ?_ GE243.out)|exact HB.out))))
       have n4_:=Az.mk (kB_ (g:=gb242) (o:=.cells #[.slice A0_0 l0_0.length c0_0,.slice A0_1 l0_1.length c0_1,.slice A0_2 l0_2.length c0_2,.slice A0_3 l0_3.length c0_3,.slice A0_4 l0_4.length c0_4] 27 (0,0)) (by(with_reducible repeat (first|refine kN_ ?_ _|refine kD_ ?_|refine kA_ ?_ _));exact BK242.out) hb)
       have n5_:=Az.mk (kB_ (g:=gb243) (o:=.cells #[.int .i64 a1_0,.int .i64 a1_1,.int .i64 a1_2,.int .i64 a1_3,.slice A1_4 l1_4.length c1_4,.string a1_5,.slice A1_6 l1_6.length c1_6] 32 (0,0)) (by(with_reducible repeat (first|refine kN_ ?_ _|refine kD_ ?_|refine kA_ ?_ _));exact BK243.out) hb)
       have n6_:=Az.mk (bT_ (by repeat (first|(with_reducible first|exact HB.out|apply bA_|apply bN_|apply bD_|refine bS_ ?_ GE242.out|refine bS_ ?_ GE243.out)|exact HB.out)) hb)
       clear HO249
       clear HO252
       clear HO257
       clear BK242
       clear BK243
       clear HB
       have HO249:=n0_
       have HO252:=n1_
       have HO257:=n2_
       have HO260:=n3_
       have BK242:=n4_
       have BK243:=n5_
       have HB:=n6_
       clear n0_ n1_ n2_ n3_ n4_ n5_ n6_
       (try clear hb)
       (try clear hb2)
       (try clear hk)
       (try clear hi)
       (try clear ho0)
       obtain⟨Ao48,co48,eo48⟩:=Kd.N_slice HO257.out
       (first|subst eo48|(injection eo48 with f1_ f2_ f3_;have f4_:=f1_.symm;have f5_:=f3_.symm;clear f1_ f2_ f3_;subst f4_;subst f5_))
       obtain⟨Ao49,co49,eo49⟩:=Kd.N_slice HO260.out
       (first|subst eo49|(injection eo49 with f1_ f2_ f3_;have f4_:=f1_.symm;have f5_:=f3_.symm;clear f1_ f2_ f3_;subst f4_;subst f5_))
       refine hK.out _ _ ⟨(bC_ BK242.out 0).trans rfl,(bC_ BK242.out 1).trans rfl,(bC_ BK242.out 2).trans rfl,(bC_ BK242.out 3).trans rfl,(bC_ BK242.out 4).trans rfl,(bC_ BK243.out 0).trans rfl,(bC_ BK243.out 1).trans rfl,(bC_ BK243.out 2).trans rfl,(bC_ BK243.out 3).trans rfl,(bC_ BK243.out 4).trans rfl,(bC_ BK243.out 5).trans rfl,(bC_ BK243.out 6).trans rfl⟩ (fun hHeld=>?_)
       clear hK K
       refine norm_ (a':=?_) ?_ ?_
       rotate_left
       ·show Act.put _ (some 36) _=_
        simp only [Act.put,sT_,s0_,sC_,i64_w,i32_w]
        rfl
       refine one_ (i:=14) (N:=some 37) #[true,true,true,true,true,true,true,true,true,true,true,true,true,true,true,false,false,false,false,false,false,false,false,false] rfl rfl (one_of HT_.out (by kernel_rfl)) (by decide) (fun K hK=>?_)
       refine goes_ Try.func15 (by kernel_rfl) rfl #[.slice Ao48 t255.length co48,.slice Ao49 t258.length co49] (by rfl) rfl rfl (by(try simp only [List.map_toArray,List.map_cons,List.map_nil]);first|done|rfl|(simp only [List.length_drop,List.length_take];rfl)) ?_
       with_reducible refine(arboristlaw46_sameNodes.calls kj2 _ _ t255 _ _ t258 false _ ?side1 ?side2 ?side3 ?side4 A31.out).mono ?_
       (case side1=>repeat (first|exact(Kd.N_reads' HO257.out).2.2|(with_reducible first|refine Kd.C_alloc ?_ _|refine Kd.C_drewN ?_ _|refine Kd.C_drew ?_)))
       (case side2=>exact(Kd.N_reads' HO257.out).2.1)
       (case side3=>repeat (first|exact(Kd.N_reads' HO260.out).2.2|(with_reducible first|refine Kd.C_alloc ?_ _|refine Kd.C_drewN ?_ _|refine Kd.C_drew ?_)))
       (case side4=>exact(Kd.N_reads' HO260.out).2.1)
       rintro e w50 ⟨rfl,hb⟩
       refine⟨_,rfl,?_⟩
       have n0_:=Az.mk (Kd.N_below (by(with_reducible repeat (first|apply Kd.N_alloc|apply Kd.N_drewN|apply Kd.N_drew));exact HO249.out) hb)
       have n1_:=Az.mk (Kd.N_below (by(with_reducible repeat (first|apply Kd.N_alloc|apply Kd.N_drewN|apply Kd.N_drew));exact HO252.out) hb)
       have n2_:=Az.mk (Kd.N_below (by(with_reducible repeat (first|apply Kd.N_alloc|apply Kd.N_drewN|apply Kd.N_drew));exact HO257.out) hb)
       have n3_:=Az.mk (Kd.N_below (by(with_reducible repeat (first|apply Kd.N_alloc|apply Kd.N_drewN|apply Kd.N_drew));exact HO260.out) hb)
       have n4_:=Az.mk (kB_ (g:=gb242) (o:=.cells #[.slice A0_0 l0_0.length c0_0,.slice A0_1 l0_1.length c0_1,.slice A0_2 l0_2.length c0_2,.slice A0_3 l0_3.length c0_3,.slice A0_4 l0_4.length c0_4] 27 (0,0)) (by(with_reducible repeat (first|refine kN_ ?_ _|refine kD_ ?_|refine kA_ ?_ _));exact BK242.out) hb)
       have n5_:=Az.mk (kB_ (g:=gb243) (o:=.cells #[.int .i64 a1_0,.int .i64 a1_1,.int .i64 a1_2,.int .i64 a1_3,.slice A1_4 l1_4.length c1_4,.string a1_5,.slice A1_6 l1_6.length c1_6] 32 (0,0)) (by(with_reducible repeat (first|refine kN_ ?_ _|refine kD_ ?_|refine kA_ ?_ _));exact BK243.out) hb)
       have n6_:=Az.mk (bT_ (by repeat (first|(with_reducible first|exact HB.out|apply bA_|apply bN_|apply bD_|refine bS_ ?_ GE242.out|refine bS_ ?_ GE243.out)|exact HB.out)) hb)
       clear HO249
       clear HO252
       clear HO257
       clear HO260
       clear BK242
       clear BK243
       clear HB
       have HO249:=n0_
       have HO252:=n1_
       have HO257:=n2_
       have HO260:=n3_
       have BK242:=n4_
       have BK243:=n5_
       have HB:=n6_
       clear n0_ n1_ n2_ n3_ n4_ n5_ n6_
       (try clear hb)
       (try clear hb2)
       (try clear hk)
       (try clear hi)
       refine hK.out _ _ ⟨(bC_ BK242.out 0).trans rfl,(bC_ BK242.out 1).trans rfl,(bC_ BK242.out 2).trans rfl,(bC_ BK242.out 3).trans rfl,(bC_ BK242.out 4).trans rfl,(bC_ BK243.out 0).trans rfl,(bC_ BK243.out 1).trans rfl,(bC_ BK243.out 2).trans rfl,(bC_ BK243.out 3).trans rfl,(bC_ BK243.out 4).trans rfl,(bC_ BK243.out 5).trans rfl,(bC_ BK243.out 6).trans rfl⟩ (fun hHeld=>?_)
       clear hK K
       refine norm_ (a':=?_) ?_ ?_
       rotate_left
       ·show Act.put _ (some 37) _=_
        simp only [Act.put,sT_,s0_,sC_,i64_w,i32_w]
        rfl
       refine pure_ (i:=15) (N:=some 38) (v:=?_) (a':=?_) #[true,true,true,true,true,true,true,true,true,true,true,true,true,true,true,true,false,false,false,false,false,false,false,false] rfl rfl (any_of HT_.out (by kernel_rfl)) (fun _ _ _ h=>h) (Or.inl ⟨by rfl,?_⟩) ?_ ?_
       rotate_left
       ·intro w'
        go_simp
        with_reducible rfl
       rotate_left
       ·simp only [Act.put,sT_,s0_,sC_,i64_w,i32_w]
        rfl
       refine pure_ (i:=16) (N:=some 39) (v:=?_) (a':=?_) #[true,true,true,true,true,true,true,true,true,true,true,true,true,true,true,true,true,false,false,false,false,false,false,false] rfl rfl (any_of HT_.out (by kernel_rfl)) (fun _ _ _ h=>h) (Or.inl ⟨by rfl,?_⟩) ?_ ?_
       rotate_left
       ·intro w'
        go_simp
        with_reducible rfl
       rotate_left
       ·simp only [Act.put,sT_,s0_,sC_,i64_w,i32_w]
        rfl
       refine pure_ (i:=17) (N:=some 40) (v:=?_) (a':=?_) #[true,true,true,true,true,true,true,true,true,true,true,true,true,true,true,true,true,true,false,false,false,false,false,false] rfl rfl (any_of HT_.out (by kernel_rfl)) (fun _ _ _ h=>h) (Or.inl ⟨by rfl,?_⟩) ?_ ?_
       rotate_left
       ·intro w'
        go_simp
        with_reducible rfl
       rotate_left
       ·simp only [Act.put,sT_,s0_,sC_,i64_w,i32_w]
        rfl
       refine pure_ (i:=18) (N:=some 41) (v:=undef) (a':=?_) #[true,true,true,true,true,true,true,true,true,true,true,true,true,true,true,true,true,true,true,false,false,false,false,false] rfl rfl (any_of HT_.out (by kernel_rfl)) (fun _ _ _ h=>h) (Or.inr ⟨by rfl,rfl⟩) ?_ ?_
       rotate_left
       ·simp only [Act.put,sT_,s0_,sC_,i64_w,i32_w]
        rfl
       refine pure_ (i:=19) (N:=some 42) (v:=undef) (a':=?_) #[true,true,true,true,true,true,true,true,true,true,true,true,true,true,true,true,true,true,true,true,false,false,false,false] rfl rfl (any_of HT_.out (by kernel_rfl)) (fun _ _ _ h=>h) (Or.inr ⟨by rfl,rfl⟩) ?_ ?_
       rotate_left
       ·simp only [Act.put,sT_,s0_,sC_,i64_w,i32_w]
        rfl
       refine pure_ (i:=20) (N:=some 43) (v:=undef) (a':=?_) #[true,true,true,true,true,true,true,true,true,true,true,true,true,true,true,true,true,true,true,true,true,false,false,false] rfl rfl (any_of HT_.out (by kernel_rfl)) (fun _ _ _ h=>h) (Or.inr ⟨by rfl,rfl⟩) ?_ ?_
       rotate_left
       ·simp only [Act.put,sT_,s0_,sC_,i64_w,i32_w]
        rfl
       refine pure_ (i:=21) (N:=some 44) (v:=undef) (a':=?_) #[true,true,true,true,true,true,true,true,true,true,true,true,true,true,true,true,true,true,true,true,true,true,false,false] rfl rfl (any_of HT_.out (by kernel_rfl)) (fun _ _ _ h=>h) (Or.inr ⟨by rfl,rfl⟩) ?_ ?_
       rotate_left
       ·simp only [Act.put,sT_,s0_,sC_,i64_w,i32_w]
        rfl
       refine pure_ (i:=22) (N:=some 45) (v:=undef) (a':=?_) #[true,true,true,true,true,true,true,true,true,true,true,true,true,true,true,true,true,true,true,true,true,true,true,false] rfl rfl (any_of HT_.out (by kernel_rfl)) (fun _ _ _ h=>h) (Or.inr ⟨by rfl,rfl⟩) ?_ ?_
       rotate_left
       ·simp only [Act.put,sT_,s0_,sC_,i64_w,i32_w]
        rfl
       refine pure_ (i:=23) (N:=some 46) (v:=?_) (a':=?_) #[true,true,true,true,true,true,true,true,true,true,true,true,true,true,true,true,true,true,true,true,true,true,true,true] rfl rfl (any_of HT_.out (by kernel_rfl)) (fun _ _ _ h=>h) (Or.inl ⟨by rfl,?_⟩) ?_ ?_
       rotate_left
       ·intro w'
        go_simp
        with_reducible rfl
       rotate_left
       ·simp only [Act.put,sT_,s0_,sC_,i64_w,i32_w]
        rfl
       refine done_ (done_of HT_.out (by kernel_rfl)) ?_
       try go_wp2
       go_meet
       case rel=>exact⟨_,(true),(by first|rfl|(simp;done)|(simp [*];done)|(refine congrArg Value.bool ?_;exact isE_ _)),H',⟨by have:=HJ2.out;first|omega|exact Nat.le_refl _⟩,⟨by(with_reducible repeat (first|apply Kd.N_alloc|apply Kd.N_drewN|apply Kd.N_drew));exact Kd.N_mono HO249.out (fun _ hk=>⟨hk.1.1.2,⟨hk.1.1.1.1,hk.1.1.1.2⟩⟩)⟩,⟨by(with_reducible repeat (first|apply Kd.N_alloc|apply Kd.N_drewN|apply Kd.N_drew));exact Kd.N_mono HO252.out (fun _ hk=>⟨hk.1.1.1,⟨hk.1.1.2.1,hk.1.1.2.2⟩⟩)⟩,⟨by(with_reducible repeat (first|refine kN_ ?_ _|refine kD_ ?_|refine kA_ ?_ _));exact BK242.out⟩,⟨by(with_reducible repeat (first|refine kN_ ?_ _|refine kD_ ?_|refine kA_ ?_ _));exact BK243.out⟩,⟨by repeat (first|(with_reducible first|exact HB.out|apply bA_|apply bN_|apply bD_|refine bS_ ?_ GE242.out|refine bS_ ?_ GE243.out)|exact HB.out)⟩⟩
     ·rw [if_neg c28] at H
      have c28b0:(t253.toList == t254.toList)=false:=beq_eq_false_iff_ne.mpr c28
      have c28b1:(t253.toList != t254.toList)=true:=bne_iff_ne.mpr c28
      (first|rw [c28b0]|(simp only [i64_w,i32_w];rw [c28b0])|skip)
      have H':=Az.mk H
      clear H
      try go_wp2
      have n0_:=Az.mk (Kd.N_drew HO249.out)
      have n1_:=Az.mk (Kd.N_drew HO252.out)
      have n2_:=Az.mk (kD_ BK242.out)
      have n3_:=Az.mk (kD_ BK243.out)
      have n4_:=Az.mk (bD_ HB.out)
      clear HO249
      clear HO252
      clear BK242
      clear BK243
      clear HB
      have HO249:=n0_
      have HO252:=n1_
      have BK242:=n2_
      have BK243:=n3_
      have HB:=n4_
      clear n0_ n1_ n2_ n3_ n4_
      refine start_ (n:=24) (S:=fun w'=>w'.cell? ⟨gb242,0,none⟩=some (.slice A0_0 l0_0.length c0_0)∧w'.cell? ⟨gb242,1,none⟩=some (.slice A0_1 l0_1.length c0_1)∧w'.cell? ⟨gb242,2,none⟩=some (.slice A0_2 l0_2.length c0_2)∧w'.cell? ⟨gb242,3,none⟩=some (.slice A0_3 l0_3.length c0_3)∧w'.cell? ⟨gb242,4,none⟩=some (.slice A0_4 l0_4.length c0_4)∧w'.cell? ⟨gb243,0,none⟩=some (.int .i64 a1_0)∧w'.cell? ⟨gb243,1,none⟩=some (.int .i64 a1_1)∧w'.cell? ⟨gb243,2,none⟩=some (.int .i64 a1_2)∧w'.cell? ⟨gb243,3,none⟩=some (.int .i64 a1_3)∧w'.cell? ⟨gb243,4,none⟩=some (.slice A1_4 l1_4.length c1_4)∧w'.cell? ⟨gb243,5,none⟩=some (.string a1_5)∧w'.cell? ⟨gb243,6,none⟩=some (.slice A1_6 l1_6.length c1_6)) (ds:=[]) #[false,false,false,false,false,false,false,false,false,false,false,false,false,false,false,false,false,false,false,false,false,false,false,false] (by kernel_rfl) rfl rfl ⟨(bC_ BK242.out 0).trans rfl,(bC_ BK242.out 1).trans rfl,(bC_ BK242.out 2).trans rfl,(bC_ BK242.out 3).trans rfl,(bC_ BK242.out 4).trans rfl,(bC_ BK243.out 0).trans rfl,(bC_ BK243.out 1).trans rfl,(bC_ BK243.out 2).trans rfl,(bC_ BK243.out 3).trans rfl,(bC_ BK243.out 4).trans rfl,(bC_ BK243.out 5).trans rfl,(bC_ BK243.out 6).trans rfl⟩ (fun hHeld=>?_);refine with_tabW arboristlaw46_FieldsTells_.tab4 arboristlaw46_FieldsTells_.bits4 (fun HT_ HW_=>?_)
      generalize w25.drew=w51 at HO249 HO252 BK242 BK243 HB hHeld ⊢
      refine take_ (i:=0) (N:=some 23) (v:=?_) (a':=?_) #[true,false,false,false,false,false,false,false,false,false,false,false,false,false,false,false,false,false,false,false,false,false,false,false] rfl rfl (take_ofW HT_.out HW_.out (by kernel_rfl)) (fun _ _ _ h=>h) (Or.inl ⟨by rfl,?_⟩) hHeld ?_ ?_
      rotate_left
      ·rintro w' ⟨s0,s1,s2,s3,s4,s5,s6,s7,s8,s9,s10,s11⟩
       go_simp
       with_reducible rfl
      rotate_left
      ·simp only [Act.put,sT_,s0_,sC_,i64_w,i32_w]
       rfl
      refine take_ (i:=1) (N:=some 24) (v:=?_) (a':=?_) #[true,true,false,false,false,false,false,false,false,false,false,false,false,false,false,false,false,false,false,false,false,false,false,false] rfl rfl (take_ofW HT_.out HW_.out (by kernel_rfl)) (fun _ _ _ h=>h) (Or.inl ⟨by rfl,?_⟩) hHeld ?_ ?_
      rotate_left
      ·rintro w' ⟨s0,s1,s2,s3,s4,s5,s6,s7,s8,s9,s10,s11⟩
       go_simp
       with_reducible rfl
      rotate_left
      ·simp only [Act.put,sT_,s0_,sC_,i64_w,i32_w]
       rfl
      refine take_ (i:=3) (N:=some 26) (v:=?_) (a':=?_) #[true,true,false,true,false,false,false,false,false,false,false,false,false,false,false,false,false,false,false,false,false,false,false,false] rfl rfl (take_ofW HT_.out HW_.out (by kernel_rfl)) (fun _ _ _ h=>h) (Or.inl ⟨by rfl,?_⟩) hHeld ?_ ?_
      rotate_left
      ·rintro w' ⟨s0,s1,s2,s3,s4,s5,s6,s7,s8,s9,s10,s11⟩
       go_simp
       with_reducible rfl
      rotate_left
      ·simp only [Act.put,sT_,s0_,sC_,i64_w,i32_w]
       rfl
      refine take_ (i:=4) (N:=some 27) (v:=?_) (a':=?_) #[true,true,false,true,true,false,false,false,false,false,false,false,false,false,false,false,false,false,false,false,false,false,false,false] rfl rfl (take_ofW HT_.out HW_.out (by kernel_rfl)) (fun _ _ _ h=>h) (Or.inl ⟨by rfl,?_⟩) hHeld ?_ ?_
      rotate_left
      ·rintro w' ⟨s0,s1,s2,s3,s4,s5,s6,s7,s8,s9,s10,s11⟩
       go_simp
       with_reducible rfl
      rotate_left
      ·simp only [Act.put,sT_,s0_,sC_,i64_w,i32_w]
       rfl
      refine one_ (i:=2) (N:=some 25) #[true,true,true,true,true,false,false,false,false,false,false,false,false,false,false,false,false,false,false,false,false,false,false,false] rfl rfl (one_of HT_.out (by kernel_rfl)) (by decide) (fun K hK=>?_)
      refine goes_ Try.func13 (by kernel_rfl) rfl #[.agg #[.slice A0_0 l0_0.length c0_0,.slice A0_1 l0_1.length c0_1,.slice A0_2 l0_2.length c0_2,.slice A0_3 l0_3.length c0_3,.slice A0_4 l0_4.length c0_4],.agg #[.int .i64 a1_0,.int .i64 a1_1,.int .i64 a1_2,.int .i64 a1_3,.slice A1_4 l1_4.length c1_4,.string a1_5,.slice A1_6 l1_6.length c1_6]] (by rfl) rfl rfl (by(try simp only [List.map_toArray,List.map_cons,List.map_nil]);first|done|rfl|(simp only [List.length_drop,List.length_take];rfl)) ?_
      with_reducible refine(fields_Name.calls kj2 _ _ l0_0 _ _ l0_1 _ _ l0_2 _ _ l0_3 _ _ l0_4 a1_0 a1_1 a1_2 a1_3 _ _ l1_4 a1_5 _ _ l1_6 t253 _ ?side1 ?side2 ?side3 ?side4 ?side5 ?side6 ?side7 ?side8 ?side9 ?side10 ?side11 ?side12 ?side13 ?side14 A26.out).mono ?_
      (case side1=>repeat (first|exact(Kd.C_below HR0_0.out HB.out)|(with_reducible first|refine Kd.C_alloc ?_ _|refine Kd.C_drewN ?_ _|refine Kd.C_drew ?_)))
      (case side2=>exact HC0_0.out)
      (case side3=>repeat (first|exact(Kd.C_below HR0_1.out HB.out)|(with_reducible first|refine Kd.C_alloc ?_ _|refine Kd.C_drewN ?_ _|refine Kd.C_drew ?_)))
      (case side4=>exact HC0_1.out)
      (case side5=>repeat (first|exact(Kd.C_below HR0_2.out HB.out)|(with_reducible first|refine Kd.C_alloc ?_ _|refine Kd.C_drewN ?_ _|refine Kd.C_drew ?_)))
      (case side6=>exact HC0_2.out)
      (case side7=>repeat (first|exact(Kd.C_below HR0_3.out HB.out)|(with_reducible first|refine Kd.C_alloc ?_ _|refine Kd.C_drewN ?_ _|refine Kd.C_drew ?_)))
      (case side8=>exact HC0_3.out)
      (case side9=>repeat (first|exact(Kd.C_below HR0_4.out HB.out)|(with_reducible first|refine Kd.C_alloc ?_ _|refine Kd.C_drewN ?_ _|refine Kd.C_drew ?_)))
      (case side10=>exact HC0_4.out)
      (case side11=>repeat (first|exact(Kd.C_below HR1_4.out HB.out)|(with_reducible first|refine Kd.C_alloc ?_ _|refine Kd.C_drewN ?_ _|refine Kd.C_drew ?_)))
      (case side12=>exact HC1_4.out)
      (case side13=>repeat (first|exact(Kd.C_below HR1_6.out HB.out)|(with_reducible first|refine Kd.C_alloc ?_ _|refine Kd.C_drewN ?_ _|refine Kd.C_drew ?_)))
      (case side14=>exact HC1_6.out)
      rintro e w52 ⟨rfl,hb⟩
      refine⟨_,rfl,?_⟩
      have n0_:=Az.mk (Kd.N_below (by(with_reducible repeat (first|apply Kd.N_alloc|apply Kd.N_drewN|apply Kd.N_drew));exact HO249.out) hb)
      have n1_:=Az.mk (Kd.N_below (by(with_reducible repeat (first|apply Kd.N_alloc|apply Kd.N_drewN|apply Kd.N_drew));exact HO252.out) hb)
      have n2_:=Az.mk (kB_ (g:=gb242) (o:=.cells #[.slice A0_0 l0_0.length c0_0,.slice A0_1 l0_1.length c0_1,.slice A0_2 l0_2.length c0_2,.slice A0_3 l0_3.length c0_3,.slice A0_4 l0_4.length c0_4] 27 (0,0)) (by(with_reducible repeat (first|refine kN_ ?_ _|refine kD_ ?_|refine kA_ ?_ _));exact BK242.out) hb)
      have n3_:=Az.mk (kB_ (g:=gb243) (o:=.cells #[.int .i64 a1_0,.int .i64 a1_1,.int .i64 a1_2,.int .i64 a1_3,.slice A1_4 l1_4.length c1_4,.string a1_5,.slice A1_6 l1_6.length c1_6] 32 (0,0)) (by(with_reducible repeat (first|refine kN_ ?_ _|refine kD_ ?_|refine kA_ ?_ _));exact BK243.out) hb)
      have n4_:=Az.mk (bT_ (by repeat (first|(with_reducible first|exact HB.out|apply bA_|apply bN_|apply bD_|refine bS_ ?_ GE242.out|refine bS_ ?_ GE243.out)|exact HB.out)) hb)
      clear HO249
      clear HO252
      clear BK242
      clear BK243
      clear HB
      have HO249:=n0_
      have HO252:=n1_
      have BK242:=n2_
      have BK243:=n3_
      have HB:=n4_
      clear n0_ n1_ n2_ n3_ n4_
      (try clear hb)
      (try clear hb2)
      (try clear hk)
      (try clear hi)
      refine hK.out _ _ ⟨(bC_ BK242.out 0).trans rfl,(bC_ BK242.out 1).trans rfl,(bC_ BK242.out 2).trans rfl,(bC_ BK242.out 3).trans rfl,(bC_ BK242.out 4).trans rfl,(bC_ BK243.out 0).trans rfl,(bC_ BK243.out 1).trans rfl,(bC_ BK243.out 2).trans rfl,(bC_ BK243.out 3).trans rfl,(bC_ BK243.out 4).trans rfl,(bC_ BK243.out 5).trans rfl,(bC_ BK243.out 6).trans rfl⟩ (fun hHeld=>?_)
      clear hK K
      refine norm_ (a':=?_) ?_ ?_
      rotate_left
      ·show Act.put _ (some 25) _=_
       simp only [Act.put,sT_,s0_,sC_,i64_w,i32_w]
       rfl
      refine one_ (i:=5) (N:=some 28) #[true,true,true,true,true,true,false,false,false,false,false,false,false,false,false,false,false,false,false,false,false,false,false,false] rfl rfl (one_of HT_.out (by kernel_rfl)) (by decide) (fun K hK=>?_)
      refine goes_ Try.func14 (by kernel_rfl) rfl #[.agg #[.slice A0_0 l0_0.length c0_0,.slice A0_1 l0_1.length c0_1,.slice A0_2 l0_2.length c0_2,.slice A0_3 l0_3.length c0_3,.slice A0_4 l0_4.length c0_4],.agg #[.int .i64 a1_0,.int .i64 a1_1,.int .i64 a1_2,.int .i64 a1_3,.slice A1_4 l1_4.length c1_4,.string a1_5,.slice A1_6 l1_6.length c1_6]] (by rfl) rfl rfl (by(try simp only [List.map_toArray,List.map_cons,List.map_nil]);first|done|rfl|(simp only [List.length_drop,List.length_take];rfl)) ?_
      with_reducible refine(arboristref46_Name.calls kj2 _ _ l0_0 _ _ l0_1 _ _ l0_2 _ _ l0_3 _ _ l0_4 a1_0 a1_1 a1_2 a1_3 _ _ l1_4 a1_5 _ _ l1_6 t254 _ ?side1 ?side2 ?side3 ?side4 ?side5 ?side6 ?side7 ?side8 ?side9 ?side10 ?side11 ?side12 ?side13 ?side14 A27.out).mono ?_
      (case side1=>repeat (first|exact(Kd.C_below HR0_0.out HB.out)|(with_reducible first|refine Kd.C_alloc ?_ _|refine Kd.C_drewN ?_ _|refine Kd.C_drew ?_)))
      (case side2=>exact HC0_0.out)
      (case side3=>repeat (first|exact(Kd.C_below HR0_1.out HB.out)|(with_reducible first|refine Kd.C_alloc ?_ _|refine Kd.C_drewN ?_ _|refine Kd.C_drew ?_)))
      (case side4=>exact HC0_1.out)
      (case side5=>repeat (first|exact(Kd.C_below HR0_2.out HB.out)|(with_reducible first|refine Kd.C_alloc ?_ _|refine Kd.C_drewN ?_ _|refine Kd.C_drew ?_)))
      (case side6=>exact HC0_2.out)
      (case side7=>repeat (first|exact(Kd.C_below HR0_3.out HB.out)|(with_reducible first|refine Kd.C_alloc ?_ _|refine Kd.C_drewN ?_ _|refine Kd.C_drew ?_)))
      (case side8=>exact HC0_3.out)
      (case side9=>repeat (first|exact(Kd.C_below HR0_4.out HB.out)|(with_reducible first|refine Kd.C_alloc ?_ _|refine Kd.C_drewN ?_ _|refine Kd.C_drew ?_)))
      (case side10=>exact HC0_4.out)
      (case side11=>repeat (first|exact(Kd.C_below HR1_4.out HB.out)|(with_reducible first|refine Kd.C_alloc ?_ _|refine Kd.C_drewN ?_ _|refine Kd.C_drew ?_)))
      (case side12=>exact HC1_4.out)
      (case side13=>repeat (first|exact(Kd.C_below HR1_6.out HB.out)|(with_reducible first|refine Kd.C_alloc ?_ _|refine Kd.C_drewN ?_ _|refine Kd.C_drew ?_)))
      (case side14=>exact HC1_6.out)
      rintro e w53 ⟨rfl,hb⟩
      refine⟨_,rfl,?_⟩
      have n0_:=Az.mk (Kd.N_below (by(with_reducible repeat (first|apply Kd.N_alloc|apply Kd.N_drewN|apply Kd.N_drew));exact HO249.out) hb)
      have n1_:=Az.mk (Kd.N_below (by(with_reducible repeat (first|apply Kd.N_alloc|apply Kd.N_drewN|apply Kd.N_drew));exact HO252.out) hb)
      have n2_:=Az.mk (kB_ (g:=gb242) (o:=.cells #[.slice A0_0 l0_0.length c0_0,.slice A0_1 l0_1.length c0_1,.slice A0_2 l0_2.length c0_2,.slice A0_3 l0_3.length c0_3,.slice A0_4 l0_4.length c0_4] 27 (0,0)) (by(with_reducible repeat (first|refine kN_ ?_ _|refine kD_ ?_|refine kA_ ?_ _));exact BK242.out) hb)
      have n3_:=Az.mk (kB_ (g:=gb243) (o:=.cells #[.int .i64 a1_0,.int .i64 a1_1,.int .i64 a1_2,.int .i64 a1_3,.slice A1_4 l1_4.length c1_4,.string a1_5,.slice A1_6 l1_6.length c1_6] 32 (0,0)) (by(with_reducible repeat (first|refine kN_ ?_ _|refine kD_ ?_|refine kA_ ?_ _));exact BK243.out) hb)
      have n4_:=Az.mk (bT_ (by repeat (first|(with_reducible first|exact HB.out|apply bA_|apply bN_|apply bD_|refine bS_ ?_ GE242.out|refine bS_ ?_ GE243.out)|exact HB.out)) hb)
      clear HO249
      clear HO252
      clear BK242
      clear BK243
      clear HB
      have HO249:=n0_
      have HO252:=n1_
      have BK242:=n2_
      have BK243:=n3_
      have HB:=n4_
      clear n0_ n1_ n2_ n3_ n4_
      (try clear hb)
      (try clear hb2)
      (try clear hk)
      (try clear hi)
      refine hK.out _ _ ⟨(bC_ BK242.out 0).trans rfl,(bC_ BK242.out 1).trans rfl,(bC_ BK242.out 2).trans rfl,(bC_ BK242.out 3).trans rfl,(bC_ BK242.out 4).trans rfl,(bC_ BK243.out 0).trans rfl,(bC_ BK243.out 1).trans rfl,(bC_ BK243.out 2).trans rfl,(bC_ BK243.out 3).trans rfl,(bC_ BK243.out 4).trans rfl,(bC_ BK243.out 5).trans rfl,(bC_ BK243.out 6).trans rfl⟩ (fun hHeld=>?_)
      clear hK K
      refine norm_ (a':=?_) ?_ ?_
      rotate_left
      ·show Act.put _ (some 28) _=_
       simp only [Act.put,sT_,s0_,sC_,i64_w,i32_w]
       rfl
      refine pure_ (i:=6) (N:=some 29) (v:=?_) (a':=?_) #[true,true,true,true,true,true,true,false,false,false,false,false,false,false,false,false,false,false,false,false,false,false,false,false] rfl rfl (any_of HT_.out (by kernel_rfl)) (fun _ _ _ h=>h) (Or.inl ⟨by rfl,?_⟩) ?_ ?_
      rotate_left
      ·intro w'
       go_simp
       with_reducible rfl
      rotate_left
      ·simp only [Act.put,sT_,s0_,sC_,i64_w,i32_w]
       rfl
      refine pure_ (i:=7) (N:=some 30) (v:=?_) (a':=?_) #[true,true,true,true,true,true,true,true,false,false,false,false,false,false,false,false,false,false,false,false,false,false,false,false] rfl rfl (any_of HT_.out (by kernel_rfl)) (fun _ _ _ h=>h) (Or.inl ⟨by rfl,?_⟩) ?_ ?_
      rotate_left
      ·intro w'
       go_simp
       with_reducible rfl
      rotate_left
      ·simp only [Act.put,sT_,s0_,sC_,i64_w,i32_w]
       rfl
      refine pure_ (i:=8) (N:=some 31) (v:=undef) (a':=?_) #[true,true,true,true,true,true,true,true,true,false,false,false,false,false,false,false,false,false,false,false,false,false,false,false] rfl rfl (any_of HT_.out (by kernel_rfl)) (fun _ _ _ h=>h) (Or.inr ⟨by rfl,rfl⟩) ?_ ?_
      rotate_left
      ·simp only [Act.put,sT_,s0_,sC_,i64_w,i32_w]
       rfl
      refine pure_ (i:=9) (N:=some 32) (v:=undef) (a':=?_) #[true,true,true,true,true,true,true,true,true,true,false,false,false,false,false,false,false,false,false,false,false,false,false,false] rfl rfl (any_of HT_.out (by kernel_rfl)) (fun _ _ _ h=>h) (Or.inr ⟨by rfl,rfl⟩) ?_ ?_
      rotate_left
      ·simp only [Act.put,sT_,s0_,sC_,i64_w,i32_w]
       rfl
      refine pure_ (i:=10) (N:=some 33) (v:=undef) (a':=?_) #[true,true,true,true,true,true,true,true,true,true,true,false,false,false,false,false,false,false,false,false,false,false,false,false] rfl rfl (any_of HT_.out (by kernel_rfl)) (fun _ _ _ h=>h) (Or.inr ⟨by rfl,rfl⟩) ?_ ?_
      rotate_left
      ·simp only [Act.put,sT_,s0_,sC_,i64_w,i32_w]
       rfl
      refine pure_ (i:=11) (N:=some 34) (v:=undef) (a':=?_) #[true,true,true,true,true,true,true,true,true,true,true,true,false,false,false,false,false,false,false,false,false,false,false,false] rfl rfl (any_of HT_.out (by kernel_rfl)) (fun _ _ _ h=>h) (Or.inr ⟨by rfl,rfl⟩) ?_ ?_
      rotate_left
      ·simp only [Act.put,sT_,s0_,sC_,i64_w,i32_w]
       rfl
      refine pure_ (i:=12) (N:=some 35) (v:=undef) (a':=?_) #[true,true,true,true,true,true,true,true,true,true,true,true,true,false,false,false,false,false,false,false,false,false,false,false] rfl rfl (any_of HT_.out (by kernel_rfl)) (fun _ _ _ h=>h) (Or.inr ⟨by rfl,rfl⟩) ?_ ?_
      rotate_left
      ·simp only [Act.put,sT_,s0_,sC_,i64_w,i32_w]
       rfl
      refine pure_ (i:=13) (N:=some 36) (v:=undef) (a':=?_) #[true,true,true,true,true,true,true,true,true,true,true,true,true,true,false,false,false,false,false,false,false,false,false,false] rfl rfl (any_of HT_.out (by kernel_rfl)) (fun _ _ _ h=>h) (Or.inr ⟨by rfl,rfl⟩) ?_ ?_
      rotate_left
      ·simp only [Act.put,sT_,s0_,sC_,i64_w,i32_w]
       rfl
      refine pure_ (i:=14) (N:=some 37) (v:=undef) (a':=?_) #[true,true,true,true,true,true,true,true,true,true,true,true,true,true,true,false,false,false,false,false,false,false,false,false] rfl rfl (any_of HT_.out (by kernel_rfl)) (fun _ _ _ h=>h) (Or.inr ⟨by rfl,rfl⟩) ?_ ?_
      rotate_left
      ·simp only [Act.put,sT_,s0_,sC_,i64_w,i32_w]
       rfl
      refine pure_ (i:=15) (N:=some 38) (v:=undef) (a':=?_) #[true,true,true,true,true,true,true,true,true,true,true,true,true,true,true,true,false,false,false,false,false,false,false,false] rfl rfl (any_of HT_.out (by kernel_rfl)) (fun _ _ _ h=>h) (Or.inr ⟨by rfl,rfl⟩) ?_ ?_
      rotate_left
      ·simp only [Act.put,sT_,s0_,sC_,i64_w,i32_w]
       rfl
      refine pure_ (i:=16) (N:=some 39) (v:=?_) (a':=?_) #[true,true,true,true,true,true,true,true,true,true,true,true,true,true,true,true,true,false,false,false,false,false,false,false] rfl rfl (any_of HT_.out (by kernel_rfl)) (fun _ _ _ h=>h) (Or.inl ⟨by rfl,?_⟩) ?_ ?_
      rotate_left
      ·intro w'
       go_simp
       with_reducible rfl
      rotate_left
      ·simp only [Act.put,sT_,s0_,sC_,i64_w,i32_w]
       rfl
      refine pure_ (i:=17) (N:=some 40) (v:=?_) (a':=?_) #[true,true,true,true,true,true,true,true,true,true,true,true,true,true,true,true,true,true,false,false,false,false,false,false] rfl rfl (any_of HT_.out (by kernel_rfl)) (fun _ _ _ h=>h) (Or.inl ⟨by rfl,?_⟩) ?_ ?_
      rotate_left
      ·intro w'
       go_simp
       with_reducible rfl
      rotate_left
      ·simp only [Act.put,sT_,s0_,sC_,i64_w,i32_w]
       rfl
      refine pure_ (i:=18) (N:=some 41) (v:=undef) (a':=?_) #[true,true,true,true,true,true,true,true,true,true,true,true,true,true,true,true,true,true,true,false,false,false,false,false] rfl rfl (any_of HT_.out (by kernel_rfl)) (fun _ _ _ h=>h) (Or.inr ⟨by rfl,rfl⟩) ?_ ?_
      rotate_left
      ·simp only [Act.put,sT_,s0_,sC_,i64_w,i32_w]
       rfl
      refine pure_ (i:=19) (N:=some 42) (v:=undef) (a':=?_) #[true,true,true,true,true,true,true,true,true,true,true,true,true,true,true,true,true,true,true,true,false,false,false,false] rfl rfl (any_of HT_.out (by kernel_rfl)) (fun _ _ _ h=>h) (Or.inr ⟨by rfl,rfl⟩) ?_ ?_
      rotate_left
      ·simp only [Act.put,sT_,s0_,sC_,i64_w,i32_w]
       rfl
      refine pure_ (i:=20) (N:=some 43) (v:=undef) (a':=?_) #[true,true,true,true,true,true,true,true,true,true,true,true,true,true,true,true,true,true,true,true,true,false,false,false] rfl rfl (any_of HT_.out (by kernel_rfl)) (fun _ _ _ h=>h) (Or.inr ⟨by rfl,rfl⟩) ?_ ?_
      rotate_left
      ·simp only [Act.put,sT_,s0_,sC_,i64_w,i32_w]
       rfl
      refine pure_ (i:=21) (N:=some 44) (v:=undef) (a':=?_) #[true,true,true,true,true,true,true,true,true,true,true,true,true,true,true,true,true,true,true,true,true,true,false,false] rfl rfl (any_of HT_.out (by kernel_rfl)) (fun _ _ _ h=>h) (Or.inr ⟨by rfl,rfl⟩) ?_ ?_
      rotate_left
      ·simp only [Act.put,sT_,s0_,sC_,i64_w,i32_w]
       rfl
      refine pure_ (i:=22) (N:=some 45) (v:=undef) (a':=?_) #[true,true,true,true,true,true,true,true,true,true,true,true,true,true,true,true,true,true,true,true,true,true,true,false] rfl rfl (any_of HT_.out (by kernel_rfl)) (fun _ _ _ h=>h) (Or.inr ⟨by rfl,rfl⟩) ?_ ?_
      rotate_left
      ·simp only [Act.put,sT_,s0_,sC_,i64_w,i32_w]
       rfl
      refine pure_ (i:=23) (N:=some 46) (v:=?_) (a':=?_) #[true,true,true,true,true,true,true,true,true,true,true,true,true,true,true,true,true,true,true,true,true,true,true,true] rfl rfl (any_of HT_.out (by kernel_rfl)) (fun _ _ _ h=>h) (Or.inl ⟨by rfl,?_⟩) ?_ ?_
      rotate_left
      ·intro w'
       go_simp
       with_reducible rfl
      rotate_left
      ·simp only [Act.put,sT_,s0_,sC_,i64_w,i32_w]
       rfl
      refine done_ (done_of HT_.out (by kernel_rfl)) ?_
      try go_wp2
      go_meet
      case rel=>exact⟨_,(true),(by first|rfl|(simp;done)|(simp [*];done)|(refine congrArg Value.bool ?_;exact isE_ _)),H',⟨by have:=HJ2.out;first|omega|exact Nat.le_refl _⟩,⟨by(with_reducible repeat (first|apply Kd.N_alloc|apply Kd.N_drewN|apply Kd.N_drew));exact Kd.N_mono HO249.out (fun _ hk=>⟨hk.2,⟨hk.1.1,hk.1.2⟩⟩)⟩,⟨by(with_reducible repeat (first|apply Kd.N_alloc|apply Kd.N_drewN|apply Kd.N_drew));exact HO252.out⟩,⟨by(with_reducible repeat (first|refine kN_ ?_ _|refine kD_ ?_|refine kA_ ?_ _));exact BK242.out⟩,⟨by(with_reducible repeat (first|refine kN_ ?_ _|refine kD_ ?_|refine kA_ ?_ _));exact BK243.out⟩,⟨by repeat (first|(with_reducible first|exact HB.out|apply bA_|apply bN_|apply bD_|refine bS_ ?_ GE242.out|refine bS_ ?_ GE243.out)|exact HB.out)⟩⟩
    case rest =>
     clear HC22
     try clear c1
     try clear c2
     try clear p2
     try clear c13
     try clear c14
     try clear c15
     try clear c16
     try clear c17
     try clear c28
     try clear c28b0
     try clear c28b1
     obtain⟨kq,x46_21,rfl,HA,HJ21,HO_5,HO_6,BK242,BK243,HB⟩:=hcut
     cases kq with
     | zero=>exact absurd HA.out (by simp [arboristlaw46_FieldsTells_.j1])
     | succ kj21 =>
      have H:=HA.out
      clear HA
      simp only [arboristlaw46_FieldsTells_.j1] at H
      by_cases c54:x46_21=true
      ·subst c54
       have H1:(some false)=some r:=by rw [if_pos rfl] at H;exact H
       clear H
       have H:=H1
       clear H1
       exact absurd ((Option.some.inj H).trans HT.out) (by decide)
      ·replace c54:=Bool.eq_false_iff.mpr c54
       subst c54
       have H1:(arboristlaw46_FieldsTells_.l0 kj21 t247 t250 0)=some r:=by rw [if_neg (show ¬ (false=true) by decide)] at H;exact H
       clear H
       have H:=H1
       clear H1
       have H':=Az.mk H
       clear H
       go_wp2
       go_loopg [7] kj21 (fun kq v7 w'=>∃ (x7_3:Int),v7=.int .i64 x7_3∧Az (arboristlaw46_FieldsTells_.l0 kq t247 t250 x7_3=some r)∧Az (kq≤kj21)∧Az (Kd.N (Kd.slice 3 (Kd.int .i64)) 42 w' w.heap.size (fun k_=>some k_≠(v251:Value).ownBlock∧k_≠gb242∧k_≠gb243) v248 t247)∧Az (Kd.N (Kd.slice 3 (Kd.int .i64)) 42 w' w.heap.size (fun k_=>some k_≠(v248:Value).ownBlock∧k_≠gb242∧k_≠gb243) v251 t250)∧Az (w'.heap[gb242]?=some (.cells #[(.slice A0_0 l0_0.length c0_0),(.slice A0_1 l0_1.length c0_1),(.slice A0_2 l0_2.length c0_2),(.slice A0_3 l0_3.length c0_3),(.slice A0_4 l0_4.length c0_4)] 27 (0,0)))∧Az (w'.heap[gb243]?=some (.cells #[.int .i64 a1_0,.int .i64 a1_1,.int .i64 a1_2,.int .i64 a1_3,(.slice A1_4 l1_4.length c1_4),.string a1_5,(.slice A1_6 l1_6.length c1_6)] 32 (0,0)))∧Az (Below w.heap.size w w'))
       case atStart=>exact⟨(0),(by first|rfl|(simp;done)|(simp [*];done)|(refine congrArg Value.bool ?_;exact isE_ _)),H',⟨Nat.le_refl _⟩,⟨by(with_reducible repeat (first|apply Kd.N_alloc|apply Kd.N_drewN|apply Kd.N_drew));exact HO_5.out⟩,⟨by(with_reducible repeat (first|apply Kd.N_alloc|apply Kd.N_drewN|apply Kd.N_drew));exact HO_6.out⟩,⟨by(with_reducible repeat (first|refine kN_ ?_ _|refine kD_ ?_|refine kA_ ?_ _));exact BK242.out⟩,⟨by(with_reducible repeat (first|refine kN_ ?_ _|refine kD_ ?_|refine kA_ ?_ _));exact BK243.out⟩,⟨by repeat (first|(with_reducible first|exact HB.out|apply bA_|apply bN_|apply bD_|refine bS_ ?_ GE242.out|refine bS_ ?_ GE243.out)|exact HB.out)⟩⟩
       case round =>
        clear H'
        try clear c1
        try clear c2
        try clear p2
        try clear c5
        try clear c13
        try clear c14
        try clear c15
        try clear c16
        try clear c17
        try clear c28
        try clear c28b0
        try clear c28b1
        try clear c54
        try clear p2
        obtain⟨x7_3,rfl,HA,HK3,HO_5,HO_6,BK242,BK243,HB⟩:=hrel
        cases gk with
        | zero=>exact absurd HA.out (by simp [arboristlaw46_FieldsTells_.l0])
        | succ k3 =>
         have H:=HA.out
         clear HA
         simp only [arboristlaw46_FieldsTells_.l0] at H
         by_cases c55:x7_3 < (t247.length:Int)
         ·rw [if_pos c55] at H
          have c55b0:decide (x7_3 < (t247.length:Int))=true:=decide_eq_true c55
          clear c55
          by_cases c56:0≤x7_3
          ·rw [if_pos c56] at H
           have c56b0:decide (0≤x7_3)=true:=decide_eq_true c56
           clear c56
           by_cases c57:x7_3 < (t250.length:Int)
           ·rw [if_pos c57] at H
            have c57b0:decide (x7_3 < (t250.length:Int))=true:=decide_eq_true c57
            clear c57
            replace H:=Option.bind_eq_some_iff.mp H
            obtain⟨t264,A580,H⟩:=H
            replace H:(if t264=true then(arboristlaw46_FieldsTells_.l0 k3 t247 t250 (wrap64 (x7_3 + 1)))else(some false))=some r:=H
            have A58:=Az.mk A580
            clear A580
            by_cases c59:t264=true
            ·subst c59
             have H1:(arboristlaw46_FieldsTells_.l0 k3 t247 t250 (wrap64 (x7_3 + 1)))=some r:=by rw [if_pos rfl] at H;exact H
             clear H
             have H:=H1
             clear H1
             have H':=Az.mk H
             clear H
             obtain⟨Ao60,co60,eo60⟩:=Kd.N_slice HO_5.out
             subst eo60
             try go_wp2
             have n0_:=Az.mk (Kd.N_drew HO_5.out)
             have n1_:=Az.mk (Kd.N_drew HO_6.out)
             have n2_:=Az.mk (kD_ BK242.out)
             have n3_:=Az.mk (kD_ BK243.out)
             have n4_:=Az.mk (bD_ HB.out)
             clear HO_5
             clear HO_6
             clear BK242
             clear BK243
             clear HB
             have HO_5:=n0_
             have HO_6:=n1_
             have BK242:=n2_
             have BK243:=n3_
             have HB:=n4_
             clear n0_ n1_ n2_ n3_ n4_
             have p262:0≤(x7_3:Int):=of_decide_eq_true (by first|(with_reducible assumption)|assumption)
             have q262:x7_3 < (t247.length:Int):=of_decide_eq_true (by first|(with_reducible assumption)|assumption)
             obtain⟨ad262,A262_0,c262_0,e262,hx262_0,hl262_0,hi262_0⟩:=at_L1 (Kd.N_reads' HO_5.out).2.2 x7_3 p262 q262
             cases e262
             obtain⟨ce262,hce262,hMe262,hcc262⟩:=Kd.N_get HO_5.out [] x7_3 p262 (by first|exact q262|exact of_decide_eq_true (by first|(with_reducible assumption)|assumption)|(have e_:=(Kd.N_reads' HO_5.out).1;omega))
             obtain⟨ua262_0,uc262_0,rfl,ul262_0,ge262_0⟩:=Kd.FK_slice_open hMe262
             have hv262_0:=hcc262 0 _ rfl
             rw [Nat.add_zero,show((Kd.slice 3 (Kd.int .i64))).sz=1 from rfl,Nat.mul_one] at hv262_0
             replace hv262_0:=Option.some.inj (hv262_0.symm.trans hx262_0)
             injection hv262_0 with hva_ hvn_ hvc_
             rw [hva_] at ge262_0
             rw [hvc_] at ul262_0
             have HL262_0:=Az.mk (show Kd.V (Kd.int .i64) 3 _ w.heap.size _ _ (rd_L1 t247 x7_3)from Kd.V_mk ul262_0 ge262_0)
             clear hva_ hvn_ hvc_ ge262_0 ul262_0
             clear hcc262 hce262
             have HR262_0:=Az.mk hi262_0
             have HC262_0:=Az.mk hl262_0
             clear hi262_0 hl262_0
             replace p262:=eq_true p262
             replace q262:=eq_true q262
             obtain⟨Ao62,co62,eo62⟩:=Kd.N_slice HO_6.out
             (first|subst eo62|(injection eo62 with f1_ f2_ f3_;have f4_:=f1_.symm;have f5_:=f3_.symm;clear f1_ f2_ f3_;subst f4_;subst f5_))
             have p263:0≤(x7_3:Int):=of_decide_eq_true (by first|(with_reducible assumption)|assumption)
             have q263:x7_3 < (t250.length:Int):=of_decide_eq_true (by first|(with_reducible assumption)|assumption)
             obtain⟨ad263,A263_0,c263_0,e263,hx263_0,hl263_0,hi263_0⟩:=at_L1 (Kd.N_reads' HO_6.out).2.2 x7_3 p263 q263
             cases e263
             obtain⟨ce263,hce263,hMe263,hcc263⟩:=Kd.N_get HO_6.out [] x7_3 p263 (by first|exact q263|exact of_decide_eq_true (by first|(with_reducible assumption)|assumption)|(have e_:=(Kd.N_reads' HO_6.out).1;omega))
             obtain⟨ua263_0,uc263_0,rfl,ul263_0,ge263_0⟩:=Kd.FK_slice_open hMe263
             have hv263_0:=hcc263 0 _ rfl
             rw [Nat.add_zero,show((Kd.slice 3 (Kd.int .i64))).sz=1 from rfl,Nat.mul_one] at hv263_0
             replace hv263_0:=Option.some.inj (hv263_0.symm.trans hx263_0)
             injection hv263_0 with hva_ hvn_ hvc_
             rw [hva_] at ge263_0
             rw [hvc_] at ul263_0
             have HL263_0:=Az.mk (show Kd.V (Kd.int .i64) 3 _ w.heap.size _ _ (rd_L1 t250 x7_3)from Kd.V_mk ul263_0 ge263_0)
             clear hva_ hvn_ hvc_ ge263_0 ul263_0
             clear hcc263 hce263
             have HR263_0:=Az.mk hi263_0
             have HC263_0:=Az.mk hl263_0
             clear hi263_0 hl263_0
             replace p263:=eq_true p263
             replace q263:=eq_true q263
             refine start_ (n:=10) (S:=fun w'=>w'.cell? (ad262.add (x7_3).toNat)=some (.slice A262_0 (rd_L1 t247 x7_3).length c262_0)∧w'.cell? (ad263.add (x7_3).toNat)=some (.slice A263_0 (rd_L1 t250 x7_3).length c263_0)) (ds:=[]) #[false,false,false,false,false,false,false,false,false,false] (by kernel_rfl) rfl rfl ⟨hx262_0,hx263_0⟩ (fun hHeld=>?_);refine with_tabW arboristlaw46_FieldsTells_.tab9 arboristlaw46_FieldsTells_.bits9 (fun HT_ HW_=>?_)
             generalize wr.drew=w61 at HO_5 HO_6 BK242 BK243 HB HL262_0 HL263_0 HR262_0 HR263_0 hx262_0 hx263_0 hHeld ⊢
             refine pure_ (i:=0) (N:=some 53) (v:=?_) (a':=?_) #[true,false,false,false,false,false,false,false,false,false] rfl rfl (any_of HT_.out (by kernel_rfl)) (fun _ _ _ h=>h) (Or.inl ⟨by rfl,?_⟩) ?_ ?_
             rotate_left
             ·intro w'
              go_simp
              with_reducible rfl
             rotate_left
             ·simp only [Act.put,sT_,s0_,sC_,i64_w,i32_w]
              rfl
             refine pure_ (i:=1) (N:=some 54) (v:=?_) (a':=?_) #[true,true,false,false,false,false,false,false,false,false] rfl rfl (any_of HT_.out (by kernel_rfl)) (fun _ _ _ h=>h) (Or.inl ⟨by rfl,?_⟩) ?_ ?_
             rotate_left
             ·intro w'
              go_simp
              with_reducible rfl
             rotate_left
             ·simp only [Act.put,sT_,s0_,sC_,i64_w,i32_w]
              rfl
             refine pure_ (i:=2) (N:=some 55) (v:=?_) (a':=?_) #[true,true,true,false,false,false,false,false,false,false] rfl rfl (any_of HT_.out (by kernel_rfl)) (fun _ _ _ h=>h) (Or.inl ⟨by rfl,?_⟩) ?_ ?_
             rotate_left
             ·intro w'
              go_simp
              with_reducible rfl
             rotate_left
             ·simp only [Act.put,sT_,s0_,sC_,i64_w,i32_w]
              rfl
             refine pure_ (i:=4) (N:=some 57) (v:=?_) (a':=?_) #[true,true,true,false,true,false,false,false,false,false] rfl rfl (any_of HT_.out (by kernel_rfl)) (fun _ _ _ h=>h) (Or.inl ⟨by rfl,?_⟩) ?_ ?_
             rotate_left
             ·intro w'
              go_simp
              with_reducible rfl
             rotate_left
             ·simp only [Act.put,sT_,s0_,sC_,i64_w,i32_w]
              rfl
             refine pure_ (i:=5) (N:=some 58) (v:=?_) (a':=?_) #[true,true,true,false,true,true,false,false,false,false] rfl rfl (any_of HT_.out (by kernel_rfl)) (fun _ _ _ h=>h) (Or.inl ⟨by rfl,?_⟩) ?_ ?_
             rotate_left
             ·intro w'
              go_simp
              with_reducible rfl
             rotate_left
             ·simp only [Act.put,sT_,s0_,sC_,i64_w,i32_w]
              rfl
             refine pure_ (i:=6) (N:=some 59) (v:=?_) (a':=?_) #[true,true,true,false,true,true,true,false,false,false] rfl rfl (any_of HT_.out (by kernel_rfl)) (fun _ _ _ h=>h) (Or.inl ⟨by rfl,?_⟩) ?_ ?_
             rotate_left
             ·intro w'
              go_simp
              with_reducible rfl
             rotate_left
             ·simp only [Act.put,sT_,s0_,sC_,i64_w,i32_w]
              rfl
             refine take_ (i:=3) (N:=some 56) (v:=?_) (a':=?_) #[true,true,true,true,true,true,true,false,false,false] rfl rfl (take_ofW HT_.out HW_.out (by kernel_rfl)) (fun _ _ _ h=>h) (Or.inl ⟨by rfl,?_⟩) hHeld ?_ ?_
             rotate_left
             ·rintro w' ⟨s0,s1⟩
              go_simp
              with_reducible rfl
             rotate_left
             ·simp only [Act.put,sT_,s0_,sC_,i64_w,i32_w]
              rfl
             refine take_ (i:=7) (N:=some 60) (v:=?_) (a':=?_) #[true,true,true,true,true,true,true,true,false,false] rfl rfl (take_ofW HT_.out HW_.out (by kernel_rfl)) (fun _ _ _ h=>h) (Or.inl ⟨by rfl,?_⟩) hHeld ?_ ?_
             rotate_left
             ·rintro w' ⟨s0,s1⟩
              go_simp
              with_reducible rfl
             rotate_left
             ·simp only [Act.put,sT_,s0_,sC_,i64_w,i32_w]
              rfl
             refine one_ (i:=8) (N:=some 61) #[true,true,true,true,true,true,true,true,true,false] rfl rfl (one_of HT_.out (by kernel_rfl)) (by decide) (fun K hK=>?_)
             refine goes_ Try.func18 (by kernel_rfl) rfl #[.slice A262_0 (rd_L1 t247 x7_3).length c262_0,.slice A263_0 (rd_L1 t250 x7_3).length c263_0] (by rfl) rfl rfl (by(try simp only [List.map_toArray,List.map_cons,List.map_nil]);first|done|rfl|(simp only [List.length_drop,List.length_take];rfl)) ?_
             with_reducible refine(arboristlaw46_ints.calls k3 _ _ (rd_L1 t247 x7_3) _ _ (rd_L1 t250 x7_3) true _ ?side1 ?side2 ?side3 ?side4 A58.out).mono ?_
             (case side1=>repeat (first|exact(by repeat (first|(with_reducible exact HR262_0.out)|(with_reducible first|refine Kd.C_alloc ?_ _|refine Kd.C_drewN ?_ _|refine Kd.C_drew ?_)|exact HR262_0.out))|(with_reducible first|refine Kd.C_alloc ?_ _|refine Kd.C_drewN ?_ _|refine Kd.C_drew ?_)))
             (case side2=>exact HC262_0.out)
             (case side3=>repeat (first|exact(by repeat (first|(with_reducible exact HR263_0.out)|(with_reducible first|refine Kd.C_alloc ?_ _|refine Kd.C_drewN ?_ _|refine Kd.C_drew ?_)|exact HR263_0.out))|(with_reducible first|refine Kd.C_alloc ?_ _|refine Kd.C_drewN ?_ _|refine Kd.C_drew ?_)))
             (case side4=>exact HC263_0.out)
             rintro e w' ⟨rfl,⟨nd,rfl⟩⟩
             refine⟨_,rfl,?_⟩
             refine hK.out _ _ ⟨hHeld.1,hHeld.2⟩ (fun hHeld=>?_)
             clear hK K
             refine norm_ (a':=?_) ?_ ?_
             rotate_left
             ·show Act.put _ (some 61) _=_
              simp only [Act.put,sT_,s0_,sC_,i64_w,i32_w]
              rfl
             refine pure_ (i:=9) (N:=some 62) (v:=?_) (a':=?_) #[true,true,true,true,true,true,true,true,true,true] rfl rfl (any_of HT_.out (by kernel_rfl)) (fun _ _ _ h=>h) (Or.inl ⟨by rfl,?_⟩) ?_ ?_
             rotate_left
             ·intro w'
              go_simp
              with_reducible rfl
             rotate_left
             ·simp only [Act.put,sT_,s0_,sC_,i64_w,i32_w]
              rfl
             refine done_ (done_of HT_.out (by kernel_rfl)) ?_
             try go_wp2
             go_roundg k3
             case measure=>have:=HJ2.out;have:=HJ21.out;have:=HK3.out;omega
             case rel=>exact⟨(wrap64 (x7_3 + 1)),(by first|rfl|(simp;done)|(simp [*];done)|(refine congrArg Value.bool ?_;exact isE_ _)),H',⟨by have:=HJ2.out;have:=HJ21.out;have:=HK3.out;omega⟩,⟨by(with_reducible repeat (first|apply Kd.N_alloc|apply Kd.N_drewN|apply Kd.N_drew));exact HO_5.out⟩,⟨by(with_reducible repeat (first|apply Kd.N_alloc|apply Kd.N_drewN|apply Kd.N_drew));exact HO_6.out⟩,⟨by(with_reducible repeat (first|refine kN_ ?_ _|refine kD_ ?_|refine kA_ ?_ _));exact BK242.out⟩,⟨by(with_reducible repeat (first|refine kN_ ?_ _|refine kD_ ?_|refine kA_ ?_ _));exact BK243.out⟩,⟨by repeat (first|(with_reducible first|exact HB.out|apply bA_|apply bN_|apply bD_|refine bS_ ?_ GE242.out|refine bS_ ?_ GE243.out)|exact HB.out)⟩⟩
            ·replace c59:=Bool.eq_false_iff.mpr c59
             subst c59
             have H1:(some false)=some r:=by rw [if_neg (show ¬ (false=true) by decide)] at H;exact H
             clear H
             have H:=H1
             clear H1
             exact absurd ((Option.some.inj H).trans HT.out) (by decide)
           ·rw [if_neg c57] at H
            exact absurd H (by simp)
          ·rw [if_neg c56] at H
           exact absurd H (by simp)
         ·rw [if_neg c55] at H
          have c55b0:decide (x7_3 < (t247.length:Int))=false:=decide_eq_false c55
          clear c55
          replace H:=Option.bind_eq_some_iff.mp H
          obtain⟨t265,A630,H⟩:=H
          replace H:(some t265)=some r:=H
          have A63:=Az.mk A630
          clear A630
          obtain rfl:=Option.some.inj H
          obtain⟨Ao64,co64,eo64⟩:=Kd.N_slice HO_5.out
          subst eo64
          go_wp2_with (first|((with_reducible refine gate_callee (f:=10) rfl ?_);refine goesL_ (some 63) rfl rfl Try.func10 (by kernel_rfl) rfl #[] rfl (by(try simp only [List.map_toArray,List.map_cons,List.map_nil]);first|done|rfl|(simp only [List.length_drop,List.length_take];rfl)) ?_;(with_reducible refine(arboristlaw46_knows.calls k3  t265 _ A63.out).mono ?_);rintro e w65 ⟨rfl,hb⟩;refine⟨_,rfl,?_⟩;have n0_:=Az.mk (Kd.N_below (by(with_reducible repeat (first|apply Kd.N_alloc|apply Kd.N_drewN|apply Kd.N_drew));exact HO_5.out) hb);have n1_:=Az.mk (Kd.N_below (by(with_reducible repeat (first|apply Kd.N_alloc|apply Kd.N_drewN|apply Kd.N_drew));exact HO_6.out) hb);have n2_:=Az.mk (kB_ (g:=gb242) (o:=.cells #[.slice A0_0 l0_0.length c0_0,.slice A0_1 l0_1.length c0_1,.slice A0_2 l0_2.length c0_2,.slice A0_3 l0_3.length c0_3,.slice A0_4 l0_4.length c0_4] 27 (0,0)) (by(with_reducible repeat (first|refine kN_ ?_ _|refine kD_ ?_|refine kA_ ?_ _));exact BK242.out) hb);have n3_:=Az.mk (kB_ (g:=gb243) (o:=.cells #[.int .i64 a1_0,.int .i64 a1_1,.int .i64 a1_2,.int .i64 a1_3,.slice A1_4 l1_4.length c1_4,.string a1_5,.slice A1_6 l1_6.length c1_6] 32 (0,0)) (by(with_reducible repeat (first|refine kN_ ?_ _|refine kD_ ?_|refine kA_ ?_ _));exact BK243.out) hb);have n4_:=Az.mk (bT_ (by repeat (first|(with_reducible first|exact HB.out|apply bA_|apply bN_|apply bD_|refine bS_ ?_ GE242.out|refine bS_ ?_ GE243.out)|exact HB.out)) hb);clear HO_5;clear HO_6;clear BK242;clear BK243;clear HB;have HO_5:=n0_;have HO_6:=n1_;have BK242:=n2_;have BK243:=n3_;have HB:=n4_;clear n0_ n1_ n2_ n3_ n4_;(try clear hb);(try clear hb2);(try clear hk);(try clear hi)))
          go_ret
          exact⟨by first|rfl|(simp [errW_none,errW_some] <;> rfl)|(simp [*,errW_none,errW_some] <;> rfl),by repeat (first|(with_reducible first|exact HB.out|apply bA_|apply bN_|apply bD_|refine bS_ ?_ GE242.out|refine bS_ ?_ GE243.out)|exact HB.out)⟩
def arboristlaw46_FieldsTells.f (k:Nat)(l0_0:List ByteArray)(l0_1:List ByteArray)(l0_2:List Int)(l0_3:List (S67))(l0_4:List (S78))(a1_0:Int)(a1_1:Int)(a1_2:Int)(a1_3:Int)(l1_4:List (S53))(a1_5:ByteArray)(l1_6:List (S32)):Option Bool:=(arboristlaw46_FieldsTells_.f k l0_0 l0_1 l0_2 l0_3 l0_4 a1_0 a1_1 a1_2 a1_3 l1_4 a1_5 l1_6).bind fun r=>if r=true then some true else none
theorem arboristlaw46_FieldsTells.calls (k:Nat)(A0_0:Option Addr)(c0_0:Nat)(l0_0:List ByteArray)(A0_1:Option Addr)(c0_1:Nat)(l0_1:List ByteArray)(A0_2:Option Addr)(c0_2:Nat)(l0_2:List Int)(A0_3:Option Addr)(c0_3:Nat)(l0_3:List (S67))(A0_4:Option Addr)(c0_4:Nat)(l0_4:List (S78))(a1_0:Int)(a1_1:Int)(a1_2:Int)(a1_3:Int)(A1_4:Option Addr)(c1_4:Nat)(l1_4:List (S53))(a1_5:ByteArray)(A1_6:Option Addr)(c1_6:Nat)(l1_6:List (S32))(r:Bool)(w:World)(hr0_0:Kd.C Kd.string w A0_0 l0_0.length l0_0)(hc0_0:l0_0.length≤c0_0)(hr0_1:Kd.C Kd.string w A0_1 l0_1.length l0_1)(hc0_1:l0_1.length≤c0_1)(hr0_2:Kd.C (Kd.int .i64) w A0_2 l0_2.length l0_2)(hc0_2:l0_2.length≤c0_2)(hr0_3:Kd.C k67 w A0_3 l0_3.length l0_3)(hc0_3:l0_3.length≤c0_3)(hr0_4:Kd.C k78 w A0_4 l0_4.length l0_4)(hc0_4:l0_4.length≤c0_4)(hr1_4:Kd.C k53 w A1_4 l1_4.length l1_4)(hc1_4:l1_4.length≤c1_4)(hr1_6:Kd.C k32 w A1_6 l1_6.length l1_6)(hc1_6:l1_6.length≤c1_6)(h:arboristlaw46_FieldsTells.f k l0_0 l0_1 l0_2 l0_3 l0_4 a1_0 a1_1 a1_2 a1_3 l1_4 a1_5 l1_6=some r) :
  Calls Try.prog 3 #[.agg #[.slice A0_0 l0_0.length c0_0,.slice A0_1 l0_1.length c0_1,.slice A0_2 l0_2.length c0_2,.slice A0_3 l0_3.length c0_3,.slice A0_4 l0_4.length c0_4],.agg #[.int .i64 a1_0,.int .i64 a1_1,.int .i64 a1_2,.int .i64 a1_3,.slice A1_4 l1_4.length c1_4,.string a1_5,.slice A1_6 l1_6.length c1_6]] w fun e w'=>e=.returned (.bool r)∧Below w.heap.size w w':=by
 unfold arboristlaw46_FieldsTells.f at h
 obtain⟨r',h1,h2⟩:=Option.bind_eq_some_iff.1 h
 by_cases hr:r'=true
 ·subst hr
  rw [if_pos rfl] at h2
  obtain rfl:=Option.some.inj h2
  exact arboristlaw46_FieldsTells_.calls k A0_0 c0_0 l0_0 A0_1 c0_1 l0_1 A0_2 c0_2 l0_2 A0_3 c0_3 l0_3 A0_4 c0_4 l0_4 a1_0 a1_1 a1_2 a1_3 A1_4 c1_4 l1_4 a1_5 A1_6 c1_6 l1_6 true w rfl hr0_0 hc0_0 hr0_1 hc0_1 hr0_2 hc0_2 hr0_3 hc0_3 hr0_4 hc0_4 hr1_4 hc1_4 hr1_6 hc1_6 h1
 ·rw [if_neg hr] at h2
  cases h2
end Go.Proofs.Ytgdbcogbbghjaaa.Q
