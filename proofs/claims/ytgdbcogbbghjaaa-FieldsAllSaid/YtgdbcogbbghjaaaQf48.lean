import Derived.Test.YtgdbcogbbghjaaaQ0
import Derived.Test.YtgdbcogbbghjaaaQf51
namespace Go.Proofs.Ytgdbcogbbghjaaa.Q
open Go.RowKit Go.Proofs.YtgdbcogbbghjaaaW.PrintWords Go.Proofs.YtgdbcogbbghjaaaW.PrintLast Go.Proofs.YtgdbcogbbghjaaaW.PrintMore
attribute [local go_sem] max2_int min2_int max_two min_two max_three min_three max_four min_four   -- for this text's walks alone
set_option linter.unusedVariables false
set_option linter.unusedSimpArgs false
mutual
def arboristref15_start.j0:Nat→Bool→List ByteArray→List ByteArray→List Int→List (S67)→List (S78)→Option (Bool)
 | 0,_,_,_,_,_,_=>none
 | k + 1,x33,x354000,x354001,x354002,x354003,x354004=>if x33=true then(some true)else(arboristref15_start.l0 k 1 x354000 x354001 x354002 x354003 x354004)
def arboristref15_start.l0:Nat→Int→List ByteArray→List ByteArray→List Int→List (S67)→List (S78)→Option (Bool)
 | 0,_,_,_,_,_,_=>none
 | k + 1,x4,x354000,x354001,x354002,x354003,x354004=>if x4 < (x354003.length:Int)then(if 0≤x4 then(if ((rd_T67 x354003 x4).f0)=0 then(some true)else(arboristref15_start.l0 k (wrap64 (x4 + 1)) x354000 x354001 x354002 x354003 x354004))else(none))else(some false)
end
def arboristref15_start.f (k:Nat)(l0_0:List ByteArray)(l0_1:List ByteArray)(l0_2:List Int)(l0_3:List (S67))(l0_4:List (S78)):Option (Bool):=if 0 < (l0_3.length:Int)then(if ((rd_T67 l0_3 0).f0)=0 then(if (((rd_T67 l0_3 0).f1).length:Int)=1 then(if 0 < (((rd_T67 l0_3 0).f1).length:Int)then(if (rd ((rd_T67 l0_3 0).f1) 0) ≥ (-1)then(arboristref15_start.j0 k true l0_0 l0_1 l0_2 l0_3 l0_4)else((arboristref15_Is.f l0_0 l0_1 l0_2 l0_3 l0_4 (rd ((rd_T67 l0_3 0).f1) 0)).bind fun t358=>(arboristref15_start.j0 k (!t358) l0_0 l0_1 l0_2 l0_3 l0_4)))else(none))else(arboristref15_start.j0 k true l0_0 l0_1 l0_2 l0_3 l0_4))else(arboristref15_start.j0 k true l0_0 l0_1 l0_2 l0_3 l0_4))else(none)
def arboristref15_start.T2:Bool × List (List Nat × List Nat):=(true,[([],[]),([0],[0]),([1],[1]),([2],[2]),([3],[3]),([4,3],[3,4]),([5,3],[3,5]),([6,3],[3,6]),([3,7],[3,7]),([8,3],[8]),([9],[9]),([10,9],[9,10]),([11,9],[9,11]),([12,9],[9,12]),([13,9],[9,13]),([9,14],[9,14]),([15,9],[15]),([16],[16]),([16],[16]),([18,16],[16,18]),([19,16],[16,19]),([20,16],[16,20]),([17,21,16,16],[16,17,21]),([22,16],[16,22]),([16,23],[16,23])])
def arboristref15_start.B2:List Nat:=[0,1,3,7,15,31,63,127,255,511,1023,2047,4095,8191,16383,32767,65535,131071,131071,393215,917503,1966079,4194303,8388607,16777215]
theorem arboristref15_start.tab2:rtab .any (opsOf Try.f48 2)=arboristref15_start.T2:=by kernel_rfl
theorem arboristref15_start.bits2:waitsOk arboristref15_start.T2.2 arboristref15_start.B2=true:=by kernel_rfl
set_option maxHeartbeats 8000000 in
set_option maxRecDepth 100000 in
theorem arboristref15_start.calls (k:Nat)(A0_0:Option Addr)(c0_0:Nat)(l0_0:List ByteArray)(A0_1:Option Addr)(c0_1:Nat)(l0_1:List ByteArray)(A0_2:Option Addr)(c0_2:Nat)(l0_2:List Int)(A0_3:Option Addr)(c0_3:Nat)(l0_3:List (S67))(A0_4:Option Addr)(c0_4:Nat)(l0_4:List (S78))(r:Bool)(w:World)(hr0_0:Kd.C Kd.string w A0_0 l0_0.length l0_0)(hc0_0:l0_0.length≤c0_0)(hr0_1:Kd.C Kd.string w A0_1 l0_1.length l0_1)(hc0_1:l0_1.length≤c0_1)(hr0_2:Kd.C (Kd.int .i64) w A0_2 l0_2.length l0_2)(hc0_2:l0_2.length≤c0_2)(hr0_3:Kd.C k67 w A0_3 l0_3.length l0_3)(hc0_3:l0_3.length≤c0_3)(hr0_4:Kd.C k78 w A0_4 l0_4.length l0_4)(hc0_4:l0_4.length≤c0_4)(h:arboristref15_start.f k l0_0 l0_1 l0_2 l0_3 l0_4=some r) :
  Calls Try.prog 48 #[.agg #[.slice A0_0 l0_0.length c0_0,.slice A0_1 l0_1.length c0_1,.slice A0_2 l0_2.length c0_2,.slice A0_3 l0_3.length c0_3,.slice A0_4 l0_4.length c0_4]] w fun e w'=>e=.returned (.bool r)∧Below w.heap.size w w':=by
 have hu27:=Try.underlying27
 have hu67:=Try.underlying67
 have HR0_0:=Az.mk hr0_0
 have HC0_0:=Az.mk hc0_0
 clear hr0_0 hc0_0
 have HR0_1:=Az.mk hr0_1
 have HC0_1:=Az.mk hc0_1
 clear hr0_1 hc0_1
 have HR0_2:=Az.mk hr0_2
 have HC0_2:=Az.mk hc0_2
 clear hr0_2 hc0_2
 have HR0_3:=Az.mk hr0_3
 have HC0_3:=Az.mk hc0_3
 clear hr0_3 hc0_3
 have HR0_4:=Az.mk hr0_4
 have HC0_4:=Az.mk hc0_4
 clear hr0_4 hc0_4
 have HB:=Az.mk (Below.refl w.heap.size w)
 have H:(if 0 < (l0_3.length:Int)then(if ((rd_T67 l0_3 0).f0)=0 then(if (((rd_T67 l0_3 0).f1).length:Int)=1 then(if 0 < (((rd_T67 l0_3 0).f1).length:Int)then(if (rd ((rd_T67 l0_3 0).f1) 0) ≥ (-1)then(arboristref15_start.j0 k true l0_0 l0_1 l0_2 l0_3 l0_4)else((arboristref15_Is.f l0_0 l0_1 l0_2 l0_3 l0_4 (rd ((rd_T67 l0_3 0).f1) 0)).bind fun t358=>(arboristref15_start.j0 k (!t358) l0_0 l0_1 l0_2 l0_3 l0_4)))else(none))else(arboristref15_start.j0 k true l0_0 l0_1 l0_2 l0_3 l0_4))else(arboristref15_start.j0 k true l0_0 l0_1 l0_2 l0_3 l0_4))else(none))=some r:=h
 clear h
 by_cases c2:0 < (l0_3.length:Int)
 rotate_left
 ·rw [if_neg c2] at H
  exact absurd H (by simp)
 rw [if_pos c2] at H
 have c2b0:=decide_eq_true c2
 have c2b1:decide (0 < l0_3.length)=true:=decide_eq_true (by omega)
 clear c2
 have HC3:=Az.mk H
 clear H
 go_enter Try.func48,Try.ntmps48
 go_upto_region 2 with(first|((with_reducible refine gate_dst (N:=1) rfl ?_);(try (refine gate_guard (by rfl) ?_;dsimp only));refine box_event ?hg (N:=1) ?hd (cs:=#[.slice A0_0 l0_0.length c0_0,.slice A0_1 l0_1.length c0_1,.slice A0_2 l0_2.length c0_2,.slice A0_3 l0_3.length c0_3,.slice A0_4 l0_4.length c0_4]) (t:=27) ?hr ?_;(case hd=>rfl);(case hg=>rfl);(case hr=>first|(go_simp;done)|(go_simp;rfl));intro gb353 hg w4 hbox hb;have n0_:=Az.mk (bT_ HB.out hb);have n1_:=Az.mk (hbox);have n2_:=Az.mk ((szl_ HB.out hg));have n3_:=Az.mk ((szl_ HB.out hg));clear HB;have HB:=n0_;have BK353:=n1_;have GW353:=n2_;have GE353:=n3_;clear n0_ n1_ n2_ n3_;clear hb hbox hg;obtain⟨hcz5_0,hcz5_1,hcz5_2,hcz5_3,hcz5_4,hfz5_0,hfz5_1,hfz5_2,hfz5_3,hfz5_4⟩:=cf5_ BK353.out;have p354:0≤(0:Int):=(by omega);have q354:0 < (l0_3.length:Int):=of_decide_eq_true (by assumption);obtain⟨ad354,A354_1,c354_1,A354_2,c354_2,e354,hx354_0,hx354_1,hx354_2,hx354_3,hx354_4,hl354_1,hi354_1,hl354_2,hi354_2⟩:=at_T67 HR0_3.out 0 p354 q354;cases e354;have qi354:(0 < l0_3.length)=True:=eq_true (by omega);(try rw [tn0_] at hx354_0);(try rw [show 0 * 5=0 from rfl] at hx354_0);(try rw [Addr.add_zero'] at hx354_0);(try rw [tn0_] at hx354_1);(try rw [show 0 * 5=0 from rfl] at hx354_1);(try rw [Addr.add_zero'] at hx354_1);(try rw [tn0_] at hx354_2);(try rw [show 0 * 5=0 from rfl] at hx354_2);(try rw [Addr.add_zero'] at hx354_2);(try rw [tn0_] at hx354_3);(try rw [show 0 * 5=0 from rfl] at hx354_3);(try rw [Addr.add_zero'] at hx354_3);(try rw [tn0_] at hx354_4);(try rw [show 0 * 5=0 from rfl] at hx354_4);(try rw [Addr.add_zero'] at hx354_4);replace hx354_0:=bc_ HB.out hx354_0;replace hx354_1:=bc_ HB.out hx354_1;replace hx354_2:=bc_ HB.out hx354_2;replace hx354_3:=bc_ HB.out hx354_3;replace hx354_4:=bc_ HB.out hx354_4;have HR354_1:=Az.mk hi354_1;have HC354_1:=Az.mk hl354_1;clear hi354_1 hl354_1;have HR354_2:=Az.mk hi354_2;have HC354_2:=Az.mk hl354_2;clear hi354_2 hl354_2;replace p354:=eq_true p354;replace q354:=eq_true q354)|((with_reducible refine gate_dst (N:=3) rfl ?_);(try (refine gate_guard (by rfl) ?_;dsimp only));refine box_event ?hg (N:=3) ?hd (cs:=#[.int .i64 0,.slice none 0 0,.slice none 0 0,.string (⟨#[]⟩:ByteArray),.int .i64 0]) (t:=67) ?hr ?_;(case hd=>rfl);(case hg=>rfl);(case hr=>first|(go_simp;done)|(go_simp;rfl));intro gb355 hg w6 hbox hb;have n0_:=Az.mk (kB_ BK353.out hb);have n1_:=Az.mk (bT_ HB.out hb);have n2_:=Az.mk (hbox);have n3_:=Az.mk ((szl_ HB.out hg));have n4_:=Az.mk ((szl_ HB.out hg));have n5_:=Az.mk ((nel_ BK353.out hg));have n6_:=Az.mk ((ner_ BK353.out hg));clear BK353;clear HB;have BK353:=n0_;have HB:=n1_;have BK355:=n2_;have GW355:=n3_;have GE355:=n4_;have NB353_355:=n5_;have NB355_353:=n6_;clear n0_ n1_ n2_ n3_ n4_ n5_ n6_;clear hb hbox hg;have hnb7:=NB355_353.out;have hnc7:=NB353_355.out;obtain⟨hcz8_0,hcz8_1,hcz8_2,hcz8_3,hcz8_4,hfz8_0,hfz8_1,hfz8_2,hfz8_3,hfz8_4⟩:=cf5_ BK355.out))
 (try simp only [Act.put,sT_,s0_,sC_])
 go_cut [33] (fun v33 wc=>∃ (kq:Nat) (x33_2:Bool),v33=.bool x33_2∧Az (arboristref15_start.j0 kq x33_2 l0_0 l0_1 l0_2 l0_3 l0_4=some r)∧Az (kq≤k)∧Az (wc.heap[gb353]?=some (.cells #[(.slice A0_0 l0_0.length c0_0),(.slice A0_1 l0_1.length c0_1),(.slice A0_2 l0_2.length c0_2),(.slice (some ad354) l0_3.length c0_3),(.slice A0_4 l0_4.length c0_4)] 27 (0,0)))∧Az (wc.heap[gb355]?=some (.cells #[.int .i64 ((rd_T67 l0_3 0).f0),(.slice A354_1 ((rd_T67 l0_3 0).f1).length c354_1),(.slice A354_2 ((rd_T67 l0_3 0).f2).length c354_2),.string ((rd_T67 l0_3 0).f3),.int .i64 ((rd_T67 l0_3 0).f4)] 67 (0,0)))∧Az (Below w.heap.size w wc))
 case first =>
  have H:=HC3.out
  clear HC3
  by_cases c9:((rd_T67 l0_3 0).f0)=0
  rotate_left
  ·rw [if_neg c9] at H
   have c9b0:=beq_eq_false_iff_ne.mpr c9
   have c9b1:=bne_iff_ne.mpr c9
   (first|rw [c9b0]|(simp only [i64_w,i32_w];rw [c9b0])|skip)
   have H':=Az.mk H
   clear H
   try go_wp2
   have n0_:Az ((((((w6.setCell ⟨gb355,0,none⟩ (.int .i64 ((rd_T67 l0_3 0).f0))).setCell ⟨gb355,1,none⟩ (.slice A354_1 ((rd_T67 l0_3 0).f1).length c354_1)).setCell ⟨gb355,2,none⟩ (.slice A354_2 ((rd_T67 l0_3 0).f2).length c354_2)).setCell ⟨gb355,3,none⟩ (.string ((rd_T67 l0_3 0).f3))).setCell ⟨gb355,4,none⟩ (.int .i64 ((rd_T67 l0_3 0).f4))).heap[gb353]?=some (.cells #[.slice A0_0 l0_0.length c0_0,.slice A0_1 l0_1.length c0_1,.slice A0_2 l0_2.length c0_2,.slice (some ad354) l0_3.length c0_3,.slice A0_4 l0_4.length c0_4] 27 (0,0))):=⟨by(with_reducible repeat (first|refine kN_ ?_ _|refine kD_ ?_|refine kA_ ?_ _));refine kF_ ?_ NB353_355.out _;(with_reducible repeat (first|refine kN_ ?_ _|refine kD_ ?_|refine kA_ ?_ _));refine kF_ ?_ NB353_355.out _;(with_reducible repeat (first|refine kN_ ?_ _|refine kD_ ?_|refine kA_ ?_ _));refine kF_ ?_ NB353_355.out _;(with_reducible repeat (first|refine kN_ ?_ _|refine kD_ ?_|refine kA_ ?_ _));refine kF_ ?_ NB353_355.out _;(with_reducible repeat (first|refine kN_ ?_ _|refine kD_ ?_|refine kA_ ?_ _));refine kF_ ?_ NB353_355.out _;(with_reducible repeat (first|refine kN_ ?_ _|refine kD_ ?_|refine kA_ ?_ _));exact BK353.out⟩
   have n1_:Az ((((((w6.setCell ⟨gb355,0,none⟩ (.int .i64 ((rd_T67 l0_3 0).f0))).setCell ⟨gb355,1,none⟩ (.slice A354_1 ((rd_T67 l0_3 0).f1).length c354_1)).setCell ⟨gb355,2,none⟩ (.slice A354_2 ((rd_T67 l0_3 0).f2).length c354_2)).setCell ⟨gb355,3,none⟩ (.string ((rd_T67 l0_3 0).f3))).setCell ⟨gb355,4,none⟩ (.int .i64 ((rd_T67 l0_3 0).f4))).heap[gb355]?=some (.cells #[.int .i64 ((rd_T67 l0_3 0).f0),.slice A354_1 ((rd_T67 l0_3 0).f1).length c354_1,.slice A354_2 ((rd_T67 l0_3 0).f2).length c354_2,.string ((rd_T67 l0_3 0).f3),.int .i64 ((rd_T67 l0_3 0).f4)] 67 (0,0))):=⟨by(with_reducible repeat (first|refine kN_ ?_ _|refine kD_ ?_|refine kA_ ?_ _));refine kP_ (cs:=#[.int .i64 ((rd_T67 l0_3 0).f0),.slice A354_1 ((rd_T67 l0_3 0).f1).length c354_1,.slice A354_2 ((rd_T67 l0_3 0).f2).length c354_2,.string ((rd_T67 l0_3 0).f3),.int .i64 0]) ?_ 4 _ rfl;(with_reducible repeat (first|refine kN_ ?_ _|refine kD_ ?_|refine kA_ ?_ _));refine kP_ (cs:=#[.int .i64 ((rd_T67 l0_3 0).f0),.slice A354_1 ((rd_T67 l0_3 0).f1).length c354_1,.slice A354_2 ((rd_T67 l0_3 0).f2).length c354_2,.string (⟨#[]⟩:ByteArray),.int .i64 0]) ?_ 3 _ rfl;(with_reducible repeat (first|refine kN_ ?_ _|refine kD_ ?_|refine kA_ ?_ _));refine kP_ (cs:=#[.int .i64 ((rd_T67 l0_3 0).f0),.slice A354_1 ((rd_T67 l0_3 0).f1).length c354_1,.slice none 0 0,.string (⟨#[]⟩:ByteArray),.int .i64 0]) ?_ 2 _ rfl;(with_reducible repeat (first|refine kN_ ?_ _|refine kD_ ?_|refine kA_ ?_ _));refine kP_ (cs:=#[.int .i64 ((rd_T67 l0_3 0).f0),.slice none 0 0,.slice none 0 0,.string (⟨#[]⟩:ByteArray),.int .i64 0]) ?_ 1 _ rfl;(with_reducible repeat (first|refine kN_ ?_ _|refine kD_ ?_|refine kA_ ?_ _));refine kP_ (cs:=#[.int .i64 0,.slice none 0 0,.slice none 0 0,.string (⟨#[]⟩:ByteArray),.int .i64 0]) ?_ 0 _ rfl;(with_reducible repeat (first|refine kN_ ?_ _|refine kD_ ?_|refine kA_ ?_ _));exact BK355.out⟩
   have n2_:Az (Below w.heap.size w (((((w6.setCell ⟨gb355,0,none⟩ (.int .i64 ((rd_T67 l0_3 0).f0))).setCell ⟨gb355,1,none⟩ (.slice A354_1 ((rd_T67 l0_3 0).f1).length c354_1)).setCell ⟨gb355,2,none⟩ (.slice A354_2 ((rd_T67 l0_3 0).f2).length c354_2)).setCell ⟨gb355,3,none⟩ (.string ((rd_T67 l0_3 0).f3))).setCell ⟨gb355,4,none⟩ (.int .i64 ((rd_T67 l0_3 0).f4)))):=⟨by repeat (first|(with_reducible first|exact HB.out|apply bA_|apply bN_|apply bD_|refine bS_ ?_ GE353.out|refine bS_ ?_ GE355.out)|exact HB.out)⟩
   (try clear BK353)
   (try clear BK355)
   (try clear HB)
   generalize (((((w6.setCell ⟨gb355,0,none⟩ (.int .i64 ((rd_T67 l0_3 0).f0))).setCell ⟨gb355,1,none⟩ (.slice A354_1 ((rd_T67 l0_3 0).f1).length c354_1)).setCell ⟨gb355,2,none⟩ (.slice A354_2 ((rd_T67 l0_3 0).f2).length c354_2)).setCell ⟨gb355,3,none⟩ (.string ((rd_T67 l0_3 0).f3))).setCell ⟨gb355,4,none⟩ (.int .i64 ((rd_T67 l0_3 0).f4)))=w21 at n0_ n1_ n2_ ⊢
   have BK353:=n0_
   have BK355:=n1_
   have HB:=n2_
   clear n0_ n1_ n2_
   have n0_:=Az.mk (kD_ BK353.out)
   have n1_:=Az.mk (kD_ BK355.out)
   have n2_:=Az.mk (bD_ HB.out)
   clear BK353
   clear BK355
   clear HB
   have BK353:=n0_
   have BK355:=n1_
   have HB:=n2_
   clear n0_ n1_ n2_
   refine start_ (n:=25) (S:=fun w'=>w'.cell? ⟨gb355,0,none⟩=some (.int .i64 ((rd_T67 l0_3 0).f0))∧w'.cell? ⟨gb355,1,none⟩=some (.slice A354_1 ((rd_T67 l0_3 0).f1).length c354_1)∧w'.cell? ⟨gb355,2,none⟩=some (.slice A354_2 ((rd_T67 l0_3 0).f2).length c354_2)∧w'.cell? ⟨gb355,3,none⟩=some (.string ((rd_T67 l0_3 0).f3))∧w'.cell? ⟨gb355,4,none⟩=some (.int .i64 ((rd_T67 l0_3 0).f4))) (ds:=[]) #[Z,Z,Z,Z,Z,Z,Z,Z,Z,Z,Z,Z,Z,Z,Z,Z,Z,Z,Z,Z,Z,Z,Z,Z,Z] (by kernel_rfl) rfl rfl ⟨(bC_ BK355.out 0).trans rfl,(bC_ BK355.out 1).trans rfl,(bC_ BK355.out 2).trans rfl,(bC_ BK355.out 3).trans rfl,(bC_ BK355.out 4).trans rfl⟩ (fun hHeld=>?_);refine with_tabW arboristref15_start.tab2 arboristref15_start.bits2 (fun HT_ HW_=>?_)
   generalize w21.drew=w22 at BK353 BK355 HB hHeld ⊢
   refine pure_ (i:=0) (N:=some 9) (v:=?_) (a':=?_) #[Y,Z,Z,Z,Z,Z,Z,Z,Z,Z,Z,Z,Z,Z,Z,Z,Z,Z,Z,Z,Z,Z,Z,Z,Z] rfl rfl (any_of HT_.out (by kernel_rfl)) (fun _ _ _ h=>h) (Or.inl ⟨by rfl,?_⟩) ?_ ?_
   rotate_left
   ·intro w'
    go_simp
    with_reducible rfl
   rotate_left
   ·simp only [Act.put,sT_,s0_,sC_,i64_w,i32_w]
    rfl
   refine take_ (i:=1) (N:=some 10) (v:=?_) (a':=?_) #[Y,Y,Z,Z,Z,Z,Z,Z,Z,Z,Z,Z,Z,Z,Z,Z,Z,Z,Z,Z,Z,Z,Z,Z,Z] rfl rfl (take_ofW HT_.out HW_.out (by kernel_rfl)) (fun _ _ _ h=>h) (Or.inl ⟨by rfl,?_⟩) hHeld ?_ ?_
   rotate_left
   ·rintro w' ⟨s0,s1,s2,s3,s4⟩
    go_simp
    with_reducible rfl
   rotate_left
   ·simp only [Act.put,sT_,s0_,sC_,i64_w,i32_w]
    rfl
   refine pure_ (i:=2) (N:=some 11) (v:=?_) (a':=?_) #[Y,Y,Y,Z,Z,Z,Z,Z,Z,Z,Z,Z,Z,Z,Z,Z,Z,Z,Z,Z,Z,Z,Z,Z,Z] rfl rfl (any_of HT_.out (by kernel_rfl)) (fun _ _ _ h=>h) (Or.inl ⟨by rfl,?_⟩) ?_ ?_
   rotate_left
   ·intro w'
    go_simp
    with_reducible rfl
   rotate_left
   ·simp only [Act.put,sT_,s0_,sC_,i64_w,i32_w]
    rfl
   refine pure_ (i:=3) (N:=some 12) (v:=?_) (a':=?_) #[Y,Y,Y,Y,Z,Z,Z,Z,Z,Z,Z,Z,Z,Z,Z,Z,Z,Z,Z,Z,Z,Z,Z,Z,Z] rfl rfl (any_of HT_.out (by kernel_rfl)) (fun _ _ _ h=>h) (Or.inl ⟨by rfl,?_⟩) ?_ ?_
   rotate_left
   ·intro w'
    go_simp
    with_reducible rfl
   rotate_left
   ·simp only [Act.put,sT_,s0_,sC_,i64_w,i32_w]
    rfl
   refine pure_ (i:=4) (N:=some 13) (v:=undef) (a':=?_) #[Y,Y,Y,Y,Y,Z,Z,Z,Z,Z,Z,Z,Z,Z,Z,Z,Z,Z,Z,Z,Z,Z,Z,Z,Z] rfl rfl (any_of HT_.out (by kernel_rfl)) (fun _ _ _ h=>h) (Or.inr ⟨by rfl,rfl⟩) ?_ ?_
   rotate_left
   ·simp only [Act.put,sT_,s0_,sC_,i64_w,i32_w]
    rfl
   refine pure_ (i:=5) (N:=some 14) (v:=undef) (a':=?_) #[Y,Y,Y,Y,Y,Y,Z,Z,Z,Z,Z,Z,Z,Z,Z,Z,Z,Z,Z,Z,Z,Z,Z,Z,Z] rfl rfl (any_of HT_.out (by kernel_rfl)) (fun _ _ _ h=>h) (Or.inr ⟨by rfl,rfl⟩) ?_ ?_
   rotate_left
   ·simp only [Act.put,sT_,s0_,sC_,i64_w,i32_w]
    rfl
   refine pure_ (i:=6) (N:=some 15) (v:=undef) (a':=?_) #[Y,Y,Y,Y,Y,Y,Y,Z,Z,Z,Z,Z,Z,Z,Z,Z,Z,Z,Z,Z,Z,Z,Z,Z,Z] rfl rfl (any_of HT_.out (by kernel_rfl)) (fun _ _ _ h=>h) (Or.inr ⟨by rfl,rfl⟩) ?_ ?_
   rotate_left
   ·simp only [Act.put,sT_,s0_,sC_,i64_w,i32_w]
    rfl
   refine pure_ (i:=7) (N:=some 16) (v:=undef) (a':=?_) #[Y,Y,Y,Y,Y,Y,Y,Y,Z,Z,Z,Z,Z,Z,Z,Z,Z,Z,Z,Z,Z,Z,Z,Z,Z] rfl rfl (any_of HT_.out (by kernel_rfl)) (fun _ _ _ h=>h) (Or.inr ⟨by rfl,rfl⟩) ?_ ?_
   rotate_left
   ·simp only [Act.put,sT_,s0_,sC_,i64_w,i32_w]
    rfl
   refine pure_ (i:=8) (N:=some 17) (v:=?_) (a':=?_) #[Y,Y,Y,Y,Y,Y,Y,Y,Y,Z,Z,Z,Z,Z,Z,Z,Z,Z,Z,Z,Z,Z,Z,Z,Z] rfl rfl (any_of HT_.out (by kernel_rfl)) (fun _ _ _ h=>h) (Or.inl ⟨by rfl,?_⟩) ?_ ?_
   rotate_left
   ·intro w'
    go_simp
    with_reducible rfl
   rotate_left
   ·simp only [Act.put,sT_,s0_,sC_,i64_w,i32_w]
    rfl
   refine pure_ (i:=9) (N:=some 18) (v:=?_) (a':=?_) #[Y,Y,Y,Y,Y,Y,Y,Y,Y,Y,Z,Z,Z,Z,Z,Z,Z,Z,Z,Z,Z,Z,Z,Z,Z] rfl rfl (any_of HT_.out (by kernel_rfl)) (fun _ _ _ h=>h) (Or.inl ⟨by rfl,?_⟩) ?_ ?_
   rotate_left
   ·intro w'
    go_simp
    with_reducible rfl
   rotate_left
   ·simp only [Act.put,sT_,s0_,sC_,i64_w,i32_w]
    rfl
   refine pure_ (i:=10) (N:=some 19) (v:=undef) (a':=?_) #[Y,Y,Y,Y,Y,Y,Y,Y,Y,Y,Y,Z,Z,Z,Z,Z,Z,Z,Z,Z,Z,Z,Z,Z,Z] rfl rfl (any_of HT_.out (by kernel_rfl)) (fun _ _ _ h=>h) (Or.inr ⟨by rfl,rfl⟩) ?_ ?_
   rotate_left
   ·simp only [Act.put,sT_,s0_,sC_,i64_w,i32_w]
    rfl
   refine pure_ (i:=11) (N:=some 20) (v:=undef) (a':=?_) #[Y,Y,Y,Y,Y,Y,Y,Y,Y,Y,Y,Y,Z,Z,Z,Z,Z,Z,Z,Z,Z,Z,Z,Z,Z] rfl rfl (any_of HT_.out (by kernel_rfl)) (fun _ _ _ h=>h) (Or.inr ⟨by rfl,rfl⟩) ?_ ?_
   rotate_left
   ·simp only [Act.put,sT_,s0_,sC_,i64_w,i32_w]
    rfl
   refine pure_ (i:=12) (N:=some 21) (v:=undef) (a':=?_) #[Y,Y,Y,Y,Y,Y,Y,Y,Y,Y,Y,Y,Y,Z,Z,Z,Z,Z,Z,Z,Z,Z,Z,Z,Z] rfl rfl (any_of HT_.out (by kernel_rfl)) (fun _ _ _ h=>h) (Or.inr ⟨by rfl,rfl⟩) ?_ ?_
   rotate_left
   ·simp only [Act.put,sT_,s0_,sC_,i64_w,i32_w]
    rfl
   refine pure_ (i:=13) (N:=some 22) (v:=undef) (a':=?_) #[Y,Y,Y,Y,Y,Y,Y,Y,Y,Y,Y,Y,Y,Y,Z,Z,Z,Z,Z,Z,Z,Z,Z,Z,Z] rfl rfl (any_of HT_.out (by kernel_rfl)) (fun _ _ _ h=>h) (Or.inr ⟨by rfl,rfl⟩) ?_ ?_
   rotate_left
   ·simp only [Act.put,sT_,s0_,sC_,i64_w,i32_w]
    rfl
   refine pure_ (i:=14) (N:=some 23) (v:=undef) (a':=?_) #[Y,Y,Y,Y,Y,Y,Y,Y,Y,Y,Y,Y,Y,Y,Y,Z,Z,Z,Z,Z,Z,Z,Z,Z,Z] rfl rfl (any_of HT_.out (by kernel_rfl)) (fun _ _ _ h=>h) (Or.inr ⟨by rfl,rfl⟩) ?_ ?_
   rotate_left
   ·simp only [Act.put,sT_,s0_,sC_,i64_w,i32_w]
    rfl
   refine pure_ (i:=15) (N:=some 24) (v:=?_) (a':=?_) #[Y,Y,Y,Y,Y,Y,Y,Y,Y,Y,Y,Y,Y,Y,Y,Y,Z,Z,Z,Z,Z,Z,Z,Z,Z] rfl rfl (any_of HT_.out (by kernel_rfl)) (fun _ _ _ h=>h) (Or.inl ⟨by rfl,?_⟩) ?_ ?_
   rotate_left
   ·intro w'
    go_simp
    with_reducible rfl
   rotate_left
   ·simp only [Act.put,sT_,s0_,sC_,i64_w,i32_w]
    rfl
   refine pure_ (i:=16) (N:=some 25) (v:=?_) (a':=?_) #[Y,Y,Y,Y,Y,Y,Y,Y,Y,Y,Y,Y,Y,Y,Y,Y,Y,Z,Z,Z,Z,Z,Z,Z,Z] rfl rfl (any_of HT_.out (by kernel_rfl)) (fun _ _ _ h=>h) (Or.inl ⟨by rfl,?_⟩) ?_ ?_
   rotate_left
   ·intro w'
    go_simp
    with_reducible rfl
   rotate_left
   ·simp only [Act.put,sT_,s0_,sC_,i64_w,i32_w]
    rfl
   refine pure_ (i:=17) (N:=some 26) (v:=undef) (a':=?_) #[Y,Y,Y,Y,Y,Y,Y,Y,Y,Y,Y,Y,Y,Y,Y,Y,Y,Y,Z,Z,Z,Z,Z,Z,Z] rfl rfl (any_of HT_.out (by kernel_rfl)) (fun _ _ _ h=>h) (Or.inr ⟨by rfl,rfl⟩) ?_ ?_
   rotate_left
   ·simp only [Act.put,sT_,s0_,sC_,i64_w,i32_w]
    rfl
   refine pure_ (i:=18) (N:=some 27) (v:=undef) (a':=?_) #[Y,Y,Y,Y,Y,Y,Y,Y,Y,Y,Y,Y,Y,Y,Y,Y,Y,Y,Y,Z,Z,Z,Z,Z,Z] rfl rfl (any_of HT_.out (by kernel_rfl)) (fun _ _ _ h=>h) (Or.inr ⟨by rfl,rfl⟩) ?_ ?_
   rotate_left
   ·simp only [Act.put,sT_,s0_,sC_,i64_w,i32_w]
    rfl
   refine pure_ (i:=19) (N:=some 28) (v:=undef) (a':=?_) #[Y,Y,Y,Y,Y,Y,Y,Y,Y,Y,Y,Y,Y,Y,Y,Y,Y,Y,Y,Y,Z,Z,Z,Z,Z] rfl rfl (any_of HT_.out (by kernel_rfl)) (fun _ _ _ h=>h) (Or.inr ⟨by rfl,rfl⟩) ?_ ?_
   rotate_left
   ·simp only [Act.put,sT_,s0_,sC_,i64_w,i32_w]
    rfl
   refine pure_ (i:=20) (N:=some 29) (v:=undef) (a':=?_) #[Y,Y,Y,Y,Y,Y,Y,Y,Y,Y,Y,Y,Y,Y,Y,Y,Y,Y,Y,Y,Y,Z,Z,Z,Z] rfl rfl (any_of HT_.out (by kernel_rfl)) (fun _ _ _ h=>h) (Or.inr ⟨by rfl,rfl⟩) ?_ ?_
   rotate_left
   ·simp only [Act.put,sT_,s0_,sC_,i64_w,i32_w]
    rfl
   refine pure_ (i:=21) (N:=some 30) (v:=undef) (a':=?_) #[Y,Y,Y,Y,Y,Y,Y,Y,Y,Y,Y,Y,Y,Y,Y,Y,Y,Y,Y,Y,Y,Y,Z,Z,Z] rfl rfl (any_of HT_.out (by kernel_rfl)) (fun _ _ _ h=>h) (Or.inr ⟨by rfl,rfl⟩) ?_ ?_
   rotate_left
   ·simp only [Act.put,sT_,s0_,sC_,i64_w,i32_w]
    rfl
   refine pure_ (i:=22) (N:=some 31) (v:=undef) (a':=?_) #[Y,Y,Y,Y,Y,Y,Y,Y,Y,Y,Y,Y,Y,Y,Y,Y,Y,Y,Y,Y,Y,Y,Y,Z,Z] rfl rfl (any_of HT_.out (by kernel_rfl)) (fun _ _ _ h=>h) (Or.inr ⟨by rfl,rfl⟩) ?_ ?_
   rotate_left
   ·simp only [Act.put,sT_,s0_,sC_,i64_w,i32_w]
    rfl
   refine pure_ (i:=23) (N:=some 32) (v:=undef) (a':=?_) #[Y,Y,Y,Y,Y,Y,Y,Y,Y,Y,Y,Y,Y,Y,Y,Y,Y,Y,Y,Y,Y,Y,Y,Y,Z] rfl rfl (any_of HT_.out (by kernel_rfl)) (fun _ _ _ h=>h) (Or.inr ⟨by rfl,rfl⟩) ?_ ?_
   rotate_left
   ·simp only [Act.put,sT_,s0_,sC_,i64_w,i32_w]
    rfl
   refine pure_ (i:=24) (N:=some 33) (v:=?_) (a':=?_) #[Y,Y,Y,Y,Y,Y,Y,Y,Y,Y,Y,Y,Y,Y,Y,Y,Y,Y,Y,Y,Y,Y,Y,Y,Y] rfl rfl (any_of HT_.out (by kernel_rfl)) (fun _ _ _ h=>h) (Or.inl ⟨by rfl,?_⟩) ?_ ?_
   rotate_left
   ·intro w'
    go_simp
    with_reducible rfl
   rotate_left
   ·simp only [Act.put,sT_,s0_,sC_,i64_w,i32_w]
    rfl
   refine done_ (done_of HT_.out (by kernel_rfl)) ?_
   try go_wp2
   go_meet
   case rel=>exact⟨_,(true),(by first|rfl|(simp;done)|(simp [*];done)|(refine congrArg Value.bool ?_;exact isE_ _)),H',⟨by first|omega|exact Nat.le_refl _⟩,⟨by(with_reducible repeat (first|refine kN_ ?_ _|refine kD_ ?_|refine kA_ ?_ _));exact BK353.out⟩,⟨by(with_reducible repeat (first|refine kN_ ?_ _|refine kD_ ?_|refine kA_ ?_ _));exact BK355.out⟩,⟨by repeat (first|(with_reducible first|exact HB.out|apply bA_|apply bN_|apply bD_|refine bS_ ?_ GE353.out|refine bS_ ?_ GE355.out)|exact HB.out)⟩⟩
  rw [if_pos c9] at H
  have c9b0:=beq_iff_eq.mpr c9
  have c9b1:=bne_eq_false_iff_eq.mpr c9
  clear c9
  (first|rw [c9b0]|(simp only [i64_w,i32_w];rw [c9b0])|skip)
  by_cases c10:(((rd_T67 l0_3 0).f1).length:Int)=1
  rotate_left
  ·rw [if_neg c10] at H
   have c10b0:=beq_eq_false_iff_ne.mpr c10
   have c10b1:=bne_iff_ne.mpr c10
   have H':=Az.mk H
   clear H
   try go_wp2
   have n0_:Az ((((((w6.setCell ⟨gb355,0,none⟩ (.int .i64 ((rd_T67 l0_3 0).f0))).setCell ⟨gb355,1,none⟩ (.slice A354_1 ((rd_T67 l0_3 0).f1).length c354_1)).setCell ⟨gb355,2,none⟩ (.slice A354_2 ((rd_T67 l0_3 0).f2).length c354_2)).setCell ⟨gb355,3,none⟩ (.string ((rd_T67 l0_3 0).f3))).setCell ⟨gb355,4,none⟩ (.int .i64 ((rd_T67 l0_3 0).f4))).heap[gb353]?=some (.cells #[.slice A0_0 l0_0.length c0_0,.slice A0_1 l0_1.length c0_1,.slice A0_2 l0_2.length c0_2,.slice (some ad354) l0_3.length c0_3,.slice A0_4 l0_4.length c0_4] 27 (0,0))):=⟨by(with_reducible repeat (first|refine kN_ ?_ _|refine kD_ ?_|refine kA_ ?_ _));refine kF_ ?_ NB353_355.out _;(with_reducible repeat (first|refine kN_ ?_ _|refine kD_ ?_|refine kA_ ?_ _));refine kF_ ?_ NB353_355.out _;(with_reducible repeat (first|refine kN_ ?_ _|refine kD_ ?_|refine kA_ ?_ _));refine kF_ ?_ NB353_355.out _;(with_reducible repeat (first|refine kN_ ?_ _|refine kD_ ?_|refine kA_ ?_ _));refine kF_ ?_ NB353_355.out _;(with_reducible repeat (first|refine kN_ ?_ _|refine kD_ ?_|refine kA_ ?_ _));refine kF_ ?_ NB353_355.out _;(with_reducible repeat (first|refine kN_ ?_ _|refine kD_ ?_|refine kA_ ?_ _));exact BK353.out⟩
   have n1_:Az ((((((w6.setCell ⟨gb355,0,none⟩ (.int .i64 ((rd_T67 l0_3 0).f0))).setCell ⟨gb355,1,none⟩ (.slice A354_1 ((rd_T67 l0_3 0).f1).length c354_1)).setCell ⟨gb355,2,none⟩ (.slice A354_2 ((rd_T67 l0_3 0).f2).length c354_2)).setCell ⟨gb355,3,none⟩ (.string ((rd_T67 l0_3 0).f3))).setCell ⟨gb355,4,none⟩ (.int .i64 ((rd_T67 l0_3 0).f4))).heap[gb355]?=some (.cells #[.int .i64 ((rd_T67 l0_3 0).f0),.slice A354_1 ((rd_T67 l0_3 0).f1).length c354_1,.slice A354_2 ((rd_T67 l0_3 0).f2).length c354_2,.string ((rd_T67 l0_3 0).f3),.int .i64 ((rd_T67 l0_3 0).f4)] 67 (0,0))):=⟨by(with_reducible repeat (first|refine kN_ ?_ _|refine kD_ ?_|refine kA_ ?_ _));refine kP_ (cs:=#[.int .i64 ((rd_T67 l0_3 0).f0),.slice A354_1 ((rd_T67 l0_3 0).f1).length c354_1,.slice A354_2 ((rd_T67 l0_3 0).f2).length c354_2,.string ((rd_T67 l0_3 0).f3),.int .i64 0]) ?_ 4 _ rfl;(with_reducible repeat (first|refine kN_ ?_ _|refine kD_ ?_|refine kA_ ?_ _));refine kP_ (cs:=#[.int .i64 ((rd_T67 l0_3 0).f0),.slice A354_1 ((rd_T67 l0_3 0).f1).length c354_1,.slice A354_2 ((rd_T67 l0_3 0).f2).length c354_2,.string (⟨#[]⟩:ByteArray),.int .i64 0]) ?_ 3 _ rfl;(with_reducible repeat (first|refine kN_ ?_ _|refine kD_ ?_|refine kA_ ?_ _));refine kP_ (cs:=#[.int .i64 ((rd_T67 l0_3 0).f0),.slice A354_1 ((rd_T67 l0_3 0).f1).length c354_1,.slice none 0 0,.string (⟨#[]⟩:ByteArray),.int .i64 0]) ?_ 2 _ rfl;(with_reducible repeat (first|refine kN_ ?_ _|refine kD_ ?_|refine kA_ ?_ _));refine kP_ (cs:=#[.int .i64 ((rd_T67 l0_3 0).f0),.slice none 0 0,.slice none 0 0,.string (⟨#[]⟩:ByteArray),.int .i64 0]) ?_ 1 _ rfl;(with_reducible repeat (first|refine kN_ ?_ _|refine kD_ ?_|refine kA_ ?_ _));refine kP_ (cs:=#[.int .i64 0,.slice none 0 0,.slice none 0 0,.string (⟨#[]⟩:ByteArray),.int .i64 0]) ?_ 0 _ rfl;(with_reducible repeat (first|refine kN_ ?_ _|refine kD_ ?_|refine kA_ ?_ _));exact BK355.out⟩
   have n2_:Az (Below w.heap.size w (((((w6.setCell ⟨gb355,0,none⟩ (.int .i64 ((rd_T67 l0_3 0).f0))).setCell ⟨gb355,1,none⟩ (.slice A354_1 ((rd_T67 l0_3 0).f1).length c354_1)).setCell ⟨gb355,2,none⟩ (.slice A354_2 ((rd_T67 l0_3 0).f2).length c354_2)).setCell ⟨gb355,3,none⟩ (.string ((rd_T67 l0_3 0).f3))).setCell ⟨gb355,4,none⟩ (.int .i64 ((rd_T67 l0_3 0).f4)))):=⟨by repeat (first|(with_reducible first|exact HB.out|apply bA_|apply bN_|apply bD_|refine bS_ ?_ GE353.out|refine bS_ ?_ GE355.out)|exact HB.out)⟩
   (try clear BK353)
   (try clear BK355)
   (try clear HB)
   generalize (((((w6.setCell ⟨gb355,0,none⟩ (.int .i64 ((rd_T67 l0_3 0).f0))).setCell ⟨gb355,1,none⟩ (.slice A354_1 ((rd_T67 l0_3 0).f1).length c354_1)).setCell ⟨gb355,2,none⟩ (.slice A354_2 ((rd_T67 l0_3 0).f2).length c354_2)).setCell ⟨gb355,3,none⟩ (.string ((rd_T67 l0_3 0).f3))).setCell ⟨gb355,4,none⟩ (.int .i64 ((rd_T67 l0_3 0).f4)))=w19 at n0_ n1_ n2_ ⊢
   have BK353:=n0_
   have BK355:=n1_
   have HB:=n2_
   clear n0_ n1_ n2_
   have n0_:=Az.mk (kD_ BK353.out)
   have n1_:=Az.mk (kD_ BK355.out)
   have n2_:=Az.mk (bD_ HB.out)
   clear BK353
   clear BK355
   clear HB
   have BK353:=n0_
   have BK355:=n1_
   have HB:=n2_
   clear n0_ n1_ n2_
   refine start_ (n:=25) (S:=fun w'=>w'.cell? ⟨gb355,0,none⟩=some (.int .i64 ((rd_T67 l0_3 0).f0))∧w'.cell? ⟨gb355,1,none⟩=some (.slice A354_1 ((rd_T67 l0_3 0).f1).length c354_1)∧w'.cell? ⟨gb355,2,none⟩=some (.slice A354_2 ((rd_T67 l0_3 0).f2).length c354_2)∧w'.cell? ⟨gb355,3,none⟩=some (.string ((rd_T67 l0_3 0).f3))∧w'.cell? ⟨gb355,4,none⟩=some (.int .i64 ((rd_T67 l0_3 0).f4))) (ds:=[]) #[Z,Z,Z,Z,Z,Z,Z,Z,Z,Z,Z,Z,Z,Z,Z,Z,Z,Z,Z,Z,Z,Z,Z,Z,Z] (by kernel_rfl) rfl rfl ⟨(bC_ BK355.out 0).trans rfl,(bC_ BK355.out 1).trans rfl,(bC_ BK355.out 2).trans rfl,(bC_ BK355.out 3).trans rfl,(bC_ BK355.out 4).trans rfl⟩ (fun hHeld=>?_);refine with_tabW arboristref15_start.tab2 arboristref15_start.bits2 (fun HT_ HW_=>?_)
   generalize w19.drew=w20 at BK353 BK355 HB hHeld ⊢
   refine pure_ (i:=0) (N:=some 9) (v:=?_) (a':=?_) #[Y,Z,Z,Z,Z,Z,Z,Z,Z,Z,Z,Z,Z,Z,Z,Z,Z,Z,Z,Z,Z,Z,Z,Z,Z] rfl rfl (any_of HT_.out (by kernel_rfl)) (fun _ _ _ h=>h) (Or.inl ⟨by rfl,?_⟩) ?_ ?_
   rotate_left
   ·intro w'
    go_simp
    with_reducible rfl
   rotate_left
   ·simp only [Act.put,sT_,s0_,sC_,i64_w,i32_w]
    rfl
   refine take_ (i:=1) (N:=some 10) (v:=?_) (a':=?_) #[Y,Y,Z,Z,Z,Z,Z,Z,Z,Z,Z,Z,Z,Z,Z,Z,Z,Z,Z,Z,Z,Z,Z,Z,Z] rfl rfl (take_ofW HT_.out HW_.out (by kernel_rfl)) (fun _ _ _ h=>h) (Or.inl ⟨by rfl,?_⟩) hHeld ?_ ?_
   rotate_left
   ·rintro w' ⟨s0,s1,s2,s3,s4⟩
    go_simp
    with_reducible rfl
   rotate_left
   ·simp only [Act.put,sT_,s0_,sC_,i64_w,i32_w]
    rfl
   refine pure_ (i:=2) (N:=some 11) (v:=?_) (a':=?_) #[Y,Y,Y,Z,Z,Z,Z,Z,Z,Z,Z,Z,Z,Z,Z,Z,Z,Z,Z,Z,Z,Z,Z,Z,Z] rfl rfl (any_of HT_.out (by kernel_rfl)) (fun _ _ _ h=>h) (Or.inl ⟨by rfl,?_⟩) ?_ ?_
   rotate_left
   ·intro w'
    go_simp
    with_reducible rfl
   rotate_left
   ·simp only [Act.put,sT_,s0_,sC_,i64_w,i32_w]
    rfl
   refine pure_ (i:=3) (N:=some 12) (v:=?_) (a':=?_) #[Y,Y,Y,Y,Z,Z,Z,Z,Z,Z,Z,Z,Z,Z,Z,Z,Z,Z,Z,Z,Z,Z,Z,Z,Z] rfl rfl (any_of HT_.out (by kernel_rfl)) (fun _ _ _ h=>h) (Or.inl ⟨by rfl,?_⟩) ?_ ?_
   rotate_left
   ·intro w'
    go_simp
    with_reducible rfl
   rotate_left
   ·simp only [Act.put,sT_,s0_,sC_,i64_w,i32_w]
    rfl
   refine pure_ (i:=4) (N:=some 13) (v:=?_) (a':=?_) #[Y,Y,Y,Y,Y,Z,Z,Z,Z,Z,Z,Z,Z,Z,Z,Z,Z,Z,Z,Z,Z,Z,Z,Z,Z] rfl rfl (any_of HT_.out (by kernel_rfl)) (fun _ _ _ h=>h) (Or.inl ⟨by rfl,?_⟩) ?_ ?_
   rotate_left
   ·intro w'
    go_simp
    with_reducible rfl
   rotate_left
   ·simp only [Act.put,sT_,s0_,sC_,i64_w,i32_w]
    rfl
   refine take_ (i:=5) (N:=some 14) (v:=?_) (a':=?_) #[Y,Y,Y,Y,Y,Y,Z,Z,Z,Z,Z,Z,Z,Z,Z,Z,Z,Z,Z,Z,Z,Z,Z,Z,Z] rfl rfl (take_ofW HT_.out HW_.out (by kernel_rfl)) (fun _ _ _ h=>h) (Or.inl ⟨by rfl,?_⟩) hHeld ?_ ?_
   rotate_left
   ·rintro w' ⟨s0,s1,s2,s3,s4⟩
    go_simp
    with_reducible rfl
   rotate_left
   ·simp only [Act.put,sT_,s0_,sC_,i64_w,i32_w]
    rfl
   refine pure_ (i:=6) (N:=some 15) (v:=?_) (a':=?_) #[Y,Y,Y,Y,Y,Y,Y,Z,Z,Z,Z,Z,Z,Z,Z,Z,Z,Z,Z,Z,Z,Z,Z,Z,Z] rfl rfl (any_of HT_.out (by kernel_rfl)) (fun _ _ _ h=>h) (Or.inl ⟨by rfl,?_⟩) ?_ ?_
   rotate_left
   ·intro w'
    go_simp
    with_reducible rfl
   rotate_left
   ·simp only [Act.put,sT_,s0_,sC_,i64_w,i32_w]
    rfl
   refine pure_ (i:=7) (N:=some 16) (v:=?_) (a':=?_) #[Y,Y,Y,Y,Y,Y,Y,Y,Z,Z,Z,Z,Z,Z,Z,Z,Z,Z,Z,Z,Z,Z,Z,Z,Z] rfl rfl (any_of HT_.out (by kernel_rfl)) (fun _ _ _ h=>h) (Or.inl ⟨by rfl,?_⟩) ?_ ?_
   rotate_left
   ·intro w'
    go_simp
    with_reducible rfl
   rotate_left
   ·simp only [Act.put,sT_,s0_,sC_,i64_w,i32_w]
    rfl
   refine pure_ (i:=8) (N:=some 17) (v:=?_) (a':=?_) #[Y,Y,Y,Y,Y,Y,Y,Y,Y,Z,Z,Z,Z,Z,Z,Z,Z,Z,Z,Z,Z,Z,Z,Z,Z] rfl rfl (any_of HT_.out (by kernel_rfl)) (fun _ _ _ h=>h) (Or.inl ⟨by rfl,?_⟩) ?_ ?_
   rotate_left
   ·intro w'
    go_simp
    with_reducible rfl
   rotate_left
   ·simp only [Act.put,sT_,s0_,sC_,i64_w,i32_w]
    rfl
   refine pure_ (i:=9) (N:=some 18) (v:=?_) (a':=?_) #[Y,Y,Y,Y,Y,Y,Y,Y,Y,Y,Z,Z,Z,Z,Z,Z,Z,Z,Z,Z,Z,Z,Z,Z,Z] rfl rfl (any_of HT_.out (by kernel_rfl)) (fun _ _ _ h=>h) (Or.inl ⟨by rfl,?_⟩) ?_ ?_
   rotate_left
   ·intro w'
    go_simp
    with_reducible rfl
   rotate_left
   ·simp only [Act.put,sT_,s0_,sC_,i64_w,i32_w]
    rfl
   refine pure_ (i:=10) (N:=some 19) (v:=undef) (a':=?_) #[Y,Y,Y,Y,Y,Y,Y,Y,Y,Y,Y,Z,Z,Z,Z,Z,Z,Z,Z,Z,Z,Z,Z,Z,Z] rfl rfl (any_of HT_.out (by kernel_rfl)) (fun _ _ _ h=>h) (Or.inr ⟨by rfl,rfl⟩) ?_ ?_
   rotate_left
   ·simp only [Act.put,sT_,s0_,sC_,i64_w,i32_w]
    rfl
   refine pure_ (i:=11) (N:=some 20) (v:=undef) (a':=?_) #[Y,Y,Y,Y,Y,Y,Y,Y,Y,Y,Y,Y,Z,Z,Z,Z,Z,Z,Z,Z,Z,Z,Z,Z,Z] rfl rfl (any_of HT_.out (by kernel_rfl)) (fun _ _ _ h=>h) (Or.inr ⟨by rfl,rfl⟩) ?_ ?_
   rotate_left
   ·simp only [Act.put,sT_,s0_,sC_,i64_w,i32_w]
    rfl
   refine pure_ (i:=12) (N:=some 21) (v:=undef) (a':=?_) #[Y,Y,Y,Y,Y,Y,Y,Y,Y,Y,Y,Y,Y,Z,Z,Z,Z,Z,Z,Z,Z,Z,Z,Z,Z] rfl rfl (any_of HT_.out (by kernel_rfl)) (fun _ _ _ h=>h) (Or.inr ⟨by rfl,rfl⟩) ?_ ?_
   rotate_left
   ·simp only [Act.put,sT_,s0_,sC_,i64_w,i32_w]
    rfl
   refine pure_ (i:=13) (N:=some 22) (v:=undef) (a':=?_) #[Y,Y,Y,Y,Y,Y,Y,Y,Y,Y,Y,Y,Y,Y,Z,Z,Z,Z,Z,Z,Z,Z,Z,Z,Z] rfl rfl (any_of HT_.out (by kernel_rfl)) (fun _ _ _ h=>h) (Or.inr ⟨by rfl,rfl⟩) ?_ ?_
   rotate_left
   ·simp only [Act.put,sT_,s0_,sC_,i64_w,i32_w]
    rfl
   refine pure_ (i:=14) (N:=some 23) (v:=undef) (a':=?_) #[Y,Y,Y,Y,Y,Y,Y,Y,Y,Y,Y,Y,Y,Y,Y,Z,Z,Z,Z,Z,Z,Z,Z,Z,Z] rfl rfl (any_of HT_.out (by kernel_rfl)) (fun _ _ _ h=>h) (Or.inr ⟨by rfl,rfl⟩) ?_ ?_
   rotate_left
   ·simp only [Act.put,sT_,s0_,sC_,i64_w,i32_w]
    rfl
   refine pure_ (i:=15) (N:=some 24) (v:=?_) (a':=?_) #[Y,Y,Y,Y,Y,Y,Y,Y,Y,Y,Y,Y,Y,Y,Y,Y,Z,Z,Z,Z,Z,Z,Z,Z,Z] rfl rfl (any_of HT_.out (by kernel_rfl)) (fun _ _ _ h=>h) (Or.inl ⟨by rfl,?_⟩) ?_ ?_
   rotate_left
   ·intro w'
    go_simp
    with_reducible rfl
   rotate_left
   ·simp only [Act.put,sT_,s0_,sC_,i64_w,i32_w]
    rfl
   refine pure_ (i:=16) (N:=some 25) (v:=?_) (a':=?_) #[Y,Y,Y,Y,Y,Y,Y,Y,Y,Y,Y,Y,Y,Y,Y,Y,Y,Z,Z,Z,Z,Z,Z,Z,Z] rfl rfl (any_of HT_.out (by kernel_rfl)) (fun _ _ _ h=>h) (Or.inl ⟨by rfl,?_⟩) ?_ ?_
   rotate_left
   ·intro w'
    go_simp
    with_reducible rfl
   rotate_left
   ·simp only [Act.put,sT_,s0_,sC_,i64_w,i32_w]
    rfl
   refine pure_ (i:=17) (N:=some 26) (v:=undef) (a':=?_) #[Y,Y,Y,Y,Y,Y,Y,Y,Y,Y,Y,Y,Y,Y,Y,Y,Y,Y,Z,Z,Z,Z,Z,Z,Z] rfl rfl (any_of HT_.out (by kernel_rfl)) (fun _ _ _ h=>h) (Or.inr ⟨by rfl,rfl⟩) ?_ ?_
   rotate_left
   ·simp only [Act.put,sT_,s0_,sC_,i64_w,i32_w]
    rfl
   refine pure_ (i:=18) (N:=some 27) (v:=undef) (a':=?_) #[Y,Y,Y,Y,Y,Y,Y,Y,Y,Y,Y,Y,Y,Y,Y,Y,Y,Y,Y,Z,Z,Z,Z,Z,Z] rfl rfl (any_of HT_.out (by kernel_rfl)) (fun _ _ _ h=>h) (Or.inr ⟨by rfl,rfl⟩) ?_ ?_
   rotate_left
   ·simp only [Act.put,sT_,s0_,sC_,i64_w,i32_w]
    rfl
   refine pure_ (i:=19) (N:=some 28) (v:=undef) (a':=?_) #[Y,Y,Y,Y,Y,Y,Y,Y,Y,Y,Y,Y,Y,Y,Y,Y,Y,Y,Y,Y,Z,Z,Z,Z,Z] rfl rfl (any_of HT_.out (by kernel_rfl)) (fun _ _ _ h=>h) (Or.inr ⟨by rfl,rfl⟩) ?_ ?_
   rotate_left
   ·simp only [Act.put,sT_,s0_,sC_,i64_w,i32_w]
    rfl
   refine pure_ (i:=20) (N:=some 29) (v:=undef) (a':=?_) #[Y,Y,Y,Y,Y,Y,Y,Y,Y,Y,Y,Y,Y,Y,Y,Y,Y,Y,Y,Y,Y,Z,Z,Z,Z] rfl rfl (any_of HT_.out (by kernel_rfl)) (fun _ _ _ h=>h) (Or.inr ⟨by rfl,rfl⟩) ?_ ?_
   rotate_left
   ·simp only [Act.put,sT_,s0_,sC_,i64_w,i32_w]
    rfl
   refine pure_ (i:=21) (N:=some 30) (v:=undef) (a':=?_) #[Y,Y,Y,Y,Y,Y,Y,Y,Y,Y,Y,Y,Y,Y,Y,Y,Y,Y,Y,Y,Y,Y,Z,Z,Z] rfl rfl (any_of HT_.out (by kernel_rfl)) (fun _ _ _ h=>h) (Or.inr ⟨by rfl,rfl⟩) ?_ ?_
   rotate_left
   ·simp only [Act.put,sT_,s0_,sC_,i64_w,i32_w]
    rfl
   refine pure_ (i:=22) (N:=some 31) (v:=undef) (a':=?_) #[Y,Y,Y,Y,Y,Y,Y,Y,Y,Y,Y,Y,Y,Y,Y,Y,Y,Y,Y,Y,Y,Y,Y,Z,Z] rfl rfl (any_of HT_.out (by kernel_rfl)) (fun _ _ _ h=>h) (Or.inr ⟨by rfl,rfl⟩) ?_ ?_
   rotate_left
   ·simp only [Act.put,sT_,s0_,sC_,i64_w,i32_w]
    rfl
   refine pure_ (i:=23) (N:=some 32) (v:=undef) (a':=?_) #[Y,Y,Y,Y,Y,Y,Y,Y,Y,Y,Y,Y,Y,Y,Y,Y,Y,Y,Y,Y,Y,Y,Y,Y,Z] rfl rfl (any_of HT_.out (by kernel_rfl)) (fun _ _ _ h=>h) (Or.inr ⟨by rfl,rfl⟩) ?_ ?_
   rotate_left
   ·simp only [Act.put,sT_,s0_,sC_,i64_w,i32_w]
    rfl
   refine pure_ (i:=24) (N:=some 33) (v:=?_) (a':=?_) #[Y,Y,Y,Y,Y,Y,Y,Y,Y,Y,Y,Y,Y,Y,Y,Y,Y,Y,Y,Y,Y,Y,Y,Y,Y] rfl rfl (any_of HT_.out (by kernel_rfl)) (fun _ _ _ h=>h) (Or.inl ⟨by rfl,?_⟩) ?_ ?_
   rotate_left
   ·intro w'
    go_simp
    with_reducible rfl
   rotate_left
   ·simp only [Act.put,sT_,s0_,sC_,i64_w,i32_w]
    rfl
   refine done_ (done_of HT_.out (by kernel_rfl)) ?_
   try go_wp2
   go_meet
   case rel=>exact⟨_,(true),(by first|rfl|(simp;done)|(simp [*];done)|(refine congrArg Value.bool ?_;exact isE_ _)),H',⟨by first|omega|exact Nat.le_refl _⟩,⟨by(with_reducible repeat (first|refine kN_ ?_ _|refine kD_ ?_|refine kA_ ?_ _));exact BK353.out⟩,⟨by(with_reducible repeat (first|refine kN_ ?_ _|refine kD_ ?_|refine kA_ ?_ _));exact BK355.out⟩,⟨by repeat (first|(with_reducible first|exact HB.out|apply bA_|apply bN_|apply bD_|refine bS_ ?_ GE353.out|refine bS_ ?_ GE355.out)|exact HB.out)⟩⟩
  rw [if_pos c10] at H
  have c10b0:=beq_iff_eq.mpr c10
  have c10b1:=bne_eq_false_iff_eq.mpr c10
  clear c10
  by_cases c11:0 < (((rd_T67 l0_3 0).f1).length:Int)
  rotate_left
  ·rw [if_neg c11] at H
   exact absurd H (by simp)
  rw [if_pos c11] at H
  have c11b0:=decide_eq_true c11
  have c11b1:decide (0 < ((rd_T67 l0_3 0).f1).length)=true:=decide_eq_true (by omega)
  clear c11
  by_cases c12:(rd ((rd_T67 l0_3 0).f1) 0) ≥ (-1)
  ·rw [if_pos c12] at H
   have c12b0:=decide_eq_true c12
   clear c12
   have H':=Az.mk H
   clear H
   try go_wp2
   have n0_:Az ((((((w6.setCell ⟨gb355,0,none⟩ (.int .i64 ((rd_T67 l0_3 0).f0))).setCell ⟨gb355,1,none⟩ (.slice A354_1 ((rd_T67 l0_3 0).f1).length c354_1)).setCell ⟨gb355,2,none⟩ (.slice A354_2 ((rd_T67 l0_3 0).f2).length c354_2)).setCell ⟨gb355,3,none⟩ (.string ((rd_T67 l0_3 0).f3))).setCell ⟨gb355,4,none⟩ (.int .i64 ((rd_T67 l0_3 0).f4))).heap[gb353]?=some (.cells #[.slice A0_0 l0_0.length c0_0,.slice A0_1 l0_1.length c0_1,.slice A0_2 l0_2.length c0_2,.slice (some ad354) l0_3.length c0_3,.slice A0_4 l0_4.length c0_4] 27 (0,0))):=⟨by(with_reducible repeat (first|refine kN_ ?_ _|refine kD_ ?_|refine kA_ ?_ _));refine kF_ ?_ NB353_355.out _;(with_reducible repeat (first|refine kN_ ?_ _|refine kD_ ?_|refine kA_ ?_ _));refine kF_ ?_ NB353_355.out _;(with_reducible repeat (first|refine kN_ ?_ _|refine kD_ ?_|refine kA_ ?_ _));refine kF_ ?_ NB353_355.out _;(with_reducible repeat (first|refine kN_ ?_ _|refine kD_ ?_|refine kA_ ?_ _));refine kF_ ?_ NB353_355.out _;(with_reducible repeat (first|refine kN_ ?_ _|refine kD_ ?_|refine kA_ ?_ _));refine kF_ ?_ NB353_355.out _;(with_reducible repeat (first|refine kN_ ?_ _|refine kD_ ?_|refine kA_ ?_ _));exact BK353.out⟩
   have n1_:Az ((((((w6.setCell ⟨gb355,0,none⟩ (.int .i64 ((rd_T67 l0_3 0).f0))).setCell ⟨gb355,1,none⟩ (.slice A354_1 ((rd_T67 l0_3 0).f1).length c354_1)).setCell ⟨gb355,2,none⟩ (.slice A354_2 ((rd_T67 l0_3 0).f2).length c354_2)).setCell ⟨gb355,3,none⟩ (.string ((rd_T67 l0_3 0).f3))).setCell ⟨gb355,4,none⟩ (.int .i64 ((rd_T67 l0_3 0).f4))).heap[gb355]?=some (.cells #[.int .i64 ((rd_T67 l0_3 0).f0),.slice A354_1 ((rd_T67 l0_3 0).f1).length c354_1,.slice A354_2 ((rd_T67 l0_3 0).f2).length c354_2,.string ((rd_T67 l0_3 0).f3),.int .i64 ((rd_T67 l0_3 0).f4)] 67 (0,0))):=⟨by(with_reducible repeat (first|refine kN_ ?_ _|refine kD_ ?_|refine kA_ ?_ _));refine kP_ (cs:=#[.int .i64 ((rd_T67 l0_3 0).f0),.slice A354_1 ((rd_T67 l0_3 0).f1).length c354_1,.slice A354_2 ((rd_T67 l0_3 0).f2).length c354_2,.string ((rd_T67 l0_3 0).f3),.int .i64 0]) ?_ 4 _ rfl;(with_reducible repeat (first|refine kN_ ?_ _|refine kD_ ?_|refine kA_ ?_ _));refine kP_ (cs:=#[.int .i64 ((rd_T67 l0_3 0).f0),.slice A354_1 ((rd_T67 l0_3 0).f1).length c354_1,.slice A354_2 ((rd_T67 l0_3 0).f2).length c354_2,.string (⟨#[]⟩:ByteArray),.int .i64 0]) ?_ 3 _ rfl;(with_reducible repeat (first|refine kN_ ?_ _|refine kD_ ?_|refine kA_ ?_ _));refine kP_ (cs:=#[.int .i64 ((rd_T67 l0_3 0).f0),.slice A354_1 ((rd_T67 l0_3 0).f1).length c354_1,.slice none 0 0,.string (⟨#[]⟩:ByteArray),.int .i64 0]) ?_ 2 _ rfl;(with_reducible repeat (first|refine kN_ ?_ _|refine kD_ ?_|refine kA_ ?_ _));refine kP_ (cs:=#[.int .i64 ((rd_T67 l0_3 0).f0),.slice none 0 0,.slice none 0 0,.string (⟨#[]⟩:ByteArray),.int .i64 0]) ?_ 1 _ rfl;(with_reducible repeat (first|refine kN_ ?_ _|refine kD_ ?_|refine kA_ ?_ _));refine kP_ (cs:=#[.int .i64 0,.slice none 0 0,.slice none 0 0,.string (⟨#[]⟩:ByteArray),.int .i64 0]) ?_ 0 _ rfl;(with_reducible repeat (first|refine kN_ ?_ _|refine kD_ ?_|refine kA_ ?_ _));exact BK355.out⟩
   have n2_:Az (Below w.heap.size w (((((w6.setCell ⟨gb355,0,none⟩ (.int .i64 ((rd_T67 l0_3 0).f0))).setCell ⟨gb355,1,none⟩ (.slice A354_1 ((rd_T67 l0_3 0).f1).length c354_1)).setCell ⟨gb355,2,none⟩ (.slice A354_2 ((rd_T67 l0_3 0).f2).length c354_2)).setCell ⟨gb355,3,none⟩ (.string ((rd_T67 l0_3 0).f3))).setCell ⟨gb355,4,none⟩ (.int .i64 ((rd_T67 l0_3 0).f4)))):=⟨by repeat (first|(with_reducible first|exact HB.out|apply bA_|apply bN_|apply bD_|refine bS_ ?_ GE353.out|refine bS_ ?_ GE355.out)|exact HB.out)⟩
   (try clear BK353)
   (try clear BK355)
   (try clear HB)
   generalize (((((w6.setCell ⟨gb355,0,none⟩ (.int .i64 ((rd_T67 l0_3 0).f0))).setCell ⟨gb355,1,none⟩ (.slice A354_1 ((rd_T67 l0_3 0).f1).length c354_1)).setCell ⟨gb355,2,none⟩ (.slice A354_2 ((rd_T67 l0_3 0).f2).length c354_2)).setCell ⟨gb355,3,none⟩ (.string ((rd_T67 l0_3 0).f3))).setCell ⟨gb355,4,none⟩ (.int .i64 ((rd_T67 l0_3 0).f4)))=w13 at n0_ n1_ n2_ ⊢
   have BK353:=n0_
   have BK355:=n1_
   have HB:=n2_
   clear n0_ n1_ n2_
   have n0_:=Az.mk (kD_ BK353.out)
   have n1_:=Az.mk (kD_ BK355.out)
   have n2_:=Az.mk (bD_ HB.out)
   clear BK353
   clear BK355
   clear HB
   have BK353:=n0_
   have BK355:=n1_
   have HB:=n2_
   clear n0_ n1_ n2_
   have p356:0≤(0:Int):=(by omega)
   have q356:0 < (((rd_T67 l0_3 0).f1).length:Int):=of_decide_eq_true (by assumption)
   obtain⟨ad356,e356,hx356_0⟩:=Kd.at_int HR354_1.out 0 p356 q356
   have hw356_0:=hx356_0
   (try rw [tn0_] at hw356_0)
   (try rw [show 0 * 1=0 from rfl] at hw356_0)
   (try rw [Addr.add_zero'] at hw356_0)
   cases e356
   have qi356:(0 < ((rd_T67 l0_3 0).f1).length)=True:=eq_true (by omega)
   (try rw [tn0_] at hx356_0)
   (try rw [Addr.add_zero'] at hx356_0)
   replace hx356_0:=bc_ HB.out hx356_0
   replace p356:=eq_true p356
   replace q356:=eq_true q356
   refine start_ (n:=25) (S:=fun w'=>w'.cell? ⟨gb355,0,none⟩=some (.int .i64 ((rd_T67 l0_3 0).f0))∧w'.cell? ⟨gb355,1,none⟩=some (.slice (some ad356) ((rd_T67 l0_3 0).f1).length c354_1)∧w'.cell? ⟨gb355,2,none⟩=some (.slice A354_2 ((rd_T67 l0_3 0).f2).length c354_2)∧w'.cell? ⟨gb355,3,none⟩=some (.string ((rd_T67 l0_3 0).f3))∧w'.cell? ⟨gb355,4,none⟩=some (.int .i64 ((rd_T67 l0_3 0).f4))∧w'.cell? ad356=some (.int .i64 (rd ((rd_T67 l0_3 0).f1) 0))) (ds:=[]) #[Z,Z,Z,Z,Z,Z,Z,Z,Z,Z,Z,Z,Z,Z,Z,Z,Z,Z,Z,Z,Z,Z,Z,Z,Z] (by kernel_rfl) rfl rfl ⟨(bC_ BK355.out 0).trans rfl,(bC_ BK355.out 1).trans rfl,(bC_ BK355.out 2).trans rfl,(bC_ BK355.out 3).trans rfl,(bC_ BK355.out 4).trans rfl,(bc_ HB.out hw356_0)⟩ (fun hHeld=>?_);refine with_tabW arboristref15_start.tab2 arboristref15_start.bits2 (fun HT_ HW_=>?_)
   generalize w13.drew=w14 at BK353 BK355 HB hx356_0 hHeld ⊢
   refine pure_ (i:=0) (N:=some 9) (v:=?_) (a':=?_) #[Y,Z,Z,Z,Z,Z,Z,Z,Z,Z,Z,Z,Z,Z,Z,Z,Z,Z,Z,Z,Z,Z,Z,Z,Z] rfl rfl (any_of HT_.out (by kernel_rfl)) (fun _ _ _ h=>h) (Or.inl ⟨by rfl,?_⟩) ?_ ?_
   rotate_left
   ·intro w'
    go_simp
    with_reducible rfl
   rotate_left
   ·simp only [Act.put,sT_,s0_,sC_,i64_w,i32_w]
    rfl
   refine take_ (i:=1) (N:=some 10) (v:=?_) (a':=?_) #[Y,Y,Z,Z,Z,Z,Z,Z,Z,Z,Z,Z,Z,Z,Z,Z,Z,Z,Z,Z,Z,Z,Z,Z,Z] rfl rfl (take_ofW HT_.out HW_.out (by kernel_rfl)) (fun _ _ _ h=>h) (Or.inl ⟨by rfl,?_⟩) hHeld ?_ ?_
   rotate_left
   ·rintro w' ⟨s0,s1,s2,s3,s4,s5⟩
    go_simp
    with_reducible rfl
   rotate_left
   ·simp only [Act.put,sT_,s0_,sC_,i64_w,i32_w]
    rfl
   refine pure_ (i:=2) (N:=some 11) (v:=?_) (a':=?_) #[Y,Y,Y,Z,Z,Z,Z,Z,Z,Z,Z,Z,Z,Z,Z,Z,Z,Z,Z,Z,Z,Z,Z,Z,Z] rfl rfl (any_of HT_.out (by kernel_rfl)) (fun _ _ _ h=>h) (Or.inl ⟨by rfl,?_⟩) ?_ ?_
   rotate_left
   ·intro w'
    go_simp
    with_reducible rfl
   rotate_left
   ·simp only [Act.put,sT_,s0_,sC_,i64_w,i32_w]
    rfl
   refine pure_ (i:=3) (N:=some 12) (v:=?_) (a':=?_) #[Y,Y,Y,Y,Z,Z,Z,Z,Z,Z,Z,Z,Z,Z,Z,Z,Z,Z,Z,Z,Z,Z,Z,Z,Z] rfl rfl (any_of HT_.out (by kernel_rfl)) (fun _ _ _ h=>h) (Or.inl ⟨by rfl,?_⟩) ?_ ?_
   rotate_left
   ·intro w'
    go_simp
    with_reducible rfl
   rotate_left
   ·simp only [Act.put,sT_,s0_,sC_,i64_w,i32_w]
    rfl
   refine pure_ (i:=4) (N:=some 13) (v:=?_) (a':=?_) #[Y,Y,Y,Y,Y,Z,Z,Z,Z,Z,Z,Z,Z,Z,Z,Z,Z,Z,Z,Z,Z,Z,Z,Z,Z] rfl rfl (any_of HT_.out (by kernel_rfl)) (fun _ _ _ h=>h) (Or.inl ⟨by rfl,?_⟩) ?_ ?_
   rotate_left
   ·intro w'
    go_simp
    with_reducible rfl
   rotate_left
   ·simp only [Act.put,sT_,s0_,sC_,i64_w,i32_w]
    rfl
   refine take_ (i:=5) (N:=some 14) (v:=?_) (a':=?_) #[Y,Y,Y,Y,Y,Y,Z,Z,Z,Z,Z,Z,Z,Z,Z,Z,Z,Z,Z,Z,Z,Z,Z,Z,Z] rfl rfl (take_ofW HT_.out HW_.out (by kernel_rfl)) (fun _ _ _ h=>h) (Or.inl ⟨by rfl,?_⟩) hHeld ?_ ?_
   rotate_left
   ·rintro w' ⟨s0,s1,s2,s3,s4,s5⟩
    go_simp
    with_reducible rfl
   rotate_left
   ·simp only [Act.put,sT_,s0_,sC_,i64_w,i32_w]
    rfl
   refine pure_ (i:=6) (N:=some 15) (v:=?_) (a':=?_) #[Y,Y,Y,Y,Y,Y,Y,Z,Z,Z,Z,Z,Z,Z,Z,Z,Z,Z,Z,Z,Z,Z,Z,Z,Z] rfl rfl (any_of HT_.out (by kernel_rfl)) (fun _ _ _ h=>h) (Or.inl ⟨by rfl,?_⟩) ?_ ?_
   rotate_left
   ·intro w'
    go_simp
    with_reducible rfl
   rotate_left
   ·simp only [Act.put,sT_,s0_,sC_,i64_w,i32_w]
    rfl
   refine pure_ (i:=7) (N:=some 16) (v:=?_) (a':=?_) #[Y,Y,Y,Y,Y,Y,Y,Y,Z,Z,Z,Z,Z,Z,Z,Z,Z,Z,Z,Z,Z,Z,Z,Z,Z] rfl rfl (any_of HT_.out (by kernel_rfl)) (fun _ _ _ h=>h) (Or.inl ⟨by rfl,?_⟩) ?_ ?_
   rotate_left
   ·intro w'
    go_simp
    with_reducible rfl
   rotate_left
   ·simp only [Act.put,sT_,s0_,sC_,i64_w,i32_w]
    rfl
   refine pure_ (i:=8) (N:=some 17) (v:=?_) (a':=?_) #[Y,Y,Y,Y,Y,Y,Y,Y,Y,Z,Z,Z,Z,Z,Z,Z,Z,Z,Z,Z,Z,Z,Z,Z,Z] rfl rfl (any_of HT_.out (by kernel_rfl)) (fun _ _ _ h=>h) (Or.inl ⟨by rfl,?_⟩) ?_ ?_
   rotate_left
   ·intro w'
    go_simp
    with_reducible rfl
   rotate_left
   ·simp only [Act.put,sT_,s0_,sC_,i64_w,i32_w]
    rfl
   refine pure_ (i:=9) (N:=some 18) (v:=?_) (a':=?_) #[Y,Y,Y,Y,Y,Y,Y,Y,Y,Y,Z,Z,Z,Z,Z,Z,Z,Z,Z,Z,Z,Z,Z,Z,Z] rfl rfl (any_of HT_.out (by kernel_rfl)) (fun _ _ _ h=>h) (Or.inl ⟨by rfl,?_⟩) ?_ ?_
   rotate_left
   ·intro w'
    go_simp
    with_reducible rfl
   rotate_left
   ·simp only [Act.put,sT_,s0_,sC_,i64_w,i32_w]
    rfl
   refine pure_ (i:=10) (N:=some 19) (v:=?_) (a':=?_) #[Y,Y,Y,Y,Y,Y,Y,Y,Y,Y,Y,Z,Z,Z,Z,Z,Z,Z,Z,Z,Z,Z,Z,Z,Z] rfl rfl (any_of HT_.out (by kernel_rfl)) (fun _ _ _ h=>h) (Or.inl ⟨by rfl,?_⟩) ?_ ?_
   rotate_left
   ·intro w'
    go_simp
    with_reducible rfl
   rotate_left
   ·simp only [Act.put,sT_,s0_,sC_,i64_w,i32_w]
    rfl
   refine take_ (i:=11) (N:=some 20) (v:=?_) (a':=?_) #[Y,Y,Y,Y,Y,Y,Y,Y,Y,Y,Y,Y,Z,Z,Z,Z,Z,Z,Z,Z,Z,Z,Z,Z,Z] rfl rfl (take_ofW HT_.out HW_.out (by kernel_rfl)) (fun _ _ _ h=>h) (Or.inl ⟨by rfl,?_⟩) hHeld ?_ ?_
   rotate_left
   ·rintro w' ⟨s0,s1,s2,s3,s4,s5⟩
    go_simp
    with_reducible rfl
   rotate_left
   ·simp only [Act.put,sT_,s0_,sC_,i64_w,i32_w]
    rfl
   refine pure_ (i:=12) (N:=some 21) (v:=?_) (a':=?_) #[Y,Y,Y,Y,Y,Y,Y,Y,Y,Y,Y,Y,Y,Z,Z,Z,Z,Z,Z,Z,Z,Z,Z,Z,Z] rfl rfl (any_of HT_.out (by kernel_rfl)) (fun _ _ _ h=>h) (Or.inl ⟨by rfl,?_⟩) ?_ ?_
   rotate_left
   ·intro w'
    go_simp
    with_reducible rfl
   rotate_left
   ·simp only [Act.put,sT_,s0_,sC_,i64_w,i32_w]
    rfl
   refine take_ (i:=13) (N:=some 22) (v:=?_) (a':=?_) #[Y,Y,Y,Y,Y,Y,Y,Y,Y,Y,Y,Y,Y,Y,Z,Z,Z,Z,Z,Z,Z,Z,Z,Z,Z] rfl rfl (take_ofW HT_.out HW_.out (by kernel_rfl)) (fun _ _ _ h=>h) (Or.inl ⟨by rfl,?_⟩) hHeld ?_ ?_
   rotate_left
   ·rintro w' ⟨s0,s1,s2,s3,s4,s5⟩
    go_simp
    with_reducible rfl
   rotate_left
   ·simp only [Act.put,sT_,s0_,sC_,i64_w,i32_w]
    rfl
   refine pure_ (i:=14) (N:=some 23) (v:=?_) (a':=?_) #[Y,Y,Y,Y,Y,Y,Y,Y,Y,Y,Y,Y,Y,Y,Y,Z,Z,Z,Z,Z,Z,Z,Z,Z,Z] rfl rfl (any_of HT_.out (by kernel_rfl)) (fun _ _ _ h=>h) (Or.inl ⟨by rfl,?_⟩) ?_ ?_
   rotate_left
   ·intro w'
    go_simp
    with_reducible rfl
   rotate_left
   ·simp only [Act.put,sT_,s0_,sC_,i64_w,i32_w]
    rfl
   refine pure_ (i:=15) (N:=some 24) (v:=?_) (a':=?_) #[Y,Y,Y,Y,Y,Y,Y,Y,Y,Y,Y,Y,Y,Y,Y,Y,Z,Z,Z,Z,Z,Z,Z,Z,Z] rfl rfl (any_of HT_.out (by kernel_rfl)) (fun _ _ _ h=>h) (Or.inl ⟨by rfl,?_⟩) ?_ ?_
   rotate_left
   ·intro w'
    go_simp
    with_reducible rfl
   rotate_left
   ·simp only [Act.put,sT_,s0_,sC_,i64_w,i32_w]
    rfl
   refine pure_ (i:=16) (N:=some 25) (v:=?_) (a':=?_) #[Y,Y,Y,Y,Y,Y,Y,Y,Y,Y,Y,Y,Y,Y,Y,Y,Y,Z,Z,Z,Z,Z,Z,Z,Z] rfl rfl (any_of HT_.out (by kernel_rfl)) (fun _ _ _ h=>h) (Or.inl ⟨by rfl,?_⟩) ?_ ?_
   rotate_left
   ·intro w'
    go_simp
    with_reducible rfl
   rotate_left
   ·simp only [Act.put,sT_,s0_,sC_,i64_w,i32_w]
    rfl
   refine pure_ (i:=17) (N:=some 26) (v:=undef) (a':=?_) #[Y,Y,Y,Y,Y,Y,Y,Y,Y,Y,Y,Y,Y,Y,Y,Y,Y,Y,Z,Z,Z,Z,Z,Z,Z] rfl rfl (any_of HT_.out (by kernel_rfl)) (fun _ _ _ h=>h) (Or.inr ⟨by rfl,rfl⟩) ?_ ?_
   rotate_left
   ·simp only [Act.put,sT_,s0_,sC_,i64_w,i32_w]
    rfl
   refine pure_ (i:=18) (N:=some 27) (v:=undef) (a':=?_) #[Y,Y,Y,Y,Y,Y,Y,Y,Y,Y,Y,Y,Y,Y,Y,Y,Y,Y,Y,Z,Z,Z,Z,Z,Z] rfl rfl (any_of HT_.out (by kernel_rfl)) (fun _ _ _ h=>h) (Or.inr ⟨by rfl,rfl⟩) ?_ ?_
   rotate_left
   ·simp only [Act.put,sT_,s0_,sC_,i64_w,i32_w]
    rfl
   refine pure_ (i:=19) (N:=some 28) (v:=undef) (a':=?_) #[Y,Y,Y,Y,Y,Y,Y,Y,Y,Y,Y,Y,Y,Y,Y,Y,Y,Y,Y,Y,Z,Z,Z,Z,Z] rfl rfl (any_of HT_.out (by kernel_rfl)) (fun _ _ _ h=>h) (Or.inr ⟨by rfl,rfl⟩) ?_ ?_
   rotate_left
   ·simp only [Act.put,sT_,s0_,sC_,i64_w,i32_w]
    rfl
   refine pure_ (i:=20) (N:=some 29) (v:=undef) (a':=?_) #[Y,Y,Y,Y,Y,Y,Y,Y,Y,Y,Y,Y,Y,Y,Y,Y,Y,Y,Y,Y,Y,Z,Z,Z,Z] rfl rfl (any_of HT_.out (by kernel_rfl)) (fun _ _ _ h=>h) (Or.inr ⟨by rfl,rfl⟩) ?_ ?_
   rotate_left
   ·simp only [Act.put,sT_,s0_,sC_,i64_w,i32_w]
    rfl
   refine pure_ (i:=21) (N:=some 30) (v:=undef) (a':=?_) #[Y,Y,Y,Y,Y,Y,Y,Y,Y,Y,Y,Y,Y,Y,Y,Y,Y,Y,Y,Y,Y,Y,Z,Z,Z] rfl rfl (any_of HT_.out (by kernel_rfl)) (fun _ _ _ h=>h) (Or.inr ⟨by rfl,rfl⟩) ?_ ?_
   rotate_left
   ·simp only [Act.put,sT_,s0_,sC_,i64_w,i32_w]
    rfl
   refine pure_ (i:=22) (N:=some 31) (v:=undef) (a':=?_) #[Y,Y,Y,Y,Y,Y,Y,Y,Y,Y,Y,Y,Y,Y,Y,Y,Y,Y,Y,Y,Y,Y,Y,Z,Z] rfl rfl (any_of HT_.out (by kernel_rfl)) (fun _ _ _ h=>h) (Or.inr ⟨by rfl,rfl⟩) ?_ ?_
   rotate_left
   ·simp only [Act.put,sT_,s0_,sC_,i64_w,i32_w]
    rfl
   refine pure_ (i:=23) (N:=some 32) (v:=undef) (a':=?_) #[Y,Y,Y,Y,Y,Y,Y,Y,Y,Y,Y,Y,Y,Y,Y,Y,Y,Y,Y,Y,Y,Y,Y,Y,Z] rfl rfl (any_of HT_.out (by kernel_rfl)) (fun _ _ _ h=>h) (Or.inr ⟨by rfl,rfl⟩) ?_ ?_
   rotate_left
   ·simp only [Act.put,sT_,s0_,sC_,i64_w,i32_w]
    rfl
   refine pure_ (i:=24) (N:=some 33) (v:=?_) (a':=?_) #[Y,Y,Y,Y,Y,Y,Y,Y,Y,Y,Y,Y,Y,Y,Y,Y,Y,Y,Y,Y,Y,Y,Y,Y,Y] rfl rfl (any_of HT_.out (by kernel_rfl)) (fun _ _ _ h=>h) (Or.inl ⟨by rfl,?_⟩) ?_ ?_
   rotate_left
   ·intro w'
    go_simp
    with_reducible rfl
   rotate_left
   ·simp only [Act.put,sT_,s0_,sC_,i64_w,i32_w]
    rfl
   refine done_ (done_of HT_.out (by kernel_rfl)) ?_
   try go_wp2
   go_meet
   case rel=>exact⟨_,(true),(by first|rfl|(simp;done)|(simp [*];done)|(refine congrArg Value.bool ?_;exact isE_ _)),H',⟨by first|omega|exact Nat.le_refl _⟩,⟨by(with_reducible repeat (first|refine kN_ ?_ _|refine kD_ ?_|refine kA_ ?_ _));exact BK353.out⟩,⟨by(with_reducible repeat (first|refine kN_ ?_ _|refine kD_ ?_|refine kA_ ?_ _));exact BK355.out⟩,⟨by repeat (first|(with_reducible first|exact HB.out|apply bA_|apply bN_|apply bD_|refine bS_ ?_ GE353.out|refine bS_ ?_ GE355.out)|exact HB.out)⟩⟩
  rw [if_neg c12] at H
  have c12b0:=decide_eq_false c12
  clear c12
  replace H:=Option.bind_eq_some_iff.mp H
  obtain⟨t358,A150,H⟩:=H
  replace H:(arboristref15_start.j0 k (!t358) l0_0 l0_1 l0_2 l0_3 l0_4)=some r:=H
  have A15:=Az.mk A150
  clear A150
  have H':=Az.mk H
  clear H
  try go_wp2
  have n0_:Az ((((((w6.setCell ⟨gb355,0,none⟩ (.int .i64 ((rd_T67 l0_3 0).f0))).setCell ⟨gb355,1,none⟩ (.slice A354_1 ((rd_T67 l0_3 0).f1).length c354_1)).setCell ⟨gb355,2,none⟩ (.slice A354_2 ((rd_T67 l0_3 0).f2).length c354_2)).setCell ⟨gb355,3,none⟩ (.string ((rd_T67 l0_3 0).f3))).setCell ⟨gb355,4,none⟩ (.int .i64 ((rd_T67 l0_3 0).f4))).heap[gb353]?=some (.cells #[.slice A0_0 l0_0.length c0_0,.slice A0_1 l0_1.length c0_1,.slice A0_2 l0_2.length c0_2,.slice (some ad354) l0_3.length c0_3,.slice A0_4 l0_4.length c0_4] 27 (0,0))):=⟨by(with_reducible repeat (first|refine kN_ ?_ _|refine kD_ ?_|refine kA_ ?_ _));refine kF_ ?_ NB353_355.out _;(with_reducible repeat (first|refine kN_ ?_ _|refine kD_ ?_|refine kA_ ?_ _));refine kF_ ?_ NB353_355.out _;(with_reducible repeat (first|refine kN_ ?_ _|refine kD_ ?_|refine kA_ ?_ _));refine kF_ ?_ NB353_355.out _;(with_reducible repeat (first|refine kN_ ?_ _|refine kD_ ?_|refine kA_ ?_ _));refine kF_ ?_ NB353_355.out _;(with_reducible repeat (first|refine kN_ ?_ _|refine kD_ ?_|refine kA_ ?_ _));refine kF_ ?_ NB353_355.out _;(with_reducible repeat (first|refine kN_ ?_ _|refine kD_ ?_|refine kA_ ?_ _));exact BK353.out⟩
  have n1_:Az ((((((w6.setCell ⟨gb355,0,none⟩ (.int .i64 ((rd_T67 l0_3 0).f0))).setCell ⟨gb355,1,none⟩ (.slice A354_1 ((rd_T67 l0_3 0).f1).length c354_1)).setCell ⟨gb355,2,none⟩ (.slice A354_2 ((rd_T67 l0_3 0).f2).length c354_2)).setCell ⟨gb355,3,none⟩ (.string ((rd_T67 l0_3 0).f3))).setCell ⟨gb355,4,none⟩ (.int .i64 ((rd_T67 l0_3 0).f4))).heap[gb355]?=some (.cells #[.int .i64 ((rd_T67 l0_3 0).f0),.slice A354_1 ((rd_T67 l0_3 0).f1).length c354_1,.slice A354_2 ((rd_T67 l0_3 0).f2).length c354_2,.string ((rd_T67 l0_3 0).f3),.int .i64 ((rd_T67 l0_3 0).f4)] 67 (0,0))):=⟨by(with_reducible repeat (first|refine kN_ ?_ _|refine kD_ ?_|refine kA_ ?_ _));refine kP_ (cs:=#[.int .i64 ((rd_T67 l0_3 0).f0),.slice A354_1 ((rd_T67 l0_3 0).f1).length c354_1,.slice A354_2 ((rd_T67 l0_3 0).f2).length c354_2,.string ((rd_T67 l0_3 0).f3),.int .i64 0]) ?_ 4 _ rfl;(with_reducible repeat (first|refine kN_ ?_ _|refine kD_ ?_|refine kA_ ?_ _));refine kP_ (cs:=#[.int .i64 ((rd_T67 l0_3 0).f0),.slice A354_1 ((rd_T67 l0_3 0).f1).length c354_1,.slice A354_2 ((rd_T67 l0_3 0).f2).length c354_2,.string (⟨#[]⟩:ByteArray),.int .i64 0]) ?_ 3 _ rfl;(with_reducible repeat (first|refine kN_ ?_ _|refine kD_ ?_|refine kA_ ?_ _));refine kP_ (cs:=#[.int .i64 ((rd_T67 l0_3 0).f0),.slice A354_1 ((rd_T67 l0_3 0).f1).length c354_1,.slice none 0 0,.string (⟨#[]⟩:ByteArray),.int .i64 0]) ?_ 2 _ rfl;(with_reducible repeat (first|refine kN_ ?_ _|refine kD_ ?_|refine kA_ ?_ _));refine kP_ (cs:=#[.int .i64 ((rd_T67 l0_3 0).f0),.slice none 0 0,.slice none 0 0,.string (⟨#[]⟩:ByteArray),.int .i64 0]) ?_ 1 _ rfl;(with_reducible repeat (first|refine kN_ ?_ _|refine kD_ ?_|refine kA_ ?_ _));refine kP_ (cs:=#[.int .i64 0,.slice none 0 0,.slice none 0 0,.string (⟨#[]⟩:ByteArray),.int .i64 0]) ?_ 0 _ rfl;(with_reducible repeat (first|refine kN_ ?_ _|refine kD_ ?_|refine kA_ ?_ _));exact BK355.out⟩
  have n2_:Az (Below w.heap.size w (((((w6.setCell ⟨gb355,0,none⟩ (.int .i64 ((rd_T67 l0_3 0).f0))).setCell ⟨gb355,1,none⟩ (.slice A354_1 ((rd_T67 l0_3 0).f1).length c354_1)).setCell ⟨gb355,2,none⟩ (.slice A354_2 ((rd_T67 l0_3 0).f2).length c354_2)).setCell ⟨gb355,3,none⟩ (.string ((rd_T67 l0_3 0).f3))).setCell ⟨gb355,4,none⟩ (.int .i64 ((rd_T67 l0_3 0).f4)))):=⟨by repeat (first|(with_reducible first|exact HB.out|apply bA_|apply bN_|apply bD_|refine bS_ ?_ GE353.out|refine bS_ ?_ GE355.out)|exact HB.out)⟩
  (try clear BK353)
  (try clear BK355)
  (try clear HB)
  generalize (((((w6.setCell ⟨gb355,0,none⟩ (.int .i64 ((rd_T67 l0_3 0).f0))).setCell ⟨gb355,1,none⟩ (.slice A354_1 ((rd_T67 l0_3 0).f1).length c354_1)).setCell ⟨gb355,2,none⟩ (.slice A354_2 ((rd_T67 l0_3 0).f2).length c354_2)).setCell ⟨gb355,3,none⟩ (.string ((rd_T67 l0_3 0).f3))).setCell ⟨gb355,4,none⟩ (.int .i64 ((rd_T67 l0_3 0).f4)))=w16 at n0_ n1_ n2_ ⊢
  have BK353:=n0_
  have BK355:=n1_
  have HB:=n2_
  clear n0_ n1_ n2_
  have n0_:=Az.mk (kD_ BK353.out)
  have n1_:=Az.mk (kD_ BK355.out)
  have n2_:=Az.mk (bD_ HB.out)
  clear BK353
  clear BK355
  clear HB
  have BK353:=n0_
  have BK355:=n1_
  have HB:=n2_
  clear n0_ n1_ n2_
  have p356:0≤(0:Int):=(by omega)
  have q356:0 < (((rd_T67 l0_3 0).f1).length:Int):=of_decide_eq_true (by assumption)
  obtain⟨ad356,e356,hx356_0⟩:=Kd.at_int HR354_1.out 0 p356 q356
  have hw356_0:=hx356_0
  (try rw [tn0_] at hw356_0)
  (try rw [show 0 * 1=0 from rfl] at hw356_0)
  (try rw [Addr.add_zero'] at hw356_0)
  cases e356
  have qi356:(0 < ((rd_T67 l0_3 0).f1).length)=True:=eq_true (by omega)
  (try rw [tn0_] at hx356_0)
  (try rw [Addr.add_zero'] at hx356_0)
  replace hx356_0:=bc_ HB.out hx356_0
  replace p356:=eq_true p356
  replace q356:=eq_true q356
  have p357:0≤(0:Int):=(by omega)
  have q357:0 < (((rd_T67 l0_3 0).f1).length:Int):=of_decide_eq_true (by assumption)
  obtain⟨ad357,e357,hx357_0⟩:=Kd.at_int HR354_1.out 0 p357 q357
  have hw357_0:=hx357_0
  (try rw [tn0_] at hw357_0)
  (try rw [show 0 * 1=0 from rfl] at hw357_0)
  (try rw [Addr.add_zero'] at hw357_0)
  obtain rfl:ad356=ad357:=(by injection e357)
  have qi357:(0 < ((rd_T67 l0_3 0).f1).length)=True:=eq_true (by omega)
  (try rw [tn0_] at hx357_0)
  (try rw [Addr.add_zero'] at hx357_0)
  replace hx357_0:=bc_ HB.out hx357_0
  replace p357:=eq_true p357
  replace q357:=eq_true q357
  refine start_ (n:=25) (S:=fun w'=>w'.cell? ⟨gb355,0,none⟩=some (.int .i64 ((rd_T67 l0_3 0).f0))∧w'.cell? ⟨gb355,1,none⟩=some (.slice (some ad356) ((rd_T67 l0_3 0).f1).length c354_1)∧w'.cell? ⟨gb355,2,none⟩=some (.slice A354_2 ((rd_T67 l0_3 0).f2).length c354_2)∧w'.cell? ⟨gb355,3,none⟩=some (.string ((rd_T67 l0_3 0).f3))∧w'.cell? ⟨gb355,4,none⟩=some (.int .i64 ((rd_T67 l0_3 0).f4))∧w'.cell? ⟨gb353,0,none⟩=some (.slice A0_0 l0_0.length c0_0)∧w'.cell? ⟨gb353,1,none⟩=some (.slice A0_1 l0_1.length c0_1)∧w'.cell? ⟨gb353,2,none⟩=some (.slice A0_2 l0_2.length c0_2)∧w'.cell? ⟨gb353,3,none⟩=some (.slice (some ad354) l0_3.length c0_3)∧w'.cell? ⟨gb353,4,none⟩=some (.slice A0_4 l0_4.length c0_4)∧w'.cell? ad356=some (.int .i64 (rd ((rd_T67 l0_3 0).f1) 0))∧w'.cell? ad356=some (.int .i64 (rd ((rd_T67 l0_3 0).f1) 0))) (ds:=[]) #[Z,Z,Z,Z,Z,Z,Z,Z,Z,Z,Z,Z,Z,Z,Z,Z,Z,Z,Z,Z,Z,Z,Z,Z,Z] (by kernel_rfl) rfl rfl ⟨(bC_ BK355.out 0).trans rfl,(bC_ BK355.out 1).trans rfl,(bC_ BK355.out 2).trans rfl,(bC_ BK355.out 3).trans rfl,(bC_ BK355.out 4).trans rfl,(bC_ BK353.out 0).trans rfl,(bC_ BK353.out 1).trans rfl,(bC_ BK353.out 2).trans rfl,(bC_ BK353.out 3).trans rfl,(bC_ BK353.out 4).trans rfl,(bc_ HB.out hw356_0),(bc_ HB.out hw357_0)⟩ (fun hHeld=>?_);refine with_tabW arboristref15_start.tab2 arboristref15_start.bits2 (fun HT_ HW_=>?_)
  generalize w16.drew=w17 at BK353 BK355 HB hx356_0 hx357_0 hHeld ⊢
  refine pure_ (i:=0) (N:=some 9) (v:=?_) (a':=?_) #[Y,Z,Z,Z,Z,Z,Z,Z,Z,Z,Z,Z,Z,Z,Z,Z,Z,Z,Z,Z,Z,Z,Z,Z,Z] rfl rfl (any_of HT_.out (by kernel_rfl)) (fun _ _ _ h=>h) (Or.inl ⟨by rfl,?_⟩) ?_ ?_
  rotate_left
  ·intro w'
   go_simp
   with_reducible rfl
  rotate_left
  ·simp only [Act.put,sT_,s0_,sC_,i64_w,i32_w]
   rfl
  refine take_ (i:=1) (N:=some 10) (v:=?_) (a':=?_) #[Y,Y,Z,Z,Z,Z,Z,Z,Z,Z,Z,Z,Z,Z,Z,Z,Z,Z,Z,Z,Z,Z,Z,Z,Z] rfl rfl (take_ofW HT_.out HW_.out (by kernel_rfl)) (fun _ _ _ h=>h) (Or.inl ⟨by rfl,?_⟩) hHeld ?_ ?_
  rotate_left
  ·rintro w' ⟨s0,s1,s2,s3,s4,s5,s6,s7,s8,s9,s10,s11⟩
   go_simp
   with_reducible rfl
  rotate_left
  ·simp only [Act.put,sT_,s0_,sC_,i64_w,i32_w]
   rfl
  refine pure_ (i:=2) (N:=some 11) (v:=?_) (a':=?_) #[Y,Y,Y,Z,Z,Z,Z,Z,Z,Z,Z,Z,Z,Z,Z,Z,Z,Z,Z,Z,Z,Z,Z,Z,Z] rfl rfl (any_of HT_.out (by kernel_rfl)) (fun _ _ _ h=>h) (Or.inl ⟨by rfl,?_⟩) ?_ ?_
  rotate_left
  ·intro w'
   go_simp
   with_reducible rfl
  rotate_left
  ·simp only [Act.put,sT_,s0_,sC_,i64_w,i32_w]
   rfl
  refine pure_ (i:=3) (N:=some 12) (v:=?_) (a':=?_) #[Y,Y,Y,Y,Z,Z,Z,Z,Z,Z,Z,Z,Z,Z,Z,Z,Z,Z,Z,Z,Z,Z,Z,Z,Z] rfl rfl (any_of HT_.out (by kernel_rfl)) (fun _ _ _ h=>h) (Or.inl ⟨by rfl,?_⟩) ?_ ?_
  rotate_left
  ·intro w'
   go_simp
   with_reducible rfl
  rotate_left
  ·simp only [Act.put,sT_,s0_,sC_,i64_w,i32_w]
   rfl
  refine pure_ (i:=4) (N:=some 13) (v:=?_) (a':=?_) #[Y,Y,Y,Y,Y,Z,Z,Z,Z,Z,Z,Z,Z,Z,Z,Z,Z,Z,Z,Z,Z,Z,Z,Z,Z] rfl rfl (any_of HT_.out (by kernel_rfl)) (fun _ _ _ h=>h) (Or.inl ⟨by rfl,?_⟩) ?_ ?_
  rotate_left
  ·intro w'
   go_simp
   with_reducible rfl
  rotate_left
  ·simp only [Act.put,sT_,s0_,sC_,i64_w,i32_w]
   rfl
  refine take_ (i:=5) (N:=some 14) (v:=?_) (a':=?_) #[Y,Y,Y,Y,Y,Y,Z,Z,Z,Z,Z,Z,Z,Z,Z,Z,Z,Z,Z,Z,Z,Z,Z,Z,Z] rfl rfl (take_ofW HT_.out HW_.out (by kernel_rfl)) (fun _ _ _ h=>h) (Or.inl ⟨by rfl,?_⟩) hHeld ?_ ?_
  rotate_left
  ·rintro w' ⟨s0,s1,s2,s3,s4,s5,s6,s7,s8,s9,s10,s11⟩
   go_simp
   with_reducible rfl
  rotate_left
  ·simp only [Act.put,sT_,s0_,sC_,i64_w,i32_w]
   rfl
  refine pure_ (i:=6) (N:=some 15) (v:=?_) (a':=?_) #[Y,Y,Y,Y,Y,Y,Y,Z,Z,Z,Z,Z,Z,Z,Z,Z,Z,Z,Z,Z,Z,Z,Z,Z,Z] rfl rfl (any_of HT_.out (by kernel_rfl)) (fun _ _ _ h=>h) (Or.inl ⟨by rfl,?_⟩) ?_ ?_
  rotate_left
  ·intro w'
   go_simp
   with_reducible rfl
  rotate_left
  ·simp only [Act.put,sT_,s0_,sC_,i64_w,i32_w]
   rfl
  refine pure_ (i:=7) (N:=some 16) (v:=?_) (a':=?_) #[Y,Y,Y,Y,Y,Y,Y,Y,Z,Z,Z,Z,Z,Z,Z,Z,Z,Z,Z,Z,Z,Z,Z,Z,Z] rfl rfl (any_of HT_.out (by kernel_rfl)) (fun _ _ _ h=>h) (Or.inl ⟨by rfl,?_⟩) ?_ ?_
  rotate_left
  ·intro w'
   go_simp
   with_reducible rfl
  rotate_left
  ·simp only [Act.put,sT_,s0_,sC_,i64_w,i32_w]
   rfl
  refine pure_ (i:=8) (N:=some 17) (v:=?_) (a':=?_) #[Y,Y,Y,Y,Y,Y,Y,Y,Y,Z,Z,Z,Z,Z,Z,Z,Z,Z,Z,Z,Z,Z,Z,Z,Z] rfl rfl (any_of HT_.out (by kernel_rfl)) (fun _ _ _ h=>h) (Or.inl ⟨by rfl,?_⟩) ?_ ?_
  rotate_left
  ·intro w'
   go_simp
   with_reducible rfl
  rotate_left
  ·simp only [Act.put,sT_,s0_,sC_,i64_w,i32_w]
   rfl
  refine pure_ (i:=9) (N:=some 18) (v:=?_) (a':=?_) #[Y,Y,Y,Y,Y,Y,Y,Y,Y,Y,Z,Z,Z,Z,Z,Z,Z,Z,Z,Z,Z,Z,Z,Z,Z] rfl rfl (any_of HT_.out (by kernel_rfl)) (fun _ _ _ h=>h) (Or.inl ⟨by rfl,?_⟩) ?_ ?_
  rotate_left
  ·intro w'
   go_simp
   with_reducible rfl
  rotate_left
  ·simp only [Act.put,sT_,s0_,sC_,i64_w,i32_w]
   rfl
  refine pure_ (i:=10) (N:=some 19) (v:=?_) (a':=?_) #[Y,Y,Y,Y,Y,Y,Y,Y,Y,Y,Y,Z,Z,Z,Z,Z,Z,Z,Z,Z,Z,Z,Z,Z,Z] rfl rfl (any_of HT_.out (by kernel_rfl)) (fun _ _ _ h=>h) (Or.inl ⟨by rfl,?_⟩) ?_ ?_
  rotate_left
  ·intro w'
   go_simp
   with_reducible rfl
  rotate_left
  ·simp only [Act.put,sT_,s0_,sC_,i64_w,i32_w]
   rfl
  refine take_ (i:=11) (N:=some 20) (v:=?_) (a':=?_) #[Y,Y,Y,Y,Y,Y,Y,Y,Y,Y,Y,Y,Z,Z,Z,Z,Z,Z,Z,Z,Z,Z,Z,Z,Z] rfl rfl (take_ofW HT_.out HW_.out (by kernel_rfl)) (fun _ _ _ h=>h) (Or.inl ⟨by rfl,?_⟩) hHeld ?_ ?_
  rotate_left
  ·rintro w' ⟨s0,s1,s2,s3,s4,s5,s6,s7,s8,s9,s10,s11⟩
   go_simp
   with_reducible rfl
  rotate_left
  ·simp only [Act.put,sT_,s0_,sC_,i64_w,i32_w]
   rfl
  refine pure_ (i:=12) (N:=some 21) (v:=?_) (a':=?_) #[Y,Y,Y,Y,Y,Y,Y,Y,Y,Y,Y,Y,Y,Z,Z,Z,Z,Z,Z,Z,Z,Z,Z,Z,Z] rfl rfl (any_of HT_.out (by kernel_rfl)) (fun _ _ _ h=>h) (Or.inl ⟨by rfl,?_⟩) ?_ ?_
  rotate_left
  ·intro w'
   go_simp
   with_reducible rfl
  rotate_left
  ·simp only [Act.put,sT_,s0_,sC_,i64_w,i32_w]
   rfl
  refine take_ (i:=13) (N:=some 22) (v:=?_) (a':=?_) #[Y,Y,Y,Y,Y,Y,Y,Y,Y,Y,Y,Y,Y,Y,Z,Z,Z,Z,Z,Z,Z,Z,Z,Z,Z] rfl rfl (take_ofW HT_.out HW_.out (by kernel_rfl)) (fun _ _ _ h=>h) (Or.inl ⟨by rfl,?_⟩) hHeld ?_ ?_
  rotate_left
  ·rintro w' ⟨s0,s1,s2,s3,s4,s5,s6,s7,s8,s9,s10,s11⟩
   go_simp
   with_reducible rfl
  rotate_left
  ·simp only [Act.put,sT_,s0_,sC_,i64_w,i32_w]
   rfl
  refine pure_ (i:=14) (N:=some 23) (v:=?_) (a':=?_) #[Y,Y,Y,Y,Y,Y,Y,Y,Y,Y,Y,Y,Y,Y,Y,Z,Z,Z,Z,Z,Z,Z,Z,Z,Z] rfl rfl (any_of HT_.out (by kernel_rfl)) (fun _ _ _ h=>h) (Or.inl ⟨by rfl,?_⟩) ?_ ?_
  rotate_left
  ·intro w'
   go_simp
   with_reducible rfl
  rotate_left
  ·simp only [Act.put,sT_,s0_,sC_,i64_w,i32_w]
   rfl
  refine pure_ (i:=15) (N:=some 24) (v:=?_) (a':=?_) #[Y,Y,Y,Y,Y,Y,Y,Y,Y,Y,Y,Y,Y,Y,Y,Y,Z,Z,Z,Z,Z,Z,Z,Z,Z] rfl rfl (any_of HT_.out (by kernel_rfl)) (fun _ _ _ h=>h) (Or.inl ⟨by rfl,?_⟩) ?_ ?_
  rotate_left
  ·intro w'
   go_simp
   with_reducible rfl
  rotate_left
  ·simp only [Act.put,sT_,s0_,sC_,i64_w,i32_w]
   rfl
  refine pure_ (i:=16) (N:=some 25) (v:=?_) (a':=?_) #[Y,Y,Y,Y,Y,Y,Y,Y,Y,Y,Y,Y,Y,Y,Y,Y,Y,Z,Z,Z,Z,Z,Z,Z,Z] rfl rfl (any_of HT_.out (by kernel_rfl)) (fun _ _ _ h=>h) (Or.inl ⟨by rfl,?_⟩) ?_ ?_
  rotate_left
  ·intro w'
   go_simp
   with_reducible rfl
  rotate_left
  ·simp only [Act.put,sT_,s0_,sC_,i64_w,i32_w]
   rfl
  refine pure_ (i:=18) (N:=some 27) (v:=?_) (a':=?_) #[Y,Y,Y,Y,Y,Y,Y,Y,Y,Y,Y,Y,Y,Y,Y,Y,Y,Z,Y,Z,Z,Z,Z,Z,Z] rfl rfl (any_of HT_.out (by kernel_rfl)) (fun _ _ _ h=>h) (Or.inl ⟨by rfl,?_⟩) ?_ ?_
  rotate_left
  ·intro w'
   go_simp
   with_reducible rfl
  rotate_left
  ·simp only [Act.put,sT_,s0_,sC_,i64_w,i32_w]
   rfl
  refine take_ (i:=17) (N:=some 26) (v:=?_) (a':=?_) #[Y,Y,Y,Y,Y,Y,Y,Y,Y,Y,Y,Y,Y,Y,Y,Y,Y,Y,Y,Z,Z,Z,Z,Z,Z] rfl rfl (take_ofW HT_.out HW_.out (by kernel_rfl)) (fun _ _ _ h=>h) (Or.inl ⟨by rfl,?_⟩) hHeld ?_ ?_
  rotate_left
  ·rintro w' ⟨s0,s1,s2,s3,s4,s5,s6,s7,s8,s9,s10,s11⟩
   go_simp
   with_reducible rfl
  rotate_left
  ·simp only [Act.put,sT_,s0_,sC_,i64_w,i32_w]
   rfl
  refine take_ (i:=19) (N:=some 28) (v:=?_) (a':=?_) #[Y,Y,Y,Y,Y,Y,Y,Y,Y,Y,Y,Y,Y,Y,Y,Y,Y,Y,Y,Y,Z,Z,Z,Z,Z] rfl rfl (take_ofW HT_.out HW_.out (by kernel_rfl)) (fun _ _ _ h=>h) (Or.inl ⟨by rfl,?_⟩) hHeld ?_ ?_
  rotate_left
  ·rintro w' ⟨s0,s1,s2,s3,s4,s5,s6,s7,s8,s9,s10,s11⟩
   go_simp
   with_reducible rfl
  rotate_left
  ·simp only [Act.put,sT_,s0_,sC_,i64_w,i32_w]
   rfl
  refine pure_ (i:=20) (N:=some 29) (v:=?_) (a':=?_) #[Y,Y,Y,Y,Y,Y,Y,Y,Y,Y,Y,Y,Y,Y,Y,Y,Y,Y,Y,Y,Y,Z,Z,Z,Z] rfl rfl (any_of HT_.out (by kernel_rfl)) (fun _ _ _ h=>h) (Or.inl ⟨by rfl,?_⟩) ?_ ?_
  rotate_left
  ·intro w'
   go_simp
   with_reducible rfl
  rotate_left
  ·simp only [Act.put,sT_,s0_,sC_,i64_w,i32_w]
   rfl
  refine take_ (i:=21) (N:=some 30) (v:=?_) (a':=?_) #[Y,Y,Y,Y,Y,Y,Y,Y,Y,Y,Y,Y,Y,Y,Y,Y,Y,Y,Y,Y,Y,Y,Z,Z,Z] rfl rfl (take_ofW HT_.out HW_.out (by kernel_rfl)) (fun _ _ _ h=>h) (Or.inl ⟨by rfl,?_⟩) hHeld ?_ ?_
  rotate_left
  ·rintro w' ⟨s0,s1,s2,s3,s4,s5,s6,s7,s8,s9,s10,s11⟩
   go_simp
   with_reducible rfl
  rotate_left
  ·simp only [Act.put,sT_,s0_,sC_,i64_w,i32_w]
   rfl
  refine one_ (i:=22) (N:=some 31) #[Y,Y,Y,Y,Y,Y,Y,Y,Y,Y,Y,Y,Y,Y,Y,Y,Y,Y,Y,Y,Y,Y,Y,Z,Z] rfl rfl (one_of HT_.out (by kernel_rfl)) (by decide) (fun K hK=>?_)
  refine goes_ Try.func51 (by kernel_rfl) rfl #[.agg #[.slice A0_0 l0_0.length c0_0,.slice A0_1 l0_1.length c0_1,.slice A0_2 l0_2.length c0_2,.slice (some ad354) l0_3.length c0_3,.slice A0_4 l0_4.length c0_4],.int .i64 (rd ((rd_T67 l0_3 0).f1) 0)] (by rfl) rfl rfl (by(try simp only [List.map_toArray,List.map_cons,List.map_nil]);first|done|rfl|(simp only [List.length_drop,List.length_take];rfl)) ?_
  with_reducible refine(arboristref15_Is.calls _ _ l0_0 _ _ l0_1 _ _ l0_2 _ _ l0_3 _ _ l0_4 (rd ((rd_T67 l0_3 0).f1) 0) t358 _ ?side1 ?side2 ?side3 ?side4 ?side5 ?side6 ?side7 ?side8 ?side9 ?side10 A15.out).mono ?_
  (case side1=>repeat (first|exact(Kd.C_below HR0_0.out HB.out)|(with_reducible first|refine Kd.C_alloc ?_ _|refine Kd.C_drewN ?_ _|refine Kd.C_drew ?_)))
  (case side2=>exact HC0_0.out)
  (case side3=>repeat (first|exact(Kd.C_below HR0_1.out HB.out)|(with_reducible first|refine Kd.C_alloc ?_ _|refine Kd.C_drewN ?_ _|refine Kd.C_drew ?_)))
  (case side4=>exact HC0_1.out)
  (case side5=>repeat (first|exact(Kd.C_below HR0_2.out HB.out)|(with_reducible first|refine Kd.C_alloc ?_ _|refine Kd.C_drewN ?_ _|refine Kd.C_drew ?_)))
  (case side6=>exact HC0_2.out)
  (case side7=>repeat (first|exact(Kd.C_below HR0_3.out HB.out)|(with_reducible first|refine Kd.C_alloc ?_ _|refine Kd.C_drewN ?_ _|refine Kd.C_drew ?_)))
  (case side8=>exact HC0_3.out)
  (case side9=>repeat (first|exact(Kd.C_below HR0_4.out HB.out)|(with_reducible first|refine Kd.C_alloc ?_ _|refine Kd.C_drewN ?_ _|refine Kd.C_drew ?_)))
  (case side10=>exact HC0_4.out)
  rintro e w18 ⟨rfl,hb⟩
  refine⟨_,rfl,?_⟩
  have n0_:=Az.mk (kB_ BK353.out hb)
  have n1_:=Az.mk (kB_ BK355.out hb)
  have n2_:=Az.mk (bT_ HB.out hb)
  clear BK353
  clear BK355
  clear HB
  have BK353:=n0_
  have BK355:=n1_
  have HB:=n2_
  clear n0_ n1_ n2_
  (try clear hb)
  (try clear hb2)
  (try clear hk)
  (try clear hi)
  refine hK.out _ _ ⟨(bC_ BK355.out 0).trans rfl,(bC_ BK355.out 1).trans rfl,(bC_ BK355.out 2).trans rfl,(bC_ BK355.out 3).trans rfl,(bC_ BK355.out 4).trans rfl,(bC_ BK353.out 0).trans rfl,(bC_ BK353.out 1).trans rfl,(bC_ BK353.out 2).trans rfl,(bC_ BK353.out 3).trans rfl,(bC_ BK353.out 4).trans rfl,(bc_ HB.out hw356_0),(bc_ HB.out hw357_0)⟩ (fun hHeld=>?_)
  clear hK K
  refine norm_ (a':=?_) ?_ ?_
  rotate_left
  ·show Act.put _ (some 31) _=_
   simp only [Act.put,sT_,s0_,sC_,i64_w,i32_w]
   rfl
  refine pure_ (i:=23) (N:=some 32) (v:=?_) (a':=?_) #[Y,Y,Y,Y,Y,Y,Y,Y,Y,Y,Y,Y,Y,Y,Y,Y,Y,Y,Y,Y,Y,Y,Y,Y,Z] rfl rfl (any_of HT_.out (by kernel_rfl)) (fun _ _ _ h=>h) (Or.inl ⟨by rfl,?_⟩) ?_ ?_
  rotate_left
  ·intro w'
   go_simp
   with_reducible rfl
  rotate_left
  ·simp only [Act.put,sT_,s0_,sC_,i64_w,i32_w]
   rfl
  refine pure_ (i:=24) (N:=some 33) (v:=?_) (a':=?_) #[Y,Y,Y,Y,Y,Y,Y,Y,Y,Y,Y,Y,Y,Y,Y,Y,Y,Y,Y,Y,Y,Y,Y,Y,Y] rfl rfl (any_of HT_.out (by kernel_rfl)) (fun _ _ _ h=>h) (Or.inl ⟨by rfl,?_⟩) ?_ ?_
  rotate_left
  ·intro w'
   go_simp
   with_reducible rfl
  rotate_left
  ·simp only [Act.put,sT_,s0_,sC_,i64_w,i32_w]
   rfl
  refine done_ (done_of HT_.out (by kernel_rfl)) ?_
  try go_wp2
  go_meet
  case rel=>exact⟨_,(!t358),(by first|rfl|(simp;done)|(simp [*];done)|(refine congrArg Value.bool ?_;exact isE_ _)),H',⟨by first|omega|exact Nat.le_refl _⟩,⟨by(with_reducible repeat (first|refine kN_ ?_ _|refine kD_ ?_|refine kA_ ?_ _));exact BK353.out⟩,⟨by(with_reducible repeat (first|refine kN_ ?_ _|refine kD_ ?_|refine kA_ ?_ _));exact BK355.out⟩,⟨by repeat (first|(with_reducible first|exact HB.out|apply bA_|apply bN_|apply bD_|refine bS_ ?_ GE353.out|refine bS_ ?_ GE355.out)|exact HB.out)⟩⟩
 case rest =>
  clear HC3
  try clear c1
  try clear p2
  try clear c3
  try clear p3
  try clear q3
  try clear hx3
  try clear qi3
  try clear c5
  try clear c9
  try clear c9b0
  try clear c9b1
  try clear c10
  try clear c10b0
  try clear c10b1
  try clear c11
  try clear hx356_0
  try clear hx357_0
  try clear p357
  try clear q357
  obtain⟨kq,x33_2,rfl,HA,HJ2,BK353,BK355,HB⟩:=hcut
  cases kq with
  | zero=>exact absurd HA.out (by simp [arboristref15_start.j0])
  | succ kj2 =>
   have H:=HA.out
   clear HA
   simp only [arboristref15_start.j0] at H
   by_cases c23:x33_2=true
   ·subst c23
    have H1:(some true)=some r:=by rw [if_pos rfl] at H;exact H
    clear H
    have H:=H1
    clear H1
    obtain rfl:=Option.some.inj H
    go_wp2
    go_ret
    exact⟨by first|rfl|(simp [errW_none,errW_some] <;> rfl)|(simp [*,errW_none,errW_some] <;> rfl),by repeat (first|(with_reducible first|exact HB.out|apply bA_|apply bN_|apply bD_|refine bS_ ?_ GE353.out|refine bS_ ?_ GE355.out)|exact HB.out)⟩
   replace c23:=Bool.eq_false_iff.mpr c23
   subst c23
   have H1:(arboristref15_start.l0 kj2 1 l0_0 l0_1 l0_2 l0_3 l0_4)=some r:=by rw [if_neg (show ¬ (false=true) by decide)] at H;exact H
   clear H
   have H:=H1
   clear H1
   have H':=Az.mk H
   clear H
   go_wp2
   go_loopg [4] kj2 (fun kq v4 w'=>∃ (x4_2:Int),v4=.int .i64 x4_2∧Az (arboristref15_start.l0 kq x4_2 l0_0 l0_1 l0_2 l0_3 l0_4=some r)∧Az (kq≤kj2)∧Az (w'.heap[gb353]?=some (.cells #[(.slice A0_0 l0_0.length c0_0),(.slice A0_1 l0_1.length c0_1),(.slice A0_2 l0_2.length c0_2),(.slice (some ad354) l0_3.length c0_3),(.slice A0_4 l0_4.length c0_4)] 27 (0,0)))∧Az (w'.heap[gb355]?=some (.cells #[.int .i64 ((rd_T67 l0_3 0).f0),(.slice A354_1 ((rd_T67 l0_3 0).f1).length c354_1),(.slice A354_2 ((rd_T67 l0_3 0).f2).length c354_2),.string ((rd_T67 l0_3 0).f3),.int .i64 ((rd_T67 l0_3 0).f4)] 67 (0,0)))∧Az (Below w.heap.size w w'))
   case atStart=>exact⟨(1),(by first|rfl|(simp;done)|(simp [*];done)|(refine congrArg Value.bool ?_;exact isE_ _)),H',⟨Nat.le_refl _⟩,⟨by(with_reducible repeat (first|refine kN_ ?_ _|refine kD_ ?_|refine kA_ ?_ _));exact BK353.out⟩,⟨by(with_reducible repeat (first|refine kN_ ?_ _|refine kD_ ?_|refine kA_ ?_ _));exact BK355.out⟩,⟨by repeat (first|(with_reducible first|exact HB.out|apply bA_|apply bN_|apply bD_|refine bS_ ?_ GE353.out|refine bS_ ?_ GE355.out)|exact HB.out)⟩⟩
   case round =>
    clear H'
    try clear c1
    try clear c2
    try clear p2 p2
    try clear c3
    try clear p3 p3
    try clear q3 q3
    try clear hx3
    try clear qi3
    try clear c5
    try clear c9
    try clear c9b0
    try clear c9b1
    try clear c10
    try clear c10b0
    try clear c10b1
    try clear c11
    try clear c23
    try clear hx356_0
    try clear hx357_0
    try clear p357
    try clear q357
    obtain⟨x4_2,rfl,HA,HK2,BK353,BK355,HB⟩:=hrel
    cases gk with
    | zero=>exact absurd HA.out (by simp [arboristref15_start.l0])
    | succ k2 =>
     have H:=HA.out
     clear HA
     simp only [arboristref15_start.l0] at H
     by_cases c24:x4_2 < (l0_3.length:Int)
     rotate_left
     ·rw [if_neg c24] at H
      have c24b0:=decide_eq_false c24
      clear c24
      obtain rfl:=Option.some.inj H
      have hnb31:=NB353_355.out
      have hnc31:=NB355_353.out
      obtain⟨hcz32_0,hcz32_1,hcz32_2,hcz32_3,hcz32_4,hfz32_0,hfz32_1,hfz32_2,hfz32_3,hfz32_4⟩:=cf5_ BK353.out
      go_wp2
      go_ret
      exact⟨by first|rfl|(simp [errW_none,errW_some] <;> rfl)|(simp [*,errW_none,errW_some] <;> rfl),by repeat (first|(with_reducible first|exact HB.out|apply bA_|apply bN_|apply bD_|refine bS_ ?_ GE353.out|refine bS_ ?_ GE355.out)|exact HB.out)⟩
     rw [if_pos c24] at H
     have c24b0:=decide_eq_true c24
     clear c24
     by_cases c25:0≤x4_2
     rotate_left
     ·rw [if_neg c25] at H
      exact absurd H (by simp)
     rw [if_pos c25] at H
     have c25b0:=decide_eq_true c25
     clear c25
     by_cases c26:((rd_T67 l0_3 x4_2).f0)=0
     ·rw [if_pos c26] at H
      have c26b0:=beq_iff_eq.mpr c26
      have c26b1:=bne_eq_false_iff_eq.mpr c26
      clear c26
      obtain rfl:=Option.some.inj H
      have hnb27:=NB353_355.out
      have hnc27:=NB355_353.out
      obtain⟨hcz28_0,hcz28_1,hcz28_2,hcz28_3,hcz28_4,hfz28_0,hfz28_1,hfz28_2,hfz28_3,hfz28_4⟩:=cf5_ BK353.out
      have p359:0≤(x4_2:Int):=of_decide_eq_true (by assumption)
      have q359:x4_2 < (l0_3.length:Int):=of_decide_eq_true (by assumption)
      obtain⟨ad359,A359_1,c359_1,A359_2,c359_2,e359,hx359_0,hx359_1,hx359_2,hx359_3,hx359_4,hl359_1,hi359_1,hl359_2,hi359_2⟩:=at_T67 HR0_3.out x4_2 p359 q359
      obtain rfl:ad354=ad359:=(by injection e359)
      replace hx359_0:=bc_ HB.out hx359_0
      replace hx359_1:=bc_ HB.out hx359_1
      replace hx359_2:=bc_ HB.out hx359_2
      replace hx359_3:=bc_ HB.out hx359_3
      replace hx359_4:=bc_ HB.out hx359_4
      have HR359_1:=Az.mk hi359_1
      have HC359_1:=Az.mk hl359_1
      clear hi359_1 hl359_1
      have HR359_2:=Az.mk hi359_2
      have HC359_2:=Az.mk hl359_2
      clear hi359_2 hl359_2
      replace p359:=eq_true p359
      replace q359:=eq_true q359
      go_wp2
      go_ret
      exact⟨by first|rfl|(simp [errW_none,errW_some] <;> rfl)|(simp [*,errW_none,errW_some] <;> rfl),by repeat (first|(with_reducible first|exact HB.out|apply bA_|apply bN_|apply bD_|refine bS_ ?_ GE353.out|refine bS_ ?_ GE355.out)|exact HB.out)⟩
     rw [if_neg c26] at H
     have c26b0:=beq_eq_false_iff_ne.mpr c26
     have c26b1:=bne_iff_ne.mpr c26
     have H':=Az.mk H
     clear H
     have hnb29:=NB353_355.out
     have hnc29:=NB355_353.out
     obtain⟨hcz30_0,hcz30_1,hcz30_2,hcz30_3,hcz30_4,hfz30_0,hfz30_1,hfz30_2,hfz30_3,hfz30_4⟩:=cf5_ BK353.out
     have p359:0≤(x4_2:Int):=of_decide_eq_true (by assumption)
     have q359:x4_2 < (l0_3.length:Int):=of_decide_eq_true (by assumption)
     obtain⟨ad359,A359_1,c359_1,A359_2,c359_2,e359,hx359_0,hx359_1,hx359_2,hx359_3,hx359_4,hl359_1,hi359_1,hl359_2,hi359_2⟩:=at_T67 HR0_3.out x4_2 p359 q359
     obtain rfl:ad354=ad359:=(by injection e359)
     replace hx359_0:=bc_ HB.out hx359_0
     replace hx359_1:=bc_ HB.out hx359_1
     replace hx359_2:=bc_ HB.out hx359_2
     replace hx359_3:=bc_ HB.out hx359_3
     replace hx359_4:=bc_ HB.out hx359_4
     have HR359_1:=Az.mk hi359_1
     have HC359_1:=Az.mk hl359_1
     clear hi359_1 hl359_1
     have HR359_2:=Az.mk hi359_2
     have HC359_2:=Az.mk hl359_2
     clear hi359_2 hl359_2
     replace p359:=eq_true p359
     replace q359:=eq_true q359
     go_wp2
     go_roundg k2
     case measure=>have:=HJ2.out;have:=HK2.out;omega
     case rel=>exact⟨(wrap64 (x4_2 + 1)),(by first|rfl|(simp;done)|(simp [*];done)|(refine congrArg Value.bool ?_;exact isE_ _)),H',⟨by have:=HJ2.out;have:=HK2.out;omega⟩,⟨by(with_reducible repeat (first|refine kN_ ?_ _|refine kD_ ?_|refine kA_ ?_ _));exact BK353.out⟩,⟨by(with_reducible repeat (first|refine kN_ ?_ _|refine kD_ ?_|refine kA_ ?_ _));exact BK355.out⟩,⟨by repeat (first|(with_reducible first|exact HB.out|apply bA_|apply bN_|apply bD_|refine bS_ ?_ GE353.out|refine bS_ ?_ GE355.out)|exact HB.out)⟩⟩
end Go.Proofs.Ytgdbcogbbghjaaa.Q
