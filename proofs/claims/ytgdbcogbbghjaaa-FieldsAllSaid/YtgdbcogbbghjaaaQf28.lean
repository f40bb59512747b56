import Derived.Test.YtgdbcogbbghjaaaQ0
namespace Go.Proofs.Ytgdbcogbbghjaaa.Q
open Go.RowKit Go.Proofs.YtgdbcogbbghjaaaW.PrintWords Go.Proofs.YtgdbcogbbghjaaaW.PrintLast Go.Proofs.YtgdbcogbbghjaaaW.PrintMore
attribute [local go_sem] max2_int min2_int max_two min_two max_three min_three max_four min_four   -- for this text's walks alone
set_option linter.unusedVariables false
set_option linter.unusedSimpArgs false
mutual
def arboristlaw17_Few.j0:Nat→Bool→List ByteArray→List ByteArray→List Int→List (S67)→List (S78)→Option (Bool)
 | 0,_,_,_,_,_,_=>none
 | k + 1,x39,x102000,x102001,x102002,x102003,x102004=>if x39=true then(some false)else(arboristlaw17_Few.l0 k 0 0 x102000 x102001 x102002 x102003 x102004)
def arboristlaw17_Few.j2:Nat→Int→List ByteArray→List ByteArray→List Int→List (S67)→List (S78)→Option (Bool)
 | 0,_,_,_,_,_,_=>none
 | k + 1,x3,x102000,x102001,x102002,x102003,x102004=>arboristlaw17_Few.l1 k x3 0 x102000 x102001 x102002 x102003 x102004
def arboristlaw17_Few.l1:Nat→Int→Int→List ByteArray→List ByteArray→List Int→List (S67)→List (S78)→Option (Bool)
 | 0,_,_,_,_,_,_,_=>none
 | k + 1,x3,x5,x102000,x102001,x102002,x102003,x102004=>if x5 < (x102004.length:Int)then(if 0≤x5 then(arboristlaw17_Few.l1 k (wrap64 (x3 + (mn (((rd_T78 x102004 x5).f1).length:Int) 1000))) (wrap64 (x5 + 1)) x102000 x102001 x102002 x102003 x102004)else(none))else(some (decide (x3 < 400)))
def arboristlaw17_Few.l0:Nat→Int→Int→List ByteArray→List ByteArray→List Int→List (S67)→List (S78)→Option (Bool)
 | 0,_,_,_,_,_,_,_=>none
 | k + 1,x3,x4,x102000,x102001,x102002,x102003,x102004=>if x4 < (x102003.length:Int)then(if x4 < 70 then(if 0≤x4 then(arboristlaw17_Few.l0 k (wrap64 ((wrap64 (x3 + (mn (((rd_T67 x102003 x4).f1).length:Int) 1000))) + (mn (((rd_T67 x102003 x4).f2).length:Int) 1000))) (wrap64 (x4 + 1)) x102000 x102001 x102002 x102003 x102004)else(none))else(arboristlaw17_Few.j2 k x3 x102000 x102001 x102002 x102003 x102004))else(arboristlaw17_Few.j2 k x3 x102000 x102001 x102002 x102003 x102004)
end
def arboristlaw17_Few.f (k:Nat)(l0_0:List ByteArray)(l0_1:List ByteArray)(l0_2:List Int)(l0_3:List (S67))(l0_4:List (S78)):Option (Bool):=if (l0_3.length:Int) > 60 then(if (l0_3.length:Int)≤1024 then(arboristlaw17_Few.j0 k true l0_0 l0_1 l0_2 l0_3 l0_4)else(if (l0_1.length:Int) > 60 then(if (l0_1.length:Int)≤512 then(arboristlaw17_Few.j0 k true l0_0 l0_1 l0_2 l0_3 l0_4)else(if (l0_0.length:Int) > 300 then(arboristlaw17_Few.j0 k true l0_0 l0_1 l0_2 l0_3 l0_4)else(arboristlaw17_Few.j0 k (decide ((l0_4.length:Int) > 40)) l0_0 l0_1 l0_2 l0_3 l0_4)))else(if (l0_0.length:Int) > 300 then(arboristlaw17_Few.j0 k true l0_0 l0_1 l0_2 l0_3 l0_4)else(arboristlaw17_Few.j0 k (decide ((l0_4.length:Int) > 40)) l0_0 l0_1 l0_2 l0_3 l0_4))))else(if (l0_1.length:Int) > 60 then(if (l0_1.length:Int)≤512 then(arboristlaw17_Few.j0 k true l0_0 l0_1 l0_2 l0_3 l0_4)else(if (l0_0.length:Int) > 300 then(arboristlaw17_Few.j0 k true l0_0 l0_1 l0_2 l0_3 l0_4)else(arboristlaw17_Few.j0 k (decide ((l0_4.length:Int) > 40)) l0_0 l0_1 l0_2 l0_3 l0_4)))else(if (l0_0.length:Int) > 300 then(arboristlaw17_Few.j0 k true l0_0 l0_1 l0_2 l0_3 l0_4)else(arboristlaw17_Few.j0 k (decide ((l0_4.length:Int) > 40)) l0_0 l0_1 l0_2 l0_3 l0_4)))
set_option maxHeartbeats 8000000 in
set_option maxRecDepth 100000 in
theorem arboristlaw17_Few.calls (k:Nat)(A0_0:Option Addr)(c0_0:Nat)(l0_0:List ByteArray)(A0_1:Option Addr)(c0_1:Nat)(l0_1:List ByteArray)(A0_2:Option Addr)(c0_2:Nat)(l0_2:List Int)(A0_3:Option Addr)(c0_3:Nat)(l0_3:List (S67))(A0_4:Option Addr)(c0_4:Nat)(l0_4:List (S78))(r:Bool)(w:World)(hr0_0:Kd.C Kd.string w A0_0 l0_0.length l0_0)(hc0_0:l0_0.length≤c0_0)(hr0_1:Kd.C Kd.string w A0_1 l0_1.length l0_1)(hc0_1:l0_1.length≤c0_1)(hr0_2:Kd.C (Kd.int .i64) w A0_2 l0_2.length l0_2)(hc0_2:l0_2.length≤c0_2)(hr0_3:Kd.C k67 w A0_3 l0_3.length l0_3)(hc0_3:l0_3.length≤c0_3)(hr0_4:Kd.C k78 w A0_4 l0_4.length l0_4)(hc0_4:l0_4.length≤c0_4)(h:arboristlaw17_Few.f k l0_0 l0_1 l0_2 l0_3 l0_4=some r) :
  Calls Try.prog 28 #[.agg #[.slice A0_0 l0_0.length c0_0,.slice A0_1 l0_1.length c0_1,.slice A0_2 l0_2.length c0_2,.slice A0_3 l0_3.length c0_3,.slice A0_4 l0_4.length c0_4]] w fun e w'=>e=.returned (.bool r)∧Below w.heap.size w w':=by
 have hu27:=Try.underlying27
 have HR0_0:=Az.mk hr0_0
 have HC0_0:=Az.mk hc0_0
 clear hr0_0 hc0_0
 have HR0_1:=Az.mk hr0_1
 have HC0_1:=Az.mk hc0_1
 clear hr0_1 hc0_1
 have HR0_2:=Az.mk hr0_2
 have HC0_2:=Az.mk hc0_2
 clear hr0_2 hc0_2
 have HR0_3:=Az.mk hr0_3
 have HC0_3:=Az.mk hc0_3
 clear hr0_3 hc0_3
 have HR0_4:=Az.mk hr0_4
 have HC0_4:=Az.mk hc0_4
 clear hr0_4 hc0_4
 have HB:=Az.mk (Below.refl w.heap.size w)
 have H:(if (l0_3.length:Int) > 60 then(if (l0_3.length:Int)≤1024 then(arboristlaw17_Few.j0 k true l0_0 l0_1 l0_2 l0_3 l0_4)else(if (l0_1.length:Int) > 60 then(if (l0_1.length:Int)≤512 then(arboristlaw17_Few.j0 k true l0_0 l0_1 l0_2 l0_3 l0_4)else(if (l0_0.length:Int) > 300 then(arboristlaw17_Few.j0 k true l0_0 l0_1 l0_2 l0_3 l0_4)else(arboristlaw17_Few.j0 k (decide ((l0_4.length:Int) > 40)) l0_0 l0_1 l0_2 l0_3 l0_4)))else(if (l0_0.length:Int) > 300 then(arboristlaw17_Few.j0 k true l0_0 l0_1 l0_2 l0_3 l0_4)else(arboristlaw17_Few.j0 k (decide ((l0_4.length:Int) > 40)) l0_0 l0_1 l0_2 l0_3 l0_4))))else(if (l0_1.length:Int) > 60 then(if (l0_1.length:Int)≤512 then(arboristlaw17_Few.j0 k true l0_0 l0_1 l0_2 l0_3 l0_4)else(if (l0_0.length:Int) > 300 then(arboristlaw17_Few.j0 k true l0_0 l0_1 l0_2 l0_3 l0_4)else(arboristlaw17_Few.j0 k (decide ((l0_4.length:Int) > 40)) l0_0 l0_1 l0_2 l0_3 l0_4)))else(if (l0_0.length:Int) > 300 then(arboristlaw17_Few.j0 k true l0_0 l0_1 l0_2 l0_3 l0_4)else(arboristlaw17_Few.j0 k (decide ((l0_4.length:Int) > 40)) l0_0 l0_1 l0_2 l0_3 l0_4))))=some r:=h
 clear h
 have HC2:=Az.mk H
 clear H
 go_enter Try.func28,Try.ntmps28
 go_upto_region 1 with(first|((with_reducible refine gate_dst (N:=1) rfl ?_);(try (refine gate_guard (by rfl) ?_;dsimp only));refine box_event ?hg (N:=1) ?hd (cs:=#[.slice A0_0 l0_0.length c0_0,.slice A0_1 l0_1.length c0_1,.slice A0_2 l0_2.length c0_2,.slice A0_3 l0_3.length c0_3,.slice A0_4 l0_4.length c0_4]) (t:=27) ?hr ?_;(case hd=>rfl);(case hg=>rfl);(case hr=>first|(go_simp;done)|(go_simp;rfl));intro gb101 hg w3 hbox hb;have n0_:=Az.mk (bT_ HB.out hb);have n1_:=Az.mk (hbox);have n2_:=Az.mk ((szl_ HB.out hg));have n3_:=Az.mk ((szl_ HB.out hg));clear HB;have HB:=n0_;have BK101:=n1_;have GW101:=n2_;have GE101:=n3_;clear n0_ n1_ n2_ n3_;clear hb hbox hg))
 repeat (go_quiet (first|((with_reducible refine gate_dst (N:=1) rfl ?_);(try (refine gate_guard (by rfl) ?_;dsimp only));refine box_event ?hg (N:=1) ?hd (cs:=#[.slice A0_0 l0_0.length c0_0,.slice A0_1 l0_1.length c0_1,.slice A0_2 l0_2.length c0_2,.slice A0_3 l0_3.length c0_3,.slice A0_4 l0_4.length c0_4]) (t:=27) ?hr ?_;(case hd=>rfl);(case hg=>rfl);(case hr=>first|(go_simp;done)|(go_simp;rfl));intro gb101 hg w3 hbox hb;have n0_:=Az.mk (bT_ HB.out hb);have n1_:=Az.mk (hbox);have n2_:=Az.mk ((szl_ HB.out hg));have n3_:=Az.mk ((szl_ HB.out hg));clear HB;have HB:=n0_;have BK101:=n1_;have GW101:=n2_;have GE101:=n3_;clear n0_ n1_ n2_ n3_;clear hb hbox hg));go_upto_region 1 with(first|((with_reducible refine gate_dst (N:=1) rfl ?_);(try (refine gate_guard (by rfl) ?_;dsimp only));refine box_event ?hg (N:=1) ?hd (cs:=#[.slice A0_0 l0_0.length c0_0,.slice A0_1 l0_1.length c0_1,.slice A0_2 l0_2.length c0_2,.slice A0_3 l0_3.length c0_3,.slice A0_4 l0_4.length c0_4]) (t:=27) ?hr ?_;(case hd=>rfl);(case hg=>rfl);(case hr=>first|(go_simp;done)|(go_simp;rfl));intro gb101 hg w3 hbox hb;have n0_:=Az.mk (bT_ HB.out hb);have n1_:=Az.mk (hbox);have n2_:=Az.mk ((szl_ HB.out hg));have n3_:=Az.mk ((szl_ HB.out hg));clear HB;have HB:=n0_;have BK101:=n1_;have GW101:=n2_;have GE101:=n3_;clear n0_ n1_ n2_ n3_;clear hb hbox hg)))
 (try simp only [Act.put,sT_,s0_,sC_])
 go_cut [39] (fun v39 wc=>∃ (kq:Nat) (x39_1:Bool),v39=.bool x39_1∧Az (arboristlaw17_Few.j0 kq x39_1 l0_0 l0_1 l0_2 l0_3 l0_4=some r)∧Az (kq≤k)∧Az (wc.heap[gb101]?=some (.cells #[(.slice A0_0 l0_0.length c0_0),(.slice A0_1 l0_1.length c0_1),(.slice A0_2 l0_2.length c0_2),(.slice A0_3 l0_3.length c0_3),(.slice A0_4 l0_4.length c0_4)] 27 (0,0)))∧Az (Below w.heap.size w wc))
 case first =>
  have H:=HC2.out
  clear HC2
  by_cases c4:(l0_3.length:Int) > 60
  rotate_left
  ·rw [if_neg c4] at H
   have c4b0:=decide_eq_false c4
   have c4b1:decide (60 < l0_3.length)=false:=decide_eq_false (by omega)
   clear c4
   (first|rw [c4b0]|(simp only [i64_w,i32_w];rw [c4b0])|skip)
   by_cases c16:(l0_1.length:Int) > 60
   rotate_left
   ·rw [if_neg c16] at H
    have c16b0:=decide_eq_false c16
    have c16b1:decide (60 < l0_1.length)=false:=decide_eq_false (by omega)
    clear c16
    by_cases c22:(l0_0.length:Int) > 300
    ·rw [if_pos c22] at H
     have c22b0:=decide_eq_true c22
     have c22b1:decide (300 < l0_0.length)=true:=decide_eq_true (by omega)
     clear c22
     have H':=Az.mk H
     clear H
     obtain⟨hcz23_0,hcz23_1,hcz23_2,hcz23_3,hcz23_4,hfz23_0,hfz23_1,hfz23_2,hfz23_3,hfz23_4⟩:=cf5_ BK101.out
     go_wp2
     repeat (go_quiet (fail);try go_wp2)
     go_meet
     case rel=>exact⟨_,(true),(by first|rfl|(simp;done)|(simp [*];done)|(refine congrArg Value.bool ?_;exact isE_ _)),H',⟨by first|omega|exact Nat.le_refl _⟩,⟨by(with_reducible repeat (first|refine kN_ ?_ _|refine kD_ ?_|refine kA_ ?_ _));exact BK101.out⟩,⟨by repeat (first|(with_reducible first|exact HB.out|apply bA_|apply bN_|apply bD_|refine bS_ ?_ GE101.out)|exact HB.out)⟩⟩
    rw [if_neg c22] at H
    have c22b0:=decide_eq_false c22
    have c22b1:decide (300 < l0_0.length)=false:=decide_eq_false (by omega)
    clear c22
    have H':=Az.mk H
    clear H
    obtain⟨hcz24_0,hcz24_1,hcz24_2,hcz24_3,hcz24_4,hfz24_0,hfz24_1,hfz24_2,hfz24_3,hfz24_4⟩:=cf5_ BK101.out
    go_wp2
    repeat (go_quiet (fail);try go_wp2)
    go_meet
    case rel=>exact⟨_,(decide ((l0_4.length:Int) > 40)),(by first|rfl|(simp;done)|(simp [*];done)|(refine congrArg Value.bool ?_;exact isE_ _)),H',⟨by first|omega|exact Nat.le_refl _⟩,⟨by(with_reducible repeat (first|refine kN_ ?_ _|refine kD_ ?_|refine kA_ ?_ _));exact BK101.out⟩,⟨by repeat (first|(with_reducible first|exact HB.out|apply bA_|apply bN_|apply bD_|refine bS_ ?_ GE101.out)|exact HB.out)⟩⟩
   rw [if_pos c16] at H
   have c16b0:=decide_eq_true c16
   have c16b1:decide (60 < l0_1.length)=true:=decide_eq_true (by omega)
   clear c16
   by_cases c17:(l0_1.length:Int)≤512
   ·rw [if_pos c17] at H
    have c17b0:=decide_eq_true c17
    have c17b1:decide (l0_1.length≤512)=true:=decide_eq_true (by omega)
    clear c17
    have H':=Az.mk H
    clear H
    obtain⟨hcz18_0,hcz18_1,hcz18_2,hcz18_3,hcz18_4,hfz18_0,hfz18_1,hfz18_2,hfz18_3,hfz18_4⟩:=cf5_ BK101.out
    go_wp2
    repeat (go_quiet (fail);try go_wp2)
    go_meet
    case rel=>exact⟨_,(true),(by first|rfl|(simp;done)|(simp [*];done)|(refine congrArg Value.bool ?_;exact isE_ _)),H',⟨by first|omega|exact Nat.le_refl _⟩,⟨by(with_reducible repeat (first|refine kN_ ?_ _|refine kD_ ?_|refine kA_ ?_ _));exact BK101.out⟩,⟨by repeat (first|(with_reducible first|exact HB.out|apply bA_|apply bN_|apply bD_|refine bS_ ?_ GE101.out)|exact HB.out)⟩⟩
   rw [if_neg c17] at H
   have c17b0:=decide_eq_false c17
   have c17b1:decide (l0_1.length≤512)=false:=decide_eq_false (by omega)
   clear c17
   by_cases c19:(l0_0.length:Int) > 300
   ·rw [if_pos c19] at H
    have c19b0:=decide_eq_true c19
    have c19b1:decide (300 < l0_0.length)=true:=decide_eq_true (by omega)
    clear c19
    have H':=Az.mk H
    clear H
    obtain⟨hcz20_0,hcz20_1,hcz20_2,hcz20_3,hcz20_4,hfz20_0,hfz20_1,hfz20_2,hfz20_3,hfz20_4⟩:=cf5_ BK101.out
    go_wp2
    repeat (go_quiet (fail);try go_wp2)
    go_meet
    case rel=>exact⟨_,(true),(by first|rfl|(simp;done)|(simp [*];done)|(refine congrArg Value.bool ?_;exact isE_ _)),H',⟨by first|omega|exact Nat.le_refl _⟩,⟨by(with_reducible repeat (first|refine kN_ ?_ _|refine kD_ ?_|refine kA_ ?_ _));exact BK101.out⟩,⟨by repeat (first|(with_reducible first|exact HB.out|apply bA_|apply bN_|apply bD_|refine bS_ ?_ GE101.out)|exact HB.out)⟩⟩
   rw [if_neg c19] at H
   have c19b0:=decide_eq_false c19
   have c19b1:decide (300 < l0_0.length)=false:=decide_eq_false (by omega)
   clear c19
   have H':=Az.mk H
   clear H
   obtain⟨hcz21_0,hcz21_1,hcz21_2,hcz21_3,hcz21_4,hfz21_0,hfz21_1,hfz21_2,hfz21_3,hfz21_4⟩:=cf5_ BK101.out
   go_wp2
   repeat (go_quiet (fail);try go_wp2)
   go_meet
   case rel=>exact⟨_,(decide ((l0_4.length:Int) > 40)),(by first|rfl|(simp;done)|(simp [*];done)|(refine congrArg Value.bool ?_;exact isE_ _)),H',⟨by first|omega|exact Nat.le_refl _⟩,⟨by(with_reducible repeat (first|refine kN_ ?_ _|refine kD_ ?_|refine kA_ ?_ _));exact BK101.out⟩,⟨by repeat (first|(with_reducible first|exact HB.out|apply bA_|apply bN_|apply bD_|refine bS_ ?_ GE101.out)|exact HB.out)⟩⟩
  rw [if_pos c4] at H
  have c4b0:=decide_eq_true c4
  have c4b1:decide (60 < l0_3.length)=true:=decide_eq_true (by omega)
  clear c4
  (first|rw [c4b0]|(simp only [i64_w,i32_w];rw [c4b0])|skip)
  by_cases c5:(l0_3.length:Int)≤1024
  ·rw [if_pos c5] at H
   have c5b0:=decide_eq_true c5
   have c5b1:decide (l0_3.length≤1024)=true:=decide_eq_true (by omega)
   clear c5
   have H':=Az.mk H
   clear H
   obtain⟨hcz6_0,hcz6_1,hcz6_2,hcz6_3,hcz6_4,hfz6_0,hfz6_1,hfz6_2,hfz6_3,hfz6_4⟩:=cf5_ BK101.out
   go_wp2
   repeat (go_quiet (fail);try go_wp2)
   go_meet
   case rel=>exact⟨_,(true),(by first|rfl|(simp;done)|(simp [*];done)|(refine congrArg Value.bool ?_;exact isE_ _)),H',⟨by first|omega|exact Nat.le_refl _⟩,⟨by(with_reducible repeat (first|refine kN_ ?_ _|refine kD_ ?_|refine kA_ ?_ _));exact BK101.out⟩,⟨by repeat (first|(with_reducible first|exact HB.out|apply bA_|apply bN_|apply bD_|refine bS_ ?_ GE101.out)|exact HB.out)⟩⟩
  rw [if_neg c5] at H
  have c5b0:=decide_eq_false c5
  have c5b1:decide (l0_3.length≤1024)=false:=decide_eq_false (by omega)
  clear c5
  by_cases c7:(l0_1.length:Int) > 60
  rotate_left
  ·rw [if_neg c7] at H
   have c7b0:=decide_eq_false c7
   have c7b1:decide (60 < l0_1.length)=false:=decide_eq_false (by omega)
   clear c7
   by_cases c13:(l0_0.length:Int) > 300
   ·rw [if_pos c13] at H
    have c13b0:=decide_eq_true c13
    have c13b1:decide (300 < l0_0.length)=true:=decide_eq_true (by omega)
    clear c13
    have H':=Az.mk H
    clear H
    obtain⟨hcz14_0,hcz14_1,hcz14_2,hcz14_3,hcz14_4,hfz14_0,hfz14_1,hfz14_2,hfz14_3,hfz14_4⟩:=cf5_ BK101.out
    go_wp2
    repeat (go_quiet (fail);try go_wp2)
    go_meet
    case rel=>exact⟨_,(true),(by first|rfl|(simp;done)|(simp [*];done)|(refine congrArg Value.bool ?_;exact isE_ _)),H',⟨by first|omega|exact Nat.le_refl _⟩,⟨by(with_reducible repeat (first|refine kN_ ?_ _|refine kD_ ?_|refine kA_ ?_ _));exact BK101.out⟩,⟨by repeat (first|(with_reducible first|exact HB.out|apply bA_|apply bN_|apply bD_|refine bS_ ?_ GE101.out)|exact HB.out)⟩⟩
   rw [if_neg c13] at H
   have c13b0:=decide_eq_false c13
   have c13b1:decide (300 < l0_0.length)=false:=decide_eq_false (by omega)
   clear c13
   have H':=Az.mk H
   clear H
   obtain⟨hcz15_0,hcz15_1,hcz15_2,hcz15_3,hcz15_4,hfz15_0,hfz15_1,hfz15_2,hfz15_3,hfz15_4⟩:=cf5_ BK101.out
   go_wp2
   repeat (go_quiet (fail);try go_wp2)
   go_meet
   case rel=>exact⟨_,(decide ((l0_4.length:Int) > 40)),(by first|rfl|(simp;done)|(simp [*];done)|(refine congrArg Value.bool ?_;exact isE_ _)),H',⟨by first|omega|exact Nat.le_refl _⟩,⟨by(with_reducible repeat (first|refine kN_ ?_ _|refine kD_ ?_|refine kA_ ?_ _));exact BK101.out⟩,⟨by repeat (first|(with_reducible first|exact HB.out|apply bA_|apply bN_|apply bD_|refine bS_ ?_ GE101.out)|exact HB.out)⟩⟩
  rw [if_pos c7] at H
  have c7b0:=decide_eq_true c7
  have c7b1:decide (60 < l0_1.length)=true:=decide_eq_true (by omega)
  clear c7
  by_cases c8:(l0_1.length:Int)≤512
  ·rw [if_pos c8] at H
   have c8b0:=decide_eq_true c8
   have c8b1:decide (l0_1.length≤512)=true:=decide_eq_true (by omega)
   clear c8
   have H':=Az.mk H
   clear H
   obtain⟨hcz9_0,hcz9_1,hcz9_2,hcz9_3,hcz9_4,hfz9_0,hfz9_1,hfz9_2,hfz9_3,hfz9_4⟩:=cf5_ BK101.out
   go_wp2
   repeat (go_quiet (fail);try go_wp2)
   go_meet
   case rel=>exact⟨_,(true),(by first|rfl|(simp;done)|(simp [*];done)|(refine congrArg Value.bool ?_;exact isE_ _)),H',⟨by first|omega|exact Nat.le_refl _⟩,⟨by(with_reducible repeat (first|refine kN_ ?_ _|refine kD_ ?_|refine kA_ ?_ _));exact BK101.out⟩,⟨by repeat (first|(with_reducible first|exact HB.out|apply bA_|apply bN_|apply bD_|refine bS_ ?_ GE101.out)|exact HB.out)⟩⟩
  rw [if_neg c8] at H
  have c8b0:=decide_eq_false c8
  have c8b1:decide (l0_1.length≤512)=false:=decide_eq_false (by omega)
  clear c8
  by_cases c10:(l0_0.length:Int) > 300
  ·rw [if_pos c10] at H
   have c10b0:=decide_eq_true c10
   have c10b1:decide (300 < l0_0.length)=true:=decide_eq_true (by omega)
   clear c10
   have H':=Az.mk H
   clear H
   obtain⟨hcz11_0,hcz11_1,hcz11_2,hcz11_3,hcz11_4,hfz11_0,hfz11_1,hfz11_2,hfz11_3,hfz11_4⟩:=cf5_ BK101.out
   go_wp2
   repeat (go_quiet (fail);try go_wp2)
   go_meet
   case rel=>exact⟨_,(true),(by first|rfl|(simp;done)|(simp [*];done)|(refine congrArg Value.bool ?_;exact isE_ _)),H',⟨by first|omega|exact Nat.le_refl _⟩,⟨by(with_reducible repeat (first|refine kN_ ?_ _|refine kD_ ?_|refine kA_ ?_ _));exact BK101.out⟩,⟨by repeat (first|(with_reducible first|exact HB.out|apply bA_|apply bN_|apply bD_|refine bS_ ?_ GE101.out)|exact HB.out)⟩⟩
  rw [if_neg c10] at H
  have c10b0:=decide_eq_false c10
  have c10b1:decide (300 < l0_0.length)=false:=decide_eq_false (by omega)
  clear c10
  have H':=Az.mk H
  clear H
  obtain⟨hcz12_0,hcz12_1,hcz12_2,hcz12_3,hcz12_4,hfz12_0,hfz12_1,hfz12_2,hfz12_3,hfz12_4⟩:=cf5_ BK101.out
  go_wp2
  repeat (go_quiet (fail);try go_wp2)
  go_meet
  case rel=>exact⟨_,(decide ((l0_4.length:Int) > 40)),(by first|rfl|(simp;done)|(simp [*];done)|(refine congrArg Value.bool ?_;exact isE_ _)),H',⟨by first|omega|exact Nat.le_refl _⟩,⟨by(with_reducible repeat (first|refine kN_ ?_ _|refine kD_ ?_|refine kA_ ?_ _));exact BK101.out⟩,⟨by repeat (first|(with_reducible first|exact HB.out|apply bA_|apply bN_|apply bD_|refine bS_ ?_ GE101.out)|exact HB.out)⟩⟩
 case rest =>
  clear HC2
  try clear c1
  try clear c2
  try clear p2
  try clear c4
  try clear c4b0
  try clear c4b1
  try clear c5
  try clear c5b0
  try clear c5b1
  try clear c7
  try clear c7b0
  try clear c7b1
  try clear c8
  try clear c8b0
  try clear c8b1
  try clear c10
  try clear c10b0
  try clear c10b1
  try clear c13
  try clear c13b0
  try clear c13b1
  try clear c16
  try clear c16b0
  try clear c16b1
  try clear c17
  try clear c17b0
  try clear c17b1
  try clear c19
  try clear c19b0
  try clear c19b1
  try clear c22
  try clear c22b0
  try clear c22b1
  try clear hcz11_0 hcz11_1 hcz11_2 hcz11_3 hcz11_4 hfz11_0 hfz11_1 hfz11_2 hfz11_3 hfz11_4
  try clear hcz12_0 hcz12_1 hcz12_2 hcz12_3 hcz12_4 hfz12_0 hfz12_1 hfz12_2 hfz12_3 hfz12_4
  try clear hcz14_0 hcz14_1 hcz14_2 hcz14_3 hcz14_4 hfz14_0 hfz14_1 hfz14_2 hfz14_3 hfz14_4
  try clear hcz15_0 hcz15_1 hcz15_2 hcz15_3 hcz15_4 hfz15_0 hfz15_1 hfz15_2 hfz15_3 hfz15_4
  try clear hcz18_0 hcz18_1 hcz18_2 hcz18_3 hcz18_4 hfz18_0 hfz18_1 hfz18_2 hfz18_3 hfz18_4
  try clear hcz20_0 hcz20_1 hcz20_2 hcz20_3 hcz20_4 hfz20_0 hfz20_1 hfz20_2 hfz20_3 hfz20_4
  try clear hcz21_0 hcz21_1 hcz21_2 hcz21_3 hcz21_4 hfz21_0 hfz21_1 hfz21_2 hfz21_3 hfz21_4
  try clear hcz23_0 hcz23_1 hcz23_2 hcz23_3 hcz23_4 hfz23_0 hfz23_1 hfz23_2 hfz23_3 hfz23_4
  try clear hcz24_0 hcz24_1 hcz24_2 hcz24_3 hcz24_4 hfz24_0 hfz24_1 hfz24_2 hfz24_3 hfz24_4
  try clear hcz6_0 hcz6_1 hcz6_2 hcz6_3 hcz6_4 hfz6_0 hfz6_1 hfz6_2 hfz6_3 hfz6_4
  try clear hcz9_0 hcz9_1 hcz9_2 hcz9_3 hcz9_4 hfz9_0 hfz9_1 hfz9_2 hfz9_3 hfz9_4
  obtain⟨kq,x39_1,rfl,HA,HJ1,BK101,HB⟩:=hcut
  cases kq with
  | zero=>exact absurd HA.out (by simp [arboristlaw17_Few.j0])
  | succ kj1 =>
   have H:=HA.out
   clear HA
   simp only [arboristlaw17_Few.j0] at H
   by_cases c25:x39_1=true
   ·subst c25
    have H1:(some false)=some r:=by rw [if_pos rfl] at H;exact H
    clear H
    have H:=H1
    clear H1
    obtain rfl:=Option.some.inj H
    go_wp2
    repeat (go_quiet (fail);try go_wp2)
    go_ret
    exact⟨by first|rfl|(simp [errW_none,errW_some] <;> rfl)|(simp [*,errW_none,errW_some] <;> rfl),by repeat (first|(with_reducible first|exact HB.out|apply bA_|apply bN_|apply bD_|refine bS_ ?_ GE101.out)|exact HB.out)⟩
   replace c25:=Bool.eq_false_iff.mpr c25
   subst c25
   have H1:(arboristlaw17_Few.l0 kj1 0 0 l0_0 l0_1 l0_2 l0_3 l0_4)=some r:=by rw [if_neg (show ¬ (false=true) by decide)] at H;exact H
   clear H
   have H:=H1
   clear H1
   have HC26:=Az.mk H
   clear H
   go_upto_block 0 with(fail)
   repeat (go_quiet (fail);go_upto_block 0 with(fail))
   go_cut [3] (fun v3 wc=>∃ (kq:Nat) (x3_25:Int),v3=.int .i64 x3_25∧Az (arboristlaw17_Few.j2 kq x3_25 l0_0 l0_1 l0_2 l0_3 l0_4=some r)∧Az (kq≤kj1)∧Az (wc.heap[gb101]?=some (.cells #[(.slice A0_0 l0_0.length c0_0),(.slice A0_1 l0_1.length c0_1),(.slice A0_2 l0_2.length c0_2),(.slice A0_3 l0_3.length c0_3),(.slice A0_4 l0_4.length c0_4)] 27 (0,0)))∧Az (Below w.heap.size w wc))
   case first =>
    have H:=HC26.out
    clear HC26
    have H':=Az.mk H
    clear H
    go_wp2
    repeat (go_quiet (fail);try go_wp2)
    go_loopg [3,4] kj1 (fun kq v3 v4 w'=>∃ (x3_2:Int) (x4_2:Int),v3=.int .i64 x3_2∧v4=.int .i64 x4_2∧Az (arboristlaw17_Few.l0 kq x3_2 x4_2 l0_0 l0_1 l0_2 l0_3 l0_4=some r)∧Az (kq≤kj1)∧Az (w'.heap[gb101]?=some (.cells #[(.slice A0_0 l0_0.length c0_0),(.slice A0_1 l0_1.length c0_1),(.slice A0_2 l0_2.length c0_2),(.slice A0_3 l0_3.length c0_3),(.slice A0_4 l0_4.length c0_4)] 27 (0,0)))∧Az (Below w.heap.size w w'))
    case atStart=>exact⟨(0),(0),(by first|rfl|(simp;done)|(simp [*];done)|(refine congrArg Value.bool ?_;exact isE_ _)),(by first|rfl|(simp;done)|(simp [*];done)|(refine congrArg Value.bool ?_;exact isE_ _)),H',⟨Nat.le_refl _⟩,⟨by(with_reducible repeat (first|refine kN_ ?_ _|refine kD_ ?_|refine kA_ ?_ _));exact BK101.out⟩,⟨by repeat (first|(with_reducible first|exact HB.out|apply bA_|apply bN_|apply bD_|refine bS_ ?_ GE101.out)|exact HB.out)⟩⟩
    case round =>
     clear H'
     try clear c1
     try clear c2
     try clear p2 p2
     try clear c4
     try clear c4b0
     try clear c4b1
     try clear c5
     try clear c5b0
     try clear c5b1
     try clear c7
     try clear c7b0
     try clear c7b1
     try clear c8
     try clear c8b0
     try clear c8b1
     try clear c10
     try clear c10b0
     try clear c10b1
     try clear c13
     try clear c13b0
     try clear c13b1
     try clear c16
     try clear c16b0
     try clear c16b1
     try clear c17
     try clear c17b0
     try clear c17b1
     try clear c19
     try clear c19b0
     try clear c19b1
     try clear c22
     try clear c22b0
     try clear c22b1
     try clear c25
     try clear hcz11_0 hcz11_1 hcz11_2 hcz11_3 hcz11_4 hfz11_0 hfz11_1 hfz11_2 hfz11_3 hfz11_4
     try clear hcz12_0 hcz12_1 hcz12_2 hcz12_3 hcz12_4 hfz12_0 hfz12_1 hfz12_2 hfz12_3 hfz12_4
     try clear hcz14_0 hcz14_1 hcz14_2 hcz14_3 hcz14_4 hfz14_0 hfz14_1 hfz14_2 hfz14_3 hfz14_4
     try clear hcz15_0 hcz15_1 hcz15_2 hcz15_3 hcz15_4 hfz15_0 hfz15_1 hfz15_2 hfz15_3 hfz15_4
     try clear hcz18_0 hcz18_1 hcz18_2 hcz18_3 hcz18_4 hfz18_0 hfz18_1 hfz18_2 hfz18_3 hfz18_4
     try clear hcz20_0 hcz20_1 hcz20_2 hcz20_3 hcz20_4 hfz20_0 hfz20_1 hfz20_2 hfz20_3 hfz20_4
     try clear hcz21_0 hcz21_1 hcz21_2 hcz21_3 hcz21_4 hfz21_0 hfz21_1 hfz21_2 hfz21_3 hfz21_4
     try clear hcz23_0 hcz23_1 hcz23_2 hcz23_3 hcz23_4 hfz23_0 hfz23_1 hfz23_2 hfz23_3 hfz23_4
     try clear hcz24_0 hcz24_1 hcz24_2 hcz24_3 hcz24_4 hfz24_0 hfz24_1 hfz24_2 hfz24_3 hfz24_4
     try clear hcz6_0 hcz6_1 hcz6_2 hcz6_3 hcz6_4 hfz6_0 hfz6_1 hfz6_2 hfz6_3 hfz6_4
     try clear hcz9_0 hcz9_1 hcz9_2 hcz9_3 hcz9_4 hfz9_0 hfz9_1 hfz9_2 hfz9_3 hfz9_4
     obtain⟨x3_2,x4_2,rfl,rfl,HA,HK2,BK101,HB⟩:=hrel
     cases gk with
     | zero=>exact absurd HA.out (by simp [arboristlaw17_Few.l0])
     | succ k2 =>
      have H:=HA.out
      clear HA
      simp only [arboristlaw17_Few.l0] at H
      by_cases c27:x4_2 < (l0_3.length:Int)
      rotate_left
      ·rw [if_neg c27] at H
       have c27b0:=decide_eq_false c27
       clear c27
       (first|rw [c27b0]|(simp only [i64_w,i32_w];rw [c27b0])|skip)
       have H':=Az.mk H
       clear H
       obtain⟨hcz34_0,hcz34_1,hcz34_2,hcz34_3,hcz34_4,hfz34_0,hfz34_1,hfz34_2,hfz34_3,hfz34_4⟩:=cf5_ BK101.out
       go_wp2
       repeat (go_quiet (fail);try go_wp2)
       go_meet
       case rel=>exact⟨_,(x3_2),(by first|rfl|(simp;done)|(simp [*];done)|(refine congrArg Value.bool ?_;exact isE_ _)),H',⟨by have:=HJ1.out;have:=HK2.out;first|omega|exact Nat.le_refl _⟩,⟨by(with_reducible repeat (first|refine kN_ ?_ _|refine kD_ ?_|refine kA_ ?_ _));exact BK101.out⟩,⟨by repeat (first|(with_reducible first|exact HB.out|apply bA_|apply bN_|apply bD_|refine bS_ ?_ GE101.out)|exact HB.out)⟩⟩
      rw [if_pos c27] at H
      have c27b0:=decide_eq_true c27
      clear c27
      (first|rw [c27b0]|(simp only [i64_w,i32_w];rw [c27b0])|skip)
      by_cases c28:x4_2 < 70
      rotate_left
      ·rw [if_neg c28] at H
       have c28b0:=decide_eq_false c28
       clear c28
       have H':=Az.mk H
       clear H
       obtain⟨hcz33_0,hcz33_1,hcz33_2,hcz33_3,hcz33_4,hfz33_0,hfz33_1,hfz33_2,hfz33_3,hfz33_4⟩:=cf5_ BK101.out
       go_wp2
       repeat (go_quiet (fail);try go_wp2)
       go_meet
       case rel=>exact⟨_,(x3_2),(by first|rfl|(simp;done)|(simp [*];done)|(refine congrArg Value.bool ?_;exact isE_ _)),H',⟨by have:=HJ1.out;have:=HK2.out;first|omega|exact Nat.le_refl _⟩,⟨by(with_reducible repeat (first|refine kN_ ?_ _|refine kD_ ?_|refine kA_ ?_ _));exact BK101.out⟩,⟨by repeat (first|(with_reducible first|exact HB.out|apply bA_|apply bN_|apply bD_|refine bS_ ?_ GE101.out)|exact HB.out)⟩⟩
      rw [if_pos c28] at H
      have c28b0:=decide_eq_true c28
      clear c28
      by_cases c29:0≤x4_2
      rotate_left
      ·rw [if_neg c29] at H
       exact absurd H (by simp)
      rw [if_pos c29] at H
      have c29b0:=decide_eq_true c29
      clear c29
      obtain⟨ji30,hji30⟩:∃ j_:Int,(mn (((rd_T67 l0_3 x4_2).f1).length:Int) 1000)=j_:=⟨_,rfl⟩
      replace H:(arboristlaw17_Few.l0 k2 (wrap64 ((wrap64 (x3_2 + (ji30))) + (mn (((rd_T67 l0_3 x4_2).f2).length:Int) 1000))) (wrap64 (x4_2 + 1)) l0_0 l0_1 l0_2 l0_3 l0_4)=some r:=by first|(rw [hji30] at H;exact H)|(simp only [hji30] at H ⊢;exact H)
      have hji30_:(if 1000 < (((rd_T67 l0_3 x4_2).f1).length:Int)then 1000 else(((rd_T67 l0_3 x4_2).f1).length:Int))=ji30:=hji30
      obtain⟨ji31,hji31⟩:∃ j_:Int,(mn (((rd_T67 l0_3 x4_2).f2).length:Int) 1000)=j_:=⟨_,rfl⟩
      replace H:(arboristlaw17_Few.l0 k2 (wrap64 ((wrap64 (x3_2 + (ji30))) + (ji31))) (wrap64 (x4_2 + 1)) l0_0 l0_1 l0_2 l0_3 l0_4)=some r:=by first|(rw [hji31] at H;exact H)|(simp only [hji31] at H ⊢;exact H)
      have hji31_:(if 1000 < (((rd_T67 l0_3 x4_2).f2).length:Int)then 1000 else(((rd_T67 l0_3 x4_2).f2).length:Int))=ji31:=hji31
      have H':=Az.mk H
      clear H
      obtain⟨hcz32_0,hcz32_1,hcz32_2,hcz32_3,hcz32_4,hfz32_0,hfz32_1,hfz32_2,hfz32_3,hfz32_4⟩:=cf5_ BK101.out
      have p102:0≤(x4_2:Int):=of_decide_eq_true (by assumption)
      have q102:x4_2 < (l0_3.length:Int):=of_decide_eq_true (by assumption)
      obtain⟨ad102,A102_1,c102_1,A102_2,c102_2,e102,hx102_0,hx102_1,hx102_2,hx102_3,hx102_4,hl102_1,hi102_1,hl102_2,hi102_2⟩:=at_T67 HR0_3.out x4_2 p102 q102
      cases e102
      replace hx102_0:=bc_ HB.out hx102_0
      replace hx102_1:=bc_ HB.out hx102_1
      replace hx102_2:=bc_ HB.out hx102_2
      replace hx102_3:=bc_ HB.out hx102_3
      replace hx102_4:=bc_ HB.out hx102_4
      have HR102_1:=Az.mk hi102_1
      have HC102_1:=Az.mk hl102_1
      clear hi102_1 hl102_1
      have HR102_2:=Az.mk hi102_2
      have HC102_2:=Az.mk hl102_2
      clear hi102_2 hl102_2
      replace p102:=eq_true p102
      replace q102:=eq_true q102
      have p103:0≤(x4_2:Int):=of_decide_eq_true (by assumption)
      have q103:x4_2 < (l0_3.length:Int):=of_decide_eq_true (by assumption)
      obtain⟨ad103,A103_1,c103_1,A103_2,c103_2,e103,hx103_0,hx103_1,hx103_2,hx103_3,hx103_4,hl103_1,hi103_1,hl103_2,hi103_2⟩:=at_T67 HR0_3.out x4_2 p103 q103
      obtain rfl:ad102=ad103:=(by injection e103)
      replace hx103_0:=bc_ HB.out hx103_0
      replace hx103_1:=bc_ HB.out hx103_1
      replace hx103_2:=bc_ HB.out hx103_2
      replace hx103_3:=bc_ HB.out hx103_3
      replace hx103_4:=bc_ HB.out hx103_4
      have HR103_1:=Az.mk hi103_1
      have HC103_1:=Az.mk hl103_1
      clear hi103_1 hl103_1
      have HR103_2:=Az.mk hi103_2
      have HC103_2:=Az.mk hl103_2
      clear hi103_2 hl103_2
      replace p103:=eq_true p103
      replace q103:=eq_true q103
      have ea_:=Option.some.inj (hx102_1.symm.trans hx103_1)
      injection ea_ with ea_ en_ ec_
      subst ea_
      subst ec_
      clear en_
      have ea_:=Option.some.inj (hx102_2.symm.trans hx103_2)
      injection ea_ with ea_ en_ ec_
      subst ea_
      subst ec_
      clear en_
      go_wp2
      repeat (go_quiet (fail);try go_wp2)
      go_roundg k2
      case measure=>have:=HJ1.out;have:=HK2.out;omega
      case rel=>exact⟨(wrap64 ((wrap64 (x3_2 + (ji30))) + (ji31))),(wrap64 (x4_2 + 1)),(by first|rfl|(simp;done)|(simp only [← hji30,← hji31] <;> (first|rfl|simp))|(simp [*];done)),(by first|rfl|(simp;done)|(simp [*];done)|(refine congrArg Value.bool ?_;exact isE_ _)),H',⟨by have:=HJ1.out;have:=HK2.out;omega⟩,⟨by(with_reducible repeat (first|refine kN_ ?_ _|refine kD_ ?_|refine kA_ ?_ _));exact BK101.out⟩,⟨by repeat (first|(with_reducible first|exact HB.out|apply bA_|apply bN_|apply bD_|refine bS_ ?_ GE101.out)|exact HB.out)⟩⟩
   case rest =>
    clear HC26
    try clear c1
    try clear p1
    try clear q1
    try clear hx1
    try clear c2
    try clear p2 p2
    try clear c4
    try clear c4b0
    try clear c4b1
    try clear c5
    try clear c5b0
    try clear c5b1
    try clear p6
    try clear c7
    try clear c7b0
    try clear c7b1
    try clear c8
    try clear c8b0
    try clear c8b1
    try clear c10
    try clear c10b0
    try clear c10b1
    try clear p10
    try clear q10
    try clear hx10
    try clear c13
    try clear c13b0
    try clear c13b1
    try clear c16
    try clear c16b0
    try clear c16b1
    try clear c17
    try clear c17b0
    try clear c17b1
    try clear c19
    try clear c19b0
    try clear c19b1
    try clear c22
    try clear c22b0
    try clear c22b1
    try clear c25
    try clear c27
    try clear c27b0
    try clear c28
    try clear c28b0
    try clear c29
    try clear c29b0
    try clear hcz11_0 hcz11_1 hcz11_2 hcz11_3 hcz11_4 hfz11_0 hfz11_1 hfz11_2 hfz11_3 hfz11_4
    try clear hcz12_0 hcz12_1 hcz12_2 hcz12_3 hcz12_4 hfz12_0 hfz12_1 hfz12_2 hfz12_3 hfz12_4
    try clear hcz14_0 hcz14_1 hcz14_2 hcz14_3 hcz14_4 hfz14_0 hfz14_1 hfz14_2 hfz14_3 hfz14_4
    try clear hcz15_0 hcz15_1 hcz15_2 hcz15_3 hcz15_4 hfz15_0 hfz15_1 hfz15_2 hfz15_3 hfz15_4
    try clear hcz18_0 hcz18_1 hcz18_2 hcz18_3 hcz18_4 hfz18_0 hfz18_1 hfz18_2 hfz18_3 hfz18_4
    try clear hcz20_0 hcz20_1 hcz20_2 hcz20_3 hcz20_4 hfz20_0 hfz20_1 hfz20_2 hfz20_3 hfz20_4
    try clear hcz21_0 hcz21_1 hcz21_2 hcz21_3 hcz21_4 hfz21_0 hfz21_1 hfz21_2 hfz21_3 hfz21_4
    try clear hcz23_0 hcz23_1 hcz23_2 hcz23_3 hcz23_4 hfz23_0 hfz23_1 hfz23_2 hfz23_3 hfz23_4
    try clear hcz24_0 hcz24_1 hcz24_2 hcz24_3 hcz24_4 hfz24_0 hfz24_1 hfz24_2 hfz24_3 hfz24_4
    try clear hcz32_0 hcz32_1 hcz32_2 hcz32_3 hcz32_4 hfz32_0 hfz32_1 hfz32_2 hfz32_3 hfz32_4
    try clear hcz33_0 hcz33_1 hcz33_2 hcz33_3 hcz33_4 hfz33_0 hfz33_1 hfz33_2 hfz33_3 hfz33_4
    try clear hcz34_0 hcz34_1 hcz34_2 hcz34_3 hcz34_4 hfz34_0 hfz34_1 hfz34_2 hfz34_3 hfz34_4
    try clear hcz6_0 hcz6_1 hcz6_2 hcz6_3 hcz6_4 hfz6_0 hfz6_1 hfz6_2 hfz6_3 hfz6_4
    try clear hcz9_0 hcz9_1 hcz9_2 hcz9_3 hcz9_4 hfz9_0 hfz9_1 hfz9_2 hfz9_3 hfz9_4
    try clear hx102_0
    try clear hx102_1
    try clear hx102_2
    try clear hx102_3
    try clear hx102_4
    try clear hx103_0
    try clear hx103_1
    try clear hx103_2
    try clear hx103_3
    try clear hx103_4
    try clear p102
    try clear p103
    try clear q102
    try clear q103
    obtain⟨kq,x3_25,rfl,HA,HJ25,BK101,HB⟩:=hcut
    cases kq with
    | zero=>exact absurd HA.out (by simp [arboristlaw17_Few.j2])
    | succ kj25 =>
     have H:=HA.out
     clear HA
     simp only [arboristlaw17_Few.j2] at H
     have H':=Az.mk H
     clear H
     go_wp2
     repeat (go_quiet (fail);try go_wp2)
     go_loopg [3,5] kj25 (fun kq v3 v5 w'=>∃ (x3_3:Int) (x5_3:Int),v3=.int .i64 x3_3∧v5=.int .i64 x5_3∧Az (arboristlaw17_Few.l1 kq x3_3 x5_3 l0_0 l0_1 l0_2 l0_3 l0_4=some r)∧Az (kq≤kj25)∧Az (w'.heap[gb101]?=some (.cells #[(.slice A0_0 l0_0.length c0_0),(.slice A0_1 l0_1.length c0_1),(.slice A0_2 l0_2.length c0_2),(.slice A0_3 l0_3.length c0_3),(.slice A0_4 l0_4.length c0_4)] 27 (0,0)))∧Az (Below w.heap.size w w'))
     case atStart=>exact⟨(x3_25),(0),(by first|rfl|(simp;done)|(simp [*];done)|(refine congrArg Value.bool ?_;exact isE_ _)),(by first|rfl|(simp;done)|(simp [*];done)|(refine congrArg Value.bool ?_;exact isE_ _)),H',⟨Nat.le_refl _⟩,⟨by(with_reducible repeat (first|refine kN_ ?_ _|refine kD_ ?_|refine kA_ ?_ _));exact BK101.out⟩,⟨by repeat (first|(with_reducible first|exact HB.out|apply bA_|apply bN_|apply bD_|refine bS_ ?_ GE101.out)|exact HB.out)⟩⟩
     case round =>
      clear H'
      try clear c1
      try clear p1 p1
      try clear q1 q1
      try clear hx1
      try clear c2
      try clear p2 p2
      try clear c4
      try clear c4b0
      try clear c4b1
      try clear c5
      try clear c5b0
      try clear c5b1
      try clear p6 p6
      try clear c7
      try clear c7b0
      try clear c7b1
      try clear c8
      try clear c8b0
      try clear c8b1
      try clear c10
      try clear c10b0
      try clear c10b1
      try clear p10 p10
      try clear q10 q10
      try clear hx10
      try clear c13
      try clear c13b0
      try clear c13b1
      try clear c16
      try clear c16b0
      try clear c16b1
      try clear c17
      try clear c17b0
      try clear c17b1
      try clear c19
      try clear c19b0
      try clear c19b1
      try clear c22
      try clear c22b0
      try clear c22b1
      try clear c25
      try clear c27
      try clear c27b0
      try clear c28
      try clear c28b0
      try clear c29
      try clear c29b0
      try clear hcz11_0 hcz11_1 hcz11_2 hcz11_3 hcz11_4 hfz11_0 hfz11_1 hfz11_2 hfz11_3 hfz11_4
      try clear hcz12_0 hcz12_1 hcz12_2 hcz12_3 hcz12_4 hfz12_0 hfz12_1 hfz12_2 hfz12_3 hfz12_4
      try clear hcz14_0 hcz14_1 hcz14_2 hcz14_3 hcz14_4 hfz14_0 hfz14_1 hfz14_2 hfz14_3 hfz14_4
      try clear hcz15_0 hcz15_1 hcz15_2 hcz15_3 hcz15_4 hfz15_0 hfz15_1 hfz15_2 hfz15_3 hfz15_4
      try clear hcz18_0 hcz18_1 hcz18_2 hcz18_3 hcz18_4 hfz18_0 hfz18_1 hfz18_2 hfz18_3 hfz18_4
      try clear hcz20_0 hcz20_1 hcz20_2 hcz20_3 hcz20_4 hfz20_0 hfz20_1 hfz20_2 hfz20_3 hfz20_4
      try clear hcz21_0 hcz21_1 hcz21_2 hcz21_3 hcz21_4 hfz21_0 hfz21_1 hfz21_2 hfz21_3 hfz21_4
      try clear hcz23_0 hcz23_1 hcz23_2 hcz23_3 hcz23_4 hfz23_0 hfz23_1 hfz23_2 hfz23_3 hfz23_4
      try clear hcz24_0 hcz24_1 hcz24_2 hcz24_3 hcz24_4 hfz24_0 hfz24_1 hfz24_2 hfz24_3 hfz24_4
      try clear hcz32_0 hcz32_1 hcz32_2 hcz32_3 hcz32_4 hfz32_0 hfz32_1 hfz32_2 hfz32_3 hfz32_4
      try clear hcz33_0 hcz33_1 hcz33_2 hcz33_3 hcz33_4 hfz33_0 hfz33_1 hfz33_2 hfz33_3 hfz33_4
      try clear hcz34_0 hcz34_1 hcz34_2 hcz34_3 hcz34_4 hfz34_0 hfz34_1 hfz34_2 hfz34_3 hfz34_4
      try clear hcz6_0 hcz6_1 hcz6_2 hcz6_3 hcz6_4 hfz6_0 hfz6_1 hfz6_2 hfz6_3 hfz6_4
      try clear hcz9_0 hcz9_1 hcz9_2 hcz9_3 hcz9_4 hfz9_0 hfz9_1 hfz9_2 hfz9_3 hfz9_4
      try clear hx102_0
      try clear hx102_1
      try clear hx102_2
      try clear hx102_3
      try clear hx102_4
      try clear hx103_0
      try clear hx103_1
      try clear hx103_2
      try clear hx103_3
      try clear hx103_4
      try clear p102
      try clear p103
      try clear q102
      try clear q103
      obtain⟨x3_3,x5_3,rfl,rfl,HA,HK3,BK101,HB⟩:=hrel
      cases gk with
      | zero=>exact absurd HA.out (by simp [arboristlaw17_Few.l1])
      | succ k3 =>
       have H:=HA.out
       clear HA
       simp only [arboristlaw17_Few.l1] at H
       by_cases c35:x5_3 < (l0_4.length:Int)
       rotate_left
       ·rw [if_neg c35] at H
        have c35b0:=decide_eq_false c35
        clear c35
        obtain rfl:=Option.some.inj H
        obtain⟨hcz39_0,hcz39_1,hcz39_2,hcz39_3,hcz39_4,hfz39_0,hfz39_1,hfz39_2,hfz39_3,hfz39_4⟩:=cf5_ BK101.out
        go_wp2
        repeat (go_quiet (fail);try go_wp2)
        go_ret
        exact⟨by first|rfl|(simp [errW_none,errW_some] <;> rfl)|(simp [*,errW_none,errW_some] <;> rfl),by repeat (first|(with_reducible first|exact HB.out|apply bA_|apply bN_|apply bD_|refine bS_ ?_ GE101.out)|exact HB.out)⟩
       rw [if_pos c35] at H
       have c35b0:=decide_eq_true c35
       clear c35
       by_cases c36:0≤x5_3
       rotate_left
       ·rw [if_neg c36] at H
        exact absurd H (by simp)
       rw [if_pos c36] at H
       have c36b0:=decide_eq_true c36
       clear c36
       obtain⟨ji37,hji37⟩:∃ j_:Int,(mn (((rd_T78 l0_4 x5_3).f1).length:Int) 1000)=j_:=⟨_,rfl⟩
       replace H:(arboristlaw17_Few.l1 k3 (wrap64 (x3_3 + (ji37))) (wrap64 (x5_3 + 1)) l0_0 l0_1 l0_2 l0_3 l0_4)=some r:=by first|(rw [hji37] at H;exact H)|(simp only [hji37] at H ⊢;exact H)
       have hji37_:(if 1000 < (((rd_T78 l0_4 x5_3).f1).length:Int)then 1000 else(((rd_T78 l0_4 x5_3).f1).length:Int))=ji37:=hji37
       have H':=Az.mk H
       clear H
       obtain⟨hcz38_0,hcz38_1,hcz38_2,hcz38_3,hcz38_4,hfz38_0,hfz38_1,hfz38_2,hfz38_3,hfz38_4⟩:=cf5_ BK101.out
       have p104:0≤(x5_3:Int):=of_decide_eq_true (by assumption)
       have q104:x5_3 < (l0_4.length:Int):=of_decide_eq_true (by assumption)
       obtain⟨ad104,A104_1,c104_1,e104,hx104_0,hx104_1,hl104_1,hi104_1⟩:=at_T78 HR0_4.out x5_3 p104 q104
       cases e104
       replace hx104_0:=bc_ HB.out hx104_0
       replace hx104_1:=bc_ HB.out hx104_1
       have HR104_1:=Az.mk hi104_1
       have HC104_1:=Az.mk hl104_1
       clear hi104_1 hl104_1
       replace p104:=eq_true p104
       replace q104:=eq_true q104
       go_wp2
       repeat (go_quiet (fail);try go_wp2)
       go_roundg k3
       case measure=>have:=HJ1.out;have:=HJ25.out;have:=HK3.out;omega
       case rel=>exact⟨(wrap64 (x3_3 + (ji37))),(wrap64 (x5_3 + 1)),(by first|rfl|(simp;done)|(simp only [← hji37] <;> (first|rfl|simp))|(simp [*];done)),(by first|rfl|(simp;done)|(simp [*];done)|(refine congrArg Value.bool ?_;exact isE_ _)),H',⟨by have:=HJ1.out;have:=HJ25.out;have:=HK3.out;omega⟩,⟨by(with_reducible repeat (first|refine kN_ ?_ _|refine kD_ ?_|refine kA_ ?_ _));exact BK101.out⟩,⟨by repeat (first|(with_reducible first|exact HB.out|apply bA_|apply bN_|apply bD_|refine bS_ ?_ GE101.out)|exact HB.out)⟩⟩
end Go.Proofs.Ytgdbcogbbghjaaa.Q
