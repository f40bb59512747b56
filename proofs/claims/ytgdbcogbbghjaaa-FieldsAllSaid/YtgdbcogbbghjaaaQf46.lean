import Derived.Test.YtgdbcogbbghjaaaQ0
namespace Go.Proofs.Ytgdbcogbbghjaaa.Q
open Go.RowKit Go.Proofs.YtgdbcogbbghjaaaW.PrintWords Go.Proofs.YtgdbcogbbghjaaaW.PrintLast Go.Proofs.YtgdbcogbbghjaaaW.PrintMore
attribute [local go_sem] max2_int min2_int max_two min_two max_three min_three max_four min_four   -- for this text's walks alone
set_option linter.unusedVariables false
set_option linter.unusedSimpArgs false
mutual
def arboristref15_counts.j0:Nat→Bool→List ByteArray→List ByteArray→List Int→List (S67)→List (S78)→Option (Bool)
 | 0,_,_,_,_,_,_=>none
 | k + 1,x36,x347000,x347001,x347002,x347003,x347004=>if x36=true then(some true)else(arboristref15_counts.l0 k 0 x347000 x347001 x347002 x347003 x347004)
def arboristref15_counts.l0:Nat→Int→List ByteArray→List ByteArray→List Int→List (S67)→List (S78)→Option (Bool)
 | 0,_,_,_,_,_,_=>none
 | k + 1,x3,x347000,x347001,x347002,x347003,x347004=>if x3 < (x347002.length:Int)then(if 0≤x3 then(if (rd x347002 x3) < 0 then(some true)else(if (rd x347002 x3) > 5 then(some true)else(arboristref15_counts.l0 k (wrap64 (x3 + 1)) x347000 x347001 x347002 x347003 x347004)))else(none))else(arboristref15_counts.l1 k 0 0 x347000 x347001 x347002 x347003 x347004)
def arboristref15_counts.l1:Nat→Int→Int→List ByteArray→List ByteArray→List Int→List (S67)→List (S78)→Option (Bool)
 | 0,_,_,_,_,_,_,_=>none
 | k + 1,x4,x5,x347000,x347001,x347002,x347003,x347004=>if x5 < (x347003.length:Int)then(if 0≤x5 then(arboristref15_counts.l1 k (wrap64 (x4 + (((rd_T67 x347003 x5).f1).length:Int))) (wrap64 (x5 + 1)) x347000 x347001 x347002 x347003 x347004)else(none))else(if (x347003.length:Int) < 1 then(some true)else(if (x347003.length:Int) > 1024 then(some true)else(if (x347004.length:Int) > 32 then(some true)else(some (decide (x4 > 8192))))))
end
def arboristref15_counts.f (k:Nat)(l0_0:List ByteArray)(l0_1:List ByteArray)(l0_2:List Int)(l0_3:List (S67))(l0_4:List (S78)):Option (Bool):=if (l0_0.length:Int) < 2 then(arboristref15_counts.j0 k true l0_0 l0_1 l0_2 l0_3 l0_4)else(if (l0_0.length:Int) > 256 then(arboristref15_counts.j0 k true l0_0 l0_1 l0_2 l0_3 l0_4)else(if (l0_1.length:Int) < 1 then(arboristref15_counts.j0 k true l0_0 l0_1 l0_2 l0_3 l0_4)else(if (l0_1.length:Int) > 512 then(arboristref15_counts.j0 k true l0_0 l0_1 l0_2 l0_3 l0_4)else(arboristref15_counts.j0 k ((l0_2.length:Int) != (l0_1.length:Int)) l0_0 l0_1 l0_2 l0_3 l0_4))))
set_option maxHeartbeats 8000000 in
set_option maxRecDepth 100000 in
theorem arboristref15_counts.calls (k:Nat)(A0_0:Option Addr)(c0_0:Nat)(l0_0:List ByteArray)(A0_1:Option Addr)(c0_1:Nat)(l0_1:List ByteArray)(A0_2:Option Addr)(c0_2:Nat)(l0_2:List Int)(A0_3:Option Addr)(c0_3:Nat)(l0_3:List (S67))(A0_4:Option Addr)(c0_4:Nat)(l0_4:List (S78))(r:Bool)(w:World)(hr0_0:Kd.C Kd.string w A0_0 l0_0.length l0_0)(hc0_0:l0_0.length≤c0_0)(hr0_1:Kd.C Kd.string w A0_1 l0_1.length l0_1)(hc0_1:l0_1.length≤c0_1)(hr0_2:Kd.C (Kd.int .i64) w A0_2 l0_2.length l0_2)(hc0_2:l0_2.length≤c0_2)(hr0_3:Kd.C k67 w A0_3 l0_3.length l0_3)(hc0_3:l0_3.length≤c0_3)(hr0_4:Kd.C k78 w A0_4 l0_4.length l0_4)(hc0_4:l0_4.length≤c0_4)(h:arboristref15_counts.f k l0_0 l0_1 l0_2 l0_3 l0_4=some r) :
  Calls Try.prog 46 #[.agg #[.slice A0_0 l0_0.length c0_0,.slice A0_1 l0_1.length c0_1,.slice A0_2 l0_2.length c0_2,.slice A0_3 l0_3.length c0_3,.slice A0_4 l0_4.length c0_4]] w fun e w'=>e=.returned (.bool r)∧Below w.heap.size w w':=by
 have hu27:=Try.underlying27
 have HR0_0:=Az.mk hr0_0
 have HC0_0:=Az.mk hc0_0
 clear hr0_0 hc0_0
 have HR0_1:=Az.mk hr0_1
 have HC0_1:=Az.mk hc0_1
 clear hr0_1 hc0_1
 have HR0_2:=Az.mk hr0_2
 have HC0_2:=Az.mk hc0_2
 clear hr0_2 hc0_2
 have HR0_3:=Az.mk hr0_3
 have HC0_3:=Az.mk hc0_3
 clear hr0_3 hc0_3
 have HR0_4:=Az.mk hr0_4
 have HC0_4:=Az.mk hc0_4
 clear hr0_4 hc0_4
 have HB:=Az.mk (Below.refl w.heap.size w)
 have H:(if (l0_0.length:Int) < 2 then(arboristref15_counts.j0 k true l0_0 l0_1 l0_2 l0_3 l0_4)else(if (l0_0.length:Int) > 256 then(arboristref15_counts.j0 k true l0_0 l0_1 l0_2 l0_3 l0_4)else(if (l0_1.length:Int) < 1 then(arboristref15_counts.j0 k true l0_0 l0_1 l0_2 l0_3 l0_4)else(if (l0_1.length:Int) > 512 then(arboristref15_counts.j0 k true l0_0 l0_1 l0_2 l0_3 l0_4)else(arboristref15_counts.j0 k ((l0_2.length:Int) != (l0_1.length:Int)) l0_0 l0_1 l0_2 l0_3 l0_4)))))=some r:=h
 clear h
 have HC2:=Az.mk H
 clear H
 go_enter Try.func46,Try.ntmps46
 go_upto_region 1 with(first|((with_reducible refine gate_dst (N:=1) rfl ?_);(try (refine gate_guard (by rfl) ?_;dsimp only));refine box_event ?hg (N:=1) ?hd (cs:=#[.slice A0_0 l0_0.length c0_0,.slice A0_1 l0_1.length c0_1,.slice A0_2 l0_2.length c0_2,.slice A0_3 l0_3.length c0_3,.slice A0_4 l0_4.length c0_4]) (t:=27) ?hr ?_;(case hd=>rfl);(case hg=>rfl);(case hr=>first|(go_simp;done)|(go_simp;rfl));intro gb346 hg w3 hbox hb;have n0_:=Az.mk (bT_ HB.out hb);have n1_:=Az.mk (hbox);have n2_:=Az.mk ((szl_ HB.out hg));have n3_:=Az.mk ((szl_ HB.out hg));clear HB;have HB:=n0_;have BK346:=n1_;have GW346:=n2_;have GE346:=n3_;clear n0_ n1_ n2_ n3_;clear hb hbox hg))
 (try simp only [Act.put,sT_,s0_,sC_])
 go_cut [36] (fun v36 wc=>∃ (kq:Nat) (x36_1:Bool),v36=.bool x36_1∧Az (arboristref15_counts.j0 kq x36_1 l0_0 l0_1 l0_2 l0_3 l0_4=some r)∧Az (kq≤k)∧Az (wc.heap[gb346]?=some (.cells #[(.slice A0_0 l0_0.length c0_0),(.slice A0_1 l0_1.length c0_1),(.slice A0_2 l0_2.length c0_2),(.slice A0_3 l0_3.length c0_3),(.slice A0_4 l0_4.length c0_4)] 27 (0,0)))∧Az (Below w.heap.size w wc))
 case first =>
  have H:=HC2.out
  clear HC2
  by_cases c4:(l0_0.length:Int) < 2
  ·rw [if_pos c4] at H
   have c4b0:=decide_eq_true c4
   have c4b1:decide (l0_0.length < 2)=true:=decide_eq_true (by omega)
   clear c4
   (first|rw [c4b0]|(simp only [i64_w,i32_w];rw [c4b0])|skip)
   have H':=Az.mk H
   clear H
   obtain⟨hcz5_0,hcz5_1,hcz5_2,hcz5_3,hcz5_4,hfz5_0,hfz5_1,hfz5_2,hfz5_3,hfz5_4⟩:=cf5_ BK346.out
   go_wp2
   go_meet
   case rel=>exact⟨_,(true),(by first|rfl|(simp;done)|(simp [*];done)|(refine congrArg Value.bool ?_;exact isE_ _)),H',⟨by first|omega|exact Nat.le_refl _⟩,⟨by(with_reducible repeat (first|refine kN_ ?_ _|refine kD_ ?_|refine kA_ ?_ _));exact BK346.out⟩,⟨by repeat (first|(with_reducible first|exact HB.out|apply bA_|apply bN_|apply bD_|refine bS_ ?_ GE346.out)|exact HB.out)⟩⟩
  rw [if_neg c4] at H
  have c4b0:=decide_eq_false c4
  have c4b1:decide (l0_0.length < 2)=false:=decide_eq_false (by omega)
  clear c4
  (first|rw [c4b0]|(simp only [i64_w,i32_w];rw [c4b0])|skip)
  by_cases c6:(l0_0.length:Int) > 256
  ·rw [if_pos c6] at H
   have c6b0:=decide_eq_true c6
   have c6b1:decide (256 < l0_0.length)=true:=decide_eq_true (by omega)
   clear c6
   have H':=Az.mk H
   clear H
   obtain⟨hcz7_0,hcz7_1,hcz7_2,hcz7_3,hcz7_4,hfz7_0,hfz7_1,hfz7_2,hfz7_3,hfz7_4⟩:=cf5_ BK346.out
   go_wp2
   go_meet
   case rel=>exact⟨_,(true),(by first|rfl|(simp;done)|(simp [*];done)|(refine congrArg Value.bool ?_;exact isE_ _)),H',⟨by first|omega|exact Nat.le_refl _⟩,⟨by(with_reducible repeat (first|refine kN_ ?_ _|refine kD_ ?_|refine kA_ ?_ _));exact BK346.out⟩,⟨by repeat (first|(with_reducible first|exact HB.out|apply bA_|apply bN_|apply bD_|refine bS_ ?_ GE346.out)|exact HB.out)⟩⟩
  rw [if_neg c6] at H
  have c6b0:=decide_eq_false c6
  have c6b1:decide (256 < l0_0.length)=false:=decide_eq_false (by omega)
  clear c6
  by_cases c8:(l0_1.length:Int) < 1
  ·rw [if_pos c8] at H
   have c8b0:=decide_eq_true c8
   have c8b1:decide (l0_1.length < 1)=true:=decide_eq_true (by omega)
   clear c8
   have H':=Az.mk H
   clear H
   obtain⟨hcz9_0,hcz9_1,hcz9_2,hcz9_3,hcz9_4,hfz9_0,hfz9_1,hfz9_2,hfz9_3,hfz9_4⟩:=cf5_ BK346.out
   go_wp2
   go_meet
   case rel=>exact⟨_,(true),(by first|rfl|(simp;done)|(simp [*];done)|(refine congrArg Value.bool ?_;exact isE_ _)),H',⟨by first|omega|exact Nat.le_refl _⟩,⟨by(with_reducible repeat (first|refine kN_ ?_ _|refine kD_ ?_|refine kA_ ?_ _));exact BK346.out⟩,⟨by repeat (first|(with_reducible first|exact HB.out|apply bA_|apply bN_|apply bD_|refine bS_ ?_ GE346.out)|exact HB.out)⟩⟩
  rw [if_neg c8] at H
  have c8b0:=decide_eq_false c8
  have c8b1:decide (l0_1.length < 1)=false:=decide_eq_false (by omega)
  clear c8
  by_cases c10:(l0_1.length:Int) > 512
  ·rw [if_pos c10] at H
   have c10b0:=decide_eq_true c10
   have c10b1:decide (512 < l0_1.length)=true:=decide_eq_true (by omega)
   clear c10
   have H':=Az.mk H
   clear H
   obtain⟨hcz11_0,hcz11_1,hcz11_2,hcz11_3,hcz11_4,hfz11_0,hfz11_1,hfz11_2,hfz11_3,hfz11_4⟩:=cf5_ BK346.out
   go_wp2
   go_meet
   case rel=>exact⟨_,(true),(by first|rfl|(simp;done)|(simp [*];done)|(refine congrArg Value.bool ?_;exact isE_ _)),H',⟨by first|omega|exact Nat.le_refl _⟩,⟨by(with_reducible repeat (first|refine kN_ ?_ _|refine kD_ ?_|refine kA_ ?_ _));exact BK346.out⟩,⟨by repeat (first|(with_reducible first|exact HB.out|apply bA_|apply bN_|apply bD_|refine bS_ ?_ GE346.out)|exact HB.out)⟩⟩
  rw [if_neg c10] at H
  have c10b0:=decide_eq_false c10
  have c10b1:decide (512 < l0_1.length)=false:=decide_eq_false (by omega)
  clear c10
  have H':=Az.mk H
  clear H
  obtain⟨hcz12_0,hcz12_1,hcz12_2,hcz12_3,hcz12_4,hfz12_0,hfz12_1,hfz12_2,hfz12_3,hfz12_4⟩:=cf5_ BK346.out
  go_wp2
  go_meet
  case rel=>exact⟨_,(((l0_2.length:Int) != (l0_1.length:Int))),(by first|rfl|(simp;done)|(simp [*];done)|(refine congrArg Value.bool ?_;exact isE_ _)),H',⟨by first|omega|exact Nat.le_refl _⟩,⟨by(with_reducible repeat (first|refine kN_ ?_ _|refine kD_ ?_|refine kA_ ?_ _));exact BK346.out⟩,⟨by repeat (first|(with_reducible first|exact HB.out|apply bA_|apply bN_|apply bD_|refine bS_ ?_ GE346.out)|exact HB.out)⟩⟩
 case rest =>
  clear HC2
  try clear c1
  try clear p2
  try clear c4
  try clear c4b0
  try clear c4b1
  try clear c6
  try clear c6b0
  try clear c6b1
  try clear c8
  try clear c8b0
  try clear c8b1
  try clear c10
  try clear c10b0
  try clear c10b1
  try clear hcz11_0 hcz11_1 hcz11_2 hcz11_3 hcz11_4 hfz11_0 hfz11_1 hfz11_2 hfz11_3 hfz11_4
  try clear hcz12_0 hcz12_1 hcz12_2 hcz12_3 hcz12_4 hfz12_0 hfz12_1 hfz12_2 hfz12_3 hfz12_4
  try clear hcz5_0 hcz5_1 hcz5_2 hcz5_3 hcz5_4 hfz5_0 hfz5_1 hfz5_2 hfz5_3 hfz5_4
  try clear hcz7_0 hcz7_1 hcz7_2 hcz7_3 hcz7_4 hfz7_0 hfz7_1 hfz7_2 hfz7_3 hfz7_4
  try clear hcz9_0 hcz9_1 hcz9_2 hcz9_3 hcz9_4 hfz9_0 hfz9_1 hfz9_2 hfz9_3 hfz9_4
  obtain⟨kq,x36_1,rfl,HA,HJ1,BK346,HB⟩:=hcut
  cases kq with
  | zero=>exact absurd HA.out (by simp [arboristref15_counts.j0])
  | succ kj1 =>
   have H:=HA.out
   clear HA
   simp only [arboristref15_counts.j0] at H
   by_cases c13:x36_1=true
   ·subst c13
    have H1:(some true)=some r:=by rw [if_pos rfl] at H;exact H
    clear H
    have H:=H1
    clear H1
    obtain rfl:=Option.some.inj H
    go_wp2
    go_ret
    exact⟨by first|rfl|(simp [errW_none,errW_some] <;> rfl)|(simp [*,errW_none,errW_some] <;> rfl),by repeat (first|(with_reducible first|exact HB.out|apply bA_|apply bN_|apply bD_|refine bS_ ?_ GE346.out)|exact HB.out)⟩
   replace c13:=Bool.eq_false_iff.mpr c13
   subst c13
   have H1:(arboristref15_counts.l0 kj1 0 l0_0 l0_1 l0_2 l0_3 l0_4)=some r:=by rw [if_neg (show ¬ (false=true) by decide)] at H;exact H
   clear H
   have H:=H1
   clear H1
   have H':=Az.mk H
   clear H
   go_wp2
   go_loopg [3] kj1 (fun kq v3 w'=>∃ (x3_2:Int),v3=.int .i64 x3_2∧Az (arboristref15_counts.l0 kq x3_2 l0_0 l0_1 l0_2 l0_3 l0_4=some r)∧Az (kq≤kj1)∧Az (w'.heap[gb346]?=some (.cells #[(.slice A0_0 l0_0.length c0_0),(.slice A0_1 l0_1.length c0_1),(.slice A0_2 l0_2.length c0_2),(.slice A0_3 l0_3.length c0_3),(.slice A0_4 l0_4.length c0_4)] 27 (0,0)))∧Az (Below w.heap.size w w'))
   case atStart=>exact⟨(0),(by first|rfl|(simp;done)|(simp [*];done)|(refine congrArg Value.bool ?_;exact isE_ _)),H',⟨Nat.le_refl _⟩,⟨by(with_reducible repeat (first|refine kN_ ?_ _|refine kD_ ?_|refine kA_ ?_ _));exact BK346.out⟩,⟨by repeat (first|(with_reducible first|exact HB.out|apply bA_|apply bN_|apply bD_|refine bS_ ?_ GE346.out)|exact HB.out)⟩⟩
   case round =>
    clear H'
    try clear c1
    try clear p2 p2
    try clear c4
    try clear c4b0
    try clear c4b1
    try clear c6
    try clear c6b0
    try clear c6b1
    try clear c8
    try clear c8b0
    try clear c8b1
    try clear c10
    try clear c10b0
    try clear c10b1
    try clear c13
    try clear hcz11_0 hcz11_1 hcz11_2 hcz11_3 hcz11_4 hfz11_0 hfz11_1 hfz11_2 hfz11_3 hfz11_4
    try clear hcz12_0 hcz12_1 hcz12_2 hcz12_3 hcz12_4 hfz12_0 hfz12_1 hfz12_2 hfz12_3 hfz12_4
    try clear hcz5_0 hcz5_1 hcz5_2 hcz5_3 hcz5_4 hfz5_0 hfz5_1 hfz5_2 hfz5_3 hfz5_4
    try clear hcz7_0 hcz7_1 hcz7_2 hcz7_3 hcz7_4 hfz7_0 hfz7_1 hfz7_2 hfz7_3 hfz7_4
    try clear hcz9_0 hcz9_1 hcz9_2 hcz9_3 hcz9_4 hfz9_0 hfz9_1 hfz9_2 hfz9_3 hfz9_4
    obtain⟨x3_2,rfl,HA,HK2,BK346,HB⟩:=hrel
    cases gk with
    | zero=>exact absurd HA.out (by simp [arboristref15_counts.l0])
    | succ k2 =>
     have H:=HA.out
     clear HA
     simp only [arboristref15_counts.l0] at H
     by_cases c14:x3_2 < (l0_2.length:Int)
     ·rw [if_pos c14] at H
      have c14b0:=decide_eq_true c14
      clear c14
      by_cases c15:0≤x3_2
      rotate_left
      ·rw [if_neg c15] at H
       exact absurd H (by simp)
      rw [if_pos c15] at H
      have c15b0:=decide_eq_true c15
      clear c15
      by_cases c16:(rd l0_2 x3_2) < 0
      ·rw [if_pos c16] at H
       have c16b0:=decide_eq_true c16
       clear c16
       obtain rfl:=Option.some.inj H
       obtain⟨hcz17_0,hcz17_1,hcz17_2,hcz17_3,hcz17_4,hfz17_0,hfz17_1,hfz17_2,hfz17_3,hfz17_4⟩:=cf5_ BK346.out
       have p347:0≤(x3_2:Int):=of_decide_eq_true (by assumption)
       have q347:x3_2 < (l0_2.length:Int):=of_decide_eq_true (by assumption)
       obtain⟨ad347,e347,hx347_0⟩:=Kd.at_int HR0_2.out x3_2 p347 q347
       cases e347
       replace hx347_0:=bc_ HB.out hx347_0
       replace p347:=eq_true p347
       replace q347:=eq_true q347
       go_wp2
       go_ret
       exact⟨by first|rfl|(simp [errW_none,errW_some] <;> rfl)|(simp [*,errW_none,errW_some] <;> rfl),by repeat (first|(with_reducible first|exact HB.out|apply bA_|apply bN_|apply bD_|refine bS_ ?_ GE346.out)|exact HB.out)⟩
      rw [if_neg c16] at H
      have c16b0:=decide_eq_false c16
      clear c16
      by_cases c18:(rd l0_2 x3_2) > 5
      ·rw [if_pos c18] at H
       have c18b0:=decide_eq_true c18
       clear c18
       obtain rfl:=Option.some.inj H
       obtain⟨hcz19_0,hcz19_1,hcz19_2,hcz19_3,hcz19_4,hfz19_0,hfz19_1,hfz19_2,hfz19_3,hfz19_4⟩:=cf5_ BK346.out
       have p347:0≤(x3_2:Int):=of_decide_eq_true (by assumption)
       have q347:x3_2 < (l0_2.length:Int):=of_decide_eq_true (by assumption)
       obtain⟨ad347,e347,hx347_0⟩:=Kd.at_int HR0_2.out x3_2 p347 q347
       cases e347
       replace hx347_0:=bc_ HB.out hx347_0
       replace p347:=eq_true p347
       replace q347:=eq_true q347
       have p348:0≤(x3_2:Int):=of_decide_eq_true (by assumption)
       have q348:x3_2 < (l0_2.length:Int):=of_decide_eq_true (by assumption)
       obtain⟨ad348,e348,hx348_0⟩:=Kd.at_int HR0_2.out x3_2 p348 q348
       obtain rfl:ad347=ad348:=(by injection e348)
       replace hx348_0:=bc_ HB.out hx348_0
       replace p348:=eq_true p348
       replace q348:=eq_true q348
       go_wp2
       go_ret
       exact⟨by first|rfl|(simp [errW_none,errW_some] <;> rfl)|(simp [*,errW_none,errW_some] <;> rfl),by repeat (first|(with_reducible first|exact HB.out|apply bA_|apply bN_|apply bD_|refine bS_ ?_ GE346.out)|exact HB.out)⟩
      rw [if_neg c18] at H
      have c18b0:=decide_eq_false c18
      clear c18
      have H':=Az.mk H
      clear H
      obtain⟨hcz20_0,hcz20_1,hcz20_2,hcz20_3,hcz20_4,hfz20_0,hfz20_1,hfz20_2,hfz20_3,hfz20_4⟩:=cf5_ BK346.out
      have p347:0≤(x3_2:Int):=of_decide_eq_true (by assumption)
      have q347:x3_2 < (l0_2.length:Int):=of_decide_eq_true (by assumption)
      obtain⟨ad347,e347,hx347_0⟩:=Kd.at_int HR0_2.out x3_2 p347 q347
      cases e347
      replace hx347_0:=bc_ HB.out hx347_0
      replace p347:=eq_true p347
      replace q347:=eq_true q347
      have p348:0≤(x3_2:Int):=of_decide_eq_true (by assumption)
      have q348:x3_2 < (l0_2.length:Int):=of_decide_eq_true (by assumption)
      obtain⟨ad348,e348,hx348_0⟩:=Kd.at_int HR0_2.out x3_2 p348 q348
      obtain rfl:ad347=ad348:=(by injection e348)
      replace hx348_0:=bc_ HB.out hx348_0
      replace p348:=eq_true p348
      replace q348:=eq_true q348
      go_wp2
      go_roundg k2
      case measure=>have:=HJ1.out;have:=HK2.out;omega
      case rel=>exact⟨(wrap64 (x3_2 + 1)),(by first|rfl|(simp;done)|(simp [*];done)|(refine congrArg Value.bool ?_;exact isE_ _)),H',⟨by have:=HJ1.out;have:=HK2.out;omega⟩,⟨by(with_reducible repeat (first|refine kN_ ?_ _|refine kD_ ?_|refine kA_ ?_ _));exact BK346.out⟩,⟨by repeat (first|(with_reducible first|exact HB.out|apply bA_|apply bN_|apply bD_|refine bS_ ?_ GE346.out)|exact HB.out)⟩⟩
     rw [if_neg c14] at H
     have c14b0:=decide_eq_false c14
     clear c14
     have H':=Az.mk H
     clear H
     obtain⟨hcz21_0,hcz21_1,hcz21_2,hcz21_3,hcz21_4,hfz21_0,hfz21_1,hfz21_2,hfz21_3,hfz21_4⟩:=cf5_ BK346.out
     go_wp2
     go_loopg [4,5] k2 (fun kq v4 v5 w'=>∃ (x4_3:Int) (x5_3:Int),v4=.int .i64 x4_3∧v5=.int .i64 x5_3∧Az (arboristref15_counts.l1 kq x4_3 x5_3 l0_0 l0_1 l0_2 l0_3 l0_4=some r)∧Az (kq≤k2)∧Az (w'.heap[gb346]?=some (.cells #[(.slice A0_0 l0_0.length c0_0),(.slice A0_1 l0_1.length c0_1),(.slice A0_2 l0_2.length c0_2),(.slice A0_3 l0_3.length c0_3),(.slice A0_4 l0_4.length c0_4)] 27 (0,0)))∧Az (Below w.heap.size w w'))
     case atStart=>exact⟨(0),(0),(by first|rfl|(simp;done)|(simp [*];done)|(refine congrArg Value.bool ?_;exact isE_ _)),(by first|rfl|(simp;done)|(simp [*];done)|(refine congrArg Value.bool ?_;exact isE_ _)),H',⟨Nat.le_refl _⟩,⟨by(with_reducible repeat (first|refine kN_ ?_ _|refine kD_ ?_|refine kA_ ?_ _));exact BK346.out⟩,⟨by repeat (first|(with_reducible first|exact HB.out|apply bA_|apply bN_|apply bD_|refine bS_ ?_ GE346.out)|exact HB.out)⟩⟩
     case round =>
      clear H'
      try clear c1
      try clear p2 p2
      try clear p3
      try clear q3
      try clear hx3
      try clear c4
      try clear c4b0
      try clear c4b1
      try clear c6
      try clear c6b0
      try clear c6b1
      try clear p6
      try clear c8
      try clear c8b0
      try clear c8b1
      try clear c10
      try clear c10b0
      try clear c10b1
      try clear c13
      try clear c14
      try clear c14b0
      try clear c15
      try clear c15b0
      try clear c16
      try clear c16b0
      try clear c18
      try clear c18b0
      try clear hcz11_0 hcz11_1 hcz11_2 hcz11_3 hcz11_4 hfz11_0 hfz11_1 hfz11_2 hfz11_3 hfz11_4
      try clear hcz12_0 hcz12_1 hcz12_2 hcz12_3 hcz12_4 hfz12_0 hfz12_1 hfz12_2 hfz12_3 hfz12_4
      try clear hcz17_0 hcz17_1 hcz17_2 hcz17_3 hcz17_4 hfz17_0 hfz17_1 hfz17_2 hfz17_3 hfz17_4
      try clear hcz19_0 hcz19_1 hcz19_2 hcz19_3 hcz19_4 hfz19_0 hfz19_1 hfz19_2 hfz19_3 hfz19_4
      try clear hcz20_0 hcz20_1 hcz20_2 hcz20_3 hcz20_4 hfz20_0 hfz20_1 hfz20_2 hfz20_3 hfz20_4
      try clear hcz21_0 hcz21_1 hcz21_2 hcz21_3 hcz21_4 hfz21_0 hfz21_1 hfz21_2 hfz21_3 hfz21_4
      try clear hcz5_0 hcz5_1 hcz5_2 hcz5_3 hcz5_4 hfz5_0 hfz5_1 hfz5_2 hfz5_3 hfz5_4
      try clear hcz7_0 hcz7_1 hcz7_2 hcz7_3 hcz7_4 hfz7_0 hfz7_1 hfz7_2 hfz7_3 hfz7_4
      try clear hcz9_0 hcz9_1 hcz9_2 hcz9_3 hcz9_4 hfz9_0 hfz9_1 hfz9_2 hfz9_3 hfz9_4
      try clear hx347_0
      try clear hx348_0
      try clear p347
      try clear p348
      try clear q347
      try clear q348
      obtain⟨x4_3,x5_3,rfl,rfl,HA,HK3,BK346,HB⟩:=hrel
      cases gk with
      | zero=>exact absurd HA.out (by simp [arboristref15_counts.l1])
      | succ k3 =>
       have H:=HA.out
       clear HA
       simp only [arboristref15_counts.l1] at H
       by_cases c22:x5_3 < (l0_3.length:Int)
       ·rw [if_pos c22] at H
        have c22b0:=decide_eq_true c22
        clear c22
        by_cases c23:0≤x5_3
        rotate_left
        ·rw [if_neg c23] at H
         exact absurd H (by simp)
        rw [if_pos c23] at H
        have c23b0:=decide_eq_true c23
        clear c23
        have H':=Az.mk H
        clear H
        obtain⟨hcz24_0,hcz24_1,hcz24_2,hcz24_3,hcz24_4,hfz24_0,hfz24_1,hfz24_2,hfz24_3,hfz24_4⟩:=cf5_ BK346.out
        have p349:0≤(x5_3:Int):=of_decide_eq_true (by assumption)
        have q349:x5_3 < (l0_3.length:Int):=of_decide_eq_true (by assumption)
        obtain⟨ad349,A349_1,c349_1,A349_2,c349_2,e349,hx349_0,hx349_1,hx349_2,hx349_3,hx349_4,hl349_1,hi349_1,hl349_2,hi349_2⟩:=at_T67 HR0_3.out x5_3 p349 q349
        cases e349
        replace hx349_0:=bc_ HB.out hx349_0
        replace hx349_1:=bc_ HB.out hx349_1
        replace hx349_2:=bc_ HB.out hx349_2
        replace hx349_3:=bc_ HB.out hx349_3
        replace hx349_4:=bc_ HB.out hx349_4
        have HR349_1:=Az.mk hi349_1
        have HC349_1:=Az.mk hl349_1
        clear hi349_1 hl349_1
        have HR349_2:=Az.mk hi349_2
        have HC349_2:=Az.mk hl349_2
        clear hi349_2 hl349_2
        replace p349:=eq_true p349
        replace q349:=eq_true q349
        go_wp2
        go_roundg k3
        case measure=>have:=HJ1.out;have:=HK2.out;have:=HK3.out;omega
        case rel=>exact⟨(wrap64 (x4_3 + (((rd_T67 l0_3 x5_3).f1).length:Int))),(wrap64 (x5_3 + 1)),(by first|rfl|(simp;done)|(simp [*];done)|(refine congrArg Value.bool ?_;exact isE_ _)),(by first|rfl|(simp;done)|(simp [*];done)|(refine congrArg Value.bool ?_;exact isE_ _)),H',⟨by have:=HJ1.out;have:=HK2.out;have:=HK3.out;omega⟩,⟨by(with_reducible repeat (first|refine kN_ ?_ _|refine kD_ ?_|refine kA_ ?_ _));exact BK346.out⟩,⟨by repeat (first|(with_reducible first|exact HB.out|apply bA_|apply bN_|apply bD_|refine bS_ ?_ GE346.out)|exact HB.out)⟩⟩
       rw [if_neg c22] at H
       have c22b0:=decide_eq_false c22
       clear c22
       by_cases c25:(l0_3.length:Int) < 1
       ·rw [if_pos c25] at H
        have c25b0:=decide_eq_true c25
        have c25b1:decide (l0_3.length < 1)=true:=decide_eq_true (by omega)
        clear c25
        obtain rfl:=Option.some.inj H
        obtain⟨hcz26_0,hcz26_1,hcz26_2,hcz26_3,hcz26_4,hfz26_0,hfz26_1,hfz26_2,hfz26_3,hfz26_4⟩:=cf5_ BK346.out
        go_wp2
        go_ret
        exact⟨by first|rfl|(simp [errW_none,errW_some] <;> rfl)|(simp [*,errW_none,errW_some] <;> rfl),by repeat (first|(with_reducible first|exact HB.out|apply bA_|apply bN_|apply bD_|refine bS_ ?_ GE346.out)|exact HB.out)⟩
       rw [if_neg c25] at H
       have c25b0:=decide_eq_false c25
       have c25b1:decide (l0_3.length < 1)=false:=decide_eq_false (by omega)
       clear c25
       by_cases c27:(l0_3.length:Int) > 1024
       ·rw [if_pos c27] at H
        have c27b0:=decide_eq_true c27
        have c27b1:decide (1024 < l0_3.length)=true:=decide_eq_true (by omega)
        clear c27
        obtain rfl:=Option.some.inj H
        obtain⟨hcz28_0,hcz28_1,hcz28_2,hcz28_3,hcz28_4,hfz28_0,hfz28_1,hfz28_2,hfz28_3,hfz28_4⟩:=cf5_ BK346.out
        go_wp2
        go_ret
        exact⟨by first|rfl|(simp [errW_none,errW_some] <;> rfl)|(simp [*,errW_none,errW_some] <;> rfl),by repeat (first|(with_reducible first|exact HB.out|apply bA_|apply bN_|apply bD_|refine bS_ ?_ GE346.out)|exact HB.out)⟩
       rw [if_neg c27] at H
       have c27b0:=decide_eq_false c27
       have c27b1:decide (1024 < l0_3.length)=false:=decide_eq_false (by omega)
       clear c27
       by_cases c29:(l0_4.length:Int) > 32
       ·rw [if_pos c29] at H
        have c29b0:=decide_eq_true c29
        have c29b1:decide (32 < l0_4.length)=true:=decide_eq_true (by omega)
        clear c29
        obtain rfl:=Option.some.inj H
        obtain⟨hcz30_0,hcz30_1,hcz30_2,hcz30_3,hcz30_4,hfz30_0,hfz30_1,hfz30_2,hfz30_3,hfz30_4⟩:=cf5_ BK346.out
        go_wp2
        go_ret
        exact⟨by first|rfl|(simp [errW_none,errW_some] <;> rfl)|(simp [*,errW_none,errW_some] <;> rfl),by repeat (first|(with_reducible first|exact HB.out|apply bA_|apply bN_|apply bD_|refine bS_ ?_ GE346.out)|exact HB.out)⟩
       rw [if_neg c29] at H
       have c29b0:=decide_eq_false c29
       have c29b1:decide (32 < l0_4.length)=false:=decide_eq_false (by omega)
       clear c29
       obtain rfl:=Option.some.inj H
       obtain⟨hcz31_0,hcz31_1,hcz31_2,hcz31_3,hcz31_4,hfz31_0,hfz31_1,hfz31_2,hfz31_3,hfz31_4⟩:=cf5_ BK346.out
       go_wp2
       go_ret
       exact⟨by first|rfl|(simp [errW_none,errW_some] <;> rfl)|(simp [*,errW_none,errW_some] <;> rfl),by repeat (first|(with_reducible first|exact HB.out|apply bA_|apply bN_|apply bD_|refine bS_ ?_ GE346.out)|exact HB.out)⟩
end Go.Proofs.Ytgdbcogbbghjaaa.Q
