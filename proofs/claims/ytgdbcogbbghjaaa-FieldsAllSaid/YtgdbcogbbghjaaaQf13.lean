import Derived.Test.YtgdbcogbbghjaaaQ0
namespace Go.Proofs.Ytgdbcogbbghjaaa.Q
open Go.RowKit Go.Proofs.YtgdbcogbbghjaaaW.PrintWords Go.Proofs.YtgdbcogbbghjaaaW.PrintLast Go.Proofs.YtgdbcogbbghjaaaW.PrintMore
attribute [local go_sem] max2_int min2_int max_two min_two max_three min_three max_four min_four   -- for this text's walks alone
set_option linter.unusedVariables false
set_option linter.unusedSimpArgs false
mutual
def fields_Name.j0:Nat→Bool→List ByteArray→List ByteArray→List Int→List (S67)→List (S78)→Int→Int→Int→Int→List (S53)→ByteArray→List (S32)→Option (ByteArray)
 | 0,_,_,_,_,_,_,_,_,_,_,_,_,_=>none
 | k + 1,x26,x112000,x112001,x112002,x112003,x112004,x113000,x113001,x113002,x113003,x113004,x113005,x113006=>if x26=true then(if 0≤x113001 then(if x113001 < (x112003.length:Int)then(some ((rd_T67 x112003 x113001).f3))else(none))else(none))else(if x113000 ≥ 0 then(fields_Name.j1 k (decide (x113000 < (x112000.length:Int))) x112000 x112001 x112002 x112003 x112004 x113000 x113001 x113002 x113003 x113004 x113005 x113006)else(fields_Name.j1 k false x112000 x112001 x112002 x112003 x112004 x113000 x113001 x113002 x113003 x113004 x113005 x113006))
def fields_Name.j1:Nat→Bool→List ByteArray→List ByteArray→List Int→List (S67)→List (S78)→Int→Int→Int→Int→List (S53)→ByteArray→List (S32)→Option (ByteArray)
 | 0,_,_,_,_,_,_,_,_,_,_,_,_,_=>none
 | k + 1,x44,x112000,x112001,x112002,x112003,x112004,x113000,x113001,x113002,x113003,x113004,x113005,x113006=>if x44=true then(if 0≤x113000 then(if x113000 < (x112000.length:Int)then(some (rdOf ByteArray.empty x112000 x113000))else(none))else(none))else(if (wrap64 ((-1) - x113000)) ≥ 0 then(if (wrap64 ((-1) - x113000)) < (x112001.length:Int)then(if 0≤(wrap64 ((-1) - x113000))then(some (rdOf ByteArray.empty x112001 (wrap64 ((-1) - x113000))))else(none))else(some (⟨#[]⟩:ByteArray)))else(some (⟨#[]⟩:ByteArray)))
end
def fields_Name.f (k:Nat)(l0_0:List ByteArray)(l0_1:List ByteArray)(l0_2:List Int)(l0_3:List (S67))(l0_4:List (S78))(a1_0:Int)(a1_1:Int)(a1_2:Int)(a1_3:Int)(l1_4:List (S53))(a1_5:ByteArray)(l1_6:List (S32)):Option (ByteArray):=if a1_1 ≥ 0 then(if a1_1 < (l0_3.length:Int)then(if 0≤a1_1 then(fields_Name.j0 k (((rd_T67 l0_3 a1_1).f3).toList != ([]:List UInt8)) l0_0 l0_1 l0_2 l0_3 l0_4 a1_0 a1_1 a1_2 a1_3 l1_4 a1_5 l1_6)else(none))else(fields_Name.j0 k false l0_0 l0_1 l0_2 l0_3 l0_4 a1_0 a1_1 a1_2 a1_3 l1_4 a1_5 l1_6))else(fields_Name.j0 k false l0_0 l0_1 l0_2 l0_3 l0_4 a1_0 a1_1 a1_2 a1_3 l1_4 a1_5 l1_6)
set_option maxHeartbeats 8000000 in
set_option maxRecDepth 100000 in
theorem fields_Name.calls (k:Nat)(A0_0:Option Addr)(c0_0:Nat)(l0_0:List ByteArray)(A0_1:Option Addr)(c0_1:Nat)(l0_1:List ByteArray)(A0_2:Option Addr)(c0_2:Nat)(l0_2:List Int)(A0_3:Option Addr)(c0_3:Nat)(l0_3:List (S67))(A0_4:Option Addr)(c0_4:Nat)(l0_4:List (S78))(a1_0:Int)(a1_1:Int)(a1_2:Int)(a1_3:Int)(A1_4:Option Addr)(c1_4:Nat)(l1_4:List (S53))(a1_5:ByteArray)(A1_6:Option Addr)(c1_6:Nat)(l1_6:List (S32))(r:ByteArray)(w:World)(hr0_0:Kd.C Kd.string w A0_0 l0_0.length l0_0)(hc0_0:l0_0.length≤c0_0)(hr0_1:Kd.C Kd.string w A0_1 l0_1.length l0_1)(hc0_1:l0_1.length≤c0_1)(hr0_2:Kd.C (Kd.int .i64) w A0_2 l0_2.length l0_2)(hc0_2:l0_2.length≤c0_2)(hr0_3:Kd.C k67 w A0_3 l0_3.length l0_3)(hc0_3:l0_3.length≤c0_3)(hr0_4:Kd.C k78 w A0_4 l0_4.length l0_4)(hc0_4:l0_4.length≤c0_4)(hr1_4:Kd.C k53 w A1_4 l1_4.length l1_4)(hc1_4:l1_4.length≤c1_4)(hr1_6:Kd.C k32 w A1_6 l1_6.length l1_6)(hc1_6:l1_6.length≤c1_6)(h:fields_Name.f k l0_0 l0_1 l0_2 l0_3 l0_4 a1_0 a1_1 a1_2 a1_3 l1_4 a1_5 l1_6=some r) :
  Calls Try.prog 13 #[.agg #[.slice A0_0 l0_0.length c0_0,.slice A0_1 l0_1.length c0_1,.slice A0_2 l0_2.length c0_2,.slice A0_3 l0_3.length c0_3,.slice A0_4 l0_4.length c0_4],.agg #[.int .i64 a1_0,.int .i64 a1_1,.int .i64 a1_2,.int .i64 a1_3,.slice A1_4 l1_4.length c1_4,.string a1_5,.slice A1_6 l1_6.length c1_6]] w fun e w'=>e=.returned (.string r)∧Below w.heap.size w w':=by
 have hu27:=Try.underlying27
 have hu32:=Try.underlying32
 have HR0_0:=Az.mk hr0_0
 have HC0_0:=Az.mk hc0_0
 clear hr0_0 hc0_0
 have HR0_1:=Az.mk hr0_1
 have HC0_1:=Az.mk hc0_1
 clear hr0_1 hc0_1
 have HR0_2:=Az.mk hr0_2
 have HC0_2:=Az.mk hc0_2
 clear hr0_2 hc0_2
 have HR0_3:=Az.mk hr0_3
 have HC0_3:=Az.mk hc0_3
 clear hr0_3 hc0_3
 have HR0_4:=Az.mk hr0_4
 have HC0_4:=Az.mk hc0_4
 clear hr0_4 hc0_4
 have HR1_4:=Az.mk hr1_4
 have HC1_4:=Az.mk hc1_4
 clear hr1_4 hc1_4
 have HR1_6:=Az.mk hr1_6
 have HC1_6:=Az.mk hc1_6
 clear hr1_6 hc1_6
 have HB:=Az.mk (Below.refl w.heap.size w)
 have H:(if a1_1 ≥ 0 then(if a1_1 < (l0_3.length:Int)then(if 0≤a1_1 then(fields_Name.j0 k (((rd_T67 l0_3 a1_1).f3).toList != ([]:List UInt8)) l0_0 l0_1 l0_2 l0_3 l0_4 a1_0 a1_1 a1_2 a1_3 l1_4 a1_5 l1_6)else(none))else(fields_Name.j0 k false l0_0 l0_1 l0_2 l0_3 l0_4 a1_0 a1_1 a1_2 a1_3 l1_4 a1_5 l1_6))else(fields_Name.j0 k false l0_0 l0_1 l0_2 l0_3 l0_4 a1_0 a1_1 a1_2 a1_3 l1_4 a1_5 l1_6))=some r:=h
 clear h
 have HC3:=Az.mk H
 clear H
 go_enter Try.func13,Try.ntmps13
 go_upto_region 1 with(first|((with_reducible refine gate_dst (N:=2) rfl ?_);(try (refine gate_guard (by rfl) ?_;dsimp only));refine box_event ?hg (N:=2) ?hd (cs:=#[.slice A0_0 l0_0.length c0_0,.slice A0_1 l0_1.length c0_1,.slice A0_2 l0_2.length c0_2,.slice A0_3 l0_3.length c0_3,.slice A0_4 l0_4.length c0_4]) (t:=27) ?hr ?_;(case hd=>rfl);(case hg=>rfl);(case hr=>first|(go_simp;done)|(go_simp;rfl));intro gb111 hg w4 hbox hb;have n0_:=Az.mk (bT_ HB.out hb);have n1_:=Az.mk (hbox);have n2_:=Az.mk ((szl_ HB.out hg));have n3_:=Az.mk ((szl_ HB.out hg));clear HB;have HB:=n0_;have BK111:=n1_;have GW111:=n2_;have GE111:=n3_;clear n0_ n1_ n2_ n3_;clear hb hbox hg)|((with_reducible refine gate_dst (N:=3) rfl ?_);(try (refine gate_guard (by rfl) ?_;dsimp only));refine box_event ?hg (N:=3) ?hd (cs:=#[.int .i64 a1_0,.int .i64 a1_1,.int .i64 a1_2,.int .i64 a1_3,.slice A1_4 l1_4.length c1_4,.string a1_5,.slice A1_6 l1_6.length c1_6]) (t:=32) ?hr ?_;(case hd=>rfl);(case hg=>rfl);(case hr=>first|(go_simp;done)|(go_simp;rfl));intro gb112 hg w5 hbox hb;have n0_:=Az.mk (kB_ BK111.out hb);have n1_:=Az.mk (bT_ HB.out hb);have n2_:=Az.mk (hbox);have n3_:=Az.mk ((szl_ HB.out hg));have n4_:=Az.mk ((szl_ HB.out hg));have n5_:=Az.mk ((nel_ BK111.out hg));have n6_:=Az.mk ((ner_ BK111.out hg));clear BK111;clear HB;have BK111:=n0_;have HB:=n1_;have BK112:=n2_;have GW112:=n3_;have GE112:=n4_;have NB111_112:=n5_;have NB112_111:=n6_;clear n0_ n1_ n2_ n3_ n4_ n5_ n6_;clear hb hbox hg))
 (try simp only [Act.put,sT_,s0_,sC_])
 go_cut [26] (fun v26 wc=>∃ (kq:Nat) (x26_2:Bool),v26=.bool x26_2∧Az (fields_Name.j0 kq x26_2 l0_0 l0_1 l0_2 l0_3 l0_4 a1_0 a1_1 a1_2 a1_3 l1_4 a1_5 l1_6=some r)∧Az (kq≤k)∧Az (wc.heap[gb111]?=some (.cells #[(.slice A0_0 l0_0.length c0_0),(.slice A0_1 l0_1.length c0_1),(.slice A0_2 l0_2.length c0_2),(.slice A0_3 l0_3.length c0_3),(.slice A0_4 l0_4.length c0_4)] 27 (0,0)))∧Az (wc.heap[gb112]?=some (.cells #[.int .i64 a1_0,.int .i64 a1_1,.int .i64 a1_2,.int .i64 a1_3,(.slice A1_4 l1_4.length c1_4),.string a1_5,(.slice A1_6 l1_6.length c1_6)] 32 (0,0)))∧Az (Below w.heap.size w wc))
 case first =>
  have H:=HC3.out
  clear HC3
  by_cases c6:a1_1 ≥ 0
  rotate_left
  ·rw [if_neg c6] at H
   have c6b0:=decide_eq_false c6
   clear c6
   (first|rw [c6b0]|(simp only [i64_w,i32_w];rw [c6b0])|skip)
   have H':=Az.mk H
   clear H
   have hnb15:=NB112_111.out
   have hnc15:=NB111_112.out
   obtain⟨hcz16_0,hcz16_1,hcz16_2,hcz16_3,hcz16_4,hcz16_5,hcz16_6,hfz16_0,hfz16_1,hfz16_2,hfz16_3,hfz16_4,hfz16_5,hfz16_6⟩:=cf7_ BK112.out
   go_wp2
   go_meet
   case rel=>exact⟨_,(false),(by first|rfl|(simp;done)|(simp [*];done)|(refine congrArg Value.bool ?_;exact isE_ _)),H',⟨by first|omega|exact Nat.le_refl _⟩,⟨by(with_reducible repeat (first|refine kN_ ?_ _|refine kD_ ?_|refine kA_ ?_ _));exact BK111.out⟩,⟨by(with_reducible repeat (first|refine kN_ ?_ _|refine kD_ ?_|refine kA_ ?_ _));exact BK112.out⟩,⟨by repeat (first|(with_reducible first|exact HB.out|apply bA_|apply bN_|apply bD_|refine bS_ ?_ GE111.out|refine bS_ ?_ GE112.out)|exact HB.out)⟩⟩
  rw [if_pos c6] at H
  have c6b0:=decide_eq_true c6
  clear c6
  (first|rw [c6b0]|(simp only [i64_w,i32_w];rw [c6b0])|skip)
  by_cases c7:a1_1 < (l0_3.length:Int)
  rotate_left
  ·rw [if_neg c7] at H
   have c7b0:=decide_eq_false c7
   clear c7
   have H':=Az.mk H
   clear H
   have hnb12:=NB112_111.out
   have hnc12:=NB111_112.out
   obtain⟨hcz13_0,hcz13_1,hcz13_2,hcz13_3,hcz13_4,hcz13_5,hcz13_6,hfz13_0,hfz13_1,hfz13_2,hfz13_3,hfz13_4,hfz13_5,hfz13_6⟩:=cf7_ BK112.out
   obtain⟨hcz14_0,hcz14_1,hcz14_2,hcz14_3,hcz14_4,hfz14_0,hfz14_1,hfz14_2,hfz14_3,hfz14_4⟩:=cf5_ BK111.out
   go_wp2
   go_meet
   case rel=>exact⟨_,(false),(by first|rfl|(simp;done)|(simp [*];done)|(refine congrArg Value.bool ?_;exact isE_ _)),H',⟨by first|omega|exact Nat.le_refl _⟩,⟨by(with_reducible repeat (first|refine kN_ ?_ _|refine kD_ ?_|refine kA_ ?_ _));exact BK111.out⟩,⟨by(with_reducible repeat (first|refine kN_ ?_ _|refine kD_ ?_|refine kA_ ?_ _));exact BK112.out⟩,⟨by repeat (first|(with_reducible first|exact HB.out|apply bA_|apply bN_|apply bD_|refine bS_ ?_ GE111.out|refine bS_ ?_ GE112.out)|exact HB.out)⟩⟩
  rw [if_pos c7] at H
  have c7b0:=decide_eq_true c7
  clear c7
  by_cases c8:0≤a1_1
  rotate_left
  ·rw [if_neg c8] at H
   exact absurd H (by simp)
  rw [if_pos c8] at H
  have c8b0:=decide_eq_true c8
  clear c8
  have H':=Az.mk H
  clear H
  have hnb9:=NB112_111.out
  have hnc9:=NB111_112.out
  obtain⟨hcz10_0,hcz10_1,hcz10_2,hcz10_3,hcz10_4,hcz10_5,hcz10_6,hfz10_0,hfz10_1,hfz10_2,hfz10_3,hfz10_4,hfz10_5,hfz10_6⟩:=cf7_ BK112.out
  obtain⟨hcz11_0,hcz11_1,hcz11_2,hcz11_3,hcz11_4,hfz11_0,hfz11_1,hfz11_2,hfz11_3,hfz11_4⟩:=cf5_ BK111.out
  have p113:0≤(a1_1:Int):=of_decide_eq_true (by assumption)
  have q113:a1_1 < (l0_3.length:Int):=of_decide_eq_true (by assumption)
  obtain⟨ad113,A113_1,c113_1,A113_2,c113_2,e113,hx113_0,hx113_1,hx113_2,hx113_3,hx113_4,hl113_1,hi113_1,hl113_2,hi113_2⟩:=at_T67 HR0_3.out a1_1 p113 q113
  cases e113
  replace hx113_0:=bc_ HB.out hx113_0
  replace hx113_1:=bc_ HB.out hx113_1
  replace hx113_2:=bc_ HB.out hx113_2
  replace hx113_3:=bc_ HB.out hx113_3
  replace hx113_4:=bc_ HB.out hx113_4
  have HR113_1:=Az.mk hi113_1
  have HC113_1:=Az.mk hl113_1
  clear hi113_1 hl113_1
  have HR113_2:=Az.mk hi113_2
  have HC113_2:=Az.mk hl113_2
  clear hi113_2 hl113_2
  replace p113:=eq_true p113
  replace q113:=eq_true q113
  go_wp2
  go_meet
  case rel=>exact⟨_,((((rd_T67 l0_3 a1_1).f3).toList != ([]:List UInt8))),(by first|rfl|(simp;done)|(simp [*];done)|(refine congrArg Value.bool ?_;exact isE_ _)),H',⟨by first|omega|exact Nat.le_refl _⟩,⟨by(with_reducible repeat (first|refine kN_ ?_ _|refine kD_ ?_|refine kA_ ?_ _));exact BK111.out⟩,⟨by(with_reducible repeat (first|refine kN_ ?_ _|refine kD_ ?_|refine kA_ ?_ _));exact BK112.out⟩,⟨by repeat (first|(with_reducible first|exact HB.out|apply bA_|apply bN_|apply bD_|refine bS_ ?_ GE111.out|refine bS_ ?_ GE112.out)|exact HB.out)⟩⟩
 case rest =>
  clear HC3
  try clear c1
  try clear p1
  try clear q1
  try clear hx1
  try clear p2
  try clear c6
  try clear c6b0
  try clear c7
  try clear c7b0
  try clear c8
  try clear c8b0
  try clear c9
  try clear c11
  try clear p11
  try clear q11
  try clear hx11
  try clear c12
  try clear c13
  try clear c15
  try clear hcz10_0 hcz10_1 hcz10_2 hcz10_3 hcz10_4 hcz10_5 hcz10_6 hfz10_0 hfz10_1 hfz10_2 hfz10_3 hfz10_4 hfz10_5 hfz10_6
  try clear hcz11_0 hcz11_1 hcz11_2 hcz11_3 hcz11_4 hfz11_0 hfz11_1 hfz11_2 hfz11_3 hfz11_4
  try clear hcz13_0 hcz13_1 hcz13_2 hcz13_3 hcz13_4 hcz13_5 hcz13_6 hfz13_0 hfz13_1 hfz13_2 hfz13_3 hfz13_4 hfz13_5 hfz13_6
  try clear hcz14_0 hcz14_1 hcz14_2 hcz14_3 hcz14_4 hfz14_0 hfz14_1 hfz14_2 hfz14_3 hfz14_4
  try clear hcz16_0 hcz16_1 hcz16_2 hcz16_3 hcz16_4 hcz16_5 hcz16_6 hfz16_0 hfz16_1 hfz16_2 hfz16_3 hfz16_4 hfz16_5 hfz16_6
  try clear hx113_0
  try clear hx113_1
  try clear hx113_2
  try clear hx113_3
  try clear hx113_4
  try clear p113
  try clear q113
  obtain⟨kq,x26_2,rfl,HA,HJ2,BK111,BK112,HB⟩:=hcut
  cases kq with
  | zero=>exact absurd HA.out (by simp [fields_Name.j0])
  | succ kj2 =>
   have H:=HA.out
   clear HA
   simp only [fields_Name.j0] at H
   by_cases c17:x26_2=true
   ·subst c17
    have H1:(if 0≤a1_1 then(if a1_1 < (l0_3.length:Int)then(some ((rd_T67 l0_3 a1_1).f3))else(none))else(none))=some r:=by rw [if_pos rfl] at H;exact H
    clear H
    have H:=H1
    clear H1
    by_cases c18:0≤a1_1
    rotate_left
    ·rw [if_neg c18] at H
     exact absurd H (by simp)
    rw [if_pos c18] at H
    have c18b0:=decide_eq_true c18
    clear c18
    by_cases c19:a1_1 < (l0_3.length:Int)
    rotate_left
    ·rw [if_neg c19] at H
     exact absurd H (by simp)
    rw [if_pos c19] at H
    have c19b0:=decide_eq_true c19
    clear c19
    obtain rfl:=Option.some.inj H
    have hnb20:=NB111_112.out
    have hnc20:=NB112_111.out
    obtain⟨hcz21_0,hcz21_1,hcz21_2,hcz21_3,hcz21_4,hfz21_0,hfz21_1,hfz21_2,hfz21_3,hfz21_4⟩:=cf5_ BK111.out
    obtain⟨hcz22_0,hcz22_1,hcz22_2,hcz22_3,hcz22_4,hcz22_5,hcz22_6,hfz22_0,hfz22_1,hfz22_2,hfz22_3,hfz22_4,hfz22_5,hfz22_6⟩:=cf7_ BK112.out
    have p114:0≤(a1_1:Int):=of_decide_eq_true (by assumption)
    have q114:a1_1 < (l0_3.length:Int):=of_decide_eq_true (by assumption)
    obtain⟨ad114,A114_1,c114_1,A114_2,c114_2,e114,hx114_0,hx114_1,hx114_2,hx114_3,hx114_4,hl114_1,hi114_1,hl114_2,hi114_2⟩:=at_T67 HR0_3.out a1_1 p114 q114
    cases e114
    replace hx114_0:=bc_ HB.out hx114_0
    replace hx114_1:=bc_ HB.out hx114_1
    replace hx114_2:=bc_ HB.out hx114_2
    replace hx114_3:=bc_ HB.out hx114_3
    replace hx114_4:=bc_ HB.out hx114_4
    have HR114_1:=Az.mk hi114_1
    have HC114_1:=Az.mk hl114_1
    clear hi114_1 hl114_1
    have HR114_2:=Az.mk hi114_2
    have HC114_2:=Az.mk hl114_2
    clear hi114_2 hl114_2
    replace p114:=eq_true p114
    replace q114:=eq_true q114
    go_wp2
    go_ret
    exact⟨by first|rfl|(simp [errW_none,errW_some] <;> rfl)|(simp [*,errW_none,errW_some] <;> rfl),by repeat (first|(with_reducible first|exact HB.out|apply bA_|apply bN_|apply bD_|refine bS_ ?_ GE111.out|refine bS_ ?_ GE112.out)|exact HB.out)⟩
   replace c17:=Bool.eq_false_iff.mpr c17
   subst c17
   have H1:(if a1_0 ≥ 0 then(fields_Name.j1 kj2 (decide (a1_0 < (l0_0.length:Int))) l0_0 l0_1 l0_2 l0_3 l0_4 a1_0 a1_1 a1_2 a1_3 l1_4 a1_5 l1_6)else(fields_Name.j1 kj2 false l0_0 l0_1 l0_2 l0_3 l0_4 a1_0 a1_1 a1_2 a1_3 l1_4 a1_5 l1_6))=some r:=by rw [if_neg (show ¬ (false=true) by decide)] at H;exact H
   clear H
   have H:=H1
   clear H1
   have HC23:=Az.mk H
   clear H
   go_upto_region 3 with(fail)
   go_cut [44] (fun v44 wc=>∃ (kq:Nat) (x44_22:Bool),v44=.bool x44_22∧Az (fields_Name.j1 kq x44_22 l0_0 l0_1 l0_2 l0_3 l0_4 a1_0 a1_1 a1_2 a1_3 l1_4 a1_5 l1_6=some r)∧Az (kq≤kj2)∧Az (wc.heap[gb111]?=some (.cells #[(.slice A0_0 l0_0.length c0_0),(.slice A0_1 l0_1.length c0_1),(.slice A0_2 l0_2.length c0_2),(.slice A0_3 l0_3.length c0_3),(.slice A0_4 l0_4.length c0_4)] 27 (0,0)))∧Az (wc.heap[gb112]?=some (.cells #[.int .i64 a1_0,.int .i64 a1_1,.int .i64 a1_2,.int .i64 a1_3,(.slice A1_4 l1_4.length c1_4),.string a1_5,(.slice A1_6 l1_6.length c1_6)] 32 (0,0)))∧Az (Below w.heap.size w wc))
   case first =>
    have H:=HC23.out
    clear HC23
    by_cases c24:a1_0 ≥ 0
    ·rw [if_pos c24] at H
     have c24b0:=decide_eq_true c24
     clear c24
     (first|rw [c24b0]|(simp only [i64_w,i32_w];rw [c24b0])|skip)
     have H':=Az.mk H
     clear H
     have hnb25:=NB112_111.out
     have hnc25:=NB111_112.out
     obtain⟨hcz26_0,hcz26_1,hcz26_2,hcz26_3,hcz26_4,hcz26_5,hcz26_6,hfz26_0,hfz26_1,hfz26_2,hfz26_3,hfz26_4,hfz26_5,hfz26_6⟩:=cf7_ BK112.out
     obtain⟨hcz27_0,hcz27_1,hcz27_2,hcz27_3,hcz27_4,hfz27_0,hfz27_1,hfz27_2,hfz27_3,hfz27_4⟩:=cf5_ BK111.out
     go_wp2
     go_meet
     case rel=>exact⟨_,(decide (a1_0 < (l0_0.length:Int))),(by first|rfl|(simp;done)|(simp [*];done)|(refine congrArg Value.bool ?_;exact isE_ _)),H',⟨by have:=HJ2.out;first|omega|exact Nat.le_refl _⟩,⟨by(with_reducible repeat (first|refine kN_ ?_ _|refine kD_ ?_|refine kA_ ?_ _));exact BK111.out⟩,⟨by(with_reducible repeat (first|refine kN_ ?_ _|refine kD_ ?_|refine kA_ ?_ _));exact BK112.out⟩,⟨by repeat (first|(with_reducible first|exact HB.out|apply bA_|apply bN_|apply bD_|refine bS_ ?_ GE111.out|refine bS_ ?_ GE112.out)|exact HB.out)⟩⟩
    rw [if_neg c24] at H
    have c24b0:=decide_eq_false c24
    clear c24
    (first|rw [c24b0]|(simp only [i64_w,i32_w];rw [c24b0])|skip)
    have H':=Az.mk H
    clear H
    have hnb28:=NB112_111.out
    have hnc28:=NB111_112.out
    obtain⟨hcz29_0,hcz29_1,hcz29_2,hcz29_3,hcz29_4,hcz29_5,hcz29_6,hfz29_0,hfz29_1,hfz29_2,hfz29_3,hfz29_4,hfz29_5,hfz29_6⟩:=cf7_ BK112.out
    go_wp2
    go_meet
    case rel=>exact⟨_,(false),(by first|rfl|(simp;done)|(simp [*];done)|(refine congrArg Value.bool ?_;exact isE_ _)),H',⟨by have:=HJ2.out;first|omega|exact Nat.le_refl _⟩,⟨by(with_reducible repeat (first|refine kN_ ?_ _|refine kD_ ?_|refine kA_ ?_ _));exact BK111.out⟩,⟨by(with_reducible repeat (first|refine kN_ ?_ _|refine kD_ ?_|refine kA_ ?_ _));exact BK112.out⟩,⟨by repeat (first|(with_reducible first|exact HB.out|apply bA_|apply bN_|apply bD_|refine bS_ ?_ GE111.out|refine bS_ ?_ GE112.out)|exact HB.out)⟩⟩
   case rest =>
    clear HC23
    try clear c1
    try clear p1 p1
    try clear q1 q1
    try clear hx1
    try clear c2
    try clear p2 p2
    try clear c6
    try clear c6b0
    try clear c7
    try clear c7b0
    try clear c8
    try clear c8b0
    try clear c9
    try clear c11
    try clear p11 p11
    try clear q11 q11
    try clear hx11
    try clear c12
    try clear c13
    try clear c15
    try clear c17
    try clear c18
    try clear c18b0
    try clear c19
    try clear c19b0
    try clear c20
    try clear c24
    try clear c24b0
    try clear c25
    try clear c28
    try clear hcz10_0 hcz10_1 hcz10_2 hcz10_3 hcz10_4 hcz10_5 hcz10_6 hfz10_0 hfz10_1 hfz10_2 hfz10_3 hfz10_4 hfz10_5 hfz10_6
    try clear hcz11_0 hcz11_1 hcz11_2 hcz11_3 hcz11_4 hfz11_0 hfz11_1 hfz11_2 hfz11_3 hfz11_4
    try clear hcz13_0 hcz13_1 hcz13_2 hcz13_3 hcz13_4 hcz13_5 hcz13_6 hfz13_0 hfz13_1 hfz13_2 hfz13_3 hfz13_4 hfz13_5 hfz13_6
    try clear hcz14_0 hcz14_1 hcz14_2 hcz14_3 hcz14_4 hfz14_0 hfz14_1 hfz14_2 hfz14_3 hfz14_4
    try clear hcz16_0 hcz16_1 hcz16_2 hcz16_3 hcz16_4 hcz16_5 hcz16_6 hfz16_0 hfz16_1 hfz16_2 hfz16_3 hfz16_4 hfz16_5 hfz16_6
    try clear hcz21_0 hcz21_1 hcz21_2 hcz21_3 hcz21_4 hfz21_0 hfz21_1 hfz21_2 hfz21_3 hfz21_4
    try clear hcz22_0 hcz22_1 hcz22_2 hcz22_3 hcz22_4 hcz22_5 hcz22_6 hfz22_0 hfz22_1 hfz22_2 hfz22_3 hfz22_4 hfz22_5 hfz22_6
    try clear hcz26_0 hcz26_1 hcz26_2 hcz26_3 hcz26_4 hcz26_5 hcz26_6 hfz26_0 hfz26_1 hfz26_2 hfz26_3 hfz26_4 hfz26_5 hfz26_6
    try clear hcz27_0 hcz27_1 hcz27_2 hcz27_3 hcz27_4 hfz27_0 hfz27_1 hfz27_2 hfz27_3 hfz27_4
    try clear hcz29_0 hcz29_1 hcz29_2 hcz29_3 hcz29_4 hcz29_5 hcz29_6 hfz29_0 hfz29_1 hfz29_2 hfz29_3 hfz29_4 hfz29_5 hfz29_6
    try clear hx113_0
    try clear hx113_1
    try clear hx113_2
    try clear hx113_3
    try clear hx113_4
    try clear hx114_0
    try clear hx114_1
    try clear hx114_2
    try clear hx114_3
    try clear hx114_4
    try clear p113
    try clear p114
    try clear q113
    try clear q114
    obtain⟨kq,x44_22,rfl,HA,HJ22,BK111,BK112,HB⟩:=hcut
    cases kq with
    | zero=>exact absurd HA.out (by simp [fields_Name.j1])
    | succ kj22 =>
     have H:=HA.out
     clear HA
     simp only [fields_Name.j1] at H
     by_cases c30:x44_22=true
     ·subst c30
      have H1:(if 0≤a1_0 then(if a1_0 < (l0_0.length:Int)then(some (rdOf ByteArray.empty l0_0 a1_0))else(none))else(none))=some r:=by rw [if_pos rfl] at H;exact H
      clear H
      have H:=H1
      clear H1
      by_cases c31:0≤a1_0
      rotate_left
      ·rw [if_neg c31] at H
       exact absurd H (by simp)
      rw [if_pos c31] at H
      have c31b0:=decide_eq_true c31
      clear c31
      by_cases c32:a1_0 < (l0_0.length:Int)
      ·rw [if_pos c32] at H
       have c32b0:=decide_eq_true c32
       clear c32
       obtain rfl:=Option.some.inj H
       have hnb33:=NB111_112.out
       have hnc33:=NB112_111.out
       obtain⟨hcz34_0,hcz34_1,hcz34_2,hcz34_3,hcz34_4,hfz34_0,hfz34_1,hfz34_2,hfz34_3,hfz34_4⟩:=cf5_ BK111.out
       obtain⟨hcz35_0,hcz35_1,hcz35_2,hcz35_3,hcz35_4,hcz35_5,hcz35_6,hfz35_0,hfz35_1,hfz35_2,hfz35_3,hfz35_4,hfz35_5,hfz35_6⟩:=cf7_ BK112.out
       have p115:0≤(a1_0:Int):=of_decide_eq_true (by assumption)
       have q115:a1_0 < (l0_0.length:Int):=of_decide_eq_true (by assumption)
       obtain⟨ad115,e115,hx115_0⟩:=Kd.at_string HR0_0.out a1_0 p115 q115
       cases e115
       replace hx115_0:=bc_ HB.out hx115_0
       replace p115:=eq_true p115
       replace q115:=eq_true q115
       go_wp2
       go_ret
       exact⟨by first|rfl|(simp [errW_none,errW_some] <;> rfl)|(simp [*,errW_none,errW_some] <;> rfl),by repeat (first|(with_reducible first|exact HB.out|apply bA_|apply bN_|apply bD_|refine bS_ ?_ GE111.out|refine bS_ ?_ GE112.out)|exact HB.out)⟩
      rw [if_neg c32] at H
      exact absurd H (by simp)
     replace c30:=Bool.eq_false_iff.mpr c30
     subst c30
     have H1:(if (wrap64 ((-1) - a1_0)) ≥ 0 then(if (wrap64 ((-1) - a1_0)) < (l0_1.length:Int)then(if 0≤(wrap64 ((-1) - a1_0))then(some (rdOf ByteArray.empty l0_1 (wrap64 ((-1) - a1_0))))else(none))else(some (⟨#[]⟩:ByteArray)))else(some (⟨#[]⟩:ByteArray)))=some r:=by rw [if_neg (show ¬ (false=true) by decide)] at H;exact H
     clear H
     have H:=H1
     clear H1
     by_cases c36:(wrap64 ((-1) - a1_0)) ≥ 0
     rotate_left
     ·rw [if_neg c36] at H
      have c36b0:=decide_eq_false c36
      clear c36
      obtain rfl:=Option.some.inj H
      have hnb46:=NB112_111.out
      have hnc46:=NB111_112.out
      obtain⟨hcz47_0,hcz47_1,hcz47_2,hcz47_3,hcz47_4,hcz47_5,hcz47_6,hfz47_0,hfz47_1,hfz47_2,hfz47_3,hfz47_4,hfz47_5,hfz47_6⟩:=cf7_ BK112.out
      go_wp2
      go_ret
      exact⟨by first|rfl|(simp [errW_none,errW_some] <;> rfl)|(simp [*,errW_none,errW_some] <;> rfl),by repeat (first|(with_reducible first|exact HB.out|apply bA_|apply bN_|apply bD_|refine bS_ ?_ GE111.out|refine bS_ ?_ GE112.out)|exact HB.out)⟩
     rw [if_pos c36] at H
     have c36b0:=decide_eq_true c36
     clear c36
     by_cases c37:(wrap64 ((-1) - a1_0)) < (l0_1.length:Int)
     rotate_left
     ·rw [if_neg c37] at H
      have c37b0:=decide_eq_false c37
      clear c37
      obtain rfl:=Option.some.inj H
      have hnb43:=NB112_111.out
      have hnc43:=NB111_112.out
      obtain⟨hcz44_0,hcz44_1,hcz44_2,hcz44_3,hcz44_4,hcz44_5,hcz44_6,hfz44_0,hfz44_1,hfz44_2,hfz44_3,hfz44_4,hfz44_5,hfz44_6⟩:=cf7_ BK112.out
      obtain⟨hcz45_0,hcz45_1,hcz45_2,hcz45_3,hcz45_4,hfz45_0,hfz45_1,hfz45_2,hfz45_3,hfz45_4⟩:=cf5_ BK111.out
      go_wp2
      go_ret
      exact⟨by first|rfl|(simp [errW_none,errW_some] <;> rfl)|(simp [*,errW_none,errW_some] <;> rfl),by repeat (first|(with_reducible first|exact HB.out|apply bA_|apply bN_|apply bD_|refine bS_ ?_ GE111.out|refine bS_ ?_ GE112.out)|exact HB.out)⟩
     rw [if_pos c37] at H
     have c37b0:=decide_eq_true c37
     clear c37
     obtain⟨ji38,hji38⟩:∃ j_:Int,(wrap64 ((-1) - a1_0))=j_:=⟨_,rfl⟩
     replace H:(if 0≤(ji38)then(some (rdOf ByteArray.empty l0_1 (ji38)))else(none))=some r:=by first|(rw [hji38] at H;exact H)|(simp only [hji38] at H ⊢;exact H)
     (try rw [hji38] at c36b0)
     (try rw [hji38] at c37b0)
     have hji38w:(IntKind.i64.wrap ((-1) - a1_0))=ji38:=(i64_w _).trans hji38
     by_cases c39:0≤(ji38)
     ·rw [if_pos c39] at H
      have c39b0:=decide_eq_true c39
      clear c39
      obtain rfl:=Option.some.inj H
      have hnb40:=NB112_111.out
      have hnc40:=NB111_112.out
      obtain⟨hcz41_0,hcz41_1,hcz41_2,hcz41_3,hcz41_4,hcz41_5,hcz41_6,hfz41_0,hfz41_1,hfz41_2,hfz41_3,hfz41_4,hfz41_5,hfz41_6⟩:=cf7_ BK112.out
      obtain⟨hcz42_0,hcz42_1,hcz42_2,hcz42_3,hcz42_4,hfz42_0,hfz42_1,hfz42_2,hfz42_3,hfz42_4⟩:=cf5_ BK111.out
      have p116:0≤((ji38):Int):=of_decide_eq_true (by assumption)
      have q116:(ji38) < (l0_1.length:Int):=of_decide_eq_true (by assumption)
      obtain⟨ad116,e116,hx116_0⟩:=Kd.at_string HR0_1.out (ji38) p116 q116
      cases e116
      replace hx116_0:=bc_ HB.out hx116_0
      replace p116:=eq_true p116
      replace q116:=eq_true q116
      go_wp2
      go_ret
      exact⟨by first|rfl|(simp [errW_none,errW_some] <;> rfl)|(simp only [← hji38];first|rfl|(simp [errW_none,errW_some] <;> rfl))|(simp [*,errW_none,errW_some] <;> rfl),by repeat (first|(with_reducible first|exact HB.out|apply bA_|apply bN_|apply bD_|refine bS_ ?_ GE111.out|refine bS_ ?_ GE112.out)|exact HB.out)⟩
     rw [if_neg c39] at H
     exact absurd H (by simp)
end Go.Proofs.Ytgdbcogbbghjaaa.Q
