import Derived.Test.YtgdbcogbbghjaaaQ0
namespace Go.Proofs.Ytgdbcogbbghjaaa.Q
open Go.RowKit Go.Proofs.YtgdbcogbbghjaaaW.PrintWords Go.Proofs.YtgdbcogbbghjaaaW.PrintLast Go.Proofs.YtgdbcogbbghjaaaW.PrintMore
attribute [local go_sem] max2_int min2_int max_two min_two max_three min_three max_four min_four   -- for this text's walks alone
set_option linter.unusedVariables false
set_option linter.unusedSimpArgs false
def arboristref42_Own.l0:Nat→ByteArray→Int→Int→Int→Int→Int→List (S53)→ByteArray→List (S32)→Option (ByteArray)
 | 0,_,_,_,_,_,_,_,_,_=>none
 | k + 1,x3,x4,x414000,x414001,x414002,x414003,x414004,x414005,x414006=>if x4 < (x414004.length:Int)then(if 0≤x4 then(if x3.size + ((rd_T53 x414004 x4).f2).size≤9223372036854775807 then(arboristref42_Own.l0 k (x3 ++ ((rd_T53 x414004 x4).f2)) (wrap64 (x4 + 1)) x414000 x414001 x414002 x414003 x414004 x414005 x414006)else(none))else(none))else(if x3.size + x414005.size≤9223372036854775807 then(some (x3 ++ x414005))else(none))
def arboristref42_Own.f (k:Nat)(a0_0:Int)(a0_1:Int)(a0_2:Int)(a0_3:Int)(l0_4:List (S53))(a0_5:ByteArray)(l0_6:List (S32)):Option (ByteArray):=if a0_0 < 0 then(some (⟨#[]⟩:ByteArray))else(arboristref42_Own.l0 k (⟨#[]⟩:ByteArray) 0 a0_0 a0_1 a0_2 a0_3 l0_4 a0_5 l0_6)
set_option maxHeartbeats 8000000 in
set_option maxRecDepth 100000 in
theorem arboristref42_Own.calls (k:Nat)(a0_0:Int)(a0_1:Int)(a0_2:Int)(a0_3:Int)(A0_4:Option Addr)(c0_4:Nat)(l0_4:List (S53))(a0_5:ByteArray)(A0_6:Option Addr)(c0_6:Nat)(l0_6:List (S32))(r:ByteArray)(w:World)(hr0_4:Kd.C k53 w A0_4 l0_4.length l0_4)(hc0_4:l0_4.length≤c0_4)(hr0_6:Kd.C k32 w A0_6 l0_6.length l0_6)(hc0_6:l0_6.length≤c0_6)(h:arboristref42_Own.f k a0_0 a0_1 a0_2 a0_3 l0_4 a0_5 l0_6=some r) :
  Calls Try.prog 40 #[.agg #[.int .i64 a0_0,.int .i64 a0_1,.int .i64 a0_2,.int .i64 a0_3,.slice A0_4 l0_4.length c0_4,.string a0_5,.slice A0_6 l0_6.length c0_6]] w fun e w'=>e=.returned (.string r)∧Below w.heap.size w w':=by
 have hu32:=Try.underlying32
 have HR0_4:=Az.mk hr0_4
 have HC0_4:=Az.mk hc0_4
 clear hr0_4 hc0_4
 have HR0_6:=Az.mk hr0_6
 have HC0_6:=Az.mk hc0_6
 clear hr0_6 hc0_6
 have HB:=Az.mk (Below.refl w.heap.size w)
 have H:(if a0_0 < 0 then(some (⟨#[]⟩:ByteArray))else(arboristref42_Own.l0 k (⟨#[]⟩:ByteArray) 0 a0_0 a0_1 a0_2 a0_3 l0_4 a0_5 l0_6))=some r:=h
 clear h
 by_cases c2:a0_0 < 0
 ·rw [if_pos c2] at H
  have c2b0:=decide_eq_true c2
  clear c2
  obtain rfl:=Option.some.inj H
  go_enter Try.func40,Try.ntmps40
  go_wp2_with (first|((with_reducible refine gate_dst (N:=1) rfl ?_);refine box_event ?hg (N:=1) ?hd (cs:=#[.int .i64 a0_0,.int .i64 a0_1,.int .i64 a0_2,.int .i64 a0_3,.slice A0_4 l0_4.length c0_4,.string a0_5,.slice A0_6 l0_6.length c0_6]) (t:=32) ?hr ?_;(case hd=>rfl);(case hg=>rfl);(case hr=>first|(go_simp;done)|(go_simp;rfl));intro gb413 hg w3 hbox hb;have n0_:=Az.mk (bT_ HB.out hb);have n1_:=Az.mk (hbox);have n2_:=Az.mk ((szl_ HB.out hg));have n3_:=Az.mk ((szl_ HB.out hg));clear HB;have HB:=n0_;have BK413:=n1_;have GW413:=n2_;have GE413:=n3_;clear n0_ n1_ n2_ n3_;clear hb hbox hg;obtain⟨hcz4_0,hcz4_1,hcz4_2,hcz4_3,hcz4_4,hcz4_5,hcz4_6,hfz4_0,hfz4_1,hfz4_2,hfz4_3,hfz4_4,hfz4_5,hfz4_6⟩:=cf7_ BK413.out))
  go_ret
  exact⟨by first|rfl|(simp [errW_none,errW_some] <;> rfl)|(simp [*,errW_none,errW_some] <;> rfl),by repeat (first|(with_reducible first|exact HB.out|apply bA_|apply bN_|apply bD_|refine bS_ ?_ GE413.out)|exact HB.out)⟩
 rw [if_neg c2] at H
 have c2b0:=decide_eq_false c2
 clear c2
 have H':=Az.mk H
 clear H
 go_enter Try.func40,Try.ntmps40
 go_wp2_with (first|((with_reducible refine gate_dst (N:=1) rfl ?_);refine box_event ?hg (N:=1) ?hd (cs:=#[.int .i64 a0_0,.int .i64 a0_1,.int .i64 a0_2,.int .i64 a0_3,.slice A0_4 l0_4.length c0_4,.string a0_5,.slice A0_6 l0_6.length c0_6]) (t:=32) ?hr ?_;(case hd=>rfl);(case hg=>rfl);(case hr=>first|(go_simp;done)|(go_simp;rfl));intro gb413 hg w5 hbox hb;have n0_:=Az.mk (bT_ HB.out hb);have n1_:=Az.mk (hbox);have n2_:=Az.mk ((szl_ HB.out hg));have n3_:=Az.mk ((szl_ HB.out hg));clear HB;have HB:=n0_;have BK413:=n1_;have GW413:=n2_;have GE413:=n3_;clear n0_ n1_ n2_ n3_;clear hb hbox hg;obtain⟨hcz6_0,hcz6_1,hcz6_2,hcz6_3,hcz6_4,hcz6_5,hcz6_6,hfz6_0,hfz6_1,hfz6_2,hfz6_3,hfz6_4,hfz6_5,hfz6_6⟩:=cf7_ BK413.out))
 go_loopg [3,4] k (fun kq v3 v4 w'=>∃ (x3_1:ByteArray) (x4_1:Int),v3=.string x3_1∧v4=.int .i64 x4_1∧Az (arboristref42_Own.l0 kq x3_1 x4_1 a0_0 a0_1 a0_2 a0_3 l0_4 a0_5 l0_6=some r)∧Az (kq≤k)∧Az (w'.heap[gb413]?=some (.cells #[.int .i64 a0_0,.int .i64 a0_1,.int .i64 a0_2,.int .i64 a0_3,(.slice A0_4 l0_4.length c0_4),.string a0_5,(.slice A0_6 l0_6.length c0_6)] 32 (0,0)))∧Az (Below w.heap.size w w'))
 case atStart=>exact⟨((⟨#[]⟩:ByteArray)),(0),(by first|rfl|(simp;done)|(simp [*];done)|(refine congrArg Value.bool ?_;exact isE_ _)),(by first|rfl|(simp;done)|(simp [*];done)|(refine congrArg Value.bool ?_;exact isE_ _)),H',⟨Nat.le_refl _⟩,⟨by(with_reducible repeat (first|refine kN_ ?_ _|refine kD_ ?_|refine kA_ ?_ _));exact BK413.out⟩,⟨by repeat (first|(with_reducible first|exact HB.out|apply bA_|apply bN_|apply bD_|refine bS_ ?_ GE413.out)|exact HB.out)⟩⟩
 case round =>
  clear H'
  try clear c2
  try clear c2b0
  try clear p2
  try clear c4
  try clear hcz4_0 hcz4_1 hcz4_2 hcz4_3 hcz4_4 hcz4_5 hcz4_6 hfz4_0 hfz4_1 hfz4_2 hfz4_3 hfz4_4 hfz4_5 hfz4_6
  try clear hcz6_0 hcz6_1 hcz6_2 hcz6_3 hcz6_4 hcz6_5 hcz6_6 hfz6_0 hfz6_1 hfz6_2 hfz6_3 hfz6_4 hfz6_5 hfz6_6
  obtain⟨x3_1,x4_1,rfl,rfl,HA,HK1,BK413,HB⟩:=hrel
  cases gk with
  | zero=>exact absurd HA.out (by simp [arboristref42_Own.l0])
  | succ k1 =>
   have H:=HA.out
   clear HA
   simp only [arboristref42_Own.l0] at H
   by_cases c7:x4_1 < (l0_4.length:Int)
   rotate_left
   ·rw [if_neg c7] at H
    have c7b0:=decide_eq_false c7
    clear c7
    by_cases c11:x3_1.size + a0_5.size≤9223372036854775807
    ·rw [if_pos c11] at H
     have c11b0:=eq_true c11
     have c11b1:=decide_eq_true c11
     try have c11b2:(9223372036854775807 < x3_1.size + a0_5.size)=False:=eq_false (Nat.not_lt.2 c11)
     obtain rfl:=Option.some.inj H
     obtain⟨hcz12_0,hcz12_1,hcz12_2,hcz12_3,hcz12_4,hcz12_5,hcz12_6,hfz12_0,hfz12_1,hfz12_2,hfz12_3,hfz12_4,hfz12_5,hfz12_6⟩:=cf7_ BK413.out
     go_wp2
     go_ret
     exact⟨by first|rfl|(simp [errW_none,errW_some] <;> rfl)|(simp [*,errW_none,errW_some] <;> rfl),by repeat (first|(with_reducible first|exact HB.out|apply bA_|apply bN_|apply bD_|refine bS_ ?_ GE413.out)|exact HB.out)⟩
    rw [if_neg c11] at H
    exact absurd H (by simp)
   rw [if_pos c7] at H
   have c7b0:=decide_eq_true c7
   clear c7
   by_cases c8:0≤x4_1
   rotate_left
   ·rw [if_neg c8] at H
    exact absurd H (by simp)
   rw [if_pos c8] at H
   have c8b0:=decide_eq_true c8
   clear c8
   by_cases c9:x3_1.size + ((rd_T53 l0_4 x4_1).f2).size≤9223372036854775807
   rotate_left
   ·rw [if_neg c9] at H
    exact absurd H (by simp)
   rw [if_pos c9] at H
   have c9b0:=eq_true c9
   have c9b1:=decide_eq_true c9
   try have c9b2:(9223372036854775807 < x3_1.size + ((rd_T53 l0_4 x4_1).f2).size)=False:=eq_false (Nat.not_lt.2 c9)
   have H':=Az.mk H
   clear H
   obtain⟨hcz10_0,hcz10_1,hcz10_2,hcz10_3,hcz10_4,hcz10_5,hcz10_6,hfz10_0,hfz10_1,hfz10_2,hfz10_3,hfz10_4,hfz10_5,hfz10_6⟩:=cf7_ BK413.out
   have p414:0≤(x4_1:Int):=of_decide_eq_true (by assumption)
   have q414:x4_1 < (l0_4.length:Int):=of_decide_eq_true (by assumption)
   obtain⟨ad414,e414,hx414_0,hx414_1,hx414_2⟩:=at_T53 HR0_4.out x4_1 p414 q414
   cases e414
   replace hx414_0:=bc_ HB.out hx414_0
   replace hx414_1:=bc_ HB.out hx414_1
   replace hx414_2:=bc_ HB.out hx414_2
   replace p414:=eq_true p414
   replace q414:=eq_true q414
   go_wp2
   go_roundg k1
   case measure=>have:=HK1.out;omega
   case rel=>exact⟨(x3_1 ++ ((rd_T53 l0_4 x4_1).f2)),(wrap64 (x4_1 + 1)),(by first|rfl|(simp;done)|(simp [*];done)|(refine congrArg Value.bool ?_;exact isE_ _)),(by first|rfl|(simp;done)|(simp [*];done)|(refine congrArg Value.bool ?_;exact isE_ _)),H',⟨by have:=HK1.out;omega⟩,⟨by(with_reducible repeat (first|refine kN_ ?_ _|refine kD_ ?_|refine kA_ ?_ _));exact BK413.out⟩,⟨by repeat (first|(with_reducible first|exact HB.out|apply bA_|apply bN_|apply bD_|refine bS_ ?_ GE413.out)|exact HB.out)⟩⟩
end Go.Proofs.Ytgdbcogbbghjaaa.Q
