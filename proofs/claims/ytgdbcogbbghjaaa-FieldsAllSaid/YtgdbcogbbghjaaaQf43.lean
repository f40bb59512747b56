import Derived.Test.YtgdbcogbbghjaaaQ0
namespace Go.Proofs.Ytgdbcogbbghjaaa.Q
open Go.RowKit Go.Proofs.YtgdbcogbbghjaaaW.PrintWords Go.Proofs.YtgdbcogbbghjaaaW.PrintLast Go.Proofs.YtgdbcogbbghjaaaW.PrintMore
attribute [local go_sem] max2_int min2_int max_two min_two max_three min_three max_four min_four   -- for this text's walks alone
set_option linter.unusedVariables false
set_option linter.unusedSimpArgs false
def fields_field.j0:Nat→Int→Bool→List ByteArray→List ByteArray→List Int→List (S67)→List (S78)→Int→Int→Int→Int→List (S53)→ByteArray→List (S32)→Option (ByteArray)
 | 0,_,_,_,_,_,_,_,_,_,_,_,_,_,_=>none
 | k + 1,x2,x18,x455000,x455001,x455002,x455003,x455004,x456000,x456001,x456002,x456003,x456004,x456005,x456006=>if x18=true then(some (⟨#[]⟩:ByteArray))else(if 0≤x456001 then(if x456001 < (x455003.length:Int)then(if (((rd_T67 x455003 x456001).f2).length:Int)=(x456006.length:Int)then(if 0≤x2 then(if x2 < (((rd_T67 x455003 x456001).f2).length:Int)then(some (rdOf ByteArray.empty ((rd_T67 x455003 x456001).f2) x2))else(none))else(none))else(some (⟨#[]⟩:ByteArray)))else(none))else(none))
def fields_field.f (k:Nat)(l0_0:List ByteArray)(l0_1:List ByteArray)(l0_2:List Int)(l0_3:List (S67))(l0_4:List (S78))(a1_0:Int)(a1_1:Int)(a1_2:Int)(a1_3:Int)(l1_4:List (S53))(a1_5:ByteArray)(l1_6:List (S32))(a2:Int):Option (ByteArray):=if a1_1 < 0 then(fields_field.j0 k a2 true l0_0 l0_1 l0_2 l0_3 l0_4 a1_0 a1_1 a1_2 a1_3 l1_4 a1_5 l1_6)else(fields_field.j0 k a2 (decide (a1_1 ≥ (l0_3.length:Int))) l0_0 l0_1 l0_2 l0_3 l0_4 a1_0 a1_1 a1_2 a1_3 l1_4 a1_5 l1_6)
set_option maxHeartbeats 8000000 in
set_option maxRecDepth 100000 in
theorem fields_field.calls (k:Nat)(A0_0:Option Addr)(c0_0:Nat)(l0_0:List ByteArray)(A0_1:Option Addr)(c0_1:Nat)(l0_1:List ByteArray)(A0_2:Option Addr)(c0_2:Nat)(l0_2:List Int)(A0_3:Option Addr)(c0_3:Nat)(l0_3:List (S67))(A0_4:Option Addr)(c0_4:Nat)(l0_4:List (S78))(a1_0:Int)(a1_1:Int)(a1_2:Int)(a1_3:Int)(A1_4:Option Addr)(c1_4:Nat)(l1_4:List (S53))(a1_5:ByteArray)(A1_6:Option Addr)(c1_6:Nat)(l1_6:List (S32))(a2:Int)(r:ByteArray)(w:World)(hr0_0:Kd.C Kd.string w A0_0 l0_0.length l0_0)(hc0_0:l0_0.length≤c0_0)(hr0_1:Kd.C Kd.string w A0_1 l0_1.length l0_1)(hc0_1:l0_1.length≤c0_1)(hr0_2:Kd.C (Kd.int .i64) w A0_2 l0_2.length l0_2)(hc0_2:l0_2.length≤c0_2)(hr0_3:Kd.C k67 w A0_3 l0_3.length l0_3)(hc0_3:l0_3.length≤c0_3)(hr0_4:Kd.C k78 w A0_4 l0_4.length l0_4)(hc0_4:l0_4.length≤c0_4)(hr1_4:Kd.C k53 w A1_4 l1_4.length l1_4)(hc1_4:l1_4.length≤c1_4)(hr1_6:Kd.C k32 w A1_6 l1_6.length l1_6)(hc1_6:l1_6.length≤c1_6)(h:fields_field.f k l0_0 l0_1 l0_2 l0_3 l0_4 a1_0 a1_1 a1_2 a1_3 l1_4 a1_5 l1_6 a2=some r) :
  Calls Try.prog 43 #[.agg #[.slice A0_0 l0_0.length c0_0,.slice A0_1 l0_1.length c0_1,.slice A0_2 l0_2.length c0_2,.slice A0_3 l0_3.length c0_3,.slice A0_4 l0_4.length c0_4],.agg #[.int .i64 a1_0,.int .i64 a1_1,.int .i64 a1_2,.int .i64 a1_3,.slice A1_4 l1_4.length c1_4,.string a1_5,.slice A1_6 l1_6.length c1_6],.int .i64 a2] w fun e w'=>e=.returned (.string r)∧Below w.heap.size w w':=by
 have hu27:=Try.underlying27
 have hu32:=Try.underlying32
 have HR0_0:=Az.mk hr0_0
 have HC0_0:=Az.mk hc0_0
 clear hr0_0 hc0_0
 have HR0_1:=Az.mk hr0_1
 have HC0_1:=Az.mk hc0_1
 clear hr0_1 hc0_1
 have HR0_2:=Az.mk hr0_2
 have HC0_2:=Az.mk hc0_2
 clear hr0_2 hc0_2
 have HR0_3:=Az.mk hr0_3
 have HC0_3:=Az.mk hc0_3
 clear hr0_3 hc0_3
 have HR0_4:=Az.mk hr0_4
 have HC0_4:=Az.mk hc0_4
 clear hr0_4 hc0_4
 have HR1_4:=Az.mk hr1_4
 have HC1_4:=Az.mk hc1_4
 clear hr1_4 hc1_4
 have HR1_6:=Az.mk hr1_6
 have HC1_6:=Az.mk hc1_6
 clear hr1_6 hc1_6
 have HB:=Az.mk (Below.refl w.heap.size w)
 have H:(if a1_1 < 0 then(fields_field.j0 k a2 true l0_0 l0_1 l0_2 l0_3 l0_4 a1_0 a1_1 a1_2 a1_3 l1_4 a1_5 l1_6)else(fields_field.j0 k a2 (decide (a1_1 ≥ (l0_3.length:Int))) l0_0 l0_1 l0_2 l0_3 l0_4 a1_0 a1_1 a1_2 a1_3 l1_4 a1_5 l1_6))=some r:=h
 clear h
 have HC4:=Az.mk H
 clear H
 go_enter Try.func43,Try.ntmps43
 go_upto_region 1 with(first|((with_reducible refine gate_dst (N:=3) rfl ?_);(try (refine gate_guard (by rfl) ?_;dsimp only));refine box_event ?hg (N:=3) ?hd (cs:=#[.slice A0_0 l0_0.length c0_0,.slice A0_1 l0_1.length c0_1,.slice A0_2 l0_2.length c0_2,.slice A0_3 l0_3.length c0_3,.slice A0_4 l0_4.length c0_4]) (t:=27) ?hr ?_;(case hd=>rfl);(case hg=>rfl);(case hr=>first|(go_simp;done)|(go_simp;rfl));intro gb454 hg w5 hbox hb;have n0_:=Az.mk (bT_ HB.out hb);have n1_:=Az.mk (hbox);have n2_:=Az.mk ((szl_ HB.out hg));have n3_:=Az.mk ((szl_ HB.out hg));clear HB;have HB:=n0_;have BK454:=n1_;have GW454:=n2_;have GE454:=n3_;clear n0_ n1_ n2_ n3_;clear hb hbox hg)|((with_reducible refine gate_dst (N:=4) rfl ?_);(try (refine gate_guard (by rfl) ?_;dsimp only));refine box_event ?hg (N:=4) ?hd (cs:=#[.int .i64 a1_0,.int .i64 a1_1,.int .i64 a1_2,.int .i64 a1_3,.slice A1_4 l1_4.length c1_4,.string a1_5,.slice A1_6 l1_6.length c1_6]) (t:=32) ?hr ?_;(case hd=>rfl);(case hg=>rfl);(case hr=>first|(go_simp;done)|(go_simp;rfl));intro gb455 hg w6 hbox hb;have n0_:=Az.mk (kB_ BK454.out hb);have n1_:=Az.mk (bT_ HB.out hb);have n2_:=Az.mk (hbox);have n3_:=Az.mk ((szl_ HB.out hg));have n4_:=Az.mk ((szl_ HB.out hg));have n5_:=Az.mk ((nel_ BK454.out hg));have n6_:=Az.mk ((ner_ BK454.out hg));clear BK454;clear HB;have BK454:=n0_;have HB:=n1_;have BK455:=n2_;have GW455:=n3_;have GE455:=n4_;have NB454_455:=n5_;have NB455_454:=n6_;clear n0_ n1_ n2_ n3_ n4_ n5_ n6_;clear hb hbox hg))
 (try simp only [Act.put,sT_,s0_,sC_])
 go_cut [18] (fun v18 wc=>∃ (kq:Nat) (x18_3:Bool),v18=.bool x18_3∧Az (fields_field.j0 kq a2 x18_3 l0_0 l0_1 l0_2 l0_3 l0_4 a1_0 a1_1 a1_2 a1_3 l1_4 a1_5 l1_6=some r)∧Az (kq≤k)∧Az (wc.heap[gb454]?=some (.cells #[(.slice A0_0 l0_0.length c0_0),(.slice A0_1 l0_1.length c0_1),(.slice A0_2 l0_2.length c0_2),(.slice A0_3 l0_3.length c0_3),(.slice A0_4 l0_4.length c0_4)] 27 (0,0)))∧Az (wc.heap[gb455]?=some (.cells #[.int .i64 a1_0,.int .i64 a1_1,.int .i64 a1_2,.int .i64 a1_3,(.slice A1_4 l1_4.length c1_4),.string a1_5,(.slice A1_6 l1_6.length c1_6)] 32 (0,0)))∧Az (Below w.heap.size w wc))
 case first =>
  have H:=HC4.out
  clear HC4
  by_cases c7:a1_1 < 0
  ·rw [if_pos c7] at H
   have c7b0:=decide_eq_true c7
   clear c7
   (first|rw [c7b0]|(simp only [i64_w,i32_w];rw [c7b0])|skip)
   have H':=Az.mk H
   clear H
   have hnb8:=NB455_454.out
   have hnc8:=NB454_455.out
   obtain⟨hcz9_0,hcz9_1,hcz9_2,hcz9_3,hcz9_4,hcz9_5,hcz9_6,hfz9_0,hfz9_1,hfz9_2,hfz9_3,hfz9_4,hfz9_5,hfz9_6⟩:=cf7_ BK455.out
   go_wp2
   go_meet
   case rel=>exact⟨_,(true),(by first|rfl|(simp;done)|(simp [*];done)|(refine congrArg Value.bool ?_;exact isE_ _)),H',⟨by first|omega|exact Nat.le_refl _⟩,⟨by(with_reducible repeat (first|refine kN_ ?_ _|refine kD_ ?_|refine kA_ ?_ _));exact BK454.out⟩,⟨by(with_reducible repeat (first|refine kN_ ?_ _|refine kD_ ?_|refine kA_ ?_ _));exact BK455.out⟩,⟨by repeat (first|(with_reducible first|exact HB.out|apply bA_|apply bN_|apply bD_|refine bS_ ?_ GE454.out|refine bS_ ?_ GE455.out)|exact HB.out)⟩⟩
  rw [if_neg c7] at H
  have c7b0:=decide_eq_false c7
  clear c7
  (first|rw [c7b0]|(simp only [i64_w,i32_w];rw [c7b0])|skip)
  have H':=Az.mk H
  clear H
  have hnb10:=NB455_454.out
  have hnc10:=NB454_455.out
  obtain⟨hcz11_0,hcz11_1,hcz11_2,hcz11_3,hcz11_4,hcz11_5,hcz11_6,hfz11_0,hfz11_1,hfz11_2,hfz11_3,hfz11_4,hfz11_5,hfz11_6⟩:=cf7_ BK455.out
  obtain⟨hcz12_0,hcz12_1,hcz12_2,hcz12_3,hcz12_4,hfz12_0,hfz12_1,hfz12_2,hfz12_3,hfz12_4⟩:=cf5_ BK454.out
  go_wp2
  go_meet
  case rel=>exact⟨_,(decide (a1_1 ≥ (l0_3.length:Int))),(by first|rfl|(simp;done)|(simp [*];done)|(refine congrArg Value.bool ?_;exact isE_ _)),H',⟨by first|omega|exact Nat.le_refl _⟩,⟨by(with_reducible repeat (first|refine kN_ ?_ _|refine kD_ ?_|refine kA_ ?_ _));exact BK454.out⟩,⟨by(with_reducible repeat (first|refine kN_ ?_ _|refine kD_ ?_|refine kA_ ?_ _));exact BK455.out⟩,⟨by repeat (first|(with_reducible first|exact HB.out|apply bA_|apply bN_|apply bD_|refine bS_ ?_ GE454.out|refine bS_ ?_ GE455.out)|exact HB.out)⟩⟩
 case rest =>
  clear HC4
  try clear c1
  try clear p2
  try clear c4
  try clear c7
  try clear c7b0
  try clear c8
  try clear c10
  try clear hcz11_0 hcz11_1 hcz11_2 hcz11_3 hcz11_4 hcz11_5 hcz11_6 hfz11_0 hfz11_1 hfz11_2 hfz11_3 hfz11_4 hfz11_5 hfz11_6
  try clear hcz12_0 hcz12_1 hcz12_2 hcz12_3 hcz12_4 hfz12_0 hfz12_1 hfz12_2 hfz12_3 hfz12_4
  try clear hcz9_0 hcz9_1 hcz9_2 hcz9_3 hcz9_4 hcz9_5 hcz9_6 hfz9_0 hfz9_1 hfz9_2 hfz9_3 hfz9_4 hfz9_5 hfz9_6
  obtain⟨kq,x18_3,rfl,HA,HJ3,BK454,BK455,HB⟩:=hcut
  cases kq with
  | zero=>exact absurd HA.out (by simp [fields_field.j0])
  | succ kj3 =>
   have H:=HA.out
   clear HA
   simp only [fields_field.j0] at H
   by_cases c13:x18_3=true
   ·subst c13
    have H1:(some (⟨#[]⟩:ByteArray))=some r:=by rw [if_pos rfl] at H;exact H
    clear H
    have H:=H1
    clear H1
    obtain rfl:=Option.some.inj H
    go_wp2
    go_ret
    exact⟨by first|rfl|(simp [errW_none,errW_some] <;> rfl)|(simp [*,errW_none,errW_some] <;> rfl),by repeat (first|(with_reducible first|exact HB.out|apply bA_|apply bN_|apply bD_|refine bS_ ?_ GE454.out|refine bS_ ?_ GE455.out)|exact HB.out)⟩
   replace c13:=Bool.eq_false_iff.mpr c13
   subst c13
   have H1:(if 0≤a1_1 then(if a1_1 < (l0_3.length:Int)then(if (((rd_T67 l0_3 a1_1).f2).length:Int)=(l1_6.length:Int)then(if 0≤a2 then(if a2 < (((rd_T67 l0_3 a1_1).f2).length:Int)then(some (rdOf ByteArray.empty ((rd_T67 l0_3 a1_1).f2) a2))else(none))else(none))else(some (⟨#[]⟩:ByteArray)))else(none))else(none))=some r:=by rw [if_neg (show ¬ (false=true) by decide)] at H;exact H
   clear H
   have H:=H1
   clear H1
   by_cases c14:0≤a1_1
   rotate_left
   ·rw [if_neg c14] at H
    exact absurd H (by simp)
   rw [if_pos c14] at H
   have c14b0:=decide_eq_true c14
   clear c14
   by_cases c15:a1_1 < (l0_3.length:Int)
   rotate_left
   ·rw [if_neg c15] at H
    exact absurd H (by simp)
   rw [if_pos c15] at H
   have c15b0:=decide_eq_true c15
   clear c15
   by_cases c16:(((rd_T67 l0_3 a1_1).f2).length:Int)=(l1_6.length:Int)
   rotate_left
   ·rw [if_neg c16] at H
    have c16b0:=beq_eq_false_iff_ne.mpr c16
    have c16b1:=bne_iff_ne.mpr c16
    have c16b2:(((rd_T67 l0_3 a1_1).f2).length == l1_6.length)=false:=by first|simpa using c16|(simp at c16 ⊢;omega)
    obtain rfl:=Option.some.inj H
    have hnb22:=NB454_455.out
    have hnc22:=NB455_454.out
    obtain⟨hcz23_0,hcz23_1,hcz23_2,hcz23_3,hcz23_4,hfz23_0,hfz23_1,hfz23_2,hfz23_3,hfz23_4⟩:=cf5_ BK454.out
    obtain⟨hcz24_0,hcz24_1,hcz24_2,hcz24_3,hcz24_4,hcz24_5,hcz24_6,hfz24_0,hfz24_1,hfz24_2,hfz24_3,hfz24_4,hfz24_5,hfz24_6⟩:=cf7_ BK455.out
    have p456:0≤(a1_1:Int):=of_decide_eq_true (by assumption)
    have q456:a1_1 < (l0_3.length:Int):=of_decide_eq_true (by assumption)
    obtain⟨ad456,A456_1,c456_1,A456_2,c456_2,e456,hx456_0,hx456_1,hx456_2,hx456_3,hx456_4,hl456_1,hi456_1,hl456_2,hi456_2⟩:=at_T67 HR0_3.out a1_1 p456 q456
    cases e456
    replace hx456_0:=bc_ HB.out hx456_0
    replace hx456_1:=bc_ HB.out hx456_1
    replace hx456_2:=bc_ HB.out hx456_2
    replace hx456_3:=bc_ HB.out hx456_3
    replace hx456_4:=bc_ HB.out hx456_4
    have HR456_1:=Az.mk hi456_1
    have HC456_1:=Az.mk hl456_1
    clear hi456_1 hl456_1
    have HR456_2:=Az.mk hi456_2
    have HC456_2:=Az.mk hl456_2
    clear hi456_2 hl456_2
    replace p456:=eq_true p456
    replace q456:=eq_true q456
    go_wp2
    go_ret
    exact⟨by first|rfl|(simp [errW_none,errW_some] <;> rfl)|(simp [*,errW_none,errW_some] <;> rfl),by repeat (first|(with_reducible first|exact HB.out|apply bA_|apply bN_|apply bD_|refine bS_ ?_ GE454.out|refine bS_ ?_ GE455.out)|exact HB.out)⟩
   rw [if_pos c16] at H
   have c16b0:=beq_iff_eq.mpr c16
   have c16b1:=bne_eq_false_iff_eq.mpr c16
   have c16b2:(((rd_T67 l0_3 a1_1).f2).length == l1_6.length)=true:=by first|simpa using c16|(simp at c16 ⊢;omega)
   clear c16
   by_cases c17:0≤a2
   rotate_left
   ·rw [if_neg c17] at H
    exact absurd H (by simp)
   rw [if_pos c17] at H
   have c17b0:=decide_eq_true c17
   clear c17
   by_cases c18:a2 < (((rd_T67 l0_3 a1_1).f2).length:Int)
   rotate_left
   ·rw [if_neg c18] at H
    exact absurd H (by simp)
   rw [if_pos c18] at H
   have c18b0:=decide_eq_true c18
   clear c18
   obtain rfl:=Option.some.inj H
   have hnb19:=NB454_455.out
   have hnc19:=NB455_454.out
   obtain⟨hcz20_0,hcz20_1,hcz20_2,hcz20_3,hcz20_4,hfz20_0,hfz20_1,hfz20_2,hfz20_3,hfz20_4⟩:=cf5_ BK454.out
   obtain⟨hcz21_0,hcz21_1,hcz21_2,hcz21_3,hcz21_4,hcz21_5,hcz21_6,hfz21_0,hfz21_1,hfz21_2,hfz21_3,hfz21_4,hfz21_5,hfz21_6⟩:=cf7_ BK455.out
   have p456:0≤(a1_1:Int):=of_decide_eq_true (by assumption)
   have q456:a1_1 < (l0_3.length:Int):=of_decide_eq_true (by assumption)
   obtain⟨ad456,A456_1,c456_1,A456_2,c456_2,e456,hx456_0,hx456_1,hx456_2,hx456_3,hx456_4,hl456_1,hi456_1,hl456_2,hi456_2⟩:=at_T67 HR0_3.out a1_1 p456 q456
   cases e456
   replace hx456_0:=bc_ HB.out hx456_0
   replace hx456_1:=bc_ HB.out hx456_1
   replace hx456_2:=bc_ HB.out hx456_2
   replace hx456_3:=bc_ HB.out hx456_3
   replace hx456_4:=bc_ HB.out hx456_4
   have HR456_1:=Az.mk hi456_1
   have HC456_1:=Az.mk hl456_1
   clear hi456_1 hl456_1
   have HR456_2:=Az.mk hi456_2
   have HC456_2:=Az.mk hl456_2
   clear hi456_2 hl456_2
   replace p456:=eq_true p456
   replace q456:=eq_true q456
   have p457:0≤(a2:Int):=of_decide_eq_true (by assumption)
   have q457:a2 < (((rd_T67 l0_3 a1_1).f2).length:Int):=of_decide_eq_true (by assumption)
   obtain⟨ad457,e457,hx457_0⟩:=Kd.at_string HR456_2.out a2 p457 q457
   cases e457
   replace hx457_0:=bc_ HB.out hx457_0
   replace p457:=eq_true p457
   replace q457:=eq_true q457
   go_wp2
   go_ret
   exact⟨by first|rfl|(simp [errW_none,errW_some] <;> rfl)|(simp [*,errW_none,errW_some] <;> rfl),by repeat (first|(with_reducible first|exact HB.out|apply bA_|apply bN_|apply bD_|refine bS_ ?_ GE454.out|refine bS_ ?_ GE455.out)|exact HB.out)⟩
end Go.Proofs.Ytgdbcogbbghjaaa.Q
