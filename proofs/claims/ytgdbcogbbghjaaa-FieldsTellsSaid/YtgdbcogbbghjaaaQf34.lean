import Derived.Test.YtgdbcogbbghjaaaQ0
namespace Go.Proofs.Ytgdbcogbbghjaaa.Q
open Go.RowKit Go.Proofs.YtgdbcogbbghjaaaW.PrintWords Go.Proofs.YtgdbcogbbghjaaaW.PrintLast Go.Proofs.YtgdbcogbbghjaaaW.PrintMore
attribute [local go_sem] max2_int min2_int max_two min_two max_three min_three max_four min_four   -- for this text's walks alone
set_option linter.unusedVariables false
set_option linter.unusedSimpArgs false
def arboristref46_Symbol.j0:Nat→Int→Bool→List ByteArray→List ByteArray→List Int→List (S67)→List (S78)→Option (ByteArray)
 | 0,_,_,_,_,_,_,_=>none
 | k + 1,x1,x13,x213000,x213001,x213002,x213003,x213004=>if x13=true then(if 0≤x1 then(if x1 < (x213000.length:Int)then(some (rdOf ByteArray.empty x213000 x1))else(none))else(none))else(if x1 < 0 then(if x1 ≥ (wrap64 (-(x213001.length:Int)))then(if 0≤(wrap64 ((-1) - x1))then(if (wrap64 ((-1) - x1)) < (x213001.length:Int)then(some (rdOf ByteArray.empty x213001 (wrap64 ((-1) - x1))))else(none))else(none))else(some (⟨#[]⟩:ByteArray)))else(some (⟨#[]⟩:ByteArray)))
def arboristref46_Symbol.f (k:Nat)(l0_0:List ByteArray)(l0_1:List ByteArray)(l0_2:List Int)(l0_3:List (S67))(l0_4:List (S78))(a1:Int):Option (ByteArray):=if a1 ≥ 0 then(arboristref46_Symbol.j0 k a1 (decide (a1 < (l0_0.length:Int))) l0_0 l0_1 l0_2 l0_3 l0_4)else(arboristref46_Symbol.j0 k a1 false l0_0 l0_1 l0_2 l0_3 l0_4)
set_option maxHeartbeats 8000000 in
set_option maxRecDepth 100000 in
theorem arboristref46_Symbol.calls (k:Nat)(A0_0:Option Addr)(c0_0:Nat)(l0_0:List ByteArray)(A0_1:Option Addr)(c0_1:Nat)(l0_1:List ByteArray)(A0_2:Option Addr)(c0_2:Nat)(l0_2:List Int)(A0_3:Option Addr)(c0_3:Nat)(l0_3:List (S67))(A0_4:Option Addr)(c0_4:Nat)(l0_4:List (S78))(a1:Int)(r:ByteArray)(w:World)(hr0_0:Kd.C Kd.string w A0_0 l0_0.length l0_0)(hc0_0:l0_0.length≤c0_0)(hr0_1:Kd.C Kd.string w A0_1 l0_1.length l0_1)(hc0_1:l0_1.length≤c0_1)(hr0_2:Kd.C (Kd.int .i64) w A0_2 l0_2.length l0_2)(hc0_2:l0_2.length≤c0_2)(hr0_3:Kd.C k67 w A0_3 l0_3.length l0_3)(hc0_3:l0_3.length≤c0_3)(hr0_4:Kd.C k78 w A0_4 l0_4.length l0_4)(hc0_4:l0_4.length≤c0_4)(h:arboristref46_Symbol.f k l0_0 l0_1 l0_2 l0_3 l0_4 a1=some r) :
  Calls Try.prog 34 #[.agg #[.slice A0_0 l0_0.length c0_0,.slice A0_1 l0_1.length c0_1,.slice A0_2 l0_2.length c0_2,.slice A0_3 l0_3.length c0_3,.slice A0_4 l0_4.length c0_4],.int .i64 a1] w fun e w'=>e=.returned (.string r)∧Below w.heap.size w w':=by
 have hu27:=Try.underlying27
 have HR0_0:=Az.mk hr0_0
 have HC0_0:=Az.mk hc0_0
 clear hr0_0 hc0_0
 have HR0_1:=Az.mk hr0_1
 have HC0_1:=Az.mk hc0_1
 clear hr0_1 hc0_1
 have HR0_2:=Az.mk hr0_2
 have HC0_2:=Az.mk hc0_2
 clear hr0_2 hc0_2
 have HR0_3:=Az.mk hr0_3
 have HC0_3:=Az.mk hc0_3
 clear hr0_3 hc0_3
 have HR0_4:=Az.mk hr0_4
 have HC0_4:=Az.mk hc0_4
 clear hr0_4 hc0_4
 have HB:=Az.mk (Below.refl w.heap.size w)
 have H:(if a1 ≥ 0 then(arboristref46_Symbol.j0 k a1 (decide (a1 < (l0_0.length:Int))) l0_0 l0_1 l0_2 l0_3 l0_4)else(arboristref46_Symbol.j0 k a1 false l0_0 l0_1 l0_2 l0_3 l0_4))=some r:=h
 clear h
 have HC3:=Az.mk H
 clear H
 go_enter Try.func34,Try.ntmps34
 go_upto_region 1 with(first|((with_reducible refine gate_dst (N:=2) rfl ?_);(try (refine gate_guard (by rfl) ?_;dsimp only));refine box_event ?hg (N:=2) ?hd (cs:=#[.slice A0_0 l0_0.length c0_0,.slice A0_1 l0_1.length c0_1,.slice A0_2 l0_2.length c0_2,.slice A0_3 l0_3.length c0_3,.slice A0_4 l0_4.length c0_4]) (t:=27) ?hr ?_;(case hd=>rfl);(case hg=>rfl);(case hr=>first|(go_simp;done)|(go_simp;rfl));intro gb212 hg w4 hbox hb;have n0_:=Az.mk (bT_ (by repeat (first|(with_reducible first|exact HB.out|apply bA_|apply bN_|apply bD_)|exact HB.out)) hb);have n1_:=Az.mk (hbox);have n2_:=Az.mk ((by rw [hg];exact(bZ_ (by repeat (first|(with_reducible first|exact HB.out|apply bA_|apply bN_|apply bD_)|exact HB.out))):w.heap.size≤gb212));have n3_:=Az.mk ((by rw [hg];exact(bZ_ (by repeat (first|(with_reducible first|exact HB.out|apply bA_|apply bN_|apply bD_)|exact HB.out))):w.heap.size≤gb212));clear HB;have HB:=n0_;have BK212:=n1_;have GW212:=n2_;have GE212:=n3_;clear n0_ n1_ n2_ n3_;clear hb hbox hg))
 (try simp only [Act.put,sT_,s0_,sC_])
 go_cut [13] (fun v13 wc=>∃ (kq:Nat) (x13_2:Bool),v13=.bool x13_2∧Az (arboristref46_Symbol.j0 kq a1 x13_2 l0_0 l0_1 l0_2 l0_3 l0_4=some r)∧Az (kq≤k)∧Az (wc.heap[gb212]?=some (.cells #[(.slice A0_0 l0_0.length c0_0),(.slice A0_1 l0_1.length c0_1),(.slice A0_2 l0_2.length c0_2),(.slice A0_3 l0_3.length c0_3),(.slice A0_4 l0_4.length c0_4)] 27 (0,0)))∧Az (Below w.heap.size w wc))
 case first =>
  have H:=HC3.out
  clear HC3
  by_cases c5:a1 ≥ 0
  ·rw [if_pos c5] at H
   have c5b0:decide (0≤a1)=true:=decide_eq_true c5
   clear c5
   (first|rw [c5b0]|(simp only [i64_w,i32_w];rw [c5b0])|skip)
   have H':=Az.mk H
   clear H
   have hcz6_0:w4.cell? ⟨gb212,0,none⟩=some (.slice A0_0 l0_0.length c0_0):=(bC_ BK212.out 0).trans rfl
   have hcz6_1:w4.cell? ⟨gb212,1,none⟩=some (.slice A0_1 l0_1.length c0_1):=(bC_ BK212.out 1).trans rfl
   have hcz6_2:w4.cell? ⟨gb212,2,none⟩=some (.slice A0_2 l0_2.length c0_2):=(bC_ BK212.out 2).trans rfl
   have hcz6_3:w4.cell? ⟨gb212,3,none⟩=some (.slice A0_3 l0_3.length c0_3):=(bC_ BK212.out 3).trans rfl
   have hcz6_4:w4.cell? ⟨gb212,4,none⟩=some (.slice A0_4 l0_4.length c0_4):=(bC_ BK212.out 4).trans rfl
   have hfz6_0:=bF_ BK212.out 0
   have hfz6_1:=bF_ BK212.out 1
   have hfz6_2:=bF_ BK212.out 2
   have hfz6_3:=bF_ BK212.out 3
   have hfz6_4:=bF_ BK212.out 4
   go_wp2
   go_meet
   case rel=>exact⟨_,(decide (a1 < (l0_0.length:Int))),(by first|rfl|(simp;done)|(simp [*];done)|(refine congrArg Value.bool ?_;exact isE_ _)),H',⟨by first|omega|exact Nat.le_refl _⟩,⟨by(with_reducible repeat (first|refine kN_ ?_ _|refine kD_ ?_|refine kA_ ?_ _));exact BK212.out⟩,⟨by repeat (first|(with_reducible first|exact HB.out|apply bA_|apply bN_|apply bD_|refine bS_ ?_ GE212.out)|exact HB.out)⟩⟩
  ·rw [if_neg c5] at H
   have c5b0:decide (0≤a1)=false:=decide_eq_false c5
   clear c5
   (first|rw [c5b0]|(simp only [i64_w,i32_w];rw [c5b0])|skip)
   have H':=Az.mk H
   clear H
   go_wp2
   go_meet
   case rel=>exact⟨_,(false),(by first|rfl|(simp;done)|(simp [*];done)|(refine congrArg Value.bool ?_;exact isE_ _)),H',⟨by first|omega|exact Nat.le_refl _⟩,⟨by(with_reducible repeat (first|refine kN_ ?_ _|refine kD_ ?_|refine kA_ ?_ _));exact BK212.out⟩,⟨by repeat (first|(with_reducible first|exact HB.out|apply bA_|apply bN_|apply bD_|refine bS_ ?_ GE212.out)|exact HB.out)⟩⟩
 case rest =>
  clear HC3
  try clear p2
  try clear c3
  try clear c5
  try clear c5b0
  try clear hcz6_0
  try clear hcz6_1
  try clear hcz6_2
  try clear hcz6_3
  try clear hcz6_4
  try clear hfz6_0
  try clear hfz6_1
  try clear hfz6_2
  try clear hfz6_3
  try clear hfz6_4
  obtain⟨kq,x13_2,rfl,HA,HJ2,BK212,HB⟩:=hcut
  cases kq with
  | zero=>exact absurd HA.out (by simp [arboristref46_Symbol.j0])
  | succ kj2 =>
   have H:=HA.out
   clear HA
   simp only [arboristref46_Symbol.j0] at H
   by_cases c7:x13_2=true
   ·subst c7
    have H1:(if 0≤a1 then(if a1 < (l0_0.length:Int)then(some (rdOf ByteArray.empty l0_0 a1))else(none))else(none))=some r:=by rw [if_pos rfl] at H;exact H
    clear H
    have H:=H1
    clear H1
    by_cases c8:0≤a1
    ·rw [if_pos c8] at H
     have c8b0:decide (0≤a1)=true:=decide_eq_true c8
     clear c8
     by_cases c9:a1 < (l0_0.length:Int)
     ·rw [if_pos c9] at H
      have c9b0:decide (a1 < (l0_0.length:Int))=true:=decide_eq_true c9
      clear c9
      obtain rfl:=Option.some.inj H
      have hcz10_0:wc.cell? ⟨gb212,0,none⟩=some (.slice A0_0 l0_0.length c0_0):=(bC_ BK212.out 0).trans rfl
      have hcz10_1:wc.cell? ⟨gb212,1,none⟩=some (.slice A0_1 l0_1.length c0_1):=(bC_ BK212.out 1).trans rfl
      have hcz10_2:wc.cell? ⟨gb212,2,none⟩=some (.slice A0_2 l0_2.length c0_2):=(bC_ BK212.out 2).trans rfl
      have hcz10_3:wc.cell? ⟨gb212,3,none⟩=some (.slice A0_3 l0_3.length c0_3):=(bC_ BK212.out 3).trans rfl
      have hcz10_4:wc.cell? ⟨gb212,4,none⟩=some (.slice A0_4 l0_4.length c0_4):=(bC_ BK212.out 4).trans rfl
      have hfz10_0:=bF_ BK212.out 0
      have hfz10_1:=bF_ BK212.out 1
      have hfz10_2:=bF_ BK212.out 2
      have hfz10_3:=bF_ BK212.out 3
      have hfz10_4:=bF_ BK212.out 4
      have p213:0≤(a1:Int):=of_decide_eq_true (by first|(with_reducible assumption)|assumption)
      have q213:a1 < (l0_0.length:Int):=of_decide_eq_true (by first|(with_reducible assumption)|assumption)
      obtain⟨ad213,e213,hx213_0⟩:=Kd.at_string HR0_0.out a1 p213 q213
      cases e213
      replace hx213_0:=(HB.out.cell (bL_ w _ hx213_0)).trans hx213_0
      replace p213:=eq_true p213
      replace q213:=eq_true q213
      go_wp2
      go_ret
      exact⟨by first|rfl|(simp [errW_none,errW_some] <;> rfl)|(simp [*,errW_none,errW_some] <;> rfl),by repeat (first|(with_reducible first|exact HB.out|apply bA_|apply bN_|apply bD_|refine bS_ ?_ GE212.out)|exact HB.out)⟩
     ·rw [if_neg c9] at H
      exact absurd H (by simp)
    ·rw [if_neg c8] at H
     exact absurd H (by simp)
   ·replace c7:=Bool.eq_false_iff.mpr c7
    subst c7
    have H1:(if a1 < 0 then(if a1 ≥ (wrap64 (-(l0_1.length:Int)))then(if 0≤(wrap64 ((-1) - a1))then(if (wrap64 ((-1) - a1)) < (l0_1.length:Int)then(some (rdOf ByteArray.empty l0_1 (wrap64 ((-1) - a1))))else(none))else(none))else(some (⟨#[]⟩:ByteArray)))else(some (⟨#[]⟩:ByteArray)))=some r:=by rw [if_neg (show ¬ (false=true) by decide)] at H;exact H
    clear H
    have H:=H1
    clear H1
    by_cases c11:a1 < 0
    ·rw [if_pos c11] at H
     have c11b0:decide (a1 < 0)=true:=decide_eq_true c11
     clear c11
     by_cases c12:a1 ≥ (wrap64 (-(l0_1.length:Int)))
     ·rw [if_pos c12] at H
      have c12b0:decide ((wrap64 (-(l0_1.length:Int)))≤a1)=true:=decide_eq_true c12
      clear c12
      obtain⟨ji13,hji13⟩:∃ j_:Int,(wrap64 ((-1) - a1))=j_:=⟨_,rfl⟩
      replace H:(if 0≤(ji13)then(if (ji13) < (l0_1.length:Int)then(some (rdOf ByteArray.empty l0_1 (ji13)))else(none))else(none))=some r:=by first|(rw [hji13] at H;exact H)|(simp only [hji13] at H ⊢;exact H)
      have hji13w:(IntKind.i64.wrap ((-1) - a1))=ji13:=(i64_w _).trans hji13
      by_cases c14:0≤(ji13)
      ·rw [if_pos c14] at H
       have c14b0:decide (0≤(ji13))=true:=decide_eq_true c14
       clear c14
       by_cases c15:(ji13) < (l0_1.length:Int)
       ·rw [if_pos c15] at H
        have c15b0:decide ((ji13) < (l0_1.length:Int))=true:=decide_eq_true c15
        clear c15
        obtain rfl:=Option.some.inj H
        have hcz16_0:wc.cell? ⟨gb212,0,none⟩=some (.slice A0_0 l0_0.length c0_0):=(bC_ BK212.out 0).trans rfl
        have hcz16_1:wc.cell? ⟨gb212,1,none⟩=some (.slice A0_1 l0_1.length c0_1):=(bC_ BK212.out 1).trans rfl
        have hcz16_2:wc.cell? ⟨gb212,2,none⟩=some (.slice A0_2 l0_2.length c0_2):=(bC_ BK212.out 2).trans rfl
        have hcz16_3:wc.cell? ⟨gb212,3,none⟩=some (.slice A0_3 l0_3.length c0_3):=(bC_ BK212.out 3).trans rfl
        have hcz16_4:wc.cell? ⟨gb212,4,none⟩=some (.slice A0_4 l0_4.length c0_4):=(bC_ BK212.out 4).trans rfl
        have hfz16_0:=bF_ BK212.out 0
        have hfz16_1:=bF_ BK212.out 1
        have hfz16_2:=bF_ BK212.out 2
        have hfz16_3:=bF_ BK212.out 3
        have hfz16_4:=bF_ BK212.out 4
        have p214:0≤((ji13):Int):=of_decide_eq_true (by first|(with_reducible assumption)|assumption)
        have q214:(ji13) < (l0_1.length:Int):=of_decide_eq_true (by first|(with_reducible assumption)|assumption)
        obtain⟨ad214,e214,hx214_0⟩:=Kd.at_string HR0_1.out (ji13) p214 q214
        cases e214
        replace hx214_0:=(HB.out.cell (bL_ w _ hx214_0)).trans hx214_0
        replace p214:=eq_true p214
        replace q214:=eq_true q214
        go_wp2
        go_ret
        exact⟨by first|rfl|(simp [errW_none,errW_some] <;> rfl)|(simp only [← hji13];first|rfl|(simp [errW_none,errW_some] <;> rfl))|(simp [*,errW_none,errW_some] <;> rfl),by repeat (first|(with_reducible first|exact HB.out|apply bA_|apply bN_|apply bD_|refine bS_ ?_ GE212.out)|exact HB.out)⟩
       ·rw [if_neg c15] at H
        exact absurd H (by simp)
      ·rw [if_neg c14] at H
       exact absurd H (by simp)
     ·rw [if_neg c12] at H
      have c12b0:decide ((wrap64 (-(l0_1.length:Int)))≤a1)=false:=decide_eq_false c12
      clear c12
      obtain rfl:=Option.some.inj H
      have hcz17_0:wc.cell? ⟨gb212,0,none⟩=some (.slice A0_0 l0_0.length c0_0):=(bC_ BK212.out 0).trans rfl
      have hcz17_1:wc.cell? ⟨gb212,1,none⟩=some (.slice A0_1 l0_1.length c0_1):=(bC_ BK212.out 1).trans rfl
      have hcz17_2:wc.cell? ⟨gb212,2,none⟩=some (.slice A0_2 l0_2.length c0_2):=(bC_ BK212.out 2).trans rfl
      have hcz17_3:wc.cell? ⟨gb212,3,none⟩=some (.slice A0_3 l0_3.length c0_3):=(bC_ BK212.out 3).trans rfl
      have hcz17_4:wc.cell? ⟨gb212,4,none⟩=some (.slice A0_4 l0_4.length c0_4):=(bC_ BK212.out 4).trans rfl
      have hfz17_0:=bF_ BK212.out 0
      have hfz17_1:=bF_ BK212.out 1
      have hfz17_2:=bF_ BK212.out 2
      have hfz17_3:=bF_ BK212.out 3
      have hfz17_4:=bF_ BK212.out 4
      go_wp2
      go_ret
      exact⟨by first|rfl|(simp [errW_none,errW_some] <;> rfl)|(simp [*,errW_none,errW_some] <;> rfl),by repeat (first|(with_reducible first|exact HB.out|apply bA_|apply bN_|apply bD_|refine bS_ ?_ GE212.out)|exact HB.out)⟩
    ·rw [if_neg c11] at H
     have c11b0:decide (a1 < 0)=false:=decide_eq_false c11
     clear c11
     obtain rfl:=Option.some.inj H
     go_wp2
     go_ret
     exact⟨by first|rfl|(simp [errW_none,errW_some] <;> rfl)|(simp [*,errW_none,errW_some] <;> rfl),by repeat (first|(with_reducible first|exact HB.out|apply bA_|apply bN_|apply bD_|refine bS_ ?_ GE212.out)|exact HB.out)⟩
end Go.Proofs.Ytgdbcogbbghjaaa.Q
