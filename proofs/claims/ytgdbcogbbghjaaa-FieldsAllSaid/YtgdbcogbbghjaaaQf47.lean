import Derived.Test.YtgdbcogbbghjaaaQ0
namespace Go.Proofs.Ytgdbcogbbghjaaa.Q
open Go.RowKit Go.Proofs.YtgdbcogbbghjaaaW.PrintWords Go.Proofs.YtgdbcogbbghjaaaW.PrintLast Go.Proofs.YtgdbcogbbghjaaaW.PrintMore
attribute [local go_sem] max2_int min2_int max_two min_two max_three min_three max_four min_four   -- for this text's walks alone
set_option linter.unusedVariables false
set_option linter.unusedSimpArgs false
mutual
def arboristref15_twice.l0:Nat→List ByteArray→Int→Option (Bool)
 | 0,_,_=>none
 | k + 1,x0,x3=>if x3 < (x0.length:Int)then(arboristref15_twice.l1 k x0 x3 0)else(some false)
def arboristref15_twice.l1:Nat→List ByteArray→Int→Int→Option (Bool)
 | 0,_,_,_=>none
 | k + 1,x0,x3,x4=>if x4 < x3 then(if 0≤x4 then(if x4 < (x0.length:Int)then(if 0≤x3 then(if x3 < (x0.length:Int)then(if (rdOf ByteArray.empty x0 x4).toList=(rdOf ByteArray.empty x0 x3).toList then(some true)else(arboristref15_twice.l1 k x0 x3 (wrap64 (x4 + 1))))else(none))else(none))else(none))else(none))else(arboristref15_twice.l0 k x0 (wrap64 (x3 + 1)))
end
def arboristref15_twice.f (k:Nat)(l0:List ByteArray):Option (Bool):=arboristref15_twice.l0 k l0 0
set_option maxHeartbeats 8000000 in
set_option maxRecDepth 100000 in
theorem arboristref15_twice.calls (k:Nat)(A0:Option Addr)(c0:Nat)(l0:List ByteArray)(r:Bool)(w:World)(hr0:Kd.C Kd.string w A0 l0.length l0)(hc0:l0.length≤c0)(h:arboristref15_twice.f k l0=some r) :
  Calls Try.prog 47 #[.slice A0 l0.length c0] w fun e w'=>e=.returned (.bool r)∧Drawn0 w w':=by
 have HR0:=Az.mk hr0
 have HC0:=Az.mk hc0
 clear hr0 hc0
 have H:(arboristref15_twice.l0 k l0 0)=some r:=h
 clear h
 have H':=Az.mk H
 clear H
 go_enter Try.func47,Try.ntmps47
 go_wp2
 repeat (go_quiet (fail);try go_wp2)
 go_loopg [3] k (fun kq v3 w'=>∃ (x3_1:Int),v3=.int .i64 x3_1∧Az (arboristref15_twice.l0 kq l0 x3_1=some r)∧Az (kq≤k)∧Drawn0 w w')
 case atStart=>exact⟨(0),(by first|rfl|(simp;done)|(simp [*];done)|(refine congrArg Value.bool ?_;exact isE_ _)),H',⟨Nat.le_refl _⟩,by repeat (first|exact Drawn0.refl _|apply Drawn0.step)⟩
 case round =>
  clear H'
  obtain⟨x3_1,rfl,HA,HK1,⟨m1,rfl⟩⟩:=hrel
  cases gk with
  | zero=>exact absurd HA.out (by simp [arboristref15_twice.l0])
  | succ k1 =>
   have H:=HA.out
   clear HA
   simp only [arboristref15_twice.l0] at H
   by_cases c2:x3_1 < (l0.length:Int)
   rotate_left
   ·rw [if_neg c2] at H
    have c2b0:=decide_eq_false c2
    clear c2
    obtain rfl:=Option.some.inj H
    go_wp2
    repeat (go_quiet (fail);try go_wp2)
    go_ret
    exact⟨by first|rfl|(simp;done)|(simp [*];done)|(refine congrArg Value.bool ?_;exact isE_ _),by repeat (first|exact Drawn0.refl _|apply Drawn0.step)⟩
   rw [if_pos c2] at H
   have c2b0:=decide_eq_true c2
   clear c2
   have H':=Az.mk H
   clear H
   go_wp2
   repeat (go_quiet (fail);try go_wp2)
   go_loopg [4] k1 (fun kq v4 w'=>∃ (x4_2:Int),v4=.int .i64 x4_2∧Az (arboristref15_twice.l1 kq l0 x3_1 x4_2=some r)∧Az (kq≤k1)∧Drawn0 w w')
   case atStart=>exact⟨(0),(by first|rfl|(simp;done)|(simp [*];done)|(refine congrArg Value.bool ?_;exact isE_ _)),H',⟨Nat.le_refl _⟩,by repeat (first|exact Drawn0.refl _|apply Drawn0.step)⟩
   case round =>
    clear H'
    try clear c2
    try clear c2b0
    try clear p2
    obtain⟨x4_2,rfl,HA,HK2,⟨m2,rfl⟩⟩:=hrel
    cases gk with
    | zero=>exact absurd HA.out (by simp [arboristref15_twice.l1])
    | succ k2 =>
     have H:=HA.out
     clear HA
     simp only [arboristref15_twice.l1] at H
     by_cases c3:x4_2 < x3_1
     rotate_left
     ·rw [if_neg c3] at H
      have c3b0:=decide_eq_false c3
      clear c3
      have H':=Az.mk H
      clear H
      go_wp2
      repeat (go_quiet (fail);try go_wp2)
      go_roundg k2
      case measure=>have:=HK1.out;have:=HK2.out;omega
      case rel=>exact⟨(wrap64 (x3_1 + 1)),(by first|rfl|(simp;done)|(simp [*];done)|(refine congrArg Value.bool ?_;exact isE_ _)),H',⟨by have:=HK1.out;have:=HK2.out;omega⟩,by repeat (first|exact Drawn0.refl _|apply Drawn0.step)⟩
     rw [if_pos c3] at H
     have c3b0:=decide_eq_true c3
     clear c3
     by_cases c4:0≤x4_2
     rotate_left
     ·rw [if_neg c4] at H
      exact absurd H (by simp)
     rw [if_pos c4] at H
     have c4b0:=decide_eq_true c4
     clear c4
     by_cases c5:x4_2 < (l0.length:Int)
     rotate_left
     ·rw [if_neg c5] at H
      exact absurd H (by simp)
     rw [if_pos c5] at H
     have c5b0:=decide_eq_true c5
     clear c5
     by_cases c6:0≤x3_1
     rotate_left
     ·rw [if_neg c6] at H
      exact absurd H (by simp)
     rw [if_pos c6] at H
     have c6b0:=decide_eq_true c6
     clear c6
     by_cases c7:x3_1 < (l0.length:Int)
     rotate_left
     ·rw [if_neg c7] at H
      exact absurd H (by simp)
     rw [if_pos c7] at H
     have c7b0:=decide_eq_true c7
     clear c7
     by_cases c8:(rdOf ByteArray.empty l0 x4_2).toList=(rdOf ByteArray.empty l0 x3_1).toList
     ·rw [if_pos c8] at H
      have c8b0:=beq_iff_eq.mpr c8
      have c8b1:=bne_eq_false_iff_eq.mpr c8
      clear c8
      obtain rfl:=Option.some.inj H
      have p350:0≤(x4_2:Int):=of_decide_eq_true (by assumption)
      have q350:x4_2 < (l0.length:Int):=of_decide_eq_true (by assumption)
      obtain⟨ad350,e350,hx350_0⟩:=Kd.at_string HR0.out x4_2 p350 q350
      cases e350
      replace p350:=eq_true p350
      replace q350:=eq_true q350
      have p351:0≤(x3_1:Int):=of_decide_eq_true (by assumption)
      have q351:x3_1 < (l0.length:Int):=of_decide_eq_true (by assumption)
      obtain⟨ad351,e351,hx351_0⟩:=Kd.at_string HR0.out x3_1 p351 q351
      obtain rfl:ad350=ad351:=(by injection e351)
      replace p351:=eq_true p351
      replace q351:=eq_true q351
      go_wp2
      repeat (go_quiet (fail);try go_wp2)
      go_ret
      exact⟨by first|rfl|(simp;done)|(simp [*];done)|(refine congrArg Value.bool ?_;exact isE_ _),by repeat (first|exact Drawn0.refl _|apply Drawn0.step)⟩
     rw [if_neg c8] at H
     have c8b0:=beq_eq_false_iff_ne.mpr c8
     have c8b1:=bne_iff_ne.mpr c8
     have H':=Az.mk H
     clear H
     have p350:0≤(x4_2:Int):=of_decide_eq_true (by assumption)
     have q350:x4_2 < (l0.length:Int):=of_decide_eq_true (by assumption)
     obtain⟨ad350,e350,hx350_0⟩:=Kd.at_string HR0.out x4_2 p350 q350
     cases e350
     replace p350:=eq_true p350
     replace q350:=eq_true q350
     have p351:0≤(x3_1:Int):=of_decide_eq_true (by assumption)
     have q351:x3_1 < (l0.length:Int):=of_decide_eq_true (by assumption)
     obtain⟨ad351,e351,hx351_0⟩:=Kd.at_string HR0.out x3_1 p351 q351
     obtain rfl:ad350=ad351:=(by injection e351)
     replace p351:=eq_true p351
     replace q351:=eq_true q351
     go_wp2
     repeat (go_quiet (fail);try go_wp2)
     go_roundg k2
     case measure=>have:=HK1.out;have:=HK2.out;omega
     case rel=>exact⟨(wrap64 (x4_2 + 1)),(by first|rfl|(simp;done)|(simp [*];done)|(refine congrArg Value.bool ?_;exact isE_ _)),H',⟨by have:=HK1.out;have:=HK2.out;omega⟩,by repeat (first|exact Drawn0.refl _|apply Drawn0.step)⟩
end Go.Proofs.Ytgdbcogbbghjaaa.Q
