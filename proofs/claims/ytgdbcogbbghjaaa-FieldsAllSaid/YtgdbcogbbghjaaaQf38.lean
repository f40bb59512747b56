import Derived.Test.YtgdbcogbbghjaaaQ0
namespace Go.Proofs.Ytgdbcogbbghjaaa.Q
open Go.RowKit Go.Proofs.YtgdbcogbbghjaaaW.PrintWords Go.Proofs.YtgdbcogbbghjaaaW.PrintLast Go.Proofs.YtgdbcogbbghjaaaW.PrintMore
attribute [local go_sem] max2_int min2_int max_two min_two max_three min_three max_four min_four   -- for this text's walks alone
set_option linter.unusedVariables false
set_option linter.unusedSimpArgs false
mutual
def arboristref42_Size.l0:Nat→Int→Int→Int→Int→Int→Int→List (S53)→ByteArray→List (S32)→Option (Int)
 | 0,_,_,_,_,_,_,_,_,_=>none
 | k + 1,x3,x4,x383000,x383001,x383002,x383003,x383004,x383005,x383006=>if x4 < (x383006.length:Int)then(if 0≤x4 then((arboristref42_Size.f k ((rd_T32 x383006 x4).f0) ((rd_T32 x383006 x4).f1) ((rd_T32 x383006 x4).f2) ((rd_T32 x383006 x4).f3) ((rd_T32 x383006 x4).f4) ((rd_T32 x383006 x4).f5) ((rd_T32 x383006 x4).f6)).bind fun t384=>(arboristref42_Size.l0 k (wrap64 (x3 + t384)) (wrap64 (x4 + 1)) x383000 x383001 x383002 x383003 x383004 x383005 x383006))else(none))else(some x3)
def arboristref42_Size.f:Nat→Int→Int→Int→Int→List (S53)→ByteArray→List (S32)→Option (Int)
 | 0,_,_,_,_,_,_,_=>none
 | k + 1,a0_0,a0_1,a0_2,a0_3,l0_4,a0_5,l0_6=>arboristref42_Size.l0 k 1 0 a0_0 a0_1 a0_2 a0_3 l0_4 a0_5 l0_6
end
set_option maxHeartbeats 8000000 in
set_option maxRecDepth 100000 in
theorem arboristref42_Size.calls (k:Nat):∀ (a0_0:Int)(a0_1:Int)(a0_2:Int)(a0_3:Int)(A0_4:Option Addr)(c0_4:Nat)(l0_4:List (S53))(a0_5:ByteArray)(A0_6:Option Addr)(c0_6:Nat)(l0_6:List (S32))(r:Int)(w:World)(hr0_4:Kd.C k53 w A0_4 l0_4.length l0_4)(hc0_4:l0_4.length≤c0_4)(hr0_6:Kd.C k32 w A0_6 l0_6.length l0_6)(hc0_6:l0_6.length≤c0_6)(h:arboristref42_Size.f k a0_0 a0_1 a0_2 a0_3 l0_4 a0_5 l0_6=some r),
  Calls Try.prog 38 #[.agg #[.int .i64 a0_0,.int .i64 a0_1,.int .i64 a0_2,.int .i64 a0_3,.slice A0_4 l0_4.length c0_4,.string a0_5,.slice A0_6 l0_6.length c0_6]] w fun e w'=>e=.returned (.int .i64 r)∧Below w.heap.size w w':=by
 induction k using Nat.strongRecOn with
 | _ k ih =>
 intro a0_0 a0_1 a0_2 a0_3 A0_4 c0_4 l0_4 a0_5 A0_6 c0_6 l0_6 r w hr0_4 hc0_4 hr0_6 hc0_6 h
 cases k with
 | zero=>exact absurd h (by simp [arboristref42_Size.f])
 | succ k =>
 simp only [arboristref42_Size.f] at h
 have hu32:=Try.underlying32
 have HR0_4:=Az.mk hr0_4
 have HC0_4:=Az.mk hc0_4
 clear hr0_4 hc0_4
 have HR0_6:=Az.mk hr0_6
 have HC0_6:=Az.mk hc0_6
 clear hr0_6 hc0_6
 have HB:=Az.mk (Below.refl w.heap.size w)
 have H:(arboristref42_Size.l0 k 1 0 a0_0 a0_1 a0_2 a0_3 l0_4 a0_5 l0_6)=some r:=h
 clear h
 have H':=Az.mk H
 clear H
 go_enter Try.func38,Try.ntmps38
 go_wp2_with (first|((with_reducible refine gate_dst (N:=1) rfl ?_);refine box_event ?hg (N:=1) ?hd (cs:=#[.int .i64 a0_0,.int .i64 a0_1,.int .i64 a0_2,.int .i64 a0_3,.slice A0_4 l0_4.length c0_4,.string a0_5,.slice A0_6 l0_6.length c0_6]) (t:=32) ?hr ?_;(case hd=>rfl);(case hg=>rfl);(case hr=>first|(go_simp;done)|(go_simp;rfl));intro gb382 hg w2 hbox hb;have n0_:=Az.mk (bT_ HB.out hb);have n1_:=Az.mk (hbox);have n2_:=Az.mk ((szl_ HB.out hg));have n3_:=Az.mk ((szl_ HB.out hg));clear HB;have HB:=n0_;have BK382:=n1_;have GW382:=n2_;have GE382:=n3_;clear n0_ n1_ n2_ n3_;clear hb hbox hg))
 go_loopg [3,4] k (fun kq v3 v4 w'=>∃ (x3_1:Int) (x4_1:Int),v3=.int .i64 x3_1∧v4=.int .i64 x4_1∧Az (arboristref42_Size.l0 kq x3_1 x4_1 a0_0 a0_1 a0_2 a0_3 l0_4 a0_5 l0_6=some r)∧Az (kq≤k)∧Az (w'.heap[gb382]?=some (.cells #[.int .i64 a0_0,.int .i64 a0_1,.int .i64 a0_2,.int .i64 a0_3,(.slice A0_4 l0_4.length c0_4),.string a0_5,(.slice A0_6 l0_6.length c0_6)] 32 (0,0)))∧Az (Below w.heap.size w w'))
 case atStart=>exact⟨(1),(0),(by first|rfl|(simp;done)|(simp [*];done)|(refine congrArg Value.bool ?_;exact isE_ _)),(by first|rfl|(simp;done)|(simp [*];done)|(refine congrArg Value.bool ?_;exact isE_ _)),H',⟨Nat.le_refl _⟩,⟨by(with_reducible repeat (first|refine kN_ ?_ _|refine kD_ ?_|refine kA_ ?_ _));exact BK382.out⟩,⟨by repeat (first|(with_reducible first|exact HB.out|apply bA_|apply bN_|apply bD_|refine bS_ ?_ GE382.out)|exact HB.out)⟩⟩
 case round =>
  clear H'
  try clear p2
  obtain⟨x3_1,x4_1,rfl,rfl,HA,HK1,BK382,HB⟩:=hrel
  cases gk with
  | zero=>exact absurd HA.out (by simp [arboristref42_Size.l0])
  | succ k1 =>
   have H:=HA.out
   clear HA
   simp only [arboristref42_Size.l0] at H
   by_cases c3:x4_1 < (l0_6.length:Int)
   rotate_left
   ·rw [if_neg c3] at H
    have c3b0:=decide_eq_false c3
    clear c3
    obtain rfl:=Option.some.inj H
    obtain⟨hcz8_0,hcz8_1,hcz8_2,hcz8_3,hcz8_4,hcz8_5,hcz8_6,hfz8_0,hfz8_1,hfz8_2,hfz8_3,hfz8_4,hfz8_5,hfz8_6⟩:=cf7_ BK382.out
    go_wp2
    go_ret
    exact⟨by first|rfl|(simp [errW_none,errW_some] <;> rfl)|(simp [*,errW_none,errW_some] <;> rfl),by repeat (first|(with_reducible first|exact HB.out|apply bA_|apply bN_|apply bD_|refine bS_ ?_ GE382.out)|exact HB.out)⟩
   rw [if_pos c3] at H
   have c3b0:=decide_eq_true c3
   clear c3
   by_cases c4:0≤x4_1
   rotate_left
   ·rw [if_neg c4] at H
    exact absurd H (by simp)
   rw [if_pos c4] at H
   have c4b0:=decide_eq_true c4
   clear c4
   replace H:=Option.bind_eq_some_iff.mp H
   obtain⟨t384,A50,H⟩:=H
   replace H:(arboristref42_Size.l0 k1 (wrap64 (x3_1 + t384)) (wrap64 (x4_1 + 1)) a0_0 a0_1 a0_2 a0_3 l0_4 a0_5 l0_6)=some r:=H
   have A5:=Az.mk A50
   clear A50
   have H':=Az.mk H
   clear H
   obtain⟨hcz6_0,hcz6_1,hcz6_2,hcz6_3,hcz6_4,hcz6_5,hcz6_6,hfz6_0,hfz6_1,hfz6_2,hfz6_3,hfz6_4,hfz6_5,hfz6_6⟩:=cf7_ BK382.out
   have p383:0≤(x4_1:Int):=of_decide_eq_true (by assumption)
   have q383:x4_1 < (l0_6.length:Int):=of_decide_eq_true (by assumption)
   obtain⟨ad383,A383_4,c383_4,A383_6,c383_6,e383,hx383_0,hx383_1,hx383_2,hx383_3,hx383_4,hx383_5,hx383_6,hl383_4,hi383_4,hl383_6,hi383_6⟩:=at_T32 HR0_6.out x4_1 p383 q383
   cases e383
   replace hx383_0:=bc_ HB.out hx383_0
   replace hx383_1:=bc_ HB.out hx383_1
   replace hx383_2:=bc_ HB.out hx383_2
   replace hx383_3:=bc_ HB.out hx383_3
   replace hx383_4:=bc_ HB.out hx383_4
   replace hx383_5:=bc_ HB.out hx383_5
   replace hx383_6:=bc_ HB.out hx383_6
   have HR383_4:=Az.mk hi383_4
   have HC383_4:=Az.mk hl383_4
   clear hi383_4 hl383_4
   have HR383_6:=Az.mk hi383_6
   have HC383_6:=Az.mk hl383_6
   clear hi383_6 hl383_6
   replace p383:=eq_true p383
   replace q383:=eq_true q383
   go_wp2_with (first|((with_reducible refine gate_callee (f:=38) rfl ?_);refine goesL_ (some 18) rfl rfl Try.func38 (by kernel_rfl) rfl #[.agg #[.int .i64 ((rd_T32 l0_6 x4_1).f0),.int .i64 ((rd_T32 l0_6 x4_1).f1),.int .i64 ((rd_T32 l0_6 x4_1).f2),.int .i64 ((rd_T32 l0_6 x4_1).f3),.slice A383_4 ((rd_T32 l0_6 x4_1).f4).length c383_4,.string ((rd_T32 l0_6 x4_1).f5),.slice A383_6 ((rd_T32 l0_6 x4_1).f6).length c383_6]] rfl (by(try simp only [List.map_toArray,List.map_cons,List.map_nil]);first|done|rfl|(simp only [List.length_drop,List.length_take];rfl)) ?_;(with_reducible refine(ih k1 (by have:=HK1.out;omega) ((rd_T32 l0_6 x4_1).f0) ((rd_T32 l0_6 x4_1).f1) ((rd_T32 l0_6 x4_1).f2) ((rd_T32 l0_6 x4_1).f3) _ _ ((rd_T32 l0_6 x4_1).f4) ((rd_T32 l0_6 x4_1).f5) _ _ ((rd_T32 l0_6 x4_1).f6) t384 _ ?side1 ?side2 ?side3 ?side4 A5.out).mono ?_);(case side1=>repeat (first|exact(Kd.C_below HR383_4.out HB.out)|(with_reducible first|refine Kd.C_alloc ?_ _|refine Kd.C_drewN ?_ _|refine Kd.C_drew ?_)));(case side2=>exact HC383_4.out);(case side3=>repeat (first|exact(Kd.C_below HR383_6.out HB.out)|(with_reducible first|refine Kd.C_alloc ?_ _|refine Kd.C_drewN ?_ _|refine Kd.C_drew ?_)));(case side4=>exact HC383_6.out);rintro e w7 ⟨rfl,hb⟩;refine⟨_,rfl,?_⟩;have n0_:=Az.mk (kB_ BK382.out hb);have n1_:=Az.mk (bT_ HB.out hb);clear BK382;clear HB;have BK382:=n0_;have HB:=n1_;clear n0_ n1_;(try clear hb);(try clear hb2);(try clear hk);(try clear hi)))
   go_roundg k1
   case measure=>have:=HK1.out;omega
   case rel=>exact⟨(wrap64 (x3_1 + t384)),(wrap64 (x4_1 + 1)),(by first|rfl|(simp;done)|(simp [*];done)|(refine congrArg Value.bool ?_;exact isE_ _)),(by first|rfl|(simp;done)|(simp [*];done)|(refine congrArg Value.bool ?_;exact isE_ _)),H',⟨by have:=HK1.out;omega⟩,⟨by(with_reducible repeat (first|refine kN_ ?_ _|refine kD_ ?_|refine kA_ ?_ _));exact BK382.out⟩,⟨by repeat (first|(with_reducible first|exact HB.out|apply bA_|apply bN_|apply bD_|refine bS_ ?_ GE382.out)|exact HB.out)⟩⟩
end Go.Proofs.Ytgdbcogbbghjaaa.Q
