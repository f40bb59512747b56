import Derived.Test.YtgdbcogbbghjaaaQ0
import Derived.Test.YtgdbcogbbghjaaaQf40
namespace Go.Proofs.Ytgdbcogbbghjaaa.Q
open Go.RowKit Go.Proofs.YtgdbcogbbghjaaaW.PrintWords Go.Proofs.YtgdbcogbbghjaaaW.PrintLast Go.Proofs.YtgdbcogbbghjaaaW.PrintMore
attribute [local go_sem] max2_int min2_int max_two min_two max_three min_three max_four min_four   -- for this text's walks alone
set_option linter.unusedVariables false
set_option linter.unusedSimpArgs false
mutual
def arboristref42_Text.l0:Nat→ByteArray→Int→Int→Int→Int→Int→List (S53)→ByteArray→List (S32)→Option (ByteArray)
 | 0,_,_,_,_,_,_,_,_,_=>none
 | k + 1,x3,x4,x416000,x416001,x416002,x416003,x416004,x416005,x416006=>if x4 < (x416006.length:Int)then(if 0≤x4 then((arboristref42_Text.f k ((rd_T32 x416006 x4).f0) ((rd_T32 x416006 x4).f1) ((rd_T32 x416006 x4).f2) ((rd_T32 x416006 x4).f3) ((rd_T32 x416006 x4).f4) ((rd_T32 x416006 x4).f5) ((rd_T32 x416006 x4).f6)).bind fun t418=>(if x3.size + t418.size≤9223372036854775807 then(arboristref42_Text.l0 k (x3 ++ t418) (wrap64 (x4 + 1)) x416000 x416001 x416002 x416003 x416004 x416005 x416006)else(none)))else(none))else(some x3)
def arboristref42_Text.f:Nat→Int→Int→Int→Int→List (S53)→ByteArray→List (S32)→Option (ByteArray)
 | 0,_,_,_,_,_,_,_=>none
 | k + 1,a0_0,a0_1,a0_2,a0_3,l0_4,a0_5,l0_6=>(arboristref42_Own.f k a0_0 a0_1 a0_2 a0_3 l0_4 a0_5 l0_6).bind fun t416=>(arboristref42_Text.l0 k t416 0 a0_0 a0_1 a0_2 a0_3 l0_4 a0_5 l0_6)
end
set_option maxHeartbeats 8000000 in
set_option maxRecDepth 100000 in
theorem arboristref42_Text.calls (k:Nat):∀ (a0_0:Int)(a0_1:Int)(a0_2:Int)(a0_3:Int)(A0_4:Option Addr)(c0_4:Nat)(l0_4:List (S53))(a0_5:ByteArray)(A0_6:Option Addr)(c0_6:Nat)(l0_6:List (S32))(r:ByteArray)(w:World)(hr0_4:Kd.C k53 w A0_4 l0_4.length l0_4)(hc0_4:l0_4.length≤c0_4)(hr0_6:Kd.C k32 w A0_6 l0_6.length l0_6)(hc0_6:l0_6.length≤c0_6)(h:arboristref42_Text.f k a0_0 a0_1 a0_2 a0_3 l0_4 a0_5 l0_6=some r),
  Calls Try.prog 27 #[.agg #[.int .i64 a0_0,.int .i64 a0_1,.int .i64 a0_2,.int .i64 a0_3,.slice A0_4 l0_4.length c0_4,.string a0_5,.slice A0_6 l0_6.length c0_6]] w fun e w'=>e=.returned (.string r)∧Below w.heap.size w w':=by
 induction k using Nat.strongRecOn with
 | _ k ih =>
 intro a0_0 a0_1 a0_2 a0_3 A0_4 c0_4 l0_4 a0_5 A0_6 c0_6 l0_6 r w hr0_4 hc0_4 hr0_6 hc0_6 h
 cases k with
 | zero=>exact absurd h (by simp [arboristref42_Text.f])
 | succ k =>
 simp only [arboristref42_Text.f] at h
 have hu32:=Try.underlying32
 have HR0_4:=Az.mk hr0_4
 have HC0_4:=Az.mk hc0_4
 clear hr0_4 hc0_4
 have HR0_6:=Az.mk hr0_6
 have HC0_6:=Az.mk hc0_6
 clear hr0_6 hc0_6
 have HB:=Az.mk (Below.refl w.heap.size w)
 have H:((arboristref42_Own.f k a0_0 a0_1 a0_2 a0_3 l0_4 a0_5 l0_6).bind fun t416=>(arboristref42_Text.l0 k t416 0 a0_0 a0_1 a0_2 a0_3 l0_4 a0_5 l0_6))=some r:=h
 clear h
 replace H:=Option.bind_eq_some_iff.mp H
 obtain⟨t416,A20,H⟩:=H
 replace H:(arboristref42_Text.l0 k t416 0 a0_0 a0_1 a0_2 a0_3 l0_4 a0_5 l0_6)=some r:=H
 have A2:=Az.mk A20
 clear A20
 have H':=Az.mk H
 clear H
 go_enter Try.func27,Try.ntmps27
 go_wp2_with (first|((with_reducible refine gate_dst (N:=1) rfl ?_);refine box_event ?hg (N:=1) ?hd (cs:=#[.int .i64 a0_0,.int .i64 a0_1,.int .i64 a0_2,.int .i64 a0_3,.slice A0_4 l0_4.length c0_4,.string a0_5,.slice A0_6 l0_6.length c0_6]) (t:=32) ?hr ?_;(case hd=>rfl);(case hg=>rfl);(case hr=>first|(go_simp;done)|(go_simp;rfl));intro gb415 hg w3 hbox hb;have n0_:=Az.mk (bT_ HB.out hb);have n1_:=Az.mk (hbox);have n2_:=Az.mk ((szl_ HB.out hg));have n3_:=Az.mk ((szl_ HB.out hg));clear HB;have HB:=n0_;have BK415:=n1_;have GW415:=n2_;have GE415:=n3_;clear n0_ n1_ n2_ n3_;clear hb hbox hg;obtain⟨hcz4_0,hcz4_1,hcz4_2,hcz4_3,hcz4_4,hcz4_5,hcz4_6,hfz4_0,hfz4_1,hfz4_2,hfz4_3,hfz4_4,hfz4_5,hfz4_6⟩:=cf7_ BK415.out)|((with_reducible refine gate_callee (f:=40) rfl ?_);refine goesL_ (some 6) rfl rfl Try.func40 (by kernel_rfl) rfl #[.agg #[.int .i64 a0_0,.int .i64 a0_1,.int .i64 a0_2,.int .i64 a0_3,.slice A0_4 l0_4.length c0_4,.string a0_5,.slice A0_6 l0_6.length c0_6]] rfl (by(try simp only [List.map_toArray,List.map_cons,List.map_nil]);first|done|rfl|(simp only [List.length_drop,List.length_take];rfl)) ?_;(with_reducible refine(arboristref42_Own.calls k a0_0 a0_1 a0_2 a0_3 _ _ l0_4 a0_5 _ _ l0_6 t416 _ ?side1 ?side2 ?side3 ?side4 A2.out).mono ?_);(case side1=>repeat (first|exact(Kd.C_below HR0_4.out HB.out)|(with_reducible first|refine Kd.C_alloc ?_ _|refine Kd.C_drewN ?_ _|refine Kd.C_drew ?_)));(case side2=>exact HC0_4.out);(case side3=>repeat (first|exact(Kd.C_below HR0_6.out HB.out)|(with_reducible first|refine Kd.C_alloc ?_ _|refine Kd.C_drewN ?_ _|refine Kd.C_drew ?_)));(case side4=>exact HC0_6.out);rintro e w5 ⟨rfl,hb⟩;refine⟨_,rfl,?_⟩;have n0_:=Az.mk (kB_ BK415.out hb);have n1_:=Az.mk (bT_ HB.out hb);clear BK415;clear HB;have BK415:=n0_;have HB:=n1_;clear n0_ n1_;(try clear hb);(try clear hb2);(try clear hk);(try clear hi)))
 go_loopg [3,4] k (fun kq v3 v4 w'=>∃ (x3_1:ByteArray) (x4_1:Int),v3=.string x3_1∧v4=.int .i64 x4_1∧Az (arboristref42_Text.l0 kq x3_1 x4_1 a0_0 a0_1 a0_2 a0_3 l0_4 a0_5 l0_6=some r)∧Az (kq≤k)∧Az (w'.heap[gb415]?=some (.cells #[.int .i64 a0_0,.int .i64 a0_1,.int .i64 a0_2,.int .i64 a0_3,(.slice A0_4 l0_4.length c0_4),.string a0_5,(.slice A0_6 l0_6.length c0_6)] 32 (0,0)))∧Az (Below w.heap.size w w'))
 case atStart=>exact⟨(t416),(0),(by first|rfl|(simp;done)|(simp [*];done)|(refine congrArg Value.bool ?_;exact isE_ _)),(by first|rfl|(simp;done)|(simp [*];done)|(refine congrArg Value.bool ?_;exact isE_ _)),H',⟨Nat.le_refl _⟩,⟨by(with_reducible repeat (first|refine kN_ ?_ _|refine kD_ ?_|refine kA_ ?_ _));exact BK415.out⟩,⟨by repeat (first|(with_reducible first|exact HB.out|apply bA_|apply bN_|apply bD_|refine bS_ ?_ GE415.out)|exact HB.out)⟩⟩
 case round =>
  clear H'
  try clear c2
  try clear p2
  try clear c4
  try clear hcz4_0 hcz4_1 hcz4_2 hcz4_3 hcz4_4 hcz4_5 hcz4_6 hfz4_0 hfz4_1 hfz4_2 hfz4_3 hfz4_4 hfz4_5 hfz4_6
  obtain⟨x3_1,x4_1,rfl,rfl,HA,HK1,BK415,HB⟩:=hrel
  cases gk with
  | zero=>exact absurd HA.out (by simp [arboristref42_Text.l0])
  | succ k1 =>
   have H:=HA.out
   clear HA
   simp only [arboristref42_Text.l0] at H
   by_cases c6:x4_1 < (l0_6.length:Int)
   rotate_left
   ·rw [if_neg c6] at H
    have c6b0:=decide_eq_false c6
    clear c6
    obtain rfl:=Option.some.inj H
    obtain⟨hcz12_0,hcz12_1,hcz12_2,hcz12_3,hcz12_4,hcz12_5,hcz12_6,hfz12_0,hfz12_1,hfz12_2,hfz12_3,hfz12_4,hfz12_5,hfz12_6⟩:=cf7_ BK415.out
    go_wp2
    go_ret
    exact⟨by first|rfl|(simp [errW_none,errW_some] <;> rfl)|(simp [*,errW_none,errW_some] <;> rfl),by repeat (first|(with_reducible first|exact HB.out|apply bA_|apply bN_|apply bD_|refine bS_ ?_ GE415.out)|exact HB.out)⟩
   rw [if_pos c6] at H
   have c6b0:=decide_eq_true c6
   clear c6
   by_cases c7:0≤x4_1
   rotate_left
   ·rw [if_neg c7] at H
    exact absurd H (by simp)
   rw [if_pos c7] at H
   have c7b0:=decide_eq_true c7
   clear c7
   replace H:=Option.bind_eq_some_iff.mp H
   obtain⟨t418,A80,H⟩:=H
   replace H:(if x3_1.size + t418.size≤9223372036854775807 then(arboristref42_Text.l0 k1 (x3_1 ++ t418) (wrap64 (x4_1 + 1)) a0_0 a0_1 a0_2 a0_3 l0_4 a0_5 l0_6)else(none))=some r:=H
   have A8:=Az.mk A80
   clear A80
   by_cases c9:x3_1.size + t418.size≤9223372036854775807
   rotate_left
   ·rw [if_neg c9] at H
    exact absurd H (by simp)
   rw [if_pos c9] at H
   have c9b0:=eq_true c9
   have c9b1:=decide_eq_true c9
   try have c9b2:(9223372036854775807 < x3_1.size + t418.size)=False:=eq_false (Nat.not_lt.2 c9)
   have H':=Az.mk H
   clear H
   obtain⟨hcz10_0,hcz10_1,hcz10_2,hcz10_3,hcz10_4,hcz10_5,hcz10_6,hfz10_0,hfz10_1,hfz10_2,hfz10_3,hfz10_4,hfz10_5,hfz10_6⟩:=cf7_ BK415.out
   have p417:0≤(x4_1:Int):=of_decide_eq_true (by assumption)
   have q417:x4_1 < (l0_6.length:Int):=of_decide_eq_true (by assumption)
   obtain⟨ad417,A417_4,c417_4,A417_6,c417_6,e417,hx417_0,hx417_1,hx417_2,hx417_3,hx417_4,hx417_5,hx417_6,hl417_4,hi417_4,hl417_6,hi417_6⟩:=at_T32 HR0_6.out x4_1 p417 q417
   cases e417
   replace hx417_0:=bc_ HB.out hx417_0
   replace hx417_1:=bc_ HB.out hx417_1
   replace hx417_2:=bc_ HB.out hx417_2
   replace hx417_3:=bc_ HB.out hx417_3
   replace hx417_4:=bc_ HB.out hx417_4
   replace hx417_5:=bc_ HB.out hx417_5
   replace hx417_6:=bc_ HB.out hx417_6
   have HR417_4:=Az.mk hi417_4
   have HC417_4:=Az.mk hl417_4
   clear hi417_4 hl417_4
   have HR417_6:=Az.mk hi417_6
   have HC417_6:=Az.mk hl417_6
   clear hi417_6 hl417_6
   replace p417:=eq_true p417
   replace q417:=eq_true q417
   go_wp2_with (first|((with_reducible refine gate_callee (f:=27) rfl ?_);refine goesL_ (some 20) rfl rfl Try.func27 (by kernel_rfl) rfl #[.agg #[.int .i64 ((rd_T32 l0_6 x4_1).f0),.int .i64 ((rd_T32 l0_6 x4_1).f1),.int .i64 ((rd_T32 l0_6 x4_1).f2),.int .i64 ((rd_T32 l0_6 x4_1).f3),.slice A417_4 ((rd_T32 l0_6 x4_1).f4).length c417_4,.string ((rd_T32 l0_6 x4_1).f5),.slice A417_6 ((rd_T32 l0_6 x4_1).f6).length c417_6]] rfl (by(try simp only [List.map_toArray,List.map_cons,List.map_nil]);first|done|rfl|(simp only [List.length_drop,List.length_take];rfl)) ?_;(with_reducible refine(ih k1 (by have:=HK1.out;omega) ((rd_T32 l0_6 x4_1).f0) ((rd_T32 l0_6 x4_1).f1) ((rd_T32 l0_6 x4_1).f2) ((rd_T32 l0_6 x4_1).f3) _ _ ((rd_T32 l0_6 x4_1).f4) ((rd_T32 l0_6 x4_1).f5) _ _ ((rd_T32 l0_6 x4_1).f6) t418 _ ?side1 ?side2 ?side3 ?side4 A8.out).mono ?_);(case side1=>repeat (first|exact(Kd.C_below HR417_4.out HB.out)|(with_reducible first|refine Kd.C_alloc ?_ _|refine Kd.C_drewN ?_ _|refine Kd.C_drew ?_)));(case side2=>exact HC417_4.out);(case side3=>repeat (first|exact(Kd.C_below HR417_6.out HB.out)|(with_reducible first|refine Kd.C_alloc ?_ _|refine Kd.C_drewN ?_ _|refine Kd.C_drew ?_)));(case side4=>exact HC417_6.out);rintro e w11 ⟨rfl,hb⟩;refine⟨_,rfl,?_⟩;have n0_:=Az.mk (kB_ BK415.out hb);have n1_:=Az.mk (bT_ HB.out hb);clear BK415;clear HB;have BK415:=n0_;have HB:=n1_;clear n0_ n1_;(try clear hb);(try clear hb2);(try clear hk);(try clear hi)))
   go_roundg k1
   case measure=>have:=HK1.out;omega
   case rel=>exact⟨(x3_1 ++ t418),(wrap64 (x4_1 + 1)),(by first|rfl|(simp;done)|(simp [*];done)|(refine congrArg Value.bool ?_;exact isE_ _)),(by first|rfl|(simp;done)|(simp [*];done)|(refine congrArg Value.bool ?_;exact isE_ _)),H',⟨by have:=HK1.out;omega⟩,⟨by(with_reducible repeat (first|refine kN_ ?_ _|refine kD_ ?_|refine kA_ ?_ _));exact BK415.out⟩,⟨by repeat (first|(with_reducible first|exact HB.out|apply bA_|apply bN_|apply bD_|refine bS_ ?_ GE415.out)|exact HB.out)⟩⟩
end Go.Proofs.Ytgdbcogbbghjaaa.Q
