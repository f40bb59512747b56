import Derived.Test.YtgdbcogbbghjaaaQ0
import Derived.Test.YtgdbcogbbghjaaaQf51
import Derived.Test.YtgdbcogbbghjaaaQf52
import Derived.Test.YtgdbcogbbghjaaaQf53
namespace Go.Proofs.Ytgdbcogbbghjaaa.Q
open Go.RowKit Go.Proofs.YtgdbcogbbghjaaaW.PrintWords Go.Proofs.YtgdbcogbbghjaaaW.PrintLast Go.Proofs.YtgdbcogbbghjaaaW.PrintMore
attribute [local go_sem] max2_int min2_int max_two min_two max_three min_three max_four min_four   -- for this text's walks alone
set_option linter.unusedVariables false
set_option linter.unusedSimpArgs false
mutual
def arboristref42_within.j0:Nat→Bool→List ByteArray→List ByteArray→List Int→List (S67)→List (S78)→Int→Int→Int→Int→List (S53)→ByteArray→List (S32)→Option (Bool)
 | 0,_,_,_,_,_,_,_,_,_,_,_,_,_=>none
 | k + 1,x34,x396000,x396001,x396002,x396003,x396004,x397000,x397001,x397002,x397003,x397004,x397005,x397006=>if x34=true then(some false)else(if x397000 ≥ 0 then(if x397001=(-1)then(arboristref42_within.j1 k (decide ((x397006.length:Int) > 0)) x396000 x396001 x396002 x396003 x396004 x397000 x397001 x397002 x397003 x397004 x397005 x397006)else(arboristref42_within.j1 k true x396000 x396001 x396002 x396003 x396004 x397000 x397001 x397002 x397003 x397004 x397005 x397006))else(if (x397004.length:Int) > 0 then(arboristref42_within.j2 k true x396000 x396001 x396002 x396003 x396004 x397000 x397001 x397002 x397003 x397004 x397005 x397006)else(arboristref42_within.j2 k (x397005.toList != ([]:List UInt8)) x396000 x396001 x396002 x396003 x396004 x397000 x397001 x397002 x397003 x397004 x397005 x397006)))
def arboristref42_within.j1:Nat→Bool→List ByteArray→List ByteArray→List Int→List (S67)→List (S78)→Int→Int→Int→Int→List (S53)→ByteArray→List (S32)→Option (Bool)
 | 0,_,_,_,_,_,_,_,_,_,_,_,_,_=>none
 | k + 1,x46,x396000,x396001,x396002,x396003,x396004,x397000,x397001,x397002,x397003,x397004,x397005,x397006=>if x46=true then(some false)else(if x397003=1 then(if x397000=0 then(some false)else(if (x397004.length:Int)=0 then(some (x397005.toList == ([]:List UInt8)))else(some false)))else(if x397003=0 then(if ((x397005.toList == ([]:List UInt8)) == (x397000 == 0))=true then((arboristref42_lead.f k x396000 x396001 x396002 x396003 x396004 x397004).bind fun t398=>(some t398))else(some false))else(some false)))
def arboristref42_within.j2:Nat→Bool→List ByteArray→List ByteArray→List Int→List (S67)→List (S78)→Int→Int→Int→Int→List (S53)→ByteArray→List (S32)→Option (Bool)
 | 0,_,_,_,_,_,_,_,_,_,_,_,_,_=>none
 | k + 1,x90,x396000,x396001,x396002,x396003,x396004,x397000,x397001,x397002,x397003,x397004,x397005,x397006=>if x90=true then(some false)else(arboristref42_within.l0 k 0 x396000 x396001 x396002 x396003 x396004 x397000 x397001 x397002 x397003 x397004 x397005 x397006)
def arboristref42_within.l0:Nat→Int→List ByteArray→List ByteArray→List Int→List (S67)→List (S78)→Int→Int→Int→Int→List (S53)→ByteArray→List (S32)→Option (Bool)
 | 0,_,_,_,_,_,_,_,_,_,_,_,_,_=>none
 | k + 1,x7,x396000,x396001,x396002,x396003,x396004,x397000,x397001,x397002,x397003,x397004,x397005,x397006=>if x7 < (x397006.length:Int)then(if 0≤x7 then((arboristref42_within.f k x396000 x396001 x396002 x396003 x396004 ((rd_T32 x397006 x7).f0) ((rd_T32 x397006 x7).f1) ((rd_T32 x397006 x7).f2) ((rd_T32 x397006 x7).f3) ((rd_T32 x397006 x7).f4) ((rd_T32 x397006 x7).f5) ((rd_T32 x397006 x7).f6) false).bind fun t400=>(if t400=true then(arboristref42_within.l0 k (wrap64 (x7 + 1)) x396000 x396001 x396002 x396003 x396004 x397000 x397001 x397002 x397003 x397004 x397005 x397006)else(some false)))else(none))else(if x397003=2 then(some (x397001 == (-1)))else(if x397003=0 then((arboristref42_byRule.f k x396000 x396001 x396002 x396003 x396004 x397000 x397001 x397002 x397003 x397004 x397005 x397006).bind fun t401=>(some t401))else(some false)))
def arboristref42_within.f:Nat→List ByteArray→List ByteArray→List Int→List (S67)→List (S78)→Int→Int→Int→Int→List (S53)→ByteArray→List (S32)→Bool→Option (Bool)
 | 0,_,_,_,_,_,_,_,_,_,_,_,_,_=>none
 | k + 1,l0_0,l0_1,l0_2,l0_3,l0_4,a1_0,a1_1,a1_2,a1_3,l1_4,a1_5,l1_6,a2=>if a1_2 < 0 then(arboristref42_within.j0 k true l0_0 l0_1 l0_2 l0_3 l0_4 a1_0 a1_1 a1_2 a1_3 l1_4 a1_5 l1_6)else((arboristref15_Is.f l0_0 l0_1 l0_2 l0_3 l0_4 a1_0).bind fun t397=>(if t397=true then(if a1_0=1 then(arboristref42_within.j0 k true l0_0 l0_1 l0_2 l0_3 l0_4 a1_0 a1_1 a1_2 a1_3 l1_4 a1_5 l1_6)else(if a1_0=(-1)then(arboristref42_within.j0 k true l0_0 l0_1 l0_2 l0_3 l0_4 a1_0 a1_1 a1_2 a1_3 l1_4 a1_5 l1_6)else(arboristref42_within.j0 k ((a1_0 == 0) != a2) l0_0 l0_1 l0_2 l0_3 l0_4 a1_0 a1_1 a1_2 a1_3 l1_4 a1_5 l1_6)))else(arboristref42_within.j0 k true l0_0 l0_1 l0_2 l0_3 l0_4 a1_0 a1_1 a1_2 a1_3 l1_4 a1_5 l1_6)))
end
def arboristref42_within.T14:Bool × List (List Nat × List Nat):=(true,[([],[]),([],[]),([1],[1]),([],[]),([2,3],[2,3]),([4],[4]),([0,5],[0,5]),([6],[6])])
def arboristref42_within.B14:List Nat:=[0,0,2,0,14,30,63,127]
theorem arboristref42_within.tab14:rtab .any (opsOf Try.f39 14)=arboristref42_within.T14:=by kernel_rfl
theorem arboristref42_within.bits14:waitsOk arboristref42_within.T14.2 arboristref42_within.B14=true:=by kernel_rfl
set_option maxHeartbeats 8000000 in
set_option maxRecDepth 100000 in
theorem arboristref42_within.calls (k:Nat):∀ (A0_0:Option Addr)(c0_0:Nat)(l0_0:List ByteArray)(A0_1:Option Addr)(c0_1:Nat)(l0_1:List ByteArray)(A0_2:Option Addr)(c0_2:Nat)(l0_2:List Int)(A0_3:Option Addr)(c0_3:Nat)(l0_3:List (S67))(A0_4:Option Addr)(c0_4:Nat)(l0_4:List (S78))(a1_0:Int)(a1_1:Int)(a1_2:Int)(a1_3:Int)(A1_4:Option Addr)(c1_4:Nat)(l1_4:List (S53))(a1_5:ByteArray)(A1_6:Option Addr)(c1_6:Nat)(l1_6:List (S32))(a2:Bool)(r:Bool)(w:World)(hr0_0:Kd.C Kd.string w A0_0 l0_0.length l0_0)(hc0_0:l0_0.length≤c0_0)(hr0_1:Kd.C Kd.string w A0_1 l0_1.length l0_1)(hc0_1:l0_1.length≤c0_1)(hr0_2:Kd.C (Kd.int .i64) w A0_2 l0_2.length l0_2)(hc0_2:l0_2.length≤c0_2)(hr0_3:Kd.C k67 w A0_3 l0_3.length l0_3)(hc0_3:l0_3.length≤c0_3)(hr0_4:Kd.C k78 w A0_4 l0_4.length l0_4)(hc0_4:l0_4.length≤c0_4)(hr1_4:Kd.C k53 w A1_4 l1_4.length l1_4)(hc1_4:l1_4.length≤c1_4)(hr1_6:Kd.C k32 w A1_6 l1_6.length l1_6)(hc1_6:l1_6.length≤c1_6)(h:arboristref42_within.f k l0_0 l0_1 l0_2 l0_3 l0_4 a1_0 a1_1 a1_2 a1_3 l1_4 a1_5 l1_6 a2=some r),
  Calls Try.prog 39 #[.agg #[.slice A0_0 l0_0.length c0_0,.slice A0_1 l0_1.length c0_1,.slice A0_2 l0_2.length c0_2,.slice A0_3 l0_3.length c0_3,.slice A0_4 l0_4.length c0_4],.agg #[.int .i64 a1_0,.int .i64 a1_1,.int .i64 a1_2,.int .i64 a1_3,.slice A1_4 l1_4.length c1_4,.string a1_5,.slice A1_6 l1_6.length c1_6],.bool a2] w fun e w'=>e=.returned (.bool r)∧Below w.heap.size w w':=by
 induction k using Nat.strongRecOn with
 | _ k ih =>
 intro A0_0 c0_0 l0_0 A0_1 c0_1 l0_1 A0_2 c0_2 l0_2 A0_3 c0_3 l0_3 A0_4 c0_4 l0_4 a1_0 a1_1 a1_2 a1_3 A1_4 c1_4 l1_4 a1_5 A1_6 c1_6 l1_6 a2 r w hr0_0 hc0_0 hr0_1 hc0_1 hr0_2 hc0_2 hr0_3 hc0_3 hr0_4 hc0_4 hr1_4 hc1_4 hr1_6 hc1_6 h
 cases k with
 | zero=>exact absurd h (by simp [arboristref42_within.f])
 | succ k =>
 simp only [arboristref42_within.f] at h
 have hu27:=Try.underlying27
 have hu32:=Try.underlying32
 have HR0_0:=Az.mk hr0_0
 have HC0_0:=Az.mk hc0_0
 clear hr0_0 hc0_0
 have HR0_1:=Az.mk hr0_1
 have HC0_1:=Az.mk hc0_1
 clear hr0_1 hc0_1
 have HR0_2:=Az.mk hr0_2
 have HC0_2:=Az.mk hc0_2
 clear hr0_2 hc0_2
 have HR0_3:=Az.mk hr0_3
 have HC0_3:=Az.mk hc0_3
 clear hr0_3 hc0_3
 have HR0_4:=Az.mk hr0_4
 have HC0_4:=Az.mk hc0_4
 clear hr0_4 hc0_4
 have HR1_4:=Az.mk hr1_4
 have HC1_4:=Az.mk hc1_4
 clear hr1_4 hc1_4
 have HR1_6:=Az.mk hr1_6
 have HC1_6:=Az.mk hc1_6
 clear hr1_6 hc1_6
 have HB:=Az.mk (Below.refl w.heap.size w)
 have H:(if a1_2 < 0 then(arboristref42_within.j0 k true l0_0 l0_1 l0_2 l0_3 l0_4 a1_0 a1_1 a1_2 a1_3 l1_4 a1_5 l1_6)else((arboristref15_Is.f l0_0 l0_1 l0_2 l0_3 l0_4 a1_0).bind fun t397=>(if t397=true then(if a1_0=1 then(arboristref42_within.j0 k true l0_0 l0_1 l0_2 l0_3 l0_4 a1_0 a1_1 a1_2 a1_3 l1_4 a1_5 l1_6)else(if a1_0=(-1)then(arboristref42_within.j0 k true l0_0 l0_1 l0_2 l0_3 l0_4 a1_0 a1_1 a1_2 a1_3 l1_4 a1_5 l1_6)else(arboristref42_within.j0 k ((a1_0 == 0) != a2) l0_0 l0_1 l0_2 l0_3 l0_4 a1_0 a1_1 a1_2 a1_3 l1_4 a1_5 l1_6)))else(arboristref42_within.j0 k true l0_0 l0_1 l0_2 l0_3 l0_4 a1_0 a1_1 a1_2 a1_3 l1_4 a1_5 l1_6))))=some r:=h
 clear h
 have HC4:=Az.mk H
 clear H
 go_enter Try.func39,Try.ntmps39
 go_upto_region 1 with(first|((with_reducible refine gate_dst (N:=3) rfl ?_);(try (refine gate_guard (by rfl) ?_;dsimp only));refine box_event ?hg (N:=3) ?hd (cs:=#[.slice A0_0 l0_0.length c0_0,.slice A0_1 l0_1.length c0_1,.slice A0_2 l0_2.length c0_2,.slice A0_3 l0_3.length c0_3,.slice A0_4 l0_4.length c0_4]) (t:=27) ?hr ?_;(case hd=>rfl);(case hg=>rfl);(case hr=>first|(go_simp;done)|(go_simp;rfl));intro gb395 hg w5 hbox hb;have n0_:=Az.mk (bT_ HB.out hb);have n1_:=Az.mk (hbox);have n2_:=Az.mk ((szl_ HB.out hg));have n3_:=Az.mk ((szl_ HB.out hg));clear HB;have HB:=n0_;have BK395:=n1_;have GW395:=n2_;have GE395:=n3_;clear n0_ n1_ n2_ n3_;clear hb hbox hg)|((with_reducible refine gate_dst (N:=4) rfl ?_);(try (refine gate_guard (by rfl) ?_;dsimp only));refine box_event ?hg (N:=4) ?hd (cs:=#[.int .i64 a1_0,.int .i64 a1_1,.int .i64 a1_2,.int .i64 a1_3,.slice A1_4 l1_4.length c1_4,.string a1_5,.slice A1_6 l1_6.length c1_6]) (t:=32) ?hr ?_;(case hd=>rfl);(case hg=>rfl);(case hr=>first|(go_simp;done)|(go_simp;rfl));intro gb396 hg w6 hbox hb;have n0_:=Az.mk (kB_ BK395.out hb);have n1_:=Az.mk (bT_ HB.out hb);have n2_:=Az.mk (hbox);have n3_:=Az.mk ((szl_ HB.out hg));have n4_:=Az.mk ((szl_ HB.out hg));have n5_:=Az.mk ((nel_ BK395.out hg));have n6_:=Az.mk ((ner_ BK395.out hg));clear BK395;clear HB;have BK395:=n0_;have HB:=n1_;have BK396:=n2_;have GW396:=n3_;have GE396:=n4_;have NB395_396:=n5_;have NB396_395:=n6_;clear n0_ n1_ n2_ n3_ n4_ n5_ n6_;clear hb hbox hg))
 (try simp only [Act.put,sT_,s0_,sC_])
 go_cut [34] (fun v34 wc=>∃ (kq:Nat) (x34_3:Bool),v34=.bool x34_3∧Az (arboristref42_within.j0 kq x34_3 l0_0 l0_1 l0_2 l0_3 l0_4 a1_0 a1_1 a1_2 a1_3 l1_4 a1_5 l1_6=some r)∧Az (kq≤k)∧Az (wc.heap[gb395]?=some (.cells #[(.slice A0_0 l0_0.length c0_0),(.slice A0_1 l0_1.length c0_1),(.slice A0_2 l0_2.length c0_2),(.slice A0_3 l0_3.length c0_3),(.slice A0_4 l0_4.length c0_4)] 27 (0,0)))∧Az (wc.heap[gb396]?=some (.cells #[.int .i64 a1_0,.int .i64 a1_1,.int .i64 a1_2,.int .i64 a1_3,(.slice A1_4 l1_4.length c1_4),.string a1_5,(.slice A1_6 l1_6.length c1_6)] 32 (0,0)))∧Az (Below w.heap.size w wc))
 case first =>
  have H:=HC4.out
  clear HC4
  by_cases c7:a1_2 < 0
  ·rw [if_pos c7] at H
   have c7b0:=decide_eq_true c7
   clear c7
   (first|rw [c7b0]|(simp only [i64_w,i32_w];rw [c7b0])|skip)
   have H':=Az.mk H
   clear H
   have hnb8:=NB396_395.out
   have hnc8:=NB395_396.out
   obtain⟨hcz9_0,hcz9_1,hcz9_2,hcz9_3,hcz9_4,hcz9_5,hcz9_6,hfz9_0,hfz9_1,hfz9_2,hfz9_3,hfz9_4,hfz9_5,hfz9_6⟩:=cf7_ BK396.out
   go_wp2
   go_meet
   case rel=>exact⟨_,(true),(by first|rfl|(simp;done)|(simp [*];done)|(refine congrArg Value.bool ?_;exact isE_ _)),H',⟨by first|omega|exact Nat.le_refl _⟩,⟨by(with_reducible repeat (first|refine kN_ ?_ _|refine kD_ ?_|refine kA_ ?_ _));exact BK395.out⟩,⟨by(with_reducible repeat (first|refine kN_ ?_ _|refine kD_ ?_|refine kA_ ?_ _));exact BK396.out⟩,⟨by repeat (first|(with_reducible first|exact HB.out|apply bA_|apply bN_|apply bD_|refine bS_ ?_ GE395.out|refine bS_ ?_ GE396.out)|exact HB.out)⟩⟩
  rw [if_neg c7] at H
  have c7b0:=decide_eq_false c7
  clear c7
  (first|rw [c7b0]|(simp only [i64_w,i32_w];rw [c7b0])|skip)
  replace H:=Option.bind_eq_some_iff.mp H
  obtain⟨t397,A100,H⟩:=H
  replace H:(if t397=true then(if a1_0=1 then(arboristref42_within.j0 k true l0_0 l0_1 l0_2 l0_3 l0_4 a1_0 a1_1 a1_2 a1_3 l1_4 a1_5 l1_6)else(if a1_0=(-1)then(arboristref42_within.j0 k true l0_0 l0_1 l0_2 l0_3 l0_4 a1_0 a1_1 a1_2 a1_3 l1_4 a1_5 l1_6)else(arboristref42_within.j0 k ((a1_0 == 0) != a2) l0_0 l0_1 l0_2 l0_3 l0_4 a1_0 a1_1 a1_2 a1_3 l1_4 a1_5 l1_6)))else(arboristref42_within.j0 k true l0_0 l0_1 l0_2 l0_3 l0_4 a1_0 a1_1 a1_2 a1_3 l1_4 a1_5 l1_6))=some r:=H
  have A10:=Az.mk A100
  clear A100
  by_cases c11:t397=true
  rotate_left
  ·replace c11:=Bool.eq_false_iff.mpr c11
   subst c11
   have H1:(arboristref42_within.j0 k true l0_0 l0_1 l0_2 l0_3 l0_4 a1_0 a1_1 a1_2 a1_3 l1_4 a1_5 l1_6)=some r:=by rw [if_neg (show ¬ (false=true) by decide)] at H;exact H
   clear H
   have H:=H1
   clear H1
   have H':=Az.mk H
   clear H
   have hnb29:=NB396_395.out
   have hnc29:=NB395_396.out
   obtain⟨hcz30_0,hcz30_1,hcz30_2,hcz30_3,hcz30_4,hcz30_5,hcz30_6,hfz30_0,hfz30_1,hfz30_2,hfz30_3,hfz30_4,hfz30_5,hfz30_6⟩:=cf7_ BK396.out
   obtain⟨hcz31_0,hcz31_1,hcz31_2,hcz31_3,hcz31_4,hfz31_0,hfz31_1,hfz31_2,hfz31_3,hfz31_4⟩:=cf5_ BK395.out
   go_wp2_with (first|(go_at_call 51;(with_reducible refine(arboristref15_Is.calls _ _ l0_0 _ _ l0_1 _ _ l0_2 _ _ l0_3 _ _ l0_4 a1_0 false _ ?side1 ?side2 ?side3 ?side4 ?side5 ?side6 ?side7 ?side8 ?side9 ?side10 A10.out).mono ?_);(case side1=>repeat (first|exact(Kd.C_below HR0_0.out HB.out)|(with_reducible first|refine Kd.C_alloc ?_ _|refine Kd.C_drewN ?_ _|refine Kd.C_drew ?_)));(case side2=>exact HC0_0.out);(case side3=>repeat (first|exact(Kd.C_below HR0_1.out HB.out)|(with_reducible first|refine Kd.C_alloc ?_ _|refine Kd.C_drewN ?_ _|refine Kd.C_drew ?_)));(case side4=>exact HC0_1.out);(case side5=>repeat (first|exact(Kd.C_below HR0_2.out HB.out)|(with_reducible first|refine Kd.C_alloc ?_ _|refine Kd.C_drewN ?_ _|refine Kd.C_drew ?_)));(case side6=>exact HC0_2.out);(case side7=>repeat (first|exact(Kd.C_below HR0_3.out HB.out)|(with_reducible first|refine Kd.C_alloc ?_ _|refine Kd.C_drewN ?_ _|refine Kd.C_drew ?_)));(case side8=>exact HC0_3.out);(case side9=>repeat (first|exact(Kd.C_below HR0_4.out HB.out)|(with_reducible first|refine Kd.C_alloc ?_ _|refine Kd.C_drewN ?_ _|refine Kd.C_drew ?_)));(case side10=>exact HC0_4.out);rintro e w32 ⟨rfl,hb⟩;have n0_:=Az.mk (kB_ BK395.out hb);have n1_:=Az.mk (kB_ BK396.out hb);have n2_:=Az.mk (bT_ HB.out hb);clear BK395;clear BK396;clear HB;have BK395:=n0_;have BK396:=n1_;have HB:=n2_;clear n0_ n1_ n2_;(try clear hb);(try clear hb2);(try clear hk);(try clear hi)))
   go_meet
   case rel=>exact⟨_,(true),(by first|rfl|(simp;done)|(simp [*];done)|(refine congrArg Value.bool ?_;exact isE_ _)),H',⟨by first|omega|exact Nat.le_refl _⟩,⟨by(with_reducible repeat (first|refine kN_ ?_ _|refine kD_ ?_|refine kA_ ?_ _));exact BK395.out⟩,⟨by(with_reducible repeat (first|refine kN_ ?_ _|refine kD_ ?_|refine kA_ ?_ _));exact BK396.out⟩,⟨by repeat (first|(with_reducible first|exact HB.out|apply bA_|apply bN_|apply bD_|refine bS_ ?_ GE395.out|refine bS_ ?_ GE396.out)|exact HB.out)⟩⟩
  subst c11
  have H1:(if a1_0=1 then(arboristref42_within.j0 k true l0_0 l0_1 l0_2 l0_3 l0_4 a1_0 a1_1 a1_2 a1_3 l1_4 a1_5 l1_6)else(if a1_0=(-1)then(arboristref42_within.j0 k true l0_0 l0_1 l0_2 l0_3 l0_4 a1_0 a1_1 a1_2 a1_3 l1_4 a1_5 l1_6)else(arboristref42_within.j0 k ((a1_0 == 0) != a2) l0_0 l0_1 l0_2 l0_3 l0_4 a1_0 a1_1 a1_2 a1_3 l1_4 a1_5 l1_6)))=some r:=by rw [if_pos rfl] at H;exact H
  clear H
  have H:=H1
  clear H1
  by_cases c12:a1_0=1
  ·rw [if_pos c12] at H
   have c12b0:=beq_iff_eq.mpr c12
   have c12b1:=bne_eq_false_iff_eq.mpr c12
   clear c12
   have H':=Az.mk H
   clear H
   have hnb13:=NB396_395.out
   have hnc13:=NB395_396.out
   obtain⟨hcz14_0,hcz14_1,hcz14_2,hcz14_3,hcz14_4,hcz14_5,hcz14_6,hfz14_0,hfz14_1,hfz14_2,hfz14_3,hfz14_4,hfz14_5,hfz14_6⟩:=cf7_ BK396.out
   obtain⟨hcz15_0,hcz15_1,hcz15_2,hcz15_3,hcz15_4,hfz15_0,hfz15_1,hfz15_2,hfz15_3,hfz15_4⟩:=cf5_ BK395.out
   go_wp2_with (first|(go_at_call 51;(with_reducible refine(arboristref15_Is.calls _ _ l0_0 _ _ l0_1 _ _ l0_2 _ _ l0_3 _ _ l0_4 a1_0 true _ ?side1 ?side2 ?side3 ?side4 ?side5 ?side6 ?side7 ?side8 ?side9 ?side10 A10.out).mono ?_);(case side1=>repeat (first|exact(Kd.C_below HR0_0.out HB.out)|(with_reducible first|refine Kd.C_alloc ?_ _|refine Kd.C_drewN ?_ _|refine Kd.C_drew ?_)));(case side2=>exact HC0_0.out);(case side3=>repeat (first|exact(Kd.C_below HR0_1.out HB.out)|(with_reducible first|refine Kd.C_alloc ?_ _|refine Kd.C_drewN ?_ _|refine Kd.C_drew ?_)));(case side4=>exact HC0_1.out);(case side5=>repeat (first|exact(Kd.C_below HR0_2.out HB.out)|(with_reducible first|refine Kd.C_alloc ?_ _|refine Kd.C_drewN ?_ _|refine Kd.C_drew ?_)));(case side6=>exact HC0_2.out);(case side7=>repeat (first|exact(Kd.C_below HR0_3.out HB.out)|(with_reducible first|refine Kd.C_alloc ?_ _|refine Kd.C_drewN ?_ _|refine Kd.C_drew ?_)));(case side8=>exact HC0_3.out);(case side9=>repeat (first|exact(Kd.C_below HR0_4.out HB.out)|(with_reducible first|refine Kd.C_alloc ?_ _|refine Kd.C_drewN ?_ _|refine Kd.C_drew ?_)));(case side10=>exact HC0_4.out);rintro e w16 ⟨rfl,hb⟩;have n0_:=Az.mk (kB_ BK395.out hb);have n1_:=Az.mk (kB_ BK396.out hb);have n2_:=Az.mk (bT_ HB.out hb);clear BK395;clear BK396;clear HB;have BK395:=n0_;have BK396:=n1_;have HB:=n2_;clear n0_ n1_ n2_;(try clear hb);(try clear hb2);(try clear hk);(try clear hi);obtain⟨hcz17_0,hcz17_1,hcz17_2,hcz17_3,hcz17_4,hcz17_5,hcz17_6,hfz17_0,hfz17_1,hfz17_2,hfz17_3,hfz17_4,hfz17_5,hfz17_6⟩:=cf7_ BK396.out))
   go_meet
   case rel=>exact⟨_,(true),(by first|rfl|(simp;done)|(simp [*];done)|(refine congrArg Value.bool ?_;exact isE_ _)),H',⟨by first|omega|exact Nat.le_refl _⟩,⟨by(with_reducible repeat (first|refine kN_ ?_ _|refine kD_ ?_|refine kA_ ?_ _));exact BK395.out⟩,⟨by(with_reducible repeat (first|refine kN_ ?_ _|refine kD_ ?_|refine kA_ ?_ _));exact BK396.out⟩,⟨by repeat (first|(with_reducible first|exact HB.out|apply bA_|apply bN_|apply bD_|refine bS_ ?_ GE395.out|refine bS_ ?_ GE396.out)|exact HB.out)⟩⟩
  rw [if_neg c12] at H
  have c12b0:=beq_eq_false_iff_ne.mpr c12
  have c12b1:=bne_iff_ne.mpr c12
  by_cases c18:a1_0=(-1)
  ·rw [if_pos c18] at H
   have c18b0:=beq_iff_eq.mpr c18
   have c18b1:=bne_eq_false_iff_eq.mpr c18
   clear c18
   have H':=Az.mk H
   clear H
   have hnb19:=NB396_395.out
   have hnc19:=NB395_396.out
   obtain⟨hcz20_0,hcz20_1,hcz20_2,hcz20_3,hcz20_4,hcz20_5,hcz20_6,hfz20_0,hfz20_1,hfz20_2,hfz20_3,hfz20_4,hfz20_5,hfz20_6⟩:=cf7_ BK396.out
   obtain⟨hcz21_0,hcz21_1,hcz21_2,hcz21_3,hcz21_4,hfz21_0,hfz21_1,hfz21_2,hfz21_3,hfz21_4⟩:=cf5_ BK395.out
   go_wp2_with (first|(go_at_call 51;(with_reducible refine(arboristref15_Is.calls _ _ l0_0 _ _ l0_1 _ _ l0_2 _ _ l0_3 _ _ l0_4 a1_0 true _ ?side1 ?side2 ?side3 ?side4 ?side5 ?side6 ?side7 ?side8 ?side9 ?side10 A10.out).mono ?_);(case side1=>repeat (first|exact(Kd.C_below HR0_0.out HB.out)|(with_reducible first|refine Kd.C_alloc ?_ _|refine Kd.C_drewN ?_ _|refine Kd.C_drew ?_)));(case side2=>exact HC0_0.out);(case side3=>repeat (first|exact(Kd.C_below HR0_1.out HB.out)|(with_reducible first|refine Kd.C_alloc ?_ _|refine Kd.C_drewN ?_ _|refine Kd.C_drew ?_)));(case side4=>exact HC0_1.out);(case side5=>repeat (first|exact(Kd.C_below HR0_2.out HB.out)|(with_reducible first|refine Kd.C_alloc ?_ _|refine Kd.C_drewN ?_ _|refine Kd.C_drew ?_)));(case side6=>exact HC0_2.out);(case side7=>repeat (first|exact(Kd.C_below HR0_3.out HB.out)|(with_reducible first|refine Kd.C_alloc ?_ _|refine Kd.C_drewN ?_ _|refine Kd.C_drew ?_)));(case side8=>exact HC0_3.out);(case side9=>repeat (first|exact(Kd.C_below HR0_4.out HB.out)|(with_reducible first|refine Kd.C_alloc ?_ _|refine Kd.C_drewN ?_ _|refine Kd.C_drew ?_)));(case side10=>exact HC0_4.out);rintro e w22 ⟨rfl,hb⟩;have n0_:=Az.mk (kB_ BK395.out hb);have n1_:=Az.mk (kB_ BK396.out hb);have n2_:=Az.mk (bT_ HB.out hb);clear BK395;clear BK396;clear HB;have BK395:=n0_;have BK396:=n1_;have HB:=n2_;clear n0_ n1_ n2_;(try clear hb);(try clear hb2);(try clear hk);(try clear hi);obtain⟨hcz23_0,hcz23_1,hcz23_2,hcz23_3,hcz23_4,hcz23_5,hcz23_6,hfz23_0,hfz23_1,hfz23_2,hfz23_3,hfz23_4,hfz23_5,hfz23_6⟩:=cf7_ BK396.out))
   go_meet
   case rel=>exact⟨_,(true),(by first|rfl|(simp;done)|(simp [*];done)|(refine congrArg Value.bool ?_;exact isE_ _)),H',⟨by first|omega|exact Nat.le_refl _⟩,⟨by(with_reducible repeat (first|refine kN_ ?_ _|refine kD_ ?_|refine kA_ ?_ _));exact BK395.out⟩,⟨by(with_reducible repeat (first|refine kN_ ?_ _|refine kD_ ?_|refine kA_ ?_ _));exact BK396.out⟩,⟨by repeat (first|(with_reducible first|exact HB.out|apply bA_|apply bN_|apply bD_|refine bS_ ?_ GE395.out|refine bS_ ?_ GE396.out)|exact HB.out)⟩⟩
  rw [if_neg c18] at H
  have c18b0:=beq_eq_false_iff_ne.mpr c18
  have c18b1:=bne_iff_ne.mpr c18
  have H':=Az.mk H
  clear H
  have hnb24:=NB396_395.out
  have hnc24:=NB395_396.out
  obtain⟨hcz25_0,hcz25_1,hcz25_2,hcz25_3,hcz25_4,hcz25_5,hcz25_6,hfz25_0,hfz25_1,hfz25_2,hfz25_3,hfz25_4,hfz25_5,hfz25_6⟩:=cf7_ BK396.out
  obtain⟨hcz26_0,hcz26_1,hcz26_2,hcz26_3,hcz26_4,hfz26_0,hfz26_1,hfz26_2,hfz26_3,hfz26_4⟩:=cf5_ BK395.out
  go_wp2_with (first|(go_at_call 51;(with_reducible refine(arboristref15_Is.calls _ _ l0_0 _ _ l0_1 _ _ l0_2 _ _ l0_3 _ _ l0_4 a1_0 true _ ?side1 ?side2 ?side3 ?side4 ?side5 ?side6 ?side7 ?side8 ?side9 ?side10 A10.out).mono ?_);(case side1=>repeat (first|exact(Kd.C_below HR0_0.out HB.out)|(with_reducible first|refine Kd.C_alloc ?_ _|refine Kd.C_drewN ?_ _|refine Kd.C_drew ?_)));(case side2=>exact HC0_0.out);(case side3=>repeat (first|exact(Kd.C_below HR0_1.out HB.out)|(with_reducible first|refine Kd.C_alloc ?_ _|refine Kd.C_drewN ?_ _|refine Kd.C_drew ?_)));(case side4=>exact HC0_1.out);(case side5=>repeat (first|exact(Kd.C_below HR0_2.out HB.out)|(with_reducible first|refine Kd.C_alloc ?_ _|refine Kd.C_drewN ?_ _|refine Kd.C_drew ?_)));(case side6=>exact HC0_2.out);(case side7=>repeat (first|exact(Kd.C_below HR0_3.out HB.out)|(with_reducible first|refine Kd.C_alloc ?_ _|refine Kd.C_drewN ?_ _|refine Kd.C_drew ?_)));(case side8=>exact HC0_3.out);(case side9=>repeat (first|exact(Kd.C_below HR0_4.out HB.out)|(with_reducible first|refine Kd.C_alloc ?_ _|refine Kd.C_drewN ?_ _|refine Kd.C_drew ?_)));(case side10=>exact HC0_4.out);rintro e w27 ⟨rfl,hb⟩;have n0_:=Az.mk (kB_ BK395.out hb);have n1_:=Az.mk (kB_ BK396.out hb);have n2_:=Az.mk (bT_ HB.out hb);clear BK395;clear BK396;clear HB;have BK395:=n0_;have BK396:=n1_;have HB:=n2_;clear n0_ n1_ n2_;(try clear hb);(try clear hb2);(try clear hk);(try clear hi);obtain⟨hcz28_0,hcz28_1,hcz28_2,hcz28_3,hcz28_4,hcz28_5,hcz28_6,hfz28_0,hfz28_1,hfz28_2,hfz28_3,hfz28_4,hfz28_5,hfz28_6⟩:=cf7_ BK396.out))
  go_meet
  case rel=>exact⟨_,(((a1_0 == 0) != a2)),(by first|rfl|(simp;done)|(simp [*];done)|(refine congrArg Value.bool ?_;exact isE_ _)),H',⟨by first|omega|exact Nat.le_refl _⟩,⟨by(with_reducible repeat (first|refine kN_ ?_ _|refine kD_ ?_|refine kA_ ?_ _));exact BK395.out⟩,⟨by(with_reducible repeat (first|refine kN_ ?_ _|refine kD_ ?_|refine kA_ ?_ _));exact BK396.out⟩,⟨by repeat (first|(with_reducible first|exact HB.out|apply bA_|apply bN_|apply bD_|refine bS_ ?_ GE395.out|refine bS_ ?_ GE396.out)|exact HB.out)⟩⟩
 case rest =>
  clear HC4
  try clear c1
  try clear c2
  try clear p2
  try clear c3
  try clear c7
  try clear c7b0
  try clear c8
  try clear c11
  try clear c12
  try clear c12b0
  try clear c12b1
  try clear c13
  try clear c18
  try clear c18b0
  try clear c18b1
  try clear c19
  try clear c24
  try clear c29
  try clear hcz14_0 hcz14_1 hcz14_2 hcz14_3 hcz14_4 hcz14_5 hcz14_6 hfz14_0 hfz14_1 hfz14_2 hfz14_3 hfz14_4 hfz14_5 hfz14_6
  try clear hcz15_0 hcz15_1 hcz15_2 hcz15_3 hcz15_4 hfz15_0 hfz15_1 hfz15_2 hfz15_3 hfz15_4
  try clear hcz17_0 hcz17_1 hcz17_2 hcz17_3 hcz17_4 hcz17_5 hcz17_6 hfz17_0 hfz17_1 hfz17_2 hfz17_3 hfz17_4 hfz17_5 hfz17_6
  try clear hcz20_0 hcz20_1 hcz20_2 hcz20_3 hcz20_4 hcz20_5 hcz20_6 hfz20_0 hfz20_1 hfz20_2 hfz20_3 hfz20_4 hfz20_5 hfz20_6
  try clear hcz21_0 hcz21_1 hcz21_2 hcz21_3 hcz21_4 hfz21_0 hfz21_1 hfz21_2 hfz21_3 hfz21_4
  try clear hcz23_0 hcz23_1 hcz23_2 hcz23_3 hcz23_4 hcz23_5 hcz23_6 hfz23_0 hfz23_1 hfz23_2 hfz23_3 hfz23_4 hfz23_5 hfz23_6
  try clear hcz25_0 hcz25_1 hcz25_2 hcz25_3 hcz25_4 hcz25_5 hcz25_6 hfz25_0 hfz25_1 hfz25_2 hfz25_3 hfz25_4 hfz25_5 hfz25_6
  try clear hcz26_0 hcz26_1 hcz26_2 hcz26_3 hcz26_4 hfz26_0 hfz26_1 hfz26_2 hfz26_3 hfz26_4
  try clear hcz28_0 hcz28_1 hcz28_2 hcz28_3 hcz28_4 hcz28_5 hcz28_6 hfz28_0 hfz28_1 hfz28_2 hfz28_3 hfz28_4 hfz28_5 hfz28_6
  try clear hcz30_0 hcz30_1 hcz30_2 hcz30_3 hcz30_4 hcz30_5 hcz30_6 hfz30_0 hfz30_1 hfz30_2 hfz30_3 hfz30_4 hfz30_5 hfz30_6
  try clear hcz31_0 hcz31_1 hcz31_2 hcz31_3 hcz31_4 hfz31_0 hfz31_1 hfz31_2 hfz31_3 hfz31_4
  try clear hcz9_0 hcz9_1 hcz9_2 hcz9_3 hcz9_4 hcz9_5 hcz9_6 hfz9_0 hfz9_1 hfz9_2 hfz9_3 hfz9_4 hfz9_5 hfz9_6
  obtain⟨kq,x34_3,rfl,HA,HJ3,BK395,BK396,HB⟩:=hcut
  cases kq with
  | zero=>exact absurd HA.out (by simp [arboristref42_within.j0])
  | succ kj3 =>
   have H:=HA.out
   clear HA
   simp only [arboristref42_within.j0] at H
   by_cases c33:x34_3=true
   ·subst c33
    have H1:(some false)=some r:=by rw [if_pos rfl] at H;exact H
    clear H
    have H:=H1
    clear H1
    obtain rfl:=Option.some.inj H
    go_wp2
    go_ret
    exact⟨by first|rfl|(simp [errW_none,errW_some] <;> rfl)|(simp [*,errW_none,errW_some] <;> rfl),by repeat (first|(with_reducible first|exact HB.out|apply bA_|apply bN_|apply bD_|refine bS_ ?_ GE395.out|refine bS_ ?_ GE396.out)|exact HB.out)⟩
   replace c33:=Bool.eq_false_iff.mpr c33
   subst c33
   have H1:(if a1_0 ≥ 0 then(if a1_1=(-1)then(arboristref42_within.j1 kj3 (decide ((l1_6.length:Int) > 0)) l0_0 l0_1 l0_2 l0_3 l0_4 a1_0 a1_1 a1_2 a1_3 l1_4 a1_5 l1_6)else(arboristref42_within.j1 kj3 true l0_0 l0_1 l0_2 l0_3 l0_4 a1_0 a1_1 a1_2 a1_3 l1_4 a1_5 l1_6))else(if (l1_4.length:Int) > 0 then(arboristref42_within.j2 kj3 true l0_0 l0_1 l0_2 l0_3 l0_4 a1_0 a1_1 a1_2 a1_3 l1_4 a1_5 l1_6)else(arboristref42_within.j2 kj3 (a1_5.toList != ([]:List UInt8)) l0_0 l0_1 l0_2 l0_3 l0_4 a1_0 a1_1 a1_2 a1_3 l1_4 a1_5 l1_6)))=some r:=by rw [if_neg (show ¬ (false=true) by decide)] at H;exact H
   clear H
   have H:=H1
   clear H1
   by_cases c34:a1_0 ≥ 0
   ·rw [if_pos c34] at H
    have c34b0:=decide_eq_true c34
    clear c34
    have HC35:=Az.mk H
    clear H
    have hnb36:=NB396_395.out
    have hnc36:=NB395_396.out
    obtain⟨hcz37_0,hcz37_1,hcz37_2,hcz37_3,hcz37_4,hcz37_5,hcz37_6,hfz37_0,hfz37_1,hfz37_2,hfz37_3,hfz37_4,hfz37_5,hfz37_6⟩:=cf7_ BK396.out
    go_upto_region 4 with(fail)
    go_cut [46] (fun v46 wc=>∃ (kq:Nat) (x46_34:Bool),v46=.bool x46_34∧Az (arboristref42_within.j1 kq x46_34 l0_0 l0_1 l0_2 l0_3 l0_4 a1_0 a1_1 a1_2 a1_3 l1_4 a1_5 l1_6=some r)∧Az (kq≤kj3)∧Az (wc.heap[gb395]?=some (.cells #[(.slice A0_0 l0_0.length c0_0),(.slice A0_1 l0_1.length c0_1),(.slice A0_2 l0_2.length c0_2),(.slice A0_3 l0_3.length c0_3),(.slice A0_4 l0_4.length c0_4)] 27 (0,0)))∧Az (wc.heap[gb396]?=some (.cells #[.int .i64 a1_0,.int .i64 a1_1,.int .i64 a1_2,.int .i64 a1_3,(.slice A1_4 l1_4.length c1_4),.string a1_5,(.slice A1_6 l1_6.length c1_6)] 32 (0,0)))∧Az (Below w.heap.size w wc))
    case first =>
     have H:=HC35.out
     clear HC35
     by_cases c38:a1_1=(-1)
     ·rw [if_pos c38] at H
      have c38b0:=beq_iff_eq.mpr c38
      have c38b1:=bne_eq_false_iff_eq.mpr c38
      clear c38
      (first|rw [c38b0]|(simp only [i64_w,i32_w];rw [c38b0])|skip)
      have H':=Az.mk H
      clear H
      have hnb39:=NB396_395.out
      have hnc39:=NB395_396.out
      obtain⟨hcz40_0,hcz40_1,hcz40_2,hcz40_3,hcz40_4,hcz40_5,hcz40_6,hfz40_0,hfz40_1,hfz40_2,hfz40_3,hfz40_4,hfz40_5,hfz40_6⟩:=cf7_ BK396.out
      go_wp2
      go_meet
      case rel=>exact⟨_,(decide ((l1_6.length:Int) > 0)),(by first|rfl|(simp;done)|(simp [*];done)|(refine congrArg Value.bool ?_;exact isE_ _)),H',⟨by have:=HJ3.out;first|omega|exact Nat.le_refl _⟩,⟨by(with_reducible repeat (first|refine kN_ ?_ _|refine kD_ ?_|refine kA_ ?_ _));exact BK395.out⟩,⟨by(with_reducible repeat (first|refine kN_ ?_ _|refine kD_ ?_|refine kA_ ?_ _));exact BK396.out⟩,⟨by repeat (first|(with_reducible first|exact HB.out|apply bA_|apply bN_|apply bD_|refine bS_ ?_ GE395.out|refine bS_ ?_ GE396.out)|exact HB.out)⟩⟩
     rw [if_neg c38] at H
     have c38b0:=beq_eq_false_iff_ne.mpr c38
     have c38b1:=bne_iff_ne.mpr c38
     (first|rw [c38b0]|(simp only [i64_w,i32_w];rw [c38b0])|skip)
     have H':=Az.mk H
     clear H
     have hnb41:=NB396_395.out
     have hnc41:=NB395_396.out
     obtain⟨hcz42_0,hcz42_1,hcz42_2,hcz42_3,hcz42_4,hcz42_5,hcz42_6,hfz42_0,hfz42_1,hfz42_2,hfz42_3,hfz42_4,hfz42_5,hfz42_6⟩:=cf7_ BK396.out
     go_wp2
     go_meet
     case rel=>exact⟨_,(true),(by first|rfl|(simp;done)|(simp [*];done)|(refine congrArg Value.bool ?_;exact isE_ _)),H',⟨by have:=HJ3.out;first|omega|exact Nat.le_refl _⟩,⟨by(with_reducible repeat (first|refine kN_ ?_ _|refine kD_ ?_|refine kA_ ?_ _));exact BK395.out⟩,⟨by(with_reducible repeat (first|refine kN_ ?_ _|refine kD_ ?_|refine kA_ ?_ _));exact BK396.out⟩,⟨by repeat (first|(with_reducible first|exact HB.out|apply bA_|apply bN_|apply bD_|refine bS_ ?_ GE395.out|refine bS_ ?_ GE396.out)|exact HB.out)⟩⟩
    case rest =>
     clear HC35
     try clear c1
     try clear c2
     try clear p2 p2
     try clear c3
     try clear c4
     try clear c7
     try clear c7b0
     try clear c8
     try clear c11
     try clear c12
     try clear c12b0
     try clear c12b1
     try clear c13
     try clear c18
     try clear c18b0
     try clear c18b1
     try clear c19
     try clear c24
     try clear c29
     try clear c33
     try clear c34
     try clear c34b0
     try clear c36
     try clear c38
     try clear c38b0
     try clear c38b1
     try clear c39
     try clear c41
     try clear hcz14_0 hcz14_1 hcz14_2 hcz14_3 hcz14_4 hcz14_5 hcz14_6 hfz14_0 hfz14_1 hfz14_2 hfz14_3 hfz14_4 hfz14_5 hfz14_6
     try clear hcz15_0 hcz15_1 hcz15_2 hcz15_3 hcz15_4 hfz15_0 hfz15_1 hfz15_2 hfz15_3 hfz15_4
     try clear hcz17_0 hcz17_1 hcz17_2 hcz17_3 hcz17_4 hcz17_5 hcz17_6 hfz17_0 hfz17_1 hfz17_2 hfz17_3 hfz17_4 hfz17_5 hfz17_6
     try clear hcz20_0 hcz20_1 hcz20_2 hcz20_3 hcz20_4 hcz20_5 hcz20_6 hfz20_0 hfz20_1 hfz20_2 hfz20_3 hfz20_4 hfz20_5 hfz20_6
     try clear hcz21_0 hcz21_1 hcz21_2 hcz21_3 hcz21_4 hfz21_0 hfz21_1 hfz21_2 hfz21_3 hfz21_4
     try clear hcz23_0 hcz23_1 hcz23_2 hcz23_3 hcz23_4 hcz23_5 hcz23_6 hfz23_0 hfz23_1 hfz23_2 hfz23_3 hfz23_4 hfz23_5 hfz23_6
     try clear hcz25_0 hcz25_1 hcz25_2 hcz25_3 hcz25_4 hcz25_5 hcz25_6 hfz25_0 hfz25_1 hfz25_2 hfz25_3 hfz25_4 hfz25_5 hfz25_6
     try clear hcz26_0 hcz26_1 hcz26_2 hcz26_3 hcz26_4 hfz26_0 hfz26_1 hfz26_2 hfz26_3 hfz26_4
     try clear hcz28_0 hcz28_1 hcz28_2 hcz28_3 hcz28_4 hcz28_5 hcz28_6 hfz28_0 hfz28_1 hfz28_2 hfz28_3 hfz28_4 hfz28_5 hfz28_6
     try clear hcz30_0 hcz30_1 hcz30_2 hcz30_3 hcz30_4 hcz30_5 hcz30_6 hfz30_0 hfz30_1 hfz30_2 hfz30_3 hfz30_4 hfz30_5 hfz30_6
     try clear hcz31_0 hcz31_1 hcz31_2 hcz31_3 hcz31_4 hfz31_0 hfz31_1 hfz31_2 hfz31_3 hfz31_4
     try clear hcz37_0 hcz37_1 hcz37_2 hcz37_3 hcz37_4 hcz37_5 hcz37_6 hfz37_0 hfz37_1 hfz37_2 hfz37_3 hfz37_4 hfz37_5 hfz37_6
     try clear hcz40_0 hcz40_1 hcz40_2 hcz40_3 hcz40_4 hcz40_5 hcz40_6 hfz40_0 hfz40_1 hfz40_2 hfz40_3 hfz40_4 hfz40_5 hfz40_6
     try clear hcz42_0 hcz42_1 hcz42_2 hcz42_3 hcz42_4 hcz42_5 hcz42_6 hfz42_0 hfz42_1 hfz42_2 hfz42_3 hfz42_4 hfz42_5 hfz42_6
     try clear hcz9_0 hcz9_1 hcz9_2 hcz9_3 hcz9_4 hcz9_5 hcz9_6 hfz9_0 hfz9_1 hfz9_2 hfz9_3 hfz9_4 hfz9_5 hfz9_6
     obtain⟨kq,x46_34,rfl,HA,HJ34,BK395,BK396,HB⟩:=hcut
     cases kq with
     | zero=>exact absurd HA.out (by simp [arboristref42_within.j1])
     | succ kj34 =>
      have H:=HA.out
      clear HA
      simp only [arboristref42_within.j1] at H
      by_cases c43:x46_34=true
      ·subst c43
       have H1:(some false)=some r:=by rw [if_pos rfl] at H;exact H
       clear H
       have H:=H1
       clear H1
       obtain rfl:=Option.some.inj H
       go_wp2
       go_ret
       exact⟨by first|rfl|(simp [errW_none,errW_some] <;> rfl)|(simp [*,errW_none,errW_some] <;> rfl),by repeat (first|(with_reducible first|exact HB.out|apply bA_|apply bN_|apply bD_|refine bS_ ?_ GE395.out|refine bS_ ?_ GE396.out)|exact HB.out)⟩
      replace c43:=Bool.eq_false_iff.mpr c43
      subst c43
      have H1:(if a1_3=1 then(if a1_0=0 then(some false)else(if (l1_4.length:Int)=0 then(some (a1_5.toList == ([]:List UInt8)))else(some false)))else(if a1_3=0 then(if ((a1_5.toList == ([]:List UInt8)) == (a1_0 == 0))=true then((arboristref42_lead.f kj34 l0_0 l0_1 l0_2 l0_3 l0_4 l1_4).bind fun t398=>(some t398))else(some false))else(some false)))=some r:=by rw [if_neg (show ¬ (false=true) by decide)] at H;exact H
      clear H
      have H:=H1
      clear H1
      by_cases c44:a1_3=1
      ·rw [if_pos c44] at H
       have c44b0:=beq_iff_eq.mpr c44
       have c44b1:=bne_eq_false_iff_eq.mpr c44
       clear c44
       by_cases c45:a1_0=0
       ·rw [if_pos c45] at H
        have c45b0:=beq_iff_eq.mpr c45
        have c45b1:=bne_eq_false_iff_eq.mpr c45
        clear c45
        obtain rfl:=Option.some.inj H
        have hnb46:=NB396_395.out
        have hnc46:=NB395_396.out
        obtain⟨hcz47_0,hcz47_1,hcz47_2,hcz47_3,hcz47_4,hcz47_5,hcz47_6,hfz47_0,hfz47_1,hfz47_2,hfz47_3,hfz47_4,hfz47_5,hfz47_6⟩:=cf7_ BK396.out
        go_wp2
        go_ret
        exact⟨by first|rfl|(simp [errW_none,errW_some] <;> rfl)|(simp [*,errW_none,errW_some] <;> rfl),by repeat (first|(with_reducible first|exact HB.out|apply bA_|apply bN_|apply bD_|refine bS_ ?_ GE395.out|refine bS_ ?_ GE396.out)|exact HB.out)⟩
       rw [if_neg c45] at H
       have c45b0:=beq_eq_false_iff_ne.mpr c45
       have c45b1:=bne_iff_ne.mpr c45
       by_cases c48:(l1_4.length:Int)=0
       ·rw [if_pos c48] at H
        have c48b0:=beq_iff_eq.mpr c48
        have c48b1:=bne_eq_false_iff_eq.mpr c48
        clear c48
        obtain rfl:=Option.some.inj H
        have hnb49:=NB396_395.out
        have hnc49:=NB395_396.out
        obtain⟨hcz50_0,hcz50_1,hcz50_2,hcz50_3,hcz50_4,hcz50_5,hcz50_6,hfz50_0,hfz50_1,hfz50_2,hfz50_3,hfz50_4,hfz50_5,hfz50_6⟩:=cf7_ BK396.out
        go_wp2
        go_ret
        exact⟨by first|rfl|(simp [errW_none,errW_some] <;> rfl)|(simp [*,errW_none,errW_some] <;> rfl),by repeat (first|(with_reducible first|exact HB.out|apply bA_|apply bN_|apply bD_|refine bS_ ?_ GE395.out|refine bS_ ?_ GE396.out)|exact HB.out)⟩
       rw [if_neg c48] at H
       have c48b0:=beq_eq_false_iff_ne.mpr c48
       have c48b1:=bne_iff_ne.mpr c48
       have c48b2:¬ (l1_4=[]):=fun h_=>c48 (by rw [h_];rfl)
       obtain rfl:=Option.some.inj H
       have hnb51:=NB396_395.out
       have hnc51:=NB395_396.out
       obtain⟨hcz52_0,hcz52_1,hcz52_2,hcz52_3,hcz52_4,hcz52_5,hcz52_6,hfz52_0,hfz52_1,hfz52_2,hfz52_3,hfz52_4,hfz52_5,hfz52_6⟩:=cf7_ BK396.out
       go_wp2
       go_ret
       exact⟨by first|rfl|(simp [errW_none,errW_some] <;> rfl)|(simp [*,errW_none,errW_some] <;> rfl),by repeat (first|(with_reducible first|exact HB.out|apply bA_|apply bN_|apply bD_|refine bS_ ?_ GE395.out|refine bS_ ?_ GE396.out)|exact HB.out)⟩
      rw [if_neg c44] at H
      have c44b0:=beq_eq_false_iff_ne.mpr c44
      have c44b1:=bne_iff_ne.mpr c44
      by_cases c53:a1_3=0
      rotate_left
      ·rw [if_neg c53] at H
       have c53b0:=beq_eq_false_iff_ne.mpr c53
       have c53b1:=bne_iff_ne.mpr c53
       obtain rfl:=Option.some.inj H
       have hnb62:=NB396_395.out
       have hnc62:=NB395_396.out
       obtain⟨hcz63_0,hcz63_1,hcz63_2,hcz63_3,hcz63_4,hcz63_5,hcz63_6,hfz63_0,hfz63_1,hfz63_2,hfz63_3,hfz63_4,hfz63_5,hfz63_6⟩:=cf7_ BK396.out
       go_wp2
       go_ret
       exact⟨by first|rfl|(simp [errW_none,errW_some] <;> rfl)|(simp [*,errW_none,errW_some] <;> rfl),by repeat (first|(with_reducible first|exact HB.out|apply bA_|apply bN_|apply bD_|refine bS_ ?_ GE395.out|refine bS_ ?_ GE396.out)|exact HB.out)⟩
      rw [if_pos c53] at H
      have c53b0:=beq_iff_eq.mpr c53
      have c53b1:=bne_eq_false_iff_eq.mpr c53
      clear c53
      by_cases c54:((a1_5.toList == ([]:List UInt8)) == (a1_0 == 0))=true
      ·rw [if_pos c54] at H
       have c54b0:((a1_5.toList == ([]:List UInt8)) == (a1_0 == 0))=true:=c54
       have c54b7:(a1_5.toList.isEmpty == (a1_0 == 0))=true:=by have h_:=c54b0;rw [(show ∀ l_:List UInt8,(l_ == [])=l_.isEmpty from fun l_=>by cases l_ <;> rfl) a1_5.toList] at h_;exact h_
       have c54b8:(!(a1_5.toList.isEmpty == (a1_0 == 0)))=false:=by rw [c54b7];rfl
       (try (have c54b1:decide ((a1_5.toList == ([]:List UInt8))=(a1_0 == 0))=true:=by simpa using c54))
       (try (have c54b2:((a1_5.toList == ([]:List UInt8)) == (a1_0 == 0))=true:=by simpa using c54))
       clear c54
       replace H:=Option.bind_eq_some_iff.mp H
       obtain⟨t398,A550,H⟩:=H
       replace H:(some t398)=some r:=H
       have A55:=Az.mk A550
       clear A550
       obtain rfl:=Option.some.inj H
       have hnb56:=NB396_395.out
       have hnc56:=NB395_396.out
       obtain⟨hcz57_0,hcz57_1,hcz57_2,hcz57_3,hcz57_4,hcz57_5,hcz57_6,hfz57_0,hfz57_1,hfz57_2,hfz57_3,hfz57_4,hfz57_5,hfz57_6⟩:=cf7_ BK396.out
       obtain⟨hcz58_0,hcz58_1,hcz58_2,hcz58_3,hcz58_4,hfz58_0,hfz58_1,hfz58_2,hfz58_3,hfz58_4⟩:=cf5_ BK395.out
       go_wp2_with (first|(go_at_call 52;(with_reducible refine(arboristref42_lead.calls kj34 _ _ l0_0 _ _ l0_1 _ _ l0_2 _ _ l0_3 _ _ l0_4 _ _ l1_4 t398 _ ?side1 ?side2 ?side3 ?side4 ?side5 ?side6 ?side7 ?side8 ?side9 ?side10 ?side11 ?side12 A55.out).mono ?_);(case side1=>repeat (first|exact(Kd.C_below HR0_0.out HB.out)|(with_reducible first|refine Kd.C_alloc ?_ _|refine Kd.C_drewN ?_ _|refine Kd.C_drew ?_)));(case side2=>exact HC0_0.out);(case side3=>repeat (first|exact(Kd.C_below HR0_1.out HB.out)|(with_reducible first|refine Kd.C_alloc ?_ _|refine Kd.C_drewN ?_ _|refine Kd.C_drew ?_)));(case side4=>exact HC0_1.out);(case side5=>repeat (first|exact(Kd.C_below HR0_2.out HB.out)|(with_reducible first|refine Kd.C_alloc ?_ _|refine Kd.C_drewN ?_ _|refine Kd.C_drew ?_)));(case side6=>exact HC0_2.out);(case side7=>repeat (first|exact(Kd.C_below HR0_3.out HB.out)|(with_reducible first|refine Kd.C_alloc ?_ _|refine Kd.C_drewN ?_ _|refine Kd.C_drew ?_)));(case side8=>exact HC0_3.out);(case side9=>repeat (first|exact(Kd.C_below HR0_4.out HB.out)|(with_reducible first|refine Kd.C_alloc ?_ _|refine Kd.C_drewN ?_ _|refine Kd.C_drew ?_)));(case side10=>exact HC0_4.out);(case side11=>repeat (first|exact(Kd.C_below HR1_4.out HB.out)|(with_reducible first|refine Kd.C_alloc ?_ _|refine Kd.C_drewN ?_ _|refine Kd.C_drew ?_)));(case side12=>exact HC1_4.out);rintro e w59 ⟨rfl,hb⟩;have n0_:=Az.mk (kB_ BK395.out hb);have n1_:=Az.mk (kB_ BK396.out hb);have n2_:=Az.mk (bT_ HB.out hb);clear BK395;clear BK396;clear HB;have BK395:=n0_;have BK396:=n1_;have HB:=n2_;clear n0_ n1_ n2_;(try clear hb);(try clear hb2);(try clear hk);(try clear hi)))
       go_ret
       exact⟨by first|rfl|(simp [errW_none,errW_some] <;> rfl)|(simp [*,errW_none,errW_some] <;> rfl),by repeat (first|(with_reducible first|exact HB.out|apply bA_|apply bN_|apply bD_|refine bS_ ?_ GE395.out|refine bS_ ?_ GE396.out)|exact HB.out)⟩
      rw [if_neg c54] at H
      have c54b0:((a1_5.toList == ([]:List UInt8)) == (a1_0 == 0))=false:=by simpa using c54
      have c54b7:(a1_5.toList.isEmpty == (a1_0 == 0))=false:=by have h_:=c54b0;rw [(show ∀ l_:List UInt8,(l_ == [])=l_.isEmpty from fun l_=>by cases l_ <;> rfl) a1_5.toList] at h_;exact h_
      have c54b8:(!(a1_5.toList.isEmpty == (a1_0 == 0)))=true:=by rw [c54b7];rfl
      (try (have c54b1:decide ((a1_5.toList == ([]:List UInt8))=(a1_0 == 0))=false:=by simpa using c54))
      (try (have c54b2:((a1_5.toList == ([]:List UInt8)) == (a1_0 == 0))=false:=by simpa using c54))
      (try (have c54b3:¬ ((a1_5.toList == ([]:List UInt8))=(a1_0 == 0)):=by simpa using c54))
      clear c54
      obtain rfl:=Option.some.inj H
      have hnb60:=NB396_395.out
      have hnc60:=NB395_396.out
      obtain⟨hcz61_0,hcz61_1,hcz61_2,hcz61_3,hcz61_4,hcz61_5,hcz61_6,hfz61_0,hfz61_1,hfz61_2,hfz61_3,hfz61_4,hfz61_5,hfz61_6⟩:=cf7_ BK396.out
      go_wp2
      go_ret
      exact⟨by first|rfl|(simp [errW_none,errW_some] <;> rfl)|(simp [*,errW_none,errW_some] <;> rfl),by repeat (first|(with_reducible first|exact HB.out|apply bA_|apply bN_|apply bD_|refine bS_ ?_ GE395.out|refine bS_ ?_ GE396.out)|exact HB.out)⟩
   rw [if_neg c34] at H
   have c34b0:=decide_eq_false c34
   clear c34
   have HC64:=Az.mk H
   clear H
   have hnb65:=NB396_395.out
   have hnc65:=NB395_396.out
   obtain⟨hcz66_0,hcz66_1,hcz66_2,hcz66_3,hcz66_4,hcz66_5,hcz66_6,hfz66_0,hfz66_1,hfz66_2,hfz66_3,hfz66_4,hfz66_5,hfz66_6⟩:=cf7_ BK396.out
   go_upto_region 9 with(fail)
   go_cut [90] (fun v90 wc=>∃ (kq:Nat) (x90_63:Bool),v90=.bool x90_63∧Az (arboristref42_within.j2 kq x90_63 l0_0 l0_1 l0_2 l0_3 l0_4 a1_0 a1_1 a1_2 a1_3 l1_4 a1_5 l1_6=some r)∧Az (kq≤kj3)∧Az (wc.heap[gb395]?=some (.cells #[(.slice A0_0 l0_0.length c0_0),(.slice A0_1 l0_1.length c0_1),(.slice A0_2 l0_2.length c0_2),(.slice A0_3 l0_3.length c0_3),(.slice A0_4 l0_4.length c0_4)] 27 (0,0)))∧Az (wc.heap[gb396]?=some (.cells #[.int .i64 a1_0,.int .i64 a1_1,.int .i64 a1_2,.int .i64 a1_3,(.slice A1_4 l1_4.length c1_4),.string a1_5,(.slice A1_6 l1_6.length c1_6)] 32 (0,0)))∧Az (Below w.heap.size w wc))
   case first =>
    have H:=HC64.out
    clear HC64
    by_cases c67:(l1_4.length:Int) > 0
    ·rw [if_pos c67] at H
     have c67b0:=decide_eq_true c67
     have c67b1:decide (0 < l1_4.length)=true:=decide_eq_true (by omega)
     clear c67
     (first|rw [c67b0]|(simp only [i64_w,i32_w];rw [c67b0])|skip)
     have H':=Az.mk H
     clear H
     have hnb68:=NB396_395.out
     have hnc68:=NB395_396.out
     obtain⟨hcz69_0,hcz69_1,hcz69_2,hcz69_3,hcz69_4,hcz69_5,hcz69_6,hfz69_0,hfz69_1,hfz69_2,hfz69_3,hfz69_4,hfz69_5,hfz69_6⟩:=cf7_ BK396.out
     go_wp2
     go_meet
     case rel=>exact⟨_,(true),(by first|rfl|(simp;done)|(simp [*];done)|(refine congrArg Value.bool ?_;exact isE_ _)),H',⟨by have:=HJ3.out;first|omega|exact Nat.le_refl _⟩,⟨by(with_reducible repeat (first|refine kN_ ?_ _|refine kD_ ?_|refine kA_ ?_ _));exact BK395.out⟩,⟨by(with_reducible repeat (first|refine kN_ ?_ _|refine kD_ ?_|refine kA_ ?_ _));exact BK396.out⟩,⟨by repeat (first|(with_reducible first|exact HB.out|apply bA_|apply bN_|apply bD_|refine bS_ ?_ GE395.out|refine bS_ ?_ GE396.out)|exact HB.out)⟩⟩
    rw [if_neg c67] at H
    have c67b0:=decide_eq_false c67
    have c67b1:decide (0 < l1_4.length)=false:=decide_eq_false (by omega)
    clear c67
    (first|rw [c67b0]|(simp only [i64_w,i32_w];rw [c67b0])|skip)
    have H':=Az.mk H
    clear H
    have hnb70:=NB396_395.out
    have hnc70:=NB395_396.out
    obtain⟨hcz71_0,hcz71_1,hcz71_2,hcz71_3,hcz71_4,hcz71_5,hcz71_6,hfz71_0,hfz71_1,hfz71_2,hfz71_3,hfz71_4,hfz71_5,hfz71_6⟩:=cf7_ BK396.out
    go_wp2
    go_meet
    case rel=>exact⟨_,((a1_5.toList != ([]:List UInt8))),(by first|rfl|(simp;done)|(simp [*];done)|(refine congrArg Value.bool ?_;exact isE_ _)),H',⟨by have:=HJ3.out;first|omega|exact Nat.le_refl _⟩,⟨by(with_reducible repeat (first|refine kN_ ?_ _|refine kD_ ?_|refine kA_ ?_ _));exact BK395.out⟩,⟨by(with_reducible repeat (first|refine kN_ ?_ _|refine kD_ ?_|refine kA_ ?_ _));exact BK396.out⟩,⟨by repeat (first|(with_reducible first|exact HB.out|apply bA_|apply bN_|apply bD_|refine bS_ ?_ GE395.out|refine bS_ ?_ GE396.out)|exact HB.out)⟩⟩
   case rest =>
    clear HC64
    try clear c1
    try clear c2
    try clear p2 p2
    try clear c3
    try clear c4
    try clear c5
    try clear c6
    try clear c7
    try clear c7b0
    try clear c8
    try clear c11
    try clear c12
    try clear c12b0
    try clear c12b1
    try clear c13
    try clear c18
    try clear c18b0
    try clear c18b1
    try clear c19
    try clear c24
    try clear c29
    try clear c33
    try clear c34
    try clear c34b0
    try clear c36
    try clear c38
    try clear c38b0
    try clear c38b1
    try clear c39
    try clear c41
    try clear c43
    try clear c44
    try clear c44b0
    try clear c44b1
    try clear c45
    try clear c45b0
    try clear c45b1
    try clear c46
    try clear c48
    try clear c48b0
    try clear c48b1
    try clear c48b2
    try clear c49
    try clear c51
    try clear c53
    try clear c53b0
    try clear c53b1
    try clear c54
    try clear c54b0
    try clear c54b1
    try clear c54b2
    try clear c56
    try clear c60
    try clear c62
    try clear c65
    try clear c67
    try clear c67b0
    try clear c67b1
    try clear c68
    try clear c70
    try clear hcz14_0 hcz14_1 hcz14_2 hcz14_3 hcz14_4 hcz14_5 hcz14_6 hfz14_0 hfz14_1 hfz14_2 hfz14_3 hfz14_4 hfz14_5 hfz14_6
    try clear hcz15_0 hcz15_1 hcz15_2 hcz15_3 hcz15_4 hfz15_0 hfz15_1 hfz15_2 hfz15_3 hfz15_4
    try clear hcz17_0 hcz17_1 hcz17_2 hcz17_3 hcz17_4 hcz17_5 hcz17_6 hfz17_0 hfz17_1 hfz17_2 hfz17_3 hfz17_4 hfz17_5 hfz17_6
    try clear hcz20_0 hcz20_1 hcz20_2 hcz20_3 hcz20_4 hcz20_5 hcz20_6 hfz20_0 hfz20_1 hfz20_2 hfz20_3 hfz20_4 hfz20_5 hfz20_6
    try clear hcz21_0 hcz21_1 hcz21_2 hcz21_3 hcz21_4 hfz21_0 hfz21_1 hfz21_2 hfz21_3 hfz21_4
    try clear hcz23_0 hcz23_1 hcz23_2 hcz23_3 hcz23_4 hcz23_5 hcz23_6 hfz23_0 hfz23_1 hfz23_2 hfz23_3 hfz23_4 hfz23_5 hfz23_6
    try clear hcz25_0 hcz25_1 hcz25_2 hcz25_3 hcz25_4 hcz25_5 hcz25_6 hfz25_0 hfz25_1 hfz25_2 hfz25_3 hfz25_4 hfz25_5 hfz25_6
    try clear hcz26_0 hcz26_1 hcz26_2 hcz26_3 hcz26_4 hfz26_0 hfz26_1 hfz26_2 hfz26_3 hfz26_4
    try clear hcz28_0 hcz28_1 hcz28_2 hcz28_3 hcz28_4 hcz28_5 hcz28_6 hfz28_0 hfz28_1 hfz28_2 hfz28_3 hfz28_4 hfz28_5 hfz28_6
    try clear hcz30_0 hcz30_1 hcz30_2 hcz30_3 hcz30_4 hcz30_5 hcz30_6 hfz30_0 hfz30_1 hfz30_2 hfz30_3 hfz30_4 hfz30_5 hfz30_6
    try clear hcz31_0 hcz31_1 hcz31_2 hcz31_3 hcz31_4 hfz31_0 hfz31_1 hfz31_2 hfz31_3 hfz31_4
    try clear hcz37_0 hcz37_1 hcz37_2 hcz37_3 hcz37_4 hcz37_5 hcz37_6 hfz37_0 hfz37_1 hfz37_2 hfz37_3 hfz37_4 hfz37_5 hfz37_6
    try clear hcz40_0 hcz40_1 hcz40_2 hcz40_3 hcz40_4 hcz40_5 hcz40_6 hfz40_0 hfz40_1 hfz40_2 hfz40_3 hfz40_4 hfz40_5 hfz40_6
    try clear hcz42_0 hcz42_1 hcz42_2 hcz42_3 hcz42_4 hcz42_5 hcz42_6 hfz42_0 hfz42_1 hfz42_2 hfz42_3 hfz42_4 hfz42_5 hfz42_6
    try clear hcz47_0 hcz47_1 hcz47_2 hcz47_3 hcz47_4 hcz47_5 hcz47_6 hfz47_0 hfz47_1 hfz47_2 hfz47_3 hfz47_4 hfz47_5 hfz47_6
    try clear hcz50_0 hcz50_1 hcz50_2 hcz50_3 hcz50_4 hcz50_5 hcz50_6 hfz50_0 hfz50_1 hfz50_2 hfz50_3 hfz50_4 hfz50_5 hfz50_6
    try clear hcz52_0 hcz52_1 hcz52_2 hcz52_3 hcz52_4 hcz52_5 hcz52_6 hfz52_0 hfz52_1 hfz52_2 hfz52_3 hfz52_4 hfz52_5 hfz52_6
    try clear hcz57_0 hcz57_1 hcz57_2 hcz57_3 hcz57_4 hcz57_5 hcz57_6 hfz57_0 hfz57_1 hfz57_2 hfz57_3 hfz57_4 hfz57_5 hfz57_6
    try clear hcz58_0 hcz58_1 hcz58_2 hcz58_3 hcz58_4 hfz58_0 hfz58_1 hfz58_2 hfz58_3 hfz58_4
    try clear hcz61_0 hcz61_1 hcz61_2 hcz61_3 hcz61_4 hcz61_5 hcz61_6 hfz61_0 hfz61_1 hfz61_2 hfz61_3 hfz61_4 hfz61_5 hfz61_6
    try clear hcz63_0 hcz63_1 hcz63_2 hcz63_3 hcz63_4 hcz63_5 hcz63_6 hfz63_0 hfz63_1 hfz63_2 hfz63_3 hfz63_4 hfz63_5 hfz63_6
    try clear hcz66_0 hcz66_1 hcz66_2 hcz66_3 hcz66_4 hcz66_5 hcz66_6 hfz66_0 hfz66_1 hfz66_2 hfz66_3 hfz66_4 hfz66_5 hfz66_6
    try clear hcz69_0 hcz69_1 hcz69_2 hcz69_3 hcz69_4 hcz69_5 hcz69_6 hfz69_0 hfz69_1 hfz69_2 hfz69_3 hfz69_4 hfz69_5 hfz69_6
    try clear hcz71_0 hcz71_1 hcz71_2 hcz71_3 hcz71_4 hcz71_5 hcz71_6 hfz71_0 hfz71_1 hfz71_2 hfz71_3 hfz71_4 hfz71_5 hfz71_6
    try clear hcz9_0 hcz9_1 hcz9_2 hcz9_3 hcz9_4 hcz9_5 hcz9_6 hfz9_0 hfz9_1 hfz9_2 hfz9_3 hfz9_4 hfz9_5 hfz9_6
    obtain⟨kq,x90_63,rfl,HA,HJ63,BK395,BK396,HB⟩:=hcut
    cases kq with
    | zero=>exact absurd HA.out (by simp [arboristref42_within.j2])
    | succ kj63 =>
     have H:=HA.out
     clear HA
     simp only [arboristref42_within.j2] at H
     by_cases c72:x90_63=true
     ·subst c72
      have H1:(some false)=some r:=by rw [if_pos rfl] at H;exact H
      clear H
      have H:=H1
      clear H1
      obtain rfl:=Option.some.inj H
      go_wp2
      go_ret
      exact⟨by first|rfl|(simp [errW_none,errW_some] <;> rfl)|(simp [*,errW_none,errW_some] <;> rfl),by repeat (first|(with_reducible first|exact HB.out|apply bA_|apply bN_|apply bD_|refine bS_ ?_ GE395.out|refine bS_ ?_ GE396.out)|exact HB.out)⟩
     replace c72:=Bool.eq_false_iff.mpr c72
     subst c72
     have H1:(arboristref42_within.l0 kj63 0 l0_0 l0_1 l0_2 l0_3 l0_4 a1_0 a1_1 a1_2 a1_3 l1_4 a1_5 l1_6)=some r:=by rw [if_neg (show ¬ (false=true) by decide)] at H;exact H
     clear H
     have H:=H1
     clear H1
     have H':=Az.mk H
     clear H
     go_wp2
     go_loopg [7] kj63 (fun kq v7 w'=>∃ (x7_3:Int),v7=.int .i64 x7_3∧Az (arboristref42_within.l0 kq x7_3 l0_0 l0_1 l0_2 l0_3 l0_4 a1_0 a1_1 a1_2 a1_3 l1_4 a1_5 l1_6=some r)∧Az (kq≤kj63)∧Az (w'.heap[gb395]?=some (.cells #[(.slice A0_0 l0_0.length c0_0),(.slice A0_1 l0_1.length c0_1),(.slice A0_2 l0_2.length c0_2),(.slice A0_3 l0_3.length c0_3),(.slice A0_4 l0_4.length c0_4)] 27 (0,0)))∧Az (w'.heap[gb396]?=some (.cells #[.int .i64 a1_0,.int .i64 a1_1,.int .i64 a1_2,.int .i64 a1_3,(.slice A1_4 l1_4.length c1_4),.string a1_5,(.slice A1_6 l1_6.length c1_6)] 32 (0,0)))∧Az (Below w.heap.size w w'))
     case atStart=>exact⟨(0),(by first|rfl|(simp;done)|(simp [*];done)|(refine congrArg Value.bool ?_;exact isE_ _)),H',⟨Nat.le_refl _⟩,⟨by(with_reducible repeat (first|refine kN_ ?_ _|refine kD_ ?_|refine kA_ ?_ _));exact BK395.out⟩,⟨by(with_reducible repeat (first|refine kN_ ?_ _|refine kD_ ?_|refine kA_ ?_ _));exact BK396.out⟩,⟨by repeat (first|(with_reducible first|exact HB.out|apply bA_|apply bN_|apply bD_|refine bS_ ?_ GE395.out|refine bS_ ?_ GE396.out)|exact HB.out)⟩⟩
     case round =>
      clear H'
      try clear c1
      try clear c2
      try clear p2 p2
      try clear c3
      try clear c4
      try clear c5
      try clear c6
      try clear c7
      try clear c7b0
      try clear c8
      try clear c11
      try clear c12
      try clear c12b0
      try clear c12b1
      try clear c13
      try clear c18
      try clear c18b0
      try clear c18b1
      try clear c19
      try clear c24
      try clear c29
      try clear c33
      try clear c34
      try clear c34b0
      try clear c36
      try clear c38
      try clear c38b0
      try clear c38b1
      try clear c39
      try clear c41
      try clear c43
      try clear c44
      try clear c44b0
      try clear c44b1
      try clear c45
      try clear c45b0
      try clear c45b1
      try clear c46
      try clear c48
      try clear c48b0
      try clear c48b1
      try clear c48b2
      try clear c49
      try clear c51
      try clear c53
      try clear c53b0
      try clear c53b1
      try clear c54
      try clear c54b0
      try clear c54b1
      try clear c54b2
      try clear c56
      try clear c60
      try clear c62
      try clear c65
      try clear c67
      try clear c67b0
      try clear c67b1
      try clear c68
      try clear c70
      try clear c72
      try clear hcz14_0 hcz14_1 hcz14_2 hcz14_3 hcz14_4 hcz14_5 hcz14_6 hfz14_0 hfz14_1 hfz14_2 hfz14_3 hfz14_4 hfz14_5 hfz14_6
      try clear hcz15_0 hcz15_1 hcz15_2 hcz15_3 hcz15_4 hfz15_0 hfz15_1 hfz15_2 hfz15_3 hfz15_4
      try clear hcz17_0 hcz17_1 hcz17_2 hcz17_3 hcz17_4 hcz17_5 hcz17_6 hfz17_0 hfz17_1 hfz17_2 hfz17_3 hfz17_4 hfz17_5 hfz17_6
      try clear hcz20_0 hcz20_1 hcz20_2 hcz20_3 hcz20_4 hcz20_5 hcz20_6 hfz20_0 hfz20_1 hfz20_2 hfz20_3 hfz20_4 hfz20_5 hfz20_6
      try clear hcz21_0 hcz21_1 hcz21_2 hcz21_3 hcz21_4 hfz21_0 hfz21_1 hfz21_2 hfz21_3 hfz21_4
      try clear hcz23_0 hcz23_1 hcz23_2 hcz23_3 hcz23_4 hcz23_5 hcz23_6 hfz23_0 hfz23_1 hfz23_2 hfz23_3 hfz23_4 hfz23_5 hfz23_6
      try clear hcz25_0 hcz25_1 hcz25_2 hcz25_3 hcz25_4 hcz25_5 hcz25_6 hfz25_0 hfz25_1 hfz25_2 hfz25_3 hfz25_4 hfz25_5 hfz25_6
      try clear hcz26_0 hcz26_1 hcz26_2 hcz26_3 hcz26_4 hfz26_0 hfz26_1 hfz26_2 hfz26_3 hfz26_4
      try clear hcz28_0 hcz28_1 hcz28_2 hcz28_3 hcz28_4 hcz28_5 hcz28_6 hfz28_0 hfz28_1 hfz28_2 hfz28_3 hfz28_4 hfz28_5 hfz28_6
      try clear hcz30_0 hcz30_1 hcz30_2 hcz30_3 hcz30_4 hcz30_5 hcz30_6 hfz30_0 hfz30_1 hfz30_2 hfz30_3 hfz30_4 hfz30_5 hfz30_6
      try clear hcz31_0 hcz31_1 hcz31_2 hcz31_3 hcz31_4 hfz31_0 hfz31_1 hfz31_2 hfz31_3 hfz31_4
      try clear hcz37_0 hcz37_1 hcz37_2 hcz37_3 hcz37_4 hcz37_5 hcz37_6 hfz37_0 hfz37_1 hfz37_2 hfz37_3 hfz37_4 hfz37_5 hfz37_6
      try clear hcz40_0 hcz40_1 hcz40_2 hcz40_3 hcz40_4 hcz40_5 hcz40_6 hfz40_0 hfz40_1 hfz40_2 hfz40_3 hfz40_4 hfz40_5 hfz40_6
      try clear hcz42_0 hcz42_1 hcz42_2 hcz42_3 hcz42_4 hcz42_5 hcz42_6 hfz42_0 hfz42_1 hfz42_2 hfz42_3 hfz42_4 hfz42_5 hfz42_6
      try clear hcz47_0 hcz47_1 hcz47_2 hcz47_3 hcz47_4 hcz47_5 hcz47_6 hfz47_0 hfz47_1 hfz47_2 hfz47_3 hfz47_4 hfz47_5 hfz47_6
      try clear hcz50_0 hcz50_1 hcz50_2 hcz50_3 hcz50_4 hcz50_5 hcz50_6 hfz50_0 hfz50_1 hfz50_2 hfz50_3 hfz50_4 hfz50_5 hfz50_6
      try clear hcz52_0 hcz52_1 hcz52_2 hcz52_3 hcz52_4 hcz52_5 hcz52_6 hfz52_0 hfz52_1 hfz52_2 hfz52_3 hfz52_4 hfz52_5 hfz52_6
      try clear hcz57_0 hcz57_1 hcz57_2 hcz57_3 hcz57_4 hcz57_5 hcz57_6 hfz57_0 hfz57_1 hfz57_2 hfz57_3 hfz57_4 hfz57_5 hfz57_6
      try clear hcz58_0 hcz58_1 hcz58_2 hcz58_3 hcz58_4 hfz58_0 hfz58_1 hfz58_2 hfz58_3 hfz58_4
      try clear hcz61_0 hcz61_1 hcz61_2 hcz61_3 hcz61_4 hcz61_5 hcz61_6 hfz61_0 hfz61_1 hfz61_2 hfz61_3 hfz61_4 hfz61_5 hfz61_6
      try clear hcz63_0 hcz63_1 hcz63_2 hcz63_3 hcz63_4 hcz63_5 hcz63_6 hfz63_0 hfz63_1 hfz63_2 hfz63_3 hfz63_4 hfz63_5 hfz63_6
      try clear hcz66_0 hcz66_1 hcz66_2 hcz66_3 hcz66_4 hcz66_5 hcz66_6 hfz66_0 hfz66_1 hfz66_2 hfz66_3 hfz66_4 hfz66_5 hfz66_6
      try clear hcz69_0 hcz69_1 hcz69_2 hcz69_3 hcz69_4 hcz69_5 hcz69_6 hfz69_0 hfz69_1 hfz69_2 hfz69_3 hfz69_4 hfz69_5 hfz69_6
      try clear hcz71_0 hcz71_1 hcz71_2 hcz71_3 hcz71_4 hcz71_5 hcz71_6 hfz71_0 hfz71_1 hfz71_2 hfz71_3 hfz71_4 hfz71_5 hfz71_6
      try clear hcz9_0 hcz9_1 hcz9_2 hcz9_3 hcz9_4 hcz9_5 hcz9_6 hfz9_0 hfz9_1 hfz9_2 hfz9_3 hfz9_4 hfz9_5 hfz9_6
      obtain⟨x7_3,rfl,HA,HK3,BK395,BK396,HB⟩:=hrel
      cases gk with
      | zero=>exact absurd HA.out (by simp [arboristref42_within.l0])
      | succ k3 =>
       have H:=HA.out
       clear HA
       simp only [arboristref42_within.l0] at H
       by_cases c73:x7_3 < (l1_6.length:Int)
       rotate_left
       ·rw [if_neg c73] at H
        have c73b0:=decide_eq_false c73
        clear c73
        by_cases c85:a1_3=2
        ·rw [if_pos c85] at H
         have c85b0:=beq_iff_eq.mpr c85
         have c85b1:=bne_eq_false_iff_eq.mpr c85
         clear c85
         obtain rfl:=Option.some.inj H
         have hnb86:=NB396_395.out
         have hnc86:=NB395_396.out
         obtain⟨hcz87_0,hcz87_1,hcz87_2,hcz87_3,hcz87_4,hcz87_5,hcz87_6,hfz87_0,hfz87_1,hfz87_2,hfz87_3,hfz87_4,hfz87_5,hfz87_6⟩:=cf7_ BK396.out
         go_wp2
         go_ret
         exact⟨by first|rfl|(simp [errW_none,errW_some] <;> rfl)|(simp [*,errW_none,errW_some] <;> rfl),by repeat (first|(with_reducible first|exact HB.out|apply bA_|apply bN_|apply bD_|refine bS_ ?_ GE395.out|refine bS_ ?_ GE396.out)|exact HB.out)⟩
        rw [if_neg c85] at H
        have c85b0:=beq_eq_false_iff_ne.mpr c85
        have c85b1:=bne_iff_ne.mpr c85
        by_cases c88:a1_3=0
        ·rw [if_pos c88] at H
         have c88b0:=beq_iff_eq.mpr c88
         have c88b1:=bne_eq_false_iff_eq.mpr c88
         clear c88
         replace H:=Option.bind_eq_some_iff.mp H
         obtain⟨t401,A890,H⟩:=H
         replace H:(some t401)=some r:=H
         have A89:=Az.mk A890
         clear A890
         obtain rfl:=Option.some.inj H
         have hnb90:=NB396_395.out
         have hnc90:=NB395_396.out
         obtain⟨hcz91_0,hcz91_1,hcz91_2,hcz91_3,hcz91_4,hcz91_5,hcz91_6,hfz91_0,hfz91_1,hfz91_2,hfz91_3,hfz91_4,hfz91_5,hfz91_6⟩:=cf7_ BK396.out
         obtain⟨hcz92_0,hcz92_1,hcz92_2,hcz92_3,hcz92_4,hfz92_0,hfz92_1,hfz92_2,hfz92_3,hfz92_4⟩:=cf5_ BK395.out
         go_wp2_with (first|(go_at_call 53;(with_reducible refine(arboristref42_byRule.calls k3 _ _ l0_0 _ _ l0_1 _ _ l0_2 _ _ l0_3 _ _ l0_4 a1_0 a1_1 a1_2 a1_3 _ _ l1_4 a1_5 _ _ l1_6 t401 _ ?side1 ?side2 ?side3 ?side4 ?side5 ?side6 ?side7 ?side8 ?side9 ?side10 ?side11 ?side12 ?side13 ?side14 A89.out).mono ?_);(case side1=>repeat (first|exact(Kd.C_below HR0_0.out HB.out)|(with_reducible first|refine Kd.C_alloc ?_ _|refine Kd.C_drewN ?_ _|refine Kd.C_drew ?_)));(case side2=>exact HC0_0.out);(case side3=>repeat (first|exact(Kd.C_below HR0_1.out HB.out)|(with_reducible first|refine Kd.C_alloc ?_ _|refine Kd.C_drewN ?_ _|refine Kd.C_drew ?_)));(case side4=>exact HC0_1.out);(case side5=>repeat (first|exact(Kd.C_below HR0_2.out HB.out)|(with_reducible first|refine Kd.C_alloc ?_ _|refine Kd.C_drewN ?_ _|refine Kd.C_drew ?_)));(case side6=>exact HC0_2.out);(case side7=>repeat (first|exact(Kd.C_below HR0_3.out HB.out)|(with_reducible first|refine Kd.C_alloc ?_ _|refine Kd.C_drewN ?_ _|refine Kd.C_drew ?_)));(case side8=>exact HC0_3.out);(case side9=>repeat (first|exact(Kd.C_below HR0_4.out HB.out)|(with_reducible first|refine Kd.C_alloc ?_ _|refine Kd.C_drewN ?_ _|refine Kd.C_drew ?_)));(case side10=>exact HC0_4.out);(case side11=>repeat (first|exact(Kd.C_below HR1_4.out HB.out)|(with_reducible first|refine Kd.C_alloc ?_ _|refine Kd.C_drewN ?_ _|refine Kd.C_drew ?_)));(case side12=>exact HC1_4.out);(case side13=>repeat (first|exact(Kd.C_below HR1_6.out HB.out)|(with_reducible first|refine Kd.C_alloc ?_ _|refine Kd.C_drewN ?_ _|refine Kd.C_drew ?_)));(case side14=>exact HC1_6.out);rintro e w93 ⟨rfl,hb⟩;have n0_:=Az.mk (kB_ BK395.out hb);have n1_:=Az.mk (kB_ BK396.out hb);have n2_:=Az.mk (bT_ HB.out hb);clear BK395;clear BK396;clear HB;have BK395:=n0_;have BK396:=n1_;have HB:=n2_;clear n0_ n1_ n2_;(try clear hb);(try clear hb2);(try clear hk);(try clear hi)))
         go_ret
         exact⟨by first|rfl|(simp [errW_none,errW_some] <;> rfl)|(simp [*,errW_none,errW_some] <;> rfl),by repeat (first|(with_reducible first|exact HB.out|apply bA_|apply bN_|apply bD_|refine bS_ ?_ GE395.out|refine bS_ ?_ GE396.out)|exact HB.out)⟩
        rw [if_neg c88] at H
        have c88b0:=beq_eq_false_iff_ne.mpr c88
        have c88b1:=bne_iff_ne.mpr c88
        obtain rfl:=Option.some.inj H
        have hnb94:=NB396_395.out
        have hnc94:=NB395_396.out
        obtain⟨hcz95_0,hcz95_1,hcz95_2,hcz95_3,hcz95_4,hcz95_5,hcz95_6,hfz95_0,hfz95_1,hfz95_2,hfz95_3,hfz95_4,hfz95_5,hfz95_6⟩:=cf7_ BK396.out
        go_wp2
        go_ret
        exact⟨by first|rfl|(simp [errW_none,errW_some] <;> rfl)|(simp [*,errW_none,errW_some] <;> rfl),by repeat (first|(with_reducible first|exact HB.out|apply bA_|apply bN_|apply bD_|refine bS_ ?_ GE395.out|refine bS_ ?_ GE396.out)|exact HB.out)⟩
       rw [if_pos c73] at H
       have c73b0:=decide_eq_true c73
       clear c73
       by_cases c74:0≤x7_3
       rotate_left
       ·rw [if_neg c74] at H
        exact absurd H (by simp)
       rw [if_pos c74] at H
       have c74b0:=decide_eq_true c74
       clear c74
       replace H:=Option.bind_eq_some_iff.mp H
       obtain⟨t400,A750,H⟩:=H
       replace H:(if t400=true then(arboristref42_within.l0 k3 (wrap64 (x7_3 + 1)) l0_0 l0_1 l0_2 l0_3 l0_4 a1_0 a1_1 a1_2 a1_3 l1_4 a1_5 l1_6)else(some false))=some r:=H
       have A75:=Az.mk A750
       clear A750
       by_cases c76:t400=true
       ·subst c76
        have H1:(arboristref42_within.l0 k3 (wrap64 (x7_3 + 1)) l0_0 l0_1 l0_2 l0_3 l0_4 a1_0 a1_1 a1_2 a1_3 l1_4 a1_5 l1_6)=some r:=by rw [if_pos rfl] at H;exact H
        clear H
        have H:=H1
        clear H1
        have H':=Az.mk H
        clear H
        have hnb77:=NB396_395.out
        have hnc77:=NB395_396.out
        obtain⟨hcz78_0,hcz78_1,hcz78_2,hcz78_3,hcz78_4,hcz78_5,hcz78_6,hfz78_0,hfz78_1,hfz78_2,hfz78_3,hfz78_4,hfz78_5,hfz78_6⟩:=cf7_ BK396.out
        try go_wp2
        have n0_:=Az.mk (kD_ BK395.out)
        have n1_:=Az.mk (kD_ BK396.out)
        have n2_:=Az.mk (bD_ HB.out)
        clear BK395
        clear BK396
        clear HB
        have BK395:=n0_
        have BK396:=n1_
        have HB:=n2_
        clear n0_ n1_ n2_
        have p399:0≤(x7_3:Int):=of_decide_eq_true (by assumption)
        have q399:x7_3 < (l1_6.length:Int):=of_decide_eq_true (by assumption)
        obtain⟨ad399,A399_4,c399_4,A399_6,c399_6,e399,hx399_0,hx399_1,hx399_2,hx399_3,hx399_4,hx399_5,hx399_6,hl399_4,hi399_4,hl399_6,hi399_6⟩:=at_T32 HR1_6.out x7_3 p399 q399
        have hw399_6:=hx399_6
        have hw399_5:=hx399_5
        have hw399_4:=hx399_4
        have hw399_3:=hx399_3
        have hw399_2:=hx399_2
        have hw399_1:=hx399_1
        have hw399_0:=hx399_0
        cases e399
        replace hx399_0:=bc_ HB.out hx399_0
        replace hx399_1:=bc_ HB.out hx399_1
        replace hx399_2:=bc_ HB.out hx399_2
        replace hx399_3:=bc_ HB.out hx399_3
        replace hx399_4:=bc_ HB.out hx399_4
        replace hx399_5:=bc_ HB.out hx399_5
        replace hx399_6:=bc_ HB.out hx399_6
        have HR399_4:=Az.mk hi399_4
        have HC399_4:=Az.mk hl399_4
        clear hi399_4 hl399_4
        have HR399_6:=Az.mk hi399_6
        have HC399_6:=Az.mk hl399_6
        clear hi399_6 hl399_6
        replace p399:=eq_true p399
        replace q399:=eq_true q399
        refine start_ (n:=8) (S:=fun w'=>w'.cell? ⟨gb395,0,none⟩=some (.slice A0_0 l0_0.length c0_0)∧w'.cell? ⟨gb395,1,none⟩=some (.slice A0_1 l0_1.length c0_1)∧w'.cell? ⟨gb395,2,none⟩=some (.slice A0_2 l0_2.length c0_2)∧w'.cell? ⟨gb395,3,none⟩=some (.slice A0_3 l0_3.length c0_3)∧w'.cell? ⟨gb395,4,none⟩=some (.slice A0_4 l0_4.length c0_4)∧w'.cell? ⟨gb396,0,none⟩=some (.int .i64 a1_0)∧w'.cell? ⟨gb396,1,none⟩=some (.int .i64 a1_1)∧w'.cell? ⟨gb396,2,none⟩=some (.int .i64 a1_2)∧w'.cell? ⟨gb396,3,none⟩=some (.int .i64 a1_3)∧w'.cell? ⟨gb396,4,none⟩=some (.slice A1_4 l1_4.length c1_4)∧w'.cell? ⟨gb396,5,none⟩=some (.string a1_5)∧w'.cell? ⟨gb396,6,none⟩=some (.slice (some ad399) l1_6.length c1_6)∧w'.cell? (ad399.add ((x7_3).toNat * 7))=some (.int .i64 ((rd_T32 l1_6 x7_3).f0))∧w'.cell? ⟨(ad399.add ((x7_3).toNat * 7)).block,(ad399.add ((x7_3).toNat * 7)).off + 1,none⟩=some (.int .i64 ((rd_T32 l1_6 x7_3).f1))∧w'.cell? ⟨(ad399.add ((x7_3).toNat * 7)).block,(ad399.add ((x7_3).toNat * 7)).off + 2,none⟩=some (.int .i64 ((rd_T32 l1_6 x7_3).f2))∧w'.cell? ⟨(ad399.add ((x7_3).toNat * 7)).block,(ad399.add ((x7_3).toNat * 7)).off + 3,none⟩=some (.int .i64 ((rd_T32 l1_6 x7_3).f3))∧w'.cell? ⟨(ad399.add ((x7_3).toNat * 7)).block,(ad399.add ((x7_3).toNat * 7)).off + 4,none⟩=some (.slice A399_4 ((rd_T32 l1_6 x7_3).f4).length c399_4)∧w'.cell? ⟨(ad399.add ((x7_3).toNat * 7)).block,(ad399.add ((x7_3).toNat * 7)).off + 5,none⟩=some (.string ((rd_T32 l1_6 x7_3).f5))∧w'.cell? ⟨(ad399.add ((x7_3).toNat * 7)).block,(ad399.add ((x7_3).toNat * 7)).off + 6,none⟩=some (.slice A399_6 ((rd_T32 l1_6 x7_3).f6).length c399_6)) (ds:=[]) #[Z,Z,Z,Z,Z,Z,Z,Z] (by kernel_rfl) rfl rfl ⟨(bC_ BK395.out 0).trans rfl,(bC_ BK395.out 1).trans rfl,(bC_ BK395.out 2).trans rfl,(bC_ BK395.out 3).trans rfl,(bC_ BK395.out 4).trans rfl,(bC_ BK396.out 0).trans rfl,(bC_ BK396.out 1).trans rfl,(bC_ BK396.out 2).trans rfl,(bC_ BK396.out 3).trans rfl,(bC_ BK396.out 4).trans rfl,(bC_ BK396.out 5).trans rfl,(bC_ BK396.out 6).trans rfl,(bc_ HB.out hw399_0),(bc_ HB.out hw399_1),(bc_ HB.out hw399_2),(bc_ HB.out hw399_3),(bc_ HB.out hw399_4),(bc_ HB.out hw399_5),(bc_ HB.out hw399_6)⟩ (fun hHeld=>?_);refine with_tabW arboristref42_within.tab14 arboristref42_within.bits14 (fun HT_ HW_=>?_)
        generalize wr.drew=w79 at BK395 BK396 HB HR399_4 HR399_6 hx399_0 hx399_1 hx399_2 hx399_3 hx399_4 hx399_5 hx399_6 hHeld ⊢
        refine pure_ (i:=1) (N:=some 99) (v:=?_) (a':=?_) #[Z,Y,Z,Z,Z,Z,Z,Z] rfl rfl (any_of HT_.out (by kernel_rfl)) (fun _ _ _ h=>h) (Or.inl ⟨by rfl,?_⟩) ?_ ?_
        rotate_left
        ·intro w'
         go_simp
         with_reducible rfl
        rotate_left
        ·simp only [Act.put,sT_,s0_,sC_,i64_w,i32_w]
         rfl
        refine pure_ (i:=3) (N:=some 101) (v:=?_) (a':=?_) #[Z,Y,Z,Y,Z,Z,Z,Z] rfl rfl (any_of HT_.out (by kernel_rfl)) (fun _ _ _ h=>h) (Or.inl ⟨by rfl,?_⟩) ?_ ?_
        rotate_left
        ·intro w'
         go_simp
         with_reducible rfl
        rotate_left
        ·simp only [Act.put,sT_,s0_,sC_,i64_w,i32_w]
         rfl
        refine take_ (i:=0) (N:=some 98) (v:=?_) (a':=?_) #[Y,Y,Z,Y,Z,Z,Z,Z] rfl rfl (take_ofW HT_.out HW_.out (by kernel_rfl)) (fun _ _ _ h=>h) (Or.inl ⟨by rfl,?_⟩) hHeld ?_ ?_
        rotate_left
        ·rintro w' ⟨s0,s1,s2,s3,s4,s5,s6,s7,s8,s9,s10,s11,s12,s13,s14,s15,s16,s17,s18⟩
         go_simp
         with_reducible rfl
        rotate_left
        ·simp only [Act.put,sT_,s0_,sC_,i64_w,i32_w]
         rfl
        refine take_ (i:=2) (N:=some 100) (v:=?_) (a':=?_) #[Y,Y,Y,Y,Z,Z,Z,Z] rfl rfl (take_ofW HT_.out HW_.out (by kernel_rfl)) (fun _ _ _ h=>h) (Or.inl ⟨by rfl,?_⟩) hHeld ?_ ?_
        rotate_left
        ·rintro w' ⟨s0,s1,s2,s3,s4,s5,s6,s7,s8,s9,s10,s11,s12,s13,s14,s15,s16,s17,s18⟩
         go_simp
         with_reducible rfl
        rotate_left
        ·simp only [Act.put,sT_,s0_,sC_,i64_w,i32_w]
         rfl
        refine pure_ (i:=4) (N:=some 102) (v:=?_) (a':=?_) #[Y,Y,Y,Y,Y,Z,Z,Z] rfl rfl (any_of HT_.out (by kernel_rfl)) (fun _ _ _ h=>h) (Or.inl ⟨by rfl,?_⟩) ?_ ?_
        rotate_left
        ·intro w'
         go_simp
         with_reducible rfl
        rotate_left
        ·simp only [Act.put,sT_,s0_,sC_,i64_w,i32_w]
         rfl
        refine take_ (i:=5) (N:=some 103) (v:=?_) (a':=?_) #[Y,Y,Y,Y,Y,Y,Z,Z] rfl rfl (take_ofW HT_.out HW_.out (by kernel_rfl)) (fun _ _ _ h=>h) (Or.inl ⟨by rfl,?_⟩) hHeld ?_ ?_
        rotate_left
        ·rintro w' ⟨s0,s1,s2,s3,s4,s5,s6,s7,s8,s9,s10,s11,s12,s13,s14,s15,s16,s17,s18⟩
         go_simp
         with_reducible rfl
        rotate_left
        ·simp only [Act.put,sT_,s0_,sC_,i64_w,i32_w]
         rfl
        refine one_ (i:=6) (N:=some 104) #[Y,Y,Y,Y,Y,Y,Y,Z] rfl rfl (one_of HT_.out (by kernel_rfl)) (by decide) (fun K hK=>?_)
        refine goes_ Try.func39 (by kernel_rfl) rfl #[.agg #[.slice A0_0 l0_0.length c0_0,.slice A0_1 l0_1.length c0_1,.slice A0_2 l0_2.length c0_2,.slice A0_3 l0_3.length c0_3,.slice A0_4 l0_4.length c0_4],.agg #[.int .i64 ((rd_T32 l1_6 x7_3).f0),.int .i64 ((rd_T32 l1_6 x7_3).f1),.int .i64 ((rd_T32 l1_6 x7_3).f2),.int .i64 ((rd_T32 l1_6 x7_3).f3),.slice A399_4 ((rd_T32 l1_6 x7_3).f4).length c399_4,.string ((rd_T32 l1_6 x7_3).f5),.slice A399_6 ((rd_T32 l1_6 x7_3).f6).length c399_6],.bool false] (by rfl) rfl rfl (by(try simp only [List.map_toArray,List.map_cons,List.map_nil]);first|done|rfl|(simp only [List.length_drop,List.length_take];rfl)) ?_
        with_reducible refine(ih k3 (by have:=HJ3.out;have:=HJ63.out;have:=HK3.out;omega) _ _ l0_0 _ _ l0_1 _ _ l0_2 _ _ l0_3 _ _ l0_4 ((rd_T32 l1_6 x7_3).f0) ((rd_T32 l1_6 x7_3).f1) ((rd_T32 l1_6 x7_3).f2) ((rd_T32 l1_6 x7_3).f3) _ _ ((rd_T32 l1_6 x7_3).f4) ((rd_T32 l1_6 x7_3).f5) _ _ ((rd_T32 l1_6 x7_3).f6) false true _ ?side1 ?side2 ?side3 ?side4 ?side5 ?side6 ?side7 ?side8 ?side9 ?side10 ?side11 ?side12 ?side13 ?side14 A75.out).mono ?_
        (case side1=>repeat (first|exact(Kd.C_below HR0_0.out HB.out)|(with_reducible first|refine Kd.C_alloc ?_ _|refine Kd.C_drewN ?_ _|refine Kd.C_drew ?_)))
        (case side2=>exact HC0_0.out)
        (case side3=>repeat (first|exact(Kd.C_below HR0_1.out HB.out)|(with_reducible first|refine Kd.C_alloc ?_ _|refine Kd.C_drewN ?_ _|refine Kd.C_drew ?_)))
        (case side4=>exact HC0_1.out)
        (case side5=>repeat (first|exact(Kd.C_below HR0_2.out HB.out)|(with_reducible first|refine Kd.C_alloc ?_ _|refine Kd.C_drewN ?_ _|refine Kd.C_drew ?_)))
        (case side6=>exact HC0_2.out)
        (case side7=>repeat (first|exact(Kd.C_below HR0_3.out HB.out)|(with_reducible first|refine Kd.C_alloc ?_ _|refine Kd.C_drewN ?_ _|refine Kd.C_drew ?_)))
        (case side8=>exact HC0_3.out)
        (case side9=>repeat (first|exact(Kd.C_below HR0_4.out HB.out)|(with_reducible first|refine Kd.C_alloc ?_ _|refine Kd.C_drewN ?_ _|refine Kd.C_drew ?_)))
        (case side10=>exact HC0_4.out)
        (case side11=>repeat (first|exact(Kd.C_below HR399_4.out HB.out)|(with_reducible first|refine Kd.C_alloc ?_ _|refine Kd.C_drewN ?_ _|refine Kd.C_drew ?_)))
        (case side12=>exact HC399_4.out)
        (case side13=>repeat (first|exact(Kd.C_below HR399_6.out HB.out)|(with_reducible first|refine Kd.C_alloc ?_ _|refine Kd.C_drewN ?_ _|refine Kd.C_drew ?_)))
        (case side14=>exact HC399_6.out)
        rintro e w80 ⟨rfl,hb⟩
        refine⟨_,rfl,?_⟩
        have n0_:=Az.mk (kB_ BK395.out hb)
        have n1_:=Az.mk (kB_ BK396.out hb)
        have n2_:=Az.mk (bT_ HB.out hb)
        clear BK395
        clear BK396
        clear HB
        have BK395:=n0_
        have BK396:=n1_
        have HB:=n2_
        clear n0_ n1_ n2_
        (try clear hb)
        (try clear hb2)
        (try clear hk)
        (try clear hi)
        refine hK.out _ _ ⟨(bC_ BK395.out 0).trans rfl,(bC_ BK395.out 1).trans rfl,(bC_ BK395.out 2).trans rfl,(bC_ BK395.out 3).trans rfl,(bC_ BK395.out 4).trans rfl,(bC_ BK396.out 0).trans rfl,(bC_ BK396.out 1).trans rfl,(bC_ BK396.out 2).trans rfl,(bC_ BK396.out 3).trans rfl,(bC_ BK396.out 4).trans rfl,(bC_ BK396.out 5).trans rfl,(bC_ BK396.out 6).trans rfl,(bc_ HB.out hw399_0),(bc_ HB.out hw399_1),(bc_ HB.out hw399_2),(bc_ HB.out hw399_3),(bc_ HB.out hw399_4),(bc_ HB.out hw399_5),(bc_ HB.out hw399_6)⟩ (fun hHeld=>?_)
        clear hK K
        refine norm_ (a':=?_) ?_ ?_
        rotate_left
        ·show Act.put _ (some 104) _=_
         simp only [Act.put,sT_,s0_,sC_,i64_w,i32_w]
         rfl
        refine pure_ (i:=7) (N:=some 105) (v:=?_) (a':=?_) #[Y,Y,Y,Y,Y,Y,Y,Y] rfl rfl (any_of HT_.out (by kernel_rfl)) (fun _ _ _ h=>h) (Or.inl ⟨by rfl,?_⟩) ?_ ?_
        rotate_left
        ·intro w'
         go_simp
         with_reducible rfl
        rotate_left
        ·simp only [Act.put,sT_,s0_,sC_,i64_w,i32_w]
         rfl
        refine done_ (done_of HT_.out (by kernel_rfl)) ?_
        try go_wp2
        go_roundg k3
        case measure=>have:=HJ3.out;have:=HJ63.out;have:=HK3.out;omega
        case rel=>exact⟨(wrap64 (x7_3 + 1)),(by first|rfl|(simp;done)|(simp [*];done)|(refine congrArg Value.bool ?_;exact isE_ _)),H',⟨by have:=HJ3.out;have:=HJ63.out;have:=HK3.out;omega⟩,⟨by(with_reducible repeat (first|refine kN_ ?_ _|refine kD_ ?_|refine kA_ ?_ _));exact BK395.out⟩,⟨by(with_reducible repeat (first|refine kN_ ?_ _|refine kD_ ?_|refine kA_ ?_ _));exact BK396.out⟩,⟨by repeat (first|(with_reducible first|exact HB.out|apply bA_|apply bN_|apply bD_|refine bS_ ?_ GE395.out|refine bS_ ?_ GE396.out)|exact HB.out)⟩⟩
       replace c76:=Bool.eq_false_iff.mpr c76
       subst c76
       have H1:(some false)=some r:=by rw [if_neg (show ¬ (false=true) by decide)] at H;exact H
       clear H
       have H:=H1
       clear H1
       obtain rfl:=Option.some.inj H
       have hnb81:=NB396_395.out
       have hnc81:=NB395_396.out
       obtain⟨hcz82_0,hcz82_1,hcz82_2,hcz82_3,hcz82_4,hcz82_5,hcz82_6,hfz82_0,hfz82_1,hfz82_2,hfz82_3,hfz82_4,hfz82_5,hfz82_6⟩:=cf7_ BK396.out
       try go_wp2
       have n0_:=Az.mk (kD_ BK395.out)
       have n1_:=Az.mk (kD_ BK396.out)
       have n2_:=Az.mk (bD_ HB.out)
       clear BK395
       clear BK396
       clear HB
       have BK395:=n0_
       have BK396:=n1_
       have HB:=n2_
       clear n0_ n1_ n2_
       have p399:0≤(x7_3:Int):=of_decide_eq_true (by assumption)
       have q399:x7_3 < (l1_6.length:Int):=of_decide_eq_true (by assumption)
       obtain⟨ad399,A399_4,c399_4,A399_6,c399_6,e399,hx399_0,hx399_1,hx399_2,hx399_3,hx399_4,hx399_5,hx399_6,hl399_4,hi399_4,hl399_6,hi399_6⟩:=at_T32 HR1_6.out x7_3 p399 q399
       have hw399_6:=hx399_6
       have hw399_5:=hx399_5
       have hw399_4:=hx399_4
       have hw399_3:=hx399_3
       have hw399_2:=hx399_2
       have hw399_1:=hx399_1
       have hw399_0:=hx399_0
       cases e399
       replace hx399_0:=bc_ HB.out hx399_0
       replace hx399_1:=bc_ HB.out hx399_1
       replace hx399_2:=bc_ HB.out hx399_2
       replace hx399_3:=bc_ HB.out hx399_3
       replace hx399_4:=bc_ HB.out hx399_4
       replace hx399_5:=bc_ HB.out hx399_5
       replace hx399_6:=bc_ HB.out hx399_6
       have HR399_4:=Az.mk hi399_4
       have HC399_4:=Az.mk hl399_4
       clear hi399_4 hl399_4
       have HR399_6:=Az.mk hi399_6
       have HC399_6:=Az.mk hl399_6
       clear hi399_6 hl399_6
       replace p399:=eq_true p399
       replace q399:=eq_true q399
       refine start_ (n:=8) (S:=fun w'=>w'.cell? ⟨gb395,0,none⟩=some (.slice A0_0 l0_0.length c0_0)∧w'.cell? ⟨gb395,1,none⟩=some (.slice A0_1 l0_1.length c0_1)∧w'.cell? ⟨gb395,2,none⟩=some (.slice A0_2 l0_2.length c0_2)∧w'.cell? ⟨gb395,3,none⟩=some (.slice A0_3 l0_3.length c0_3)∧w'.cell? ⟨gb395,4,none⟩=some (.slice A0_4 l0_4.length c0_4)∧w'.cell? ⟨gb396,0,none⟩=some (.int .i64 a1_0)∧w'.cell? ⟨gb396,1,none⟩=some (.int .i64 a1_1)∧w'.cell? ⟨gb396,2,none⟩=some (.int .i64 a1_2)∧w'.cell? ⟨gb396,3,none⟩=some (.int .i64 a1_3)∧w'.cell? ⟨gb396,4,none⟩=some (.slice A1_4 l1_4.length c1_4)∧w'.cell? ⟨gb396,5,none⟩=some (.string a1_5)∧w'.cell? ⟨gb396,6,none⟩=some (.slice (some ad399) l1_6.length c1_6)∧w'.cell? (ad399.add ((x7_3).toNat * 7))=some (.int .i64 ((rd_T32 l1_6 x7_3).f0))∧w'.cell? ⟨(ad399.add ((x7_3).toNat * 7)).block,(ad399.add ((x7_3).toNat * 7)).off + 1,none⟩=some (.int .i64 ((rd_T32 l1_6 x7_3).f1))∧w'.cell? ⟨(ad399.add ((x7_3).toNat * 7)).block,(ad399.add ((x7_3).toNat * 7)).off + 2,none⟩=some (.int .i64 ((rd_T32 l1_6 x7_3).f2))∧w'.cell? ⟨(ad399.add ((x7_3).toNat * 7)).block,(ad399.add ((x7_3).toNat * 7)).off + 3,none⟩=some (.int .i64 ((rd_T32 l1_6 x7_3).f3))∧w'.cell? ⟨(ad399.add ((x7_3).toNat * 7)).block,(ad399.add ((x7_3).toNat * 7)).off + 4,none⟩=some (.slice A399_4 ((rd_T32 l1_6 x7_3).f4).length c399_4)∧w'.cell? ⟨(ad399.add ((x7_3).toNat * 7)).block,(ad399.add ((x7_3).toNat * 7)).off + 5,none⟩=some (.string ((rd_T32 l1_6 x7_3).f5))∧w'.cell? ⟨(ad399.add ((x7_3).toNat * 7)).block,(ad399.add ((x7_3).toNat * 7)).off + 6,none⟩=some (.slice A399_6 ((rd_T32 l1_6 x7_3).f6).length c399_6)) (ds:=[]) #[Z,Z,Z,Z,Z,Z,Z,Z] (by kernel_rfl) rfl rfl ⟨(bC_ BK395.out 0).trans rfl,(bC_ BK395.out 1).trans rfl,(bC_ BK395.out 2).trans rfl,(bC_ BK395.out 3).trans rfl,(bC_ BK395.out 4).trans rfl,(bC_ BK396.out 0).trans rfl,(bC_ BK396.out 1).trans rfl,(bC_ BK396.out 2).trans rfl,(bC_ BK396.out 3).trans rfl,(bC_ BK396.out 4).trans rfl,(bC_ BK396.out 5).trans rfl,(bC_ BK396.out 6).trans rfl,(bc_ HB.out hw399_0),(bc_ HB.out hw399_1),(bc_ HB.out hw399_2),(bc_ HB.out hw399_3),(bc_ HB.out hw399_4),(bc_ HB.out hw399_5),(bc_ HB.out hw399_6)⟩ (fun hHeld=>?_);refine with_tabW arboristref42_within.tab14 arboristref42_within.bits14 (fun HT_ HW_=>?_)
       generalize wr.drew=w83 at BK395 BK396 HB HR399_4 HR399_6 hx399_0 hx399_1 hx399_2 hx399_3 hx399_4 hx399_5 hx399_6 hHeld ⊢
       refine pure_ (i:=1) (N:=some 99) (v:=?_) (a':=?_) #[Z,Y,Z,Z,Z,Z,Z,Z] rfl rfl (any_of HT_.out (by kernel_rfl)) (fun _ _ _ h=>h) (Or.inl ⟨by rfl,?_⟩) ?_ ?_
       rotate_left
       ·intro w'
        go_simp
        with_reducible rfl
       rotate_left
       ·simp only [Act.put,sT_,s0_,sC_,i64_w,i32_w]
        rfl
       refine pure_ (i:=3) (N:=some 101) (v:=?_) (a':=?_) #[Z,Y,Z,Y,Z,Z,Z,Z] rfl rfl (any_of HT_.out (by kernel_rfl)) (fun _ _ _ h=>h) (Or.inl ⟨by rfl,?_⟩) ?_ ?_
       rotate_left
       ·intro w'
        go_simp
        with_reducible rfl
       rotate_left
       ·simp only [Act.put,sT_,s0_,sC_,i64_w,i32_w]
        rfl
       refine take_ (i:=0) (N:=some 98) (v:=?_) (a':=?_) #[Y,Y,Z,Y,Z,Z,Z,Z] rfl rfl (take_ofW HT_.out HW_.out (by kernel_rfl)) (fun _ _ _ h=>h) (Or.inl ⟨by rfl,?_⟩) hHeld ?_ ?_
       rotate_left
       ·rintro w' ⟨s0,s1,s2,s3,s4,s5,s6,s7,s8,s9,s10,s11,s12,s13,s14,s15,s16,s17,s18⟩
        go_simp
        with_reducible rfl
       rotate_left
       ·simp only [Act.put,sT_,s0_,sC_,i64_w,i32_w]
        rfl
       refine take_ (i:=2) (N:=some 100) (v:=?_) (a':=?_) #[Y,Y,Y,Y,Z,Z,Z,Z] rfl rfl (take_ofW HT_.out HW_.out (by kernel_rfl)) (fun _ _ _ h=>h) (Or.inl ⟨by rfl,?_⟩) hHeld ?_ ?_
       rotate_left
       ·rintro w' ⟨s0,s1,s2,s3,s4,s5,s6,s7,s8,s9,s10,s11,s12,s13,s14,s15,s16,s17,s18⟩
        go_simp
        with_reducible rfl
       rotate_left
       ·simp only [Act.put,sT_,s0_,sC_,i64_w,i32_w]
        rfl
       refine pure_ (i:=4) (N:=some 102) (v:=?_) (a':=?_) #[Y,Y,Y,Y,Y,Z,Z,Z] rfl rfl (any_of HT_.out (by kernel_rfl)) (fun _ _ _ h=>h) (Or.inl ⟨by rfl,?_⟩) ?_ ?_
       rotate_left
       ·intro w'
        go_simp
        with_reducible rfl
       rotate_left
       ·simp only [Act.put,sT_,s0_,sC_,i64_w,i32_w]
        rfl
       refine take_ (i:=5) (N:=some 103) (v:=?_) (a':=?_) #[Y,Y,Y,Y,Y,Y,Z,Z] rfl rfl (take_ofW HT_.out HW_.out (by kernel_rfl)) (fun _ _ _ h=>h) (Or.inl ⟨by rfl,?_⟩) hHeld ?_ ?_
       rotate_left
       ·rintro w' ⟨s0,s1,s2,s3,s4,s5,s6,s7,s8,s9,s10,s11,s12,s13,s14,s15,s16,s17,s18⟩
        go_simp
        with_reducible rfl
       rotate_left
       ·simp only [Act.put,sT_,s0_,sC_,i64_w,i32_w]
        rfl
       refine one_ (i:=6) (N:=some 104) #[Y,Y,Y,Y,Y,Y,Y,Z] rfl rfl (one_of HT_.out (by kernel_rfl)) (by decide) (fun K hK=>?_)
       refine goes_ Try.func39 (by kernel_rfl) rfl #[.agg #[.slice A0_0 l0_0.length c0_0,.slice A0_1 l0_1.length c0_1,.slice A0_2 l0_2.length c0_2,.slice A0_3 l0_3.length c0_3,.slice A0_4 l0_4.length c0_4],.agg #[.int .i64 ((rd_T32 l1_6 x7_3).f0),.int .i64 ((rd_T32 l1_6 x7_3).f1),.int .i64 ((rd_T32 l1_6 x7_3).f2),.int .i64 ((rd_T32 l1_6 x7_3).f3),.slice A399_4 ((rd_T32 l1_6 x7_3).f4).length c399_4,.string ((rd_T32 l1_6 x7_3).f5),.slice A399_6 ((rd_T32 l1_6 x7_3).f6).length c399_6],.bool false] (by rfl) rfl rfl (by(try simp only [List.map_toArray,List.map_cons,List.map_nil]);first|done|rfl|(simp only [List.length_drop,List.length_take];rfl)) ?_
       with_reducible refine(ih k3 (by have:=HJ3.out;have:=HJ63.out;have:=HK3.out;omega) _ _ l0_0 _ _ l0_1 _ _ l0_2 _ _ l0_3 _ _ l0_4 ((rd_T32 l1_6 x7_3).f0) ((rd_T32 l1_6 x7_3).f1) ((rd_T32 l1_6 x7_3).f2) ((rd_T32 l1_6 x7_3).f3) _ _ ((rd_T32 l1_6 x7_3).f4) ((rd_T32 l1_6 x7_3).f5) _ _ ((rd_T32 l1_6 x7_3).f6) false false _ ?side1 ?side2 ?side3 ?side4 ?side5 ?side6 ?side7 ?side8 ?side9 ?side10 ?side11 ?side12 ?side13 ?side14 A75.out).mono ?_
       (case side1=>repeat (first|exact(Kd.C_below HR0_0.out HB.out)|(with_reducible first|refine Kd.C_alloc ?_ _|refine Kd.C_drewN ?_ _|refine Kd.C_drew ?_)))
       (case side2=>exact HC0_0.out)
       (case side3=>repeat (first|exact(Kd.C_below HR0_1.out HB.out)|(with_reducible first|refine Kd.C_alloc ?_ _|refine Kd.C_drewN ?_ _|refine Kd.C_drew ?_)))
       (case side4=>exact HC0_1.out)
       (case side5=>repeat (first|exact(Kd.C_below HR0_2.out HB.out)|(with_reducible first|refine Kd.C_alloc ?_ _|refine Kd.C_drewN ?_ _|refine Kd.C_drew ?_)))
       (case side6=>exact HC0_2.out)
       (case side7=>repeat (first|exact(Kd.C_below HR0_3.out HB.out)|(with_reducible first|refine Kd.C_alloc ?_ _|refine Kd.C_drewN ?_ _|refine Kd.C_drew ?_)))
       (case side8=>exact HC0_3.out)
       (case side9=>repeat (first|exact(Kd.C_below HR0_4.out HB.out)|(with_reducible first|refine Kd.C_alloc ?_ _|refine Kd.C_drewN ?_ _|refine Kd.C_drew ?_)))
       (case side10=>exact HC0_4.out)
       (case side11=>repeat (first|exact(Kd.C_below HR399_4.out HB.out)|(with_reducible first|refine Kd.C_alloc ?_ _|refine Kd.C_drewN ?_ _|refine Kd.C_drew ?_)))
       (case side12=>exact HC399_4.out)
       (case side13=>repeat (first|exact(Kd.C_below HR399_6.out HB.out)|(with_reducible first|refine Kd.C_alloc ?_ _|refine Kd.C_drewN ?_ _|refine Kd.C_drew ?_)))
       (case side14=>exact HC399_6.out)
       rintro e w84 ⟨rfl,hb⟩
       refine⟨_,rfl,?_⟩
       have n0_:=Az.mk (kB_ BK395.out hb)
       have n1_:=Az.mk (kB_ BK396.out hb)
       have n2_:=Az.mk (bT_ HB.out hb)
       clear BK395
       clear BK396
       clear HB
       have BK395:=n0_
       have BK396:=n1_
       have HB:=n2_
       clear n0_ n1_ n2_
       (try clear hb)
       (try clear hb2)
       (try clear hk)
       (try clear hi)
       refine hK.out _ _ ⟨(bC_ BK395.out 0).trans rfl,(bC_ BK395.out 1).trans rfl,(bC_ BK395.out 2).trans rfl,(bC_ BK395.out 3).trans rfl,(bC_ BK395.out 4).trans rfl,(bC_ BK396.out 0).trans rfl,(bC_ BK396.out 1).trans rfl,(bC_ BK396.out 2).trans rfl,(bC_ BK396.out 3).trans rfl,(bC_ BK396.out 4).trans rfl,(bC_ BK396.out 5).trans rfl,(bC_ BK396.out 6).trans rfl,(bc_ HB.out hw399_0),(bc_ HB.out hw399_1),(bc_ HB.out hw399_2),(bc_ HB.out hw399_3),(bc_ HB.out hw399_4),(bc_ HB.out hw399_5),(bc_ HB.out hw399_6)⟩ (fun hHeld=>?_)
       clear hK K
       refine norm_ (a':=?_) ?_ ?_
       rotate_left
       ·show Act.put _ (some 104) _=_
        simp only [Act.put,sT_,s0_,sC_,i64_w,i32_w]
        rfl
       refine pure_ (i:=7) (N:=some 105) (v:=?_) (a':=?_) #[Y,Y,Y,Y,Y,Y,Y,Y] rfl rfl (any_of HT_.out (by kernel_rfl)) (fun _ _ _ h=>h) (Or.inl ⟨by rfl,?_⟩) ?_ ?_
       rotate_left
       ·intro w'
        go_simp
        with_reducible rfl
       rotate_left
       ·simp only [Act.put,sT_,s0_,sC_,i64_w,i32_w]
        rfl
       refine done_ (done_of HT_.out (by kernel_rfl)) ?_
       try go_wp2
       go_ret
       exact⟨by first|rfl|(simp [errW_none,errW_some] <;> rfl)|(simp [*,errW_none,errW_some] <;> rfl),by repeat (first|(with_reducible first|exact HB.out|apply bA_|apply bN_|apply bD_|refine bS_ ?_ GE395.out|refine bS_ ?_ GE396.out)|exact HB.out)⟩
end Go.Proofs.Ytgdbcogbbghjaaa.Q
