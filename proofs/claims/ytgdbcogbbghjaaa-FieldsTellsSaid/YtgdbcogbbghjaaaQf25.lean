import Derived.Test.YtgdbcogbbghjaaaQ0
import Derived.Test.YtgdbcogbbghjaaaQf36
namespace Go.Proofs.Ytgdbcogbbghjaaa.Q
open Go.RowKit Go.Proofs.YtgdbcogbbghjaaaW.PrintWords Go.Proofs.YtgdbcogbbghjaaaW.PrintLast Go.Proofs.YtgdbcogbbghjaaaW.PrintMore
attribute [local go_sem] max2_int min2_int max_two min_two max_three min_three max_four min_four   -- for this text's walks alone
set_option linter.unusedVariables false
set_option linter.unusedSimpArgs false
mutual
def arboristref42_Same.j0:Nat→Bool→Int→Int→Int→Int→List (S53)→ByteArray→List (S32)→Int→Int→Int→Int→List (S53)→ByteArray→List (S32)→Option (Bool)
 | 0,_,_,_,_,_,_,_,_,_,_,_,_,_,_,_=>none
 | k + 1,x55,x223000,x223001,x223002,x223003,x223004,x223005,x223006,x224000,x224001,x224002,x224003,x224004,x224005,x224006=>if x55=true then(some false)else(arboristref42_Same.l0 k 0 x223000 x223001 x223002 x223003 x223004 x223005 x223006 x224000 x224001 x224002 x224003 x224004 x224005 x224006)
def arboristref42_Same.l0:Nat→Int→Int→Int→Int→Int→List (S53)→ByteArray→List (S32)→Int→Int→Int→Int→List (S53)→ByteArray→List (S32)→Option (Bool)
 | 0,_,_,_,_,_,_,_,_,_,_,_,_,_,_,_=>none
 | k + 1,x5,x223000,x223001,x223002,x223003,x223004,x223005,x223006,x224000,x224001,x224002,x224003,x224004,x224005,x224006=>if x5 < (x223006.length:Int)then(if 0≤x5 then(if x5 < (x224006.length:Int)then((arboristref42_Same.f k ((rd_T32 x223006 x5).f0) ((rd_T32 x223006 x5).f1) ((rd_T32 x223006 x5).f2) ((rd_T32 x223006 x5).f3) ((rd_T32 x223006 x5).f4) ((rd_T32 x223006 x5).f5) ((rd_T32 x223006 x5).f6) ((rd_T32 x224006 x5).f0) ((rd_T32 x224006 x5).f1) ((rd_T32 x224006 x5).f2) ((rd_T32 x224006 x5).f3) ((rd_T32 x224006 x5).f4) ((rd_T32 x224006 x5).f5) ((rd_T32 x224006 x5).f6)).bind fun t227=>(if t227=true then(arboristref42_Same.l0 k (wrap64 (x5 + 1)) x223000 x223001 x223002 x223003 x223004 x223005 x223006 x224000 x224001 x224002 x224003 x224004 x224005 x224006)else(some false)))else(none))else(none))else(some true)
def arboristref42_Same.f:Nat→Int→Int→Int→Int→List (S53)→ByteArray→List (S32)→Int→Int→Int→Int→List (S53)→ByteArray→List (S32)→Option (Bool)
 | 0,_,_,_,_,_,_,_,_,_,_,_,_,_,_=>none
 | k + 1,a0_0,a0_1,a0_2,a0_3,l0_4,a0_5,l0_6,a1_0,a1_1,a1_2,a1_3,l1_4,a1_5,l1_6=>if a0_0=a1_0 then(if a0_1=a1_1 then(if a0_2=a1_2 then(if a0_3=a1_3 then(if a0_5.toList=a1_5.toList then((arboristref42_SamePieces.f k l0_4 l1_4).bind fun t224=>(if t224=true then(arboristref42_Same.j0 k ((l0_6.length:Int) != (l1_6.length:Int)) a0_0 a0_1 a0_2 a0_3 l0_4 a0_5 l0_6 a1_0 a1_1 a1_2 a1_3 l1_4 a1_5 l1_6)else(arboristref42_Same.j0 k true a0_0 a0_1 a0_2 a0_3 l0_4 a0_5 l0_6 a1_0 a1_1 a1_2 a1_3 l1_4 a1_5 l1_6)))else(arboristref42_Same.j0 k true a0_0 a0_1 a0_2 a0_3 l0_4 a0_5 l0_6 a1_0 a1_1 a1_2 a1_3 l1_4 a1_5 l1_6))else(arboristref42_Same.j0 k true a0_0 a0_1 a0_2 a0_3 l0_4 a0_5 l0_6 a1_0 a1_1 a1_2 a1_3 l1_4 a1_5 l1_6))else(arboristref42_Same.j0 k true a0_0 a0_1 a0_2 a0_3 l0_4 a0_5 l0_6 a1_0 a1_1 a1_2 a1_3 l1_4 a1_5 l1_6))else(arboristref42_Same.j0 k true a0_0 a0_1 a0_2 a0_3 l0_4 a0_5 l0_6 a1_0 a1_1 a1_2 a1_3 l1_4 a1_5 l1_6))else(arboristref42_Same.j0 k true a0_0 a0_1 a0_2 a0_3 l0_4 a0_5 l0_6 a1_0 a1_1 a1_2 a1_3 l1_4 a1_5 l1_6)
end
def arboristref42_Same.T6:Bool × List (List Nat × List Nat):=(true,[([],[]),([0],[0]),([],[]),([1,2],[1,2]),([3],[3]),([],[]),([5],[5]),([],[]),([6,7],[6,7]),([8],[8]),([4,9],[4,9]),([10],[10])])
def arboristref42_Same.B6:List Nat:=[0,1,0,7,15,0,32,0,224,480,1023,2047]
theorem arboristref42_Same.tab6:rtab .any (opsOf Try.f25 6)=arboristref42_Same.T6:=by kernel_rfl
theorem arboristref42_Same.bits6:waitsOk arboristref42_Same.T6.2 arboristref42_Same.B6=true:=by kernel_rfl
set_option maxHeartbeats 8000000 in
set_option maxRecDepth 100000 in
theorem arboristref42_Same.calls (k:Nat):∀ (a0_0:Int)(a0_1:Int)(a0_2:Int)(a0_3:Int)(A0_4:Option Addr)(c0_4:Nat)(l0_4:List (S53))(a0_5:ByteArray)(A0_6:Option Addr)(c0_6:Nat)(l0_6:List (S32))(a1_0:Int)(a1_1:Int)(a1_2:Int)(a1_3:Int)(A1_4:Option Addr)(c1_4:Nat)(l1_4:List (S53))(a1_5:ByteArray)(A1_6:Option Addr)(c1_6:Nat)(l1_6:List (S32))(r:Bool)(w:World)(hr0_4:Kd.C k53 w A0_4 l0_4.length l0_4)(hc0_4:l0_4.length≤c0_4)(hr0_6:Kd.C k32 w A0_6 l0_6.length l0_6)(hc0_6:l0_6.length≤c0_6)(hr1_4:Kd.C k53 w A1_4 l1_4.length l1_4)(hc1_4:l1_4.length≤c1_4)(hr1_6:Kd.C k32 w A1_6 l1_6.length l1_6)(hc1_6:l1_6.length≤c1_6)(h:arboristref42_Same.f k a0_0 a0_1 a0_2 a0_3 l0_4 a0_5 l0_6 a1_0 a1_1 a1_2 a1_3 l1_4 a1_5 l1_6=some r),
  Calls Try.prog 25 #[.agg #[.int .i64 a0_0,.int .i64 a0_1,.int .i64 a0_2,.int .i64 a0_3,.slice A0_4 l0_4.length c0_4,.string a0_5,.slice A0_6 l0_6.length c0_6],.agg #[.int .i64 a1_0,.int .i64 a1_1,.int .i64 a1_2,.int .i64 a1_3,.slice A1_4 l1_4.length c1_4,.string a1_5,.slice A1_6 l1_6.length c1_6]] w fun e w'=>e=.returned (.bool r)∧Below w.heap.size w w':=by
 induction k using Nat.strongRecOn with
 | _ k ih =>
 intro a0_0 a0_1 a0_2 a0_3 A0_4 c0_4 l0_4 a0_5 A0_6 c0_6 l0_6 a1_0 a1_1 a1_2 a1_3 A1_4 c1_4 l1_4 a1_5 A1_6 c1_6 l1_6 r w hr0_4 hc0_4 hr0_6 hc0_6 hr1_4 hc1_4 hr1_6 hc1_6 h
 cases k with
 | zero=>exact absurd h (by simp [arboristref42_Same.f])
 | succ k =>
 simp only [arboristref42_Same.f] at h
 have hu32:=Try.underlying32
 have HR0_4:=Az.mk hr0_4
 have HC0_4:=Az.mk hc0_4
 clear hr0_4 hc0_4
 have HR0_6:=Az.mk hr0_6
 have HC0_6:=Az.mk hc0_6
 clear hr0_6 hc0_6
 have HR1_4:=Az.mk hr1_4
 have HC1_4:=Az.mk hc1_4
 clear hr1_4 hc1_4
 have HR1_6:=Az.mk hr1_6
 have HC1_6:=Az.mk hc1_6
 clear hr1_6 hc1_6
 have HB:=Az.mk (Below.refl w.heap.size w)
 have H:(if a0_0=a1_0 then(if a0_1=a1_1 then(if a0_2=a1_2 then(if a0_3=a1_3 then(if a0_5.toList=a1_5.toList then((arboristref42_SamePieces.f k l0_4 l1_4).bind fun t224=>(if t224=true then(arboristref42_Same.j0 k ((l0_6.length:Int) != (l1_6.length:Int)) a0_0 a0_1 a0_2 a0_3 l0_4 a0_5 l0_6 a1_0 a1_1 a1_2 a1_3 l1_4 a1_5 l1_6)else(arboristref42_Same.j0 k true a0_0 a0_1 a0_2 a0_3 l0_4 a0_5 l0_6 a1_0 a1_1 a1_2 a1_3 l1_4 a1_5 l1_6)))else(arboristref42_Same.j0 k true a0_0 a0_1 a0_2 a0_3 l0_4 a0_5 l0_6 a1_0 a1_1 a1_2 a1_3 l1_4 a1_5 l1_6))else(arboristref42_Same.j0 k true a0_0 a0_1 a0_2 a0_3 l0_4 a0_5 l0_6 a1_0 a1_1 a1_2 a1_3 l1_4 a1_5 l1_6))else(arboristref42_Same.j0 k true a0_0 a0_1 a0_2 a0_3 l0_4 a0_5 l0_6 a1_0 a1_1 a1_2 a1_3 l1_4 a1_5 l1_6))else(arboristref42_Same.j0 k true a0_0 a0_1 a0_2 a0_3 l0_4 a0_5 l0_6 a1_0 a1_1 a1_2 a1_3 l1_4 a1_5 l1_6))else(arboristref42_Same.j0 k true a0_0 a0_1 a0_2 a0_3 l0_4 a0_5 l0_6 a1_0 a1_1 a1_2 a1_3 l1_4 a1_5 l1_6))=some r:=h
 clear h
 have HC3:=Az.mk H
 clear H
 go_enter Try.func25,Try.ntmps25
 go_upto_region 1 with(first|((with_reducible refine gate_dst (N:=2) rfl ?_);(try (refine gate_guard (by rfl) ?_;dsimp only));refine box_event ?hg (N:=2) ?hd (cs:=#[.int .i64 a0_0,.int .i64 a0_1,.int .i64 a0_2,.int .i64 a0_3,.slice A0_4 l0_4.length c0_4,.string a0_5,.slice A0_6 l0_6.length c0_6]) (t:=32) ?hr ?_;(case hd=>rfl);(case hg=>rfl);(case hr=>first|(go_simp;done)|(go_simp;rfl));intro gb222 hg w4 hbox hb;have n0_:=Az.mk (bT_ (by repeat (first|(with_reducible first|exact HB.out|apply bA_|apply bN_|apply bD_)|exact HB.out)) hb);have n1_:=Az.mk (hbox);have n2_:=Az.mk ((by rw [hg];exact(bZ_ (by repeat (first|(with_reducible first|exact HB.out|apply bA_|apply bN_|apply bD_)|exact HB.out))):w.heap.size≤gb222));have n3_:=Az.mk ((by rw [hg];exact(bZ_ (by repeat (first|(with_reducible first|exact HB.out|apply bA_|apply bN_|apply bD_)|exact HB.out))):w.heap.size≤gb222));clear HB;have HB:=n0_;have BK222:=n1_;have GW222:=n2_;have GE222:=n3_;clear n0_ n1_ n2_ n3_;clear hb hbox hg)|((with_reducible refine gate_dst (N:=3) rfl ?_);(try (refine gate_guard (by rfl) ?_;dsimp only));refine box_event ?hg (N:=3) ?hd (cs:=#[.int .i64 a1_0,.int .i64 a1_1,.int .i64 a1_2,.int .i64 a1_3,.slice A1_4 l1_4.length c1_4,.string a1_5,.slice A1_6 l1_6.length c1_6]) (t:=32) ?hr ?_;(case hd=>rfl);(case hg=>rfl);(case hr=>first|(go_simp;done)|(go_simp;rfl));intro gb223 hg w5 hbox hb;have n0_:=Az.mk (kB_ (g:=gb222) (o:=.cells #[.int .i64 a0_0,.int .i64 a0_1,.int .i64 a0_2,.int .i64 a0_3,.slice A0_4 l0_4.length c0_4,.string a0_5,.slice A0_6 l0_6.length c0_6] 32 (0,0)) (by(with_reducible repeat (first|refine kN_ ?_ _|refine kD_ ?_|refine kA_ ?_ _));exact BK222.out) hb);have n1_:=Az.mk (bT_ (by repeat (first|(with_reducible first|exact HB.out|apply bA_|apply bN_|apply bD_|refine bS_ ?_ GE222.out)|exact HB.out)) hb);have n2_:=Az.mk (hbox);have n3_:=Az.mk ((by rw [hg];exact(bZ_ (by repeat (first|(with_reducible first|exact HB.out|apply bA_|apply bN_|apply bD_|refine bS_ ?_ GE222.out)|exact HB.out))):w.heap.size≤gb223));have n4_:=Az.mk ((by rw [hg];exact(bZ_ (by repeat (first|(with_reducible first|exact HB.out|apply bA_|apply bN_|apply bD_|refine bS_ ?_ GE222.out)|exact HB.out))):w.heap.size≤gb223));have n5_:=Az.mk ((by rw [hg];exact Nat.ne_of_lt (blk_lt (g:=gb222) (o:=.cells #[.int .i64 a0_0,.int .i64 a0_1,.int .i64 a0_2,.int .i64 a0_3,.slice A0_4 l0_4.length c0_4,.string a0_5,.slice A0_6 l0_6.length c0_6] 32 (0,0)) (by(with_reducible repeat (first|refine kN_ ?_ _|refine kD_ ?_|refine kA_ ?_ _));exact BK222.out)):gb222≠gb223));have n6_:=Az.mk ((by rw [hg];exact Nat.ne_of_gt (blk_lt (g:=gb222) (o:=.cells #[.int .i64 a0_0,.int .i64 a0_1,.int .i64 a0_2,.int .i64 a0_3,.slice A0_4 l0_4.length c0_4,.string a0_5,.slice A0_6 l0_6.length c0_6] 32 (0,0)) (by(with_reducible repeat (first|refine kN_ ?_ _|refine kD_ ?_|refine kA_ ?_ _));exact BK222.out)):gb223≠gb222));clear BK222;clear HB;have BK222:=n0_;have HB:=n1_;have BK223:=n2_;have GW223:=n3_;have GE223:=n4_;have NB222_223:=n5_;have NB223_222:=n6_;clear n0_ n1_ n2_ n3_ n4_ n5_ n6_;clear hb hbox hg))
 (try simp only [Act.put,sT_,s0_,sC_])
 go_cut [55] (fun v55 wc=>∃ (kq:Nat) (x55_2:Bool),v55=.bool x55_2∧Az (arboristref42_Same.j0 kq x55_2 a0_0 a0_1 a0_2 a0_3 l0_4 a0_5 l0_6 a1_0 a1_1 a1_2 a1_3 l1_4 a1_5 l1_6=some r)∧Az (kq≤k)∧Az (wc.heap[gb222]?=some (.cells #[.int .i64 a0_0,.int .i64 a0_1,.int .i64 a0_2,.int .i64 a0_3,(.slice A0_4 l0_4.length c0_4),.string a0_5,(.slice A0_6 l0_6.length c0_6)] 32 (0,0)))∧Az (wc.heap[gb223]?=some (.cells #[.int .i64 a1_0,.int .i64 a1_1,.int .i64 a1_2,.int .i64 a1_3,(.slice A1_4 l1_4.length c1_4),.string a1_5,(.slice A1_6 l1_6.length c1_6)] 32 (0,0)))∧Az (Below w.heap.size w wc))
 case first =>
  have H:=HC3.out
  clear HC3
  by_cases c6:a0_0=a1_0
  ·rw [if_pos c6] at H
   have c6b0:(a0_0 == a1_0)=true:=beq_iff_eq.mpr c6
   have c6b1:(a0_0 != a1_0)=false:=bne_eq_false_iff_eq.mpr c6
   clear c6
   (first|rw [c6b0]|(simp only [i64_w,i32_w];rw [c6b0])|skip)
   by_cases c7:a0_1=a1_1
   ·rw [if_pos c7] at H
    have c7b0:(a0_1 == a1_1)=true:=beq_iff_eq.mpr c7
    have c7b1:(a0_1 != a1_1)=false:=bne_eq_false_iff_eq.mpr c7
    clear c7
    by_cases c8:a0_2=a1_2
    ·rw [if_pos c8] at H
     have c8b0:(a0_2 == a1_2)=true:=beq_iff_eq.mpr c8
     have c8b1:(a0_2 != a1_2)=false:=bne_eq_false_iff_eq.mpr c8
     clear c8
     by_cases c9:a0_3=a1_3
     ·rw [if_pos c9] at H
      have c9b0:(a0_3 == a1_3)=true:=beq_iff_eq.mpr c9
      have c9b1:(a0_3 != a1_3)=false:=bne_eq_false_iff_eq.mpr c9
      clear c9
      by_cases c10:a0_5.toList=a1_5.toList
      ·rw [if_pos c10] at H
       have c10b0:(a0_5.toList == a1_5.toList)=true:=beq_iff_eq.mpr c10
       have c10b1:(a0_5.toList != a1_5.toList)=false:=bne_eq_false_iff_eq.mpr c10
       clear c10
       replace H:=Option.bind_eq_some_iff.mp H
       obtain⟨t224,A110,H⟩:=H
       replace H:(if t224=true then(arboristref42_Same.j0 k ((l0_6.length:Int) != (l1_6.length:Int)) a0_0 a0_1 a0_2 a0_3 l0_4 a0_5 l0_6 a1_0 a1_1 a1_2 a1_3 l1_4 a1_5 l1_6)else(arboristref42_Same.j0 k true a0_0 a0_1 a0_2 a0_3 l0_4 a0_5 l0_6 a1_0 a1_1 a1_2 a1_3 l1_4 a1_5 l1_6))=some r:=H
       have A11:=Az.mk A110
       clear A110
       by_cases c12:t224=true
       ·subst c12
        have H1:(arboristref42_Same.j0 k ((l0_6.length:Int) != (l1_6.length:Int)) a0_0 a0_1 a0_2 a0_3 l0_4 a0_5 l0_6 a1_0 a1_1 a1_2 a1_3 l1_4 a1_5 l1_6)=some r:=by rw [if_pos rfl] at H;exact H
        clear H
        have H:=H1
        clear H1
        have H':=Az.mk H
        clear H
        have hnb13:=NB222_223.out
        have hnc13:=NB223_222.out
        have hcz14_0:w5.cell? ⟨gb222,0,none⟩=some (.int .i64 a0_0):=(bC_ BK222.out 0).trans rfl
        have hcz14_1:w5.cell? ⟨gb222,1,none⟩=some (.int .i64 a0_1):=(bC_ BK222.out 1).trans rfl
        have hcz14_2:w5.cell? ⟨gb222,2,none⟩=some (.int .i64 a0_2):=(bC_ BK222.out 2).trans rfl
        have hcz14_3:w5.cell? ⟨gb222,3,none⟩=some (.int .i64 a0_3):=(bC_ BK222.out 3).trans rfl
        have hcz14_4:w5.cell? ⟨gb222,4,none⟩=some (.slice A0_4 l0_4.length c0_4):=(bC_ BK222.out 4).trans rfl
        have hcz14_5:w5.cell? ⟨gb222,5,none⟩=some (.string a0_5):=(bC_ BK222.out 5).trans rfl
        have hcz14_6:w5.cell? ⟨gb222,6,none⟩=some (.slice A0_6 l0_6.length c0_6):=(bC_ BK222.out 6).trans rfl
        have hfz14_0:=bF_ BK222.out 0
        have hfz14_1:=bF_ BK222.out 1
        have hfz14_2:=bF_ BK222.out 2
        have hfz14_3:=bF_ BK222.out 3
        have hfz14_4:=bF_ BK222.out 4
        have hfz14_5:=bF_ BK222.out 5
        have hfz14_6:=bF_ BK222.out 6
        have hcz15_0:w5.cell? ⟨gb223,0,none⟩=some (.int .i64 a1_0):=(bC_ BK223.out 0).trans rfl
        have hcz15_1:w5.cell? ⟨gb223,1,none⟩=some (.int .i64 a1_1):=(bC_ BK223.out 1).trans rfl
        have hcz15_2:w5.cell? ⟨gb223,2,none⟩=some (.int .i64 a1_2):=(bC_ BK223.out 2).trans rfl
        have hcz15_3:w5.cell? ⟨gb223,3,none⟩=some (.int .i64 a1_3):=(bC_ BK223.out 3).trans rfl
        have hcz15_4:w5.cell? ⟨gb223,4,none⟩=some (.slice A1_4 l1_4.length c1_4):=(bC_ BK223.out 4).trans rfl
        have hcz15_5:w5.cell? ⟨gb223,5,none⟩=some (.string a1_5):=(bC_ BK223.out 5).trans rfl
        have hcz15_6:w5.cell? ⟨gb223,6,none⟩=some (.slice A1_6 l1_6.length c1_6):=(bC_ BK223.out 6).trans rfl
        have hfz15_0:=bF_ BK223.out 0
        have hfz15_1:=bF_ BK223.out 1
        have hfz15_2:=bF_ BK223.out 2
        have hfz15_3:=bF_ BK223.out 3
        have hfz15_4:=bF_ BK223.out 4
        have hfz15_5:=bF_ BK223.out 5
        have hfz15_6:=bF_ BK223.out 6
        go_wp2_with (first|(go_at_call 36;(with_reducible refine(arboristref42_SamePieces.calls k _ _ l0_4 _ _ l1_4 true _ ?side1 ?side2 ?side3 ?side4 A11.out).mono ?_);(case side1=>repeat (first|exact(Kd.C_below HR0_4.out HB.out)|(with_reducible first|refine Kd.C_alloc ?_ _|refine Kd.C_drewN ?_ _|refine Kd.C_drew ?_)));(case side2=>exact HC0_4.out);(case side3=>repeat (first|exact(Kd.C_below HR1_4.out HB.out)|(with_reducible first|refine Kd.C_alloc ?_ _|refine Kd.C_drewN ?_ _|refine Kd.C_drew ?_)));(case side4=>exact HC1_4.out);rintro e w' ⟨rfl,⟨nd,rfl⟩⟩))
        go_meet
        case rel=>exact⟨_,(((l0_6.length:Int) != (l1_6.length:Int))),(by first|rfl|(simp;done)|(simp [*];done)|(refine congrArg Value.bool ?_;exact isE_ _)),H',⟨by first|omega|exact Nat.le_refl _⟩,⟨by(with_reducible repeat (first|refine kN_ ?_ _|refine kD_ ?_|refine kA_ ?_ _));exact BK222.out⟩,⟨by(with_reducible repeat (first|refine kN_ ?_ _|refine kD_ ?_|refine kA_ ?_ _));exact BK223.out⟩,⟨by repeat (first|(with_reducible first|exact HB.out|apply bA_|apply bN_|apply bD_|refine bS_ ?_ GE222.out|refine bS_ ?_ GE223.out)|exact HB.out)⟩⟩
       ·replace c12:=Bool.eq_false_iff.mpr c12
        subst c12
        have H1:(arboristref42_Same.j0 k true a0_0 a0_1 a0_2 a0_3 l0_4 a0_5 l0_6 a1_0 a1_1 a1_2 a1_3 l1_4 a1_5 l1_6)=some r:=by rw [if_neg (show ¬ (false=true) by decide)] at H;exact H
        clear H
        have H:=H1
        clear H1
        have H':=Az.mk H
        clear H
        have hnb16:=NB222_223.out
        have hnc16:=NB223_222.out
        have hcz17_0:w5.cell? ⟨gb222,0,none⟩=some (.int .i64 a0_0):=(bC_ BK222.out 0).trans rfl
        have hcz17_1:w5.cell? ⟨gb222,1,none⟩=some (.int .i64 a0_1):=(bC_ BK222.out 1).trans rfl
        have hcz17_2:w5.cell? ⟨gb222,2,none⟩=some (.int .i64 a0_2):=(bC_ BK222.out 2).trans rfl
        have hcz17_3:w5.cell? ⟨gb222,3,none⟩=some (.int .i64 a0_3):=(bC_ BK222.out 3).trans rfl
        have hcz17_4:w5.cell? ⟨gb222,4,none⟩=some (.slice A0_4 l0_4.length c0_4):=(bC_ BK222.out 4).trans rfl
        have hcz17_5:w5.cell? ⟨gb222,5,none⟩=some (.string a0_5):=(bC_ BK222.out 5).trans rfl
        have hcz17_6:w5.cell? ⟨gb222,6,none⟩=some (.slice A0_6 l0_6.length c0_6):=(bC_ BK222.out 6).trans rfl
        have hfz17_0:=bF_ BK222.out 0
        have hfz17_1:=bF_ BK222.out 1
        have hfz17_2:=bF_ BK222.out 2
        have hfz17_3:=bF_ BK222.out 3
        have hfz17_4:=bF_ BK222.out 4
        have hfz17_5:=bF_ BK222.out 5
        have hfz17_6:=bF_ BK222.out 6
        have hcz18_0:w5.cell? ⟨gb223,0,none⟩=some (.int .i64 a1_0):=(bC_ BK223.out 0).trans rfl
        have hcz18_1:w5.cell? ⟨gb223,1,none⟩=some (.int .i64 a1_1):=(bC_ BK223.out 1).trans rfl
        have hcz18_2:w5.cell? ⟨gb223,2,none⟩=some (.int .i64 a1_2):=(bC_ BK223.out 2).trans rfl
        have hcz18_3:w5.cell? ⟨gb223,3,none⟩=some (.int .i64 a1_3):=(bC_ BK223.out 3).trans rfl
        have hcz18_4:w5.cell? ⟨gb223,4,none⟩=some (.slice A1_4 l1_4.length c1_4):=(bC_ BK223.out 4).trans rfl
        have hcz18_5:w5.cell? ⟨gb223,5,none⟩=some (.string a1_5):=(bC_ BK223.out 5).trans rfl
        have hcz18_6:w5.cell? ⟨gb223,6,none⟩=some (.slice A1_6 l1_6.length c1_6):=(bC_ BK223.out 6).trans rfl
        have hfz18_0:=bF_ BK223.out 0
        have hfz18_1:=bF_ BK223.out 1
        have hfz18_2:=bF_ BK223.out 2
        have hfz18_3:=bF_ BK223.out 3
        have hfz18_4:=bF_ BK223.out 4
        have hfz18_5:=bF_ BK223.out 5
        have hfz18_6:=bF_ BK223.out 6
        go_wp2_with (first|(go_at_call 36;(with_reducible refine(arboristref42_SamePieces.calls k _ _ l0_4 _ _ l1_4 false _ ?side1 ?side2 ?side3 ?side4 A11.out).mono ?_);(case side1=>repeat (first|exact(Kd.C_below HR0_4.out HB.out)|(with_reducible first|refine Kd.C_alloc ?_ _|refine Kd.C_drewN ?_ _|refine Kd.C_drew ?_)));(case side2=>exact HC0_4.out);(case side3=>repeat (first|exact(Kd.C_below HR1_4.out HB.out)|(with_reducible first|refine Kd.C_alloc ?_ _|refine Kd.C_drewN ?_ _|refine Kd.C_drew ?_)));(case side4=>exact HC1_4.out);rintro e w' ⟨rfl,⟨nd,rfl⟩⟩))
        go_meet
        case rel=>exact⟨_,(true),(by first|rfl|(simp;done)|(simp [*];done)|(refine congrArg Value.bool ?_;exact isE_ _)),H',⟨by first|omega|exact Nat.le_refl _⟩,⟨by(with_reducible repeat (first|refine kN_ ?_ _|refine kD_ ?_|refine kA_ ?_ _));exact BK222.out⟩,⟨by(with_reducible repeat (first|refine kN_ ?_ _|refine kD_ ?_|refine kA_ ?_ _));exact BK223.out⟩,⟨by repeat (first|(with_reducible first|exact HB.out|apply bA_|apply bN_|apply bD_|refine bS_ ?_ GE222.out|refine bS_ ?_ GE223.out)|exact HB.out)⟩⟩
      ·rw [if_neg c10] at H
       have c10b0:(a0_5.toList == a1_5.toList)=false:=beq_eq_false_iff_ne.mpr c10
       have c10b1:(a0_5.toList != a1_5.toList)=true:=bne_iff_ne.mpr c10
       have H':=Az.mk H
       clear H
       have hnb19:=NB222_223.out
       have hnc19:=NB223_222.out
       have hcz20_0:w5.cell? ⟨gb222,0,none⟩=some (.int .i64 a0_0):=(bC_ BK222.out 0).trans rfl
       have hcz20_1:w5.cell? ⟨gb222,1,none⟩=some (.int .i64 a0_1):=(bC_ BK222.out 1).trans rfl
       have hcz20_2:w5.cell? ⟨gb222,2,none⟩=some (.int .i64 a0_2):=(bC_ BK222.out 2).trans rfl
       have hcz20_3:w5.cell? ⟨gb222,3,none⟩=some (.int .i64 a0_3):=(bC_ BK222.out 3).trans rfl
       have hcz20_4:w5.cell? ⟨gb222,4,none⟩=some (.slice A0_4 l0_4.length c0_4):=(bC_ BK222.out 4).trans rfl
       have hcz20_5:w5.cell? ⟨gb222,5,none⟩=some (.string a0_5):=(bC_ BK222.out 5).trans rfl
       have hcz20_6:w5.cell? ⟨gb222,6,none⟩=some (.slice A0_6 l0_6.length c0_6):=(bC_ BK222.out 6).trans rfl
       have hfz20_0:=bF_ BK222.out 0
       have hfz20_1:=bF_ BK222.out 1
       have hfz20_2:=bF_ BK222.out 2
       have hfz20_3:=bF_ BK222.out 3
       have hfz20_4:=bF_ BK222.out 4
       have hfz20_5:=bF_ BK222.out 5
       have hfz20_6:=bF_ BK222.out 6
       have hcz21_0:w5.cell? ⟨gb223,0,none⟩=some (.int .i64 a1_0):=(bC_ BK223.out 0).trans rfl
       have hcz21_1:w5.cell? ⟨gb223,1,none⟩=some (.int .i64 a1_1):=(bC_ BK223.out 1).trans rfl
       have hcz21_2:w5.cell? ⟨gb223,2,none⟩=some (.int .i64 a1_2):=(bC_ BK223.out 2).trans rfl
       have hcz21_3:w5.cell? ⟨gb223,3,none⟩=some (.int .i64 a1_3):=(bC_ BK223.out 3).trans rfl
       have hcz21_4:w5.cell? ⟨gb223,4,none⟩=some (.slice A1_4 l1_4.length c1_4):=(bC_ BK223.out 4).trans rfl
       have hcz21_5:w5.cell? ⟨gb223,5,none⟩=some (.string a1_5):=(bC_ BK223.out 5).trans rfl
       have hcz21_6:w5.cell? ⟨gb223,6,none⟩=some (.slice A1_6 l1_6.length c1_6):=(bC_ BK223.out 6).trans rfl
       have hfz21_0:=bF_ BK223.out 0
       have hfz21_1:=bF_ BK223.out 1
       have hfz21_2:=bF_ BK223.out 2
       have hfz21_3:=bF_ BK223.out 3
       have hfz21_4:=bF_ BK223.out 4
       have hfz21_5:=bF_ BK223.out 5
       have hfz21_6:=bF_ BK223.out 6
       go_wp2
       go_meet
       case rel=>exact⟨_,(true),(by first|rfl|(simp;done)|(simp [*];done)|(refine congrArg Value.bool ?_;exact isE_ _)),H',⟨by first|omega|exact Nat.le_refl _⟩,⟨by(with_reducible repeat (first|refine kN_ ?_ _|refine kD_ ?_|refine kA_ ?_ _));exact BK222.out⟩,⟨by(with_reducible repeat (first|refine kN_ ?_ _|refine kD_ ?_|refine kA_ ?_ _));exact BK223.out⟩,⟨by repeat (first|(with_reducible first|exact HB.out|apply bA_|apply bN_|apply bD_|refine bS_ ?_ GE222.out|refine bS_ ?_ GE223.out)|exact HB.out)⟩⟩
     ·rw [if_neg c9] at H
      have c9b0:(a0_3 == a1_3)=false:=beq_eq_false_iff_ne.mpr c9
      have c9b1:(a0_3 != a1_3)=true:=bne_iff_ne.mpr c9
      have H':=Az.mk H
      clear H
      have hnb22:=NB222_223.out
      have hnc22:=NB223_222.out
      have hcz23_0:w5.cell? ⟨gb222,0,none⟩=some (.int .i64 a0_0):=(bC_ BK222.out 0).trans rfl
      have hcz23_1:w5.cell? ⟨gb222,1,none⟩=some (.int .i64 a0_1):=(bC_ BK222.out 1).trans rfl
      have hcz23_2:w5.cell? ⟨gb222,2,none⟩=some (.int .i64 a0_2):=(bC_ BK222.out 2).trans rfl
      have hcz23_3:w5.cell? ⟨gb222,3,none⟩=some (.int .i64 a0_3):=(bC_ BK222.out 3).trans rfl
      have hcz23_4:w5.cell? ⟨gb222,4,none⟩=some (.slice A0_4 l0_4.length c0_4):=(bC_ BK222.out 4).trans rfl
      have hcz23_5:w5.cell? ⟨gb222,5,none⟩=some (.string a0_5):=(bC_ BK222.out 5).trans rfl
      have hcz23_6:w5.cell? ⟨gb222,6,none⟩=some (.slice A0_6 l0_6.length c0_6):=(bC_ BK222.out 6).trans rfl
      have hfz23_0:=bF_ BK222.out 0
      have hfz23_1:=bF_ BK222.out 1
      have hfz23_2:=bF_ BK222.out 2
      have hfz23_3:=bF_ BK222.out 3
      have hfz23_4:=bF_ BK222.out 4
      have hfz23_5:=bF_ BK222.out 5
      have hfz23_6:=bF_ BK222.out 6
      have hcz24_0:w5.cell? ⟨gb223,0,none⟩=some (.int .i64 a1_0):=(bC_ BK223.out 0).trans rfl
      have hcz24_1:w5.cell? ⟨gb223,1,none⟩=some (.int .i64 a1_1):=(bC_ BK223.out 1).trans rfl
      have hcz24_2:w5.cell? ⟨gb223,2,none⟩=some (.int .i64 a1_2):=(bC_ BK223.out 2).trans rfl
      have hcz24_3:w5.cell? ⟨gb223,3,none⟩=some (.int .i64 a1_3):=(bC_ BK223.out 3).trans rfl
      have hcz24_4:w5.cell? ⟨gb223,4,none⟩=some (.slice A1_4 l1_4.length c1_4):=(bC_ BK223.out 4).trans rfl
      have hcz24_5:w5.cell? ⟨gb223,5,none⟩=some (.string a1_5):=(bC_ BK223.out 5).trans rfl
      have hcz24_6:w5.cell? ⟨gb223,6,none⟩=some (.slice A1_6 l1_6.length c1_6):=(bC_ BK223.out 6).trans rfl
      have hfz24_0:=bF_ BK223.out 0
      have hfz24_1:=bF_ BK223.out 1
      have hfz24_2:=bF_ BK223.out 2
      have hfz24_3:=bF_ BK223.out 3
      have hfz24_4:=bF_ BK223.out 4
      have hfz24_5:=bF_ BK223.out 5
      have hfz24_6:=bF_ BK223.out 6
      go_wp2
      go_meet
      case rel=>exact⟨_,(true),(by first|rfl|(simp;done)|(simp [*];done)|(refine congrArg Value.bool ?_;exact isE_ _)),H',⟨by first|omega|exact Nat.le_refl _⟩,⟨by(with_reducible repeat (first|refine kN_ ?_ _|refine kD_ ?_|refine kA_ ?_ _));exact BK222.out⟩,⟨by(with_reducible repeat (first|refine kN_ ?_ _|refine kD_ ?_|refine kA_ ?_ _));exact BK223.out⟩,⟨by repeat (first|(with_reducible first|exact HB.out|apply bA_|apply bN_|apply bD_|refine bS_ ?_ GE222.out|refine bS_ ?_ GE223.out)|exact HB.out)⟩⟩
    ·rw [if_neg c8] at H
     have c8b0:(a0_2 == a1_2)=false:=beq_eq_false_iff_ne.mpr c8
     have c8b1:(a0_2 != a1_2)=true:=bne_iff_ne.mpr c8
     have H':=Az.mk H
     clear H
     have hnb25:=NB222_223.out
     have hnc25:=NB223_222.out
     have hcz26_0:w5.cell? ⟨gb222,0,none⟩=some (.int .i64 a0_0):=(bC_ BK222.out 0).trans rfl
     have hcz26_1:w5.cell? ⟨gb222,1,none⟩=some (.int .i64 a0_1):=(bC_ BK222.out 1).trans rfl
     have hcz26_2:w5.cell? ⟨gb222,2,none⟩=some (.int .i64 a0_2):=(bC_ BK222.out 2).trans rfl
     have hcz26_3:w5.cell? ⟨gb222,3,none⟩=some (.int .i64 a0_3):=(bC_ BK222.out 3).trans rfl
     have hcz26_4:w5.cell? ⟨gb222,4,none⟩=some (.slice A0_4 l0_4.length c0_4):=(bC_ BK222.out 4).trans rfl
     have hcz26_5:w5.cell? ⟨gb222,5,none⟩=some (.string a0_5):=(bC_ BK222.out 5).trans rfl
     have hcz26_6:w5.cell? ⟨gb222,6,none⟩=some (.slice A0_6 l0_6.length c0_6):=(bC_ BK222.out 6).trans rfl
     have hfz26_0:=bF_ BK222.out 0
     have hfz26_1:=bF_ BK222.out 1
     have hfz26_2:=bF_ BK222.out 2
     have hfz26_3:=bF_ BK222.out 3
     have hfz26_4:=bF_ BK222.out 4
     have hfz26_5:=bF_ BK222.out 5
     have hfz26_6:=bF_ BK222.out 6
     have hcz27_0:w5.cell? ⟨gb223,0,none⟩=some (.int .i64 a1_0):=(bC_ BK223.out 0).trans rfl
     have hcz27_1:w5.cell? ⟨gb223,1,none⟩=some (.int .i64 a1_1):=(bC_ BK223.out 1).trans rfl
     have hcz27_2:w5.cell? ⟨gb223,2,none⟩=some (.int .i64 a1_2):=(bC_ BK223.out 2).trans rfl
     have hcz27_3:w5.cell? ⟨gb223,3,none⟩=some (.int .i64 a1_3):=(bC_ BK223.out 3).trans rfl
     have hcz27_4:w5.cell? ⟨gb223,4,none⟩=some (.slice A1_4 l1_4.length c1_4):=(bC_ BK223.out 4).trans rfl
     have hcz27_5:w5.cell? ⟨gb223,5,none⟩=some (.string a1_5):=(bC_ BK223.out 5).trans rfl
     have hcz27_6:w5.cell? ⟨gb223,6,none⟩=some (.slice A1_6 l1_6.length c1_6):=(bC_ BK223.out 6).trans rfl
     have hfz27_0:=bF_ BK223.out 0
     have hfz27_1:=bF_ BK223.out 1
     have hfz27_2:=bF_ BK223.out 2
     have hfz27_3:=bF_ BK223.out 3
     have hfz27_4:=bF_ BK223.out 4
     have hfz27_5:=bF_ BK223.out 5
     have hfz27_6:=bF_ BK223.out 6
     go_wp2
     go_meet
     case rel=>exact⟨_,(true),(by first|rfl|(simp;done)|(simp [*];done)|(refine congrArg Value.bool ?_;exact isE_ _)),H',⟨by first|omega|exact Nat.le_refl _⟩,⟨by(with_reducible repeat (first|refine kN_ ?_ _|refine kD_ ?_|refine kA_ ?_ _));exact BK222.out⟩,⟨by(with_reducible repeat (first|refine kN_ ?_ _|refine kD_ ?_|refine kA_ ?_ _));exact BK223.out⟩,⟨by repeat (first|(with_reducible first|exact HB.out|apply bA_|apply bN_|apply bD_|refine bS_ ?_ GE222.out|refine bS_ ?_ GE223.out)|exact HB.out)⟩⟩
   ·rw [if_neg c7] at H
    have c7b0:(a0_1 == a1_1)=false:=beq_eq_false_iff_ne.mpr c7
    have c7b1:(a0_1 != a1_1)=true:=bne_iff_ne.mpr c7
    have H':=Az.mk H
    clear H
    have hnb28:=NB222_223.out
    have hnc28:=NB223_222.out
    have hcz29_0:w5.cell? ⟨gb222,0,none⟩=some (.int .i64 a0_0):=(bC_ BK222.out 0).trans rfl
    have hcz29_1:w5.cell? ⟨gb222,1,none⟩=some (.int .i64 a0_1):=(bC_ BK222.out 1).trans rfl
    have hcz29_2:w5.cell? ⟨gb222,2,none⟩=some (.int .i64 a0_2):=(bC_ BK222.out 2).trans rfl
    have hcz29_3:w5.cell? ⟨gb222,3,none⟩=some (.int .i64 a0_3):=(bC_ BK222.out 3).trans rfl
    have hcz29_4:w5.cell? ⟨gb222,4,none⟩=some (.slice A0_4 l0_4.length c0_4):=(bC_ BK222.out 4).trans rfl
    have hcz29_5:w5.cell? ⟨gb222,5,none⟩=some (.string a0_5):=(bC_ BK222.out 5).trans rfl
    have hcz29_6:w5.cell? ⟨gb222,6,none⟩=some (.slice A0_6 l0_6.length c0_6):=(bC_ BK222.out 6).trans rfl
    have hfz29_0:=bF_ BK222.out 0
    have hfz29_1:=bF_ BK222.out 1
    have hfz29_2:=bF_ BK222.out 2
    have hfz29_3:=bF_ BK222.out 3
    have hfz29_4:=bF_ BK222.out 4
    have hfz29_5:=bF_ BK222.out 5
    have hfz29_6:=bF_ BK222.out 6
    have hcz30_0:w5.cell? ⟨gb223,0,none⟩=some (.int .i64 a1_0):=(bC_ BK223.out 0).trans rfl
    have hcz30_1:w5.cell? ⟨gb223,1,none⟩=some (.int .i64 a1_1):=(bC_ BK223.out 1).trans rfl
    have hcz30_2:w5.cell? ⟨gb223,2,none⟩=some (.int .i64 a1_2):=(bC_ BK223.out 2).trans rfl
    have hcz30_3:w5.cell? ⟨gb223,3,none⟩=some (.int .i64 a1_3):=(bC_ BK223.out 3).trans rfl
    have hcz30_4:w5.cell? ⟨gb223,4,none⟩=some (.slice A1_4 l1_4.length c1_4):=(bC_ BK223.out 4).trans rfl
    have hcz30_5:w5.cell? ⟨gb223,5,none⟩=some (.string a1_5):=(bC_ BK223.out 5).trans rfl
    have hcz30_6:w5.cell? ⟨gb223,6,none⟩=some (.slice A1_6 l1_6.length c1_6):=(bC_ BK223.out 6).trans rfl
    have hfz30_0:=bF_ BK223.out 0
    have hfz30_1:=bF_ BK223.out 1
    have hfz30_2:=bF_ BK223.out 2
    have hfz30_3:=bF_ BK223.out 3
    have hfz30_4:=bF_ BK223.out 4
    have hfz30_5:=bF_ BK223.out 5
    have hfz30_6:=bF_ BK223.out 6
    go_wp2
    go_meet
    case rel=>exact⟨_,(true),(by first|rfl|(simp;done)|(simp [*];done)|(refine congrArg Value.bool ?_;exact isE_ _)),H',⟨by first|omega|exact Nat.le_refl _⟩,⟨by(with_reducible repeat (first|refine kN_ ?_ _|refine kD_ ?_|refine kA_ ?_ _));exact BK222.out⟩,⟨by(with_reducible repeat (first|refine kN_ ?_ _|refine kD_ ?_|refine kA_ ?_ _));exact BK223.out⟩,⟨by repeat (first|(with_reducible first|exact HB.out|apply bA_|apply bN_|apply bD_|refine bS_ ?_ GE222.out|refine bS_ ?_ GE223.out)|exact HB.out)⟩⟩
  ·rw [if_neg c6] at H
   have c6b0:(a0_0 == a1_0)=false:=beq_eq_false_iff_ne.mpr c6
   have c6b1:(a0_0 != a1_0)=true:=bne_iff_ne.mpr c6
   (first|rw [c6b0]|(simp only [i64_w,i32_w];rw [c6b0])|skip)
   have H':=Az.mk H
   clear H
   have hnb31:=NB222_223.out
   have hnc31:=NB223_222.out
   have hcz32_0:w5.cell? ⟨gb222,0,none⟩=some (.int .i64 a0_0):=(bC_ BK222.out 0).trans rfl
   have hcz32_1:w5.cell? ⟨gb222,1,none⟩=some (.int .i64 a0_1):=(bC_ BK222.out 1).trans rfl
   have hcz32_2:w5.cell? ⟨gb222,2,none⟩=some (.int .i64 a0_2):=(bC_ BK222.out 2).trans rfl
   have hcz32_3:w5.cell? ⟨gb222,3,none⟩=some (.int .i64 a0_3):=(bC_ BK222.out 3).trans rfl
   have hcz32_4:w5.cell? ⟨gb222,4,none⟩=some (.slice A0_4 l0_4.length c0_4):=(bC_ BK222.out 4).trans rfl
   have hcz32_5:w5.cell? ⟨gb222,5,none⟩=some (.string a0_5):=(bC_ BK222.out 5).trans rfl
   have hcz32_6:w5.cell? ⟨gb222,6,none⟩=some (.slice A0_6 l0_6.length c0_6):=(bC_ BK222.out 6).trans rfl
   have hfz32_0:=bF_ BK222.out 0
   have hfz32_1:=bF_ BK222.out 1
   have hfz32_2:=bF_ BK222.out 2
   have hfz32_3:=bF_ BK222.out 3
   have hfz32_4:=bF_ BK222.out 4
   have hfz32_5:=bF_ BK222.out 5
   have hfz32_6:=bF_ BK222.out 6
   have hcz33_0:w5.cell? ⟨gb223,0,none⟩=some (.int .i64 a1_0):=(bC_ BK223.out 0).trans rfl
   have hcz33_1:w5.cell? ⟨gb223,1,none⟩=some (.int .i64 a1_1):=(bC_ BK223.out 1).trans rfl
   have hcz33_2:w5.cell? ⟨gb223,2,none⟩=some (.int .i64 a1_2):=(bC_ BK223.out 2).trans rfl
   have hcz33_3:w5.cell? ⟨gb223,3,none⟩=some (.int .i64 a1_3):=(bC_ BK223.out 3).trans rfl
   have hcz33_4:w5.cell? ⟨gb223,4,none⟩=some (.slice A1_4 l1_4.length c1_4):=(bC_ BK223.out 4).trans rfl
   have hcz33_5:w5.cell? ⟨gb223,5,none⟩=some (.string a1_5):=(bC_ BK223.out 5).trans rfl
   have hcz33_6:w5.cell? ⟨gb223,6,none⟩=some (.slice A1_6 l1_6.length c1_6):=(bC_ BK223.out 6).trans rfl
   have hfz33_0:=bF_ BK223.out 0
   have hfz33_1:=bF_ BK223.out 1
   have hfz33_2:=bF_ BK223.out 2
   have hfz33_3:=bF_ BK223.out 3
   have hfz33_4:=bF_ BK223.out 4
   have hfz33_5:=bF_ BK223.out 5
   have hfz33_6:=bF_ BK223.out 6
   go_wp2
   go_meet
   case rel=>exact⟨_,(true),(by first|rfl|(simp;done)|(simp [*];done)|(refine congrArg Value.bool ?_;exact isE_ _)),H',⟨by first|omega|exact Nat.le_refl _⟩,⟨by(with_reducible repeat (first|refine kN_ ?_ _|refine kD_ ?_|refine kA_ ?_ _));exact BK222.out⟩,⟨by(with_reducible repeat (first|refine kN_ ?_ _|refine kD_ ?_|refine kA_ ?_ _));exact BK223.out⟩,⟨by repeat (first|(with_reducible first|exact HB.out|apply bA_|apply bN_|apply bD_|refine bS_ ?_ GE222.out|refine bS_ ?_ GE223.out)|exact HB.out)⟩⟩
 case rest =>
  clear HC3
  try clear c1
  try clear c2
  try clear p2
  try clear c3
  try clear c6
  try clear c6b0
  try clear c6b1
  try clear c7
  try clear c7b0
  try clear c7b1
  try clear c8
  try clear c8b0
  try clear c8b1
  try clear c9
  try clear c9b0
  try clear c9b1
  try clear c10
  try clear c10b0
  try clear c10b1
  try clear c12
  try clear c13
  try clear c16
  try clear c19
  try clear c22
  try clear c25
  try clear c28
  try clear c31
  try clear hcz14_0
  try clear hcz14_1
  try clear hcz14_2
  try clear hcz14_3
  try clear hcz14_4
  try clear hcz14_5
  try clear hcz14_6
  try clear hcz15_0
  try clear hcz15_1
  try clear hcz15_2
  try clear hcz15_3
  try clear hcz15_4
  try clear hcz15_5
  try clear hcz15_6
  try clear hcz17_0
  try clear hcz17_1
  try clear hcz17_2
  try clear hcz17_3
  try clear hcz17_4
  try clear hcz17_5
  try clear hcz17_6
  try clear hcz18_0
  try clear hcz18_1
  try clear hcz18_2
  try clear hcz18_3
  try clear hcz18_4
  try clear hcz18_5
  try clear hcz18_6
  try clear hcz20_0
  try clear hcz20_1
  try clear hcz20_2
  try clear hcz20_3
  try clear hcz20_4
  try clear hcz20_5
  try clear hcz20_6
  try clear hcz21_0
  try clear hcz21_1
  try clear hcz21_2
  try clear hcz21_3
  try clear hcz21_4
  try clear hcz21_5
  try clear hcz21_6
  try clear hcz23_0
  try clear hcz23_1
  try clear hcz23_2
  try clear hcz23_3
  try clear hcz23_4
  try clear hcz23_5
  try clear hcz23_6
  try clear hcz24_0
  try clear hcz24_1
  try clear hcz24_2
  try clear hcz24_3
  try clear hcz24_4
  try clear hcz24_5
  try clear hcz24_6
  try clear hcz26_0
  try clear hcz26_1
  try clear hcz26_2
  try clear hcz26_3
  try clear hcz26_4
  try clear hcz26_5
  try clear hcz26_6
  try clear hcz27_0
  try clear hcz27_1
  try clear hcz27_2
  try clear hcz27_3
  try clear hcz27_4
  try clear hcz27_5
  try clear hcz27_6
  try clear hcz29_0
  try clear hcz29_1
  try clear hcz29_2
  try clear hcz29_3
  try clear hcz29_4
  try clear hcz29_5
  try clear hcz29_6
  try clear hcz30_0
  try clear hcz30_1
  try clear hcz30_2
  try clear hcz30_3
  try clear hcz30_4
  try clear hcz30_5
  try clear hcz30_6
  try clear hcz32_0
  try clear hcz32_1
  try clear hcz32_2
  try clear hcz32_3
  try clear hcz32_4
  try clear hcz32_5
  try clear hcz32_6
  try clear hcz33_0
  try clear hcz33_1
  try clear hcz33_2
  try clear hcz33_3
  try clear hcz33_4
  try clear hcz33_5
  try clear hcz33_6
  try clear hfz14_0
  try clear hfz14_1
  try clear hfz14_2
  try clear hfz14_3
  try clear hfz14_4
  try clear hfz14_5
  try clear hfz14_6
  try clear hfz15_0
  try clear hfz15_1
  try clear hfz15_2
  try clear hfz15_3
  try clear hfz15_4
  try clear hfz15_5
  try clear hfz15_6
  try clear hfz17_0
  try clear hfz17_1
  try clear hfz17_2
  try clear hfz17_3
  try clear hfz17_4
  try clear hfz17_5
  try clear hfz17_6
  try clear hfz18_0
  try clear hfz18_1
  try clear hfz18_2
  try clear hfz18_3
  try clear hfz18_4
  try clear hfz18_5
  try clear hfz18_6
  try clear hfz20_0
  try clear hfz20_1
  try clear hfz20_2
  try clear hfz20_3
  try clear hfz20_4
  try clear hfz20_5
  try clear hfz20_6
  try clear hfz21_0
  try clear hfz21_1
  try clear hfz21_2
  try clear hfz21_3
  try clear hfz21_4
  try clear hfz21_5
  try clear hfz21_6
  try clear hfz23_0
  try clear hfz23_1
  try clear hfz23_2
  try clear hfz23_3
  try clear hfz23_4
  try clear hfz23_5
  try clear hfz23_6
  try clear hfz24_0
  try clear hfz24_1
  try clear hfz24_2
  try clear hfz24_3
  try clear hfz24_4
  try clear hfz24_5
  try clear hfz24_6
  try clear hfz26_0
  try clear hfz26_1
  try clear hfz26_2
  try clear hfz26_3
  try clear hfz26_4
  try clear hfz26_5
  try clear hfz26_6
  try clear hfz27_0
  try clear hfz27_1
  try clear hfz27_2
  try clear hfz27_3
  try clear hfz27_4
  try clear hfz27_5
  try clear hfz27_6
  try clear hfz29_0
  try clear hfz29_1
  try clear hfz29_2
  try clear hfz29_3
  try clear hfz29_4
  try clear hfz29_5
  try clear hfz29_6
  try clear hfz30_0
  try clear hfz30_1
  try clear hfz30_2
  try clear hfz30_3
  try clear hfz30_4
  try clear hfz30_5
  try clear hfz30_6
  try clear hfz32_0
  try clear hfz32_1
  try clear hfz32_2
  try clear hfz32_3
  try clear hfz32_4
  try clear hfz32_5
  try clear hfz32_6
  try clear hfz33_0
  try clear hfz33_1
  try clear hfz33_2
  try clear hfz33_3
  try clear hfz33_4
  try clear hfz33_5
  try clear hfz33_6
  obtain⟨kq,x55_2,rfl,HA,HJ2,BK222,BK223,HB⟩:=hcut
  cases kq with
  | zero=>exact absurd HA.out (by simp [arboristref42_Same.j0])
  | succ kj2 =>
   have H:=HA.out
   clear HA
   simp only [arboristref42_Same.j0] at H
   by_cases c34:x55_2=true
   ·subst c34
    have H1:(some false)=some r:=by rw [if_pos rfl] at H;exact H
    clear H
    have H:=H1
    clear H1
    obtain rfl:=Option.some.inj H
    go_wp2
    go_ret
    exact⟨by first|rfl|(simp [errW_none,errW_some] <;> rfl)|(simp [*,errW_none,errW_some] <;> rfl),by repeat (first|(with_reducible first|exact HB.out|apply bA_|apply bN_|apply bD_|refine bS_ ?_ GE222.out|refine bS_ ?_ GE223.out)|exact HB.out)⟩
   ·replace c34:=Bool.eq_false_iff.mpr c34
    subst c34
    have H1:(arboristref42_Same.l0 kj2 0 a0_0 a0_1 a0_2 a0_3 l0_4 a0_5 l0_6 a1_0 a1_1 a1_2 a1_3 l1_4 a1_5 l1_6)=some r:=by rw [if_neg (show ¬ (false=true) by decide)] at H;exact H
    clear H
    have H:=H1
    clear H1
    have H':=Az.mk H
    clear H
    go_wp2
    go_loopg [5] kj2 (fun kq v5 w'=>∃ (x5_2:Int),v5=.int .i64 x5_2∧Az (arboristref42_Same.l0 kq x5_2 a0_0 a0_1 a0_2 a0_3 l0_4 a0_5 l0_6 a1_0 a1_1 a1_2 a1_3 l1_4 a1_5 l1_6=some r)∧Az (kq≤kj2)∧Az (w'.heap[gb222]?=some (.cells #[.int .i64 a0_0,.int .i64 a0_1,.int .i64 a0_2,.int .i64 a0_3,(.slice A0_4 l0_4.length c0_4),.string a0_5,(.slice A0_6 l0_6.length c0_6)] 32 (0,0)))∧Az (w'.heap[gb223]?=some (.cells #[.int .i64 a1_0,.int .i64 a1_1,.int .i64 a1_2,.int .i64 a1_3,(.slice A1_4 l1_4.length c1_4),.string a1_5,(.slice A1_6 l1_6.length c1_6)] 32 (0,0)))∧Az (Below w.heap.size w w'))
    case atStart=>exact⟨(0),(by first|rfl|(simp;done)|(simp [*];done)|(refine congrArg Value.bool ?_;exact isE_ _)),H',⟨Nat.le_refl _⟩,⟨by(with_reducible repeat (first|refine kN_ ?_ _|refine kD_ ?_|refine kA_ ?_ _));exact BK222.out⟩,⟨by(with_reducible repeat (first|refine kN_ ?_ _|refine kD_ ?_|refine kA_ ?_ _));exact BK223.out⟩,⟨by repeat (first|(with_reducible first|exact HB.out|apply bA_|apply bN_|apply bD_|refine bS_ ?_ GE222.out|refine bS_ ?_ GE223.out)|exact HB.out)⟩⟩
    case round =>
     clear H'
     try clear c1
     try clear c2
     try clear p2
     try clear c3
     try clear c6
     try clear c6b0
     try clear c6b1
     try clear c7
     try clear c7b0
     try clear c7b1
     try clear c8
     try clear c8b0
     try clear c8b1
     try clear c9
     try clear c9b0
     try clear c9b1
     try clear c10
     try clear c10b0
     try clear c10b1
     try clear c12
     try clear c13
     try clear c16
     try clear c19
     try clear c22
     try clear c25
     try clear c28
     try clear c31
     try clear c34
     try clear hcz14_0
     try clear hcz14_1
     try clear hcz14_2
     try clear hcz14_3
     try clear hcz14_4
     try clear hcz14_5
     try clear hcz14_6
     try clear hcz15_0
     try clear hcz15_1
     try clear hcz15_2
     try clear hcz15_3
     try clear hcz15_4
     try clear hcz15_5
     try clear hcz15_6
     try clear hcz17_0
     try clear hcz17_1
     try clear hcz17_2
     try clear hcz17_3
     try clear hcz17_4
     try clear hcz17_5
     try clear hcz17_6
     try clear hcz18_0
     try clear hcz18_1
     try clear hcz18_2
     try clear hcz18_3
     try clear hcz18_4
     try clear hcz18_5
     try clear hcz18_6
     try clear hcz20_0
     try clear hcz20_1
     try clear hcz20_2
     try clear hcz20_3
     try clear hcz20_4
     try clear hcz20_5
     try clear hcz20_6
     try clear hcz21_0
     try clear hcz21_1
     try clear hcz21_2
     try clear hcz21_3
     try clear hcz21_4
     try clear hcz21_5
     try clear hcz21_6
     try clear hcz23_0
     try clear hcz23_1
     try clear hcz23_2
     try clear hcz23_3
     try clear hcz23_4
     try clear hcz23_5
     try clear hcz23_6
     try clear hcz24_0
     try clear hcz24_1
     try clear hcz24_2
     try clear hcz24_3
     try clear hcz24_4
     try clear hcz24_5
     try clear hcz24_6
     try clear hcz26_0
     try clear hcz26_1
     try clear hcz26_2
     try clear hcz26_3
     try clear hcz26_4
     try clear hcz26_5
     try clear hcz26_6
     try clear hcz27_0
     try clear hcz27_1
     try clear hcz27_2
     try clear hcz27_3
     try clear hcz27_4
     try clear hcz27_5
     try clear hcz27_6
     try clear hcz29_0
     try clear hcz29_1
     try clear hcz29_2
     try clear hcz29_3
     try clear hcz29_4
     try clear hcz29_5
     try clear hcz29_6
     try clear hcz30_0
     try clear hcz30_1
     try clear hcz30_2
     try clear hcz30_3
     try clear hcz30_4
     try clear hcz30_5
     try clear hcz30_6
     try clear hcz32_0
     try clear hcz32_1
     try clear hcz32_2
     try clear hcz32_3
     try clear hcz32_4
     try clear hcz32_5
     try clear hcz32_6
     try clear hcz33_0
     try clear hcz33_1
     try clear hcz33_2
     try clear hcz33_3
     try clear hcz33_4
     try clear hcz33_5
     try clear hcz33_6
     try clear hfz14_0
     try clear hfz14_1
     try clear hfz14_2
     try clear hfz14_3
     try clear hfz14_4
     try clear hfz14_5
     try clear hfz14_6
     try clear hfz15_0
     try clear hfz15_1
     try clear hfz15_2
     try clear hfz15_3
     try clear hfz15_4
     try clear hfz15_5
     try clear hfz15_6
     try clear hfz17_0
     try clear hfz17_1
     try clear hfz17_2
     try clear hfz17_3
     try clear hfz17_4
     try clear hfz17_5
     try clear hfz17_6
     try clear hfz18_0
     try clear hfz18_1
     try clear hfz18_2
     try clear hfz18_3
     try clear hfz18_4
     try clear hfz18_5
     try clear hfz18_6
     try clear hfz20_0
     try clear hfz20_1
     try clear hfz20_2
     try clear hfz20_3
     try clear hfz20_4
     try clear hfz20_5
     try clear hfz20_6
     try clear hfz21_0
     try clear hfz21_1
     try clear hfz21_2
     try clear hfz21_3
     try clear hfz21_4
     try clear hfz21_5
     try clear hfz21_6
     try clear hfz23_0
     try clear hfz23_1
     try clear hfz23_2
     try clear hfz23_3
     try clear hfz23_4
     try clear hfz23_5
     try clear hfz23_6
     try clear hfz24_0
     try clear hfz24_1
     try clear hfz24_2
     try clear hfz24_3
     try clear hfz24_4
     try clear hfz24_5
     try clear hfz24_6
     try clear hfz26_0
     try clear hfz26_1
     try clear hfz26_2
     try clear hfz26_3
     try clear hfz26_4
     try clear hfz26_5
     try clear hfz26_6
     try clear hfz27_0
     try clear hfz27_1
     try clear hfz27_2
     try clear hfz27_3
     try clear hfz27_4
     try clear hfz27_5
     try clear hfz27_6
     try clear hfz29_0
     try clear hfz29_1
     try clear hfz29_2
     try clear hfz29_3
     try clear hfz29_4
     try clear hfz29_5
     try clear hfz29_6
     try clear hfz30_0
     try clear hfz30_1
     try clear hfz30_2
     try clear hfz30_3
     try clear hfz30_4
     try clear hfz30_5
     try clear hfz30_6
     try clear hfz32_0
     try clear hfz32_1
     try clear hfz32_2
     try clear hfz32_3
     try clear hfz32_4
     try clear hfz32_5
     try clear hfz32_6
     try clear hfz33_0
     try clear hfz33_1
     try clear hfz33_2
     try clear hfz33_3
     try clear hfz33_4
     try clear hfz33_5
     try clear hfz33_6
     try clear p2
     obtain⟨x5_2,rfl,HA,HK2,BK222,BK223,HB⟩:=hrel
     cases gk with
     | zero=>exact absurd HA.out (by simp [arboristref42_Same.l0])
     | succ k2 =>
      have H:=HA.out
      clear HA
      simp only [arboristref42_Same.l0] at H
      by_cases c35:x5_2 < (l0_6.length:Int)
      ·rw [if_pos c35] at H
       have c35b0:decide (x5_2 < (l0_6.length:Int))=true:=decide_eq_true c35
       clear c35
       by_cases c36:0≤x5_2
       ·rw [if_pos c36] at H
        have c36b0:decide (0≤x5_2)=true:=decide_eq_true c36
        clear c36
        by_cases c37:x5_2 < (l1_6.length:Int)
        ·rw [if_pos c37] at H
         have c37b0:decide (x5_2 < (l1_6.length:Int))=true:=decide_eq_true c37
         clear c37
         replace H:=Option.bind_eq_some_iff.mp H
         obtain⟨t227,A380,H⟩:=H
         replace H:(if t227=true then(arboristref42_Same.l0 k2 (wrap64 (x5_2 + 1)) a0_0 a0_1 a0_2 a0_3 l0_4 a0_5 l0_6 a1_0 a1_1 a1_2 a1_3 l1_4 a1_5 l1_6)else(some false))=some r:=H
         have A38:=Az.mk A380
         clear A380
         by_cases c39:t227=true
         ·subst c39
          have H1:(arboristref42_Same.l0 k2 (wrap64 (x5_2 + 1)) a0_0 a0_1 a0_2 a0_3 l0_4 a0_5 l0_6 a1_0 a1_1 a1_2 a1_3 l1_4 a1_5 l1_6)=some r:=by rw [if_pos rfl] at H;exact H
          clear H
          have H:=H1
          clear H1
          have H':=Az.mk H
          clear H
          have hnb40:=NB222_223.out
          have hnc40:=NB223_222.out
          have hcz41_0:wr.cell? ⟨gb222,0,none⟩=some (.int .i64 a0_0):=(bC_ BK222.out 0).trans rfl
          have hcz41_1:wr.cell? ⟨gb222,1,none⟩=some (.int .i64 a0_1):=(bC_ BK222.out 1).trans rfl
          have hcz41_2:wr.cell? ⟨gb222,2,none⟩=some (.int .i64 a0_2):=(bC_ BK222.out 2).trans rfl
          have hcz41_3:wr.cell? ⟨gb222,3,none⟩=some (.int .i64 a0_3):=(bC_ BK222.out 3).trans rfl
          have hcz41_4:wr.cell? ⟨gb222,4,none⟩=some (.slice A0_4 l0_4.length c0_4):=(bC_ BK222.out 4).trans rfl
          have hcz41_5:wr.cell? ⟨gb222,5,none⟩=some (.string a0_5):=(bC_ BK222.out 5).trans rfl
          have hcz41_6:wr.cell? ⟨gb222,6,none⟩=some (.slice A0_6 l0_6.length c0_6):=(bC_ BK222.out 6).trans rfl
          have hfz41_0:=bF_ BK222.out 0
          have hfz41_1:=bF_ BK222.out 1
          have hfz41_2:=bF_ BK222.out 2
          have hfz41_3:=bF_ BK222.out 3
          have hfz41_4:=bF_ BK222.out 4
          have hfz41_5:=bF_ BK222.out 5
          have hfz41_6:=bF_ BK222.out 6
          try go_wp2
          have n0_:=Az.mk (kD_ BK222.out)
          have n1_:=Az.mk (kD_ BK223.out)
          have n2_:=Az.mk (bD_ HB.out)
          clear BK222
          clear BK223
          clear HB
          have BK222:=n0_
          have BK223:=n1_
          have HB:=n2_
          clear n0_ n1_ n2_
          have p225:0≤(x5_2:Int):=of_decide_eq_true (by first|(with_reducible assumption)|assumption)
          have q225:x5_2 < (l0_6.length:Int):=of_decide_eq_true (by first|(with_reducible assumption)|assumption)
          obtain⟨ad225,A225_4,c225_4,A225_6,c225_6,e225,hx225_0,hx225_1,hx225_2,hx225_3,hx225_4,hx225_5,hx225_6,hl225_4,hi225_4,hl225_6,hi225_6⟩:=at_T32 HR0_6.out x5_2 p225 q225
          have hw225_6:=hx225_6
          have hw225_5:=hx225_5
          have hw225_4:=hx225_4
          have hw225_3:=hx225_3
          have hw225_2:=hx225_2
          have hw225_1:=hx225_1
          have hw225_0:=hx225_0
          cases e225
          replace hx225_0:=(HB.out.cell (bL_ w _ hx225_0)).trans hx225_0
          replace hx225_1:=(HB.out.cell (bL_ w _ hx225_1)).trans hx225_1
          replace hx225_2:=(HB.out.cell (bL_ w _ hx225_2)).trans hx225_2
          replace hx225_3:=(HB.out.cell (bL_ w _ hx225_3)).trans hx225_3
          replace hx225_4:=(HB.out.cell (bL_ w _ hx225_4)).trans hx225_4
          replace hx225_5:=(HB.out.cell (bL_ w _ hx225_5)).trans hx225_5
          replace hx225_6:=(HB.out.cell (bL_ w _ hx225_6)).trans hx225_6
          have HR225_4:=Az.mk hi225_4
          have HC225_4:=Az.mk hl225_4
          clear hi225_4 hl225_4
          have HR225_6:=Az.mk hi225_6
          have HC225_6:=Az.mk hl225_6
          clear hi225_6 hl225_6
          replace p225:=eq_true p225
          replace q225:=eq_true q225
          have p226:0≤(x5_2:Int):=of_decide_eq_true (by first|(with_reducible assumption)|assumption)
          have q226:x5_2 < (l1_6.length:Int):=of_decide_eq_true (by first|(with_reducible assumption)|assumption)
          obtain⟨ad226,A226_4,c226_4,A226_6,c226_6,e226,hx226_0,hx226_1,hx226_2,hx226_3,hx226_4,hx226_5,hx226_6,hl226_4,hi226_4,hl226_6,hi226_6⟩:=at_T32 HR1_6.out x5_2 p226 q226
          have hw226_6:=hx226_6
          have hw226_5:=hx226_5
          have hw226_4:=hx226_4
          have hw226_3:=hx226_3
          have hw226_2:=hx226_2
          have hw226_1:=hx226_1
          have hw226_0:=hx226_0
          cases e226
          replace hx226_0:=(HB.out.cell (bL_ w _ hx226_0)).trans hx226_0
          replace hx226_1:=(HB.out.cell (bL_ w _ hx226_1)).trans hx226_1
          replace hx226_2:=(HB.out.cell (bL_ w _ hx226_2)).trans hx226_2
          replace hx226_3:=(HB.out.cell (bL_ w _ hx226_3)).trans hx226_3
          replace hx226_4:=(HB.out.cell (bL_ w _ hx226_4)).trans hx226_4
          replace hx226_5:=(HB.out.cell (bL_ w _ hx226_5)).trans hx226_5
          replace hx226_6:=(HB.out.cell (bL_ w _ hx226_6)).trans hx226_6
          have HR226_4:=Az.mk hi226_4
          have HC226_4:=Az.mk hl226_4
          clear hi226_4 hl226_4
          have HR226_6:=Az.mk hi226_6
          have HC226_6:=Az.mk hl226_6
          clear hi226_6 hl226_6
          replace p226:=eq_true p226
          replace q226:=eq_true q226
          refine start_ (n:=12) (S:=fun w'=>w'.cell? ⟨gb222,0,none⟩=some (.int .i64 a0_0)∧w'.cell? ⟨gb222,1,none⟩=some (.int .i64 a0_1)∧w'.cell? ⟨gb222,2,none⟩=some (.int .i64 a0_2)∧w'.cell? ⟨gb222,3,none⟩=some (.int .i64 a0_3)∧w'.cell? ⟨gb222,4,none⟩=some (.slice A0_4 l0_4.length c0_4)∧w'.cell? ⟨gb222,5,none⟩=some (.string a0_5)∧w'.cell? ⟨gb222,6,none⟩=some (.slice (some ad225) l0_6.length c0_6)∧w'.cell? ⟨gb223,0,none⟩=some (.int .i64 a1_0)∧w'.cell? ⟨gb223,1,none⟩=some (.int .i64 a1_1)∧w'.cell? ⟨gb223,2,none⟩=some (.int .i64 a1_2)∧w'.cell? ⟨gb223,3,none⟩=some (.int .i64 a1_3)∧w'.cell? ⟨gb223,4,none⟩=some (.slice A1_4 l1_4.length c1_4)∧w'.cell? ⟨gb223,5,none⟩=some (.string a1_5)∧w'.cell? ⟨gb223,6,none⟩=some (.slice (some ad226) l1_6.length c1_6)∧w'.cell? (ad225.add ((x5_2).toNat * 7))=some (.int .i64 ((rd_T32 l0_6 x5_2).f0))∧w'.cell? ⟨(ad225.add ((x5_2).toNat * 7)).block,(ad225.add ((x5_2).toNat * 7)).off + 1,none⟩=some (.int .i64 ((rd_T32 l0_6 x5_2).f1))∧w'.cell? ⟨(ad225.add ((x5_2).toNat * 7)).block,(ad225.add ((x5_2).toNat * 7)).off + 2,none⟩=some (.int .i64 ((rd_T32 l0_6 x5_2).f2))∧w'.cell? ⟨(ad225.add ((x5_2).toNat * 7)).block,(ad225.add ((x5_2).toNat * 7)).off + 3,none⟩=some (.int .i64 ((rd_T32 l0_6 x5_2).f3))∧w'.cell? ⟨(ad225.add ((x5_2).toNat * 7)).block,(ad225.add ((x5_2).toNat * 7)).off + 4,none⟩=some (.slice A225_4 ((rd_T32 l0_6 x5_2).f4).length c225_4)∧w'.cell? ⟨(ad225.add ((x5_2).toNat * 7)).block,(ad225.add ((x5_2).toNat * 7)).off + 5,none⟩=some (.string ((rd_T32 l0_6 x5_2).f5))∧w'.cell? ⟨(ad225.add ((x5_2).toNat * 7)).block,(ad225.add ((x5_2).toNat * 7)).off + 6,none⟩=some (.slice A225_6 ((rd_T32 l0_6 x5_2).f6).length c225_6)∧w'.cell? (ad226.add ((x5_2).toNat * 7))=some (.int .i64 ((rd_T32 l1_6 x5_2).f0))∧w'.cell? ⟨(ad226.add ((x5_2).toNat * 7)).block,(ad226.add ((x5_2).toNat * 7)).off + 1,none⟩=some (.int .i64 ((rd_T32 l1_6 x5_2).f1))∧w'.cell? ⟨(ad226.add ((x5_2).toNat * 7)).block,(ad226.add ((x5_2).toNat * 7)).off + 2,none⟩=some (.int .i64 ((rd_T32 l1_6 x5_2).f2))∧w'.cell? ⟨(ad226.add ((x5_2).toNat * 7)).block,(ad226.add ((x5_2).toNat * 7)).off + 3,none⟩=some (.int .i64 ((rd_T32 l1_6 x5_2).f3))∧w'.cell? ⟨(ad226.add ((x5_2).toNat * 7)).block,(ad226.add ((x5_2).toNat * 7)).off + 4,none⟩=some (.slice A226_4 ((rd_T32 l1_6 x5_2).f4).length c226_4)∧w'.cell? ⟨(ad226.add ((x5_2).toNat * 7)).block,(ad226.add ((x5_2).toNat * 7)).off + 5,none⟩=some (.string ((rd_T32 l1_6 x5_2).f5))∧w'.cell? ⟨(ad226.add ((x5_2).toNat * 7)).block,(ad226.add ((x5_2).toNat * 7)).off + 6,none⟩=some (.slice A226_6 ((rd_T32 l1_6 x5_2).f6).length c226_6)) (ds:=[]) #[false,false,false,false,false,false,false,false,false,false,false,false] (by kernel_rfl) rfl rfl ⟨(bC_ BK222.out 0).trans rfl,(bC_ BK222.out 1).trans rfl,(bC_ BK222.out 2).trans rfl,(bC_ BK222.out 3).trans rfl,(bC_ BK222.out 4).trans rfl,(bC_ BK222.out 5).trans rfl,(bC_ BK222.out 6).trans rfl,(bC_ BK223.out 0).trans rfl,(bC_ BK223.out 1).trans rfl,(bC_ BK223.out 2).trans rfl,(bC_ BK223.out 3).trans rfl,(bC_ BK223.out 4).trans rfl,(bC_ BK223.out 5).trans rfl,(bC_ BK223.out 6).trans rfl,((HB.out.cell (bL_ w _ hw225_0)).trans hw225_0),((HB.out.cell (bL_ w _ hw225_1)).trans hw225_1),((HB.out.cell (bL_ w _ hw225_2)).trans hw225_2),((HB.out.cell (bL_ w _ hw225_3)).trans hw225_3),((HB.out.cell (bL_ w _ hw225_4)).trans hw225_4),((HB.out.cell (bL_ w _ hw225_5)).trans hw225_5),((HB.out.cell (bL_ w _ hw225_6)).trans hw225_6),((HB.out.cell (bL_ w _ hw226_0)).trans hw226_0),((HB.out.cell (bL_ w _ hw226_1)).trans hw226_1),((HB.out.cell (bL_ w _ hw226_2)).trans hw226_2),((HB.out.cell (bL_ w _ hw226_3)).trans hw226_3),((HB.out.cell (bL_ w _ hw226_4)).trans hw226_4),((HB.out.cell (bL_ w _ hw226_5)).trans hw226_5),((HB.out.cell (bL_ w _ hw226_6)).trans hw226_6)⟩ (fun hHeld=>?_);refine with_tabW arboristref42_Same.tab6 arboristref42_Same.bits6 (fun HT_ HW_=>?_)
          generalize wr.drew=w42 at BK222 BK223 HB HR225_4 HR225_6 HR226_4 HR226_6 hx225_0 hx225_1 hx225_2 hx225_3 hx225_4 hx225_5 hx225_6 hx226_0 hx226_1 hx226_2 hx226_3 hx226_4 hx226_5 hx226_6 hHeld ⊢
          refine pure_ (i:=0) (N:=some 63) (v:=?_) (a':=?_) #[true,false,false,false,false,false,false,false,false,false,false,false] rfl rfl (any_of HT_.out (by kernel_rfl)) (fun _ _ _ h=>h) (Or.inl ⟨by rfl,?_⟩) ?_ ?_
          rotate_left
          ·intro w'
           go_simp
           with_reducible rfl
          rotate_left
          ·simp only [Act.put,sT_,s0_,sC_,i64_w,i32_w]
           rfl
          refine pure_ (i:=2) (N:=some 65) (v:=?_) (a':=?_) #[true,false,true,false,false,false,false,false,false,false,false,false] rfl rfl (any_of HT_.out (by kernel_rfl)) (fun _ _ _ h=>h) (Or.inl ⟨by rfl,?_⟩) ?_ ?_
          rotate_left
          ·intro w'
           go_simp
           with_reducible rfl
          rotate_left
          ·simp only [Act.put,sT_,s0_,sC_,i64_w,i32_w]
           rfl
          refine pure_ (i:=5) (N:=some 68) (v:=?_) (a':=?_) #[true,false,true,false,false,true,false,false,false,false,false,false] rfl rfl (any_of HT_.out (by kernel_rfl)) (fun _ _ _ h=>h) (Or.inl ⟨by rfl,?_⟩) ?_ ?_
          rotate_left
          ·intro w'
           go_simp
           with_reducible rfl
          rotate_left
          ·simp only [Act.put,sT_,s0_,sC_,i64_w,i32_w]
           rfl
          refine pure_ (i:=7) (N:=some 70) (v:=?_) (a':=?_) #[true,false,true,false,false,true,false,true,false,false,false,false] rfl rfl (any_of HT_.out (by kernel_rfl)) (fun _ _ _ h=>h) (Or.inl ⟨by rfl,?_⟩) ?_ ?_
          rotate_left
          ·intro w'
           go_simp
           with_reducible rfl
          rotate_left
          ·simp only [Act.put,sT_,s0_,sC_,i64_w,i32_w]
           rfl
          refine take_ (i:=1) (N:=some 64) (v:=?_) (a':=?_) #[true,true,true,false,false,true,false,true,false,false,false,false] rfl rfl (take_ofW HT_.out HW_.out (by kernel_rfl)) (fun _ _ _ h=>h) (Or.inl ⟨by rfl,?_⟩) hHeld ?_ ?_
          rotate_left
          ·rintro w' ⟨s0,s1,s2,s3,s4,s5,s6,s7,s8,s9,s10,s11,s12,s13,s14,s15,s16,s17,s18,s19,s20,s21,s22,s23,s24,s25,s26,s27⟩
           go_simp
           with_reducible rfl
          rotate_left
          ·simp only [Act.put,sT_,s0_,sC_,i64_w,i32_w]
           rfl
          refine pure_ (i:=3) (N:=some 66) (v:=?_) (a':=?_) #[true,true,true,true,false,true,false,true,false,false,false,false] rfl rfl (any_of HT_.out (by kernel_rfl)) (fun _ _ _ h=>h) (Or.inl ⟨by rfl,?_⟩) ?_ ?_
          rotate_left
          ·intro w'
           go_simp
           with_reducible rfl
          rotate_left
          ·simp only [Act.put,sT_,s0_,sC_,i64_w,i32_w]
           rfl
          refine take_ (i:=4) (N:=some 67) (v:=?_) (a':=?_) #[true,true,true,true,true,true,false,true,false,false,false,false] rfl rfl (take_ofW HT_.out HW_.out (by kernel_rfl)) (fun _ _ _ h=>h) (Or.inl ⟨by rfl,?_⟩) hHeld ?_ ?_
          rotate_left
          ·rintro w' ⟨s0,s1,s2,s3,s4,s5,s6,s7,s8,s9,s10,s11,s12,s13,s14,s15,s16,s17,s18,s19,s20,s21,s22,s23,s24,s25,s26,s27⟩
           go_simp
           with_reducible rfl
          rotate_left
          ·simp only [Act.put,sT_,s0_,sC_,i64_w,i32_w]
           rfl
          refine take_ (i:=6) (N:=some 69) (v:=?_) (a':=?_) #[true,true,true,true,true,true,true,true,false,false,false,false] rfl rfl (take_ofW HT_.out HW_.out (by kernel_rfl)) (fun _ _ _ h=>h) (Or.inl ⟨by rfl,?_⟩) hHeld ?_ ?_
          rotate_left
          ·rintro w' ⟨s0,s1,s2,s3,s4,s5,s6,s7,s8,s9,s10,s11,s12,s13,s14,s15,s16,s17,s18,s19,s20,s21,s22,s23,s24,s25,s26,s27⟩
           go_simp
           with_reducible rfl
          rotate_left
          ·simp only [Act.put,sT_,s0_,sC_,i64_w,i32_w]
           rfl
          refine pure_ (i:=8) (N:=some 71) (v:=?_) (a':=?_) #[true,true,true,true,true,true,true,true,true,false,false,false] rfl rfl (any_of HT_.out (by kernel_rfl)) (fun _ _ _ h=>h) (Or.inl ⟨by rfl,?_⟩) ?_ ?_
          rotate_left
          ·intro w'
           go_simp
           with_reducible rfl
          rotate_left
          ·simp only [Act.put,sT_,s0_,sC_,i64_w,i32_w]
           rfl
          refine take_ (i:=9) (N:=some 72) (v:=?_) (a':=?_) #[true,true,true,true,true,true,true,true,true,true,false,false] rfl rfl (take_ofW HT_.out HW_.out (by kernel_rfl)) (fun _ _ _ h=>h) (Or.inl ⟨by rfl,?_⟩) hHeld ?_ ?_
          rotate_left
          ·rintro w' ⟨s0,s1,s2,s3,s4,s5,s6,s7,s8,s9,s10,s11,s12,s13,s14,s15,s16,s17,s18,s19,s20,s21,s22,s23,s24,s25,s26,s27⟩
           go_simp
           with_reducible rfl
          rotate_left
          ·simp only [Act.put,sT_,s0_,sC_,i64_w,i32_w]
           rfl
          refine one_ (i:=10) (N:=some 73) #[true,true,true,true,true,true,true,true,true,true,true,false] rfl rfl (one_of HT_.out (by kernel_rfl)) (by decide) (fun K hK=>?_)
          refine goes_ Try.func25 (by kernel_rfl) rfl #[.agg #[.int .i64 ((rd_T32 l0_6 x5_2).f0),.int .i64 ((rd_T32 l0_6 x5_2).f1),.int .i64 ((rd_T32 l0_6 x5_2).f2),.int .i64 ((rd_T32 l0_6 x5_2).f3),.slice A225_4 ((rd_T32 l0_6 x5_2).f4).length c225_4,.string ((rd_T32 l0_6 x5_2).f5),.slice A225_6 ((rd_T32 l0_6 x5_2).f6).length c225_6],.agg #[.int .i64 ((rd_T32 l1_6 x5_2).f0),.int .i64 ((rd_T32 l1_6 x5_2).f1),.int .i64 ((rd_T32 l1_6 x5_2).f2),.int .i64 ((rd_T32 l1_6 x5_2).f3),.slice A226_4 ((rd_T32 l1_6 x5_2).f4).length c226_4,.string ((rd_T32 l1_6 x5_2).f5),.slice A226_6 ((rd_T32 l1_6 x5_2).f6).length c226_6]] (by rfl) rfl rfl (by(try simp only [List.map_toArray,List.map_cons,List.map_nil]);first|done|rfl|(simp only [List.length_drop,List.length_take];rfl)) ?_
          with_reducible refine(ih k2 (by have:=HJ2.out;have:=HK2.out;omega) ((rd_T32 l0_6 x5_2).f0) ((rd_T32 l0_6 x5_2).f1) ((rd_T32 l0_6 x5_2).f2) ((rd_T32 l0_6 x5_2).f3) _ _ ((rd_T32 l0_6 x5_2).f4) ((rd_T32 l0_6 x5_2).f5) _ _ ((rd_T32 l0_6 x5_2).f6) ((rd_T32 l1_6 x5_2).f0) ((rd_T32 l1_6 x5_2).f1) ((rd_T32 l1_6 x5_2).f2) ((rd_T32 l1_6 x5_2).f3) _ _ ((rd_T32 l1_6 x5_2).f4) ((rd_T32 l1_6 x5_2).f5) _ _ ((rd_T32 l1_6 x5_2).f6) true _ ?side1 ?side2 ?side3 ?side4 ?side5 ?side6 ?side7 ?side8 A38.out).mono ?_
          (case side1=>repeat (first|exact(Kd.C_below HR225_4.out HB.out)|(with_reducible first|refine Kd.C_alloc ?_ _|refine Kd.C_drewN ?_ _|refine Kd.C_drew ?_)))
          (case side2=>exact HC225_4.out)
          (case side3=>repeat (first|exact(Kd.C_below HR225_6.out HB.out)|(with_reducible first|refine Kd.C_alloc ?_ _|refine Kd.C_drewN ?_ _|refine Kd.C_drew ?_)))
          (case side4=>exact HC225_6.out)
          (case side5=>repeat (first|exact(Kd.C_below HR226_4.out HB.out)|(with_reducible first|refine Kd.C_alloc ?_ _|refine Kd.C_drewN ?_ _|refine Kd.C_drew ?_)))
          (case side6=>exact HC226_4.out)
          (case side7=>repeat (first|exact(Kd.C_below HR226_6.out HB.out)|(with_reducible first|refine Kd.C_alloc ?_ _|refine Kd.C_drewN ?_ _|refine Kd.C_drew ?_)))
          (case side8=>exact HC226_6.out)
          rintro e w43 ⟨rfl,hb⟩
          refine⟨_,rfl,?_⟩
          have n0_:=Az.mk (kB_ (g:=gb222) (o:=.cells #[.int .i64 a0_0,.int .i64 a0_1,.int .i64 a0_2,.int .i64 a0_3,.slice A0_4 l0_4.length c0_4,.string a0_5,.slice (some ad225) l0_6.length c0_6] 32 (0,0)) (by(with_reducible repeat (first|refine kN_ ?_ _|refine kD_ ?_|refine kA_ ?_ _));exact BK222.out) hb)
          have n1_:=Az.mk (kB_ (g:=gb223) (o:=.cells #[.int .i64 a1_0,.int .i64 a1_1,.int .i64 a1_2,.int .i64 a1_3,.slice A1_4 l1_4.length c1_4,.string a1_5,.slice (some ad226) l1_6.length c1_6] 32 (0,0)) (by(with_reducible repeat (first|refine kN_ ?_ _|refine kD_ ?_|refine kA_ ?_ _));exact BK223.out) hb)
          have n2_:=Az.mk (bT_ (by repeat (first|(with_reducible first|exact HB.out|apply bA_|apply bN_|apply bD_|refine bS_ ?_ GE222.out|refine bS_ ?_ GE223.out)|exact HB.out)) hb)
          clear BK222
          clear BK223
          clear HB
          have BK222:=n0_
          have BK223:=n1_
          have HB:=n2_
          clear n0_ n1_ n2_
          (try clear hb)
          (try clear hb2)
          (try clear hk)
          (try clear hi)
          refine hK.out _ _ ⟨(bC_ BK222.out 0).trans rfl,(bC_ BK222.out 1).trans rfl,(bC_ BK222.out 2).trans rfl,(bC_ BK222.out 3).trans rfl,(bC_ BK222.out 4).trans rfl,(bC_ BK222.out 5).trans rfl,(bC_ BK222.out 6).trans rfl,(bC_ BK223.out 0).trans rfl,(bC_ BK223.out 1).trans rfl,(bC_ BK223.out 2).trans rfl,(bC_ BK223.out 3).trans rfl,(bC_ BK223.out 4).trans rfl,(bC_ BK223.out 5).trans rfl,(bC_ BK223.out 6).trans rfl,((HB.out.cell (bL_ w _ hw225_0)).trans hw225_0),((HB.out.cell (bL_ w _ hw225_1)).trans hw225_1),((HB.out.cell (bL_ w _ hw225_2)).trans hw225_2),((HB.out.cell (bL_ w _ hw225_3)).trans hw225_3),((HB.out.cell (bL_ w _ hw225_4)).trans hw225_4),((HB.out.cell (bL_ w _ hw225_5)).trans hw225_5),((HB.out.cell (bL_ w _ hw225_6)).trans hw225_6),((HB.out.cell (bL_ w _ hw226_0)).trans hw226_0),((HB.out.cell (bL_ w _ hw226_1)).trans hw226_1),((HB.out.cell (bL_ w _ hw226_2)).trans hw226_2),((HB.out.cell (bL_ w _ hw226_3)).trans hw226_3),((HB.out.cell (bL_ w _ hw226_4)).trans hw226_4),((HB.out.cell (bL_ w _ hw226_5)).trans hw226_5),((HB.out.cell (bL_ w _ hw226_6)).trans hw226_6)⟩ (fun hHeld=>?_)
          clear hK K
          refine norm_ (a':=?_) ?_ ?_
          rotate_left
          ·show Act.put _ (some 73) _=_
           simp only [Act.put,sT_,s0_,sC_,i64_w,i32_w]
           rfl
          refine pure_ (i:=11) (N:=some 74) (v:=?_) (a':=?_) #[true,true,true,true,true,true,true,true,true,true,true,true] rfl rfl (any_of HT_.out (by kernel_rfl)) (fun _ _ _ h=>h) (Or.inl ⟨by rfl,?_⟩) ?_ ?_
          rotate_left
          ·intro w'
           go_simp
           with_reducible rfl
          rotate_left
          ·simp only [Act.put,sT_,s0_,sC_,i64_w,i32_w]
           rfl
          refine done_ (done_of HT_.out (by kernel_rfl)) ?_
          try go_wp2
          go_roundg k2
          case measure=>have:=HJ2.out;have:=HK2.out;omega
          case rel=>exact⟨(wrap64 (x5_2 + 1)),(by first|rfl|(simp;done)|(simp [*];done)|(refine congrArg Value.bool ?_;exact isE_ _)),H',⟨by have:=HJ2.out;have:=HK2.out;omega⟩,⟨by(with_reducible repeat (first|refine kN_ ?_ _|refine kD_ ?_|refine kA_ ?_ _));exact BK222.out⟩,⟨by(with_reducible repeat (first|refine kN_ ?_ _|refine kD_ ?_|refine kA_ ?_ _));exact BK223.out⟩,⟨by repeat (first|(with_reducible first|exact HB.out|apply bA_|apply bN_|apply bD_|refine bS_ ?_ GE222.out|refine bS_ ?_ GE223.out)|exact HB.out)⟩⟩
         ·replace c39:=Bool.eq_false_iff.mpr c39
          subst c39
          have H1:(some false)=some r:=by rw [if_neg (show ¬ (false=true) by decide)] at H;exact H
          clear H
          have H:=H1
          clear H1
          obtain rfl:=Option.some.inj H
          have hnb44:=NB222_223.out
          have hnc44:=NB223_222.out
          have hcz45_0:wr.cell? ⟨gb222,0,none⟩=some (.int .i64 a0_0):=(bC_ BK222.out 0).trans rfl
          have hcz45_1:wr.cell? ⟨gb222,1,none⟩=some (.int .i64 a0_1):=(bC_ BK222.out 1).trans rfl
          have hcz45_2:wr.cell? ⟨gb222,2,none⟩=some (.int .i64 a0_2):=(bC_ BK222.out 2).trans rfl
          have hcz45_3:wr.cell? ⟨gb222,3,none⟩=some (.int .i64 a0_3):=(bC_ BK222.out 3).trans rfl
          have hcz45_4:wr.cell? ⟨gb222,4,none⟩=some (.slice A0_4 l0_4.length c0_4):=(bC_ BK222.out 4).trans rfl
          have hcz45_5:wr.cell? ⟨gb222,5,none⟩=some (.string a0_5):=(bC_ BK222.out 5).trans rfl
          have hcz45_6:wr.cell? ⟨gb222,6,none⟩=some (.slice A0_6 l0_6.length c0_6):=(bC_ BK222.out 6).trans rfl
          have hfz45_0:=bF_ BK222.out 0
          have hfz45_1:=bF_ BK222.out 1
          have hfz45_2:=bF_ BK222.out 2
          have hfz45_3:=bF_ BK222.out 3
          have hfz45_4:=bF_ BK222.out 4
          have hfz45_5:=bF_ BK222.out 5
          have hfz45_6:=bF_ BK222.out 6
          try go_wp2
          have n0_:=Az.mk (kD_ BK222.out)
          have n1_:=Az.mk (kD_ BK223.out)
          have n2_:=Az.mk (bD_ HB.out)
          clear BK222
          clear BK223
          clear HB
          have BK222:=n0_
          have BK223:=n1_
          have HB:=n2_
          clear n0_ n1_ n2_
          have p225:0≤(x5_2:Int):=of_decide_eq_true (by first|(with_reducible assumption)|assumption)
          have q225:x5_2 < (l0_6.length:Int):=of_decide_eq_true (by first|(with_reducible assumption)|assumption)
          obtain⟨ad225,A225_4,c225_4,A225_6,c225_6,e225,hx225_0,hx225_1,hx225_2,hx225_3,hx225_4,hx225_5,hx225_6,hl225_4,hi225_4,hl225_6,hi225_6⟩:=at_T32 HR0_6.out x5_2 p225 q225
          have hw225_6:=hx225_6
          have hw225_5:=hx225_5
          have hw225_4:=hx225_4
          have hw225_3:=hx225_3
          have hw225_2:=hx225_2
          have hw225_1:=hx225_1
          have hw225_0:=hx225_0
          cases e225
          replace hx225_0:=(HB.out.cell (bL_ w _ hx225_0)).trans hx225_0
          replace hx225_1:=(HB.out.cell (bL_ w _ hx225_1)).trans hx225_1
          replace hx225_2:=(HB.out.cell (bL_ w _ hx225_2)).trans hx225_2
          replace hx225_3:=(HB.out.cell (bL_ w _ hx225_3)).trans hx225_3
          replace hx225_4:=(HB.out.cell (bL_ w _ hx225_4)).trans hx225_4
          replace hx225_5:=(HB.out.cell (bL_ w _ hx225_5)).trans hx225_5
          replace hx225_6:=(HB.out.cell (bL_ w _ hx225_6)).trans hx225_6
          have HR225_4:=Az.mk hi225_4
          have HC225_4:=Az.mk hl225_4
          clear hi225_4 hl225_4
          have HR225_6:=Az.mk hi225_6
          have HC225_6:=Az.mk hl225_6
          clear hi225_6 hl225_6
          replace p225:=eq_true p225
          replace q225:=eq_true q225
          have p226:0≤(x5_2:Int):=of_decide_eq_true (by first|(with_reducible assumption)|assumption)
          have q226:x5_2 < (l1_6.length:Int):=of_decide_eq_true (by first|(with_reducible assumption)|assumption)
          obtain⟨ad226,A226_4,c226_4,A226_6,c226_6,e226,hx226_0,hx226_1,hx226_2,hx226_3,hx226_4,hx226_5,hx226_6,hl226_4,hi226_4,hl226_6,hi226_6⟩:=at_T32 HR1_6.out x5_2 p226 q226
          have hw226_6:=hx226_6
          have hw226_5:=hx226_5
          have hw226_4:=hx226_4
          have hw226_3:=hx226_3
          have hw226_2:=hx226_2
          have hw226_1:=hx226_1
          have hw226_0:=hx226_0
          cases e226
          replace hx226_0:=(HB.out.cell (bL_ w _ hx226_0)).trans hx226_0
          replace hx226_1:=(HB.out.cell (bL_ w _ hx226_1)).trans hx226_1
          replace hx226_2:=(HB.out.cell (bL_ w _ hx226_2)).trans hx226_2
          replace hx226_3:=(HB.out.cell (bL_ w _ hx226_3)).trans hx226_3
          replace hx226_4:=(HB.out.cell (bL_ w _ hx226_4)).trans hx226_4
          replace hx226_5:=(HB.out.cell (bL_ w _ hx226_5)).trans hx226_5
          replace hx226_6:=(HB.out.cell (bL_ w _ hx226_6)).trans hx226_6
          have HR226_4:=Az.mk hi226_4
          have HC226_4:=Az.mk hl226_4
          clear hi226_4 hl226_4
          have HR226_6:=Az.mk hi226_6
          have HC226_6:=Az.mk hl226_6
          clear hi226_6 hl226_6
          replace p226:=eq_true p226
          replace q226:=eq_true q226
          refine start_ (n:=12) (S:=fun w'=>w'.cell? ⟨gb222,0,none⟩=some (.int .i64 a0_0)∧w'.cell? ⟨gb222,1,none⟩=some (.int .i64 a0_1)∧w'.cell? ⟨gb222,2,none⟩=some (.int .i64 a0_2)∧w'.cell? ⟨gb222,3,none⟩=some (.int .i64 a0_3)∧w'.cell? ⟨gb222,4,none⟩=some (.slice A0_4 l0_4.length c0_4)∧w'.cell? ⟨gb222,5,none⟩=some (.string a0_5)∧w'.cell? ⟨gb222,6,none⟩=some (.slice (some ad225) l0_6.length c0_6)∧w'.cell? ⟨gb223,0,none⟩=some (.int .i64 a1_0)∧w'.cell? ⟨gb223,1,none⟩=some (.int .i64 a1_1)∧w'.cell? ⟨gb223,2,none⟩=some (.int .i64 a1_2)∧w'.cell? ⟨gb223,3,none⟩=some (.int .i64 a1_3)∧w'.cell? ⟨gb223,4,none⟩=some (.slice A1_4 l1_4.length c1_4)∧w'.cell? ⟨gb223,5,none⟩=some (.string a1_5)∧w'.cell? ⟨gb223,6,none⟩=some (.slice (some ad226) l1_6.length c1_6)∧w'.cell? (ad225.add ((x5_2).toNat * 7))=some (.int .i64 ((rd_T32 l0_6 x5_2).f0))∧w'.cell? ⟨(ad225.add ((x5_2).toNat * 7)).block,(ad225.add ((x5_2).toNat * 7)).off + 1,none⟩=some (.int .i64 ((rd_T32 l0_6 x5_2).f1))∧w'.cell? ⟨(ad225.add ((x5_2).toNat * 7)).block,(ad225.add ((x5_2).toNat * 7)).off + 2,none⟩=some (.int .i64 ((rd_T32 l0_6 x5_2).f2))∧w'.cell? ⟨(ad225.add ((x5_2).toNat * 7)).block,(ad225.add ((x5_2).toNat * 7)).off + 3,none⟩=some (.int .i64 ((rd_T32 l0_6 x5_2).f3))∧w'.cell? ⟨(ad225.add ((x5_2).toNat * 7)).block,(ad225.add ((x5_2).toNat * 7)).off + 4,none⟩=some (.slice A225_4 ((rd_T32 l0_6 x5_2).f4).length c225_4)∧w'.cell? ⟨(ad225.add ((x5_2).toNat * 7)).block,(ad225.add ((x5_2).toNat * 7)).off + 5,none⟩=some (.string ((rd_T32 l0_6 x5_2).f5))∧w'.cell? ⟨(ad225.add ((x5_2).toNat * 7)).block,(ad225.add ((x5_2).toNat * 7)).off + 6,none⟩=some (.slice A225_6 ((rd_T32 l0_6 x5_2).f6).length c225_6)∧w'.cell? (ad226.add ((x5_2).toNat * 7))=some (.int .i64 ((rd_T32 l1_6 x5_2).f0))∧w'.cell? ⟨(ad226.add ((x5_2).toNat * 7)).block,(ad226.add ((x5_2).toNat * 7)).off + 1,none⟩=some (.int .i64 ((rd_T32 l1_6 x5_2).f1))∧w'.cell? ⟨(ad226.add ((x5_2).toNat * 7)).block,(ad226.add ((x5_2).toNat * 7)).off + 2,none⟩=some (.int .i64 ((rd_T32 l1_6 x5_2).f2))∧w'.cell? ⟨(ad226.add ((x5_2).toNat * 7)).block,(ad226.add ((x5_2).toNat * 7)).off + 3,none⟩=some (.int .i64 ((rd_T32 l1_6 x5_2).f3))∧w'.cell? ⟨(ad226.add ((x5_2).toNat * 7)).block,(ad226.add ((x5_2).toNat * 7)).off + 4,none⟩=some (.slice A226_4 ((rd_T32 l1_6 x5_2).f4).length c226_4)∧w'.cell? ⟨(ad226.add ((x5_2).toNat * 7)).block,(ad226.add ((x5_2).toNat * 7)).off + 5,none⟩=some (.string ((rd_T32 l1_6 x5_2).f5))∧w'.cell? ⟨(ad226.add ((x5_2).toNat * 7)).block,(ad226.add ((x5_2).toNat * 7)).off + 6,none⟩=some (.slice A226_6 ((rd_T32 l1_6 x5_2).f6).length c226_6)) (ds:=[]) #[false,false,false,false,false,false,false,false,false,false,false,false] (by kernel_rfl) rfl rfl ⟨(bC_ BK222.out 0).trans rfl,(bC_ BK222.out 1).trans rfl,(bC_ BK222.out 2).trans rfl,(bC_ BK222.out 3).trans rfl,(bC_ BK222.out 4).trans rfl,(bC_ BK222.out 5).trans rfl,(bC_ BK222.out 6).trans rfl,(bC_ BK223.out 0).trans rfl,(bC_ BK223.out 1).trans rfl,(bC_ BK223.out 2).trans rfl,(bC_ BK223.out 3).trans rfl,(bC_ BK223.out 4).trans rfl,(bC_ BK223.out 5).trans rfl,(bC_ BK223.out 6).trans rfl,((HB.out.cell (bL_ w _ hw225_0)).trans hw225_0),((HB.out.cell (bL_ w _ hw225_1)).trans hw225_1),((HB.out.cell (bL_ w _ hw225_2)).trans hw225_2),((HB.out.cell (bL_ w _ hw225_3)).trans hw225_3),((HB.out.cell (bL_ w _ hw225_4)).trans hw225_4),((HB.out.cell (bL_ w _ hw225_5)).trans hw225_5),((HB.out.cell (bL_ w _ hw225_6)).trans hw225_6),((HB.out.cell (bL_ w _ hw226_0)).trans hw226_0),((HB.out.cell (bL_ w _ hw226_1)).trans hw226_1),((HB.out.cell (bL_ w _ hw226_2)).trans hw226_2),((HB.out.cell (bL_ w _ hw226_3)).trans hw226_3),((HB.out.cell (bL_ w _ hw226_4)).trans hw226_4),((HB.out.cell (bL_ w _ hw226_5)).trans hw226_5),((HB.out.cell (bL_ w _ hw226_6)).trans hw226_6)⟩ (fun hHeld=>?_);refine with_tabW arboristref42_Same.tab6 arboristref42_Same.bits6 (fun HT_ HW_=>?_)
          generalize wr.drew=w46 at BK222 BK223 HB HR225_4 HR225_6 HR226_4 HR226_6 hx225_0 hx225_1 hx225_2 hx225_3 hx225_4 hx225_5 hx225_6 hx226_0 hx226_1 hx226_2 hx226_3 hx226_4 hx226_5 hx226_6 hHeld ⊢
          refine pure_ (i:=0) (N:=some 63) (v:=?_) (a':=?_) #[true,false,false,false,false,false,false,false,false,false,false,false] rfl rfl (any_of HT_.out (by kernel_rfl)) (fun _ _ _ h=>h) (Or.inl ⟨by rfl,?_⟩) ?_ ?_
          rotate_left
          ·intro w'
           go_simp
           with_reducible rfl
          rotate_left
          ·simp only [Act.put,sT_,s0_,sC_,i64_w,i32_w]
           rfl
          refine pure_ (i:=2) (N:=some 65) (v:=?_) (a':=?_) #[true,false,true,false,false,false,false,false,false,false,false,false] rfl rfl (any_of HT_.out (by kernel_rfl)) (fun _ _ _ h=>h) (Or.inl ⟨by rfl,?_⟩) ?_ ?_
          rotate_left
          ·intro w'
           go_simp
           with_reducible rfl
          rotate_left
          ·simp only [Act.put,sT_,s0_,sC_,i64_w,i32_w]
           rfl
          refine pure_ (i:=5) (N:=some 68) (v:=?_) (a':=?_) #[true,false,true,false,false,true,false,false,false,false,false,false] rfl rfl (any_of HT_.out (by kernel_rfl)) (fun _ _ _ h=>h) (Or.inl ⟨by rfl,?_⟩) ?_ ?_
          rotate_left
          ·intro w'
           go_simp
           with_reducible rfl
          rotate_left
          ·simp only [Act.put,sT_,s0_,sC_,i64_w,i32_w]
           rfl
          refine pure_ (i:=7) (N:=some 70) (v:=?_) (a':=?_) #[true,false,true,false,false,true,false,true,false,false,false,false] rfl rfl (any_of HT_.out (by kernel_rfl)) (fun _ _ _ h=>h) (Or.inl ⟨by rfl,?_⟩) ?_ ?_
          rotate_left
          ·intro w'
           go_simp
           with_reducible rfl
          rotate_left
          ·simp only [Act.put,sT_,s0_,sC_,i64_w,i32_w]
           rfl
          refine take_ (i:=1) (N:=some 64) (v:=?_) (a':=?_) #[true,true,true,false,false,true,false,true,false,false,false,false] rfl rfl (take_ofW HT_.out HW_.out (by kernel_rfl)) (fun _ _ _ h=>h) (Or.inl ⟨by rfl,?_⟩) hHeld ?_ ?_
          rotate_left
          ·rintro w' ⟨s0,s1,s2,s3,s4,s5,s6,s7,s8,s9,s10,s11,s12,s13,s14,s15,s16,s17,s18,s19,s20,s21,s22,s23,s24,s25,s26,s27⟩
           go_simp
           with_reducible rfl
          rotate_left
          ·simp only [Act.put,sT_,s0_,sC_,i64_w,i32_w]
           rfl
          refine pure_ (i:=3) (N:=some 66) (v:=?_) (a':=?_) #[true,true,true,true,false,true,false,true,false,false,false,false] rfl rfl (any_of HT_.out (by kernel_rfl)) (fun _ _ _ h=>h) (Or.inl ⟨by rfl,?_⟩) ?_ ?_
          rotate_left
          ·intro w'
           go_simp
           with_reducible rfl
          rotate_left
          ·simp only [Act.put,sT_,s0_,sC_,i64_w,i32_w]
           rfl
          refine take_ (i:=4) (N:=some 67) (v:=?_) (a':=?_) #[true,true,true,true,true,true,false,true,false,false,false,false] rfl rfl (take_ofW HT_.out HW_.out (by kernel_rfl)) (fun _ _ _ h=>h) (Or.inl ⟨by rfl,?_⟩) hHeld ?_ ?_
          rotate_left
          ·rintro w' ⟨s0,s1,s2,s3,s4,s5,s6,s7,s8,s9,s10,s11,s12,s13,s14,s15,s16,s17,s18,s19,s20,s21,s22,s23,s24,s25,s26,s27⟩
           go_simp
           with_reducible rfl
          rotate_left
          ·simp only [Act.put,sT_,s0_,sC_,i64_w,i32_w]
           rfl
          refine take_ (i:=6) (N:=some 69) (v:=?_) (a':=?_) #[true,true,true,true,true,true,true,true,false,false,false,false] rfl rfl (take_ofW HT_.out HW_.out (by kernel_rfl)) (fun _ _ _ h=>h) (Or.inl ⟨by rfl,?_⟩) hHeld ?_ ?_
          rotate_left
          ·rintro w' ⟨s0,s1,s2,s3,s4,s5,s6,s7,s8,s9,s10,s11,s12,s13,s14,s15,s16,s17,s18,s19,s20,s21,s22,s23,s24,s25,s26,s27⟩
           go_simp
           with_reducible rfl
          rotate_left
          ·simp only [Act.put,sT_,s0_,sC_,i64_w,i32_w]
           rfl
          refine pure_ (i:=8) (N:=some 71) (v:=?_) (a':=?_) #[true,true,true,true,true,true,true,true,true,false,false,false] rfl rfl (any_of HT_.out (by kernel_rfl)) (fun _ _ _ h=>h) (Or.inl ⟨by rfl,?_⟩) ?_ ?_
          rotate_left
          ·intro w'
           go_simp
           with_reducible rfl
          rotate_left
          ·simp only [Act.put,sT_,s0_,sC_,i64_w,i32_w]
           rfl
          refine take_ (i:=9) (N:=some 72) (v:=?_) (a':=?_) #[true,true,true,true,true,true,true,true,true,true,false,false] rfl rfl (take_ofW HT_.out HW_.out (by kernel_rfl)) (fun _ _ _ h=>h) (Or.inl ⟨by rfl,?_⟩) hHeld ?_ ?_
          rotate_left
          ·rintro w' ⟨s0,s1,s2,s3,s4,s5,s6,s7,s8,s9,s10,s11,s12,s13,s14,s15,s16,s17,s18,s19,s20,s21,s22,s23,s24,s25,s26,s27⟩
           go_simp
           with_reducible rfl
          rotate_left
          ·simp only [Act.put,sT_,s0_,sC_,i64_w,i32_w]
           rfl
          refine one_ (i:=10) (N:=some 73) #[true,true,true,true,true,true,true,true,true,true,true,false] rfl rfl (one_of HT_.out (by kernel_rfl)) (by decide) (fun K hK=>?_)
          refine goes_ Try.func25 (by kernel_rfl) rfl #[.agg #[.int .i64 ((rd_T32 l0_6 x5_2).f0),.int .i64 ((rd_T32 l0_6 x5_2).f1),.int .i64 ((rd_T32 l0_6 x5_2).f2),.int .i64 ((rd_T32 l0_6 x5_2).f3),.slice A225_4 ((rd_T32 l0_6 x5_2).f4).length c225_4,.string ((rd_T32 l0_6 x5_2).f5),.slice A225_6 ((rd_T32 l0_6 x5_2).f6).length c225_6],.agg #[.int .i64 ((rd_T32 l1_6 x5_2).f0),.int .i64 ((rd_T32 l1_6 x5_2).f1),.int .i64 ((rd_T32 l1_6 x5_2).f2),.int .i64 ((rd_T32 l1_6 x5_2).f3),.slice A226_4 ((rd_T32 l1_6 x5_2).f4).length c226_4,.string ((rd_T32 l1_6 x5_2).f5),.slice A226_6 ((rd_T32 l1_6 x5_2).f6).length c226_6]] (by rfl) rfl rfl (by(try simp only [List.map_toArray,List.map_cons,List.map_nil]);first|done|rfl|(simp only [List.length_drop,List.length_take];rfl)) ?_
          with_reducible refine(ih k2 (by have:=HJ2.out;have:=HK2.out;omega) ((rd_T32 l0_6 x5_2).f0) ((rd_T32 l0_6 x5_2).f1) ((rd_T32 l0_6 x5_2).f2) ((rd_T32 l0_6 x5_2).f3) _ _ ((rd_T32 l0_6 x5_2).f4) ((rd_T32 l0_6 x5_2).f5) _ _ ((rd_T32 l0_6 x5_2).f6) ((rd_T32 l1_6 x5_2).f0) ((rd_T32 l1_6 x5_2).f1) ((rd_T32 l1_6 x5_2).f2) ((rd_T32 l1_6 x5_2).f3) _ _ ((rd_T32 l1_6 x5_2).f4) ((rd_T32 l1_6 x5_2).f5) _ _ ((rd_T32 l1_6 x5_2).f6) false _ ?side1 ?side2 ?side3 ?side4 ?side5 ?side6 ?side7 ?side8 A38.out).mono ?_
          (case side1=>repeat (first|exact(Kd.C_below HR225_4.out HB.out)|(with_reducible first|refine Kd.C_alloc ?_ _|refine Kd.C_drewN ?_ _|refine Kd.C_drew ?_)))
          (case side2=>exact HC225_4.out)
          (case side3=>repeat (first|exact(Kd.C_below HR225_6.out HB.out)|(with_reducible first|refine Kd.C_alloc ?_ _|refine Kd.C_drewN ?_ _|refine Kd.C_drew ?_)))
          (case side4=>exact HC225_6.out)
          (case side5=>repeat (first|exact(Kd.C_below HR226_4.out HB.out)|(with_reducible first|refine Kd.C_alloc ?_ _|refine Kd.C_drewN ?_ _|refine Kd.C_drew ?_)))
          (case side6=>exact HC226_4.out)
          (case side7=>repeat (first|exact(Kd.C_below HR226_6.out HB.out)|(with_reducible first|refine Kd.C_alloc ?_ _|refine Kd.C_drewN ?_ _|refine Kd.C_drew ?_)))
          (case side8=>exact HC226_6.out)
          rintro e w47 ⟨rfl,hb⟩
          refine⟨_,rfl,?_⟩
          have n0_:=Az.mk (kB_ (g:=gb222) (o:=.cells #[.int .i64 a0_0,.int .i64 a0_1,.int .i64 a0_2,.int .i64 a0_3,.slice A0_4 l0_4.length c0_4,.string a0_5,.slice (some ad225) l0_6.length c0_6] 32 (0,0)) (by(with_reducible repeat (first|refine kN_ ?_ _|refine kD_ ?_|refine kA_ ?_ _));exact BK222.out) hb)
          have n1_:=Az.mk (kB_ (g:=gb223) (o:=.cells #[.int .i64 a1_0,.int .i64 a1_1,.int .i64 a1_2,.int .i64 a1_3,.slice A1_4 l1_4.length c1_4,.string a1_5,.slice (some ad226) l1_6.length c1_6] 32 (0,0)) (by(with_reducible repeat (first|refine kN_ ?_ _|refine kD_ ?_|refine kA_ ?_ _));exact BK223.out) hb)
          have n2_:=Az.mk (bT_ (by repeat (first|(with_reducible first|exact HB.out|apply bA_|apply bN_|apply bD_|refine bS_ ?_ GE222.out|refine bS_ ?_ GE223.out)|exact HB.out)) hb)
          clear BK222
          clear BK223
          clear HB
          have BK222:=n0_
          have BK223:=n1_
          have HB:=n2_
          clear n0_ n1_ n2_
          (try clear hb)
          (try clear hb2)
          (try clear hk)
          (try clear hi)
          refine hK.out _ _ ⟨(bC_ BK222.out 0).trans rfl,(bC_ BK222.out 1).trans rfl,(bC_ BK222.out 2).trans rfl,(bC_ BK222.out 3).trans rfl,(bC_ BK222.out 4).trans rfl,(bC_ BK222.out 5).trans rfl,(bC_ BK222.out 6).trans rfl,(bC_ BK223.out 0).trans rfl,(bC_ BK223.out 1).trans rfl,(bC_ BK223.out 2).trans rfl,(bC_ BK223.out 3).trans rfl,(bC_ BK223.out 4).trans rfl,(bC_ BK223.out 5).trans rfl,(bC_ BK223.out 6).trans rfl,((HB.out.cell (bL_ w _ hw225_0)).trans hw225_0),((HB.out.cell (bL_ w _ hw225_1)).trans hw225_1),((HB.out.cell (bL_ w _ hw225_2)).trans hw225_2),((HB.out.cell (bL_ w _ hw225_3)).trans hw225_3),((HB.out.cell (bL_ w _ hw225_4)).trans hw225_4),((HB.out.cell (bL_ w _ hw225_5)).trans hw225_5),((HB.out.cell (bL_ w _ hw225_6)).trans hw225_6),((HB.out.cell (bL_ w _ hw226_0)).trans hw226_0),((HB.out.cell (bL_ w _ hw226_1)).trans hw226_1),((HB.out.cell (bL_ w _ hw226_2)).trans hw226_2),((HB.out.cell (bL_ w _ hw226_3)).trans hw226_3),((HB.out.cell (bL_ w _ hw226_4)).trans hw226_4),((HB.out.cell (bL_ w _ hw226_5)).trans hw226_5),((HB.out.cell (bL_ w _ hw226_6)).trans hw226_6)⟩ (fun hHeld=>?_)
          clear hK K
          refine norm_ (a':=?_) ?_ ?_
          rotate_left
          ·show Act.put _ (some 73) _=_
           simp only [Act.put,sT_,s0_,sC_,i64_w,i32_w]
           rfl
          refine pure_ (i:=11) (N:=some 74) (v:=?_) (a':=?_) #[true,true,true,true,true,true,true,true,true,true,true,true] rfl rfl (any_of HT_.out (by kernel_rfl)) (fun _ _ _ h=>h) (Or.inl ⟨by rfl,?_⟩) ?_ ?_
          rotate_left
          ·intro w'
           go_simp
           with_reducible rfl
          rotate_left
          ·simp only [Act.put,sT_,s0_,sC_,i64_w,i32_w]
           rfl
          refine done_ (done_of HT_.out (by kernel_rfl)) ?_
          try go_wp2
          go_ret
          exact⟨by first|rfl|(simp [errW_none,errW_some] <;> rfl)|(simp [*,errW_none,errW_some] <;> rfl),by repeat (first|(with_reducible first|exact HB.out|apply bA_|apply bN_|apply bD_|refine bS_ ?_ GE222.out|refine bS_ ?_ GE223.out)|exact HB.out)⟩
        ·rw [if_neg c37] at H
         exact absurd H (by simp)
       ·rw [if_neg c36] at H
        exact absurd H (by simp)
      ·rw [if_neg c35] at H
       have c35b0:decide (x5_2 < (l0_6.length:Int))=false:=decide_eq_false c35
       clear c35
       obtain rfl:=Option.some.inj H
       have hnb48:=NB222_223.out
       have hnc48:=NB223_222.out
       have hcz49_0:wr.cell? ⟨gb222,0,none⟩=some (.int .i64 a0_0):=(bC_ BK222.out 0).trans rfl
       have hcz49_1:wr.cell? ⟨gb222,1,none⟩=some (.int .i64 a0_1):=(bC_ BK222.out 1).trans rfl
       have hcz49_2:wr.cell? ⟨gb222,2,none⟩=some (.int .i64 a0_2):=(bC_ BK222.out 2).trans rfl
       have hcz49_3:wr.cell? ⟨gb222,3,none⟩=some (.int .i64 a0_3):=(bC_ BK222.out 3).trans rfl
       have hcz49_4:wr.cell? ⟨gb222,4,none⟩=some (.slice A0_4 l0_4.length c0_4):=(bC_ BK222.out 4).trans rfl
       have hcz49_5:wr.cell? ⟨gb222,5,none⟩=some (.string a0_5):=(bC_ BK222.out 5).trans rfl
       have hcz49_6:wr.cell? ⟨gb222,6,none⟩=some (.slice A0_6 l0_6.length c0_6):=(bC_ BK222.out 6).trans rfl
       have hfz49_0:=bF_ BK222.out 0
       have hfz49_1:=bF_ BK222.out 1
       have hfz49_2:=bF_ BK222.out 2
       have hfz49_3:=bF_ BK222.out 3
       have hfz49_4:=bF_ BK222.out 4
       have hfz49_5:=bF_ BK222.out 5
       have hfz49_6:=bF_ BK222.out 6
       go_wp2
       go_ret
       exact⟨by first|rfl|(simp [errW_none,errW_some] <;> rfl)|(simp [*,errW_none,errW_some] <;> rfl),by repeat (first|(with_reducible first|exact HB.out|apply bA_|apply bN_|apply bD_|refine bS_ ?_ GE222.out|refine bS_ ?_ GE223.out)|exact HB.out)⟩
end Go.Proofs.Ytgdbcogbbghjaaa.Q
