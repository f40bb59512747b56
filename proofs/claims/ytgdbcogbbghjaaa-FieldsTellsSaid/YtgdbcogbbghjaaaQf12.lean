import Derived.Test.YtgdbcogbbghjaaaQ0
import Derived.Test.YtgdbcogbbghjaaaQf32
namespace Go.Proofs.Ytgdbcogbbghjaaa.Q
open Go.RowKit Go.Proofs.YtgdbcogbbghjaaaW.PrintWords Go.Proofs.YtgdbcogbbghjaaaW.PrintLast Go.Proofs.YtgdbcogbbghjaaaW.PrintMore
attribute [local go_sem] max2_int min2_int max_two min_two max_three min_three max_four min_four   -- for this text's walks alone
set_option linter.unusedVariables false
set_option linter.unusedSimpArgs false
def arboristref46_Paths.l0:Nat→List (S65)→List (List Int)→Int→Option ((List (List Int)))
 | 0,_,_,_=>none
 | k + 1,x5,x6,x7=>if x7 < (x5.length:Int)then(if 0≤x7 then(if x6.length < 5864062014805 then(arboristref46_Paths.l0 k x5 (x6 ++ [(rd_T65 x5 x7).f1]) (wrap64 (x7 + 1)))else(none))else(none))else(some x6)
def arboristref46_Paths.f (k:Nat)(l0_0:List ByteArray)(l0_1:List ByteArray)(l0_2:List Int)(l0_3:List (S67))(l0_4:List (S78))(a1_0:Int)(a1_1:Int)(a1_2:Int)(a1_3:Int)(l1_4:List (S53))(a1_5:ByteArray)(l1_6:List (S32)):Option ((List (List Int))):=(arboristref46_All.f k l0_0 l0_1 l0_2 l0_3 l0_4 a1_0 a1_1 a1_2 a1_3 l1_4 a1_5 l1_6 ([]:List Int) (⟨#[]⟩:ByteArray)).bind fun t202=>(arboristref46_Paths.l0 k t202 ([]:List (List Int)) 0)
set_option maxHeartbeats 8000000 in
set_option maxRecDepth 100000 in
theorem arboristref46_Paths.calls (k:Nat)(A0_0:Option Addr)(c0_0:Nat)(l0_0:List ByteArray)(A0_1:Option Addr)(c0_1:Nat)(l0_1:List ByteArray)(A0_2:Option Addr)(c0_2:Nat)(l0_2:List Int)(A0_3:Option Addr)(c0_3:Nat)(l0_3:List (S67))(A0_4:Option Addr)(c0_4:Nat)(l0_4:List (S78))(a1_0:Int)(a1_1:Int)(a1_2:Int)(a1_3:Int)(A1_4:Option Addr)(c1_4:Nat)(l1_4:List (S53))(a1_5:ByteArray)(P1_6_:Nat→Prop)(A1_6:Option Addr)(c1_6:Nat)(l1_6:List (S32))(r:List (List Int))(w:World)(hr0_0:Kd.C Kd.string w A0_0 l0_0.length l0_0)(hc0_0:l0_0.length≤c0_0)(hr0_1:Kd.C Kd.string w A0_1 l0_1.length l0_1)(hc0_1:l0_1.length≤c0_1)(hr0_2:Kd.C (Kd.int .i64) w A0_2 l0_2.length l0_2)(hc0_2:l0_2.length≤c0_2)(hr0_3:Kd.C k67 w A0_3 l0_3.length l0_3)(hc0_3:l0_3.length≤c0_3)(hr0_4:Kd.C k78 w A0_4 l0_4.length l0_4)(hc0_4:l0_4.length≤c0_4)(hr1_4:Kd.C k53 w A1_4 l1_4.length l1_4)(hc1_4:l1_4.length≤c1_4)(hs1_6:Kd.V k32 32 w w.heap.size (fun k_=>P1_6_ k_) (.slice A1_6 l1_6.length c1_6) l1_6)(h:arboristref46_Paths.f k l0_0 l0_1 l0_2 l0_3 l0_4 a1_0 a1_1 a1_2 a1_3 l1_4 a1_5 l1_6=some r) :
  Calls Try.prog 12 #[.agg #[.slice A0_0 l0_0.length c0_0,.slice A0_1 l0_1.length c0_1,.slice A0_2 l0_2.length c0_2,.slice A0_3 l0_3.length c0_3,.slice A0_4 l0_4.length c0_4],.agg #[.int .i64 a1_0,.int .i64 a1_1,.int .i64 a1_2,.int .i64 a1_3,.slice A1_4 l1_4.length c1_4,.string a1_5,.slice A1_6 l1_6.length c1_6]] w fun e w'=>∃ v0_:Value,e=.returned (v0_)∧Kd.N (Kd.slice 3 (Kd.int .i64)) 42 w' w.heap.size (fun k_=>(P1_6_ k_∨w.heap.size≤k_)) v0_ r∧Below w.heap.size w w':=by
 have hu27:=Try.underlying27
 have hu32:=Try.underlying32
 have HR0_0:=Az.mk hr0_0
 have HC0_0:=Az.mk hc0_0
 clear hr0_0 hc0_0
 have HR0_1:=Az.mk hr0_1
 have HC0_1:=Az.mk hc0_1
 clear hr0_1 hc0_1
 have HR0_2:=Az.mk hr0_2
 have HC0_2:=Az.mk hc0_2
 clear hr0_2 hc0_2
 have HR0_3:=Az.mk hr0_3
 have HC0_3:=Az.mk hc0_3
 clear hr0_3 hc0_3
 have HR0_4:=Az.mk hr0_4
 have HC0_4:=Az.mk hc0_4
 clear hr0_4 hc0_4
 have HR1_4:=Az.mk hr1_4
 have HC1_4:=Az.mk hc1_4
 clear hr1_4 hc1_4
 have HO1_6:=Az.mk (show Kd.V k32 32 w w.heap.size (fun k_=>(P1_6_ k_∨w.heap.size≤k_)) (.slice A1_6 l1_6.length c1_6) l1_6 from Kd.V_mono hs1_6 (fun k_ hk=>.inl hk))
 have HB:=Az.mk (Below.refl w.heap.size w)
 have H:((arboristref46_All.f k l0_0 l0_1 l0_2 l0_3 l0_4 a1_0 a1_1 a1_2 a1_3 l1_4 a1_5 l1_6 ([]:List Int) (⟨#[]⟩:ByteArray)).bind fun t202=>(arboristref46_Paths.l0 k t202 ([]:List (List Int)) 0))=some r:=h
 clear h
 replace H:=Option.bind_eq_some_iff.mp H
 obtain⟨t202,A30,H⟩:=H
 replace H:(arboristref46_Paths.l0 k t202 ([]:List (List Int)) 0)=some r:=H
 have A3:=Az.mk A30
 clear A30
 have H':=Az.mk H
 clear H
 go_enter Try.func12,Try.ntmps12
 go_wp2_with (first|((with_reducible refine gate_dst (N:=2) rfl ?_);refine box_event ?hg (N:=2) ?hd (cs:=#[.slice A0_0 l0_0.length c0_0,.slice A0_1 l0_1.length c0_1,.slice A0_2 l0_2.length c0_2,.slice A0_3 l0_3.length c0_3,.slice A0_4 l0_4.length c0_4]) (t:=27) ?hr ?_;(case hd=>rfl);(case hg=>rfl);(case hr=>first|(go_simp;done)|(go_simp;rfl));intro gb200 hg w4 hbox hb;have n0_:=Az.mk (Kd.V_below (Kd.V_elderB (by(with_reducible repeat (first|apply Kd.V_alloc|apply Kd.V_drewN|apply Kd.V_drew));exact HO1_6.out) gb200 (Nat.le_of_eq hg.symm)) hb);have n1_:=Az.mk (bT_ (by repeat (first|(with_reducible first|exact HB.out|apply bA_|apply bN_|apply bD_)|exact HB.out)) hb);have n2_:=Az.mk (hbox);have n3_:=Az.mk ((by rw [hg];exact(bZ_ (by repeat (first|(with_reducible first|exact HB.out|apply bA_|apply bN_|apply bD_)|exact HB.out))):w.heap.size≤gb200));have n4_:=Az.mk ((by rw [hg];exact(bZ_ (by repeat (first|(with_reducible first|exact HB.out|apply bA_|apply bN_|apply bD_)|exact HB.out))):w.heap.size≤gb200));clear HO1_6;clear HB;have HO1_6:=n0_;have HB:=n1_;have BK200:=n2_;have GW200:=n3_;have GE200:=n4_;clear n0_ n1_ n2_ n3_ n4_;clear hb hbox hg)|((with_reducible refine gate_dst (N:=3) rfl ?_);refine box_event ?hg (N:=3) ?hd (cs:=#[.int .i64 a1_0,.int .i64 a1_1,.int .i64 a1_2,.int .i64 a1_3,.slice A1_4 l1_4.length c1_4,.string a1_5,.slice A1_6 l1_6.length c1_6]) (t:=32) ?hr ?_;(case hd=>rfl);(case hg=>rfl);(case hr=>first|(go_simp;done)|(go_simp;rfl));intro gb201 hg w5 hbox hb;have n0_:=Az.mk (Kd.V_below (Kd.V_elderB (by(with_reducible repeat (first|apply Kd.V_alloc|apply Kd.V_drewN|apply Kd.V_drew));exact HO1_6.out) gb201 (Nat.le_of_eq hg.symm)) hb);have n1_:=Az.mk (kB_ (g:=gb200) (o:=.cells #[.slice A0_0 l0_0.length c0_0,.slice A0_1 l0_1.length c0_1,.slice A0_2 l0_2.length c0_2,.slice A0_3 l0_3.length c0_3,.slice A0_4 l0_4.length c0_4] 27 (0,0)) (by(with_reducible repeat (first|refine kN_ ?_ _|refine kD_ ?_|refine kA_ ?_ _));exact BK200.out) hb);have n2_:=Az.mk (bT_ (by repeat (first|(with_reducible first|exact HB.out|apply bA_|apply bN_|apply bD_|refine bS_ ?_ GE200.out)|exact HB.out)) hb);have n3_:=Az.mk (hbox);have n4_:=Az.mk ((by rw [hg];exact(bZ_ (by repeat (first|(with_reducible first|exact HB.out|apply bA_|apply bN_|apply bD_|refine bS_ ?_ GE200.out)|exact HB.out))):w.heap.size≤gb201));have n5_:=Az.mk ((by rw [hg];exact(bZ_ (by repeat (first|(with_reducible first|exact HB.out|apply bA_|apply bN_|apply bD_|refine bS_ ?_ GE200.out)|exact HB.out))):w.heap.size≤gb201));have n6_:=Az.mk ((by rw [hg];exact Nat.ne_of_lt (blk_lt (g:=gb200) (o:=.cells #[.slice A0_0 l0_0.length c0_0,.slice A0_1 l0_1.length c0_1,.slice A0_2 l0_2.length c0_2,.slice A0_3 l0_3.length c0_3,.slice A0_4 l0_4.length c0_4] 27 (0,0)) (by(with_reducible repeat (first|refine kN_ ?_ _|refine kD_ ?_|refine kA_ ?_ _));exact BK200.out)):gb200≠gb201));have n7_:=Az.mk ((by rw [hg];exact Nat.ne_of_gt (blk_lt (g:=gb200) (o:=.cells #[.slice A0_0 l0_0.length c0_0,.slice A0_1 l0_1.length c0_1,.slice A0_2 l0_2.length c0_2,.slice A0_3 l0_3.length c0_3,.slice A0_4 l0_4.length c0_4] 27 (0,0)) (by(with_reducible repeat (first|refine kN_ ?_ _|refine kD_ ?_|refine kA_ ?_ _));exact BK200.out)):gb201≠gb200));clear HO1_6;clear BK200;clear HB;have HO1_6:=n0_;have BK200:=n1_;have HB:=n2_;have BK201:=n3_;have GW201:=n4_;have GE201:=n5_;have NB200_201:=n6_;have NB201_200:=n7_;clear n0_ n1_ n2_ n3_ n4_ n5_ n6_ n7_;clear hb hbox hg;have hnb6:=NB200_201.out;have hnc6:=NB201_200.out;have hcz7_0:w5.cell? ⟨gb200,0,none⟩=some (.slice A0_0 l0_0.length c0_0):=(bC_ BK200.out 0).trans rfl;have hcz7_1:w5.cell? ⟨gb200,1,none⟩=some (.slice A0_1 l0_1.length c0_1):=(bC_ BK200.out 1).trans rfl;have hcz7_2:w5.cell? ⟨gb200,2,none⟩=some (.slice A0_2 l0_2.length c0_2):=(bC_ BK200.out 2).trans rfl;have hcz7_3:w5.cell? ⟨gb200,3,none⟩=some (.slice A0_3 l0_3.length c0_3):=(bC_ BK200.out 3).trans rfl;have hcz7_4:w5.cell? ⟨gb200,4,none⟩=some (.slice A0_4 l0_4.length c0_4):=(bC_ BK200.out 4).trans rfl;have hfz7_0:=bF_ BK200.out 0;have hfz7_1:=bF_ BK200.out 1;have hfz7_2:=bF_ BK200.out 2;have hfz7_3:=bF_ BK200.out 3;have hfz7_4:=bF_ BK200.out 4;have hcz8_0:w5.cell? ⟨gb201,0,none⟩=some (.int .i64 a1_0):=(bC_ BK201.out 0).trans rfl;have hcz8_1:w5.cell? ⟨gb201,1,none⟩=some (.int .i64 a1_1):=(bC_ BK201.out 1).trans rfl;have hcz8_2:w5.cell? ⟨gb201,2,none⟩=some (.int .i64 a1_2):=(bC_ BK201.out 2).trans rfl;have hcz8_3:w5.cell? ⟨gb201,3,none⟩=some (.int .i64 a1_3):=(bC_ BK201.out 3).trans rfl;have hcz8_4:w5.cell? ⟨gb201,4,none⟩=some (.slice A1_4 l1_4.length c1_4):=(bC_ BK201.out 4).trans rfl;have hcz8_5:w5.cell? ⟨gb201,5,none⟩=some (.string a1_5):=(bC_ BK201.out 5).trans rfl;have hcz8_6:w5.cell? ⟨gb201,6,none⟩=some (.slice A1_6 l1_6.length c1_6):=(bC_ BK201.out 6).trans rfl;have hfz8_0:=bF_ BK201.out 0;have hfz8_1:=bF_ BK201.out 1;have hfz8_2:=bF_ BK201.out 2;have hfz8_3:=bF_ BK201.out 3;have hfz8_4:=bF_ BK201.out 4;have hfz8_5:=bF_ BK201.out 5;have hfz8_6:=bF_ BK201.out 6)|((with_reducible refine gate_callee (f:=32) rfl ?_);refine goesL_ (some 10) rfl rfl Try.func32 (by kernel_rfl) rfl #[.agg #[.slice A0_0 l0_0.length c0_0,.slice A0_1 l0_1.length c0_1,.slice A0_2 l0_2.length c0_2,.slice A0_3 l0_3.length c0_3,.slice A0_4 l0_4.length c0_4],.agg #[.int .i64 a1_0,.int .i64 a1_1,.int .i64 a1_2,.int .i64 a1_3,.slice A1_4 l1_4.length c1_4,.string a1_5,.slice A1_6 l1_6.length c1_6],.slice none 0 0,.string (⟨#[]⟩:ByteArray)] rfl (by(try simp only [List.map_toArray,List.map_cons,List.map_nil]);first|done|rfl|(simp only [List.length_drop,List.length_take];rfl)) ?_;(refine(arboristref46_All.calls k _ _ l0_0 _ _ l0_1 _ _ l0_2 _ _ l0_3 _ _ l0_4 a1_0 a1_1 a1_2 a1_3 _ _ l1_4 a1_5 (fun k_=>(((P1_6_ k_∨w.heap.size≤k_)∧k_≠gb200)∧k_≠gb201)) _ _ l1_6 _ _ ([]:List Int) (⟨#[]⟩:ByteArray) t202 _ ?side1 ?side2 ?side3 ?side4 ?side5 ?side6 ?side7 ?side8 ?side9 ?side10 ?side11 ?side12 ?side13 ?side14 ?side15 A3.out).mono ?_);(case side1=>repeat (first|exact(Kd.C_below HR0_0.out HB.out)|(with_reducible first|refine Kd.C_alloc ?_ _|refine Kd.C_drewN ?_ _|refine Kd.C_drew ?_)));(case side2=>exact HC0_0.out);(case side3=>repeat (first|exact(Kd.C_below HR0_1.out HB.out)|(with_reducible first|refine Kd.C_alloc ?_ _|refine Kd.C_drewN ?_ _|refine Kd.C_drew ?_)));(case side4=>exact HC0_1.out);(case side5=>repeat (first|exact(Kd.C_below HR0_2.out HB.out)|(with_reducible first|refine Kd.C_alloc ?_ _|refine Kd.C_drewN ?_ _|refine Kd.C_drew ?_)));(case side6=>exact HC0_2.out);(case side7=>repeat (first|exact(Kd.C_below HR0_3.out HB.out)|(with_reducible first|refine Kd.C_alloc ?_ _|refine Kd.C_drewN ?_ _|refine Kd.C_drew ?_)));(case side8=>exact HC0_3.out);(case side9=>repeat (first|exact(Kd.C_below HR0_4.out HB.out)|(with_reducible first|refine Kd.C_alloc ?_ _|refine Kd.C_drewN ?_ _|refine Kd.C_drew ?_)));(case side10=>exact HC0_4.out);(case side11=>repeat (first|exact(Kd.C_below HR1_4.out HB.out)|(with_reducible first|refine Kd.C_alloc ?_ _|refine Kd.C_drewN ?_ _|refine Kd.C_drew ?_)));(case side12=>exact HC1_4.out);(case side13=>exact HO1_6.out);(case side14=>exact Kd.C_nil _ _);(case side15=>exact Nat.le_refl _);rintro e w9 ⟨v203,rfl,ho0,hb⟩;refine⟨_,rfl,?_⟩;have n0_:=Az.mk (Kd.V_elder' (by(with_reducible repeat (first|apply Kd.V_alloc|apply Kd.V_drewN|apply Kd.V_drew));exact HO1_6.out) (Kd.N_base ho0) hb);have n1_:=Az.mk (Kd.N_lower (Kd.N_mono (ok':=fun k_=>(P1_6_ k_∨w.heap.size≤k_)∧k_≠gb200∧k_≠gb201) ho0 (fun k_ hk_=>⟨Or.elim hk_ (fun hs_=>hs_.1.1) (fun hn_=>(.inr (Nat.le_trans (bZ_ (by repeat (first|(with_reducible first|exact HB.out|apply bA_|apply bN_|apply bD_|refine bS_ ?_ GE200.out|refine bS_ ?_ GE201.out)|exact HB.out))) hn_))),Or.elim hk_ (fun hs_=>hs_.1.2) (fun hn_=>(Kd.freshB (g:=gb200) (o:=.cells #[.slice A0_0 l0_0.length c0_0,.slice A0_1 l0_1.length c0_1,.slice A0_2 l0_2.length c0_2,.slice A0_3 l0_3.length c0_3,.slice A0_4 l0_4.length c0_4] 27 (0,0)) (by(with_reducible repeat (first|refine kN_ ?_ _|refine kD_ ?_|refine kA_ ?_ _));exact BK200.out) k_ hn_)),Or.elim hk_ (fun hs_=>hs_.2) (fun hn_=>(Kd.freshB (g:=gb201) (o:=.cells #[.int .i64 a1_0,.int .i64 a1_1,.int .i64 a1_2,.int .i64 a1_3,.slice A1_4 l1_4.length c1_4,.string a1_5,.slice A1_6 l1_6.length c1_6] 32 (0,0)) (by(with_reducible repeat (first|refine kN_ ?_ _|refine kD_ ?_|refine kA_ ?_ _));exact BK201.out) k_ hn_))⟩)) (bZ_ (by repeat (first|(with_reducible first|exact HB.out|apply bA_|apply bN_|apply bD_|refine bS_ ?_ GE200.out|refine bS_ ?_ GE201.out)|exact HB.out))));have n2_:=Az.mk (kB_ (g:=gb200) (o:=.cells #[.slice A0_0 l0_0.length c0_0,.slice A0_1 l0_1.length c0_1,.slice A0_2 l0_2.length c0_2,.slice A0_3 l0_3.length c0_3,.slice A0_4 l0_4.length c0_4] 27 (0,0)) (by(with_reducible repeat (first|refine kN_ ?_ _|refine kD_ ?_|refine kA_ ?_ _));exact BK200.out) hb);have n3_:=Az.mk (kB_ (g:=gb201) (o:=.cells #[.int .i64 a1_0,.int .i64 a1_1,.int .i64 a1_2,.int .i64 a1_3,.slice A1_4 l1_4.length c1_4,.string a1_5,.slice A1_6 l1_6.length c1_6] 32 (0,0)) (by(with_reducible repeat (first|refine kN_ ?_ _|refine kD_ ?_|refine kA_ ?_ _));exact BK201.out) hb);have n4_:=Az.mk (bT_ (by repeat (first|(with_reducible first|exact HB.out|apply bA_|apply bN_|apply bD_|refine bS_ ?_ GE200.out|refine bS_ ?_ GE201.out)|exact HB.out)) hb);clear HO1_6;clear BK200;clear BK201;clear HB;have HO1_6:=n0_;have HO204:=n1_;have BK200:=n2_;have BK201:=n3_;have HB:=n4_;clear n0_ n1_ n2_ n3_ n4_;(try clear hb);(try clear hb2);(try clear hk);(try clear hi);(try clear ho0)))
 go_loopg [6,7] k (fun kq v6 v7 w'=>∃ (x6_1:List (List Int)) (x7_1:Int),v7=.int .i64 x7_1∧Az (arboristref46_Paths.l0 kq t202 x6_1 x7_1=some r)∧Az (kq≤k)∧Az (Kd.N k65 65 w' w.heap.size (fun k_=>(P1_6_ k_∨w.heap.size≤k_)∧some k_≠(v6:Value).ownBlock∧k_≠gb200∧k_≠gb201) v203 t202)∧Az (Kd.N (Kd.slice 3 (Kd.int .i64)) 42 w' w.heap.size (fun k_=>(P1_6_ k_∨w.heap.size≤k_)∧some k_≠(v203:Value).ownBlock∧k_≠gb200∧k_≠gb201) v6 x6_1)∧Az (Kd.V k32 32 w' w.heap.size (fun k_=>(P1_6_ k_∨w.heap.size≤k_)∧some k_≠(v203:Value).ownBlock∧some k_≠(v6:Value).ownBlock∧k_≠gb200∧k_≠gb201) (.slice A1_6 l1_6.length c1_6) l1_6)∧Az (w'.heap[gb200]?=some (.cells #[(.slice A0_0 l0_0.length c0_0),(.slice A0_1 l0_1.length c0_1),(.slice A0_2 l0_2.length c0_2),(.slice A0_3 l0_3.length c0_3),(.slice A0_4 l0_4.length c0_4)] 27 (0,0)))∧Az (w'.heap[gb201]?=some (.cells #[.int .i64 a1_0,.int .i64 a1_1,.int .i64 a1_2,.int .i64 a1_3,(.slice A1_4 l1_4.length c1_4),.string a1_5,(.slice A1_6 l1_6.length c1_6)] 32 (0,0)))∧Az (Below w.heap.size w w'))
 case atStart=>exact⟨(([]:List (List Int))),(0),(by first|rfl|(simp;done)|(simp [*];done)|(refine congrArg Value.bool ?_;exact isE_ _)),H',⟨Nat.le_refl _⟩,⟨by(with_reducible repeat (first|apply Kd.N_alloc|apply Kd.N_drewN|apply Kd.N_drew));exact Kd.N_mono HO204.out (fun _ hk=>⟨hk.1,⟨(by simp [Value.ownBlock]),⟨hk.2.1,hk.2.2⟩⟩⟩)⟩,⟨by first|exact Kd.S_nil _ _ _ _ _|exact Kd.N_nil _ _ _ _ _|exact Kd.V_nil _ _ _ _ _|exact Kd.Q_nil _ _ _ _ _|exact Kd.R_nil _ _ _ _ _⟩,⟨by(with_reducible repeat (first|apply Kd.V_alloc|apply Kd.V_drewN|apply Kd.V_drew));exact Kd.V_mono HO1_6.out (fun _ hk=>⟨hk.1.1.1,⟨hk.2,⟨(by simp [Value.ownBlock]),⟨hk.1.1.2,hk.1.2⟩⟩⟩⟩)⟩,⟨by(with_reducible repeat (first|refine kN_ ?_ _|refine kD_ ?_|refine kA_ ?_ _));exact BK200.out⟩,⟨by(with_reducible repeat (first|refine kN_ ?_ _|refine kD_ ?_|refine kA_ ?_ _));exact BK201.out⟩,⟨by repeat (first|(with_reducible first|exact HB.out|apply bA_|apply bN_|apply bD_|refine bS_ ?_ GE200.out|refine bS_ ?_ GE201.out)|exact HB.out)⟩⟩
 case round =>
  clear H'
  try clear c1
  try clear p2
  try clear c3
  try clear c6
  try clear hcz7_0
  try clear hcz7_1
  try clear hcz7_2
  try clear hcz7_3
  try clear hcz7_4
  try clear hcz8_0
  try clear hcz8_1
  try clear hcz8_2
  try clear hcz8_3
  try clear hcz8_4
  try clear hcz8_5
  try clear hcz8_6
  try clear hfz7_0
  try clear hfz7_1
  try clear hfz7_2
  try clear hfz7_3
  try clear hfz7_4
  try clear hfz8_0
  try clear hfz8_1
  try clear hfz8_2
  try clear hfz8_3
  try clear hfz8_4
  try clear hfz8_5
  try clear hfz8_6
  obtain⟨x6_1,x7_1,rfl,HA,HK1,HO_5,HO_6,HO_202006,BK200,BK201,HB⟩:=hrel
  cases gk with
  | zero=>exact absurd HA.out (by simp [arboristref46_Paths.l0])
  | succ k1 =>
   have H:=HA.out
   clear HA
   simp only [arboristref46_Paths.l0] at H
   by_cases c10:x7_1 < (t202.length:Int)
   ·rw [if_pos c10] at H
    have c10b0:decide (x7_1 < (t202.length:Int))=true:=decide_eq_true c10
    clear c10
    by_cases c11:0≤x7_1
    ·rw [if_pos c11] at H
     have c11b0:decide (0≤x7_1)=true:=decide_eq_true c11
     clear c11
     by_cases c12:x6_1.length < 5864062014805
     ·rw [if_pos c12] at H
      have LMc12:=Az.mk c12
      clear c12
      obtain⟨y206,hy206⟩:∃ y_:List (List Int),y_=(x6_1 ++ [(rd_T65 t202 x7_1).f1]):=⟨_,rfl⟩
      replace H:(arboristref46_Paths.l0 k1 t202 y206 (wrap64 (x7_1 + 1)))=some r:=by first|(rw [hy206];with_reducible exact H)|(have H2_:=(Option.bind_some _ _).symm.trans H;rw [hy206];with_reducible exact H2_)|(have H2_:=(Option.bind_some _ _).symm.trans H;with_reducible exact H2_)|with_reducible exact H|(rw [hy206];exact H)|exact H
      have Ny206:=Az.mk hy206
      clear hy206
      have H':=Az.mk H
      clear H
      obtain⟨Ao13,co13,eo13⟩:=Kd.N_slice HO_5.out
      subst eo13
      have p205:0≤(x7_1:Int):=of_decide_eq_true (by first|(with_reducible assumption)|assumption)
      have q205:x7_1 < (t202.length:Int):=of_decide_eq_true (by first|(with_reducible assumption)|assumption)
      obtain⟨ad205,A205_4,c205_4,A205_6,c205_6,A205_7,c205_7,e205,hx205_0,hx205_1,hx205_2,hx205_3,hx205_4,hx205_5,hx205_6,hx205_7,hx205_8,hl205_4,hi205_4,hl205_6,hi205_6,hl205_7,hi205_7⟩:=at_T65 (Kd.N_reads' HO_5.out).2.2 x7_1 p205 q205
      cases e205
      obtain⟨ce205,hce205,hMe205,hcc205⟩:=Kd.N_get HO_5.out z65 x7_1 p205 (by first|exact q205|exact of_decide_eq_true (by first|(with_reducible assumption)|assumption)|(have e_:=(Kd.N_reads' HO_5.out).1;omega))
      obtain⟨ua205_4,uc205_4,ua205_6,uc205_6,ua205_7,uc205_7,rfl,ul205_4,ge205_4,ul205_6,ge205_6,ul205_7,ge205_7⟩:=k65_openF hMe205
      have hv205_4:=hcc205 4 _ rfl
      rw [add_field _ _ 4 (by omega)] at hv205_4
      replace hv205_4:=Option.some.inj (hv205_4.symm.trans hx205_4)
      injection hv205_4 with hva_ hvn_ hvc_
      rw [hva_] at ge205_4
      rw [hvc_] at ul205_4
      have HL205_4:=Az.mk (show Kd.V k53 53 _ w.heap.size _ _ ((rd_T65 t202 x7_1).f0.f4)from Kd.V_mk ul205_4 ge205_4)
      clear hva_ hvn_ hvc_ ge205_4 ul205_4
      have hv205_6:=hcc205 6 _ rfl
      rw [add_field _ _ 6 (by omega)] at hv205_6
      replace hv205_6:=Option.some.inj (hv205_6.symm.trans hx205_6)
      injection hv205_6 with hva_ hvn_ hvc_
      rw [hva_] at ge205_6
      rw [hvc_] at ul205_6
      have HL205_6:=Az.mk (show Kd.V k32 32 _ w.heap.size _ _ ((rd_T65 t202 x7_1).f0.f6)from Kd.V_mk ul205_6 ge205_6)
      clear hva_ hvn_ hvc_ ge205_6 ul205_6
      have hv205_7:=hcc205 7 _ rfl
      rw [add_field _ _ 7 (by omega)] at hv205_7
      replace hv205_7:=Option.some.inj (hv205_7.symm.trans hx205_7)
      injection hv205_7 with hva_ hvn_ hvc_
      rw [hva_] at ge205_7
      rw [hvc_] at ul205_7
      have HL205_7:=Az.mk (show Kd.V (Kd.int .i64) 3 _ w.heap.size _ _ ((rd_T65 t202 x7_1).f1)from Kd.V_mk ul205_7 ge205_7)
      clear hva_ hvn_ hvc_ ge205_7 ul205_7
      clear hcc205 hce205
      have HR205_4:=Az.mk hi205_4
      have HC205_4:=Az.mk hl205_4
      clear hi205_4 hl205_4
      have HR205_6:=Az.mk hi205_6
      have HC205_6:=Az.mk hl205_6
      clear hi205_6 hl205_6
      have HR205_7:=Az.mk hi205_7
      have HC205_7:=Az.mk hl205_7
      clear hi205_7 hl205_7
      replace p205:=eq_true p205
      replace q205:=eq_true q205
      go_wp2_with (first|((with_reducible refine gate_builtin (b:=.append) (xs:=#[.tmp 17,.tmp 23]) rfl ?_);at_builtin;refine Kd.N_append (Kd.slice 3 (Kd.int .i64)) (w0:=w) w.heap.size rfl (.tmp 17) (.tmp 23) 36 42 (.slice none 0 0) 24 rfl Try.underlying36 info42 rfl (by decide) (by omega) u6 x6_1 ((rd_T65 t202 x7_1).f1) [.slice A205_7 ((rd_T65 t202 x7_1).f1).length c205_7] (fun k_=>(P1_6_ k_∨w.heap.size≤k_)∧some k_≠(.slice (some ad205) t202.length co13:Value).ownBlock∧k_≠gb200∧k_≠gb201) (fun k_=>((fun k_=>(P1_6_ k_∨w.heap.size≤k_)∧some k_≠(.slice (some ad205) t202.length co13:Value).ownBlock∧k_≠gb200∧k_≠gb201)) k_∧some k_≠(u6:Value).ownBlock) rfl rfl ?aP (fun _ hk=>hk) ?aF ?aO ?aB ?aS ?aL ?_;(case aP=>exact(Kd.FK_slice_mk (Kd.V_reads' (Kd.V_mono (ok':=(fun k_=>((fun k_=>(P1_6_ k_∨w.heap.size≤k_)∧some k_≠(.slice (some ad205) t202.length co13:Value).ownBlock∧k_≠gb200∧k_≠gb201)) k_∧some k_≠(u6:Value).ownBlock)) (HL205_7.out) (fun k_ hk=>⟨⟨hk.1.1,⟨hk.2,⟨hk.1.2.2.1,hk.1.2.2.2⟩⟩⟩,hk.1.2.1⟩))).2.1 (Kd.V_F (Kd.V_mono (ok':=(fun k_=>((fun k_=>(P1_6_ k_∨w.heap.size≤k_)∧some k_≠(.slice (some ad205) t202.length co13:Value).ownBlock∧k_≠gb200∧k_≠gb201)) k_∧some k_≠(u6:Value).ownBlock)) (HL205_7.out) (fun k_ hk=>⟨⟨hk.1.1,⟨hk.2,⟨hk.1.2.2.1,hk.1.2.2.2⟩⟩⟩,hk.1.2.1⟩)))));(case aB=>exact(by repeat (first|(with_reducible first|exact HB.out|apply bA_|apply bN_|apply bD_|refine bS_ ?_ GE200.out|refine bS_ ?_ GE201.out)|exact HB.out)));(case aF=>exact(fun k_ hk=>⟨(.inr (Nat.le_trans (bZ_ (by repeat (first|(with_reducible first|exact HB.out|apply bA_|apply bN_|apply bD_|refine bS_ ?_ GE200.out|refine bS_ ?_ GE201.out)|exact HB.out))) hk)),Kd.fresh' (Kd.N_lt (by(with_reducible repeat (first|apply Kd.N_alloc|apply Kd.N_drewN|apply Kd.N_drew));exact HO_5.out)) k_ hk,Kd.freshB (g:=gb200) (o:=.cells #[.slice A0_0 l0_0.length c0_0,.slice A0_1 l0_1.length c0_1,.slice A0_2 l0_2.length c0_2,.slice A0_3 l0_3.length c0_3,.slice A0_4 l0_4.length c0_4] 27 (0,0)) (by(with_reducible repeat (first|refine kN_ ?_ _|refine kD_ ?_|refine kA_ ?_ _));exact BK200.out) k_ hk,Kd.freshB (g:=gb201) (o:=.cells #[.int .i64 a1_0,.int .i64 a1_1,.int .i64 a1_2,.int .i64 a1_3,.slice A1_4 l1_4.length c1_4,.string a1_5,.slice A1_6 l1_6.length c1_6] 32 (0,0)) (by(with_reducible repeat (first|refine kN_ ?_ _|refine kD_ ?_|refine kA_ ?_ _));exact BK201.out) k_ hk⟩));(case aO=>exact(by(with_reducible repeat (first|apply Kd.N_alloc|apply Kd.N_drewN|apply Kd.N_drew));exact HO_6.out));(case aS=>exact(bZ_ (by repeat (first|(with_reducible first|exact HB.out|apply bA_|apply bN_|apply bD_|refine bS_ ?_ GE200.out|refine bS_ ?_ GE201.out)|exact HB.out))));(case aL=>have:=LMc12.out;omega);intro v207 w14 ho hb hg hat;rw [← Ny206.out] at ho;have n0_:=Az.mk (Kd.N_afterv (ok:=(fun k_=>(P1_6_ k_∨w.heap.size≤k_)∧k_≠gb200∧k_≠gb201)) (by(with_reducible repeat (first|apply Kd.N_alloc|apply Kd.N_drewN|apply Kd.N_drew));exact Kd.N_mono HO_5.out (fun _ hk=>⟨⟨hk.1,⟨hk.2.2.1,hk.2.2.2⟩⟩,hk.2.1⟩)) hg hat);have n1_:=Az.mk (Kd.V_afterv (ok:=(fun k_=>(P1_6_ k_∨w.heap.size≤k_)∧some k_≠(.slice (some ad205) t202.length co13:Value).ownBlock∧k_≠gb200∧k_≠gb201)) (by(with_reducible repeat (first|apply Kd.V_alloc|apply Kd.V_drewN|apply Kd.V_drew));exact Kd.V_mono HO_202006.out (fun _ hk=>⟨⟨hk.1,⟨hk.2.1,⟨hk.2.2.2.1,hk.2.2.2.2⟩⟩⟩,hk.2.2.1⟩)) hg hat);have n2_:=Az.mk (blk_grown (g:=gb200) (o:=.cells #[.slice A0_0 l0_0.length c0_0,.slice A0_1 l0_1.length c0_1,.slice A0_2 l0_2.length c0_2,.slice A0_3 l0_3.length c0_3,.slice A0_4 l0_4.length c0_4] 27 (0,0)) (by(with_reducible repeat (first|refine kN_ ?_ _|refine kD_ ?_|refine kA_ ?_ _));exact BK200.out) hg (Kd.N_ne HO_6.out BK200.out (by decide)));have n3_:=Az.mk (blk_grown (g:=gb201) (o:=.cells #[.int .i64 a1_0,.int .i64 a1_1,.int .i64 a1_2,.int .i64 a1_3,.slice A1_4 l1_4.length c1_4,.string a1_5,.slice A1_6 l1_6.length c1_6] 32 (0,0)) (by(with_reducible repeat (first|refine kN_ ?_ _|refine kD_ ?_|refine kA_ ?_ _));exact BK201.out) hg (Kd.N_ne HO_6.out BK201.out (by decide)));have n4_:=Az.mk (Kd.V_afterv (ok:=(fun k_=>(P1_6_ k_∨w.heap.size≤k_)∧some k_≠(.slice (some ad205) t202.length co13:Value).ownBlock∧k_≠gb200∧k_≠gb201)) (by(with_reducible repeat (first|apply Kd.V_alloc|apply Kd.V_drewN|apply Kd.V_drew));exact Kd.V_mono HL205_4.out (fun _ hk=>⟨⟨hk.1.1,⟨hk.2,⟨hk.1.2.2.1,hk.1.2.2.2⟩⟩⟩,hk.1.2.1⟩)) hg hat);have n5_:=Az.mk (Kd.V_afterv (ok:=(fun k_=>(P1_6_ k_∨w.heap.size≤k_)∧some k_≠(.slice (some ad205) t202.length co13:Value).ownBlock∧k_≠gb200∧k_≠gb201)) (by(with_reducible repeat (first|apply Kd.V_alloc|apply Kd.V_drewN|apply Kd.V_drew));exact Kd.V_mono HL205_6.out (fun _ hk=>⟨⟨hk.1.1,⟨hk.2,⟨hk.1.2.2.1,hk.1.2.2.2⟩⟩⟩,hk.1.2.1⟩)) hg hat);have n6_:=Az.mk (Kd.V_afterv (ok:=(fun k_=>(P1_6_ k_∨w.heap.size≤k_)∧some k_≠(.slice (some ad205) t202.length co13:Value).ownBlock∧k_≠gb200∧k_≠gb201)) (by(with_reducible repeat (first|apply Kd.V_alloc|apply Kd.V_drewN|apply Kd.V_drew));exact Kd.V_mono HL205_7.out (fun _ hk=>⟨⟨hk.1.1,⟨hk.2,⟨hk.1.2.2.1,hk.1.2.2.2⟩⟩⟩,hk.1.2.1⟩)) hg hat);have n7_:=Az.mk (hb);have n8_:=Az.mk (ho);clear HO_5;clear HO_202006;clear BK200;clear BK201;clear HL205_4;clear HL205_6;clear HL205_7;clear HB;clear HO_6;have HO_5:=n0_;have HO_202006:=n1_;have BK200:=n2_;have BK201:=n3_;have HL205_4:=n4_;have HL205_6:=n5_;have HL205_7:=n6_;have HB:=n7_;have HO208:=n8_;clear n0_ n1_ n2_ n3_ n4_ n5_ n6_ n7_ n8_;clear ho hb hg hat))
      go_roundg k1
      case measure=>have:=HK1.out;omega
      case rel=>exact⟨(y206),(wrap64 (x7_1 + 1)),(by first|rfl|(simp;done)|(simp [*];done)|(refine congrArg Value.bool ?_;exact isE_ _)),H',⟨by have:=HK1.out;omega⟩,⟨by(with_reducible repeat (first|apply Kd.N_alloc|apply Kd.N_drewN|apply Kd.N_drew));exact Kd.N_mono HO_5.out (fun _ hk=>⟨hk.1.1,⟨hk.2,⟨hk.1.2.1,hk.1.2.2⟩⟩⟩)⟩,⟨by(with_reducible repeat (first|apply Kd.N_alloc|apply Kd.N_drewN|apply Kd.N_drew));exact HO208.out⟩,⟨by(with_reducible repeat (first|apply Kd.V_alloc|apply Kd.V_drewN|apply Kd.V_drew));exact Kd.V_mono HO_202006.out (fun _ hk=>⟨hk.1.1,⟨hk.1.2.1,⟨hk.2,⟨hk.1.2.2.1,hk.1.2.2.2⟩⟩⟩⟩)⟩,⟨by(with_reducible repeat (first|refine kN_ ?_ _|refine kD_ ?_|refine kA_ ?_ _));exact BK200.out⟩,⟨by(with_reducible repeat (first|refine kN_ ?_ _|refine kD_ ?_|refine kA_ ?_ _));exact BK201.out⟩,⟨by repeat (first|(with_reducible first|exact HB.out|apply bA_|apply bN_|apply bD_|refine bS_ ?_ GE200.out|refine bS_ ?_ GE201.out)|exact HB.out)⟩⟩
     ·rw [if_neg c12] at H
      exact absurd H (by simp)
    ·rw [if_neg c11] at H
     exact absurd H (by simp)
   ·rw [if_neg c10] at H
    have c10b0:decide (x7_1 < (t202.length:Int))=false:=decide_eq_false c10
    clear c10
    obtain rfl:=Option.some.inj H
    obtain⟨Ao15,co15,eo15⟩:=Kd.N_slice HO_5.out
    subst eo15
    go_wp2
    go_ret
    exact⟨_,by first|rfl|(simp [errW_none,errW_some] <;> rfl)|(simp [*,errW_none,errW_some] <;> rfl),by(with_reducible repeat (first|apply Kd.N_alloc|apply Kd.N_drewN|apply Kd.N_drew));exact Kd.N_mono HO_6.out (fun _ hk=>hk.1),by repeat (first|(with_reducible first|exact HB.out|apply bA_|apply bN_|apply bD_|refine bS_ ?_ GE200.out|refine bS_ ?_ GE201.out)|exact HB.out)⟩
end Go.Proofs.Ytgdbcogbbghjaaa.Q
