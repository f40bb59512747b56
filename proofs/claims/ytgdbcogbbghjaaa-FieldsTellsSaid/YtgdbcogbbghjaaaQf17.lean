import Derived.Test.YtgdbcogbbghjaaaQ0
import Derived.Test.YtgdbcogbbghjaaaQf32
namespace Go.Proofs.Ytgdbcogbbghjaaa.Q
open Go.RowKit Go.Proofs.YtgdbcogbbghjaaaW.PrintWords Go.Proofs.YtgdbcogbbghjaaaW.PrintLast Go.Proofs.YtgdbcogbbghjaaaW.PrintMore
attribute [local go_sem] max2_int min2_int max_two min_two max_three min_three max_four min_four   -- for this text's walks alone
set_option linter.unusedVariables false
set_option linter.unusedSimpArgs false
def arboristref46_Kids.l0:Nat→List (S65)→List (S32)→Int→Option ((List (S32)))
 | 0,_,_,_=>none
 | k + 1,x5,x6,x7=>if x7 < (x5.length:Int)then(if 0≤x7 then(if x6.length < 1466015503701 then(arboristref46_Kids.l0 k x5 (x6 ++ [(⟨(rd_T65 x5 x7).f0.f0,(rd_T65 x5 x7).f0.f1,(rd_T65 x5 x7).f0.f2,(rd_T65 x5 x7).f0.f3,(rd_T65 x5 x7).f0.f4,(rd_T65 x5 x7).f0.f5,(rd_T65 x5 x7).f0.f6⟩:S32)]) (wrap64 (x7 + 1)))else(none))else(none))else(some x6)
def arboristref46_Kids.f (k:Nat)(l0_0:List ByteArray)(l0_1:List ByteArray)(l0_2:List Int)(l0_3:List (S67))(l0_4:List (S78))(a1_0:Int)(a1_1:Int)(a1_2:Int)(a1_3:Int)(l1_4:List (S53))(a1_5:ByteArray)(l1_6:List (S32)):Option ((List (S32))):=(arboristref46_All.f k l0_0 l0_1 l0_2 l0_3 l0_4 a1_0 a1_1 a1_2 a1_3 l1_4 a1_5 l1_6 ([]:List Int) (⟨#[]⟩:ByteArray)).bind fun t233=>(arboristref46_Kids.l0 k t233 ([]:List (S32)) 0)
set_option maxHeartbeats 8000000 in
set_option maxRecDepth 100000 in
theorem arboristref46_Kids.calls (k:Nat)(A0_0:Option Addr)(c0_0:Nat)(l0_0:List ByteArray)(A0_1:Option Addr)(c0_1:Nat)(l0_1:List ByteArray)(A0_2:Option Addr)(c0_2:Nat)(l0_2:List Int)(A0_3:Option Addr)(c0_3:Nat)(l0_3:List (S67))(A0_4:Option Addr)(c0_4:Nat)(l0_4:List (S78))(a1_0:Int)(a1_1:Int)(a1_2:Int)(a1_3:Int)(A1_4:Option Addr)(c1_4:Nat)(l1_4:List (S53))(a1_5:ByteArray)(P1_6_:Nat→Prop)(A1_6:Option Addr)(c1_6:Nat)(l1_6:List (S32))(r:List (S32))(w:World)(hr0_0:Kd.C Kd.string w A0_0 l0_0.length l0_0)(hc0_0:l0_0.length≤c0_0)(hr0_1:Kd.C Kd.string w A0_1 l0_1.length l0_1)(hc0_1:l0_1.length≤c0_1)(hr0_2:Kd.C (Kd.int .i64) w A0_2 l0_2.length l0_2)(hc0_2:l0_2.length≤c0_2)(hr0_3:Kd.C k67 w A0_3 l0_3.length l0_3)(hc0_3:l0_3.length≤c0_3)(hr0_4:Kd.C k78 w A0_4 l0_4.length l0_4)(hc0_4:l0_4.length≤c0_4)(hr1_4:Kd.C k53 w A1_4 l1_4.length l1_4)(hc1_4:l1_4.length≤c1_4)(hs1_6:Kd.V k32 32 w w.heap.size (fun k_=>P1_6_ k_) (.slice A1_6 l1_6.length c1_6) l1_6)(h:arboristref46_Kids.f k l0_0 l0_1 l0_2 l0_3 l0_4 a1_0 a1_1 a1_2 a1_3 l1_4 a1_5 l1_6=some r) :
  Calls Try.prog 17 #[.agg #[.slice A0_0 l0_0.length c0_0,.slice A0_1 l0_1.length c0_1,.slice A0_2 l0_2.length c0_2,.slice A0_3 l0_3.length c0_3,.slice A0_4 l0_4.length c0_4],.agg #[.int .i64 a1_0,.int .i64 a1_1,.int .i64 a1_2,.int .i64 a1_3,.slice A1_4 l1_4.length c1_4,.string a1_5,.slice A1_6 l1_6.length c1_6]] w fun e w'=>∃ v0_:Value,e=.returned (v0_)∧Kd.N k32 32 w' w.heap.size (fun k_=>(P1_6_ k_∨w.heap.size≤k_)) v0_ r∧Below w.heap.size w w':=by
 have hu27:=Try.underlying27
 have hu32:=Try.underlying32
 have HR0_0:=Az.mk hr0_0
 have HC0_0:=Az.mk hc0_0
 clear hr0_0 hc0_0
 have HR0_1:=Az.mk hr0_1
 have HC0_1:=Az.mk hc0_1
 clear hr0_1 hc0_1
 have HR0_2:=Az.mk hr0_2
 have HC0_2:=Az.mk hc0_2
 clear hr0_2 hc0_2
 have HR0_3:=Az.mk hr0_3
 have HC0_3:=Az.mk hc0_3
 clear hr0_3 hc0_3
 have HR0_4:=Az.mk hr0_4
 have HC0_4:=Az.mk hc0_4
 clear hr0_4 hc0_4
 have HR1_4:=Az.mk hr1_4
 have HC1_4:=Az.mk hc1_4
 clear hr1_4 hc1_4
 have HO1_6:=Az.mk (show Kd.V k32 32 w w.heap.size (fun k_=>(P1_6_ k_∨w.heap.size≤k_)) (.slice A1_6 l1_6.length c1_6) l1_6 from Kd.V_mono hs1_6 (fun k_ hk=>.inl hk))
 have HB:=Az.mk (Below.refl w.heap.size w)
 have H:((arboristref46_All.f k l0_0 l0_1 l0_2 l0_3 l0_4 a1_0 a1_1 a1_2 a1_3 l1_4 a1_5 l1_6 ([]:List Int) (⟨#[]⟩:ByteArray)).bind fun t233=>(arboristref46_Kids.l0 k t233 ([]:List (S32)) 0))=some r:=h
 clear h
 replace H:=Option.bind_eq_some_iff.mp H
 obtain⟨t233,A30,H⟩:=H
 replace H:(arboristref46_Kids.l0 k t233 ([]:List (S32)) 0)=some r:=H
 have A3:=Az.mk A30
 clear A30
 have H':=Az.mk H
 clear H
 go_enter Try.func17,Try.ntmps17
 go_wp2_with (first|((with_reducible refine gate_dst (N:=2) rfl ?_);refine box_event ?hg (N:=2) ?hd (cs:=#[.slice A0_0 l0_0.length c0_0,.slice A0_1 l0_1.length c0_1,.slice A0_2 l0_2.length c0_2,.slice A0_3 l0_3.length c0_3,.slice A0_4 l0_4.length c0_4]) (t:=27) ?hr ?_;(case hd=>rfl);(case hg=>rfl);(case hr=>first|(go_simp;done)|(go_simp;rfl));intro gb231 hg w4 hbox hb;have n0_:=Az.mk (Kd.V_below (Kd.V_elderB (by(with_reducible repeat (first|apply Kd.V_alloc|apply Kd.V_drewN|apply Kd.V_drew));exact HO1_6.out) gb231 (Nat.le_of_eq hg.symm)) hb);have n1_:=Az.mk (bT_ (by repeat (first|(with_reducible first|exact HB.out|apply bA_|apply bN_|apply bD_)|exact HB.out)) hb);have n2_:=Az.mk (hbox);have n3_:=Az.mk ((by rw [hg];exact(bZ_ (by repeat (first|(with_reducible first|exact HB.out|apply bA_|apply bN_|apply bD_)|exact HB.out))):w.heap.size≤gb231));have n4_:=Az.mk ((by rw [hg];exact(bZ_ (by repeat (first|(with_reducible first|exact HB.out|apply bA_|apply bN_|apply bD_)|exact HB.out))):w.heap.size≤gb231));clear HO1_6;clear HB;have HO1_6:=n0_;have HB:=n1_;have BK231:=n2_;have GW231:=n3_;have GE231:=n4_;clear n0_ n1_ n2_ n3_ n4_;clear hb hbox hg)|((with_reducible refine gate_dst (N:=3) rfl ?_);refine box_event ?hg (N:=3) ?hd (cs:=#[.int .i64 a1_0,.int .i64 a1_1,.int .i64 a1_2,.int .i64 a1_3,.slice A1_4 l1_4.length c1_4,.string a1_5,.slice A1_6 l1_6.length c1_6]) (t:=32) ?hr ?_;(case hd=>rfl);(case hg=>rfl);(case hr=>first|(go_simp;done)|(go_simp;rfl));intro gb232 hg w5 hbox hb;have n0_:=Az.mk (Kd.V_below (Kd.V_elderB (by(with_reducible repeat (first|apply Kd.V_alloc|apply Kd.V_drewN|apply Kd.V_drew));exact HO1_6.out) gb232 (Nat.le_of_eq hg.symm)) hb);have n1_:=Az.mk (kB_ (g:=gb231) (o:=.cells #[.slice A0_0 l0_0.length c0_0,.slice A0_1 l0_1.length c0_1,.slice A0_2 l0_2.length c0_2,.slice A0_3 l0_3.length c0_3,.slice A0_4 l0_4.length c0_4] 27 (0,0)) (by(with_reducible repeat (first|refine kN_ ?_ _|refine kD_ ?_|refine kA_ ?_ _));exact BK231.out) hb);have n2_:=Az.mk (bT_ (by repeat (first|(with_reducible first|exact HB.out|apply bA_|apply bN_|apply bD_|refine bS_ ?_ GE231.out)|exact HB.out)) hb);have n3_:=Az.mk (hbox);have n4_:=Az.mk ((by rw [hg];exact(bZ_ (by repeat (first|(with_reducible first|exact HB.out|apply bA_|apply bN_|apply bD_|refine bS_ ?_ GE231.out)|exact HB.out))):w.heap.size≤gb232));have n5_:=Az.mk ((by rw [hg];exact(bZ_ (by repeat (first|(with_reducible first|exact HB.out|apply bA_|apply bN_|apply bD_|refine bS_ ?_ GE231.out)|exact HB.out))):w.heap.size≤gb232));have n6_:=Az.mk ((by rw [hg];exact Nat.ne_of_lt (blk_lt (g:=gb231) (o:=.cells #[.slice A0_0 l0_0.length c0_0,.slice A0_1 l0_1.length c0_1,.slice A0_2 l0_2.length c0_2,.slice A0_3 l0_3.length c0_3,.slice A0_4 l0_4.length c0_4] 27 (0,0)) (by(with_reducible repeat (first|refine kN_ ?_ _|refine kD_ ?_|refine kA_ ?_ _));exact BK231.out)):gb231≠gb232));have n7_:=Az.mk ((by rw [hg];exact Nat.ne_of_gt (blk_lt (g:=gb231) (o:=.cells #[.slice A0_0 l0_0.length c0_0,.slice A0_1 l0_1.length c0_1,.slice A0_2 l0_2.length c0_2,.slice A0_3 l0_3.length c0_3,.slice A0_4 l0_4.length c0_4] 27 (0,0)) (by(with_reducible repeat (first|refine kN_ ?_ _|refine kD_ ?_|refine kA_ ?_ _));exact BK231.out)):gb232≠gb231));clear HO1_6;clear BK231;clear HB;have HO1_6:=n0_;have BK231:=n1_;have HB:=n2_;have BK232:=n3_;have GW232:=n4_;have GE232:=n5_;have NB231_232:=n6_;have NB232_231:=n7_;clear n0_ n1_ n2_ n3_ n4_ n5_ n6_ n7_;clear hb hbox hg;have hnb6:=NB231_232.out;have hnc6:=NB232_231.out;have hcz7_0:w5.cell? ⟨gb231,0,none⟩=some (.slice A0_0 l0_0.length c0_0):=(bC_ BK231.out 0).trans rfl;have hcz7_1:w5.cell? ⟨gb231,1,none⟩=some (.slice A0_1 l0_1.length c0_1):=(bC_ BK231.out 1).trans rfl;have hcz7_2:w5.cell? ⟨gb231,2,none⟩=some (.slice A0_2 l0_2.length c0_2):=(bC_ BK231.out 2).trans rfl;have hcz7_3:w5.cell? ⟨gb231,3,none⟩=some (.slice A0_3 l0_3.length c0_3):=(bC_ BK231.out 3).trans rfl;have hcz7_4:w5.cell? ⟨gb231,4,none⟩=some (.slice A0_4 l0_4.length c0_4):=(bC_ BK231.out 4).trans rfl;have hfz7_0:=bF_ BK231.out 0;have hfz7_1:=bF_ BK231.out 1;have hfz7_2:=bF_ BK231.out 2;have hfz7_3:=bF_ BK231.out 3;have hfz7_4:=bF_ BK231.out 4;have hcz8_0:w5.cell? ⟨gb232,0,none⟩=some (.int .i64 a1_0):=(bC_ BK232.out 0).trans rfl;have hcz8_1:w5.cell? ⟨gb232,1,none⟩=some (.int .i64 a1_1):=(bC_ BK232.out 1).trans rfl;have hcz8_2:w5.cell? ⟨gb232,2,none⟩=some (.int .i64 a1_2):=(bC_ BK232.out 2).trans rfl;have hcz8_3:w5.cell? ⟨gb232,3,none⟩=some (.int .i64 a1_3):=(bC_ BK232.out 3).trans rfl;have hcz8_4:w5.cell? ⟨gb232,4,none⟩=some (.slice A1_4 l1_4.length c1_4):=(bC_ BK232.out 4).trans rfl;have hcz8_5:w5.cell? ⟨gb232,5,none⟩=some (.string a1_5):=(bC_ BK232.out 5).trans rfl;have hcz8_6:w5.cell? ⟨gb232,6,none⟩=some (.slice A1_6 l1_6.length c1_6):=(bC_ BK232.out 6).trans rfl;have hfz8_0:=bF_ BK232.out 0;have hfz8_1:=bF_ BK232.out 1;have hfz8_2:=bF_ BK232.out 2;have hfz8_3:=bF_ BK232.out 3;have hfz8_4:=bF_ BK232.out 4;have hfz8_5:=bF_ BK232.out 5;have hfz8_6:=bF_ BK232.out 6)|((with_reducible refine gate_callee (f:=32) rfl ?_);refine goesL_ (some 10) rfl rfl Try.func32 (by kernel_rfl) rfl #[.agg #[.slice A0_0 l0_0.length c0_0,.slice A0_1 l0_1.length c0_1,.slice A0_2 l0_2.length c0_2,.slice A0_3 l0_3.length c0_3,.slice A0_4 l0_4.length c0_4],.agg #[.int .i64 a1_0,.int .i64 a1_1,.int .i64 a1_2,.int .i64 a1_3,.slice A1_4 l1_4.length c1_4,.string a1_5,.slice A1_6 l1_6.length c1_6],.slice none 0 0,.string (⟨#[]⟩:ByteArray)] rfl (by(try simp only [List.map_toArray,List.map_cons,List.map_nil]);first|done|rfl|(simp only [List.length_drop,List.length_take];rfl)) ?_;(refine(arboristref46_All.calls k _ _ l0_0 _ _ l0_1 _ _ l0_2 _ _ l0_3 _ _ l0_4 a1_0 a1_1 a1_2 a1_3 _ _ l1_4 a1_5 (fun k_=>(((P1_6_ k_∨w.heap.size≤k_)∧k_≠gb231)∧k_≠gb232)) _ _ l1_6 _ _ ([]:List Int) (⟨#[]⟩:ByteArray) t233 _ ?side1 ?side2 ?side3 ?side4 ?side5 ?side6 ?side7 ?side8 ?side9 ?side10 ?side11 ?side12 ?side13 ?side14 ?side15 A3.out).mono ?_);(case side1=>repeat (first|exact(Kd.C_below HR0_0.out HB.out)|(with_reducible first|refine Kd.C_alloc ?_ _|refine Kd.C_drewN ?_ _|refine Kd.C_drew ?_)));(case side2=>exact HC0_0.out);(case side3=>repeat (first|exact(Kd.C_below HR0_1.out HB.out)|(with_reducible first|refine Kd.C_alloc ?_ _|refine Kd.C_drewN ?_ _|refine Kd.C_drew ?_)));(case side4=>exact HC0_1.out);(case side5=>repeat (first|exact(Kd.C_below HR0_2.out HB.out)|(with_reducible first|refine Kd.C_alloc ?_ _|refine Kd.C_drewN ?_ _|refine Kd.C_drew ?_)));(case side6=>exact HC0_2.out);(case side7=>repeat (first|exact(Kd.C_below HR0_3.out HB.out)|(with_reducible first|refine Kd.C_alloc ?_ _|refine Kd.C_drewN ?_ _|refine Kd.C_drew ?_)));(case side8=>exact HC0_3.out);(case side9=>repeat (first|exact(Kd.C_below HR0_4.out HB.out)|(with_reducible first|refine Kd.C_alloc ?_ _|refine Kd.C_drewN ?_ _|refine Kd.C_drew ?_)));(case side10=>exact HC0_4.out);(case side11=>repeat (first|exact(Kd.C_below HR1_4.out HB.out)|(with_reducible first|refine Kd.C_alloc ?_ _|refine Kd.C_drewN ?_ _|refine Kd.C_drew ?_)));(case side12=>exact HC1_4.out);(case side13=>exact HO1_6.out);(case side14=>exact Kd.C_nil _ _);(case side15=>exact Nat.le_refl _);rintro e w9 ⟨v234,rfl,ho0,hb⟩;refine⟨_,rfl,?_⟩;have n0_:=Az.mk (Kd.V_elder' (by(with_reducible repeat (first|apply Kd.V_alloc|apply Kd.V_drewN|apply Kd.V_drew));exact HO1_6.out) (Kd.N_base ho0) hb);have n1_:=Az.mk (Kd.N_lower (Kd.N_mono (ok':=fun k_=>(P1_6_ k_∨w.heap.size≤k_)∧k_≠gb231∧k_≠gb232) ho0 (fun k_ hk_=>⟨Or.elim hk_ (fun hs_=>hs_.1.1) (fun hn_=>(.inr (Nat.le_trans (bZ_ (by repeat (first|(with_reducible first|exact HB.out|apply bA_|apply bN_|apply bD_|refine bS_ ?_ GE231.out|refine bS_ ?_ GE232.out)|exact HB.out))) hn_))),Or.elim hk_ (fun hs_=>hs_.1.2) (fun hn_=>(Kd.freshB (g:=gb231) (o:=.cells #[.slice A0_0 l0_0.length c0_0,.slice A0_1 l0_1.length c0_1,.slice A0_2 l0_2.length c0_2,.slice A0_3 l0_3.length c0_3,.slice A0_4 l0_4.length c0_4] 27 (0,0)) (by(with_reducible repeat (first|refine kN_ ?_ _|refine kD_ ?_|refine kA_ ?_ _));exact BK231.out) k_ hn_)),Or.elim hk_ (fun hs_=>hs_.2) (fun hn_=>(Kd.freshB (g:=gb232) (o:=.cells #[.int .i64 a1_0,.int .i64 a1_1,.int .i64 a1_2,.int .i64 a1_3,.slice A1_4 l1_4.length c1_4,.string a1_5,.slice A1_6 l1_6.length c1_6] 32 (0,0)) (by(with_reducible repeat (first|refine kN_ ?_ _|refine kD_ ?_|refine kA_ ?_ _));exact BK232.out) k_ hn_))⟩)) (bZ_ (by repeat (first|(with_reducible first|exact HB.out|apply bA_|apply bN_|apply bD_|refine bS_ ?_ GE231.out|refine bS_ ?_ GE232.out)|exact HB.out))));have n2_:=Az.mk (kB_ (g:=gb231) (o:=.cells #[.slice A0_0 l0_0.length c0_0,.slice A0_1 l0_1.length c0_1,.slice A0_2 l0_2.length c0_2,.slice A0_3 l0_3.length c0_3,.slice A0_4 l0_4.length c0_4] 27 (0,0)) (by(with_reducible repeat (first|refine kN_ ?_ _|refine kD_ ?_|refine kA_ ?_ _));exact BK231.out) hb);have n3_:=Az.mk (kB_ (g:=gb232) (o:=.cells #[.int .i64 a1_0,.int .i64 a1_1,.int .i64 a1_2,.int .i64 a1_3,.slice A1_4 l1_4.length c1_4,.string a1_5,.slice A1_6 l1_6.length c1_6] 32 (0,0)) (by(with_reducible repeat (first|refine kN_ ?_ _|refine kD_ ?_|refine kA_ ?_ _));exact BK232.out) hb);have n4_:=Az.mk (bT_ (by repeat (first|(with_reducible first|exact HB.out|apply bA_|apply bN_|apply bD_|refine bS_ ?_ GE231.out|refine bS_ ?_ GE232.out)|exact HB.out)) hb);clear HO1_6;clear BK231;clear BK232;clear HB;have HO1_6:=n0_;have HO235:=n1_;have BK231:=n2_;have BK232:=n3_;have HB:=n4_;clear n0_ n1_ n2_ n3_ n4_;(try clear hb);(try clear hb2);(try clear hk);(try clear hi);(try clear ho0)))
 go_loopg [6,7] k (fun kq v6 v7 w'=>∃ (x6_1:List (S32)) (x7_1:Int),v7=.int .i64 x7_1∧Az (arboristref46_Kids.l0 kq t233 x6_1 x7_1=some r)∧Az (kq≤k)∧Az (Kd.N k65 65 w' w.heap.size (fun k_=>(P1_6_ k_∨w.heap.size≤k_)∧some k_≠(v6:Value).ownBlock∧k_≠gb231∧k_≠gb232) v234 t233)∧Az (Kd.N k32 32 w' w.heap.size (fun k_=>(P1_6_ k_∨w.heap.size≤k_)∧some k_≠(v234:Value).ownBlock∧k_≠gb231∧k_≠gb232) v6 x6_1)∧Az (Kd.V k32 32 w' w.heap.size (fun k_=>(P1_6_ k_∨w.heap.size≤k_)∧some k_≠(v234:Value).ownBlock∧some k_≠(v6:Value).ownBlock∧k_≠gb231∧k_≠gb232) (.slice A1_6 l1_6.length c1_6) l1_6)∧Az (w'.heap[gb231]?=some (.cells #[(.slice A0_0 l0_0.length c0_0),(.slice A0_1 l0_1.length c0_1),(.slice A0_2 l0_2.length c0_2),(.slice A0_3 l0_3.length c0_3),(.slice A0_4 l0_4.length c0_4)] 27 (0,0)))∧Az (w'.heap[gb232]?=some (.cells #[.int .i64 a1_0,.int .i64 a1_1,.int .i64 a1_2,.int .i64 a1_3,(.slice A1_4 l1_4.length c1_4),.string a1_5,(.slice A1_6 l1_6.length c1_6)] 32 (0,0)))∧Az (Below w.heap.size w w'))
 case atStart=>exact⟨(([]:List (S32))),(0),(by first|rfl|(simp;done)|(simp [*];done)|(refine congrArg Value.bool ?_;exact isE_ _)),H',⟨Nat.le_refl _⟩,⟨by(with_reducible repeat (first|apply Kd.N_alloc|apply Kd.N_drewN|apply Kd.N_drew));exact Kd.N_mono HO235.out (fun _ hk=>⟨hk.1,⟨(by simp [Value.ownBlock]),⟨hk.2.1,hk.2.2⟩⟩⟩)⟩,⟨by first|exact Kd.R_nil _ _ _ _ _|exact Kd.N_nil _ _ _ _ _|exact Kd.V_nil _ _ _ _ _|exact Kd.Q_nil _ _ _ _ _|exact Kd.S_nil _ _ _ _ _⟩,⟨by(with_reducible repeat (first|apply Kd.V_alloc|apply Kd.V_drewN|apply Kd.V_drew));exact Kd.V_mono HO1_6.out (fun _ hk=>⟨hk.1.1.1,⟨hk.2,⟨(by simp [Value.ownBlock]),⟨hk.1.1.2,hk.1.2⟩⟩⟩⟩)⟩,⟨by(with_reducible repeat (first|refine kN_ ?_ _|refine kD_ ?_|refine kA_ ?_ _));exact BK231.out⟩,⟨by(with_reducible repeat (first|refine kN_ ?_ _|refine kD_ ?_|refine kA_ ?_ _));exact BK232.out⟩,⟨by repeat (first|(with_reducible first|exact HB.out|apply bA_|apply bN_|apply bD_|refine bS_ ?_ GE231.out|refine bS_ ?_ GE232.out)|exact HB.out)⟩⟩
 case round =>
  clear H'
  try clear c1
  try clear p2
  try clear c3
  try clear c6
  try clear hcz7_0
  try clear hcz7_1
  try clear hcz7_2
  try clear hcz7_3
  try clear hcz7_4
  try clear hcz8_0
  try clear hcz8_1
  try clear hcz8_2
  try clear hcz8_3
  try clear hcz8_4
  try clear hcz8_5
  try clear hcz8_6
  try clear hfz7_0
  try clear hfz7_1
  try clear hfz7_2
  try clear hfz7_3
  try clear hfz7_4
  try clear hfz8_0
  try clear hfz8_1
  try clear hfz8_2
  try clear hfz8_3
  try clear hfz8_4
  try clear hfz8_5
  try clear hfz8_6
  obtain⟨x6_1,x7_1,rfl,HA,HK1,HO_5,HO_6,HO_233006,BK231,BK232,HB⟩:=hrel
  cases gk with
  | zero=>exact absurd HA.out (by simp [arboristref46_Kids.l0])
  | succ k1 =>
   have H:=HA.out
   clear HA
   simp only [arboristref46_Kids.l0] at H
   by_cases c10:x7_1 < (t233.length:Int)
   ·rw [if_pos c10] at H
    have c10b0:decide (x7_1 < (t233.length:Int))=true:=decide_eq_true c10
    clear c10
    by_cases c11:0≤x7_1
    ·rw [if_pos c11] at H
     have c11b0:decide (0≤x7_1)=true:=decide_eq_true c11
     clear c11
     by_cases c12:x6_1.length < 1466015503701
     ·rw [if_pos c12] at H
      have LMc12:=Az.mk c12
      clear c12
      obtain⟨y237,hy237⟩:∃ y_:List (S32),y_=(x6_1 ++ [(⟨(rd_T65 t233 x7_1).f0.f0,(rd_T65 t233 x7_1).f0.f1,(rd_T65 t233 x7_1).f0.f2,(rd_T65 t233 x7_1).f0.f3,(rd_T65 t233 x7_1).f0.f4,(rd_T65 t233 x7_1).f0.f5,(rd_T65 t233 x7_1).f0.f6⟩:S32)]):=⟨_,rfl⟩
      replace H:(arboristref46_Kids.l0 k1 t233 y237 (wrap64 (x7_1 + 1)))=some r:=by first|(rw [hy237];with_reducible exact H)|(have H2_:=(Option.bind_some _ _).symm.trans H;rw [hy237];with_reducible exact H2_)|(have H2_:=(Option.bind_some _ _).symm.trans H;with_reducible exact H2_)|with_reducible exact H|(rw [hy237];exact H)|exact H
      have Ny237:=Az.mk hy237
      clear hy237
      have H':=Az.mk H
      clear H
      obtain⟨Ao13,co13,eo13⟩:=Kd.N_slice HO_5.out
      subst eo13
      have p236:0≤(x7_1:Int):=of_decide_eq_true (by first|(with_reducible assumption)|assumption)
      have q236:x7_1 < (t233.length:Int):=of_decide_eq_true (by first|(with_reducible assumption)|assumption)
      obtain⟨ad236,A236_4,c236_4,A236_6,c236_6,A236_7,c236_7,e236,hx236_0,hx236_1,hx236_2,hx236_3,hx236_4,hx236_5,hx236_6,hx236_7,hx236_8,hl236_4,hi236_4,hl236_6,hi236_6,hl236_7,hi236_7⟩:=at_T65 (Kd.N_reads' HO_5.out).2.2 x7_1 p236 q236
      cases e236
      obtain⟨ce236,hce236,hMe236,hcc236⟩:=Kd.N_get HO_5.out z65 x7_1 p236 (by first|exact q236|exact of_decide_eq_true (by first|(with_reducible assumption)|assumption)|(have e_:=(Kd.N_reads' HO_5.out).1;omega))
      obtain⟨ua236_4,uc236_4,ua236_6,uc236_6,ua236_7,uc236_7,rfl,ul236_4,ge236_4,ul236_6,ge236_6,ul236_7,ge236_7⟩:=k65_openF hMe236
      have hv236_4:=hcc236 4 _ rfl
      rw [add_field _ _ 4 (by omega)] at hv236_4
      replace hv236_4:=Option.some.inj (hv236_4.symm.trans hx236_4)
      injection hv236_4 with hva_ hvn_ hvc_
      rw [hva_] at ge236_4
      rw [hvc_] at ul236_4
      have HL236_4:=Az.mk (show Kd.V k53 53 _ w.heap.size _ _ ((rd_T65 t233 x7_1).f0.f4)from Kd.V_mk ul236_4 ge236_4)
      clear hva_ hvn_ hvc_ ge236_4 ul236_4
      have hv236_6:=hcc236 6 _ rfl
      rw [add_field _ _ 6 (by omega)] at hv236_6
      replace hv236_6:=Option.some.inj (hv236_6.symm.trans hx236_6)
      injection hv236_6 with hva_ hvn_ hvc_
      rw [hva_] at ge236_6
      rw [hvc_] at ul236_6
      have HL236_6:=Az.mk (show Kd.V k32 32 _ w.heap.size _ _ ((rd_T65 t233 x7_1).f0.f6)from Kd.V_mk ul236_6 ge236_6)
      clear hva_ hvn_ hvc_ ge236_6 ul236_6
      have hv236_7:=hcc236 7 _ rfl
      rw [add_field _ _ 7 (by omega)] at hv236_7
      replace hv236_7:=Option.some.inj (hv236_7.symm.trans hx236_7)
      injection hv236_7 with hva_ hvn_ hvc_
      rw [hva_] at ge236_7
      rw [hvc_] at ul236_7
      have HL236_7:=Az.mk (show Kd.V (Kd.int .i64) 3 _ w.heap.size _ _ ((rd_T65 t233 x7_1).f1)from Kd.V_mk ul236_7 ge236_7)
      clear hva_ hvn_ hvc_ ge236_7 ul236_7
      clear hcc236 hce236
      have HR236_4:=Az.mk hi236_4
      have HC236_4:=Az.mk hl236_4
      clear hi236_4 hl236_4
      have HR236_6:=Az.mk hi236_6
      have HC236_6:=Az.mk hl236_6
      clear hi236_6 hl236_6
      have HR236_7:=Az.mk hi236_7
      have HC236_7:=Az.mk hl236_7
      clear hi236_7 hl236_7
      replace p236:=eq_true p236
      replace q236:=eq_true q236
      go_wp2_with (first|((with_reducible refine gate_builtin (b:=.append) (xs:=#[.tmp 17,.tmp 23]) rfl ?_);at_builtin;refine Kd.N_append k32 (w0:=w) w.heap.size rfl (.tmp 17) (.tmp 23) 30 32 (.agg #[(.int .i64 0),(.int .i64 0),(.int .i64 0),(.int .i64 0),(.slice none 0 0),(.string ⟨#[]⟩),(.slice none 0 0)]) 96 rfl Try.underlying30 info32 rfl (by decide) (by omega) u6 x6_1 (⟨(rd_T65 t233 x7_1).f0.f0,(rd_T65 t233 x7_1).f0.f1,(rd_T65 t233 x7_1).f0.f2,(rd_T65 t233 x7_1).f0.f3,(rd_T65 t233 x7_1).f0.f4,(rd_T65 t233 x7_1).f0.f5,(rd_T65 t233 x7_1).f0.f6⟩:S32) [.int .i64 ((rd_T65 t233 x7_1).f0.f0),.int .i64 ((rd_T65 t233 x7_1).f0.f1),.int .i64 ((rd_T65 t233 x7_1).f0.f2),.int .i64 ((rd_T65 t233 x7_1).f0.f3),.slice A236_4 ((rd_T65 t233 x7_1).f0.f4).length c236_4,.string ((rd_T65 t233 x7_1).f0.f5),.slice A236_6 ((rd_T65 t233 x7_1).f0.f6).length c236_6] (fun k_=>(P1_6_ k_∨w.heap.size≤k_)∧some k_≠(.slice (some ad236) t233.length co13:Value).ownBlock∧k_≠gb231∧k_≠gb232) (fun k_=>((fun k_=>(P1_6_ k_∨w.heap.size≤k_)∧some k_≠(.slice (some ad236) t233.length co13:Value).ownBlock∧k_≠gb231∧k_≠gb232)) k_∧some k_≠(u6:Value).ownBlock) rfl rfl ?aP (fun _ hk=>hk) ?aF ?aO ?aB ?aS ?aL ?_;(case aP=>exact(k32_mkF _ _ (⟨(rd_T65 t233 x7_1).f0.f0,(rd_T65 t233 x7_1).f0.f1,(rd_T65 t233 x7_1).f0.f2,(rd_T65 t233 x7_1).f0.f3,(rd_T65 t233 x7_1).f0.f4,(rd_T65 t233 x7_1).f0.f5,(rd_T65 t233 x7_1).f0.f6⟩:S32) (Kd.V_reads' (Kd.V_mono (ok':=(fun k_=>((fun k_=>(P1_6_ k_∨w.heap.size≤k_)∧some k_≠(.slice (some ad236) t233.length co13:Value).ownBlock∧k_≠gb231∧k_≠gb232)) k_∧some k_≠(u6:Value).ownBlock)) (HL236_4.out) (fun k_ hk=>⟨⟨hk.1.1,⟨hk.2,⟨hk.1.2.2.1,hk.1.2.2.2⟩⟩⟩,hk.1.2.1⟩))).2.1 (Kd.V_F (Kd.V_mono (ok':=(fun k_=>((fun k_=>(P1_6_ k_∨w.heap.size≤k_)∧some k_≠(.slice (some ad236) t233.length co13:Value).ownBlock∧k_≠gb231∧k_≠gb232)) k_∧some k_≠(u6:Value).ownBlock)) (HL236_4.out) (fun k_ hk=>⟨⟨hk.1.1,⟨hk.2,⟨hk.1.2.2.1,hk.1.2.2.2⟩⟩⟩,hk.1.2.1⟩))) (Kd.V_reads' (Kd.V_mono (ok':=(fun k_=>((fun k_=>(P1_6_ k_∨w.heap.size≤k_)∧some k_≠(.slice (some ad236) t233.length co13:Value).ownBlock∧k_≠gb231∧k_≠gb232)) k_∧some k_≠(u6:Value).ownBlock)) (HL236_6.out) (fun k_ hk=>⟨⟨hk.1.1,⟨hk.2,⟨hk.1.2.2.1,hk.1.2.2.2⟩⟩⟩,hk.1.2.1⟩))).2.1 (Kd.V_F (Kd.V_mono (ok':=(fun k_=>((fun k_=>(P1_6_ k_∨w.heap.size≤k_)∧some k_≠(.slice (some ad236) t233.length co13:Value).ownBlock∧k_≠gb231∧k_≠gb232)) k_∧some k_≠(u6:Value).ownBlock)) (HL236_6.out) (fun k_ hk=>⟨⟨hk.1.1,⟨hk.2,⟨hk.1.2.2.1,hk.1.2.2.2⟩⟩⟩,hk.1.2.1⟩)))));(case aB=>exact(by repeat (first|(with_reducible first|exact HB.out|apply bA_|apply bN_|apply bD_|refine bS_ ?_ GE231.out|refine bS_ ?_ GE232.out)|exact HB.out)));(case aF=>exact(fun k_ hk=>⟨(.inr (Nat.le_trans (bZ_ (by repeat (first|(with_reducible first|exact HB.out|apply bA_|apply bN_|apply bD_|refine bS_ ?_ GE231.out|refine bS_ ?_ GE232.out)|exact HB.out))) hk)),Kd.fresh' (Kd.N_lt (by(with_reducible repeat (first|apply Kd.N_alloc|apply Kd.N_drewN|apply Kd.N_drew));exact HO_5.out)) k_ hk,Kd.freshB (g:=gb231) (o:=.cells #[.slice A0_0 l0_0.length c0_0,.slice A0_1 l0_1.length c0_1,.slice A0_2 l0_2.length c0_2,.slice A0_3 l0_3.length c0_3,.slice A0_4 l0_4.length c0_4] 27 (0,0)) (by(with_reducible repeat (first|refine kN_ ?_ _|refine kD_ ?_|refine kA_ ?_ _));exact BK231.out) k_ hk,Kd.freshB (g:=gb232) (o:=.cells #[.int .i64 a1_0,.int .i64 a1_1,.int .i64 a1_2,.int .i64 a1_3,.slice A1_4 l1_4.length c1_4,.string a1_5,.slice A1_6 l1_6.length c1_6] 32 (0,0)) (by(with_reducible repeat (first|refine kN_ ?_ _|refine kD_ ?_|refine kA_ ?_ _));exact BK232.out) k_ hk⟩));(case aO=>exact(by(with_reducible repeat (first|apply Kd.N_alloc|apply Kd.N_drewN|apply Kd.N_drew));exact HO_6.out));(case aS=>exact(bZ_ (by repeat (first|(with_reducible first|exact HB.out|apply bA_|apply bN_|apply bD_|refine bS_ ?_ GE231.out|refine bS_ ?_ GE232.out)|exact HB.out))));(case aL=>have:=LMc12.out;omega);intro v238 w14 ho hb hg hat;rw [← Ny237.out] at ho;have n0_:=Az.mk (Kd.N_afterv (ok:=(fun k_=>(P1_6_ k_∨w.heap.size≤k_)∧k_≠gb231∧k_≠gb232)) (by(with_reducible repeat (first|apply Kd.N_alloc|apply Kd.N_drewN|apply Kd.N_drew));exact Kd.N_mono HO_5.out (fun _ hk=>⟨⟨hk.1,⟨hk.2.2.1,hk.2.2.2⟩⟩,hk.2.1⟩)) hg hat);have n1_:=Az.mk (Kd.V_afterv (ok:=(fun k_=>(P1_6_ k_∨w.heap.size≤k_)∧some k_≠(.slice (some ad236) t233.length co13:Value).ownBlock∧k_≠gb231∧k_≠gb232)) (by(with_reducible repeat (first|apply Kd.V_alloc|apply Kd.V_drewN|apply Kd.V_drew));exact Kd.V_mono HO_233006.out (fun _ hk=>⟨⟨hk.1,⟨hk.2.1,⟨hk.2.2.2.1,hk.2.2.2.2⟩⟩⟩,hk.2.2.1⟩)) hg hat);have n2_:=Az.mk (blk_grown (g:=gb231) (o:=.cells #[.slice A0_0 l0_0.length c0_0,.slice A0_1 l0_1.length c0_1,.slice A0_2 l0_2.length c0_2,.slice A0_3 l0_3.length c0_3,.slice A0_4 l0_4.length c0_4] 27 (0,0)) (by(with_reducible repeat (first|refine kN_ ?_ _|refine kD_ ?_|refine kA_ ?_ _));exact BK231.out) hg (Kd.N_ne HO_6.out BK231.out (by decide)));have n3_:=Az.mk (blk_grown (g:=gb232) (o:=.cells #[.int .i64 a1_0,.int .i64 a1_1,.int .i64 a1_2,.int .i64 a1_3,.slice A1_4 l1_4.length c1_4,.string a1_5,.slice A1_6 l1_6.length c1_6] 32 (0,0)) (by(with_reducible repeat (first|refine kN_ ?_ _|refine kD_ ?_|refine kA_ ?_ _));exact BK232.out) hg (Kd.N_away HO_6.out (fun _ hk=>hk.2.2.2)));have n4_:=Az.mk (Kd.V_afterv (ok:=(fun k_=>(P1_6_ k_∨w.heap.size≤k_)∧some k_≠(.slice (some ad236) t233.length co13:Value).ownBlock∧k_≠gb231∧k_≠gb232)) (by(with_reducible repeat (first|apply Kd.V_alloc|apply Kd.V_drewN|apply Kd.V_drew));exact Kd.V_mono HL236_4.out (fun _ hk=>⟨⟨hk.1.1,⟨hk.2,⟨hk.1.2.2.1,hk.1.2.2.2⟩⟩⟩,hk.1.2.1⟩)) hg hat);have n5_:=Az.mk (Kd.V_afterv (ok:=(fun k_=>(P1_6_ k_∨w.heap.size≤k_)∧some k_≠(.slice (some ad236) t233.length co13:Value).ownBlock∧k_≠gb231∧k_≠gb232)) (by(with_reducible repeat (first|apply Kd.V_alloc|apply Kd.V_drewN|apply Kd.V_drew));exact Kd.V_mono HL236_6.out (fun _ hk=>⟨⟨hk.1.1,⟨hk.2,⟨hk.1.2.2.1,hk.1.2.2.2⟩⟩⟩,hk.1.2.1⟩)) hg hat);have n6_:=Az.mk (Kd.V_afterv (ok:=(fun k_=>(P1_6_ k_∨w.heap.size≤k_)∧some k_≠(.slice (some ad236) t233.length co13:Value).ownBlock∧k_≠gb231∧k_≠gb232)) (by(with_reducible repeat (first|apply Kd.V_alloc|apply Kd.V_drewN|apply Kd.V_drew));exact Kd.V_mono HL236_7.out (fun _ hk=>⟨⟨hk.1.1,⟨hk.2,⟨hk.1.2.2.1,hk.1.2.2.2⟩⟩⟩,hk.1.2.1⟩)) hg hat);have n7_:=Az.mk (hb);have n8_:=Az.mk (ho);clear HO_5;clear HO_233006;clear BK231;clear BK232;clear HL236_4;clear HL236_6;clear HL236_7;clear HB;clear HO_6;have HO_5:=n0_;have HO_233006:=n1_;have BK231:=n2_;have BK232:=n3_;have HL236_4:=n4_;have HL236_6:=n5_;have HL236_7:=n6_;have HB:=n7_;have HO239:=n8_;clear n0_ n1_ n2_ n3_ n4_ n5_ n6_ n7_ n8_;clear ho hb hg hat))
      go_roundg k1
      case measure=>have:=HK1.out;omega
      case rel=>exact⟨(y237),(wrap64 (x7_1 + 1)),(by first|rfl|(simp;done)|(simp [*];done)|(refine congrArg Value.bool ?_;exact isE_ _)),H',⟨by have:=HK1.out;omega⟩,⟨by(with_reducible repeat (first|apply Kd.N_alloc|apply Kd.N_drewN|apply Kd.N_drew));exact Kd.N_mono HO_5.out (fun _ hk=>⟨hk.1.1,⟨hk.2,⟨hk.1.2.1,hk.1.2.2⟩⟩⟩)⟩,⟨by(with_reducible repeat (first|apply Kd.N_alloc|apply Kd.N_drewN|apply Kd.N_drew));exact HO239.out⟩,⟨by(with_reducible repeat (first|apply Kd.V_alloc|apply Kd.V_drewN|apply Kd.V_drew));exact Kd.V_mono HO_233006.out (fun _ hk=>⟨hk.1.1,⟨hk.1.2.1,⟨hk.2,⟨hk.1.2.2.1,hk.1.2.2.2⟩⟩⟩⟩)⟩,⟨by(with_reducible repeat (first|refine kN_ ?_ _|refine kD_ ?_|refine kA_ ?_ _));exact BK231.out⟩,⟨by(with_reducible repeat (first|refine kN_ ?_ _|refine kD_ ?_|refine kA_ ?_ _));exact BK232.out⟩,⟨by repeat (first|(with_reducible first|exact HB.out|apply bA_|apply bN_|apply bD_|refine bS_ ?_ GE231.out|refine bS_ ?_ GE232.out)|exact HB.out)⟩⟩
     ·rw [if_neg c12] at H
      exact absurd H (by simp)
    ·rw [if_neg c11] at H
     exact absurd H (by simp)
   ·rw [if_neg c10] at H
    have c10b0:decide (x7_1 < (t233.length:Int))=false:=decide_eq_false c10
    clear c10
    obtain rfl:=Option.some.inj H
    obtain⟨Ao15,co15,eo15⟩:=Kd.N_slice HO_5.out
    subst eo15
    go_wp2
    go_ret
    exact⟨_,by first|rfl|(simp [errW_none,errW_some] <;> rfl)|(simp [*,errW_none,errW_some] <;> rfl),by(with_reducible repeat (first|apply Kd.N_alloc|apply Kd.N_drewN|apply Kd.N_drew));exact Kd.N_mono HO_6.out (fun _ hk=>hk.1),by repeat (first|(with_reducible first|exact HB.out|apply bA_|apply bN_|apply bD_|refine bS_ ?_ GE231.out|refine bS_ ?_ GE232.out)|exact HB.out)⟩
end Go.Proofs.Ytgdbcogbbghjaaa.Q
