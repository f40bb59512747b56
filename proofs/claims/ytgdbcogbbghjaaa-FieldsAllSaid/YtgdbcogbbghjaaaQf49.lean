import Derived.Test.YtgdbcogbbghjaaaQ0
import Derived.Test.YtgdbcogbbghjaaaQf51
namespace Go.Proofs.Ytgdbcogbbghjaaa.Q
open Go.RowKit Go.Proofs.YtgdbcogbbghjaaaW.PrintWords Go.Proofs.YtgdbcogbbghjaaaW.PrintLast Go.Proofs.YtgdbcogbbghjaaaW.PrintMore
attribute [local go_sem] max2_int min2_int max_two min_two max_three min_three max_four min_four   -- for this text's walks alone
set_option linter.unusedVariables false
set_option linter.unusedSimpArgs false
mutual
def arboristref15_rule.j0:Nat→Bool→List ByteArray→List ByteArray→List Int→List (S67)→List (S78)→Int→List Int→List ByteArray→ByteArray→Int→Option (Int)
 | 0,_,_,_,_,_,_,_,_,_,_,_=>none
 | k + 1,x45,x361000,x361001,x361002,x361003,x361004,x363000,x363001,x363002,x363003,x363004=>if x45=true then(some 22)else(arboristref15_rule.l0 k 0 x361000 x361001 x361002 x361003 x361004 x363000 x363001 x363002 x363003 x363004)
def arboristref15_rule.l0:Nat→Int→List ByteArray→List ByteArray→List Int→List (S67)→List (S78)→Int→List Int→List ByteArray→ByteArray→Int→Option (Int)
 | 0,_,_,_,_,_,_,_,_,_,_,_=>none
 | k + 1,x6,x361000,x361001,x361002,x361003,x361004,x363000,x363001,x363002,x363003,x363004=>if x6 < (x363001.length:Int)then(if 0≤x6 then((arboristref15_Is.f x361000 x361001 x361002 x361003 x361004 (rd x363001 x6)).bind fun t365=>(if t365=true then(if (rd x363001 x6)=0 then(some 21)else(if (rd x363001 x6)=1 then(some 21)else(if (rd x363001 x6)=(-1)then(some 21)else(arboristref15_rule.l0 k (wrap64 (x6 + 1)) x361000 x361001 x361002 x361003 x361004 x363000 x363001 x363002 x363003 x363004))))else(some 21)))else(none))else(if (x363002.length:Int)=0 then(arboristref15_rule.j2 k false x361000 x361001 x361002 x361003 x361004 x363000 x363001 x363002 x363003 x363004)else(arboristref15_rule.j2 k ((x363002.length:Int) != (x363001.length:Int)) x361000 x361001 x361002 x361003 x361004 x363000 x363001 x363002 x363003 x363004))
def arboristref15_rule.j2:Nat→Bool→List ByteArray→List ByteArray→List Int→List (S67)→List (S78)→Int→List Int→List ByteArray→ByteArray→Int→Option (Int)
 | 0,_,_,_,_,_,_,_,_,_,_,_=>none
 | k + 1,x86,x361000,x361001,x361002,x361003,x361004,x363000,x363001,x363002,x363003,x363004=>if x86=true then(some 25)else(if x363004 < 0 then(some 24)else(if x363004 > (x361004.length:Int)then(some 24)else(some 0)))
end
def arboristref15_rule.f (k:Nat)(l0_0:List ByteArray)(l0_1:List ByteArray)(l0_2:List Int)(l0_3:List (S67))(l0_4:List (S78))(a1:Int):Option (Int):=if 0≤a1 then(if a1 < (l0_3.length:Int)then(if ((rd_T67 l0_3 a1).f0) < 0 then(arboristref15_rule.j0 k true l0_0 l0_1 l0_2 l0_3 l0_4 ((rd_T67 l0_3 a1).f0) ((rd_T67 l0_3 a1).f1) ((rd_T67 l0_3 a1).f2) ((rd_T67 l0_3 a1).f3) ((rd_T67 l0_3 a1).f4))else(if ((rd_T67 l0_3 a1).f0) ≥ (l0_1.length:Int)then(arboristref15_rule.j0 k true l0_0 l0_1 l0_2 l0_3 l0_4 ((rd_T67 l0_3 a1).f0) ((rd_T67 l0_3 a1).f1) ((rd_T67 l0_3 a1).f2) ((rd_T67 l0_3 a1).f3) ((rd_T67 l0_3 a1).f4))else(if a1 > 0 then(if 0≤(wrap64 (a1 - 1))then(if (wrap64 (a1 - 1)) < (l0_3.length:Int)then(if ((rd_T67 l0_3 a1).f0) < ((rd_T67 l0_3 (wrap64 (a1 - 1))).f0)then(arboristref15_rule.j0 k true l0_0 l0_1 l0_2 l0_3 l0_4 ((rd_T67 l0_3 a1).f0) ((rd_T67 l0_3 a1).f1) ((rd_T67 l0_3 a1).f2) ((rd_T67 l0_3 a1).f3) ((rd_T67 l0_3 a1).f4))else(arboristref15_rule.j0 k (decide ((((rd_T67 l0_3 a1).f1).length:Int) > 32)) l0_0 l0_1 l0_2 l0_3 l0_4 ((rd_T67 l0_3 a1).f0) ((rd_T67 l0_3 a1).f1) ((rd_T67 l0_3 a1).f2) ((rd_T67 l0_3 a1).f3) ((rd_T67 l0_3 a1).f4)))else(none))else(none))else(arboristref15_rule.j0 k (decide ((((rd_T67 l0_3 a1).f1).length:Int) > 32)) l0_0 l0_1 l0_2 l0_3 l0_4 ((rd_T67 l0_3 a1).f0) ((rd_T67 l0_3 a1).f1) ((rd_T67 l0_3 a1).f2) ((rd_T67 l0_3 a1).f3) ((rd_T67 l0_3 a1).f4)))))else(none))else(none)
set_option maxHeartbeats 8000000 in
set_option maxRecDepth 100000 in
theorem arboristref15_rule.calls (k:Nat)(A0_0:Option Addr)(c0_0:Nat)(l0_0:List ByteArray)(A0_1:Option Addr)(c0_1:Nat)(l0_1:List ByteArray)(A0_2:Option Addr)(c0_2:Nat)(l0_2:List Int)(A0_3:Option Addr)(c0_3:Nat)(l0_3:List (S67))(A0_4:Option Addr)(c0_4:Nat)(l0_4:List (S78))(a1:Int)(r:Int)(w:World)(hr0_0:Kd.C Kd.string w A0_0 l0_0.length l0_0)(hc0_0:l0_0.length≤c0_0)(hr0_1:Kd.C Kd.string w A0_1 l0_1.length l0_1)(hc0_1:l0_1.length≤c0_1)(hr0_2:Kd.C (Kd.int .i64) w A0_2 l0_2.length l0_2)(hc0_2:l0_2.length≤c0_2)(hr0_3:Kd.C k67 w A0_3 l0_3.length l0_3)(hc0_3:l0_3.length≤c0_3)(hr0_4:Kd.C k78 w A0_4 l0_4.length l0_4)(hc0_4:l0_4.length≤c0_4)(h:arboristref15_rule.f k l0_0 l0_1 l0_2 l0_3 l0_4 a1=some r) :
  Calls Try.prog 49 #[.agg #[.slice A0_0 l0_0.length c0_0,.slice A0_1 l0_1.length c0_1,.slice A0_2 l0_2.length c0_2,.slice A0_3 l0_3.length c0_3,.slice A0_4 l0_4.length c0_4],.int .i64 a1] w fun e w'=>e=.returned (.int .i64 r)∧Below w.heap.size w w':=by
 have hu27:=Try.underlying27
 have hu67:=Try.underlying67
 have HR0_0:=Az.mk hr0_0
 have HC0_0:=Az.mk hc0_0
 clear hr0_0 hc0_0
 have HR0_1:=Az.mk hr0_1
 have HC0_1:=Az.mk hc0_1
 clear hr0_1 hc0_1
 have HR0_2:=Az.mk hr0_2
 have HC0_2:=Az.mk hc0_2
 clear hr0_2 hc0_2
 have HR0_3:=Az.mk hr0_3
 have HC0_3:=Az.mk hc0_3
 clear hr0_3 hc0_3
 have HR0_4:=Az.mk hr0_4
 have HC0_4:=Az.mk hc0_4
 clear hr0_4 hc0_4
 have HB:=Az.mk (Below.refl w.heap.size w)
 have H:(if 0≤a1 then(if a1 < (l0_3.length:Int)then(if ((rd_T67 l0_3 a1).f0) < 0 then(arboristref15_rule.j0 k true l0_0 l0_1 l0_2 l0_3 l0_4 ((rd_T67 l0_3 a1).f0) ((rd_T67 l0_3 a1).f1) ((rd_T67 l0_3 a1).f2) ((rd_T67 l0_3 a1).f3) ((rd_T67 l0_3 a1).f4))else(if ((rd_T67 l0_3 a1).f0) ≥ (l0_1.length:Int)then(arboristref15_rule.j0 k true l0_0 l0_1 l0_2 l0_3 l0_4 ((rd_T67 l0_3 a1).f0) ((rd_T67 l0_3 a1).f1) ((rd_T67 l0_3 a1).f2) ((rd_T67 l0_3 a1).f3) ((rd_T67 l0_3 a1).f4))else(if a1 > 0 then(if 0≤(wrap64 (a1 - 1))then(if (wrap64 (a1 - 1)) < (l0_3.length:Int)then(if ((rd_T67 l0_3 a1).f0) < ((rd_T67 l0_3 (wrap64 (a1 - 1))).f0)then(arboristref15_rule.j0 k true l0_0 l0_1 l0_2 l0_3 l0_4 ((rd_T67 l0_3 a1).f0) ((rd_T67 l0_3 a1).f1) ((rd_T67 l0_3 a1).f2) ((rd_T67 l0_3 a1).f3) ((rd_T67 l0_3 a1).f4))else(arboristref15_rule.j0 k (decide ((((rd_T67 l0_3 a1).f1).length:Int) > 32)) l0_0 l0_1 l0_2 l0_3 l0_4 ((rd_T67 l0_3 a1).f0) ((rd_T67 l0_3 a1).f1) ((rd_T67 l0_3 a1).f2) ((rd_T67 l0_3 a1).f3) ((rd_T67 l0_3 a1).f4)))else(none))else(none))else(arboristref15_rule.j0 k (decide ((((rd_T67 l0_3 a1).f1).length:Int) > 32)) l0_0 l0_1 l0_2 l0_3 l0_4 ((rd_T67 l0_3 a1).f0) ((rd_T67 l0_3 a1).f1) ((rd_T67 l0_3 a1).f2) ((rd_T67 l0_3 a1).f3) ((rd_T67 l0_3 a1).f4)))))else(none))else(none))=some r:=h
 clear h
 by_cases c3:0≤a1
 rotate_left
 ·rw [if_neg c3] at H
  exact absurd H (by simp)
 rw [if_pos c3] at H
 have c3b0:=decide_eq_true c3
 clear c3
 by_cases c4:a1 < (l0_3.length:Int)
 rotate_left
 ·rw [if_neg c4] at H
  exact absurd H (by simp)
 rw [if_pos c4] at H
 have c4b0:=decide_eq_true c4
 clear c4
 have HC5:=Az.mk H
 clear H
 go_enter Try.func49,Try.ntmps49
 go_upto_region 2 with(first|((with_reducible refine gate_dst (N:=2) rfl ?_);(try (refine gate_guard (by rfl) ?_;dsimp only));refine box_event ?hg (N:=2) ?hd (cs:=#[.slice A0_0 l0_0.length c0_0,.slice A0_1 l0_1.length c0_1,.slice A0_2 l0_2.length c0_2,.slice A0_3 l0_3.length c0_3,.slice A0_4 l0_4.length c0_4]) (t:=27) ?hr ?_;(case hd=>rfl);(case hg=>rfl);(case hr=>first|(go_simp;done)|(go_simp;rfl));intro gb360 hg w6 hbox hb;have n0_:=Az.mk (bT_ HB.out hb);have n1_:=Az.mk (hbox);have n2_:=Az.mk ((szl_ HB.out hg));have n3_:=Az.mk ((szl_ HB.out hg));clear HB;have HB:=n0_;have BK360:=n1_;have GW360:=n2_;have GE360:=n3_;clear n0_ n1_ n2_ n3_;clear hb hbox hg;obtain⟨hcz7_0,hcz7_1,hcz7_2,hcz7_3,hcz7_4,hfz7_0,hfz7_1,hfz7_2,hfz7_3,hfz7_4⟩:=cf5_ BK360.out;have p361:0≤(a1:Int):=of_decide_eq_true (by assumption);have q361:a1 < (l0_3.length:Int):=of_decide_eq_true (by assumption);obtain⟨ad361,A361_1,c361_1,A361_2,c361_2,e361,hx361_0,hx361_1,hx361_2,hx361_3,hx361_4,hl361_1,hi361_1,hl361_2,hi361_2⟩:=at_T67 HR0_3.out a1 p361 q361;cases e361;replace hx361_0:=bc_ HB.out hx361_0;replace hx361_1:=bc_ HB.out hx361_1;replace hx361_2:=bc_ HB.out hx361_2;replace hx361_3:=bc_ HB.out hx361_3;replace hx361_4:=bc_ HB.out hx361_4;have HR361_1:=Az.mk hi361_1;have HC361_1:=Az.mk hl361_1;clear hi361_1 hl361_1;have HR361_2:=Az.mk hi361_2;have HC361_2:=Az.mk hl361_2;clear hi361_2 hl361_2;replace p361:=eq_true p361;replace q361:=eq_true q361)|((with_reducible refine gate_dst (N:=5) rfl ?_);(try (refine gate_guard (by rfl) ?_;dsimp only));refine box_event ?hg (N:=5) ?hd (cs:=#[.int .i64 0,.slice none 0 0,.slice none 0 0,.string (⟨#[]⟩:ByteArray),.int .i64 0]) (t:=67) ?hr ?_;(case hd=>rfl);(case hg=>rfl);(case hr=>first|(go_simp;done)|(go_simp;rfl));intro gb362 hg w8 hbox hb;have n0_:=Az.mk (kB_ BK360.out hb);have n1_:=Az.mk (bT_ HB.out hb);have n2_:=Az.mk (hbox);have n3_:=Az.mk ((szl_ HB.out hg));have n4_:=Az.mk ((szl_ HB.out hg));have n5_:=Az.mk ((nel_ BK360.out hg));have n6_:=Az.mk ((ner_ BK360.out hg));clear BK360;clear HB;have BK360:=n0_;have HB:=n1_;have BK362:=n2_;have GW362:=n3_;have GE362:=n4_;have NB360_362:=n5_;have NB362_360:=n6_;clear n0_ n1_ n2_ n3_ n4_ n5_ n6_;clear hb hbox hg;have hnb9:=NB362_360.out;have hnc9:=NB360_362.out;obtain⟨hcz10_0,hcz10_1,hcz10_2,hcz10_3,hcz10_4,hfz10_0,hfz10_1,hfz10_2,hfz10_3,hfz10_4⟩:=cf5_ BK362.out))
 repeat (go_quiet (first|((with_reducible refine gate_dst (N:=2) rfl ?_);(try (refine gate_guard (by rfl) ?_;dsimp only));refine box_event ?hg (N:=2) ?hd (cs:=#[.slice A0_0 l0_0.length c0_0,.slice A0_1 l0_1.length c0_1,.slice A0_2 l0_2.length c0_2,.slice A0_3 l0_3.length c0_3,.slice A0_4 l0_4.length c0_4]) (t:=27) ?hr ?_;(case hd=>rfl);(case hg=>rfl);(case hr=>first|(go_simp;done)|(go_simp;rfl));intro gb360 hg w6 hbox hb;have n0_:=Az.mk (bT_ HB.out hb);have n1_:=Az.mk (hbox);have n2_:=Az.mk ((szl_ HB.out hg));have n3_:=Az.mk ((szl_ HB.out hg));clear HB;have HB:=n0_;have BK360:=n1_;have GW360:=n2_;have GE360:=n3_;clear n0_ n1_ n2_ n3_;clear hb hbox hg;obtain⟨hcz7_0,hcz7_1,hcz7_2,hcz7_3,hcz7_4,hfz7_0,hfz7_1,hfz7_2,hfz7_3,hfz7_4⟩:=cf5_ BK360.out;have p361:0≤(a1:Int):=of_decide_eq_true (by assumption);have q361:a1 < (l0_3.length:Int):=of_decide_eq_true (by assumption);obtain⟨ad361,A361_1,c361_1,A361_2,c361_2,e361,hx361_0,hx361_1,hx361_2,hx361_3,hx361_4,hl361_1,hi361_1,hl361_2,hi361_2⟩:=at_T67 HR0_3.out a1 p361 q361;cases e361;replace hx361_0:=bc_ HB.out hx361_0;replace hx361_1:=bc_ HB.out hx361_1;replace hx361_2:=bc_ HB.out hx361_2;replace hx361_3:=bc_ HB.out hx361_3;replace hx361_4:=bc_ HB.out hx361_4;have HR361_1:=Az.mk hi361_1;have HC361_1:=Az.mk hl361_1;clear hi361_1 hl361_1;have HR361_2:=Az.mk hi361_2;have HC361_2:=Az.mk hl361_2;clear hi361_2 hl361_2;replace p361:=eq_true p361;replace q361:=eq_true q361)|((with_reducible refine gate_dst (N:=5) rfl ?_);(try (refine gate_guard (by rfl) ?_;dsimp only));refine box_event ?hg (N:=5) ?hd (cs:=#[.int .i64 0,.slice none 0 0,.slice none 0 0,.string (⟨#[]⟩:ByteArray),.int .i64 0]) (t:=67) ?hr ?_;(case hd=>rfl);(case hg=>rfl);(case hr=>first|(go_simp;done)|(go_simp;rfl));intro gb362 hg w8 hbox hb;have n0_:=Az.mk (kB_ BK360.out hb);have n1_:=Az.mk (bT_ HB.out hb);have n2_:=Az.mk (hbox);have n3_:=Az.mk ((szl_ HB.out hg));have n4_:=Az.mk ((szl_ HB.out hg));have n5_:=Az.mk ((nel_ BK360.out hg));have n6_:=Az.mk ((ner_ BK360.out hg));clear BK360;clear HB;have BK360:=n0_;have HB:=n1_;have BK362:=n2_;have GW362:=n3_;have GE362:=n4_;have NB360_362:=n5_;have NB362_360:=n6_;clear n0_ n1_ n2_ n3_ n4_ n5_ n6_;clear hb hbox hg;have hnb9:=NB362_360.out;have hnc9:=NB360_362.out;obtain⟨hcz10_0,hcz10_1,hcz10_2,hcz10_3,hcz10_4,hfz10_0,hfz10_1,hfz10_2,hfz10_3,hfz10_4⟩:=cf5_ BK362.out));go_upto_region 2 with(first|((with_reducible refine gate_dst (N:=2) rfl ?_);(try (refine gate_guard (by rfl) ?_;dsimp only));refine box_event ?hg (N:=2) ?hd (cs:=#[.slice A0_0 l0_0.length c0_0,.slice A0_1 l0_1.length c0_1,.slice A0_2 l0_2.length c0_2,.slice A0_3 l0_3.length c0_3,.slice A0_4 l0_4.length c0_4]) (t:=27) ?hr ?_;(case hd=>rfl);(case hg=>rfl);(case hr=>first|(go_simp;done)|(go_simp;rfl));intro gb360 hg w6 hbox hb;have n0_:=Az.mk (bT_ HB.out hb);have n1_:=Az.mk (hbox);have n2_:=Az.mk ((szl_ HB.out hg));have n3_:=Az.mk ((szl_ HB.out hg));clear HB;have HB:=n0_;have BK360:=n1_;have GW360:=n2_;have GE360:=n3_;clear n0_ n1_ n2_ n3_;clear hb hbox hg;obtain⟨hcz7_0,hcz7_1,hcz7_2,hcz7_3,hcz7_4,hfz7_0,hfz7_1,hfz7_2,hfz7_3,hfz7_4⟩:=cf5_ BK360.out;have p361:0≤(a1:Int):=of_decide_eq_true (by assumption);have q361:a1 < (l0_3.length:Int):=of_decide_eq_true (by assumption);obtain⟨ad361,A361_1,c361_1,A361_2,c361_2,e361,hx361_0,hx361_1,hx361_2,hx361_3,hx361_4,hl361_1,hi361_1,hl361_2,hi361_2⟩:=at_T67 HR0_3.out a1 p361 q361;cases e361;replace hx361_0:=bc_ HB.out hx361_0;replace hx361_1:=bc_ HB.out hx361_1;replace hx361_2:=bc_ HB.out hx361_2;replace hx361_3:=bc_ HB.out hx361_3;replace hx361_4:=bc_ HB.out hx361_4;have HR361_1:=Az.mk hi361_1;have HC361_1:=Az.mk hl361_1;clear hi361_1 hl361_1;have HR361_2:=Az.mk hi361_2;have HC361_2:=Az.mk hl361_2;clear hi361_2 hl361_2;replace p361:=eq_true p361;replace q361:=eq_true q361)|((with_reducible refine gate_dst (N:=5) rfl ?_);(try (refine gate_guard (by rfl) ?_;dsimp only));refine box_event ?hg (N:=5) ?hd (cs:=#[.int .i64 0,.slice none 0 0,.slice none 0 0,.string (⟨#[]⟩:ByteArray),.int .i64 0]) (t:=67) ?hr ?_;(case hd=>rfl);(case hg=>rfl);(case hr=>first|(go_simp;done)|(go_simp;rfl));intro gb362 hg w8 hbox hb;have n0_:=Az.mk (kB_ BK360.out hb);have n1_:=Az.mk (bT_ HB.out hb);have n2_:=Az.mk (hbox);have n3_:=Az.mk ((szl_ HB.out hg));have n4_:=Az.mk ((szl_ HB.out hg));have n5_:=Az.mk ((nel_ BK360.out hg));have n6_:=Az.mk ((ner_ BK360.out hg));clear BK360;clear HB;have BK360:=n0_;have HB:=n1_;have BK362:=n2_;have GW362:=n3_;have GE362:=n4_;have NB360_362:=n5_;have NB362_360:=n6_;clear n0_ n1_ n2_ n3_ n4_ n5_ n6_;clear hb hbox hg;have hnb9:=NB362_360.out;have hnc9:=NB360_362.out;obtain⟨hcz10_0,hcz10_1,hcz10_2,hcz10_3,hcz10_4,hfz10_0,hfz10_1,hfz10_2,hfz10_3,hfz10_4⟩:=cf5_ BK362.out)))
 (try simp only [Act.put,sT_,s0_,sC_])
 go_cut [45] (fun v45 wc=>∃ (kq:Nat) (x45_4:Bool),v45=.bool x45_4∧Az (arboristref15_rule.j0 kq x45_4 l0_0 l0_1 l0_2 l0_3 l0_4 ((rd_T67 l0_3 a1).f0) ((rd_T67 l0_3 a1).f1) ((rd_T67 l0_3 a1).f2) ((rd_T67 l0_3 a1).f3) ((rd_T67 l0_3 a1).f4)=some r)∧Az (kq≤k)∧Az (wc.heap[gb360]?=some (.cells #[(.slice A0_0 l0_0.length c0_0),(.slice A0_1 l0_1.length c0_1),(.slice A0_2 l0_2.length c0_2),(.slice (some ad361) l0_3.length c0_3),(.slice A0_4 l0_4.length c0_4)] 27 (0,0)))∧Az (wc.heap[gb362]?=some (.cells #[.int .i64 ((rd_T67 l0_3 a1).f0),(.slice A361_1 ((rd_T67 l0_3 a1).f1).length c361_1),(.slice A361_2 ((rd_T67 l0_3 a1).f2).length c361_2),.string ((rd_T67 l0_3 a1).f3),.int .i64 ((rd_T67 l0_3 a1).f4)] 67 (0,0)))∧Az (Below w.heap.size w wc))
 case first =>
  have H:=HC5.out
  clear HC5
  by_cases c11:((rd_T67 l0_3 a1).f0) < 0
  ·rw [if_pos c11] at H
   have c11b0:=decide_eq_true c11
   clear c11
   (first|rw [c11b0]|(simp only [i64_w,i32_w];rw [c11b0])|skip)
   have H':=Az.mk H
   clear H
   have hnb12:=NB362_360.out
   have hnc12:=NB360_362.out
   obtain⟨hcz13_0,hcz13_1,hcz13_2,hcz13_3,hcz13_4,hfz13_0,hfz13_1,hfz13_2,hfz13_3,hfz13_4⟩:=cf5_ BK362.out
   go_wp2
   repeat (go_quiet (fail);try go_wp2)
   go_meet
   case rel=>exact⟨_,(true),(by first|rfl|(simp;done)|(simp [*];done)|(refine congrArg Value.bool ?_;exact isE_ _)),H',⟨by first|omega|exact Nat.le_refl _⟩,⟨by(with_reducible repeat (first|refine kN_ ?_ _|refine kD_ ?_|refine kA_ ?_ _));refine kF_ ?_ NB360_362.out _;(with_reducible repeat (first|refine kN_ ?_ _|refine kD_ ?_|refine kA_ ?_ _));refine kF_ ?_ NB360_362.out _;(with_reducible repeat (first|refine kN_ ?_ _|refine kD_ ?_|refine kA_ ?_ _));refine kF_ ?_ NB360_362.out _;(with_reducible repeat (first|refine kN_ ?_ _|refine kD_ ?_|refine kA_ ?_ _));refine kF_ ?_ NB360_362.out _;(with_reducible repeat (first|refine kN_ ?_ _|refine kD_ ?_|refine kA_ ?_ _));refine kF_ ?_ NB360_362.out _;(with_reducible repeat (first|refine kN_ ?_ _|refine kD_ ?_|refine kA_ ?_ _));exact BK360.out⟩,⟨by(with_reducible repeat (first|refine kN_ ?_ _|refine kD_ ?_|refine kA_ ?_ _));refine kP_ (cs:=#[.int .i64 ((rd_T67 l0_3 a1).f0),.slice A361_1 ((rd_T67 l0_3 a1).f1).length c361_1,.slice A361_2 ((rd_T67 l0_3 a1).f2).length c361_2,.string ((rd_T67 l0_3 a1).f3),.int .i64 0]) ?_ 4 _ rfl;(with_reducible repeat (first|refine kN_ ?_ _|refine kD_ ?_|refine kA_ ?_ _));refine kP_ (cs:=#[.int .i64 ((rd_T67 l0_3 a1).f0),.slice A361_1 ((rd_T67 l0_3 a1).f1).length c361_1,.slice A361_2 ((rd_T67 l0_3 a1).f2).length c361_2,.string (⟨#[]⟩:ByteArray),.int .i64 0]) ?_ 3 _ rfl;(with_reducible repeat (first|refine kN_ ?_ _|refine kD_ ?_|refine kA_ ?_ _));refine kP_ (cs:=#[.int .i64 ((rd_T67 l0_3 a1).f0),.slice A361_1 ((rd_T67 l0_3 a1).f1).length c361_1,.slice none 0 0,.string (⟨#[]⟩:ByteArray),.int .i64 0]) ?_ 2 _ rfl;(with_reducible repeat (first|refine kN_ ?_ _|refine kD_ ?_|refine kA_ ?_ _));refine kP_ (cs:=#[.int .i64 ((rd_T67 l0_3 a1).f0),.slice none 0 0,.slice none 0 0,.string (⟨#[]⟩:ByteArray),.int .i64 0]) ?_ 1 _ rfl;(with_reducible repeat (first|refine kN_ ?_ _|refine kD_ ?_|refine kA_ ?_ _));refine kP_ (cs:=#[.int .i64 0,.slice none 0 0,.slice none 0 0,.string (⟨#[]⟩:ByteArray),.int .i64 0]) ?_ 0 _ rfl;(with_reducible repeat (first|refine kN_ ?_ _|refine kD_ ?_|refine kA_ ?_ _));exact BK362.out⟩,⟨by repeat (first|(with_reducible first|exact HB.out|apply bA_|apply bN_|apply bD_|refine bS_ ?_ GE360.out|refine bS_ ?_ GE362.out)|exact HB.out)⟩⟩
  rw [if_neg c11] at H
  have c11b0:=decide_eq_false c11
  clear c11
  (first|rw [c11b0]|(simp only [i64_w,i32_w];rw [c11b0])|skip)
  by_cases c14:((rd_T67 l0_3 a1).f0) ≥ (l0_1.length:Int)
  ·rw [if_pos c14] at H
   have c14b0:=decide_eq_true c14
   clear c14
   have H':=Az.mk H
   clear H
   have hnb15:=NB362_360.out
   have hnc15:=NB360_362.out
   obtain⟨hcz16_0,hcz16_1,hcz16_2,hcz16_3,hcz16_4,hfz16_0,hfz16_1,hfz16_2,hfz16_3,hfz16_4⟩:=cf5_ BK362.out
   obtain⟨hcz17_0,hcz17_1,hcz17_2,hcz17_3,hcz17_4,hfz17_0,hfz17_1,hfz17_2,hfz17_3,hfz17_4⟩:=cf5_ BK360.out
   go_wp2
   repeat (go_quiet (fail);try go_wp2)
   go_meet
   case rel=>exact⟨_,(true),(by first|rfl|(simp;done)|(simp [*];done)|(refine congrArg Value.bool ?_;exact isE_ _)),H',⟨by first|omega|exact Nat.le_refl _⟩,⟨by(with_reducible repeat (first|refine kN_ ?_ _|refine kD_ ?_|refine kA_ ?_ _));refine kF_ ?_ NB360_362.out _;(with_reducible repeat (first|refine kN_ ?_ _|refine kD_ ?_|refine kA_ ?_ _));refine kF_ ?_ NB360_362.out _;(with_reducible repeat (first|refine kN_ ?_ _|refine kD_ ?_|refine kA_ ?_ _));refine kF_ ?_ NB360_362.out _;(with_reducible repeat (first|refine kN_ ?_ _|refine kD_ ?_|refine kA_ ?_ _));refine kF_ ?_ NB360_362.out _;(with_reducible repeat (first|refine kN_ ?_ _|refine kD_ ?_|refine kA_ ?_ _));refine kF_ ?_ NB360_362.out _;(with_reducible repeat (first|refine kN_ ?_ _|refine kD_ ?_|refine kA_ ?_ _));exact BK360.out⟩,⟨by(with_reducible repeat (first|refine kN_ ?_ _|refine kD_ ?_|refine kA_ ?_ _));refine kP_ (cs:=#[.int .i64 ((rd_T67 l0_3 a1).f0),.slice A361_1 ((rd_T67 l0_3 a1).f1).length c361_1,.slice A361_2 ((rd_T67 l0_3 a1).f2).length c361_2,.string ((rd_T67 l0_3 a1).f3),.int .i64 0]) ?_ 4 _ rfl;(with_reducible repeat (first|refine kN_ ?_ _|refine kD_ ?_|refine kA_ ?_ _));refine kP_ (cs:=#[.int .i64 ((rd_T67 l0_3 a1).f0),.slice A361_1 ((rd_T67 l0_3 a1).f1).length c361_1,.slice A361_2 ((rd_T67 l0_3 a1).f2).length c361_2,.string (⟨#[]⟩:ByteArray),.int .i64 0]) ?_ 3 _ rfl;(with_reducible repeat (first|refine kN_ ?_ _|refine kD_ ?_|refine kA_ ?_ _));refine kP_ (cs:=#[.int .i64 ((rd_T67 l0_3 a1).f0),.slice A361_1 ((rd_T67 l0_3 a1).f1).length c361_1,.slice none 0 0,.string (⟨#[]⟩:ByteArray),.int .i64 0]) ?_ 2 _ rfl;(with_reducible repeat (first|refine kN_ ?_ _|refine kD_ ?_|refine kA_ ?_ _));refine kP_ (cs:=#[.int .i64 ((rd_T67 l0_3 a1).f0),.slice none 0 0,.slice none 0 0,.string (⟨#[]⟩:ByteArray),.int .i64 0]) ?_ 1 _ rfl;(with_reducible repeat (first|refine kN_ ?_ _|refine kD_ ?_|refine kA_ ?_ _));refine kP_ (cs:=#[.int .i64 0,.slice none 0 0,.slice none 0 0,.string (⟨#[]⟩:ByteArray),.int .i64 0]) ?_ 0 _ rfl;(with_reducible repeat (first|refine kN_ ?_ _|refine kD_ ?_|refine kA_ ?_ _));exact BK362.out⟩,⟨by repeat (first|(with_reducible first|exact HB.out|apply bA_|apply bN_|apply bD_|refine bS_ ?_ GE360.out|refine bS_ ?_ GE362.out)|exact HB.out)⟩⟩
  rw [if_neg c14] at H
  have c14b0:=decide_eq_false c14
  clear c14
  by_cases c18:a1 > 0
  rotate_left
  ·rw [if_neg c18] at H
   have c18b0:=decide_eq_false c18
   clear c18
   have H':=Az.mk H
   clear H
   have hnb29:=NB362_360.out
   have hnc29:=NB360_362.out
   obtain⟨hcz30_0,hcz30_1,hcz30_2,hcz30_3,hcz30_4,hfz30_0,hfz30_1,hfz30_2,hfz30_3,hfz30_4⟩:=cf5_ BK362.out
   obtain⟨hcz31_0,hcz31_1,hcz31_2,hcz31_3,hcz31_4,hfz31_0,hfz31_1,hfz31_2,hfz31_3,hfz31_4⟩:=cf5_ BK360.out
   go_wp2
   repeat (go_quiet (fail);try go_wp2)
   go_meet
   case rel=>exact⟨_,(decide ((((rd_T67 l0_3 a1).f1).length:Int) > 32)),(by first|rfl|(simp;done)|(simp [*];done)|(refine congrArg Value.bool ?_;exact isE_ _)),H',⟨by first|omega|exact Nat.le_refl _⟩,⟨by(with_reducible repeat (first|refine kN_ ?_ _|refine kD_ ?_|refine kA_ ?_ _));refine kF_ ?_ NB360_362.out _;(with_reducible repeat (first|refine kN_ ?_ _|refine kD_ ?_|refine kA_ ?_ _));refine kF_ ?_ NB360_362.out _;(with_reducible repeat (first|refine kN_ ?_ _|refine kD_ ?_|refine kA_ ?_ _));refine kF_ ?_ NB360_362.out _;(with_reducible repeat (first|refine kN_ ?_ _|refine kD_ ?_|refine kA_ ?_ _));refine kF_ ?_ NB360_362.out _;(with_reducible repeat (first|refine kN_ ?_ _|refine kD_ ?_|refine kA_ ?_ _));refine kF_ ?_ NB360_362.out _;(with_reducible repeat (first|refine kN_ ?_ _|refine kD_ ?_|refine kA_ ?_ _));exact BK360.out⟩,⟨by(with_reducible repeat (first|refine kN_ ?_ _|refine kD_ ?_|refine kA_ ?_ _));refine kP_ (cs:=#[.int .i64 ((rd_T67 l0_3 a1).f0),.slice A361_1 ((rd_T67 l0_3 a1).f1).length c361_1,.slice A361_2 ((rd_T67 l0_3 a1).f2).length c361_2,.string ((rd_T67 l0_3 a1).f3),.int .i64 0]) ?_ 4 _ rfl;(with_reducible repeat (first|refine kN_ ?_ _|refine kD_ ?_|refine kA_ ?_ _));refine kP_ (cs:=#[.int .i64 ((rd_T67 l0_3 a1).f0),.slice A361_1 ((rd_T67 l0_3 a1).f1).length c361_1,.slice A361_2 ((rd_T67 l0_3 a1).f2).length c361_2,.string (⟨#[]⟩:ByteArray),.int .i64 0]) ?_ 3 _ rfl;(with_reducible repeat (first|refine kN_ ?_ _|refine kD_ ?_|refine kA_ ?_ _));refine kP_ (cs:=#[.int .i64 ((rd_T67 l0_3 a1).f0),.slice A361_1 ((rd_T67 l0_3 a1).f1).length c361_1,.slice none 0 0,.string (⟨#[]⟩:ByteArray),.int .i64 0]) ?_ 2 _ rfl;(with_reducible repeat (first|refine kN_ ?_ _|refine kD_ ?_|refine kA_ ?_ _));refine kP_ (cs:=#[.int .i64 ((rd_T67 l0_3 a1).f0),.slice none 0 0,.slice none 0 0,.string (⟨#[]⟩:ByteArray),.int .i64 0]) ?_ 1 _ rfl;(with_reducible repeat (first|refine kN_ ?_ _|refine kD_ ?_|refine kA_ ?_ _));refine kP_ (cs:=#[.int .i64 0,.slice none 0 0,.slice none 0 0,.string (⟨#[]⟩:ByteArray),.int .i64 0]) ?_ 0 _ rfl;(with_reducible repeat (first|refine kN_ ?_ _|refine kD_ ?_|refine kA_ ?_ _));exact BK362.out⟩,⟨by repeat (first|(with_reducible first|exact HB.out|apply bA_|apply bN_|apply bD_|refine bS_ ?_ GE360.out|refine bS_ ?_ GE362.out)|exact HB.out)⟩⟩
  rw [if_pos c18] at H
  have c18b0:=decide_eq_true c18
  clear c18
  obtain⟨ji19,hji19⟩:∃ j_:Int,(wrap64 (a1 - 1))=j_:=⟨_,rfl⟩
  replace H:(if 0≤(ji19)then(if (ji19) < (l0_3.length:Int)then(if ((rd_T67 l0_3 a1).f0) < ((rd_T67 l0_3 (ji19)).f0)then(arboristref15_rule.j0 k true l0_0 l0_1 l0_2 l0_3 l0_4 ((rd_T67 l0_3 a1).f0) ((rd_T67 l0_3 a1).f1) ((rd_T67 l0_3 a1).f2) ((rd_T67 l0_3 a1).f3) ((rd_T67 l0_3 a1).f4))else(arboristref15_rule.j0 k (decide ((((rd_T67 l0_3 a1).f1).length:Int) > 32)) l0_0 l0_1 l0_2 l0_3 l0_4 ((rd_T67 l0_3 a1).f0) ((rd_T67 l0_3 a1).f1) ((rd_T67 l0_3 a1).f2) ((rd_T67 l0_3 a1).f3) ((rd_T67 l0_3 a1).f4)))else(none))else(none))=some r:=by first|(rw [hji19] at H;exact H)|(simp only [hji19] at H ⊢;exact H)
  have hji19w:(IntKind.i64.wrap (a1 - 1))=ji19:=(i64_w _).trans hji19
  by_cases c20:0≤(ji19)
  rotate_left
  ·rw [if_neg c20] at H
   exact absurd H (by simp)
  rw [if_pos c20] at H
  have c20b0:=decide_eq_true c20
  clear c20
  by_cases c21:(ji19) < (l0_3.length:Int)
  rotate_left
  ·rw [if_neg c21] at H
   exact absurd H (by simp)
  rw [if_pos c21] at H
  have c21b0:=decide_eq_true c21
  clear c21
  by_cases c22:((rd_T67 l0_3 a1).f0) < ((rd_T67 l0_3 (ji19)).f0)
  ·rw [if_pos c22] at H
   have c22b0:=decide_eq_true c22
   clear c22
   have H':=Az.mk H
   clear H
   have hnb23:=NB362_360.out
   have hnc23:=NB360_362.out
   obtain⟨hcz24_0,hcz24_1,hcz24_2,hcz24_3,hcz24_4,hfz24_0,hfz24_1,hfz24_2,hfz24_3,hfz24_4⟩:=cf5_ BK362.out
   obtain⟨hcz25_0,hcz25_1,hcz25_2,hcz25_3,hcz25_4,hfz25_0,hfz25_1,hfz25_2,hfz25_3,hfz25_4⟩:=cf5_ BK360.out
   have p363:0≤((ji19):Int):=of_decide_eq_true (by assumption)
   have q363:(ji19) < (l0_3.length:Int):=of_decide_eq_true (by assumption)
   obtain⟨ad363,A363_1,c363_1,A363_2,c363_2,e363,hx363_0,hx363_1,hx363_2,hx363_3,hx363_4,hl363_1,hi363_1,hl363_2,hi363_2⟩:=at_T67 HR0_3.out (ji19) p363 q363
   obtain rfl:ad361=ad363:=(by injection e363)
   have hn363_0:ad361.block≠gb362:=Nat.ne_of_lt (Nat.lt_of_lt_of_le (by have:=bL_ _ _ hx363_0;first|rwa [add_block] at this|exact this) GW362.out)
   have hn363_1:ad361.block≠gb362:=Nat.ne_of_lt (Nat.lt_of_lt_of_le (by have:=bL_ _ _ hx363_0;first|rwa [add_block] at this|exact this) GW362.out)
   have hn363_2:ad361.block≠gb362:=Nat.ne_of_lt (Nat.lt_of_lt_of_le (by have:=bL_ _ _ hx363_0;first|rwa [add_block] at this|exact this) GW362.out)
   have hn363_3:ad361.block≠gb362:=Nat.ne_of_lt (Nat.lt_of_lt_of_le (by have:=bL_ _ _ hx363_0;first|rwa [add_block] at this|exact this) GW362.out)
   have hn363_4:ad361.block≠gb362:=Nat.ne_of_lt (Nat.lt_of_lt_of_le (by have:=bL_ _ _ hx363_0;first|rwa [add_block] at this|exact this) GW362.out)
   replace hx363_0:=bc_ HB.out hx363_0
   replace hx363_1:=bc_ HB.out hx363_1
   replace hx363_2:=bc_ HB.out hx363_2
   replace hx363_3:=bc_ HB.out hx363_3
   replace hx363_4:=bc_ HB.out hx363_4
   have HR363_1:=Az.mk hi363_1
   have HC363_1:=Az.mk hl363_1
   clear hi363_1 hl363_1
   have HR363_2:=Az.mk hi363_2
   have HC363_2:=Az.mk hl363_2
   clear hi363_2 hl363_2
   replace hx363_0:=(cell_far (p:=⟨gb362,0,none⟩) (by first|(rw [add_block];exact hn363_0)|(show(Addr.add _ _).block≠_;rw [add_block];exact hn363_0)|exact hn363_0) (.int .i64 ((rd_T67 l0_3 a1).f0))).trans hx363_0
   replace hx363_1:=(cell_far (p:=⟨gb362,0,none⟩) (by first|(rw [add_block];exact hn363_0)|(show(Addr.add _ _).block≠_;rw [add_block];exact hn363_0)|exact hn363_0) (.int .i64 ((rd_T67 l0_3 a1).f0))).trans hx363_1
   replace hx363_2:=(cell_far (p:=⟨gb362,0,none⟩) (by first|(rw [add_block];exact hn363_0)|(show(Addr.add _ _).block≠_;rw [add_block];exact hn363_0)|exact hn363_0) (.int .i64 ((rd_T67 l0_3 a1).f0))).trans hx363_2
   replace hx363_3:=(cell_far (p:=⟨gb362,0,none⟩) (by first|(rw [add_block];exact hn363_0)|(show(Addr.add _ _).block≠_;rw [add_block];exact hn363_0)|exact hn363_0) (.int .i64 ((rd_T67 l0_3 a1).f0))).trans hx363_3
   replace hx363_4:=(cell_far (p:=⟨gb362,0,none⟩) (by first|(rw [add_block];exact hn363_0)|(show(Addr.add _ _).block≠_;rw [add_block];exact hn363_0)|exact hn363_0) (.int .i64 ((rd_T67 l0_3 a1).f0))).trans hx363_4
   replace hx363_0:=(cell_far (p:=⟨gb362,1,none⟩) (by first|(rw [add_block];exact hn363_1)|(show(Addr.add _ _).block≠_;rw [add_block];exact hn363_1)|exact hn363_1) (.slice A361_1 ((rd_T67 l0_3 a1).f1).length c361_1)).trans hx363_0
   replace hx363_1:=(cell_far (p:=⟨gb362,1,none⟩) (by first|(rw [add_block];exact hn363_1)|(show(Addr.add _ _).block≠_;rw [add_block];exact hn363_1)|exact hn363_1) (.slice A361_1 ((rd_T67 l0_3 a1).f1).length c361_1)).trans hx363_1
   replace hx363_2:=(cell_far (p:=⟨gb362,1,none⟩) (by first|(rw [add_block];exact hn363_1)|(show(Addr.add _ _).block≠_;rw [add_block];exact hn363_1)|exact hn363_1) (.slice A361_1 ((rd_T67 l0_3 a1).f1).length c361_1)).trans hx363_2
   replace hx363_3:=(cell_far (p:=⟨gb362,1,none⟩) (by first|(rw [add_block];exact hn363_1)|(show(Addr.add _ _).block≠_;rw [add_block];exact hn363_1)|exact hn363_1) (.slice A361_1 ((rd_T67 l0_3 a1).f1).length c361_1)).trans hx363_3
   replace hx363_4:=(cell_far (p:=⟨gb362,1,none⟩) (by first|(rw [add_block];exact hn363_1)|(show(Addr.add _ _).block≠_;rw [add_block];exact hn363_1)|exact hn363_1) (.slice A361_1 ((rd_T67 l0_3 a1).f1).length c361_1)).trans hx363_4
   replace hx363_0:=(cell_far (p:=⟨gb362,2,none⟩) (by first|(rw [add_block];exact hn363_2)|(show(Addr.add _ _).block≠_;rw [add_block];exact hn363_2)|exact hn363_2) (.slice A361_2 ((rd_T67 l0_3 a1).f2).length c361_2)).trans hx363_0
   replace hx363_1:=(cell_far (p:=⟨gb362,2,none⟩) (by first|(rw [add_block];exact hn363_2)|(show(Addr.add _ _).block≠_;rw [add_block];exact hn363_2)|exact hn363_2) (.slice A361_2 ((rd_T67 l0_3 a1).f2).length c361_2)).trans hx363_1
   replace hx363_2:=(cell_far (p:=⟨gb362,2,none⟩) (by first|(rw [add_block];exact hn363_2)|(show(Addr.add _ _).block≠_;rw [add_block];exact hn363_2)|exact hn363_2) (.slice A361_2 ((rd_T67 l0_3 a1).f2).length c361_2)).trans hx363_2
   replace hx363_3:=(cell_far (p:=⟨gb362,2,none⟩) (by first|(rw [add_block];exact hn363_2)|(show(Addr.add _ _).block≠_;rw [add_block];exact hn363_2)|exact hn363_2) (.slice A361_2 ((rd_T67 l0_3 a1).f2).length c361_2)).trans hx363_3
   replace hx363_4:=(cell_far (p:=⟨gb362,2,none⟩) (by first|(rw [add_block];exact hn363_2)|(show(Addr.add _ _).block≠_;rw [add_block];exact hn363_2)|exact hn363_2) (.slice A361_2 ((rd_T67 l0_3 a1).f2).length c361_2)).trans hx363_4
   replace hx363_0:=(cell_far (p:=⟨gb362,3,none⟩) (by first|(rw [add_block];exact hn363_3)|(show(Addr.add _ _).block≠_;rw [add_block];exact hn363_3)|exact hn363_3) (.string ((rd_T67 l0_3 a1).f3))).trans hx363_0
   replace hx363_1:=(cell_far (p:=⟨gb362,3,none⟩) (by first|(rw [add_block];exact hn363_3)|(show(Addr.add _ _).block≠_;rw [add_block];exact hn363_3)|exact hn363_3) (.string ((rd_T67 l0_3 a1).f3))).trans hx363_1
   replace hx363_2:=(cell_far (p:=⟨gb362,3,none⟩) (by first|(rw [add_block];exact hn363_3)|(show(Addr.add _ _).block≠_;rw [add_block];exact hn363_3)|exact hn363_3) (.string ((rd_T67 l0_3 a1).f3))).trans hx363_2
   replace hx363_3:=(cell_far (p:=⟨gb362,3,none⟩) (by first|(rw [add_block];exact hn363_3)|(show(Addr.add _ _).block≠_;rw [add_block];exact hn363_3)|exact hn363_3) (.string ((rd_T67 l0_3 a1).f3))).trans hx363_3
   replace hx363_4:=(cell_far (p:=⟨gb362,3,none⟩) (by first|(rw [add_block];exact hn363_3)|(show(Addr.add _ _).block≠_;rw [add_block];exact hn363_3)|exact hn363_3) (.string ((rd_T67 l0_3 a1).f3))).trans hx363_4
   replace hx363_0:=(cell_far (p:=⟨gb362,4,none⟩) (by first|(rw [add_block];exact hn363_4)|(show(Addr.add _ _).block≠_;rw [add_block];exact hn363_4)|exact hn363_4) (.int .i64 ((rd_T67 l0_3 a1).f4))).trans hx363_0
   replace hx363_1:=(cell_far (p:=⟨gb362,4,none⟩) (by first|(rw [add_block];exact hn363_4)|(show(Addr.add _ _).block≠_;rw [add_block];exact hn363_4)|exact hn363_4) (.int .i64 ((rd_T67 l0_3 a1).f4))).trans hx363_1
   replace hx363_2:=(cell_far (p:=⟨gb362,4,none⟩) (by first|(rw [add_block];exact hn363_4)|(show(Addr.add _ _).block≠_;rw [add_block];exact hn363_4)|exact hn363_4) (.int .i64 ((rd_T67 l0_3 a1).f4))).trans hx363_2
   replace hx363_3:=(cell_far (p:=⟨gb362,4,none⟩) (by first|(rw [add_block];exact hn363_4)|(show(Addr.add _ _).block≠_;rw [add_block];exact hn363_4)|exact hn363_4) (.int .i64 ((rd_T67 l0_3 a1).f4))).trans hx363_3
   replace hx363_4:=(cell_far (p:=⟨gb362,4,none⟩) (by first|(rw [add_block];exact hn363_4)|(show(Addr.add _ _).block≠_;rw [add_block];exact hn363_4)|exact hn363_4) (.int .i64 ((rd_T67 l0_3 a1).f4))).trans hx363_4
   clear hn363_0
   clear hn363_1
   clear hn363_2
   clear hn363_3
   clear hn363_4
   replace p363:=eq_true p363
   replace q363:=eq_true q363
   go_wp2
   repeat (go_quiet (fail);try go_wp2)
   go_meet
   case rel=>exact⟨_,(true),(by first|rfl|(simp;done)|(simp [*];done)|(refine congrArg Value.bool ?_;exact isE_ _)),H',⟨by first|omega|exact Nat.le_refl _⟩,⟨by(with_reducible repeat (first|refine kN_ ?_ _|refine kD_ ?_|refine kA_ ?_ _));refine kF_ ?_ NB360_362.out _;(with_reducible repeat (first|refine kN_ ?_ _|refine kD_ ?_|refine kA_ ?_ _));refine kF_ ?_ NB360_362.out _;(with_reducible repeat (first|refine kN_ ?_ _|refine kD_ ?_|refine kA_ ?_ _));refine kF_ ?_ NB360_362.out _;(with_reducible repeat (first|refine kN_ ?_ _|refine kD_ ?_|refine kA_ ?_ _));refine kF_ ?_ NB360_362.out _;(with_reducible repeat (first|refine kN_ ?_ _|refine kD_ ?_|refine kA_ ?_ _));refine kF_ ?_ NB360_362.out _;(with_reducible repeat (first|refine kN_ ?_ _|refine kD_ ?_|refine kA_ ?_ _));exact BK360.out⟩,⟨by(with_reducible repeat (first|refine kN_ ?_ _|refine kD_ ?_|refine kA_ ?_ _));refine kP_ (cs:=#[.int .i64 ((rd_T67 l0_3 a1).f0),.slice A361_1 ((rd_T67 l0_3 a1).f1).length c361_1,.slice A361_2 ((rd_T67 l0_3 a1).f2).length c361_2,.string ((rd_T67 l0_3 a1).f3),.int .i64 0]) ?_ 4 _ rfl;(with_reducible repeat (first|refine kN_ ?_ _|refine kD_ ?_|refine kA_ ?_ _));refine kP_ (cs:=#[.int .i64 ((rd_T67 l0_3 a1).f0),.slice A361_1 ((rd_T67 l0_3 a1).f1).length c361_1,.slice A361_2 ((rd_T67 l0_3 a1).f2).length c361_2,.string (⟨#[]⟩:ByteArray),.int .i64 0]) ?_ 3 _ rfl;(with_reducible repeat (first|refine kN_ ?_ _|refine kD_ ?_|refine kA_ ?_ _));refine kP_ (cs:=#[.int .i64 ((rd_T67 l0_3 a1).f0),.slice A361_1 ((rd_T67 l0_3 a1).f1).length c361_1,.slice none 0 0,.string (⟨#[]⟩:ByteArray),.int .i64 0]) ?_ 2 _ rfl;(with_reducible repeat (first|refine kN_ ?_ _|refine kD_ ?_|refine kA_ ?_ _));refine kP_ (cs:=#[.int .i64 ((rd_T67 l0_3 a1).f0),.slice none 0 0,.slice none 0 0,.string (⟨#[]⟩:ByteArray),.int .i64 0]) ?_ 1 _ rfl;(with_reducible repeat (first|refine kN_ ?_ _|refine kD_ ?_|refine kA_ ?_ _));refine kP_ (cs:=#[.int .i64 0,.slice none 0 0,.slice none 0 0,.string (⟨#[]⟩:ByteArray),.int .i64 0]) ?_ 0 _ rfl;(with_reducible repeat (first|refine kN_ ?_ _|refine kD_ ?_|refine kA_ ?_ _));exact BK362.out⟩,⟨by repeat (first|(with_reducible first|exact HB.out|apply bA_|apply bN_|apply bD_|refine bS_ ?_ GE360.out|refine bS_ ?_ GE362.out)|exact HB.out)⟩⟩
  rw [if_neg c22] at H
  have c22b0:=decide_eq_false c22
  clear c22
  have H':=Az.mk H
  clear H
  have hnb26:=NB362_360.out
  have hnc26:=NB360_362.out
  obtain⟨hcz27_0,hcz27_1,hcz27_2,hcz27_3,hcz27_4,hfz27_0,hfz27_1,hfz27_2,hfz27_3,hfz27_4⟩:=cf5_ BK362.out
  obtain⟨hcz28_0,hcz28_1,hcz28_2,hcz28_3,hcz28_4,hfz28_0,hfz28_1,hfz28_2,hfz28_3,hfz28_4⟩:=cf5_ BK360.out
  have p363:0≤((ji19):Int):=of_decide_eq_true (by assumption)
  have q363:(ji19) < (l0_3.length:Int):=of_decide_eq_true (by assumption)
  obtain⟨ad363,A363_1,c363_1,A363_2,c363_2,e363,hx363_0,hx363_1,hx363_2,hx363_3,hx363_4,hl363_1,hi363_1,hl363_2,hi363_2⟩:=at_T67 HR0_3.out (ji19) p363 q363
  obtain rfl:ad361=ad363:=(by injection e363)
  have hn363_0:ad361.block≠gb362:=Nat.ne_of_lt (Nat.lt_of_lt_of_le (by have:=bL_ _ _ hx363_0;first|rwa [add_block] at this|exact this) GW362.out)
  have hn363_1:ad361.block≠gb362:=Nat.ne_of_lt (Nat.lt_of_lt_of_le (by have:=bL_ _ _ hx363_0;first|rwa [add_block] at this|exact this) GW362.out)
  have hn363_2:ad361.block≠gb362:=Nat.ne_of_lt (Nat.lt_of_lt_of_le (by have:=bL_ _ _ hx363_0;first|rwa [add_block] at this|exact this) GW362.out)
  have hn363_3:ad361.block≠gb362:=Nat.ne_of_lt (Nat.lt_of_lt_of_le (by have:=bL_ _ _ hx363_0;first|rwa [add_block] at this|exact this) GW362.out)
  have hn363_4:ad361.block≠gb362:=Nat.ne_of_lt (Nat.lt_of_lt_of_le (by have:=bL_ _ _ hx363_0;first|rwa [add_block] at this|exact this) GW362.out)
  replace hx363_0:=bc_ HB.out hx363_0
  replace hx363_1:=bc_ HB.out hx363_1
  replace hx363_2:=bc_ HB.out hx363_2
  replace hx363_3:=bc_ HB.out hx363_3
  replace hx363_4:=bc_ HB.out hx363_4
  have HR363_1:=Az.mk hi363_1
  have HC363_1:=Az.mk hl363_1
  clear hi363_1 hl363_1
  have HR363_2:=Az.mk hi363_2
  have HC363_2:=Az.mk hl363_2
  clear hi363_2 hl363_2
  replace hx363_0:=(cell_far (p:=⟨gb362,0,none⟩) (by first|(rw [add_block];exact hn363_0)|(show(Addr.add _ _).block≠_;rw [add_block];exact hn363_0)|exact hn363_0) (.int .i64 ((rd_T67 l0_3 a1).f0))).trans hx363_0
  replace hx363_1:=(cell_far (p:=⟨gb362,0,none⟩) (by first|(rw [add_block];exact hn363_0)|(show(Addr.add _ _).block≠_;rw [add_block];exact hn363_0)|exact hn363_0) (.int .i64 ((rd_T67 l0_3 a1).f0))).trans hx363_1
  replace hx363_2:=(cell_far (p:=⟨gb362,0,none⟩) (by first|(rw [add_block];exact hn363_0)|(show(Addr.add _ _).block≠_;rw [add_block];exact hn363_0)|exact hn363_0) (.int .i64 ((rd_T67 l0_3 a1).f0))).trans hx363_2
  replace hx363_3:=(cell_far (p:=⟨gb362,0,none⟩) (by first|(rw [add_block];exact hn363_0)|(show(Addr.add _ _).block≠_;rw [add_block];exact hn363_0)|exact hn363_0) (.int .i64 ((rd_T67 l0_3 a1).f0))).trans hx363_3
  replace hx363_4:=(cell_far (p:=⟨gb362,0,none⟩) (by first|(rw [add_block];exact hn363_0)|(show(Addr.add _ _).block≠_;rw [add_block];exact hn363_0)|exact hn363_0) (.int .i64 ((rd_T67 l0_3 a1).f0))).trans hx363_4
  replace hx363_0:=(cell_far (p:=⟨gb362,1,none⟩) (by first|(rw [add_block];exact hn363_1)|(show(Addr.add _ _).block≠_;rw [add_block];exact hn363_1)|exact hn363_1) (.slice A361_1 ((rd_T67 l0_3 a1).f1).length c361_1)).trans hx363_0
  replace hx363_1:=(cell_far (p:=⟨gb362,1,none⟩) (by first|(rw [add_block];exact hn363_1)|(show(Addr.add _ _).block≠_;rw [add_block];exact hn363_1)|exact hn363_1) (.slice A361_1 ((rd_T67 l0_3 a1).f1).length c361_1)).trans hx363_1
  replace hx363_2:=(cell_far (p:=⟨gb362,1,none⟩) (by first|(rw [add_block];exact hn363_1)|(show(Addr.add _ _).block≠_;rw [add_block];exact hn363_1)|exact hn363_1) (.slice A361_1 ((rd_T67 l0_3 a1).f1).length c361_1)).trans hx363_2
  replace hx363_3:=(cell_far (p:=⟨gb362,1,none⟩) (by first|(rw [add_block];exact hn363_1)|(show(Addr.add _ _).block≠_;rw [add_block];exact hn363_1)|exact hn363_1) (.slice A361_1 ((rd_T67 l0_3 a1).f1).length c361_1)).trans hx363_3
  replace hx363_4:=(cell_far (p:=⟨gb362,1,none⟩) (by first|(rw [add_block];exact hn363_1)|(show(Addr.add _ _).block≠_;rw [add_block];exact hn363_1)|exact hn363_1) (.slice A361_1 ((rd_T67 l0_3 a1).f1).length c361_1)).trans hx363_4
  replace hx363_0:=(cell_far (p:=⟨gb362,2,none⟩) (by first|(rw [add_block];exact hn363_2)|(show(Addr.add _ _).block≠_;rw [add_block];exact hn363_2)|exact hn363_2) (.slice A361_2 ((rd_T67 l0_3 a1).f2).length c361_2)).trans hx363_0
  replace hx363_1:=(cell_far (p:=⟨gb362,2,none⟩) (by first|(rw [add_block];exact hn363_2)|(show(Addr.add _ _).block≠_;rw [add_block];exact hn363_2)|exact hn363_2) (.slice A361_2 ((rd_T67 l0_3 a1).f2).length c361_2)).trans hx363_1
  replace hx363_2:=(cell_far (p:=⟨gb362,2,none⟩) (by first|(rw [add_block];exact hn363_2)|(show(Addr.add _ _).block≠_;rw [add_block];exact hn363_2)|exact hn363_2) (.slice A361_2 ((rd_T67 l0_3 a1).f2).length c361_2)).trans hx363_2
  replace hx363_3:=(cell_far (p:=⟨gb362,2,none⟩) (by first|(rw [add_block];exact hn363_2)|(show(Addr.add _ _).block≠_;rw [add_block];exact hn363_2)|exact hn363_2) (.slice A361_2 ((rd_T67 l0_3 a1).f2).length c361_2)).trans hx363_3
  replace hx363_4:=(cell_far (p:=⟨gb362,2,none⟩) (by first|(rw [add_block];exact hn363_2)|(show(Addr.add _ _).block≠_;rw [add_block];exact hn363_2)|exact hn363_2) (.slice A361_2 ((rd_T67 l0_3 a1).f2).length c361_2)).trans hx363_4
  replace hx363_0:=(cell_far (p:=⟨gb362,3,none⟩) (by first|(rw [add_block];exact hn363_3)|(show(Addr.add _ _).block≠_;rw [add_block];exact hn363_3)|exact hn363_3) (.string ((rd_T67 l0_3 a1).f3))).trans hx363_0
  replace hx363_1:=(cell_far (p:=⟨gb362,3,none⟩) (by first|(rw [add_block];exact hn363_3)|(show(Addr.add _ _).block≠_;rw [add_block];exact hn363_3)|exact hn363_3) (.string ((rd_T67 l0_3 a1).f3))).trans hx363_1
  replace hx363_2:=(cell_far (p:=⟨gb362,3,none⟩) (by first|(rw [add_block];exact hn363_3)|(show(Addr.add _ _).block≠_;rw [add_block];exact hn363_3)|exact hn363_3) (.string ((rd_T67 l0_3 a1).f3))).trans hx363_2
  replace hx363_3:=(cell_far (p:=⟨gb362,3,none⟩) (by first|(rw [add_block];exact hn363_3)|(show(Addr.add _ _).block≠_;rw [add_block];exact hn363_3)|exact hn363_3) (.string ((rd_T67 l0_3 a1).f3))).trans hx363_3
  replace hx363_4:=(cell_far (p:=⟨gb362,3,none⟩) (by first|(rw [add_block];exact hn363_3)|(show(Addr.add _ _).block≠_;rw [add_block];exact hn363_3)|exact hn363_3) (.string ((rd_T67 l0_3 a1).f3))).trans hx363_4
  replace hx363_0:=(cell_far (p:=⟨gb362,4,none⟩) (by first|(rw [add_block];exact hn363_4)|(show(Addr.add _ _).block≠_;rw [add_block];exact hn363_4)|exact hn363_4) (.int .i64 ((rd_T67 l0_3 a1).f4))).trans hx363_0
  replace hx363_1:=(cell_far (p:=⟨gb362,4,none⟩) (by first|(rw [add_block];exact hn363_4)|(show(Addr.add _ _).block≠_;rw [add_block];exact hn363_4)|exact hn363_4) (.int .i64 ((rd_T67 l0_3 a1).f4))).trans hx363_1
  replace hx363_2:=(cell_far (p:=⟨gb362,4,none⟩) (by first|(rw [add_block];exact hn363_4)|(show(Addr.add _ _).block≠_;rw [add_block];exact hn363_4)|exact hn363_4) (.int .i64 ((rd_T67 l0_3 a1).f4))).trans hx363_2
  replace hx363_3:=(cell_far (p:=⟨gb362,4,none⟩) (by first|(rw [add_block];exact hn363_4)|(show(Addr.add _ _).block≠_;rw [add_block];exact hn363_4)|exact hn363_4) (.int .i64 ((rd_T67 l0_3 a1).f4))).trans hx363_3
  replace hx363_4:=(cell_far (p:=⟨gb362,4,none⟩) (by first|(rw [add_block];exact hn363_4)|(show(Addr.add _ _).block≠_;rw [add_block];exact hn363_4)|exact hn363_4) (.int .i64 ((rd_T67 l0_3 a1).f4))).trans hx363_4
  clear hn363_0
  clear hn363_1
  clear hn363_2
  clear hn363_3
  clear hn363_4
  replace p363:=eq_true p363
  replace q363:=eq_true q363
  go_wp2
  repeat (go_quiet (fail);try go_wp2)
  go_meet
  case rel=>exact⟨_,(decide ((((rd_T67 l0_3 a1).f1).length:Int) > 32)),(by first|rfl|(simp;done)|(simp [*];done)|(refine congrArg Value.bool ?_;exact isE_ _)),H',⟨by first|omega|exact Nat.le_refl _⟩,⟨by(with_reducible repeat (first|refine kN_ ?_ _|refine kD_ ?_|refine kA_ ?_ _));refine kF_ ?_ NB360_362.out _;(with_reducible repeat (first|refine kN_ ?_ _|refine kD_ ?_|refine kA_ ?_ _));refine kF_ ?_ NB360_362.out _;(with_reducible repeat (first|refine kN_ ?_ _|refine kD_ ?_|refine kA_ ?_ _));refine kF_ ?_ NB360_362.out _;(with_reducible repeat (first|refine kN_ ?_ _|refine kD_ ?_|refine kA_ ?_ _));refine kF_ ?_ NB360_362.out _;(with_reducible repeat (first|refine kN_ ?_ _|refine kD_ ?_|refine kA_ ?_ _));refine kF_ ?_ NB360_362.out _;(with_reducible repeat (first|refine kN_ ?_ _|refine kD_ ?_|refine kA_ ?_ _));exact BK360.out⟩,⟨by(with_reducible repeat (first|refine kN_ ?_ _|refine kD_ ?_|refine kA_ ?_ _));refine kP_ (cs:=#[.int .i64 ((rd_T67 l0_3 a1).f0),.slice A361_1 ((rd_T67 l0_3 a1).f1).length c361_1,.slice A361_2 ((rd_T67 l0_3 a1).f2).length c361_2,.string ((rd_T67 l0_3 a1).f3),.int .i64 0]) ?_ 4 _ rfl;(with_reducible repeat (first|refine kN_ ?_ _|refine kD_ ?_|refine kA_ ?_ _));refine kP_ (cs:=#[.int .i64 ((rd_T67 l0_3 a1).f0),.slice A361_1 ((rd_T67 l0_3 a1).f1).length c361_1,.slice A361_2 ((rd_T67 l0_3 a1).f2).length c361_2,.string (⟨#[]⟩:ByteArray),.int .i64 0]) ?_ 3 _ rfl;(with_reducible repeat (first|refine kN_ ?_ _|refine kD_ ?_|refine kA_ ?_ _));refine kP_ (cs:=#[.int .i64 ((rd_T67 l0_3 a1).f0),.slice A361_1 ((rd_T67 l0_3 a1).f1).length c361_1,.slice none 0 0,.string (⟨#[]⟩:ByteArray),.int .i64 0]) ?_ 2 _ rfl;(with_reducible repeat (first|refine kN_ ?_ _|refine kD_ ?_|refine kA_ ?_ _));refine kP_ (cs:=#[.int .i64 ((rd_T67 l0_3 a1).f0),.slice none 0 0,.slice none 0 0,.string (⟨#[]⟩:ByteArray),.int .i64 0]) ?_ 1 _ rfl;(with_reducible repeat (first|refine kN_ ?_ _|refine kD_ ?_|refine kA_ ?_ _));refine kP_ (cs:=#[.int .i64 0,.slice none 0 0,.slice none 0 0,.string (⟨#[]⟩:ByteArray),.int .i64 0]) ?_ 0 _ rfl;(with_reducible repeat (first|refine kN_ ?_ _|refine kD_ ?_|refine kA_ ?_ _));exact BK362.out⟩,⟨by repeat (first|(with_reducible first|exact HB.out|apply bA_|apply bN_|apply bD_|refine bS_ ?_ GE360.out|refine bS_ ?_ GE362.out)|exact HB.out)⟩⟩
 case rest =>
  clear HC5
  try clear c1
  try clear c2
  try clear p2
  try clear c3
  try clear c3b0
  try clear p3
  try clear q3
  try clear hx3
  try clear c4
  try clear c4b0
  try clear p6
  try clear c9
  try clear c11
  try clear c11b0
  try clear c12
  try clear c14
  try clear c14b0
  try clear c15
  try clear c18
  try clear c18b0
  try clear c20
  try clear c20b0
  try clear c21
  try clear c21b0
  try clear c22
  try clear c22b0
  try clear c23
  try clear c26
  try clear c29
  try clear hcz10_0 hcz10_1 hcz10_2 hcz10_3 hcz10_4 hfz10_0 hfz10_1 hfz10_2 hfz10_3 hfz10_4
  try clear hcz13_0 hcz13_1 hcz13_2 hcz13_3 hcz13_4 hfz13_0 hfz13_1 hfz13_2 hfz13_3 hfz13_4
  try clear hcz16_0 hcz16_1 hcz16_2 hcz16_3 hcz16_4 hfz16_0 hfz16_1 hfz16_2 hfz16_3 hfz16_4
  try clear hcz17_0 hcz17_1 hcz17_2 hcz17_3 hcz17_4 hfz17_0 hfz17_1 hfz17_2 hfz17_3 hfz17_4
  try clear hcz24_0 hcz24_1 hcz24_2 hcz24_3 hcz24_4 hfz24_0 hfz24_1 hfz24_2 hfz24_3 hfz24_4
  try clear hcz25_0 hcz25_1 hcz25_2 hcz25_3 hcz25_4 hfz25_0 hfz25_1 hfz25_2 hfz25_3 hfz25_4
  try clear hcz27_0 hcz27_1 hcz27_2 hcz27_3 hcz27_4 hfz27_0 hfz27_1 hfz27_2 hfz27_3 hfz27_4
  try clear hcz28_0 hcz28_1 hcz28_2 hcz28_3 hcz28_4 hfz28_0 hfz28_1 hfz28_2 hfz28_3 hfz28_4
  try clear hcz30_0 hcz30_1 hcz30_2 hcz30_3 hcz30_4 hfz30_0 hfz30_1 hfz30_2 hfz30_3 hfz30_4
  try clear hcz31_0 hcz31_1 hcz31_2 hcz31_3 hcz31_4 hfz31_0 hfz31_1 hfz31_2 hfz31_3 hfz31_4
  try clear hcz7_0 hcz7_1 hcz7_2 hcz7_3 hcz7_4 hfz7_0 hfz7_1 hfz7_2 hfz7_3 hfz7_4
  try clear hx361_0
  try clear hx361_1
  try clear hx361_2
  try clear hx361_3
  try clear hx361_4
  try clear hx363_0
  try clear hx363_1
  try clear hx363_2
  try clear hx363_3
  try clear hx363_4
  try clear p361
  try clear p363
  try clear q361
  try clear q363
  obtain⟨kq,x45_4,rfl,HA,HJ4,BK360,BK362,HB⟩:=hcut
  cases kq with
  | zero=>exact absurd HA.out (by simp [arboristref15_rule.j0])
  | succ kj4 =>
   have H:=HA.out
   clear HA
   simp only [arboristref15_rule.j0] at H
   by_cases c32:x45_4=true
   ·subst c32
    have H1:(some 22)=some r:=by rw [if_pos rfl] at H;exact H
    clear H
    have H:=H1
    clear H1
    obtain rfl:=Option.some.inj H
    go_wp2
    repeat (go_quiet (fail);try go_wp2)
    go_ret
    exact⟨by first|rfl|(simp [errW_none,errW_some] <;> rfl)|(simp [*,errW_none,errW_some] <;> rfl),by repeat (first|(with_reducible first|exact HB.out|apply bA_|apply bN_|apply bD_|refine bS_ ?_ GE360.out|refine bS_ ?_ GE362.out)|exact HB.out)⟩
   replace c32:=Bool.eq_false_iff.mpr c32
   subst c32
   have H1:(arboristref15_rule.l0 kj4 0 l0_0 l0_1 l0_2 l0_3 l0_4 ((rd_T67 l0_3 a1).f0) ((rd_T67 l0_3 a1).f1) ((rd_T67 l0_3 a1).f2) ((rd_T67 l0_3 a1).f3) ((rd_T67 l0_3 a1).f4))=some r:=by rw [if_neg (show ¬ (false=true) by decide)] at H;exact H
   clear H
   have H:=H1
   clear H1
   have H':=Az.mk H
   clear H
   go_wp2
   repeat (go_quiet (fail);try go_wp2)
   go_loopg [6] kj4 (fun kq v6 w'=>∃ (x6_2:Int),v6=.int .i64 x6_2∧Az (arboristref15_rule.l0 kq x6_2 l0_0 l0_1 l0_2 l0_3 l0_4 ((rd_T67 l0_3 a1).f0) ((rd_T67 l0_3 a1).f1) ((rd_T67 l0_3 a1).f2) ((rd_T67 l0_3 a1).f3) ((rd_T67 l0_3 a1).f4)=some r)∧Az (kq≤kj4)∧Az (w'.heap[gb360]?=some (.cells #[(.slice A0_0 l0_0.length c0_0),(.slice A0_1 l0_1.length c0_1),(.slice A0_2 l0_2.length c0_2),(.slice (some ad361) l0_3.length c0_3),(.slice A0_4 l0_4.length c0_4)] 27 (0,0)))∧Az (w'.heap[gb362]?=some (.cells #[.int .i64 ((rd_T67 l0_3 a1).f0),(.slice A361_1 ((rd_T67 l0_3 a1).f1).length c361_1),(.slice A361_2 ((rd_T67 l0_3 a1).f2).length c361_2),.string ((rd_T67 l0_3 a1).f3),.int .i64 ((rd_T67 l0_3 a1).f4)] 67 (0,0)))∧Az (Below w.heap.size w w'))
   case atStart=>exact⟨(0),(by first|rfl|(simp;done)|(simp [*];done)|(refine congrArg Value.bool ?_;exact isE_ _)),H',⟨Nat.le_refl _⟩,⟨by(with_reducible repeat (first|refine kN_ ?_ _|refine kD_ ?_|refine kA_ ?_ _));exact BK360.out⟩,⟨by(with_reducible repeat (first|refine kN_ ?_ _|refine kD_ ?_|refine kA_ ?_ _));exact BK362.out⟩,⟨by repeat (first|(with_reducible first|exact HB.out|apply bA_|apply bN_|apply bD_|refine bS_ ?_ GE360.out|refine bS_ ?_ GE362.out)|exact HB.out)⟩⟩
   case round =>
    clear H'
    try clear c1
    try clear c2
    try clear p2 p2
    try clear c3
    try clear c3b0
    try clear p3 p3
    try clear q3 q3
    try clear hx3
    try clear c4
    try clear c4b0
    try clear p6 p6
    try clear c9
    try clear c11
    try clear c11b0
    try clear c12
    try clear c14
    try clear c14b0
    try clear c15
    try clear c18
    try clear c18b0
    try clear c20
    try clear c20b0
    try clear c21
    try clear c21b0
    try clear c22
    try clear c22b0
    try clear c23
    try clear c26
    try clear c29
    try clear c32
    try clear hcz10_0 hcz10_1 hcz10_2 hcz10_3 hcz10_4 hfz10_0 hfz10_1 hfz10_2 hfz10_3 hfz10_4
    try clear hcz13_0 hcz13_1 hcz13_2 hcz13_3 hcz13_4 hfz13_0 hfz13_1 hfz13_2 hfz13_3 hfz13_4
    try clear hcz16_0 hcz16_1 hcz16_2 hcz16_3 hcz16_4 hfz16_0 hfz16_1 hfz16_2 hfz16_3 hfz16_4
    try clear hcz17_0 hcz17_1 hcz17_2 hcz17_3 hcz17_4 hfz17_0 hfz17_1 hfz17_2 hfz17_3 hfz17_4
    try clear hcz24_0 hcz24_1 hcz24_2 hcz24_3 hcz24_4 hfz24_0 hfz24_1 hfz24_2 hfz24_3 hfz24_4
    try clear hcz25_0 hcz25_1 hcz25_2 hcz25_3 hcz25_4 hfz25_0 hfz25_1 hfz25_2 hfz25_3 hfz25_4
    try clear hcz27_0 hcz27_1 hcz27_2 hcz27_3 hcz27_4 hfz27_0 hfz27_1 hfz27_2 hfz27_3 hfz27_4
    try clear hcz28_0 hcz28_1 hcz28_2 hcz28_3 hcz28_4 hfz28_0 hfz28_1 hfz28_2 hfz28_3 hfz28_4
    try clear hcz30_0 hcz30_1 hcz30_2 hcz30_3 hcz30_4 hfz30_0 hfz30_1 hfz30_2 hfz30_3 hfz30_4
    try clear hcz31_0 hcz31_1 hcz31_2 hcz31_3 hcz31_4 hfz31_0 hfz31_1 hfz31_2 hfz31_3 hfz31_4
    try clear hcz7_0 hcz7_1 hcz7_2 hcz7_3 hcz7_4 hfz7_0 hfz7_1 hfz7_2 hfz7_3 hfz7_4
    try clear hx361_0
    try clear hx361_1
    try clear hx361_2
    try clear hx361_3
    try clear hx361_4
    try clear hx363_0
    try clear hx363_1
    try clear hx363_2
    try clear hx363_3
    try clear hx363_4
    try clear p361
    try clear p363
    try clear q361
    try clear q363
    obtain⟨x6_2,rfl,HA,HK2,BK360,BK362,HB⟩:=hrel
    cases gk with
    | zero=>exact absurd HA.out (by simp [arboristref15_rule.l0])
    | succ k2 =>
     have H:=HA.out
     clear HA
     simp only [arboristref15_rule.l0] at H
     by_cases c33:x6_2 < (((rd_T67 l0_3 a1).f1).length:Int)
     ·rw [if_pos c33] at H
      have c33b0:=decide_eq_true c33
      clear c33
      by_cases c34:0≤x6_2
      rotate_left
      ·rw [if_neg c34] at H
       exact absurd H (by simp)
      rw [if_pos c34] at H
      have c34b0:=decide_eq_true c34
      clear c34
      replace H:=Option.bind_eq_some_iff.mp H
      obtain⟨t365,A350,H⟩:=H
      replace H:(if t365=true then(if (rd ((rd_T67 l0_3 a1).f1) x6_2)=0 then(some 21)else(if (rd ((rd_T67 l0_3 a1).f1) x6_2)=1 then(some 21)else(if (rd ((rd_T67 l0_3 a1).f1) x6_2)=(-1)then(some 21)else(arboristref15_rule.l0 k2 (wrap64 (x6_2 + 1)) l0_0 l0_1 l0_2 l0_3 l0_4 ((rd_T67 l0_3 a1).f0) ((rd_T67 l0_3 a1).f1) ((rd_T67 l0_3 a1).f2) ((rd_T67 l0_3 a1).f3) ((rd_T67 l0_3 a1).f4)))))else(some 21))=some r:=H
      have A35:=Az.mk A350
      clear A350
      by_cases c36:t365=true
      rotate_left
      ·replace c36:=Bool.eq_false_iff.mpr c36
       subst c36
       have H1:(some 21)=some r:=by rw [if_neg (show ¬ (false=true) by decide)] at H;exact H
       clear H
       have H:=H1
       clear H1
       obtain rfl:=Option.some.inj H
       have hnb56:=NB362_360.out
       have hnc56:=NB360_362.out
       obtain⟨hcz57_0,hcz57_1,hcz57_2,hcz57_3,hcz57_4,hfz57_0,hfz57_1,hfz57_2,hfz57_3,hfz57_4⟩:=cf5_ BK362.out
       have p364:0≤(x6_2:Int):=of_decide_eq_true (by assumption)
       have q364:x6_2 < (((rd_T67 l0_3 a1).f1).length:Int):=of_decide_eq_true (by assumption)
       obtain⟨ad364,e364,hx364_0⟩:=Kd.at_int HR361_1.out x6_2 p364 q364
       cases e364
       replace hx364_0:=bc_ HB.out hx364_0
       replace p364:=eq_true p364
       replace q364:=eq_true q364
       obtain⟨hcz58_0,hcz58_1,hcz58_2,hcz58_3,hcz58_4,hfz58_0,hfz58_1,hfz58_2,hfz58_3,hfz58_4⟩:=cf5_ BK360.out
       go_wp2_with (first|(go_at_call 51;(with_reducible refine(arboristref15_Is.calls _ _ l0_0 _ _ l0_1 _ _ l0_2 _ _ l0_3 _ _ l0_4 (rd ((rd_T67 l0_3 a1).f1) x6_2) false _ ?side1 ?side2 ?side3 ?side4 ?side5 ?side6 ?side7 ?side8 ?side9 ?side10 A35.out).mono ?_);(case side1=>repeat (first|exact(Kd.C_below HR0_0.out HB.out)|(with_reducible first|refine Kd.C_alloc ?_ _|refine Kd.C_drewN ?_ _|refine Kd.C_drew ?_)));(case side2=>exact HC0_0.out);(case side3=>repeat (first|exact(Kd.C_below HR0_1.out HB.out)|(with_reducible first|refine Kd.C_alloc ?_ _|refine Kd.C_drewN ?_ _|refine Kd.C_drew ?_)));(case side4=>exact HC0_1.out);(case side5=>repeat (first|exact(Kd.C_below HR0_2.out HB.out)|(with_reducible first|refine Kd.C_alloc ?_ _|refine Kd.C_drewN ?_ _|refine Kd.C_drew ?_)));(case side6=>exact HC0_2.out);(case side7=>repeat (first|exact(Kd.C_below HR0_3.out HB.out)|(with_reducible first|refine Kd.C_alloc ?_ _|refine Kd.C_drewN ?_ _|refine Kd.C_drew ?_)));(case side8=>exact HC0_3.out);(case side9=>repeat (first|exact(Kd.C_below HR0_4.out HB.out)|(with_reducible first|refine Kd.C_alloc ?_ _|refine Kd.C_drewN ?_ _|refine Kd.C_drew ?_)));(case side10=>exact HC0_4.out);rintro e w59 ⟨rfl,hb⟩;have n0_:=Az.mk (kB_ BK360.out hb);have n1_:=Az.mk (kB_ BK362.out hb);have n2_:=Az.mk (bT_ HB.out hb);clear BK360;clear BK362;clear HB;have BK360:=n0_;have BK362:=n1_;have HB:=n2_;clear n0_ n1_ n2_;(try clear hb);(try clear hb2);(try clear hk);(try clear hi)))
       repeat (go_quiet (first|(go_at_call 51;(with_reducible refine(arboristref15_Is.calls _ _ l0_0 _ _ l0_1 _ _ l0_2 _ _ l0_3 _ _ l0_4 (rd ((rd_T67 l0_3 a1).f1) x6_2) false _ ?side1 ?side2 ?side3 ?side4 ?side5 ?side6 ?side7 ?side8 ?side9 ?side10 A35.out).mono ?_);(case side1=>repeat (first|exact(Kd.C_below HR0_0.out HB.out)|(with_reducible first|refine Kd.C_alloc ?_ _|refine Kd.C_drewN ?_ _|refine Kd.C_drew ?_)));(case side2=>exact HC0_0.out);(case side3=>repeat (first|exact(Kd.C_below HR0_1.out HB.out)|(with_reducible first|refine Kd.C_alloc ?_ _|refine Kd.C_drewN ?_ _|refine Kd.C_drew ?_)));(case side4=>exact HC0_1.out);(case side5=>repeat (first|exact(Kd.C_below HR0_2.out HB.out)|(with_reducible first|refine Kd.C_alloc ?_ _|refine Kd.C_drewN ?_ _|refine Kd.C_drew ?_)));(case side6=>exact HC0_2.out);(case side7=>repeat (first|exact(Kd.C_below HR0_3.out HB.out)|(with_reducible first|refine Kd.C_alloc ?_ _|refine Kd.C_drewN ?_ _|refine Kd.C_drew ?_)));(case side8=>exact HC0_3.out);(case side9=>repeat (first|exact(Kd.C_below HR0_4.out HB.out)|(with_reducible first|refine Kd.C_alloc ?_ _|refine Kd.C_drewN ?_ _|refine Kd.C_drew ?_)));(case side10=>exact HC0_4.out);rintro e w59 ⟨rfl,hb⟩;have n0_:=Az.mk (kB_ BK360.out hb);have n1_:=Az.mk (kB_ BK362.out hb);have n2_:=Az.mk (bT_ HB.out hb);clear BK360;clear BK362;clear HB;have BK360:=n0_;have BK362:=n1_;have HB:=n2_;clear n0_ n1_ n2_;(try clear hb);(try clear hb2);(try clear hk);(try clear hi)));try go_wp2_with (first|(go_at_call 51;(with_reducible refine(arboristref15_Is.calls _ _ l0_0 _ _ l0_1 _ _ l0_2 _ _ l0_3 _ _ l0_4 (rd ((rd_T67 l0_3 a1).f1) x6_2) false _ ?side1 ?side2 ?side3 ?side4 ?side5 ?side6 ?side7 ?side8 ?side9 ?side10 A35.out).mono ?_);(case side1=>repeat (first|exact(Kd.C_below HR0_0.out HB.out)|(with_reducible first|refine Kd.C_alloc ?_ _|refine Kd.C_drewN ?_ _|refine Kd.C_drew ?_)));(case side2=>exact HC0_0.out);(case side3=>repeat (first|exact(Kd.C_below HR0_1.out HB.out)|(with_reducible first|refine Kd.C_alloc ?_ _|refine Kd.C_drewN ?_ _|refine Kd.C_drew ?_)));(case side4=>exact HC0_1.out);(case side5=>repeat (first|exact(Kd.C_below HR0_2.out HB.out)|(with_reducible first|refine Kd.C_alloc ?_ _|refine Kd.C_drewN ?_ _|refine Kd.C_drew ?_)));(case side6=>exact HC0_2.out);(case side7=>repeat (first|exact(Kd.C_below HR0_3.out HB.out)|(with_reducible first|refine Kd.C_alloc ?_ _|refine Kd.C_drewN ?_ _|refine Kd.C_drew ?_)));(case side8=>exact HC0_3.out);(case side9=>repeat (first|exact(Kd.C_below HR0_4.out HB.out)|(with_reducible first|refine Kd.C_alloc ?_ _|refine Kd.C_drewN ?_ _|refine Kd.C_drew ?_)));(case side10=>exact HC0_4.out);rintro e w59 ⟨rfl,hb⟩;have n0_:=Az.mk (kB_ BK360.out hb);have n1_:=Az.mk (kB_ BK362.out hb);have n2_:=Az.mk (bT_ HB.out hb);clear BK360;clear BK362;clear HB;have BK360:=n0_;have BK362:=n1_;have HB:=n2_;clear n0_ n1_ n2_;(try clear hb);(try clear hb2);(try clear hk);(try clear hi))))
       go_ret
       exact⟨by first|rfl|(simp [errW_none,errW_some] <;> rfl)|(simp [*,errW_none,errW_some] <;> rfl),by repeat (first|(with_reducible first|exact HB.out|apply bA_|apply bN_|apply bD_|refine bS_ ?_ GE360.out|refine bS_ ?_ GE362.out)|exact HB.out)⟩
      subst c36
      have H1:(if (rd ((rd_T67 l0_3 a1).f1) x6_2)=0 then(some 21)else(if (rd ((rd_T67 l0_3 a1).f1) x6_2)=1 then(some 21)else(if (rd ((rd_T67 l0_3 a1).f1) x6_2)=(-1)then(some 21)else(arboristref15_rule.l0 k2 (wrap64 (x6_2 + 1)) l0_0 l0_1 l0_2 l0_3 l0_4 ((rd_T67 l0_3 a1).f0) ((rd_T67 l0_3 a1).f1) ((rd_T67 l0_3 a1).f2) ((rd_T67 l0_3 a1).f3) ((rd_T67 l0_3 a1).f4)))))=some r:=by rw [if_pos rfl] at H;exact H
      clear H
      have H:=H1
      clear H1
      by_cases c37:(rd ((rd_T67 l0_3 a1).f1) x6_2)=0
      ·rw [if_pos c37] at H
       have c37b0:=beq_iff_eq.mpr c37
       have c37b1:=bne_eq_false_iff_eq.mpr c37
       clear c37
       obtain rfl:=Option.some.inj H
       have hnb38:=NB362_360.out
       have hnc38:=NB360_362.out
       obtain⟨hcz39_0,hcz39_1,hcz39_2,hcz39_3,hcz39_4,hfz39_0,hfz39_1,hfz39_2,hfz39_3,hfz39_4⟩:=cf5_ BK362.out
       have p364:0≤(x6_2:Int):=of_decide_eq_true (by assumption)
       have q364:x6_2 < (((rd_T67 l0_3 a1).f1).length:Int):=of_decide_eq_true (by assumption)
       obtain⟨ad364,e364,hx364_0⟩:=Kd.at_int HR361_1.out x6_2 p364 q364
       cases e364
       replace hx364_0:=bc_ HB.out hx364_0
       replace p364:=eq_true p364
       replace q364:=eq_true q364
       obtain⟨hcz40_0,hcz40_1,hcz40_2,hcz40_3,hcz40_4,hfz40_0,hfz40_1,hfz40_2,hfz40_3,hfz40_4⟩:=cf5_ BK360.out
       go_wp2_with (first|(go_at_call 51;(with_reducible refine(arboristref15_Is.calls _ _ l0_0 _ _ l0_1 _ _ l0_2 _ _ l0_3 _ _ l0_4 (rd ((rd_T67 l0_3 a1).f1) x6_2) true _ ?side1 ?side2 ?side3 ?side4 ?side5 ?side6 ?side7 ?side8 ?side9 ?side10 A35.out).mono ?_);(case side1=>repeat (first|exact(Kd.C_below HR0_0.out HB.out)|(with_reducible first|refine Kd.C_alloc ?_ _|refine Kd.C_drewN ?_ _|refine Kd.C_drew ?_)));(case side2=>exact HC0_0.out);(case side3=>repeat (first|exact(Kd.C_below HR0_1.out HB.out)|(with_reducible first|refine Kd.C_alloc ?_ _|refine Kd.C_drewN ?_ _|refine Kd.C_drew ?_)));(case side4=>exact HC0_1.out);(case side5=>repeat (first|exact(Kd.C_below HR0_2.out HB.out)|(with_reducible first|refine Kd.C_alloc ?_ _|refine Kd.C_drewN ?_ _|refine Kd.C_drew ?_)));(case side6=>exact HC0_2.out);(case side7=>repeat (first|exact(Kd.C_below HR0_3.out HB.out)|(with_reducible first|refine Kd.C_alloc ?_ _|refine Kd.C_drewN ?_ _|refine Kd.C_drew ?_)));(case side8=>exact HC0_3.out);(case side9=>repeat (first|exact(Kd.C_below HR0_4.out HB.out)|(with_reducible first|refine Kd.C_alloc ?_ _|refine Kd.C_drewN ?_ _|refine Kd.C_drew ?_)));(case side10=>exact HC0_4.out);rintro e w41 ⟨rfl,hb⟩;have n0_:=Az.mk (kB_ BK360.out hb);have n1_:=Az.mk (kB_ BK362.out hb);have n2_:=Az.mk (bT_ HB.out hb);clear BK360;clear BK362;clear HB;have BK360:=n0_;have BK362:=n1_;have HB:=n2_;clear n0_ n1_ n2_;(try clear hb);(try clear hb2);(try clear hk);(try clear hi)))
       repeat (go_quiet (first|(go_at_call 51;(with_reducible refine(arboristref15_Is.calls _ _ l0_0 _ _ l0_1 _ _ l0_2 _ _ l0_3 _ _ l0_4 (rd ((rd_T67 l0_3 a1).f1) x6_2) true _ ?side1 ?side2 ?side3 ?side4 ?side5 ?side6 ?side7 ?side8 ?side9 ?side10 A35.out).mono ?_);(case side1=>repeat (first|exact(Kd.C_below HR0_0.out HB.out)|(with_reducible first|refine Kd.C_alloc ?_ _|refine Kd.C_drewN ?_ _|refine Kd.C_drew ?_)));(case side2=>exact HC0_0.out);(case side3=>repeat (first|exact(Kd.C_below HR0_1.out HB.out)|(with_reducible first|refine Kd.C_alloc ?_ _|refine Kd.C_drewN ?_ _|refine Kd.C_drew ?_)));(case side4=>exact HC0_1.out);(case side5=>repeat (first|exact(Kd.C_below HR0_2.out HB.out)|(with_reducible first|refine Kd.C_alloc ?_ _|refine Kd.C_drewN ?_ _|refine Kd.C_drew ?_)));(case side6=>exact HC0_2.out);(case side7=>repeat (first|exact(Kd.C_below HR0_3.out HB.out)|(with_reducible first|refine Kd.C_alloc ?_ _|refine Kd.C_drewN ?_ _|refine Kd.C_drew ?_)));(case side8=>exact HC0_3.out);(case side9=>repeat (first|exact(Kd.C_below HR0_4.out HB.out)|(with_reducible first|refine Kd.C_alloc ?_ _|refine Kd.C_drewN ?_ _|refine Kd.C_drew ?_)));(case side10=>exact HC0_4.out);rintro e w41 ⟨rfl,hb⟩;have n0_:=Az.mk (kB_ BK360.out hb);have n1_:=Az.mk (kB_ BK362.out hb);have n2_:=Az.mk (bT_ HB.out hb);clear BK360;clear BK362;clear HB;have BK360:=n0_;have BK362:=n1_;have HB:=n2_;clear n0_ n1_ n2_;(try clear hb);(try clear hb2);(try clear hk);(try clear hi)));try go_wp2_with (first|(go_at_call 51;(with_reducible refine(arboristref15_Is.calls _ _ l0_0 _ _ l0_1 _ _ l0_2 _ _ l0_3 _ _ l0_4 (rd ((rd_T67 l0_3 a1).f1) x6_2) true _ ?side1 ?side2 ?side3 ?side4 ?side5 ?side6 ?side7 ?side8 ?side9 ?side10 A35.out).mono ?_);(case side1=>repeat (first|exact(Kd.C_below HR0_0.out HB.out)|(with_reducible first|refine Kd.C_alloc ?_ _|refine Kd.C_drewN ?_ _|refine Kd.C_drew ?_)));(case side2=>exact HC0_0.out);(case side3=>repeat (first|exact(Kd.C_below HR0_1.out HB.out)|(with_reducible first|refine Kd.C_alloc ?_ _|refine Kd.C_drewN ?_ _|refine Kd.C_drew ?_)));(case side4=>exact HC0_1.out);(case side5=>repeat (first|exact(Kd.C_below HR0_2.out HB.out)|(with_reducible first|refine Kd.C_alloc ?_ _|refine Kd.C_drewN ?_ _|refine Kd.C_drew ?_)));(case side6=>exact HC0_2.out);(case side7=>repeat (first|exact(Kd.C_below HR0_3.out HB.out)|(with_reducible first|refine Kd.C_alloc ?_ _|refine Kd.C_drewN ?_ _|refine Kd.C_drew ?_)));(case side8=>exact HC0_3.out);(case side9=>repeat (first|exact(Kd.C_below HR0_4.out HB.out)|(with_reducible first|refine Kd.C_alloc ?_ _|refine Kd.C_drewN ?_ _|refine Kd.C_drew ?_)));(case side10=>exact HC0_4.out);rintro e w41 ⟨rfl,hb⟩;have n0_:=Az.mk (kB_ BK360.out hb);have n1_:=Az.mk (kB_ BK362.out hb);have n2_:=Az.mk (bT_ HB.out hb);clear BK360;clear BK362;clear HB;have BK360:=n0_;have BK362:=n1_;have HB:=n2_;clear n0_ n1_ n2_;(try clear hb);(try clear hb2);(try clear hk);(try clear hi))))
       go_ret
       exact⟨by first|rfl|(simp [errW_none,errW_some] <;> rfl)|(simp [*,errW_none,errW_some] <;> rfl),by repeat (first|(with_reducible first|exact HB.out|apply bA_|apply bN_|apply bD_|refine bS_ ?_ GE360.out|refine bS_ ?_ GE362.out)|exact HB.out)⟩
      rw [if_neg c37] at H
      have c37b0:=beq_eq_false_iff_ne.mpr c37
      have c37b1:=bne_iff_ne.mpr c37
      by_cases c42:(rd ((rd_T67 l0_3 a1).f1) x6_2)=1
      ·rw [if_pos c42] at H
       have c42b0:=beq_iff_eq.mpr c42
       have c42b1:=bne_eq_false_iff_eq.mpr c42
       clear c42
       obtain rfl:=Option.some.inj H
       have hnb43:=NB362_360.out
       have hnc43:=NB360_362.out
       obtain⟨hcz44_0,hcz44_1,hcz44_2,hcz44_3,hcz44_4,hfz44_0,hfz44_1,hfz44_2,hfz44_3,hfz44_4⟩:=cf5_ BK362.out
       have p364:0≤(x6_2:Int):=of_decide_eq_true (by assumption)
       have q364:x6_2 < (((rd_T67 l0_3 a1).f1).length:Int):=of_decide_eq_true (by assumption)
       obtain⟨ad364,e364,hx364_0⟩:=Kd.at_int HR361_1.out x6_2 p364 q364
       cases e364
       replace hx364_0:=bc_ HB.out hx364_0
       replace p364:=eq_true p364
       replace q364:=eq_true q364
       obtain⟨hcz45_0,hcz45_1,hcz45_2,hcz45_3,hcz45_4,hfz45_0,hfz45_1,hfz45_2,hfz45_3,hfz45_4⟩:=cf5_ BK360.out
       go_wp2_with (first|(go_at_call 51;(with_reducible refine(arboristref15_Is.calls _ _ l0_0 _ _ l0_1 _ _ l0_2 _ _ l0_3 _ _ l0_4 (rd ((rd_T67 l0_3 a1).f1) x6_2) true _ ?side1 ?side2 ?side3 ?side4 ?side5 ?side6 ?side7 ?side8 ?side9 ?side10 A35.out).mono ?_);(case side1=>repeat (first|exact(Kd.C_below HR0_0.out HB.out)|(with_reducible first|refine Kd.C_alloc ?_ _|refine Kd.C_drewN ?_ _|refine Kd.C_drew ?_)));(case side2=>exact HC0_0.out);(case side3=>repeat (first|exact(Kd.C_below HR0_1.out HB.out)|(with_reducible first|refine Kd.C_alloc ?_ _|refine Kd.C_drewN ?_ _|refine Kd.C_drew ?_)));(case side4=>exact HC0_1.out);(case side5=>repeat (first|exact(Kd.C_below HR0_2.out HB.out)|(with_reducible first|refine Kd.C_alloc ?_ _|refine Kd.C_drewN ?_ _|refine Kd.C_drew ?_)));(case side6=>exact HC0_2.out);(case side7=>repeat (first|exact(Kd.C_below HR0_3.out HB.out)|(with_reducible first|refine Kd.C_alloc ?_ _|refine Kd.C_drewN ?_ _|refine Kd.C_drew ?_)));(case side8=>exact HC0_3.out);(case side9=>repeat (first|exact(Kd.C_below HR0_4.out HB.out)|(with_reducible first|refine Kd.C_alloc ?_ _|refine Kd.C_drewN ?_ _|refine Kd.C_drew ?_)));(case side10=>exact HC0_4.out);rintro e w46 ⟨rfl,hb⟩;have n0_:=Az.mk (kB_ BK360.out hb);have n1_:=Az.mk (kB_ BK362.out hb);have n2_:=Az.mk (bT_ HB.out hb);clear BK360;clear BK362;clear HB;have BK360:=n0_;have BK362:=n1_;have HB:=n2_;clear n0_ n1_ n2_;(try clear hb);(try clear hb2);(try clear hk);(try clear hi)))
       repeat (go_quiet (first|(go_at_call 51;(with_reducible refine(arboristref15_Is.calls _ _ l0_0 _ _ l0_1 _ _ l0_2 _ _ l0_3 _ _ l0_4 (rd ((rd_T67 l0_3 a1).f1) x6_2) true _ ?side1 ?side2 ?side3 ?side4 ?side5 ?side6 ?side7 ?side8 ?side9 ?side10 A35.out).mono ?_);(case side1=>repeat (first|exact(Kd.C_below HR0_0.out HB.out)|(with_reducible first|refine Kd.C_alloc ?_ _|refine Kd.C_drewN ?_ _|refine Kd.C_drew ?_)));(case side2=>exact HC0_0.out);(case side3=>repeat (first|exact(Kd.C_below HR0_1.out HB.out)|(with_reducible first|refine Kd.C_alloc ?_ _|refine Kd.C_drewN ?_ _|refine Kd.C_drew ?_)));(case side4=>exact HC0_1.out);(case side5=>repeat (first|exact(Kd.C_below HR0_2.out HB.out)|(with_reducible first|refine Kd.C_alloc ?_ _|refine Kd.C_drewN ?_ _|refine Kd.C_drew ?_)));(case side6=>exact HC0_2.out);(case side7=>repeat (first|exact(Kd.C_below HR0_3.out HB.out)|(with_reducible first|refine Kd.C_alloc ?_ _|refine Kd.C_drewN ?_ _|refine Kd.C_drew ?_)));(case side8=>exact HC0_3.out);(case side9=>repeat (first|exact(Kd.C_below HR0_4.out HB.out)|(with_reducible first|refine Kd.C_alloc ?_ _|refine Kd.C_drewN ?_ _|refine Kd.C_drew ?_)));(case side10=>exact HC0_4.out);rintro e w46 ⟨rfl,hb⟩;have n0_:=Az.mk (kB_ BK360.out hb);have n1_:=Az.mk (kB_ BK362.out hb);have n2_:=Az.mk (bT_ HB.out hb);clear BK360;clear BK362;clear HB;have BK360:=n0_;have BK362:=n1_;have HB:=n2_;clear n0_ n1_ n2_;(try clear hb);(try clear hb2);(try clear hk);(try clear hi)));try go_wp2_with (first|(go_at_call 51;(with_reducible refine(arboristref15_Is.calls _ _ l0_0 _ _ l0_1 _ _ l0_2 _ _ l0_3 _ _ l0_4 (rd ((rd_T67 l0_3 a1).f1) x6_2) true _ ?side1 ?side2 ?side3 ?side4 ?side5 ?side6 ?side7 ?side8 ?side9 ?side10 A35.out).mono ?_);(case side1=>repeat (first|exact(Kd.C_below HR0_0.out HB.out)|(with_reducible first|refine Kd.C_alloc ?_ _|refine Kd.C_drewN ?_ _|refine Kd.C_drew ?_)));(case side2=>exact HC0_0.out);(case side3=>repeat (first|exact(Kd.C_below HR0_1.out HB.out)|(with_reducible first|refine Kd.C_alloc ?_ _|refine Kd.C_drewN ?_ _|refine Kd.C_drew ?_)));(case side4=>exact HC0_1.out);(case side5=>repeat (first|exact(Kd.C_below HR0_2.out HB.out)|(with_reducible first|refine Kd.C_alloc ?_ _|refine Kd.C_drewN ?_ _|refine Kd.C_drew ?_)));(case side6=>exact HC0_2.out);(case side7=>repeat (first|exact(Kd.C_below HR0_3.out HB.out)|(with_reducible first|refine Kd.C_alloc ?_ _|refine Kd.C_drewN ?_ _|refine Kd.C_drew ?_)));(case side8=>exact HC0_3.out);(case side9=>repeat (first|exact(Kd.C_below HR0_4.out HB.out)|(with_reducible first|refine Kd.C_alloc ?_ _|refine Kd.C_drewN ?_ _|refine Kd.C_drew ?_)));(case side10=>exact HC0_4.out);rintro e w46 ⟨rfl,hb⟩;have n0_:=Az.mk (kB_ BK360.out hb);have n1_:=Az.mk (kB_ BK362.out hb);have n2_:=Az.mk (bT_ HB.out hb);clear BK360;clear BK362;clear HB;have BK360:=n0_;have BK362:=n1_;have HB:=n2_;clear n0_ n1_ n2_;(try clear hb);(try clear hb2);(try clear hk);(try clear hi))))
       go_ret
       exact⟨by first|rfl|(simp [errW_none,errW_some] <;> rfl)|(simp [*,errW_none,errW_some] <;> rfl),by repeat (first|(with_reducible first|exact HB.out|apply bA_|apply bN_|apply bD_|refine bS_ ?_ GE360.out|refine bS_ ?_ GE362.out)|exact HB.out)⟩
      rw [if_neg c42] at H
      have c42b0:=beq_eq_false_iff_ne.mpr c42
      have c42b1:=bne_iff_ne.mpr c42
      by_cases c47:(rd ((rd_T67 l0_3 a1).f1) x6_2)=(-1)
      ·rw [if_pos c47] at H
       have c47b0:=beq_iff_eq.mpr c47
       have c47b1:=bne_eq_false_iff_eq.mpr c47
       clear c47
       obtain rfl:=Option.some.inj H
       have hnb48:=NB362_360.out
       have hnc48:=NB360_362.out
       obtain⟨hcz49_0,hcz49_1,hcz49_2,hcz49_3,hcz49_4,hfz49_0,hfz49_1,hfz49_2,hfz49_3,hfz49_4⟩:=cf5_ BK362.out
       have p364:0≤(x6_2:Int):=of_decide_eq_true (by assumption)
       have q364:x6_2 < (((rd_T67 l0_3 a1).f1).length:Int):=of_decide_eq_true (by assumption)
       obtain⟨ad364,e364,hx364_0⟩:=Kd.at_int HR361_1.out x6_2 p364 q364
       cases e364
       replace hx364_0:=bc_ HB.out hx364_0
       replace p364:=eq_true p364
       replace q364:=eq_true q364
       obtain⟨hcz50_0,hcz50_1,hcz50_2,hcz50_3,hcz50_4,hfz50_0,hfz50_1,hfz50_2,hfz50_3,hfz50_4⟩:=cf5_ BK360.out
       go_wp2_with (first|(go_at_call 51;(with_reducible refine(arboristref15_Is.calls _ _ l0_0 _ _ l0_1 _ _ l0_2 _ _ l0_3 _ _ l0_4 (rd ((rd_T67 l0_3 a1).f1) x6_2) true _ ?side1 ?side2 ?side3 ?side4 ?side5 ?side6 ?side7 ?side8 ?side9 ?side10 A35.out).mono ?_);(case side1=>repeat (first|exact(Kd.C_below HR0_0.out HB.out)|(with_reducible first|refine Kd.C_alloc ?_ _|refine Kd.C_drewN ?_ _|refine Kd.C_drew ?_)));(case side2=>exact HC0_0.out);(case side3=>repeat (first|exact(Kd.C_below HR0_1.out HB.out)|(with_reducible first|refine Kd.C_alloc ?_ _|refine Kd.C_drewN ?_ _|refine Kd.C_drew ?_)));(case side4=>exact HC0_1.out);(case side5=>repeat (first|exact(Kd.C_below HR0_2.out HB.out)|(with_reducible first|refine Kd.C_alloc ?_ _|refine Kd.C_drewN ?_ _|refine Kd.C_drew ?_)));(case side6=>exact HC0_2.out);(case side7=>repeat (first|exact(Kd.C_below HR0_3.out HB.out)|(with_reducible first|refine Kd.C_alloc ?_ _|refine Kd.C_drewN ?_ _|refine Kd.C_drew ?_)));(case side8=>exact HC0_3.out);(case side9=>repeat (first|exact(Kd.C_below HR0_4.out HB.out)|(with_reducible first|refine Kd.C_alloc ?_ _|refine Kd.C_drewN ?_ _|refine Kd.C_drew ?_)));(case side10=>exact HC0_4.out);rintro e w51 ⟨rfl,hb⟩;have n0_:=Az.mk (kB_ BK360.out hb);have n1_:=Az.mk (kB_ BK362.out hb);have n2_:=Az.mk (bT_ HB.out hb);clear BK360;clear BK362;clear HB;have BK360:=n0_;have BK362:=n1_;have HB:=n2_;clear n0_ n1_ n2_;(try clear hb);(try clear hb2);(try clear hk);(try clear hi)))
       repeat (go_quiet (first|(go_at_call 51;(with_reducible refine(arboristref15_Is.calls _ _ l0_0 _ _ l0_1 _ _ l0_2 _ _ l0_3 _ _ l0_4 (rd ((rd_T67 l0_3 a1).f1) x6_2) true _ ?side1 ?side2 ?side3 ?side4 ?side5 ?side6 ?side7 ?side8 ?side9 ?side10 A35.out).mono ?_);(case side1=>repeat (first|exact(Kd.C_below HR0_0.out HB.out)|(with_reducible first|refine Kd.C_alloc ?_ _|refine Kd.C_drewN ?_ _|refine Kd.C_drew ?_)));(case side2=>exact HC0_0.out);(case side3=>repeat (first|exact(Kd.C_below HR0_1.out HB.out)|(with_reducible first|refine Kd.C_alloc ?_ _|refine Kd.C_drewN ?_ _|refine Kd.C_drew ?_)));(case side4=>exact HC0_1.out);(case side5=>repeat (first|exact(Kd.C_below HR0_2.out HB.out)|(with_reducible first|refine Kd.C_alloc ?_ _|refine Kd.C_drewN ?_ _|refine Kd.C_drew ?_)));(case side6=>exact HC0_2.out);(case side7=>repeat (first|exact(Kd.C_below HR0_3.out HB.out)|(with_reducible first|refine Kd.C_alloc ?_ _|refine Kd.C_drewN ?_ _|refine Kd.C_drew ?_)));(case side8=>exact HC0_3.out);(case side9=>repeat (first|exact(Kd.C_below HR0_4.out HB.out)|(with_reducible first|refine Kd.C_alloc ?_ _|refine Kd.C_drewN ?_ _|refine Kd.C_drew ?_)));(case side10=>exact HC0_4.out);rintro e w51 ⟨rfl,hb⟩;have n0_:=Az.mk (kB_ BK360.out hb);have n1_:=Az.mk (kB_ BK362.out hb);have n2_:=Az.mk (bT_ HB.out hb);clear BK360;clear BK362;clear HB;have BK360:=n0_;have BK362:=n1_;have HB:=n2_;clear n0_ n1_ n2_;(try clear hb);(try clear hb2);(try clear hk);(try clear hi)));try go_wp2_with (first|(go_at_call 51;(with_reducible refine(arboristref15_Is.calls _ _ l0_0 _ _ l0_1 _ _ l0_2 _ _ l0_3 _ _ l0_4 (rd ((rd_T67 l0_3 a1).f1) x6_2) true _ ?side1 ?side2 ?side3 ?side4 ?side5 ?side6 ?side7 ?side8 ?side9 ?side10 A35.out).mono ?_);(case side1=>repeat (first|exact(Kd.C_below HR0_0.out HB.out)|(with_reducible first|refine Kd.C_alloc ?_ _|refine Kd.C_drewN ?_ _|refine Kd.C_drew ?_)));(case side2=>exact HC0_0.out);(case side3=>repeat (first|exact(Kd.C_below HR0_1.out HB.out)|(with_reducible first|refine Kd.C_alloc ?_ _|refine Kd.C_drewN ?_ _|refine Kd.C_drew ?_)));(case side4=>exact HC0_1.out);(case side5=>repeat (first|exact(Kd.C_below HR0_2.out HB.out)|(with_reducible first|refine Kd.C_alloc ?_ _|refine Kd.C_drewN ?_ _|refine Kd.C_drew ?_)));(case side6=>exact HC0_2.out);(case side7=>repeat (first|exact(Kd.C_below HR0_3.out HB.out)|(with_reducible first|refine Kd.C_alloc ?_ _|refine Kd.C_drewN ?_ _|refine Kd.C_drew ?_)));(case side8=>exact HC0_3.out);(case side9=>repeat (first|exact(Kd.C_below HR0_4.out HB.out)|(with_reducible first|refine Kd.C_alloc ?_ _|refine Kd.C_drewN ?_ _|refine Kd.C_drew ?_)));(case side10=>exact HC0_4.out);rintro e w51 ⟨rfl,hb⟩;have n0_:=Az.mk (kB_ BK360.out hb);have n1_:=Az.mk (kB_ BK362.out hb);have n2_:=Az.mk (bT_ HB.out hb);clear BK360;clear BK362;clear HB;have BK360:=n0_;have BK362:=n1_;have HB:=n2_;clear n0_ n1_ n2_;(try clear hb);(try clear hb2);(try clear hk);(try clear hi))))
       go_ret
       exact⟨by first|rfl|(simp [errW_none,errW_some] <;> rfl)|(simp [*,errW_none,errW_some] <;> rfl),by repeat (first|(with_reducible first|exact HB.out|apply bA_|apply bN_|apply bD_|refine bS_ ?_ GE360.out|refine bS_ ?_ GE362.out)|exact HB.out)⟩
      rw [if_neg c47] at H
      have c47b0:=beq_eq_false_iff_ne.mpr c47
      have c47b1:=bne_iff_ne.mpr c47
      have H':=Az.mk H
      clear H
      have hnb52:=NB362_360.out
      have hnc52:=NB360_362.out
      obtain⟨hcz53_0,hcz53_1,hcz53_2,hcz53_3,hcz53_4,hfz53_0,hfz53_1,hfz53_2,hfz53_3,hfz53_4⟩:=cf5_ BK362.out
      have p364:0≤(x6_2:Int):=of_decide_eq_true (by assumption)
      have q364:x6_2 < (((rd_T67 l0_3 a1).f1).length:Int):=of_decide_eq_true (by assumption)
      obtain⟨ad364,e364,hx364_0⟩:=Kd.at_int HR361_1.out x6_2 p364 q364
      cases e364
      replace hx364_0:=bc_ HB.out hx364_0
      replace p364:=eq_true p364
      replace q364:=eq_true q364
      obtain⟨hcz54_0,hcz54_1,hcz54_2,hcz54_3,hcz54_4,hfz54_0,hfz54_1,hfz54_2,hfz54_3,hfz54_4⟩:=cf5_ BK360.out
      go_wp2_with (first|(go_at_call 51;(with_reducible refine(arboristref15_Is.calls _ _ l0_0 _ _ l0_1 _ _ l0_2 _ _ l0_3 _ _ l0_4 (rd ((rd_T67 l0_3 a1).f1) x6_2) true _ ?side1 ?side2 ?side3 ?side4 ?side5 ?side6 ?side7 ?side8 ?side9 ?side10 A35.out).mono ?_);(case side1=>repeat (first|exact(Kd.C_below HR0_0.out HB.out)|(with_reducible first|refine Kd.C_alloc ?_ _|refine Kd.C_drewN ?_ _|refine Kd.C_drew ?_)));(case side2=>exact HC0_0.out);(case side3=>repeat (first|exact(Kd.C_below HR0_1.out HB.out)|(with_reducible first|refine Kd.C_alloc ?_ _|refine Kd.C_drewN ?_ _|refine Kd.C_drew ?_)));(case side4=>exact HC0_1.out);(case side5=>repeat (first|exact(Kd.C_below HR0_2.out HB.out)|(with_reducible first|refine Kd.C_alloc ?_ _|refine Kd.C_drewN ?_ _|refine Kd.C_drew ?_)));(case side6=>exact HC0_2.out);(case side7=>repeat (first|exact(Kd.C_below HR0_3.out HB.out)|(with_reducible first|refine Kd.C_alloc ?_ _|refine Kd.C_drewN ?_ _|refine Kd.C_drew ?_)));(case side8=>exact HC0_3.out);(case side9=>repeat (first|exact(Kd.C_below HR0_4.out HB.out)|(with_reducible first|refine Kd.C_alloc ?_ _|refine Kd.C_drewN ?_ _|refine Kd.C_drew ?_)));(case side10=>exact HC0_4.out);rintro e w55 ⟨rfl,hb⟩;have n0_:=Az.mk (kB_ BK360.out hb);have n1_:=Az.mk (kB_ BK362.out hb);have n2_:=Az.mk (bT_ HB.out hb);clear BK360;clear BK362;clear HB;have BK360:=n0_;have BK362:=n1_;have HB:=n2_;clear n0_ n1_ n2_;(try clear hb);(try clear hb2);(try clear hk);(try clear hi)))
      repeat (go_quiet (first|(go_at_call 51;(with_reducible refine(arboristref15_Is.calls _ _ l0_0 _ _ l0_1 _ _ l0_2 _ _ l0_3 _ _ l0_4 (rd ((rd_T67 l0_3 a1).f1) x6_2) true _ ?side1 ?side2 ?side3 ?side4 ?side5 ?side6 ?side7 ?side8 ?side9 ?side10 A35.out).mono ?_);(case side1=>repeat (first|exact(Kd.C_below HR0_0.out HB.out)|(with_reducible first|refine Kd.C_alloc ?_ _|refine Kd.C_drewN ?_ _|refine Kd.C_drew ?_)));(case side2=>exact HC0_0.out);(case side3=>repeat (first|exact(Kd.C_below HR0_1.out HB.out)|(with_reducible first|refine Kd.C_alloc ?_ _|refine Kd.C_drewN ?_ _|refine Kd.C_drew ?_)));(case side4=>exact HC0_1.out);(case side5=>repeat (first|exact(Kd.C_below HR0_2.out HB.out)|(with_reducible first|refine Kd.C_alloc ?_ _|refine Kd.C_drewN ?_ _|refine Kd.C_drew ?_)));(case side6=>exact HC0_2.out);(case side7=>repeat (first|exact(Kd.C_below HR0_3.out HB.out)|(with_reducible first|refine Kd.C_alloc ?_ _|refine Kd.C_drewN ?_ _|refine Kd.C_drew ?_)));(case side8=>exact HC0_3.out);(case side9=>repeat (first|exact(Kd.C_below HR0_4.out HB.out)|(with_reducible first|refine Kd.C_alloc ?_ _|refine Kd.C_drewN ?_ _|refine Kd.C_drew ?_)));(case side10=>exact HC0_4.out);rintro e w55 ⟨rfl,hb⟩;have n0_:=Az.mk (kB_ BK360.out hb);have n1_:=Az.mk (kB_ BK362.out hb);have n2_:=Az.mk (bT_ HB.out hb);clear BK360;clear BK362;clear HB;have BK360:=n0_;have BK362:=n1_;have HB:=n2_;clear n0_ n1_ n2_;(try clear hb);(try clear hb2);(try clear hk);(try clear hi)));try go_wp2_with (first|(go_at_call 51;(with_reducible refine(arboristref15_Is.calls _ _ l0_0 _ _ l0_1 _ _ l0_2 _ _ l0_3 _ _ l0_4 (rd ((rd_T67 l0_3 a1).f1) x6_2) true _ ?side1 ?side2 ?side3 ?side4 ?side5 ?side6 ?side7 ?side8 ?side9 ?side10 A35.out).mono ?_);(case side1=>repeat (first|exact(Kd.C_below HR0_0.out HB.out)|(with_reducible first|refine Kd.C_alloc ?_ _|refine Kd.C_drewN ?_ _|refine Kd.C_drew ?_)));(case side2=>exact HC0_0.out);(case side3=>repeat (first|exact(Kd.C_below HR0_1.out HB.out)|(with_reducible first|refine Kd.C_alloc ?_ _|refine Kd.C_drewN ?_ _|refine Kd.C_drew ?_)));(case side4=>exact HC0_1.out);(case side5=>repeat (first|exact(Kd.C_below HR0_2.out HB.out)|(with_reducible first|refine Kd.C_alloc ?_ _|refine Kd.C_drewN ?_ _|refine Kd.C_drew ?_)));(case side6=>exact HC0_2.out);(case side7=>repeat (first|exact(Kd.C_below HR0_3.out HB.out)|(with_reducible first|refine Kd.C_alloc ?_ _|refine Kd.C_drewN ?_ _|refine Kd.C_drew ?_)));(case side8=>exact HC0_3.out);(case side9=>repeat (first|exact(Kd.C_below HR0_4.out HB.out)|(with_reducible first|refine Kd.C_alloc ?_ _|refine Kd.C_drewN ?_ _|refine Kd.C_drew ?_)));(case side10=>exact HC0_4.out);rintro e w55 ⟨rfl,hb⟩;have n0_:=Az.mk (kB_ BK360.out hb);have n1_:=Az.mk (kB_ BK362.out hb);have n2_:=Az.mk (bT_ HB.out hb);clear BK360;clear BK362;clear HB;have BK360:=n0_;have BK362:=n1_;have HB:=n2_;clear n0_ n1_ n2_;(try clear hb);(try clear hb2);(try clear hk);(try clear hi))))
      go_roundg k2
      case measure=>have:=HJ4.out;have:=HK2.out;omega
      case rel=>exact⟨(wrap64 (x6_2 + 1)),(by first|rfl|(simp;done)|(simp [*];done)|(refine congrArg Value.bool ?_;exact isE_ _)),H',⟨by have:=HJ4.out;have:=HK2.out;omega⟩,⟨by(with_reducible repeat (first|refine kN_ ?_ _|refine kD_ ?_|refine kA_ ?_ _));exact BK360.out⟩,⟨by(with_reducible repeat (first|refine kN_ ?_ _|refine kD_ ?_|refine kA_ ?_ _));exact BK362.out⟩,⟨by repeat (first|(with_reducible first|exact HB.out|apply bA_|apply bN_|apply bD_|refine bS_ ?_ GE360.out|refine bS_ ?_ GE362.out)|exact HB.out)⟩⟩
     rw [if_neg c33] at H
     have c33b0:=decide_eq_false c33
     clear c33
     have HC60:=Az.mk H
     clear H
     have hnb61:=NB362_360.out
     have hnc61:=NB360_362.out
     obtain⟨hcz62_0,hcz62_1,hcz62_2,hcz62_3,hcz62_4,hfz62_0,hfz62_1,hfz62_2,hfz62_3,hfz62_4⟩:=cf5_ BK362.out
     go_upto_region 10 with(fail)
     repeat (go_quiet (fail);go_upto_region 10 with(fail))
     go_cut [86] (fun v86 wc=>∃ (kq:Nat) (x86_59:Bool),v86=.bool x86_59∧Az (arboristref15_rule.j2 kq x86_59 l0_0 l0_1 l0_2 l0_3 l0_4 ((rd_T67 l0_3 a1).f0) ((rd_T67 l0_3 a1).f1) ((rd_T67 l0_3 a1).f2) ((rd_T67 l0_3 a1).f3) ((rd_T67 l0_3 a1).f4)=some r)∧Az (kq≤k2)∧Az (wc.heap[gb360]?=some (.cells #[(.slice A0_0 l0_0.length c0_0),(.slice A0_1 l0_1.length c0_1),(.slice A0_2 l0_2.length c0_2),(.slice (some ad361) l0_3.length c0_3),(.slice A0_4 l0_4.length c0_4)] 27 (0,0)))∧Az (wc.heap[gb362]?=some (.cells #[.int .i64 ((rd_T67 l0_3 a1).f0),(.slice A361_1 ((rd_T67 l0_3 a1).f1).length c361_1),(.slice A361_2 ((rd_T67 l0_3 a1).f2).length c361_2),.string ((rd_T67 l0_3 a1).f3),.int .i64 ((rd_T67 l0_3 a1).f4)] 67 (0,0)))∧Az (Below w.heap.size w wc))
     case first =>
      have H:=HC60.out
      clear HC60
      by_cases c63:(((rd_T67 l0_3 a1).f2).length:Int)=0
      ·rw [if_pos c63] at H
       have c63b0:=beq_iff_eq.mpr c63
       have c63b1:=bne_eq_false_iff_eq.mpr c63
       clear c63
       (first|rw [c63b0]|(simp only [i64_w,i32_w];rw [c63b0])|skip)
       have H':=Az.mk H
       clear H
       have hnb64:=NB362_360.out
       have hnc64:=NB360_362.out
       obtain⟨hcz65_0,hcz65_1,hcz65_2,hcz65_3,hcz65_4,hfz65_0,hfz65_1,hfz65_2,hfz65_3,hfz65_4⟩:=cf5_ BK362.out
       go_wp2
       repeat (go_quiet (fail);try go_wp2)
       go_meet
       case rel=>exact⟨_,(false),(by first|rfl|(simp;done)|(simp [*];done)|(refine congrArg Value.bool ?_;exact isE_ _)),H',⟨by have:=HJ4.out;have:=HK2.out;first|omega|exact Nat.le_refl _⟩,⟨by(with_reducible repeat (first|refine kN_ ?_ _|refine kD_ ?_|refine kA_ ?_ _));exact BK360.out⟩,⟨by(with_reducible repeat (first|refine kN_ ?_ _|refine kD_ ?_|refine kA_ ?_ _));exact BK362.out⟩,⟨by repeat (first|(with_reducible first|exact HB.out|apply bA_|apply bN_|apply bD_|refine bS_ ?_ GE360.out|refine bS_ ?_ GE362.out)|exact HB.out)⟩⟩
      rw [if_neg c63] at H
      have c63b0:=beq_eq_false_iff_ne.mpr c63
      have c63b1:=bne_iff_ne.mpr c63
      have c63b2:¬ (((rd_T67 l0_3 a1).f2)=[]):=fun h_=>c63 (by rw [h_];rfl)
      (first|rw [c63b0]|(simp only [i64_w,i32_w];rw [c63b0])|skip)
      have H':=Az.mk H
      clear H
      have hnb66:=NB362_360.out
      have hnc66:=NB360_362.out
      obtain⟨hcz67_0,hcz67_1,hcz67_2,hcz67_3,hcz67_4,hfz67_0,hfz67_1,hfz67_2,hfz67_3,hfz67_4⟩:=cf5_ BK362.out
      go_wp2
      repeat (go_quiet (fail);try go_wp2)
      go_meet
      case rel=>exact⟨_,(((((rd_T67 l0_3 a1).f2).length:Int) != (((rd_T67 l0_3 a1).f1).length:Int))),(by first|rfl|(simp;done)|(simp [*];done)|(refine congrArg Value.bool ?_;exact isE_ _)),H',⟨by have:=HJ4.out;have:=HK2.out;first|omega|exact Nat.le_refl _⟩,⟨by(with_reducible repeat (first|refine kN_ ?_ _|refine kD_ ?_|refine kA_ ?_ _));exact BK360.out⟩,⟨by(with_reducible repeat (first|refine kN_ ?_ _|refine kD_ ?_|refine kA_ ?_ _));exact BK362.out⟩,⟨by repeat (first|(with_reducible first|exact HB.out|apply bA_|apply bN_|apply bD_|refine bS_ ?_ GE360.out|refine bS_ ?_ GE362.out)|exact HB.out)⟩⟩
     case rest =>
      clear HC60
      try clear c1
      try clear c2
      try clear p2 p2
      try clear c3
      try clear c3b0
      try clear p3 p3
      try clear q3 q3
      try clear hx3
      try clear c4
      try clear c4b0
      try clear c5
      try clear c6
      try clear p6 p6
      try clear c9
      try clear c11
      try clear c11b0
      try clear c12
      try clear c14
      try clear c14b0
      try clear c15
      try clear c18
      try clear c18b0
      try clear c20
      try clear c20b0
      try clear c21
      try clear c21b0
      try clear c22
      try clear c22b0
      try clear c23
      try clear c26
      try clear c29
      try clear c32
      try clear c33
      try clear c33b0
      try clear c34
      try clear c34b0
      try clear c36
      try clear p36
      try clear q36
      try clear hx36
      try clear c37
      try clear c37b0
      try clear c37b1
      try clear c38
      try clear c42
      try clear c42b0
      try clear c42b1
      try clear c43
      try clear c47
      try clear c47b0
      try clear c47b1
      try clear c48
      try clear c52
      try clear c56
      try clear c61
      try clear c63
      try clear c63b0
      try clear c63b1
      try clear c63b2
      try clear c64
      try clear p64
      try clear c66
      try clear hcz10_0 hcz10_1 hcz10_2 hcz10_3 hcz10_4 hfz10_0 hfz10_1 hfz10_2 hfz10_3 hfz10_4
      try clear hcz13_0 hcz13_1 hcz13_2 hcz13_3 hcz13_4 hfz13_0 hfz13_1 hfz13_2 hfz13_3 hfz13_4
      try clear hcz16_0 hcz16_1 hcz16_2 hcz16_3 hcz16_4 hfz16_0 hfz16_1 hfz16_2 hfz16_3 hfz16_4
      try clear hcz17_0 hcz17_1 hcz17_2 hcz17_3 hcz17_4 hfz17_0 hfz17_1 hfz17_2 hfz17_3 hfz17_4
      try clear hcz24_0 hcz24_1 hcz24_2 hcz24_3 hcz24_4 hfz24_0 hfz24_1 hfz24_2 hfz24_3 hfz24_4
      try clear hcz25_0 hcz25_1 hcz25_2 hcz25_3 hcz25_4 hfz25_0 hfz25_1 hfz25_2 hfz25_3 hfz25_4
      try clear hcz27_0 hcz27_1 hcz27_2 hcz27_3 hcz27_4 hfz27_0 hfz27_1 hfz27_2 hfz27_3 hfz27_4
      try clear hcz28_0 hcz28_1 hcz28_2 hcz28_3 hcz28_4 hfz28_0 hfz28_1 hfz28_2 hfz28_3 hfz28_4
      try clear hcz30_0 hcz30_1 hcz30_2 hcz30_3 hcz30_4 hfz30_0 hfz30_1 hfz30_2 hfz30_3 hfz30_4
      try clear hcz31_0 hcz31_1 hcz31_2 hcz31_3 hcz31_4 hfz31_0 hfz31_1 hfz31_2 hfz31_3 hfz31_4
      try clear hcz39_0 hcz39_1 hcz39_2 hcz39_3 hcz39_4 hfz39_0 hfz39_1 hfz39_2 hfz39_3 hfz39_4
      try clear hcz40_0 hcz40_1 hcz40_2 hcz40_3 hcz40_4 hfz40_0 hfz40_1 hfz40_2 hfz40_3 hfz40_4
      try clear hcz44_0 hcz44_1 hcz44_2 hcz44_3 hcz44_4 hfz44_0 hfz44_1 hfz44_2 hfz44_3 hfz44_4
      try clear hcz45_0 hcz45_1 hcz45_2 hcz45_3 hcz45_4 hfz45_0 hfz45_1 hfz45_2 hfz45_3 hfz45_4
      try clear hcz49_0 hcz49_1 hcz49_2 hcz49_3 hcz49_4 hfz49_0 hfz49_1 hfz49_2 hfz49_3 hfz49_4
      try clear hcz50_0 hcz50_1 hcz50_2 hcz50_3 hcz50_4 hfz50_0 hfz50_1 hfz50_2 hfz50_3 hfz50_4
      try clear hcz53_0 hcz53_1 hcz53_2 hcz53_3 hcz53_4 hfz53_0 hfz53_1 hfz53_2 hfz53_3 hfz53_4
      try clear hcz54_0 hcz54_1 hcz54_2 hcz54_3 hcz54_4 hfz54_0 hfz54_1 hfz54_2 hfz54_3 hfz54_4
      try clear hcz57_0 hcz57_1 hcz57_2 hcz57_3 hcz57_4 hfz57_0 hfz57_1 hfz57_2 hfz57_3 hfz57_4
      try clear hcz58_0 hcz58_1 hcz58_2 hcz58_3 hcz58_4 hfz58_0 hfz58_1 hfz58_2 hfz58_3 hfz58_4
      try clear hcz62_0 hcz62_1 hcz62_2 hcz62_3 hcz62_4 hfz62_0 hfz62_1 hfz62_2 hfz62_3 hfz62_4
      try clear hcz65_0 hcz65_1 hcz65_2 hcz65_3 hcz65_4 hfz65_0 hfz65_1 hfz65_2 hfz65_3 hfz65_4
      try clear hcz67_0 hcz67_1 hcz67_2 hcz67_3 hcz67_4 hfz67_0 hfz67_1 hfz67_2 hfz67_3 hfz67_4
      try clear hcz7_0 hcz7_1 hcz7_2 hcz7_3 hcz7_4 hfz7_0 hfz7_1 hfz7_2 hfz7_3 hfz7_4
      try clear hx361_0
      try clear hx361_1
      try clear hx361_2
      try clear hx361_3
      try clear hx361_4
      try clear hx363_0
      try clear hx363_1
      try clear hx363_2
      try clear hx363_3
      try clear hx363_4
      try clear hx364_0
      try clear p361
      try clear p363
      try clear p364
      try clear q361
      try clear q363
      try clear q364
      obtain⟨kq,x86_59,rfl,HA,HJ59,BK360,BK362,HB⟩:=hcut
      cases kq with
      | zero=>exact absurd HA.out (by simp [arboristref15_rule.j2])
      | succ kj59 =>
       have H:=HA.out
       clear HA
       simp only [arboristref15_rule.j2] at H
       by_cases c68:x86_59=true
       ·subst c68
        have H1:(some 25)=some r:=by rw [if_pos rfl] at H;exact H
        clear H
        have H:=H1
        clear H1
        obtain rfl:=Option.some.inj H
        go_wp2
        repeat (go_quiet (fail);try go_wp2)
        go_ret
        exact⟨by first|rfl|(simp [errW_none,errW_some] <;> rfl)|(simp [*,errW_none,errW_some] <;> rfl),by repeat (first|(with_reducible first|exact HB.out|apply bA_|apply bN_|apply bD_|refine bS_ ?_ GE360.out|refine bS_ ?_ GE362.out)|exact HB.out)⟩
       replace c68:=Bool.eq_false_iff.mpr c68
       subst c68
       have H1:(if ((rd_T67 l0_3 a1).f4) < 0 then(some 24)else(if ((rd_T67 l0_3 a1).f4) > (l0_4.length:Int)then(some 24)else(some 0)))=some r:=by rw [if_neg (show ¬ (false=true) by decide)] at H;exact H
       clear H
       have H:=H1
       clear H1
       by_cases c69:((rd_T67 l0_3 a1).f4) < 0
       ·rw [if_pos c69] at H
        have c69b0:=decide_eq_true c69
        clear c69
        obtain rfl:=Option.some.inj H
        have hnb70:=NB362_360.out
        have hnc70:=NB360_362.out
        obtain⟨hcz71_0,hcz71_1,hcz71_2,hcz71_3,hcz71_4,hfz71_0,hfz71_1,hfz71_2,hfz71_3,hfz71_4⟩:=cf5_ BK362.out
        go_wp2
        repeat (go_quiet (fail);try go_wp2)
        go_ret
        exact⟨by first|rfl|(simp [errW_none,errW_some] <;> rfl)|(simp [*,errW_none,errW_some] <;> rfl),by repeat (first|(with_reducible first|exact HB.out|apply bA_|apply bN_|apply bD_|refine bS_ ?_ GE360.out|refine bS_ ?_ GE362.out)|exact HB.out)⟩
       rw [if_neg c69] at H
       have c69b0:=decide_eq_false c69
       clear c69
       by_cases c72:((rd_T67 l0_3 a1).f4) > (l0_4.length:Int)
       ·rw [if_pos c72] at H
        have c72b0:=decide_eq_true c72
        clear c72
        obtain rfl:=Option.some.inj H
        have hnb73:=NB362_360.out
        have hnc73:=NB360_362.out
        obtain⟨hcz74_0,hcz74_1,hcz74_2,hcz74_3,hcz74_4,hfz74_0,hfz74_1,hfz74_2,hfz74_3,hfz74_4⟩:=cf5_ BK362.out
        obtain⟨hcz75_0,hcz75_1,hcz75_2,hcz75_3,hcz75_4,hfz75_0,hfz75_1,hfz75_2,hfz75_3,hfz75_4⟩:=cf5_ BK360.out
        go_wp2
        repeat (go_quiet (fail);try go_wp2)
        go_ret
        exact⟨by first|rfl|(simp [errW_none,errW_some] <;> rfl)|(simp [*,errW_none,errW_some] <;> rfl),by repeat (first|(with_reducible first|exact HB.out|apply bA_|apply bN_|apply bD_|refine bS_ ?_ GE360.out|refine bS_ ?_ GE362.out)|exact HB.out)⟩
       rw [if_neg c72] at H
       have c72b0:=decide_eq_false c72
       clear c72
       obtain rfl:=Option.some.inj H
       have hnb76:=NB362_360.out
       have hnc76:=NB360_362.out
       obtain⟨hcz77_0,hcz77_1,hcz77_2,hcz77_3,hcz77_4,hfz77_0,hfz77_1,hfz77_2,hfz77_3,hfz77_4⟩:=cf5_ BK362.out
       obtain⟨hcz78_0,hcz78_1,hcz78_2,hcz78_3,hcz78_4,hfz78_0,hfz78_1,hfz78_2,hfz78_3,hfz78_4⟩:=cf5_ BK360.out
       go_wp2
       repeat (go_quiet (fail);try go_wp2)
       go_ret
       exact⟨by first|rfl|(simp [errW_none,errW_some] <;> rfl)|(simp [*,errW_none,errW_some] <;> rfl),by repeat (first|(with_reducible first|exact HB.out|apply bA_|apply bN_|apply bD_|refine bS_ ?_ GE360.out|refine bS_ ?_ GE362.out)|exact HB.out)⟩
end Go.Proofs.Ytgdbcogbbghjaaa.Q
