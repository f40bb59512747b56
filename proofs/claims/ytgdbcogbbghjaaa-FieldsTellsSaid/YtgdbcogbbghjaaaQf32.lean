import Derived.Test.YtgdbcogbbghjaaaQ0
import Derived.Test.YtgdbcogbbghjaaaQf24
import Derived.Test.YtgdbcogbbghjaaaQf45
namespace Go.Proofs.Ytgdbcogbbghjaaa.Q
open Go.RowKit Go.Proofs.YtgdbcogbbghjaaaW.PrintWords Go.Proofs.YtgdbcogbbghjaaaW.PrintLast Go.Proofs.YtgdbcogbbghjaaaW.PrintMore
attribute [local go_sem] max2_int min2_int max_two min_two max_three min_three max_four min_four   -- for this text's walks alone
set_option linter.unusedVariables false
set_option linter.unusedSimpArgs false
mutual
def arboristref46_All.l0:Nat→List Int→ByteArray→List (S65)→Int→List ByteArray→List ByteArray→List Int→List (S67)→List (S78)→Int→Int→Int→Int→List (S53)→ByteArray→List (S32)→Option ((List (S65)))
 | 0,_,_,_,_,_,_,_,_,_,_,_,_,_,_,_,_=>none
 | k + 1,x2,x3,x9,x10,x179000,x179001,x179002,x179003,x179004,x180000,x180001,x180002,x180003,x180004,x180005,x180006=>if x10 < (x180006.length:Int)then(if ([]:List Int).length + x2.length < 17592186044416 then((some (([]:List Int) ++ x2:List Int)).bind fun y180=>(if y180.length < 17592186044416 then((some (y180 ++ [x10]:List Int)).bind fun y183=>((arboristref46_field.f x179000 x179001 x179002 x179003 x179004 x180000 x180001 x180002 x180003 x180004 x180005 x180006 x10).bind fun t186=>(if t186.toList=([]:List UInt8)then(arboristref46_All.j1 k x2 x3 x9 x10 y183 x3 x179000 x179001 x179002 x179003 x179004 x180000 x180001 x180002 x180003 x180004 x180005 x180006)else(arboristref46_All.j1 k x2 x3 x9 x10 y183 t186 x179000 x179001 x179002 x179003 x179004 x180000 x180001 x180002 x180003 x180004 x180005 x180006))))else(none)))else(none))else(some x9)
def arboristref46_All.j1:Nat→List Int→ByteArray→List (S65)→Int→List Int→ByteArray→List ByteArray→List ByteArray→List Int→List (S67)→List (S78)→Int→Int→Int→Int→List (S53)→ByteArray→List (S32)→Option ((List (S65)))
 | 0,_,_,_,_,_,_,_,_,_,_,_,_,_,_,_,_,_,_=>none
 | k + 1,x2,x3,x9,x10,x11,x12,x179000,x179001,x179002,x179003,x179004,x180000,x180001,x180002,x180003,x180004,x180005,x180006=>if 0≤x10 then(if x10 < (x180006.length:Int)then((arboristref46_Dissolves.f x179000 x179001 x179002 x179003 x179004 ((rd_T32 x180006 x10).f0) ((rd_T32 x180006 x10).f1) ((rd_T32 x180006 x10).f2) ((rd_T32 x180006 x10).f3) ((rd_T32 x180006 x10).f4) ((rd_T32 x180006 x10).f5) ((rd_T32 x180006 x10).f6)).bind fun t188=>(if t188=true then((arboristref46_All.f k x179000 x179001 x179002 x179003 x179004 ((rd_T32 x180006 x10).f0) ((rd_T32 x180006 x10).f1) ((rd_T32 x180006 x10).f2) ((rd_T32 x180006 x10).f3) ((rd_T32 x180006 x10).f4) ((rd_T32 x180006 x10).f5) ((rd_T32 x180006 x10).f6) x11 x12).bind fun t190=>(if x9.length + t190.length < 1034834473200 then(arboristref46_All.l0 k x2 x3 (x9 ++ t190) (wrap64 (x10 + 1)) x179000 x179001 x179002 x179003 x179004 x180000 x180001 x180002 x180003 x180004 x180005 x180006)else(none)))else(if x9.length < 1034834473200 then(arboristref46_All.l0 k x2 x3 (x9 ++ [(⟨(⟨(rd_T32 x180006 x10).f0,(rd_T32 x180006 x10).f1,(rd_T32 x180006 x10).f2,(rd_T32 x180006 x10).f3,(rd_T32 x180006 x10).f4,(rd_T32 x180006 x10).f5,(rd_T32 x180006 x10).f6⟩:S32),x11,x12⟩:S65)]) (wrap64 (x10 + 1)) x179000 x179001 x179002 x179003 x179004 x180000 x180001 x180002 x180003 x180004 x180005 x180006)else(none))))else(none))else(none)
def arboristref46_All.f:Nat→List ByteArray→List ByteArray→List Int→List (S67)→List (S78)→Int→Int→Int→Int→List (S53)→ByteArray→List (S32)→List Int→ByteArray→Option ((List (S65)))
 | 0,_,_,_,_,_,_,_,_,_,_,_,_,_,_=>none
 | k + 1,l0_0,l0_1,l0_2,l0_3,l0_4,a1_0,a1_1,a1_2,a1_3,l1_4,a1_5,l1_6,l2,a3=>arboristref46_All.l0 k l2 a3 ([]:List (S65)) 0 l0_0 l0_1 l0_2 l0_3 l0_4 a1_0 a1_1 a1_2 a1_3 l1_4 a1_5 l1_6
end
def arboristref46_All.T12:Bool × List (List Nat × List Nat):=(true,[([],[]),([],[]),([],[]),([2],[2]),([],[]),([3,4],[3,4]),([5],[5]),([],[]),([],[]),([1,6,7,8],[1,6,7,8]),([0,9,9],[0,9]),([10,10,0,1,2,3,4,5,6,7,8,9,10],[0,10])])
def arboristref46_All.B12:List Nat:=[0,0,0,4,0,28,60,0,0,510,1023,2047]
theorem arboristref46_All.tab12:rtab .any (opsOf Try.f32 12)=arboristref46_All.T12:=by kernel_rfl
theorem arboristref46_All.bits12:waitsOk arboristref46_All.T12.2 arboristref46_All.B12=true:=by kernel_rfl
set_option maxHeartbeats 8000000 in
set_option maxRecDepth 100000 in
theorem arboristref46_All.calls (k:Nat):∀ (A0_0:Option Addr)(c0_0:Nat)(l0_0:List ByteArray)(A0_1:Option Addr)(c0_1:Nat)(l0_1:List ByteArray)(A0_2:Option Addr)(c0_2:Nat)(l0_2:List Int)(A0_3:Option Addr)(c0_3:Nat)(l0_3:List (S67))(A0_4:Option Addr)(c0_4:Nat)(l0_4:List (S78))(a1_0:Int)(a1_1:Int)(a1_2:Int)(a1_3:Int)(A1_4:Option Addr)(c1_4:Nat)(l1_4:List (S53))(a1_5:ByteArray)(P1_6_:Nat→Prop)(A1_6:Option Addr)(c1_6:Nat)(l1_6:List (S32))(A2:Option Addr)(c2:Nat)(l2:List Int)(a3:ByteArray)(r:List (S65))(w:World)(hr0_0:Kd.C Kd.string w A0_0 l0_0.length l0_0)(hc0_0:l0_0.length≤c0_0)(hr0_1:Kd.C Kd.string w A0_1 l0_1.length l0_1)(hc0_1:l0_1.length≤c0_1)(hr0_2:Kd.C (Kd.int .i64) w A0_2 l0_2.length l0_2)(hc0_2:l0_2.length≤c0_2)(hr0_3:Kd.C k67 w A0_3 l0_3.length l0_3)(hc0_3:l0_3.length≤c0_3)(hr0_4:Kd.C k78 w A0_4 l0_4.length l0_4)(hc0_4:l0_4.length≤c0_4)(hr1_4:Kd.C k53 w A1_4 l1_4.length l1_4)(hc1_4:l1_4.length≤c1_4)(hs1_6:Kd.V k32 32 w w.heap.size (fun k_=>P1_6_ k_) (.slice A1_6 l1_6.length c1_6) l1_6)(hr2:Kd.C (Kd.int .i64) w A2 l2.length l2)(hc2:l2.length≤c2)(h:arboristref46_All.f k l0_0 l0_1 l0_2 l0_3 l0_4 a1_0 a1_1 a1_2 a1_3 l1_4 a1_5 l1_6 l2 a3=some r),
  Calls Try.prog 32 #[.agg #[.slice A0_0 l0_0.length c0_0,.slice A0_1 l0_1.length c0_1,.slice A0_2 l0_2.length c0_2,.slice A0_3 l0_3.length c0_3,.slice A0_4 l0_4.length c0_4],.agg #[.int .i64 a1_0,.int .i64 a1_1,.int .i64 a1_2,.int .i64 a1_3,.slice A1_4 l1_4.length c1_4,.string a1_5,.slice A1_6 l1_6.length c1_6],.slice A2 l2.length c2,.string a3] w fun e w'=>∃ v0_:Value,e=.returned (v0_)∧Kd.N k65 65 w' w.heap.size (fun k_=>(P1_6_ k_∨w.heap.size≤k_)) v0_ r∧Below w.heap.size w w':=by
 induction k using Nat.strongRecOn with
 | _ k ih =>
 intro A0_0 c0_0 l0_0 A0_1 c0_1 l0_1 A0_2 c0_2 l0_2 A0_3 c0_3 l0_3 A0_4 c0_4 l0_4 a1_0 a1_1 a1_2 a1_3 A1_4 c1_4 l1_4 a1_5 P1_6_ A1_6 c1_6 l1_6 A2 c2 l2 a3 r w hr0_0 hc0_0 hr0_1 hc0_1 hr0_2 hc0_2 hr0_3 hc0_3 hr0_4 hc0_4 hr1_4 hc1_4 hs1_6 hr2 hc2 h
 cases k with
 | zero=>exact absurd h (by simp [arboristref46_All.f])
 | succ k =>
 simp only [arboristref46_All.f] at h
 have hu27:=Try.underlying27
 have hu32:=Try.underlying32
 have hu65:=Try.underlying65
 have HR0_0:=Az.mk hr0_0
 have HC0_0:=Az.mk hc0_0
 clear hr0_0 hc0_0
 have HR0_1:=Az.mk hr0_1
 have HC0_1:=Az.mk hc0_1
 clear hr0_1 hc0_1
 have HR0_2:=Az.mk hr0_2
 have HC0_2:=Az.mk hc0_2
 clear hr0_2 hc0_2
 have HR0_3:=Az.mk hr0_3
 have HC0_3:=Az.mk hc0_3
 clear hr0_3 hc0_3
 have HR0_4:=Az.mk hr0_4
 have HC0_4:=Az.mk hc0_4
 clear hr0_4 hc0_4
 have HR1_4:=Az.mk hr1_4
 have HC1_4:=Az.mk hc1_4
 clear hr1_4 hc1_4
 have HO1_6:=Az.mk (show Kd.V k32 32 w w.heap.size (fun k_=>(P1_6_ k_∨w.heap.size≤k_)) (.slice A1_6 l1_6.length c1_6) l1_6 from Kd.V_mono hs1_6 (fun k_ hk=>.inl hk))
 have HR2:=Az.mk hr2
 have HC2:=Az.mk hc2
 clear hr2 hc2
 have HB:=Az.mk (Below.refl w.heap.size w)
 have H:(arboristref46_All.l0 k l2 a3 ([]:List (S65)) 0 l0_0 l0_1 l0_2 l0_3 l0_4 a1_0 a1_1 a1_2 a1_3 l1_4 a1_5 l1_6)=some r:=h
 clear h
 have H':=Az.mk H
 clear H
 go_enter Try.func32,Try.ntmps32
 go_wp2_with (first|((with_reducible refine gate_dst (N:=4) rfl ?_);refine box_event ?hg (N:=4) ?hd (cs:=#[.slice A0_0 l0_0.length c0_0,.slice A0_1 l0_1.length c0_1,.slice A0_2 l0_2.length c0_2,.slice A0_3 l0_3.length c0_3,.slice A0_4 l0_4.length c0_4]) (t:=27) ?hr ?_;(case hd=>rfl);(case hg=>rfl);(case hr=>first|(go_simp;done)|(go_simp;rfl));intro gb178 hg w5 hbox hb;have n0_:=Az.mk (Kd.V_below (Kd.V_elderB (by(with_reducible repeat (first|apply Kd.V_alloc|apply Kd.V_drewN|apply Kd.V_drew));exact HO1_6.out) gb178 (Nat.le_of_eq hg.symm)) hb);have n1_:=Az.mk (bT_ (by repeat (first|(with_reducible first|exact HB.out|apply bA_|apply bN_|apply bD_)|exact HB.out)) hb);have n2_:=Az.mk (hbox);have n3_:=Az.mk ((by rw [hg];exact(bZ_ (by repeat (first|(with_reducible first|exact HB.out|apply bA_|apply bN_|apply bD_)|exact HB.out))):w.heap.size≤gb178));have n4_:=Az.mk ((by rw [hg];exact(bZ_ (by repeat (first|(with_reducible first|exact HB.out|apply bA_|apply bN_|apply bD_)|exact HB.out))):w.heap.size≤gb178));clear HO1_6;clear HB;have HO1_6:=n0_;have HB:=n1_;have BK178:=n2_;have GW178:=n3_;have GE178:=n4_;clear n0_ n1_ n2_ n3_ n4_;clear hb hbox hg)|((with_reducible refine gate_dst (N:=5) rfl ?_);refine box_event ?hg (N:=5) ?hd (cs:=#[.int .i64 a1_0,.int .i64 a1_1,.int .i64 a1_2,.int .i64 a1_3,.slice A1_4 l1_4.length c1_4,.string a1_5,.slice A1_6 l1_6.length c1_6]) (t:=32) ?hr ?_;(case hd=>rfl);(case hg=>rfl);(case hr=>first|(go_simp;done)|(go_simp;rfl));intro gb179 hg w6 hbox hb;have n0_:=Az.mk (Kd.V_below (Kd.V_elderB (by(with_reducible repeat (first|apply Kd.V_alloc|apply Kd.V_drewN|apply Kd.V_drew));exact HO1_6.out) gb179 (Nat.le_of_eq hg.symm)) hb);have n1_:=Az.mk (kB_ (g:=gb178) (o:=.cells #[.slice A0_0 l0_0.length c0_0,.slice A0_1 l0_1.length c0_1,.slice A0_2 l0_2.length c0_2,.slice A0_3 l0_3.length c0_3,.slice A0_4 l0_4.length c0_4] 27 (0,0)) (by(with_reducible repeat (first|refine kN_ ?_ _|refine kD_ ?_|refine kA_ ?_ _));exact BK178.out) hb);have n2_:=Az.mk (bT_ (by repeat (first|(with_reducible first|exact HB.out|apply bA_|apply bN_|apply bD_|refine bS_ ?_ GE178.out)|exact HB.out)) hb);have n3_:=Az.mk (hbox);have n4_:=Az.mk ((by rw [hg];exact(bZ_ (by repeat (first|(with_reducible first|exact HB.out|apply bA_|apply bN_|apply bD_|refine bS_ ?_ GE178.out)|exact HB.out))):w.heap.size≤gb179));have n5_:=Az.mk ((by rw [hg];exact(bZ_ (by repeat (first|(with_reducible first|exact HB.out|apply bA_|apply bN_|apply bD_|refine bS_ ?_ GE178.out)|exact HB.out))):w.heap.size≤gb179));have n6_:=Az.mk ((by rw [hg];exact Nat.ne_of_lt (blk_lt (g:=gb178) (o:=.cells #[.slice A0_0 l0_0.length c0_0,.slice A0_1 l0_1.length c0_1,.slice A0_2 l0_2.length c0_2,.slice A0_3 l0_3.length c0_3,.slice A0_4 l0_4.length c0_4] 27 (0,0)) (by(with_reducible repeat (first|refine kN_ ?_ _|refine kD_ ?_|refine kA_ ?_ _));exact BK178.out)):gb178≠gb179));have n7_:=Az.mk ((by rw [hg];exact Nat.ne_of_gt (blk_lt (g:=gb178) (o:=.cells #[.slice A0_0 l0_0.length c0_0,.slice A0_1 l0_1.length c0_1,.slice A0_2 l0_2.length c0_2,.slice A0_3 l0_3.length c0_3,.slice A0_4 l0_4.length c0_4] 27 (0,0)) (by(with_reducible repeat (first|refine kN_ ?_ _|refine kD_ ?_|refine kA_ ?_ _));exact BK178.out)):gb179≠gb178));clear HO1_6;clear BK178;clear HB;have HO1_6:=n0_;have BK178:=n1_;have HB:=n2_;have BK179:=n3_;have GW179:=n4_;have GE179:=n5_;have NB178_179:=n6_;have NB179_178:=n7_;clear n0_ n1_ n2_ n3_ n4_ n5_ n6_ n7_;clear hb hbox hg))
 go_loopg [9,10] k (fun kq v9 v10 w'=>∃ (x9_1:List (S65)) (x10_1:Int),v10=.int .i64 x10_1∧Az (arboristref46_All.l0 kq l2 a3 x9_1 x10_1 l0_0 l0_1 l0_2 l0_3 l0_4 a1_0 a1_1 a1_2 a1_3 l1_4 a1_5 l1_6=some r)∧Az (kq≤k)∧Az (Kd.N k65 65 w' w.heap.size (fun k_=>(P1_6_ k_∨w.heap.size≤k_)∧k_≠gb178∧k_≠gb179) v9 x9_1)∧Az (Kd.V k32 32 w' w.heap.size (fun k_=>(P1_6_ k_∨w.heap.size≤k_)∧some k_≠(v9:Value).ownBlock∧k_≠gb178∧k_≠gb179) (.slice A1_6 l1_6.length c1_6) l1_6)∧Az (w'.heap[gb178]?=some (.cells #[(.slice A0_0 l0_0.length c0_0),(.slice A0_1 l0_1.length c0_1),(.slice A0_2 l0_2.length c0_2),(.slice A0_3 l0_3.length c0_3),(.slice A0_4 l0_4.length c0_4)] 27 (0,0)))∧Az (w'.heap[gb179]?=some (.cells #[.int .i64 a1_0,.int .i64 a1_1,.int .i64 a1_2,.int .i64 a1_3,(.slice A1_4 l1_4.length c1_4),.string a1_5,(.slice A1_6 l1_6.length c1_6)] 32 (0,0)))∧Az (Below w.heap.size w w'))
 case atStart=>exact⟨(([]:List (S65))),(0),(by first|rfl|(simp;done)|(simp [*];done)|(refine congrArg Value.bool ?_;exact isE_ _)),H',⟨Nat.le_refl _⟩,⟨by first|exact Kd.R_nil _ _ _ _ _|exact Kd.N_nil _ _ _ _ _|exact Kd.V_nil _ _ _ _ _|exact Kd.Q_nil _ _ _ _ _|exact Kd.S_nil _ _ _ _ _⟩,⟨by(with_reducible repeat (first|apply Kd.V_alloc|apply Kd.V_drewN|apply Kd.V_drew));exact Kd.V_mono HO1_6.out (fun _ hk=>⟨hk.1.1,⟨(by simp [Value.ownBlock]),⟨hk.1.2,hk.2⟩⟩⟩)⟩,⟨by(with_reducible repeat (first|refine kN_ ?_ _|refine kD_ ?_|refine kA_ ?_ _));exact BK178.out⟩,⟨by(with_reducible repeat (first|refine kN_ ?_ _|refine kD_ ?_|refine kA_ ?_ _));exact BK179.out⟩,⟨by repeat (first|(with_reducible first|exact HB.out|apply bA_|apply bN_|apply bD_|refine bS_ ?_ GE178.out|refine bS_ ?_ GE179.out)|exact HB.out)⟩⟩
 case round =>
  clear H'
  try clear c1
  try clear c2
  try clear p2
  try clear c3
  obtain⟨x9_1,x10_1,rfl,HA,HK1,HO_9,HO_180006,BK178,BK179,HB⟩:=hrel
  cases gk with
  | zero=>exact absurd HA.out (by simp [arboristref46_All.l0])
  | succ k1 =>
   have H:=HA.out
   clear HA
   simp only [arboristref46_All.l0] at H
   by_cases c7:x10_1 < (l1_6.length:Int)
   ·rw [if_pos c7] at H
    have c7b0:decide (x10_1 < (l1_6.length:Int))=true:=decide_eq_true c7
    clear c7
    by_cases c8:([]:List Int).length + l2.length < 17592186044416
    ·rw [if_pos c8] at H
     have LMc8:=Az.mk c8
     clear c8
     obtain⟨y180,hy180⟩:∃ y_:List Int,y_=(([]:List Int) ++ l2):=⟨_,rfl⟩
     replace H:(if y180.length < 17592186044416 then((some (y180 ++ [x10_1]:List Int)).bind fun y183=>((arboristref46_field.f l0_0 l0_1 l0_2 l0_3 l0_4 a1_0 a1_1 a1_2 a1_3 l1_4 a1_5 l1_6 x10_1).bind fun t186=>(if t186.toList=([]:List UInt8)then(arboristref46_All.j1 k1 l2 a3 x9_1 x10_1 y183 a3 l0_0 l0_1 l0_2 l0_3 l0_4 a1_0 a1_1 a1_2 a1_3 l1_4 a1_5 l1_6)else(arboristref46_All.j1 k1 l2 a3 x9_1 x10_1 y183 t186 l0_0 l0_1 l0_2 l0_3 l0_4 a1_0 a1_1 a1_2 a1_3 l1_4 a1_5 l1_6))))else(none))=some r:=by first|(rw [hy180];with_reducible exact H)|(have H2_:=(Option.bind_some _ _).symm.trans H;rw [hy180];with_reducible exact H2_)|(have H2_:=(Option.bind_some _ _).symm.trans H;with_reducible exact H2_)|with_reducible exact H|(rw [hy180];exact H)|exact H
     have Ny180:=Az.mk hy180
     clear hy180
     by_cases c9:y180.length < 17592186044416
     ·rw [if_pos c9] at H
      have LMc9:=Az.mk c9
      clear c9
      obtain⟨y183,hy183⟩:∃ y_:List Int,y_=(y180 ++ [x10_1]):=⟨_,rfl⟩
      replace H:((arboristref46_field.f l0_0 l0_1 l0_2 l0_3 l0_4 a1_0 a1_1 a1_2 a1_3 l1_4 a1_5 l1_6 x10_1).bind fun t186=>(if t186.toList=([]:List UInt8)then(arboristref46_All.j1 k1 l2 a3 x9_1 x10_1 y183 a3 l0_0 l0_1 l0_2 l0_3 l0_4 a1_0 a1_1 a1_2 a1_3 l1_4 a1_5 l1_6)else(arboristref46_All.j1 k1 l2 a3 x9_1 x10_1 y183 t186 l0_0 l0_1 l0_2 l0_3 l0_4 a1_0 a1_1 a1_2 a1_3 l1_4 a1_5 l1_6)))=some r:=by first|(rw [hy183];with_reducible exact H)|(have H2_:=(Option.bind_some _ _).symm.trans H;rw [hy183];with_reducible exact H2_)|(have H2_:=(Option.bind_some _ _).symm.trans H;with_reducible exact H2_)|with_reducible exact H|(rw [hy183];exact H)|exact H
      have Ny183:=Az.mk hy183
      clear hy183
      replace H:=Option.bind_eq_some_iff.mp H
      obtain⟨t186,A100,H⟩:=H
      replace H:(if t186.toList=([]:List UInt8)then(arboristref46_All.j1 k1 l2 a3 x9_1 x10_1 y183 a3 l0_0 l0_1 l0_2 l0_3 l0_4 a1_0 a1_1 a1_2 a1_3 l1_4 a1_5 l1_6)else(arboristref46_All.j1 k1 l2 a3 x9_1 x10_1 y183 t186 l0_0 l0_1 l0_2 l0_3 l0_4 a1_0 a1_1 a1_2 a1_3 l1_4 a1_5 l1_6))=some r:=H
      have A10:=Az.mk A100
      clear A100
      have HC11:=Az.mk H
      clear H
      have hnb12:=NB179_178.out
      have hnc12:=NB178_179.out
      have hcz13_0:wr.cell? ⟨gb179,0,none⟩=some (.int .i64 a1_0):=(bC_ BK179.out 0).trans rfl
      have hcz13_1:wr.cell? ⟨gb179,1,none⟩=some (.int .i64 a1_1):=(bC_ BK179.out 1).trans rfl
      have hcz13_2:wr.cell? ⟨gb179,2,none⟩=some (.int .i64 a1_2):=(bC_ BK179.out 2).trans rfl
      have hcz13_3:wr.cell? ⟨gb179,3,none⟩=some (.int .i64 a1_3):=(bC_ BK179.out 3).trans rfl
      have hcz13_4:wr.cell? ⟨gb179,4,none⟩=some (.slice A1_4 l1_4.length c1_4):=(bC_ BK179.out 4).trans rfl
      have hcz13_5:wr.cell? ⟨gb179,5,none⟩=some (.string a1_5):=(bC_ BK179.out 5).trans rfl
      have hcz13_6:wr.cell? ⟨gb179,6,none⟩=some (.slice A1_6 l1_6.length c1_6):=(bC_ BK179.out 6).trans rfl
      have hfz13_0:=bF_ BK179.out 0
      have hfz13_1:=bF_ BK179.out 1
      have hfz13_2:=bF_ BK179.out 2
      have hfz13_3:=bF_ BK179.out 3
      have hfz13_4:=bF_ BK179.out 4
      have hfz13_5:=bF_ BK179.out 5
      have hfz13_6:=bF_ BK179.out 6
      go_upto_if 32 with(first|((with_reducible refine gate_builtin (b:=.append) (xs:=#[.tmp 20,.tmp 21]) rfl ?_);at_builtin;refine Kd.R_append_rows (Kd.int .i64) (w0:=w) w.heap.size rfl (.tmp 20) (.tmp 21) 42 3 (.int .i64 0) 8 rfl Try.underlying42 info3 rfl (by decide) (by omega) (.slice none 0 0) ([]:List Int) l2 _ _ _ (fun k_=>(w.heap.size≤k_)) (fun _=>False) rfl rfl ?aO ?aR (fun _ _ h=>h) (fun _ h=>h.elim) ?aF ?aB ?aS ?aL ?_;(case aR=>repeat (first|exact(Kd.C_below HR2.out HB.out)|(with_reducible first|refine Kd.C_alloc ?_ _|refine Kd.C_drewN ?_ _|refine Kd.C_drew ?_)));(case aB=>exact(by repeat (first|(with_reducible first|exact HB.out|apply bA_|apply bN_|apply bD_|refine bS_ ?_ GE178.out|refine bS_ ?_ GE179.out)|exact HB.out)));(case aF=>exact(fun k_ hk=>(Nat.le_trans (bZ_ (by repeat (first|(with_reducible first|exact HB.out|apply bA_|apply bN_|apply bD_|refine bS_ ?_ GE178.out|refine bS_ ?_ GE179.out)|exact HB.out))) hk)));(case aO=>exact((Kd.R_nil _ _ _ _ (fun k_=>(w.heap.size≤k_)))));(case aS=>exact(bZ_ (by repeat (first|(with_reducible first|exact HB.out|apply bA_|apply bN_|apply bD_|refine bS_ ?_ GE178.out|refine bS_ ?_ GE179.out)|exact HB.out))));(case aL=>have:=LMc8.out;omega);intro v181 w14 ho hb hg hat;rw [← Ny180.out] at ho;have n0_:=Az.mk (Kd.N_afterv (Kd.N_apart_nil (by(with_reducible repeat (first|apply Kd.N_alloc|apply Kd.N_drewN|apply Kd.N_drew));exact HO_9.out)) hg hat);have n1_:=Az.mk (Kd.V_afterv (Kd.V_apart_nil (by(with_reducible repeat (first|apply Kd.V_alloc|apply Kd.V_drewN|apply Kd.V_drew));exact HO_180006.out)) hg hat);have n2_:=Az.mk (blk_grown (g:=gb178) (o:=.cells #[.slice A0_0 l0_0.length c0_0,.slice A0_1 l0_1.length c0_1,.slice A0_2 l0_2.length c0_2,.slice A0_3 l0_3.length c0_3,.slice A0_4 l0_4.length c0_4] 27 (0,0)) (by(with_reducible repeat (first|refine kN_ ?_ _|refine kD_ ?_|refine kA_ ?_ _));exact BK178.out) hg (by simp [Value.ownBlock]));have n3_:=Az.mk (blk_grown (g:=gb179) (o:=.cells #[.int .i64 a1_0,.int .i64 a1_1,.int .i64 a1_2,.int .i64 a1_3,.slice A1_4 l1_4.length c1_4,.string a1_5,.slice A1_6 l1_6.length c1_6] 32 (0,0)) (by(with_reducible repeat (first|refine kN_ ?_ _|refine kD_ ?_|refine kA_ ?_ _));exact BK179.out) hg (by simp [Value.ownBlock]));have n4_:=Az.mk (hb);have n5_:=Az.mk (ho);clear HO_9;clear HO_180006;clear BK178;clear BK179;clear HB;have HO_9:=n0_;have HO_180006:=n1_;have BK178:=n2_;have BK179:=n3_;have HB:=n4_;have HO182:=n5_;clear n0_ n1_ n2_ n3_ n4_ n5_;clear ho hb hg hat)|((with_reducible refine gate_builtin (b:=.append) (xs:=#[.tmp 23,.tmp 25]) rfl ?_);at_builtin;refine Kd.R_append (Kd.int .i64) (w0:=w) w.heap.size rfl (.tmp 23) (.tmp 25) 42 3 (.int .i64 0) 8 rfl Try.underlying42 info3 rfl (by decide) (by omega) v181 y180 x10_1 [.int .i64 x10_1] (fun k_=>(w.heap.size≤k_)) (fun _=>False) rfl rfl ?aP (fun _ hk=>hk.elim) ?aF ?aO ?aB ?aS ?aL ?_;(case aP=>exact rfl);(case aB=>exact(by repeat (first|(with_reducible first|exact HB.out|apply bA_|apply bN_|apply bD_|refine bS_ ?_ GE178.out|refine bS_ ?_ GE179.out)|exact HB.out)));(case aF=>exact(fun k_ hk=>(Nat.le_trans (bZ_ (by repeat (first|(with_reducible first|exact HB.out|apply bA_|apply bN_|apply bD_|refine bS_ ?_ GE178.out|refine bS_ ?_ GE179.out)|exact HB.out))) hk)));(case aO=>exact(by(with_reducible repeat (first|apply Kd.R_alloc|apply Kd.R_drewN|apply Kd.R_drew));exact HO182.out));(case aS=>exact(bZ_ (by repeat (first|(with_reducible first|exact HB.out|apply bA_|apply bN_|apply bD_|refine bS_ ?_ GE178.out|refine bS_ ?_ GE179.out)|exact HB.out))));(case aL=>have:=LMc9.out;omega);intro v184 w15 ho hb hg hat;rw [← Ny183.out] at ho;have n0_:=Az.mk (Kd.N_afterv (ok:=(fun k_=>(P1_6_ k_∨w.heap.size≤k_)∧k_≠gb178∧k_≠gb179)) (by(with_reducible repeat (first|apply Kd.N_alloc|apply Kd.N_drewN|apply Kd.N_drew));exact HO_9.out) hg hat);have n1_:=Az.mk (Kd.V_afterv (ok:=(fun k_=>(P1_6_ k_∨w.heap.size≤k_)∧some k_≠(u9:Value).ownBlock∧k_≠gb178∧k_≠gb179)) (by(with_reducible repeat (first|apply Kd.V_alloc|apply Kd.V_drewN|apply Kd.V_drew));exact HO_180006.out) hg hat);have n2_:=Az.mk (blk_grown (g:=gb178) (o:=.cells #[.slice A0_0 l0_0.length c0_0,.slice A0_1 l0_1.length c0_1,.slice A0_2 l0_2.length c0_2,.slice A0_3 l0_3.length c0_3,.slice A0_4 l0_4.length c0_4] 27 (0,0)) (by(with_reducible repeat (first|refine kN_ ?_ _|refine kD_ ?_|refine kA_ ?_ _));exact BK178.out) hg (Kd.R_ne HO182.out BK178.out (by decide)));have n3_:=Az.mk (blk_grown (g:=gb179) (o:=.cells #[.int .i64 a1_0,.int .i64 a1_1,.int .i64 a1_2,.int .i64 a1_3,.slice A1_4 l1_4.length c1_4,.string a1_5,.slice A1_6 l1_6.length c1_6] 32 (0,0)) (by(with_reducible repeat (first|refine kN_ ?_ _|refine kD_ ?_|refine kA_ ?_ _));exact BK179.out) hg (Kd.R_ne HO182.out BK179.out (by decide)));have n4_:=Az.mk (hb);have n5_:=Az.mk (ho);clear HO_9;clear HO_180006;clear BK178;clear BK179;clear HB;clear HO182;have HO_9:=n0_;have HO_180006:=n1_;have BK178:=n2_;have BK179:=n3_;have HB:=n4_;have HO185:=n5_;clear n0_ n1_ n2_ n3_ n4_ n5_;clear ho hb hg hat;have hcz16_0:w15.cell? ⟨gb178,0,none⟩=some (.slice A0_0 l0_0.length c0_0):=(bC_ BK178.out 0).trans rfl;have hcz16_1:w15.cell? ⟨gb178,1,none⟩=some (.slice A0_1 l0_1.length c0_1):=(bC_ BK178.out 1).trans rfl;have hcz16_2:w15.cell? ⟨gb178,2,none⟩=some (.slice A0_2 l0_2.length c0_2):=(bC_ BK178.out 2).trans rfl;have hcz16_3:w15.cell? ⟨gb178,3,none⟩=some (.slice A0_3 l0_3.length c0_3):=(bC_ BK178.out 3).trans rfl;have hcz16_4:w15.cell? ⟨gb178,4,none⟩=some (.slice A0_4 l0_4.length c0_4):=(bC_ BK178.out 4).trans rfl;have hfz16_0:=bF_ BK178.out 0;have hfz16_1:=bF_ BK178.out 1;have hfz16_2:=bF_ BK178.out 2;have hfz16_3:=bF_ BK178.out 3;have hfz16_4:=bF_ BK178.out 4;have hcz17_0:w15.cell? ⟨gb179,0,none⟩=some (.int .i64 a1_0):=(bC_ BK179.out 0).trans rfl;have hcz17_1:w15.cell? ⟨gb179,1,none⟩=some (.int .i64 a1_1):=(bC_ BK179.out 1).trans rfl;have hcz17_2:w15.cell? ⟨gb179,2,none⟩=some (.int .i64 a1_2):=(bC_ BK179.out 2).trans rfl;have hcz17_3:w15.cell? ⟨gb179,3,none⟩=some (.int .i64 a1_3):=(bC_ BK179.out 3).trans rfl;have hcz17_4:w15.cell? ⟨gb179,4,none⟩=some (.slice A1_4 l1_4.length c1_4):=(bC_ BK179.out 4).trans rfl;have hcz17_5:w15.cell? ⟨gb179,5,none⟩=some (.string a1_5):=(bC_ BK179.out 5).trans rfl;have hcz17_6:w15.cell? ⟨gb179,6,none⟩=some (.slice A1_6 l1_6.length c1_6):=(bC_ BK179.out 6).trans rfl;have hfz17_0:=bF_ BK179.out 0;have hfz17_1:=bF_ BK179.out 1;have hfz17_2:=bF_ BK179.out 2;have hfz17_3:=bF_ BK179.out 3;have hfz17_4:=bF_ BK179.out 4;have hfz17_5:=bF_ BK179.out 5;have hfz17_6:=bF_ BK179.out 6)|((with_reducible refine gate_callee (f:=45) rfl ?_);refine goesL_ (some 30) rfl rfl Try.func45 (by kernel_rfl) rfl #[.agg #[.slice A0_0 l0_0.length c0_0,.slice A0_1 l0_1.length c0_1,.slice A0_2 l0_2.length c0_2,.slice A0_3 l0_3.length c0_3,.slice A0_4 l0_4.length c0_4],.agg #[.int .i64 a1_0,.int .i64 a1_1,.int .i64 a1_2,.int .i64 a1_3,.slice A1_4 l1_4.length c1_4,.string a1_5,.slice A1_6 l1_6.length c1_6],.int .i64 x10_1] rfl (by(try simp only [List.map_toArray,List.map_cons,List.map_nil]);first|done|rfl|(simp only [List.length_drop,List.length_take];rfl)) ?_;(with_reducible refine(arboristref46_field.calls _ _ l0_0 _ _ l0_1 _ _ l0_2 _ _ l0_3 _ _ l0_4 a1_0 a1_1 a1_2 a1_3 _ _ l1_4 a1_5 _ _ l1_6 x10_1 t186 _ ?side1 ?side2 ?side3 ?side4 ?side5 ?side6 ?side7 ?side8 ?side9 ?side10 ?side11 ?side12 ?side13 ?side14 A10.out).mono ?_);(case side1=>repeat (first|exact(Kd.C_below HR0_0.out HB.out)|(with_reducible first|refine Kd.C_alloc ?_ _|refine Kd.C_drewN ?_ _|refine Kd.C_drew ?_)));(case side2=>exact HC0_0.out);(case side3=>repeat (first|exact(Kd.C_below HR0_1.out HB.out)|(with_reducible first|refine Kd.C_alloc ?_ _|refine Kd.C_drewN ?_ _|refine Kd.C_drew ?_)));(case side4=>exact HC0_1.out);(case side5=>repeat (first|exact(Kd.C_below HR0_2.out HB.out)|(with_reducible first|refine Kd.C_alloc ?_ _|refine Kd.C_drewN ?_ _|refine Kd.C_drew ?_)));(case side6=>exact HC0_2.out);(case side7=>repeat (first|exact(Kd.C_below HR0_3.out HB.out)|(with_reducible first|refine Kd.C_alloc ?_ _|refine Kd.C_drewN ?_ _|refine Kd.C_drew ?_)));(case side8=>exact HC0_3.out);(case side9=>repeat (first|exact(Kd.C_below HR0_4.out HB.out)|(with_reducible first|refine Kd.C_alloc ?_ _|refine Kd.C_drewN ?_ _|refine Kd.C_drew ?_)));(case side10=>exact HC0_4.out);(case side11=>repeat (first|exact(Kd.C_below HR1_4.out HB.out)|(with_reducible first|refine Kd.C_alloc ?_ _|refine Kd.C_drewN ?_ _|refine Kd.C_drew ?_)));(case side12=>exact HC1_4.out);(case side13=>repeat (first|exact(Kd.V_reads' HO_180006.out).2.2|(with_reducible first|refine Kd.C_alloc ?_ _|refine Kd.C_drewN ?_ _|refine Kd.C_drew ?_)));(case side14=>exact(Kd.V_reads' HO_180006.out).2.1);rintro e w18 ⟨rfl,hb⟩;refine⟨_,rfl,?_⟩;have n0_:=Az.mk (Kd.N_below (by(with_reducible repeat (first|apply Kd.N_alloc|apply Kd.N_drewN|apply Kd.N_drew));exact HO_9.out) hb);have n1_:=Az.mk (Kd.V_below (by(with_reducible repeat (first|apply Kd.V_alloc|apply Kd.V_drewN|apply Kd.V_drew));exact HO_180006.out) hb);have n2_:=Az.mk (Kd.R_below (by(with_reducible repeat (first|apply Kd.R_alloc|apply Kd.R_drewN|apply Kd.R_drew));exact HO185.out) hb);have n3_:=Az.mk (kB_ (g:=gb178) (o:=.cells #[.slice A0_0 l0_0.length c0_0,.slice A0_1 l0_1.length c0_1,.slice A0_2 l0_2.length c0_2,.slice A0_3 l0_3.length c0_3,.slice A0_4 l0_4.length c0_4] 27 (0,0)) (by(with_reducible repeat (first|refine kN_ ?_ _|refine kD_ ?_|refine kA_ ?_ _));exact BK178.out) hb);have n4_:=Az.mk (kB_ (g:=gb179) (o:=.cells #[.int .i64 a1_0,.int .i64 a1_1,.int .i64 a1_2,.int .i64 a1_3,.slice A1_4 l1_4.length c1_4,.string a1_5,.slice A1_6 l1_6.length c1_6] 32 (0,0)) (by(with_reducible repeat (first|refine kN_ ?_ _|refine kD_ ?_|refine kA_ ?_ _));exact BK179.out) hb);have n5_:=Az.mk (bT_ (by repeat (first|(with_reducible first|exact HB.out|apply bA_|apply bN_|apply bD_|refine bS_ ?_ GE178.out|refine bS_ ?_ GE179.out)|exact HB.out)) hb);clear HO_9;clear HO_180006;clear HO185;clear BK178;clear BK179;clear HB;have HO_9:=n0_;have HO_180006:=n1_;have HO185:=n2_;have BK178:=n3_;have BK179:=n4_;have HB:=n5_;clear n0_ n1_ n2_ n3_ n4_ n5_;(try clear hb);(try clear hb2);(try clear hk);(try clear hi)))
      (try simp only [Act.put,sT_,s0_,sC_])
      go_cut [12] (fun v12 wc=>∃ (kq:Nat) (x12_10:ByteArray),v12=.string x12_10∧Az (arboristref46_All.j1 kq l2 a3 x9_1 x10_1 y183 x12_10 l0_0 l0_1 l0_2 l0_3 l0_4 a1_0 a1_1 a1_2 a1_3 l1_4 a1_5 l1_6=some r)∧Az (kq≤k1)∧Az (Kd.N k65 65 wc w.heap.size (fun k_=>(P1_6_ k_∨w.heap.size≤k_)∧some k_≠(v184:Value).ownBlock∧k_≠gb178∧k_≠gb179) u9 x9_1)∧Az (Kd.R (Kd.int .i64) 3 wc w.heap.size (fun k_=>(w.heap.size≤k_)) v184 y183)∧Az (Kd.V k32 32 wc w.heap.size (fun k_=>(P1_6_ k_∨w.heap.size≤k_)∧some k_≠(u9:Value).ownBlock∧some k_≠(v184:Value).ownBlock∧k_≠gb178∧k_≠gb179) (.slice A1_6 l1_6.length c1_6) l1_6)∧Az (wc.heap[gb178]?=some (.cells #[(.slice A0_0 l0_0.length c0_0),(.slice A0_1 l0_1.length c0_1),(.slice A0_2 l0_2.length c0_2),(.slice A0_3 l0_3.length c0_3),(.slice A0_4 l0_4.length c0_4)] 27 (0,0)))∧Az (wc.heap[gb179]?=some (.cells #[.int .i64 a1_0,.int .i64 a1_1,.int .i64 a1_2,.int .i64 a1_3,(.slice A1_4 l1_4.length c1_4),.string a1_5,(.slice A1_6 l1_6.length c1_6)] 32 (0,0)))∧Az (Below w.heap.size w wc))
      case first =>
       have H:=HC11.out
       clear HC11
       by_cases c19:t186.toList=([]:List UInt8)
       ·rw [if_pos c19] at H
        have c19b0:(t186.toList == ([]:List UInt8))=true:=beq_iff_eq.mpr c19
        have c19b2:(t186.toList).isEmpty=true:=(show ∀ l_:List UInt8,(l_ == [])=true→l_.isEmpty=true from fun l_ h_=>by cases l_ <;> first|rfl|cases h_) _ c19b0
        have c19b3:(!(t186.toList).isEmpty)=false:=by rw [c19b2];rfl
        have c19b1:(t186.toList != ([]:List UInt8))=false:=bne_eq_false_iff_eq.mpr c19
        clear c19
        (first|rw [c19b0]|rw [c19b3]|rw [c19b2]|rw [c19b8]|rw [c19b7]|(simp only [i64_w,i32_w];rw [c19b0])|skip)
        have H':=Az.mk H
        clear H
        go_wp2
        go_meet
        case rel=>exact⟨_,(a3),(by first|rfl|(simp;done)|(simp [*];done)|(refine congrArg Value.bool ?_;exact isE_ _)),H',⟨by have:=HK1.out;first|omega|exact Nat.le_refl _⟩,⟨by(with_reducible repeat (first|apply Kd.N_alloc|apply Kd.N_drewN|apply Kd.N_drew));exact Kd.N_mono HO_9.out (fun _ hk=>⟨hk.1.1,⟨hk.2,⟨hk.1.2.1,hk.1.2.2⟩⟩⟩)⟩,⟨by(with_reducible repeat (first|apply Kd.R_alloc|apply Kd.R_drewN|apply Kd.R_drew));exact HO185.out⟩,⟨by(with_reducible repeat (first|apply Kd.V_alloc|apply Kd.V_drewN|apply Kd.V_drew));exact Kd.V_mono HO_180006.out (fun _ hk=>⟨hk.1.1,⟨hk.1.2.1,⟨hk.2,⟨hk.1.2.2.1,hk.1.2.2.2⟩⟩⟩⟩)⟩,⟨by(with_reducible repeat (first|refine kN_ ?_ _|refine kD_ ?_|refine kA_ ?_ _));exact BK178.out⟩,⟨by(with_reducible repeat (first|refine kN_ ?_ _|refine kD_ ?_|refine kA_ ?_ _));exact BK179.out⟩,⟨by repeat (first|(with_reducible first|exact HB.out|apply bA_|apply bN_|apply bD_|refine bS_ ?_ GE178.out|refine bS_ ?_ GE179.out)|exact HB.out)⟩⟩
       ·rw [if_neg c19] at H
        have c19b0:(t186.toList == ([]:List UInt8))=false:=beq_eq_false_iff_ne.mpr c19
        have c19b2:(t186.toList).isEmpty=false:=(show ∀ l_:List UInt8,(l_ == [])=false→l_.isEmpty=false from fun l_ h_=>by cases l_ <;> first|rfl|cases h_) _ c19b0
        have c19b3:(!(t186.toList).isEmpty)=true:=by rw [c19b2];rfl
        have c19b1:(t186.toList != ([]:List UInt8))=true:=bne_iff_ne.mpr c19
        (first|rw [c19b0]|rw [c19b3]|rw [c19b2]|rw [c19b8]|rw [c19b7]|(simp only [i64_w,i32_w];rw [c19b0])|skip)
        have H':=Az.mk H
        clear H
        go_wp2
        go_meet
        case rel=>exact⟨_,(t186),(by first|rfl|(simp;done)|(simp [*];done)|(refine congrArg Value.bool ?_;exact isE_ _)),H',⟨by have:=HK1.out;first|omega|exact Nat.le_refl _⟩,⟨by(with_reducible repeat (first|apply Kd.N_alloc|apply Kd.N_drewN|apply Kd.N_drew));exact Kd.N_mono HO_9.out (fun _ hk=>⟨hk.1.1,⟨hk.2,⟨hk.1.2.1,hk.1.2.2⟩⟩⟩)⟩,⟨by(with_reducible repeat (first|apply Kd.R_alloc|apply Kd.R_drewN|apply Kd.R_drew));exact HO185.out⟩,⟨by(with_reducible repeat (first|apply Kd.V_alloc|apply Kd.V_drewN|apply Kd.V_drew));exact Kd.V_mono HO_180006.out (fun _ hk=>⟨hk.1.1,⟨hk.1.2.1,⟨hk.2,⟨hk.1.2.2.1,hk.1.2.2.2⟩⟩⟩⟩)⟩,⟨by(with_reducible repeat (first|refine kN_ ?_ _|refine kD_ ?_|refine kA_ ?_ _));exact BK178.out⟩,⟨by(with_reducible repeat (first|refine kN_ ?_ _|refine kD_ ?_|refine kA_ ?_ _));exact BK179.out⟩,⟨by repeat (first|(with_reducible first|exact HB.out|apply bA_|apply bN_|apply bD_|refine bS_ ?_ GE178.out|refine bS_ ?_ GE179.out)|exact HB.out)⟩⟩
      case rest =>
       clear HC11
       try clear c1
       try clear c2
       try clear p2
       try clear c3
       try clear c4
       try clear c7
       try clear c7b0
       try clear c8
       try clear c9
       try clear c12
       try clear c19
       try clear c19b0
       try clear c19b1
       try clear hcz13_0
       try clear hcz13_1
       try clear hcz13_2
       try clear hcz13_3
       try clear hcz13_4
       try clear hcz13_5
       try clear hcz13_6
       try clear hcz16_0
       try clear hcz16_1
       try clear hcz16_2
       try clear hcz16_3
       try clear hcz16_4
       try clear hcz17_0
       try clear hcz17_1
       try clear hcz17_2
       try clear hcz17_3
       try clear hcz17_4
       try clear hcz17_5
       try clear hcz17_6
       try clear hfz13_0
       try clear hfz13_1
       try clear hfz13_2
       try clear hfz13_3
       try clear hfz13_4
       try clear hfz13_5
       try clear hfz13_6
       try clear hfz16_0
       try clear hfz16_1
       try clear hfz16_2
       try clear hfz16_3
       try clear hfz16_4
       try clear hfz17_0
       try clear hfz17_1
       try clear hfz17_2
       try clear hfz17_3
       try clear hfz17_4
       try clear hfz17_5
       try clear hfz17_6
       try clear p2
       obtain⟨kq,x12_10,rfl,HA,HJ10,HO_9,HO_11,HO_180006,BK178,BK179,HB⟩:=hcut
       cases kq with
       | zero=>exact absurd HA.out (by simp [arboristref46_All.j1])
       | succ kj10 =>
        have H:=HA.out
        clear HA
        simp only [arboristref46_All.j1] at H
        by_cases c20:0≤x10_1
        ·rw [if_pos c20] at H
         have c20b0:decide (0≤x10_1)=true:=decide_eq_true c20
         clear c20
         by_cases c21:x10_1 < (l1_6.length:Int)
         ·rw [if_pos c21] at H
          have c21b0:decide (x10_1 < (l1_6.length:Int))=true:=decide_eq_true c21
          clear c21
          replace H:=Option.bind_eq_some_iff.mp H
          obtain⟨t188,A220,H⟩:=H
          replace H:(if t188=true then((arboristref46_All.f kj10 l0_0 l0_1 l0_2 l0_3 l0_4 ((rd_T32 l1_6 x10_1).f0) ((rd_T32 l1_6 x10_1).f1) ((rd_T32 l1_6 x10_1).f2) ((rd_T32 l1_6 x10_1).f3) ((rd_T32 l1_6 x10_1).f4) ((rd_T32 l1_6 x10_1).f5) ((rd_T32 l1_6 x10_1).f6) y183 x12_10).bind fun t190=>(if x9_1.length + t190.length < 1034834473200 then(arboristref46_All.l0 kj10 l2 a3 (x9_1 ++ t190) (wrap64 (x10_1 + 1)) l0_0 l0_1 l0_2 l0_3 l0_4 a1_0 a1_1 a1_2 a1_3 l1_4 a1_5 l1_6)else(none)))else(if x9_1.length < 1034834473200 then(arboristref46_All.l0 kj10 l2 a3 (x9_1 ++ [(⟨(⟨(rd_T32 l1_6 x10_1).f0,(rd_T32 l1_6 x10_1).f1,(rd_T32 l1_6 x10_1).f2,(rd_T32 l1_6 x10_1).f3,(rd_T32 l1_6 x10_1).f4,(rd_T32 l1_6 x10_1).f5,(rd_T32 l1_6 x10_1).f6⟩:S32),y183,x12_10⟩:S65)]) (wrap64 (x10_1 + 1)) l0_0 l0_1 l0_2 l0_3 l0_4 a1_0 a1_1 a1_2 a1_3 l1_4 a1_5 l1_6)else(none)))=some r:=H
          have A22:=Az.mk A220
          clear A220
          by_cases c23:t188=true
          ·subst c23
           have H1:((arboristref46_All.f kj10 l0_0 l0_1 l0_2 l0_3 l0_4 ((rd_T32 l1_6 x10_1).f0) ((rd_T32 l1_6 x10_1).f1) ((rd_T32 l1_6 x10_1).f2) ((rd_T32 l1_6 x10_1).f3) ((rd_T32 l1_6 x10_1).f4) ((rd_T32 l1_6 x10_1).f5) ((rd_T32 l1_6 x10_1).f6) y183 x12_10).bind fun t190=>(if x9_1.length + t190.length < 1034834473200 then(arboristref46_All.l0 kj10 l2 a3 (x9_1 ++ t190) (wrap64 (x10_1 + 1)) l0_0 l0_1 l0_2 l0_3 l0_4 a1_0 a1_1 a1_2 a1_3 l1_4 a1_5 l1_6)else(none)))=some r:=by rw [if_pos rfl] at H;exact H
           clear H
           have H:=H1
           clear H1
           replace H:=Option.bind_eq_some_iff.mp H
           obtain⟨t190,A240,H⟩:=H
           replace H:(if x9_1.length + t190.length < 1034834473200 then(arboristref46_All.l0 kj10 l2 a3 (x9_1 ++ t190) (wrap64 (x10_1 + 1)) l0_0 l0_1 l0_2 l0_3 l0_4 a1_0 a1_1 a1_2 a1_3 l1_4 a1_5 l1_6)else(none))=some r:=H
           have A24:=Az.mk A240
           clear A240
           by_cases c25:x9_1.length + t190.length < 1034834473200
           ·rw [if_pos c25] at H
            have LMc25:=Az.mk c25
            clear c25
            obtain⟨y193,hy193⟩:∃ y_:List (S65),y_=(x9_1 ++ t190):=⟨_,rfl⟩
            replace H:(arboristref46_All.l0 kj10 l2 a3 y193 (wrap64 (x10_1 + 1)) l0_0 l0_1 l0_2 l0_3 l0_4 a1_0 a1_1 a1_2 a1_3 l1_4 a1_5 l1_6)=some r:=by first|(rw [hy193];with_reducible exact H)|(have H2_:=(Option.bind_some _ _).symm.trans H;rw [hy193];with_reducible exact H2_)|(have H2_:=(Option.bind_some _ _).symm.trans H;with_reducible exact H2_)|with_reducible exact H|(rw [hy193];exact H)|exact H
            have Ny193:=Az.mk hy193
            clear hy193
            have H':=Az.mk H
            clear H
            try go_wp2
            have n0_:=Az.mk (Kd.N_drew HO_9.out)
            have n1_:=Az.mk (Kd.R_drew HO_11.out)
            have n2_:=Az.mk (Kd.V_drew HO_180006.out)
            have n3_:=Az.mk (kD_ BK178.out)
            have n4_:=Az.mk (kD_ BK179.out)
            have n5_:=Az.mk (bD_ HB.out)
            clear HO_9
            clear HO_11
            clear HO_180006
            clear BK178
            clear BK179
            clear HB
            have HO_9:=n0_
            have HO_11:=n1_
            have HO_180006:=n2_
            have BK178:=n3_
            have BK179:=n4_
            have HB:=n5_
            clear n0_ n1_ n2_ n3_ n4_ n5_
            have p187:0≤(x10_1:Int):=of_decide_eq_true (by first|(with_reducible assumption)|assumption)
            have q187:x10_1 < (l1_6.length:Int):=of_decide_eq_true (by first|(with_reducible assumption)|assumption)
            obtain⟨ad187,A187_4,c187_4,A187_6,c187_6,e187,hx187_0,hx187_1,hx187_2,hx187_3,hx187_4,hx187_5,hx187_6,hl187_4,hi187_4,hl187_6,hi187_6⟩:=at_T32 (Kd.V_reads' HO_180006.out).2.2 x10_1 p187 q187
            cases e187
            obtain⟨ce187,hce187,hMe187,hcc187⟩:=Kd.V_get HO_180006.out z32 x10_1 p187 (by first|exact q187|exact of_decide_eq_true (by first|(with_reducible assumption)|assumption)|(have e_:=(Kd.V_reads' HO_180006.out).1;omega))
            obtain⟨ua187_4,uc187_4,ua187_6,uc187_6,rfl,ul187_4,ge187_4,ul187_6,ge187_6⟩:=k32_openF hMe187
            have hv187_4:=hcc187 4 _ rfl
            rw [add_field _ _ 4 (by omega)] at hv187_4
            replace hv187_4:=Option.some.inj (hv187_4.symm.trans hx187_4)
            injection hv187_4 with hva_ hvn_ hvc_
            rw [hva_] at ge187_4
            rw [hvc_] at ul187_4
            have HL187_4:=Az.mk (show Kd.V k53 53 _ w.heap.size _ _ ((rd_T32 l1_6 x10_1).f4)from Kd.V_mk ul187_4 ge187_4)
            clear hva_ hvn_ hvc_ ge187_4 ul187_4
            have hv187_6:=hcc187 6 _ rfl
            rw [add_field _ _ 6 (by omega)] at hv187_6
            replace hv187_6:=Option.some.inj (hv187_6.symm.trans hx187_6)
            injection hv187_6 with hva_ hvn_ hvc_
            rw [hva_] at ge187_6
            rw [hvc_] at ul187_6
            have HL187_6:=Az.mk (show Kd.V k32 32 _ w.heap.size _ _ ((rd_T32 l1_6 x10_1).f6)from Kd.V_mk ul187_6 ge187_6)
            clear hva_ hvn_ hvc_ ge187_6 ul187_6
            clear hcc187 hce187
            have HR187_4:=Az.mk hi187_4
            have HC187_4:=Az.mk hl187_4
            clear hi187_4 hl187_4
            have HR187_6:=Az.mk hi187_6
            have HC187_6:=Az.mk hl187_6
            clear hi187_6 hl187_6
            replace p187:=eq_true p187
            replace q187:=eq_true q187
            refine start_ (n:=7) (S:=fun w'=>w'.cell? ⟨gb178,0,none⟩=some (.slice A0_0 l0_0.length c0_0)∧w'.cell? ⟨gb178,1,none⟩=some (.slice A0_1 l0_1.length c0_1)∧w'.cell? ⟨gb178,2,none⟩=some (.slice A0_2 l0_2.length c0_2)∧w'.cell? ⟨gb178,3,none⟩=some (.slice A0_3 l0_3.length c0_3)∧w'.cell? ⟨gb178,4,none⟩=some (.slice A0_4 l0_4.length c0_4)∧w'.cell? ⟨gb179,0,none⟩=some (.int .i64 a1_0)∧w'.cell? ⟨gb179,1,none⟩=some (.int .i64 a1_1)∧w'.cell? ⟨gb179,2,none⟩=some (.int .i64 a1_2)∧w'.cell? ⟨gb179,3,none⟩=some (.int .i64 a1_3)∧w'.cell? ⟨gb179,4,none⟩=some (.slice A1_4 l1_4.length c1_4)∧w'.cell? ⟨gb179,5,none⟩=some (.string a1_5)∧w'.cell? ⟨gb179,6,none⟩=some (.slice (some ad187) l1_6.length c1_6)∧w'.cell? (ad187.add ((x10_1).toNat * 7))=some (.int .i64 ((rd_T32 l1_6 x10_1).f0))∧w'.cell? ⟨(ad187.add ((x10_1).toNat * 7)).block,(ad187.add ((x10_1).toNat * 7)).off + 1,none⟩=some (.int .i64 ((rd_T32 l1_6 x10_1).f1))∧w'.cell? ⟨(ad187.add ((x10_1).toNat * 7)).block,(ad187.add ((x10_1).toNat * 7)).off + 2,none⟩=some (.int .i64 ((rd_T32 l1_6 x10_1).f2))∧w'.cell? ⟨(ad187.add ((x10_1).toNat * 7)).block,(ad187.add ((x10_1).toNat * 7)).off + 3,none⟩=some (.int .i64 ((rd_T32 l1_6 x10_1).f3))∧w'.cell? ⟨(ad187.add ((x10_1).toNat * 7)).block,(ad187.add ((x10_1).toNat * 7)).off + 4,none⟩=some (.slice A187_4 ((rd_T32 l1_6 x10_1).f4).length c187_4)∧w'.cell? ⟨(ad187.add ((x10_1).toNat * 7)).block,(ad187.add ((x10_1).toNat * 7)).off + 5,none⟩=some (.string ((rd_T32 l1_6 x10_1).f5))∧w'.cell? ⟨(ad187.add ((x10_1).toNat * 7)).block,(ad187.add ((x10_1).toNat * 7)).off + 6,none⟩=some (.slice A187_6 ((rd_T32 l1_6 x10_1).f6).length c187_6)) (ds:=[]) #[false,false,false,false,false,false,false] (by kernel_rfl) rfl rfl ⟨(bC_ BK178.out 0).trans rfl,(bC_ BK178.out 1).trans rfl,(bC_ BK178.out 2).trans rfl,(bC_ BK178.out 3).trans rfl,(bC_ BK178.out 4).trans rfl,(bC_ BK179.out 0).trans rfl,(bC_ BK179.out 1).trans rfl,(bC_ BK179.out 2).trans rfl,(bC_ BK179.out 3).trans rfl,(bC_ BK179.out 4).trans rfl,(bC_ BK179.out 5).trans rfl,(bC_ BK179.out 6).trans rfl,hx187_0,hx187_1,hx187_2,hx187_3,hx187_4,hx187_5,hx187_6⟩ (fun hHeld=>?_)
            generalize wc.drew=w26 at HO_9 HO_11 HO_180006 BK178 BK179 HB HL187_4 HL187_6 HR187_4 HR187_6 hx187_0 hx187_1 hx187_2 hx187_3 hx187_4 hx187_5 hx187_6 hHeld ⊢
            refine pure_ (i:=1) (N:=some 35) (v:=?_) (a':=?_) #[false,true,false,false,false,false,false] rfl rfl (by kernel_rfl) (fun _ _ _ h=>h) (Or.inl ⟨by rfl,?_⟩) ?_ ?_
            rotate_left
            ·intro w'
             go_simp
             with_reducible rfl
            rotate_left
            ·simp only [Act.put,sT_,s0_,sC_,i64_w,i32_w]
             rfl
            refine pure_ (i:=3) (N:=some 37) (v:=?_) (a':=?_) #[false,true,false,true,false,false,false] rfl rfl (by kernel_rfl) (fun _ _ _ h=>h) (Or.inl ⟨by rfl,?_⟩) ?_ ?_
            rotate_left
            ·intro w'
             go_simp
             with_reducible rfl
            rotate_left
            ·simp only [Act.put,sT_,s0_,sC_,i64_w,i32_w]
             rfl
            refine take_ (i:=0) (N:=some 34) (v:=?_) (a':=?_) #[true,true,false,true,false,false,false] rfl rfl (by kernel_rfl) (fun _ _ _ h=>h) (Or.inl ⟨by rfl,?_⟩) hHeld ?_ ?_
            rotate_left
            ·rintro w' ⟨s0,s1,s2,s3,s4,s5,s6,s7,s8,s9,s10,s11,s12,s13,s14,s15,s16,s17,s18⟩
             go_simp
             with_reducible rfl
            rotate_left
            ·simp only [Act.put,sT_,s0_,sC_,i64_w,i32_w]
             rfl
            refine take_ (i:=2) (N:=some 36) (v:=?_) (a':=?_) #[true,true,true,true,false,false,false] rfl rfl (by kernel_rfl) (fun _ _ _ h=>h) (Or.inl ⟨by rfl,?_⟩) hHeld ?_ ?_
            rotate_left
            ·rintro w' ⟨s0,s1,s2,s3,s4,s5,s6,s7,s8,s9,s10,s11,s12,s13,s14,s15,s16,s17,s18⟩
             go_simp
             with_reducible rfl
            rotate_left
            ·simp only [Act.put,sT_,s0_,sC_,i64_w,i32_w]
             rfl
            refine pure_ (i:=4) (N:=some 38) (v:=?_) (a':=?_) #[true,true,true,true,true,false,false] rfl rfl (by kernel_rfl) (fun _ _ _ h=>h) (Or.inl ⟨by rfl,?_⟩) ?_ ?_
            rotate_left
            ·intro w'
             go_simp
             with_reducible rfl
            rotate_left
            ·simp only [Act.put,sT_,s0_,sC_,i64_w,i32_w]
             rfl
            refine take_ (i:=5) (N:=some 39) (v:=?_) (a':=?_) #[true,true,true,true,true,true,false] rfl rfl (by kernel_rfl) (fun _ _ _ h=>h) (Or.inl ⟨by rfl,?_⟩) hHeld ?_ ?_
            rotate_left
            ·rintro w' ⟨s0,s1,s2,s3,s4,s5,s6,s7,s8,s9,s10,s11,s12,s13,s14,s15,s16,s17,s18⟩
             go_simp
             with_reducible rfl
            rotate_left
            ·simp only [Act.put,sT_,s0_,sC_,i64_w,i32_w]
             rfl
            refine one_ (i:=6) (N:=some 40) #[true,true,true,true,true,true,true] rfl rfl (by kernel_rfl) (by decide) (fun K hK=>?_)
            refine goes_ Try.func24 (by kernel_rfl) rfl #[.agg #[.slice A0_0 l0_0.length c0_0,.slice A0_1 l0_1.length c0_1,.slice A0_2 l0_2.length c0_2,.slice A0_3 l0_3.length c0_3,.slice A0_4 l0_4.length c0_4],.agg #[.int .i64 ((rd_T32 l1_6 x10_1).f0),.int .i64 ((rd_T32 l1_6 x10_1).f1),.int .i64 ((rd_T32 l1_6 x10_1).f2),.int .i64 ((rd_T32 l1_6 x10_1).f3),.slice A187_4 ((rd_T32 l1_6 x10_1).f4).length c187_4,.string ((rd_T32 l1_6 x10_1).f5),.slice A187_6 ((rd_T32 l1_6 x10_1).f6).length c187_6]] (by rfl) rfl rfl (by(try simp only [List.map_toArray,List.map_cons,List.map_nil]);first|done|rfl|(simp only [List.length_drop,List.length_take];rfl)) ?_
            with_reducible refine(arboristref46_Dissolves.calls _ _ l0_0 _ _ l0_1 _ _ l0_2 _ _ l0_3 _ _ l0_4 ((rd_T32 l1_6 x10_1).f0) ((rd_T32 l1_6 x10_1).f1) ((rd_T32 l1_6 x10_1).f2) ((rd_T32 l1_6 x10_1).f3) _ _ ((rd_T32 l1_6 x10_1).f4) ((rd_T32 l1_6 x10_1).f5) _ _ ((rd_T32 l1_6 x10_1).f6) true _ ?side1 ?side2 ?side3 ?side4 ?side5 ?side6 ?side7 ?side8 ?side9 ?side10 ?side11 ?side12 ?side13 ?side14 A22.out).mono ?_
            (case side1=>repeat (first|exact(Kd.C_below HR0_0.out HB.out)|(with_reducible first|refine Kd.C_alloc ?_ _|refine Kd.C_drewN ?_ _|refine Kd.C_drew ?_)))
            (case side2=>exact HC0_0.out)
            (case side3=>repeat (first|exact(Kd.C_below HR0_1.out HB.out)|(with_reducible first|refine Kd.C_alloc ?_ _|refine Kd.C_drewN ?_ _|refine Kd.C_drew ?_)))
            (case side4=>exact HC0_1.out)
            (case side5=>repeat (first|exact(Kd.C_below HR0_2.out HB.out)|(with_reducible first|refine Kd.C_alloc ?_ _|refine Kd.C_drewN ?_ _|refine Kd.C_drew ?_)))
            (case side6=>exact HC0_2.out)
            (case side7=>repeat (first|exact(Kd.C_below HR0_3.out HB.out)|(with_reducible first|refine Kd.C_alloc ?_ _|refine Kd.C_drewN ?_ _|refine Kd.C_drew ?_)))
            (case side8=>exact HC0_3.out)
            (case side9=>repeat (first|exact(Kd.C_below HR0_4.out HB.out)|(with_reducible first|refine Kd.C_alloc ?_ _|refine Kd.C_drewN ?_ _|refine Kd.C_drew ?_)))
            (case side10=>exact HC0_4.out)
            (case side11=>repeat (first|exact(by repeat (first|(with_reducible exact HR187_4.out)|(with_reducible first|refine Kd.C_alloc ?_ _|refine Kd.C_drewN ?_ _|refine Kd.C_drew ?_)|exact HR187_4.out))|(with_reducible first|refine Kd.C_alloc ?_ _|refine Kd.C_drewN ?_ _|refine Kd.C_drew ?_)))
            (case side12=>exact HC187_4.out)
            (case side13=>repeat (first|exact(by repeat (first|(with_reducible exact HR187_6.out)|(with_reducible first|refine Kd.C_alloc ?_ _|refine Kd.C_drewN ?_ _|refine Kd.C_drew ?_)|exact HR187_6.out))|(with_reducible first|refine Kd.C_alloc ?_ _|refine Kd.C_drewN ?_ _|refine Kd.C_drew ?_)))
            (case side14=>exact HC187_6.out)
            rintro e w27 ⟨rfl,hb⟩
            have HS12_:=(hb.cell (bL_ _ _ (hHeld.2.2.2.2.2.2.2.2.2.2.2.2.1))).trans (hHeld.2.2.2.2.2.2.2.2.2.2.2.2.1)
            have HS13_:=(hb.cell (bL_ _ _ (hHeld.2.2.2.2.2.2.2.2.2.2.2.2.2.1))).trans (hHeld.2.2.2.2.2.2.2.2.2.2.2.2.2.1)
            have HS14_:=(hb.cell (bL_ _ _ (hHeld.2.2.2.2.2.2.2.2.2.2.2.2.2.2.1))).trans (hHeld.2.2.2.2.2.2.2.2.2.2.2.2.2.2.1)
            have HS15_:=(hb.cell (bL_ _ _ (hHeld.2.2.2.2.2.2.2.2.2.2.2.2.2.2.2.1))).trans (hHeld.2.2.2.2.2.2.2.2.2.2.2.2.2.2.2.1)
            have HS16_:=(hb.cell (bL_ _ _ (hHeld.2.2.2.2.2.2.2.2.2.2.2.2.2.2.2.2.1))).trans (hHeld.2.2.2.2.2.2.2.2.2.2.2.2.2.2.2.2.1)
            have HS17_:=(hb.cell (bL_ _ _ (hHeld.2.2.2.2.2.2.2.2.2.2.2.2.2.2.2.2.2.1))).trans (hHeld.2.2.2.2.2.2.2.2.2.2.2.2.2.2.2.2.2.1)
            have HS18_:=(hb.cell (bL_ _ _ (hHeld.2.2.2.2.2.2.2.2.2.2.2.2.2.2.2.2.2.2))).trans (hHeld.2.2.2.2.2.2.2.2.2.2.2.2.2.2.2.2.2.2)
            refine⟨_,rfl,?_⟩
            have n0_:=Az.mk (Kd.N_below (by(with_reducible repeat (first|apply Kd.N_alloc|apply Kd.N_drewN|apply Kd.N_drew));exact HO_9.out) hb)
            have n1_:=Az.mk (Kd.R_below (by(with_reducible repeat (first|apply Kd.R_alloc|apply Kd.R_drewN|apply Kd.R_drew));exact HO_11.out) hb)
            have n2_:=Az.mk (Kd.V_below (by(with_reducible repeat (first|apply Kd.V_alloc|apply Kd.V_drewN|apply Kd.V_drew));exact HO_180006.out) hb)
            have n3_:=Az.mk (Kd.V_below (by(with_reducible repeat (first|apply Kd.V_alloc|apply Kd.V_drewN|apply Kd.V_drew));exact HL187_4.out) hb)
            have n4_:=Az.mk (Kd.V_below (by(with_reducible repeat (first|apply Kd.V_alloc|apply Kd.V_drewN|apply Kd.V_drew));exact HL187_6.out) hb)
            have n5_:=Az.mk (kB_ (g:=gb178) (o:=.cells #[.slice A0_0 l0_0.length c0_0,.slice A0_1 l0_1.length c0_1,.slice A0_2 l0_2.length c0_2,.slice A0_3 l0_3.length c0_3,.slice A0_4 l0_4.length c0_4] 27 (0,0)) (by(with_reducible repeat (first|refine kN_ ?_ _|refine kD_ ?_|refine kA_ ?_ _));exact BK178.out) hb)
            have n6_:=Az.mk (kB_ (g:=gb179) (o:=.cells #[.int .i64 a1_0,.int .i64 a1_1,.int .i64 a1_2,.int .i64 a1_3,.slice A1_4 l1_4.length c1_4,.string a1_5,.slice (some ad187) l1_6.length c1_6] 32 (0,0)) (by(with_reducible repeat (first|refine kN_ ?_ _|refine kD_ ?_|refine kA_ ?_ _));exact BK179.out) hb)
            have n7_:=Az.mk (Kd.C_below (by repeat (first|(with_reducible exact HR187_4.out)|(with_reducible first|refine Kd.C_alloc ?_ _|refine Kd.C_drewN ?_ _|refine Kd.C_drew ?_)|exact HR187_4.out)) hb)
            have n8_:=Az.mk (Kd.C_below (by repeat (first|(with_reducible exact HR187_6.out)|(with_reducible first|refine Kd.C_alloc ?_ _|refine Kd.C_drewN ?_ _|refine Kd.C_drew ?_)|exact HR187_6.out)) hb)
            have n9_:=Az.mk (bT_ (by repeat (first|(with_reducible first|exact HB.out|apply bA_|apply bN_|apply bD_|refine bS_ ?_ GE178.out|refine bS_ ?_ GE179.out)|exact HB.out)) hb)
            clear HO_9
            clear HO_11
            clear HO_180006
            clear HL187_4
            clear HL187_6
            clear BK178
            clear BK179
            clear HR187_4
            clear HR187_6
            clear HB
            have HO_9:=n0_
            have HO_11:=n1_
            have HO_180006:=n2_
            have HL187_4:=n3_
            have HL187_6:=n4_
            have BK178:=n5_
            have BK179:=n6_
            have HR187_4:=n7_
            have HR187_6:=n8_
            have HB:=n9_
            clear n0_ n1_ n2_ n3_ n4_ n5_ n6_ n7_ n8_ n9_
            (try clear hb)
            (try clear hb2)
            (try clear hk)
            (try clear hi)
            refine hK.out _ _ ⟨(bC_ BK178.out 0).trans rfl,(bC_ BK178.out 1).trans rfl,(bC_ BK178.out 2).trans rfl,(bC_ BK178.out 3).trans rfl,(bC_ BK178.out 4).trans rfl,(bC_ BK179.out 0).trans rfl,(bC_ BK179.out 1).trans rfl,(bC_ BK179.out 2).trans rfl,(bC_ BK179.out 3).trans rfl,(bC_ BK179.out 4).trans rfl,(bC_ BK179.out 5).trans rfl,(bC_ BK179.out 6).trans rfl,HS12_,HS13_,HS14_,HS15_,HS16_,HS17_,HS18_⟩ (fun hHeld=>?_)
            clear hK K
            refine norm_ (a':=?_) ?_ ?_
            rotate_left
            ·show Act.put _ (some 40) _=_
             simp only [Act.put,sT_,s0_,sC_,i64_w,i32_w]
             rfl
            refine done_ (by kernel_rfl) ?_
            try go_wp2
            have n0_:=Az.mk (Kd.N_drew HO_9.out)
            have n1_:=Az.mk (Kd.R_drew HO_11.out)
            have n2_:=Az.mk (Kd.V_drew HO_180006.out)
            have n3_:=Az.mk (Kd.V_drew HL187_4.out)
            have n4_:=Az.mk (Kd.V_drew HL187_6.out)
            have n5_:=Az.mk (kD_ BK178.out)
            have n6_:=Az.mk (kD_ BK179.out)
            have n7_:=Az.mk (Kd.C_drew HR187_4.out)
            have n8_:=Az.mk (Kd.C_drew HR187_6.out)
            have n9_:=Az.mk (bD_ HB.out)
            clear HO_9
            clear HO_11
            clear HO_180006
            clear HL187_4
            clear HL187_6
            clear BK178
            clear BK179
            clear HR187_4
            clear HR187_6
            clear HB
            have HO_9:=n0_
            have HO_11:=n1_
            have HO_180006:=n2_
            have HL187_4:=n3_
            have HL187_6:=n4_
            have BK178:=n5_
            have BK179:=n6_
            have HR187_4:=n7_
            have HR187_6:=n8_
            have HB:=n9_
            clear n0_ n1_ n2_ n3_ n4_ n5_ n6_ n7_ n8_ n9_
            have p189:0≤(x10_1:Int):=of_decide_eq_true (by first|(with_reducible assumption)|assumption)
            have q189:x10_1 < (l1_6.length:Int):=of_decide_eq_true (by first|(with_reducible assumption)|assumption)
            obtain⟨ad189,A189_4,c189_4,A189_6,c189_6,e189,hx189_0,hx189_1,hx189_2,hx189_3,hx189_4,hx189_5,hx189_6,hl189_4,hi189_4,hl189_6,hi189_6⟩:=at_T32 (Kd.V_reads' HO_180006.out).2.2 x10_1 p189 q189
            obtain rfl:ad187=ad189:=(by injection e189)
            obtain⟨ce189,hce189,hMe189,hcc189⟩:=Kd.V_get HO_180006.out z32 x10_1 p189 (by first|exact q189|exact of_decide_eq_true (by first|(with_reducible assumption)|assumption)|(have e_:=(Kd.V_reads' HO_180006.out).1;omega))
            obtain⟨ua189_4,uc189_4,ua189_6,uc189_6,rfl,ul189_4,ge189_4,ul189_6,ge189_6⟩:=k32_openF hMe189
            have hv189_4:=hcc189 4 _ rfl
            rw [add_field _ _ 4 (by omega)] at hv189_4
            replace hv189_4:=Option.some.inj (hv189_4.symm.trans hx189_4)
            injection hv189_4 with hva_ hvn_ hvc_
            rw [hva_] at ge189_4
            rw [hvc_] at ul189_4
            have HL189_4:=Az.mk (show Kd.V k53 53 _ w.heap.size _ _ ((rd_T32 l1_6 x10_1).f4)from Kd.V_mk ul189_4 ge189_4)
            clear hva_ hvn_ hvc_ ge189_4 ul189_4
            have hv189_6:=hcc189 6 _ rfl
            rw [add_field _ _ 6 (by omega)] at hv189_6
            replace hv189_6:=Option.some.inj (hv189_6.symm.trans hx189_6)
            injection hv189_6 with hva_ hvn_ hvc_
            rw [hva_] at ge189_6
            rw [hvc_] at ul189_6
            have HL189_6:=Az.mk (show Kd.V k32 32 _ w.heap.size _ _ ((rd_T32 l1_6 x10_1).f6)from Kd.V_mk ul189_6 ge189_6)
            clear hva_ hvn_ hvc_ ge189_6 ul189_6
            clear hcc189 hce189
            have HR189_4:=Az.mk hi189_4
            have HC189_4:=Az.mk hl189_4
            clear hi189_4 hl189_4
            have HR189_6:=Az.mk hi189_6
            have HC189_6:=Az.mk hl189_6
            clear hi189_6 hl189_6
            replace p189:=eq_true p189
            replace q189:=eq_true q189
            obtain⟨Ao29,co29,eo29⟩:=Kd.R_slice HO_11.out
            (first|subst eo29|(injection eo29 with f1_ f2_ f3_;have f4_:=f1_.symm;have f5_:=f3_.symm;clear f1_ f2_ f3_;subst f4_;subst f5_))
            (try (have eu_:Value.slice A189_4 _ c189_4=Value.slice A187_4 _ c187_4:=Option.some.inj (hx189_4.symm.trans (by first|exact hx187_4|assumption));injection eu_ with eA_ eB_ eC_;subst eA_;subst eC_))
            (try (have eu_:Value.slice A189_6 _ c189_6=Value.slice A187_6 _ c187_6:=Option.some.inj (hx189_6.symm.trans (by first|exact hx187_6|assumption));injection eu_ with eA_ eB_ eC_;subst eA_;subst eC_))
            refine start_ (n:=12) (S:=fun w'=>w'.cell? ⟨gb178,0,none⟩=some (.slice A0_0 l0_0.length c0_0)∧w'.cell? ⟨gb178,1,none⟩=some (.slice A0_1 l0_1.length c0_1)∧w'.cell? ⟨gb178,2,none⟩=some (.slice A0_2 l0_2.length c0_2)∧w'.cell? ⟨gb178,3,none⟩=some (.slice A0_3 l0_3.length c0_3)∧w'.cell? ⟨gb178,4,none⟩=some (.slice A0_4 l0_4.length c0_4)∧w'.cell? ⟨gb179,0,none⟩=some (.int .i64 a1_0)∧w'.cell? ⟨gb179,1,none⟩=some (.int .i64 a1_1)∧w'.cell? ⟨gb179,2,none⟩=some (.int .i64 a1_2)∧w'.cell? ⟨gb179,3,none⟩=some (.int .i64 a1_3)∧w'.cell? ⟨gb179,4,none⟩=some (.slice A1_4 l1_4.length c1_4)∧w'.cell? ⟨gb179,5,none⟩=some (.string a1_5)∧w'.cell? ⟨gb179,6,none⟩=some (.slice (some ad187) l1_6.length c1_6)∧w'.cell? (ad187.add ((x10_1).toNat * 7))=some (.int .i64 ((rd_T32 l1_6 x10_1).f0))∧w'.cell? ⟨(ad187.add ((x10_1).toNat * 7)).block,(ad187.add ((x10_1).toNat * 7)).off + 1,none⟩=some (.int .i64 ((rd_T32 l1_6 x10_1).f1))∧w'.cell? ⟨(ad187.add ((x10_1).toNat * 7)).block,(ad187.add ((x10_1).toNat * 7)).off + 2,none⟩=some (.int .i64 ((rd_T32 l1_6 x10_1).f2))∧w'.cell? ⟨(ad187.add ((x10_1).toNat * 7)).block,(ad187.add ((x10_1).toNat * 7)).off + 3,none⟩=some (.int .i64 ((rd_T32 l1_6 x10_1).f3))∧w'.cell? ⟨(ad187.add ((x10_1).toNat * 7)).block,(ad187.add ((x10_1).toNat * 7)).off + 4,none⟩=some (.slice A189_4 ((rd_T32 l1_6 x10_1).f4).length c189_4)∧w'.cell? ⟨(ad187.add ((x10_1).toNat * 7)).block,(ad187.add ((x10_1).toNat * 7)).off + 5,none⟩=some (.string ((rd_T32 l1_6 x10_1).f5))∧w'.cell? ⟨(ad187.add ((x10_1).toNat * 7)).block,(ad187.add ((x10_1).toNat * 7)).off + 6,none⟩=some (.slice A189_6 ((rd_T32 l1_6 x10_1).f6).length c189_6)) (ds:=[10]) #[false,false,false,false,false,false,false,false,false,false,false,false] (by kernel_rfl) rfl rfl ⟨(bC_ BK178.out 0).trans rfl,(bC_ BK178.out 1).trans rfl,(bC_ BK178.out 2).trans rfl,(bC_ BK178.out 3).trans rfl,(bC_ BK178.out 4).trans rfl,(bC_ BK179.out 0).trans rfl,(bC_ BK179.out 1).trans rfl,(bC_ BK179.out 2).trans rfl,(bC_ BK179.out 3).trans rfl,(bC_ BK179.out 4).trans rfl,(bC_ BK179.out 5).trans rfl,(bC_ BK179.out 6).trans rfl,hx189_0,hx189_1,hx189_2,hx189_3,hx189_4,hx189_5,hx189_6⟩ (fun hHeld=>?_);refine with_tabW arboristref46_All.tab12 arboristref46_All.bits12 (fun HT_ HW_=>?_)
            generalize w27.drew=w28 at HO_9 HO_11 HO_180006 HL187_4 HL187_6 BK178 BK179 HR187_4 HR187_6 HB HL189_4 HL189_6 HR189_4 HR189_6 hx189_0 hx189_1 hx189_2 hx189_3 hx189_4 hx189_5 hx189_6 hHeld ⊢
            refine pure_ (i:=0) (N:=some 41) (v:=?_) (a':=?_) #[true,false,false,false,false,false,false,false,false,false,false,false] rfl rfl (any_of HT_.out (by kernel_rfl)) (fun _ _ _ h=>h) (Or.inl ⟨by rfl,?_⟩) ?_ ?_
            rotate_left
            ·intro w'
             go_simp
             with_reducible rfl
            rotate_left
            ·simp only [Act.put,sT_,s0_,sC_,i64_w,i32_w]
             rfl
            refine pure_ (i:=2) (N:=some 43) (v:=?_) (a':=?_) #[true,false,true,false,false,false,false,false,false,false,false,false] rfl rfl (any_of HT_.out (by kernel_rfl)) (fun _ _ _ h=>h) (Or.inl ⟨by rfl,?_⟩) ?_ ?_
            rotate_left
            ·intro w'
             go_simp
             with_reducible rfl
            rotate_left
            ·simp only [Act.put,sT_,s0_,sC_,i64_w,i32_w]
             rfl
            refine pure_ (i:=4) (N:=some 45) (v:=?_) (a':=?_) #[true,false,true,false,true,false,false,false,false,false,false,false] rfl rfl (any_of HT_.out (by kernel_rfl)) (fun _ _ _ h=>h) (Or.inl ⟨by rfl,?_⟩) ?_ ?_
            rotate_left
            ·intro w'
             go_simp
             with_reducible rfl
            rotate_left
            ·simp only [Act.put,sT_,s0_,sC_,i64_w,i32_w]
             rfl
            refine pure_ (i:=7) (N:=some 48) (v:=?_) (a':=?_) #[true,false,true,false,true,false,false,true,false,false,false,false] rfl rfl (any_of HT_.out (by kernel_rfl)) (fun _ _ _ h=>h) (Or.inl ⟨by rfl,?_⟩) ?_ ?_
            rotate_left
            ·intro w'
             go_simp
             with_reducible rfl
            rotate_left
            ·simp only [Act.put,sT_,s0_,sC_,i64_w,i32_w]
             rfl
            refine pure_ (i:=8) (N:=some 49) (v:=?_) (a':=?_) #[true,false,true,false,true,false,false,true,true,false,false,false] rfl rfl (any_of HT_.out (by kernel_rfl)) (fun _ _ _ h=>h) (Or.inl ⟨by rfl,?_⟩) ?_ ?_
            rotate_left
            ·intro w'
             go_simp
             with_reducible rfl
            rotate_left
            ·simp only [Act.put,sT_,s0_,sC_,i64_w,i32_w]
             rfl
            refine take_ (i:=1) (N:=some 42) (v:=?_) (a':=?_) #[true,true,true,false,true,false,false,true,true,false,false,false] rfl rfl (take_ofW HT_.out HW_.out (by kernel_rfl)) (fun _ _ _ h=>h) (Or.inl ⟨by rfl,?_⟩) hHeld ?_ ?_
            rotate_left
            ·rintro w' ⟨s0,s1,s2,s3,s4,s5,s6,s7,s8,s9,s10,s11,s12,s13,s14,s15,s16,s17,s18⟩
             go_simp
             with_reducible rfl
            rotate_left
            ·simp only [Act.put,sT_,s0_,sC_,i64_w,i32_w]
             rfl
            refine take_ (i:=3) (N:=some 44) (v:=?_) (a':=?_) #[true,true,true,true,true,false,false,true,true,false,false,false] rfl rfl (take_ofW HT_.out HW_.out (by kernel_rfl)) (fun _ _ _ h=>h) (Or.inl ⟨by rfl,?_⟩) hHeld ?_ ?_
            rotate_left
            ·rintro w' ⟨s0,s1,s2,s3,s4,s5,s6,s7,s8,s9,s10,s11,s12,s13,s14,s15,s16,s17,s18⟩
             go_simp
             with_reducible rfl
            rotate_left
            ·simp only [Act.put,sT_,s0_,sC_,i64_w,i32_w]
             rfl
            refine pure_ (i:=5) (N:=some 46) (v:=?_) (a':=?_) #[true,true,true,true,true,true,false,true,true,false,false,false] rfl rfl (any_of HT_.out (by kernel_rfl)) (fun _ _ _ h=>h) (Or.inl ⟨by rfl,?_⟩) ?_ ?_
            rotate_left
            ·intro w'
             go_simp
             with_reducible rfl
            rotate_left
            ·simp only [Act.put,sT_,s0_,sC_,i64_w,i32_w]
             rfl
            refine take_ (i:=6) (N:=some 47) (v:=?_) (a':=?_) #[true,true,true,true,true,true,true,true,true,false,false,false] rfl rfl (take_ofW HT_.out HW_.out (by kernel_rfl)) (fun _ _ _ h=>h) (Or.inl ⟨by rfl,?_⟩) hHeld ?_ ?_
            rotate_left
            ·rintro w' ⟨s0,s1,s2,s3,s4,s5,s6,s7,s8,s9,s10,s11,s12,s13,s14,s15,s16,s17,s18⟩
             go_simp
             with_reducible rfl
            rotate_left
            ·simp only [Act.put,sT_,s0_,sC_,i64_w,i32_w]
             rfl
            refine one_ (i:=9) (N:=some 50) #[true,true,true,true,true,true,true,true,true,true,false,false] rfl rfl (one_of HT_.out (by kernel_rfl)) (by decide) (fun K hK=>?_)
            refine goes_ Try.func32 (by kernel_rfl) rfl #[.agg #[.slice A0_0 l0_0.length c0_0,.slice A0_1 l0_1.length c0_1,.slice A0_2 l0_2.length c0_2,.slice A0_3 l0_3.length c0_3,.slice A0_4 l0_4.length c0_4],.agg #[.int .i64 ((rd_T32 l1_6 x10_1).f0),.int .i64 ((rd_T32 l1_6 x10_1).f1),.int .i64 ((rd_T32 l1_6 x10_1).f2),.int .i64 ((rd_T32 l1_6 x10_1).f3),.slice A189_4 ((rd_T32 l1_6 x10_1).f4).length c189_4,.string ((rd_T32 l1_6 x10_1).f5),.slice A189_6 ((rd_T32 l1_6 x10_1).f6).length c189_6],.slice Ao29 y183.length co29,.string x12_10] (by rfl) rfl rfl (by(try simp only [List.map_toArray,List.map_cons,List.map_nil]);first|done|rfl|(simp only [List.length_drop,List.length_take];rfl)) ?_
            with_reducible refine(ih kj10 (by have:=HK1.out;have:=HJ10.out;omega) _ _ l0_0 _ _ l0_1 _ _ l0_2 _ _ l0_3 _ _ l0_4 ((rd_T32 l1_6 x10_1).f0) ((rd_T32 l1_6 x10_1).f1) ((rd_T32 l1_6 x10_1).f2) ((rd_T32 l1_6 x10_1).f3) _ _ ((rd_T32 l1_6 x10_1).f4) ((rd_T32 l1_6 x10_1).f5) (fun k_=>((P1_6_ k_∨w.heap.size≤k_)∧(some k_≠(u9:Value).ownBlock∧(some k_≠(.slice Ao29 y183.length co29:Value).ownBlock∧(k_≠gb178∧k_≠gb179))))) _ _ ((rd_T32 l1_6 x10_1).f6) _ _ y183 x12_10 t190 _ ?side1 ?side2 ?side3 ?side4 ?side5 ?side6 ?side7 ?side8 ?side9 ?side10 ?side11 ?side12 ?side13 ?side14 ?side15 A24.out).mono ?_
            (case side1=>repeat (first|exact(Kd.C_below HR0_0.out HB.out)|(with_reducible first|refine Kd.C_alloc ?_ _|refine Kd.C_drewN ?_ _|refine Kd.C_drew ?_)))
            (case side2=>exact HC0_0.out)
            (case side3=>repeat (first|exact(Kd.C_below HR0_1.out HB.out)|(with_reducible first|refine Kd.C_alloc ?_ _|refine Kd.C_drewN ?_ _|refine Kd.C_drew ?_)))
            (case side4=>exact HC0_1.out)
            (case side5=>repeat (first|exact(Kd.C_below HR0_2.out HB.out)|(with_reducible first|refine Kd.C_alloc ?_ _|refine Kd.C_drewN ?_ _|refine Kd.C_drew ?_)))
            (case side6=>exact HC0_2.out)
            (case side7=>repeat (first|exact(Kd.C_below HR0_3.out HB.out)|(with_reducible first|refine Kd.C_alloc ?_ _|refine Kd.C_drewN ?_ _|refine Kd.C_drew ?_)))
            (case side8=>exact HC0_3.out)
            (case side9=>repeat (first|exact(Kd.C_below HR0_4.out HB.out)|(with_reducible first|refine Kd.C_alloc ?_ _|refine Kd.C_drewN ?_ _|refine Kd.C_drew ?_)))
            (case side10=>exact HC0_4.out)
            (case side11=>repeat (first|exact(by repeat (first|(with_reducible exact HR189_4.out)|(with_reducible first|refine Kd.C_alloc ?_ _|refine Kd.C_drewN ?_ _|refine Kd.C_drew ?_)|exact HR189_4.out))|(with_reducible first|refine Kd.C_alloc ?_ _|refine Kd.C_drewN ?_ _|refine Kd.C_drew ?_)))
            (case side12=>exact HC189_4.out)
            (case side13=>exact HL189_6.out)
            (case side14=>repeat (first|exact(Kd.R_reads' HO_11.out).2.2|(with_reducible first|refine Kd.C_alloc ?_ _|refine Kd.C_drewN ?_ _|refine Kd.C_drew ?_)))
            (case side15=>exact(Kd.R_reads' HO_11.out).2.1)
            rintro e w30 ⟨v191,rfl,ho0,hb⟩
            have HS12_:=(hb.cell (bL_ _ _ (hHeld.2.2.2.2.2.2.2.2.2.2.2.2.1))).trans (hHeld.2.2.2.2.2.2.2.2.2.2.2.2.1)
            have HS13_:=(hb.cell (bL_ _ _ (hHeld.2.2.2.2.2.2.2.2.2.2.2.2.2.1))).trans (hHeld.2.2.2.2.2.2.2.2.2.2.2.2.2.1)
            have HS14_:=(hb.cell (bL_ _ _ (hHeld.2.2.2.2.2.2.2.2.2.2.2.2.2.2.1))).trans (hHeld.2.2.2.2.2.2.2.2.2.2.2.2.2.2.1)
            have HS15_:=(hb.cell (bL_ _ _ (hHeld.2.2.2.2.2.2.2.2.2.2.2.2.2.2.2.1))).trans (hHeld.2.2.2.2.2.2.2.2.2.2.2.2.2.2.2.1)
            have HS16_:=(hb.cell (bL_ _ _ (hHeld.2.2.2.2.2.2.2.2.2.2.2.2.2.2.2.2.1))).trans (hHeld.2.2.2.2.2.2.2.2.2.2.2.2.2.2.2.2.1)
            have HS17_:=(hb.cell (bL_ _ _ (hHeld.2.2.2.2.2.2.2.2.2.2.2.2.2.2.2.2.2.1))).trans (hHeld.2.2.2.2.2.2.2.2.2.2.2.2.2.2.2.2.2.1)
            have HS18_:=(hb.cell (bL_ _ _ (hHeld.2.2.2.2.2.2.2.2.2.2.2.2.2.2.2.2.2.2))).trans (hHeld.2.2.2.2.2.2.2.2.2.2.2.2.2.2.2.2.2.2)
            refine⟨_,rfl,?_⟩
            have n0_:=Az.mk (Kd.N_elder' (by(with_reducible repeat (first|apply Kd.N_alloc|apply Kd.N_drewN|apply Kd.N_drew));exact HO_9.out) (Kd.N_base ho0) hb)
            have n1_:=Az.mk (Kd.R_below (by(with_reducible repeat (first|apply Kd.R_alloc|apply Kd.R_drewN|apply Kd.R_drew));exact HO_11.out) hb)
            have n2_:=Az.mk (Kd.V_elder' (by(with_reducible repeat (first|apply Kd.V_alloc|apply Kd.V_drewN|apply Kd.V_drew));exact HO_180006.out) (Kd.N_base ho0) hb)
            have n3_:=Az.mk (Kd.V_elder' (by(with_reducible repeat (first|apply Kd.V_alloc|apply Kd.V_drewN|apply Kd.V_drew));exact HL187_4.out) (Kd.N_base ho0) hb)
            have n4_:=Az.mk (Kd.V_elder' (by(with_reducible repeat (first|apply Kd.V_alloc|apply Kd.V_drewN|apply Kd.V_drew));exact HL187_6.out) (Kd.N_base ho0) hb)
            have n5_:=Az.mk (Kd.V_elder' (by(with_reducible repeat (first|apply Kd.V_alloc|apply Kd.V_drewN|apply Kd.V_drew));exact HL189_4.out) (Kd.N_base ho0) hb)
            have n6_:=Az.mk (Kd.V_elder' (by(with_reducible repeat (first|apply Kd.V_alloc|apply Kd.V_drewN|apply Kd.V_drew));exact HL189_6.out) (Kd.N_base ho0) hb)
            have n7_:=Az.mk (Kd.N_lower (Kd.N_mono (ok':=fun k_=>(P1_6_ k_∨w.heap.size≤k_)∧some k_≠(u9:Value).ownBlock∧some k_≠(.slice Ao29 y183.length co29:Value).ownBlock∧k_≠gb178∧k_≠gb179) ho0 (fun k_ hk_=>⟨Or.elim hk_ (fun hs_=>hs_.1) (fun hn_=>(.inr (Nat.le_trans (bZ_ (by repeat (first|(with_reducible first|exact HB.out|apply bA_|apply bN_|apply bD_|refine bS_ ?_ GE178.out|refine bS_ ?_ GE179.out)|exact HB.out))) hn_))),Or.elim hk_ (fun hs_=>hs_.2.1) (fun hn_=>(Kd.fresh' (Kd.N_lt (by(with_reducible repeat (first|apply Kd.N_alloc|apply Kd.N_drewN|apply Kd.N_drew));exact HO_9.out)) k_ hn_)),Or.elim hk_ (fun hs_=>hs_.2.2.1) (fun hn_=>(Kd.fresh' (Kd.R_lt (by(with_reducible repeat (first|apply Kd.R_alloc|apply Kd.R_drewN|apply Kd.R_drew));exact HO_11.out)) k_ hn_)),Or.elim hk_ (fun hs_=>hs_.2.2.2.1) (fun hn_=>(Kd.freshB (g:=gb178) (o:=.cells #[.slice A0_0 l0_0.length c0_0,.slice A0_1 l0_1.length c0_1,.slice A0_2 l0_2.length c0_2,.slice A0_3 l0_3.length c0_3,.slice A0_4 l0_4.length c0_4] 27 (0,0)) (by(with_reducible repeat (first|refine kN_ ?_ _|refine kD_ ?_|refine kA_ ?_ _));exact BK178.out) k_ hn_)),Or.elim hk_ (fun hs_=>hs_.2.2.2.2) (fun hn_=>(Kd.freshB (g:=gb179) (o:=.cells #[.int .i64 a1_0,.int .i64 a1_1,.int .i64 a1_2,.int .i64 a1_3,.slice A1_4 l1_4.length c1_4,.string a1_5,.slice (some ad187) l1_6.length c1_6] 32 (0,0)) (by(with_reducible repeat (first|refine kN_ ?_ _|refine kD_ ?_|refine kA_ ?_ _));exact BK179.out) k_ hn_))⟩)) (bZ_ (by repeat (first|(with_reducible first|exact HB.out|apply bA_|apply bN_|apply bD_|refine bS_ ?_ GE178.out|refine bS_ ?_ GE179.out)|exact HB.out))))
            have n8_:=Az.mk (kB_ (g:=gb178) (o:=.cells #[.slice A0_0 l0_0.length c0_0,.slice A0_1 l0_1.length c0_1,.slice A0_2 l0_2.length c0_2,.slice A0_3 l0_3.length c0_3,.slice A0_4 l0_4.length c0_4] 27 (0,0)) (by(with_reducible repeat (first|refine kN_ ?_ _|refine kD_ ?_|refine kA_ ?_ _));exact BK178.out) hb)
            have n9_:=Az.mk (kB_ (g:=gb179) (o:=.cells #[.int .i64 a1_0,.int .i64 a1_1,.int .i64 a1_2,.int .i64 a1_3,.slice A1_4 l1_4.length c1_4,.string a1_5,.slice (some ad187) l1_6.length c1_6] 32 (0,0)) (by(with_reducible repeat (first|refine kN_ ?_ _|refine kD_ ?_|refine kA_ ?_ _));exact BK179.out) hb)
            have n10_:=Az.mk (Kd.C_below (by repeat (first|(with_reducible exact HR187_4.out)|(with_reducible first|refine Kd.C_alloc ?_ _|refine Kd.C_drewN ?_ _|refine Kd.C_drew ?_)|exact HR187_4.out)) hb)
            have n11_:=Az.mk (Kd.C_below (by repeat (first|(with_reducible exact HR187_6.out)|(with_reducible first|refine Kd.C_alloc ?_ _|refine Kd.C_drewN ?_ _|refine Kd.C_drew ?_)|exact HR187_6.out)) hb)
            have n12_:=Az.mk (Kd.C_below (by repeat (first|(with_reducible exact HR189_4.out)|(with_reducible first|refine Kd.C_alloc ?_ _|refine Kd.C_drewN ?_ _|refine Kd.C_drew ?_)|exact HR189_4.out)) hb)
            have n13_:=Az.mk (Kd.C_below (by repeat (first|(with_reducible exact HR189_6.out)|(with_reducible first|refine Kd.C_alloc ?_ _|refine Kd.C_drewN ?_ _|refine Kd.C_drew ?_)|exact HR189_6.out)) hb)
            have n14_:=Az.mk (bT_ (by repeat (first|(with_reducible first|exact HB.out|apply bA_|apply bN_|apply bD_|refine bS_ ?_ GE178.out|refine bS_ ?_ GE179.out)|exact HB.out)) hb)
            clear HO_9
            clear HO_11
            clear HO_180006
            clear HL187_4
            clear HL187_6
            clear HL189_4
            clear HL189_6
            clear BK178
            clear BK179
            clear HR187_4
            clear HR187_6
            clear HR189_4
            clear HR189_6
            clear HB
            have HO_9:=n0_
            have HO_11:=n1_
            have HO_180006:=n2_
            have HL187_4:=n3_
            have HL187_6:=n4_
            have HL189_4:=n5_
            have HL189_6:=n6_
            have HO192:=n7_
            have BK178:=n8_
            have BK179:=n9_
            have HR187_4:=n10_
            have HR187_6:=n11_
            have HR189_4:=n12_
            have HR189_6:=n13_
            have HB:=n14_
            clear n0_ n1_ n2_ n3_ n4_ n5_ n6_ n7_ n8_ n9_ n10_ n11_ n12_ n13_ n14_
            (try clear hb)
            (try clear hb2)
            (try clear hk)
            (try clear hi)
            (try clear ho0)
            obtain⟨Ao32,co32,eo32⟩:=Kd.N_slice HO192.out
            (first|subst eo32|(injection eo32 with f1_ f2_ f3_;have f4_:=f1_.symm;have f5_:=f3_.symm;clear f1_ f2_ f3_;subst f4_;subst f5_))
            refine hK.out _ _ ⟨(bC_ BK178.out 0).trans rfl,(bC_ BK178.out 1).trans rfl,(bC_ BK178.out 2).trans rfl,(bC_ BK178.out 3).trans rfl,(bC_ BK178.out 4).trans rfl,(bC_ BK179.out 0).trans rfl,(bC_ BK179.out 1).trans rfl,(bC_ BK179.out 2).trans rfl,(bC_ BK179.out 3).trans rfl,(bC_ BK179.out 4).trans rfl,(bC_ BK179.out 5).trans rfl,(bC_ BK179.out 6).trans rfl,HS12_,HS13_,HS14_,HS15_,HS16_,HS17_,HS18_⟩ (fun hHeld=>?_)
            clear hK K
            refine norm_ (a':=?_) ?_ ?_
            rotate_left
            ·show Act.put _ (some 50) _=_
             simp only [Act.put,sT_,s0_,sC_,i64_w,i32_w]
             rfl
            refine last_ (i:=10) (N:=some 51) #[true,true,true,true,true,true,true,true,true,true,true,false] rfl rfl (one_of HT_.out (by kernel_rfl)) (by decide) (fun K hK=>?_)
            refine Kd.N_append_rows_step k65 (w0:=w) w.heap.size (by rfl) (.tmp 41) (.tmp 50) 62 65 (.agg #[(.int .i64 0),(.int .i64 0),(.int .i64 0),(.int .i64 0),(.slice none 0 0),(.string ⟨#[]⟩),(.slice none 0 0),(.slice none 0 0),(.string ⟨#[]⟩)]) 136 rfl Try.underlying62 info65 rfl (by decide) (by omega) u9 x9_1 t190 _ _ _ (fun k_=>(P1_6_ k_∨w.heap.size≤k_)∧some k_≠(.slice Ao29 y183.length co29:Value).ownBlock∧k_≠gb178∧k_≠gb179) (fun k_=>((fun k_=>(P1_6_ k_∨w.heap.size≤k_)∧some k_≠(.slice Ao29 y183.length co29:Value).ownBlock∧k_≠gb178∧k_≠gb179)) k_∧some k_≠(u9:Value).ownBlock) rfl rfl ?aO ?aR (fun _ hk=>hk) ?aF ?aB ?aS ?aL ?_
            (case aR=>exact(by skip;exact Kd.N_F (Kd.N_mono (ok':=(fun k_=>((fun k_=>(P1_6_ k_∨w.heap.size≤k_)∧some k_≠(.slice Ao29 y183.length co29:Value).ownBlock∧k_≠gb178∧k_≠gb179)) k_∧some k_≠(u9:Value).ownBlock)) (HO192.out) (fun k_ hk=>⟨⟨hk.1,⟨hk.2.2.1,⟨hk.2.2.2.1,hk.2.2.2.2⟩⟩⟩,hk.2.1⟩))))
            (case aB=>exact(by repeat (first|(with_reducible first|exact HB.out|apply bA_|apply bN_|apply bD_|refine bS_ ?_ GE178.out|refine bS_ ?_ GE179.out)|exact HB.out)))
            (case aF=>exact(fun k_ hk=>⟨(.inr (Nat.le_trans (bZ_ (by repeat (first|(with_reducible first|exact HB.out|apply bA_|apply bN_|apply bD_|refine bS_ ?_ GE178.out|refine bS_ ?_ GE179.out)|exact HB.out))) hk)),Kd.fresh' (Kd.R_lt (by(with_reducible repeat (first|apply Kd.R_alloc|apply Kd.R_drewN|apply Kd.R_drew));exact HO_11.out)) k_ hk,Kd.freshB (g:=gb178) (o:=.cells #[.slice A0_0 l0_0.length c0_0,.slice A0_1 l0_1.length c0_1,.slice A0_2 l0_2.length c0_2,.slice A0_3 l0_3.length c0_3,.slice A0_4 l0_4.length c0_4] 27 (0,0)) (by(with_reducible repeat (first|refine kN_ ?_ _|refine kD_ ?_|refine kA_ ?_ _));exact BK178.out) k_ hk,Kd.freshB (g:=gb179) (o:=.cells #[.int .i64 a1_0,.int .i64 a1_1,.int .i64 a1_2,.int .i64 a1_3,.slice A1_4 l1_4.length c1_4,.string a1_5,.slice (some ad187) l1_6.length c1_6] 32 (0,0)) (by(with_reducible repeat (first|refine kN_ ?_ _|refine kD_ ?_|refine kA_ ?_ _));exact BK179.out) k_ hk⟩))
            (case aO=>exact(by(with_reducible repeat (first|apply Kd.N_alloc|apply Kd.N_drewN|apply Kd.N_drew));exact Kd.N_mono HO_9.out (fun _ hk=>⟨hk.1.1,⟨hk.1.2.1,⟨hk.1.2.2.1,hk.1.2.2.2⟩⟩⟩)))
            (case aS=>exact(bZ_ (by repeat (first|(with_reducible first|exact HB.out|apply bA_|apply bN_|apply bD_|refine bS_ ?_ GE178.out|refine bS_ ?_ GE179.out)|exact HB.out))))
            (case aL=>have:=LMc25.out;omega)
            intro v194 w31 ho hb hg hat
            rw [← Ny193.out] at ho
            have n0_:=Az.mk (Kd.R_over' (by(with_reducible repeat (first|apply Kd.R_alloc|apply Kd.R_drewN|apply Kd.R_drew));exact HO_11.out) (Kd.N_typed (by(with_reducible repeat (first|apply Kd.N_alloc|apply Kd.N_drewN|apply Kd.N_drew));exact HO_9.out)) (by decide) hg)
            have n1_:=Az.mk (Kd.V_afterv (ok:=(fun k_=>(P1_6_ k_∨w.heap.size≤k_)∧some k_≠(.slice Ao29 y183.length co29:Value).ownBlock∧some k_≠(.slice Ao32 t190.length co32:Value).ownBlock∧k_≠gb178∧k_≠gb179)) (by(with_reducible repeat (first|apply Kd.V_alloc|apply Kd.V_drewN|apply Kd.V_drew));exact Kd.V_mono HO_180006.out (fun _ hk=>⟨⟨hk.1.1,⟨hk.1.2.2.1,⟨hk.2,⟨hk.1.2.2.2.1,hk.1.2.2.2.2⟩⟩⟩⟩,hk.1.2.1⟩)) hg hat)
            have n2_:=Az.mk (blk_grown (g:=gb178) (o:=.cells #[.slice A0_0 l0_0.length c0_0,.slice A0_1 l0_1.length c0_1,.slice A0_2 l0_2.length c0_2,.slice A0_3 l0_3.length c0_3,.slice A0_4 l0_4.length c0_4] 27 (0,0)) (by(with_reducible repeat (first|refine kN_ ?_ _|refine kD_ ?_|refine kA_ ?_ _));exact BK178.out) hg (Kd.N_ne HO_9.out BK178.out (by decide)))
            have n3_:=Az.mk (blk_grown (g:=gb179) (o:=.cells #[.int .i64 a1_0,.int .i64 a1_1,.int .i64 a1_2,.int .i64 a1_3,.slice A1_4 l1_4.length c1_4,.string a1_5,.slice (some ad187) l1_6.length c1_6] 32 (0,0)) (by(with_reducible repeat (first|refine kN_ ?_ _|refine kD_ ?_|refine kA_ ?_ _));exact BK179.out) hg (Kd.N_ne HO_9.out BK179.out (by decide)))
            have n4_:=Az.mk (Kd.V_afterv (ok:=(fun k_=>(P1_6_ k_∨w.heap.size≤k_)∧some k_≠(.slice Ao29 y183.length co29:Value).ownBlock∧some k_≠(.slice Ao32 t190.length co32:Value).ownBlock∧k_≠gb178∧k_≠gb179)) (by(with_reducible repeat (first|apply Kd.V_alloc|apply Kd.V_drewN|apply Kd.V_drew));exact Kd.V_mono HL187_4.out (fun _ hk=>⟨⟨hk.1.1,⟨hk.1.2.2.1,⟨hk.2,⟨hk.1.2.2.2.1,hk.1.2.2.2.2⟩⟩⟩⟩,hk.1.2.1⟩)) hg hat)
            have n5_:=Az.mk (Kd.V_afterv (ok:=(fun k_=>(P1_6_ k_∨w.heap.size≤k_)∧some k_≠(.slice Ao29 y183.length co29:Value).ownBlock∧some k_≠(.slice Ao32 t190.length co32:Value).ownBlock∧k_≠gb178∧k_≠gb179)) (by(with_reducible repeat (first|apply Kd.V_alloc|apply Kd.V_drewN|apply Kd.V_drew));exact Kd.V_mono HL187_6.out (fun _ hk=>⟨⟨hk.1.1,⟨hk.1.2.2.1,⟨hk.2,⟨hk.1.2.2.2.1,hk.1.2.2.2.2⟩⟩⟩⟩,hk.1.2.1⟩)) hg hat)
            have n6_:=Az.mk (Kd.V_afterv (ok:=(fun k_=>(P1_6_ k_∨w.heap.size≤k_)∧some k_≠(.slice Ao29 y183.length co29:Value).ownBlock∧some k_≠(.slice Ao32 t190.length co32:Value).ownBlock∧k_≠gb178∧k_≠gb179)) (by(with_reducible repeat (first|apply Kd.V_alloc|apply Kd.V_drewN|apply Kd.V_drew));exact Kd.V_mono HL189_4.out (fun _ hk=>⟨⟨hk.1.1,⟨hk.1.2.2.1,⟨hk.2,⟨hk.1.2.2.2.1,hk.1.2.2.2.2⟩⟩⟩⟩,hk.1.2.1⟩)) hg hat)
            have n7_:=Az.mk (Kd.V_afterv (ok:=(fun k_=>(P1_6_ k_∨w.heap.size≤k_)∧some k_≠(.slice Ao29 y183.length co29:Value).ownBlock∧some k_≠(.slice Ao32 t190.length co32:Value).ownBlock∧k_≠gb178∧k_≠gb179)) (by(with_reducible repeat (first|apply Kd.V_alloc|apply Kd.V_drewN|apply Kd.V_drew));exact Kd.V_mono HL189_6.out (fun _ hk=>⟨⟨hk.1.1,⟨hk.1.2.2.1,⟨hk.2,⟨hk.1.2.2.2.1,hk.1.2.2.2.2⟩⟩⟩⟩,hk.1.2.1⟩)) hg hat)
            have n8_:=Az.mk (Kd.N_afterv (ok:=(fun k_=>(P1_6_ k_∨w.heap.size≤k_)∧some k_≠(.slice Ao29 y183.length co29:Value).ownBlock∧k_≠gb178∧k_≠gb179)) (by(with_reducible repeat (first|apply Kd.N_alloc|apply Kd.N_drewN|apply Kd.N_drew));exact Kd.N_mono HO192.out (fun _ hk=>⟨⟨hk.1,⟨hk.2.2.1,⟨hk.2.2.2.1,hk.2.2.2.2⟩⟩⟩,hk.2.1⟩)) hg hat)
            have n9_:=Az.mk (hb)
            have n10_:=Az.mk (ho)
            clear HO_11
            clear HO_180006
            clear BK178
            clear BK179
            clear HL187_4
            clear HL187_6
            clear HL189_4
            clear HL189_6
            clear HO192
            clear HB
            clear HO_9
            have HO_11:=n0_
            have HO_180006:=n1_
            have BK178:=n2_
            have BK179:=n3_
            have HL187_4:=n4_
            have HL187_6:=n5_
            have HL189_4:=n6_
            have HL189_6:=n7_
            have HO192:=n8_
            have HB:=n9_
            have HO195:=n10_
            clear n0_ n1_ n2_ n3_ n4_ n5_ n6_ n7_ n8_ n9_ n10_
            clear ho hb hg hat
            refine hK.out _ _ ?_
            clear hK K
            refine norm_ (a':=?_) ?_ ?_
            rotate_left
            ·show Act.put _ (some 51) _=_
             simp only [Act.put,sT_,s0_,sC_,i64_w,i32_w]
             rfl
            refine pure_ (i:=11) (N:=some 9) (v:=?_) (a':=?_) #[true,true,true,true,true,true,true,true,true,true,true,true] rfl rfl (any_of HT_.out (by kernel_rfl)) (fun _ _ _ h=>h) (Or.inl ⟨by rfl,?_⟩) ?_ ?_
            rotate_left
            ·intro w'
             go_simp
             with_reducible rfl
            rotate_left
            ·simp only [Act.put,sT_,s0_,sC_,i64_w,i32_w]
             rfl
            refine done_ (done_of HT_.out (by kernel_rfl)) ?_
            try go_wp2
            go_roundg kj10
            case measure=>have:=HK1.out;have:=HJ10.out;omega
            case rel=>exact⟨(y193),(wrap64 (x10_1 + 1)),(by first|rfl|(simp;done)|(simp [*];done)|(refine congrArg Value.bool ?_;exact isE_ _)),H',⟨by have:=HK1.out;have:=HJ10.out;omega⟩,⟨by(with_reducible repeat (first|apply Kd.N_alloc|apply Kd.N_drewN|apply Kd.N_drew));exact Kd.N_mono HO195.out (fun _ hk=>⟨hk.1,⟨hk.2.2.1,hk.2.2.2⟩⟩)⟩,⟨by(with_reducible repeat (first|apply Kd.V_alloc|apply Kd.V_drewN|apply Kd.V_drew));exact Kd.V_mono HO_180006.out (fun _ hk=>⟨hk.1.1,⟨hk.2,⟨hk.1.2.2.2.1,hk.1.2.2.2.2⟩⟩⟩)⟩,⟨by(with_reducible repeat (first|refine kN_ ?_ _|refine kD_ ?_|refine kA_ ?_ _));exact BK178.out⟩,⟨by(with_reducible repeat (first|refine kN_ ?_ _|refine kD_ ?_|refine kA_ ?_ _));exact BK179.out⟩,⟨by repeat (first|(with_reducible first|exact HB.out|apply bA_|apply bN_|apply bD_|refine bS_ ?_ GE178.out|refine bS_ ?_ GE179.out)|exact HB.out)⟩⟩
           ·rw [if_neg c25] at H
            exact absurd H (by simp)
          ·replace c23:=Bool.eq_false_iff.mpr c23
           subst c23
           have H1:(if x9_1.length < 1034834473200 then(arboristref46_All.l0 kj10 l2 a3 (x9_1 ++ [(⟨(⟨(rd_T32 l1_6 x10_1).f0,(rd_T32 l1_6 x10_1).f1,(rd_T32 l1_6 x10_1).f2,(rd_T32 l1_6 x10_1).f3,(rd_T32 l1_6 x10_1).f4,(rd_T32 l1_6 x10_1).f5,(rd_T32 l1_6 x10_1).f6⟩:S32),y183,x12_10⟩:S65)]) (wrap64 (x10_1 + 1)) l0_0 l0_1 l0_2 l0_3 l0_4 a1_0 a1_1 a1_2 a1_3 l1_4 a1_5 l1_6)else(none))=some r:=by rw [if_neg (show ¬ (false=true) by decide)] at H;exact H
           clear H
           have H:=H1
           clear H1
           by_cases c33:x9_1.length < 1034834473200
           ·rw [if_pos c33] at H
            have LMc33:=Az.mk c33
            clear c33
            obtain⟨y197,hy197⟩:∃ y_:List (S65),y_=(x9_1 ++ [(⟨(⟨(rd_T32 l1_6 x10_1).f0,(rd_T32 l1_6 x10_1).f1,(rd_T32 l1_6 x10_1).f2,(rd_T32 l1_6 x10_1).f3,(rd_T32 l1_6 x10_1).f4,(rd_T32 l1_6 x10_1).f5,(rd_T32 l1_6 x10_1).f6⟩:S32),y183,x12_10⟩:S65)]):=⟨_,rfl⟩
            replace H:(arboristref46_All.l0 kj10 l2 a3 y197 (wrap64 (x10_1 + 1)) l0_0 l0_1 l0_2 l0_3 l0_4 a1_0 a1_1 a1_2 a1_3 l1_4 a1_5 l1_6)=some r:=by first|(rw [hy197];with_reducible exact H)|(have H2_:=(Option.bind_some _ _).symm.trans H;rw [hy197];with_reducible exact H2_)|(have H2_:=(Option.bind_some _ _).symm.trans H;with_reducible exact H2_)|with_reducible exact H|(rw [hy197];exact H)|exact H
            have Ny197:=Az.mk hy197
            clear hy197
            have H':=Az.mk H
            clear H
            try go_wp2
            have n0_:=Az.mk (Kd.N_drew HO_9.out)
            have n1_:=Az.mk (Kd.R_drew HO_11.out)
            have n2_:=Az.mk (Kd.V_drew HO_180006.out)
            have n3_:=Az.mk (kD_ BK178.out)
            have n4_:=Az.mk (kD_ BK179.out)
            have n5_:=Az.mk (bD_ HB.out)
            clear HO_9
            clear HO_11
            clear HO_180006
            clear BK178
            clear BK179
            clear HB
            have HO_9:=n0_
            have HO_11:=n1_
            have HO_180006:=n2_
            have BK178:=n3_
            have BK179:=n4_
            have HB:=n5_
            clear n0_ n1_ n2_ n3_ n4_ n5_
            have p187:0≤(x10_1:Int):=of_decide_eq_true (by first|(with_reducible assumption)|assumption)
            have q187:x10_1 < (l1_6.length:Int):=of_decide_eq_true (by first|(with_reducible assumption)|assumption)
            obtain⟨ad187,A187_4,c187_4,A187_6,c187_6,e187,hx187_0,hx187_1,hx187_2,hx187_3,hx187_4,hx187_5,hx187_6,hl187_4,hi187_4,hl187_6,hi187_6⟩:=at_T32 (Kd.V_reads' HO_180006.out).2.2 x10_1 p187 q187
            cases e187
            obtain⟨ce187,hce187,hMe187,hcc187⟩:=Kd.V_get HO_180006.out z32 x10_1 p187 (by first|exact q187|exact of_decide_eq_true (by first|(with_reducible assumption)|assumption)|(have e_:=(Kd.V_reads' HO_180006.out).1;omega))
            obtain⟨ua187_4,uc187_4,ua187_6,uc187_6,rfl,ul187_4,ge187_4,ul187_6,ge187_6⟩:=k32_openF hMe187
            have hv187_4:=hcc187 4 _ rfl
            rw [add_field _ _ 4 (by omega)] at hv187_4
            replace hv187_4:=Option.some.inj (hv187_4.symm.trans hx187_4)
            injection hv187_4 with hva_ hvn_ hvc_
            rw [hva_] at ge187_4
            rw [hvc_] at ul187_4
            have HL187_4:=Az.mk (show Kd.V k53 53 _ w.heap.size _ _ ((rd_T32 l1_6 x10_1).f4)from Kd.V_mk ul187_4 ge187_4)
            clear hva_ hvn_ hvc_ ge187_4 ul187_4
            have hv187_6:=hcc187 6 _ rfl
            rw [add_field _ _ 6 (by omega)] at hv187_6
            replace hv187_6:=Option.some.inj (hv187_6.symm.trans hx187_6)
            injection hv187_6 with hva_ hvn_ hvc_
            rw [hva_] at ge187_6
            rw [hvc_] at ul187_6
            have HL187_6:=Az.mk (show Kd.V k32 32 _ w.heap.size _ _ ((rd_T32 l1_6 x10_1).f6)from Kd.V_mk ul187_6 ge187_6)
            clear hva_ hvn_ hvc_ ge187_6 ul187_6
            clear hcc187 hce187
            have HR187_4:=Az.mk hi187_4
            have HC187_4:=Az.mk hl187_4
            clear hi187_4 hl187_4
            have HR187_6:=Az.mk hi187_6
            have HC187_6:=Az.mk hl187_6
            clear hi187_6 hl187_6
            replace p187:=eq_true p187
            replace q187:=eq_true q187
            refine start_ (n:=7) (S:=fun w'=>w'.cell? ⟨gb178,0,none⟩=some (.slice A0_0 l0_0.length c0_0)∧w'.cell? ⟨gb178,1,none⟩=some (.slice A0_1 l0_1.length c0_1)∧w'.cell? ⟨gb178,2,none⟩=some (.slice A0_2 l0_2.length c0_2)∧w'.cell? ⟨gb178,3,none⟩=some (.slice A0_3 l0_3.length c0_3)∧w'.cell? ⟨gb178,4,none⟩=some (.slice A0_4 l0_4.length c0_4)∧w'.cell? ⟨gb179,0,none⟩=some (.int .i64 a1_0)∧w'.cell? ⟨gb179,1,none⟩=some (.int .i64 a1_1)∧w'.cell? ⟨gb179,2,none⟩=some (.int .i64 a1_2)∧w'.cell? ⟨gb179,3,none⟩=some (.int .i64 a1_3)∧w'.cell? ⟨gb179,4,none⟩=some (.slice A1_4 l1_4.length c1_4)∧w'.cell? ⟨gb179,5,none⟩=some (.string a1_5)∧w'.cell? ⟨gb179,6,none⟩=some (.slice (some ad187) l1_6.length c1_6)∧w'.cell? (ad187.add ((x10_1).toNat * 7))=some (.int .i64 ((rd_T32 l1_6 x10_1).f0))∧w'.cell? ⟨(ad187.add ((x10_1).toNat * 7)).block,(ad187.add ((x10_1).toNat * 7)).off + 1,none⟩=some (.int .i64 ((rd_T32 l1_6 x10_1).f1))∧w'.cell? ⟨(ad187.add ((x10_1).toNat * 7)).block,(ad187.add ((x10_1).toNat * 7)).off + 2,none⟩=some (.int .i64 ((rd_T32 l1_6 x10_1).f2))∧w'.cell? ⟨(ad187.add ((x10_1).toNat * 7)).block,(ad187.add ((x10_1).toNat * 7)).off + 3,none⟩=some (.int .i64 ((rd_T32 l1_6 x10_1).f3))∧w'.cell? ⟨(ad187.add ((x10_1).toNat * 7)).block,(ad187.add ((x10_1).toNat * 7)).off + 4,none⟩=some (.slice A187_4 ((rd_T32 l1_6 x10_1).f4).length c187_4)∧w'.cell? ⟨(ad187.add ((x10_1).toNat * 7)).block,(ad187.add ((x10_1).toNat * 7)).off + 5,none⟩=some (.string ((rd_T32 l1_6 x10_1).f5))∧w'.cell? ⟨(ad187.add ((x10_1).toNat * 7)).block,(ad187.add ((x10_1).toNat * 7)).off + 6,none⟩=some (.slice A187_6 ((rd_T32 l1_6 x10_1).f6).length c187_6)) (ds:=[]) #[false,false,false,false,false,false,false] (by kernel_rfl) rfl rfl ⟨(bC_ BK178.out 0).trans rfl,(bC_ BK178.out 1).trans rfl,(bC_ BK178.out 2).trans rfl,(bC_ BK178.out 3).trans rfl,(bC_ BK178.out 4).trans rfl,(bC_ BK179.out 0).trans rfl,(bC_ BK179.out 1).trans rfl,(bC_ BK179.out 2).trans rfl,(bC_ BK179.out 3).trans rfl,(bC_ BK179.out 4).trans rfl,(bC_ BK179.out 5).trans rfl,(bC_ BK179.out 6).trans rfl,hx187_0,hx187_1,hx187_2,hx187_3,hx187_4,hx187_5,hx187_6⟩ (fun hHeld=>?_)
            generalize wc.drew=w34 at HO_9 HO_11 HO_180006 BK178 BK179 HB HL187_4 HL187_6 HR187_4 HR187_6 hx187_0 hx187_1 hx187_2 hx187_3 hx187_4 hx187_5 hx187_6 hHeld ⊢
            refine pure_ (i:=1) (N:=some 35) (v:=?_) (a':=?_) #[false,true,false,false,false,false,false] rfl rfl (by kernel_rfl) (fun _ _ _ h=>h) (Or.inl ⟨by rfl,?_⟩) ?_ ?_
            rotate_left
            ·intro w'
             go_simp
             with_reducible rfl
            rotate_left
            ·simp only [Act.put,sT_,s0_,sC_,i64_w,i32_w]
             rfl
            refine pure_ (i:=3) (N:=some 37) (v:=?_) (a':=?_) #[false,true,false,true,false,false,false] rfl rfl (by kernel_rfl) (fun _ _ _ h=>h) (Or.inl ⟨by rfl,?_⟩) ?_ ?_
            rotate_left
            ·intro w'
             go_simp
             with_reducible rfl
            rotate_left
            ·simp only [Act.put,sT_,s0_,sC_,i64_w,i32_w]
             rfl
            refine take_ (i:=0) (N:=some 34) (v:=?_) (a':=?_) #[true,true,false,true,false,false,false] rfl rfl (by kernel_rfl) (fun _ _ _ h=>h) (Or.inl ⟨by rfl,?_⟩) hHeld ?_ ?_
            rotate_left
            ·rintro w' ⟨s0,s1,s2,s3,s4,s5,s6,s7,s8,s9,s10,s11,s12,s13,s14,s15,s16,s17,s18⟩
             go_simp
             with_reducible rfl
            rotate_left
            ·simp only [Act.put,sT_,s0_,sC_,i64_w,i32_w]
             rfl
            refine take_ (i:=2) (N:=some 36) (v:=?_) (a':=?_) #[true,true,true,true,false,false,false] rfl rfl (by kernel_rfl) (fun _ _ _ h=>h) (Or.inl ⟨by rfl,?_⟩) hHeld ?_ ?_
            rotate_left
            ·rintro w' ⟨s0,s1,s2,s3,s4,s5,s6,s7,s8,s9,s10,s11,s12,s13,s14,s15,s16,s17,s18⟩
             go_simp
             with_reducible rfl
            rotate_left
            ·simp only [Act.put,sT_,s0_,sC_,i64_w,i32_w]
             rfl
            refine pure_ (i:=4) (N:=some 38) (v:=?_) (a':=?_) #[true,true,true,true,true,false,false] rfl rfl (by kernel_rfl) (fun _ _ _ h=>h) (Or.inl ⟨by rfl,?_⟩) ?_ ?_
            rotate_left
            ·intro w'
             go_simp
             with_reducible rfl
            rotate_left
            ·simp only [Act.put,sT_,s0_,sC_,i64_w,i32_w]
             rfl
            refine take_ (i:=5) (N:=some 39) (v:=?_) (a':=?_) #[true,true,true,true,true,true,false] rfl rfl (by kernel_rfl) (fun _ _ _ h=>h) (Or.inl ⟨by rfl,?_⟩) hHeld ?_ ?_
            rotate_left
            ·rintro w' ⟨s0,s1,s2,s3,s4,s5,s6,s7,s8,s9,s10,s11,s12,s13,s14,s15,s16,s17,s18⟩
             go_simp
             with_reducible rfl
            rotate_left
            ·simp only [Act.put,sT_,s0_,sC_,i64_w,i32_w]
             rfl
            refine one_ (i:=6) (N:=some 40) #[true,true,true,true,true,true,true] rfl rfl (by kernel_rfl) (by decide) (fun K hK=>?_)
            refine goes_ Try.func24 (by kernel_rfl) rfl #[.agg #[.slice A0_0 l0_0.length c0_0,.slice A0_1 l0_1.length c0_1,.slice A0_2 l0_2.length c0_2,.slice A0_3 l0_3.length c0_3,.slice A0_4 l0_4.length c0_4],.agg #[.int .i64 ((rd_T32 l1_6 x10_1).f0),.int .i64 ((rd_T32 l1_6 x10_1).f1),.int .i64 ((rd_T32 l1_6 x10_1).f2),.int .i64 ((rd_T32 l1_6 x10_1).f3),.slice A187_4 ((rd_T32 l1_6 x10_1).f4).length c187_4,.string ((rd_T32 l1_6 x10_1).f5),.slice A187_6 ((rd_T32 l1_6 x10_1).f6).length c187_6]] (by rfl) rfl rfl (by(try simp only [List.map_toArray,List.map_cons,List.map_nil]);first|done|rfl|(simp only [List.length_drop,List.length_take];rfl)) ?_
            with_reducible refine(arboristref46_Dissolves.calls _ _ l0_0 _ _ l0_1 _ _ l0_2 _ _ l0_3 _ _ l0_4 ((rd_T32 l1_6 x10_1).f0) ((rd_T32 l1_6 x10_1).f1) ((rd_T32 l1_6 x10_1).f2) ((rd_T32 l1_6 x10_1).f3) _ _ ((rd_T32 l1_6 x10_1).f4) ((rd_T32 l1_6 x10_1).f5) _ _ ((rd_T32 l1_6 x10_1).f6) false _ ?side1 ?side2 ?side3 ?side4 ?side5 ?side6 ?side7 ?side8 ?side9 ?side10 ?side11 ?side12 ?side13 ?side14 A22.out).mono ?_
            (case side1=>repeat (first|exact(Kd.C_below HR0_0.out HB.out)|(with_reducible first|refine Kd.C_alloc ?_ _|refine Kd.C_drewN ?_ _|refine Kd.C_drew ?_)))
            (case side2=>exact HC0_0.out)
            (case side3=>repeat (first|exact(Kd.C_below HR0_1.out HB.out)|(with_reducible first|refine Kd.C_alloc ?_ _|refine Kd.C_drewN ?_ _|refine Kd.C_drew ?_)))
            (case side4=>exact HC0_1.out)
            (case side5=>repeat (first|exact(Kd.C_below HR0_2.out HB.out)|(with_reducible first|refine Kd.C_alloc ?_ _|refine Kd.C_drewN ?_ _|refine Kd.C_drew ?_)))
            (case side6=>exact HC0_2.out)
            (case side7=>repeat (first|exact(Kd.C_below HR0_3.out HB.out)|(with_reducible first|refine Kd.C_alloc ?_ _|refine Kd.C_drewN ?_ _|refine Kd.C_drew ?_)))
            (case side8=>exact HC0_3.out)
            (case side9=>repeat (first|exact(Kd.C_below HR0_4.out HB.out)|(with_reducible first|refine Kd.C_alloc ?_ _|refine Kd.C_drewN ?_ _|refine Kd.C_drew ?_)))
            (case side10=>exact HC0_4.out)
            (case side11=>repeat (first|exact(by repeat (first|(with_reducible exact HR187_4.out)|(with_reducible first|refine Kd.C_alloc ?_ _|refine Kd.C_drewN ?_ _|refine Kd.C_drew ?_)|exact HR187_4.out))|(with_reducible first|refine Kd.C_alloc ?_ _|refine Kd.C_drewN ?_ _|refine Kd.C_drew ?_)))
            (case side12=>exact HC187_4.out)
            (case side13=>repeat (first|exact(by repeat (first|(with_reducible exact HR187_6.out)|(with_reducible first|refine Kd.C_alloc ?_ _|refine Kd.C_drewN ?_ _|refine Kd.C_drew ?_)|exact HR187_6.out))|(with_reducible first|refine Kd.C_alloc ?_ _|refine Kd.C_drewN ?_ _|refine Kd.C_drew ?_)))
            (case side14=>exact HC187_6.out)
            rintro e w35 ⟨rfl,hb⟩
            have HS12_:=(hb.cell (bL_ _ _ (hHeld.2.2.2.2.2.2.2.2.2.2.2.2.1))).trans (hHeld.2.2.2.2.2.2.2.2.2.2.2.2.1)
            have HS13_:=(hb.cell (bL_ _ _ (hHeld.2.2.2.2.2.2.2.2.2.2.2.2.2.1))).trans (hHeld.2.2.2.2.2.2.2.2.2.2.2.2.2.1)
            have HS14_:=(hb.cell (bL_ _ _ (hHeld.2.2.2.2.2.2.2.2.2.2.2.2.2.2.1))).trans (hHeld.2.2.2.2.2.2.2.2.2.2.2.2.2.2.1)
            have HS15_:=(hb.cell (bL_ _ _ (hHeld.2.2.2.2.2.2.2.2.2.2.2.2.2.2.2.1))).trans (hHeld.2.2.2.2.2.2.2.2.2.2.2.2.2.2.2.1)
            have HS16_:=(hb.cell (bL_ _ _ (hHeld.2.2.2.2.2.2.2.2.2.2.2.2.2.2.2.2.1))).trans (hHeld.2.2.2.2.2.2.2.2.2.2.2.2.2.2.2.2.1)
            have HS17_:=(hb.cell (bL_ _ _ (hHeld.2.2.2.2.2.2.2.2.2.2.2.2.2.2.2.2.2.1))).trans (hHeld.2.2.2.2.2.2.2.2.2.2.2.2.2.2.2.2.2.1)
            have HS18_:=(hb.cell (bL_ _ _ (hHeld.2.2.2.2.2.2.2.2.2.2.2.2.2.2.2.2.2.2))).trans (hHeld.2.2.2.2.2.2.2.2.2.2.2.2.2.2.2.2.2.2)
            refine⟨_,rfl,?_⟩
            have n0_:=Az.mk (Kd.N_below (by(with_reducible repeat (first|apply Kd.N_alloc|apply Kd.N_drewN|apply Kd.N_drew));exact HO_9.out) hb)
            have n1_:=Az.mk (Kd.R_below (by(with_reducible repeat (first|apply Kd.R_alloc|apply Kd.R_drewN|apply Kd.R_drew));exact HO_11.out) hb)
            have n2_:=Az.mk (Kd.V_below (by(with_reducible repeat (first|apply Kd.V_alloc|apply Kd.V_drewN|apply Kd.V_drew));exact HO_180006.out) hb)
            have n3_:=Az.mk (Kd.V_below (by(with_reducible repeat (first|apply Kd.V_alloc|apply Kd.V_drewN|apply Kd.V_drew));exact HL187_4.out) hb)
            have n4_:=Az.mk (Kd.V_below (by(with_reducible repeat (first|apply Kd.V_alloc|apply Kd.V_drewN|apply Kd.V_drew));exact HL187_6.out) hb)
            have n5_:=Az.mk (kB_ (g:=gb178) (o:=.cells #[.slice A0_0 l0_0.length c0_0,.slice A0_1 l0_1.length c0_1,.slice A0_2 l0_2.length c0_2,.slice A0_3 l0_3.length c0_3,.slice A0_4 l0_4.length c0_4] 27 (0,0)) (by(with_reducible repeat (first|refine kN_ ?_ _|refine kD_ ?_|refine kA_ ?_ _));exact BK178.out) hb)
            have n6_:=Az.mk (kB_ (g:=gb179) (o:=.cells #[.int .i64 a1_0,.int .i64 a1_1,.int .i64 a1_2,.int .i64 a1_3,.slice A1_4 l1_4.length c1_4,.string a1_5,.slice (some ad187) l1_6.length c1_6] 32 (0,0)) (by(with_reducible repeat (first|refine kN_ ?_ _|refine kD_ ?_|refine kA_ ?_ _));exact BK179.out) hb)
            have n7_:=Az.mk (Kd.C_below (by repeat (first|(with_reducible exact HR187_4.out)|(with_reducible first|refine Kd.C_alloc ?_ _|refine Kd.C_drewN ?_ _|refine Kd.C_drew ?_)|exact HR187_4.out)) hb)
            have n8_:=Az.mk (Kd.C_below (by repeat (first|(with_reducible exact HR187_6.out)|(with_reducible first|refine Kd.C_alloc ?_ _|refine Kd.C_drewN ?_ _|refine Kd.C_drew ?_)|exact HR187_6.out)) hb)
            have n9_:=Az.mk (bT_ (by repeat (first|(with_reducible first|exact HB.out|apply bA_|apply bN_|apply bD_|refine bS_ ?_ GE178.out|refine bS_ ?_ GE179.out)|exact HB.out)) hb)
            clear HO_9
            clear HO_11
            clear HO_180006
            clear HL187_4
            clear HL187_6
            clear BK178
            clear BK179
            clear HR187_4
            clear HR187_6
            clear HB
            have HO_9:=n0_
            have HO_11:=n1_
            have HO_180006:=n2_
            have HL187_4:=n3_
            have HL187_6:=n4_
            have BK178:=n5_
            have BK179:=n6_
            have HR187_4:=n7_
            have HR187_6:=n8_
            have HB:=n9_
            clear n0_ n1_ n2_ n3_ n4_ n5_ n6_ n7_ n8_ n9_
            (try clear hb)
            (try clear hb2)
            (try clear hk)
            (try clear hi)
            refine hK.out _ _ ⟨(bC_ BK178.out 0).trans rfl,(bC_ BK178.out 1).trans rfl,(bC_ BK178.out 2).trans rfl,(bC_ BK178.out 3).trans rfl,(bC_ BK178.out 4).trans rfl,(bC_ BK179.out 0).trans rfl,(bC_ BK179.out 1).trans rfl,(bC_ BK179.out 2).trans rfl,(bC_ BK179.out 3).trans rfl,(bC_ BK179.out 4).trans rfl,(bC_ BK179.out 5).trans rfl,(bC_ BK179.out 6).trans rfl,HS12_,HS13_,HS14_,HS15_,HS16_,HS17_,HS18_⟩ (fun hHeld=>?_)
            clear hK K
            refine norm_ (a':=?_) ?_ ?_
            rotate_left
            ·show Act.put _ (some 40) _=_
             simp only [Act.put,sT_,s0_,sC_,i64_w,i32_w]
             rfl
            refine done_ (by kernel_rfl) ?_
            have hnb36:=NB179_178.out
            have hnc36:=NB178_179.out
            have hcz37_0:w35.cell? ⟨gb179,0,none⟩=some (.int .i64 a1_0):=(bC_ BK179.out 0).trans rfl
            have hcz37_1:w35.cell? ⟨gb179,1,none⟩=some (.int .i64 a1_1):=(bC_ BK179.out 1).trans rfl
            have hcz37_2:w35.cell? ⟨gb179,2,none⟩=some (.int .i64 a1_2):=(bC_ BK179.out 2).trans rfl
            have hcz37_3:w35.cell? ⟨gb179,3,none⟩=some (.int .i64 a1_3):=(bC_ BK179.out 3).trans rfl
            have hcz37_4:w35.cell? ⟨gb179,4,none⟩=some (.slice A1_4 l1_4.length c1_4):=(bC_ BK179.out 4).trans rfl
            have hcz37_5:w35.cell? ⟨gb179,5,none⟩=some (.string a1_5):=(bC_ BK179.out 5).trans rfl
            have hcz37_6:w35.cell? ⟨gb179,6,none⟩=some (.slice (some ad187) l1_6.length c1_6):=(bC_ BK179.out 6).trans rfl
            have hfz37_0:=bF_ BK179.out 0
            have hfz37_1:=bF_ BK179.out 1
            have hfz37_2:=bF_ BK179.out 2
            have hfz37_3:=bF_ BK179.out 3
            have hfz37_4:=bF_ BK179.out 4
            have hfz37_5:=bF_ BK179.out 5
            have hfz37_6:=bF_ BK179.out 6
            have p196:0≤(x10_1:Int):=of_decide_eq_true (by first|(with_reducible assumption)|assumption)
            have q196:x10_1 < (l1_6.length:Int):=of_decide_eq_true (by first|(with_reducible assumption)|assumption)
            obtain⟨ad196,A196_4,c196_4,A196_6,c196_6,e196,hx196_0,hx196_1,hx196_2,hx196_3,hx196_4,hx196_5,hx196_6,hl196_4,hi196_4,hl196_6,hi196_6⟩:=at_T32 (Kd.V_reads' HO_180006.out).2.2 x10_1 p196 q196
            obtain rfl:ad187=ad196:=(by injection e196)
            obtain⟨ce196,hce196,hMe196,hcc196⟩:=Kd.V_get HO_180006.out z32 x10_1 p196 (by first|exact q196|exact of_decide_eq_true (by first|(with_reducible assumption)|assumption)|(have e_:=(Kd.V_reads' HO_180006.out).1;omega))
            obtain⟨ua196_4,uc196_4,ua196_6,uc196_6,rfl,ul196_4,ge196_4,ul196_6,ge196_6⟩:=k32_openF hMe196
            have hv196_4:=hcc196 4 _ rfl
            rw [add_field _ _ 4 (by omega)] at hv196_4
            replace hv196_4:=Option.some.inj (hv196_4.symm.trans hx196_4)
            injection hv196_4 with hva_ hvn_ hvc_
            rw [hva_] at ge196_4
            rw [hvc_] at ul196_4
            have HL196_4:=Az.mk (show Kd.V k53 53 _ w.heap.size _ _ ((rd_T32 l1_6 x10_1).f4)from Kd.V_mk ul196_4 ge196_4)
            clear hva_ hvn_ hvc_ ge196_4 ul196_4
            have hv196_6:=hcc196 6 _ rfl
            rw [add_field _ _ 6 (by omega)] at hv196_6
            replace hv196_6:=Option.some.inj (hv196_6.symm.trans hx196_6)
            injection hv196_6 with hva_ hvn_ hvc_
            rw [hva_] at ge196_6
            rw [hvc_] at ul196_6
            have HL196_6:=Az.mk (show Kd.V k32 32 _ w.heap.size _ _ ((rd_T32 l1_6 x10_1).f6)from Kd.V_mk ul196_6 ge196_6)
            clear hva_ hvn_ hvc_ ge196_6 ul196_6
            clear hcc196 hce196
            have HR196_4:=Az.mk hi196_4
            have HC196_4:=Az.mk hl196_4
            clear hi196_4 hl196_4
            have HR196_6:=Az.mk hi196_6
            have HC196_6:=Az.mk hl196_6
            clear hi196_6 hl196_6
            replace p196:=eq_true p196
            replace q196:=eq_true q196
            obtain⟨Ao38,co38,eo38⟩:=Kd.R_slice HO_11.out
            subst eo38
            (try (have eu_:Value.slice A196_4 _ c196_4=Value.slice A187_4 _ c187_4:=Option.some.inj (hx196_4.symm.trans (by first|exact hx187_4|assumption));injection eu_ with eA_ eB_ eC_;subst eA_;subst eC_))
            (try (have eu_:Value.slice A196_6 _ c196_6=Value.slice A187_6 _ c187_6:=Option.some.inj (hx196_6.symm.trans (by first|exact hx187_6|assumption));injection eu_ with eA_ eB_ eC_;subst eA_;subst eC_))
            try go_wp2_with (first|((with_reducible refine gate_builtin (b:=.append) (xs:=#[.tmp 52,.tmp 61]) rfl ?_);at_builtin;refine Kd.N_append k65 (w0:=w) w.heap.size rfl (.tmp 52) (.tmp 61) 62 65 (.agg #[(.int .i64 0),(.int .i64 0),(.int .i64 0),(.int .i64 0),(.slice none 0 0),(.string ⟨#[]⟩),(.slice none 0 0),(.slice none 0 0),(.string ⟨#[]⟩)]) 136 rfl Try.underlying62 info65 rfl (by decide) (by omega) u9 x9_1 (⟨(⟨(rd_T32 l1_6 x10_1).f0,(rd_T32 l1_6 x10_1).f1,(rd_T32 l1_6 x10_1).f2,(rd_T32 l1_6 x10_1).f3,(rd_T32 l1_6 x10_1).f4,(rd_T32 l1_6 x10_1).f5,(rd_T32 l1_6 x10_1).f6⟩:S32),y183,x12_10⟩:S65) [.int .i64 ((rd_T32 l1_6 x10_1).f0),.int .i64 ((rd_T32 l1_6 x10_1).f1),.int .i64 ((rd_T32 l1_6 x10_1).f2),.int .i64 ((rd_T32 l1_6 x10_1).f3),.slice A196_4 ((rd_T32 l1_6 x10_1).f4).length c196_4,.string ((rd_T32 l1_6 x10_1).f5),.slice A196_6 ((rd_T32 l1_6 x10_1).f6).length c196_6,.slice Ao38 y183.length co38,.string x12_10] (fun k_=>(P1_6_ k_∨w.heap.size≤k_)∧k_≠gb178∧k_≠gb179) (fun k_=>((fun k_=>(P1_6_ k_∨w.heap.size≤k_)∧k_≠gb178∧k_≠gb179)) k_∧some k_≠(u9:Value).ownBlock) rfl rfl ?aP (fun _ hk=>hk) ?aF ?aO ?aB ?aS ?aL ?_;(case aP=>exact(k65_mkF _ _ (⟨(⟨(rd_T32 l1_6 x10_1).f0,(rd_T32 l1_6 x10_1).f1,(rd_T32 l1_6 x10_1).f2,(rd_T32 l1_6 x10_1).f3,(rd_T32 l1_6 x10_1).f4,(rd_T32 l1_6 x10_1).f5,(rd_T32 l1_6 x10_1).f6⟩:S32),y183,x12_10⟩:S65) (Kd.V_reads' (Kd.V_mono (ok':=(fun k_=>((fun k_=>(P1_6_ k_∨w.heap.size≤k_)∧k_≠gb178∧k_≠gb179)) k_∧some k_≠(u9:Value).ownBlock)) (HL196_4.out) (fun k_ hk=>⟨⟨hk.1,⟨hk.2.2.2.1,hk.2.2.2.2⟩⟩,hk.2.1⟩))).2.1 (Kd.V_F (Kd.V_mono (ok':=(fun k_=>((fun k_=>(P1_6_ k_∨w.heap.size≤k_)∧k_≠gb178∧k_≠gb179)) k_∧some k_≠(u9:Value).ownBlock)) (HL196_4.out) (fun k_ hk=>⟨⟨hk.1,⟨hk.2.2.2.1,hk.2.2.2.2⟩⟩,hk.2.1⟩))) (Kd.V_reads' (Kd.V_mono (ok':=(fun k_=>((fun k_=>(P1_6_ k_∨w.heap.size≤k_)∧k_≠gb178∧k_≠gb179)) k_∧some k_≠(u9:Value).ownBlock)) (HL196_6.out) (fun k_ hk=>⟨⟨hk.1,⟨hk.2.2.2.1,hk.2.2.2.2⟩⟩,hk.2.1⟩))).2.1 (Kd.V_F (Kd.V_mono (ok':=(fun k_=>((fun k_=>(P1_6_ k_∨w.heap.size≤k_)∧k_≠gb178∧k_≠gb179)) k_∧some k_≠(u9:Value).ownBlock)) (HL196_6.out) (fun k_ hk=>⟨⟨hk.1,⟨hk.2.2.2.1,hk.2.2.2.2⟩⟩,hk.2.1⟩))) (Kd.R_reads' (Kd.R_mono (ok':=(fun k_=>((fun k_=>(P1_6_ k_∨w.heap.size≤k_)∧k_≠gb178∧k_≠gb179)) k_∧some k_≠(u9:Value).ownBlock)) (Kd.R_types (Kd.R_types (Kd.R_apart' (HO_11.out) (Kd.N_typed HO_9.out) (by decide)) BK178.out (by decide)) BK179.out (by decide)) (fun k_ hk=>⟨⟨(.inr (hk.1.1.1)),⟨hk.1.2,hk.2⟩⟩,hk.1.1.2⟩))).2.1 (Kd.R_F (Kd.R_mono (ok':=(fun k_=>((fun k_=>(P1_6_ k_∨w.heap.size≤k_)∧k_≠gb178∧k_≠gb179)) k_∧some k_≠(u9:Value).ownBlock)) (Kd.R_types (Kd.R_types (Kd.R_apart' (HO_11.out) (Kd.N_typed HO_9.out) (by decide)) BK178.out (by decide)) BK179.out (by decide)) (fun k_ hk=>⟨⟨(.inr (hk.1.1.1)),⟨hk.1.2,hk.2⟩⟩,hk.1.1.2⟩)))));(case aB=>exact(by repeat (first|(with_reducible first|exact HB.out|apply bA_|apply bN_|apply bD_|refine bS_ ?_ GE178.out|refine bS_ ?_ GE179.out)|exact HB.out)));(case aF=>exact(fun k_ hk=>⟨(.inr (Nat.le_trans (bZ_ (by repeat (first|(with_reducible first|exact HB.out|apply bA_|apply bN_|apply bD_|refine bS_ ?_ GE178.out|refine bS_ ?_ GE179.out)|exact HB.out))) hk)),Kd.freshB (g:=gb178) (o:=.cells #[.slice A0_0 l0_0.length c0_0,.slice A0_1 l0_1.length c0_1,.slice A0_2 l0_2.length c0_2,.slice A0_3 l0_3.length c0_3,.slice A0_4 l0_4.length c0_4] 27 (0,0)) (by(with_reducible repeat (first|refine kN_ ?_ _|refine kD_ ?_|refine kA_ ?_ _));exact BK178.out) k_ hk,Kd.freshB (g:=gb179) (o:=.cells #[.int .i64 a1_0,.int .i64 a1_1,.int .i64 a1_2,.int .i64 a1_3,.slice A1_4 l1_4.length c1_4,.string a1_5,.slice (some ad187) l1_6.length c1_6] 32 (0,0)) (by(with_reducible repeat (first|refine kN_ ?_ _|refine kD_ ?_|refine kA_ ?_ _));exact BK179.out) k_ hk⟩));(case aO=>exact(by(with_reducible repeat (first|apply Kd.N_alloc|apply Kd.N_drewN|apply Kd.N_drew));exact Kd.N_mono HO_9.out (fun _ hk=>⟨hk.1,⟨hk.2.2.1,hk.2.2.2⟩⟩)));(case aS=>exact(bZ_ (by repeat (first|(with_reducible first|exact HB.out|apply bA_|apply bN_|apply bD_|refine bS_ ?_ GE178.out|refine bS_ ?_ GE179.out)|exact HB.out))));(case aL=>have:=LMc33.out;omega);intro v198 w39 ho hb hg hat;rw [← Ny197.out] at ho;have n0_:=Az.mk (Kd.V_afterv (ok:=(fun k_=>(P1_6_ k_∨w.heap.size≤k_)∧some k_≠(.slice Ao38 y183.length co38:Value).ownBlock∧k_≠gb178∧k_≠gb179)) (by(with_reducible repeat (first|apply Kd.V_alloc|apply Kd.V_drewN|apply Kd.V_drew));exact Kd.V_mono HO_180006.out (fun _ hk=>⟨⟨hk.1,⟨hk.2.2.1,⟨hk.2.2.2.1,hk.2.2.2.2⟩⟩⟩,hk.2.1⟩)) hg hat);have n1_:=Az.mk (blk_grown (g:=gb178) (o:=.cells #[.slice A0_0 l0_0.length c0_0,.slice A0_1 l0_1.length c0_1,.slice A0_2 l0_2.length c0_2,.slice A0_3 l0_3.length c0_3,.slice A0_4 l0_4.length c0_4] 27 (0,0)) (by(with_reducible repeat (first|refine kN_ ?_ _|refine kD_ ?_|refine kA_ ?_ _));exact BK178.out) hg (Kd.N_ne HO_9.out BK178.out (by decide)));have n2_:=Az.mk (blk_grown (g:=gb179) (o:=.cells #[.int .i64 a1_0,.int .i64 a1_1,.int .i64 a1_2,.int .i64 a1_3,.slice A1_4 l1_4.length c1_4,.string a1_5,.slice (some ad187) l1_6.length c1_6] 32 (0,0)) (by(with_reducible repeat (first|refine kN_ ?_ _|refine kD_ ?_|refine kA_ ?_ _));exact BK179.out) hg (Kd.N_ne HO_9.out BK179.out (by decide)));have n3_:=Az.mk (Kd.V_afterv (ok:=(fun k_=>(P1_6_ k_∨w.heap.size≤k_)∧some k_≠(.slice Ao38 y183.length co38:Value).ownBlock∧k_≠gb178∧k_≠gb179)) (by(with_reducible repeat (first|apply Kd.V_alloc|apply Kd.V_drewN|apply Kd.V_drew));exact Kd.V_mono HL187_4.out (fun _ hk=>⟨⟨hk.1,⟨hk.2.2.1,⟨hk.2.2.2.1,hk.2.2.2.2⟩⟩⟩,hk.2.1⟩)) hg hat);have n4_:=Az.mk (Kd.V_afterv (ok:=(fun k_=>(P1_6_ k_∨w.heap.size≤k_)∧some k_≠(.slice Ao38 y183.length co38:Value).ownBlock∧k_≠gb178∧k_≠gb179)) (by(with_reducible repeat (first|apply Kd.V_alloc|apply Kd.V_drewN|apply Kd.V_drew));exact Kd.V_mono HL187_6.out (fun _ hk=>⟨⟨hk.1,⟨hk.2.2.1,⟨hk.2.2.2.1,hk.2.2.2.2⟩⟩⟩,hk.2.1⟩)) hg hat);have n5_:=Az.mk (Kd.V_afterv (ok:=(fun k_=>(P1_6_ k_∨w.heap.size≤k_)∧some k_≠(.slice Ao38 y183.length co38:Value).ownBlock∧k_≠gb178∧k_≠gb179)) (by(with_reducible repeat (first|apply Kd.V_alloc|apply Kd.V_drewN|apply Kd.V_drew));exact Kd.V_mono HL196_4.out (fun _ hk=>⟨⟨hk.1,⟨hk.2.2.1,⟨hk.2.2.2.1,hk.2.2.2.2⟩⟩⟩,hk.2.1⟩)) hg hat);have n6_:=Az.mk (Kd.V_afterv (ok:=(fun k_=>(P1_6_ k_∨w.heap.size≤k_)∧some k_≠(.slice Ao38 y183.length co38:Value).ownBlock∧k_≠gb178∧k_≠gb179)) (by(with_reducible repeat (first|apply Kd.V_alloc|apply Kd.V_drewN|apply Kd.V_drew));exact Kd.V_mono HL196_6.out (fun _ hk=>⟨⟨hk.1,⟨hk.2.2.1,⟨hk.2.2.2.1,hk.2.2.2.2⟩⟩⟩,hk.2.1⟩)) hg hat);have n7_:=Az.mk (hb);have n8_:=Az.mk (ho);clear HO_180006;clear BK178;clear BK179;clear HL187_4;clear HL187_6;clear HL196_4;clear HL196_6;clear HB;clear HO_9;clear HO_11;have HO_180006:=n0_;have BK178:=n1_;have BK179:=n2_;have HL187_4:=n3_;have HL187_6:=n4_;have HL196_4:=n5_;have HL196_6:=n6_;have HB:=n7_;have HO199:=n8_;clear n0_ n1_ n2_ n3_ n4_ n5_ n6_ n7_ n8_;clear ho hb hg hat))
            go_roundg kj10
            case measure=>have:=HK1.out;have:=HJ10.out;omega
            case rel=>exact⟨(y197),(wrap64 (x10_1 + 1)),(by first|rfl|(simp;done)|(simp [*];done)|(refine congrArg Value.bool ?_;exact isE_ _)),H',⟨by have:=HK1.out;have:=HJ10.out;omega⟩,⟨by(with_reducible repeat (first|apply Kd.N_alloc|apply Kd.N_drewN|apply Kd.N_drew));exact HO199.out⟩,⟨by(with_reducible repeat (first|apply Kd.V_alloc|apply Kd.V_drewN|apply Kd.V_drew));exact Kd.V_mono HO_180006.out (fun _ hk=>⟨hk.1.1,⟨hk.2,⟨hk.1.2.2.1,hk.1.2.2.2⟩⟩⟩)⟩,⟨by(with_reducible repeat (first|refine kN_ ?_ _|refine kD_ ?_|refine kA_ ?_ _));exact BK178.out⟩,⟨by(with_reducible repeat (first|refine kN_ ?_ _|refine kD_ ?_|refine kA_ ?_ _));exact BK179.out⟩,⟨by repeat (first|(with_reducible first|exact HB.out|apply bA_|apply bN_|apply bD_|refine bS_ ?_ GE178.out|refine bS_ ?_ GE179.out)|exact HB.out)⟩⟩
           ·rw [if_neg c33] at H
            exact absurd H (by simp)
         ·rw [if_neg c21] at H
          exact absurd H (by simp)
        ·rw [if_neg c20] at H
         exact absurd H (by simp)
     ·rw [if_neg c9] at H
      exact absurd H (by simp)
    ·rw [if_neg c8] at H
     exact absurd H (by simp)
   ·rw [if_neg c7] at H
    have c7b0:decide (x10_1 < (l1_6.length:Int))=false:=decide_eq_false c7
    clear c7
    obtain rfl:=Option.some.inj H
    have hnb40:=NB179_178.out
    have hnc40:=NB178_179.out
    have hcz41_0:wr.cell? ⟨gb179,0,none⟩=some (.int .i64 a1_0):=(bC_ BK179.out 0).trans rfl
    have hcz41_1:wr.cell? ⟨gb179,1,none⟩=some (.int .i64 a1_1):=(bC_ BK179.out 1).trans rfl
    have hcz41_2:wr.cell? ⟨gb179,2,none⟩=some (.int .i64 a1_2):=(bC_ BK179.out 2).trans rfl
    have hcz41_3:wr.cell? ⟨gb179,3,none⟩=some (.int .i64 a1_3):=(bC_ BK179.out 3).trans rfl
    have hcz41_4:wr.cell? ⟨gb179,4,none⟩=some (.slice A1_4 l1_4.length c1_4):=(bC_ BK179.out 4).trans rfl
    have hcz41_5:wr.cell? ⟨gb179,5,none⟩=some (.string a1_5):=(bC_ BK179.out 5).trans rfl
    have hcz41_6:wr.cell? ⟨gb179,6,none⟩=some (.slice A1_6 l1_6.length c1_6):=(bC_ BK179.out 6).trans rfl
    have hfz41_0:=bF_ BK179.out 0
    have hfz41_1:=bF_ BK179.out 1
    have hfz41_2:=bF_ BK179.out 2
    have hfz41_3:=bF_ BK179.out 3
    have hfz41_4:=bF_ BK179.out 4
    have hfz41_5:=bF_ BK179.out 5
    have hfz41_6:=bF_ BK179.out 6
    go_wp2
    go_ret
    exact⟨_,by first|rfl|(simp [errW_none,errW_some] <;> rfl)|(simp [*,errW_none,errW_some] <;> rfl),by(with_reducible repeat (first|apply Kd.N_alloc|apply Kd.N_drewN|apply Kd.N_drew));exact Kd.N_mono HO_9.out (fun _ hk=>hk.1),by repeat (first|(with_reducible first|exact HB.out|apply bA_|apply bN_|apply bD_|refine bS_ ?_ GE178.out|refine bS_ ?_ GE179.out)|exact HB.out)⟩
end Go.Proofs.Ytgdbcogbbghjaaa.Q
