import Derived.Test.YtgdbcogbbghjaaaQ0
namespace Go.Proofs.Ytgdbcogbbghjaaa.Q
open Go.RowKit Go.Proofs.YtgdbcogbbghjaaaW.PrintWords Go.Proofs.YtgdbcogbbghjaaaW.PrintLast Go.Proofs.YtgdbcogbbghjaaaW.PrintMore
attribute [local go_sem] max2_int min2_int max_two min_two max_three min_three max_four min_four   -- for this text's walks alone
set_option linter.unusedVariables false
set_option linter.unusedSimpArgs false
mutual
def arboristlaw46_Nodes.j1:Nat→Int→Int→Int→Int→Int→Int→List (S53)→ByteArray→List (S32)→Option (Int)
 | 0,_,_,_,_,_,_,_,_,_=>none
 | k + 1,x1,x5,x108000,x108001,x108002,x108003,x108004,x108005,x108006=>arboristlaw46_Nodes.l1 k x1 x5 0 x108000 x108001 x108002 x108003 x108004 x108005 x108006
def arboristlaw46_Nodes.l1:Nat→Int→Int→Int→Int→Int→Int→Int→List (S53)→ByteArray→List (S32)→Option (Int)
 | 0,_,_,_,_,_,_,_,_,_,_=>none
 | k + 1,x1,x5,x7,x108000,x108001,x108002,x108003,x108004,x108005,x108006=>if x7 < (x108006.length:Int)then(if x5 < x1 then(if 0≤x7 then((arboristlaw46_Nodes.f k ((rd_T32 x108006 x7).f0) ((rd_T32 x108006 x7).f1) ((rd_T32 x108006 x7).f2) ((rd_T32 x108006 x7).f3) ((rd_T32 x108006 x7).f4) ((rd_T32 x108006 x7).f5) ((rd_T32 x108006 x7).f6) (wrap64 (x1 - x5))).bind fun t110=>(arboristlaw46_Nodes.l1 k x1 (wrap64 (x5 + t110)) (wrap64 (x7 + 1)) x108000 x108001 x108002 x108003 x108004 x108005 x108006))else(none))else(some x5))else(some x5)
def arboristlaw46_Nodes.l0:Nat→Int→Int→Int→Int→Int→Int→Int→List (S53)→ByteArray→List (S32)→Option (Int)
 | 0,_,_,_,_,_,_,_,_,_,_=>none
 | k + 1,x1,x5,x6,x108000,x108001,x108002,x108003,x108004,x108005,x108006=>if x6 < (x108004.length:Int)then(if x5 < x1 then(if 0≤x6 then(arboristlaw46_Nodes.l0 k x1 (wrap64 (x5 + ((mn (((rd_T53 x108004 x6).f2).size:Int) 1000) / 20))) (wrap64 (x6 + 1)) x108000 x108001 x108002 x108003 x108004 x108005 x108006)else(none))else(arboristlaw46_Nodes.j1 k x1 x5 x108000 x108001 x108002 x108003 x108004 x108005 x108006))else(arboristlaw46_Nodes.j1 k x1 x5 x108000 x108001 x108002 x108003 x108004 x108005 x108006)
def arboristlaw46_Nodes.f:Nat→Int→Int→Int→Int→List (S53)→ByteArray→List (S32)→Int→Option (Int)
 | 0,_,_,_,_,_,_,_,_=>none
 | k + 1,a0_0,a0_1,a0_2,a0_3,l0_4,a0_5,l0_6,a1=>arboristlaw46_Nodes.l0 k a1 ((1 + (mn (l0_4.length:Int) 1000)) + ((mn (a0_5.size:Int) 1000) / 20)) 0 a0_0 a0_1 a0_2 a0_3 l0_4 a0_5 l0_6
end
set_option maxHeartbeats 8000000 in
set_option maxRecDepth 100000 in
theorem arboristlaw46_Nodes.calls (k:Nat):∀ (a0_0:Int)(a0_1:Int)(a0_2:Int)(a0_3:Int)(A0_4:Option Addr)(c0_4:Nat)(l0_4:List (S53))(a0_5:ByteArray)(A0_6:Option Addr)(c0_6:Nat)(l0_6:List (S32))(a1:Int)(r:Int)(w:World)(hr0_4:Kd.C k53 w A0_4 l0_4.length l0_4)(hc0_4:l0_4.length≤c0_4)(hr0_6:Kd.C k32 w A0_6 l0_6.length l0_6)(hc0_6:l0_6.length≤c0_6)(h:arboristlaw46_Nodes.f k a0_0 a0_1 a0_2 a0_3 l0_4 a0_5 l0_6 a1=some r),
  Calls Try.prog 9 #[.agg #[.int .i64 a0_0,.int .i64 a0_1,.int .i64 a0_2,.int .i64 a0_3,.slice A0_4 l0_4.length c0_4,.string a0_5,.slice A0_6 l0_6.length c0_6],.int .i64 a1] w fun e w'=>e=.returned (.int .i64 r)∧Below w.heap.size w w':=by
 induction k using Nat.strongRecOn with
 | _ k ih =>
 intro a0_0 a0_1 a0_2 a0_3 A0_4 c0_4 l0_4 a0_5 A0_6 c0_6 l0_6 a1 r w hr0_4 hc0_4 hr0_6 hc0_6 h
 cases k with
 | zero=>exact absurd h (by simp [arboristlaw46_Nodes.f])
 | succ k =>
 simp only [arboristlaw46_Nodes.f] at h
 have hu32:=Try.underlying32
 have HR0_4:=Az.mk hr0_4
 have HC0_4:=Az.mk hc0_4
 clear hr0_4 hc0_4
 have HR0_6:=Az.mk hr0_6
 have HC0_6:=Az.mk hc0_6
 clear hr0_6 hc0_6
 have HB:=Az.mk (Below.refl w.heap.size w)
 have H:(arboristlaw46_Nodes.l0 k a1 ((1 + (mn (l0_4.length:Int) 1000)) + ((mn (a0_5.size:Int) 1000) / 20)) 0 a0_0 a0_1 a0_2 a0_3 l0_4 a0_5 l0_6)=some r:=h
 clear h
 obtain⟨ji3,hji3⟩:∃ j_:Int,(mn (l0_4.length:Int) 1000)=j_:=⟨_,rfl⟩
 replace H:(arboristlaw46_Nodes.l0 k a1 ((1 + (ji3)) + ((mn (a0_5.size:Int) 1000) / 20)) 0 a0_0 a0_1 a0_2 a0_3 l0_4 a0_5 l0_6)=some r:=by first|(rw [hji3] at H;exact H)|(simp only [hji3] at H ⊢;exact H)
 (try (have hji3h:ji3≤1000:=by(rw [← hji3];unfold mn;(repeat' split) <;> omega)))
 (try (have hji3g:ji3≤64:=by omega))
 (try (have hji3l:0≤ji3:=by(rw [← hji3];unfold mn;(repeat' split) <;> omega)))
 (try (have hji3m:0≤ji3:=by omega))
 have hji3_:(if 1000 < (l0_4.length:Int)then 1000 else(l0_4.length:Int))=ji3:=hji3
 obtain⟨ji4,hji4⟩:∃ j_:Int,(mn (a0_5.size:Int) 1000)=j_:=⟨_,rfl⟩
 replace H:(arboristlaw46_Nodes.l0 k a1 ((1 + (ji3)) + ((ji4) / 20)) 0 a0_0 a0_1 a0_2 a0_3 l0_4 a0_5 l0_6)=some r:=by first|(rw [hji4] at H;exact H)|(simp only [hji4] at H ⊢;exact H)
 (try (have hji4h:ji4≤1000:=by(rw [← hji4];unfold mn;(repeat' split) <;> omega)))
 (try (have hji4g:ji4≤64:=by omega))
 (try (have hji4l:0≤ji4:=by(rw [← hji4];unfold mn;(repeat' split) <;> omega)))
 (try (have hji4m:0≤ji4:=by omega))
 have hji4_:(if 1000 < (a0_5.size:Int)then 1000 else(a0_5.size:Int))=ji4:=hji4
 have HC5:=Az.mk H
 clear H
 go_enter Try.func9,Try.ntmps9
 go_upto_block 0 with(first|((with_reducible refine gate_dst (N:=2) rfl ?_);refine box_event ?hg (N:=2) ?hd (cs:=#[.int .i64 a0_0,.int .i64 a0_1,.int .i64 a0_2,.int .i64 a0_3,.slice A0_4 l0_4.length c0_4,.string a0_5,.slice A0_6 l0_6.length c0_6]) (t:=32) ?hr ?_;(case hd=>rfl);(case hg=>rfl);(case hr=>first|(go_simp;done)|(go_simp;rfl));intro gb107 hg w6 hbox hb;have n0_:=Az.mk (bT_ HB.out hb);have n1_:=Az.mk (hbox);have n2_:=Az.mk ((szl_ HB.out hg));have n3_:=Az.mk ((szl_ HB.out hg));clear HB;have HB:=n0_;have BK107:=n1_;have GW107:=n2_;have GE107:=n3_;clear n0_ n1_ n2_ n3_;clear hb hbox hg;obtain⟨hcz7_0,hcz7_1,hcz7_2,hcz7_3,hcz7_4,hcz7_5,hcz7_6,hfz7_0,hfz7_1,hfz7_2,hfz7_3,hfz7_4,hfz7_5,hfz7_6⟩:=cf7_ BK107.out))
 (try simp only [Act.put,sT_,s0_,sC_])
 go_cut [5] (fun v5 wc=>∃ (kq:Nat) (x5_4:Int),v5=.int .i64 x5_4∧Az (arboristlaw46_Nodes.j1 kq a1 x5_4 a0_0 a0_1 a0_2 a0_3 l0_4 a0_5 l0_6=some r)∧Az (kq≤k)∧Az (wc.heap[gb107]?=some (.cells #[.int .i64 a0_0,.int .i64 a0_1,.int .i64 a0_2,.int .i64 a0_3,(.slice A0_4 l0_4.length c0_4),.string a0_5,(.slice A0_6 l0_6.length c0_6)] 32 (0,0)))∧Az (Below w.heap.size w wc))
 case first =>
  have H:=HC5.out
  clear HC5
  have H':=Az.mk H
  clear H
  go_wp2
  go_loopg [5,6] k (fun kq v5 v6 w'=>∃ (x5_1:Int) (x6_1:Int),v5=.int .i64 x5_1∧v6=.int .i64 x6_1∧Az (arboristlaw46_Nodes.l0 kq a1 x5_1 x6_1 a0_0 a0_1 a0_2 a0_3 l0_4 a0_5 l0_6=some r)∧Az (kq≤k)∧Az (w'.heap[gb107]?=some (.cells #[.int .i64 a0_0,.int .i64 a0_1,.int .i64 a0_2,.int .i64 a0_3,(.slice A0_4 l0_4.length c0_4),.string a0_5,(.slice A0_6 l0_6.length c0_6)] 32 (0,0)))∧Az (Below w.heap.size w w'))
  case atStart=>exact⟨((1 + (ji3)) + ((ji4) / 20)),(0),(by first|rfl|(simp;done)|(simp only [← hji3,← hji4] <;> (first|rfl|simp))|(simp [*];done)),(by first|rfl|(simp;done)|(simp [*];done)|(refine congrArg Value.bool ?_;exact isE_ _)),H',⟨Nat.le_refl _⟩,⟨by(with_reducible repeat (first|refine kN_ ?_ _|refine kD_ ?_|refine kA_ ?_ _));exact BK107.out⟩,⟨by repeat (first|(with_reducible first|exact HB.out|apply bA_|apply bN_|apply bD_|refine bS_ ?_ GE107.out)|exact HB.out)⟩⟩
  case round =>
   clear H'
   try clear p2
   try clear hcz7_0 hcz7_1 hcz7_2 hcz7_3 hcz7_4 hcz7_5 hcz7_6 hfz7_0 hfz7_1 hfz7_2 hfz7_3 hfz7_4 hfz7_5 hfz7_6
   obtain⟨x5_1,x6_1,rfl,rfl,HA,HK1,BK107,HB⟩:=hrel
   cases gk with
   | zero=>exact absurd HA.out (by simp [arboristlaw46_Nodes.l0])
   | succ k1 =>
    have H:=HA.out
    clear HA
    simp only [arboristlaw46_Nodes.l0] at H
    by_cases c8:x6_1 < (l0_4.length:Int)
    rotate_left
    ·rw [if_neg c8] at H
     have c8b0:=decide_eq_false c8
     clear c8
     (first|rw [c8b0]|(simp only [i64_w,i32_w];rw [c8b0])|skip)
     have H':=Az.mk H
     clear H
     obtain⟨hcz14_0,hcz14_1,hcz14_2,hcz14_3,hcz14_4,hcz14_5,hcz14_6,hfz14_0,hfz14_1,hfz14_2,hfz14_3,hfz14_4,hfz14_5,hfz14_6⟩:=cf7_ BK107.out
     go_wp2
     go_meet
     case rel=>exact⟨_,(x5_1),(by first|rfl|(simp;done)|(simp [*];done)|(refine congrArg Value.bool ?_;exact isE_ _)),H',⟨by have:=HK1.out;first|omega|exact Nat.le_refl _⟩,⟨by(with_reducible repeat (first|refine kN_ ?_ _|refine kD_ ?_|refine kA_ ?_ _));exact BK107.out⟩,⟨by repeat (first|(with_reducible first|exact HB.out|apply bA_|apply bN_|apply bD_|refine bS_ ?_ GE107.out)|exact HB.out)⟩⟩
    rw [if_pos c8] at H
    have c8b0:=decide_eq_true c8
    clear c8
    (first|rw [c8b0]|(simp only [i64_w,i32_w];rw [c8b0])|skip)
    by_cases c9:x5_1 < a1
    rotate_left
    ·rw [if_neg c9] at H
     have c9b0:=decide_eq_false c9
     clear c9
     have H':=Az.mk H
     clear H
     obtain⟨hcz13_0,hcz13_1,hcz13_2,hcz13_3,hcz13_4,hcz13_5,hcz13_6,hfz13_0,hfz13_1,hfz13_2,hfz13_3,hfz13_4,hfz13_5,hfz13_6⟩:=cf7_ BK107.out
     go_wp2
     go_meet
     case rel=>exact⟨_,(x5_1),(by first|rfl|(simp;done)|(simp [*];done)|(refine congrArg Value.bool ?_;exact isE_ _)),H',⟨by have:=HK1.out;first|omega|exact Nat.le_refl _⟩,⟨by(with_reducible repeat (first|refine kN_ ?_ _|refine kD_ ?_|refine kA_ ?_ _));exact BK107.out⟩,⟨by repeat (first|(with_reducible first|exact HB.out|apply bA_|apply bN_|apply bD_|refine bS_ ?_ GE107.out)|exact HB.out)⟩⟩
    rw [if_pos c9] at H
    have c9b0:=decide_eq_true c9
    clear c9
    by_cases c10:0≤x6_1
    rotate_left
    ·rw [if_neg c10] at H
     exact absurd H (by simp)
    rw [if_pos c10] at H
    have c10b0:=decide_eq_true c10
    clear c10
    obtain⟨ji11,hji11⟩:∃ j_:Int,(mn (((rd_T53 l0_4 x6_1).f2).size:Int) 1000)=j_:=⟨_,rfl⟩
    replace H:(arboristlaw46_Nodes.l0 k1 a1 (wrap64 (x5_1 + ((ji11) / 20))) (wrap64 (x6_1 + 1)) a0_0 a0_1 a0_2 a0_3 l0_4 a0_5 l0_6)=some r:=by first|(rw [hji11] at H;exact H)|(simp only [hji11] at H ⊢;exact H)
    have hji11_:(if 1000 < (((rd_T53 l0_4 x6_1).f2).size:Int)then 1000 else(((rd_T53 l0_4 x6_1).f2).size:Int))=ji11:=hji11
    have H':=Az.mk H
    clear H
    obtain⟨hcz12_0,hcz12_1,hcz12_2,hcz12_3,hcz12_4,hcz12_5,hcz12_6,hfz12_0,hfz12_1,hfz12_2,hfz12_3,hfz12_4,hfz12_5,hfz12_6⟩:=cf7_ BK107.out
    have p108:0≤(x6_1:Int):=of_decide_eq_true (by assumption)
    have q108:x6_1 < (l0_4.length:Int):=of_decide_eq_true (by assumption)
    obtain⟨ad108,e108,hx108_0,hx108_1,hx108_2⟩:=at_T53 HR0_4.out x6_1 p108 q108
    cases e108
    replace hx108_0:=bc_ HB.out hx108_0
    replace hx108_1:=bc_ HB.out hx108_1
    replace hx108_2:=bc_ HB.out hx108_2
    replace p108:=eq_true p108
    replace q108:=eq_true q108
    go_wp2
    go_roundg k1
    case measure=>have:=HK1.out;omega
    case rel=>exact⟨(wrap64 (x5_1 + ((ji11) / 20))),(wrap64 (x6_1 + 1)),(by first|rfl|(simp;done)|(simp only [← hji11] <;> (first|rfl|simp))|(simp [*];done)),(by first|rfl|(simp;done)|(simp [*];done)|(refine congrArg Value.bool ?_;exact isE_ _)),H',⟨by have:=HK1.out;omega⟩,⟨by(with_reducible repeat (first|refine kN_ ?_ _|refine kD_ ?_|refine kA_ ?_ _));exact BK107.out⟩,⟨by repeat (first|(with_reducible first|exact HB.out|apply bA_|apply bN_|apply bD_|refine bS_ ?_ GE107.out)|exact HB.out)⟩⟩
 case rest =>
  clear HC5
  try clear c1
  try clear p1
  try clear q1
  try clear hx1
  try clear p2 p2
  try clear p6
  try clear c8
  try clear c8b0
  try clear c9
  try clear c9b0
  try clear c10
  try clear c10b0
  try clear p10
  try clear q10
  try clear hx10
  try clear hcz12_0 hcz12_1 hcz12_2 hcz12_3 hcz12_4 hcz12_5 hcz12_6 hfz12_0 hfz12_1 hfz12_2 hfz12_3 hfz12_4 hfz12_5 hfz12_6
  try clear hcz13_0 hcz13_1 hcz13_2 hcz13_3 hcz13_4 hcz13_5 hcz13_6 hfz13_0 hfz13_1 hfz13_2 hfz13_3 hfz13_4 hfz13_5 hfz13_6
  try clear hcz14_0 hcz14_1 hcz14_2 hcz14_3 hcz14_4 hcz14_5 hcz14_6 hfz14_0 hfz14_1 hfz14_2 hfz14_3 hfz14_4 hfz14_5 hfz14_6
  try clear hcz7_0 hcz7_1 hcz7_2 hcz7_3 hcz7_4 hcz7_5 hcz7_6 hfz7_0 hfz7_1 hfz7_2 hfz7_3 hfz7_4 hfz7_5 hfz7_6
  try clear hx108_0
  try clear hx108_1
  try clear hx108_2
  try clear p108
  try clear q108
  obtain⟨kq,x5_4,rfl,HA,HJ4,BK107,HB⟩:=hcut
  cases kq with
  | zero=>exact absurd HA.out (by simp [arboristlaw46_Nodes.j1])
  | succ kj4 =>
   have H:=HA.out
   clear HA
   simp only [arboristlaw46_Nodes.j1] at H
   have H':=Az.mk H
   clear H
   go_wp2
   go_loopg [5,7] kj4 (fun kq v5 v7 w'=>∃ (x5_2:Int) (x7_2:Int),v5=.int .i64 x5_2∧v7=.int .i64 x7_2∧Az (arboristlaw46_Nodes.l1 kq a1 x5_2 x7_2 a0_0 a0_1 a0_2 a0_3 l0_4 a0_5 l0_6=some r)∧Az (kq≤kj4)∧Az (w'.heap[gb107]?=some (.cells #[.int .i64 a0_0,.int .i64 a0_1,.int .i64 a0_2,.int .i64 a0_3,(.slice A0_4 l0_4.length c0_4),.string a0_5,(.slice A0_6 l0_6.length c0_6)] 32 (0,0)))∧Az (Below w.heap.size w w'))
   case atStart=>exact⟨(x5_4),(0),(by first|rfl|(simp;done)|(simp [*];done)|(refine congrArg Value.bool ?_;exact isE_ _)),(by first|rfl|(simp;done)|(simp [*];done)|(refine congrArg Value.bool ?_;exact isE_ _)),H',⟨Nat.le_refl _⟩,⟨by(with_reducible repeat (first|refine kN_ ?_ _|refine kD_ ?_|refine kA_ ?_ _));exact BK107.out⟩,⟨by repeat (first|(with_reducible first|exact HB.out|apply bA_|apply bN_|apply bD_|refine bS_ ?_ GE107.out)|exact HB.out)⟩⟩
   case round =>
    clear H'
    try clear c1
    try clear p1 p1
    try clear q1 q1
    try clear hx1
    try clear p2 p2
    try clear p6 p6
    try clear c8
    try clear c8b0
    try clear c9
    try clear c9b0
    try clear c10
    try clear c10b0
    try clear p10 p10
    try clear q10 q10
    try clear hx10
    try clear hcz12_0 hcz12_1 hcz12_2 hcz12_3 hcz12_4 hcz12_5 hcz12_6 hfz12_0 hfz12_1 hfz12_2 hfz12_3 hfz12_4 hfz12_5 hfz12_6
    try clear hcz13_0 hcz13_1 hcz13_2 hcz13_3 hcz13_4 hcz13_5 hcz13_6 hfz13_0 hfz13_1 hfz13_2 hfz13_3 hfz13_4 hfz13_5 hfz13_6
    try clear hcz14_0 hcz14_1 hcz14_2 hcz14_3 hcz14_4 hcz14_5 hcz14_6 hfz14_0 hfz14_1 hfz14_2 hfz14_3 hfz14_4 hfz14_5 hfz14_6
    try clear hcz7_0 hcz7_1 hcz7_2 hcz7_3 hcz7_4 hcz7_5 hcz7_6 hfz7_0 hfz7_1 hfz7_2 hfz7_3 hfz7_4 hfz7_5 hfz7_6
    try clear hx108_0
    try clear hx108_1
    try clear hx108_2
    try clear p108
    try clear q108
    obtain⟨x5_2,x7_2,rfl,rfl,HA,HK2,BK107,HB⟩:=hrel
    cases gk with
    | zero=>exact absurd HA.out (by simp [arboristlaw46_Nodes.l1])
    | succ k2 =>
     have H:=HA.out
     clear HA
     simp only [arboristlaw46_Nodes.l1] at H
     by_cases c15:x7_2 < (l0_6.length:Int)
     rotate_left
     ·rw [if_neg c15] at H
      have c15b0:=decide_eq_false c15
      clear c15
      obtain rfl:=Option.some.inj H
      obtain⟨hcz22_0,hcz22_1,hcz22_2,hcz22_3,hcz22_4,hcz22_5,hcz22_6,hfz22_0,hfz22_1,hfz22_2,hfz22_3,hfz22_4,hfz22_5,hfz22_6⟩:=cf7_ BK107.out
      go_wp2
      go_ret
      exact⟨by first|rfl|(simp [errW_none,errW_some] <;> rfl)|(simp only [← hji3,← hji4];first|rfl|(simp [errW_none,errW_some] <;> rfl))|(simp [*,errW_none,errW_some] <;> rfl),by repeat (first|(with_reducible first|exact HB.out|apply bA_|apply bN_|apply bD_|refine bS_ ?_ GE107.out)|exact HB.out)⟩
     rw [if_pos c15] at H
     have c15b0:=decide_eq_true c15
     clear c15
     by_cases c16:x5_2 < a1
     rotate_left
     ·rw [if_neg c16] at H
      have c16b0:=decide_eq_false c16
      clear c16
      obtain rfl:=Option.some.inj H
      obtain⟨hcz21_0,hcz21_1,hcz21_2,hcz21_3,hcz21_4,hcz21_5,hcz21_6,hfz21_0,hfz21_1,hfz21_2,hfz21_3,hfz21_4,hfz21_5,hfz21_6⟩:=cf7_ BK107.out
      go_wp2
      go_ret
      exact⟨by first|rfl|(simp [errW_none,errW_some] <;> rfl)|(simp only [← hji3,← hji4];first|rfl|(simp [errW_none,errW_some] <;> rfl))|(simp [*,errW_none,errW_some] <;> rfl),by repeat (first|(with_reducible first|exact HB.out|apply bA_|apply bN_|apply bD_|refine bS_ ?_ GE107.out)|exact HB.out)⟩
     rw [if_pos c16] at H
     have c16b0:=decide_eq_true c16
     clear c16
     by_cases c17:0≤x7_2
     rotate_left
     ·rw [if_neg c17] at H
      exact absurd H (by simp)
     rw [if_pos c17] at H
     have c17b0:=decide_eq_true c17
     clear c17
     replace H:=Option.bind_eq_some_iff.mp H
     obtain⟨t110,A180,H⟩:=H
     replace H:(arboristlaw46_Nodes.l1 k2 a1 (wrap64 (x5_2 + t110)) (wrap64 (x7_2 + 1)) a0_0 a0_1 a0_2 a0_3 l0_4 a0_5 l0_6)=some r:=H
     have A18:=Az.mk A180
     clear A180
     have H':=Az.mk H
     clear H
     obtain⟨hcz19_0,hcz19_1,hcz19_2,hcz19_3,hcz19_4,hcz19_5,hcz19_6,hfz19_0,hfz19_1,hfz19_2,hfz19_3,hfz19_4,hfz19_5,hfz19_6⟩:=cf7_ BK107.out
     have p109:0≤(x7_2:Int):=of_decide_eq_true (by assumption)
     have q109:x7_2 < (l0_6.length:Int):=of_decide_eq_true (by assumption)
     obtain⟨ad109,A109_4,c109_4,A109_6,c109_6,e109,hx109_0,hx109_1,hx109_2,hx109_3,hx109_4,hx109_5,hx109_6,hl109_4,hi109_4,hl109_6,hi109_6⟩:=at_T32 HR0_6.out x7_2 p109 q109
     cases e109
     replace hx109_0:=bc_ HB.out hx109_0
     replace hx109_1:=bc_ HB.out hx109_1
     replace hx109_2:=bc_ HB.out hx109_2
     replace hx109_3:=bc_ HB.out hx109_3
     replace hx109_4:=bc_ HB.out hx109_4
     replace hx109_5:=bc_ HB.out hx109_5
     replace hx109_6:=bc_ HB.out hx109_6
     have HR109_4:=Az.mk hi109_4
     have HC109_4:=Az.mk hl109_4
     clear hi109_4 hl109_4
     have HR109_6:=Az.mk hi109_6
     have HC109_6:=Az.mk hl109_6
     clear hi109_6 hl109_6
     replace p109:=eq_true p109
     replace q109:=eq_true q109
     go_wp2_with (first|((with_reducible refine gate_callee (f:=9) rfl ?_);refine goesL_ (some 63) rfl rfl Try.func9 (by kernel_rfl) rfl #[.agg #[.int .i64 ((rd_T32 l0_6 x7_2).f0),.int .i64 ((rd_T32 l0_6 x7_2).f1),.int .i64 ((rd_T32 l0_6 x7_2).f2),.int .i64 ((rd_T32 l0_6 x7_2).f3),.slice A109_4 ((rd_T32 l0_6 x7_2).f4).length c109_4,.string ((rd_T32 l0_6 x7_2).f5),.slice A109_6 ((rd_T32 l0_6 x7_2).f6).length c109_6],.int .i64 (wrap64 (a1 - x5_2))] rfl (by(try simp only [List.map_toArray,List.map_cons,List.map_nil]);first|done|rfl|(simp only [List.length_drop,List.length_take];rfl)) ?_;(with_reducible refine(ih k2 (by have:=HJ4.out;have:=HK2.out;omega) ((rd_T32 l0_6 x7_2).f0) ((rd_T32 l0_6 x7_2).f1) ((rd_T32 l0_6 x7_2).f2) ((rd_T32 l0_6 x7_2).f3) _ _ ((rd_T32 l0_6 x7_2).f4) ((rd_T32 l0_6 x7_2).f5) _ _ ((rd_T32 l0_6 x7_2).f6) (wrap64 (a1 - x5_2)) t110 _ ?side1 ?side2 ?side3 ?side4 A18.out).mono ?_);(case side1=>repeat (first|exact(Kd.C_below HR109_4.out HB.out)|(with_reducible first|refine Kd.C_alloc ?_ _|refine Kd.C_drewN ?_ _|refine Kd.C_drew ?_)));(case side2=>exact HC109_4.out);(case side3=>repeat (first|exact(Kd.C_below HR109_6.out HB.out)|(with_reducible first|refine Kd.C_alloc ?_ _|refine Kd.C_drewN ?_ _|refine Kd.C_drew ?_)));(case side4=>exact HC109_6.out);rintro e w20 ⟨rfl,hb⟩;refine⟨_,rfl,?_⟩;have n0_:=Az.mk (kB_ BK107.out hb);have n1_:=Az.mk (bT_ HB.out hb);clear BK107;clear HB;have BK107:=n0_;have HB:=n1_;clear n0_ n1_;(try clear hb);(try clear hb2);(try clear hk);(try clear hi)))
     go_roundg k2
     case measure=>have:=HJ4.out;have:=HK2.out;omega
     case rel=>exact⟨(wrap64 (x5_2 + t110)),(wrap64 (x7_2 + 1)),(by first|rfl|(simp;done)|(simp [*];done)|(refine congrArg Value.bool ?_;exact isE_ _)),(by first|rfl|(simp;done)|(simp [*];done)|(refine congrArg Value.bool ?_;exact isE_ _)),H',⟨by have:=HJ4.out;have:=HK2.out;omega⟩,⟨by(with_reducible repeat (first|refine kN_ ?_ _|refine kD_ ?_|refine kA_ ?_ _));exact BK107.out⟩,⟨by repeat (first|(with_reducible first|exact HB.out|apply bA_|apply bN_|apply bD_|refine bS_ ?_ GE107.out)|exact HB.out)⟩⟩
end Go.Proofs.Ytgdbcogbbghjaaa.Q
