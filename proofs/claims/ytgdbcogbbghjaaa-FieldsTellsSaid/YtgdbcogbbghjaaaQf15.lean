import Derived.Test.YtgdbcogbbghjaaaQ0
import Derived.Test.YtgdbcogbbghjaaaQf25
namespace Go.Proofs.Ytgdbcogbbghjaaa.Q
open Go.RowKit Go.Proofs.YtgdbcogbbghjaaaW.PrintWords Go.Proofs.YtgdbcogbbghjaaaW.PrintLast Go.Proofs.YtgdbcogbbghjaaaW.PrintMore
attribute [local go_sem] max2_int min2_int max_two min_two max_three min_three max_four min_four   -- for this text's walks alone
set_option linter.unusedVariables false
set_option linter.unusedSimpArgs false
def arboristlaw46_sameNodes.l0:Nat→List (S32)→List (S32)→Int→Option (Bool)
 | 0,_,_,_=>none
 | k + 1,x0,x1,x5=>if x5 < (x0.length:Int)then(if 0≤x5 then(if x5 < (x1.length:Int)then((arboristref42_Same.f k ((rd_T32 x0 x5).f0) ((rd_T32 x0 x5).f1) ((rd_T32 x0 x5).f2) ((rd_T32 x0 x5).f3) ((rd_T32 x0 x5).f4) ((rd_T32 x0 x5).f5) ((rd_T32 x0 x5).f6) ((rd_T32 x1 x5).f0) ((rd_T32 x1 x5).f1) ((rd_T32 x1 x5).f2) ((rd_T32 x1 x5).f3) ((rd_T32 x1 x5).f4) ((rd_T32 x1 x5).f5) ((rd_T32 x1 x5).f6)).bind fun t230=>(if t230=true then(arboristlaw46_sameNodes.l0 k x0 x1 (wrap64 (x5 + 1)))else(some false)))else(none))else(none))else(some true)
def arboristlaw46_sameNodes.f (k:Nat)(l0:List (S32))(l1:List (S32)):Option (Bool):=if (l0.length:Int)=(l1.length:Int)then(arboristlaw46_sameNodes.l0 k l0 l1 0)else(some false)
def arboristlaw46_sameNodes.T6:Bool × List (List Nat × List Nat):=(true,[([],[]),([],[]),([0,1],[0,1]),([2],[2]),([],[]),([],[]),([4,5],[4,5]),([6],[6]),([3,7],[3,7]),([8],[8])])
def arboristlaw46_sameNodes.B6:List Nat:=[0,0,3,7,0,0,48,112,255,511]
theorem arboristlaw46_sameNodes.tab6:rtab .any (opsOf Try.f15 6)=arboristlaw46_sameNodes.T6:=by kernel_rfl
theorem arboristlaw46_sameNodes.bits6:waitsOk arboristlaw46_sameNodes.T6.2 arboristlaw46_sameNodes.B6=true:=by kernel_rfl
set_option maxHeartbeats 8000000 in
set_option maxRecDepth 100000 in
theorem arboristlaw46_sameNodes.calls (k:Nat)(A0:Option Addr)(c0:Nat)(l0:List (S32))(A1:Option Addr)(c1:Nat)(l1:List (S32))(r:Bool)(w:World)(hr0:Kd.C k32 w A0 l0.length l0)(hc0:l0.length≤c0)(hr1:Kd.C k32 w A1 l1.length l1)(hc1:l1.length≤c1)(h:arboristlaw46_sameNodes.f k l0 l1=some r) :
  Calls Try.prog 15 #[.slice A0 l0.length c0,.slice A1 l1.length c1] w fun e w'=>e=.returned (.bool r)∧Below w.heap.size w w':=by
 have hu32:=Try.underlying32
 have HR0:=Az.mk hr0
 have HC0:=Az.mk hc0
 clear hr0 hc0
 have HR1:=Az.mk hr1
 have HC1:=Az.mk hc1
 clear hr1 hc1
 have HB:=Az.mk (Below.refl w.heap.size w)
 have H:(if (l0.length:Int)=(l1.length:Int)then(arboristlaw46_sameNodes.l0 k l0 l1 0)else(some false))=some r:=h
 clear h
 by_cases c3:(l0.length:Int)=(l1.length:Int)
 ·rw [if_pos c3] at H
  have c3b0:((l0.length:Int) == (l1.length:Int))=true:=beq_iff_eq.mpr c3
  have c3b1:((l0.length:Int) != (l1.length:Int))=false:=bne_eq_false_iff_eq.mpr c3
  have c3b2:(l0.length == l1.length)=true:=by first|simpa using c3|(simp at c3 ⊢;omega)
  clear c3
  have H':=Az.mk H
  clear H
  go_enter Try.func15,Try.ntmps15
  go_wp2
  go_loopg [5] k (fun kq v5 w'=>∃ (x5_1:Int),v5=.int .i64 x5_1∧Az (arboristlaw46_sameNodes.l0 kq l0 l1 x5_1=some r)∧Az (kq≤k)∧Az (Below w.heap.size w w'))
  case atStart=>exact⟨(0),(by first|rfl|(simp;done)|(simp [*];done)|(refine congrArg Value.bool ?_;exact isE_ _)),H',⟨Nat.le_refl _⟩,⟨by repeat (first|(with_reducible first|exact HB.out|apply bA_|apply bN_|apply bD_)|exact HB.out)⟩⟩
  case round =>
   clear H'
   try clear c1
   try clear p2
   try clear c3
   try clear c3b0
   try clear c3b1
   try clear c3b2
   obtain⟨x5_1,rfl,HA,HK1,HB⟩:=hrel
   cases gk with
   | zero=>exact absurd HA.out (by simp [arboristlaw46_sameNodes.l0])
   | succ k1 =>
    have H:=HA.out
    clear HA
    simp only [arboristlaw46_sameNodes.l0] at H
    by_cases c4:x5_1 < (l0.length:Int)
    ·rw [if_pos c4] at H
     have c4b0:decide (x5_1 < (l0.length:Int))=true:=decide_eq_true c4
     clear c4
     by_cases c5:0≤x5_1
     ·rw [if_pos c5] at H
      have c5b0:decide (0≤x5_1)=true:=decide_eq_true c5
      clear c5
      by_cases c6:x5_1 < (l1.length:Int)
      ·rw [if_pos c6] at H
       have c6b0:decide (x5_1 < (l1.length:Int))=true:=decide_eq_true c6
       clear c6
       replace H:=Option.bind_eq_some_iff.mp H
       obtain⟨t230,A70,H⟩:=H
       replace H:(if t230=true then(arboristlaw46_sameNodes.l0 k1 l0 l1 (wrap64 (x5_1 + 1)))else(some false))=some r:=H
       have A7:=Az.mk A70
       clear A70
       by_cases c8:t230=true
       ·subst c8
        have H1:(arboristlaw46_sameNodes.l0 k1 l0 l1 (wrap64 (x5_1 + 1)))=some r:=by rw [if_pos rfl] at H;exact H
        clear H
        have H:=H1
        clear H1
        have H':=Az.mk H
        clear H
        try go_wp2
        have n0_:=Az.mk (bD_ HB.out)
        clear HB
        have HB:=n0_
        clear n0_
        have p228:0≤(x5_1:Int):=of_decide_eq_true (by first|(with_reducible assumption)|assumption)
        have q228:x5_1 < (l0.length:Int):=of_decide_eq_true (by first|(with_reducible assumption)|assumption)
        obtain⟨ad228,A228_4,c228_4,A228_6,c228_6,e228,hx228_0,hx228_1,hx228_2,hx228_3,hx228_4,hx228_5,hx228_6,hl228_4,hi228_4,hl228_6,hi228_6⟩:=at_T32 HR0.out x5_1 p228 q228
        have hw228_6:=hx228_6
        have hw228_5:=hx228_5
        have hw228_4:=hx228_4
        have hw228_3:=hx228_3
        have hw228_2:=hx228_2
        have hw228_1:=hx228_1
        have hw228_0:=hx228_0
        cases e228
        replace hx228_0:=(HB.out.cell (bL_ w _ hx228_0)).trans hx228_0
        replace hx228_1:=(HB.out.cell (bL_ w _ hx228_1)).trans hx228_1
        replace hx228_2:=(HB.out.cell (bL_ w _ hx228_2)).trans hx228_2
        replace hx228_3:=(HB.out.cell (bL_ w _ hx228_3)).trans hx228_3
        replace hx228_4:=(HB.out.cell (bL_ w _ hx228_4)).trans hx228_4
        replace hx228_5:=(HB.out.cell (bL_ w _ hx228_5)).trans hx228_5
        replace hx228_6:=(HB.out.cell (bL_ w _ hx228_6)).trans hx228_6
        have HR228_4:=Az.mk hi228_4
        have HC228_4:=Az.mk hl228_4
        clear hi228_4 hl228_4
        have HR228_6:=Az.mk hi228_6
        have HC228_6:=Az.mk hl228_6
        clear hi228_6 hl228_6
        replace p228:=eq_true p228
        replace q228:=eq_true q228
        have p229:0≤(x5_1:Int):=of_decide_eq_true (by first|(with_reducible assumption)|assumption)
        have q229:x5_1 < (l1.length:Int):=of_decide_eq_true (by first|(with_reducible assumption)|assumption)
        obtain⟨ad229,A229_4,c229_4,A229_6,c229_6,e229,hx229_0,hx229_1,hx229_2,hx229_3,hx229_4,hx229_5,hx229_6,hl229_4,hi229_4,hl229_6,hi229_6⟩:=at_T32 HR1.out x5_1 p229 q229
        have hw229_6:=hx229_6
        have hw229_5:=hx229_5
        have hw229_4:=hx229_4
        have hw229_3:=hx229_3
        have hw229_2:=hx229_2
        have hw229_1:=hx229_1
        have hw229_0:=hx229_0
        cases e229
        replace hx229_0:=(HB.out.cell (bL_ w _ hx229_0)).trans hx229_0
        replace hx229_1:=(HB.out.cell (bL_ w _ hx229_1)).trans hx229_1
        replace hx229_2:=(HB.out.cell (bL_ w _ hx229_2)).trans hx229_2
        replace hx229_3:=(HB.out.cell (bL_ w _ hx229_3)).trans hx229_3
        replace hx229_4:=(HB.out.cell (bL_ w _ hx229_4)).trans hx229_4
        replace hx229_5:=(HB.out.cell (bL_ w _ hx229_5)).trans hx229_5
        replace hx229_6:=(HB.out.cell (bL_ w _ hx229_6)).trans hx229_6
        have HR229_4:=Az.mk hi229_4
        have HC229_4:=Az.mk hl229_4
        clear hi229_4 hl229_4
        have HR229_6:=Az.mk hi229_6
        have HC229_6:=Az.mk hl229_6
        clear hi229_6 hl229_6
        replace p229:=eq_true p229
        replace q229:=eq_true q229
        refine start_ (n:=10) (S:=fun w'=>w'.cell? (ad228.add ((x5_1).toNat * 7))=some (.int .i64 ((rd_T32 l0 x5_1).f0))∧w'.cell? ⟨(ad228.add ((x5_1).toNat * 7)).block,(ad228.add ((x5_1).toNat * 7)).off + 1,none⟩=some (.int .i64 ((rd_T32 l0 x5_1).f1))∧w'.cell? ⟨(ad228.add ((x5_1).toNat * 7)).block,(ad228.add ((x5_1).toNat * 7)).off + 2,none⟩=some (.int .i64 ((rd_T32 l0 x5_1).f2))∧w'.cell? ⟨(ad228.add ((x5_1).toNat * 7)).block,(ad228.add ((x5_1).toNat * 7)).off + 3,none⟩=some (.int .i64 ((rd_T32 l0 x5_1).f3))∧w'.cell? ⟨(ad228.add ((x5_1).toNat * 7)).block,(ad228.add ((x5_1).toNat * 7)).off + 4,none⟩=some (.slice A228_4 ((rd_T32 l0 x5_1).f4).length c228_4)∧w'.cell? ⟨(ad228.add ((x5_1).toNat * 7)).block,(ad228.add ((x5_1).toNat * 7)).off + 5,none⟩=some (.string ((rd_T32 l0 x5_1).f5))∧w'.cell? ⟨(ad228.add ((x5_1).toNat * 7)).block,(ad228.add ((x5_1).toNat * 7)).off + 6,none⟩=some (.slice A228_6 ((rd_T32 l0 x5_1).f6).length c228_6)∧w'.cell? (ad229.add ((x5_1).toNat * 7))=some (.int .i64 ((rd_T32 l1 x5_1).f0))∧w'.cell? ⟨(ad229.add ((x5_1).toNat * 7)).block,(ad229.add ((x5_1).toNat * 7)).off + 1,none⟩=some (.int .i64 ((rd_T32 l1 x5_1).f1))∧w'.cell? ⟨(ad229.add ((x5_1).toNat * 7)).block,(ad229.add ((x5_1).toNat * 7)).off + 2,none⟩=some (.int .i64 ((rd_T32 l1 x5_1).f2))∧w'.cell? ⟨(ad229.add ((x5_1).toNat * 7)).block,(ad229.add ((x5_1).toNat * 7)).off + 3,none⟩=some (.int .i64 ((rd_T32 l1 x5_1).f3))∧w'.cell? ⟨(ad229.add ((x5_1).toNat * 7)).block,(ad229.add ((x5_1).toNat * 7)).off + 4,none⟩=some (.slice A229_4 ((rd_T32 l1 x5_1).f4).length c229_4)∧w'.cell? ⟨(ad229.add ((x5_1).toNat * 7)).block,(ad229.add ((x5_1).toNat * 7)).off + 5,none⟩=some (.string ((rd_T32 l1 x5_1).f5))∧w'.cell? ⟨(ad229.add ((x5_1).toNat * 7)).block,(ad229.add ((x5_1).toNat * 7)).off + 6,none⟩=some (.slice A229_6 ((rd_T32 l1 x5_1).f6).length c229_6)) (ds:=[]) #[false,false,false,false,false,false,false,false,false,false] (by kernel_rfl) rfl rfl ⟨((HB.out.cell (bL_ w _ hw228_0)).trans hw228_0),((HB.out.cell (bL_ w _ hw228_1)).trans hw228_1),((HB.out.cell (bL_ w _ hw228_2)).trans hw228_2),((HB.out.cell (bL_ w _ hw228_3)).trans hw228_3),((HB.out.cell (bL_ w _ hw228_4)).trans hw228_4),((HB.out.cell (bL_ w _ hw228_5)).trans hw228_5),((HB.out.cell (bL_ w _ hw228_6)).trans hw228_6),((HB.out.cell (bL_ w _ hw229_0)).trans hw229_0),((HB.out.cell (bL_ w _ hw229_1)).trans hw229_1),((HB.out.cell (bL_ w _ hw229_2)).trans hw229_2),((HB.out.cell (bL_ w _ hw229_3)).trans hw229_3),((HB.out.cell (bL_ w _ hw229_4)).trans hw229_4),((HB.out.cell (bL_ w _ hw229_5)).trans hw229_5),((HB.out.cell (bL_ w _ hw229_6)).trans hw229_6)⟩ (fun hHeld=>?_);refine with_tabW arboristlaw46_sameNodes.tab6 arboristlaw46_sameNodes.bits6 (fun HT_ HW_=>?_)
        generalize wr.drew=w9 at HB HR228_4 HR228_6 HR229_4 HR229_6 hx228_0 hx228_1 hx228_2 hx228_3 hx228_4 hx228_5 hx228_6 hx229_0 hx229_1 hx229_2 hx229_3 hx229_4 hx229_5 hx229_6 hHeld ⊢
        refine pure_ (i:=0) (N:=some 17) (v:=?_) (a':=?_) #[true,false,false,false,false,false,false,false,false,false] rfl rfl (any_of HT_.out (by kernel_rfl)) (fun _ _ _ h=>h) (Or.inl ⟨by rfl,?_⟩) ?_ ?_
        rotate_left
        ·intro w'
         go_simp
         with_reducible rfl
        rotate_left
        ·simp only [Act.put,sT_,s0_,sC_,i64_w,i32_w]
         rfl
        refine pure_ (i:=1) (N:=some 18) (v:=?_) (a':=?_) #[true,true,false,false,false,false,false,false,false,false] rfl rfl (any_of HT_.out (by kernel_rfl)) (fun _ _ _ h=>h) (Or.inl ⟨by rfl,?_⟩) ?_ ?_
        rotate_left
        ·intro w'
         go_simp
         with_reducible rfl
        rotate_left
        ·simp only [Act.put,sT_,s0_,sC_,i64_w,i32_w]
         rfl
        refine pure_ (i:=2) (N:=some 19) (v:=?_) (a':=?_) #[true,true,true,false,false,false,false,false,false,false] rfl rfl (any_of HT_.out (by kernel_rfl)) (fun _ _ _ h=>h) (Or.inl ⟨by rfl,?_⟩) ?_ ?_
        rotate_left
        ·intro w'
         go_simp
         with_reducible rfl
        rotate_left
        ·simp only [Act.put,sT_,s0_,sC_,i64_w,i32_w]
         rfl
        refine pure_ (i:=4) (N:=some 21) (v:=?_) (a':=?_) #[true,true,true,false,true,false,false,false,false,false] rfl rfl (any_of HT_.out (by kernel_rfl)) (fun _ _ _ h=>h) (Or.inl ⟨by rfl,?_⟩) ?_ ?_
        rotate_left
        ·intro w'
         go_simp
         with_reducible rfl
        rotate_left
        ·simp only [Act.put,sT_,s0_,sC_,i64_w,i32_w]
         rfl
        refine pure_ (i:=5) (N:=some 22) (v:=?_) (a':=?_) #[true,true,true,false,true,true,false,false,false,false] rfl rfl (any_of HT_.out (by kernel_rfl)) (fun _ _ _ h=>h) (Or.inl ⟨by rfl,?_⟩) ?_ ?_
        rotate_left
        ·intro w'
         go_simp
         with_reducible rfl
        rotate_left
        ·simp only [Act.put,sT_,s0_,sC_,i64_w,i32_w]
         rfl
        refine pure_ (i:=6) (N:=some 23) (v:=?_) (a':=?_) #[true,true,true,false,true,true,true,false,false,false] rfl rfl (any_of HT_.out (by kernel_rfl)) (fun _ _ _ h=>h) (Or.inl ⟨by rfl,?_⟩) ?_ ?_
        rotate_left
        ·intro w'
         go_simp
         with_reducible rfl
        rotate_left
        ·simp only [Act.put,sT_,s0_,sC_,i64_w,i32_w]
         rfl
        refine take_ (i:=3) (N:=some 20) (v:=?_) (a':=?_) #[true,true,true,true,true,true,true,false,false,false] rfl rfl (take_ofW HT_.out HW_.out (by kernel_rfl)) (fun _ _ _ h=>h) (Or.inl ⟨by rfl,?_⟩) hHeld ?_ ?_
        rotate_left
        ·rintro w' ⟨s0,s1,s2,s3,s4,s5,s6,s7,s8,s9,s10,s11,s12,s13⟩
         go_simp
         with_reducible rfl
        rotate_left
        ·simp only [Act.put,sT_,s0_,sC_,i64_w,i32_w]
         rfl
        refine take_ (i:=7) (N:=some 24) (v:=?_) (a':=?_) #[true,true,true,true,true,true,true,true,false,false] rfl rfl (take_ofW HT_.out HW_.out (by kernel_rfl)) (fun _ _ _ h=>h) (Or.inl ⟨by rfl,?_⟩) hHeld ?_ ?_
        rotate_left
        ·rintro w' ⟨s0,s1,s2,s3,s4,s5,s6,s7,s8,s9,s10,s11,s12,s13⟩
         go_simp
         with_reducible rfl
        rotate_left
        ·simp only [Act.put,sT_,s0_,sC_,i64_w,i32_w]
         rfl
        refine one_ (i:=8) (N:=some 25) #[true,true,true,true,true,true,true,true,true,false] rfl rfl (one_of HT_.out (by kernel_rfl)) (by decide) (fun K hK=>?_)
        refine goes_ Try.func25 (by kernel_rfl) rfl #[.agg #[.int .i64 ((rd_T32 l0 x5_1).f0),.int .i64 ((rd_T32 l0 x5_1).f1),.int .i64 ((rd_T32 l0 x5_1).f2),.int .i64 ((rd_T32 l0 x5_1).f3),.slice A228_4 ((rd_T32 l0 x5_1).f4).length c228_4,.string ((rd_T32 l0 x5_1).f5),.slice A228_6 ((rd_T32 l0 x5_1).f6).length c228_6],.agg #[.int .i64 ((rd_T32 l1 x5_1).f0),.int .i64 ((rd_T32 l1 x5_1).f1),.int .i64 ((rd_T32 l1 x5_1).f2),.int .i64 ((rd_T32 l1 x5_1).f3),.slice A229_4 ((rd_T32 l1 x5_1).f4).length c229_4,.string ((rd_T32 l1 x5_1).f5),.slice A229_6 ((rd_T32 l1 x5_1).f6).length c229_6]] (by rfl) rfl rfl (by(try simp only [List.map_toArray,List.map_cons,List.map_nil]);first|done|rfl|(simp only [List.length_drop,List.length_take];rfl)) ?_
        with_reducible refine(arboristref42_Same.calls k1 ((rd_T32 l0 x5_1).f0) ((rd_T32 l0 x5_1).f1) ((rd_T32 l0 x5_1).f2) ((rd_T32 l0 x5_1).f3) _ _ ((rd_T32 l0 x5_1).f4) ((rd_T32 l0 x5_1).f5) _ _ ((rd_T32 l0 x5_1).f6) ((rd_T32 l1 x5_1).f0) ((rd_T32 l1 x5_1).f1) ((rd_T32 l1 x5_1).f2) ((rd_T32 l1 x5_1).f3) _ _ ((rd_T32 l1 x5_1).f4) ((rd_T32 l1 x5_1).f5) _ _ ((rd_T32 l1 x5_1).f6) true _ ?side1 ?side2 ?side3 ?side4 ?side5 ?side6 ?side7 ?side8 A7.out).mono ?_
        (case side1=>repeat (first|exact(Kd.C_below HR228_4.out HB.out)|(with_reducible first|refine Kd.C_alloc ?_ _|refine Kd.C_drewN ?_ _|refine Kd.C_drew ?_)))
        (case side2=>exact HC228_4.out)
        (case side3=>repeat (first|exact(Kd.C_below HR228_6.out HB.out)|(with_reducible first|refine Kd.C_alloc ?_ _|refine Kd.C_drewN ?_ _|refine Kd.C_drew ?_)))
        (case side4=>exact HC228_6.out)
        (case side5=>repeat (first|exact(Kd.C_below HR229_4.out HB.out)|(with_reducible first|refine Kd.C_alloc ?_ _|refine Kd.C_drewN ?_ _|refine Kd.C_drew ?_)))
        (case side6=>exact HC229_4.out)
        (case side7=>repeat (first|exact(Kd.C_below HR229_6.out HB.out)|(with_reducible first|refine Kd.C_alloc ?_ _|refine Kd.C_drewN ?_ _|refine Kd.C_drew ?_)))
        (case side8=>exact HC229_6.out)
        rintro e w10 ⟨rfl,hb⟩
        refine⟨_,rfl,?_⟩
        have n0_:=Az.mk (bT_ (by repeat (first|(with_reducible first|exact HB.out|apply bA_|apply bN_|apply bD_)|exact HB.out)) hb)
        clear HB
        have HB:=n0_
        clear n0_
        (try clear hb)
        (try clear hb2)
        (try clear hk)
        (try clear hi)
        refine hK.out _ _ ⟨((HB.out.cell (bL_ w _ hw228_0)).trans hw228_0),((HB.out.cell (bL_ w _ hw228_1)).trans hw228_1),((HB.out.cell (bL_ w _ hw228_2)).trans hw228_2),((HB.out.cell (bL_ w _ hw228_3)).trans hw228_3),((HB.out.cell (bL_ w _ hw228_4)).trans hw228_4),((HB.out.cell (bL_ w _ hw228_5)).trans hw228_5),((HB.out.cell (bL_ w _ hw228_6)).trans hw228_6),((HB.out.cell (bL_ w _ hw229_0)).trans hw229_0),((HB.out.cell (bL_ w _ hw229_1)).trans hw229_1),((HB.out.cell (bL_ w _ hw229_2)).trans hw229_2),((HB.out.cell (bL_ w _ hw229_3)).trans hw229_3),((HB.out.cell (bL_ w _ hw229_4)).trans hw229_4),((HB.out.cell (bL_ w _ hw229_5)).trans hw229_5),((HB.out.cell (bL_ w _ hw229_6)).trans hw229_6)⟩ (fun hHeld=>?_)
        clear hK K
        refine norm_ (a':=?_) ?_ ?_
        rotate_left
        ·show Act.put _ (some 25) _=_
         simp only [Act.put,sT_,s0_,sC_,i64_w,i32_w]
         rfl
        refine pure_ (i:=9) (N:=some 26) (v:=?_) (a':=?_) #[true,true,true,true,true,true,true,true,true,true] rfl rfl (any_of HT_.out (by kernel_rfl)) (fun _ _ _ h=>h) (Or.inl ⟨by rfl,?_⟩) ?_ ?_
        rotate_left
        ·intro w'
         go_simp
         with_reducible rfl
        rotate_left
        ·simp only [Act.put,sT_,s0_,sC_,i64_w,i32_w]
         rfl
        refine done_ (done_of HT_.out (by kernel_rfl)) ?_
        try go_wp2
        go_roundg k1
        case measure=>have:=HK1.out;omega
        case rel=>exact⟨(wrap64 (x5_1 + 1)),(by first|rfl|(simp;done)|(simp [*];done)|(refine congrArg Value.bool ?_;exact isE_ _)),H',⟨by have:=HK1.out;omega⟩,⟨by repeat (first|(with_reducible first|exact HB.out|apply bA_|apply bN_|apply bD_)|exact HB.out)⟩⟩
       ·replace c8:=Bool.eq_false_iff.mpr c8
        subst c8
        have H1:(some false)=some r:=by rw [if_neg (show ¬ (false=true) by decide)] at H;exact H
        clear H
        have H:=H1
        clear H1
        obtain rfl:=Option.some.inj H
        try go_wp2
        have n0_:=Az.mk (bD_ HB.out)
        clear HB
        have HB:=n0_
        clear n0_
        have p228:0≤(x5_1:Int):=of_decide_eq_true (by first|(with_reducible assumption)|assumption)
        have q228:x5_1 < (l0.length:Int):=of_decide_eq_true (by first|(with_reducible assumption)|assumption)
        obtain⟨ad228,A228_4,c228_4,A228_6,c228_6,e228,hx228_0,hx228_1,hx228_2,hx228_3,hx228_4,hx228_5,hx228_6,hl228_4,hi228_4,hl228_6,hi228_6⟩:=at_T32 HR0.out x5_1 p228 q228
        have hw228_6:=hx228_6
        have hw228_5:=hx228_5
        have hw228_4:=hx228_4
        have hw228_3:=hx228_3
        have hw228_2:=hx228_2
        have hw228_1:=hx228_1
        have hw228_0:=hx228_0
        cases e228
        replace hx228_0:=(HB.out.cell (bL_ w _ hx228_0)).trans hx228_0
        replace hx228_1:=(HB.out.cell (bL_ w _ hx228_1)).trans hx228_1
        replace hx228_2:=(HB.out.cell (bL_ w _ hx228_2)).trans hx228_2
        replace hx228_3:=(HB.out.cell (bL_ w _ hx228_3)).trans hx228_3
        replace hx228_4:=(HB.out.cell (bL_ w _ hx228_4)).trans hx228_4
        replace hx228_5:=(HB.out.cell (bL_ w _ hx228_5)).trans hx228_5
        replace hx228_6:=(HB.out.cell (bL_ w _ hx228_6)).trans hx228_6
        have HR228_4:=Az.mk hi228_4
        have HC228_4:=Az.mk hl228_4
        clear hi228_4 hl228_4
        have HR228_6:=Az.mk hi228_6
        have HC228_6:=Az.mk hl228_6
        clear hi228_6 hl228_6
        replace p228:=eq_true p228
        replace q228:=eq_true q228
        have p229:0≤(x5_1:Int):=of_decide_eq_true (by first|(with_reducible assumption)|assumption)
        have q229:x5_1 < (l1.length:Int):=of_decide_eq_true (by first|(with_reducible assumption)|assumption)
        obtain⟨ad229,A229_4,c229_4,A229_6,c229_6,e229,hx229_0,hx229_1,hx229_2,hx229_3,hx229_4,hx229_5,hx229_6,hl229_4,hi229_4,hl229_6,hi229_6⟩:=at_T32 HR1.out x5_1 p229 q229
        have hw229_6:=hx229_6
        have hw229_5:=hx229_5
        have hw229_4:=hx229_4
        have hw229_3:=hx229_3
        have hw229_2:=hx229_2
        have hw229_1:=hx229_1
        have hw229_0:=hx229_0
        cases e229
        replace hx229_0:=(HB.out.cell (bL_ w _ hx229_0)).trans hx229_0
        replace hx229_1:=(HB.out.cell (bL_ w _ hx229_1)).trans hx229_1
        replace hx229_2:=(HB.out.cell (bL_ w _ hx229_2)).trans hx229_2
        replace hx229_3:=(HB.out.cell (bL_ w _ hx229_3)).trans hx229_3
        replace hx229_4:=(HB.out.cell (bL_ w _ hx229_4)).trans hx229_4
        replace hx229_5:=(HB.out.cell (bL_ w _ hx229_5)).trans hx229_5
        replace hx229_6:=(HB.out.cell (bL_ w _ hx229_6)).trans hx229_6
        have HR229_4:=Az.mk hi229_4
        have HC229_4:=Az.mk hl229_4
        clear hi229_4 hl229_4
        have HR229_6:=Az.mk hi229_6
        have HC229_6:=Az.mk hl229_6
        clear hi229_6 hl229_6
        replace p229:=eq_true p229
        replace q229:=eq_true q229
        refine start_ (n:=10) (S:=fun w'=>w'.cell? (ad228.add ((x5_1).toNat * 7))=some (.int .i64 ((rd_T32 l0 x5_1).f0))∧w'.cell? ⟨(ad228.add ((x5_1).toNat * 7)).block,(ad228.add ((x5_1).toNat * 7)).off + 1,none⟩=some (.int .i64 ((rd_T32 l0 x5_1).f1))∧w'.cell? ⟨(ad228.add ((x5_1).toNat * 7)).block,(ad228.add ((x5_1).toNat * 7)).off + 2,none⟩=some (.int .i64 ((rd_T32 l0 x5_1).f2))∧w'.cell? ⟨(ad228.add ((x5_1).toNat * 7)).block,(ad228.add ((x5_1).toNat * 7)).off + 3,none⟩=some (.int .i64 ((rd_T32 l0 x5_1).f3))∧w'.cell? ⟨(ad228.add ((x5_1).toNat * 7)).block,(ad228.add ((x5_1).toNat * 7)).off + 4,none⟩=some (.slice A228_4 ((rd_T32 l0 x5_1).f4).length c228_4)∧w'.cell? ⟨(ad228.add ((x5_1).toNat * 7)).block,(ad228.add ((x5_1).toNat * 7)).off + 5,none⟩=some (.string ((rd_T32 l0 x5_1).f5))∧w'.cell? ⟨(ad228.add ((x5_1).toNat * 7)).block,(ad228.add ((x5_1).toNat * 7)).off + 6,none⟩=some (.slice A228_6 ((rd_T32 l0 x5_1).f6).length c228_6)∧w'.cell? (ad229.add ((x5_1).toNat * 7))=some (.int .i64 ((rd_T32 l1 x5_1).f0))∧w'.cell? ⟨(ad229.add ((x5_1).toNat * 7)).block,(ad229.add ((x5_1).toNat * 7)).off + 1,none⟩=some (.int .i64 ((rd_T32 l1 x5_1).f1))∧w'.cell? ⟨(ad229.add ((x5_1).toNat * 7)).block,(ad229.add ((x5_1).toNat * 7)).off + 2,none⟩=some (.int .i64 ((rd_T32 l1 x5_1).f2))∧w'.cell? ⟨(ad229.add ((x5_1).toNat * 7)).block,(ad229.add ((x5_1).toNat * 7)).off + 3,none⟩=some (.int .i64 ((rd_T32 l1 x5_1).f3))∧w'.cell? ⟨(ad229.add ((x5_1).toNat * 7)).block,(ad229.add ((x5_1).toNat * 7)).off + 4,none⟩=some (.slice A229_4 ((rd_T32 l1 x5_1).f4).length c229_4)∧w'.cell? ⟨(ad229.add ((x5_1).toNat * 7)).block,(ad229.add ((x5_1).toNat * 7)).off + 5,none⟩=some (.string ((rd_T32 l1 x5_1).f5))∧w'.cell? ⟨(ad229.add ((x5_1).toNat * 7)).block,(ad229.add ((x5_1).toNat * 7)).off + 6,none⟩=some (.slice A229_6 ((rd_T32 l1 x5_1).f6).length c229_6)) (ds:=[]) #[false,false,false,false,false,false,false,false,false,false] (by kernel_rfl) rfl rfl ⟨((HB.out.cell (bL_ w _ hw228_0)).trans hw228_0),((HB.out.cell (bL_ w _ hw228_1)).trans hw228_1),((HB.out.cell (bL_ w _ hw228_2)).trans hw228_2),((HB.out.cell (bL_ w _ hw228_3)).trans hw228_3),((HB.out.cell (bL_ w _ hw228_4)).trans hw228_4),((HB.out.cell (bL_ w _ hw228_5)).trans hw228_5),((HB.out.cell (bL_ w _ hw228_6)).trans hw228_6),((HB.out.cell (bL_ w _ hw229_0)).trans hw229_0),((HB.out.cell (bL_ w _ hw229_1)).trans hw229_1),((HB.out.cell (bL_ w _ hw229_2)).trans hw229_2),((HB.out.cell (bL_ w _ hw229_3)).trans hw229_3),((HB.out.cell (bL_ w _ hw229_4)).trans hw229_4),((HB.out.cell (bL_ w _ hw229_5)).trans hw229_5),((HB.out.cell (bL_ w _ hw229_6)).trans hw229_6)⟩ (fun hHeld=>?_);refine with_tabW arboristlaw46_sameNodes.tab6 arboristlaw46_sameNodes.bits6 (fun HT_ HW_=>?_)
        generalize wr.drew=w11 at HB HR228_4 HR228_6 HR229_4 HR229_6 hx228_0 hx228_1 hx228_2 hx228_3 hx228_4 hx228_5 hx228_6 hx229_0 hx229_1 hx229_2 hx229_3 hx229_4 hx229_5 hx229_6 hHeld ⊢
        refine pure_ (i:=0) (N:=some 17) (v:=?_) (a':=?_) #[true,false,false,false,false,false,false,false,false,false] rfl rfl (any_of HT_.out (by kernel_rfl)) (fun _ _ _ h=>h) (Or.inl ⟨by rfl,?_⟩) ?_ ?_
        rotate_left
        ·intro w'
         go_simp
         with_reducible rfl
        rotate_left
        ·simp only [Act.put,sT_,s0_,sC_,i64_w,i32_w]
         rfl
        refine pure_ (i:=1) (N:=some 18) (v:=?_) (a':=?_) #[true,true,false,false,false,false,false,false,false,false] rfl rfl (any_of HT_.out (by kernel_rfl)) (fun _ _ _ h=>h) (Or.inl ⟨by rfl,?_⟩) ?_ ?_
        rotate_left
        ·intro w'
         go_simp
         with_reducible rfl
        rotate_left
        ·simp only [Act.put,sT_,s0_,sC_,i64_w,i32_w]
         rfl
        refine pure_ (i:=2) (N:=some 19) (v:=?_) (a':=?_) #[true,true,true,false,false,false,false,false,false,false] rfl rfl (any_of HT_.out (by kernel_rfl)) (fun _ _ _ h=>h) (Or.inl ⟨by rfl,?_⟩) ?_ ?_
        rotate_left
        ·intro w'
         go_simp
         with_reducible rfl
        rotate_left
        ·simp only [Act.put,sT_,s0_,sC_,i64_w,i32_w]
         rfl
        refine pure_ (i:=4) (N:=some 21) (v:=?_) (a':=?_) #[true,true,true,false,true,false,false,false,false,false] rfl rfl (any_of HT_.out (by kernel_rfl)) (fun _ _ _ h=>h) (Or.inl ⟨by rfl,?_⟩) ?_ ?_
        rotate_left
        ·intro w'
         go_simp
         with_reducible rfl
        rotate_left
        ·simp only [Act.put,sT_,s0_,sC_,i64_w,i32_w]
         rfl
        refine pure_ (i:=5) (N:=some 22) (v:=?_) (a':=?_) #[true,true,true,false,true,true,false,false,false,false] rfl rfl (any_of HT_.out (by kernel_rfl)) (fun _ _ _ h=>h) (Or.inl ⟨by rfl,?_⟩) ?_ ?_
        rotate_left
        ·intro w'
         go_simp
         with_reducible rfl
        rotate_left
        ·simp only [Act.put,sT_,s0_,sC_,i64_w,i32_w]
         rfl
        refine pure_ (i:=6) (N:=some 23) (v:=?_) (a':=?_) #[true,true,true,false,true,true,true,false,false,false] rfl rfl (any_of HT_.out (by kernel_rfl)) (fun _ _ _ h=>h) (Or.inl ⟨by rfl,?_⟩) ?_ ?_
        rotate_left
        ·intro w'
         go_simp
         with_reducible rfl
        rotate_left
        ·simp only [Act.put,sT_,s0_,sC_,i64_w,i32_w]
         rfl
        refine take_ (i:=3) (N:=some 20) (v:=?_) (a':=?_) #[true,true,true,true,true,true,true,false,false,false] rfl rfl (take_ofW HT_.out HW_.out (by kernel_rfl)) (fun _ _ _ h=>h) (Or.inl ⟨by rfl,?_⟩) hHeld ?_ ?_
        rotate_left
        ·rintro w' ⟨s0,s1,s2,s3,s4,s5,s6,s7,s8,s9,s10,s11,s12,s13⟩
         go_simp
         with_reducible rfl
        rotate_left
        ·simp only [Act.put,sT_,s0_,sC_,i64_w,i32_w]
         rfl
        refine take_ (i:=7) (N:=some 24) (v:=?_) (a':=?_) #[true,true,true,true,true,true,true,true,false,false] rfl rfl (take_ofW HT_.out HW_.out (by kernel_rfl)) (fun _ _ _ h=>h) (Or.inl ⟨by rfl,?_⟩) hHeld ?_ ?_
        rotate_left
        ·rintro w' ⟨s0,s1,s2,s3,s4,s5,s6,s7,s8,s9,s10,s11,s12,s13⟩
         go_simp
         with_reducible rfl
        rotate_left
        ·simp only [Act.put,sT_,s0_,sC_,i64_w,i32_w]
         rfl
        refine one_ (i:=8) (N:=some 25) #[true,true,true,true,true,true,true,true,true,false] rfl rfl (one_of HT_.out (by kernel_rfl)) (by decide) (fun K hK=>?_)
        refine goes_ Try.func25 (by kernel_rfl) rfl #[.agg #[.int .i64 ((rd_T32 l0 x5_1).f0),.int .i64 ((rd_T32 l0 x5_1).f1),.int .i64 ((rd_T32 l0 x5_1).f2),.int .i64 ((rd_T32 l0 x5_1).f3),.slice A228_4 ((rd_T32 l0 x5_1).f4).length c228_4,.string ((rd_T32 l0 x5_1).f5),.slice A228_6 ((rd_T32 l0 x5_1).f6).length c228_6],.agg #[.int .i64 ((rd_T32 l1 x5_1).f0),.int .i64 ((rd_T32 l1 x5_1).f1),.int .i64 ((rd_T32 l1 x5_1).f2),.int .i64 ((rd_T32 l1 x5_1).f3),.slice A229_4 ((rd_T32 l1 x5_1).f4).length c229_4,.string ((rd_T32 l1 x5_1).f5),.slice A229_6 ((rd_T32 l1 x5_1).f6).length c229_6]] (by rfl) rfl rfl (by(try simp only [List.map_toArray,List.map_cons,List.map_nil]);first|done|rfl|(simp only [List.length_drop,List.length_take];rfl)) ?_
        with_reducible refine(arboristref42_Same.calls k1 ((rd_T32 l0 x5_1).f0) ((rd_T32 l0 x5_1).f1) ((rd_T32 l0 x5_1).f2) ((rd_T32 l0 x5_1).f3) _ _ ((rd_T32 l0 x5_1).f4) ((rd_T32 l0 x5_1).f5) _ _ ((rd_T32 l0 x5_1).f6) ((rd_T32 l1 x5_1).f0) ((rd_T32 l1 x5_1).f1) ((rd_T32 l1 x5_1).f2) ((rd_T32 l1 x5_1).f3) _ _ ((rd_T32 l1 x5_1).f4) ((rd_T32 l1 x5_1).f5) _ _ ((rd_T32 l1 x5_1).f6) false _ ?side1 ?side2 ?side3 ?side4 ?side5 ?side6 ?side7 ?side8 A7.out).mono ?_
        (case side1=>repeat (first|exact(Kd.C_below HR228_4.out HB.out)|(with_reducible first|refine Kd.C_alloc ?_ _|refine Kd.C_drewN ?_ _|refine Kd.C_drew ?_)))
        (case side2=>exact HC228_4.out)
        (case side3=>repeat (first|exact(Kd.C_below HR228_6.out HB.out)|(with_reducible first|refine Kd.C_alloc ?_ _|refine Kd.C_drewN ?_ _|refine Kd.C_drew ?_)))
        (case side4=>exact HC228_6.out)
        (case side5=>repeat (first|exact(Kd.C_below HR229_4.out HB.out)|(with_reducible first|refine Kd.C_alloc ?_ _|refine Kd.C_drewN ?_ _|refine Kd.C_drew ?_)))
        (case side6=>exact HC229_4.out)
        (case side7=>repeat (first|exact(Kd.C_below HR229_6.out HB.out)|(with_reducible first|refine Kd.C_alloc ?_ _|refine Kd.C_drewN ?_ _|refine Kd.C_drew ?_)))
        (case side8=>exact HC229_6.out)
        rintro e w12 ⟨rfl,hb⟩
        refine⟨_,rfl,?_⟩
        have n0_:=Az.mk (bT_ (by repeat (first|(with_reducible first|exact HB.out|apply bA_|apply bN_|apply bD_)|exact HB.out)) hb)
        clear HB
        have HB:=n0_
        clear n0_
        (try clear hb)
        (try clear hb2)
        (try clear hk)
        (try clear hi)
        refine hK.out _ _ ⟨((HB.out.cell (bL_ w _ hw228_0)).trans hw228_0),((HB.out.cell (bL_ w _ hw228_1)).trans hw228_1),((HB.out.cell (bL_ w _ hw228_2)).trans hw228_2),((HB.out.cell (bL_ w _ hw228_3)).trans hw228_3),((HB.out.cell (bL_ w _ hw228_4)).trans hw228_4),((HB.out.cell (bL_ w _ hw228_5)).trans hw228_5),((HB.out.cell (bL_ w _ hw228_6)).trans hw228_6),((HB.out.cell (bL_ w _ hw229_0)).trans hw229_0),((HB.out.cell (bL_ w _ hw229_1)).trans hw229_1),((HB.out.cell (bL_ w _ hw229_2)).trans hw229_2),((HB.out.cell (bL_ w _ hw229_3)).trans hw229_3),((HB.out.cell (bL_ w _ hw229_4)).trans hw229_4),((HB.out.cell (bL_ w _ hw229_5)).trans hw229_5),((HB.out.cell (bL_ w _ hw229_6)).trans hw229_6)⟩ (fun hHeld=>?_)
        clear hK K
        refine norm_ (a':=?_) ?_ ?_
        rotate_left
        ·show Act.put _ (some 25) _=_
         simp only [Act.put,sT_,s0_,sC_,i64_w,i32_w]
         rfl
        refine pure_ (i:=9) (N:=some 26) (v:=?_) (a':=?_) #[true,true,true,true,true,true,true,true,true,true] rfl rfl (any_of HT_.out (by kernel_rfl)) (fun _ _ _ h=>h) (Or.inl ⟨by rfl,?_⟩) ?_ ?_
        rotate_left
        ·intro w'
         go_simp
         with_reducible rfl
        rotate_left
        ·simp only [Act.put,sT_,s0_,sC_,i64_w,i32_w]
         rfl
        refine done_ (done_of HT_.out (by kernel_rfl)) ?_
        try go_wp2
        go_ret
        exact⟨by first|rfl|(simp [errW_none,errW_some] <;> rfl)|(simp [*,errW_none,errW_some] <;> rfl),by repeat (first|(with_reducible first|exact HB.out|apply bA_|apply bN_|apply bD_)|exact HB.out)⟩
      ·rw [if_neg c6] at H
       exact absurd H (by simp)
     ·rw [if_neg c5] at H
      exact absurd H (by simp)
    ·rw [if_neg c4] at H
     have c4b0:decide (x5_1 < (l0.length:Int))=false:=decide_eq_false c4
     clear c4
     obtain rfl:=Option.some.inj H
     go_wp2
     go_ret
     exact⟨by first|rfl|(simp [errW_none,errW_some] <;> rfl)|(simp [*,errW_none,errW_some] <;> rfl),by repeat (first|(with_reducible first|exact HB.out|apply bA_|apply bN_|apply bD_)|exact HB.out)⟩
 ·rw [if_neg c3] at H
  have c3b0:((l0.length:Int) == (l1.length:Int))=false:=beq_eq_false_iff_ne.mpr c3
  have c3b1:((l0.length:Int) != (l1.length:Int))=true:=bne_iff_ne.mpr c3
  have c3b2:(l0.length == l1.length)=false:=by first|simpa using c3|(simp at c3 ⊢;omega)
  obtain rfl:=Option.some.inj H
  go_enter Try.func15,Try.ntmps15
  go_wp2
  go_ret
  exact⟨by first|rfl|(simp [errW_none,errW_some] <;> rfl)|(simp [*,errW_none,errW_some] <;> rfl),by repeat (first|(with_reducible first|exact HB.out|apply bA_|apply bN_|apply bD_)|exact HB.out)⟩
end Go.Proofs.Ytgdbcogbbghjaaa.Q
