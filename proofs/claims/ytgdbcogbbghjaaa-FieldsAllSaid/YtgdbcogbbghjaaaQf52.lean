import Derived.Test.YtgdbcogbbghjaaaQ0
namespace Go.Proofs.Ytgdbcogbbghjaaa.Q
open Go.RowKit Go.Proofs.YtgdbcogbbghjaaaW.PrintWords Go.Proofs.YtgdbcogbbghjaaaW.PrintLast Go.Proofs.YtgdbcogbbghjaaaW.PrintMore
attribute [local go_sem] max2_int min2_int max_two min_two max_three min_three max_four min_four   -- for this text's walks alone
set_option linter.unusedVariables false
set_option linter.unusedSimpArgs false
def arboristref42_lead.l0:Nat→List (S53)→Int→List ByteArray→List ByteArray→List Int→List (S67)→List (S78)→Option (Bool)
 | 0,_,_,_,_,_,_,_=>none
 | k + 1,x1,x5,x386000,x386001,x386002,x386003,x386004=>if x5 < (x1.length:Int)then(if 0≤x5 then(if ((rd_T53 x1 x5).f0)=1 then(if ((rd_T53 x1 x5).f0)=2 then(if ((rd_T53 x1 x5).f0)=3 then(if ((rd_T53 x1 x5).f1) ≥ 2 then(if ((rd_T53 x1 x5).f2).toList=([]:List UInt8)then(some false)else(if (((rd_T53 x1 x5).f1) ≥ 0)then(arboristref42_lead.l0 k x1 (wrap64 (x5 + 1)) x386000 x386001 x386002 x386003 x386004)else(if (((rd_T53 x1 x5).f1)=(-1))then(arboristref42_lead.l0 k x1 (wrap64 (x5 + 1)) x386000 x386001 x386002 x386003 x386004)else(if (((rd_T53 x1 x5).f1) < (x386000.length:Int))then(arboristref42_lead.l0 k x1 (wrap64 (x5 + 1)) x386000 x386001 x386002 x386003 x386004)else(some false)))))else(if ((rd_T53 x1 x5).f2).toList=([]:List UInt8)then(some false)else(if (((rd_T53 x1 x5).f1) ≥ 0)then(arboristref42_lead.l0 k x1 (wrap64 (x5 + 1)) x386000 x386001 x386002 x386003 x386004)else(if (((rd_T53 x1 x5).f1)=(-1))then(arboristref42_lead.l0 k x1 (wrap64 (x5 + 1)) x386000 x386001 x386002 x386003 x386004)else(some false)))))else(if ((rd_T53 x1 x5).f2).toList=([]:List UInt8)then(some false)else(if (((rd_T53 x1 x5).f1) ≥ 0)then(arboristref42_lead.l0 k x1 (wrap64 (x5 + 1)) x386000 x386001 x386002 x386003 x386004)else(if (((rd_T53 x1 x5).f1)=(-1))then(arboristref42_lead.l0 k x1 (wrap64 (x5 + 1)) x386000 x386001 x386002 x386003 x386004)else(some false)))))else(if ((rd_T53 x1 x5).f0)=3 then(if ((rd_T53 x1 x5).f1) ≥ 2 then(if ((rd_T53 x1 x5).f2).toList=([]:List UInt8)then(some false)else(if (((rd_T53 x1 x5).f1) ≥ 0)then(arboristref42_lead.l0 k x1 (wrap64 (x5 + 1)) x386000 x386001 x386002 x386003 x386004)else(if (((rd_T53 x1 x5).f1) < (x386000.length:Int))then(arboristref42_lead.l0 k x1 (wrap64 (x5 + 1)) x386000 x386001 x386002 x386003 x386004)else(some false))))else(if ((rd_T53 x1 x5).f2).toList=([]:List UInt8)then(some false)else(if (((rd_T53 x1 x5).f1) ≥ 0)then(arboristref42_lead.l0 k x1 (wrap64 (x5 + 1)) x386000 x386001 x386002 x386003 x386004)else(some false))))else(if ((rd_T53 x1 x5).f2).toList=([]:List UInt8)then(some false)else(if (((rd_T53 x1 x5).f1) ≥ 0)then(arboristref42_lead.l0 k x1 (wrap64 (x5 + 1)) x386000 x386001 x386002 x386003 x386004)else(some false)))))else(if ((rd_T53 x1 x5).f0)=2 then(if ((rd_T53 x1 x5).f0)=3 then(if ((rd_T53 x1 x5).f1) ≥ 2 then(if ((rd_T53 x1 x5).f2).toList=([]:List UInt8)then(some false)else(if (((rd_T53 x1 x5).f1)=(-1))then(arboristref42_lead.l0 k x1 (wrap64 (x5 + 1)) x386000 x386001 x386002 x386003 x386004)else(if (((rd_T53 x1 x5).f1) < (x386000.length:Int))then(arboristref42_lead.l0 k x1 (wrap64 (x5 + 1)) x386000 x386001 x386002 x386003 x386004)else(some false))))else(if ((rd_T53 x1 x5).f2).toList=([]:List UInt8)then(some false)else(if (((rd_T53 x1 x5).f1)=(-1))then(arboristref42_lead.l0 k x1 (wrap64 (x5 + 1)) x386000 x386001 x386002 x386003 x386004)else(some false))))else(if ((rd_T53 x1 x5).f2).toList=([]:List UInt8)then(some false)else(if (((rd_T53 x1 x5).f1)=(-1))then(arboristref42_lead.l0 k x1 (wrap64 (x5 + 1)) x386000 x386001 x386002 x386003 x386004)else(some false))))else(if ((rd_T53 x1 x5).f0)=3 then(if ((rd_T53 x1 x5).f1) ≥ 2 then(if ((rd_T53 x1 x5).f2).toList=([]:List UInt8)then(some false)else(if (((rd_T53 x1 x5).f1) < (x386000.length:Int))then(arboristref42_lead.l0 k x1 (wrap64 (x5 + 1)) x386000 x386001 x386002 x386003 x386004)else(some false)))else(if ((rd_T53 x1 x5).f2).toList=([]:List UInt8)then(some false)else(some false)))else(if ((rd_T53 x1 x5).f2).toList=([]:List UInt8)then(some false)else(some false)))))else(none))else(some true)
def arboristref42_lead.f (k:Nat)(l0_0:List ByteArray)(l0_1:List ByteArray)(l0_2:List Int)(l0_3:List (S67))(l0_4:List (S78))(l1:List (S53)):Option (Bool):=arboristref42_lead.l0 k l1 0 l0_0 l0_1 l0_2 l0_3 l0_4
set_option maxHeartbeats 8000000 in
set_option maxRecDepth 100000 in
theorem arboristref42_lead.calls (k:Nat)(A0_0:Option Addr)(c0_0:Nat)(l0_0:List ByteArray)(A0_1:Option Addr)(c0_1:Nat)(l0_1:List ByteArray)(A0_2:Option Addr)(c0_2:Nat)(l0_2:List Int)(A0_3:Option Addr)(c0_3:Nat)(l0_3:List (S67))(A0_4:Option Addr)(c0_4:Nat)(l0_4:List (S78))(A1:Option Addr)(c1:Nat)(l1:List (S53))(r:Bool)(w:World)(hr0_0:Kd.C Kd.string w A0_0 l0_0.length l0_0)(hc0_0:l0_0.length≤c0_0)(hr0_1:Kd.C Kd.string w A0_1 l0_1.length l0_1)(hc0_1:l0_1.length≤c0_1)(hr0_2:Kd.C (Kd.int .i64) w A0_2 l0_2.length l0_2)(hc0_2:l0_2.length≤c0_2)(hr0_3:Kd.C k67 w A0_3 l0_3.length l0_3)(hc0_3:l0_3.length≤c0_3)(hr0_4:Kd.C k78 w A0_4 l0_4.length l0_4)(hc0_4:l0_4.length≤c0_4)(hr1:Kd.C k53 w A1 l1.length l1)(hc1:l1.length≤c1)(h:arboristref42_lead.f k l0_0 l0_1 l0_2 l0_3 l0_4 l1=some r) :
  Calls Try.prog 52 #[.agg #[.slice A0_0 l0_0.length c0_0,.slice A0_1 l0_1.length c0_1,.slice A0_2 l0_2.length c0_2,.slice A0_3 l0_3.length c0_3,.slice A0_4 l0_4.length c0_4],.slice A1 l1.length c1] w fun e w'=>e=.returned (.bool r)∧Below w.heap.size w w':=by
 have hu27:=Try.underlying27
 have hu53:=Try.underlying53
 have HR0_0:=Az.mk hr0_0
 have HC0_0:=Az.mk hc0_0
 clear hr0_0 hc0_0
 have HR0_1:=Az.mk hr0_1
 have HC0_1:=Az.mk hc0_1
 clear hr0_1 hc0_1
 have HR0_2:=Az.mk hr0_2
 have HC0_2:=Az.mk hc0_2
 clear hr0_2 hc0_2
 have HR0_3:=Az.mk hr0_3
 have HC0_3:=Az.mk hc0_3
 clear hr0_3 hc0_3
 have HR0_4:=Az.mk hr0_4
 have HC0_4:=Az.mk hc0_4
 clear hr0_4 hc0_4
 have HR1:=Az.mk hr1
 have HC1:=Az.mk hc1
 clear hr1 hc1
 have HB:=Az.mk (Below.refl w.heap.size w)
 have H:(arboristref42_lead.l0 k l1 0 l0_0 l0_1 l0_2 l0_3 l0_4)=some r:=h
 clear h
 have H':=Az.mk H
 clear H
 go_enter Try.func52,Try.ntmps52
 go_wp2_with (first|((with_reducible refine gate_dst (N:=2) rfl ?_);(try (refine gate_guard (by rfl) ?_;dsimp only));refine box_event ?hg (N:=2) ?hd (cs:=#[.slice A0_0 l0_0.length c0_0,.slice A0_1 l0_1.length c0_1,.slice A0_2 l0_2.length c0_2,.slice A0_3 l0_3.length c0_3,.slice A0_4 l0_4.length c0_4]) (t:=27) ?hr ?_;(case hd=>rfl);(case hg=>rfl);(case hr=>first|(go_simp;done)|(go_simp;rfl));intro gb385 hg w3 hbox hb;have n0_:=Az.mk (bT_ HB.out hb);have n1_:=Az.mk (hbox);have n2_:=Az.mk ((szl_ HB.out hg));have n3_:=Az.mk ((szl_ HB.out hg));clear HB;have HB:=n0_;have BK385:=n1_;have GW385:=n2_;have GE385:=n3_;clear n0_ n1_ n2_ n3_;clear hb hbox hg))
 go_loopg [5] k (fun kq v5 w'=>∃ (x5_1:Int),v5=.int .i64 x5_1∧Az (arboristref42_lead.l0 kq l1 x5_1 l0_0 l0_1 l0_2 l0_3 l0_4=some r)∧Az (kq≤k)∧Az (w'.heap[gb385]?=some (.cells #[(.slice A0_0 l0_0.length c0_0),(.slice A0_1 l0_1.length c0_1),(.slice A0_2 l0_2.length c0_2),(.slice A0_3 l0_3.length c0_3),(.slice A0_4 l0_4.length c0_4)] 27 (0,0)))∧Az (Below w.heap.size w w'))
 case atStart=>exact⟨(0),(by first|rfl|(simp;done)|(simp [*];done)|(refine congrArg Value.bool ?_;exact isE_ _)),H',⟨Nat.le_refl _⟩,⟨by(with_reducible repeat (first|refine kN_ ?_ _|refine kD_ ?_|refine kA_ ?_ _));exact BK385.out⟩,⟨by repeat (first|(with_reducible first|exact HB.out|apply bA_|apply bN_|apply bD_|refine bS_ ?_ GE385.out)|exact HB.out)⟩⟩
 case round =>
  clear H'
  try clear c1
  try clear p2
  obtain⟨x5_1,rfl,HA,HK1,BK385,HB⟩:=hrel
  cases gk with
  | zero=>exact absurd HA.out (by simp [arboristref42_lead.l0])
  | succ k1 =>
   have H:=HA.out
   clear HA
   simp only [arboristref42_lead.l0] at H
   by_cases c4:x5_1 < (l1.length:Int)
   rotate_left
   ·rw [if_neg c4] at H
    have c4b0:=decide_eq_false c4
    clear c4
    obtain rfl:=Option.some.inj H
    go_wp2
    go_ret
    exact⟨by first|rfl|(simp [errW_none,errW_some] <;> rfl)|(simp [*,errW_none,errW_some] <;> rfl),by repeat (first|(with_reducible first|exact HB.out|apply bA_|apply bN_|apply bD_|refine bS_ ?_ GE385.out)|exact HB.out)⟩
   rw [if_pos c4] at H
   have c4b0:=decide_eq_true c4
   clear c4
   by_cases c5:0≤x5_1
   rotate_left
   ·rw [if_neg c5] at H
    exact absurd H (by simp)
   rw [if_pos c5] at H
   have c5b0:=decide_eq_true c5
   clear c5
   by_cases c6:((rd_T53 l1 x5_1).f0)=1
   rotate_left
   ·rw [if_neg c6] at H
    have c6b0:=beq_eq_false_iff_ne.mpr c6
    have c6b1:=bne_iff_ne.mpr c6
    by_cases c107:((rd_T53 l1 x5_1).f0)=2
    rotate_left
    ·rw [if_neg c107] at H
     have c107b0:=beq_eq_false_iff_ne.mpr c107
     have c107b1:=bne_iff_ne.mpr c107
     by_cases c151:((rd_T53 l1 x5_1).f0)=3
     rotate_left
     ·rw [if_neg c151] at H
      have c151b0:=beq_eq_false_iff_ne.mpr c151
      have c151b1:=bne_iff_ne.mpr c151
      by_cases c174:((rd_T53 l1 x5_1).f2).toList=([]:List UInt8)
      ·rw [if_pos c174] at H
       have c174b0:=beq_iff_eq.mpr c174
       have c174b2:(((rd_T53 l1 x5_1).f2).toList).isEmpty=true:=(show ∀ l_:List UInt8,(l_ == [])=true→l_.isEmpty=true from fun l_ h_=>by cases l_ <;> first|rfl|cases h_) _ c174b0
       have c174b3:(!(((rd_T53 l1 x5_1).f2).toList).isEmpty)=false:=by rw [c174b2];rfl
       have c174b1:=bne_eq_false_iff_eq.mpr c174
       clear c174
       obtain rfl:=Option.some.inj H
       have p386:0≤(x5_1:Int):=of_decide_eq_true (by assumption)
       have q386:x5_1 < (l1.length:Int):=of_decide_eq_true (by assumption)
       obtain⟨ad386,e386,hx386_0,hx386_1,hx386_2⟩:=at_T53 HR1.out x5_1 p386 q386
       cases e386
       replace hx386_0:=bc_ HB.out hx386_0
       replace hx386_1:=bc_ HB.out hx386_1
       replace hx386_2:=bc_ HB.out hx386_2
       replace p386:=eq_true p386
       replace q386:=eq_true q386
       go_wp2_with (first|((with_reducible refine gate_dst (N:=6) rfl ?_);(try (refine gate_guard (by rfl) ?_;dsimp only));refine box_event ?hg (N:=6) ?hd (cs:=#[.int .i64 0,.int .i64 0,.string (⟨#[]⟩:ByteArray)]) (t:=53) ?hr ?_;(case hd=>rfl);(case hg=>rfl);(case hr=>first|(go_simp;done)|(go_simp;rfl));intro gb387 hg w175 hbox hb;have n0_:=Az.mk (kB_ BK385.out hb);have n1_:=Az.mk (bT_ HB.out hb);have n2_:=Az.mk (hbox);have n3_:=Az.mk ((szl_ HB.out hg));have n4_:=Az.mk ((szl_ HB.out hg));have n5_:=Az.mk ((nel_ BK385.out hg));have n6_:=Az.mk ((ner_ BK385.out hg));clear BK385;clear HB;have BK385:=n0_;have HB:=n1_;have BK387:=n2_;have GW387:=n3_;have GE387:=n4_;have NB385_387:=n5_;have NB387_385:=n6_;clear n0_ n1_ n2_ n3_ n4_ n5_ n6_;clear hb hbox hg;have hnb176:=NB387_385.out;have hnc176:=NB385_387.out;obtain⟨hcz177_0,hcz177_1,hcz177_2,hfz177_0,hfz177_1,hfz177_2⟩:=cf3_ BK387.out))
       go_ret
       exact⟨by first|rfl|(simp [errW_none,errW_some] <;> rfl)|(simp [*,errW_none,errW_some] <;> rfl),by repeat (first|(with_reducible first|exact HB.out|apply bA_|apply bN_|apply bD_|refine bS_ ?_ GE385.out|refine bS_ ?_ GE387.out)|exact HB.out)⟩
      rw [if_neg c174] at H
      have c174b0:=beq_eq_false_iff_ne.mpr c174
      have c174b2:(((rd_T53 l1 x5_1).f2).toList).isEmpty=false:=(show ∀ l_:List UInt8,(l_ == [])=false→l_.isEmpty=false from fun l_ h_=>by cases l_ <;> first|rfl|cases h_) _ c174b0
      have c174b3:(!(((rd_T53 l1 x5_1).f2).toList).isEmpty)=true:=by rw [c174b2];rfl
      have c174b1:=bne_iff_ne.mpr c174
      obtain rfl:=Option.some.inj H
      have p386:0≤(x5_1:Int):=of_decide_eq_true (by assumption)
      have q386:x5_1 < (l1.length:Int):=of_decide_eq_true (by assumption)
      obtain⟨ad386,e386,hx386_0,hx386_1,hx386_2⟩:=at_T53 HR1.out x5_1 p386 q386
      cases e386
      replace hx386_0:=bc_ HB.out hx386_0
      replace hx386_1:=bc_ HB.out hx386_1
      replace hx386_2:=bc_ HB.out hx386_2
      replace p386:=eq_true p386
      replace q386:=eq_true q386
      go_wp2_with (first|((with_reducible refine gate_dst (N:=6) rfl ?_);(try (refine gate_guard (by rfl) ?_;dsimp only));refine box_event ?hg (N:=6) ?hd (cs:=#[.int .i64 0,.int .i64 0,.string (⟨#[]⟩:ByteArray)]) (t:=53) ?hr ?_;(case hd=>rfl);(case hg=>rfl);(case hr=>first|(go_simp;done)|(go_simp;rfl));intro gb387 hg w178 hbox hb;have n0_:=Az.mk (kB_ BK385.out hb);have n1_:=Az.mk (bT_ HB.out hb);have n2_:=Az.mk (hbox);have n3_:=Az.mk ((szl_ HB.out hg));have n4_:=Az.mk ((szl_ HB.out hg));have n5_:=Az.mk ((nel_ BK385.out hg));have n6_:=Az.mk ((ner_ BK385.out hg));clear BK385;clear HB;have BK385:=n0_;have HB:=n1_;have BK387:=n2_;have GW387:=n3_;have GE387:=n4_;have NB385_387:=n5_;have NB387_385:=n6_;clear n0_ n1_ n2_ n3_ n4_ n5_ n6_;clear hb hbox hg;have hnb179:=NB387_385.out;have hnc179:=NB385_387.out;obtain⟨hcz180_0,hcz180_1,hcz180_2,hfz180_0,hfz180_1,hfz180_2⟩:=cf3_ BK387.out))
      go_ret
      exact⟨by first|rfl|(simp [errW_none,errW_some] <;> rfl)|(simp [*,errW_none,errW_some] <;> rfl),by repeat (first|(with_reducible first|exact HB.out|apply bA_|apply bN_|apply bD_|refine bS_ ?_ GE385.out|refine bS_ ?_ GE387.out)|exact HB.out)⟩
     rw [if_pos c151] at H
     have c151b0:=beq_iff_eq.mpr c151
     have c151b1:=bne_eq_false_iff_eq.mpr c151
     clear c151
     by_cases c152:((rd_T53 l1 x5_1).f1) ≥ 2
     rotate_left
     ·rw [if_neg c152] at H
      have c152b0:=decide_eq_false c152
      clear c152
      by_cases c167:((rd_T53 l1 x5_1).f2).toList=([]:List UInt8)
      ·rw [if_pos c167] at H
       have c167b0:=beq_iff_eq.mpr c167
       have c167b2:(((rd_T53 l1 x5_1).f2).toList).isEmpty=true:=(show ∀ l_:List UInt8,(l_ == [])=true→l_.isEmpty=true from fun l_ h_=>by cases l_ <;> first|rfl|cases h_) _ c167b0
       have c167b3:(!(((rd_T53 l1 x5_1).f2).toList).isEmpty)=false:=by rw [c167b2];rfl
       have c167b1:=bne_eq_false_iff_eq.mpr c167
       clear c167
       obtain rfl:=Option.some.inj H
       have p386:0≤(x5_1:Int):=of_decide_eq_true (by assumption)
       have q386:x5_1 < (l1.length:Int):=of_decide_eq_true (by assumption)
       obtain⟨ad386,e386,hx386_0,hx386_1,hx386_2⟩:=at_T53 HR1.out x5_1 p386 q386
       cases e386
       replace hx386_0:=bc_ HB.out hx386_0
       replace hx386_1:=bc_ HB.out hx386_1
       replace hx386_2:=bc_ HB.out hx386_2
       replace p386:=eq_true p386
       replace q386:=eq_true q386
       go_wp2_with (first|((with_reducible refine gate_dst (N:=6) rfl ?_);(try (refine gate_guard (by rfl) ?_;dsimp only));refine box_event ?hg (N:=6) ?hd (cs:=#[.int .i64 0,.int .i64 0,.string (⟨#[]⟩:ByteArray)]) (t:=53) ?hr ?_;(case hd=>rfl);(case hg=>rfl);(case hr=>first|(go_simp;done)|(go_simp;rfl));intro gb387 hg w168 hbox hb;have n0_:=Az.mk (kB_ BK385.out hb);have n1_:=Az.mk (bT_ HB.out hb);have n2_:=Az.mk (hbox);have n3_:=Az.mk ((szl_ HB.out hg));have n4_:=Az.mk ((szl_ HB.out hg));have n5_:=Az.mk ((nel_ BK385.out hg));have n6_:=Az.mk ((ner_ BK385.out hg));clear BK385;clear HB;have BK385:=n0_;have HB:=n1_;have BK387:=n2_;have GW387:=n3_;have GE387:=n4_;have NB385_387:=n5_;have NB387_385:=n6_;clear n0_ n1_ n2_ n3_ n4_ n5_ n6_;clear hb hbox hg;have hnb169:=NB387_385.out;have hnc169:=NB385_387.out;obtain⟨hcz170_0,hcz170_1,hcz170_2,hfz170_0,hfz170_1,hfz170_2⟩:=cf3_ BK387.out))
       go_ret
       exact⟨by first|rfl|(simp [errW_none,errW_some] <;> rfl)|(simp [*,errW_none,errW_some] <;> rfl),by repeat (first|(with_reducible first|exact HB.out|apply bA_|apply bN_|apply bD_|refine bS_ ?_ GE385.out|refine bS_ ?_ GE387.out)|exact HB.out)⟩
      rw [if_neg c167] at H
      have c167b0:=beq_eq_false_iff_ne.mpr c167
      have c167b2:(((rd_T53 l1 x5_1).f2).toList).isEmpty=false:=(show ∀ l_:List UInt8,(l_ == [])=false→l_.isEmpty=false from fun l_ h_=>by cases l_ <;> first|rfl|cases h_) _ c167b0
      have c167b3:(!(((rd_T53 l1 x5_1).f2).toList).isEmpty)=true:=by rw [c167b2];rfl
      have c167b1:=bne_iff_ne.mpr c167
      obtain rfl:=Option.some.inj H
      have p386:0≤(x5_1:Int):=of_decide_eq_true (by assumption)
      have q386:x5_1 < (l1.length:Int):=of_decide_eq_true (by assumption)
      obtain⟨ad386,e386,hx386_0,hx386_1,hx386_2⟩:=at_T53 HR1.out x5_1 p386 q386
      cases e386
      replace hx386_0:=bc_ HB.out hx386_0
      replace hx386_1:=bc_ HB.out hx386_1
      replace hx386_2:=bc_ HB.out hx386_2
      replace p386:=eq_true p386
      replace q386:=eq_true q386
      go_wp2_with (first|((with_reducible refine gate_dst (N:=6) rfl ?_);(try (refine gate_guard (by rfl) ?_;dsimp only));refine box_event ?hg (N:=6) ?hd (cs:=#[.int .i64 0,.int .i64 0,.string (⟨#[]⟩:ByteArray)]) (t:=53) ?hr ?_;(case hd=>rfl);(case hg=>rfl);(case hr=>first|(go_simp;done)|(go_simp;rfl));intro gb387 hg w171 hbox hb;have n0_:=Az.mk (kB_ BK385.out hb);have n1_:=Az.mk (bT_ HB.out hb);have n2_:=Az.mk (hbox);have n3_:=Az.mk ((szl_ HB.out hg));have n4_:=Az.mk ((szl_ HB.out hg));have n5_:=Az.mk ((nel_ BK385.out hg));have n6_:=Az.mk ((ner_ BK385.out hg));clear BK385;clear HB;have BK385:=n0_;have HB:=n1_;have BK387:=n2_;have GW387:=n3_;have GE387:=n4_;have NB385_387:=n5_;have NB387_385:=n6_;clear n0_ n1_ n2_ n3_ n4_ n5_ n6_;clear hb hbox hg;have hnb172:=NB387_385.out;have hnc172:=NB385_387.out;obtain⟨hcz173_0,hcz173_1,hcz173_2,hfz173_0,hfz173_1,hfz173_2⟩:=cf3_ BK387.out))
      go_ret
      exact⟨by first|rfl|(simp [errW_none,errW_some] <;> rfl)|(simp [*,errW_none,errW_some] <;> rfl),by repeat (first|(with_reducible first|exact HB.out|apply bA_|apply bN_|apply bD_|refine bS_ ?_ GE385.out|refine bS_ ?_ GE387.out)|exact HB.out)⟩
     rw [if_pos c152] at H
     have c152b0:=decide_eq_true c152
     clear c152
     by_cases c153:((rd_T53 l1 x5_1).f2).toList=([]:List UInt8)
     ·rw [if_pos c153] at H
      have c153b0:=beq_iff_eq.mpr c153
      have c153b2:(((rd_T53 l1 x5_1).f2).toList).isEmpty=true:=(show ∀ l_:List UInt8,(l_ == [])=true→l_.isEmpty=true from fun l_ h_=>by cases l_ <;> first|rfl|cases h_) _ c153b0
      have c153b3:(!(((rd_T53 l1 x5_1).f2).toList).isEmpty)=false:=by rw [c153b2];rfl
      have c153b1:=bne_eq_false_iff_eq.mpr c153
      clear c153
      obtain rfl:=Option.some.inj H
      have p386:0≤(x5_1:Int):=of_decide_eq_true (by assumption)
      have q386:x5_1 < (l1.length:Int):=of_decide_eq_true (by assumption)
      obtain⟨ad386,e386,hx386_0,hx386_1,hx386_2⟩:=at_T53 HR1.out x5_1 p386 q386
      cases e386
      replace hx386_0:=bc_ HB.out hx386_0
      replace hx386_1:=bc_ HB.out hx386_1
      replace hx386_2:=bc_ HB.out hx386_2
      replace p386:=eq_true p386
      replace q386:=eq_true q386
      go_wp2_with (first|((with_reducible refine gate_dst (N:=6) rfl ?_);(try (refine gate_guard (by rfl) ?_;dsimp only));refine box_event ?hg (N:=6) ?hd (cs:=#[.int .i64 0,.int .i64 0,.string (⟨#[]⟩:ByteArray)]) (t:=53) ?hr ?_;(case hd=>rfl);(case hg=>rfl);(case hr=>first|(go_simp;done)|(go_simp;rfl));intro gb387 hg w154 hbox hb;have n0_:=Az.mk (kB_ BK385.out hb);have n1_:=Az.mk (bT_ HB.out hb);have n2_:=Az.mk (hbox);have n3_:=Az.mk ((szl_ HB.out hg));have n4_:=Az.mk ((szl_ HB.out hg));have n5_:=Az.mk ((nel_ BK385.out hg));have n6_:=Az.mk ((ner_ BK385.out hg));clear BK385;clear HB;have BK385:=n0_;have HB:=n1_;have BK387:=n2_;have GW387:=n3_;have GE387:=n4_;have NB385_387:=n5_;have NB387_385:=n6_;clear n0_ n1_ n2_ n3_ n4_ n5_ n6_;clear hb hbox hg;have hnb155:=NB387_385.out;have hnc155:=NB385_387.out;obtain⟨hcz156_0,hcz156_1,hcz156_2,hfz156_0,hfz156_1,hfz156_2⟩:=cf3_ BK387.out;obtain⟨hcz157_0,hcz157_1,hcz157_2,hcz157_3,hcz157_4,hfz157_0,hfz157_1,hfz157_2,hfz157_3,hfz157_4⟩:=cf5_ BK385.out))
      go_ret
      exact⟨by first|rfl|(simp [errW_none,errW_some] <;> rfl)|(simp [*,errW_none,errW_some] <;> rfl),by repeat (first|(with_reducible first|exact HB.out|apply bA_|apply bN_|apply bD_|refine bS_ ?_ GE385.out|refine bS_ ?_ GE387.out)|exact HB.out)⟩
     rw [if_neg c153] at H
     have c153b0:=beq_eq_false_iff_ne.mpr c153
     have c153b2:(((rd_T53 l1 x5_1).f2).toList).isEmpty=false:=(show ∀ l_:List UInt8,(l_ == [])=false→l_.isEmpty=false from fun l_ h_=>by cases l_ <;> first|rfl|cases h_) _ c153b0
     have c153b3:(!(((rd_T53 l1 x5_1).f2).toList).isEmpty)=true:=by rw [c153b2];rfl
     have c153b1:=bne_iff_ne.mpr c153
     by_cases c158:(((rd_T53 l1 x5_1).f1) < (l0_0.length:Int))
     ·rw [if_pos c158] at H
      have c158b0:=decide_eq_true c158
      clear c158
      have H':=Az.mk H
      clear H
      have p386:0≤(x5_1:Int):=of_decide_eq_true (by assumption)
      have q386:x5_1 < (l1.length:Int):=of_decide_eq_true (by assumption)
      obtain⟨ad386,e386,hx386_0,hx386_1,hx386_2⟩:=at_T53 HR1.out x5_1 p386 q386
      cases e386
      replace hx386_0:=bc_ HB.out hx386_0
      replace hx386_1:=bc_ HB.out hx386_1
      replace hx386_2:=bc_ HB.out hx386_2
      replace p386:=eq_true p386
      replace q386:=eq_true q386
      go_wp2_with (first|((with_reducible refine gate_dst (N:=6) rfl ?_);(try (refine gate_guard (by rfl) ?_;dsimp only));refine box_event ?hg (N:=6) ?hd (cs:=#[.int .i64 0,.int .i64 0,.string (⟨#[]⟩:ByteArray)]) (t:=53) ?hr ?_;(case hd=>rfl);(case hg=>rfl);(case hr=>first|(go_simp;done)|(go_simp;rfl));intro gb387 hg w159 hbox hb;have n0_:=Az.mk (kB_ BK385.out hb);have n1_:=Az.mk (bT_ HB.out hb);have n2_:=Az.mk (hbox);have n3_:=Az.mk ((szl_ HB.out hg));have n4_:=Az.mk ((szl_ HB.out hg));have n5_:=Az.mk ((nel_ BK385.out hg));have n6_:=Az.mk ((ner_ BK385.out hg));clear BK385;clear HB;have BK385:=n0_;have HB:=n1_;have BK387:=n2_;have GW387:=n3_;have GE387:=n4_;have NB385_387:=n5_;have NB387_385:=n6_;clear n0_ n1_ n2_ n3_ n4_ n5_ n6_;clear hb hbox hg;have hnb160:=NB387_385.out;have hnc160:=NB385_387.out;obtain⟨hcz161_0,hcz161_1,hcz161_2,hfz161_0,hfz161_1,hfz161_2⟩:=cf3_ BK387.out;obtain⟨hcz162_0,hcz162_1,hcz162_2,hcz162_3,hcz162_4,hfz162_0,hfz162_1,hfz162_2,hfz162_3,hfz162_4⟩:=cf5_ BK385.out))
      go_roundg k1
      case measure=>have:=HK1.out;omega
      case rel=>exact⟨(wrap64 (x5_1 + 1)),(by first|rfl|(simp;done)|(simp [*];done)|(refine congrArg Value.bool ?_;exact isE_ _)),H',⟨by have:=HK1.out;omega⟩,⟨by(with_reducible repeat (first|refine kN_ ?_ _|refine kD_ ?_|refine kA_ ?_ _));refine kF_ ?_ NB385_387.out _;(with_reducible repeat (first|refine kN_ ?_ _|refine kD_ ?_|refine kA_ ?_ _));refine kF_ ?_ NB385_387.out _;(with_reducible repeat (first|refine kN_ ?_ _|refine kD_ ?_|refine kA_ ?_ _));refine kF_ ?_ NB385_387.out _;(with_reducible repeat (first|refine kN_ ?_ _|refine kD_ ?_|refine kA_ ?_ _));exact BK385.out⟩,⟨by repeat (first|(with_reducible first|exact HB.out|apply bA_|apply bN_|apply bD_|refine bS_ ?_ GE385.out|refine bS_ ?_ GE387.out)|exact HB.out)⟩⟩
     rw [if_neg c158] at H
     have c158b0:=decide_eq_false c158
     clear c158
     obtain rfl:=Option.some.inj H
     have p386:0≤(x5_1:Int):=of_decide_eq_true (by assumption)
     have q386:x5_1 < (l1.length:Int):=of_decide_eq_true (by assumption)
     obtain⟨ad386,e386,hx386_0,hx386_1,hx386_2⟩:=at_T53 HR1.out x5_1 p386 q386
     cases e386
     replace hx386_0:=bc_ HB.out hx386_0
     replace hx386_1:=bc_ HB.out hx386_1
     replace hx386_2:=bc_ HB.out hx386_2
     replace p386:=eq_true p386
     replace q386:=eq_true q386
     go_wp2_with (first|((with_reducible refine gate_dst (N:=6) rfl ?_);(try (refine gate_guard (by rfl) ?_;dsimp only));refine box_event ?hg (N:=6) ?hd (cs:=#[.int .i64 0,.int .i64 0,.string (⟨#[]⟩:ByteArray)]) (t:=53) ?hr ?_;(case hd=>rfl);(case hg=>rfl);(case hr=>first|(go_simp;done)|(go_simp;rfl));intro gb387 hg w163 hbox hb;have n0_:=Az.mk (kB_ BK385.out hb);have n1_:=Az.mk (bT_ HB.out hb);have n2_:=Az.mk (hbox);have n3_:=Az.mk ((szl_ HB.out hg));have n4_:=Az.mk ((szl_ HB.out hg));have n5_:=Az.mk ((nel_ BK385.out hg));have n6_:=Az.mk ((ner_ BK385.out hg));clear BK385;clear HB;have BK385:=n0_;have HB:=n1_;have BK387:=n2_;have GW387:=n3_;have GE387:=n4_;have NB385_387:=n5_;have NB387_385:=n6_;clear n0_ n1_ n2_ n3_ n4_ n5_ n6_;clear hb hbox hg;have hnb164:=NB387_385.out;have hnc164:=NB385_387.out;obtain⟨hcz165_0,hcz165_1,hcz165_2,hfz165_0,hfz165_1,hfz165_2⟩:=cf3_ BK387.out;obtain⟨hcz166_0,hcz166_1,hcz166_2,hcz166_3,hcz166_4,hfz166_0,hfz166_1,hfz166_2,hfz166_3,hfz166_4⟩:=cf5_ BK385.out))
     go_ret
     exact⟨by first|rfl|(simp [errW_none,errW_some] <;> rfl)|(simp [*,errW_none,errW_some] <;> rfl),by repeat (first|(with_reducible first|exact HB.out|apply bA_|apply bN_|apply bD_|refine bS_ ?_ GE385.out|refine bS_ ?_ GE387.out)|exact HB.out)⟩
    rw [if_pos c107] at H
    have c107b0:=beq_iff_eq.mpr c107
    have c107b1:=bne_eq_false_iff_eq.mpr c107
    clear c107
    by_cases c108:((rd_T53 l1 x5_1).f0)=3
    rotate_left
    ·rw [if_neg c108] at H
     have c108b0:=beq_eq_false_iff_ne.mpr c108
     have c108b1:=bne_iff_ne.mpr c108
     by_cases c140:((rd_T53 l1 x5_1).f2).toList=([]:List UInt8)
     ·rw [if_pos c140] at H
      have c140b0:=beq_iff_eq.mpr c140
      have c140b2:(((rd_T53 l1 x5_1).f2).toList).isEmpty=true:=(show ∀ l_:List UInt8,(l_ == [])=true→l_.isEmpty=true from fun l_ h_=>by cases l_ <;> first|rfl|cases h_) _ c140b0
      have c140b3:(!(((rd_T53 l1 x5_1).f2).toList).isEmpty)=false:=by rw [c140b2];rfl
      have c140b1:=bne_eq_false_iff_eq.mpr c140
      clear c140
      obtain rfl:=Option.some.inj H
      have p386:0≤(x5_1:Int):=of_decide_eq_true (by assumption)
      have q386:x5_1 < (l1.length:Int):=of_decide_eq_true (by assumption)
      obtain⟨ad386,e386,hx386_0,hx386_1,hx386_2⟩:=at_T53 HR1.out x5_1 p386 q386
      cases e386
      replace hx386_0:=bc_ HB.out hx386_0
      replace hx386_1:=bc_ HB.out hx386_1
      replace hx386_2:=bc_ HB.out hx386_2
      replace p386:=eq_true p386
      replace q386:=eq_true q386
      go_wp2_with (first|((with_reducible refine gate_dst (N:=6) rfl ?_);(try (refine gate_guard (by rfl) ?_;dsimp only));refine box_event ?hg (N:=6) ?hd (cs:=#[.int .i64 0,.int .i64 0,.string (⟨#[]⟩:ByteArray)]) (t:=53) ?hr ?_;(case hd=>rfl);(case hg=>rfl);(case hr=>first|(go_simp;done)|(go_simp;rfl));intro gb387 hg w141 hbox hb;have n0_:=Az.mk (kB_ BK385.out hb);have n1_:=Az.mk (bT_ HB.out hb);have n2_:=Az.mk (hbox);have n3_:=Az.mk ((szl_ HB.out hg));have n4_:=Az.mk ((szl_ HB.out hg));have n5_:=Az.mk ((nel_ BK385.out hg));have n6_:=Az.mk ((ner_ BK385.out hg));clear BK385;clear HB;have BK385:=n0_;have HB:=n1_;have BK387:=n2_;have GW387:=n3_;have GE387:=n4_;have NB385_387:=n5_;have NB387_385:=n6_;clear n0_ n1_ n2_ n3_ n4_ n5_ n6_;clear hb hbox hg;have hnb142:=NB387_385.out;have hnc142:=NB385_387.out;obtain⟨hcz143_0,hcz143_1,hcz143_2,hfz143_0,hfz143_1,hfz143_2⟩:=cf3_ BK387.out))
      go_ret
      exact⟨by first|rfl|(simp [errW_none,errW_some] <;> rfl)|(simp [*,errW_none,errW_some] <;> rfl),by repeat (first|(with_reducible first|exact HB.out|apply bA_|apply bN_|apply bD_|refine bS_ ?_ GE385.out|refine bS_ ?_ GE387.out)|exact HB.out)⟩
     rw [if_neg c140] at H
     have c140b0:=beq_eq_false_iff_ne.mpr c140
     have c140b2:(((rd_T53 l1 x5_1).f2).toList).isEmpty=false:=(show ∀ l_:List UInt8,(l_ == [])=false→l_.isEmpty=false from fun l_ h_=>by cases l_ <;> first|rfl|cases h_) _ c140b0
     have c140b3:(!(((rd_T53 l1 x5_1).f2).toList).isEmpty)=true:=by rw [c140b2];rfl
     have c140b1:=bne_iff_ne.mpr c140
     by_cases c144:(((rd_T53 l1 x5_1).f1)=(-1))
     ·rw [if_pos c144] at H
      have c144b0:=beq_iff_eq.mpr c144
      have c144b1:=bne_eq_false_iff_eq.mpr c144
      clear c144
      have H':=Az.mk H
      clear H
      have p386:0≤(x5_1:Int):=of_decide_eq_true (by assumption)
      have q386:x5_1 < (l1.length:Int):=of_decide_eq_true (by assumption)
      obtain⟨ad386,e386,hx386_0,hx386_1,hx386_2⟩:=at_T53 HR1.out x5_1 p386 q386
      cases e386
      replace hx386_0:=bc_ HB.out hx386_0
      replace hx386_1:=bc_ HB.out hx386_1
      replace hx386_2:=bc_ HB.out hx386_2
      replace p386:=eq_true p386
      replace q386:=eq_true q386
      go_wp2_with (first|((with_reducible refine gate_dst (N:=6) rfl ?_);(try (refine gate_guard (by rfl) ?_;dsimp only));refine box_event ?hg (N:=6) ?hd (cs:=#[.int .i64 0,.int .i64 0,.string (⟨#[]⟩:ByteArray)]) (t:=53) ?hr ?_;(case hd=>rfl);(case hg=>rfl);(case hr=>first|(go_simp;done)|(go_simp;rfl));intro gb387 hg w145 hbox hb;have n0_:=Az.mk (kB_ BK385.out hb);have n1_:=Az.mk (bT_ HB.out hb);have n2_:=Az.mk (hbox);have n3_:=Az.mk ((szl_ HB.out hg));have n4_:=Az.mk ((szl_ HB.out hg));have n5_:=Az.mk ((nel_ BK385.out hg));have n6_:=Az.mk ((ner_ BK385.out hg));clear BK385;clear HB;have BK385:=n0_;have HB:=n1_;have BK387:=n2_;have GW387:=n3_;have GE387:=n4_;have NB385_387:=n5_;have NB387_385:=n6_;clear n0_ n1_ n2_ n3_ n4_ n5_ n6_;clear hb hbox hg;have hnb146:=NB387_385.out;have hnc146:=NB385_387.out;obtain⟨hcz147_0,hcz147_1,hcz147_2,hfz147_0,hfz147_1,hfz147_2⟩:=cf3_ BK387.out))
      go_roundg k1
      case measure=>have:=HK1.out;omega
      case rel=>exact⟨(wrap64 (x5_1 + 1)),(by first|rfl|(simp;done)|(simp [*];done)|(refine congrArg Value.bool ?_;exact isE_ _)),H',⟨by have:=HK1.out;omega⟩,⟨by(with_reducible repeat (first|refine kN_ ?_ _|refine kD_ ?_|refine kA_ ?_ _));refine kF_ ?_ NB385_387.out _;(with_reducible repeat (first|refine kN_ ?_ _|refine kD_ ?_|refine kA_ ?_ _));refine kF_ ?_ NB385_387.out _;(with_reducible repeat (first|refine kN_ ?_ _|refine kD_ ?_|refine kA_ ?_ _));refine kF_ ?_ NB385_387.out _;(with_reducible repeat (first|refine kN_ ?_ _|refine kD_ ?_|refine kA_ ?_ _));exact BK385.out⟩,⟨by repeat (first|(with_reducible first|exact HB.out|apply bA_|apply bN_|apply bD_|refine bS_ ?_ GE385.out|refine bS_ ?_ GE387.out)|exact HB.out)⟩⟩
     rw [if_neg c144] at H
     have c144b0:=beq_eq_false_iff_ne.mpr c144
     have c144b1:=bne_iff_ne.mpr c144
     obtain rfl:=Option.some.inj H
     have p386:0≤(x5_1:Int):=of_decide_eq_true (by assumption)
     have q386:x5_1 < (l1.length:Int):=of_decide_eq_true (by assumption)
     obtain⟨ad386,e386,hx386_0,hx386_1,hx386_2⟩:=at_T53 HR1.out x5_1 p386 q386
     cases e386
     replace hx386_0:=bc_ HB.out hx386_0
     replace hx386_1:=bc_ HB.out hx386_1
     replace hx386_2:=bc_ HB.out hx386_2
     replace p386:=eq_true p386
     replace q386:=eq_true q386
     go_wp2_with (first|((with_reducible refine gate_dst (N:=6) rfl ?_);(try (refine gate_guard (by rfl) ?_;dsimp only));refine box_event ?hg (N:=6) ?hd (cs:=#[.int .i64 0,.int .i64 0,.string (⟨#[]⟩:ByteArray)]) (t:=53) ?hr ?_;(case hd=>rfl);(case hg=>rfl);(case hr=>first|(go_simp;done)|(go_simp;rfl));intro gb387 hg w148 hbox hb;have n0_:=Az.mk (kB_ BK385.out hb);have n1_:=Az.mk (bT_ HB.out hb);have n2_:=Az.mk (hbox);have n3_:=Az.mk ((szl_ HB.out hg));have n4_:=Az.mk ((szl_ HB.out hg));have n5_:=Az.mk ((nel_ BK385.out hg));have n6_:=Az.mk ((ner_ BK385.out hg));clear BK385;clear HB;have BK385:=n0_;have HB:=n1_;have BK387:=n2_;have GW387:=n3_;have GE387:=n4_;have NB385_387:=n5_;have NB387_385:=n6_;clear n0_ n1_ n2_ n3_ n4_ n5_ n6_;clear hb hbox hg;have hnb149:=NB387_385.out;have hnc149:=NB385_387.out;obtain⟨hcz150_0,hcz150_1,hcz150_2,hfz150_0,hfz150_1,hfz150_2⟩:=cf3_ BK387.out))
     go_ret
     exact⟨by first|rfl|(simp [errW_none,errW_some] <;> rfl)|(simp [*,errW_none,errW_some] <;> rfl),by repeat (first|(with_reducible first|exact HB.out|apply bA_|apply bN_|apply bD_|refine bS_ ?_ GE385.out|refine bS_ ?_ GE387.out)|exact HB.out)⟩
    rw [if_pos c108] at H
    have c108b0:=beq_iff_eq.mpr c108
    have c108b1:=bne_eq_false_iff_eq.mpr c108
    clear c108
    by_cases c109:((rd_T53 l1 x5_1).f1) ≥ 2
    rotate_left
    ·rw [if_neg c109] at H
     have c109b0:=decide_eq_false c109
     clear c109
     by_cases c129:((rd_T53 l1 x5_1).f2).toList=([]:List UInt8)
     ·rw [if_pos c129] at H
      have c129b0:=beq_iff_eq.mpr c129
      have c129b2:(((rd_T53 l1 x5_1).f2).toList).isEmpty=true:=(show ∀ l_:List UInt8,(l_ == [])=true→l_.isEmpty=true from fun l_ h_=>by cases l_ <;> first|rfl|cases h_) _ c129b0
      have c129b3:(!(((rd_T53 l1 x5_1).f2).toList).isEmpty)=false:=by rw [c129b2];rfl
      have c129b1:=bne_eq_false_iff_eq.mpr c129
      clear c129
      obtain rfl:=Option.some.inj H
      have p386:0≤(x5_1:Int):=of_decide_eq_true (by assumption)
      have q386:x5_1 < (l1.length:Int):=of_decide_eq_true (by assumption)
      obtain⟨ad386,e386,hx386_0,hx386_1,hx386_2⟩:=at_T53 HR1.out x5_1 p386 q386
      cases e386
      replace hx386_0:=bc_ HB.out hx386_0
      replace hx386_1:=bc_ HB.out hx386_1
      replace hx386_2:=bc_ HB.out hx386_2
      replace p386:=eq_true p386
      replace q386:=eq_true q386
      go_wp2_with (first|((with_reducible refine gate_dst (N:=6) rfl ?_);(try (refine gate_guard (by rfl) ?_;dsimp only));refine box_event ?hg (N:=6) ?hd (cs:=#[.int .i64 0,.int .i64 0,.string (⟨#[]⟩:ByteArray)]) (t:=53) ?hr ?_;(case hd=>rfl);(case hg=>rfl);(case hr=>first|(go_simp;done)|(go_simp;rfl));intro gb387 hg w130 hbox hb;have n0_:=Az.mk (kB_ BK385.out hb);have n1_:=Az.mk (bT_ HB.out hb);have n2_:=Az.mk (hbox);have n3_:=Az.mk ((szl_ HB.out hg));have n4_:=Az.mk ((szl_ HB.out hg));have n5_:=Az.mk ((nel_ BK385.out hg));have n6_:=Az.mk ((ner_ BK385.out hg));clear BK385;clear HB;have BK385:=n0_;have HB:=n1_;have BK387:=n2_;have GW387:=n3_;have GE387:=n4_;have NB385_387:=n5_;have NB387_385:=n6_;clear n0_ n1_ n2_ n3_ n4_ n5_ n6_;clear hb hbox hg;have hnb131:=NB387_385.out;have hnc131:=NB385_387.out;obtain⟨hcz132_0,hcz132_1,hcz132_2,hfz132_0,hfz132_1,hfz132_2⟩:=cf3_ BK387.out))
      go_ret
      exact⟨by first|rfl|(simp [errW_none,errW_some] <;> rfl)|(simp [*,errW_none,errW_some] <;> rfl),by repeat (first|(with_reducible first|exact HB.out|apply bA_|apply bN_|apply bD_|refine bS_ ?_ GE385.out|refine bS_ ?_ GE387.out)|exact HB.out)⟩
     rw [if_neg c129] at H
     have c129b0:=beq_eq_false_iff_ne.mpr c129
     have c129b2:(((rd_T53 l1 x5_1).f2).toList).isEmpty=false:=(show ∀ l_:List UInt8,(l_ == [])=false→l_.isEmpty=false from fun l_ h_=>by cases l_ <;> first|rfl|cases h_) _ c129b0
     have c129b3:(!(((rd_T53 l1 x5_1).f2).toList).isEmpty)=true:=by rw [c129b2];rfl
     have c129b1:=bne_iff_ne.mpr c129
     by_cases c133:(((rd_T53 l1 x5_1).f1)=(-1))
     ·rw [if_pos c133] at H
      have c133b0:=beq_iff_eq.mpr c133
      have c133b1:=bne_eq_false_iff_eq.mpr c133
      clear c133
      have H':=Az.mk H
      clear H
      have p386:0≤(x5_1:Int):=of_decide_eq_true (by assumption)
      have q386:x5_1 < (l1.length:Int):=of_decide_eq_true (by assumption)
      obtain⟨ad386,e386,hx386_0,hx386_1,hx386_2⟩:=at_T53 HR1.out x5_1 p386 q386
      cases e386
      replace hx386_0:=bc_ HB.out hx386_0
      replace hx386_1:=bc_ HB.out hx386_1
      replace hx386_2:=bc_ HB.out hx386_2
      replace p386:=eq_true p386
      replace q386:=eq_true q386
      go_wp2_with (first|((with_reducible refine gate_dst (N:=6) rfl ?_);(try (refine gate_guard (by rfl) ?_;dsimp only));refine box_event ?hg (N:=6) ?hd (cs:=#[.int .i64 0,.int .i64 0,.string (⟨#[]⟩:ByteArray)]) (t:=53) ?hr ?_;(case hd=>rfl);(case hg=>rfl);(case hr=>first|(go_simp;done)|(go_simp;rfl));intro gb387 hg w134 hbox hb;have n0_:=Az.mk (kB_ BK385.out hb);have n1_:=Az.mk (bT_ HB.out hb);have n2_:=Az.mk (hbox);have n3_:=Az.mk ((szl_ HB.out hg));have n4_:=Az.mk ((szl_ HB.out hg));have n5_:=Az.mk ((nel_ BK385.out hg));have n6_:=Az.mk ((ner_ BK385.out hg));clear BK385;clear HB;have BK385:=n0_;have HB:=n1_;have BK387:=n2_;have GW387:=n3_;have GE387:=n4_;have NB385_387:=n5_;have NB387_385:=n6_;clear n0_ n1_ n2_ n3_ n4_ n5_ n6_;clear hb hbox hg;have hnb135:=NB387_385.out;have hnc135:=NB385_387.out;obtain⟨hcz136_0,hcz136_1,hcz136_2,hfz136_0,hfz136_1,hfz136_2⟩:=cf3_ BK387.out))
      go_roundg k1
      case measure=>have:=HK1.out;omega
      case rel=>exact⟨(wrap64 (x5_1 + 1)),(by first|rfl|(simp;done)|(simp [*];done)|(refine congrArg Value.bool ?_;exact isE_ _)),H',⟨by have:=HK1.out;omega⟩,⟨by(with_reducible repeat (first|refine kN_ ?_ _|refine kD_ ?_|refine kA_ ?_ _));refine kF_ ?_ NB385_387.out _;(with_reducible repeat (first|refine kN_ ?_ _|refine kD_ ?_|refine kA_ ?_ _));refine kF_ ?_ NB385_387.out _;(with_reducible repeat (first|refine kN_ ?_ _|refine kD_ ?_|refine kA_ ?_ _));refine kF_ ?_ NB385_387.out _;(with_reducible repeat (first|refine kN_ ?_ _|refine kD_ ?_|refine kA_ ?_ _));exact BK385.out⟩,⟨by repeat (first|(with_reducible first|exact HB.out|apply bA_|apply bN_|apply bD_|refine bS_ ?_ GE385.out|refine bS_ ?_ GE387.out)|exact HB.out)⟩⟩
     rw [if_neg c133] at H
     have c133b0:=beq_eq_false_iff_ne.mpr c133
     have c133b1:=bne_iff_ne.mpr c133
     obtain rfl:=Option.some.inj H
     have p386:0≤(x5_1:Int):=of_decide_eq_true (by assumption)
     have q386:x5_1 < (l1.length:Int):=of_decide_eq_true (by assumption)
     obtain⟨ad386,e386,hx386_0,hx386_1,hx386_2⟩:=at_T53 HR1.out x5_1 p386 q386
     cases e386
     replace hx386_0:=bc_ HB.out hx386_0
     replace hx386_1:=bc_ HB.out hx386_1
     replace hx386_2:=bc_ HB.out hx386_2
     replace p386:=eq_true p386
     replace q386:=eq_true q386
     go_wp2_with (first|((with_reducible refine gate_dst (N:=6) rfl ?_);(try (refine gate_guard (by rfl) ?_;dsimp only));refine box_event ?hg (N:=6) ?hd (cs:=#[.int .i64 0,.int .i64 0,.string (⟨#[]⟩:ByteArray)]) (t:=53) ?hr ?_;(case hd=>rfl);(case hg=>rfl);(case hr=>first|(go_simp;done)|(go_simp;rfl));intro gb387 hg w137 hbox hb;have n0_:=Az.mk (kB_ BK385.out hb);have n1_:=Az.mk (bT_ HB.out hb);have n2_:=Az.mk (hbox);have n3_:=Az.mk ((szl_ HB.out hg));have n4_:=Az.mk ((szl_ HB.out hg));have n5_:=Az.mk ((nel_ BK385.out hg));have n6_:=Az.mk ((ner_ BK385.out hg));clear BK385;clear HB;have BK385:=n0_;have HB:=n1_;have BK387:=n2_;have GW387:=n3_;have GE387:=n4_;have NB385_387:=n5_;have NB387_385:=n6_;clear n0_ n1_ n2_ n3_ n4_ n5_ n6_;clear hb hbox hg;have hnb138:=NB387_385.out;have hnc138:=NB385_387.out;obtain⟨hcz139_0,hcz139_1,hcz139_2,hfz139_0,hfz139_1,hfz139_2⟩:=cf3_ BK387.out))
     go_ret
     exact⟨by first|rfl|(simp [errW_none,errW_some] <;> rfl)|(simp [*,errW_none,errW_some] <;> rfl),by repeat (first|(with_reducible first|exact HB.out|apply bA_|apply bN_|apply bD_|refine bS_ ?_ GE385.out|refine bS_ ?_ GE387.out)|exact HB.out)⟩
    rw [if_pos c109] at H
    have c109b0:=decide_eq_true c109
    clear c109
    by_cases c110:((rd_T53 l1 x5_1).f2).toList=([]:List UInt8)
    ·rw [if_pos c110] at H
     have c110b0:=beq_iff_eq.mpr c110
     have c110b2:(((rd_T53 l1 x5_1).f2).toList).isEmpty=true:=(show ∀ l_:List UInt8,(l_ == [])=true→l_.isEmpty=true from fun l_ h_=>by cases l_ <;> first|rfl|cases h_) _ c110b0
     have c110b3:(!(((rd_T53 l1 x5_1).f2).toList).isEmpty)=false:=by rw [c110b2];rfl
     have c110b1:=bne_eq_false_iff_eq.mpr c110
     clear c110
     obtain rfl:=Option.some.inj H
     have p386:0≤(x5_1:Int):=of_decide_eq_true (by assumption)
     have q386:x5_1 < (l1.length:Int):=of_decide_eq_true (by assumption)
     obtain⟨ad386,e386,hx386_0,hx386_1,hx386_2⟩:=at_T53 HR1.out x5_1 p386 q386
     cases e386
     replace hx386_0:=bc_ HB.out hx386_0
     replace hx386_1:=bc_ HB.out hx386_1
     replace hx386_2:=bc_ HB.out hx386_2
     replace p386:=eq_true p386
     replace q386:=eq_true q386
     go_wp2_with (first|((with_reducible refine gate_dst (N:=6) rfl ?_);(try (refine gate_guard (by rfl) ?_;dsimp only));refine box_event ?hg (N:=6) ?hd (cs:=#[.int .i64 0,.int .i64 0,.string (⟨#[]⟩:ByteArray)]) (t:=53) ?hr ?_;(case hd=>rfl);(case hg=>rfl);(case hr=>first|(go_simp;done)|(go_simp;rfl));intro gb387 hg w111 hbox hb;have n0_:=Az.mk (kB_ BK385.out hb);have n1_:=Az.mk (bT_ HB.out hb);have n2_:=Az.mk (hbox);have n3_:=Az.mk ((szl_ HB.out hg));have n4_:=Az.mk ((szl_ HB.out hg));have n5_:=Az.mk ((nel_ BK385.out hg));have n6_:=Az.mk ((ner_ BK385.out hg));clear BK385;clear HB;have BK385:=n0_;have HB:=n1_;have BK387:=n2_;have GW387:=n3_;have GE387:=n4_;have NB385_387:=n5_;have NB387_385:=n6_;clear n0_ n1_ n2_ n3_ n4_ n5_ n6_;clear hb hbox hg;have hnb112:=NB387_385.out;have hnc112:=NB385_387.out;obtain⟨hcz113_0,hcz113_1,hcz113_2,hfz113_0,hfz113_1,hfz113_2⟩:=cf3_ BK387.out;obtain⟨hcz114_0,hcz114_1,hcz114_2,hcz114_3,hcz114_4,hfz114_0,hfz114_1,hfz114_2,hfz114_3,hfz114_4⟩:=cf5_ BK385.out))
     go_ret
     exact⟨by first|rfl|(simp [errW_none,errW_some] <;> rfl)|(simp [*,errW_none,errW_some] <;> rfl),by repeat (first|(with_reducible first|exact HB.out|apply bA_|apply bN_|apply bD_|refine bS_ ?_ GE385.out|refine bS_ ?_ GE387.out)|exact HB.out)⟩
    rw [if_neg c110] at H
    have c110b0:=beq_eq_false_iff_ne.mpr c110
    have c110b2:(((rd_T53 l1 x5_1).f2).toList).isEmpty=false:=(show ∀ l_:List UInt8,(l_ == [])=false→l_.isEmpty=false from fun l_ h_=>by cases l_ <;> first|rfl|cases h_) _ c110b0
    have c110b3:(!(((rd_T53 l1 x5_1).f2).toList).isEmpty)=true:=by rw [c110b2];rfl
    have c110b1:=bne_iff_ne.mpr c110
    by_cases c115:(((rd_T53 l1 x5_1).f1)=(-1))
    ·rw [if_pos c115] at H
     have c115b0:=beq_iff_eq.mpr c115
     have c115b1:=bne_eq_false_iff_eq.mpr c115
     clear c115
     have H':=Az.mk H
     clear H
     have p386:0≤(x5_1:Int):=of_decide_eq_true (by assumption)
     have q386:x5_1 < (l1.length:Int):=of_decide_eq_true (by assumption)
     obtain⟨ad386,e386,hx386_0,hx386_1,hx386_2⟩:=at_T53 HR1.out x5_1 p386 q386
     cases e386
     replace hx386_0:=bc_ HB.out hx386_0
     replace hx386_1:=bc_ HB.out hx386_1
     replace hx386_2:=bc_ HB.out hx386_2
     replace p386:=eq_true p386
     replace q386:=eq_true q386
     go_wp2_with (first|((with_reducible refine gate_dst (N:=6) rfl ?_);(try (refine gate_guard (by rfl) ?_;dsimp only));refine box_event ?hg (N:=6) ?hd (cs:=#[.int .i64 0,.int .i64 0,.string (⟨#[]⟩:ByteArray)]) (t:=53) ?hr ?_;(case hd=>rfl);(case hg=>rfl);(case hr=>first|(go_simp;done)|(go_simp;rfl));intro gb387 hg w116 hbox hb;have n0_:=Az.mk (kB_ BK385.out hb);have n1_:=Az.mk (bT_ HB.out hb);have n2_:=Az.mk (hbox);have n3_:=Az.mk ((szl_ HB.out hg));have n4_:=Az.mk ((szl_ HB.out hg));have n5_:=Az.mk ((nel_ BK385.out hg));have n6_:=Az.mk ((ner_ BK385.out hg));clear BK385;clear HB;have BK385:=n0_;have HB:=n1_;have BK387:=n2_;have GW387:=n3_;have GE387:=n4_;have NB385_387:=n5_;have NB387_385:=n6_;clear n0_ n1_ n2_ n3_ n4_ n5_ n6_;clear hb hbox hg;have hnb117:=NB387_385.out;have hnc117:=NB385_387.out;obtain⟨hcz118_0,hcz118_1,hcz118_2,hfz118_0,hfz118_1,hfz118_2⟩:=cf3_ BK387.out;obtain⟨hcz119_0,hcz119_1,hcz119_2,hcz119_3,hcz119_4,hfz119_0,hfz119_1,hfz119_2,hfz119_3,hfz119_4⟩:=cf5_ BK385.out))
     go_roundg k1
     case measure=>have:=HK1.out;omega
     case rel=>exact⟨(wrap64 (x5_1 + 1)),(by first|rfl|(simp;done)|(simp [*];done)|(refine congrArg Value.bool ?_;exact isE_ _)),H',⟨by have:=HK1.out;omega⟩,⟨by(with_reducible repeat (first|refine kN_ ?_ _|refine kD_ ?_|refine kA_ ?_ _));refine kF_ ?_ NB385_387.out _;(with_reducible repeat (first|refine kN_ ?_ _|refine kD_ ?_|refine kA_ ?_ _));refine kF_ ?_ NB385_387.out _;(with_reducible repeat (first|refine kN_ ?_ _|refine kD_ ?_|refine kA_ ?_ _));refine kF_ ?_ NB385_387.out _;(with_reducible repeat (first|refine kN_ ?_ _|refine kD_ ?_|refine kA_ ?_ _));exact BK385.out⟩,⟨by repeat (first|(with_reducible first|exact HB.out|apply bA_|apply bN_|apply bD_|refine bS_ ?_ GE385.out|refine bS_ ?_ GE387.out)|exact HB.out)⟩⟩
    rw [if_neg c115] at H
    have c115b0:=beq_eq_false_iff_ne.mpr c115
    have c115b1:=bne_iff_ne.mpr c115
    by_cases c120:(((rd_T53 l1 x5_1).f1) < (l0_0.length:Int))
    ·rw [if_pos c120] at H
     have c120b0:=decide_eq_true c120
     clear c120
     have H':=Az.mk H
     clear H
     have p386:0≤(x5_1:Int):=of_decide_eq_true (by assumption)
     have q386:x5_1 < (l1.length:Int):=of_decide_eq_true (by assumption)
     obtain⟨ad386,e386,hx386_0,hx386_1,hx386_2⟩:=at_T53 HR1.out x5_1 p386 q386
     cases e386
     replace hx386_0:=bc_ HB.out hx386_0
     replace hx386_1:=bc_ HB.out hx386_1
     replace hx386_2:=bc_ HB.out hx386_2
     replace p386:=eq_true p386
     replace q386:=eq_true q386
     go_wp2_with (first|((with_reducible refine gate_dst (N:=6) rfl ?_);(try (refine gate_guard (by rfl) ?_;dsimp only));refine box_event ?hg (N:=6) ?hd (cs:=#[.int .i64 0,.int .i64 0,.string (⟨#[]⟩:ByteArray)]) (t:=53) ?hr ?_;(case hd=>rfl);(case hg=>rfl);(case hr=>first|(go_simp;done)|(go_simp;rfl));intro gb387 hg w121 hbox hb;have n0_:=Az.mk (kB_ BK385.out hb);have n1_:=Az.mk (bT_ HB.out hb);have n2_:=Az.mk (hbox);have n3_:=Az.mk ((szl_ HB.out hg));have n4_:=Az.mk ((szl_ HB.out hg));have n5_:=Az.mk ((nel_ BK385.out hg));have n6_:=Az.mk ((ner_ BK385.out hg));clear BK385;clear HB;have BK385:=n0_;have HB:=n1_;have BK387:=n2_;have GW387:=n3_;have GE387:=n4_;have NB385_387:=n5_;have NB387_385:=n6_;clear n0_ n1_ n2_ n3_ n4_ n5_ n6_;clear hb hbox hg;have hnb122:=NB387_385.out;have hnc122:=NB385_387.out;obtain⟨hcz123_0,hcz123_1,hcz123_2,hfz123_0,hfz123_1,hfz123_2⟩:=cf3_ BK387.out;obtain⟨hcz124_0,hcz124_1,hcz124_2,hcz124_3,hcz124_4,hfz124_0,hfz124_1,hfz124_2,hfz124_3,hfz124_4⟩:=cf5_ BK385.out))
     go_roundg k1
     case measure=>have:=HK1.out;omega
     case rel=>exact⟨(wrap64 (x5_1 + 1)),(by first|rfl|(simp;done)|(simp [*];done)|(refine congrArg Value.bool ?_;exact isE_ _)),H',⟨by have:=HK1.out;omega⟩,⟨by(with_reducible repeat (first|refine kN_ ?_ _|refine kD_ ?_|refine kA_ ?_ _));refine kF_ ?_ NB385_387.out _;(with_reducible repeat (first|refine kN_ ?_ _|refine kD_ ?_|refine kA_ ?_ _));refine kF_ ?_ NB385_387.out _;(with_reducible repeat (first|refine kN_ ?_ _|refine kD_ ?_|refine kA_ ?_ _));refine kF_ ?_ NB385_387.out _;(with_reducible repeat (first|refine kN_ ?_ _|refine kD_ ?_|refine kA_ ?_ _));exact BK385.out⟩,⟨by repeat (first|(with_reducible first|exact HB.out|apply bA_|apply bN_|apply bD_|refine bS_ ?_ GE385.out|refine bS_ ?_ GE387.out)|exact HB.out)⟩⟩
    rw [if_neg c120] at H
    have c120b0:=decide_eq_false c120
    clear c120
    obtain rfl:=Option.some.inj H
    have p386:0≤(x5_1:Int):=of_decide_eq_true (by assumption)
    have q386:x5_1 < (l1.length:Int):=of_decide_eq_true (by assumption)
    obtain⟨ad386,e386,hx386_0,hx386_1,hx386_2⟩:=at_T53 HR1.out x5_1 p386 q386
    cases e386
    replace hx386_0:=bc_ HB.out hx386_0
    replace hx386_1:=bc_ HB.out hx386_1
    replace hx386_2:=bc_ HB.out hx386_2
    replace p386:=eq_true p386
    replace q386:=eq_true q386
    go_wp2_with (first|((with_reducible refine gate_dst (N:=6) rfl ?_);(try (refine gate_guard (by rfl) ?_;dsimp only));refine box_event ?hg (N:=6) ?hd (cs:=#[.int .i64 0,.int .i64 0,.string (⟨#[]⟩:ByteArray)]) (t:=53) ?hr ?_;(case hd=>rfl);(case hg=>rfl);(case hr=>first|(go_simp;done)|(go_simp;rfl));intro gb387 hg w125 hbox hb;have n0_:=Az.mk (kB_ BK385.out hb);have n1_:=Az.mk (bT_ HB.out hb);have n2_:=Az.mk (hbox);have n3_:=Az.mk ((szl_ HB.out hg));have n4_:=Az.mk ((szl_ HB.out hg));have n5_:=Az.mk ((nel_ BK385.out hg));have n6_:=Az.mk ((ner_ BK385.out hg));clear BK385;clear HB;have BK385:=n0_;have HB:=n1_;have BK387:=n2_;have GW387:=n3_;have GE387:=n4_;have NB385_387:=n5_;have NB387_385:=n6_;clear n0_ n1_ n2_ n3_ n4_ n5_ n6_;clear hb hbox hg;have hnb126:=NB387_385.out;have hnc126:=NB385_387.out;obtain⟨hcz127_0,hcz127_1,hcz127_2,hfz127_0,hfz127_1,hfz127_2⟩:=cf3_ BK387.out;obtain⟨hcz128_0,hcz128_1,hcz128_2,hcz128_3,hcz128_4,hfz128_0,hfz128_1,hfz128_2,hfz128_3,hfz128_4⟩:=cf5_ BK385.out))
    go_ret
    exact⟨by first|rfl|(simp [errW_none,errW_some] <;> rfl)|(simp [*,errW_none,errW_some] <;> rfl),by repeat (first|(with_reducible first|exact HB.out|apply bA_|apply bN_|apply bD_|refine bS_ ?_ GE385.out|refine bS_ ?_ GE387.out)|exact HB.out)⟩
   rw [if_pos c6] at H
   have c6b0:=beq_iff_eq.mpr c6
   have c6b1:=bne_eq_false_iff_eq.mpr c6
   clear c6
   by_cases c7:((rd_T53 l1 x5_1).f0)=2
   rotate_left
   ·rw [if_neg c7] at H
    have c7b0:=beq_eq_false_iff_ne.mpr c7
    have c7b1:=bne_iff_ne.mpr c7
    by_cases c64:((rd_T53 l1 x5_1).f0)=3
    rotate_left
    ·rw [if_neg c64] at H
     have c64b0:=beq_eq_false_iff_ne.mpr c64
     have c64b1:=bne_iff_ne.mpr c64
     by_cases c96:((rd_T53 l1 x5_1).f2).toList=([]:List UInt8)
     ·rw [if_pos c96] at H
      have c96b0:=beq_iff_eq.mpr c96
      have c96b2:(((rd_T53 l1 x5_1).f2).toList).isEmpty=true:=(show ∀ l_:List UInt8,(l_ == [])=true→l_.isEmpty=true from fun l_ h_=>by cases l_ <;> first|rfl|cases h_) _ c96b0
      have c96b3:(!(((rd_T53 l1 x5_1).f2).toList).isEmpty)=false:=by rw [c96b2];rfl
      have c96b1:=bne_eq_false_iff_eq.mpr c96
      clear c96
      obtain rfl:=Option.some.inj H
      have p386:0≤(x5_1:Int):=of_decide_eq_true (by assumption)
      have q386:x5_1 < (l1.length:Int):=of_decide_eq_true (by assumption)
      obtain⟨ad386,e386,hx386_0,hx386_1,hx386_2⟩:=at_T53 HR1.out x5_1 p386 q386
      cases e386
      replace hx386_0:=bc_ HB.out hx386_0
      replace hx386_1:=bc_ HB.out hx386_1
      replace hx386_2:=bc_ HB.out hx386_2
      replace p386:=eq_true p386
      replace q386:=eq_true q386
      go_wp2_with (first|((with_reducible refine gate_dst (N:=6) rfl ?_);(try (refine gate_guard (by rfl) ?_;dsimp only));refine box_event ?hg (N:=6) ?hd (cs:=#[.int .i64 0,.int .i64 0,.string (⟨#[]⟩:ByteArray)]) (t:=53) ?hr ?_;(case hd=>rfl);(case hg=>rfl);(case hr=>first|(go_simp;done)|(go_simp;rfl));intro gb387 hg w97 hbox hb;have n0_:=Az.mk (kB_ BK385.out hb);have n1_:=Az.mk (bT_ HB.out hb);have n2_:=Az.mk (hbox);have n3_:=Az.mk ((szl_ HB.out hg));have n4_:=Az.mk ((szl_ HB.out hg));have n5_:=Az.mk ((nel_ BK385.out hg));have n6_:=Az.mk ((ner_ BK385.out hg));clear BK385;clear HB;have BK385:=n0_;have HB:=n1_;have BK387:=n2_;have GW387:=n3_;have GE387:=n4_;have NB385_387:=n5_;have NB387_385:=n6_;clear n0_ n1_ n2_ n3_ n4_ n5_ n6_;clear hb hbox hg;have hnb98:=NB387_385.out;have hnc98:=NB385_387.out;obtain⟨hcz99_0,hcz99_1,hcz99_2,hfz99_0,hfz99_1,hfz99_2⟩:=cf3_ BK387.out))
      go_ret
      exact⟨by first|rfl|(simp [errW_none,errW_some] <;> rfl)|(simp [*,errW_none,errW_some] <;> rfl),by repeat (first|(with_reducible first|exact HB.out|apply bA_|apply bN_|apply bD_|refine bS_ ?_ GE385.out|refine bS_ ?_ GE387.out)|exact HB.out)⟩
     rw [if_neg c96] at H
     have c96b0:=beq_eq_false_iff_ne.mpr c96
     have c96b2:(((rd_T53 l1 x5_1).f2).toList).isEmpty=false:=(show ∀ l_:List UInt8,(l_ == [])=false→l_.isEmpty=false from fun l_ h_=>by cases l_ <;> first|rfl|cases h_) _ c96b0
     have c96b3:(!(((rd_T53 l1 x5_1).f2).toList).isEmpty)=true:=by rw [c96b2];rfl
     have c96b1:=bne_iff_ne.mpr c96
     by_cases c100:(((rd_T53 l1 x5_1).f1) ≥ 0)
     ·rw [if_pos c100] at H
      have c100b0:=decide_eq_true c100
      clear c100
      have H':=Az.mk H
      clear H
      have p386:0≤(x5_1:Int):=of_decide_eq_true (by assumption)
      have q386:x5_1 < (l1.length:Int):=of_decide_eq_true (by assumption)
      obtain⟨ad386,e386,hx386_0,hx386_1,hx386_2⟩:=at_T53 HR1.out x5_1 p386 q386
      cases e386
      replace hx386_0:=bc_ HB.out hx386_0
      replace hx386_1:=bc_ HB.out hx386_1
      replace hx386_2:=bc_ HB.out hx386_2
      replace p386:=eq_true p386
      replace q386:=eq_true q386
      go_wp2_with (first|((with_reducible refine gate_dst (N:=6) rfl ?_);(try (refine gate_guard (by rfl) ?_;dsimp only));refine box_event ?hg (N:=6) ?hd (cs:=#[.int .i64 0,.int .i64 0,.string (⟨#[]⟩:ByteArray)]) (t:=53) ?hr ?_;(case hd=>rfl);(case hg=>rfl);(case hr=>first|(go_simp;done)|(go_simp;rfl));intro gb387 hg w101 hbox hb;have n0_:=Az.mk (kB_ BK385.out hb);have n1_:=Az.mk (bT_ HB.out hb);have n2_:=Az.mk (hbox);have n3_:=Az.mk ((szl_ HB.out hg));have n4_:=Az.mk ((szl_ HB.out hg));have n5_:=Az.mk ((nel_ BK385.out hg));have n6_:=Az.mk ((ner_ BK385.out hg));clear BK385;clear HB;have BK385:=n0_;have HB:=n1_;have BK387:=n2_;have GW387:=n3_;have GE387:=n4_;have NB385_387:=n5_;have NB387_385:=n6_;clear n0_ n1_ n2_ n3_ n4_ n5_ n6_;clear hb hbox hg;have hnb102:=NB387_385.out;have hnc102:=NB385_387.out;obtain⟨hcz103_0,hcz103_1,hcz103_2,hfz103_0,hfz103_1,hfz103_2⟩:=cf3_ BK387.out))
      go_roundg k1
      case measure=>have:=HK1.out;omega
      case rel=>exact⟨(wrap64 (x5_1 + 1)),(by first|rfl|(simp;done)|(simp [*];done)|(refine congrArg Value.bool ?_;exact isE_ _)),H',⟨by have:=HK1.out;omega⟩,⟨by(with_reducible repeat (first|refine kN_ ?_ _|refine kD_ ?_|refine kA_ ?_ _));refine kF_ ?_ NB385_387.out _;(with_reducible repeat (first|refine kN_ ?_ _|refine kD_ ?_|refine kA_ ?_ _));refine kF_ ?_ NB385_387.out _;(with_reducible repeat (first|refine kN_ ?_ _|refine kD_ ?_|refine kA_ ?_ _));refine kF_ ?_ NB385_387.out _;(with_reducible repeat (first|refine kN_ ?_ _|refine kD_ ?_|refine kA_ ?_ _));exact BK385.out⟩,⟨by repeat (first|(with_reducible first|exact HB.out|apply bA_|apply bN_|apply bD_|refine bS_ ?_ GE385.out|refine bS_ ?_ GE387.out)|exact HB.out)⟩⟩
     rw [if_neg c100] at H
     have c100b0:=decide_eq_false c100
     clear c100
     obtain rfl:=Option.some.inj H
     have p386:0≤(x5_1:Int):=of_decide_eq_true (by assumption)
     have q386:x5_1 < (l1.length:Int):=of_decide_eq_true (by assumption)
     obtain⟨ad386,e386,hx386_0,hx386_1,hx386_2⟩:=at_T53 HR1.out x5_1 p386 q386
     cases e386
     replace hx386_0:=bc_ HB.out hx386_0
     replace hx386_1:=bc_ HB.out hx386_1
     replace hx386_2:=bc_ HB.out hx386_2
     replace p386:=eq_true p386
     replace q386:=eq_true q386
     go_wp2_with (first|((with_reducible refine gate_dst (N:=6) rfl ?_);(try (refine gate_guard (by rfl) ?_;dsimp only));refine box_event ?hg (N:=6) ?hd (cs:=#[.int .i64 0,.int .i64 0,.string (⟨#[]⟩:ByteArray)]) (t:=53) ?hr ?_;(case hd=>rfl);(case hg=>rfl);(case hr=>first|(go_simp;done)|(go_simp;rfl));intro gb387 hg w104 hbox hb;have n0_:=Az.mk (kB_ BK385.out hb);have n1_:=Az.mk (bT_ HB.out hb);have n2_:=Az.mk (hbox);have n3_:=Az.mk ((szl_ HB.out hg));have n4_:=Az.mk ((szl_ HB.out hg));have n5_:=Az.mk ((nel_ BK385.out hg));have n6_:=Az.mk ((ner_ BK385.out hg));clear BK385;clear HB;have BK385:=n0_;have HB:=n1_;have BK387:=n2_;have GW387:=n3_;have GE387:=n4_;have NB385_387:=n5_;have NB387_385:=n6_;clear n0_ n1_ n2_ n3_ n4_ n5_ n6_;clear hb hbox hg;have hnb105:=NB387_385.out;have hnc105:=NB385_387.out;obtain⟨hcz106_0,hcz106_1,hcz106_2,hfz106_0,hfz106_1,hfz106_2⟩:=cf3_ BK387.out))
     go_ret
     exact⟨by first|rfl|(simp [errW_none,errW_some] <;> rfl)|(simp [*,errW_none,errW_some] <;> rfl),by repeat (first|(with_reducible first|exact HB.out|apply bA_|apply bN_|apply bD_|refine bS_ ?_ GE385.out|refine bS_ ?_ GE387.out)|exact HB.out)⟩
    rw [if_pos c64] at H
    have c64b0:=beq_iff_eq.mpr c64
    have c64b1:=bne_eq_false_iff_eq.mpr c64
    clear c64
    by_cases c65:((rd_T53 l1 x5_1).f1) ≥ 2
    rotate_left
    ·rw [if_neg c65] at H
     have c65b0:=decide_eq_false c65
     clear c65
     by_cases c85:((rd_T53 l1 x5_1).f2).toList=([]:List UInt8)
     ·rw [if_pos c85] at H
      have c85b0:=beq_iff_eq.mpr c85
      have c85b2:(((rd_T53 l1 x5_1).f2).toList).isEmpty=true:=(show ∀ l_:List UInt8,(l_ == [])=true→l_.isEmpty=true from fun l_ h_=>by cases l_ <;> first|rfl|cases h_) _ c85b0
      have c85b3:(!(((rd_T53 l1 x5_1).f2).toList).isEmpty)=false:=by rw [c85b2];rfl
      have c85b1:=bne_eq_false_iff_eq.mpr c85
      clear c85
      obtain rfl:=Option.some.inj H
      have p386:0≤(x5_1:Int):=of_decide_eq_true (by assumption)
      have q386:x5_1 < (l1.length:Int):=of_decide_eq_true (by assumption)
      obtain⟨ad386,e386,hx386_0,hx386_1,hx386_2⟩:=at_T53 HR1.out x5_1 p386 q386
      cases e386
      replace hx386_0:=bc_ HB.out hx386_0
      replace hx386_1:=bc_ HB.out hx386_1
      replace hx386_2:=bc_ HB.out hx386_2
      replace p386:=eq_true p386
      replace q386:=eq_true q386
      go_wp2_with (first|((with_reducible refine gate_dst (N:=6) rfl ?_);(try (refine gate_guard (by rfl) ?_;dsimp only));refine box_event ?hg (N:=6) ?hd (cs:=#[.int .i64 0,.int .i64 0,.string (⟨#[]⟩:ByteArray)]) (t:=53) ?hr ?_;(case hd=>rfl);(case hg=>rfl);(case hr=>first|(go_simp;done)|(go_simp;rfl));intro gb387 hg w86 hbox hb;have n0_:=Az.mk (kB_ BK385.out hb);have n1_:=Az.mk (bT_ HB.out hb);have n2_:=Az.mk (hbox);have n3_:=Az.mk ((szl_ HB.out hg));have n4_:=Az.mk ((szl_ HB.out hg));have n5_:=Az.mk ((nel_ BK385.out hg));have n6_:=Az.mk ((ner_ BK385.out hg));clear BK385;clear HB;have BK385:=n0_;have HB:=n1_;have BK387:=n2_;have GW387:=n3_;have GE387:=n4_;have NB385_387:=n5_;have NB387_385:=n6_;clear n0_ n1_ n2_ n3_ n4_ n5_ n6_;clear hb hbox hg;have hnb87:=NB387_385.out;have hnc87:=NB385_387.out;obtain⟨hcz88_0,hcz88_1,hcz88_2,hfz88_0,hfz88_1,hfz88_2⟩:=cf3_ BK387.out))
      go_ret
      exact⟨by first|rfl|(simp [errW_none,errW_some] <;> rfl)|(simp [*,errW_none,errW_some] <;> rfl),by repeat (first|(with_reducible first|exact HB.out|apply bA_|apply bN_|apply bD_|refine bS_ ?_ GE385.out|refine bS_ ?_ GE387.out)|exact HB.out)⟩
     rw [if_neg c85] at H
     have c85b0:=beq_eq_false_iff_ne.mpr c85
     have c85b2:(((rd_T53 l1 x5_1).f2).toList).isEmpty=false:=(show ∀ l_:List UInt8,(l_ == [])=false→l_.isEmpty=false from fun l_ h_=>by cases l_ <;> first|rfl|cases h_) _ c85b0
     have c85b3:(!(((rd_T53 l1 x5_1).f2).toList).isEmpty)=true:=by rw [c85b2];rfl
     have c85b1:=bne_iff_ne.mpr c85
     by_cases c89:(((rd_T53 l1 x5_1).f1) ≥ 0)
     ·rw [if_pos c89] at H
      have c89b0:=decide_eq_true c89
      clear c89
      have H':=Az.mk H
      clear H
      have p386:0≤(x5_1:Int):=of_decide_eq_true (by assumption)
      have q386:x5_1 < (l1.length:Int):=of_decide_eq_true (by assumption)
      obtain⟨ad386,e386,hx386_0,hx386_1,hx386_2⟩:=at_T53 HR1.out x5_1 p386 q386
      cases e386
      replace hx386_0:=bc_ HB.out hx386_0
      replace hx386_1:=bc_ HB.out hx386_1
      replace hx386_2:=bc_ HB.out hx386_2
      replace p386:=eq_true p386
      replace q386:=eq_true q386
      go_wp2_with (first|((with_reducible refine gate_dst (N:=6) rfl ?_);(try (refine gate_guard (by rfl) ?_;dsimp only));refine box_event ?hg (N:=6) ?hd (cs:=#[.int .i64 0,.int .i64 0,.string (⟨#[]⟩:ByteArray)]) (t:=53) ?hr ?_;(case hd=>rfl);(case hg=>rfl);(case hr=>first|(go_simp;done)|(go_simp;rfl));intro gb387 hg w90 hbox hb;have n0_:=Az.mk (kB_ BK385.out hb);have n1_:=Az.mk (bT_ HB.out hb);have n2_:=Az.mk (hbox);have n3_:=Az.mk ((szl_ HB.out hg));have n4_:=Az.mk ((szl_ HB.out hg));have n5_:=Az.mk ((nel_ BK385.out hg));have n6_:=Az.mk ((ner_ BK385.out hg));clear BK385;clear HB;have BK385:=n0_;have HB:=n1_;have BK387:=n2_;have GW387:=n3_;have GE387:=n4_;have NB385_387:=n5_;have NB387_385:=n6_;clear n0_ n1_ n2_ n3_ n4_ n5_ n6_;clear hb hbox hg;have hnb91:=NB387_385.out;have hnc91:=NB385_387.out;obtain⟨hcz92_0,hcz92_1,hcz92_2,hfz92_0,hfz92_1,hfz92_2⟩:=cf3_ BK387.out))
      go_roundg k1
      case measure=>have:=HK1.out;omega
      case rel=>exact⟨(wrap64 (x5_1 + 1)),(by first|rfl|(simp;done)|(simp [*];done)|(refine congrArg Value.bool ?_;exact isE_ _)),H',⟨by have:=HK1.out;omega⟩,⟨by(with_reducible repeat (first|refine kN_ ?_ _|refine kD_ ?_|refine kA_ ?_ _));refine kF_ ?_ NB385_387.out _;(with_reducible repeat (first|refine kN_ ?_ _|refine kD_ ?_|refine kA_ ?_ _));refine kF_ ?_ NB385_387.out _;(with_reducible repeat (first|refine kN_ ?_ _|refine kD_ ?_|refine kA_ ?_ _));refine kF_ ?_ NB385_387.out _;(with_reducible repeat (first|refine kN_ ?_ _|refine kD_ ?_|refine kA_ ?_ _));exact BK385.out⟩,⟨by repeat (first|(with_reducible first|exact HB.out|apply bA_|apply bN_|apply bD_|refine bS_ ?_ GE385.out|refine bS_ ?_ GE387.out)|exact HB.out)⟩⟩
     rw [if_neg c89] at H
     have c89b0:=decide_eq_false c89
     clear c89
     obtain rfl:=Option.some.inj H
     have p386:0≤(x5_1:Int):=of_decide_eq_true (by assumption)
     have q386:x5_1 < (l1.length:Int):=of_decide_eq_true (by assumption)
     obtain⟨ad386,e386,hx386_0,hx386_1,hx386_2⟩:=at_T53 HR1.out x5_1 p386 q386
     cases e386
     replace hx386_0:=bc_ HB.out hx386_0
     replace hx386_1:=bc_ HB.out hx386_1
     replace hx386_2:=bc_ HB.out hx386_2
     replace p386:=eq_true p386
     replace q386:=eq_true q386
     go_wp2_with (first|((with_reducible refine gate_dst (N:=6) rfl ?_);(try (refine gate_guard (by rfl) ?_;dsimp only));refine box_event ?hg (N:=6) ?hd (cs:=#[.int .i64 0,.int .i64 0,.string (⟨#[]⟩:ByteArray)]) (t:=53) ?hr ?_;(case hd=>rfl);(case hg=>rfl);(case hr=>first|(go_simp;done)|(go_simp;rfl));intro gb387 hg w93 hbox hb;have n0_:=Az.mk (kB_ BK385.out hb);have n1_:=Az.mk (bT_ HB.out hb);have n2_:=Az.mk (hbox);have n3_:=Az.mk ((szl_ HB.out hg));have n4_:=Az.mk ((szl_ HB.out hg));have n5_:=Az.mk ((nel_ BK385.out hg));have n6_:=Az.mk ((ner_ BK385.out hg));clear BK385;clear HB;have BK385:=n0_;have HB:=n1_;have BK387:=n2_;have GW387:=n3_;have GE387:=n4_;have NB385_387:=n5_;have NB387_385:=n6_;clear n0_ n1_ n2_ n3_ n4_ n5_ n6_;clear hb hbox hg;have hnb94:=NB387_385.out;have hnc94:=NB385_387.out;obtain⟨hcz95_0,hcz95_1,hcz95_2,hfz95_0,hfz95_1,hfz95_2⟩:=cf3_ BK387.out))
     go_ret
     exact⟨by first|rfl|(simp [errW_none,errW_some] <;> rfl)|(simp [*,errW_none,errW_some] <;> rfl),by repeat (first|(with_reducible first|exact HB.out|apply bA_|apply bN_|apply bD_|refine bS_ ?_ GE385.out|refine bS_ ?_ GE387.out)|exact HB.out)⟩
    rw [if_pos c65] at H
    have c65b0:=decide_eq_true c65
    clear c65
    by_cases c66:((rd_T53 l1 x5_1).f2).toList=([]:List UInt8)
    ·rw [if_pos c66] at H
     have c66b0:=beq_iff_eq.mpr c66
     have c66b2:(((rd_T53 l1 x5_1).f2).toList).isEmpty=true:=(show ∀ l_:List UInt8,(l_ == [])=true→l_.isEmpty=true from fun l_ h_=>by cases l_ <;> first|rfl|cases h_) _ c66b0
     have c66b3:(!(((rd_T53 l1 x5_1).f2).toList).isEmpty)=false:=by rw [c66b2];rfl
     have c66b1:=bne_eq_false_iff_eq.mpr c66
     clear c66
     obtain rfl:=Option.some.inj H
     have p386:0≤(x5_1:Int):=of_decide_eq_true (by assumption)
     have q386:x5_1 < (l1.length:Int):=of_decide_eq_true (by assumption)
     obtain⟨ad386,e386,hx386_0,hx386_1,hx386_2⟩:=at_T53 HR1.out x5_1 p386 q386
     cases e386
     replace hx386_0:=bc_ HB.out hx386_0
     replace hx386_1:=bc_ HB.out hx386_1
     replace hx386_2:=bc_ HB.out hx386_2
     replace p386:=eq_true p386
     replace q386:=eq_true q386
     go_wp2_with (first|((with_reducible refine gate_dst (N:=6) rfl ?_);(try (refine gate_guard (by rfl) ?_;dsimp only));refine box_event ?hg (N:=6) ?hd (cs:=#[.int .i64 0,.int .i64 0,.string (⟨#[]⟩:ByteArray)]) (t:=53) ?hr ?_;(case hd=>rfl);(case hg=>rfl);(case hr=>first|(go_simp;done)|(go_simp;rfl));intro gb387 hg w67 hbox hb;have n0_:=Az.mk (kB_ BK385.out hb);have n1_:=Az.mk (bT_ HB.out hb);have n2_:=Az.mk (hbox);have n3_:=Az.mk ((szl_ HB.out hg));have n4_:=Az.mk ((szl_ HB.out hg));have n5_:=Az.mk ((nel_ BK385.out hg));have n6_:=Az.mk ((ner_ BK385.out hg));clear BK385;clear HB;have BK385:=n0_;have HB:=n1_;have BK387:=n2_;have GW387:=n3_;have GE387:=n4_;have NB385_387:=n5_;have NB387_385:=n6_;clear n0_ n1_ n2_ n3_ n4_ n5_ n6_;clear hb hbox hg;have hnb68:=NB387_385.out;have hnc68:=NB385_387.out;obtain⟨hcz69_0,hcz69_1,hcz69_2,hfz69_0,hfz69_1,hfz69_2⟩:=cf3_ BK387.out;obtain⟨hcz70_0,hcz70_1,hcz70_2,hcz70_3,hcz70_4,hfz70_0,hfz70_1,hfz70_2,hfz70_3,hfz70_4⟩:=cf5_ BK385.out))
     go_ret
     exact⟨by first|rfl|(simp [errW_none,errW_some] <;> rfl)|(simp [*,errW_none,errW_some] <;> rfl),by repeat (first|(with_reducible first|exact HB.out|apply bA_|apply bN_|apply bD_|refine bS_ ?_ GE385.out|refine bS_ ?_ GE387.out)|exact HB.out)⟩
    rw [if_neg c66] at H
    have c66b0:=beq_eq_false_iff_ne.mpr c66
    have c66b2:(((rd_T53 l1 x5_1).f2).toList).isEmpty=false:=(show ∀ l_:List UInt8,(l_ == [])=false→l_.isEmpty=false from fun l_ h_=>by cases l_ <;> first|rfl|cases h_) _ c66b0
    have c66b3:(!(((rd_T53 l1 x5_1).f2).toList).isEmpty)=true:=by rw [c66b2];rfl
    have c66b1:=bne_iff_ne.mpr c66
    by_cases c71:(((rd_T53 l1 x5_1).f1) ≥ 0)
    ·rw [if_pos c71] at H
     have c71b0:=decide_eq_true c71
     clear c71
     have H':=Az.mk H
     clear H
     have p386:0≤(x5_1:Int):=of_decide_eq_true (by assumption)
     have q386:x5_1 < (l1.length:Int):=of_decide_eq_true (by assumption)
     obtain⟨ad386,e386,hx386_0,hx386_1,hx386_2⟩:=at_T53 HR1.out x5_1 p386 q386
     cases e386
     replace hx386_0:=bc_ HB.out hx386_0
     replace hx386_1:=bc_ HB.out hx386_1
     replace hx386_2:=bc_ HB.out hx386_2
     replace p386:=eq_true p386
     replace q386:=eq_true q386
     go_wp2_with (first|((with_reducible refine gate_dst (N:=6) rfl ?_);(try (refine gate_guard (by rfl) ?_;dsimp only));refine box_event ?hg (N:=6) ?hd (cs:=#[.int .i64 0,.int .i64 0,.string (⟨#[]⟩:ByteArray)]) (t:=53) ?hr ?_;(case hd=>rfl);(case hg=>rfl);(case hr=>first|(go_simp;done)|(go_simp;rfl));intro gb387 hg w72 hbox hb;have n0_:=Az.mk (kB_ BK385.out hb);have n1_:=Az.mk (bT_ HB.out hb);have n2_:=Az.mk (hbox);have n3_:=Az.mk ((szl_ HB.out hg));have n4_:=Az.mk ((szl_ HB.out hg));have n5_:=Az.mk ((nel_ BK385.out hg));have n6_:=Az.mk ((ner_ BK385.out hg));clear BK385;clear HB;have BK385:=n0_;have HB:=n1_;have BK387:=n2_;have GW387:=n3_;have GE387:=n4_;have NB385_387:=n5_;have NB387_385:=n6_;clear n0_ n1_ n2_ n3_ n4_ n5_ n6_;clear hb hbox hg;have hnb73:=NB387_385.out;have hnc73:=NB385_387.out;obtain⟨hcz74_0,hcz74_1,hcz74_2,hfz74_0,hfz74_1,hfz74_2⟩:=cf3_ BK387.out;obtain⟨hcz75_0,hcz75_1,hcz75_2,hcz75_3,hcz75_4,hfz75_0,hfz75_1,hfz75_2,hfz75_3,hfz75_4⟩:=cf5_ BK385.out))
     go_roundg k1
     case measure=>have:=HK1.out;omega
     case rel=>exact⟨(wrap64 (x5_1 + 1)),(by first|rfl|(simp;done)|(simp [*];done)|(refine congrArg Value.bool ?_;exact isE_ _)),H',⟨by have:=HK1.out;omega⟩,⟨by(with_reducible repeat (first|refine kN_ ?_ _|refine kD_ ?_|refine kA_ ?_ _));refine kF_ ?_ NB385_387.out _;(with_reducible repeat (first|refine kN_ ?_ _|refine kD_ ?_|refine kA_ ?_ _));refine kF_ ?_ NB385_387.out _;(with_reducible repeat (first|refine kN_ ?_ _|refine kD_ ?_|refine kA_ ?_ _));refine kF_ ?_ NB385_387.out _;(with_reducible repeat (first|refine kN_ ?_ _|refine kD_ ?_|refine kA_ ?_ _));exact BK385.out⟩,⟨by repeat (first|(with_reducible first|exact HB.out|apply bA_|apply bN_|apply bD_|refine bS_ ?_ GE385.out|refine bS_ ?_ GE387.out)|exact HB.out)⟩⟩
    rw [if_neg c71] at H
    have c71b0:=decide_eq_false c71
    clear c71
    by_cases c76:(((rd_T53 l1 x5_1).f1) < (l0_0.length:Int))
    ·rw [if_pos c76] at H
     have c76b0:=decide_eq_true c76
     clear c76
     have H':=Az.mk H
     clear H
     have p386:0≤(x5_1:Int):=of_decide_eq_true (by assumption)
     have q386:x5_1 < (l1.length:Int):=of_decide_eq_true (by assumption)
     obtain⟨ad386,e386,hx386_0,hx386_1,hx386_2⟩:=at_T53 HR1.out x5_1 p386 q386
     cases e386
     replace hx386_0:=bc_ HB.out hx386_0
     replace hx386_1:=bc_ HB.out hx386_1
     replace hx386_2:=bc_ HB.out hx386_2
     replace p386:=eq_true p386
     replace q386:=eq_true q386
     go_wp2_with (first|((with_reducible refine gate_dst (N:=6) rfl ?_);(try (refine gate_guard (by rfl) ?_;dsimp only));refine box_event ?hg (N:=6) ?hd (cs:=#[.int .i64 0,.int .i64 0,.string (⟨#[]⟩:ByteArray)]) (t:=53) ?hr ?_;(case hd=>rfl);(case hg=>rfl);(case hr=>first|(go_simp;done)|(go_simp;rfl));intro gb387 hg w77 hbox hb;have n0_:=Az.mk (kB_ BK385.out hb);have n1_:=Az.mk (bT_ HB.out hb);have n2_:=Az.mk (hbox);have n3_:=Az.mk ((szl_ HB.out hg));have n4_:=Az.mk ((szl_ HB.out hg));have n5_:=Az.mk ((nel_ BK385.out hg));have n6_:=Az.mk ((ner_ BK385.out hg));clear BK385;clear HB;have BK385:=n0_;have HB:=n1_;have BK387:=n2_;have GW387:=n3_;have GE387:=n4_;have NB385_387:=n5_;have NB387_385:=n6_;clear n0_ n1_ n2_ n3_ n4_ n5_ n6_;clear hb hbox hg;have hnb78:=NB387_385.out;have hnc78:=NB385_387.out;obtain⟨hcz79_0,hcz79_1,hcz79_2,hfz79_0,hfz79_1,hfz79_2⟩:=cf3_ BK387.out;obtain⟨hcz80_0,hcz80_1,hcz80_2,hcz80_3,hcz80_4,hfz80_0,hfz80_1,hfz80_2,hfz80_3,hfz80_4⟩:=cf5_ BK385.out))
     go_roundg k1
     case measure=>have:=HK1.out;omega
     case rel=>exact⟨(wrap64 (x5_1 + 1)),(by first|rfl|(simp;done)|(simp [*];done)|(refine congrArg Value.bool ?_;exact isE_ _)),H',⟨by have:=HK1.out;omega⟩,⟨by(with_reducible repeat (first|refine kN_ ?_ _|refine kD_ ?_|refine kA_ ?_ _));refine kF_ ?_ NB385_387.out _;(with_reducible repeat (first|refine kN_ ?_ _|refine kD_ ?_|refine kA_ ?_ _));refine kF_ ?_ NB385_387.out _;(with_reducible repeat (first|refine kN_ ?_ _|refine kD_ ?_|refine kA_ ?_ _));refine kF_ ?_ NB385_387.out _;(with_reducible repeat (first|refine kN_ ?_ _|refine kD_ ?_|refine kA_ ?_ _));exact BK385.out⟩,⟨by repeat (first|(with_reducible first|exact HB.out|apply bA_|apply bN_|apply bD_|refine bS_ ?_ GE385.out|refine bS_ ?_ GE387.out)|exact HB.out)⟩⟩
    rw [if_neg c76] at H
    have c76b0:=decide_eq_false c76
    clear c76
    obtain rfl:=Option.some.inj H
    have p386:0≤(x5_1:Int):=of_decide_eq_true (by assumption)
    have q386:x5_1 < (l1.length:Int):=of_decide_eq_true (by assumption)
    obtain⟨ad386,e386,hx386_0,hx386_1,hx386_2⟩:=at_T53 HR1.out x5_1 p386 q386
    cases e386
    replace hx386_0:=bc_ HB.out hx386_0
    replace hx386_1:=bc_ HB.out hx386_1
    replace hx386_2:=bc_ HB.out hx386_2
    replace p386:=eq_true p386
    replace q386:=eq_true q386
    go_wp2_with (first|((with_reducible refine gate_dst (N:=6) rfl ?_);(try (refine gate_guard (by rfl) ?_;dsimp only));refine box_event ?hg (N:=6) ?hd (cs:=#[.int .i64 0,.int .i64 0,.string (⟨#[]⟩:ByteArray)]) (t:=53) ?hr ?_;(case hd=>rfl);(case hg=>rfl);(case hr=>first|(go_simp;done)|(go_simp;rfl));intro gb387 hg w81 hbox hb;have n0_:=Az.mk (kB_ BK385.out hb);have n1_:=Az.mk (bT_ HB.out hb);have n2_:=Az.mk (hbox);have n3_:=Az.mk ((szl_ HB.out hg));have n4_:=Az.mk ((szl_ HB.out hg));have n5_:=Az.mk ((nel_ BK385.out hg));have n6_:=Az.mk ((ner_ BK385.out hg));clear BK385;clear HB;have BK385:=n0_;have HB:=n1_;have BK387:=n2_;have GW387:=n3_;have GE387:=n4_;have NB385_387:=n5_;have NB387_385:=n6_;clear n0_ n1_ n2_ n3_ n4_ n5_ n6_;clear hb hbox hg;have hnb82:=NB387_385.out;have hnc82:=NB385_387.out;obtain⟨hcz83_0,hcz83_1,hcz83_2,hfz83_0,hfz83_1,hfz83_2⟩:=cf3_ BK387.out;obtain⟨hcz84_0,hcz84_1,hcz84_2,hcz84_3,hcz84_4,hfz84_0,hfz84_1,hfz84_2,hfz84_3,hfz84_4⟩:=cf5_ BK385.out))
    go_ret
    exact⟨by first|rfl|(simp [errW_none,errW_some] <;> rfl)|(simp [*,errW_none,errW_some] <;> rfl),by repeat (first|(with_reducible first|exact HB.out|apply bA_|apply bN_|apply bD_|refine bS_ ?_ GE385.out|refine bS_ ?_ GE387.out)|exact HB.out)⟩
   rw [if_pos c7] at H
   have c7b0:=beq_iff_eq.mpr c7
   have c7b1:=bne_eq_false_iff_eq.mpr c7
   clear c7
   by_cases c8:((rd_T53 l1 x5_1).f0)=3
   rotate_left
   ·rw [if_neg c8] at H
    have c8b0:=beq_eq_false_iff_ne.mpr c8
    have c8b1:=bne_iff_ne.mpr c8
    by_cases c49:((rd_T53 l1 x5_1).f2).toList=([]:List UInt8)
    ·rw [if_pos c49] at H
     have c49b0:=beq_iff_eq.mpr c49
     have c49b2:(((rd_T53 l1 x5_1).f2).toList).isEmpty=true:=(show ∀ l_:List UInt8,(l_ == [])=true→l_.isEmpty=true from fun l_ h_=>by cases l_ <;> first|rfl|cases h_) _ c49b0
     have c49b3:(!(((rd_T53 l1 x5_1).f2).toList).isEmpty)=false:=by rw [c49b2];rfl
     have c49b1:=bne_eq_false_iff_eq.mpr c49
     clear c49
     obtain rfl:=Option.some.inj H
     have p386:0≤(x5_1:Int):=of_decide_eq_true (by assumption)
     have q386:x5_1 < (l1.length:Int):=of_decide_eq_true (by assumption)
     obtain⟨ad386,e386,hx386_0,hx386_1,hx386_2⟩:=at_T53 HR1.out x5_1 p386 q386
     cases e386
     replace hx386_0:=bc_ HB.out hx386_0
     replace hx386_1:=bc_ HB.out hx386_1
     replace hx386_2:=bc_ HB.out hx386_2
     replace p386:=eq_true p386
     replace q386:=eq_true q386
     go_wp2_with (first|((with_reducible refine gate_dst (N:=6) rfl ?_);(try (refine gate_guard (by rfl) ?_;dsimp only));refine box_event ?hg (N:=6) ?hd (cs:=#[.int .i64 0,.int .i64 0,.string (⟨#[]⟩:ByteArray)]) (t:=53) ?hr ?_;(case hd=>rfl);(case hg=>rfl);(case hr=>first|(go_simp;done)|(go_simp;rfl));intro gb387 hg w50 hbox hb;have n0_:=Az.mk (kB_ BK385.out hb);have n1_:=Az.mk (bT_ HB.out hb);have n2_:=Az.mk (hbox);have n3_:=Az.mk ((szl_ HB.out hg));have n4_:=Az.mk ((szl_ HB.out hg));have n5_:=Az.mk ((nel_ BK385.out hg));have n6_:=Az.mk ((ner_ BK385.out hg));clear BK385;clear HB;have BK385:=n0_;have HB:=n1_;have BK387:=n2_;have GW387:=n3_;have GE387:=n4_;have NB385_387:=n5_;have NB387_385:=n6_;clear n0_ n1_ n2_ n3_ n4_ n5_ n6_;clear hb hbox hg;have hnb51:=NB387_385.out;have hnc51:=NB385_387.out;obtain⟨hcz52_0,hcz52_1,hcz52_2,hfz52_0,hfz52_1,hfz52_2⟩:=cf3_ BK387.out))
     go_ret
     exact⟨by first|rfl|(simp [errW_none,errW_some] <;> rfl)|(simp [*,errW_none,errW_some] <;> rfl),by repeat (first|(with_reducible first|exact HB.out|apply bA_|apply bN_|apply bD_|refine bS_ ?_ GE385.out|refine bS_ ?_ GE387.out)|exact HB.out)⟩
    rw [if_neg c49] at H
    have c49b0:=beq_eq_false_iff_ne.mpr c49
    have c49b2:(((rd_T53 l1 x5_1).f2).toList).isEmpty=false:=(show ∀ l_:List UInt8,(l_ == [])=false→l_.isEmpty=false from fun l_ h_=>by cases l_ <;> first|rfl|cases h_) _ c49b0
    have c49b3:(!(((rd_T53 l1 x5_1).f2).toList).isEmpty)=true:=by rw [c49b2];rfl
    have c49b1:=bne_iff_ne.mpr c49
    by_cases c53:(((rd_T53 l1 x5_1).f1) ≥ 0)
    ·rw [if_pos c53] at H
     have c53b0:=decide_eq_true c53
     clear c53
     have H':=Az.mk H
     clear H
     have p386:0≤(x5_1:Int):=of_decide_eq_true (by assumption)
     have q386:x5_1 < (l1.length:Int):=of_decide_eq_true (by assumption)
     obtain⟨ad386,e386,hx386_0,hx386_1,hx386_2⟩:=at_T53 HR1.out x5_1 p386 q386
     cases e386
     replace hx386_0:=bc_ HB.out hx386_0
     replace hx386_1:=bc_ HB.out hx386_1
     replace hx386_2:=bc_ HB.out hx386_2
     replace p386:=eq_true p386
     replace q386:=eq_true q386
     go_wp2_with (first|((with_reducible refine gate_dst (N:=6) rfl ?_);(try (refine gate_guard (by rfl) ?_;dsimp only));refine box_event ?hg (N:=6) ?hd (cs:=#[.int .i64 0,.int .i64 0,.string (⟨#[]⟩:ByteArray)]) (t:=53) ?hr ?_;(case hd=>rfl);(case hg=>rfl);(case hr=>first|(go_simp;done)|(go_simp;rfl));intro gb387 hg w54 hbox hb;have n0_:=Az.mk (kB_ BK385.out hb);have n1_:=Az.mk (bT_ HB.out hb);have n2_:=Az.mk (hbox);have n3_:=Az.mk ((szl_ HB.out hg));have n4_:=Az.mk ((szl_ HB.out hg));have n5_:=Az.mk ((nel_ BK385.out hg));have n6_:=Az.mk ((ner_ BK385.out hg));clear BK385;clear HB;have BK385:=n0_;have HB:=n1_;have BK387:=n2_;have GW387:=n3_;have GE387:=n4_;have NB385_387:=n5_;have NB387_385:=n6_;clear n0_ n1_ n2_ n3_ n4_ n5_ n6_;clear hb hbox hg;have hnb55:=NB387_385.out;have hnc55:=NB385_387.out;obtain⟨hcz56_0,hcz56_1,hcz56_2,hfz56_0,hfz56_1,hfz56_2⟩:=cf3_ BK387.out))
     go_roundg k1
     case measure=>have:=HK1.out;omega
     case rel=>exact⟨(wrap64 (x5_1 + 1)),(by first|rfl|(simp;done)|(simp [*];done)|(refine congrArg Value.bool ?_;exact isE_ _)),H',⟨by have:=HK1.out;omega⟩,⟨by(with_reducible repeat (first|refine kN_ ?_ _|refine kD_ ?_|refine kA_ ?_ _));refine kF_ ?_ NB385_387.out _;(with_reducible repeat (first|refine kN_ ?_ _|refine kD_ ?_|refine kA_ ?_ _));refine kF_ ?_ NB385_387.out _;(with_reducible repeat (first|refine kN_ ?_ _|refine kD_ ?_|refine kA_ ?_ _));refine kF_ ?_ NB385_387.out _;(with_reducible repeat (first|refine kN_ ?_ _|refine kD_ ?_|refine kA_ ?_ _));exact BK385.out⟩,⟨by repeat (first|(with_reducible first|exact HB.out|apply bA_|apply bN_|apply bD_|refine bS_ ?_ GE385.out|refine bS_ ?_ GE387.out)|exact HB.out)⟩⟩
    rw [if_neg c53] at H
    have c53b0:=decide_eq_false c53
    clear c53
    by_cases c57:(((rd_T53 l1 x5_1).f1)=(-1))
    ·rw [if_pos c57] at H
     have c57b0:=beq_iff_eq.mpr c57
     have c57b1:=bne_eq_false_iff_eq.mpr c57
     clear c57
     have H':=Az.mk H
     clear H
     have p386:0≤(x5_1:Int):=of_decide_eq_true (by assumption)
     have q386:x5_1 < (l1.length:Int):=of_decide_eq_true (by assumption)
     obtain⟨ad386,e386,hx386_0,hx386_1,hx386_2⟩:=at_T53 HR1.out x5_1 p386 q386
     cases e386
     replace hx386_0:=bc_ HB.out hx386_0
     replace hx386_1:=bc_ HB.out hx386_1
     replace hx386_2:=bc_ HB.out hx386_2
     replace p386:=eq_true p386
     replace q386:=eq_true q386
     go_wp2_with (first|((with_reducible refine gate_dst (N:=6) rfl ?_);(try (refine gate_guard (by rfl) ?_;dsimp only));refine box_event ?hg (N:=6) ?hd (cs:=#[.int .i64 0,.int .i64 0,.string (⟨#[]⟩:ByteArray)]) (t:=53) ?hr ?_;(case hd=>rfl);(case hg=>rfl);(case hr=>first|(go_simp;done)|(go_simp;rfl));intro gb387 hg w58 hbox hb;have n0_:=Az.mk (kB_ BK385.out hb);have n1_:=Az.mk (bT_ HB.out hb);have n2_:=Az.mk (hbox);have n3_:=Az.mk ((szl_ HB.out hg));have n4_:=Az.mk ((szl_ HB.out hg));have n5_:=Az.mk ((nel_ BK385.out hg));have n6_:=Az.mk ((ner_ BK385.out hg));clear BK385;clear HB;have BK385:=n0_;have HB:=n1_;have BK387:=n2_;have GW387:=n3_;have GE387:=n4_;have NB385_387:=n5_;have NB387_385:=n6_;clear n0_ n1_ n2_ n3_ n4_ n5_ n6_;clear hb hbox hg;have hnb59:=NB387_385.out;have hnc59:=NB385_387.out;obtain⟨hcz60_0,hcz60_1,hcz60_2,hfz60_0,hfz60_1,hfz60_2⟩:=cf3_ BK387.out))
     go_roundg k1
     case measure=>have:=HK1.out;omega
     case rel=>exact⟨(wrap64 (x5_1 + 1)),(by first|rfl|(simp;done)|(simp [*];done)|(refine congrArg Value.bool ?_;exact isE_ _)),H',⟨by have:=HK1.out;omega⟩,⟨by(with_reducible repeat (first|refine kN_ ?_ _|refine kD_ ?_|refine kA_ ?_ _));refine kF_ ?_ NB385_387.out _;(with_reducible repeat (first|refine kN_ ?_ _|refine kD_ ?_|refine kA_ ?_ _));refine kF_ ?_ NB385_387.out _;(with_reducible repeat (first|refine kN_ ?_ _|refine kD_ ?_|refine kA_ ?_ _));refine kF_ ?_ NB385_387.out _;(with_reducible repeat (first|refine kN_ ?_ _|refine kD_ ?_|refine kA_ ?_ _));exact BK385.out⟩,⟨by repeat (first|(with_reducible first|exact HB.out|apply bA_|apply bN_|apply bD_|refine bS_ ?_ GE385.out|refine bS_ ?_ GE387.out)|exact HB.out)⟩⟩
    rw [if_neg c57] at H
    have c57b0:=beq_eq_false_iff_ne.mpr c57
    have c57b1:=bne_iff_ne.mpr c57
    obtain rfl:=Option.some.inj H
    have p386:0≤(x5_1:Int):=of_decide_eq_true (by assumption)
    have q386:x5_1 < (l1.length:Int):=of_decide_eq_true (by assumption)
    obtain⟨ad386,e386,hx386_0,hx386_1,hx386_2⟩:=at_T53 HR1.out x5_1 p386 q386
    cases e386
    replace hx386_0:=bc_ HB.out hx386_0
    replace hx386_1:=bc_ HB.out hx386_1
    replace hx386_2:=bc_ HB.out hx386_2
    replace p386:=eq_true p386
    replace q386:=eq_true q386
    go_wp2_with (first|((with_reducible refine gate_dst (N:=6) rfl ?_);(try (refine gate_guard (by rfl) ?_;dsimp only));refine box_event ?hg (N:=6) ?hd (cs:=#[.int .i64 0,.int .i64 0,.string (⟨#[]⟩:ByteArray)]) (t:=53) ?hr ?_;(case hd=>rfl);(case hg=>rfl);(case hr=>first|(go_simp;done)|(go_simp;rfl));intro gb387 hg w61 hbox hb;have n0_:=Az.mk (kB_ BK385.out hb);have n1_:=Az.mk (bT_ HB.out hb);have n2_:=Az.mk (hbox);have n3_:=Az.mk ((szl_ HB.out hg));have n4_:=Az.mk ((szl_ HB.out hg));have n5_:=Az.mk ((nel_ BK385.out hg));have n6_:=Az.mk ((ner_ BK385.out hg));clear BK385;clear HB;have BK385:=n0_;have HB:=n1_;have BK387:=n2_;have GW387:=n3_;have GE387:=n4_;have NB385_387:=n5_;have NB387_385:=n6_;clear n0_ n1_ n2_ n3_ n4_ n5_ n6_;clear hb hbox hg;have hnb62:=NB387_385.out;have hnc62:=NB385_387.out;obtain⟨hcz63_0,hcz63_1,hcz63_2,hfz63_0,hfz63_1,hfz63_2⟩:=cf3_ BK387.out))
    go_ret
    exact⟨by first|rfl|(simp [errW_none,errW_some] <;> rfl)|(simp [*,errW_none,errW_some] <;> rfl),by repeat (first|(with_reducible first|exact HB.out|apply bA_|apply bN_|apply bD_|refine bS_ ?_ GE385.out|refine bS_ ?_ GE387.out)|exact HB.out)⟩
   rw [if_pos c8] at H
   have c8b0:=beq_iff_eq.mpr c8
   have c8b1:=bne_eq_false_iff_eq.mpr c8
   clear c8
   by_cases c9:((rd_T53 l1 x5_1).f1) ≥ 2
   rotate_left
   ·rw [if_neg c9] at H
    have c9b0:=decide_eq_false c9
    clear c9
    by_cases c34:((rd_T53 l1 x5_1).f2).toList=([]:List UInt8)
    ·rw [if_pos c34] at H
     have c34b0:=beq_iff_eq.mpr c34
     have c34b2:(((rd_T53 l1 x5_1).f2).toList).isEmpty=true:=(show ∀ l_:List UInt8,(l_ == [])=true→l_.isEmpty=true from fun l_ h_=>by cases l_ <;> first|rfl|cases h_) _ c34b0
     have c34b3:(!(((rd_T53 l1 x5_1).f2).toList).isEmpty)=false:=by rw [c34b2];rfl
     have c34b1:=bne_eq_false_iff_eq.mpr c34
     clear c34
     obtain rfl:=Option.some.inj H
     have p386:0≤(x5_1:Int):=of_decide_eq_true (by assumption)
     have q386:x5_1 < (l1.length:Int):=of_decide_eq_true (by assumption)
     obtain⟨ad386,e386,hx386_0,hx386_1,hx386_2⟩:=at_T53 HR1.out x5_1 p386 q386
     cases e386
     replace hx386_0:=bc_ HB.out hx386_0
     replace hx386_1:=bc_ HB.out hx386_1
     replace hx386_2:=bc_ HB.out hx386_2
     replace p386:=eq_true p386
     replace q386:=eq_true q386
     go_wp2_with (first|((with_reducible refine gate_dst (N:=6) rfl ?_);(try (refine gate_guard (by rfl) ?_;dsimp only));refine box_event ?hg (N:=6) ?hd (cs:=#[.int .i64 0,.int .i64 0,.string (⟨#[]⟩:ByteArray)]) (t:=53) ?hr ?_;(case hd=>rfl);(case hg=>rfl);(case hr=>first|(go_simp;done)|(go_simp;rfl));intro gb387 hg w35 hbox hb;have n0_:=Az.mk (kB_ BK385.out hb);have n1_:=Az.mk (bT_ HB.out hb);have n2_:=Az.mk (hbox);have n3_:=Az.mk ((szl_ HB.out hg));have n4_:=Az.mk ((szl_ HB.out hg));have n5_:=Az.mk ((nel_ BK385.out hg));have n6_:=Az.mk ((ner_ BK385.out hg));clear BK385;clear HB;have BK385:=n0_;have HB:=n1_;have BK387:=n2_;have GW387:=n3_;have GE387:=n4_;have NB385_387:=n5_;have NB387_385:=n6_;clear n0_ n1_ n2_ n3_ n4_ n5_ n6_;clear hb hbox hg;have hnb36:=NB387_385.out;have hnc36:=NB385_387.out;obtain⟨hcz37_0,hcz37_1,hcz37_2,hfz37_0,hfz37_1,hfz37_2⟩:=cf3_ BK387.out))
     go_ret
     exact⟨by first|rfl|(simp [errW_none,errW_some] <;> rfl)|(simp [*,errW_none,errW_some] <;> rfl),by repeat (first|(with_reducible first|exact HB.out|apply bA_|apply bN_|apply bD_|refine bS_ ?_ GE385.out|refine bS_ ?_ GE387.out)|exact HB.out)⟩
    rw [if_neg c34] at H
    have c34b0:=beq_eq_false_iff_ne.mpr c34
    have c34b2:(((rd_T53 l1 x5_1).f2).toList).isEmpty=false:=(show ∀ l_:List UInt8,(l_ == [])=false→l_.isEmpty=false from fun l_ h_=>by cases l_ <;> first|rfl|cases h_) _ c34b0
    have c34b3:(!(((rd_T53 l1 x5_1).f2).toList).isEmpty)=true:=by rw [c34b2];rfl
    have c34b1:=bne_iff_ne.mpr c34
    by_cases c38:(((rd_T53 l1 x5_1).f1) ≥ 0)
    ·rw [if_pos c38] at H
     have c38b0:=decide_eq_true c38
     clear c38
     have H':=Az.mk H
     clear H
     have p386:0≤(x5_1:Int):=of_decide_eq_true (by assumption)
     have q386:x5_1 < (l1.length:Int):=of_decide_eq_true (by assumption)
     obtain⟨ad386,e386,hx386_0,hx386_1,hx386_2⟩:=at_T53 HR1.out x5_1 p386 q386
     cases e386
     replace hx386_0:=bc_ HB.out hx386_0
     replace hx386_1:=bc_ HB.out hx386_1
     replace hx386_2:=bc_ HB.out hx386_2
     replace p386:=eq_true p386
     replace q386:=eq_true q386
     go_wp2_with (first|((with_reducible refine gate_dst (N:=6) rfl ?_);(try (refine gate_guard (by rfl) ?_;dsimp only));refine box_event ?hg (N:=6) ?hd (cs:=#[.int .i64 0,.int .i64 0,.string (⟨#[]⟩:ByteArray)]) (t:=53) ?hr ?_;(case hd=>rfl);(case hg=>rfl);(case hr=>first|(go_simp;done)|(go_simp;rfl));intro gb387 hg w39 hbox hb;have n0_:=Az.mk (kB_ BK385.out hb);have n1_:=Az.mk (bT_ HB.out hb);have n2_:=Az.mk (hbox);have n3_:=Az.mk ((szl_ HB.out hg));have n4_:=Az.mk ((szl_ HB.out hg));have n5_:=Az.mk ((nel_ BK385.out hg));have n6_:=Az.mk ((ner_ BK385.out hg));clear BK385;clear HB;have BK385:=n0_;have HB:=n1_;have BK387:=n2_;have GW387:=n3_;have GE387:=n4_;have NB385_387:=n5_;have NB387_385:=n6_;clear n0_ n1_ n2_ n3_ n4_ n5_ n6_;clear hb hbox hg;have hnb40:=NB387_385.out;have hnc40:=NB385_387.out;obtain⟨hcz41_0,hcz41_1,hcz41_2,hfz41_0,hfz41_1,hfz41_2⟩:=cf3_ BK387.out))
     go_roundg k1
     case measure=>have:=HK1.out;omega
     case rel=>exact⟨(wrap64 (x5_1 + 1)),(by first|rfl|(simp;done)|(simp [*];done)|(refine congrArg Value.bool ?_;exact isE_ _)),H',⟨by have:=HK1.out;omega⟩,⟨by(with_reducible repeat (first|refine kN_ ?_ _|refine kD_ ?_|refine kA_ ?_ _));refine kF_ ?_ NB385_387.out _;(with_reducible repeat (first|refine kN_ ?_ _|refine kD_ ?_|refine kA_ ?_ _));refine kF_ ?_ NB385_387.out _;(with_reducible repeat (first|refine kN_ ?_ _|refine kD_ ?_|refine kA_ ?_ _));refine kF_ ?_ NB385_387.out _;(with_reducible repeat (first|refine kN_ ?_ _|refine kD_ ?_|refine kA_ ?_ _));exact BK385.out⟩,⟨by repeat (first|(with_reducible first|exact HB.out|apply bA_|apply bN_|apply bD_|refine bS_ ?_ GE385.out|refine bS_ ?_ GE387.out)|exact HB.out)⟩⟩
    rw [if_neg c38] at H
    have c38b0:=decide_eq_false c38
    clear c38
    by_cases c42:(((rd_T53 l1 x5_1).f1)=(-1))
    ·rw [if_pos c42] at H
     have c42b0:=beq_iff_eq.mpr c42
     have c42b1:=bne_eq_false_iff_eq.mpr c42
     clear c42
     have H':=Az.mk H
     clear H
     have p386:0≤(x5_1:Int):=of_decide_eq_true (by assumption)
     have q386:x5_1 < (l1.length:Int):=of_decide_eq_true (by assumption)
     obtain⟨ad386,e386,hx386_0,hx386_1,hx386_2⟩:=at_T53 HR1.out x5_1 p386 q386
     cases e386
     replace hx386_0:=bc_ HB.out hx386_0
     replace hx386_1:=bc_ HB.out hx386_1
     replace hx386_2:=bc_ HB.out hx386_2
     replace p386:=eq_true p386
     replace q386:=eq_true q386
     go_wp2_with (first|((with_reducible refine gate_dst (N:=6) rfl ?_);(try (refine gate_guard (by rfl) ?_;dsimp only));refine box_event ?hg (N:=6) ?hd (cs:=#[.int .i64 0,.int .i64 0,.string (⟨#[]⟩:ByteArray)]) (t:=53) ?hr ?_;(case hd=>rfl);(case hg=>rfl);(case hr=>first|(go_simp;done)|(go_simp;rfl));intro gb387 hg w43 hbox hb;have n0_:=Az.mk (kB_ BK385.out hb);have n1_:=Az.mk (bT_ HB.out hb);have n2_:=Az.mk (hbox);have n3_:=Az.mk ((szl_ HB.out hg));have n4_:=Az.mk ((szl_ HB.out hg));have n5_:=Az.mk ((nel_ BK385.out hg));have n6_:=Az.mk ((ner_ BK385.out hg));clear BK385;clear HB;have BK385:=n0_;have HB:=n1_;have BK387:=n2_;have GW387:=n3_;have GE387:=n4_;have NB385_387:=n5_;have NB387_385:=n6_;clear n0_ n1_ n2_ n3_ n4_ n5_ n6_;clear hb hbox hg;have hnb44:=NB387_385.out;have hnc44:=NB385_387.out;obtain⟨hcz45_0,hcz45_1,hcz45_2,hfz45_0,hfz45_1,hfz45_2⟩:=cf3_ BK387.out))
     go_roundg k1
     case measure=>have:=HK1.out;omega
     case rel=>exact⟨(wrap64 (x5_1 + 1)),(by first|rfl|(simp;done)|(simp [*];done)|(refine congrArg Value.bool ?_;exact isE_ _)),H',⟨by have:=HK1.out;omega⟩,⟨by(with_reducible repeat (first|refine kN_ ?_ _|refine kD_ ?_|refine kA_ ?_ _));refine kF_ ?_ NB385_387.out _;(with_reducible repeat (first|refine kN_ ?_ _|refine kD_ ?_|refine kA_ ?_ _));refine kF_ ?_ NB385_387.out _;(with_reducible repeat (first|refine kN_ ?_ _|refine kD_ ?_|refine kA_ ?_ _));refine kF_ ?_ NB385_387.out _;(with_reducible repeat (first|refine kN_ ?_ _|refine kD_ ?_|refine kA_ ?_ _));exact BK385.out⟩,⟨by repeat (first|(with_reducible first|exact HB.out|apply bA_|apply bN_|apply bD_|refine bS_ ?_ GE385.out|refine bS_ ?_ GE387.out)|exact HB.out)⟩⟩
    rw [if_neg c42] at H
    have c42b0:=beq_eq_false_iff_ne.mpr c42
    have c42b1:=bne_iff_ne.mpr c42
    obtain rfl:=Option.some.inj H
    have p386:0≤(x5_1:Int):=of_decide_eq_true (by assumption)
    have q386:x5_1 < (l1.length:Int):=of_decide_eq_true (by assumption)
    obtain⟨ad386,e386,hx386_0,hx386_1,hx386_2⟩:=at_T53 HR1.out x5_1 p386 q386
    cases e386
    replace hx386_0:=bc_ HB.out hx386_0
    replace hx386_1:=bc_ HB.out hx386_1
    replace hx386_2:=bc_ HB.out hx386_2
    replace p386:=eq_true p386
    replace q386:=eq_true q386
    go_wp2_with (first|((with_reducible refine gate_dst (N:=6) rfl ?_);(try (refine gate_guard (by rfl) ?_;dsimp only));refine box_event ?hg (N:=6) ?hd (cs:=#[.int .i64 0,.int .i64 0,.string (⟨#[]⟩:ByteArray)]) (t:=53) ?hr ?_;(case hd=>rfl);(case hg=>rfl);(case hr=>first|(go_simp;done)|(go_simp;rfl));intro gb387 hg w46 hbox hb;have n0_:=Az.mk (kB_ BK385.out hb);have n1_:=Az.mk (bT_ HB.out hb);have n2_:=Az.mk (hbox);have n3_:=Az.mk ((szl_ HB.out hg));have n4_:=Az.mk ((szl_ HB.out hg));have n5_:=Az.mk ((nel_ BK385.out hg));have n6_:=Az.mk ((ner_ BK385.out hg));clear BK385;clear HB;have BK385:=n0_;have HB:=n1_;have BK387:=n2_;have GW387:=n3_;have GE387:=n4_;have NB385_387:=n5_;have NB387_385:=n6_;clear n0_ n1_ n2_ n3_ n4_ n5_ n6_;clear hb hbox hg;have hnb47:=NB387_385.out;have hnc47:=NB385_387.out;obtain⟨hcz48_0,hcz48_1,hcz48_2,hfz48_0,hfz48_1,hfz48_2⟩:=cf3_ BK387.out))
    go_ret
    exact⟨by first|rfl|(simp [errW_none,errW_some] <;> rfl)|(simp [*,errW_none,errW_some] <;> rfl),by repeat (first|(with_reducible first|exact HB.out|apply bA_|apply bN_|apply bD_|refine bS_ ?_ GE385.out|refine bS_ ?_ GE387.out)|exact HB.out)⟩
   rw [if_pos c9] at H
   have c9b0:=decide_eq_true c9
   clear c9
   by_cases c10:((rd_T53 l1 x5_1).f2).toList=([]:List UInt8)
   ·rw [if_pos c10] at H
    have c10b0:=beq_iff_eq.mpr c10
    have c10b2:(((rd_T53 l1 x5_1).f2).toList).isEmpty=true:=(show ∀ l_:List UInt8,(l_ == [])=true→l_.isEmpty=true from fun l_ h_=>by cases l_ <;> first|rfl|cases h_) _ c10b0
    have c10b3:(!(((rd_T53 l1 x5_1).f2).toList).isEmpty)=false:=by rw [c10b2];rfl
    have c10b1:=bne_eq_false_iff_eq.mpr c10
    clear c10
    obtain rfl:=Option.some.inj H
    have p386:0≤(x5_1:Int):=of_decide_eq_true (by assumption)
    have q386:x5_1 < (l1.length:Int):=of_decide_eq_true (by assumption)
    obtain⟨ad386,e386,hx386_0,hx386_1,hx386_2⟩:=at_T53 HR1.out x5_1 p386 q386
    cases e386
    replace hx386_0:=bc_ HB.out hx386_0
    replace hx386_1:=bc_ HB.out hx386_1
    replace hx386_2:=bc_ HB.out hx386_2
    replace p386:=eq_true p386
    replace q386:=eq_true q386
    go_wp2_with (first|((with_reducible refine gate_dst (N:=6) rfl ?_);(try (refine gate_guard (by rfl) ?_;dsimp only));refine box_event ?hg (N:=6) ?hd (cs:=#[.int .i64 0,.int .i64 0,.string (⟨#[]⟩:ByteArray)]) (t:=53) ?hr ?_;(case hd=>rfl);(case hg=>rfl);(case hr=>first|(go_simp;done)|(go_simp;rfl));intro gb387 hg w11 hbox hb;have n0_:=Az.mk (kB_ BK385.out hb);have n1_:=Az.mk (bT_ HB.out hb);have n2_:=Az.mk (hbox);have n3_:=Az.mk ((szl_ HB.out hg));have n4_:=Az.mk ((szl_ HB.out hg));have n5_:=Az.mk ((nel_ BK385.out hg));have n6_:=Az.mk ((ner_ BK385.out hg));clear BK385;clear HB;have BK385:=n0_;have HB:=n1_;have BK387:=n2_;have GW387:=n3_;have GE387:=n4_;have NB385_387:=n5_;have NB387_385:=n6_;clear n0_ n1_ n2_ n3_ n4_ n5_ n6_;clear hb hbox hg;have hnb12:=NB387_385.out;have hnc12:=NB385_387.out;obtain⟨hcz13_0,hcz13_1,hcz13_2,hfz13_0,hfz13_1,hfz13_2⟩:=cf3_ BK387.out;obtain⟨hcz14_0,hcz14_1,hcz14_2,hcz14_3,hcz14_4,hfz14_0,hfz14_1,hfz14_2,hfz14_3,hfz14_4⟩:=cf5_ BK385.out))
    go_ret
    exact⟨by first|rfl|(simp [errW_none,errW_some] <;> rfl)|(simp [*,errW_none,errW_some] <;> rfl),by repeat (first|(with_reducible first|exact HB.out|apply bA_|apply bN_|apply bD_|refine bS_ ?_ GE385.out|refine bS_ ?_ GE387.out)|exact HB.out)⟩
   rw [if_neg c10] at H
   have c10b0:=beq_eq_false_iff_ne.mpr c10
   have c10b2:(((rd_T53 l1 x5_1).f2).toList).isEmpty=false:=(show ∀ l_:List UInt8,(l_ == [])=false→l_.isEmpty=false from fun l_ h_=>by cases l_ <;> first|rfl|cases h_) _ c10b0
   have c10b3:(!(((rd_T53 l1 x5_1).f2).toList).isEmpty)=true:=by rw [c10b2];rfl
   have c10b1:=bne_iff_ne.mpr c10
   by_cases c15:(((rd_T53 l1 x5_1).f1) ≥ 0)
   ·rw [if_pos c15] at H
    have c15b0:=decide_eq_true c15
    clear c15
    have H':=Az.mk H
    clear H
    have p386:0≤(x5_1:Int):=of_decide_eq_true (by assumption)
    have q386:x5_1 < (l1.length:Int):=of_decide_eq_true (by assumption)
    obtain⟨ad386,e386,hx386_0,hx386_1,hx386_2⟩:=at_T53 HR1.out x5_1 p386 q386
    cases e386
    replace hx386_0:=bc_ HB.out hx386_0
    replace hx386_1:=bc_ HB.out hx386_1
    replace hx386_2:=bc_ HB.out hx386_2
    replace p386:=eq_true p386
    replace q386:=eq_true q386
    go_wp2_with (first|((with_reducible refine gate_dst (N:=6) rfl ?_);(try (refine gate_guard (by rfl) ?_;dsimp only));refine box_event ?hg (N:=6) ?hd (cs:=#[.int .i64 0,.int .i64 0,.string (⟨#[]⟩:ByteArray)]) (t:=53) ?hr ?_;(case hd=>rfl);(case hg=>rfl);(case hr=>first|(go_simp;done)|(go_simp;rfl));intro gb387 hg w16 hbox hb;have n0_:=Az.mk (kB_ BK385.out hb);have n1_:=Az.mk (bT_ HB.out hb);have n2_:=Az.mk (hbox);have n3_:=Az.mk ((szl_ HB.out hg));have n4_:=Az.mk ((szl_ HB.out hg));have n5_:=Az.mk ((nel_ BK385.out hg));have n6_:=Az.mk ((ner_ BK385.out hg));clear BK385;clear HB;have BK385:=n0_;have HB:=n1_;have BK387:=n2_;have GW387:=n3_;have GE387:=n4_;have NB385_387:=n5_;have NB387_385:=n6_;clear n0_ n1_ n2_ n3_ n4_ n5_ n6_;clear hb hbox hg;have hnb17:=NB387_385.out;have hnc17:=NB385_387.out;obtain⟨hcz18_0,hcz18_1,hcz18_2,hfz18_0,hfz18_1,hfz18_2⟩:=cf3_ BK387.out;obtain⟨hcz19_0,hcz19_1,hcz19_2,hcz19_3,hcz19_4,hfz19_0,hfz19_1,hfz19_2,hfz19_3,hfz19_4⟩:=cf5_ BK385.out))
    go_roundg k1
    case measure=>have:=HK1.out;omega
    case rel=>exact⟨(wrap64 (x5_1 + 1)),(by first|rfl|(simp;done)|(simp [*];done)|(refine congrArg Value.bool ?_;exact isE_ _)),H',⟨by have:=HK1.out;omega⟩,⟨by(with_reducible repeat (first|refine kN_ ?_ _|refine kD_ ?_|refine kA_ ?_ _));refine kF_ ?_ NB385_387.out _;(with_reducible repeat (first|refine kN_ ?_ _|refine kD_ ?_|refine kA_ ?_ _));refine kF_ ?_ NB385_387.out _;(with_reducible repeat (first|refine kN_ ?_ _|refine kD_ ?_|refine kA_ ?_ _));refine kF_ ?_ NB385_387.out _;(with_reducible repeat (first|refine kN_ ?_ _|refine kD_ ?_|refine kA_ ?_ _));exact BK385.out⟩,⟨by repeat (first|(with_reducible first|exact HB.out|apply bA_|apply bN_|apply bD_|refine bS_ ?_ GE385.out|refine bS_ ?_ GE387.out)|exact HB.out)⟩⟩
   rw [if_neg c15] at H
   have c15b0:=decide_eq_false c15
   clear c15
   by_cases c20:(((rd_T53 l1 x5_1).f1)=(-1))
   ·rw [if_pos c20] at H
    have c20b0:=beq_iff_eq.mpr c20
    have c20b1:=bne_eq_false_iff_eq.mpr c20
    clear c20
    have H':=Az.mk H
    clear H
    have p386:0≤(x5_1:Int):=of_decide_eq_true (by assumption)
    have q386:x5_1 < (l1.length:Int):=of_decide_eq_true (by assumption)
    obtain⟨ad386,e386,hx386_0,hx386_1,hx386_2⟩:=at_T53 HR1.out x5_1 p386 q386
    cases e386
    replace hx386_0:=bc_ HB.out hx386_0
    replace hx386_1:=bc_ HB.out hx386_1
    replace hx386_2:=bc_ HB.out hx386_2
    replace p386:=eq_true p386
    replace q386:=eq_true q386
    go_wp2_with (first|((with_reducible refine gate_dst (N:=6) rfl ?_);(try (refine gate_guard (by rfl) ?_;dsimp only));refine box_event ?hg (N:=6) ?hd (cs:=#[.int .i64 0,.int .i64 0,.string (⟨#[]⟩:ByteArray)]) (t:=53) ?hr ?_;(case hd=>rfl);(case hg=>rfl);(case hr=>first|(go_simp;done)|(go_simp;rfl));intro gb387 hg w21 hbox hb;have n0_:=Az.mk (kB_ BK385.out hb);have n1_:=Az.mk (bT_ HB.out hb);have n2_:=Az.mk (hbox);have n3_:=Az.mk ((szl_ HB.out hg));have n4_:=Az.mk ((szl_ HB.out hg));have n5_:=Az.mk ((nel_ BK385.out hg));have n6_:=Az.mk ((ner_ BK385.out hg));clear BK385;clear HB;have BK385:=n0_;have HB:=n1_;have BK387:=n2_;have GW387:=n3_;have GE387:=n4_;have NB385_387:=n5_;have NB387_385:=n6_;clear n0_ n1_ n2_ n3_ n4_ n5_ n6_;clear hb hbox hg;have hnb22:=NB387_385.out;have hnc22:=NB385_387.out;obtain⟨hcz23_0,hcz23_1,hcz23_2,hfz23_0,hfz23_1,hfz23_2⟩:=cf3_ BK387.out;obtain⟨hcz24_0,hcz24_1,hcz24_2,hcz24_3,hcz24_4,hfz24_0,hfz24_1,hfz24_2,hfz24_3,hfz24_4⟩:=cf5_ BK385.out))
    go_roundg k1
    case measure=>have:=HK1.out;omega
    case rel=>exact⟨(wrap64 (x5_1 + 1)),(by first|rfl|(simp;done)|(simp [*];done)|(refine congrArg Value.bool ?_;exact isE_ _)),H',⟨by have:=HK1.out;omega⟩,⟨by(with_reducible repeat (first|refine kN_ ?_ _|refine kD_ ?_|refine kA_ ?_ _));refine kF_ ?_ NB385_387.out _;(with_reducible repeat (first|refine kN_ ?_ _|refine kD_ ?_|refine kA_ ?_ _));refine kF_ ?_ NB385_387.out _;(with_reducible repeat (first|refine kN_ ?_ _|refine kD_ ?_|refine kA_ ?_ _));refine kF_ ?_ NB385_387.out _;(with_reducible repeat (first|refine kN_ ?_ _|refine kD_ ?_|refine kA_ ?_ _));exact BK385.out⟩,⟨by repeat (first|(with_reducible first|exact HB.out|apply bA_|apply bN_|apply bD_|refine bS_ ?_ GE385.out|refine bS_ ?_ GE387.out)|exact HB.out)⟩⟩
   rw [if_neg c20] at H
   have c20b0:=beq_eq_false_iff_ne.mpr c20
   have c20b1:=bne_iff_ne.mpr c20
   by_cases c25:(((rd_T53 l1 x5_1).f1) < (l0_0.length:Int))
   ·rw [if_pos c25] at H
    have c25b0:=decide_eq_true c25
    clear c25
    have H':=Az.mk H
    clear H
    have p386:0≤(x5_1:Int):=of_decide_eq_true (by assumption)
    have q386:x5_1 < (l1.length:Int):=of_decide_eq_true (by assumption)
    obtain⟨ad386,e386,hx386_0,hx386_1,hx386_2⟩:=at_T53 HR1.out x5_1 p386 q386
    cases e386
    replace hx386_0:=bc_ HB.out hx386_0
    replace hx386_1:=bc_ HB.out hx386_1
    replace hx386_2:=bc_ HB.out hx386_2
    replace p386:=eq_true p386
    replace q386:=eq_true q386
    go_wp2_with (first|((with_reducible refine gate_dst (N:=6) rfl ?_);(try (refine gate_guard (by rfl) ?_;dsimp only));refine box_event ?hg (N:=6) ?hd (cs:=#[.int .i64 0,.int .i64 0,.string (⟨#[]⟩:ByteArray)]) (t:=53) ?hr ?_;(case hd=>rfl);(case hg=>rfl);(case hr=>first|(go_simp;done)|(go_simp;rfl));intro gb387 hg w26 hbox hb;have n0_:=Az.mk (kB_ BK385.out hb);have n1_:=Az.mk (bT_ HB.out hb);have n2_:=Az.mk (hbox);have n3_:=Az.mk ((szl_ HB.out hg));have n4_:=Az.mk ((szl_ HB.out hg));have n5_:=Az.mk ((nel_ BK385.out hg));have n6_:=Az.mk ((ner_ BK385.out hg));clear BK385;clear HB;have BK385:=n0_;have HB:=n1_;have BK387:=n2_;have GW387:=n3_;have GE387:=n4_;have NB385_387:=n5_;have NB387_385:=n6_;clear n0_ n1_ n2_ n3_ n4_ n5_ n6_;clear hb hbox hg;have hnb27:=NB387_385.out;have hnc27:=NB385_387.out;obtain⟨hcz28_0,hcz28_1,hcz28_2,hfz28_0,hfz28_1,hfz28_2⟩:=cf3_ BK387.out;obtain⟨hcz29_0,hcz29_1,hcz29_2,hcz29_3,hcz29_4,hfz29_0,hfz29_1,hfz29_2,hfz29_3,hfz29_4⟩:=cf5_ BK385.out))
    go_roundg k1
    case measure=>have:=HK1.out;omega
    case rel=>exact⟨(wrap64 (x5_1 + 1)),(by first|rfl|(simp;done)|(simp [*];done)|(refine congrArg Value.bool ?_;exact isE_ _)),H',⟨by have:=HK1.out;omega⟩,⟨by(with_reducible repeat (first|refine kN_ ?_ _|refine kD_ ?_|refine kA_ ?_ _));refine kF_ ?_ NB385_387.out _;(with_reducible repeat (first|refine kN_ ?_ _|refine kD_ ?_|refine kA_ ?_ _));refine kF_ ?_ NB385_387.out _;(with_reducible repeat (first|refine kN_ ?_ _|refine kD_ ?_|refine kA_ ?_ _));refine kF_ ?_ NB385_387.out _;(with_reducible repeat (first|refine kN_ ?_ _|refine kD_ ?_|refine kA_ ?_ _));exact BK385.out⟩,⟨by repeat (first|(with_reducible first|exact HB.out|apply bA_|apply bN_|apply bD_|refine bS_ ?_ GE385.out|refine bS_ ?_ GE387.out)|exact HB.out)⟩⟩
   rw [if_neg c25] at H
   have c25b0:=decide_eq_false c25
   clear c25
   obtain rfl:=Option.some.inj H
   have p386:0≤(x5_1:Int):=of_decide_eq_true (by assumption)
   have q386:x5_1 < (l1.length:Int):=of_decide_eq_true (by assumption)
   obtain⟨ad386,e386,hx386_0,hx386_1,hx386_2⟩:=at_T53 HR1.out x5_1 p386 q386
   cases e386
   replace hx386_0:=bc_ HB.out hx386_0
   replace hx386_1:=bc_ HB.out hx386_1
   replace hx386_2:=bc_ HB.out hx386_2
   replace p386:=eq_true p386
   replace q386:=eq_true q386
   go_wp2_with (first|((with_reducible refine gate_dst (N:=6) rfl ?_);(try (refine gate_guard (by rfl) ?_;dsimp only));refine box_event ?hg (N:=6) ?hd (cs:=#[.int .i64 0,.int .i64 0,.string (⟨#[]⟩:ByteArray)]) (t:=53) ?hr ?_;(case hd=>rfl);(case hg=>rfl);(case hr=>first|(go_simp;done)|(go_simp;rfl));intro gb387 hg w30 hbox hb;have n0_:=Az.mk (kB_ BK385.out hb);have n1_:=Az.mk (bT_ HB.out hb);have n2_:=Az.mk (hbox);have n3_:=Az.mk ((szl_ HB.out hg));have n4_:=Az.mk ((szl_ HB.out hg));have n5_:=Az.mk ((nel_ BK385.out hg));have n6_:=Az.mk ((ner_ BK385.out hg));clear BK385;clear HB;have BK385:=n0_;have HB:=n1_;have BK387:=n2_;have GW387:=n3_;have GE387:=n4_;have NB385_387:=n5_;have NB387_385:=n6_;clear n0_ n1_ n2_ n3_ n4_ n5_ n6_;clear hb hbox hg;have hnb31:=NB387_385.out;have hnc31:=NB385_387.out;obtain⟨hcz32_0,hcz32_1,hcz32_2,hfz32_0,hfz32_1,hfz32_2⟩:=cf3_ BK387.out;obtain⟨hcz33_0,hcz33_1,hcz33_2,hcz33_3,hcz33_4,hfz33_0,hfz33_1,hfz33_2,hfz33_3,hfz33_4⟩:=cf5_ BK385.out))
   go_ret
   exact⟨by first|rfl|(simp [errW_none,errW_some] <;> rfl)|(simp [*,errW_none,errW_some] <;> rfl),by repeat (first|(with_reducible first|exact HB.out|apply bA_|apply bN_|apply bD_|refine bS_ ?_ GE385.out|refine bS_ ?_ GE387.out)|exact HB.out)⟩
end Go.Proofs.Ytgdbcogbbghjaaa.Q
