import Derived.Test.YtgdbcogbbghjaaaHn
namespace Go.Proofs.Ytgdbcogbbghjaaa.Hand
open Go.RowKit Go.Proofs.YtgdbcogbbghjaaaW.PrintWords Go.Proofs.YtgdbcogbbghjaaaW.PrintLast Go.Proofs.YtgdbcogbbghjaaaW.PrintMore Go.Proofs.Ytgdbcogbbghjaaa.Q Go.Proofs.Ytgdbcogbbghjaaa.RF
set_option linter.unusedVariables false
set_option linter.unusedSimpArgs false
set_option maxRecDepth 100000
set_option maxHeartbeats 1000000 in
theorem leaf_calls (s:Int)(t:ByteArray)(w:World):Calls Try.prog 41 #[.int .i64 s,.string t] w fun e w'=>e=.returned (.agg #[.int .i64 s,.int .i64 (-1),.int .i64 0,.int .i64 0,.slice none 0 0,.string t,.slice none 0 0])∧Below w.heap.size w w':=by
  have hu32:=Try.underlying32
  go_enter Try.func41,Try.ntmps41
  go_wp2
  exact bodyPost_ret (results_single rfl (.cell w.heap.size 32 _ (0,0) _ rfl (blk_new _ _) Try.underlying32 rfl (by kernel_rfl) .nil)) rfl ⟨rfl,bA_ (Below.refl _ _) _⟩
def lf (s:Int)(t:ByteArray):S32:=⟨s,-1,0,0,[],t,[]⟩
def nd (s r:Int)(l:List S32):S32:=⟨s,r,0,0,[],⟨#[]⟩,l⟩
def first_:S32:=nd (-3) 3 [nd (-3) 2 [],nd (-4) 4 [lf 2 ⟨#[97]⟩]]
def both_:S32:=nd (-3) 3 [first_,nd (-4) 5 [lf 3 ⟨#[98]⟩]]
def two:S32:=nd (-2) 1 [both_]
theorem R_block1 {w:World}{base g:Nat}{ok:Nat→Prop}{x:S32}{cs:List Value}(hg:w.heap[g]?=some (.cells cs.toArray 32 (0,0)))(hb:base≤g)(hok:ok g)(hl:cs.length=7)(hM:k32.M w base (fun k=>ok k∧some k≠(Value.slice (some ⟨g,0,none⟩) 1 1).ownBlock) x cs):Kd.R k32 32 w base ok (.slice (some ⟨g,0,none⟩) 1 1) [x]:=by
  refine ⟨fun k hk => by have : g = k := by simpa [Value.ownBlock] using hk
                         rw [← this];exact hok,cs,⟨hl,.inr ⟨g,1,cs.toArray,rfl,hb,hg,Nat.le_refl _,by decide,hl,?_⟩⟩,?_⟩
  · show cs.toArray.toList.take (1 * 7)=cs
    rw [List.take_of_length_le (by simp [hl])]
  refine⟨hl,fun j p hj=>?_⟩
  cases j with
  | succ j=>simp at hj
  | zero =>
    have hj':x=p:=by simpa using hj
    subst hj'
    show k32.M w base _ x ((cs.drop (0 * 7)).take 7)
    rw [Nat.zero_mul,List.drop_zero,List.take_of_length_le (by omega)]
    exact hM
theorem R_block2 {w:World}{base g:Nat}{ok:Nat→Prop}{x y:S32}{cs ds:List Value}(hg:w.heap[g]?=some (.cells (cs ++ ds).toArray 32 (0,0)))(hb:base≤g)(hok:ok g)(hl:cs.length=7)(hl2:ds.length=7)
    (hM:k32.M w base (fun k=>ok k∧some k≠(Value.slice (some ⟨g,0,none⟩) 2 2).ownBlock) x cs) (hN:k32.M w base (fun k=>ok k∧some k≠(Value.slice (some ⟨g,0,none⟩) 2 2).ownBlock) y ds):Kd.R k32 32 w base ok (.slice (some ⟨g,0,none⟩) 2 2) [x,y]:=by
  refine ⟨fun k hk => by have : g = k := by simpa [Value.ownBlock] using hk
                         rw [← this];exact hok,cs ++ ds,⟨by simp [hl,hl2];rfl,.inr ⟨g,2,(cs ++ ds).toArray,rfl,hb,hg,Nat.le_refl _,by decide,by simp [hl,hl2];rfl,?_⟩⟩,?_⟩
  · show(cs ++ ds).toArray.toList.take (2 * 7)=cs ++ ds
    rw [List.take_of_length_le (by simp [hl,hl2])]
  refine⟨by simp [hl,hl2];rfl,fun j p hj=>?_⟩
  cases j with
  | zero =>
    have hj':x=p:=by simpa using hj
    subst hj'
    show k32.M w base _ x (((cs ++ ds).drop (0 * 7)).take 7)
    rw [Nat.zero_mul,List.drop_zero,List.take_left' hl]
    exact hM
  | succ j =>
    cases j with
    | succ j=>simp at hj
    | zero =>
      have hj':y=p:=by simpa using hj
      subst hj'
      show k32.M w base _ y (((cs ++ ds).drop (1 * 7)).take 7)
      rw [Nat.one_mul,List.drop_left' hl,List.take_of_length_le (by omega)]
      exact hN
structure Twos (W:World) (lfc:Array Value) (cx:List Value) (r8:Int) (B g1 g2:Nat) (W':World):Prop where
  hb:Below W.heap.size W W'
  lB:W.heap.size≤B
  l1:W.heap.size≤g1
  l2:W.heap.size≤g2
  kB:W'.heap[B]?=some (.cells #[.int .i64 0,.int .i64 0,.int .i64 0,.int .i64 0,.slice none 0 0,.string (⟨#[]⟩:ByteArray),.slice none 0 0] 32 (0,0))
  k2:W'.heap[g2]?=some (.cells (cx ++ ([.int .i64 (-4),.int .i64 r8,.int .i64 0,.int .i64 0,.slice none 0 0,.string (⟨#[]⟩:ByteArray),.slice (some ⟨g1,0,none⟩) 1 1]:List Value)).toArray 32 (0,0))
  k1:W'.heap[g1]?=some (.cells lfc 32 (0,0))
set_option maxHeartbeats 8000000 in
theorem two_calls (w:World):Calls Try.prog 30 #[] w fun e w'=>∃ v4_ v6_:Value,e=.returned (.agg #[.int .i64 two.f0,.int .i64 two.f1,.int .i64 two.f2,.int .i64 two.f3,v4_,.string two.f5,v6_])∧Kd.R k53 53 w' w.heap.size (fun _=>True) v4_ two.f4∧Kd.R k32 32 w' w.heap.size (fun k_=>some k_≠(v4_:Value).ownBlock) v6_ two.f6∧Below w.heap.size w w':=by
  have hu32:=Try.underlying32
  go_enter Try.func30,Try.ntmps30
  go_wp2
  obtain⟨W1,hW1⟩:∃ W1,(w.alloc (.cells #[.int .i64 0,.int .i64 0,.int .i64 0,.int .i64 0,.slice none 0 0,.string (⟨#[]⟩:ByteArray),.slice none 0 0] 32)).alloc (.cells #[.int .i64 (-3),.int .i64 2,.int .i64 0,.int .i64 0,.slice none 0 0,.string (⟨#[]⟩:ByteArray),.slice none 0 0] 32)=W1:=⟨_,rfl⟩
  have hb1:Below w.heap.size w W1:=hW1 ▸ bA_ (bA_ (Below.refl _ _) _) _
  have hk0:W1.heap[w.heap.size]?=some (.cells #[.int .i64 0,.int .i64 0,.int .i64 0,.int .i64 0,.slice none 0 0,.string (⟨#[]⟩:ByteArray),.slice none 0 0] 32 (0,0)):=hW1 ▸ kA_ (blk_new _ _) _
  have hk1:W1.heap[w.heap.size + 1]?=some (.cells #[.int .i64 (-3),.int .i64 2,.int .i64 0,.int .i64 0,.slice none 0 0,.string (⟨#[]⟩:ByteArray),.slice none 0 0] 32 (0,0)):=hW1 ▸ new_at _ _ (by simp)
  have hz1:W1.heap.size=w.heap.size + 2:=by rw [← hW1];simp
  rw [hW1]
  clear hW1
  generalize hB0:w.heap.size=B0 at *
  have hB0':=Az.mk hB0
  clear hB0
  generalize hB1:B0 + 1=B1 at *
  have hlt01:B0 < B1:=by omega
  have c0:W1.cell? ⟨B1,0,none⟩=some (.int .i64 (-3)):=(bC_ hk1 0).trans rfl
  have c1:W1.cell? ⟨B1,1,none⟩=some (.int .i64 2):=(bC_ hk1 1).trans rfl
  have c2:W1.cell? ⟨B1,2,none⟩=some (.int .i64 0):=(bC_ hk1 2).trans rfl
  have c3:W1.cell? ⟨B1,3,none⟩=some (.int .i64 0):=(bC_ hk1 3).trans rfl
  have c4:W1.cell? ⟨B1,4,none⟩=some (.slice none 0 0):=(bC_ hk1 4).trans rfl
  have c5:W1.cell? ⟨B1,5,none⟩=some (.string (⟨#[]⟩:ByteArray)):=(bC_ hk1 5).trans rfl
  have c6:W1.cell? ⟨B1,6,none⟩=some (.slice none 0 0):=(bC_ hk1 6).trans rfl
  replace hk0:=Az.mk hk0
  replace hk1:=Az.mk hk1
  replace hb1:=Az.mk hb1
  replace hB1:=Az.mk hB1
  replace hz1:=Az.mk hz1
  have hSof:∀ w':World,Below W1.heap.size W1 w'→(w'.cell? ⟨B1,0,none⟩=some (.int .i64 (-3))∧w'.cell? ⟨B1,1,none⟩=some (.int .i64 2)∧w'.cell? ⟨B1,2,none⟩=some (.int .i64 0)∧w'.cell? ⟨B1,3,none⟩=some (.int .i64 0)∧w'.cell? ⟨B1,4,none⟩=some (.slice none 0 0)∧w'.cell? ⟨B1,5,none⟩=some (.string (⟨#[]⟩:ByteArray))∧w'.cell? ⟨B1,6,none⟩=some (.slice none 0 0)):=fun w' hb=>⟨pw_cell_below hb c0,pw_cell_below hb c1,pw_cell_below hb c2,pw_cell_below hb c3,pw_cell_below hb c4,pw_cell_below hb c5,pw_cell_below hb c6⟩
  replace hSof:=Az.mk hSof
  clear c0 c1 c2 c3 c4 c5 c6
  have hdr:Below W1.heap.size W1 W1.drew:=below_drew (Below.refl _ _)
  refine start_ (n:=8) (S:=fun w'=>w'.cell? ⟨B1,0,none⟩=some (.int .i64 (-3))∧w'.cell? ⟨B1,1,none⟩=some (.int .i64 2)∧w'.cell? ⟨B1,2,none⟩=some (.int .i64 0)∧w'.cell? ⟨B1,3,none⟩=some (.int .i64 0)∧w'.cell? ⟨B1,4,none⟩=some (.slice none 0 0)∧w'.cell? ⟨B1,5,none⟩=some (.string (⟨#[]⟩:ByteArray))∧w'.cell? ⟨B1,6,none⟩=some (.slice none 0 0)) (ds:=[7]) #[false,false,false,false,false,false,false,false] (by kernel_rfl) rfl rfl (hSof.out _ hdr) ?_
  intro hHeld
  generalize hwd:W1.drew=Wd at hdr hHeld ⊢
  clear hwd
  refine take_ (i:=0) (N:=some 5) (v:=?_) (a':=?_) #[true,false,false,false,false,false,false,false] rfl rfl (by kernel_rfl) (fun _ _ _ h=>h) (Or.inl ⟨by rfl,?_⟩) hHeld ?_ ?_
  rotate_left
  · rintro w' ⟨s0,s1,s2,s3,s4,s5,s6⟩
    go_simp
    with_reducible rfl
  rotate_left
  · simp only [Act.put,List.setIfInBounds_toArray,List.set_cons_zero,List.set_cons_succ,i64_w,i32_w]
    rfl
  refine join_ (σ:=Nat × Nat × Nat) 1 #[true,true,true,true,true,true,true,false] (fun s=>[(6,.agg #[.int .i64 2,.int .i64 (-1),.int .i64 0,.int .i64 0,.slice none 0 0,.string (⟨#[97]⟩:ByteArray),.slice none 0 0]),(7,.slice (some ⟨s.2.1,0,none⟩) 1 1),(8,.agg #[.int .i64 (-4),.int .i64 4,.int .i64 0,.int .i64 0,.slice none 0 0,.string (⟨#[]⟩:ByteArray),.slice (some ⟨s.2.1,0,none⟩) 1 1]),(9,.slice (some ⟨s.2.2,0,none⟩) 2 2),(10,.agg #[.int .i64 (-3),.int .i64 3,.int .i64 0,.int .i64 0,.slice none 0 0,.string (⟨#[]⟩:ByteArray),.slice (some ⟨s.2.2,0,none⟩) 2 2]),(2,.pointer (some ⟨s.1,0,none⟩))]) (fun s w'=>Twos W1 #[.int .i64 2,.int .i64 (-1),.int .i64 0,.int .i64 0,.slice none 0 0,.string (⟨#[97]⟩:ByteArray),.slice none 0 0] [.int .i64 (-3),.int .i64 2,.int .i64 0,.int .i64 0,.slice none 0 0,.string (⟨#[]⟩:ByteArray),.slice none 0 0] 4 s.1 s.2.1 s.2.2 w') ?cont ?orders
  case orders =>
    intro hcont
    refine two_ (i:=1) (j:=6) (Ni:=some 6) (Nj:=some 2) #[true,true,false,false,false,false,false,false] #[true,false,false,false,false,false,true,false] rfl rfl rfl rfl (by kernel_rfl) (by decide) (by decide) (fun K hK=>?_) (fun K hK=>?_)
    rotate_left
    · refine value_ (w1:=?_) (v:=?_) (by rfl) rfl ?_ ?_
      rotate_left 2
      · go_simp
        constructor
        · rfl
        rfl
      have hc10_:Below W1.heap.size W1 (Wd.alloc (.cells #[.int .i64 0,.int .i64 0,.int .i64 0,.int .i64 0,.slice none 0 0,.string (⟨#[]⟩:ByteArray),.slice none 0 0] 32)):=bA_ (hdr) _
      refine hK.out _ _ (hSof.out _ hc10_) (fun hHeld=>?_)
      clear hK K
      refine norm_ (a':=?_) ?_ ?_
      rotate_left
      · show Act.put _ (some 2) _=_
        simp only [Act.put,List.setIfInBounds_toArray,List.set_cons_zero,List.set_cons_succ,i64_w,i32_w]
        rfl
      refine one_ (i:=1) (N:=some 6) #[true,true,false,false,false,false,true,false] rfl rfl (by kernel_rfl) (by decide) (fun K hK=>?_)
      refine goes_ Try.func41 (by kernel_rfl) rfl #[.int .i64 2,.string (⟨#[97]⟩:ByteArray)] (by rfl) rfl rfl (by(try simp only [List.map_toArray,List.map_cons,List.map_nil]);first|done|rfl) ?_
      refine(leaf_calls _ _ _).mono ?_
      rintro e w11_ ⟨rfl,hb11_⟩
      have hc11_:=bT_ (hc10_) hb11_
      refine⟨_,rfl,?_⟩
      refine hK.out _ _ (hSof.out _ hc11_) (fun hHeld=>?_)
      clear hK K
      refine norm_ (a':=?_) ?_ ?_
      rotate_left
      · show Act.put _ (some 6) _=_
        simp only [Act.put,List.setIfInBounds_toArray,List.set_cons_zero,List.set_cons_succ,i64_w,i32_w]
        rfl
      refine one_ (i:=2) (N:=some 7) #[true,true,true,false,false,false,true,false] rfl rfl (by kernel_rfl) (by decide) (fun K hK=>?_)
      refine value_ (w1:=?_) (v:=?_) (by rfl) rfl ?_ ?_
      rotate_left 2
      · go_simp
        constructor
        · rfl
        rfl
      have hc12_:Below W1.heap.size W1 (w11_.alloc (.cells #[.int .i64 2,.int .i64 (-1),.int .i64 0,.int .i64 0,.slice none 0 0,.string (⟨#[97]⟩:ByteArray),.slice none 0 0] 32)):=bA_ (hc11_) _
      refine hK.out _ _ (hSof.out _ hc12_) (fun hHeld=>?_)
      clear hK K
      refine norm_ (a':=?_) ?_ ?_
      rotate_left
      · show Act.put _ (some 7) _=_
        simp only [Act.put,List.setIfInBounds_toArray,List.set_cons_zero,List.set_cons_succ,i64_w,i32_w]
        rfl
      refine pure_ (i:=3) (N:=some 8) (v:=?_) (a':=?_) #[true,true,true,true,false,false,true,false] rfl rfl (by kernel_rfl) (fun _ _ _ h=>h) (Or.inl ⟨by rfl,?_⟩) ?_ ?_
      rotate_left
      · intro w'
        go_simp
        with_reducible rfl
      rotate_left
      · simp only [Act.put,List.setIfInBounds_toArray,List.set_cons_zero,List.set_cons_succ,i64_w,i32_w]
        rfl
      refine one_ (i:=4) (N:=some 9) #[true,true,true,true,true,false,true,false] rfl rfl (by kernel_rfl) (by decide) (fun K hK=>?_)
      refine value_ (w1:=?_) (v:=?_) (by rfl) rfl ?_ ?_
      rotate_left 2
      · go_simp
        constructor
        · rfl
        rfl
      have hc13_:Below W1.heap.size W1 ((w11_.alloc (.cells #[.int .i64 2,.int .i64 (-1),.int .i64 0,.int .i64 0,.slice none 0 0,.string (⟨#[97]⟩:ByteArray),.slice none 0 0] 32)).alloc (.cells #[.int .i64 (-3),.int .i64 2,.int .i64 0,.int .i64 0,.slice none 0 0,.string (⟨#[]⟩:ByteArray),.slice none 0 0,.int .i64 (-4),.int .i64 4,.int .i64 0,.int .i64 0,.slice none 0 0,.string (⟨#[]⟩:ByteArray),.slice (some ⟨w11_.heap.size,0,none⟩) 1 1] 32)):=bA_ (hc12_) _
      refine hK.out _ _ (hSof.out _ hc13_) (fun hHeld=>?_)
      clear hK K
      refine norm_ (a':=?_) ?_ ?_
      rotate_left
      · show Act.put _ (some 9) _=_
        simp only [Act.put,List.setIfInBounds_toArray,List.set_cons_zero,List.set_cons_succ,i64_w,i32_w]
        rfl
      refine pure_ (i:=5) (N:=some 10) (v:=?_) (a':=?_) #[true,true,true,true,true,true,true,false] rfl rfl (by kernel_rfl) (fun _ _ _ h=>h) (Or.inl ⟨by rfl,?_⟩) ?_ ?_
      rotate_left
      · intro w'
        go_simp
        with_reducible rfl
      rotate_left
      · simp only [Act.put,List.setIfInBounds_toArray,List.set_cons_zero,List.set_cons_succ,i64_w,i32_w]
        rfl
      exact norm_ rfl (hcont (Wd.heap.size,w11_.heap.size,w11_.heap.size + 1) _ ⟨hc13_,(by have:=(hdr).size;simp at this ⊢;omega),(by have:=(hc11_).size;simp at this ⊢;omega),(by have:=(hc12_).size;simp at this ⊢;omega),(kA_ (kA_ (kB_ (new_at _ _ (by simp)) hb11_) _) _),(new_at _ _ (by simp)),(kA_ (new_at _ _ (by simp)) _)⟩)
    refine goes_ Try.func41 (by kernel_rfl) rfl #[.int .i64 2,.string (⟨#[97]⟩:ByteArray)] (by rfl) rfl rfl (by(try simp only [List.map_toArray,List.map_cons,List.map_nil]);first|done|rfl) ?_
    refine(leaf_calls _ _ _).mono ?_
    rintro e w1_ ⟨rfl,hb1_⟩
    have hc1_:=bT_ (hdr) hb1_
    refine⟨_,rfl,?_⟩
    refine hK.out _ _ (hSof.out _ hc1_) (fun hHeld=>?_)
    clear hK K
    refine norm_ (a':=?_) ?_ ?_
    rotate_left
    · show Act.put _ (some 6) _=_
      simp only [Act.put,List.setIfInBounds_toArray,List.set_cons_zero,List.set_cons_succ,i64_w,i32_w]
      rfl
    refine two_ (i:=2) (j:=6) (Ni:=some 7) (Nj:=some 2) #[true,true,true,false,false,false,false,false] #[true,true,false,false,false,false,true,false] rfl rfl rfl rfl (by kernel_rfl) (by decide) (by decide) (fun K hK=>?_) (fun K hK=>?_)
    rotate_left
    · refine value_ (w1:=?_) (v:=?_) (by rfl) rfl ?_ ?_
      rotate_left 2
      · go_simp
        constructor
        · rfl
        rfl
      have hc7_:Below W1.heap.size W1 (w1_.alloc (.cells #[.int .i64 0,.int .i64 0,.int .i64 0,.int .i64 0,.slice none 0 0,.string (⟨#[]⟩:ByteArray),.slice none 0 0] 32)):=bA_ (hc1_) _
      refine hK.out _ _ (hSof.out _ hc7_) (fun hHeld=>?_)
      clear hK K
      refine norm_ (a':=?_) ?_ ?_
      rotate_left
      · show Act.put _ (some 2) _=_
        simp only [Act.put,List.setIfInBounds_toArray,List.set_cons_zero,List.set_cons_succ,i64_w,i32_w]
        rfl
      refine one_ (i:=2) (N:=some 7) #[true,true,true,false,false,false,true,false] rfl rfl (by kernel_rfl) (by decide) (fun K hK=>?_)
      refine value_ (w1:=?_) (v:=?_) (by rfl) rfl ?_ ?_
      rotate_left 2
      · go_simp
        constructor
        · rfl
        rfl
      have hc8_:Below W1.heap.size W1 ((w1_.alloc (.cells #[.int .i64 0,.int .i64 0,.int .i64 0,.int .i64 0,.slice none 0 0,.string (⟨#[]⟩:ByteArray),.slice none 0 0] 32)).alloc (.cells #[.int .i64 2,.int .i64 (-1),.int .i64 0,.int .i64 0,.slice none 0 0,.string (⟨#[97]⟩:ByteArray),.slice none 0 0] 32)):=bA_ (hc7_) _
      refine hK.out _ _ (hSof.out _ hc8_) (fun hHeld=>?_)
      clear hK K
      refine norm_ (a':=?_) ?_ ?_
      rotate_left
      · show Act.put _ (some 7) _=_
        simp only [Act.put,List.setIfInBounds_toArray,List.set_cons_zero,List.set_cons_succ,i64_w,i32_w]
        rfl
      refine pure_ (i:=3) (N:=some 8) (v:=?_) (a':=?_) #[true,true,true,true,false,false,true,false] rfl rfl (by kernel_rfl) (fun _ _ _ h=>h) (Or.inl ⟨by rfl,?_⟩) ?_ ?_
      rotate_left
      · intro w'
        go_simp
        with_reducible rfl
      rotate_left
      · simp only [Act.put,List.setIfInBounds_toArray,List.set_cons_zero,List.set_cons_succ,i64_w,i32_w]
        rfl
      refine one_ (i:=4) (N:=some 9) #[true,true,true,true,true,false,true,false] rfl rfl (by kernel_rfl) (by decide) (fun K hK=>?_)
      refine value_ (w1:=?_) (v:=?_) (by rfl) rfl ?_ ?_
      rotate_left 2
      · go_simp
        constructor
        · rfl
        rfl
      have hc9_:Below W1.heap.size W1 (((w1_.alloc (.cells #[.int .i64 0,.int .i64 0,.int .i64 0,.int .i64 0,.slice none 0 0,.string (⟨#[]⟩:ByteArray),.slice none 0 0] 32)).alloc (.cells #[.int .i64 2,.int .i64 (-1),.int .i64 0,.int .i64 0,.slice none 0 0,.string (⟨#[97]⟩:ByteArray),.slice none 0 0] 32)).alloc (.cells #[.int .i64 (-3),.int .i64 2,.int .i64 0,.int .i64 0,.slice none 0 0,.string (⟨#[]⟩:ByteArray),.slice none 0 0,.int .i64 (-4),.int .i64 4,.int .i64 0,.int .i64 0,.slice none 0 0,.string (⟨#[]⟩:ByteArray),.slice (some ⟨w1_.heap.size + 1,0,none⟩) 1 1] 32)):=bA_ (hc8_) _
      refine hK.out _ _ (hSof.out _ hc9_) (fun hHeld=>?_)
      clear hK K
      refine norm_ (a':=?_) ?_ ?_
      rotate_left
      · show Act.put _ (some 9) _=_
        simp only [Act.put,List.setIfInBounds_toArray,List.set_cons_zero,List.set_cons_succ,i64_w,i32_w]
        rfl
      refine pure_ (i:=5) (N:=some 10) (v:=?_) (a':=?_) #[true,true,true,true,true,true,true,false] rfl rfl (by kernel_rfl) (fun _ _ _ h=>h) (Or.inl ⟨by rfl,?_⟩) ?_ ?_
      rotate_left
      · intro w'
        go_simp
        with_reducible rfl
      rotate_left
      · simp only [Act.put,List.setIfInBounds_toArray,List.set_cons_zero,List.set_cons_succ,i64_w,i32_w]
        rfl
      exact norm_ rfl (hcont (w1_.heap.size,w1_.heap.size + 1,w1_.heap.size + 1 + 1) _ ⟨hc9_,(by have:=(hc1_).size;simp at this ⊢;omega),(by have:=(hc7_).size;simp at this ⊢;omega),(by have:=(hc8_).size;simp at this ⊢;omega),(kA_ (kA_ (new_at _ _ (by simp)) _) _),(new_at _ _ (by simp)),(kA_ (new_at _ _ (by simp)) _)⟩)
    refine value_ (w1:=?_) (v:=?_) (by rfl) rfl ?_ ?_
    rotate_left 2
    · go_simp
      constructor
      · rfl
      rfl
    have hc2_:Below W1.heap.size W1 (w1_.alloc (.cells #[.int .i64 2,.int .i64 (-1),.int .i64 0,.int .i64 0,.slice none 0 0,.string (⟨#[97]⟩:ByteArray),.slice none 0 0] 32)):=bA_ (hc1_) _
    refine hK.out _ _ (hSof.out _ hc2_) (fun hHeld=>?_)
    clear hK K
    refine norm_ (a':=?_) ?_ ?_
    rotate_left
    · show Act.put _ (some 7) _=_
      simp only [Act.put,List.setIfInBounds_toArray,List.set_cons_zero,List.set_cons_succ,i64_w,i32_w]
      rfl
    refine pure_ (i:=3) (N:=some 8) (v:=?_) (a':=?_) #[true,true,true,true,false,false,false,false] rfl rfl (by kernel_rfl) (fun _ _ _ h=>h) (Or.inl ⟨by rfl,?_⟩) ?_ ?_
    rotate_left
    · intro w'
      go_simp
      with_reducible rfl
    rotate_left
    · simp only [Act.put,List.setIfInBounds_toArray,List.set_cons_zero,List.set_cons_succ,i64_w,i32_w]
      rfl
    refine two_ (i:=4) (j:=6) (Ni:=some 9) (Nj:=some 2) #[true,true,true,true,true,false,false,false] #[true,true,true,true,false,false,true,false] rfl rfl rfl rfl (by kernel_rfl) (by decide) (by decide) (fun K hK=>?_) (fun K hK=>?_)
    · refine value_ (w1:=?_) (v:=?_) (by rfl) rfl ?_ ?_
      rotate_left 2
      · go_simp
        constructor
        · rfl
        rfl
      have hc3_:Below W1.heap.size W1 ((w1_.alloc (.cells #[.int .i64 2,.int .i64 (-1),.int .i64 0,.int .i64 0,.slice none 0 0,.string (⟨#[97]⟩:ByteArray),.slice none 0 0] 32)).alloc (.cells #[.int .i64 (-3),.int .i64 2,.int .i64 0,.int .i64 0,.slice none 0 0,.string (⟨#[]⟩:ByteArray),.slice none 0 0,.int .i64 (-4),.int .i64 4,.int .i64 0,.int .i64 0,.slice none 0 0,.string (⟨#[]⟩:ByteArray),.slice (some ⟨w1_.heap.size,0,none⟩) 1 1] 32)):=bA_ (hc2_) _
      refine hK.out _ _ (hSof.out _ hc3_) (fun hHeld=>?_)
      clear hK K
      refine norm_ (a':=?_) ?_ ?_
      rotate_left
      · show Act.put _ (some 9) _=_
        simp only [Act.put,List.setIfInBounds_toArray,List.set_cons_zero,List.set_cons_succ,i64_w,i32_w]
        rfl
      refine pure_ (i:=5) (N:=some 10) (v:=?_) (a':=?_) #[true,true,true,true,true,true,false,false] rfl rfl (by kernel_rfl) (fun _ _ _ h=>h) (Or.inl ⟨by rfl,?_⟩) ?_ ?_
      rotate_left
      · intro w'
        go_simp
        with_reducible rfl
      rotate_left
      · simp only [Act.put,List.setIfInBounds_toArray,List.set_cons_zero,List.set_cons_succ,i64_w,i32_w]
        rfl
      refine one_ (i:=6) (N:=some 2) #[true,true,true,true,true,true,true,false] rfl rfl (by kernel_rfl) (by decide) (fun K hK=>?_)
      refine value_ (w1:=?_) (v:=?_) (by rfl) rfl ?_ ?_
      rotate_left 2
      · go_simp
        constructor
        · rfl
        rfl
      have hc4_:Below W1.heap.size W1 (((w1_.alloc (.cells #[.int .i64 2,.int .i64 (-1),.int .i64 0,.int .i64 0,.slice none 0 0,.string (⟨#[97]⟩:ByteArray),.slice none 0 0] 32)).alloc (.cells #[.int .i64 (-3),.int .i64 2,.int .i64 0,.int .i64 0,.slice none 0 0,.string (⟨#[]⟩:ByteArray),.slice none 0 0,.int .i64 (-4),.int .i64 4,.int .i64 0,.int .i64 0,.slice none 0 0,.string (⟨#[]⟩:ByteArray),.slice (some ⟨w1_.heap.size,0,none⟩) 1 1] 32)).alloc (.cells #[.int .i64 0,.int .i64 0,.int .i64 0,.int .i64 0,.slice none 0 0,.string (⟨#[]⟩:ByteArray),.slice none 0 0] 32)):=bA_ (hc3_) _
      refine hK.out _ _ (hSof.out _ hc4_) (fun hHeld=>?_)
      clear hK K
      refine norm_ (a':=?_) ?_ ?_
      rotate_left
      · show Act.put _ (some 2) _=_
        simp only [Act.put,List.setIfInBounds_toArray,List.set_cons_zero,List.set_cons_succ,i64_w,i32_w]
        rfl
      exact norm_ rfl (hcont (w1_.heap.size + 1 + 1,w1_.heap.size,w1_.heap.size + 1) _ ⟨hc4_,(by have:=(hc3_).size;simp at this ⊢;omega),(by have:=(hc1_).size;simp at this ⊢;omega),(by have:=(hc2_).size;simp at this ⊢;omega),(new_at _ _ (by simp)),(kA_ (new_at _ _ (by simp)) _),(kA_ (kA_ (new_at _ _ (by simp)) _) _)⟩)
    refine value_ (w1:=?_) (v:=?_) (by rfl) rfl ?_ ?_
    rotate_left 2
    · go_simp
      constructor
      · rfl
      rfl
    have hc5_:Below W1.heap.size W1 ((w1_.alloc (.cells #[.int .i64 2,.int .i64 (-1),.int .i64 0,.int .i64 0,.slice none 0 0,.string (⟨#[97]⟩:ByteArray),.slice none 0 0] 32)).alloc (.cells #[.int .i64 0,.int .i64 0,.int .i64 0,.int .i64 0,.slice none 0 0,.string (⟨#[]⟩:ByteArray),.slice none 0 0] 32)):=bA_ (hc2_) _
    refine hK.out _ _ (hSof.out _ hc5_) (fun hHeld=>?_)
    clear hK K
    refine norm_ (a':=?_) ?_ ?_
    rotate_left
    · show Act.put _ (some 2) _=_
      simp only [Act.put,List.setIfInBounds_toArray,List.set_cons_zero,List.set_cons_succ,i64_w,i32_w]
      rfl
    refine one_ (i:=4) (N:=some 9) #[true,true,true,true,true,false,true,false] rfl rfl (by kernel_rfl) (by decide) (fun K hK=>?_)
    refine value_ (w1:=?_) (v:=?_) (by rfl) rfl ?_ ?_
    rotate_left 2
    · go_simp
      constructor
      · rfl
      rfl
    have hc6_:Below W1.heap.size W1 (((w1_.alloc (.cells #[.int .i64 2,.int .i64 (-1),.int .i64 0,.int .i64 0,.slice none 0 0,.string (⟨#[97]⟩:ByteArray),.slice none 0 0] 32)).alloc (.cells #[.int .i64 0,.int .i64 0,.int .i64 0,.int .i64 0,.slice none 0 0,.string (⟨#[]⟩:ByteArray),.slice none 0 0] 32)).alloc (.cells #[.int .i64 (-3),.int .i64 2,.int .i64 0,.int .i64 0,.slice none 0 0,.string (⟨#[]⟩:ByteArray),.slice none 0 0,.int .i64 (-4),.int .i64 4,.int .i64 0,.int .i64 0,.slice none 0 0,.string (⟨#[]⟩:ByteArray),.slice (some ⟨w1_.heap.size,0,none⟩) 1 1] 32)):=bA_ (hc5_) _
    refine hK.out _ _ (hSof.out _ hc6_) (fun hHeld=>?_)
    clear hK K
    refine norm_ (a':=?_) ?_ ?_
    rotate_left
    · show Act.put _ (some 9) _=_
      simp only [Act.put,List.setIfInBounds_toArray,List.set_cons_zero,List.set_cons_succ,i64_w,i32_w]
      rfl
    refine pure_ (i:=5) (N:=some 10) (v:=?_) (a':=?_) #[true,true,true,true,true,true,true,false] rfl rfl (by kernel_rfl) (fun _ _ _ h=>h) (Or.inl ⟨by rfl,?_⟩) ?_ ?_
    rotate_left
    · intro w'
      go_simp
      with_reducible rfl
    rotate_left
    · simp only [Act.put,List.setIfInBounds_toArray,List.set_cons_zero,List.set_cons_succ,i64_w,i32_w]
      rfl
    exact norm_ rfl (hcont (w1_.heap.size + 1,w1_.heap.size,w1_.heap.size + 1 + 1) _ ⟨hc6_,(by have:=(hc2_).size;simp at this ⊢;omega),(by have:=(hc1_).size;simp at this ⊢;omega),(by have:=(hc5_).size;simp at this ⊢;omega),(kA_ (new_at _ _ (by simp)) _),(new_at _ _ (by simp)),(kA_ (kA_ (new_at _ _ (by simp)) _) _)⟩)
  case cont =>
    rintro⟨Ba,ga1,ga2⟩ wz ⟨za1,za2,za3,za4,za5,za6,za7⟩
    refine norm_ (a':=?_) ?_ ?_
    rotate_left
    · simp only [putAll,Act.put,List.setIfInBounds_toArray,List.set_cons_zero,List.set_cons_succ,i64_w,i32_w]
      rfl
    have e0:wz.cell? ⟨Ba,0,none⟩=some (.int .i64 0):=(bC_ za5 0).trans rfl
    have f0:=bF_ za5 0
    have e1:wz.cell? ⟨Ba,1,none⟩=some (.int .i64 0):=(bC_ za5 1).trans rfl
    have f1:=bF_ za5 1
    have e2:wz.cell? ⟨Ba,2,none⟩=some (.int .i64 0):=(bC_ za5 2).trans rfl
    have f2:=bF_ za5 2
    have e3:wz.cell? ⟨Ba,3,none⟩=some (.int .i64 0):=(bC_ za5 3).trans rfl
    have f3:=bF_ za5 3
    have e4:wz.cell? ⟨Ba,4,none⟩=some (.slice none 0 0):=(bC_ za5 4).trans rfl
    have f4:=bF_ za5 4
    have e5:wz.cell? ⟨Ba,5,none⟩=some (.string (⟨#[]⟩:ByteArray)):=(bC_ za5 5).trans rfl
    have f5:=bF_ za5 5
    have e6:wz.cell? ⟨Ba,6,none⟩=some (.slice none 0 0):=(bC_ za5 6).trans rfl
    have f6:=bF_ za5 6
    replace za5:=Az.mk za5
    replace za6:=Az.mk za6
    replace za7:=Az.mk za7
    refine last_ (i:=7) (N:=none) #[true,true,true,true,true,true,true,true] rfl rfl (by kernel_rfl) (by decide) (fun K hK=>?_)
    refine skip_ (w1:=?_) (by rfl) rfl ?_ ?_
    rotate_left
    · go_simp
      rfl
    refine hK.out _ _ ?_
    clear hK K
    refine done_ (by kernel_rfl) ?_
    have na1:ga1≠Ba:=fun e=>by have h1:=za7.out;rw [e,za5.out] at h1;simp at h1
    have na2:ga2≠Ba:=fun e=>by have h1:=za6.out;rw [e,za5.out] at h1;simp at h1
    have na3:ga1≠ga2:=fun e=>by have h1:=za7.out;rw [e,za6.out] at h1;simp at h1
    have kaB:=kP_ (kP_ (kP_ (kP_ (kP_ (kP_ (kP_ (za5.out) 0 (.int .i64 (-3)) rfl) 1 (.int .i64 3) rfl) 2 (.int .i64 0) rfl) 3 (.int .i64 0) rfl) 4 (.slice none 0 0) rfl) 5 (.string (⟨#[]⟩:ByteArray)) rfl) 6 (.slice (some ⟨ga2,0,none⟩) 2 2) rfl
    have ka1:=kF_ (kF_ (kF_ (kF_ (kF_ (kF_ (kF_ (za7.out) (p:=⟨Ba,0,none⟩) na1 (.int .i64 (-3))) (p:=⟨Ba,1,none⟩) na1 (.int .i64 3)) (p:=⟨Ba,2,none⟩) na1 (.int .i64 0)) (p:=⟨Ba,3,none⟩) na1 (.int .i64 0)) (p:=⟨Ba,4,none⟩) na1 (.slice none 0 0)) (p:=⟨Ba,5,none⟩) na1 (.string (⟨#[]⟩:ByteArray))) (p:=⟨Ba,6,none⟩) na1 (.slice (some ⟨ga2,0,none⟩) 2 2)
    have ka2:=kF_ (kF_ (kF_ (kF_ (kF_ (kF_ (kF_ (za6.out) (p:=⟨Ba,0,none⟩) na2 (.int .i64 (-3))) (p:=⟨Ba,1,none⟩) na2 (.int .i64 3)) (p:=⟨Ba,2,none⟩) na2 (.int .i64 0)) (p:=⟨Ba,3,none⟩) na2 (.int .i64 0)) (p:=⟨Ba,4,none⟩) na2 (.slice none 0 0)) (p:=⟨Ba,5,none⟩) na2 (.string (⟨#[]⟩:ByteArray))) (p:=⟨Ba,6,none⟩) na2 (.slice (some ⟨ga2,0,none⟩) 2 2)
    have hbna:=bS_ (bS_ (bS_ (bS_ (bS_ (bS_ (bS_ (za1) (j:=0) (v:=.int .i64 (-3)) za2) (j:=1) (v:=.int .i64 3) za2) (j:=2) (v:=.int .i64 0) za2) (j:=3) (v:=.int .i64 0) za2) (j:=4) (v:=.slice none 0 0) za2) (j:=5) (v:=.string (⟨#[]⟩:ByteArray)) za2) (j:=6) (v:=.slice (some ⟨ga2,0,none⟩) 2 2) za2
    clear e0 f0 e1 f1 e2 f2 e3 f3 e4 f4 e5 f5 e6 f6
    generalize hWn:(((((((wz.setCell ⟨Ba,0,none⟩ (.int .i64 (-3))).setCell ⟨Ba,1,none⟩ (.int .i64 3)).setCell ⟨Ba,2,none⟩ (.int .i64 0)).setCell ⟨Ba,3,none⟩ (.int .i64 0)).setCell ⟨Ba,4,none⟩ (.slice none 0 0)).setCell ⟨Ba,5,none⟩ (.string (⟨#[]⟩:ByteArray))).setCell ⟨Ba,6,none⟩ (.slice (some ⟨ga2,0,none⟩) 2 2))=W2 at *
    clear hWn za5 za6 za7 hSof hdr
    have c0:W2.cell? ⟨Ba,0,none⟩=some (.int .i64 (-3)):=(bC_ kaB 0).trans rfl
    have c1:W2.cell? ⟨Ba,1,none⟩=some (.int .i64 3):=(bC_ kaB 1).trans rfl
    have c2:W2.cell? ⟨Ba,2,none⟩=some (.int .i64 0):=(bC_ kaB 2).trans rfl
    have c3:W2.cell? ⟨Ba,3,none⟩=some (.int .i64 0):=(bC_ kaB 3).trans rfl
    have c4:W2.cell? ⟨Ba,4,none⟩=some (.slice none 0 0):=(bC_ kaB 4).trans rfl
    have c5:W2.cell? ⟨Ba,5,none⟩=some (.string (⟨#[]⟩:ByteArray)):=(bC_ kaB 5).trans rfl
    have c6:W2.cell? ⟨Ba,6,none⟩=some (.slice (some ⟨ga2,0,none⟩) 2 2):=(bC_ kaB 6).trans rfl
    have la2:=blk_lt ka2
    have la1:=blk_lt ka1
    have laB:=blk_lt kaB
    replace kaB:=Az.mk kaB
    replace ka1:=Az.mk ka1
    replace ka2:=Az.mk ka2
    replace hbna:=Az.mk hbna
    replace za2:=Az.mk za2
    replace za3:=Az.mk za3
    replace za4:=Az.mk za4
    replace na1:=Az.mk na1
    replace na2:=Az.mk na2
    replace na3:=Az.mk na3
    replace la1:=Az.mk la1
    replace la2:=Az.mk la2
    replace laB:=Az.mk laB
    go_wp2
    have hSof:∀ w':World,Below W2.heap.size W2 w'→(w'.cell? ⟨Ba,0,none⟩=some (.int .i64 (-3))∧w'.cell? ⟨Ba,1,none⟩=some (.int .i64 3)∧w'.cell? ⟨Ba,2,none⟩=some (.int .i64 0)∧w'.cell? ⟨Ba,3,none⟩=some (.int .i64 0)∧w'.cell? ⟨Ba,4,none⟩=some (.slice none 0 0)∧w'.cell? ⟨Ba,5,none⟩=some (.string (⟨#[]⟩:ByteArray))∧w'.cell? ⟨Ba,6,none⟩=some (.slice (some ⟨ga2,0,none⟩) 2 2)):=fun w' hb=>⟨pw_cell_below hb c0,pw_cell_below hb c1,pw_cell_below hb c2,pw_cell_below hb c3,pw_cell_below hb c4,pw_cell_below hb c5,pw_cell_below hb c6⟩
    replace hSof:=Az.mk hSof
    clear c0 c1 c2 c3 c4 c5 c6
    have hdr:Below W2.heap.size W2 W2.drew:=below_drew (Below.refl _ _)
    refine start_ (n:=8) (S:=fun w'=>w'.cell? ⟨Ba,0,none⟩=some (.int .i64 (-3))∧w'.cell? ⟨Ba,1,none⟩=some (.int .i64 3)∧w'.cell? ⟨Ba,2,none⟩=some (.int .i64 0)∧w'.cell? ⟨Ba,3,none⟩=some (.int .i64 0)∧w'.cell? ⟨Ba,4,none⟩=some (.slice none 0 0)∧w'.cell? ⟨Ba,5,none⟩=some (.string (⟨#[]⟩:ByteArray))∧w'.cell? ⟨Ba,6,none⟩=some (.slice (some ⟨ga2,0,none⟩) 2 2)) (ds:=[7]) #[false,false,false,false,false,false,false,false] (by kernel_rfl) rfl rfl (hSof.out _ hdr) ?_
    intro hHeld
    generalize hwd:W2.drew=Wd at hdr hHeld ⊢
    clear hwd
    refine take_ (i:=0) (N:=some 11) (v:=?_) (a':=?_) #[true,false,false,false,false,false,false,false] rfl rfl (by kernel_rfl) (fun _ _ _ h=>h) (Or.inl ⟨by rfl,?_⟩) hHeld ?_ ?_
    rotate_left
    · rintro w' ⟨s0,s1,s2,s3,s4,s5,s6⟩
      go_simp
      with_reducible rfl
    rotate_left
    · simp only [Act.put,List.setIfInBounds_toArray,List.set_cons_zero,List.set_cons_succ,i64_w,i32_w]
      rfl
    refine join_ (σ:=Nat × Nat × Nat) 1 #[true,true,true,true,true,true,true,false] (fun s=>[(12,.agg #[.int .i64 3,.int .i64 (-1),.int .i64 0,.int .i64 0,.slice none 0 0,.string (⟨#[98]⟩:ByteArray),.slice none 0 0]),(13,.slice (some ⟨s.2.1,0,none⟩) 1 1),(14,.agg #[.int .i64 (-4),.int .i64 5,.int .i64 0,.int .i64 0,.slice none 0 0,.string (⟨#[]⟩:ByteArray),.slice (some ⟨s.2.1,0,none⟩) 1 1]),(15,.slice (some ⟨s.2.2,0,none⟩) 2 2),(16,.agg #[.int .i64 (-3),.int .i64 3,.int .i64 0,.int .i64 0,.slice none 0 0,.string (⟨#[]⟩:ByteArray),.slice (some ⟨s.2.2,0,none⟩) 2 2]),(3,.pointer (some ⟨s.1,0,none⟩))]) (fun s w'=>Twos W2 #[.int .i64 3,.int .i64 (-1),.int .i64 0,.int .i64 0,.slice none 0 0,.string (⟨#[98]⟩:ByteArray),.slice none 0 0] [.int .i64 (-3),.int .i64 3,.int .i64 0,.int .i64 0,.slice none 0 0,.string (⟨#[]⟩:ByteArray),.slice (some ⟨ga2,0,none⟩) 2 2] 5 s.1 s.2.1 s.2.2 w') ?cont ?orders
    case orders =>
      intro hcont
      refine two_ (i:=1) (j:=6) (Ni:=some 12) (Nj:=some 3) #[true,true,false,false,false,false,false,false] #[true,false,false,false,false,false,true,false] rfl rfl rfl rfl (by kernel_rfl) (by decide) (by decide) (fun K hK=>?_) (fun K hK=>?_)
      rotate_left
      · refine value_ (w1:=?_) (v:=?_) (by rfl) rfl ?_ ?_
        rotate_left 2
        · go_simp
          constructor
          · rfl
          rfl
        have hc10_:Below W2.heap.size W2 (Wd.alloc (.cells #[.int .i64 0,.int .i64 0,.int .i64 0,.int .i64 0,.slice none 0 0,.string (⟨#[]⟩:ByteArray),.slice none 0 0] 32)):=bA_ (hdr) _
        refine hK.out _ _ (hSof.out _ hc10_) (fun hHeld=>?_)
        clear hK K
        refine norm_ (a':=?_) ?_ ?_
        rotate_left
        · show Act.put _ (some 3) _=_
          simp only [Act.put,List.setIfInBounds_toArray,List.set_cons_zero,List.set_cons_succ,i64_w,i32_w]
          rfl
        refine one_ (i:=1) (N:=some 12) #[true,true,false,false,false,false,true,false] rfl rfl (by kernel_rfl) (by decide) (fun K hK=>?_)
        refine goes_ Try.func41 (by kernel_rfl) rfl #[.int .i64 3,.string (⟨#[98]⟩:ByteArray)] (by rfl) rfl rfl (by(try simp only [List.map_toArray,List.map_cons,List.map_nil]);first|done|rfl) ?_
        refine(leaf_calls _ _ _).mono ?_
        rintro e w11_ ⟨rfl,hb11_⟩
        have hc11_:=bT_ (hc10_) hb11_
        refine⟨_,rfl,?_⟩
        refine hK.out _ _ (hSof.out _ hc11_) (fun hHeld=>?_)
        clear hK K
        refine norm_ (a':=?_) ?_ ?_
        rotate_left
        · show Act.put _ (some 12) _=_
          simp only [Act.put,List.setIfInBounds_toArray,List.set_cons_zero,List.set_cons_succ,i64_w,i32_w]
          rfl
        refine one_ (i:=2) (N:=some 13) #[true,true,true,false,false,false,true,false] rfl rfl (by kernel_rfl) (by decide) (fun K hK=>?_)
        refine value_ (w1:=?_) (v:=?_) (by rfl) rfl ?_ ?_
        rotate_left 2
        · go_simp
          constructor
          · rfl
          rfl
        have hc12_:Below W2.heap.size W2 (w11_.alloc (.cells #[.int .i64 3,.int .i64 (-1),.int .i64 0,.int .i64 0,.slice none 0 0,.string (⟨#[98]⟩:ByteArray),.slice none 0 0] 32)):=bA_ (hc11_) _
        refine hK.out _ _ (hSof.out _ hc12_) (fun hHeld=>?_)
        clear hK K
        refine norm_ (a':=?_) ?_ ?_
        rotate_left
        · show Act.put _ (some 13) _=_
          simp only [Act.put,List.setIfInBounds_toArray,List.set_cons_zero,List.set_cons_succ,i64_w,i32_w]
          rfl
        refine pure_ (i:=3) (N:=some 14) (v:=?_) (a':=?_) #[true,true,true,true,false,false,true,false] rfl rfl (by kernel_rfl) (fun _ _ _ h=>h) (Or.inl ⟨by rfl,?_⟩) ?_ ?_
        rotate_left
        · intro w'
          go_simp
          with_reducible rfl
        rotate_left
        · simp only [Act.put,List.setIfInBounds_toArray,List.set_cons_zero,List.set_cons_succ,i64_w,i32_w]
          rfl
        refine one_ (i:=4) (N:=some 15) #[true,true,true,true,true,false,true,false] rfl rfl (by kernel_rfl) (by decide) (fun K hK=>?_)
        refine value_ (w1:=?_) (v:=?_) (by rfl) rfl ?_ ?_
        rotate_left 2
        · go_simp
          constructor
          · rfl
          rfl
        have hc13_:Below W2.heap.size W2 ((w11_.alloc (.cells #[.int .i64 3,.int .i64 (-1),.int .i64 0,.int .i64 0,.slice none 0 0,.string (⟨#[98]⟩:ByteArray),.slice none 0 0] 32)).alloc (.cells #[.int .i64 (-3),.int .i64 3,.int .i64 0,.int .i64 0,.slice none 0 0,.string (⟨#[]⟩:ByteArray),.slice (some ⟨ga2,0,none⟩) 2 2,.int .i64 (-4),.int .i64 5,.int .i64 0,.int .i64 0,.slice none 0 0,.string (⟨#[]⟩:ByteArray),.slice (some ⟨w11_.heap.size,0,none⟩) 1 1] 32)):=bA_ (hc12_) _
        refine hK.out _ _ (hSof.out _ hc13_) (fun hHeld=>?_)
        clear hK K
        refine norm_ (a':=?_) ?_ ?_
        rotate_left
        · show Act.put _ (some 15) _=_
          simp only [Act.put,List.setIfInBounds_toArray,List.set_cons_zero,List.set_cons_succ,i64_w,i32_w]
          rfl
        refine pure_ (i:=5) (N:=some 16) (v:=?_) (a':=?_) #[true,true,true,true,true,true,true,false] rfl rfl (by kernel_rfl) (fun _ _ _ h=>h) (Or.inl ⟨by rfl,?_⟩) ?_ ?_
        rotate_left
        · intro w'
          go_simp
          with_reducible rfl
        rotate_left
        · simp only [Act.put,List.setIfInBounds_toArray,List.set_cons_zero,List.set_cons_succ,i64_w,i32_w]
          rfl
        exact norm_ rfl (hcont (Wd.heap.size,w11_.heap.size,w11_.heap.size + 1) _ ⟨hc13_,(by have:=(hdr).size;simp at this ⊢;omega),(by have:=(hc11_).size;simp at this ⊢;omega),(by have:=(hc12_).size;simp at this ⊢;omega),(kA_ (kA_ (kB_ (new_at _ _ (by simp)) hb11_) _) _),(new_at _ _ (by simp)),(kA_ (new_at _ _ (by simp)) _)⟩)
      refine goes_ Try.func41 (by kernel_rfl) rfl #[.int .i64 3,.string (⟨#[98]⟩:ByteArray)] (by rfl) rfl rfl (by(try simp only [List.map_toArray,List.map_cons,List.map_nil]);first|done|rfl) ?_
      refine(leaf_calls _ _ _).mono ?_
      rintro e w1_ ⟨rfl,hb1_⟩
      have hc1_:=bT_ (hdr) hb1_
      refine⟨_,rfl,?_⟩
      refine hK.out _ _ (hSof.out _ hc1_) (fun hHeld=>?_)
      clear hK K
      refine norm_ (a':=?_) ?_ ?_
      rotate_left
      · show Act.put _ (some 12) _=_
        simp only [Act.put,List.setIfInBounds_toArray,List.set_cons_zero,List.set_cons_succ,i64_w,i32_w]
        rfl
      refine two_ (i:=2) (j:=6) (Ni:=some 13) (Nj:=some 3) #[true,true,true,false,false,false,false,false] #[true,true,false,false,false,false,true,false] rfl rfl rfl rfl (by kernel_rfl) (by decide) (by decide) (fun K hK=>?_) (fun K hK=>?_)
      rotate_left
      · refine value_ (w1:=?_) (v:=?_) (by rfl) rfl ?_ ?_
        rotate_left 2
        · go_simp
          constructor
          · rfl
          rfl
        have hc7_:Below W2.heap.size W2 (w1_.alloc (.cells #[.int .i64 0,.int .i64 0,.int .i64 0,.int .i64 0,.slice none 0 0,.string (⟨#[]⟩:ByteArray),.slice none 0 0] 32)):=bA_ (hc1_) _
        refine hK.out _ _ (hSof.out _ hc7_) (fun hHeld=>?_)
        clear hK K
        refine norm_ (a':=?_) ?_ ?_
        rotate_left
        · show Act.put _ (some 3) _=_
          simp only [Act.put,List.setIfInBounds_toArray,List.set_cons_zero,List.set_cons_succ,i64_w,i32_w]
          rfl
        refine one_ (i:=2) (N:=some 13) #[true,true,true,false,false,false,true,false] rfl rfl (by kernel_rfl) (by decide) (fun K hK=>?_)
        refine value_ (w1:=?_) (v:=?_) (by rfl) rfl ?_ ?_
        rotate_left 2
        · go_simp
          constructor
          · rfl
          rfl
        have hc8_:Below W2.heap.size W2 ((w1_.alloc (.cells #[.int .i64 0,.int .i64 0,.int .i64 0,.int .i64 0,.slice none 0 0,.string (⟨#[]⟩:ByteArray),.slice none 0 0] 32)).alloc (.cells #[.int .i64 3,.int .i64 (-1),.int .i64 0,.int .i64 0,.slice none 0 0,.string (⟨#[98]⟩:ByteArray),.slice none 0 0] 32)):=bA_ (hc7_) _
        refine hK.out _ _ (hSof.out _ hc8_) (fun hHeld=>?_)
        clear hK K
        refine norm_ (a':=?_) ?_ ?_
        rotate_left
        · show Act.put _ (some 13) _=_
          simp only [Act.put,List.setIfInBounds_toArray,List.set_cons_zero,List.set_cons_succ,i64_w,i32_w]
          rfl
        refine pure_ (i:=3) (N:=some 14) (v:=?_) (a':=?_) #[true,true,true,true,false,false,true,false] rfl rfl (by kernel_rfl) (fun _ _ _ h=>h) (Or.inl ⟨by rfl,?_⟩) ?_ ?_
        rotate_left
        · intro w'
          go_simp
          with_reducible rfl
        rotate_left
        · simp only [Act.put,List.setIfInBounds_toArray,List.set_cons_zero,List.set_cons_succ,i64_w,i32_w]
          rfl
        refine one_ (i:=4) (N:=some 15) #[true,true,true,true,true,false,true,false] rfl rfl (by kernel_rfl) (by decide) (fun K hK=>?_)
        refine value_ (w1:=?_) (v:=?_) (by rfl) rfl ?_ ?_
        rotate_left 2
        · go_simp
          constructor
          · rfl
          rfl
        have hc9_:Below W2.heap.size W2 (((w1_.alloc (.cells #[.int .i64 0,.int .i64 0,.int .i64 0,.int .i64 0,.slice none 0 0,.string (⟨#[]⟩:ByteArray),.slice none 0 0] 32)).alloc (.cells #[.int .i64 3,.int .i64 (-1),.int .i64 0,.int .i64 0,.slice none 0 0,.string (⟨#[98]⟩:ByteArray),.slice none 0 0] 32)).alloc (.cells #[.int .i64 (-3),.int .i64 3,.int .i64 0,.int .i64 0,.slice none 0 0,.string (⟨#[]⟩:ByteArray),.slice (some ⟨ga2,0,none⟩) 2 2,.int .i64 (-4),.int .i64 5,.int .i64 0,.int .i64 0,.slice none 0 0,.string (⟨#[]⟩:ByteArray),.slice (some ⟨w1_.heap.size + 1,0,none⟩) 1 1] 32)):=bA_ (hc8_) _
        refine hK.out _ _ (hSof.out _ hc9_) (fun hHeld=>?_)
        clear hK K
        refine norm_ (a':=?_) ?_ ?_
        rotate_left
        · show Act.put _ (some 15) _=_
          simp only [Act.put,List.setIfInBounds_toArray,List.set_cons_zero,List.set_cons_succ,i64_w,i32_w]
          rfl
        refine pure_ (i:=5) (N:=some 16) (v:=?_) (a':=?_) #[true,true,true,true,true,true,true,false] rfl rfl (by kernel_rfl) (fun _ _ _ h=>h) (Or.inl ⟨by rfl,?_⟩) ?_ ?_
        rotate_left
        · intro w'
          go_simp
          with_reducible rfl
        rotate_left
        · simp only [Act.put,List.setIfInBounds_toArray,List.set_cons_zero,List.set_cons_succ,i64_w,i32_w]
          rfl
        exact norm_ rfl (hcont (w1_.heap.size,w1_.heap.size + 1,w1_.heap.size + 1 + 1) _ ⟨hc9_,(by have:=(hc1_).size;simp at this ⊢;omega),(by have:=(hc7_).size;simp at this ⊢;omega),(by have:=(hc8_).size;simp at this ⊢;omega),(kA_ (kA_ (new_at _ _ (by simp)) _) _),(new_at _ _ (by simp)),(kA_ (new_at _ _ (by simp)) _)⟩)
      refine value_ (w1:=?_) (v:=?_) (by rfl) rfl ?_ ?_
      rotate_left 2
      · go_simp
        constructor
        · rfl
        rfl
      have hc2_:Below W2.heap.size W2 (w1_.alloc (.cells #[.int .i64 3,.int .i64 (-1),.int .i64 0,.int .i64 0,.slice none 0 0,.string (⟨#[98]⟩:ByteArray),.slice none 0 0] 32)):=bA_ (hc1_) _
      refine hK.out _ _ (hSof.out _ hc2_) (fun hHeld=>?_)
      clear hK K
      refine norm_ (a':=?_) ?_ ?_
      rotate_left
      · show Act.put _ (some 13) _=_
        simp only [Act.put,List.setIfInBounds_toArray,List.set_cons_zero,List.set_cons_succ,i64_w,i32_w]
        rfl
      refine pure_ (i:=3) (N:=some 14) (v:=?_) (a':=?_) #[true,true,true,true,false,false,false,false] rfl rfl (by kernel_rfl) (fun _ _ _ h=>h) (Or.inl ⟨by rfl,?_⟩) ?_ ?_
      rotate_left
      · intro w'
        go_simp
        with_reducible rfl
      rotate_left
      · simp only [Act.put,List.setIfInBounds_toArray,List.set_cons_zero,List.set_cons_succ,i64_w,i32_w]
        rfl
      refine two_ (i:=4) (j:=6) (Ni:=some 15) (Nj:=some 3) #[true,true,true,true,true,false,false,false] #[true,true,true,true,false,false,true,false] rfl rfl rfl rfl (by kernel_rfl) (by decide) (by decide) (fun K hK=>?_) (fun K hK=>?_)
      · refine value_ (w1:=?_) (v:=?_) (by rfl) rfl ?_ ?_
        rotate_left 2
        · go_simp
          constructor
          · rfl
          rfl
        have hc3_:Below W2.heap.size W2 ((w1_.alloc (.cells #[.int .i64 3,.int .i64 (-1),.int .i64 0,.int .i64 0,.slice none 0 0,.string (⟨#[98]⟩:ByteArray),.slice none 0 0] 32)).alloc (.cells #[.int .i64 (-3),.int .i64 3,.int .i64 0,.int .i64 0,.slice none 0 0,.string (⟨#[]⟩:ByteArray),.slice (some ⟨ga2,0,none⟩) 2 2,.int .i64 (-4),.int .i64 5,.int .i64 0,.int .i64 0,.slice none 0 0,.string (⟨#[]⟩:ByteArray),.slice (some ⟨w1_.heap.size,0,none⟩) 1 1] 32)):=bA_ (hc2_) _
        refine hK.out _ _ (hSof.out _ hc3_) (fun hHeld=>?_)
        clear hK K
        refine norm_ (a':=?_) ?_ ?_
        rotate_left
        · show Act.put _ (some 15) _=_
          simp only [Act.put,List.setIfInBounds_toArray,List.set_cons_zero,List.set_cons_succ,i64_w,i32_w]
          rfl
        refine pure_ (i:=5) (N:=some 16) (v:=?_) (a':=?_) #[true,true,true,true,true,true,false,false] rfl rfl (by kernel_rfl) (fun _ _ _ h=>h) (Or.inl ⟨by rfl,?_⟩) ?_ ?_
        rotate_left
        · intro w'
          go_simp
          with_reducible rfl
        rotate_left
        · simp only [Act.put,List.setIfInBounds_toArray,List.set_cons_zero,List.set_cons_succ,i64_w,i32_w]
          rfl
        refine one_ (i:=6) (N:=some 3) #[true,true,true,true,true,true,true,false] rfl rfl (by kernel_rfl) (by decide) (fun K hK=>?_)
        refine value_ (w1:=?_) (v:=?_) (by rfl) rfl ?_ ?_
        rotate_left 2
        · go_simp
          constructor
          · rfl
          rfl
        have hc4_:Below W2.heap.size W2 (((w1_.alloc (.cells #[.int .i64 3,.int .i64 (-1),.int .i64 0,.int .i64 0,.slice none 0 0,.string (⟨#[98]⟩:ByteArray),.slice none 0 0] 32)).alloc (.cells #[.int .i64 (-3),.int .i64 3,.int .i64 0,.int .i64 0,.slice none 0 0,.string (⟨#[]⟩:ByteArray),.slice (some ⟨ga2,0,none⟩) 2 2,.int .i64 (-4),.int .i64 5,.int .i64 0,.int .i64 0,.slice none 0 0,.string (⟨#[]⟩:ByteArray),.slice (some ⟨w1_.heap.size,0,none⟩) 1 1] 32)).alloc (.cells #[.int .i64 0,.int .i64 0,.int .i64 0,.int .i64 0,.slice none 0 0,.string (⟨#[]⟩:ByteArray),.slice none 0 0] 32)):=bA_ (hc3_) _
        refine hK.out _ _ (hSof.out _ hc4_) (fun hHeld=>?_)
        clear hK K
        refine norm_ (a':=?_) ?_ ?_
        rotate_left
        · show Act.put _ (some 3) _=_
          simp only [Act.put,List.setIfInBounds_toArray,List.set_cons_zero,List.set_cons_succ,i64_w,i32_w]
          rfl
        exact norm_ rfl (hcont (w1_.heap.size + 1 + 1,w1_.heap.size,w1_.heap.size + 1) _ ⟨hc4_,(by have:=(hc3_).size;simp at this ⊢;omega),(by have:=(hc1_).size;simp at this ⊢;omega),(by have:=(hc2_).size;simp at this ⊢;omega),(new_at _ _ (by simp)),(kA_ (new_at _ _ (by simp)) _),(kA_ (kA_ (new_at _ _ (by simp)) _) _)⟩)
      refine value_ (w1:=?_) (v:=?_) (by rfl) rfl ?_ ?_
      rotate_left 2
      · go_simp
        constructor
        · rfl
        rfl
      have hc5_:Below W2.heap.size W2 ((w1_.alloc (.cells #[.int .i64 3,.int .i64 (-1),.int .i64 0,.int .i64 0,.slice none 0 0,.string (⟨#[98]⟩:ByteArray),.slice none 0 0] 32)).alloc (.cells #[.int .i64 0,.int .i64 0,.int .i64 0,.int .i64 0,.slice none 0 0,.string (⟨#[]⟩:ByteArray),.slice none 0 0] 32)):=bA_ (hc2_) _
      refine hK.out _ _ (hSof.out _ hc5_) (fun hHeld=>?_)
      clear hK K
      refine norm_ (a':=?_) ?_ ?_
      rotate_left
      · show Act.put _ (some 3) _=_
        simp only [Act.put,List.setIfInBounds_toArray,List.set_cons_zero,List.set_cons_succ,i64_w,i32_w]
        rfl
      refine one_ (i:=4) (N:=some 15) #[true,true,true,true,true,false,true,false] rfl rfl (by kernel_rfl) (by decide) (fun K hK=>?_)
      refine value_ (w1:=?_) (v:=?_) (by rfl) rfl ?_ ?_
      rotate_left 2
      · go_simp
        constructor
        · rfl
        rfl
      have hc6_:Below W2.heap.size W2 (((w1_.alloc (.cells #[.int .i64 3,.int .i64 (-1),.int .i64 0,.int .i64 0,.slice none 0 0,.string (⟨#[98]⟩:ByteArray),.slice none 0 0] 32)).alloc (.cells #[.int .i64 0,.int .i64 0,.int .i64 0,.int .i64 0,.slice none 0 0,.string (⟨#[]⟩:ByteArray),.slice none 0 0] 32)).alloc (.cells #[.int .i64 (-3),.int .i64 3,.int .i64 0,.int .i64 0,.slice none 0 0,.string (⟨#[]⟩:ByteArray),.slice (some ⟨ga2,0,none⟩) 2 2,.int .i64 (-4),.int .i64 5,.int .i64 0,.int .i64 0,.slice none 0 0,.string (⟨#[]⟩:ByteArray),.slice (some ⟨w1_.heap.size,0,none⟩) 1 1] 32)):=bA_ (hc5_) _
      refine hK.out _ _ (hSof.out _ hc6_) (fun hHeld=>?_)
      clear hK K
      refine norm_ (a':=?_) ?_ ?_
      rotate_left
      · show Act.put _ (some 15) _=_
        simp only [Act.put,List.setIfInBounds_toArray,List.set_cons_zero,List.set_cons_succ,i64_w,i32_w]
        rfl
      refine pure_ (i:=5) (N:=some 16) (v:=?_) (a':=?_) #[true,true,true,true,true,true,true,false] rfl rfl (by kernel_rfl) (fun _ _ _ h=>h) (Or.inl ⟨by rfl,?_⟩) ?_ ?_
      rotate_left
      · intro w'
        go_simp
        with_reducible rfl
      rotate_left
      · simp only [Act.put,List.setIfInBounds_toArray,List.set_cons_zero,List.set_cons_succ,i64_w,i32_w]
        rfl
      exact norm_ rfl (hcont (w1_.heap.size + 1,w1_.heap.size,w1_.heap.size + 1 + 1) _ ⟨hc6_,(by have:=(hc2_).size;simp at this ⊢;omega),(by have:=(hc1_).size;simp at this ⊢;omega),(by have:=(hc5_).size;simp at this ⊢;omega),(kA_ (new_at _ _ (by simp)) _),(new_at _ _ (by simp)),(kA_ (kA_ (new_at _ _ (by simp)) _) _)⟩)
    case cont =>
      rintro⟨B,g1,g2⟩ wz ⟨z1,z2,z3,z4,z5,z6,z7⟩
      refine norm_ (a':=?_) ?_ ?_
      rotate_left
      · simp only [putAll,Act.put,List.setIfInBounds_toArray,List.set_cons_zero,List.set_cons_succ,i64_w,i32_w]
        rfl
      have e0:wz.cell? ⟨B,0,none⟩=some (.int .i64 0):=(bC_ z5 0).trans rfl
      have f0:=bF_ z5 0
      have e1:wz.cell? ⟨B,1,none⟩=some (.int .i64 0):=(bC_ z5 1).trans rfl
      have f1:=bF_ z5 1
      have e2:wz.cell? ⟨B,2,none⟩=some (.int .i64 0):=(bC_ z5 2).trans rfl
      have f2:=bF_ z5 2
      have e3:wz.cell? ⟨B,3,none⟩=some (.int .i64 0):=(bC_ z5 3).trans rfl
      have f3:=bF_ z5 3
      have e4:wz.cell? ⟨B,4,none⟩=some (.slice none 0 0):=(bC_ z5 4).trans rfl
      have f4:=bF_ z5 4
      have e5:wz.cell? ⟨B,5,none⟩=some (.string (⟨#[]⟩:ByteArray)):=(bC_ z5 5).trans rfl
      have f5:=bF_ z5 5
      have e6:wz.cell? ⟨B,6,none⟩=some (.slice none 0 0):=(bC_ z5 6).trans rfl
      have f6:=bF_ z5 6
      replace z5:=Az.mk z5
      replace z6:=Az.mk z6
      replace z7:=Az.mk z7
      refine last_ (i:=7) (N:=none) #[true,true,true,true,true,true,true,true] rfl rfl (by kernel_rfl) (by decide) (fun K hK=>?_)
      refine skip_ (w1:=?_) (by rfl) rfl ?_ ?_
      rotate_left
      · go_simp
        rfl
      refine hK.out _ _ ?_
      clear hK K
      refine done_ (by kernel_rfl) ?_
      have n1:g1≠B:=fun e=>by have h1:=z7.out;rw [e,z5.out] at h1;simp at h1
      have n2:g2≠B:=fun e=>by have h1:=z6.out;rw [e,z5.out] at h1;simp at h1
      have n3:g1≠g2:=fun e=>by have h1:=z7.out;rw [e,z6.out] at h1;simp at h1
      have kB:=kP_ (kP_ (kP_ (kP_ (kP_ (kP_ (kP_ (z5.out) 0 (.int .i64 (-3)) rfl) 1 (.int .i64 3) rfl) 2 (.int .i64 0) rfl) 3 (.int .i64 0) rfl) 4 (.slice none 0 0) rfl) 5 (.string (⟨#[]⟩:ByteArray)) rfl) 6 (.slice (some ⟨g2,0,none⟩) 2 2) rfl
      have k1:=kF_ (kF_ (kF_ (kF_ (kF_ (kF_ (kF_ (z7.out) (p:=⟨B,0,none⟩) n1 (.int .i64 (-3))) (p:=⟨B,1,none⟩) n1 (.int .i64 3)) (p:=⟨B,2,none⟩) n1 (.int .i64 0)) (p:=⟨B,3,none⟩) n1 (.int .i64 0)) (p:=⟨B,4,none⟩) n1 (.slice none 0 0)) (p:=⟨B,5,none⟩) n1 (.string (⟨#[]⟩:ByteArray))) (p:=⟨B,6,none⟩) n1 (.slice (some ⟨g2,0,none⟩) 2 2)
      have k2:=kF_ (kF_ (kF_ (kF_ (kF_ (kF_ (kF_ (z6.out) (p:=⟨B,0,none⟩) n2 (.int .i64 (-3))) (p:=⟨B,1,none⟩) n2 (.int .i64 3)) (p:=⟨B,2,none⟩) n2 (.int .i64 0)) (p:=⟨B,3,none⟩) n2 (.int .i64 0)) (p:=⟨B,4,none⟩) n2 (.slice none 0 0)) (p:=⟨B,5,none⟩) n2 (.string (⟨#[]⟩:ByteArray))) (p:=⟨B,6,none⟩) n2 (.slice (some ⟨g2,0,none⟩) 2 2)
      have hbn:=bS_ (bS_ (bS_ (bS_ (bS_ (bS_ (bS_ (z1) (j:=0) (v:=.int .i64 (-3)) z2) (j:=1) (v:=.int .i64 3) z2) (j:=2) (v:=.int .i64 0) z2) (j:=3) (v:=.int .i64 0) z2) (j:=4) (v:=.slice none 0 0) z2) (j:=5) (v:=.string (⟨#[]⟩:ByteArray)) z2) (j:=6) (v:=.slice (some ⟨g2,0,none⟩) 2 2) z2
      clear e0 f0 e1 f1 e2 f2 e3 f3 e4 f4 e5 f5 e6 f6
      generalize hWn:(((((((wz.setCell ⟨B,0,none⟩ (.int .i64 (-3))).setCell ⟨B,1,none⟩ (.int .i64 3)).setCell ⟨B,2,none⟩ (.int .i64 0)).setCell ⟨B,3,none⟩ (.int .i64 0)).setCell ⟨B,4,none⟩ (.slice none 0 0)).setCell ⟨B,5,none⟩ (.string (⟨#[]⟩:ByteArray))).setCell ⟨B,6,none⟩ (.slice (some ⟨g2,0,none⟩) 2 2))=W3 at *
      clear hWn z5 z6 z7 hSof hdr
      have c0:W3.cell? ⟨B,0,none⟩=some (.int .i64 (-3)):=(bC_ kB 0).trans rfl
      have c1:W3.cell? ⟨B,1,none⟩=some (.int .i64 3):=(bC_ kB 1).trans rfl
      have c2:W3.cell? ⟨B,2,none⟩=some (.int .i64 0):=(bC_ kB 2).trans rfl
      have c3:W3.cell? ⟨B,3,none⟩=some (.int .i64 0):=(bC_ kB 3).trans rfl
      have c4:W3.cell? ⟨B,4,none⟩=some (.slice none 0 0):=(bC_ kB 4).trans rfl
      have c5:W3.cell? ⟨B,5,none⟩=some (.string (⟨#[]⟩:ByteArray)):=(bC_ kB 5).trans rfl
      have c6:W3.cell? ⟨B,6,none⟩=some (.slice (some ⟨g2,0,none⟩) 2 2):=(bC_ kB 6).trans rfl
      have l2:=blk_lt k2
      have l1:=blk_lt k1
      have lB:=blk_lt kB
      replace kB:=Az.mk kB
      replace k1:=Az.mk k1
      replace k2:=Az.mk k2
      replace hbn:=Az.mk hbn
      replace z2:=Az.mk z2
      replace z3:=Az.mk z3
      replace z4:=Az.mk z4
      replace n1:=Az.mk n1
      replace n2:=Az.mk n2
      replace n3:=Az.mk n3
      replace l1:=Az.mk l1
      replace l2:=Az.mk l2
      replace lB:=Az.mk lB
      have h00:=kB_ (kB_ hk0.out hbna.out) hbn.out
      have e0:W3.cell? ⟨B0,0,none⟩=some (.int .i64 0):=(bC_ h00 0).trans rfl
      have e1:W3.cell? ⟨B0,1,none⟩=some (.int .i64 0):=(bC_ h00 1).trans rfl
      have e2:W3.cell? ⟨B0,2,none⟩=some (.int .i64 0):=(bC_ h00 2).trans rfl
      have e3:W3.cell? ⟨B0,3,none⟩=some (.int .i64 0):=(bC_ h00 3).trans rfl
      have e4:W3.cell? ⟨B0,4,none⟩=some (.slice none 0 0):=(bC_ h00 4).trans rfl
      have e5:W3.cell? ⟨B0,5,none⟩=some (.string (⟨#[]⟩:ByteArray)):=(bC_ h00 5).trans rfl
      have e6:W3.cell? ⟨B0,6,none⟩=some (.slice none 0 0):=(bC_ h00 6).trans rfl
      have f0:=bF_ h00 0
      have f1:=bF_ h00 1
      have f2:=bF_ h00 2
      have f3:=bF_ h00 3
      have f4:=bF_ h00 4
      have f5:=bF_ h00 5
      have f6:=bF_ h00 6
      have lt0:=blk_lt h00
      replace h00:=Az.mk h00
      go_wp2
      have hW:Below B0 w W3:=by rw [← hB0'.out];exact bT_ (bT_ (by rw [hB0'.out];exact hb1.out) hbna.out) hbn.out
      obtain⟨W4,hW4⟩:∃ W4,W4=(((((((W3.setCell ⟨B0,0,none⟩ (.int .i64 (-2))).setCell ⟨B0,1,none⟩ (.int .i64 1)).setCell ⟨B0,2,none⟩ (.int .i64 0)).setCell ⟨B0,3,none⟩ (.int .i64 0)).setCell ⟨B0,4,none⟩ (.slice none 0 0)).setCell ⟨B0,5,none⟩ (.string (⟨#[]⟩:ByteArray))).setCell ⟨B0,6,none⟩ (.slice (some ⟨W3.heap.size,0,none⟩) 1 1)):=⟨_,rfl⟩
      have t4:W4.heap[B0]?=some (.cells #[.int .i64 (-2),.int .i64 1,.int .i64 0,.int .i64 0,.slice none 0 0,.string (⟨#[]⟩:ByteArray),.slice (some ⟨W3.heap.size,0,none⟩) 1 1] 32 (0,0)):=by rw [hW4];exact kP_ (kP_ (kP_ (kP_ (kP_ (kP_ (kP_ (h00.out) 0 (.int .i64 (-2)) rfl) 1 (.int .i64 1) rfl) 2 (.int .i64 0) rfl) 3 (.int .i64 0) rfl) 4 (.slice none 0 0) rfl) 5 (.string (⟨#[]⟩:ByteArray)) rfl) 6 (.slice (some ⟨W3.heap.size,0,none⟩) 1 1) rfl
      have far4:∀ {x:Nat} {cs:Array Value},W3.heap[x]?=some (.cells cs 32 (0,0))→x≠B0→W4.heap[x]?=some (.cells cs 32 (0,0)):=fun h hx=>by rw [hW4];exact kF_ (kF_ (kF_ (kF_ (kF_ (kF_ (kF_ (h) (p:=⟨B0,0,none⟩) hx (.int .i64 (-2))) (p:=⟨B0,1,none⟩) hx (.int .i64 1)) (p:=⟨B0,2,none⟩) hx (.int .i64 0)) (p:=⟨B0,3,none⟩) hx (.int .i64 0)) (p:=⟨B0,4,none⟩) hx (.slice none 0 0)) (p:=⟨B0,5,none⟩) hx (.string (⟨#[]⟩:ByteArray))) (p:=⟨B0,6,none⟩) hx (.slice (some ⟨W3.heap.size,0,none⟩) 1 1)
      have hz4:W4.heap.size=W3.heap.size:=by rw [hW4];simp
      have hb4:Below B0 w W4:=by
        have st:∀ {Wz:World} (h:Below B0 w Wz) (j:Nat) (v:Value),Below B0 w (Wz.setCell ⟨B0,j,none⟩ v):=fun h j v=>by rw [← hB0'.out] at h ⊢;exact bS_ h (Nat.le_refl _)
        rw [hW4]
        exact st (st (st (st (st (st (st (hW) 0 (.int .i64 (-2))) 1 (.int .i64 1)) 2 (.int .i64 0)) 3 (.int .i64 0)) 4 (.slice none 0 0)) 5 (.string (⟨#[]⟩:ByteArray))) 6 (.slice (some ⟨W3.heap.size,0,none⟩) 1 1)
      rw [← hW4]
      have t0:(W4.alloc (.cells #[.int .i64 (-3),.int .i64 3,.int .i64 0,.int .i64 0,.slice none 0 0,.string (⟨#[]⟩:ByteArray),.slice (some ⟨g2,0,none⟩) 2 2] 32)).heap[B0]?=some (.cells #[.int .i64 (-2),.int .i64 1,.int .i64 0,.int .i64 0,.slice none 0 0,.string (⟨#[]⟩:ByteArray),.slice (some ⟨W3.heap.size,0,none⟩) 1 1] 32 (0,0)):=kA_ t4 _
      have far:∀ {x:Nat} {cs:Array Value},W3.heap[x]?=some (.cells cs 32 (0,0))→x≠B0→(W4.alloc (.cells #[.int .i64 (-3),.int .i64 3,.int .i64 0,.int .i64 0,.slice none 0 0,.string (⟨#[]⟩:ByteArray),.slice (some ⟨g2,0,none⟩) 2 2] 32)).heap[x]?=some (.cells cs 32 (0,0)):=fun h hx=>kA_ (far4 h hx) _
      have farn:(W4.alloc (.cells #[.int .i64 (-3),.int .i64 3,.int .i64 0,.int .i64 0,.slice none 0 0,.string (⟨#[]⟩:ByteArray),.slice (some ⟨g2,0,none⟩) 2 2] 32)).heap[W3.heap.size]?=some (.cells #[.int .i64 (-3),.int .i64 3,.int .i64 0,.int .i64 0,.slice none 0 0,.string (⟨#[]⟩:ByteArray),.slice (some ⟨g2,0,none⟩) 2 2] 32 (0,0)):=new_at _ _ hz4.symm
      have s1:=hz1.out
      have s2:=hbna.out.size
      have s3:=hbn.out.size
      have a1:=la1.out
      have a2:=la2.out
      have b1:=l1.out
      have b2:=l2.out
      have c1_:=za3.out
      have c2_:=za4.out
      have d1:=z3.out
      have d2:=z4.out
      have kk1:=far k1.out (by omega)
      have kk2:=far k2.out (by omega)
      have ka1_:=far (kB_ ka1.out hbn.out) (by omega)
      have ka2_:=far (kB_ ka2.out hbn.out) (by omega)
      have q1:=na3.out
      have q2:=n3.out
      have ob:∀ (k g m c:Nat),k≠g→some k≠(Value.slice (some ⟨g,0,none⟩) m c).ownBlock:=fun k g m c h e=>h (by simpa [Value.ownBlock] using e)
      have hres:=fun(tm:Array Value) (hp:tm.getD 0 undef=.pointer (some ⟨B0,0,none⟩))=>results_single (P:=Try.prog) (fn:=Try.f30) rfl (.cell (tmps:=tm) B0 32 _ (0,0) _ hp t0 Try.underlying32 rfl (by kernel_rfl) .nil)
      refine bodyPost_ret (hres _ rfl) rfl ?_
      refine⟨.slice none 0 0,.slice (some ⟨W3.heap.size,0,none⟩) 1 1,rfl,Kd.R_nil _ _ _ _ _,?_,?_⟩
      · rw [hB0'.out]
        have RN:=fun {Wz:World} {okz:Nat→Prop} {b:Nat}=>Kd.R_nil k53 53 Wz b okz
        have RK:=fun {Wz:World} {okz:Nat→Prop} {b:Nat}=>Kd.R_nil k32 32 Wz b okz
        refine R_block1 (cs:=[.int .i64 (-3),.int .i64 3,.int .i64 0,.int .i64 0,.slice none 0 0,.string (⟨#[]⟩:ByteArray),.slice (some ⟨g2,0,none⟩) 2 2]) farn (by omega) (fun e=>by simp [Value.ownBlock] at e) rfl (k32_mkM _ _ _ both_ RN ?_)
        refine R_block2 (cs:=[.int .i64 (-3),.int .i64 3,.int .i64 0,.int .i64 0,.slice none 0 0,.string (⟨#[]⟩:ByteArray),.slice (some ⟨ga2,0,none⟩) 2 2]) kk2 (by omega) ⟨fun e=>by simp [Value.ownBlock] at e,ob _ _ _ _ (by omega)⟩ rfl rfl (k32_mkM _ _ _ first_ RN ?_) (k32_mkM _ _ _ (nd (-4) 5 [lf 3 ⟨#[98]⟩]) RN ?_)
        · refine R_block2 (cs:=[.int .i64 (-3),.int .i64 2,.int .i64 0,.int .i64 0,.slice none 0 0,.string (⟨#[]⟩:ByteArray),.slice none 0 0]) ka2_ (by omega) ⟨⟨fun e=>by simp [Value.ownBlock] at e,ob _ _ _ _ (by omega)⟩,ob _ _ _ _ (by omega)⟩ rfl rfl (k32_mkM _ _ _ (nd (-3) 2 []) RN RK) (k32_mkM _ _ _ (nd (-4) 4 [lf 2 ⟨#[97]⟩]) RN ?_)
          exact R_block1 (cs:=[.int .i64 2,.int .i64 (-1),.int .i64 0,.int .i64 0,.slice none 0 0,.string (⟨#[97]⟩:ByteArray),.slice none 0 0]) ka1_ (by omega) ⟨⟨⟨fun e=>by simp [Value.ownBlock] at e,ob _ _ _ _ (by omega)⟩,ob _ _ _ _ (by omega)⟩,ob _ _ _ _ (by omega)⟩ rfl (k32_mkM _ _ _ (lf 2 ⟨#[97]⟩) RN RK)
        exact R_block1 (cs:=[.int .i64 3,.int .i64 (-1),.int .i64 0,.int .i64 0,.slice none 0 0,.string (⟨#[98]⟩:ByteArray),.slice none 0 0]) kk1 (by omega) ⟨⟨fun e=>by simp [Value.ownBlock] at e,ob _ _ _ _ (by omega)⟩,ob _ _ _ _ (by omega)⟩ rfl (k32_mkM _ _ _ (lf 3 ⟨#[98]⟩) RN RK)
      rw [hB0'.out]
      rw [← hB0'.out] at hb4 ⊢
      exact bA_ hb4 _
end Go.Proofs.Ytgdbcogbbghjaaa.Hand
