import Derived.Test.YtgdbcogbbghjaaaRG
import Derived.Test.YtgdbcogbbghjaaaQf43
import Derived.Test.YtgdbcogbbghjaaaQf44
import Derived.RangeFuncBound
import Derived.Sort.LoopGhostIn
import Derived.OwnWalkIn
import Derived.TacticsInMore
import Derived.Shelf.RegionOpen
namespace Go.Proofs.Ytgdbcogbbghjaaa.Hand
open Go.RowKit Go.Proofs.YtgdbcogbbghjaaaW.PrintWords Go.Proofs.YtgdbcogbbghjaaaW.PrintLast Go.Proofs.YtgdbcogbbghjaaaW.PrintMore Go.Proofs.Ytgdbcogbbghjaaa.Q Go.Proofs.Ytgdbcogbbghjaaa.RF
attribute [local go_sem] Oper.semAt_some
set_option linter.unusedVariables false
set_option linter.unusedSimpArgs false
structure Gr where
  g0:List ByteArray
  g1:List ByteArray
  g2:List Int
  g3:List S67
  g4:List S78
structure It where
  path:List Int
  fld:ByteArray
  node:S32
def kidsL (rec:S32→List Int→ByteArray→Option (List It))(g:Gr)(n:S32)(path:List Int)(fd:ByteArray):List S32→Nat→Option (List It)
  | [],_=>some []
  | k :: ks,i=>(fields_field.f 3 g.g0 g.g1 g.g2 g.g3 g.g4 n.f0 n.f1 n.f2 n.f3 n.f4 n.f5 n.f6 i).bind fun f=>(fields_dissolves.f g.g0 g.g1 g.g2 g.g3 g.g4 k.f0 k.f1 k.f2 k.f3 k.f4 k.f5 k.f6).bind fun d =>
      (if d=true then rec k (path ++ [(i:Int)]) (if f.toList=[] then fd else f)else some [⟨path ++ [(i:Int)],if f.toList=[] then fd else f,k⟩]).bind fun a =>
      (kidsL rec g n path fd ks (i + 1)).bind fun b=>some (a ++ b)
def kidsF:Nat→Gr→S32→List Int→ByteArray→Option (List It)
  | 0,_,_,_,_=>none
  | d + 1,g,n,path,fd=>if path.length < 17592186044416∧n.f6.length < 4611686018427387904 then kidsL (kidsF d g) g n path fd n.f6 0 else none
structure NodeF (W:World) (ok:Nat→Prop) (n:S32) (A4:Option Addr) (c4:Nat) (A6:Option Addr) (c6:Nat):Prop where
  l4:n.f4.length≤c4
  f4:Kd.F k53 W ok A4 n.f4.length n.f4
  l6:n.f6.length≤c6
  f6:Kd.F k32 W ok A6 n.f6.length n.f6
structure PathF (W:World) (ok:Nat→Prop) (path:List Int) (Ap:Option Addr) (cp:Nat):Prop where
  l:path.length≤cp
  f:Kd.F (Kd.int .i64) W ok Ap path.length path
structure GramF (W:World) (ok:Nat→Prop) (g:Gr) (G0:Option Addr) (d0:Nat) (G1:Option Addr) (d1:Nat) (G2:Option Addr) (d2:Nat) (G3:Option Addr) (d3:Nat) (G4:Option Addr) (d4:Nat):Prop where
  f:g.g0.length≤d0∧Kd.F Kd.string W ok G0 g.g0.length g.g0∧g.g1.length≤d1∧Kd.F Kd.string W ok G1 g.g1.length g.g1∧g.g2.length≤d2∧Kd.F (Kd.int .i64) W ok G2 g.g2.length g.g2∧g.g3.length≤d3∧Kd.F k67 W ok G3 g.g3.length g.g3∧g.g4.length≤d4∧Kd.F k78 W ok G4 g.g4.length g.g4
section
variable {W W':World} {ok ok':Nat→Prop} {n:S32} {A4 A6 Ap:Option Addr} {c4 c6 cp:Nat} {path:List Int} {g:Gr}
theorem F_go {α:Type}{d:Kd α}{A:Option Addr}{m:Nat}{xs:List α}(h:Kd.F d W ok A m xs)(hm:∀ k,ok k→k < W.heap.size→W'.heap[k]?=W.heap[k]?)(hk:∀ k,ok k→k < W.heap.size→ok' k):Kd.F d W' ok' A m xs :=
  Kd.F_mono (Kd.F_step (Kd.F_bound h) (fun k a b=>hm k a.1 b)) (fun k a=>hk k a.1 a.2)
theorem NodeF.go (h:NodeF W ok n A4 c4 A6 c6)(hm:∀ k,ok k→k < W.heap.size→W'.heap[k]?=W.heap[k]?)(hk:∀ k,ok k→k < W.heap.size→ok' k):NodeF W' ok' n A4 c4 A6 c6:=⟨h.l4,F_go h.f4 hm hk,h.l6,F_go h.f6 hm hk⟩
theorem PathF.go (h:PathF W ok path Ap cp)(hm:∀ k,ok k→k < W.heap.size→W'.heap[k]?=W.heap[k]?)(hk:∀ k,ok k→k < W.heap.size→ok' k):PathF W' ok' path Ap cp:=⟨h.l,F_go h.f hm hk⟩
theorem GramF.go {G0 d0 G1 d1 G2 d2 G3 d3 G4 d4}(h:GramF W ok g G0 d0 G1 d1 G2 d2 G3 d3 G4 d4)(hm:∀ k,ok k→k < W.heap.size→W'.heap[k]?=W.heap[k]?)(hk:∀ k,ok k→k < W.heap.size→ok' k):GramF W' ok' g G0 d0 G1 d1 G2 d2 G3 d3 G4 d4:=by
  obtain⟨a0,b0,a1,b1,a2,b2,a3,b3,a4,b4⟩:=h.f
  exact⟨a0,F_go b0 hm hk,a1,F_go b1 hm hk,a2,F_go b2 hm hk,a3,F_go b3 hm hk,a4,F_go b4 hm hk⟩
end
structure PreK (bn bw bg:Nat) (g:Gr) (G0:Option Addr) (d0:Nat) (G1:Option Addr) (d1:Nat) (G2:Option Addr) (d2:Nat) (G3:Option Addr) (d3:Nat) (G4:Option Addr) (d4:Nat) (n:S32) (A4:Option Addr) (c4:Nat) (A6:Option Addr) (c6:Nat) (path:List Int) (fd:ByteArray) (Ap:Option Addr) (cp:Nat) (W:World) (ok:Nat→Prop):Prop where
  hn:W.heap[bn]?=some (.cells #[.int .i64 n.f0,.int .i64 n.f1,.int .i64 n.f2,.int .i64 n.f3,.slice A4 n.f4.length c4,.string n.f5,.slice A6 n.f6.length c6] 32 (0,0))
  kn:ok bn
  hw:W.heap[bw]?=some (.cells #[.slice Ap path.length cp,.string fd] 59 (0,0))
  kw:ok bw
  hg:W.heap[bg]?=some (.cells #[.slice G0 g.g0.length d0,.slice G1 g.g1.length d1,.slice G2 g.g2.length d2,.slice G3 g.g3.length d3,.slice G4 g.g4.length d4] 27 (0,0))
  kg:ok bg
  nf:NodeF W ok n A4 c4 A6 c6
  pf:PathF W ok path Ap cp
  gf:GramF W ok g G0 d0 G1 d1 G2 d2 G3 d3 G4 d4
theorem PreK.go {bn bw bg:Nat}{g:Gr} {G0 d0 G1 d1 G2 d2 G3 d3 G4 d4}{n:S32} {A4 c4 A6 c6 path fd Ap cp}{W W':World}{ok ok':Nat→Prop}(h:PreK bn bw bg g G0 d0 G1 d1 G2 d2 G3 d3 G4 d4 n A4 c4 A6 c6 path fd Ap cp W ok)
    (hm:∀ k,ok k→k < W.heap.size→W'.heap[k]?=W.heap[k]?) (hk:∀ k,ok k→k < W.heap.size→ok' k):PreK bn bw bg g G0 d0 G1 d1 G2 d2 G3 d3 G4 d4 n A4 c4 A6 c6 path fd Ap cp W' ok' :=
  ⟨(hm _ h.kn (blk_lt h.hn)).trans h.hn,hk _ h.kn (blk_lt h.hn),(hm _ h.kw (blk_lt h.hw)).trans h.hw,hk _ h.kw (blk_lt h.hw),(hm _ h.kg (blk_lt h.hg)).trans h.hg,hk _ h.kg (blk_lt h.hg),h.nf.go hm hk,h.pf.go hm hk,h.gf.go hm hk⟩
def ItV (W:World)(ok:Nat→Prop)(it:It)(v:Value):Prop:=∃ Ap cp A4 c4 A6 c6,v=.agg #[.slice Ap it.path.length cp,.string it.fld,.int .i64 it.node.f0,.int .i64 it.node.f1,.int .i64 it.node.f2,.int .i64 it.node.f3,.slice A4 it.node.f4.length c4,.string it.node.f5,.slice A6 it.node.f6.length c6]∧PathF W ok it.path Ap cp∧NodeF W ok it.node A4 c4 A6 c6
def ItR (r:List It)(i:Nat)(v:Value)(W:World)(ok:Nat→Prop):Prop:=∃ it,r[i]?=some it∧ItV W ok it v
theorem ItV.go {it:It}{v:Value}{W W':World}{ok ok':Nat→Prop}(h:ItV W ok it v)(hm:∀ k,ok k→k < W.heap.size→W'.heap[k]?=W.heap[k]?)(hk:∀ k,ok k→k < W.heap.size→ok' k):ItV W' ok' it v:=by
  obtain⟨Ap,cp,A4,c4,A6,c6,rfl,h1,h2⟩:=h
  exact⟨Ap,cp,A4,c4,A6,c6,rfl,h1.go hm hk,h2.go hm hk⟩
theorem at_F32 {W:World}{ok:Nat→Prop}{A:Option Addr}{m:Nat}{xs:List S32}(h:Kd.F k32 W ok A m xs)(i:Nat)(h1:i < m):∃ ad A4 c4 A6 c6,A=some ad ∧
    (W.cell? (ad.add (i * 7))=some (.int .i64 (rd_T32 xs i).f0)∧W.cell? ⟨(ad.add (i * 7)).block,(ad.add (i * 7)).off + 1,none⟩=some (.int .i64 (rd_T32 xs i).f1) ∧
    W.cell? ⟨(ad.add (i * 7)).block,(ad.add (i * 7)).off + 2,none⟩=some (.int .i64 (rd_T32 xs i).f2)∧W.cell? ⟨(ad.add (i * 7)).block,(ad.add (i * 7)).off + 3,none⟩=some (.int .i64 (rd_T32 xs i).f3) ∧
    W.cell? ⟨(ad.add (i * 7)).block,(ad.add (i * 7)).off + 4,none⟩=some (.slice A4 (rd_T32 xs i).f4.length c4)∧W.cell? ⟨(ad.add (i * 7)).block,(ad.add (i * 7)).off + 5,none⟩=some (.string (rd_T32 xs i).f5) ∧
    W.cell? ⟨(ad.add (i * 7)).block,(ad.add (i * 7)).off + 6,none⟩=some (.slice A6 (rd_T32 xs i).f6.length c6))∧NodeF W ok (rd_T32 xs i) A4 c4 A6 c6:=by
  obtain⟨ad,c,e,_,hK,hc0,_⟩:=Kd.F_get h z32 (i:Int) (by omega) (by omega)
  have hc:∀ j u,c[j]?=some u→W.cell? (ad.add (i * 7 + j))=some u:=hc0
  obtain⟨A4,c4,A6,c6,rfl,l4,g4,l6,g6⟩:=k32_openF hK
  exact⟨ad,A4,c4,A6,c6,e,⟨hc 0 _ rfl,by rw [← add_field _ _ 1 (by omega)];exact hc 1 _ rfl,by rw [← add_field _ _ 2 (by omega)];exact hc 2 _ rfl,by rw [← add_field _ _ 3 (by omega)];exact hc 3 _ rfl,by rw [← add_field _ _ 4 (by omega)];exact hc 4 _ rfl,by rw [← add_field _ _ 5 (by omega)];exact hc 5 _ rfl,by rw [← add_field _ _ 6 (by omega)];exact hc 6 _ rfl⟩,⟨l4,g4,l6,g6⟩⟩
def mark (D:Nat):Deferred:={ target:=.collected D,args:=#[] }
theorem leaves_marks {P:Program}{fn:Func}{tmps:Array Value}{R:Ending→World→Prop}:∀ (Ds:List Nat)(w:World),Ds.Nodup→(∀ D ∈ Ds,w.heap[D]?=some (.deferred (some []))) →
    (∀ w',Chg (fun k=>k ∈ Ds) w w'→LeavesIn Fence.wide 0 P fn tmps R [] .returning w')→LeavesInM Fence.wide 0 P fn tmps R (Ds.map mark) .returning w
  | [],w,_,_,h=>h w (Chg.refl _ _)
  | D :: Ds,w,hn,hd,h=>by
    obtain⟨h1,h2⟩:=List.nodup_cons.1 hn
    refine⟨by simp,.inl ⟨D,_,rfl,run_takeDeferred (hd D List.mem_cons_self),?_⟩⟩
    refine leaves_marks Ds _ h2 (fun E hE=>(World.putObj_heap_other (fun e=>h1 (by subst e;exact hE))).trans (hd E (List.mem_cons_of_mem _ hE))) fun w' hc=>h w' ?_
    exact(Chg.put w D _ List.mem_cons_self).trans (hc.mono fun k _ hk=>List.mem_cons_of_mem _ hk) (fun _ _ h=>h)
structure Own (W0:World) (l:Nat) (bn bw bg py:Nat) (g:Gr) (G0:Option Addr) (d0:Nat) (G1:Option Addr) (d1:Nat) (G2:Option Addr) (d2:Nat) (G3:Option Addr) (d3:Nat) (G4:Option Addr) (d4:Nat) (n:S32) (A4:Option Addr) (c4:Nat) (A6:Option Addr) (c6:Nat) (path:List Int) (fd:ByteArray) (Ap:Option Addr) (cp:Nat) (Ds:List Nat) (S:Nat→Prop) (W:World):Prop where
  pre:PreK bn bw bg g G0 d0 G1 d1 G2 d2 G3 d3 G4 d4 n A4 c4 A6 c6 path fd Ap cp W (Fr S W)
  y:W.heap[py]?=some (.cells #[.func (.yield l) #[] #[]] 80 (0,0))
  sy:¬ S py
  hy:W0.heap.size≤py
  nd:Ds.Nodup
  d:∀ D ∈ Ds,W.heap[D]?=some (.deferred (some []))∧¬ S D∧W0.heap.size≤D
theorem Own.go {W0:World}{l bn bw bg py:Nat}{g:Gr} {G0 d0 G1 d1 G2 d2 G3 d3 G4 d4}{n:S32} {A4 c4 A6 c6 path fd Ap cp}{Ds:List Nat}{S S':Nat→Prop}{W W':World}(h:Own W0 l bn bw bg py g G0 d0 G1 d1 G2 d2 G3 d3 G4 d4 n A4 c4 A6 c6 path fd Ap cp Ds S W)
    (hs:W.heap.size≤W'.heap.size) (hm:∀ k,¬ S k→k < W.heap.size→W'.heap[k]?=W.heap[k]?) (hS:∀ k,S' k→S k∨W.heap.size≤k):Own W0 l bn bw bg py g G0 d0 G1 d1 G2 d2 G3 d3 G4 d4 n A4 c4 A6 c6 path fd Ap cp Ds S' W':=by
  have hn:∀ k,¬ S k→k < W.heap.size→¬ S' k:=fun k h1 h2 h3=>(hS k h3).elim h1 (fun h=>by omega)
  refine⟨h.pre.go (fun k a b=>hm k a.1 b) (fun k a b=>⟨hn k a.1 b,by omega⟩),(hm _ h.sy (blk_lt h.y)).trans h.y,hn _ h.sy (blk_lt h.y),h.hy,h.nd,fun D hD=>?_⟩
  obtain⟨a,b,c⟩:=h.d D hD
  exact⟨(hm _ b (Array.getElem?_eq_some_iff.1 a).1).trans a,hn _ b (Array.getElem?_eq_some_iff.1 a).1,c⟩
theorem kids_step {rec:S32→List Int→ByteArray→Option (List It)}{g:Gr}{n k:S32}{path:List Int}{fd:ByteArray}{i:Nat}{r:List It}(h:kidsL rec g n path fd (n.f6.drop i) i=some r)(hlt:i < n.f6.length)(hk:rd_T32 n.f6 (i:Int)=k) :
    ∃ f d a b,fields_field.f 3 g.g0 g.g1 g.g2 g.g3 g.g4 n.f0 n.f1 n.f2 n.f3 n.f4 n.f5 n.f6 i=some f∧fields_dissolves.f g.g0 g.g1 g.g2 g.g3 g.g4 k.f0 k.f1 k.f2 k.f3 k.f4 k.f5 k.f6=some d ∧
      (if d=true then rec k (path ++ [(i:Int)]) (if f.toList=[] then fd else f)else some [⟨path ++ [(i:Int)],if f.toList=[] then fd else f,k⟩])=some a∧kidsL rec g n path fd (n.f6.drop (i + 1)) (i + 1)=some b∧r=a ++ b:=by
  obtain rfl:n.f6[i]=k:=by rw [← hk];simp [rd_T32,hlt]
  rw [List.drop_eq_getElem_cons hlt] at h
  unfold kidsL at h
  obtain⟨f,hf,h⟩:=Option.bind_eq_some_iff.1 h
  obtain⟨d,hd,h⟩:=Option.bind_eq_some_iff.1 h
  obtain⟨a,ha,h⟩:=Option.bind_eq_some_iff.1 h
  obtain⟨b,hb,h⟩:=Option.bind_eq_some_iff.1 h
  exact⟨f,d,a,b,hf,hd,ha,hb,(Option.some.inj h).symm⟩
structure Mid (W0:World) (l:Nat) (bn bw bg py:Nat) (g:Gr) (G0:Option Addr) (d0:Nat) (G1:Option Addr) (d1:Nat) (G2:Option Addr) (d2:Nat) (G3:Option Addr) (d3:Nat) (G4:Option Addr) (d4:Nat) (n:S32) (A4:Option Addr) (c4:Nat) (A6:Option Addr) (c6:Nat) (path:List Int) (fd:ByteArray) (Ap:Option Addr) (cp:Nat) (Ds:List Nat)
    (path':List Int) (fd':ByteArray) (g' c1 B7 bk:Nat) (k:S32) (B4:Option Addr) (e4:Nat) (B6:Option Addr) (e6:Nat) (S:Nat→Prop) (W:World):Prop where
  own:Own W0 l bn bw bg py g G0 d0 G1 d1 G2 d2 G3 d3 G4 d4 n A4 c4 A6 c6 path fd Ap cp Ds S W
  h7:W.heap[B7]?=some (.cells #[.slice (some ⟨g',0,none⟩) path'.length c1,.string fd'] 59 (0,0))
  s7:¬ S B7
  hk:W.heap[bk]?=some (.cells #[.int .i64 k.f0,.int .i64 k.f1,.int .i64 k.f2,.int .i64 k.f3,.slice B4 k.f4.length e4,.string k.f5,.slice B6 k.f6.length e6] 32 (0,0))
  sk:¬ S bk
  pf:PathF W (Fr S W) path' (some ⟨g',0,none⟩) c1
  nf:NodeF W (Fr S W) k B4 e4 B6 e6
theorem Mid.go {W0:World}{l bn bw bg py:Nat}{g:Gr} {G0 d0 G1 d1 G2 d2 G3 d3 G4 d4}{n:S32} {A4 c4 A6 c6 path fd Ap cp}{Ds:List Nat}{path':List Int}{fd':ByteArray}{g' c1 B7 bk:Nat}{k:S32} {B4 e4 B6 e6}{S S':Nat→Prop}{W W':World}
    (h:Mid W0 l bn bw bg py g G0 d0 G1 d1 G2 d2 G3 d3 G4 d4 n A4 c4 A6 c6 path fd Ap cp Ds path' fd' g' c1 B7 bk k B4 e4 B6 e6 S W)
    (hs:W.heap.size≤W'.heap.size) (hm:∀ k,¬ S k→k < W.heap.size→W'.heap[k]?=W.heap[k]?) (hS:∀ k,S' k→S k∨W.heap.size≤k):Mid W0 l bn bw bg py g G0 d0 G1 d1 G2 d2 G3 d3 G4 d4 n A4 c4 A6 c6 path fd Ap cp Ds path' fd' g' c1 B7 bk k B4 e4 B6 e6 S' W':=by
  have hn:∀ k,¬ S k→k < W.heap.size→¬ S' k:=fun k h1 h2 h3=>(hS k h3).elim h1 (fun h=>by omega)
  have hf:∀ k,Fr S W k→k < W.heap.size→Fr S' W' k:=fun k a b=>⟨hn k a.1 b,by omega⟩
  exact⟨h.own.go hs hm hS,(hm _ h.s7 (blk_lt h.h7)).trans h.h7,hn _ h.s7 (blk_lt h.h7),(hm _ h.sk (blk_lt h.hk)).trans h.hk,hn _ h.sk (blk_lt h.hk),h.pf.go (fun k a b=>hm k a.1 b) hf,h.nf.go (fun k a b=>hm k a.1 b) hf⟩
theorem own_F {w:World}{base e g n c:Nat}{k:IntKind}{xs:List Int}(hn:n=xs.length)(h:w.ownsRow base e 1 (.slice (some ⟨g,0,none⟩) n c) n (nums k xs)):Kd.F (Kd.int k) w (fun j=>j=g) (some ⟨g,0,none⟩) n xs:=by
  subst hn
  exact Kd.R_F (Kd.R_of_own (ok:=fun j=>j=g) h (fun j hj=>by simpa [Value.ownBlock] using hj.symm))
theorem own_cap {w:World}{base e g n c:Nat}{xs:List Value}(h:w.ownsRow base e 1 (.slice (some ⟨g,0,none⟩) n c) n xs):n≤c∧g < w.heap.size:=by
  rcases h.2 with⟨hv,_⟩|⟨g',cap',cur,hv,hb,hh,h1,_⟩
  · cases hv
  · injection hv with ha _ hc
    injection ha with ha
    injection ha with ha
    subst hc;subst ha
    exact⟨h1,(Array.getElem?_eq_some_iff.1 hh).1⟩
theorem own_ne {w:World}{base e g n c size B t:Nat}{xs:List Value}{cs:Array Value}(h:w.ownsRow base e size (.slice (some ⟨g,0,none⟩) n c) n xs)(hB:w.heap[B]?=some (.cells cs t (0,0)))(hne:e≠t):g≠B:=by
  rcases h.2 with⟨hv,_⟩|⟨g',cap',cur,hv,hb,hh,h1,_⟩
  · cases hv
  · injection hv with ha _ hc
    injection ha with ha
    injection ha with ha
    subst ha
    exact blk_ne hh hB hne
theorem new_at (w:World)(o:Obj){j:Nat}(h:j=w.heap.size):(w.alloc o).heap[j]?=some o:=by subst h;exact blk_new _ _
def KidsPost (g:Gr)(G0:Option Addr)(d0:Nat)(G1:Option Addr)(d1:Nat)(G2:Option Addr)(d2:Nat)(G3:Option Addr)(d3:Nat)(G4:Option Addr)(d4:Nat)(n:S32)(A4:Option Addr)(c4:Nat)(A6:Option Addr)(c6:Nat)(path:List Int)(fd:ByteArray)(Ap:Option Addr)(cp:Nat)(w:World)(e:Ending)(w':World):Prop :=
  ∃ bn bw bg:Nat,e=.returned (.func (.func 42) #[] #[.pointer (some ⟨bn,0,none⟩),.pointer (some ⟨bw,0,none⟩),.pointer (some ⟨bg,0,none⟩)])∧Below w.heap.size w w'∧w.heap.size≤bn∧w.heap.size≤bw∧w.heap.size≤bg ∧
    w'.heap[bn]?=some (.cells #[.int .i64 n.f0,.int .i64 n.f1,.int .i64 n.f2,.int .i64 n.f3,.slice A4 n.f4.length c4,.string n.f5,.slice A6 n.f6.length c6] 32 (0,0))∧w'.heap[bw]?=some (.cells #[.slice Ap path.length cp,.string fd] 59 (0,0))∧w'.heap[bg]?=some (.cells #[.slice G0 g.g0.length d0,.slice G1 g.g1.length d1,.slice G2 g.g2.length d2,.slice G3 g.g3.length d3,.slice G4 g.g4.length d4] 27 (0,0))
theorem kids_calls (g:Gr)(G0:Option Addr)(d0:Nat)(G1:Option Addr)(d1:Nat)(G2:Option Addr)(d2:Nat)(G3:Option Addr)(d3:Nat)(G4:Option Addr)(d4:Nat)(n:S32)(A4:Option Addr)(c4:Nat)(A6:Option Addr)(c6:Nat)(path:List Int)(fd:ByteArray)(Ap:Option Addr)(cp:Nat)(w:World) :
    Calls Try.prog 31 #[.agg #[.slice G0 g.g0.length d0,.slice G1 g.g1.length d1,.slice G2 g.g2.length d2,.slice G3 g.g3.length d3,.slice G4 g.g4.length d4],.agg #[.int .i64 n.f0,.int .i64 n.f1,.int .i64 n.f2,.int .i64 n.f3,.slice A4 n.f4.length c4,.string n.f5,.slice A6 n.f6.length c6],.agg #[.slice Ap path.length cp,.string fd]] w (KidsPost g G0 d0 G1 d1 G2 d2 G3 d3 G4 d4 n A4 c4 A6 c6 path fd Ap cp w):=by
  have hu32:=Try.underlying32
  have hu59:=Try.underlying59
  have hu27:=Try.underlying27
  go_enter Try.func31,Try.ntmps31
  go_wp2
  go_ret
  refine⟨_,_,_,rfl,bA_ (bA_ (bA_ (Below.refl _ _) _) _) _,?_,?_,?_,?_,?_,?_⟩
  rotate_left 3
  · exact kA_ (new_at _ _ (by simp)) _
  · exact new_at _ _ (by simp)
  · exact kA_ (kA_ (blk_new _ _) _) _
  all_goals omega
def NestI (J:Nat→(Nat→Prop)→World→Prop)(cnt:Nat)(S:Nat→Prop)(w8:World)(j:Nat)(S':Nat→Prop)(W':World):Prop :=
  J (cnt + j) S' W'∧(∀ x,x < w8.heap.size→¬ S x→W'.heap[x]?=w8.heap[x]?)∧(∀ x,S' x→S x∨w8.heap.size≤x)∧w8.heap.size≤W'.heap.size
theorem nest_stable {J:Nat→(Nat→Prop)→World→Prop}{B cnt:Nat}{S:Nat→Prop}{w8:World}(hJ:Stable B J)(hB:B≤w8.heap.size):Stable w8.heap.size (NestI J cnt S w8):=by
  refine⟨fun h=>⟨h.2.2.2,(hJ.bound h.1).2⟩,fun h hc=>?_⟩
  obtain⟨a,b,c,d⟩:=h
  exact⟨hJ.step a (hc.mono fun x _ hx=>⟨Nat.le_trans hB hx.1,hx.2⟩),fun x h1 h2=>(hc.block x (by omega) (fun h=>by omega)).trans (b x h1 h2),c,Nat.le_trans d hc.size⟩
end Go.Proofs.Ytgdbcogbbghjaaa.Hand
