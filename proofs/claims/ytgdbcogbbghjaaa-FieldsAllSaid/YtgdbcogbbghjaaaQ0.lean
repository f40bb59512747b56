import Derived.Test.YtgdbcogbbghjaaaProg
import Derived.Below
import Derived.Deep.Draws
import Derived.Deep.AppendLies
import Derived.Maps.AppendAt
import Derived.OwnWalk
import Derived.Laws.BytesArg
import Derived.Laws.MakeOwn
import Derived.Laws.OwnMore
import Derived.Deep.OwnRows
import Derived.Tactics
import Derived.Lib.ConvBytes
import Derived.Laws.Slices
import Derived.WalkKit
import Derived.KernelRfl
import Derived.RowKit3
import Derived.Deep.LoopGhost
import Derived.Deep.QuietTactic
import Derived.BigQuiet
import Derived.WideLaws
import Derived.Deep.DeepCutAuto
import Derived.Deep.CutBlock
import Derived.Deep.RegionHeld3
import Derived.Laws.Rows
import Derived.Lib.AppendStr
import Derived.ArgAppend
import Derived.Laws.IdiomCopy
import Derived.OrdersHeld
import Derived.Laws.BitsLemmas
import Derived.RowKit
import Derived.Test.YtgdbcogbbghjaaaWWords
import Derived.Test.YtgdbcogbbghjaaaWX
namespace Go.Proofs.Ytgdbcogbbghjaaa.Q
open Go.RowKit Go.Proofs.YtgdbcogbbghjaaaW.PrintWords Go.Proofs.YtgdbcogbbghjaaaW.PrintLast Go.Proofs.YtgdbcogbbghjaaaW.PrintMore
attribute [local go_sem] max2_int min2_int max_two min_two max_three min_three max_four min_four   -- for this text's walks alone
set_option linter.unusedVariables false
set_option linter.unusedSimpArgs false
def errW:Option Int→Value
  | none=>.nilIface
  | some c=>.iface 0 (.int .i64 c)
theorem errW_none:errW none=.nilIface:=rfl
theorem errW_some (c:Int):errW (some c)=.iface 0 (.int .i64 c):=rfl
theorem info3:(Try.prog.info? 3).map (fun i=>(i.zero,i.size,i.bytes))=some (some (.int .i64 0),1,8):=by kernel_rfl
theorem info4:(Try.prog.info? 4).map (fun i=>(i.zero,i.size,i.bytes))=some (some (.bool false),1,1):=by kernel_rfl
theorem info9:(Try.prog.info? 9).map (fun i=>(i.zero,i.size,i.bytes))=some (some (.string ⟨#[]⟩),1,16):=by kernel_rfl
theorem info42:(Try.prog.info? 42).map (fun i=>(i.zero,i.size,i.bytes))=some (some (.slice none 0 0),1,24):=by kernel_rfl
structure S67 where
  f0:Int
  f1:(List Int)
  f2:(List ByteArray)
  f3:ByteArray
  f4:Int
def z67:S67:=⟨(0:Int),([]:List Int),([]:List ByteArray),(⟨#[]⟩:ByteArray),(0:Int)⟩
def k67:Kd S67:=Kd.iso (Kd.pair (Kd.int .i64) (Kd.pair (Kd.slice 3 (Kd.int .i64)) (Kd.pair (Kd.slice 9 Kd.string) (Kd.pair Kd.string (Kd.int .i64))))) (fun x:S67=>(x.f0,x.f1,x.f2,x.f3,x.f4))
theorem k67_heap:Kd.Heap k67:=Kd.heap_iso _ (Kd.heap_pair (Kd.heap_int .i64) (Kd.heap_pair (Kd.heap_slice 3 (Kd.heap_int .i64)) (Kd.heap_pair (Kd.heap_slice 9 Kd.heap_string) (Kd.heap_pair Kd.heap_string (Kd.heap_int .i64)))))
theorem k67_open {w:World}{x:S67}{cs:List Value}(h:k67.K w x cs):∃ A1 c1 A2 c2,cs=[.int .i64 x.f0,.slice A1 x.f1.length c1,.slice A2 x.f2.length c2,.string x.f3,.int .i64 x.f4]∧x.f1.length≤c1∧(Kd.int .i64).C w A1 x.f1.length x.f1∧x.f2.length≤c2∧Kd.string.C w A2 x.f2.length x.f2:=by
  obtain⟨_,_,rfl,rfl,⟨_,_,rfl,⟨A1,c1,rfl,l1,g1⟩,⟨_,_,rfl,⟨A2,c2,rfl,l2,g2⟩,⟨_,_,rfl,rfl,rfl⟩⟩⟩⟩:=h
  exact⟨A1,c1,A2,c2,rfl,l1,g1,l2,g2⟩
theorem k67_mk (w:World)(x:S67){A1:Option Addr}{c1:Nat}(l1:x.f1.length≤c1)(g1:(Kd.int .i64).C w A1 x.f1.length x.f1){A2:Option Addr}{c2:Nat}(l2:x.f2.length≤c2)(g2:Kd.string.C w A2 x.f2.length x.f2):k67.K w x [.int .i64 x.f0,.slice A1 x.f1.length c1,.slice A2 x.f2.length c2,.string x.f3,.int .i64 x.f4]:=⟨[.int .i64 x.f0],[.slice A1 x.f1.length c1,.slice A2 x.f2.length c2,.string x.f3,.int .i64 x.f4],rfl,rfl,⟨[.slice A1 x.f1.length c1],[.slice A2 x.f2.length c2,.string x.f3,.int .i64 x.f4],rfl,⟨A1,c1,rfl,l1,g1⟩,⟨[.slice A2 x.f2.length c2],[.string x.f3,.int .i64 x.f4],rfl,⟨A2,c2,rfl,l2,g2⟩,⟨[.string x.f3],[.int .i64 x.f4],rfl,rfl,rfl⟩⟩⟩⟩
theorem k67_mkF (W:World)(ok:Nat→Prop)(x:S67){A1:Option Addr}{c1:Nat}(l1:x.f1.length≤c1)(g1:Kd.F (Kd.int .i64) W ok A1 x.f1.length x.f1){A2:Option Addr}{c2:Nat}(l2:x.f2.length≤c2)(g2:Kd.F Kd.string W ok A2 x.f2.length x.f2):Kd.FK k67 W ok x [.int .i64 x.f0,.slice A1 x.f1.length c1,.slice A2 x.f2.length c2,.string x.f3,.int .i64 x.f4]:=fun W2 hW=>k67_mk W2 x l1 (g1 W2 hW) l2 (g2 W2 hW)
def rd_T67 (xs:List S67)(i:Int):S67:=xs.getD i.toNat z67
theorem at_T67 {w:World}{A:Option Addr}{n:Nat}{xs:List S67}(h:Kd.C k67 w A n xs)(i:Int)(h0:0≤i)(h1:i < n):∃ ad A1 c1 A2 c2,A=some ad∧w.cell? (ad.add (i.toNat * 5))=some (.int .i64 (rd_T67 xs i).f0)∧w.cell? ⟨(ad.add (i.toNat * 5)).block,(ad.add (i.toNat * 5)).off + 1,none⟩=some (.slice A1 (rd_T67 xs i).f1.length c1)∧w.cell? ⟨(ad.add (i.toNat * 5)).block,(ad.add (i.toNat * 5)).off + 2,none⟩=some (.slice A2 (rd_T67 xs i).f2.length c2)∧w.cell? ⟨(ad.add (i.toNat * 5)).block,(ad.add (i.toNat * 5)).off + 3,none⟩=some (.string (rd_T67 xs i).f3)∧w.cell? ⟨(ad.add (i.toNat * 5)).block,(ad.add (i.toNat * 5)).off + 4,none⟩=some (.int .i64 (rd_T67 xs i).f4)∧(rd_T67 xs i).f1.length≤c1∧(Kd.int .i64).C w A1 (rd_T67 xs i).f1.length (rd_T67 xs i).f1∧(rd_T67 xs i).f2.length≤c2∧Kd.string.C w A2 (rd_T67 xs i).f2.length (rd_T67 xs i).f2:=by
  obtain⟨ad,c,e,_,hK,hc0⟩:=Kd.C_get h z67 i h0 h1
  have hc:∀ j u,c[j]?=some u→w.cell? (ad.add (i.toNat * 5 + j))=some u:=hc0
  obtain⟨A1,c1,A2,c2,rfl,l1,g1,l2,g2⟩:=k67_open hK
  exact⟨ad,A1,c1,A2,c2,e,hc 0 _ rfl,by rw [← add_field _ _ 1 (by omega)];exact hc 1 _ rfl,by rw [← add_field _ _ 2 (by omega)];exact hc 2 _ rfl,by rw [← add_field _ _ 3 (by omega)];exact hc 3 _ rfl,by rw [← add_field _ _ 4 (by omega)];exact hc 4 _ rfl,l1,g1,l2,g2⟩
structure S78 where
  f0:Int
  f1:(List Int)
def z78:S78:=⟨(0:Int),([]:List Int)⟩
def k78:Kd S78:=Kd.iso (Kd.pair (Kd.int .i64) (Kd.slice 3 (Kd.int .i64))) (fun x:S78=>(x.f0,x.f1))
theorem k78_heap:Kd.Heap k78:=Kd.heap_iso _ (Kd.heap_pair (Kd.heap_int .i64) (Kd.heap_slice 3 (Kd.heap_int .i64)))
theorem k78_open {w:World}{x:S78}{cs:List Value}(h:k78.K w x cs):∃ A1 c1,cs=[.int .i64 x.f0,.slice A1 x.f1.length c1]∧x.f1.length≤c1∧(Kd.int .i64).C w A1 x.f1.length x.f1:=by
  obtain⟨_,_,rfl,rfl,⟨A1,c1,rfl,l1,g1⟩⟩:=h
  exact⟨A1,c1,rfl,l1,g1⟩
theorem k78_mk (w:World)(x:S78){A1:Option Addr}{c1:Nat}(l1:x.f1.length≤c1)(g1:(Kd.int .i64).C w A1 x.f1.length x.f1):k78.K w x [.int .i64 x.f0,.slice A1 x.f1.length c1]:=⟨[.int .i64 x.f0],[.slice A1 x.f1.length c1],rfl,rfl,⟨A1,c1,rfl,l1,g1⟩⟩
def rd_T78 (xs:List S78)(i:Int):S78:=xs.getD i.toNat z78
theorem at_T78 {w:World}{A:Option Addr}{n:Nat}{xs:List S78}(h:Kd.C k78 w A n xs)(i:Int)(h0:0≤i)(h1:i < n):∃ ad A1 c1,A=some ad∧w.cell? (ad.add (i.toNat * 2))=some (.int .i64 (rd_T78 xs i).f0)∧w.cell? ⟨(ad.add (i.toNat * 2)).block,(ad.add (i.toNat * 2)).off + 1,none⟩=some (.slice A1 (rd_T78 xs i).f1.length c1)∧(rd_T78 xs i).f1.length≤c1∧(Kd.int .i64).C w A1 (rd_T78 xs i).f1.length (rd_T78 xs i).f1:=by
  obtain⟨ad,c,e,_,hK,hc0⟩:=Kd.C_get h z78 i h0 h1
  have hc:∀ j u,c[j]?=some u→w.cell? (ad.add (i.toNat * 2 + j))=some u:=hc0
  obtain⟨A1,c1,rfl,l1,g1⟩:=k78_open hK
  exact⟨ad,A1,c1,e,hc 0 _ rfl,by rw [← add_field _ _ 1 (by omega)];exact hc 1 _ rfl,l1,g1⟩
structure S53 where
  f0:Int
  f1:Int
  f2:ByteArray
def z53:S53:=⟨(0:Int),(0:Int),(⟨#[]⟩:ByteArray)⟩
def k53:Kd S53:=Kd.iso (Kd.pair (Kd.int .i64) (Kd.pair (Kd.int .i64) Kd.string)) (fun x:S53=>(x.f0,x.f1,x.f2))
theorem k53_heap:Kd.Heap k53:=Kd.heap_iso _ (Kd.heap_pair (Kd.heap_int .i64) (Kd.heap_pair (Kd.heap_int .i64) Kd.heap_string))
theorem k53_open {w:World}{x:S53}{cs:List Value}(h:k53.K w x cs):cs=[.int .i64 x.f0,.int .i64 x.f1,.string x.f2]:=by
  obtain⟨_,_,rfl,rfl,⟨_,_,rfl,rfl,rfl⟩⟩:=h
  exact rfl
theorem k53_mk (w:World)(x:S53)  : k53.K w x [.int .i64 x.f0,.int .i64 x.f1,.string x.f2]:=⟨[.int .i64 x.f0],[.int .i64 x.f1,.string x.f2],rfl,rfl,⟨[.int .i64 x.f1],[.string x.f2],rfl,rfl,rfl⟩⟩
def rd_T53 (xs:List S53)(i:Int):S53:=xs.getD i.toNat z53
theorem at_T53 {w:World}{A:Option Addr}{n:Nat}{xs:List S53}(h:Kd.C k53 w A n xs)(i:Int)(h0:0≤i)(h1:i < n):∃ ad ,A=some ad∧w.cell? (ad.add (i.toNat * 3))=some (.int .i64 (rd_T53 xs i).f0)∧w.cell? ⟨(ad.add (i.toNat * 3)).block,(ad.add (i.toNat * 3)).off + 1,none⟩=some (.int .i64 (rd_T53 xs i).f1)∧w.cell? ⟨(ad.add (i.toNat * 3)).block,(ad.add (i.toNat * 3)).off + 2,none⟩=some (.string (rd_T53 xs i).f2):=by
  obtain⟨ad,c,e,_,hK,hc0⟩:=Kd.C_get h z53 i h0 h1
  have hc:∀ j u,c[j]?=some u→w.cell? (ad.add (i.toNat * 3 + j))=some u:=hc0
  obtain rfl:=k53_open hK
  exact⟨ad,e,hc 0 _ rfl,by rw [← add_field _ _ 1 (by omega)];exact hc 1 _ rfl,by rw [← add_field _ _ 2 (by omega)];exact hc 2 _ rfl⟩
structure S32 where
  f0:Int
  f1:Int
  f2:Int
  f3:Int
  f4:(List S53)
  f5:ByteArray
  f6:(List S32)
def z32:S32:=⟨(0:Int),(0:Int),(0:Int),(0:Int),([]:List S53),(⟨#[]⟩:ByteArray),([]:List S32)⟩
def F32 (d:Kd S32):Kd S32:=Kd.iso (Kd.pair (Kd.int .i64) (Kd.pair (Kd.int .i64) (Kd.pair (Kd.int .i64) (Kd.pair (Kd.int .i64) (Kd.pair (Kd.slice 53 k53) (Kd.pair Kd.string (Kd.slice 32 d))))))) (fun x:S32=>(x.f0,x.f1,x.f2,x.f3,x.f4,x.f5,x.f6))
theorem mono32:Kd.Mono F32:=Kd.mono_iso _ (Kd.mono_pair (Kd.mono_const _) (Kd.mono_pair (Kd.mono_const _) (Kd.mono_pair (Kd.mono_const _) (Kd.mono_pair (Kd.mono_const _) (Kd.mono_pair (Kd.mono_const _) (Kd.mono_pair (Kd.mono_const _) (Kd.mono_slice 32 Kd.mono_id)))))))
theorem sub32:Kd.Sub F32 [32,53]:=Kd.sub_iso _ (Kd.sub_pair (Kd.sub_const _ (by decide)) (Kd.sub_pair (Kd.sub_const _ (by decide)) (Kd.sub_pair (Kd.sub_const _ (by decide)) (Kd.sub_pair (Kd.sub_const _ (by decide)) (Kd.sub_pair (Kd.sub_const _ (by decide)) (Kd.sub_pair (Kd.sub_const _ (by decide)) (Kd.sub_slice 32 (by decide) Kd.sub_id)))))))
theorem sz32:∀ n,(Kd.upto F32 7 [32,53] n).sz=7:=Kd.upto_sz (fun _=>rfl)
def k32:Kd S32:=Kd.fix F32 7 [32,53] sz32 (Kd.upto_E sub32)
theorem k32_heap:Kd.Heap k32:=Kd.heap_fix (fun _ h_=>Kd.heap_iso _ (Kd.heap_pair (Kd.heap_int .i64) (Kd.heap_pair (Kd.heap_int .i64) (Kd.heap_pair (Kd.heap_int .i64) (Kd.heap_pair (Kd.heap_int .i64) (Kd.heap_pair (Kd.heap_slice 53 k53_heap) (Kd.heap_pair Kd.heap_string (Kd.heap_slice 32 h_))))))))
theorem k32_open {w:World}{x:S32}{cs:List Value}(h:k32.K w x cs):∃ A4 c4 A6 c6,cs=[.int .i64 x.f0,.int .i64 x.f1,.int .i64 x.f2,.int .i64 x.f3,.slice A4 x.f4.length c4,.string x.f5,.slice A6 x.f6.length c6]∧x.f4.length≤c4∧k53.C w A4 x.f4.length x.f4∧x.f6.length≤c6∧k32.C w A6 x.f6.length x.f6:=by
  obtain⟨n,h⟩:=h
  cases n with
  | zero=>exact h.elim
  | succ n =>
    obtain⟨_,_,rfl,rfl,⟨_,_,rfl,rfl,⟨_,_,rfl,rfl,⟨_,_,rfl,rfl,⟨_,_,rfl,⟨A4,c4,rfl,l4,g4⟩,⟨_,_,rfl,rfl,⟨A6,c6,rfl,l6,g6⟩⟩⟩⟩⟩⟩⟩:=h
    exact⟨A4,c4,A6,c6,rfl,l4,g4,l6,Kd.fix_C g6⟩
theorem k32_openM {w:World}{base:Nat}{ok:Nat→Prop}{x:S32}{cs:List Value}(h:k32.M w base ok x cs):∃ v4 v6,cs=[.int .i64 x.f0,.int .i64 x.f1,.int .i64 x.f2,.int .i64 x.f3,v4,.string x.f5,v6]∧k53.R 53 w base ok v4 x.f4∧k32.R 32 w base ok v6 x.f6:=by
  obtain⟨n,h⟩:=h
  cases n with
  | zero=>exact h.elim
  | succ n =>
    obtain⟨_,_,rfl,rfl,⟨_,_,rfl,rfl,⟨_,_,rfl,rfl,⟨_,_,rfl,rfl,⟨_,_,rfl,⟨v4,rfl,g4⟩,⟨_,_,rfl,rfl,⟨v6,rfl,g6⟩⟩⟩⟩⟩⟩⟩:=h
    exact⟨v4,v6,rfl,g4,Kd.fix_R g6⟩
theorem k32_mk (w:World)(x:S32){A4:Option Addr}{c4:Nat}(l4:x.f4.length≤c4)(g4:k53.C w A4 x.f4.length x.f4){A6:Option Addr}{c6:Nat}(l6:x.f6.length≤c6)(g6:k32.C w A6 x.f6.length x.f6):k32.K w x [.int .i64 x.f0,.int .i64 x.f1,.int .i64 x.f2,.int .i64 x.f3,.slice A4 x.f4.length c4,.string x.f5,.slice A6 x.f6.length c6]:=by
  obtain⟨n6,q6⟩:=Kd.fix_C_back mono32 g6
  have r6:=Kd.upto_C_le mono32 sz32 (show n6≤n6 by omega) q6
  exact⟨n6 + 1,⟨[.int .i64 x.f0],[.int .i64 x.f1,.int .i64 x.f2,.int .i64 x.f3,.slice A4 x.f4.length c4,.string x.f5,.slice A6 x.f6.length c6],rfl,rfl,⟨[.int .i64 x.f1],[.int .i64 x.f2,.int .i64 x.f3,.slice A4 x.f4.length c4,.string x.f5,.slice A6 x.f6.length c6],rfl,rfl,⟨[.int .i64 x.f2],[.int .i64 x.f3,.slice A4 x.f4.length c4,.string x.f5,.slice A6 x.f6.length c6],rfl,rfl,⟨[.int .i64 x.f3],[.slice A4 x.f4.length c4,.string x.f5,.slice A6 x.f6.length c6],rfl,rfl,⟨[.slice A4 x.f4.length c4],[.string x.f5,.slice A6 x.f6.length c6],rfl,⟨A4,c4,rfl,l4,g4⟩,⟨[.string x.f5],[.slice A6 x.f6.length c6],rfl,rfl,⟨A6,c6,rfl,l6,r6⟩⟩⟩⟩⟩⟩⟩⟩
theorem k32_mkM (w:World)(base:Nat)(ok:Nat→Prop)(x:S32){v4:Value}(g4:k53.R 53 w base ok v4 x.f4){v6:Value}(g6:k32.R 32 w base ok v6 x.f6):k32.M w base ok x [.int .i64 x.f0,.int .i64 x.f1,.int .i64 x.f2,.int .i64 x.f3,v4,.string x.f5,v6]:=by
  obtain⟨n6,q6⟩:=Kd.fix_R_back mono32 g6
  have r6:=Kd.upto_R_le mono32 sz32 (show n6≤n6 by omega) q6
  exact⟨n6 + 1,⟨[.int .i64 x.f0],[.int .i64 x.f1,.int .i64 x.f2,.int .i64 x.f3,v4,.string x.f5,v6],rfl,rfl,⟨[.int .i64 x.f1],[.int .i64 x.f2,.int .i64 x.f3,v4,.string x.f5,v6],rfl,rfl,⟨[.int .i64 x.f2],[.int .i64 x.f3,v4,.string x.f5,v6],rfl,rfl,⟨[.int .i64 x.f3],[v4,.string x.f5,v6],rfl,rfl,⟨[v4],[.string x.f5,v6],rfl,⟨v4,rfl,g4⟩,⟨[.string x.f5],[v6],rfl,rfl,⟨v6,rfl,r6⟩⟩⟩⟩⟩⟩⟩⟩
theorem k32_openF {W:World}{ok:Nat→Prop}{x:S32}{cs:List Value}(h:Kd.FK k32 W ok x cs):∃ A4 c4 A6 c6,cs=[.int .i64 x.f0,.int .i64 x.f1,.int .i64 x.f2,.int .i64 x.f3,.slice A4 x.f4.length c4,.string x.f5,.slice A6 x.f6.length c6]∧x.f4.length≤c4∧Kd.F k53 W ok A4 x.f4.length x.f4∧x.f6.length≤c6∧Kd.F k32 W ok A6 x.f6.length x.f6:=by
  obtain⟨A4,c4,A6,c6,rfl,l4,_,l6,_⟩:=k32_open (Kd.FK_now h)
  exact⟨A4,c4,A6,c6,rfl,l4,(fun W' hW=>by obtain⟨A4_,c4_,A6_,c6_,he,l4_,g4_,l6_,g6_⟩:=k32_open (h W' hW);injection (Option.some.inj (show some (Value.slice A4 x.f4.length c4)=some (Value.slice A4_ x.f4.length c4_)from congrArg (fun l=>l[4]?) he))with ha_ _ _;rw [ha_];exact g4_),l6,(fun W' hW=>by obtain⟨A4_,c4_,A6_,c6_,he,l4_,g4_,l6_,g6_⟩:=k32_open (h W' hW);injection (Option.some.inj (show some (Value.slice A6 x.f6.length c6)=some (Value.slice A6_ x.f6.length c6_)from congrArg (fun l=>l[6]?) he))with ha_ _ _;rw [ha_];exact g6_)⟩
def rd_T32 (xs:List S32)(i:Int):S32:=xs.getD i.toNat z32
theorem at_T32 {w:World}{A:Option Addr}{n:Nat}{xs:List S32}(h:Kd.C k32 w A n xs)(i:Int)(h0:0≤i)(h1:i < n):∃ ad A4 c4 A6 c6,A=some ad∧w.cell? (ad.add (i.toNat * 7))=some (.int .i64 (rd_T32 xs i).f0)∧w.cell? ⟨(ad.add (i.toNat * 7)).block,(ad.add (i.toNat * 7)).off + 1,none⟩=some (.int .i64 (rd_T32 xs i).f1)∧w.cell? ⟨(ad.add (i.toNat * 7)).block,(ad.add (i.toNat * 7)).off + 2,none⟩=some (.int .i64 (rd_T32 xs i).f2)∧w.cell? ⟨(ad.add (i.toNat * 7)).block,(ad.add (i.toNat * 7)).off + 3,none⟩=some (.int .i64 (rd_T32 xs i).f3)∧w.cell? ⟨(ad.add (i.toNat * 7)).block,(ad.add (i.toNat * 7)).off + 4,none⟩=some (.slice A4 (rd_T32 xs i).f4.length c4)∧w.cell? ⟨(ad.add (i.toNat * 7)).block,(ad.add (i.toNat * 7)).off + 5,none⟩=some (.string (rd_T32 xs i).f5)∧w.cell? ⟨(ad.add (i.toNat * 7)).block,(ad.add (i.toNat * 7)).off + 6,none⟩=some (.slice A6 (rd_T32 xs i).f6.length c6)∧(rd_T32 xs i).f4.length≤c4∧k53.C w A4 (rd_T32 xs i).f4.length (rd_T32 xs i).f4∧(rd_T32 xs i).f6.length≤c6∧k32.C w A6 (rd_T32 xs i).f6.length (rd_T32 xs i).f6:=by
  obtain⟨ad,c,e,_,hK,hc0⟩:=Kd.C_get h z32 i h0 h1
  have hc:∀ j u,c[j]?=some u→w.cell? (ad.add (i.toNat * 7 + j))=some u:=hc0
  obtain⟨A4,c4,A6,c6,rfl,l4,g4,l6,g6⟩:=k32_open hK
  exact⟨ad,A4,c4,A6,c6,e,hc 0 _ rfl,by rw [← add_field _ _ 1 (by omega)];exact hc 1 _ rfl,by rw [← add_field _ _ 2 (by omega)];exact hc 2 _ rfl,by rw [← add_field _ _ 3 (by omega)];exact hc 3 _ rfl,by rw [← add_field _ _ 4 (by omega)];exact hc 4 _ rfl,by rw [← add_field _ _ 5 (by omega)];exact hc 5 _ rfl,by rw [← add_field _ _ 6 (by omega)];exact hc 6 _ rfl,l4,g4,l6,g6⟩
structure S27 where
  f0:(List ByteArray)
  f1:(List ByteArray)
  f2:(List Int)
  f3:(List S67)
  f4:(List S78)
def k27:Kd S27:=Kd.iso (Kd.pair (Kd.slice 9 Kd.string) (Kd.pair (Kd.slice 9 Kd.string) (Kd.pair (Kd.slice 70 (Kd.int .i64)) (Kd.pair (Kd.slice 67 k67) (Kd.slice 78 k78))))) (fun x:S27=>(x.f0,x.f1,x.f2,x.f3,x.f4))
theorem k27_open {w:World}{x:S27}{cs:List Value}(h:k27.K w x cs):∃ A0 c0 A1 c1 A2 c2 A3 c3 A4 c4,cs=[.slice A0 x.f0.length c0,.slice A1 x.f1.length c1,.slice A2 x.f2.length c2,.slice A3 x.f3.length c3,.slice A4 x.f4.length c4]∧x.f0.length≤c0∧Kd.string.C w A0 x.f0.length x.f0∧x.f1.length≤c1∧Kd.string.C w A1 x.f1.length x.f1∧x.f2.length≤c2∧(Kd.int .i64).C w A2 x.f2.length x.f2∧x.f3.length≤c3∧k67.C w A3 x.f3.length x.f3∧x.f4.length≤c4∧k78.C w A4 x.f4.length x.f4:=by
  obtain⟨_,_,rfl,⟨A0,c0,rfl,l0,g0⟩,⟨_,_,rfl,⟨A1,c1,rfl,l1,g1⟩,⟨_,_,rfl,⟨A2,c2,rfl,l2,g2⟩,⟨_,_,rfl,⟨A3,c3,rfl,l3,g3⟩,⟨A4,c4,rfl,l4,g4⟩⟩⟩⟩⟩:=h
  exact⟨A0,c0,A1,c1,A2,c2,A3,c3,A4,c4,rfl,l0,g0,l1,g1,l2,g2,l3,g3,l4,g4⟩
theorem k27_mk (w:World)(x:S27){A0:Option Addr}{c0:Nat}(l0:x.f0.length≤c0)(g0:Kd.string.C w A0 x.f0.length x.f0){A1:Option Addr}{c1:Nat}(l1:x.f1.length≤c1)(g1:Kd.string.C w A1 x.f1.length x.f1){A2:Option Addr}{c2:Nat}(l2:x.f2.length≤c2)(g2:(Kd.int .i64).C w A2 x.f2.length x.f2){A3:Option Addr}{c3:Nat}(l3:x.f3.length≤c3)(g3:k67.C w A3 x.f3.length x.f3){A4:Option Addr}{c4:Nat}(l4:x.f4.length≤c4)(g4:k78.C w A4 x.f4.length x.f4):k27.K w x [.slice A0 x.f0.length c0,.slice A1 x.f1.length c1,.slice A2 x.f2.length c2,.slice A3 x.f3.length c3,.slice A4 x.f4.length c4]:=⟨[.slice A0 x.f0.length c0],[.slice A1 x.f1.length c1,.slice A2 x.f2.length c2,.slice A3 x.f3.length c3,.slice A4 x.f4.length c4],rfl,⟨A0,c0,rfl,l0,g0⟩,⟨[.slice A1 x.f1.length c1],[.slice A2 x.f2.length c2,.slice A3 x.f3.length c3,.slice A4 x.f4.length c4],rfl,⟨A1,c1,rfl,l1,g1⟩,⟨[.slice A2 x.f2.length c2],[.slice A3 x.f3.length c3,.slice A4 x.f4.length c4],rfl,⟨A2,c2,rfl,l2,g2⟩,⟨[.slice A3 x.f3.length c3],[.slice A4 x.f4.length c4],rfl,⟨A3,c3,rfl,l3,g3⟩,⟨A4,c4,rfl,l4,g4⟩⟩⟩⟩⟩
theorem isE_:∀ l_:List UInt8,(!l_.isEmpty)=(l_ != []):=fun l_=>by cases l_ <;> rfl
theorem cf2_ {w:World}{g:Nat}{t:TypeId}{a0 a1:Value}(h:w.heap[g]?=some (.cells #[a0,a1] t (0,0))):w.cell? ⟨g,0,none⟩=some a0∧w.cell? ⟨g,1,none⟩=some a1∧w.frozen? ⟨g,0,none⟩=false∧w.frozen? ⟨g,1,none⟩=false:=⟨(bC_ h 0).trans rfl,(bC_ h 1).trans rfl,bF_ h 0,bF_ h 1⟩
theorem cf3_ {w:World}{g:Nat}{t:TypeId}{a0 a1 a2:Value}(h:w.heap[g]?=some (.cells #[a0,a1,a2] t (0,0))):w.cell? ⟨g,0,none⟩=some a0∧w.cell? ⟨g,1,none⟩=some a1∧w.cell? ⟨g,2,none⟩=some a2∧w.frozen? ⟨g,0,none⟩=false∧w.frozen? ⟨g,1,none⟩=false∧w.frozen? ⟨g,2,none⟩=false:=⟨(bC_ h 0).trans rfl,(bC_ h 1).trans rfl,(bC_ h 2).trans rfl,bF_ h 0,bF_ h 1,bF_ h 2⟩
theorem cf5_ {w:World}{g:Nat}{t:TypeId}{a0 a1 a2 a3 a4:Value}(h:w.heap[g]?=some (.cells #[a0,a1,a2,a3,a4] t (0,0))):w.cell? ⟨g,0,none⟩=some a0∧w.cell? ⟨g,1,none⟩=some a1∧w.cell? ⟨g,2,none⟩=some a2∧w.cell? ⟨g,3,none⟩=some a3∧w.cell? ⟨g,4,none⟩=some a4∧w.frozen? ⟨g,0,none⟩=false∧w.frozen? ⟨g,1,none⟩=false∧w.frozen? ⟨g,2,none⟩=false∧w.frozen? ⟨g,3,none⟩=false∧w.frozen? ⟨g,4,none⟩=false:=⟨(bC_ h 0).trans rfl,(bC_ h 1).trans rfl,(bC_ h 2).trans rfl,(bC_ h 3).trans rfl,(bC_ h 4).trans rfl,bF_ h 0,bF_ h 1,bF_ h 2,bF_ h 3,bF_ h 4⟩
theorem cf7_ {w:World}{g:Nat}{t:TypeId}{a0 a1 a2 a3 a4 a5 a6:Value}(h:w.heap[g]?=some (.cells #[a0,a1,a2,a3,a4,a5,a6] t (0,0))):w.cell? ⟨g,0,none⟩=some a0∧w.cell? ⟨g,1,none⟩=some a1∧w.cell? ⟨g,2,none⟩=some a2∧w.cell? ⟨g,3,none⟩=some a3∧w.cell? ⟨g,4,none⟩=some a4∧w.cell? ⟨g,5,none⟩=some a5∧w.cell? ⟨g,6,none⟩=some a6∧w.frozen? ⟨g,0,none⟩=false∧w.frozen? ⟨g,1,none⟩=false∧w.frozen? ⟨g,2,none⟩=false∧w.frozen? ⟨g,3,none⟩=false∧w.frozen? ⟨g,4,none⟩=false∧w.frozen? ⟨g,5,none⟩=false∧w.frozen? ⟨g,6,none⟩=false:=⟨(bC_ h 0).trans rfl,(bC_ h 1).trans rfl,(bC_ h 2).trans rfl,(bC_ h 3).trans rfl,(bC_ h 4).trans rfl,(bC_ h 5).trans rfl,(bC_ h 6).trans rfl,bF_ h 0,bF_ h 1,bF_ h 2,bF_ h 3,bF_ h 4,bF_ h 5,bF_ h 6⟩
theorem bc_ {w W:World}{a:Addr}{v:Value}(h:Below w.heap.size w W)(hx:w.cell? a=some v):W.cell? a=some v:=(h.cell (World.block_lt_of_cell? w _ hx)).trans hx
theorem tn0_:(0:Int).toNat=0:=rfl
theorem tn1_:(1:Int).toNat=1:=rfl
theorem szl_ {g:Nat}{w0 w:World}(h:Below w0.heap.size w0 w)(hg:g=w.heap.size):w0.heap.size≤g:=by rw [hg];exact bZ_ h
theorem nel_ {w:World}{g k:Nat}{o:Obj}(h:w.heap[g]?=some o)(hk:k=w.heap.size):g≠k:=by rw [hk];exact Nat.ne_of_lt (blk_lt h)
theorem ner_ {w:World}{g k:Nat}{o:Obj}(h:w.heap[g]?=some o)(hk:k=w.heap.size):k≠g:=by rw [hk];exact Nat.ne_of_gt (blk_lt h)
theorem sT_ {α:Type}(l:List α)(i:Nat)(a:α):l.toArray.setIfInBounds i a=(l.set i a).toArray:=List.setIfInBounds_toArray l i a
theorem s0_ {α:Type}{x:α}{xs:List α}{a:α}:(x :: xs).set 0 a=a :: xs:=List.set_cons_zero
theorem sC_ {α:Type}{x:α}{xs:List α}{i:Nat}{a:α}:(x :: xs).set (i + 1) a=x :: xs.set i a:=List.set_cons_succ
theorem bL_ (w:World)(a:Addr){u:Value}(h:w.cell? a=some u):a.block < w.heap.size:=World.block_lt_of_cell? w a h
abbrev Y:Bool:=true
abbrev Z:Bool:=false
end Go.Proofs.Ytgdbcogbbghjaaa.Q
