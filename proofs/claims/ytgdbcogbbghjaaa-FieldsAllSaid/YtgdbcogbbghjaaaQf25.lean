import Derived.Test.YtgdbcogbbghjaaaQ0
import Derived.Test.YtgdbcogbbghjaaaQf36
namespace Go.Proofs.Ytgdbcogbbghjaaa.Q
open Go.RowKit Go.Proofs.YtgdbcogbbghjaaaW.PrintWords Go.Proofs.YtgdbcogbbghjaaaW.PrintLast Go.Proofs.YtgdbcogbbghjaaaW.PrintMore
attribute [local go_sem] max2_int min2_int max_two min_two max_three min_three max_four min_four   -- for this text's walks alone
set_option linter.unusedVariables false
set_option linter.unusedSimpArgs false
mutual
def arboristref42_Same.j0:Nat→Bool→Int→Int→Int→Int→List (S53)→ByteArray→List (S32)→Int→Int→Int→Int→List (S53)→ByteArray→List (S32)→Option (Bool)
 | 0,_,_,_,_,_,_,_,_,_,_,_,_,_,_,_=>none
 | k + 1,x55,x223000,x223001,x223002,x223003,x223004,x223005,x223006,x224000,x224001,x224002,x224003,x224004,x224005,x224006=>if x55=true then(some false)else(arboristref42_Same.l0 k 0 x223000 x223001 x223002 x223003 x223004 x223005 x223006 x224000 x224001 x224002 x224003 x224004 x224005 x224006)
def arboristref42_Same.l0:Nat→Int→Int→Int→Int→Int→List (S53)→ByteArray→List (S32)→Int→Int→Int→Int→List (S53)→ByteArray→List (S32)→Option (Bool)
 | 0,_,_,_,_,_,_,_,_,_,_,_,_,_,_,_=>none
 | k + 1,x5,x223000,x223001,x223002,x223003,x223004,x223005,x223006,x224000,x224001,x224002,x224003,x224004,x224005,x224006=>if x5 < (x223006.length:Int)then(if 0≤x5 then(if x5 < (x224006.length:Int)then((arboristref42_Same.f k ((rd_T32 x223006 x5).f0) ((rd_T32 x223006 x5).f1) ((rd_T32 x223006 x5).f2) ((rd_T32 x223006 x5).f3) ((rd_T32 x223006 x5).f4) ((rd_T32 x223006 x5).f5) ((rd_T32 x223006 x5).f6) ((rd_T32 x224006 x5).f0) ((rd_T32 x224006 x5).f1) ((rd_T32 x224006 x5).f2) ((rd_T32 x224006 x5).f3) ((rd_T32 x224006 x5).f4) ((rd_T32 x224006 x5).f5) ((rd_T32 x224006 x5).f6)).bind fun t227=>(if t227=true then(arboristref42_Same.l0 k (wrap64 (x5 + 1)) x223000 x223001 x223002 x223003 x223004 x223005 x223006 x224000 x224001 x224002 x224003 x224004 x224005 x224006)else(some false)))else(none))else(none))else(some true)
def arboristref42_Same.f:Nat→Int→Int→Int→Int→List (S53)→ByteArray→List (S32)→Int→Int→Int→Int→List (S53)→ByteArray→List (S32)→Option (Bool)
 | 0,_,_,_,_,_,_,_,_,_,_,_,_,_,_=>none
 | k + 1,a0_0,a0_1,a0_2,a0_3,l0_4,a0_5,l0_6,a1_0,a1_1,a1_2,a1_3,l1_4,a1_5,l1_6=>if a0_0=a1_0 then(if a0_1=a1_1 then(if a0_2=a1_2 then(if a0_3=a1_3 then(if a0_5.toList=a1_5.toList then((arboristref42_SamePieces.f k l0_4 l1_4).bind fun t224=>(if t224=true then(arboristref42_Same.j0 k ((l0_6.length:Int) != (l1_6.length:Int)) a0_0 a0_1 a0_2 a0_3 l0_4 a0_5 l0_6 a1_0 a1_1 a1_2 a1_3 l1_4 a1_5 l1_6)else(arboristref42_Same.j0 k true a0_0 a0_1 a0_2 a0_3 l0_4 a0_5 l0_6 a1_0 a1_1 a1_2 a1_3 l1_4 a1_5 l1_6)))else(arboristref42_Same.j0 k true a0_0 a0_1 a0_2 a0_3 l0_4 a0_5 l0_6 a1_0 a1_1 a1_2 a1_3 l1_4 a1_5 l1_6))else(arboristref42_Same.j0 k true a0_0 a0_1 a0_2 a0_3 l0_4 a0_5 l0_6 a1_0 a1_1 a1_2 a1_3 l1_4 a1_5 l1_6))else(arboristref42_Same.j0 k true a0_0 a0_1 a0_2 a0_3 l0_4 a0_5 l0_6 a1_0 a1_1 a1_2 a1_3 l1_4 a1_5 l1_6))else(arboristref42_Same.j0 k true a0_0 a0_1 a0_2 a0_3 l0_4 a0_5 l0_6 a1_0 a1_1 a1_2 a1_3 l1_4 a1_5 l1_6))else(arboristref42_Same.j0 k true a0_0 a0_1 a0_2 a0_3 l0_4 a0_5 l0_6 a1_0 a1_1 a1_2 a1_3 l1_4 a1_5 l1_6)
end
def arboristref42_Same.B6:List Nat:=[0,1,0,7,15,0,32,0,224,480,1023,2047]
end Go.Proofs.Ytgdbcogbbghjaaa.Q
