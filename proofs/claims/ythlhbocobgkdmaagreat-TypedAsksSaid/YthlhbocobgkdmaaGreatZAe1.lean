import Derived.Test.YthlhbocobgkdmaaGreatZAe0
import Derived.KernelRfl
set_option linter.all false
namespace Go.Proofs.YthlhbocobgkdmaaGreatZ
open Go.AE
set_option maxRecDepth 100000
noncomputable section
theorem mC (n:Nat)(a0:Int)(a1:List D):Q2 (n+1) (.agg [a0,(.Z 1 a1)])=((bif (decide ((0:Int)≤a0)&&decide (a0≤a0)&&decide (a0≤(J5:Int))) then (J2 (N5 n (.int .i64 ((List.replicate a0.toNat (false:D)).length:Int)) (0:Int) a0 (.Z 1 a1) (.Z 1 (List.replicate a0.toNat (false:D)))) fun r1=>bif I7 N5.sk r1 then (some (true,[(.Z 1 (Y r1 4).l)])) else none) else none):Out):=by
 kernel_rfl
theorem wN (n:Nat)(a0:List D):gV (n+1) (.Z 1 a0)=((H3 (dP n (a0.length:Int)) fun r1=>bif I7 dP.H9 r1 then (bif (!(Y r1 0).b) then (some (true,[(.agg [(0:Int),(.Z 1 [])]),(2:Int)])) else (H3 (L0 n (a0.length:Int)) fun r2=>bif I7 L0.H9 r2 then (J2 (bC n (.Z 1 a0) (a0.length:Int) (0:Int) (0:Int) (Y r2 0).i (.Z 1 []) (.Z 1 (Y r2 1).l)) fun r3=>bif I7 bC.sk r3 then (some (true,[(.agg [(Y r3 4).i,(.Z 1 (Y r3 6).l)]),(0:Int)])) else none) else none)) else none):Out):=by
 kernel_rfl
theorem dO (n:Nat)(a0 a1 a2:Int)(a3 a4:List D):N5 (n+1) a0 a1 a2 (.Z 1 a3) (.Z 1 a4)=((bif (decide (a1<a0)) then (H3 (L3 n (.agg [a2,(.Z 1 a3)]) a1) fun r1=>bif I7 L3.H9 r1 then (bif (decide ((0:Int)≤a1)&&decide (a1<(a4.length:Int))) then (N5 n a0 (IntKind.i64.wrap (a1+(1:Int))) a2 (.Z 1 a3) (.Z 1 (a4.set a1.toNat (Y r1 0).b))) else none) else none) else (some (false,[a0,a1,a2,(.Z 1 a3),(.Z 1 a4)]))):Out):=by
 kernel_rfl
theorem nJ (n:Nat)(a0:Int):dP (n+1) a0=((bif (decide (a0≥(1:Int))) then (some (true,[(decide (a0≤(128:Int)))])) else (some (true,[false]))):Out):=by
 kernel_rfl
theorem wP (n:Nat)(a0:Int):L0 (n+1) a0=((H3 (fC n a0) fun r1=>bif I7 fC.H9 r1 then (bif (decide ((0:Int)≤(Y r1 0).i)&&decide ((Y r1 0).i≤(Y r1 0).i)&&decide ((Y r1 0).i≤(J5:Int))) then (some (true,[a0,(.Z 1 (List.replicate (Y r1 0).i.toNat ((.int .u64 (0:Int)):D)))])) else none) else none):Out):=by
 kernel_rfl
theorem oN (n:Nat)(a0:List D)(a1 a2 a3 a4:Int)(a5 a6:List D):bC (n+1) (.Z 1 a0) a1 a2 a3 a4 (.Z 1 a5) (.Z 1 a6)=((bif (decide (a2<a1)) then (bif (decide ((0:Int)≤a2)&&decide (a2<(a0.length:Int))) then (bif I5 (.leaf .bool)&&K0 (.leaf .bool) (a0[a2.toNat]?.getD D.top) then (H3 (K5 n a4 a2 (.bool (a0[a2.toNat]?.getD D.top).b) (.Z 1 a6)) fun r1=>bif I7 K5.H9 r1 then (bC n (.Z 1 a0) a1 (IntKind.i64.wrap (a2+(1:Int))) a3 a4 (.Z 1 a5) (.Z 1 (Y r1 0).l)) else none) else none) else none) else (some (false,[(.Z 1 a0),a1,a2,a3,a4,(.Z 1 a5),(.Z 1 a6)]))):Out):=by
 kernel_rfl
theorem kO (n:Nat)(a0:Int)(a1:List D)(a2:Int):L3 (n+1) (.agg [a0,(.Z 1 a1)]) a2=((bif (decide (a2≥(0:Int))) then (bif (decide (a2<a0)) then (bif (decide ((0:Int)≤(IntKind.i64.wrap (a2.tdiv (64:Int))))&&decide ((IntKind.i64.wrap (a2.tdiv (64:Int)))<(a1.length:Int))) then (bif I5 (.leaf (.int .u64))&&K0 (.leaf (.int .u64)) (a1[(IntKind.i64.wrap (a2.tdiv (64:Int))).toNat]?.getD D.top) then (bif decide ((a2.tmod (64:Int))<0) then none else (some (true,[(.bool ((IntKind.u64.wrap (BitVec.ofInt (IntKind.u64).bits ((a1[(IntKind.i64.wrap (a2.tdiv (64:Int))).toNat]?.getD D.top).i.fdiv (2 ^ (min (a2.tmod (64:Int)).toNat (IntKind.u64).bits))) &&& BitVec.ofInt (IntKind.u64).bits (1:Int)).toNat)==(1:Int)))]))) else none) else none) else (some (true,[false]))) else (some (true,[false]))):Out):=by
 kernel_rfl
theorem wQ (n:Nat)(a0:Int):fC (n+1) a0=((some (true,[(IntKind.i64.wrap ((IntKind.i64.wrap ((IntKind.i64.wrap (a0+(64:Int)))-(1:Int))).tdiv (64:Int)))])):Out):=by
 kernel_rfl
theorem iQ (n:Nat)(a0 a1:Int)(a2:Bool)(a3:List D):K5 (n+1) a0 a1 a2 (.Z 1 a3)=((bif a2 then (bif (decide ((0:Int)≤(IntKind.i64.wrap (a1.tdiv (64:Int))))&&decide ((IntKind.i64.wrap (a1.tdiv (64:Int)))<(a3.length:Int))) then (bif I5 (.leaf (.int .u64))&&K0 (.leaf (.int .u64)) (a3[(IntKind.i64.wrap (a1.tdiv (64:Int))).toNat]?.getD D.top) then (bif decide ((a1.tmod (64:Int))<0) then none else (bif (decide ((0:Int)≤(IntKind.i64.wrap (a1.tdiv (64:Int))))&&decide ((IntKind.i64.wrap (a1.tdiv (64:Int)))<(a3.length:Int))) then (some (true,[(.Z 1 (a3.set (IntKind.i64.wrap (a1.tdiv (64:Int))).toNat (.int .u64 (IntKind.u64.wrap (BitVec.ofInt (IntKind.u64).bits (a3[(IntKind.i64.wrap (a1.tdiv (64:Int))).toNat]?.getD D.top).i ||| BitVec.ofInt (IntKind.u64).bits (IntKind.u64.wrap ((1:Int)*2 ^ (min (a1.tmod (64:Int)).toNat (IntKind.u64).bits)))).toNat))))])) else none)) else none) else none) else (bif (decide ((0:Int)≤(IntKind.i64.wrap (a1.tdiv (64:Int))))&&decide ((IntKind.i64.wrap (a1.tdiv (64:Int)))<(a3.length:Int))) then (bif I5 (.leaf (.int .u64))&&K0 (.leaf (.int .u64)) (a3[(IntKind.i64.wrap (a1.tdiv (64:Int))).toNat]?.getD D.top) then (bif decide ((a1.tmod (64:Int))<0) then none else (bif (decide ((0:Int)≤(IntKind.i64.wrap (a1.tdiv (64:Int))))&&decide ((IntKind.i64.wrap (a1.tdiv (64:Int)))<(a3.length:Int))) then (some (true,[(.Z 1 (a3.set (IntKind.i64.wrap (a1.tdiv (64:Int))).toNat (.int .u64 (IntKind.u64.wrap (BitVec.ofInt (IntKind.u64).bits (a3[(IntKind.i64.wrap (a1.tdiv (64:Int))).toNat]?.getD D.top).i &&& ~~~BitVec.ofInt (IntKind.u64).bits (IntKind.u64.wrap ((1:Int)*2 ^ (min (a1.tmod (64:Int)).toNat (IntKind.u64).bits)))).toNat))))])) else none)) else none) else none)):Out):=by
 kernel_rfl
end
end Go.Proofs.YthlhbocobgkdmaaGreatZ
