import Derived.Test.YthlhbocobgkdmaaGreatZBv1
set_option linter.all false
namespace Go.Proofs.YthlhbocobgkdmaaGreatZ
open Go.AE
theorem fdiv_pow (x k:Nat):((x:Int)).fdiv (2 ^ k)=((x / 2 ^ k:Nat):Int):=by
 rw [zH,Int.fdiv_eq_ediv_of_nonneg _ (Int.natCast_nonneg _)];rfl
theorem yN {x y:Nat}(hx:x<J1)(hy:y<J1):(BitVec.ofInt (IntKind.u64).bits (x:Int) &&& BitVec.ofInt (IntKind.u64).bits (y:Int)).toNat=x &&& y:=by
 rw [BitVec.toNat_and,O9 hx,O9 hy]
end Go.Proofs.YthlhbocobgkdmaaGreatZ
