import Derived.Test.YthlhbocobgkdmaaGreatZAe1
import Derived.Test.YthlhbocobgkdmaaGreatEng
set_option linter.all false
namespace Go.Proofs.YthlhbocobgkdmaaGreatZ
open Go.AE
def J1:Nat:=18446744073709551616
def wd (x:Nat):D:= .int .u64 (x:Int)
def I9 (w n:Nat):List D:=if w≤64 then [wd n] else [wd (n % J1),wd (n / J1)]
def vec (w n:Nat):D:= .agg [.int .i64 (w:Int),.Z 1 (I9 w n)]
theorem U3 {w n:Nat}(h:w≤64):I9 w n=[wd n]:=if_pos h
theorem V8 {w n:Nat}(h:64<w):I9 w n=[wd (n % J1),wd (n / J1)]:=if_neg (by omega)
theorem mU {w:Nat}(h:w≤64):2 ^ w≤J1:=Nat.pow_le_pow_right (by omega) h
theorem lS {w:Nat}(h:64<w):2 ^ w=J1*2 ^ (w-64):=by
 have:w=64+(w-64):=by omega
 rw [this,Nat.pow_add]
 have e:64+(w-64)-64=w-64:=by omega
 rw [e];rfl
theorem eB {w n:Nat}(h:w≤64)(hn:n<2 ^ w):n<J1:=Nat.lt_of_lt_of_le hn (mU h)
theorem div_lt {w n:Nat}(h:64<w)(hn:n<2 ^ w):n / J1<2 ^ (w-64):=by
 rw [lS h] at hn
 exact Nat.div_lt_of_lt_mul hn
theorem iJ {w n:Nat}(h:64<w)(h2:w≤128)(hn:n<2 ^ w):n / J1<J1:=Nat.lt_of_lt_of_le (div_lt h hn) (mU (by omega))
theorem gO (n:Nat):n % J1<J1:=Nat.mod_lt _ (by decide)
theorem K3 (x:Nat):IntKind.u64.wrap (x:Int)=((x % J1:Nat):Int):=by
 rw [IntKind.wrap_u64];unfold J1;omega
theorem O9 {x:Nat}(h:x<J1):(BitVec.ofInt (IntKind.u64).bits (x:Int)).toNat=x:=by
 rw [BitVec.toNat_ofInt]
 show ((x:Int) % ((2 ^ 64:Nat):Int)).toNat=x
 unfold J1 at h
 omega
theorem zH (r:Nat):((2:Int) ^ r)=((2 ^ r:Nat):Int):=by simp
theorem LF {w:Int}(h1:0≤w)(h2:w≤1000):U (fun n=>fC n w) fun r=>r=(true,[.int .i64 ((w+63) / 64)]):=by
 refine U.eq (fun n=>wQ n w) (U.ret ?_)
 have e1:IntKind.i64.wrap (w+64)=w+64:=N8 (by omega) (by omega)
 have e2:IntKind.i64.wrap (w+64-1)=w+63:=by rw [N8 (by omega) (by omega)];omega
 have e3:(w+63).tdiv 64=(w+63) / 64:=Int.tdiv_eq_ediv_of_nonneg (by omega)
 rw [e1,e2,e3,N8 (by omega) (by omega)]
theorem CI {w:Nat}(h1:1≤w)(h2:w≤128):List.replicate (((w:Int)+63) / 64).toNat (D.int .u64 0)=I9 w 0:=by
 by_cases h:w≤64
 ·have:(((w:Int)+63) / 64).toNat=1:=by omega
  rw [this,U3 h];rfl
 ·have:(((w:Int)+63) / 64).toNat=2:=by omega
  rw [this,V8 (by omega)];rfl
theorem Y8 {w:Nat}(h1:1≤w)(h2:w≤128):U (fun n=>L0 n (w:Int)) fun r=>r=(true,[.int .i64 (w:Int),.Z 1 (I9 w 0)]):=by
 refine U.eq (fun n=>wP n _) (U.H3 (LF (by omega) (by omega)) ?_)
 intro _ _ h;cases h
 refine⟨rfl,U.H5 rfl (U.H5 (N7 (N7 (E4 (show (0:Int)≤((w:Int)+63) / 64 by omega)) (E4 (Int.le_refl _))) (E4 (show ((w:Int)+63) / 64≤(J5:Int) by simp only [J5];omega))) (U.ret ?_))⟩
 show (true,[D.int .i64 (w:Int),.Z 1 (List.replicate (((w:Int)+63) / 64).toNat (D.int .u64 0))])=_
 rw [CI h1 h2]
theorem uG {w:Nat}(h1:1≤w)(h2:w≤128):U (fun n=>dP n (w:Int)) fun r=>r=(true,[.bool true]):=by
 refine U.eq (fun n=>nJ n _) (U.H5 (E4 (by omega)) (U.ret ?_))
 rw [E4 (show (w:Int)≤128 by omega)]
end Go.Proofs.YthlhbocobgkdmaaGreatZ
