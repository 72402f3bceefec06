import Derived.Test.YthlhbocobgkdmaaGreatAe1
import Derived.Test.YthlhbocobgkdmaaGreatAe2
import Derived.Test.YthlhbocobgkdmaaGreatEng
namespace Go.Proofs.YthlhbocobgkdmaaGreat
open Go.AE
set_option linter.all false
def J1:Nat:=18446744073709551616
def wd (x:Nat):D:= .int .u64 (x:Int)
def I9 (w n:Nat):List D:=if w≤64 then [wd n] else [wd (n % J1),wd (n / J1)]
def vec (w n:Nat):D:= .agg [.int .i64 (w:Int),.Z 1 (I9 w n)]
theorem U3 {w n:Nat}(h:w≤64):I9 w n=[wd n]:=if_pos h
theorem V8 {w n:Nat}(h:64<w):I9 w n=[wd (n % J1),wd (n / J1)]:=if_neg (by omega)
theorem mU {w:Nat}(h:w≤64):2 ^ w≤J1:=Nat.pow_le_pow_right (by omega) h
theorem lS {w:Nat}(h:64<w):2 ^ w=J1*2 ^ (w-64):=by
 have:w=64+(w-64):=by omega
 rw [this,Nat.pow_add]
 have e:64+(w-64)-64=w-64:=by omega
 rw [e];rfl
theorem eB {w n:Nat}(h:w≤64)(hn:n<2 ^ w):n<J1:=Nat.lt_of_lt_of_le hn (mU h)
theorem div_lt {w n:Nat}(h:64<w)(hn:n<2 ^ w):n / J1<2 ^ (w-64):=by
 rw [lS h] at hn
 exact Nat.div_lt_of_lt_mul hn
theorem iJ {w n:Nat}(h:64<w)(h2:w≤128)(hn:n<2 ^ w):n / J1<J1:=Nat.lt_of_lt_of_le (div_lt h hn) (mU (by omega))
theorem gO (n:Nat):n % J1<J1:=Nat.mod_lt _ (by decide)
theorem nN (n:Nat):n=n % J1+J1*(n / J1):=(Nat.mod_add_div n J1).symm
theorem tP {k:Nat}(hk:k≤64):2 ^ k ∣ J1:=by
 have h:2 ^ k ∣ 2 ^ 64:=Nat.pow_dvd_pow 2 hk
 exact h
theorem K3 (x:Nat):IntKind.u64.wrap (x:Int)=((x % J1:Nat):Int):=by
 rw [IntKind.wrap_u64];unfold J1;omega
theorem O9 {x:Nat}(h:x<J1):(BitVec.ofInt (IntKind.u64).bits (x:Int)).toNat=x:=by
 rw [BitVec.toNat_ofInt]
 show ((x:Int) % ((2 ^ 64:Nat):Int)).toNat=x
 unfold J1 at h
 omega
theorem zH (r:Nat):((2:Int) ^ r)=((2 ^ r:Nat):Int):=by simp
theorem Pp {r:Nat}(hr:r≤63):IntKind.u64.wrap (IntKind.u64.wrap (1*2 ^ (min r (IntKind.u64).bits))-1)=((2 ^ r-1:Nat):Int):=by
 have hp:2 ^ r<J1:=Nat.lt_of_le_of_lt (Nat.pow_le_pow_right (by omega) hr) (by decide)
 have h1:1≤2 ^ r:=Nat.one_le_pow _ _ (by decide)
 have e:min r (IntKind.u64).bits=r:=Nat.min_eq_left (by show r≤64;omega)
 rw [e,Int.one_mul,zH,K3,Nat.mod_eq_of_lt hp]
 have e2:((2 ^ r:Nat):Int)-1=((2 ^ r-1:Nat):Int):=by omega
 rw [e2,K3,Nat.mod_eq_of_lt (by omega)]
theorem WH {x r:Nat}(hx:x<J1)(hr:r≤63):IntKind.u64.wrap ((BitVec.ofInt (IntKind.u64).bits (x:Int) &&& BitVec.ofInt (IntKind.u64).bits (IntKind.u64.wrap (IntKind.u64.wrap (1*2 ^ (min r (IntKind.u64).bits))-1))).toNat:Int)=((x % 2 ^ r:Nat):Int):=by
 have hp:2 ^ r<J1:=Nat.lt_of_le_of_lt (Nat.pow_le_pow_right (by omega) hr) (by decide)
 have h1:1≤2 ^ r:=Nat.one_le_pow _ _ (by decide)
 rw [Pp hr,BitVec.toNat_and,O9 hx,O9 (by omega),Nat.and_two_pow_sub_one_eq_mod,K3,Nat.mod_eq_of_lt]
 exact Nat.lt_of_le_of_lt (Nat.mod_le _ _) hx
theorem LF {w:Int}(h1:0≤w)(h2:w≤1000):U (fun n=>fC n w) fun r=>r=(true,[.int .i64 ((w+63) / 64)]):=by
 refine U.eq (fun n=>wQ n w) (U.ret ?_)
 have e1:IntKind.i64.wrap (w+64)=w+64:=N8 (by omega) (by omega)
 have e2:IntKind.i64.wrap (w+64-1)=w+63:=by rw [N8 (by omega) (by omega)];omega
 have e3:(w+63).tdiv 64=(w+63) / 64:=Int.tdiv_eq_ediv_of_nonneg (by omega)
 rw [e1,e2,e3,N8 (by omega) (by omega)]
theorem CI {w:Nat}(h1:1≤w)(h2:w≤128):List.replicate (((w:Int)+63) / 64).toNat (D.int .u64 0)=I9 w 0:=by
 by_cases h:w≤64
 ·have:(((w:Int)+63) / 64).toNat=1:=by omega
  rw [this,U3 h];rfl
 ·have:(((w:Int)+63) / 64).toNat=2:=by omega
  rw [this,V8 (by omega)];rfl
theorem Y8 {w:Nat}(h1:1≤w)(h2:w≤128):U (fun n=>L0 n (w:Int)) fun r=>r=(true,[.int .i64 (w:Int),.Z 1 (I9 w 0)]):=by
 refine U.eq (fun n=>wP n _) (U.H3 (LF (by omega) (by omega)) ?_)
 intro _ _ h;cases h
 refine⟨rfl,U.H5 rfl (U.H5 (N7 (N7 (E4 (show (0:Int)≤((w:Int)+63) / 64 by omega)) (E4 (Int.le_refl _))) (E4 (show ((w:Int)+63) / 64≤(J5:Int) by simp only [J5];omega))) (U.ret ?_))⟩
 show (true,[D.int .i64 (w:Int),.Z 1 (List.replicate (((w:Int)+63) / 64).toNat (D.int .u64 0))])=_
 rw [CI h1 h2]
theorem Gy {w lo hi:Nat}(h:64<w)(hl:lo<J1):(lo+J1*hi) % 2 ^ w=lo+J1*(hi % 2 ^ (w-64)):=by
 rw [lS h,Nat.mod_mul]
 have e1:(lo+J1*hi) % J1=lo:=by rw [Nat.add_mul_mod_self_left,Nat.mod_eq_of_lt hl]
 have e2:(lo+J1*hi) / J1=hi:=by rw [Nat.add_mul_div_left _ _ (by decide),Nat.div_eq_of_lt hl,C5]
 rw [e1,e2]
theorem Ik {w lo hi:Nat}(h:64<w)(hl:lo<J1):I9 w (lo+J1*hi)=[wd lo,wd hi]:=by
 rw [V8 h]
 have e1:(lo+J1*hi) % J1=lo:=by rw [Nat.add_mul_mod_self_left,Nat.mod_eq_of_lt hl]
 have e2:(lo+J1*hi) / J1=hi:=by rw [Nat.add_mul_div_left _ _ (by decide),Nat.div_eq_of_lt hl,C5]
 rw [e1,e2]
theorem DG {w x:Nat}(h1:1≤w)(h2:w≤64)(hx:x<J1):U (fun n=>bE n (w:Int) (.Z 1 [wd x])) fun r=>r=(true,[.int .i64 (w:Int),.Z 1 (I9 w (x % 2 ^ w))]):=by
 have e:(w:Int).tmod 64=((w % 64:Nat):Int):=by rw [Int.tmod_eq_emod_of_nonneg (by omega)];omega
 refine U.eq (fun n=>AF n _ _) ?_
 rw [e,U3 h2]
 by_cases hw:w=64
 ·subst hw
  refine U.no rfl (U.ret ?_)
  rw [Nat.mod_eq_of_lt (show x<2 ^ 64 from hx)]
 ·have hm:w % 64=w:=Nat.mod_eq_of_lt (by omega)
  rw [hm]
  refine U.H5 (by simp;omega) (U.H5 rfl (U.H5 rfl (U.no (E6 (by omega)) (U.H5 rfl (U.ret ?_)))))
  show (true,[D.int .i64 (w:Int),.Z 1 [.int .u64 (IntKind.u64.wrap ((BitVec.ofInt (IntKind.u64).bits (x:Int) &&& BitVec.ofInt (IntKind.u64).bits (IntKind.u64.wrap (IntKind.u64.wrap (1*2 ^ (min w (IntKind.u64).bits))-1))).toNat:Int))]])=_
  rw [WH hx (by omega)];rfl
theorem DH {w lo hi:Nat}(h1:64<w)(h2:w≤128)(hl:lo<J1)(hh:hi<J1):U (fun n=>bE n (w:Int) (.Z 1 [wd lo,wd hi])) fun r=>r=(true,[.int .i64 (w:Int),.Z 1 (I9 w ((lo+J1*hi) % 2 ^ w))]):=by
 have e:(w:Int).tmod 64=((w % 64:Nat):Int):=by rw [Int.tmod_eq_emod_of_nonneg (by omega)];omega
 rw [Gy h1 hl,Ik h1 hl]
 refine U.eq (fun n=>AF n _ _) ?_
 rw [e]
 by_cases hw:w=128
 ·subst hw
  refine U.no rfl (U.ret ?_)
  rw [Nat.mod_eq_of_lt (show hi<2 ^ (128-64) from hh)]
 ·have hm:w % 64=w-64:=by omega
  rw [hm]
  refine U.H5 (by simp;omega) (U.H5 rfl (U.H5 rfl (U.no (E6 (by omega)) (U.H5 rfl (U.ret ?_)))))
  show (true,[D.int .i64 (w:Int),.Z 1 [wd lo,.int .u64 (IntKind.u64.wrap ((BitVec.ofInt (IntKind.u64).bits (hi:Int) &&& BitVec.ofInt (IntKind.u64).bits (IntKind.u64.wrap (IntKind.u64.wrap (1*2 ^ (min (w-64) (IntKind.u64).bits))-1))).toNat:Int))]])=_
  rw [WH hh (by omega)];rfl
theorem uG {w:Nat}(h1:1≤w)(h2:w≤128):U (fun n=>dP n (w:Int)) fun r=>r=(true,[.bool true]):=by
 refine U.eq (fun n=>nJ n _) (U.H5 (E4 (by omega)) (U.ret ?_))
 rw [E4 (show (w:Int)≤128 by omega)]
theorem KA {w x:Nat}(h1:1≤w)(h2:w≤128)(hx:x<J1):U (fun n=>iV n (w:Int) (.Z 1 [wd x])) fun r=>r=(true,[vec w (x % 2 ^ w),.int .i64 0]):=by
 refine U.eq (fun n=>QA n _ _) (U.H3 (uG h1 h2) ?_)
 intro _ _ h;cases h
 refine⟨rfl,U.H5 rfl (U.no rfl (U.H3 (Y8 h1 h2) ?_))⟩
 intro _ _ h;cases h
 refine⟨rfl,U.H5 rfl ?_⟩
 by_cases hw:w≤64
 ·rw [U3 hw]
  refine U.H3 (DG h1 hw hx) ?_
  intro _ _ h;cases h
  exact⟨rfl,U.H5 rfl (U.ret rfl)⟩
 ·rw [V8 (by omega)]
  refine U.H3 (DH (by omega) h2 hx (hi:=0) (by decide)) ?_
  intro _ _ h;cases h
  exact⟨rfl,U.H5 rfl (U.ret rfl)⟩
theorem Pt {w:Nat}(h1:1≤w)(h2:w≤128):U (fun n=>iV n (w:Int) (.Z 1 [])) fun r=>r=(true,[vec w 0,.int .i64 0]):=by
 refine U.eq (fun n=>QA n _ _) (U.H3 (uG h1 h2) ?_)
 intro _ _ h;cases h
 refine⟨rfl,U.H5 rfl (U.no rfl (U.H3 (Y8 h1 h2) ?_))⟩
 intro _ _ h;cases h
 refine⟨rfl,U.H5 rfl ?_⟩
 by_cases hw:w≤64
 ·rw [U3 hw]
  refine U.H3 (DG h1 hw (x:=0) (by decide)) ?_
  intro _ _ h;cases h
  refine⟨rfl,U.H5 rfl (U.ret ?_)⟩
  show (true,[D.agg [.int .i64 (w:Int),.Z 1 (I9 w (0 % 2 ^ w))],.int .i64 0])=_
  rw [Nat.zero_mod];rfl
 ·rw [V8 (by omega)]
  refine U.H3 (DH (by omega) h2 (lo:=0) (hi:=0) (by decide) (by decide)) ?_
  intro _ _ h;cases h
  refine⟨rfl,U.H5 rfl (U.ret ?_)⟩
  show (true,[D.agg [.int .i64 (w:Int),.Z 1 (I9 w ((0+J1*0) % 2 ^ w))],.int .i64 0])=_
  rw [Nat.mul_zero,Nat.add_zero,Nat.zero_mod];rfl
theorem Cn {a b k:Nat}(hk:k≤1):(decide ((0:Int)≤(a:Int))&&decide ((0:Int)≤(b:Int))&&decide ((0:Int)≤(k:Int))&&decide ((k:Int)≤1))=true:=N7 (N7 (N7 (E4 (by omega)) (E4 (by omega))) (E4 (by omega))) (E4 (by omega))
theorem VP (a b k:Nat):((a:Int)+(b:Int)+(k:Int)) % 18446744073709551616=(((a+b+k) % J1:Nat):Int):=by unfold J1;omega
theorem VO (a b k:Nat):((a:Int)+(b:Int)+(k:Int)) / 18446744073709551616=(((a+b+k) / J1:Nat):Int):=by unfold J1;omega
theorem EP {w a b k:Nat}(h1:1≤w)(h2:w≤128)(ha:a<2 ^ w)(hb:b<2 ^ w)(hk:k≤1):U (fun n=>fR n (vec w a) (vec w b) (.int .u64 (k:Int))) fun r=>r=(true,[.int .i64 (w:Int),.Z 1 (I9 w ((a+b+k) % 2 ^ w))]):=by
 refine U.eq (fun n=>Aj n _ _ _ _ _) (U.H3 (Y8 h1 h2) ?_)
 intro _ _ h;cases h
 refine⟨rfl,U.H5 rfl ?_⟩
 by_cases hw:w≤64
 ·rw [U3 hw,U3 hw,U3 hw]
  have ha':=eB hw ha
  have hb':=eB hw hb
  refine U.J2 (Q:=fun r=>r=(false,[.int .u64 (((a+b+k) / J1:Nat):Int),.int .i64 1,.int .i64 1,.int .i64 (w:Int),.Z 1 [wd a],.int .i64 (w:Int),.Z 1 [wd b],.int .i64 0,.int .i64 (w:Int),.Z 1 [],.Z 1 [wd ((a+b+k) % J1)]])) ?_ (fun ds h=>by cases h) fun ds h=>?_
  ·refine U.eq (fun n=>kP n _ _ _ _ _ _ _ _ _ _ _) (U.H5 rfl (U.H5 rfl (U.H5 rfl (U.H5 rfl (U.H5 rfl (U.H5 (Cn hk) (U.H5 rfl (U.eq (fun n=>kP n _ _ _ _ _ _ _ _ _ _ _) (U.no rfl (U.ret ?_))))))))))
   show (false,[D.int .u64 (((a:Int)+(b:Int)+(k:Int)) / 18446744073709551616),_,_,_,_,_,_,_,_,_,D.Z 1 [.int .u64 (((a:Int)+(b:Int)+(k:Int)) % 18446744073709551616)]])=_
   rw [VP,VO];rfl
  ·cases h
   refine U.H5 rfl (U.H3 (DG h1 hw (gO _)) ?_)
   intro _ _ h;cases h
   refine⟨rfl,U.H5 rfl (U.ret ?_)⟩
   show (true,[D.int .i64 (w:Int),.Z 1 (I9 w ((a+b+k) % J1 % 2 ^ w))])=_
   have:(a+b+k) % J1 % 2 ^ w=(a+b+k) % 2 ^ w:=Nat.mod_mod_of_dvd _ (tP hw)
   rw [this]
 ·have hw:64<w:=by omega
  rw [V8 hw,V8 hw,V8 hw]
  have c1:(a % J1+b % J1+k) / J1≤1:=by
   have:=gO a
   have:=gO b
   unfold J1 at *;omega
  refine U.J2 (Q:=fun r=>∃ k':Int,r=(false,[.int .u64 k',.int .i64 2,.int .i64 2,.int .i64 (w:Int),.Z 1 [wd (a % J1),wd (a / J1)],.int .i64 (w:Int),.Z 1 [wd (b % J1),wd (b / J1)],.int .i64 0,.int .i64 (w:Int),.Z 1 [],.Z 1 [wd ((a % J1+b % J1+k) % J1),wd ((a / J1+b / J1+(a % J1+b % J1+k) / J1) % J1)]])) ?_ (fun ds h=>by obtain⟨_,h⟩:=h;cases h) fun ds h=>?_
  ·refine U.eq (fun n=>kP n _ _ _ _ _ _ _ _ _ _ _) (U.H5 rfl (U.H5 rfl (U.H5 rfl (U.H5 rfl (U.H5 rfl (U.H5 (Cn hk) (U.H5 rfl ?_)))))))
   show U (fun n=>iA n (.int .u64 ((((a % J1:Nat):Int)+((b % J1:Nat):Int)+(k:Int)) / 18446744073709551616)) (2:Int) (1:Int) (w:Int) (.Z 1 [wd (a % J1),wd (a / J1)]) (w:Int) (.Z 1 [wd (b % J1),wd (b / J1)]) (0:Int) (w:Int) (.Z 1 []) (.Z 1 [.int .u64 ((((a % J1:Nat):Int)+((b % J1:Nat):Int)+(k:Int)) % 18446744073709551616),wd (0 / J1)])) _
   rw [VP,VO]
   refine U.eq (fun n=>kP n _ _ _ _ _ _ _ _ _ _ _) (U.H5 rfl (U.H5 rfl (U.H5 rfl (U.H5 rfl (U.H5 rfl (U.H5 (Cn c1) (U.H5 rfl (U.eq (fun n=>kP n _ _ _ _ _ _ _ _ _ _ _) (U.no rfl (U.ret ⟨(((a / J1+b / J1+(a % J1+b % J1+k) / J1) / J1:Nat):Int),?_⟩))))))))))
   show (false,[D.int .u64 ((((a / J1:Nat):Int)+((b / J1:Nat):Int)+(((a % J1+b % J1+k) / J1:Nat):Int)) / 18446744073709551616),_,_,_,_,_,_,_,_,_,D.Z 1 [wd ((a % J1+b % J1+k) % J1),.int .u64 ((((a / J1:Nat):Int)+((b / J1:Nat):Int)+(((a % J1+b % J1+k) / J1:Nat):Int)) % 18446744073709551616)]])=_
   rw [VP,VO];rfl
  ·obtain⟨k',h⟩:=h
   cases h
   refine U.H5 rfl (U.H3 (DH hw h2 (gO _) (gO _)) ?_)
   intro _ _ h;cases h
   refine⟨rfl,U.H5 rfl (U.ret ?_)⟩
   show (true,[D.int .i64 (w:Int),.Z 1 (I9 w (((a % J1+b % J1+k) % J1+J1*((a / J1+b / J1+(a % J1+b % J1+k) / J1) % J1)) % 2 ^ w))])=_
   have e:((a % J1+b % J1+k) % J1+J1*((a / J1+b / J1+(a % J1+b % J1+k) / J1) % J1)) % 2 ^ w=(a+b+k) % 2 ^ w:=by
    rw [Gy hw (gO _),Nat.mod_mod_of_dvd _ (tP (show w-64≤64 by omega)),← Gy hw (gO _)]
    congr 1
    have e1:=Nat.mod_add_div (a % J1+b % J1+k) J1
    have e2:=nN a
    have e3:=nN b
    rw [Nat.mul_add,Nat.mul_add]
    omega
   rw [e]
theorem fdiv_pow (x k:Nat):((x:Int)).fdiv (2 ^ k)=((x / 2 ^ k:Nat):Int):=by
 rw [zH,Int.fdiv_eq_ediv_of_nonneg _ (Int.natCast_nonneg _)];rfl
theorem yN {x y:Nat}(hx:x<J1)(hy:y<J1):(BitVec.ofInt (IntKind.u64).bits (x:Int) &&& BitVec.ofInt (IntKind.u64).bits (y:Int)).toNat=x &&& y:=by
 rw [BitVec.toNat_and,O9 hx,O9 hy]
theorem Jc {x:Nat}(hx:x<J1):(BitVec.ofInt (IntKind.u64).bits (x:Int) &&& BitVec.ofInt (IntKind.u64).bits 4294967295).toNat=x % 4294967296:=by
 have:=yN hx (y:=4294967295) (by decide)
 rw [show ((4294967295:Nat):Int)=4294967295 from rfl] at this
 rw [this]
 exact Nat.and_two_pow_sub_one_eq_mod x 32
theorem FV (x:Nat):((x:Int)).fdiv (2 ^ 32)=((x / 4294967296:Nat):Int):=fdiv_pow x 32
theorem EF {x y:Nat}(hx:x<4294967296)(hy:y<4294967296):x*y≤18446744065119617025:=by
 have:=Nat.mul_le_mul (show x≤4294967295 by omega) (show y≤4294967295 by omega)
 exact this
theorem Gz (a b:Nat):a*b=(a % 4294967296)*(b % 4294967296)+4294967296*((a % 4294967296)*(b / 4294967296)+(a / 4294967296)*(b % 4294967296))+18446744073709551616*((a / 4294967296)*(b / 4294967296)):=by
 have ha:a=a % 4294967296+4294967296*(a / 4294967296):=(Nat.mod_add_div _ _).symm
 have hb:b=b % 4294967296+4294967296*(b / 4294967296):=(Nat.mod_add_div _ _).symm
 generalize a % 4294967296=x0 at *
 generalize a / 4294967296=x1 at *
 generalize b % 4294967296=y0 at *
 generalize b / 4294967296=y1 at *
 subst ha;subst hb
 rw [Nat.add_mul,Nat.mul_add,Nat.mul_add]
 have e1:x0*(4294967296*y1)=4294967296*(x0*y1):=by rw [Nat.mul_left_comm]
 have e2:4294967296*x1*y0=4294967296*(x1*y0):=Nat.mul_assoc ..
 have e3:4294967296*x1*(4294967296*y1)=18446744073709551616*(x1*y1):=by
  rw [Nat.mul_assoc,Nat.mul_left_comm x1,← Nat.mul_assoc]
 rw [e1,e2,e3];omega
theorem Lg {a b:Nat}(ha:a<J1)(hb:b<J1):U (fun n=>eC n (wd a) (wd b)) fun r=>r=(true,[wd (a*b / J1),wd (a*b % J1)]):=by
 refine U.eq (fun n=>BP n _ _) (U.ret ?_)
 have hx1:a / 4294967296<4294967296:=by unfold J1 at ha;omega
 have hy1:b / 4294967296<4294967296:=by unfold J1 at hb;omega
 have hx0:a % 4294967296<4294967296:=Nat.mod_lt _ (by decide)
 have hy0:b % 4294967296<4294967296:=Nat.mod_lt _ (by decide)
 have hp:=Gz a b
 have p00:=EF hx0 hy0
 have p01:=EF hx0 hy1
 have p10:=EF hx1 hy0
 have p11:=EF hx1 hy1
 have m0:∀ x y:Nat,((x:Int)*(y:Int))=((x*y:Nat):Int):=fun x y=>(Int.natCast_mul x y).symm
 have s0:∀ x y:Nat,((x:Int)+(y:Int))=((x+y:Nat):Int):=fun x y=>(Int.natCast_add x y).symm
 rw [Jc ha,Jc hb,FV,FV]
 have w0:∀ x:Nat,x<4294967296→IntKind.u64.wrap (x:Int)=(x:Int):=fun x hx=>by rw [K3,Nat.mod_eq_of_lt (by unfold J1;omega)]
 rw [w0 _ hx0,w0 _ hy0]
 simp only [m0]
 have w1:∀ x:Nat,x≤18446744065119617025→IntKind.u64.wrap (x:Int)=(x:Int):=fun x hx=>by rw [K3,Nat.mod_eq_of_lt (by unfold J1;omega)]
 rw [w1 _ p00,w1 _ p01,w1 _ p10,w1 _ p11]
 simp only [FV,s0]
 generalize hq00:(a % 4294967296)*(b % 4294967296)=q00 at *
 generalize hq01:(a % 4294967296)*(b / 4294967296)=q01 at *
 generalize hq10:(a / 4294967296)*(b % 4294967296)=q10 at *
 generalize hq11:(a / 4294967296)*(b / 4294967296)=q11 at *
 have t1:IntKind.u64.wrap ((q10+q00 / 4294967296:Nat):Int)=((q10+q00 / 4294967296:Nat):Int):=by rw [K3,Nat.mod_eq_of_lt (by unfold J1;omega)]
 rw [t1,Jc (by unfold J1;omega),FV]
 rw [w0 _ (Nat.mod_lt _ (by decide))]
 simp only [s0,FV]
 have t2:IntKind.u64.wrap (((q10+q00 / 4294967296) % 4294967296+q01:Nat):Int)=(((q10+q00 / 4294967296) % 4294967296+q01:Nat):Int):=by rw [K3,Nat.mod_eq_of_lt (by unfold J1;omega)]
 have t3:IntKind.u64.wrap ((q11+(q10+q00 / 4294967296) / 4294967296:Nat):Int)=((q11+(q10+q00 / 4294967296) / 4294967296:Nat):Int):=by rw [K3,Nat.mod_eq_of_lt (by unfold J1;omega)]
 rw [t2,t3]
 simp only [s0,FV]
 have t4:IntKind.u64.wrap ((q11+(q10+q00 / 4294967296) / 4294967296+((q10+q00 / 4294967296) % 4294967296+q01) / 4294967296:Nat):Int)=((a*b / J1:Nat):Int):=by
  rw [K3];unfold J1;omega
 rw [t4,K3];rfl
theorem Qt (a b:Nat):(decide ((0:Int)≤(a:Int))&&decide ((0:Int)≤(b:Int))&&decide ((0:Int)≤0)&&decide ((0:Int)≤1))=true:=N7 (N7 (N7 (E4 (by omega)) (E4 (by omega))) rfl) rfl
theorem getD_some {xs:List D}{i:Nat}{x:D}(h:xs[i]? = some x):xs[((i:Nat):Int).toNat]?.getD D.top=x:=by rw [E1,h];rfl
theorem BO {α:Type}{xs:List α}{i:Nat}{x:α}(h:xs[i]? = some x):i<xs.length:=(List.getElem?_eq_some_iff.1 h).1
theorem RF {x y:Nat}(hx:x<J1)(hy:y<J1):x*y≤340282366920938463426481119284349108225:=Nat.mul_le_mul (show x≤18446744073709551615 by unfold J1 at hx;omega) (show y≤18446744073709551615 by unfold J1 at hy;omega)
theorem vC {i k:Nat}(hi:i≤2)(hk:k≤2){us vs out zs:List D}{x y o c:Nat}(hx:us[i]? = some (wd x))(hy:vs[k]? = some (wd y))(ho:out[i+k]? = some (wd o))(x1:x<J1)(y1:y<J1)(o1:o<J1)(c1:c<J1){q0 q1 q2 q3 q4 q5:Int}{P:Bool×List D→Prop}
  (h:U (fun n=>dE n (i:Int) (wd ((x*y+c+o) / J1)) ((k+1:Nat):Int) q0 q1 q2 (.Z 1 us) q3 (.Z 1 vs) q4 q5 (.Z 1 zs) (.Z 1 (out.set (i+k) (wd ((x*y+c+o) % J1))))) P) :
  U (fun n=>dE n (i:Int) (wd c) (k:Int) q0 q1 q2 (.Z 1 us) q3 (.Z 1 vs) q4 q5 (.Z 1 zs) (.Z 1 out)) P:=by
 have li:=BO hx
 have lk:=BO hy
 have lo:=BO ho
 have e1:IntKind.i64.wrap ((i:Int)+(k:Int))=((i+k:Nat):Int):=by rw [N8 (by omega) (by omega)];omega
 have e2:IntKind.i64.wrap ((k:Int)+1)=((k+1:Nat):Int):=J9 (by omega)
 have hb:=RF x1 y1
 refine U.eq (fun n=>mG n _ _ _ _ _ _ _ _ _ _ _ _ _) ?_
 rw [e1,e2,getD_some hx,getD_some hy,getD_some ho]
 refine U.H5 (E4 (by omega)) (U.H5 (J8 li) (U.H5 rfl (U.H5 (J8 lk) (U.H5 rfl (U.H3 (Lg x1 y1) ?_)))))
 intro _ _ hh;cases hh
 refine⟨rfl,U.H5 rfl (U.H5 (Qt _ _) (U.H5 (J8 lo) (U.H5 rfl (U.H5 (N7 (N7 (N7 (E4 (Int.natCast_nonneg o)) (E4 ?_)) rfl) rfl) (U.H5 (J8 lo) ?_)))))⟩
 ·exact Int.emod_nonneg _ (by decide)
 ·have f1:(((x*y % J1:Nat):Int)+(c:Int)+0)=((x*y % J1+c:Nat):Int):=by omega
  have f2:((x*y % J1+c:Nat):Int) % 18446744073709551616=(((x*y % J1+c) % J1:Nat):Int):=by unfold J1;omega
  have f3:((x*y % J1+c:Nat):Int) / 18446744073709551616=(((x*y % J1+c) / J1:Nat):Int):=by unfold J1;omega
  have f4:((o:Int)+(((x*y % J1+c) % J1:Nat):Int)+0) % 18446744073709551616=(((x*y+c+o) % J1:Nat):Int):=by unfold J1;omega
  have f5:IntKind.u64.wrap (IntKind.u64.wrap (((x*y / J1:Nat):Int)+(((x*y % J1+c) / J1:Nat):Int))+((o:Int)+(((x*y % J1+c) % J1:Nat):Int)+0) / 18446744073709551616)=(((x*y+c+o) / J1:Nat):Int):=by
   rw [IntKind.wrap_u64,IntKind.wrap_u64]
   unfold J1 at *
   generalize x*y=z at *
   omega
  show U (fun n=>dE n (i:Int) (.int .u64 (IntKind.u64.wrap (IntKind.u64.wrap (((x*y / J1:Nat):Int)+(((x*y % J1:Nat):Int)+(c:Int)+0) / 18446744073709551616)+((o:Int)+(((x*y % J1:Nat):Int)+(c:Int)+0) % 18446744073709551616+0) / 18446744073709551616))) ((k+1:Nat):Int) q0 q1 q2 (.Z 1 us) q3 (.Z 1 vs) q4 q5 (.Z 1 zs) (.Z 1 (out.set ((i+k:Nat):Int).toNat (.int .u64 (((o:Int)+(((x*y % J1:Nat):Int)+(c:Int)+0) % 18446744073709551616+0) % 18446744073709551616))))) P
  rw [f1,f2,f3,f4,f5,E1]
  exact h
theorem Bf (a b:Nat):a*b=(a % J1)*(b % J1)+J1*((a % J1)*(b / J1)+(a / J1)*(b % J1)+J1*((a / J1)*(b / J1))):=by
 have ha:=nN a
 have hb:=nN b
 generalize a % J1=x0 at *
 generalize a / J1=x1 at *
 generalize b % J1=y0 at *
 generalize b / J1=y1 at *
 subst ha;subst hb
 rw [Nat.add_mul,Nat.mul_add,Nat.mul_add]
 have e1:x0*(J1*y1)=J1*(x0*y1):=by rw [Nat.mul_left_comm]
 have e2:J1*x1*y0=J1*(x1*y0):=Nat.mul_assoc ..
 have e3:J1*x1*(J1*y1)=J1*(J1*(x1*y1)):=by
  rw [Nat.mul_assoc,Nat.mul_left_comm x1]
 rw [e1,e2,e3,Nat.mul_add,Nat.mul_add];omega
theorem Fi {k:Nat}(hk:k≤64)(x y:Nat):(x+J1*y) % 2 ^ k=x % 2 ^ k:=by
 obtain⟨q,hq⟩:=tP hk
 rw [hq,Nat.mul_assoc,Nat.add_mul_mod_self_left]
theorem GQ {k:Nat}(hk:k≤64)(x:Nat):x % J1 % 2 ^ k=x % 2 ^ k:=Nat.mod_mod_of_dvd _ (tP hk)
theorem ZF {w a b:Nat}(h1:1≤w)(h2:w≤128)(ha:a<2 ^ w)(hb:b<2 ^ w):U (fun n=>mF n (vec w a) (vec w b)) fun r=>r=(true,[vec w (a*b % 2 ^ w)]):=by
 refine U.eq (fun n=>WT n _ _ _ _) (U.H3 (Y8 h1 h2) ?_)
 intro _ _ h;cases h
 refine⟨rfl,U.H5 rfl ?_⟩
 by_cases hw:w≤64
 ·rw [U3 hw,U3 hw,U3 hw]
  have ha':=eB hw ha
  have hb':=eB hw hb
  refine U.J2 (Q:=fun r=>r=(false,[.int .i64 1,.int .i64 1,.int .i64 (w:Int),.Z 1 [wd a],.int .i64 (w:Int),.Z 1 [wd b],.int .i64 0,.int .i64 (w:Int),.Z 1 [],.Z 1 [wd ((a*b+0+0) % J1)]])) ?_ (fun ds h=>by cases h) fun ds h=>?_
  ·refine U.eq (fun n=>jL n _ _ _ _ _ _ _ _ _ _) (U.H5 rfl (U.J2 (Q:=fun r=>∃ c:Int,r=(false,[.int .i64 0,.int .u64 c,.int .i64 1,.int .i64 1,.int .i64 0,.int .i64 (w:Int),.Z 1 [wd a],.int .i64 (w:Int),.Z 1 [wd b],.int .i64 0,.int .i64 (w:Int),.Z 1 [],.Z 1 [wd ((a*b+0+0) % J1)]])) ?_ (fun ds h=>by obtain⟨_,h⟩:=h;cases h) fun ds h=>?_))
   ·refine vC (i:=0) (k:=0) (x:=a) (y:=b) (o:=0) (c:=0) (by decide) (by decide) rfl rfl rfl ha' hb' (by decide) (by decide) ?_
    exact U.eq (fun n=>mG n _ _ _ _ _ _ _ _ _ _ _ _ _) (U.no rfl (U.ret ⟨_,rfl⟩))
   ·obtain⟨c,h⟩:=h
    cases h
    exact U.H5 rfl (U.eq (fun n=>jL n _ _ _ _ _ _ _ _ _ _) (U.no rfl (U.ret rfl)))
  ·cases h
   refine U.H5 rfl (U.H3 (DG h1 hw (gO _)) ?_)
   intro _ _ h;cases h
   refine⟨rfl,U.H5 rfl (U.ret ?_)⟩
   show (true,[D.agg [.int .i64 (w:Int),.Z 1 (I9 w ((a*b) % J1 % 2 ^ w))]])=_
   rw [GQ hw];rfl
 ·have hw:64<w:=by omega
  rw [V8 hw,V8 hw,V8 hw]
  have a0:=gO a
  have b0:=gO b
  have a1:=iJ hw h2 ha
  have b1:=iJ hw h2 hb
  have hp:=Bf a b
  have hp00:=RF a0 b0
  generalize a % J1=x0 at *
  generalize a / J1=x1 at *
  generalize b % J1=y0 at *
  generalize b / J1=y1 at *
  refine U.J2 (Q:=fun r=>r=(false,[.int .i64 2,.int .i64 2,.int .i64 (w:Int),.Z 1 [wd x0,wd x1],.int .i64 (w:Int),.Z 1 [wd y0,wd y1],.int .i64 0,.int .i64 (w:Int),.Z 1 [],.Z 1 [wd ((x0*y0+0+0) % J1),wd ((x1*y0+0+(x0*y1+(x0*y0+0+0) / J1+0) % J1) % J1)]])) ?_ (fun ds h=>by cases h) fun ds h=>?_
  ·refine U.eq (fun n=>jL n _ _ _ _ _ _ _ _ _ _) (U.H5 rfl (U.J2 (Q:=fun r=>∃ c:Int,r=(false,[.int .i64 0,.int .u64 c,.int .i64 2,.int .i64 2,.int .i64 0,.int .i64 (w:Int),.Z 1 [wd x0,wd x1],.int .i64 (w:Int),.Z 1 [wd y0,wd y1],.int .i64 0,.int .i64 (w:Int),.Z 1 [],.Z 1 [wd ((x0*y0+0+0) % J1),wd ((x0*y1+(x0*y0+0+0) / J1+0) % J1)]])) ?_ (fun ds h=>by obtain⟨_,h⟩:=h;cases h) fun ds h=>?_))
   ·refine vC (i:=0) (k:=0) (x:=x0) (y:=y0) (o:=0) (c:=0) (by decide) (by decide) rfl rfl rfl a0 b0 (by decide) (by decide) ?_
    refine vC (i:=0) (k:=1) (x:=x0) (y:=y1) (o:=0) (c:=(x0*y0+0+0) / J1) (by decide) (by decide) rfl rfl rfl a0 b1 (by decide) (by unfold J1 at *;omega) ?_
    exact U.eq (fun n=>mG n _ _ _ _ _ _ _ _ _ _ _ _ _) (U.no rfl (U.ret ⟨_,rfl⟩))
   ·obtain⟨c,h⟩:=h
    cases h
    refine U.H5 rfl (U.eq (fun n=>jL n _ _ _ _ _ _ _ _ _ _) (U.H5 rfl (U.J2 (Q:=fun r=>∃ c:Int,r=(false,[.int .i64 1,.int .u64 c,.int .i64 1,.int .i64 2,.int .i64 1,.int .i64 (w:Int),.Z 1 [wd x0,wd x1],.int .i64 (w:Int),.Z 1 [wd y0,wd y1],.int .i64 0,.int .i64 (w:Int),.Z 1 [],.Z 1 [wd ((x0*y0+0+0) % J1),wd ((x1*y0+0+(x0*y1+(x0*y0+0+0) / J1+0) % J1) % J1)]])) ?_ (fun ds h=>by obtain⟨_,h⟩:=h;cases h) fun ds h=>?_)))
    ·refine vC (i:=1) (k:=0) (x:=x1) (y:=y0) (o:=(x0*y1+(x0*y0+0+0) / J1+0) % J1) (c:=0) (by decide) (by decide) rfl rfl rfl a1 b0 (gO _) (by decide) ?_
     exact U.eq (fun n=>mG n _ _ _ _ _ _ _ _ _ _ _ _ _) (U.no rfl (U.ret ⟨_,rfl⟩))
    ·obtain⟨c,h⟩:=h
     cases h
     exact U.H5 rfl (U.eq (fun n=>jL n _ _ _ _ _ _ _ _ _ _) (U.no rfl (U.ret rfl)))
  ·cases h
   refine U.H5 rfl (U.H3 (DH hw h2 (gO _) (gO _)) ?_)
   intro _ _ h;cases h
   refine⟨rfl,U.H5 rfl (U.ret ?_)⟩
   show (true,[D.agg [.int .i64 (w:Int),.Z 1 (I9 w (((x0*y0) % J1+J1*((x1*y0+(x0*y1+(x0*y0) / J1) % J1) % J1)) % 2 ^ w))]])=_
   have e:((x0*y0) % J1+J1*((x1*y0+(x0*y1+(x0*y0) / J1) % J1) % J1)) % 2 ^ w=a*b % 2 ^ w:=by
    have hk:w-64≤64:=by omega
    have e1:a*b=(x0*y0) % J1+J1*((x0*y0) / J1+x0*y1+x1*y0+J1*(x1*y1)):=by
     have:=nN (x0*y0)
     rw [hp,Nat.mul_add,Nat.mul_add,Nat.mul_add,Nat.mul_add,Nat.mul_add] at *
     omega
    rw [e1,Gy hw (gO _),Gy hw (gO _),GQ hk,Fi hk]
    congr 1
    congr 1
    rw [Nat.add_mod,GQ hk,← Nat.add_mod]
    congr 1
    omega
   rw [e];rfl
theorem GS {x:Nat}(hx:x<J1):IntKind.u64.wrap ((BitVec.ofInt (IntKind.u64).bits (if (IntKind.u64).signed then -1 else (IntKind.u64).max) ^^^ BitVec.ofInt (IntKind.u64).bits (x:Int)).toNat:Int)=((J1-1-x:Nat):Int):=by
 have e:(if (IntKind.u64).signed then -1 else (IntKind.u64).max)=((J1-1:Nat):Int):=by decide
 rw [e]
 have e2:(BitVec.ofInt (IntKind.u64).bits ((J1-1:Nat):Int) ^^^ BitVec.ofInt (IntKind.u64).bits (x:Int)).toNat=J1-1-x:=by
  show (BitVec.ofInt 64 ((J1-1:Nat):Int) ^^^ BitVec.ofInt 64 (x:Int)).toNat=J1-1-x
  have e3:BitVec.ofInt 64 ((J1-1:Nat):Int)=BitVec.allOnes 64:=by decide
  rw [e3,BitVec.allOnes_xor,BitVec.toNat_not]
  have this:(BitVec.ofInt 64 (x:Int)).toNat=x:=O9 hx
  rw [this];rfl
 rw [e2,K3,Nat.mod_eq_of_lt (by unfold J1 at *;omega)]
theorem Eu {w a:Nat}(hw:w≤64)(ha:a<2 ^ w):(J1-1-a) % 2 ^ w=2 ^ w-1-a:=by
 obtain⟨q,hq⟩:=tP hw
 cases q with
 |zero=>unfold J1 at hq;omega
 |succ q=>
  rw [Nat.mul_succ] at hq
  have:J1-1-a=(2 ^ w-1-a)+2 ^ w*q:=by omega
  rw [this,Nat.add_mul_mod_self_left,Nat.mod_eq_of_lt (by omega)]
theorem NA {w a:Nat}(h1:1≤w)(h2:w≤128)(ha:a<2 ^ w):U (fun n=>hO n (vec w a)) fun r=>r=(true,[.int .i64 (w:Int),.Z 1 (I9 w (2 ^ w-1-a))]):=by
 refine U.eq (fun n=>Fx n _ _) (U.H3 (Y8 h1 h2) ?_)
 intro _ _ h;cases h
 refine⟨rfl,U.H5 rfl ?_⟩
 by_cases hw:w≤64
 ·rw [U3 hw,U3 hw]
  have ha':=eB hw ha
  refine U.J2 (Q:=fun r=>r=(false,[.Z 1 [wd a],.int .i64 1,.int .i64 1,.int .i64 0,.int .i64 (w:Int),.Z 1 [],.Z 1 [wd (J1-1-a)]])) ?_ (fun ds h=>by cases h) fun ds h=>?_
  ·refine U.eq (fun n=>mD n _ _ _ _ _ _ _) (U.H5 rfl (U.H5 rfl (U.H5 rfl (U.H5 rfl (U.eq (fun n=>mD n _ _ _ _ _ _ _) (U.no rfl (U.ret ?_)))))))
   show (false,[_,_,_,_,_,_,D.Z 1 [.int .u64 (IntKind.u64.wrap ((BitVec.ofInt (IntKind.u64).bits (if (IntKind.u64).signed then -1 else (IntKind.u64).max) ^^^ BitVec.ofInt (IntKind.u64).bits (a:Int)).toNat:Int))]])=_
   rw [GS ha'];rfl
  ·cases h
   refine U.H5 rfl (U.H3 (DG h1 hw (by unfold J1;omega)) ?_)
   intro _ _ h;cases h
   refine⟨rfl,U.H5 rfl (U.ret ?_)⟩
   show (true,[D.int .i64 (w:Int),.Z 1 (I9 w ((J1-1-a) % 2 ^ w))])=_
   have e:(J1-1-a) % 2 ^ w=2 ^ w-1-a:=by
    exact Eu hw ha
   rw [e]
 ·have hw:64<w:=by omega
  rw [V8 hw,V8 hw]
  have a0:=gO a
  have a1:=iJ hw h2 ha
  have a2:=div_lt hw ha
  have hd:=nN a
  refine U.J2 (Q:=fun r=>r=(false,[.Z 1 [wd (a % J1),wd (a / J1)],.int .i64 2,.int .i64 2,.int .i64 0,.int .i64 (w:Int),.Z 1 [],.Z 1 [wd (J1-1-a % J1),wd (J1-1-a / J1)]])) ?_ (fun ds h=>by cases h) fun ds h=>?_
  ·refine U.eq (fun n=>mD n _ _ _ _ _ _ _) (U.H5 rfl (U.H5 rfl (U.H5 rfl (U.H5 rfl (U.eq (fun n=>mD n _ _ _ _ _ _ _) (U.H5 rfl (U.H5 rfl (U.H5 rfl (U.H5 rfl (U.eq (fun n=>mD n _ _ _ _ _ _ _) (U.no rfl (U.ret ?_))))))))))))
   show (false,[_,_,_,_,_,_,D.Z 1 [.int .u64 (IntKind.u64.wrap ((BitVec.ofInt (IntKind.u64).bits (if (IntKind.u64).signed then -1 else (IntKind.u64).max) ^^^ BitVec.ofInt (IntKind.u64).bits ((a % J1:Nat):Int)).toNat:Int)),.int .u64 (IntKind.u64.wrap ((BitVec.ofInt (IntKind.u64).bits (if (IntKind.u64).signed then -1 else (IntKind.u64).max) ^^^ BitVec.ofInt (IntKind.u64).bits ((a / J1:Nat):Int)).toNat:Int))]])=_
   rw [GS a0,GS a1];rfl
  ·cases h
   refine U.H5 rfl (U.H3 (DH hw h2 (lo:=J1-1-a % J1) (hi:=J1-1-a / J1) (by unfold J1;omega) (by unfold J1;omega)) ?_)
   intro _ _ h;cases h
   refine⟨rfl,U.H5 rfl (U.ret ?_)⟩
   show (true,[D.int .i64 (w:Int),.Z 1 (I9 w ((J1-1-a % J1+J1*(J1-1-a / J1)) % 2 ^ w))])=_
   have e:(J1-1-a % J1+J1*(J1-1-a / J1)) % 2 ^ w=2 ^ w-1-a:=by
    rw [Gy hw (by unfold J1;omega)]
    have e1:(J1-1-a / J1) % 2 ^ (w-64)=2 ^ (w-64)-1-a / J1:=by
     exact Eu (show w-64≤64 by omega) a2
    rw [e1,lS hw]
    generalize 2 ^ (w-64)=p at *
    generalize a / J1=y at *
    generalize a % J1=x at *
    subst hd
    have:p=y+1+(p-1-y):=by omega
    generalize p-1-y=z at *
    subst this
    rw [Nat.mul_add,Nat.mul_add]
    omega
   rw [e]
theorem MX {w a:Nat}(h1:1≤w)(h2:w≤128)(ha:a<2 ^ w):U (fun n=>lF n (vec w a)) fun r=>r=(true,[vec w ((2 ^ w-a) % 2 ^ w)]):=by
 refine U.eq (fun n=>Fw n _ _) (U.H3 (NA h1 h2 ha) ?_)
 intro _ _ h;cases h
 refine⟨rfl,U.H5 rfl (U.H3 (Y8 h1 h2) ?_)⟩
 intro _ _ h;cases h
 refine⟨rfl,U.H5 rfl (U.H3 (EP (a:=2 ^ w-1-a) (b:=0) (k:=1) h1 h2 (by omega) (by omega) (by decide)) ?_)⟩
 intro _ _ h;cases h
 refine⟨rfl,U.H5 ?_ (U.ret ?_)⟩
 ·by_cases hw:w≤64
  ·rw [U3 hw];rfl
  ·rw [V8 (by omega)];rfl
 ·show (true,[D.agg [.int .i64 (w:Int),.Z 1 (I9 w ((2 ^ w-1-a+0+1) % 2 ^ w))]])=_
  have:2 ^ w-1-a+0+1=2 ^ w-a:=by omega
  rw [this];rfl
theorem qM {x r:Nat}(hx:x<J1)(hr:r<64):(IntKind.u64.wrap ((BitVec.ofInt (IntKind.u64).bits ((x:Int).fdiv (2 ^ (min r (IntKind.u64).bits))) &&& BitVec.ofInt (IntKind.u64).bits 1).toNat:Int)==1)=x.testBit r:=by
 have e:min r (IntKind.u64).bits=r:=Nat.min_eq_left (by show r≤64;omega)
 rw [e,fdiv_pow]
 have hq:x / 2 ^ r<J1:=Nat.lt_of_le_of_lt (Nat.div_le_self _ _) hx
 have:=yN hq (y:=1) (by decide)
 rw [show ((1:Nat):Int)=1 from rfl] at this
 rw [this,Nat.and_one_is_mod,K3,Nat.mod_eq_of_lt (show x / 2 ^ r % 2<J1 by unfold J1;omega),Nat.testBit_eq_decide_div_mod_eq]
 have h2:x / 2 ^ r % 2=0∨x / 2 ^ r % 2=1:=by omega
 rcases h2 with h2|h2<;>rw [h2]<;>rfl
theorem qL {w a i:Nat}(h2:w≤128)(ha:a<2 ^ w):U (fun n=>L3 n (vec w a) (i:Int)) fun r=>r=(true,[.bool (a.testBit i)]):=by
 refine U.eq (fun n=>kO n _ _ _) (U.H5 (E4 (by omega)) (U.P7 (fun hi=>?_) fun hi=>U.ret ?_))
 ·have hi:i<w:=by have:=E5 hi;omega
  have e1:IntKind.i64.wrap ((i:Int).tdiv 64)=((i / 64:Nat):Int):=by
   rw [Int.tdiv_eq_ediv_of_nonneg (by omega),N8 (by omega) (by omega)];omega
  have e2:(i:Int).tmod 64=((i % 64:Nat):Int):=by rw [Int.tmod_eq_emod_of_nonneg (by omega)];omega
  rw [e1,e2]
  have hr:i % 64<64:=Nat.mod_lt _ (by decide)
  by_cases hw:w≤64
  ·rw [U3 hw]
   have e3:i / 64=0:=by omega
   have e4:i % 64=i:=by omega
   rw [e3,e4]
   refine U.H5 rfl (U.H5 rfl (U.no (E6 (by omega)) (U.ret ?_)))
   show (true,[D.bool (IntKind.u64.wrap ((BitVec.ofInt (IntKind.u64).bits ((a:Int).fdiv (2 ^ (min i (IntKind.u64).bits))) &&& BitVec.ofInt (IntKind.u64).bits 1).toNat:Int)==1)])=_
   rw [qM (eB hw ha) (by omega)]
  ·have hw:64<w:=by omega
   rw [V8 hw]
   by_cases h64:i<64
   ·have e3:i / 64=0:=by omega
    have e4:i % 64=i:=by omega
    rw [e3,e4]
    refine U.H5 rfl (U.H5 rfl (U.no (E6 (by omega)) (U.ret ?_)))
    show (true,[D.bool (IntKind.u64.wrap ((BitVec.ofInt (IntKind.u64).bits (((a % J1:Nat):Int).fdiv (2 ^ (min i (IntKind.u64).bits))) &&& BitVec.ofInt (IntKind.u64).bits 1).toNat:Int)==1)])=_
    rw [qM (gO a) (by omega)]
    show (true,[D.bool ((a % 2 ^ 64).testBit i)])=_
    rw [Nat.testBit_mod_two_pow,E4 h64,Bool.true_and]
   ·have e3:i / 64=1:=by omega
    have e4:i % 64=i-64:=by omega
    rw [e3,e4]
    refine U.H5 rfl (U.H5 rfl (U.no (E6 (by omega)) (U.ret ?_)))
    show (true,[D.bool (IntKind.u64.wrap ((BitVec.ofInt (IntKind.u64).bits (((a / J1:Nat):Int).fdiv (2 ^ (min (i-64) (IntKind.u64).bits))) &&& BitVec.ofInt (IntKind.u64).bits 1).toNat:Int)==1)])=_
    rw [qM (iJ hw h2 ha) (by omega)]
    show (true,[D.bool ((a / 2 ^ 64).testBit (i-64))])=_
    rw [Nat.testBit_div_two_pow]
    have:i-64+64=i:=by omega
    rw [this]
 ·have hi:w≤i:=by have:=E7 hi;omega
  rw [Nat.testBit_lt_two_pow (Nat.lt_of_lt_of_le ha (Nat.pow_le_pow_right (by omega) hi))]
theorem UJ {w a m:Nat}(h1:1≤w)(h2:w≤128)(ha:a<2 ^ w)(hm:m<9223372036854775808):U (fun n=>T3 n (vec w a) (m:Int)) fun r=>r=(true,[.int .i64 ((min a m:Nat):Int)]):=by
 have em:max (m:Int) 0=(m:Int):=by omega
 have fin:∀ x:Nat,IntKind.i64.wrap (min (x:Int) (IntKind.u64.wrap (m:Int)))=((min x m:Nat):Int):=fun x=>by
  rw [K3,Nat.mod_eq_of_lt (by unfold J1;omega),N8 (by omega) (by omega)];omega
 refine U.eq (fun n=>AD n _ _ _) ?_
 rw [em]
 by_cases hw:w≤64
 ·rw [U3 hw]
  refine U.J2 (Q:=fun r=>r=(false,[.int .i64 (m:Int),.Z 1 [wd a],.int .i64 1,.int .i64 1,.int .i64 (w:Int),.Z 1 [wd a]])) ?_ (fun ds h=>by cases h) fun ds h=>?_
  ·exact U.eq (fun n=>aZ n _ _ _ _ _ _) (U.H5 rfl (U.H5 rfl (U.H5 rfl (U.no rfl (U.eq (fun n=>aZ n _ _ _ _ _ _) (U.no rfl (U.ret rfl)))))))
  ·cases h
   refine U.H5 rfl (U.no (by simp [Y,D.i];omega) (U.H5 rfl (U.H5 rfl (U.ret ?_))))
   show (true,[D.int .i64 (IntKind.i64.wrap (min (a:Int) (IntKind.u64.wrap (m:Int))))])=_
   rw [fin]
 ·have hw:64<w:=by omega
  have hd:=nN a
  have a0:=gO a
  rw [V8 hw]
  by_cases hz:a / J1=0
  ·refine U.J2 (Q:=fun r=>r=(false,[.int .i64 (m:Int),.Z 1 [wd (a % J1),wd (a / J1)],.int .i64 2,.int .i64 2,.int .i64 (w:Int),.Z 1 [wd (a % J1),wd (a / J1)]])) ?_ (fun ds h=>by cases h) fun ds h=>?_
   ·refine U.eq (fun n=>aZ n _ _ _ _ _ _) (U.H5 rfl (U.H5 rfl (U.H5 rfl (U.no rfl (U.eq (fun n=>aZ n _ _ _ _ _ _) (U.H5 rfl (U.H5 rfl (U.H5 rfl (U.H5 rfl (U.no ?_ (U.eq (fun n=>aZ n _ _ _ _ _ _) (U.no rfl (U.ret rfl)))))))))))))
    show (((a / J1:Nat):Int) !=0)=false
    rw [hz];rfl
   ·cases h
    refine U.H5 rfl (U.no (by simp [Y,D.i];omega) (U.H5 rfl (U.H5 rfl (U.ret ?_))))
    show (true,[D.int .i64 (IntKind.i64.wrap (min ((a % J1:Nat):Int) (IntKind.u64.wrap (m:Int))))])=_
    rw [fin]
    have:a % J1=a:=by rw [hz] at hd;omega
    rw [this]
  ·refine U.J2 (Q:=fun r=>r=(true,[.int .i64 (m:Int)])) ?_ (fun ds h=>?_) fun ds h=>by cases h
   ·refine U.eq (fun n=>aZ n _ _ _ _ _ _) (U.H5 rfl (U.H5 rfl (U.H5 rfl (U.no rfl (U.eq (fun n=>aZ n _ _ _ _ _ _) (U.H5 rfl (U.H5 rfl (U.H5 rfl (U.H5 rfl (U.H5 ?_ (U.ret rfl)))))))))))
    show (((a / J1:Nat):Int) !=0)=true
    simp;omega
   ·rw [h]
    have:min a m=m:=by
     have h1:1≤a / J1:=Nat.pos_of_ne_zero hz
     have h2:=Nat.mul_le_mul_left J1 h1
     unfold J1 at *
     omega
    rw [this]
theorem Pu {m:Int}(hm:0≤m):U (fun n=>T3 n (.agg [.int .i64 0,.Z 1 []]) m) fun r=>r=(true,[.int .i64 0]):=by
 refine U.eq (fun n=>AD n _ _ _) (U.J2 (Q:=fun r=>r=(false,[.int .i64 (max m 0),.Z 1 [],.int .i64 0,.int .i64 0,.int .i64 0,.Z 1 []])) (U.eq (fun n=>aZ n _ _ _ _ _ _) (U.no rfl (U.ret rfl))) (fun ds h=>by cases h) fun ds h=>?_)
 cases h
 exact U.H5 rfl (U.H5 rfl (U.ret rfl))
def jH (w n:Nat):List D:=(List.range w).map fun i=> .bool (n.testBit i)
theorem qE (w n:Nat):(jH w n).length=w:=by simp [jH]
theorem yQ {w n i:Nat}(h:i<w):(jH w n)[i]? = some (.bool (n.testBit i)):=by simp [jH,h]
theorem SC {w a:Nat}(h2:w≤128)(ha:a<2 ^ w):U (fun n=>Q2 n (vec w a)) fun r=>r=(true,[.Z 1 (jH w a)]):=by
 refine U.eq (fun n=>mC n _ _) (U.H5 (N7 (N7 (E4 (by omega)) (E4 (Int.le_refl _))) (E4 (by simp only [J5];omega))) ?_)
 rw [E1,List.length_replicate]
 have loop:∀ (m j:Nat) (out:List D),w-j=m→j≤w→out.length=w→(∀ i,i<j→out[i]? = some (.bool (a.testBit i)))→
   U (fun n=>N5 n (w:Int) (j:Int) (w:Int) (.Z 1 (I9 w a)) (.Z 1 out)) fun r=>∃ j':Int,r=(false,[.int .i64 (w:Int),.int .i64 j',.int .i64 (w:Int),.Z 1 (I9 w a),.Z 1 (jH w a)]):=by
  intro m
  induction m with
  |zero=>
   intro j out hm hj hl ho
   refine U.eq (fun n=>dO n _ _ _ _ _) (U.no (E6 (by omega)) (U.ret ⟨(j:Int),?_⟩))
   have:out=jH w a:=by
    apply List.ext_getElem?
    intro i
    by_cases hi:i<w
    ·rw [ho i (by omega),yQ hi]
    ·rw [List.getElem?_eq_none (by omega),List.getElem?_eq_none (by rw [qE];omega)]
   rw [this]
  |succ m ih=>
   intro j out hm hj hl ho
   have hw:IntKind.i64.wrap ((j:Int)+1)=((j+1:Nat):Int):=J9 (by omega)
   refine U.eq (fun n=>dO n _ _ _ _ _) (U.H5 (E4 (by omega)) (U.H3 (qL (i:=j) h2 ha) ?_))
   intro _ _ h;cases h
   rw [hw]
   refine⟨rfl,U.H5 rfl (U.H5 (J8 (by omega)) ?_)⟩
   rw [E1]
   refine ih (j+1) _ (by omega) (by omega) (by rw [List.length_set];exact hl) fun i hi=>?_
   rw [List.getElem?_set]
   by_cases e:j=i
   ·subst e
    rw [if_pos rfl,if_pos (by omega)];rfl
   ·rw [if_neg e];exact ho i (by omega)
 refine U.J2 (loop w 0 _ rfl (C4 _) (by simp) (fun i hi=>by omega)) (fun ds h=>by obtain⟨_,h⟩:=h;cases h) fun ds h=>?_
 obtain⟨j',h⟩:=h
 cases h
 exact U.H5 rfl (U.ret rfl)
theorem H4 {t:Nat→Out}{k:List D→Nat→Out}{ds:List D}{P:Bool×List D→Prop}(h:U t fun r=>r=(true,ds))(hk:U (k ds) P):U (fun n=>AE.H3 (t n) fun ds=>k ds n) P:=
 U.H3 h fun _ _ e=>by cases e;exact⟨rfl,hk⟩
theorem fJ {t:Nat→Out}{k:List D→Nat→Out}{ds:List D}{P:Bool×List D→Prop}(h:U t fun r=>r=(false,ds))(hk:U (k ds) P):U (fun n=>AE.J2 (t n) fun ds=>k ds n) P:=
 U.J2 h (fun _ e=>by cases e) fun _ e=>by cases e;exact hk
theorem Uo {t:Nat→Out}{k:List D→Nat→Out}{ds:List D}{P:Bool×List D→Prop}(h:U t fun r=>r=(true,ds))(hk:P (true,ds)):U (fun n=>AE.J2 (t n) fun ds=>k ds n) P:=
 U.J2 h (fun _ e=>by cases e;exact hk) fun _ e=>by cases e
theorem M1 {t u:Nat→Out}{P:Bool×List D→Prop}(he:∀ n,t n=u n)(h:U u P):U t P:=by
 have:t=u:=funext he
 rw [this];exact h
def iD (x:Nat):D:= .int .i64 (x:Int)
def kB (c:UInt8):Nat:=bif decide (48≤c.toNat)&&decide (c.toNat≤57) then c.toNat-48 else bif decide (97≤c.toNat)&&decide (c.toNat≤102) then c.toNat-87 else bif decide (65≤c.toNat)&&decide (c.toNat≤70) then c.toNat-55 else 16
def Kq:F9:=[48,49,50,51,52,53,54,55,56,57,97,98,99,100,101,102]
def Kp (y:Int):Int:=bif decide (oE y.toNat.toUInt8 Kq 0≥0) then oE y.toNat.toUInt8 Kq 0 else 16
def Qy (x:Int):Int:=bif decide (x≥65) then (bif decide (x≤70) then Kp (IntKind.u8.wrap (x+32)) else Kp x) else Kp x
theorem SQ {P:UInt8→Prop}(h:∀ k:Fin 256,P (UInt8.ofFin k))(c:UInt8):P c:=by
 have:=h c.toFin
 exact this
theorem Nh:∀ k:Fin 256,Qy ((UInt8.ofFin k).toNat:Int)=(kB (UInt8.ofFin k):Int):=by decide +kernel
theorem Qz (c:UInt8):Qy (c.toNat:Int)=(kB c:Int):=SQ (P:=fun c=>Qy (c.toNat:Int)=(kB c:Int)) Nh c
theorem TR (s:F9)(y:Int):U (fun n=>S8 n (.str s) (.int .u8 y)) fun r=>r=(true,[.int .i64 (oE y.toNat.toUInt8 s 0)]):=by
 refine U.eq (fun n=>yF n _ _) (H4 (U.eq (fun n=>lY n _ _) (U.ret rfl)) (U.H5 rfl (U.ret rfl)))
theorem ZM (c:UInt8):U (fun n=>nU n (.int .u8 (c.toNat:Int))) fun r=>r=(true,[iD (kB c)]):=by
 unfold iD
 rw [← Qz]
 have tail:∀ y:Int,U (fun n=>AE.H3 (S8 n (.str Kq) (.int .u8 y)) fun r1=>bif I7 S8.H9 r1 then (bif (decide ((Y r1 0).i≥(0:Int))) then (some (true,[(.int .i64 (Y r1 0).i)])) else (some (true,[(16:Int)]))) else none) fun r=>r=(true,[.int .i64 (Kp y)]):=by
  intro y
  refine H4 (TR _ _) (U.H5 rfl ?_)
  unfold Kp
  cases h:decide (oE y.toNat.toUInt8 Kq 0≥0) with
  |true=>exact U.H5 h (U.ret rfl)
  |false=>exact U.no h (U.ret rfl)
 refine U.eq (fun n=>UE n _) ?_
 unfold Qy
 cases h1:decide ((c.toNat:Int)≥65) with
 |true=>
  cases h2:decide ((c.toNat:Int)≤70) with
  |true=>exact U.H5 rfl (U.H5 rfl (tail _))
  |false=>exact U.H5 rfl (U.no rfl (tail _))
 |false=>exact U.no rfl (tail _)
def wZ (b:Nat):F9→Option (List Nat)
 |[]=>some []
 |c::t=>bif ((c.toNat:Int)==95) then wZ b t else bif decide (kB c<b) then (wZ b t).map (kB c::·) else none
def oR (b:Nat):F9→Option (List Nat)
 |[]=>none
 |c::t=>bif decide (kB c<b) then (wZ b t).map (kB c::·) else none
def DI (b:Nat)(s:F9):List D:=match s with
 |[]=>[.int .i64 6,.Z 1 []]
 |c::t=>match oR b (c::t) with
  |none=>[.int .i64 5,.Z 1 []]
  |some l=>[.int .i64 0,.Z 1 (l.map iD)]
theorem LL {b:Nat}:∀ {s:F9} {l:List Nat},wZ b s=some l→l.length≤s.length∧∀ d∈l,d<b
 |[],l,h=>by cases h;exact⟨B9 _,fun d hd=>by simp at hd⟩
 |c::t,l,h=>by
  unfold wZ at h
  cases h1:((c.toNat:Int)==95) with
  |true=>
   rw [h1] at h
   have:=LL (s:=t) h
   exact⟨by simp only [A0];omega,this.2⟩
  |false=>
   rw [h1] at h
   cases h2:decide (kB c<b) with
   |false=>rw [h2] at h;cases h
   |true=>
    rw [h2] at h
    obtain⟨l',hl,rfl⟩:=Option.map_eq_some_iff.1 (show (wZ b t).map (kB c::·)=some l from h)
    have:=LL (s:=t) hl
    refine⟨by simp only [A0];omega,fun d hd=>?_⟩
    rcases B7.1 hd with rfl|hd
    ·exact E5 h2
    ·exact this.2 d hd
theorem LJ {b:Nat}{s:F9}{l:List Nat}(h:oR b s=some l):l.length≤s.length∧∀ d∈l,d<b:=by
 cases s with
 |nil=>cases h
 |cons c t=>
  replace h:(bif decide (kB c<b) then (wZ b t).map (kB c::·) else none)=some l:=h
  cases h2:decide (kB c<b) with
  |false=>rw [h2] at h;cases h
  |true=>
   rw [h2] at h
   obtain⟨l',hl,rfl⟩:=Option.map_eq_some_iff.1 (show (wZ b t).map (kB c::·)=some l from h)
   have:=LL (s:=t) hl
   refine⟨by simp only [A0];omega,fun d hd=>?_⟩
   rcases B7.1 hd with rfl|hd
   ·exact E5 h2
   ·exact this.2 d hd
theorem XL {s:F9}{j:Nat}(h:j<s.length):s[((j:Nat):Int).toNat]?.getD 0=s[j]:=by
 rw [E1,C2 h];rfl
theorem SY (x b:Nat):decide ((x:Int)<(b:Int))=decide (x<b):=by
 by_cases h:x<b
 ·rw [E4 h,E4 (by omega)]
 ·rw [E6 h,E6 (by omega)]
theorem FQ {s:F9}(hs:s.length≤1048576)(b:Nat):U (fun n=>eA n (.str s) (b:Int)) fun r=>r=(true,DI b s):=by
 refine U.eq (fun n=>OY n s _) ?_
 cases s with
 |nil=>exact U.H5 rfl (U.ret rfl)
 |cons c0 t0=>
  refine U.no rfl ?_
  generalize hst:c0::t0=s at hs ⊢
  have loop:∀ (m j:Nat) (out:List D),s.length-j=m→j≤s.length→1≤j→out.length≤j→
    U (fun n=>X9 n (.str s) (b:Int) (s.length:Int) (j:Int) (.Z 1 out)) fun r=>r=match wZ b (s.drop j) with
     |none=>(true,[.int .i64 5,.Z 1 []])
     |some l=>(false,[.str s,.int .i64 (b:Int),.int .i64 (s.length:Int),.int .i64 (s.length:Int),.Z 1 (out++l.map iD)]):=by
   intro m
   induction m with
   |zero=>
    intro j out hm hj h1 ho
    have:j=s.length:=by omega
    subst this
    refine U.eq (fun n=>nS n _ _ _ _ _) (U.no (E6 (by omega)) (U.ret ?_))
    rw [List.drop_length]
    show _=(false,[_,_,_,_,D.Z 1 (out++[])])
    rw [D5]
   |succ m ih=>
    intro j out hm hj h1 ho
    have hj2:j<s.length:=by omega
    have hw:IntKind.i64.wrap ((j:Int)+1)=((j+1:Nat):Int):=J9 (by omega)
    refine U.eq (fun n=>nS n _ _ _ _ _) (U.H5 (E4 (by omega)) (U.H5 (J8 hj2) ?_))
    rw [XL hj2,hw,drop_cons hj2]
    refine H4 (ZM _) (U.H5 rfl (U.H5 (J8 hj2) ?_))
    have i1:=ih (j+1) out (by omega) hj2 (by omega) (by omega)
    have i2:=ih (j+1) (out++[iD (kB s[j])]) (by omega) hj2 (by omega) (by simp only [A7,C9];omega)
    unfold wZ
    have hd:=SY (kB s[j]) b
    cases h95:((s[j].toNat:Int)==95) with
    |true=>
     refine U.H5 rfl (U.H5 (E4 (by omega)) ?_)
     exact i1
    |false=>
     refine U.no rfl ?_
     cases hlt:decide (kB s[j]<b) with
     |true=>
      rw [hlt] at hd
      refine U.H5 hd (U.H5 (B2 (by simp only [J5];omega)) (i2.mono fun r hr=>?_))
      rw [hr]
      cases wZ b (s.drop (j+1)) with
      |none=>rfl
      |some l=>
       show (false,[_,_,_,_,D.Z 1 (out++[iD (kB s[j])]++l.map iD)])=(false,[_,_,_,_,D.Z 1 (out++(kB s[j]::l).map iD)])
       simp
     |false=>
      rw [hlt] at hd
      exact U.no hd (U.ret rfl)
  have hl0:0<s.length:=by rw [← hst];simp
  have hs0:s[0]=c0:=by subst hst;rfl
  have hd0:s.drop 1=t0:=by subst hst;rfl
  have first:U (fun n=>X9 n (.str s) (b:Int) (s.length:Int) (0:Int) (.Z 1 [])) fun r=>r=match oR b s with
     |none=>(true,[.int .i64 5,.Z 1 []])
     |some l=>(false,[.str s,.int .i64 (b:Int),.int .i64 (s.length:Int),.int .i64 (s.length:Int),.Z 1 (l.map iD)]):=by
   refine U.eq (fun n=>nS n _ _ _ _ _) (U.H5 (E4 (by omega)) (U.H5 (J8 (j:=0) hl0) ?_))
   have hg:=XL hl0
   rw [show s[(0:Int).toNat]?.getD 0=s[0] from hg,hs0]
   refine H4 (ZM _) (U.H5 rfl (U.H5 (J8 (j:=0) hl0) ?_))
   have i2:=loop (s.length-1) 1 [iD (kB c0)] (by omega) hl0 (by omega) (by simp)
   rw [hd0] at i2
   have hd:=SY (kB c0) b
   have body:U (fun n=>bif (decide ((Y [iD (kB c0)] 0).i<(b:Int))) then (bif Nat.ble (([]:List D).length+1) J5 then (X9 n (.str s) (b:Int) (s.length:Int) (.int .i64 (IntKind.i64.wrap ((0:Int)+(1:Int)))) (.Z 1 ([]++([(.int .i64 (Y [iD (kB c0)] 0).i)]:List D)))) else none) else (some (true,[(5:Int),(.Z 1 ([]:List D))]))) fun r=>r=match oR b s with
     |none=>(true,[.int .i64 5,.Z 1 []])
     |some l=>(false,[.str s,.int .i64 (b:Int),.int .i64 (s.length:Int),.int .i64 (s.length:Int),.Z 1 (l.map iD)]):=by
    have hF:oR b s=(bif decide (kB c0<b) then (wZ b t0).map (kB c0::·) else none):=by subst hst;rfl
    rw [hF]
    cases hlt:decide (kB c0<b) with
    |true=>
     rw [hlt] at hd
     refine U.H5 hd (U.H5 rfl (i2.mono fun r hr=>?_))
     rw [hr]
     cases wZ b t0 with
     |none=>rfl
     |some l=>rfl
    |false=>
     rw [hlt] at hd
     exact U.no hd (U.ret rfl)
   cases h95:((c0.toNat:Int)==95) with
   |true=>exact U.H5 rfl (U.no rfl body)
   |false=>exact U.no rfl body
  have hR:DI b s=match oR b s with
    |none=>[.int .i64 5,.Z 1 []]
    |some l=>[.int .i64 0,.Z 1 (l.map iD)]:=by subst hst;rfl
  rw [hR]
  cases hF:oR b s with
  |none=>rw [hF] at first;exact Uo first rfl
  |some l=>rw [hF] at first;exact fJ first (U.H5 rfl (U.ret rfl))
def rV (l:List Nat):Nat:=l.foldl (fun a d=>10*a+d) 0
theorem YW {l:List Nat}(hd:∀ d∈l,d<17)(hl:l.length≤1048576){m:Nat}(hm:m≤4294967296):U (fun n=>fM n (.Z 1 (l.map iD)) (m:Int)) fun r=>r=(true,[iD (min (rV l) m)]):=by
 refine U.eq (fun n=>UD n _ _) ?_
 rw [List.length_map]
 have loop:∀ (k j v:Nat),l.length-j=k→j≤l.length→
   U (fun n=>cR n (m:Int) (iD (min v m)) (.Z 1 (l.map iD)) (l.length:Int) (j:Int)) fun r=>r=(false,[.int .i64 (m:Int),iD (min ((l.drop j).foldl (fun a d=>10*a+d) v) m),.Z 1 (l.map iD),.int .i64 (l.length:Int),.int .i64 (l.length:Int)]):=by
  intro k
  induction k with
  |zero=>
   intro j v hk hj
   have:j=l.length:=by omega
   subst this
   refine U.eq (fun n=>vR n _ _ _ _ _) (U.no (E6 (by omega)) (U.ret ?_))
   rw [List.drop_length];rfl
  |succ k ih=>
   intro j v hk hj
   have hj2:j<l.length:=by omega
   have hj3:j<(l.map iD).length:=by rw [List.length_map];exact hj2
   have hw:IntKind.i64.wrap ((j:Int)+1)=((j+1:Nat):Int):=J9 (by omega)
   have hdj:=hd l[j] (C6 hj2)
   refine U.eq (fun n=>vR n _ _ _ _ _) (U.H5 (E4 (by omega)) (U.H5 (J8 hj3) ?_))
   rw [W7 hj3,hw,List.getElem_map]
   refine U.H5 rfl ?_
   have e1:IntKind.i64.wrap (10*((min v m:Nat):Int))=((10*min v m:Nat):Int):=by rw [N8 (by omega) (by omega)];omega
   have e2:IntKind.i64.wrap (((10*min v m:Nat):Int)+(l[j]:Int))=((10*min v m+l[j]:Nat):Int):=by rw [N8 (by omega) (by omega)];omega
   show U (fun n=>cR n (m:Int) (.int .i64 (min (IntKind.i64.wrap (IntKind.i64.wrap (10*((min v m:Nat):Int))+(l[j]:Int))) (m:Int))) (.Z 1 (l.map iD)) (l.length:Int) ((j+1:Nat):Int)) _
   rw [e1,e2]
   have e3:min ((10*min v m+l[j]:Nat):Int) (m:Int)=((min (10*v+l[j]) m:Nat):Int):=by omega
   rw [e3]
   refine (ih (j+1) (10*v+l[j]) (by omega) hj2).mono fun r hr=>?_
   rw [hr,drop_cons hj2];rfl
 have l0:=loop l.length 0 0 rfl (C4 _)
 rw [show iD (min 0 m) = .int .i64 0 by unfold iD;rw [Nat.zero_min];rfl,List.drop_zero] at l0
 exact fJ l0 (U.H5 rfl (U.ret rfl))
def mA (c:UInt8):Nat:=bif c==98||c==66 then 2 else bif c==111||c==79 then 8 else bif c==100||c==68 then 10 else bif c==104||c==72 then 16 else 0
def Hm (x:Int):Int:=IntKind.u8.wrap ((BitVec.ofInt (IntKind.u8).bits x ||| BitVec.ofInt (IntKind.u8).bits 32).toNat:Int)
def Jg (x:Int):Int:=bif Hm x==98 then 2 else bif Hm x==111 then 8 else bif Hm x==100 then 10 else bif Hm x==104 then 16 else 0
theorem Fj:∀ k:Fin 256,Jg ((UInt8.ofFin k).toNat:Int)=(mA (UInt8.ofFin k):Int):=by decide +kernel
theorem Od (c:UInt8):U (fun n=>qZ n (.int .u8 (c.toNat:Int))) fun r=>r=(true,[iD (mA c)]):=by
 unfold iD
 rw [← SQ (P:=fun c=>Jg (c.toNat:Int)=(mA c:Int)) Fj c]
 refine U.eq (fun n=>XT n _) ?_
 unfold Jg
 show U (fun n=>bif (Hm (c.toNat:Int))==98 then _ else bif (Hm (c.toNat:Int))==111 then _ else bif (Hm (c.toNat:Int))==100 then _ else bif (Hm (c.toNat:Int))==104 then _ else _) _
 generalize Hm (c.toNat:Int)=y
 cases h1:y==98 with
 |true=>exact U.H5 rfl (U.ret rfl)
 |false=>
  refine U.no rfl ?_
  cases h2:y==111 with
  |true=>exact U.H5 rfl (U.ret rfl)
  |false=>
   refine U.no rfl ?_
   cases h3:y==100 with
   |true=>exact U.H5 rfl (U.ret rfl)
   |false=>
    refine U.no rfl ?_
    cases h4:y==104 with
    |true=>exact U.H5 rfl (U.ret rfl)
    |false=>exact U.no rfl (U.ret rfl)
theorem ne_self {w:Nat}:((w:Int) !=(w:Int))=false:=by simp
theorem lA {w:Nat}(h:1≤w):((w:Int)==0)=false:=by simp;omega
theorem Og {w a b:Nat}(h1:1≤w)(h2:w≤128)(ha:a<2 ^ w)(hb:b<2 ^ w):U (fun n=>lD n (2:Int) (vec w a) (vec w b)) fun r=>r=(true,[vec w (a*b % 2 ^ w),.int .i64 0]):=
 U.eq (fun n=>R8 n _ _ _ _ _) (U.no rfl (U.no rfl (U.no ne_self (U.no (lA h1) (U.no rfl (U.no rfl (U.H5 rfl (H4 (ZF h1 h2 ha hb) (U.H5 rfl (U.ret rfl))))))))))
theorem Oe {w a b:Nat}(h1:1≤w)(h2:w≤128)(ha:a<2 ^ w)(hb:b<2 ^ w):U (fun n=>lD n (0:Int) (vec w a) (vec w b)) fun r=>r=(true,[vec w ((a+b) % 2 ^ w),.int .i64 0]):=
 U.eq (fun n=>R8 n _ _ _ _ _) (U.no rfl (U.no rfl (U.no ne_self (U.no (lA h1) (U.H5 rfl (H4 (EP (k:=0) h1 h2 ha hb (by decide)) (U.H5 rfl (U.ret rfl))))))))
theorem Tw {w a:Nat}(h1:1≤w)(h2:w≤128)(ha:a<2 ^ w):U (fun n=>vM n (1:Int) (vec w a)) fun r=>r=(true,[vec w ((2 ^ w-a) % 2 ^ w),.int .i64 0]):=
 U.eq (fun n=>kN n _ _ _) (U.no rfl (U.no rfl (U.no (lA h1) (U.no rfl (U.H5 rfl (H4 (MX h1 h2 ha) (U.H5 rfl (U.ret rfl))))))))
def ZL (b:Nat)(l:List Nat):Nat:=l.foldl (fun a d=>a*b+d) 0
theorem two_pos (w:Nat):0<2 ^ w:=Nat.two_pow_pos w
theorem Ol {l:List Nat}(hd:∀ d∈l,d<17)(hl:l.length≤1048576){b w:Nat}(hb:b≤16)(h1:1≤w)(h2:w≤128):U (fun n=>oZ n (.Z 1 (l.map iD)) (b:Int) (w:Int)) fun r=>r=(true,[vec w (ZL b l % 2 ^ w)]):=by
 have hp:=two_pos w
 refine U.eq (fun n=>XU n _ _ _) (H4 (Pt h1 h2) (U.H5 rfl ?_))
 have eb:IntKind.u64.wrap (b:Int)=(b:Int):=by rw [K3,Nat.mod_eq_of_lt (by unfold J1;omega)]
 rw [eb]
 refine H4 (KA (x:=b) h1 h2 (by unfold J1;omega)) (U.H5 rfl ?_)
 rw [List.length_map]
 have hmb:b % 2 ^ w<2 ^ w:=Nat.mod_lt _ hp
 have loop:∀ (k j v:Nat) (x:Int),l.length-j=k→j≤l.length→
   U (fun n=>fT n (w:Int) (.Z 1 (l.map iD)) (l.length:Int) (j:Int) x (w:Int) (.Z 1 (I9 w (v % 2 ^ w))) (w:Int) (.Z 1 (I9 w (b % 2 ^ w))) (.Z 1 [])) fun r=>
    r=(false,[.int .i64 (w:Int),.Z 1 (l.map iD),.int .i64 (l.length:Int),.int .i64 (l.length:Int),.int .i64 x,.int .i64 (w:Int),.Z 1 (I9 w ((l.drop j).foldl (fun a d=>a*b+d) v % 2 ^ w)),.int .i64 (w:Int),.Z 1 (I9 w (b % 2 ^ w)),.Z 1 []]):=by
  intro k
  induction k with
  |zero=>
   intro j v x hk hj
   have:j=l.length:=by omega
   subst this
   refine U.eq (fun n=>xM n _ _ _ _ _ _ _ _ _ _) (U.no (E6 (by omega)) (U.ret ?_))
   rw [List.drop_length];rfl
  |succ k ih=>
   intro j v x hk hj
   have hj2:j<l.length:=by omega
   have hj3:j<(l.map iD).length:=by rw [List.length_map];exact hj2
   have hw:IntKind.i64.wrap ((j:Int)+1)=((j+1:Nat):Int):=J9 (by omega)
   have hdj:=hd l[j] (C6 hj2)
   have ed:IntKind.u64.wrap (l[j]:Int)=(l[j]:Int):=by rw [K3,Nat.mod_eq_of_lt (by unfold J1;omega)]
   refine U.eq (fun n=>xM n _ _ _ _ _ _ _ _ _ _) (U.H5 (E4 (by omega)) (U.H5 (J8 hj3) ?_))
   rw [W7 hj3,hw,List.getElem_map]
   refine U.H5 rfl (H4 (Og h1 h2 (Nat.mod_lt v hp) hmb) (U.H5 rfl ?_))
   show U (fun n=>AE.H3 (iV n (w:Int) (.Z 1 [.int .u64 (IntKind.u64.wrap (l[j]:Int))])) fun r2=>_) _
   rw [ed]
   refine H4 (KA (x:=l[j]) h1 h2 (by unfold J1;omega)) (U.H5 rfl ?_)
   refine H4 (Oe (a:=v % 2 ^ w*(b % 2 ^ w) % 2 ^ w) (b:=l[j] % 2 ^ w) h1 h2 (Nat.mod_lt _ hp) (Nat.mod_lt _ hp)) (U.H5 rfl ?_)
   have e:(v % 2 ^ w*(b % 2 ^ w) % 2 ^ w+l[j] % 2 ^ w) % 2 ^ w=(v*b+l[j]) % 2 ^ w:=by
    rw [← Nat.mul_mod,← Nat.add_mod]
   rw [e]
   refine (ih (j+1) (v*b+l[j]) x (by omega) hj2).mono fun r hr=>?_
   rw [hr,drop_cons hj2];rfl
 have l0:=loop l.length 0 0 0 rfl (C4 _)
 rw [Nat.zero_mod,List.drop_zero] at l0
 exact fJ l0 (U.H5 rfl (U.ret rfl))
inductive JR
 |bad (e:Nat)
 |ok (w n:Nat) (sg sz:Bool)
def JR.own:JR→List D
 | .bad e=>[.agg [.int .i64 0,.Z 1 [],.bool false,.bool false],iD e]
 | .ok w n sg sz=>[.agg [.int .i64 (w:Int),.Z 1 (I9 w n),.bool sg,.bool sz],iD 0]
def JR.Ok:JR→Prop
 | .bad e=>e≠0
 | .ok w n sg sz=>1≤w∧w≤128∧n<2 ^ w∧(sz=false→w=32)
def Rl (n:Nat):JR:=bif decide (n<2147483648) then .ok 32 n true false else .bad 3
def sU (s:F9):JR:=match s with
 |[]=> .bad 6
 |c::t=>match oR 10 (c::t) with
  |none=> .bad 5
  |some l=>Rl (min (rV l) 2147483648)
def zT:F9→Option (F9×F9)
 |[]=>none
 |c::t=>bif c==39 then some ([],t) else (zT t).map fun p=>(c::p.1,p.2)
def Nu (c:UInt8):Bool:=c==115||c==83
inductive Nv
 |bad (e:Nat)
 |ok (t:F9) (b:Nat) (sg:Bool)
def nG (t:F9)(sg:Bool):Nv:=match t with
 |[]=> .bad 6
 |c::r=>bif mA c==0 then .bad 5 else .ok r (mA c) sg
def pJ (s:F9):Nv:=match s with
 |[]=> .bad 6
 |c::t=>bif Nu c then nG t true else nG (c::t) false
def AT (w:Nat)(sz:Bool)(r:F9):JR:=match pJ r with
 | .bad e=> .bad e
 | .ok t b sg=>match t with
  |[]=> .bad 6
  |c::u=>match oR b (c::u) with
   |none=> .bad 5
   |some l=>bif decide (w<1) then .bad 2 else bif decide (w>128) then .bad 2 else .ok w (ZL b l % 2 ^ w) sg sz
def rF (s:F9):JR:=match zT s with
 |none=>sU s
 |some (a,r)=>match a with
  |[]=>AT 32 false r
  |c::u=>match oR 10 (c::u) with
   |none=> .bad 5
   |some l=>AT (min (rV l) 129) true r
theorem Ux {x:Nat}(hx:x<9223372036854775808):U (fun n=>BN n (x:Int)) fun r=>r=(true,(Rl x).own):=by
 refine U.eq (fun n=>Gs n _) (U.no (E6 (by omega)) (M1 (fun n=>GO.eq_1 n _ _) ?_))
 unfold Rl
 by_cases h:x<2147483648
 ·rw [E4 h]
  have ex:IntKind.u64.wrap (x:Int)=(x:Int):=by rw [K3,Nat.mod_eq_of_lt (by unfold J1;omega)]
  rw [ex]
  refine U.no (E6 (by omega)) (H4 (KA (w:=32) (x:=x) (by decide) (by decide) (by unfold J1;omega)) (U.H5 rfl (U.ret ?_)))
  show (true,[D.agg [.int .i64 ((32:Nat):Int),.Z 1 (I9 32 (x % 2 ^ 32)),.bool true,.bool false],.int .i64 0])=_
  rw [Nat.mod_eq_of_lt (by omega)];rfl
 ·rw [E6 h]
  exact U.H5 (E4 (by omega)) (U.ret rfl)
theorem Sz {l:List Nat}{b:Nat}(hb:b≤16)(h:∀ d∈l,d<b):∀ d∈l,d<17:=fun d hd=>by have:=h d hd;omega
theorem Mc {s:F9}(hs:s.length≤1048576):U (fun n=>nT n (.str s)) fun r=>r=(true,(sU s).own):=by
 refine U.eq (fun n=>UC n _) ?_
 have hd:=FQ hs 10
 cases s with
 |nil=>exact H4 hd (U.H5 rfl (U.H5 rfl (U.ret rfl)))
 |cons c t=>
  unfold DI at hd
  unfold sU
  cases hF:oR 10 (c::t) with
  |none=>
   simp only [hF] at hd ⊢
   exact H4 hd (U.H5 rfl (U.H5 rfl (U.ret rfl)))
  |some l=>
   simp only [hF] at hd ⊢
   obtain⟨hl,hd10⟩:=LJ hF
   refine H4 hd (U.H5 rfl (U.no rfl (H4 (YW (m:=2147483648) (Sz (by decide) hd10) (by omega) (by decide)) (U.H5 rfl ?_))))
   refine H4 (Ux (x:=min (rV l) 2147483648) (by omega)) (U.H5 ?_ (U.ret ?_))
   ·cases Rl (min (rV l) 2147483648)<;>rfl
   ·cases Rl (min (rV l) 2147483648)<;>rfl
theorem LI:∀ {s a r:F9},zT s=some (a,r)→s=a++39::r∧cH [39] s 0=(a.length:Int)
 |[],_,_,h=>by cases h
 |c::t,a,r,h=>by
  unfold zT at h
  cases hc:c==39 with
  |true=>
   rw [hc] at h
   cases h
   have:c=39:=by simpa using hc
   subst this
   exact⟨rfl,rfl⟩
  |false=>
   rw [hc] at h
   obtain⟨p,hp,he⟩:=Option.map_eq_some_iff.1 (show (zT t).map (fun p=>(c::p.1,p.2))=some (a,r) from h)
   obtain⟨a',r'⟩:=p
   cases he
   obtain⟨h1,h2⟩:=LI hp
   refine⟨by rw [h1];rfl,?_⟩
   have hi:cH [39] (c::t) 0=cH [39] t 1:=by
    show (bif ([39]:F9).isPrefixOf (c::t) then ((0:Nat):Int) else cH [39] t 1)=_
    have:([39]:F9).isPrefixOf (c::t)=false:=by
     have h39:((39:UInt8)==c)=false:=by
      have:=E9.1 hc
      exact E9.2 fun e=>this e.symm
     simp [List.isPrefixOf,h39]
    rw [this];rfl
   have sh:∀ (s:F9) (j:Nat),0≤cH [39] s 0→cH [39] s j=(j:Int)+cH [39] s 0:=by
    intro s
    induction s with
    |nil=>intro j h0;simp [cH] at h0
    |cons x s ih=>
     intro j h0
     unfold cH at h0 ⊢
     cases hp:([39]:F9).isPrefixOf (x::s) with
     |true=>simp
     |false=>
      rw [hp] at h0
      simp only [cond_false] at h0 ⊢
      by_cases h00:0≤cH [39] s 0
      ·rw [ih (j+1) h00,ih (0+1) h00];omega
      ·exfalso
       have neg:∀ (s:F9) (j:Nat),¬ 0≤cH [39] s 0→¬ 0≤cH [39] s j:=by
        intro s
        induction s with
        |nil=>intro j _;simp [cH]
        |cons y s ih2=>
         intro j hn
         unfold cH at hn ⊢
         cases hq:([39]:F9).isPrefixOf (y::s) with
         |true=>rw [hq] at hn;exact absurd (Int.natCast_nonneg 0) hn
         |false=>
          rw [hq] at hn
          simp only [cond_false] at hn ⊢
          intro hj
          by_cases h3:0≤cH [39] s 0
          ·have:∀ (s:F9) (j k:Nat),0≤cH [39] s j→0≤cH [39] s k:=by
            intro s
            induction s with
            |nil=>intro j k h;simp [cH] at h
            |cons z s ih3=>
             intro j k h
             unfold cH at h ⊢
             cases hz:([39]:F9).isPrefixOf (z::s) with
             |true=>exact Int.natCast_nonneg k
             |false=>rw [hz] at h;exact ih3 _ _ h
           exact hn (this s 0 (0+1) h3)
          ·exact ih2 (j+1) h3 hj
       exact neg s (0+1) h00 h0
   rw [hi,sh t 1 (by rw [h2];omega),h2]
   simp only [A0];omega
theorem QK:∀ {s:F9} (j:Nat),zT s=none→cH [39] s j = -1
 |[],_,_=>rfl
 |c::t,j,h=>by
  unfold zT at h
  cases hc:c==39 with
  |true=>rw [hc] at h;cases h
  |false=>
   rw [hc] at h
   have h:=Option.map_eq_none_iff.1 (show (zT t).map (fun p=>(c::p.1,p.2))=none from h)
   show (bif ([39]:F9).isPrefixOf (c::t) then (j:Int) else cH [39] t (j+1))=_
   have:([39]:F9).isPrefixOf (c::t)=false:=by
    have h39:((39:UInt8)==c)=false:=by
     have:=E9.1 hc
     exact E9.2 fun e=>this e.symm
    simp [List.isPrefixOf,h39]
   rw [this]
   exact QK (j+1) h
theorem Sm {s:F9}(hs:s.length≤1048576):U (fun n=>strings_Cut n (.str s) (.str [39])) fun r=>r=(true,match zT s with
  |none=>[.str s,.str [],.bool false]
  |some (a,r)=>[.str a,.str r,.bool true]):=by
 have h0:U (fun n=>strings_Cut n (.str s) (.str [39])) fun r=>r=(true,[.str (kI s [39]).1,.str (kI s [39]).2.1,.bool (kI s [39]).2.2]):=by
  refine U.eq (u:=fun _=>some (true,[D.str (kI s [39]).1,.str (kI s [39]).2.1,.bool (kI s [39]).2.2])) (fun n=>JK n _ _ _ ?_) (U.ret rfl)
  show (bif Nat.ble s.length 4294967280 then some [D.str (kI s [39]).1,.str (kI s [39]).2.1,.bool (kI s [39]).2.2] else none)=_
  rw [B2 (by omega)];rfl
 cases hc:zT s with
 |none=>
  have hi:=QK 0 hc
  unfold kI at h0
  rw [hi] at h0
  exact h0
 |some p=>
  obtain⟨a,r⟩:=p
  obtain⟨h1,h2⟩:=LI hc
  unfold kI at h0
  rw [h2] at h0
  have e1:s.take a.length=a:=by rw [h1,List.take_left]
  have e2:s.drop (a.length+([39]:F9).length)=r:=by
   rw [h1,List.drop_append]
   simp
  refine h0.mono fun x hx=>?_
  rw [hx]
  show (true,[D.str (s.take a.length),.str (s.drop (a.length+([39]:F9).length)),.bool true])=_
  rw [e1,e2]
def Nv.own:Nv→List D
 | .bad e=>[.str [],.int .i64 0,.bool false,iD e]
 | .ok t b sg=>[.str t,iD b,.bool sg,iD 0]
theorem Rh (c:UInt8)(t:F9):((c::t).drop 1).take (((c::t).length:Int).toNat-1)=t:=by
 show t.take _=t
 rw [List.take_of_length_le (by simp only [A0];omega)]
theorem Mo (c:UInt8)(t:F9):(true&&decide ((1:Int)≤((c::t).length:Int))&&decide (((c::t).length:Int)≤((c::t).length:Int)))=true:=N7 (N7 rfl (E4 (by simp only [A0];omega))) (E4 (Int.le_refl _))
theorem Df (c:UInt8)(t:F9):(true&&decide ((0:Int)<((c::t).length:Int)))=true:=N7 rfl (E4 (by simp only [A0];omega))
theorem Qj:∀ k:Fin 256,(Hm ((UInt8.ofFin k).toNat:Int)==115)=Nu (UInt8.ofFin k):=by decide +kernel
theorem Ws (c:UInt8):(Hm (c.toNat:Int)==115)=Nu c:=SQ (P:=fun c=>(Hm (c.toNat:Int)==115)=Nu c) Qj c
theorem Fl (c:UInt8):((mA c:Int)==0)=(mA c==0):=by
 cases mA c with
 |zero=>rfl
 |succ k=>show _=false;simp;omega
theorem Ji (s:F9):U (fun n=>nR n (.str s)) fun r=>r=(true,(pJ s).own):=by
 refine U.eq (fun n=>UB n s) ?_
 have j2:∀ (t:F9) (b:Bool),U (fun n=>pX n t b) fun r=>r=(true,(nG t b).own):=by
  intro t b
  refine M1 (fun n=>pX.eq_1 n _ _) ?_
  cases t with
  |nil=>exact U.H5 rfl (U.ret rfl)
  |cons c' r=>
   rw [Rh]
   simp only [List.getElem?_cons_zero,Option.getD_some]
   refine U.no rfl (U.H5 (Df c' r) (H4 (Od c') (U.H5 rfl ?_)))
   rw [show nG (c'::r) b=(bif mA c'==0 then .bad 5 else .ok r (mA c') b) from rfl]
   have hz:=Fl c'
   cases hb:mA c'==0 with
   |true=>rw [hb] at hz;exact U.H5 hz (U.ret rfl)
   |false=>rw [hb] at hz;exact U.no hz (U.H5 (Mo c' r) (U.ret rfl))
 cases s with
 |nil=>exact U.no rfl (M1 (fun n=>pW.eq_1 n _ _) (U.no rfl (j2 [] false)))
 |cons c t=>
  simp only [List.getElem?_cons_zero,Option.getD_some]
  have hS:=Ws c
  unfold Hm at hS
  rw [hS]
  refine U.H5 rfl (U.H5 (Df c t) (M1 (fun n=>pW.eq_1 n _ _) ?_))
  rw [show pJ (c::t)=(bif Nu c then nG t true else nG (c::t) false) from rfl]
  cases hc:Nu c with
  |true=>
   refine U.H5 rfl (U.H5 (Mo c t) ?_)
   rw [Rh]
   exact j2 t true
  |false=>exact U.no rfl (j2 (c::t) false)
theorem Fk:∀ k:Fin 256,mA (UInt8.ofFin k)≤16:=by decide +kernel
theorem Jh (c:UInt8):mA c≤16:=SQ (P:=fun c=>mA c≤16) Fk c
theorem PX {t r:F9}{b:Nat}{sg sg':Bool}(h:nG t sg' = .ok r b sg):b≤16∧r.length≤t.length:=by
 cases t with
 |nil=>cases h
 |cons c u=>
  unfold nG at h
  cases hb:mA c==0 with
  |true=>simp [hb] at h
  |false=>
   simp [hb] at h
   obtain⟨rfl,rfl,_⟩:=h
   exact⟨Jh c,by simp⟩
theorem Fo {s r:F9}{b:Nat}{sg:Bool}(h:pJ s = .ok r b sg):b≤16∧r.length≤s.length:=by
 cases s with
 |nil=>cases h
 |cons c t=>
  unfold pJ at h
  cases hc:Nu c with
  |true=>
   simp only [hc,cond_true] at h
   have:=PX h
   exact⟨this.1,by simp only [A0];omega⟩
  |false=>
   simp only [hc,cond_false] at h
   exact PX h
theorem Et {w:Nat}(hw:w≤4294967296){a r:F9}{sz:Bool}(hr:r.length≤1048576)(hsz:(!(a==[]))=sz):U (fun n=>pV n (w:Int) [.str a,.str r,.bool true]) fun x=>x=(true,(AT w sz r).own):=by
 refine M1 (fun n=>pV.eq_1 n _ _) ?_
 refine H4 (Ji r) ?_
 unfold AT
 cases hb:pJ r with
 |bad e=>
  refine U.H5 rfl ?_
  have he:e≠0:=by
   cases r with
   |nil=>cases hb;decide
   |cons c t=>
    unfold pJ at hb
    have b1:∀ t sg,nG t sg = .bad e→e≠0:=by
     intro t sg h
     cases t with
     |nil=>cases h;decide
     |cons c u=>
      unfold nG at h
      cases hz:mA c==0 with
      |true=>simp [hz] at h;omega
      |false=>simp [hz] at h
    cases hc:Nu c with
    |true=>simp only [hc,cond_true] at hb;exact b1 _ _ hb
    |false=>simp only [hc,cond_false] at hb;exact b1 _ _ hb
  refine U.H5 ?_ (U.ret rfl)
  show ((e:Int) !=0)=true
  simp;omega
 |ok t b sg=>
  obtain⟨hb16,hlen⟩:=Fo hb
  refine U.H5 rfl (U.no rfl ?_)
  have hd:=FQ (s:=t) (by omega) b
  cases t with
  |nil=>exact H4 hd (U.H5 rfl (U.H5 rfl (U.ret rfl)))
  |cons c u=>
   unfold DI at hd
   cases hF:oR b (c::u) with
   |none=>
    simp only [hF] at hd ⊢
    exact H4 hd (U.H5 rfl (U.H5 rfl (U.ret rfl)))
   |some l=>
    simp only [hF] at hd ⊢
    obtain⟨hl,hdb⟩:=LJ hF
    refine H4 hd (U.H5 rfl (U.no rfl ?_))
    by_cases w0:w<1
    ·rw [E4 w0]
     exact U.H5 (E4 (by omega)) (U.ret rfl)
    ·rw [E6 w0]
     refine U.no (E6 (by omega)) ?_
     by_cases w1:w>128
     ·rw [E4 w1]
      exact U.H5 (E4 (by omega)) (U.ret rfl)
     ·rw [E6 w1]
      refine U.no (E6 (by omega)) (H4 (Ol (b:=b) (w:=w) (Sz hb16 hdb) (by omega) hb16 (by omega) (by omega)) (U.H5 rfl (U.ret ?_)))
      show (true,[D.agg [.int .i64 (w:Int),.Z 1 (I9 w (ZL b l % 2 ^ w)),.bool sg,.bool (!(a==[]))],.int .i64 0])=_
      rw [hsz];rfl
theorem NK {s:F9}(hs:s.length≤1048576):U (fun n=>fL n (.str s)) fun r=>r=(true,(rF s).own):=by
 refine U.eq (fun n=>UA n s) ?_
 have hcut:=Sm hs
 unfold rF
 cases hc:zT s with
 |none=>
  rw [hc] at hcut
  refine H4 hcut (U.H5 rfl (U.H5 rfl (H4 (Mc hs) (U.H5 ?_ (U.ret ?_)))))
  ·cases sU s<;>rfl
  ·cases sU s<;>rfl
 |some p=>
  obtain⟨a,r⟩:=p
  rw [hc] at hcut
  obtain⟨hsl,_⟩:=LI hc
  have hl:s.length=a.length+(r.length+1):=by rw [hsl];simp
  refine H4 hcut (U.H5 rfl (U.no rfl ?_))
  cases a with
  |nil=>exact U.no rfl (Et (w:=32) (by decide) (by omega) rfl)
  |cons c u=>
   refine U.H5 rfl ?_
   have hd:=FQ (s:=c::u) (by omega) 10
   unfold DI at hd
   cases hF:oR 10 (c::u) with
   |none=>
    simp only [hF] at hd ⊢
    exact H4 hd (U.H5 rfl (U.H5 rfl (U.ret rfl)))
   |some l=>
    simp only [hF] at hd ⊢
    obtain⟨hll,hd10⟩:=LJ hF
    refine H4 hd (U.H5 rfl (U.no rfl (H4 (YW (m:=129) (Sz (by decide) hd10) (by omega) (by decide)) (U.H5 rfl ?_))))
    exact Et (w:=min (rV l) 129) (by omega) (by omega) rfl
def bD (b:Bool):D:= .bool b
def jE:List Bool→Nat
 |[]=>0
 |b::l=>b.toNat+2*jE l
theorem pY:∀ l:List Bool,jE l<2 ^ l.length
 |[]=>by decide
 |b::l=>by
  have:=pY l
  have hb:b.toNat≤1:=by cases b<;>decide
  simp only [jE,A0,Nat.pow_succ];omega
theorem qI:∀ (l:List Bool) (b:Bool),jE (l++[b])=jE l+b.toNat*2 ^ l.length
 |[],b=>by simp [jE]
 |c::l,b=>by
  have:=qI l b
  simp only [List.cons_append,jE,this,A0,Nat.pow_succ]
  rw [Nat.mul_add,← Nat.mul_assoc 2,Nat.mul_comm 2 b.toNat,Nat.mul_assoc b.toNat,Nat.mul_comm 2 (2 ^ l.length)]
  omega
theorem YG:∀ (l:List Bool) (i:Nat),(jE l).testBit i=l.getD i false
 |[],i=>by simp [jE]
 |b::l,0=>by
  have hb:b.toNat≤1:=by cases b<;>decide
  rw [Nat.testBit_zero,jE]
  cases b<;>simp [List.getD]<;>omega
 |b::l,i+1=>by
  have ih:=YG l i
  rw [Nat.testBit_succ,jE]
  have:(b.toNat+2*jE l) / 2=jE l:=by cases b<;>simp<;>omega
  rw [this,ih];simp [List.getD]
theorem Bo {x r:Nat}(hx:x<2 ^ r):x ||| 2 ^ r=x+2 ^ r:=by
 have:=Nat.two_pow_add_eq_or_of_lt hx 1
 rw [Nat.mul_one] at this
 rw [Nat.or_comm,← this,Nat.add_comm]
theorem zK {r:Nat}(hr:r<64):IntKind.u64.wrap (1*2 ^ (min r (IntKind.u64).bits))=((2 ^ r:Nat):Int):=by
 have hp:2 ^ r<J1:=Nat.lt_of_le_of_lt (Nat.pow_le_pow_right (by omega) (show r≤63 by omega)) (by decide)
 have e:min r (IntKind.u64).bits=r:=Nat.min_eq_left (by show r≤64;omega)
 rw [e,Int.one_mul,zH,K3,Nat.mod_eq_of_lt hp]
theorem pC {r:Nat}(hr:r<64):2 ^ r<J1:=Nat.lt_of_le_of_lt (Nat.pow_le_pow_right (by omega) (show r≤63 by omega)) (by decide)
theorem rG {x r:Nat}(hr:r<64)(hx:x<2 ^ r):IntKind.u64.wrap ((BitVec.ofInt (IntKind.u64).bits (x:Int) ||| BitVec.ofInt (IntKind.u64).bits (IntKind.u64.wrap (1*2 ^ (min r (IntKind.u64).bits)))).toNat:Int)=((x+2 ^ r:Nat):Int):=by
 have hp:=pC hr
 have hp2:2 ^ (r+1)≤J1:=mU (by omega)
 rw [Nat.pow_succ] at hp2
 rw [zK hr,BitVec.toNat_or,O9 (by omega),O9 hp,Bo hx,K3,Nat.mod_eq_of_lt (by omega)]
theorem lG {x r:Nat}(hr:r<64)(hx:x<2 ^ r):IntKind.u64.wrap ((BitVec.ofInt (IntKind.u64).bits (x:Int) &&& ~~~BitVec.ofInt (IntKind.u64).bits (IntKind.u64.wrap (1*2 ^ (min r (IntKind.u64).bits)))).toNat:Int)=(x:Int):=by
 have hp:=pC hr
 rw [zK hr]
 have key:BitVec.ofInt 64 (x:Int) &&& ~~~BitVec.ofInt 64 ((2 ^ r:Nat):Int)=BitVec.ofInt 64 (x:Int):=by
  apply BitVec.eq_of_getLsbD_eq
  intro i hi
  rw [BitVec.getLsbD_and,BitVec.getLsbD_not]
  have e1:(BitVec.ofInt 64 (x:Int)).getLsbD i=x.testBit i:=by
   show (BitVec.ofInt 64 (x:Int)).toNat.testBit i=_
   have:(BitVec.ofInt 64 (x:Int)).toNat=x:=O9 (by omega)
   rw [this]
  have e2:(BitVec.ofInt 64 ((2 ^ r:Nat):Int)).getLsbD i=(2 ^ r).testBit i:=by
   show (BitVec.ofInt 64 ((2 ^ r:Nat):Int)).toNat.testBit i=_
   have:(BitVec.ofInt 64 ((2 ^ r:Nat):Int)).toNat=2 ^ r:=O9 hp
   rw [this]
  rw [e1,e2,Nat.testBit_two_pow,E4 hi]
  by_cases h:r=i
  ·subst h
   rw [Nat.testBit_lt_two_pow hx];rfl
  ·rw [E6 h];simp
 have k2:(BitVec.ofInt (IntKind.u64).bits (x:Int) &&& ~~~BitVec.ofInt (IntKind.u64).bits ((2 ^ r:Nat):Int)).toNat=x:=by
  show (BitVec.ofInt 64 (x:Int) &&& ~~~BitVec.ofInt 64 ((2 ^ r:Nat):Int)).toNat=x
  rw [key]
  exact O9 (by omega)
 rw [k2,K3,Nat.mod_eq_of_lt (by omega)]
theorem uY {w v j:Nat}(h2:w≤128)(hj:j<w)(hv:v<2 ^ j)(b:Bool):U (fun n=>K5 n (w:Int) (j:Int) (.bool b) (.Z 1 (I9 w v))) fun r=>r=(true,[.Z 1 (I9 w (v+b.toNat*2 ^ j))]):=by
 have e1:IntKind.i64.wrap ((j:Int).tdiv 64)=((j / 64:Nat):Int):=by
  rw [Int.tdiv_eq_ediv_of_nonneg (by omega),N8 (by omega) (by omega)];omega
 have e2:(j:Int).tmod 64=((j % 64:Nat):Int):=by rw [Int.tmod_eq_emod_of_nonneg (by omega)];omega
 refine U.eq (fun n=>iQ n _ _ _ _) ?_
 rw [e1,e2]
 by_cases hw:w≤64
 ·have e3:j / 64=0:=by omega
  have e4:j % 64=j:=by omega
  rw [e3,e4,U3 hw,U3 hw]
  cases b with
  |true=>
   refine U.H5 rfl (U.H5 rfl (U.H5 rfl (U.no (E6 (by omega)) (U.H5 rfl (U.ret ?_)))))
   show (true,[D.Z 1 [.int .u64 (IntKind.u64.wrap ((BitVec.ofInt (IntKind.u64).bits (v:Int) ||| BitVec.ofInt (IntKind.u64).bits (IntKind.u64.wrap (1*2 ^ (min j (IntKind.u64).bits)))).toNat:Int))]])=_
   rw [rG (by omega) hv]
   simp [wd]
  |false=>
   refine U.no rfl (U.H5 rfl (U.H5 rfl (U.no (E6 (by omega)) (U.H5 rfl (U.ret ?_)))))
   show (true,[D.Z 1 [.int .u64 (IntKind.u64.wrap ((BitVec.ofInt (IntKind.u64).bits (v:Int) &&& ~~~BitVec.ofInt (IntKind.u64).bits (IntKind.u64.wrap (1*2 ^ (min j (IntKind.u64).bits)))).toNat:Int))]])=_
   rw [lG (by omega) hv]
   simp [wd]
 ·have hw:64<w:=by omega
  rw [V8 hw,V8 hw]
  by_cases h64:j<64
  ·have e3:j / 64=0:=by omega
   have e4:j % 64=j:=by omega
   have hp:=pC h64
   have hp2:2 ^ (j+1)≤J1:=mU (by omega)
   rw [Nat.pow_succ] at hp2
   have d0:v / J1=0:=Nat.div_eq_of_lt (by omega)
   have m0:v % J1=v:=Nat.mod_eq_of_lt (by omega)
   rw [e3,e4,d0,m0]
   cases b with
   |true=>
    refine U.H5 rfl (U.H5 rfl (U.H5 rfl (U.no (E6 (by omega)) (U.H5 rfl (U.ret ?_)))))
    show (true,[D.Z 1 [.int .u64 (IntKind.u64.wrap ((BitVec.ofInt (IntKind.u64).bits (v:Int) ||| BitVec.ofInt (IntKind.u64).bits (IntKind.u64.wrap (1*2 ^ (min j (IntKind.u64).bits)))).toNat:Int)),wd 0]])=_
    rw [rG h64 hv,show v+true.toNat*2 ^ j=v+2 ^ j by simp,Nat.div_eq_of_lt (show v+2 ^ j<J1 by omega),Nat.mod_eq_of_lt (show v+2 ^ j<J1 by omega)]
    rfl
   |false=>
    refine U.no rfl (U.H5 rfl (U.H5 rfl (U.no (E6 (by omega)) (U.H5 rfl (U.ret ?_)))))
    show (true,[D.Z 1 [.int .u64 (IntKind.u64.wrap ((BitVec.ofInt (IntKind.u64).bits (v:Int) &&& ~~~BitVec.ofInt (IntKind.u64).bits (IntKind.u64.wrap (1*2 ^ (min j (IntKind.u64).bits)))).toNat:Int)),wd 0]])=_
    rw [lG h64 hv,show v+false.toNat*2 ^ j=v by simp,d0,m0]
    rfl
  ·have e3:j / 64=1:=by omega
   have e4:j % 64=j-64:=by omega
   have hps:=lS (show 64<j+1 by omega)
   have hd:v / J1<2 ^ (j-64):=by
    by_cases hj64:j=64
    ·subst hj64
     have:v<J1*1:=by rw [Nat.mul_one];exact hv
     exact Nat.div_lt_of_lt_mul this
    ·exact div_lt (by omega) hv
   have hpj:2 ^ j=J1*2 ^ (j-64):=by
    have:j=64+(j-64):=by omega
    rw [this,Nat.pow_add]
    have e:64+(j-64)-64=j-64:=by omega
    rw [e];rfl
   rw [e3,e4]
   cases b with
   |true=>
    refine U.H5 rfl (U.H5 rfl (U.H5 rfl (U.no (E6 (by omega)) (U.H5 rfl (U.ret ?_)))))
    show (true,[D.Z 1 [wd (v % J1),.int .u64 (IntKind.u64.wrap ((BitVec.ofInt (IntKind.u64).bits ((v / J1:Nat):Int) ||| BitVec.ofInt (IntKind.u64).bits (IntKind.u64.wrap (1*2 ^ (min (j-64) (IntKind.u64).bits)))).toNat:Int))]])=_
    rw [rG (by omega) hd,show v+true.toNat*2 ^ j=v+J1*2 ^ (j-64) by rw [← hpj];simp,Nat.add_mul_mod_self_left,Nat.add_mul_div_left _ _ (by decide)]
    rfl
   |false=>
    refine U.no rfl (U.H5 rfl (U.H5 rfl (U.no (E6 (by omega)) (U.H5 rfl (U.ret ?_)))))
    show (true,[D.Z 1 [wd (v % J1),.int .u64 (IntKind.u64.wrap ((BitVec.ofInt (IntKind.u64).bits ((v / J1:Nat):Int) &&& ~~~BitVec.ofInt (IntKind.u64).bits (IntKind.u64.wrap (1*2 ^ (min (j-64) (IntKind.u64).bits)))).toNat:Int))]])=_
    rw [lG (by omega) hd,show v+false.toNat*2 ^ j=v by simp]
    rfl
theorem Cz {l:List Bool}(h1:1≤l.length)(h2:l.length≤128):U (fun n=>gV n (.Z 1 (l.map bD))) fun r=>r=(true,[vec l.length (jE l),.int .i64 0]):=by
 refine U.eq (fun n=>wN n _) ?_
 rw [List.length_map]
 refine H4 (uG h1 h2) (U.H5 rfl (U.no rfl (H4 (Y8 h1 h2) (U.H5 rfl ?_))))
 have loop:∀ (k j:Nat),l.length-j=k→j≤l.length→
   U (fun n=>bC n (.Z 1 (l.map bD)) (l.length:Int) (j:Int) (0:Int) (l.length:Int) (.Z 1 []) (.Z 1 (I9 l.length (jE (l.take j))))) fun r=>
    r=(false,[.Z 1 (l.map bD),.int .i64 (l.length:Int),.int .i64 (l.length:Int),.int .i64 0,.int .i64 (l.length:Int),.Z 1 [],.Z 1 (I9 l.length (jE l))]):=by
  intro k
  induction k with
  |zero=>
   intro j hk hj
   have:j=l.length:=by omega
   subst this
   refine U.eq (fun n=>oN n _ _ _ _ _ _ _) (U.no (E6 (by omega)) (U.ret ?_))
   rw [List.take_length]
  |succ k ih=>
   intro j hk hj
   have hj2:j<l.length:=by omega
   have hj3:j<(l.map bD).length:=by rw [List.length_map];exact hj2
   have hw:IntKind.i64.wrap ((j:Int)+1)=((j+1:Nat):Int):=J9 (by omega)
   refine U.eq (fun n=>oN n _ _ _ _ _ _ _) (U.H5 (E4 (by omega)) (U.H5 (J8 hj3) ?_))
   rw [W7 hj3,hw,List.getElem_map]
   have hlt:jE (l.take j)<2 ^ j:=by
    have:=pY (l.take j)
    rwa [D7,Nat.min_eq_left hj] at this
   refine U.H5 rfl (H4 (uY (w:=l.length) h2 hj2 hlt l[j]) (U.H5 rfl ?_))
   have i1:=ih (j+1) (by omega) hj2
   rw [List.take_succ_eq_append_getElem hj2,qI,D7,Nat.min_eq_left hj] at i1
   exact i1
 have l0:=loop l.length 0 rfl (C4 _)
 exact fJ l0 (U.H5 rfl (U.ret rfl))
def UY (l:List Bool):D:=if 1≤l.length∧l.length≤128 then vec l.length (jE l) else .agg [.int .i64 0,.Z 1 []]
theorem ZY {l:List Bool}(h:¬ (1≤l.length∧l.length≤128)):U (fun n=>gV n (.Z 1 (l.map bD))) fun r=>r=(true,[.agg [.int .i64 0,.Z 1 []],.int .i64 2]):=by
 refine U.eq (fun n=>wN n _) ?_
 rw [List.length_map]
 refine H4 (ds:=[.bool false]) (U.eq (fun n=>nJ n _) (U.P7 (fun h1=>U.ret ?_) fun _=>U.ret rfl)) (U.H5 rfl (U.H5 rfl (U.ret rfl)))
 have h1:=E5 h1
 rw [E6 (by omega)]
theorem Qn (l:List Bool):U (fun n=>cJ n (.Z 1 (l.map bD))) fun r=>r=(true,[UY l]):=by
 refine U.eq (fun n=>TW n _) ?_
 unfold UY
 by_cases h:1≤l.length∧l.length≤128
 ·rw [if_pos h]
  exact H4 (Cz h.1 h.2) (U.H5 rfl (U.ret rfl))
 ·rw [if_neg h]
  exact H4 (ZY h) (U.H5 rfl (U.ret rfl))
def Pf (d:Nat):UInt8:=Kq[d]?.getD 0
def Hb (n k:Nat):Nat:=n / 16 ^ k % 16
def GD:Nat→Nat→Bool→List Nat
 |0,_,_=>[]
 |k+1,n,st=>bif decide (Hb n k>0)||st||decide (k=0) then Hb n k::GD k n true else GD k n st
theorem Ta (n k:Nat):Hb n k<16:=Nat.mod_lt _ (by decide)
theorem yY (k n:Nat)(st:Bool):GD (k+1) n st=bif decide (Hb n k>0)||st||decide (k=0) then Hb n k::GD k n true else GD k n st:=rfl
theorem Nn (w:Int)(ws:List D):U (fun n=>Z6 n (.agg [.int .i64 w,.Z 1 ws])) fun r=>r=(true,[.int .i64 w]):=U.eq (fun n=>kW n _ _) (U.ret rfl)
def TM (w n:Nat):F9:=(GD ((w-1) / 4+1) n false).map Pf
def gP (n:Nat)(sg sz:Bool):Bool:=bif sg then (bif !sz then !(n.testBit 31) else false) else false
def Rq (w n:Nat)(sg sz:Bool):F9:=
 bif decide (w=0) then [] else bif !sz&&decide (w≠32) then [] else bif gP n sg sz then Ku ((min n 2147483648:Nat):Int)
 else (bif sz then Ku (w:Int)++[39] else [39])++(bif sg then [115] else [])++[104]++TM w n
def Gn (w n:Nat)(sg:Bool):Int×Nat:=
 bif sg&&n.testBit (w-1) then (bif decide ((2 ^ w-n) % 2 ^ w≤2147483648) then (-(((2 ^ w-n) % 2 ^ w:Nat):Int),0) else (0,3))
 else bif decide (n≥2147483648) then (0,3) else ((n:Int),0)
theorem It {w n:Nat}(h1:1≤w)(h2:w≤128)(hn:n<2 ^ w)(sg sz:Bool):U (fun k=>jR k (.agg [.int .i64 (w:Int),.Z 1 (I9 w n),.bool sg,.bool sz])) fun r=>r=(true,[.int .i64 (Gn w n sg).1,iD (Gn w n sg).2]):=by
 have e1:IntKind.i64.wrap ((w:Int)-1)=((w-1:Nat):Int):=by rw [N8 (by omega) (by omega)];omega
 have hmod:(2 ^ w-n) % 2 ^ w<2 ^ w:=Nat.mod_lt _ (two_pos w)
 have fin:∀ x:Nat,U (fun _=>bif (decide (((min x 2147483649:Nat):Int)≥(2147483648:Int))) then (some (true,[(0:Int),(3:Int)])) else (some (true,[((min x 2147483649:Nat):Int),(0:Int)]))) fun r=>r=(true,bif decide (x≥2147483648) then [.int .i64 0,iD 3] else [.int .i64 (x:Int),iD 0]):=by
  intro x
  by_cases h:x≥2147483648
  ·rw [E4 h]
   exact U.H5 (E4 (by omega)) (U.ret rfl)
  ·rw [E6 h]
   refine U.no (E6 (by omega)) (U.ret ?_)
   rw [Nat.min_eq_left (by omega)];rfl
 have low:U (fun k=>jS k false (w:Int) (I9 w n)) fun r=>r=(true,bif decide (n≥2147483648) then [.int .i64 0,iD 3] else [.int .i64 (n:Int),iD 0]):=
  M1 (fun k=>jS.eq_1 k _ _ _) (U.no rfl (M1 (fun k=>mP.eq_1 k _ _ _) (H4 (UJ (m:=2147483649) h1 h2 hn (by decide)) (U.H5 rfl (U.no rfl (U.no rfl (fin n)))))))
 have key:(bif decide (n≥2147483648) then [D.int .i64 0,iD 3] else [.int .i64 (n:Int),iD 0])=[D.int .i64 (bif decide (n≥2147483648) then ((0:Int),3) else ((n:Int),0)).1,iD (bif decide (n≥2147483648) then ((0:Int),3) else ((n:Int),0)).2]:=by
  cases decide (n≥2147483648)<;>rfl
 rw [key] at low
 refine U.eq (fun k=>MT k _ _ _ _) (H4 (Nn _ _) (U.H5 rfl (U.no (lA h1) ?_)))
 unfold Gn
 cases sg with
 |false=>exact U.no rfl low
 |true=>
  refine U.H5 rfl ?_
  show U (fun k=>AE.H3 (L3 k (.agg [.int .i64 (w:Int),.Z 1 (I9 w n)]) (.int .i64 (IntKind.i64.wrap ((w:Int)-1)))) fun r2=>_) _
  rw [e1]
  refine H4 (qL (i:=w-1) h2 hn) (U.H5 rfl ?_)
  cases hb:n.testBit (w-1) with
  |false=>exact low
  |true=>
   refine M1 (fun k=>jS.eq_1 k _ _ _) (U.H5 rfl (H4 (Tw h1 h2 hn) (U.H5 rfl (M1 (fun k=>mP.eq_1 k _ _ _) ?_))))
   refine H4 (UJ (m:=2147483649) h1 h2 hmod (by decide)) (U.H5 rfl (U.H5 rfl ?_))
   generalize (2 ^ w-n) % 2 ^ w=v
   show U (fun _=>bif (decide (((min v 2147483649:Nat):Int)≤(2147483648:Int))) then (some (true,[(.int .i64 (IntKind.i64.wrap (0-((min v 2147483649:Nat):Int)))),(0:Int)])) else _) _
   by_cases h:v≤2147483648
   ·refine U.H5 (E4 (by omega)) (U.ret ?_)
    rw [N8 (by omega) (by omega),Nat.min_eq_left (by omega),E4 h]
    show (true,[D.int .i64 (0-(v:Int)),_])=(true,[D.int .i64 (-(v:Int)),_])
    rw [Int.zero_sub];rfl
   ·refine U.no (E6 (by omega)) (U.H5 rfl (U.ret ?_))
    rw [E6 h];rfl
def qR (d:Nat):UInt8:=UInt8.ofNat (48+d)
theorem tK:∀ k:Fin 10,kB (qR k.val)=k.val∧(((qR k.val).toNat:Int)==95)=false∧(qR k.val==39)=false:=by decide +kernel
theorem Kn:∀ k:Fin 16,kB (Pf k.val)=k.val∧(((Pf k.val).toNat:Int)==95)=false:=by decide +kernel
theorem XB {b:Nat}{f:Nat→UInt8}(hf:∀ d,d<b→kB (f d)=d∧(((f d).toNat:Int)==95)=false):∀ {l:List Nat},(∀ d∈l,d<b)→wZ b (l.map f)=some l
 |[],_=>rfl
 |d::l,h=>by
  have hd:=h d (B8 ..)
  obtain⟨h1,h2⟩:=hf d hd
  have ih:=XB hf (l:=l) fun x hx=>h x (C0 _ hx)
  show (bif (((f d).toNat:Int)==95) then wZ b (l.map f) else bif decide (kB (f d)<b) then (wZ b (l.map f)).map (kB (f d)::·) else none)=_
  rw [h2,h1,E4 hd,ih];rfl
theorem LK {b:Nat}{f:Nat→UInt8}(hf:∀ d,d<b→kB (f d)=d∧(((f d).toNat:Int)==95)=false){l:List Nat}(hl:l≠[])(h:∀ d∈l,d<b):oR b (l.map f)=some l:=by
 cases l with
 |nil=>exact absurd rfl hl
 |cons d l=>
  have hd:=h d (B8 ..)
  obtain⟨h1,h2⟩:=hf d hd
  show (bif decide (kB (f d)<b) then (wZ b (l.map f)).map (kB (f d)::·) else none)=_
  rw [h1,E4 hd,XB hf fun x hx=>h x (C0 _ hx)];rfl
theorem Gd:∀ (k u:Nat),u<10 ^ (k+1)→∃ l:List Nat,l≠[]∧(∀ d∈l,d<10)∧rV l=u∧∀ acc,Ao (k+1) u acc=l.map qR++acc:=by
 intro k
 induction k with
 |zero=>
  intro u h
  have h:u<10:=by simpa using h
  refine⟨[u],by simp,fun d hd=>by rw [C3.1 hd];exact h,by simp [rV],fun acc=>?_⟩
  unfold Ao
  rw [B2 (by omega)];rfl
 |succ k ih=>
  intro u h
  by_cases h10:u<10
  ·refine⟨[u],by simp,fun d hd=>by rw [C3.1 hd];exact h10,by simp [rV],fun acc=>?_⟩
   unfold Ao
   rw [B2 (by omega)];rfl
  ·have h2:u / 10<10 ^ (k+1):=by
    rw [Nat.pow_succ] at h
    omega
   obtain⟨l,h1,h2,h3,h4⟩:=ih (u / 10) h2
   have hb:Nat.ble u 9=false:=by
    cases hx:Nat.ble u 9 with
    |false=>rfl
    |true=>have:=B3 hx;omega
   refine⟨l++[u % 10],by simp,fun d hd=>?_,?_,fun acc=>?_⟩
   ·rcases D3.1 hd with hd|hd
    ·exact h2 d hd
    ·rw [C3.1 hd];omega
   ·unfold rV at h3 ⊢
    rw [List.foldl_append,h3]
    show 10*(u / 10)+u % 10=u
    omega
   ·show (bif Nat.ble u 9 then UInt8.ofNat (48+u)::acc else Ao (k+1) (u / 10) (UInt8.ofNat (48+u % 10)::acc))=_
    rw [hb,cond_false,h4,List.map_append,C1];rfl
theorem QX {u:Nat}(h:u<100000000000000000000):∃ l:List Nat,l≠[]∧(∀ d∈l,d<10)∧rV l=u∧Ku (u:Int)=l.map qR:=by
 obtain⟨l,h1,h2,h3,h4⟩:=Gd 19 u h
 refine⟨l,h1,h2,h3,?_⟩
 have:=h4 []
 rw [D5] at this
 exact this
theorem XA:∀ {l:List Nat},(∀ d∈l,d<10)→∀ r,zT (l.map qR++39::r)=some (l.map qR,r)
 |[],_,r=>rfl
 |d::l,h,r=>by
  have hd:=h d (B8 ..)
  have h3:=(tK ⟨d,hd⟩).2.2
  have ih:=XA (l:=l) (fun x hx=>h x (C0 _ hx)) r
  show (bif qR d==39 then some ([],l.map qR++39::r) else (zT (l.map qR++39::r)).map fun p=>(qR d::p.1,p.2))=_
  rw [h3,ih];rfl
theorem Dh:∀ {l:List Nat},(∀ d∈l,d<10)→zT (l.map qR)=none
 |[],_=>rfl
 |d::l,h=>by
  have hd:=h d (B8 ..)
  have h3:=(tK ⟨d,hd⟩).2.2
  have ih:=Dh (l:=l) (fun x hx=>h x (C0 _ hx))
  show (bif qR d==39 then some ([],l.map qR) else (zT (l.map qR)).map fun p=>(qR d::p.1,p.2))=_
  rw [h3,ih];rfl
theorem TN:∀ (k n:Nat) (st:Bool),∀ d∈GD k n st,d<16
 |0,_,_,d,h=>by simp [GD] at h
 |k+1,n,st,d,h=>by
  rw [yY] at h
  cases hc:decide (Hb n k>0)||st||decide (k=0) with
  |true=>
   rw [hc] at h
   rcases B7.1 h with rfl|h
   ·exact Ta n k
   ·exact TN k n true d h
  |false=>rw [hc] at h;exact TN k n st d h
theorem TO:∀ (k n:Nat) (st:Bool),GD (k+1) n st≠[]
 |0,n,st=>by rw [yY];simp
 |k+1,n,st=>by
  rw [yY]
  cases hc:decide (Hb n (k+1)>0)||st||decide (k+1=0) with
  |true=>simp
  |false=>exact TO k n st
theorem Pr (n k:Nat):n % 16 ^ (k+1)=16 ^ k*Hb n k+n % 16 ^ k:=by
 unfold Hb
 rw [Nat.pow_succ,Nat.mod_mul,Nat.add_comm]
theorem MH:∀ (k n:Nat) (st:Bool) (a:Nat),(st=true∨a=0)→(GD k n st).foldl (fun a d=>a*16+d) a=a*16 ^ k+n % 16 ^ k
 |0,n,st,a,_=>by simp [GD,Nat.mod_one]
 |k+1,n,st,a,h=>by
  rw [yY,Pr]
  cases hc:decide (Hb n k>0)||st||decide (k=0) with
  |true=>
   have ih:=MH k n true (a*16+Hb n k) (.inl rfl)
   simp only [cond_true,List.foldl_cons]
   rw [ih,Nat.pow_succ,Nat.add_mul,Nat.mul_assoc,Nat.mul_comm 16 (16 ^ k),Nat.mul_comm (Hb n k) (16 ^ k)]
   omega
  |false=>
   have h0:Hb n k=0∧st=false:=by
    cases st with
    |true=>simp at hc
    |false=>
     simp at hc
     exact⟨by omega,rfl⟩
   have ha:a=0:=by
    rcases h with h|h
    ·rw [h0.2] at h;cases h
    ·exact h
   have ih:=MH k n st a (.inr ha)
   simp only [cond_false]
   rw [ih,ha,h0.1];simp
theorem Ko {w n:Nat}(h1:1≤w)(hn:n<2 ^ w):ZL 16 (GD ((w-1) / 4+1) n false)=n:=by
 unfold ZL
 rw [MH _ _ _ _ (.inr rfl),Nat.zero_mul,C5]
 refine Nat.mod_eq_of_lt (Nat.lt_of_lt_of_le hn ?_)
 have:16 ^ ((w-1) / 4+1)=2 ^ (4*((w-1) / 4+1)):=by rw [Nat.pow_mul]
 rw [this]
 exact Nat.pow_le_pow_right (by omega) (by omega)
theorem ZE {w w0 n:Nat}(h1:1≤w)(h2:w≤128)(hn:n<2 ^ w)(hw:w0=w)(sz sg:Bool):AT w0 sz ((bif sg then [115] else [])++[104]++TM w n) = .ok w n sg sz:=by
 subst hw
 have hb:pJ ((bif sg then [115] else [])++[104]++TM w0 n) = .ok (TM w0 n) 16 sg:=by
  cases sg<;>rfl
 have hne:TM w0 n≠[]:=by
  unfold TM
  intro h
  exact TO _ _ _ (List.map_eq_nil_iff.1 h)
 have hF:oR 16 (TM w0 n)=some (GD ((w0-1) / 4+1) n false):=LK (f:=Pf) (fun d hd=>Kn ⟨d,hd⟩) (TO _ _ _) (TN _ _ _)
 unfold AT
 rw [hb]
 cases hh:TM w0 n with
 |nil=>exact absurd hh hne
 |cons c u=>
  rw [hh] at hF
  simp only [hF]
  rw [E6 (show ¬ w0<1 by omega),E6 (show ¬ w0>128 by omega),Ko h1 hn,Nat.mod_eq_of_lt hn]
  rfl
theorem Vw {n:Nat}(h:n<2 ^ 32)(hb:n.testBit 31=false):n<2147483648:=by
 rw [Nat.testBit_eq_decide_div_mod_eq] at hb
 have h1:=E7 hb
 have e:(2:Nat) ^ 31=2147483648:=rfl
 have e2:(2:Nat) ^ 32=4294967296:=rfl
 rw [e] at h1
 omega
theorem round {w n:Nat}(h1:1≤w)(h2:w≤128)(hn:n<2 ^ w)(sg sz:Bool)(hz:sz=true∨w=32):rF (Rq w n sg sz) = .ok w n sg sz:=by
 unfold Rq
 rw [E6 (show ¬ w=0 by omega)]
 have hx:(!sz&&decide (w≠32))=false:=by
  rcases hz with rfl|rfl
  ·rfl
  ·simp
 rw [hx]
 simp only [cond_false]
 cases hp:gP n sg sz with
 |true=>
  have hs:sg=true∧sz=false∧n.testBit 31=false:=by
   unfold gP at hp
   cases sg with
   |false=>cases hp
   |true=>
    cases sz with
    |true=>cases hp
    |false=>exact⟨rfl,rfl,by simpa using hp⟩
  obtain⟨rfl,rfl,hb⟩:=hs
  have hw:w=32:=by
   rcases hz with h|h
   ·cases h
   ·exact h
  subst hw
  have hn31:=Vw hn hb
  obtain⟨l,l1,l2,l3,l4⟩:=QX (u:=n) (by omega)
  rw [Nat.min_eq_left (by omega)]
  simp only [cond_true]
  rw [l4]
  unfold rF
  rw [Dh l2]
  show sU (l.map qR)=_
  have hF:oR 10 (l.map qR)=some l:=LK (f:=qR) (fun d hd=>⟨(tK ⟨d,hd⟩).1,(tK ⟨d,hd⟩).2.1⟩) l1 l2
  unfold sU
  cases hm:l.map qR with
  |nil=>exact absurd (List.map_eq_nil_iff.1 hm) l1
  |cons c u=>
   rw [hm] at hF
   simp only [hF]
   rw [l3,Nat.min_eq_left (by omega)]
   unfold Rl
   rw [E4 hn31];rfl
 |false=>
  simp only [cond_false]
  cases sz with
  |false=>
   have hw:w=32:=by
    rcases hz with h|h
    ·cases h
    ·exact h
   subst hw
   have:=ZE (w0:=32) (by decide) h2 hn rfl false sg
   simp only [C1] at this ⊢
   exact this
  |true=>
   obtain⟨l,l1,l2,l3,l4⟩:=QX (u:=w) (by omega)
   have hF:oR 10 (l.map qR)=some l:=LK (f:=qR) (fun d hd=>⟨(tK ⟨d,hd⟩).1,(tK ⟨d,hd⟩).2.1⟩) l1 l2
   have:=ZE (w0:=min (rV l) 129) h1 h2 hn (by omega) true sg
   rw [l4]
   unfold rF
   have hq:=XA l2 ((bif sg then [115] else [])++[104]++TM w n)
   simp only [cond_true,C1,List.singleton_append,List.cons_append,List.nil_append] at hq this ⊢
   rw [hq]
   cases hm:l.map qR with
   |nil=>exact absurd (List.map_eq_nil_iff.1 hm) l1
   |cons c u=>
    rw [hm] at hF
    simp only [hF]
    exact this
theorem Fq {w n:Nat}{out:List D}(hl:out.length=w)(h:∀ i,i<w→out[i]? = some (.bool (n.testBit i))):out=jH w n:=by
 apply List.ext_getElem?
 intro i
 by_cases hi:i<w
 ·rw [h i hi,yQ hi]
 ·rw [List.getElem?_eq_none (by omega),List.getElem?_eq_none (by rw [qE];omega)]
theorem qA {out:List D}{j i:Nat}{v:D}(hj:j<out.length):(out.set j v)[i]? = if j=i then some v else out[i]?:=by
 rw [List.getElem?_set]
 by_cases e:j=i
 ·rw [if_pos e,if_pos e,if_pos (by omega)]
 ·rw [if_neg e,if_neg e]
def Rp (w:Nat)(sz:Bool)(b:Nat)(sg:Bool)(u:F9):JR:=match u with
 |[]=> .bad 6
 |c::t=>match oR b (c::t) with
  |none=> .bad 5
  |some l=>bif decide (w<1) then .bad 2 else bif decide (w>128) then .bad 2 else .ok w (ZL b l % 2 ^ w) sg sz
def My (w:Nat)(sz:Bool)(x:Nv):JR:=match x with
 | .bad e=> .bad e
 | .ok t b sg=>Rp w sz b sg t
theorem Mz (w:Nat)(sz:Bool)(r:F9):AT w sz r=My w sz (pJ r):=by
 unfold AT My
 cases pJ r with
 |bad e=>rfl
 |ok t b sg=>cases t<;>rfl
theorem Hq {s:F9}{e:Nat}(h:sU s = .bad e):e≠0:=by
 cases s with
 |nil=>cases h;decide
 |cons c t=>
  have h:(match oR 10 (c::t) with|none=>JR.bad 5|some l=>Rl (min (rV l) 2147483648)) = .bad e:=h
  cases hF:oR 10 (c::t) with
  |none=>rw [hF] at h;cases h;decide
  |some l=>
   rw [hF] at h
   have h:(bif decide (min (rV l) 2147483648<2147483648) then JR.ok 32 (min (rV l) 2147483648) true false else .bad 3) = .bad e:=h
   cases hd:decide (min (rV l) 2147483648<2147483648) with
   |true=>rw [hd] at h;cases h
   |false=>rw [hd] at h;cases h;decide
theorem PW {t:F9}{sg:Bool}{e:Nat}(h:nG t sg = .bad e):e≠0:=by
 cases t with
 |nil=>cases h;decide
 |cons c u=>
  have h:(bif mA c==0 then Nv.bad 5 else .ok u (mA c) sg) = .bad e:=h
  cases hb:mA c==0 with
  |true=>rw [hb] at h;cases h;decide
  |false=>rw [hb] at h;cases h
theorem Fm {s:F9}{e:Nat}(h:pJ s = .bad e):e≠0:=by
 cases s with
 |nil=>cases h;decide
 |cons c t=>
  have h:(bif Nu c then nG t true else nG (c::t) false) = .bad e:=h
  cases hc:Nu c with
  |true=>rw [hc] at h;exact PW (t:=t) (sg:=true) h
  |false=>rw [hc] at h;exact PW (t:=c::t) (sg:=false) h
theorem Na (w:Nat)(sz:Bool)(b:Nat)(sg:Bool)(u:F9)(hsz:sz=false→w=32):JR.Ok (Rp w sz b sg u):=by
 cases u with
 |nil=>exact (by decide:(6:Nat)≠0)
 |cons c t=>
  show JR.Ok (match oR b (c::t) with|none=> .bad 5|some l=>bif decide (w<1) then .bad 2 else bif decide (w>128) then .bad 2 else .ok w (ZL b l % 2 ^ w) sg sz)
  cases oR b (c::t) with
  |none=>exact (by decide:(5:Nat)≠0)
  |some l=>
   show JR.Ok (bif decide (w<1) then .bad 2 else bif decide (w>128) then .bad 2 else .ok w (ZL b l % 2 ^ w) sg sz)
   by_cases h1:w<1
   ·rw [E4 h1];exact (by decide:(2:Nat)≠0)
   ·rw [E6 h1]
    by_cases h2:w>128
    ·rw [E4 h2];exact (by decide:(2:Nat)≠0)
    ·rw [E6 h2]
     exact⟨by omega,by omega,Nat.mod_lt _ (two_pos w),hsz⟩
theorem ZD (w:Nat)(sz:Bool)(r:F9)(hsz:sz=false→w=32):JR.Ok (AT w sz r):=by
 rw [Mz]
 unfold My
 cases hb:pJ r with
 |bad e=>exact Fm hb
 |ok t b sg=>exact Na w sz b sg t hsz
theorem Hr (s:F9):JR.Ok (sU s):=by
 cases hp:sU s with
 |bad e=>exact Hq hp
 |ok w n sg sz=>
  cases s with
  |nil=>cases hp
  |cons c t=>
   have h:(match oR 10 (c::t) with|none=>JR.bad 5|some l=>Rl (min (rV l) 2147483648)) = .ok w n sg sz:=hp
   cases hF:oR 10 (c::t) with
   |none=>rw [hF] at h;cases h
   |some l=>
    rw [hF] at h
    have h:(bif decide (min (rV l) 2147483648<2147483648) then JR.ok 32 (min (rV l) 2147483648) true false else .bad 3) = .ok w n sg sz:=h
    cases hd:decide (min (rV l) 2147483648<2147483648) with
    |false=>rw [hd] at h;cases h
    |true=>
     rw [hd] at h
     cases h
     have:=E5 hd
     exact⟨by decide,by decide,by have:(2:Nat) ^ 32=4294967296:=rfl;omega,fun _=>rfl⟩
theorem Ho (s:F9):JR.Ok (rF s):=by
 unfold rF
 cases zT s with
 |none=>exact Hr s
 |some p=>
  obtain⟨a,r⟩:=p
  cases a with
  |nil=>exact ZD 32 false r fun _=>rfl
  |cons c u=>
   show JR.Ok (match oR 10 (c::u) with|none=> .bad 5|some l=>AT (min (rV l) 129) true r)
   cases oR 10 (c::u) with
   |none=>exact (by decide:(5:Nat)≠0)
   |some l=>exact ZD _ true r fun h=>by cases h
abbrev eE:=List (F9×Int)
def gY (p:F9×Int):D:= .agg [.str p.1,.int .i64 p.2]
def EC (t:F9):eE→Option Int
 |[]=>none
 |p::r=>bif p.1==t then some p.2 else EC t r
def uH (t:F9):eE→Option Nat
 |[]=>none
 |p::r=>bif p.1==t then some 0 else (uH t r).map (·+1)
def Kr (t:F9)(l:eE):Int:=match uH t l with
 |some i=>(i:Int)
 |none=>-1
def nE (t:F9)(n:Int)(l:eE):eE:=match uH t l with
 |some i=>l.set i (t,n)
 |none=>l++[(t,n)]
theorem yZ {t:F9}:∀ {l:eE} {i:Nat},uH t l=some i→∃ h:i<l.length,l[i].1=t∧EC t l=some l[i].2
 |[],i,h=>by cases h
 |p::r,i,h=>by
  unfold uH at h
  unfold EC
  cases hp:p.1==t with
  |true=>
   rw [hp] at h
   cases h
   exact⟨by simp,eq_of_beq hp,rfl⟩
  |false=>
   rw [hp] at h
   simp only [cond_false] at h ⊢
   cases hr:uH t r with
   |none=>rw [hr] at h;cases h
   |some k=>
    rw [hr] at h
    cases h
    obtain⟨h1,h2,h3⟩:=yZ hr
    exact⟨by simp;omega,h2,h3⟩
theorem GF {t:F9}:∀ {l:eE},uH t l=none→EC t l=none
 |[],h=>rfl
 |p::r,h=>by
  unfold uH at h
  unfold EC
  cases hp:p.1==t with
  |true=>rw [hp] at h;cases h
  |false=>
   rw [hp] at h
   simp only [cond_false] at h ⊢
   cases hr:uH t r with
   |none=>exact GF hr
   |some k=>rw [hr] at h;cases h
theorem zQ (t:F9)(n:Int)(l:eE):(nE t n l).length≤l.length+1:=by
 unfold nE
 cases uH t l with
 |none=>simp
 |some i=>simp
theorem Hp (s t:F9)(m:Int):U (fun n=>bF n (.agg [.str s,.int .i64 m]) (.str t)) fun r=>r=(true,[.bool (s==t),.str t]):=
 U.eq (fun n=>xL n _ _ _) (U.ret rfl)
theorem Ks {l:eE}(hl:l.length≤1048576)(t:F9):∀ (m j:Nat),l.length-j=m→j≤l.length→
  U (fun n=>O2 n (.Z 2 (l.map gY)) (l.length:Int) (j:Int) (.str t)) fun r=>match uH t (l.drop j) with
   |some i=>r=(true,[.int .i64 ((j+i:Nat):Int),.str t])
   |none=>∃ j':Int,r=(false,[.Z 2 (l.map gY),.int .i64 (l.length:Int),.int .i64 j',.str t]):=by
 intro m
 induction m with
 |zero=>
  intro j hm hj
  rw [D4 (by omega)]
  exact U.eq (fun n=>iM n _ _ _ _) (U.no (E6 (by omega)) (U.ret ⟨_,rfl⟩))
 |succ m ih=>
  intro j hm hj
  have hj2:j<l.length:=by omega
  have hj3:j<(l.map gY).length:=by rw [List.length_map];exact hj2
  have hw:IntKind.i64.wrap ((j:Int)+1)=((j+1:Nat):Int):=J9 (by omega)
  refine U.eq (fun n=>iM n _ _ _ _) (U.H5 (E4 (by omega)) (U.H5 (J8 hj3) ?_))
  rw [W7 hj3,List.getElem_map,hw,drop_cons hj2]
  have nx:=ih (j+1) (by omega) hj2
  refine U.H5 rfl (H4 (Hp _ t _) (U.H5 rfl ?_))
  show U (fun n=>bif (l[j].1==t) then _ else _) _
  unfold uH
  cases hp:l[j].1==t with
  |true=>exact U.H5 rfl (U.ret rfl)
  |false=>
   refine U.no rfl (nx.mono fun r hr=>?_)
   simp only [cond_false]
   cases hi:uH t (l.drop (j+1)) with
   |none=>
    rw [hi] at hr
    exact hr
   |some i=>
    rw [hi] at hr
    show r=(true,[.int .i64 ((j+(i+1):Nat):Int),.str t])
    rw [show j+(i+1)=j+1+i by omega]
    exact hr
theorem YQ {l:eE}(hl:l.length≤1048576)(t:F9):U (fun n=>aN n (.agg [.Z 2 (l.map gY)]) (.str t)) fun r=>r=(true,[.int .i64 (Kr t l)]):=by
 have hx:U (fun n=>S5 n (.Z 2 (l.map gY)) (.str t)) fun r=>r=(true,[.int .i64 (Kr t l),.str t]):=by
  refine U.eq (fun n=>rW n _ _) ?_
  rw [List.length_map]
  have hi:=Ks hl t l.length 0 rfl (C4 _)
  rw [List.drop_zero] at hi
  unfold Kr
  cases hf:uH t l with
  |none=>
   simp only [hf] at hi
   refine U.J2 hi (fun ds h=>by obtain⟨_,h⟩:=h;cases h) fun ds h=>?_
   obtain⟨_,h⟩:=h
   cases h
   exact U.H5 rfl (U.ret rfl)
  |some i=>
   simp only [hf] at hi
   refine U.J2 hi (fun ds h=>?_) fun ds h=>by cases h
   rw [h,C5]
 exact U.eq (fun n=>BK n _ _) (H4 hx (U.H5 rfl (U.ret rfl)))
theorem XQ {l:eE}(hl:l.length≤1048576)(t:F9):U (fun n=>fH n (.agg [.Z 2 (l.map gY)]) (.str t)) fun r=>r=(true,[.int .i64 ((EC t l).getD 0),.bool (EC t l).isSome]):=by
 refine U.eq (fun n=>DS n _ _) (H4 (YQ hl t) (U.H5 rfl ?_))
 unfold Kr
 cases hf:uH t l with
 |none=>
  rw [GF hf]
  exact U.no rfl (U.ret rfl)
 |some i=>
  obtain⟨hi,h1,h2⟩:=yZ hf
  have hi2:i<(l.map gY).length:=by rw [List.length_map];exact hi
  refine U.H5 (E4 (show (i:Int)≥0 by omega)) (U.H5 (J8 hi2) ?_)
  have hg:(l.map gY)[((i:Nat):Int).toNat]?.getD D.top=gY l[i]:=by rw [W7 hi2,List.getElem_map]
  rw [h2]
  refine U.H5 (show OQ ((l.map gY)[((i:Nat):Int).toNat]?.getD D.top)=true by rw [hg];rfl) (U.H5 (show (I5 (.leaf (.int .i64))&&K0 (.leaf (.int .i64)) (((l.map gY)[((i:Nat):Int).toNat]?.getD D.top).at_ 1))=true by rw [hg];rfl) (U.ret ?_))
  show (true,[D.int .i64 (((l.map gY)[((i:Nat):Int).toNat]?.getD D.top).at_ 1).i,D.bool true])=_
  rw [hg];rfl
theorem Js {l:List D}(hl:l.length≤1048576):U (fun n=>aU n (.Z 2 l)) fun r=>r=(true,[.Z 2 l]):=by
 refine U.eq (fun n=>vY n l) ?_
 have hb:Nat.ble (0+l.length) J5=true:=B2 (by simp only [J5];omega)
 refine U.P7 (fun he=>?_) fun he=>U.H5 hb (U.ret rfl)
 have:l=[]:=by simpa using he
 subst this
 exact U.agree (U.ret rfl) (U.H5 rfl (U.ret rfl)) rfl
theorem VT {l:eE}(hl:l.length≤1048576)(t:F9)(m:Int):U (fun n=>U7 n (.agg [.Z 2 (l.map gY)]) (.str t) m) fun r=>r=(true,[.Z 2 ((nE t m l).map gY)]):=by
 refine U.eq (fun n=>DT n _ _ _) (H4 (Js (by rw [List.length_map];exact hl)) (U.H5 rfl (H4 (YQ hl t) (U.H5 rfl ?_))))
 unfold Kr nE
 cases hf:uH t l with
 |none=>
  refine U.no rfl (U.H5 (B2 (by show (l.map gY).length+1≤J5;rw [List.length_map];simp only [J5];omega)) (U.ret ?_))
  rw [List.map_append];rfl
 |some i=>
  obtain⟨hi,h1,h2⟩:=yZ hf
  have hi2:i<(l.map gY).length:=by rw [List.length_map];exact hi
  refine U.H5 (E4 (show (i:Int)≥0 by omega)) (U.H5 (J8 hi2) ?_)
  show U (fun n=>bif K0 AW ((l.map gY)[((i:Nat):Int).toNat]?.getD D.top)&&true&&true then some (true,[.Z 2 ((l.map gY).set ((i:Nat):Int).toNat (Ih ((l.map gY)[((i:Nat):Int).toNat]?.getD D.top) 1 m))]) else none) _
  rw [W7 hi2,List.getElem_map,E1]
  refine U.H5 rfl (U.ret ?_)
  have:Ih (gY l[i]) 1 m=gY (t,m):=by rw [← h1];rfl
  rw [this,List.map_set]
def Tn (a b c:Int):D:= .agg [.int .i64 a,.int .i64 b,.int .i64 c]
theorem xD (a b c e:Int)(L:List D)(p q r:Int):U (fun n=>J4 n (Tn a b c) e (.Z 2 L) p q r (0:Int)) fun x=>x=(true,[.int .i64 0,.Z 2 L,.int .i64 a,.int .i64 b,.int .i64 c,.int .i64 e]):=
 U.eq (fun n=>oX n _ _ _ _ _ _ _ _ _) (U.H5 rfl (U.ret rfl))
theorem LU (a b c e:Int)(L:List D)(p q r:Int){f:Int}(hf:f≠0):U (fun n=>J4 n (Tn a b c) e (.Z 2 L) p q r f) fun x=>x=(true,[.int .i64 0,.Z 2 L,.int .i64 p,.int .i64 q,.int .i64 r,.int .i64 f]):=
 U.eq (fun n=>oX n _ _ _ _ _ _ _ _ _) (U.no (by simp [hf]) (U.ret rfl))
def ZG (b:Bool):Int:=bif b then 1 else 0
theorem GK (b:Bool):U (fun n=>O8 n (.bool b)) fun r=>r=(true,[.int .i64 (ZG b)]):=by
 refine U.eq (fun n=>MO n _) ?_
 cases b
 ·exact U.no rfl (U.ret rfl)
 ·exact U.H5 rfl (U.ret rfl)
def cC (k a b c:Int)(t:F9)(xs:List D):D:= .agg [.int .i64 k,.int .i64 a,.int .i64 b,.int .i64 c,.str t,.Z 6 xs]
def Nt (n:Int):Bool:=decide (-2147483648≤n)&&decide (n≤2147483647)
def Wr (t:F9)(x y:BitVec 33):BitVec 33:=bif t==[38] then x &&& y else bif t==[124] then x ||| y else bif t==[94] then x ^^^ y else ~~~(x ^^^ y)
def Rg (t:F9)(a b:Int):Int:=(Wr t (BitVec.ofInt 33 a) (BitVec.ofInt 33 b)).toInt
theorem zR (x:BitVec 64):IntKind.i64.wrap (x.toNat:Int)=x.toInt:=by
 have:=x.isLt
 rw [IntKind.wrap_i64,BitVec.toInt_eq_toNat_cond]
 have e:((2 ^ 64:Nat):Int)=18446744073709551616:=rfl
 rw [e]
 split<;>omega
theorem lR {a:Int}(h1 : -4294967296≤a)(h2:a<4294967296):BitVec.ofInt 64 a=(BitVec.ofInt 33 a).signExtend 64:=by
 show BitVec.ofInt 64 a=BitVec.ofInt 64 (BitVec.ofInt 33 a).toInt
 rw [BitVec.toInt_ofInt,Int.bmod_eq_of_le (by show -(((2 ^ 33:Nat):Int) / 2)≤a;omega) (by show a<(((2 ^ 33:Nat):Int)+1) / 2;omega)]
theorem Qo {a b:Int}(ha1 : -4294967296≤a)(ha2:a<4294967296)(hb1 : -4294967296≤b)(hb2:b<4294967296):IntKind.i64.wrap ((BitVec.ofInt (IntKind.i64).bits a &&& BitVec.ofInt (IntKind.i64).bits b).toNat:Int)=Rg [38] a b:=by
 show IntKind.i64.wrap ((BitVec.ofInt 64 a &&& BitVec.ofInt 64 b).toNat:Int)=(BitVec.ofInt 33 a &&& BitVec.ofInt 33 b).toInt
 rw [zR,lR ha1 ha2,lR hb1 hb2,← BitVec.signExtend_and,BitVec.toInt_signExtend_of_le (by decide)]
theorem Tm {a b:Int}(ha1 : -4294967296≤a)(ha2:a<4294967296)(hb1 : -4294967296≤b)(hb2:b<4294967296):IntKind.i64.wrap ((BitVec.ofInt (IntKind.i64).bits a ||| BitVec.ofInt (IntKind.i64).bits b).toNat:Int)=Rg [124] a b:=by
 show IntKind.i64.wrap ((BitVec.ofInt 64 a ||| BitVec.ofInt 64 b).toNat:Int)=(BitVec.ofInt 33 a ||| BitVec.ofInt 33 b).toInt
 rw [zR,lR ha1 ha2,lR hb1 hb2,← BitVec.signExtend_or,BitVec.toInt_signExtend_of_le (by decide)]
theorem Qp {a b:Int}(ha1 : -4294967296≤a)(ha2:a<4294967296)(hb1 : -4294967296≤b)(hb2:b<4294967296):IntKind.i64.wrap ((BitVec.ofInt (IntKind.i64).bits a ^^^ BitVec.ofInt (IntKind.i64).bits b).toNat:Int)=Rg [94] a b:=by
 show IntKind.i64.wrap ((BitVec.ofInt 64 a ^^^ BitVec.ofInt 64 b).toNat:Int)=(BitVec.ofInt 33 a ^^^ BitVec.ofInt 33 b).toInt
 rw [zR,lR ha1 ha2,lR hb1 hb2,← BitVec.signExtend_xor,BitVec.toInt_signExtend_of_le (by decide)]
theorem Ea (x:BitVec 64):BitVec.ofInt 64 (-1) ^^^ x = ~~~x:=by
 have e:BitVec.ofInt 64 (-1)=BitVec.allOnes 64:=by decide
 rw [e,BitVec.allOnes_xor]
theorem Mb {a b:Int}(ha1 : -4294967296≤a)(ha2:a<4294967296)(hb1 : -4294967296≤b)(hb2:b<4294967296):IntKind.i64.wrap ((BitVec.ofInt (IntKind.i64).bits (if (IntKind.i64).signed then -1 else (IntKind.i64).max) ^^^ BitVec.ofInt (IntKind.i64).bits (IntKind.i64.wrap ((BitVec.ofInt (IntKind.i64).bits a ^^^ BitVec.ofInt (IntKind.i64).bits b).toNat:Int))).toNat:Int)=Rg [126,94] a b:=by
 show IntKind.i64.wrap ((BitVec.ofInt 64 (-1) ^^^ BitVec.ofInt 64 (IntKind.i64.wrap ((BitVec.ofInt 64 a ^^^ BitVec.ofInt 64 b).toNat:Int))).toNat:Int)=(~~~(BitVec.ofInt 33 a ^^^ BitVec.ofInt 33 b)).toInt
 rw [zR,zR,BitVec.ofInt_toInt,Ea,lR ha1 ha2,lR hb1 hb2,← BitVec.signExtend_xor,← BitVec.signExtend_not (by decide),BitVec.toInt_signExtend_of_le (by decide)]
theorem Ma {a:Int}(ha1 : -9223372036854775808≤a)(ha2:a≤9223372036854775807):IntKind.i64.wrap ((BitVec.ofInt (IntKind.i64).bits (if (IntKind.i64).signed then -1 else (IntKind.i64).max) ^^^ BitVec.ofInt (IntKind.i64).bits a).toNat:Int) = -1-a:=by
 show IntKind.i64.wrap ((BitVec.ofInt 64 (-1) ^^^ BitVec.ofInt 64 a).toNat:Int) = -1-a
 have e:(BitVec.ofInt 64 a).toInt=a:=by rw [BitVec.toInt_ofInt,Int.bmod_eq_of_le (by show -(((2 ^ 64:Nat):Int) / 2)≤a;omega) (by show a<(((2 ^ 64:Nat):Int)+1) / 2;omega)]
 rw [zR,Ea]
 have hlt:=(BitVec.ofInt 64 a).isLt
 have e2:((2 ^ 64:Nat):Int)=18446744073709551616:=rfl
 rw [BitVec.toInt_eq_toNat_cond,e2] at e ⊢
 rw [BitVec.toNat_not]
 split at e<;>split<;>omega
def YH:List F9:=[[43],[45],[42],[47],[37],[38],[124],[94],[126,94],[60,60],[62,62],[60,60,60],[62,62,62],[60],[60,61],[62],[62,61],[61,61],[33,61],[38,38],[124,124]]
def wH (n:Int):Prop:=-2147483648≤n∧n≤2147483647
theorem MI {a b:Int}(ha:a.natAbs≤2147483648)(hb:b.natAbs≤2147483648) : -4611686018427387904≤a*b∧a*b≤4611686018427387904:=by
 have h:(a*b).natAbs≤2147483648*2147483648:=by rw [Int.natAbs_mul];exact Nat.mul_le_mul ha hb
 omega
theorem Uz {k:Nat}(hk:k≤31):2 ^ k≤2147483648:=Nat.pow_le_pow_right (n:=2) (by decide) hk
theorem Nb {a b:Int}(ha:a.natAbs≤2147483648):(a.tdiv b).natAbs≤2147483648:=by
 have:=Int.natAbs_tdiv_le_natAbs a b
 omega
def Vb (t:F9)(a b:Int):Int:=
 bif t==[43] then a+b else bif t==[45] then a-b else bif t==[42] then a*b else bif t==[47] then a.tdiv b else bif t==[37] then a.tmod b
 else bif t==[38] then Rg t a b else bif t==[124] then Rg t a b else bif t==[94] then Rg t a b else bif t==[126,94] then Rg t a b
 else bif t==[60,60] then a*((2 ^ b.toNat:Nat):Int) else bif t==[60,60,60] then a*((2 ^ b.toNat:Nat):Int) else bif t==[62,62] then a / ((2 ^ b.toNat:Nat):Int) else bif t==[62,62,62] then a / ((2 ^ b.toNat:Nat):Int)
 else bif t==[60] then ZG (decide (a<b)) else bif t==[60,61] then ZG (decide (a≤b)) else bif t==[62] then ZG (decide (a>b)) else bif t==[62,61] then ZG (decide (a≥b)) else bif t==[61,61] then ZG (a==b) else bif t==[33,61] then ZG (a !=b) else ZG (b !=0)
def sT (t:F9)(b:Int):Bool:=bif t==[47] then b==0 else bif t==[37] then b==0 else bif t==[60,60] then decide (b<0)||decide (b>31) else bif t==[60,60,60] then decide (b<0)||decide (b>31) else bif t==[62,62] then decide (b<0)||decide (b>31) else bif t==[62,62,62] then decide (b<0)||decide (b>31) else false
theorem Em {b:Int}(h:(decide (b<0)||decide (b>31))=false):0≤b∧b≤31:=by
 rw [Bool.or_eq_false_iff] at h
 have h1:=E7 h.1
 have h2:=E7 h.2
 omega
theorem En {a b:Int}(ha:wH a)(h:0≤b∧b≤31):IntKind.i64.wrap (a*2 ^ (min b.toNat (IntKind.i64).bits))=a*((2 ^ b.toNat:Nat):Int):=by
 have hk:b.toNat≤31:=by omega
 have hm:min b.toNat (IntKind.i64).bits=b.toNat:=Nat.min_eq_left (by show b.toNat≤64;omega)
 have hp:=Uz hk
 obtain⟨h1,h2⟩:=ha
 rw [hm,show (2:Int) ^ b.toNat=((2 ^ b.toNat:Nat):Int) by simp]
 generalize 2 ^ b.toNat=x at hp ⊢
 have hb:=MI (a:=a) (b:=(x:Int)) (by omega) (by omega)
 exact N8 (by omega) (by omega)
theorem Eo {a b:Int}(h:0≤b∧b≤31):a.fdiv (2 ^ (min b.toNat (IntKind.i64).bits))=a / ((2 ^ b.toNat:Nat):Int):=by
 have hm:min b.toNat (IntKind.i64).bits=b.toNat:=Nat.min_eq_left (by show b.toNat≤64;omega)
 rw [hm,show (2:Int) ^ b.toNat=((2 ^ b.toNat:Nat):Int) by simp,Int.fdiv_eq_ediv_of_nonneg _ (Int.natCast_nonneg _)]
theorem Qk {t:F9}(ht:t∈YH)(p0 p1 p2:Int)(xs L:List D){a b:Int}(ha:wH a)(hb:wH b)(ho:sT t b=false)(q0 q1 q2 e:Int) :
  U (fun n=>aB n (cC 4 p0 p1 p2 t xs) a b (.Z 2 L) q0 q1 q2 e) fun r=>r=(true,[.int .i64 (Vb t a b),.Z 2 L,.int .i64 q0,.int .i64 q1,.int .i64 q2,.int .i64 e]):=by
 obtain⟨a1,a2⟩:=ha
 obtain⟨b1,b2⟩:=hb
 refine U.eq (fun n=>uK n _ _ _ _ _ _ _ _ _ _ _ _ _) ?_
 simp only [YH,B7,List.not_mem_nil,or_false] at ht
 rcases ht with rfl|rfl|rfl|rfl|rfl|rfl|rfl|rfl|rfl|rfl|rfl|rfl|rfl|rfl|rfl|rfl|rfl|rfl|rfl|rfl|rfl
 ·(repeat (first|refine U.no rfl ?_|refine U.H5 rfl ?_))
  rw [N8 (x:=a+b) (by omega) (by omega)];exact U.ret rfl
 ·(repeat (first|refine U.no rfl ?_|refine U.H5 rfl ?_))
  rw [N8 (x:=a-b) (by omega) (by omega)];exact U.ret rfl
 ·(repeat (first|refine U.no rfl ?_|refine U.H5 rfl ?_))
  have:=MI (a:=a) (b:=b) (by omega) (by omega)
  rw [N8 (x:=a*b) (by omega) (by omega)];exact U.ret rfl
 ·have ho:(b==0)=false:=ho
  have hb0:b≠0:=by simpa using ho
  have:=Nb (a:=a) (b:=b) (by omega)
  (repeat (first|refine U.no rfl ?_|refine U.H5 rfl ?_))
  refine U.no (E6 hb0) ?_
  rw [N8 (x:=a.tdiv b) (by omega) (by omega)];exact U.ret rfl
 ·have ho:(b==0)=false:=ho
  have hb0:b≠0:=by simpa using ho
  (repeat (first|refine U.no rfl ?_|refine U.H5 rfl ?_))
  exact U.no (E6 hb0) (U.ret rfl)
 ·(repeat (first|refine U.no rfl ?_|refine U.H5 rfl ?_))
  rw [Qo (by omega) (by omega) (by omega) (by omega)];exact U.ret rfl
 ·(repeat (first|refine U.no rfl ?_|refine U.H5 rfl ?_))
  rw [Tm (by omega) (by omega) (by omega) (by omega)];exact U.ret rfl
 ·(repeat (first|refine U.no rfl ?_|refine U.H5 rfl ?_))
  rw [Qp (by omega) (by omega) (by omega) (by omega)];exact U.ret rfl
 ·(repeat (first|refine U.no rfl ?_|refine U.H5 rfl ?_))
  rw [Mb (by omega) (by omega) (by omega) (by omega)];exact U.ret rfl
 ·have hs:=Em ho
  (repeat (first|refine U.no rfl ?_|refine U.H5 rfl ?_))
  refine U.no (E6 (by omega)) ?_
  rw [En ⟨a1,a2⟩ hs];exact U.ret rfl
 ·have hs:=Em ho
  (repeat (first|refine U.no rfl ?_|refine U.H5 rfl ?_))
  refine U.no (E6 (by omega)) ?_
  rw [Eo hs];exact U.ret rfl
 ·have hs:=Em ho
  (repeat (first|refine U.no rfl ?_|refine U.H5 rfl ?_))
  refine U.no (E6 (by omega)) ?_
  rw [En ⟨a1,a2⟩ hs];exact U.ret rfl
 ·have hs:=Em ho
  (repeat (first|refine U.no rfl ?_|refine U.H5 rfl ?_))
  refine U.no (E6 (by omega)) ?_
  rw [Eo hs];exact U.ret rfl
 all_goals ((repeat (first|refine U.no rfl ?_|refine U.H5 rfl ?_));refine H4 (GK _) (U.H5 rfl (U.ret rfl)))
end Go.Proofs.YthlhbocobgkdmaaGreat
