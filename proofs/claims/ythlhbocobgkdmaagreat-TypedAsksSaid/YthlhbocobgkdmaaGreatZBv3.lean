import Derived.Test.YthlhbocobgkdmaaGreatZBv2
set_option linter.all false
namespace Go.Proofs.YthlhbocobgkdmaaGreatZ
open Go.AE
theorem qM {x r:Nat}(hx:x<J1)(hr:r<64):(IntKind.u64.wrap ((BitVec.ofInt (IntKind.u64).bits ((x:Int).fdiv (2 ^ (min r (IntKind.u64).bits))) &&& BitVec.ofInt (IntKind.u64).bits 1).toNat:Int)==1)=x.testBit r:=by
 have e:min r (IntKind.u64).bits=r:=Nat.min_eq_left (by show r≤64;omega)
 rw [e,fdiv_pow]
 have hq:x / 2 ^ r<J1:=Nat.lt_of_le_of_lt (Nat.div_le_self _ _) hx
 have:=yN hq (y:=1) (by decide)
 rw [show ((1:Nat):Int)=1 from rfl] at this
 rw [this,Nat.and_one_is_mod,K3,Nat.mod_eq_of_lt (show x / 2 ^ r % 2<J1 by unfold J1;omega),Nat.testBit_eq_decide_div_mod_eq]
 have h2:x / 2 ^ r % 2=0∨x / 2 ^ r % 2=1:=by omega
 rcases h2 with h2|h2<;>rw [h2]<;>rfl
theorem qL {w a i:Nat}(h2:w≤128)(ha:a<2 ^ w):U (fun n=>L3 n (vec w a) (i:Int)) fun r=>r=(true,[.bool (a.testBit i)]):=by
 refine U.eq (fun n=>kO n _ _ _) (U.H5 (E4 (by omega)) (U.P7 (fun hi=>?_) fun hi=>U.ret ?_))
 ·have hi:i<w:=by have:=E5 hi;omega
  have e1:IntKind.i64.wrap ((i:Int).tdiv 64)=((i / 64:Nat):Int):=by
   rw [Int.tdiv_eq_ediv_of_nonneg (by omega),N8 (by omega) (by omega)];omega
  have e2:(i:Int).tmod 64=((i % 64:Nat):Int):=by rw [Int.tmod_eq_emod_of_nonneg (by omega)];omega
  rw [e1,e2]
  have hr:i % 64<64:=Nat.mod_lt _ (by decide)
  by_cases hw:w≤64
  ·rw [U3 hw]
   have e3:i / 64=0:=by omega
   have e4:i % 64=i:=by omega
   rw [e3,e4]
   refine U.H5 rfl (U.H5 rfl (U.no (E6 (by omega)) (U.ret ?_)))
   show (true,[D.bool (IntKind.u64.wrap ((BitVec.ofInt (IntKind.u64).bits ((a:Int).fdiv (2 ^ (min i (IntKind.u64).bits))) &&& BitVec.ofInt (IntKind.u64).bits 1).toNat:Int)==1)])=_
   rw [qM (eB hw ha) (by omega)]
  ·have hw:64<w:=by omega
   rw [V8 hw]
   by_cases h64:i<64
   ·have e3:i / 64=0:=by omega
    have e4:i % 64=i:=by omega
    rw [e3,e4]
    refine U.H5 rfl (U.H5 rfl (U.no (E6 (by omega)) (U.ret ?_)))
    show (true,[D.bool (IntKind.u64.wrap ((BitVec.ofInt (IntKind.u64).bits (((a % J1:Nat):Int).fdiv (2 ^ (min i (IntKind.u64).bits))) &&& BitVec.ofInt (IntKind.u64).bits 1).toNat:Int)==1)])=_
    rw [qM (gO a) (by omega)]
    show (true,[D.bool ((a % 2 ^ 64).testBit i)])=_
    rw [Nat.testBit_mod_two_pow,E4 h64,Bool.true_and]
   ·have e3:i / 64=1:=by omega
    have e4:i % 64=i-64:=by omega
    rw [e3,e4]
    refine U.H5 rfl (U.H5 rfl (U.no (E6 (by omega)) (U.ret ?_)))
    show (true,[D.bool (IntKind.u64.wrap ((BitVec.ofInt (IntKind.u64).bits (((a / J1:Nat):Int).fdiv (2 ^ (min (i-64) (IntKind.u64).bits))) &&& BitVec.ofInt (IntKind.u64).bits 1).toNat:Int)==1)])=_
    rw [qM (iJ hw h2 ha) (by omega)]
    show (true,[D.bool ((a / 2 ^ 64).testBit (i-64))])=_
    rw [Nat.testBit_div_two_pow]
    have:i-64+64=i:=by omega
    rw [this]
 ·have hi:w≤i:=by have:=E7 hi;omega
  rw [Nat.testBit_lt_two_pow (Nat.lt_of_lt_of_le ha (Nat.pow_le_pow_right (by omega) hi))]
def jH (w n:Nat):List D:=(List.range w).map fun i=> .bool (n.testBit i)
theorem qE (w n:Nat):(jH w n).length=w:=by simp [jH]
theorem yQ {w n i:Nat}(h:i<w):(jH w n)[i]? = some (.bool (n.testBit i)):=by simp [jH,h]
theorem SC {w a:Nat}(h2:w≤128)(ha:a<2 ^ w):U (fun n=>Q2 n (vec w a)) fun r=>r=(true,[.Z 1 (jH w a)]):=by
 refine U.eq (fun n=>mC n _ _) (U.H5 (N7 (N7 (E4 (by omega)) (E4 (Int.le_refl _))) (E4 (by simp only [J5];omega))) ?_)
 rw [E1,List.length_replicate]
 have loop:∀ (m j:Nat) (out:List D),w-j=m→j≤w→out.length=w→(∀ i,i<j→out[i]? = some (.bool (a.testBit i)))→
   U (fun n=>N5 n (w:Int) (j:Int) (w:Int) (.Z 1 (I9 w a)) (.Z 1 out)) fun r=>∃ j':Int,r=(false,[.int .i64 (w:Int),.int .i64 j',.int .i64 (w:Int),.Z 1 (I9 w a),.Z 1 (jH w a)]):=by
  intro m
  induction m with
  |zero=>
   intro j out hm hj hl ho
   refine U.eq (fun n=>dO n _ _ _ _ _) (U.no (E6 (by omega)) (U.ret ⟨(j:Int),?_⟩))
   have:out=jH w a:=by
    apply List.ext_getElem?
    intro i
    by_cases hi:i<w
    ·rw [ho i (by omega),yQ hi]
    ·rw [List.getElem?_eq_none (by omega),List.getElem?_eq_none (by rw [qE];omega)]
   rw [this]
  |succ m ih=>
   intro j out hm hj hl ho
   have hw:IntKind.i64.wrap ((j:Int)+1)=((j+1:Nat):Int):=J9 (by omega)
   refine U.eq (fun n=>dO n _ _ _ _ _) (U.H5 (E4 (by omega)) (U.H3 (qL (i:=j) h2 ha) ?_))
   intro _ _ h;cases h
   rw [hw]
   refine⟨rfl,U.H5 rfl (U.H5 (J8 (by omega)) ?_)⟩
   rw [E1]
   refine ih (j+1) _ (by omega) (by omega) (by rw [List.length_set];exact hl) fun i hi=>?_
   rw [List.getElem?_set]
   by_cases e:j=i
   ·subst e
    rw [if_pos rfl,if_pos (by omega)];rfl
   ·rw [if_neg e];exact ho i (by omega)
 refine U.J2 (loop w 0 _ rfl (C4 _) (by simp) (fun i hi=>by omega)) (fun ds h=>by obtain⟨_,h⟩:=h;cases h) fun ds h=>?_
 obtain⟨j',h⟩:=h
 cases h
 exact U.H5 rfl (U.ret rfl)
end Go.Proofs.YthlhbocobgkdmaaGreatZ
