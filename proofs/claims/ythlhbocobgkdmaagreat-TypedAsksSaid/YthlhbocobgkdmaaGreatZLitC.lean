import Derived.Test.YthlhbocobgkdmaaGreatZLitB
set_option linter.all false
namespace Go.Proofs.YthlhbocobgkdmaaGreatZ
open Go.AE
def bD (b:Bool):D:= .bool b
def jE:List Bool→Nat
 |[]=>0
 |b::l=>b.toNat+2*jE l
theorem pY:∀ l:List Bool,jE l<2 ^ l.length
 |[]=>by decide
 |b::l=>by
  have:=pY l
  have hb:b.toNat≤1:=by cases b<;>decide
  simp only [jE,A0,Nat.pow_succ];omega
theorem qI:∀ (l:List Bool) (b:Bool),jE (l++[b])=jE l+b.toNat*2 ^ l.length
 |[],b=>by simp [jE]
 |c::l,b=>by
  have:=qI l b
  simp only [List.cons_append,jE,this,A0,Nat.pow_succ]
  rw [Nat.mul_add,← Nat.mul_assoc 2,Nat.mul_comm 2 b.toNat,Nat.mul_assoc b.toNat,Nat.mul_comm 2 (2 ^ l.length)]
  omega
theorem Bo {x r:Nat}(hx:x<2 ^ r):x ||| 2 ^ r=x+2 ^ r:=by
 have:=Nat.two_pow_add_eq_or_of_lt hx 1
 rw [Nat.mul_one] at this
 rw [Nat.or_comm,← this,Nat.add_comm]
theorem zK {r:Nat}(hr:r<64):IntKind.u64.wrap (1*2 ^ (min r (IntKind.u64).bits))=((2 ^ r:Nat):Int):=by
 have hp:2 ^ r<J1:=Nat.lt_of_le_of_lt (Nat.pow_le_pow_right (by omega) (show r≤63 by omega)) (by decide)
 have e:min r (IntKind.u64).bits=r:=Nat.min_eq_left (by show r≤64;omega)
 rw [e,Int.one_mul,zH,K3,Nat.mod_eq_of_lt hp]
theorem pC {r:Nat}(hr:r<64):2 ^ r<J1:=Nat.lt_of_le_of_lt (Nat.pow_le_pow_right (by omega) (show r≤63 by omega)) (by decide)
theorem rG {x r:Nat}(hr:r<64)(hx:x<2 ^ r):IntKind.u64.wrap ((BitVec.ofInt (IntKind.u64).bits (x:Int) ||| BitVec.ofInt (IntKind.u64).bits (IntKind.u64.wrap (1*2 ^ (min r (IntKind.u64).bits)))).toNat:Int)=((x+2 ^ r:Nat):Int):=by
 have hp:=pC hr
 have hp2:2 ^ (r+1)≤J1:=mU (by omega)
 rw [Nat.pow_succ] at hp2
 rw [zK hr,BitVec.toNat_or,O9 (by omega),O9 hp,Bo hx,K3,Nat.mod_eq_of_lt (by omega)]
theorem lG {x r:Nat}(hr:r<64)(hx:x<2 ^ r):IntKind.u64.wrap ((BitVec.ofInt (IntKind.u64).bits (x:Int) &&& ~~~BitVec.ofInt (IntKind.u64).bits (IntKind.u64.wrap (1*2 ^ (min r (IntKind.u64).bits)))).toNat:Int)=(x:Int):=by
 have hp:=pC hr
 rw [zK hr]
 have key:BitVec.ofInt 64 (x:Int) &&& ~~~BitVec.ofInt 64 ((2 ^ r:Nat):Int)=BitVec.ofInt 64 (x:Int):=by
  apply BitVec.eq_of_getLsbD_eq
  intro i hi
  rw [BitVec.getLsbD_and,BitVec.getLsbD_not]
  have e1:(BitVec.ofInt 64 (x:Int)).getLsbD i=x.testBit i:=by
   show (BitVec.ofInt 64 (x:Int)).toNat.testBit i=_
   have:(BitVec.ofInt 64 (x:Int)).toNat=x:=O9 (by omega)
   rw [this]
  have e2:(BitVec.ofInt 64 ((2 ^ r:Nat):Int)).getLsbD i=(2 ^ r).testBit i:=by
   show (BitVec.ofInt 64 ((2 ^ r:Nat):Int)).toNat.testBit i=_
   have:(BitVec.ofInt 64 ((2 ^ r:Nat):Int)).toNat=2 ^ r:=O9 hp
   rw [this]
  rw [e1,e2,Nat.testBit_two_pow,E4 hi]
  by_cases h:r=i
  ·subst h
   rw [Nat.testBit_lt_two_pow hx];rfl
  ·rw [E6 h];simp
 have k2:(BitVec.ofInt (IntKind.u64).bits (x:Int) &&& ~~~BitVec.ofInt (IntKind.u64).bits ((2 ^ r:Nat):Int)).toNat=x:=by
  show (BitVec.ofInt 64 (x:Int) &&& ~~~BitVec.ofInt 64 ((2 ^ r:Nat):Int)).toNat=x
  rw [key]
  exact O9 (by omega)
 rw [k2,K3,Nat.mod_eq_of_lt (by omega)]
theorem uY {w v j:Nat}(h2:w≤128)(hj:j<w)(hv:v<2 ^ j)(b:Bool):U (fun n=>K5 n (w:Int) (j:Int) (.bool b) (.Z 1 (I9 w v))) fun r=>r=(true,[.Z 1 (I9 w (v+b.toNat*2 ^ j))]):=by
 have e1:IntKind.i64.wrap ((j:Int).tdiv 64)=((j / 64:Nat):Int):=by
  rw [Int.tdiv_eq_ediv_of_nonneg (by omega),N8 (by omega) (by omega)];omega
 have e2:(j:Int).tmod 64=((j % 64:Nat):Int):=by rw [Int.tmod_eq_emod_of_nonneg (by omega)];omega
 refine U.eq (fun n=>iQ n _ _ _ _) ?_
 rw [e1,e2]
 by_cases hw:w≤64
 ·have e3:j / 64=0:=by omega
  have e4:j % 64=j:=by omega
  rw [e3,e4,U3 hw,U3 hw]
  cases b with
  |true=>
   refine U.H5 rfl (U.H5 rfl (U.H5 rfl (U.no (E6 (by omega)) (U.H5 rfl (U.ret ?_)))))
   show (true,[D.Z 1 [.int .u64 (IntKind.u64.wrap ((BitVec.ofInt (IntKind.u64).bits (v:Int) ||| BitVec.ofInt (IntKind.u64).bits (IntKind.u64.wrap (1*2 ^ (min j (IntKind.u64).bits)))).toNat:Int))]])=_
   rw [rG (by omega) hv]
   simp [wd]
  |false=>
   refine U.no rfl (U.H5 rfl (U.H5 rfl (U.no (E6 (by omega)) (U.H5 rfl (U.ret ?_)))))
   show (true,[D.Z 1 [.int .u64 (IntKind.u64.wrap ((BitVec.ofInt (IntKind.u64).bits (v:Int) &&& ~~~BitVec.ofInt (IntKind.u64).bits (IntKind.u64.wrap (1*2 ^ (min j (IntKind.u64).bits)))).toNat:Int))]])=_
   rw [lG (by omega) hv]
   simp [wd]
 ·have hw:64<w:=by omega
  rw [V8 hw,V8 hw]
  by_cases h64:j<64
  ·have e3:j / 64=0:=by omega
   have e4:j % 64=j:=by omega
   have hp:=pC h64
   have hp2:2 ^ (j+1)≤J1:=mU (by omega)
   rw [Nat.pow_succ] at hp2
   have d0:v / J1=0:=Nat.div_eq_of_lt (by omega)
   have m0:v % J1=v:=Nat.mod_eq_of_lt (by omega)
   rw [e3,e4,d0,m0]
   cases b with
   |true=>
    refine U.H5 rfl (U.H5 rfl (U.H5 rfl (U.no (E6 (by omega)) (U.H5 rfl (U.ret ?_)))))
    show (true,[D.Z 1 [.int .u64 (IntKind.u64.wrap ((BitVec.ofInt (IntKind.u64).bits (v:Int) ||| BitVec.ofInt (IntKind.u64).bits (IntKind.u64.wrap (1*2 ^ (min j (IntKind.u64).bits)))).toNat:Int)),wd 0]])=_
    rw [rG h64 hv,show v+true.toNat*2 ^ j=v+2 ^ j by simp,Nat.div_eq_of_lt (show v+2 ^ j<J1 by omega),Nat.mod_eq_of_lt (show v+2 ^ j<J1 by omega)]
    rfl
   |false=>
    refine U.no rfl (U.H5 rfl (U.H5 rfl (U.no (E6 (by omega)) (U.H5 rfl (U.ret ?_)))))
    show (true,[D.Z 1 [.int .u64 (IntKind.u64.wrap ((BitVec.ofInt (IntKind.u64).bits (v:Int) &&& ~~~BitVec.ofInt (IntKind.u64).bits (IntKind.u64.wrap (1*2 ^ (min j (IntKind.u64).bits)))).toNat:Int)),wd 0]])=_
    rw [lG h64 hv,show v+false.toNat*2 ^ j=v by simp,d0,m0]
    rfl
  ·have e3:j / 64=1:=by omega
   have e4:j % 64=j-64:=by omega
   have hps:=lS (show 64<j+1 by omega)
   have hd:v / J1<2 ^ (j-64):=by
    by_cases hj64:j=64
    ·subst hj64
     have:v<J1*1:=by rw [Nat.mul_one];exact hv
     exact Nat.div_lt_of_lt_mul this
    ·exact div_lt (by omega) hv
   have hpj:2 ^ j=J1*2 ^ (j-64):=by
    have:j=64+(j-64):=by omega
    rw [this,Nat.pow_add]
    have e:64+(j-64)-64=j-64:=by omega
    rw [e];rfl
   rw [e3,e4]
   cases b with
   |true=>
    refine U.H5 rfl (U.H5 rfl (U.H5 rfl (U.no (E6 (by omega)) (U.H5 rfl (U.ret ?_)))))
    show (true,[D.Z 1 [wd (v % J1),.int .u64 (IntKind.u64.wrap ((BitVec.ofInt (IntKind.u64).bits ((v / J1:Nat):Int) ||| BitVec.ofInt (IntKind.u64).bits (IntKind.u64.wrap (1*2 ^ (min (j-64) (IntKind.u64).bits)))).toNat:Int))]])=_
    rw [rG (by omega) hd,show v+true.toNat*2 ^ j=v+J1*2 ^ (j-64) by rw [← hpj];simp,Nat.add_mul_mod_self_left,Nat.add_mul_div_left _ _ (by decide)]
    rfl
   |false=>
    refine U.no rfl (U.H5 rfl (U.H5 rfl (U.no (E6 (by omega)) (U.H5 rfl (U.ret ?_)))))
    show (true,[D.Z 1 [wd (v % J1),.int .u64 (IntKind.u64.wrap ((BitVec.ofInt (IntKind.u64).bits ((v / J1:Nat):Int) &&& ~~~BitVec.ofInt (IntKind.u64).bits (IntKind.u64.wrap (1*2 ^ (min (j-64) (IntKind.u64).bits)))).toNat:Int))]])=_
    rw [lG (by omega) hd,show v+false.toNat*2 ^ j=v by simp]
    rfl
theorem Cz {l:List Bool}(h1:1≤l.length)(h2:l.length≤128):U (fun n=>gV n (.Z 1 (l.map bD))) fun r=>r=(true,[vec l.length (jE l),.int .i64 0]):=by
 refine U.eq (fun n=>wN n _) ?_
 rw [List.length_map]
 refine H4 (uG h1 h2) (U.H5 rfl (U.no rfl (H4 (Y8 h1 h2) (U.H5 rfl ?_))))
 have loop:∀ (k j:Nat),l.length-j=k→j≤l.length→
   U (fun n=>bC n (.Z 1 (l.map bD)) (l.length:Int) (j:Int) (0:Int) (l.length:Int) (.Z 1 []) (.Z 1 (I9 l.length (jE (l.take j))))) fun r=>
    r=(false,[.Z 1 (l.map bD),.int .i64 (l.length:Int),.int .i64 (l.length:Int),.int .i64 0,.int .i64 (l.length:Int),.Z 1 [],.Z 1 (I9 l.length (jE l))]):=by
  intro k
  induction k with
  |zero=>
   intro j hk hj
   have:j=l.length:=by omega
   subst this
   refine U.eq (fun n=>oN n _ _ _ _ _ _ _) (U.no (E6 (by omega)) (U.ret ?_))
   rw [List.take_length]
  |succ k ih=>
   intro j hk hj
   have hj2:j<l.length:=by omega
   have hj3:j<(l.map bD).length:=by rw [List.length_map];exact hj2
   have hw:IntKind.i64.wrap ((j:Int)+1)=((j+1:Nat):Int):=J9 (by omega)
   refine U.eq (fun n=>oN n _ _ _ _ _ _ _) (U.H5 (E4 (by omega)) (U.H5 (J8 hj3) ?_))
   rw [W7 hj3,hw,List.getElem_map]
   have hlt:jE (l.take j)<2 ^ j:=by
    have:=pY (l.take j)
    rwa [D7,Nat.min_eq_left hj] at this
   refine U.H5 rfl (H4 (uY (w:=l.length) h2 hj2 hlt l[j]) (U.H5 rfl ?_))
   have i1:=ih (j+1) (by omega) hj2
   rw [List.take_succ_eq_append_getElem hj2,qI,D7,Nat.min_eq_left hj] at i1
   exact i1
 have l0:=loop l.length 0 rfl (C4 _)
 exact fJ l0 (U.H5 rfl (U.ret rfl))
theorem ZY {l:List Bool}(h:¬ (1≤l.length∧l.length≤128)):U (fun n=>gV n (.Z 1 (l.map bD))) fun r=>r=(true,[.agg [.int .i64 0,.Z 1 []],.int .i64 2]):=by
 refine U.eq (fun n=>wN n _) ?_
 rw [List.length_map]
 refine H4 (ds:=[.bool false]) (U.eq (fun n=>nJ n _) (U.P7 (fun h1=>U.ret ?_) fun _=>U.ret rfl)) (U.H5 rfl (U.H5 rfl (U.ret rfl)))
 have h1:=E5 h1
 rw [E6 (by omega)]
end Go.Proofs.YthlhbocobgkdmaaGreatZ
