import Derived.Test.YtpmjplpnpnmlcaaGreatDoorQaI
import Derived.Test.YtpmjplpnpnmlcaaGreatDoorEng
set_option linter.all false
namespace Go.Proofs.YtpmjplpnpnmlcaaGreatDoor
open Go.AE
open Go.AE.Q Go.AE.Dc
theorem Ig {n:Int}{d:D}:HP U6 19 [n] d↔TH (HP U6) Ra [n] d:=by rw [← Xr];exact eB
def NV (d:D):Prop:=∃ (s0:G0) (i1:Int) (i2:Int) (s3:G0) (i4:Int) (b5:Bool) (i6:Int) (l7:List D) (i8:Int) (b9:Bool) (i10:Int) (i11:Int) (i12:Int) (i13:Int) (i14:Int) (b15:Bool) (i16:Int) (l17:List D) (l18:List D),d = .agg [.str s0,.int .i64 i1,.int .i64 i2,.str s3,.int .i64 i4,.bool b5,.int .i64 i6,.Z 4 l7,.int .i64 i8,.bool b9,.int .i64 i10,.int .i64 i11,.int .i64 i12,.int .i64 i13,.int .i64 i14,.bool b15,.int .i64 i16,.Z 1 l17,.Z 9 l18]
theorem YT {n:Int}{d:D}(h:HP U6 19 [n] d):NV d:=by
 obtain⟨⟨cs,rfl,hl⟩,hk,_⟩:=Ig.1 h
 have hl:cs.length=19:=hl
 obtain⟨c0,cs,rfl⟩:∃ c r,cs=c::r:=by cases cs with|nil=>simp at hl|cons c r=>exact⟨c,r,rfl⟩
 have hl:cs.length=18:=by simpa using hl
 obtain⟨c1,cs,rfl⟩:∃ c r,cs=c::r:=by cases cs with|nil=>simp at hl|cons c r=>exact⟨c,r,rfl⟩
 have hl:cs.length=17:=by simpa using hl
 obtain⟨c2,cs,rfl⟩:∃ c r,cs=c::r:=by cases cs with|nil=>simp at hl|cons c r=>exact⟨c,r,rfl⟩
 have hl:cs.length=16:=by simpa using hl
 obtain⟨c3,cs,rfl⟩:∃ c r,cs=c::r:=by cases cs with|nil=>simp at hl|cons c r=>exact⟨c,r,rfl⟩
 have hl:cs.length=15:=by simpa using hl
 obtain⟨c4,cs,rfl⟩:∃ c r,cs=c::r:=by cases cs with|nil=>simp at hl|cons c r=>exact⟨c,r,rfl⟩
 have hl:cs.length=14:=by simpa using hl
 obtain⟨c5,cs,rfl⟩:∃ c r,cs=c::r:=by cases cs with|nil=>simp at hl|cons c r=>exact⟨c,r,rfl⟩
 have hl:cs.length=13:=by simpa using hl
 obtain⟨c6,cs,rfl⟩:∃ c r,cs=c::r:=by cases cs with|nil=>simp at hl|cons c r=>exact⟨c,r,rfl⟩
 have hl:cs.length=12:=by simpa using hl
 obtain⟨c7,cs,rfl⟩:∃ c r,cs=c::r:=by cases cs with|nil=>simp at hl|cons c r=>exact⟨c,r,rfl⟩
 have hl:cs.length=11:=by simpa using hl
 obtain⟨c8,cs,rfl⟩:∃ c r,cs=c::r:=by cases cs with|nil=>simp at hl|cons c r=>exact⟨c,r,rfl⟩
 have hl:cs.length=10:=by simpa using hl
 obtain⟨c9,cs,rfl⟩:∃ c r,cs=c::r:=by cases cs with|nil=>simp at hl|cons c r=>exact⟨c,r,rfl⟩
 have hl:cs.length=9:=by simpa using hl
 obtain⟨c10,cs,rfl⟩:∃ c r,cs=c::r:=by cases cs with|nil=>simp at hl|cons c r=>exact⟨c,r,rfl⟩
 have hl:cs.length=8:=by simpa using hl
 obtain⟨c11,cs,rfl⟩:∃ c r,cs=c::r:=by cases cs with|nil=>simp at hl|cons c r=>exact⟨c,r,rfl⟩
 have hl:cs.length=7:=by simpa using hl
 obtain⟨c12,cs,rfl⟩:∃ c r,cs=c::r:=by cases cs with|nil=>simp at hl|cons c r=>exact⟨c,r,rfl⟩
 have hl:cs.length=6:=by simpa using hl
 obtain⟨c13,cs,rfl⟩:∃ c r,cs=c::r:=by cases cs with|nil=>simp at hl|cons c r=>exact⟨c,r,rfl⟩
 have hl:cs.length=5:=by simpa using hl
 obtain⟨c14,cs,rfl⟩:∃ c r,cs=c::r:=by cases cs with|nil=>simp at hl|cons c r=>exact⟨c,r,rfl⟩
 have hl:cs.length=4:=by simpa using hl
 obtain⟨c15,cs,rfl⟩:∃ c r,cs=c::r:=by cases cs with|nil=>simp at hl|cons c r=>exact⟨c,r,rfl⟩
 have hl:cs.length=3:=by simpa using hl
 obtain⟨c16,cs,rfl⟩:∃ c r,cs=c::r:=by cases cs with|nil=>simp at hl|cons c r=>exact⟨c,r,rfl⟩
 have hl:cs.length=2:=by simpa using hl
 obtain⟨c17,cs,rfl⟩:∃ c r,cs=c::r:=by cases cs with|nil=>simp at hl|cons c r=>exact⟨c,r,rfl⟩
 have hl:cs.length=1:=by simpa using hl
 obtain⟨c18,cs,rfl⟩:∃ c r,cs=c::r:=by cases cs with|nil=>simp at hl|cons c r=>exact⟨c,r,rfl⟩
 have hl:cs.length=0:=by simpa using hl
 obtain rfl:cs=[]:=D3 hl
 obtain⟨s0,e0⟩:∃ x,c0 = .str x:=hk 0 (by show 0<19;omega)
 obtain⟨i1,e1⟩:∃ x,c1 = .int .i64 x:=hk 1 (by show 1<19;omega)
 obtain⟨i2,e2⟩:∃ x,c2 = .int .i64 x:=hk 2 (by show 2<19;omega)
 obtain⟨s3,e3⟩:∃ x,c3 = .str x:=hk 3 (by show 3<19;omega)
 obtain⟨i4,e4⟩:∃ x,c4 = .int .i64 x:=hk 4 (by show 4<19;omega)
 obtain⟨b5,e5⟩:∃ x,c5 = .bool x:=hk 5 (by show 5<19;omega)
 obtain⟨i6,e6⟩:∃ x,c6 = .int .i64 x:=hk 6 (by show 6<19;omega)
 obtain⟨l7,e7⟩:∃ x,c7 = .Z 4 x:=by
  obtain⟨xs,e,_⟩:=hk 7 (by show 7<19;omega)
  exact⟨xs,e⟩
 obtain⟨i8,e8⟩:∃ x,c8 = .int .i64 x:=hk 8 (by show 8<19;omega)
 obtain⟨b9,e9⟩:∃ x,c9 = .bool x:=hk 9 (by show 9<19;omega)
 obtain⟨i10,e10⟩:∃ x,c10 = .int .i64 x:=hk 10 (by show 10<19;omega)
 obtain⟨i11,e11⟩:∃ x,c11 = .int .i64 x:=hk 11 (by show 11<19;omega)
 obtain⟨i12,e12⟩:∃ x,c12 = .int .i64 x:=hk 12 (by show 12<19;omega)
 obtain⟨i13,e13⟩:∃ x,c13 = .int .i64 x:=hk 13 (by show 13<19;omega)
 obtain⟨i14,e14⟩:∃ x,c14 = .int .i64 x:=hk 14 (by show 14<19;omega)
 obtain⟨b15,e15⟩:∃ x,c15 = .bool x:=hk 15 (by show 15<19;omega)
 obtain⟨i16,e16⟩:∃ x,c16 = .int .i64 x:=hk 16 (by show 16<19;omega)
 obtain⟨l17,e17⟩:∃ x,c17 = .Z 1 x:=by
  obtain⟨xs,e,_⟩:=hk 17 (by show 17<19;omega)
  exact⟨xs,e⟩
 obtain⟨l18,e18⟩:∃ x,c18 = .Z 9 x:=by
  obtain⟨xs,e,_⟩:=hk 18 (by show 18<19;omega)
  exact⟨xs,e⟩
 exact⟨s0,i1,i2,s3,i4,b5,i6,l7,i8,b9,i10,i11,i12,i13,i14,b15,i16,l17,l18,by rw [e0,e1,e2,e3,e4,e5,e6,e7,e8,e9,e10,e11,e12,e13,e14,e15,e16,e17,e18]⟩
theorem HA {d:D}(h:NV d):V9 J9=true∧eG J9 d=true∧L0 J9 d=d∧d.at_ 0 = .str (d.at_ 0).s∧d.at_ 1 = .int .i64 (d.at_ 1).i:=by
 obtain⟨s0,i1,i2,s3,i4,b5,i6,l7,i8,b9,i10,i11,i12,i13,i14,b15,i16,l17,l18,rfl⟩:=h
 exact⟨rfl,rfl,rfl,rfl,rfl⟩
theorem ws {j:Nat}(h:j<4611686018427387904):IntKind.i64.wrap ((j:Int)+1)=((j+1:Nat):Int):=by
 rw [rG (k:= .i64) (by show (-9223372036854775808:Int)≤_;omega) (by show _≤(9223372036854775807:Int);omega)];omega
theorem UI {rec:Nat→List D→Out}{J:List (List D→Out)}{f:Nat}{es:List Ar}{x:T}{n:Nat}{V:Nat→D}{r:List D}(h:rec f (pC V es)=some (true,r)):(T.o f es x).den sg rec J n V=some (true,r):=by
 show AE.cX (rec f (pC V es)) (fun r=>bif aL (sg f).ro r then x.den sg rec J (n+(I5 (sg f).ro).length) (S3 V n (I5 (sg f).ro) r) else none)=_
 rw [h];rfl
def ZF (nm:G0):List D→Nat→Option Nat
 |[],_=>none
 |d::l,i=>if ((d.at_ 0).s==nm)=true then some i else ZF nm l (i+1)
theorem IL (nm:G0):∀ (l:List D) (i:Nat),(ZF nm l i=none∧l.find? (fun x=>(x.at_ 0).s==nm)=none)∨∃ j,ZF nm l i=some (i+j)∧j<l.length∧l.find? (fun x=>(x.at_ 0).s==nm)=some (l[j]?.getD .top)
 |[],i=> .inl ⟨rfl,rfl⟩
 |d::l,i=>by
  cases hb:((d.at_ 0).s==nm) with
  |true=>exact .inr ⟨0,by simp [ZF,hb],by simp,by simp [hb]⟩
  |false=>
   rcases IL nm l (i+1) with ⟨h1,h2⟩|⟨j,h1,h2,h3⟩
   ·exact .inl ⟨by simp [ZF,hb,h1],by simp [hb,h2]⟩
   ·exact .inr ⟨j+1,by simp [ZF,hb,h1];omega,by simpa using h2,by simp [hb,h3]⟩
theorem Lx {d:D}(h:NV d)(nm:G0):Ru 404 [d,.str nm] (true,[.bool ((d.at_ 0).s==nm),.str nm]):=by
 obtain⟨s0,i1,i2,s3,i4,b5,i6,l7,i8,b9,i10,i11,i12,i13,i14,b15,i16,l17,l18,rfl⟩:=h
 exact R9 Xg rfl ⟨0,fun n _=>rfl⟩
theorem PE {th:List D}{nm:G0}(hth:∀ d∈th,NV d)(hlen:th.length<4611686018427387904):∀ (k i:Nat),i+k=th.length→
  Ru 350 [.Z 19 th,.int .i64 (th.length:Nat),.int .i64 i,.str nm] (match ZF nm (th.drop i) i with|some j=>(true,[.int .i64 (j:Nat),.str nm])|none=>(false,[.Z 19 th,.int .i64 (th.length:Nat),.int .i64 (th.length:Nat),.str nm]))
 |0,i,hi=>by
  obtain rfl:i=th.length:=by omega
  rw [List.drop_length]
  refine R9 Sm rfl ⟨0,fun n _=>?_⟩
  refine (Q5 (by show decide (((th.length:Nat):Int)<(th.length:Nat))=false;exact E8 (by omega))).trans ?_
  rfl
 |k+1,i,hi=>by
  have hlt:i<th.length:=by omega
  have hd:=hth _ (C6 hlt)
  have ht:=HA hd
  have hdrop:th.drop i=th[i]::th.drop (i+1):=List.drop_eq_getElem_cons hlt
  rw [hdrop]
  obtain⟨N1,h1⟩:=Lx hd nm
  obtain⟨N2,h2⟩:=PE hth hlen k (i+1) (by omega)
  have hel:(E.g 0 2).den (fun j=>Y [D.Z 19 th,.int .i64 (th.length:Nat),.int .i64 i,.str nm] j)=th[i]:=by
   show th[((i:Nat):Int).toNat]?.getD .top=_
   rw [E3,C2 hlt];rfl
  refine R9 Sm rfl ⟨N1+N2,fun n hn=>?_⟩
  refine (R6 (by show decide ((i:Int)<(th.length:Nat))=true;exact E6 (by omega))).trans ?_
  refine (gA (by show (decide ((0:Int)≤i)&&decide ((i:Int)<(th.length:Nat)))=true;rw [E6 (by omega),E6 (by omega)];rfl)).trans ?_
  refine (xJ ht.1 (by rw [hel];exact ht.2.1)).trans ?_
  rw [hel,ht.2.2.1]
  refine (bU (h1 n (by omega)) rfl).trans ?_
  unfold ZF
  cases hb:((th[i].at_ 0).s==nm) with
  |true=>
   refine (R6 rfl).trans ?_
   rfl
  |false=>
   refine (Q5 rfl).trans ?_
   refine gY.trans ?_
   have:=h2 n (by omega)
   rw [← ws (by omega)] at this
   exact this
def Ei:D:= .agg [.str [],.int .i64 0,.int .i64 0,.str [],.int .i64 0,.bool false,.int .i64 0,.Z 4 [],.int .i64 0,.bool false,.int .i64 0,.int .i64 0,.int .i64 0,.int .i64 0,.int .i64 0,.bool false,.int .i64 0,.Z 1 [],.Z 9 []]
theorem Lv {th:List D}{nm:G0}(hth:∀ d∈th,NV d)(hlen:th.length<4611686018427387904):Ru 299 [.Z 19 th,.str nm] (true,[.int .i64 (match ZF nm th 0 with|some j=>((j:Nat):Int)|none=>-1),.str nm]):=by
 obtain⟨N,h⟩:=PE (nm:=nm) hth hlen th.length 0 (by omega)
 rw [List.drop_zero] at h
 refine R9 Xc rfl ⟨N,fun n hn=>?_⟩
 have:=h n hn
 cases hf:ZF nm th 0 with
 |some j=>rw [hf] at this;exact UI this
 |none=>
  rw [hf] at this
  refine (BT this rfl).trans ?_
  rfl
theorem Lr {th ev:List D}{nm:G0}(hth:∀ d∈th,NV d)(hlen:th.length<4611686018427387904):Ru 263 [.agg [.Z 19 th,.Z 2 ev],.str nm] (true,[(th.find? fun x=>(x.at_ 0).s==nm).getD Ei]):=by
 obtain⟨N,h⟩:=Lv (nm:=nm) hth hlen
 refine R9 Sc rfl ⟨N,fun n hn=>?_⟩
 refine (bU (h n hn) rfl).trans ?_
 rcases IL nm th 0 with ⟨h1,h2⟩|⟨j,h1,h2,h3⟩
 ·rw [h1,h2]
  refine (R6 rfl).trans ?_
  rfl
 ·rw [h1,h3]
  rw [C5]
  refine (Q5 (by show decide ((j:Int)<0)=false;exact E8 (by omega))).trans ?_
  refine (gA (by show (decide ((0:Int)≤j)&&decide ((j:Int)<(th.length:Nat)))=true;rw [E6 (by omega),E6 (by omega)];rfl)).trans ?_
  have ht:=HA (hth _ (C6 h2))
  rw [C2 h2,Option.getD_some]
  refine (xJ ht.1 ?_).trans ?_
  ·show eG _ (th[((j:Nat):Int).toNat]?.getD .top)=true
   rw [E3,C2 h2];exact ht.2.1
  ·have e:L0 J9 (th[((j:Nat):Int).toNat]?.getD .top)=th[j]:=by
    rw [E3,C2 h2];exact ht.2.2.1
   exact congrArg (fun x=>some (true,[x])) e
end Go.Proofs.YtpmjplpnpnmlcaaGreatDoor
