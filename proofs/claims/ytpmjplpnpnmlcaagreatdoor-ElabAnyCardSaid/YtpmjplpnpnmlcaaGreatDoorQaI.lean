import Derived.Test.YtpmjplpnpnmlcaaGreatDoorQaH
import Derived.Test.YtpmjplpnpnmlcaaGreatDoorEng
set_option linter.all false
namespace Go.Proofs.YtpmjplpnpnmlcaaGreatDoor
open Go.AE
open Go.AE.Q Go.AE.Dc
theorem R9 {f:Nat}{p:T}{xs:List D}{r:Bool×List D}(q:jY C sg f p)(hx:K4 (sg f).hs xs=true)(h:∃ N,∀ n,N≤n→p.den sg (R n) [] (sg f).hs.length (fun i=>Y xs i)=some r):Ru f xs r:=by
 obtain⟨N,h⟩:=h
 refine⟨N+1,fun n hn=>?_⟩
 obtain⟨k,rfl⟩:∃ k,n=k+1:=⟨n-1,by omega⟩
 refine (BJ q hx k).trans ?_
 rw [vJ hx]
 exact h k (by omega)
theorem Em {f:Nat}{xs:List D}{r:Bool×List D}{P:Bool×List D→Prop}(h:Ru f xs r)(hp:P r):U (fun n=>R n f xs) P:=⟨r,hp,h.choose,fun n hn=>h.choose_spec n hn⟩
theorem ZO {f:Nat}{xs:List D}{r:Bool×List D}{P:Bool×List D→Prop}(h:Ru f xs r)(he:U (fun n=>R n f xs) P):P r:=by
 obtain⟨z,hz,N,hN⟩:=he
 obtain⟨M,hM⟩:=h
 have h1:=hN (N+M) (by omega)
 have h2:=hM (N+M) (by omega)
 have h1:R (N+M) f xs=some z:=h1
 rw [h2] at h1
 cases h1
 exact hz
theorem Pv (s t:G0):Ru 444 [.str s,.str t] (true,[.bool (if t.length≤s.length then (s.take t.length==t) else false)]):=by
 refine R9 Xi rfl ⟨0,fun n _=>?_⟩
 by_cases h:t.length≤s.length
 ·rw [if_pos h]
  refine (R6 (by show decide ((s.length:Int)≥(t.length:Int))=true;exact E6 (by omega))).trans ?_
  refine (gA (by show (true&&decide ((0:Int)≤(t.length:Nat))&&decide (((t.length:Nat):Int)≤(s.length:Nat)))=true;rw [E6 (by omega),E6 (by omega)];rfl)).trans ?_
  show some (true,[D.bool (((s.drop (0:Int).toNat).take (((t.length:Nat):Int).toNat-(0:Int).toNat))==t)])=_
  simp
 ·rw [if_neg h]
  refine (Q5 (by show decide ((s.length:Int)≥(t.length:Int))=false;exact E8 (by omega))).trans ?_
  rfl
theorem Pu (s t:G0):Ru 409 [.str s,.str t] (true,[.bool (if t.length≤s.length then (s.take t.length==t) else false)]):=by
 obtain⟨N,h⟩:=Pv s t
 refine R9 Xh rfl ⟨N,fun n hn=>?_⟩
 exact (bU (h n hn) rfl).trans rfl
theorem Be:Q.Good U6 R 409 Ff:=by
 intro δ xs htop _ hT
 obtain⟨ls,hf,hl,_,hfm⟩:=hT
 obtain⟨x,y,rfl,rfl⟩:=OU hf
 obtain⟨h0,⟨s,rfl⟩,h1,⟨t,rfl⟩,_⟩:=hl
 generalize hb:(if t.length≤s.length then (s.take t.length==t) else false)=b
 have k2:nw δ 2 [D.bool b] 2 = .bool b:=Z2 0
 have k1:nw δ 2 [D.bool b] 1 = .str t:=(if_pos (by omega)).trans h1
 have k0:nw δ 2 [D.bool b] 0 = .str s:=(if_pos (by omega)).trans h0
 refine Em (Pu s t) (.inl ⟨rfl,nw δ 2 [.bool b],gP,aB rfl,[.bool b],⟨[],by rw [hb],rfl⟩,⟨k2,⟨_,rfl⟩,trivial⟩,fun c hc=>(by cases hc),?_⟩)
 have key:t=[36]→(b=true↔FD s=1)∧(b=false↔FD s=0):=by
  rintro rfl
  rw [← hb]
  cases s with
  |nil=>simp [FD]
  |cons c s=>
   simp only [A0,A8,FD,List.head?_cons]
   rw [if_pos (by omega)]
   by_cases hc:c=36
   ·subst hc;simp
   ·simp [hc]
 have hn:∀ {g:Fm},(t=[36]→g.bv (nw δ 2 [D.bool b])=true)→(Fm.or (.nq 1 [36]) g).bv (nw δ 2 [D.bool b])=true:=by
  intro g hg
  by_cases ht:t=[36]
  ·exact Fm.T4.2 (.inr (hg ht))
  ·refine Fm.T4.2 (.inl ?_)
   show (!((nw δ 2 [D.bool b] 1).s==[36]))=true
   rw [k1]
   have:(t==[36])=false:=by simpa using ht
   show (!(t==[36]))=true
   rw [this];rfl
 have lit:∀ v:Int,FD s=v→(Fm.p (.mk 3 [.a 0] [.c v])).bv (nw δ 2 [D.bool b])=true:=by
  intro v hv
  refine Lt.rP.2 ?_
  show FD (nw δ 2 [D.bool b] 0).s=v
  rw [k0];exact hv
 intro g hg
 rcases B7.1 hg with rfl|hg
 ·refine hn fun ht=>?_
  cases hbb:b with
  |true=>exact Fm.T4.2 (.inr (by have:=lit 1 (((key ht).1).1 hbb);rw [hbb] at this;exact this))
  |false=>
   refine Fm.T4.2 (.inl ?_)
   show (!(nw δ 2 [D.bool false] 2).b)=true
   rw [show nw δ 2 [D.bool false] 2 = .bool false from Z2 0];rfl
 ·rcases B7.1 hg with rfl|hg
  ·refine hn fun ht=>?_
   cases hbb:b with
   |false=>exact Fm.T4.2 (.inr (by have:=lit 0 (((key ht).2).1 hbb);rw [hbb] at this;exact this))
   |true=>
    refine Fm.T4.2 (.inl ?_)
    show (nw δ 2 [D.bool true] 2).b=true
    rw [show nw δ 2 [D.bool true] 2 = .bool true from Z2 0];rfl
  ·cases hg
end Go.Proofs.YtpmjplpnpnmlcaaGreatDoor
