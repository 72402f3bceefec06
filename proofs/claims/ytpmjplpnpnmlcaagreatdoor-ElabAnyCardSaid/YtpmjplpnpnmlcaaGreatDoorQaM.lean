import Derived.Test.YtpmjplpnpnmlcaaGreatDoorQaL
import Derived.Test.YtpmjplpnpnmlcaaGreatDoorQ0
import Derived.Test.YtpmjplpnpnmlcaaGreatDoorQ1
import Derived.Test.YtpmjplpnpnmlcaaGreatDoorQ2
import Derived.Test.YtpmjplpnpnmlcaaGreatDoorQ3
import Derived.Test.YtpmjplpnpnmlcaaGreatDoorQ4
import Derived.Test.YtpmjplpnpnmlcaaGreatDoorQ5
import Derived.Test.YtpmjplpnpnmlcaaGreatDoorEng
import Derived.KernelRfl
set_option linter.all false
namespace Go.Proofs.YtpmjplpnpnmlcaaGreatDoor
open Go.AE
set_option maxRecDepth 100000
open Go.AE.Q Go.AE.Dc
def CC:List Nat:=[59,137,139,214,263,285,290,307,376,382,383,409]
noncomputable def V3 (f:Nat) (l:List Nat):Bool:=List.rec (motive:=fun _=>Bool) false (fun x _ ih=>H9 (Nat.beq f x) true ih) l
theorem PG {f:Nat}:∀ {l:List Nat},V3 f l=true→f∈l
 |[],h=>by cases h
 |x::l,h=>by
  cases hb:Nat.beq f x with
  |true=>rw [P3 hb];exact B8 ..
  |false=>
   have h:H9 (Nat.beq f x) true (V3 f l)=true:=h
   rw [hb] at h
   exact C0 _ (PG h)
noncomputable def Zh (g:Fm):Bool:=Fm.casesOn (motive:=fun _=>Bool) g false true (fun _=>false) (fun _=>false) (fun _=>false) (fun _ _=>false) (fun _ _=>false) (fun _=>false) (fun _=>false) (fun _ _=>false) (fun _ _=>false) (fun _=>false) (fun _=>false)
noncomputable def RL (c:fX):Bool:=fX.casesOn (motive:=fun _=>Bool) c fun _ ar _ _ _ _ _=>Tp.casesOn (motive:=fun _=>Bool) ar fun _ _ _ fm=>List.casesOn (motive:=fun _=>Bool) fm false fun g _=>Zh g
theorem CH {tab:Nat→Pd}{R:Nat→Nat→List D→Out}{f:Nat}{c:fX}(h:RL c=true):Q.Good tab R f c:=by
 cases c with
 |mk ng ar re er b lv me=>
  cases ar with
  |mk sh tl cl fm=>
   intro δ xs _ _ hT
   obtain⟨_,_,_,_,hfm⟩:=hT
   cases fm with
   |nil=>cases h
   |cons g r=>
    have h:Zh g=true:=h
    have:=hfm g (B8 ..)
    cases g with
    |f=>cases this
    |_=>cases h
noncomputable def scan (n:Nat):Nat→Bool:=Nat.rec (motive:=fun _=>Nat→Bool) (fun _=>true) (fun _ ih f=>H9 (H9 (zE (zN f)) (H9 (V3 f CC) true (RL (W9 f))) true) (Y3 (Nat.succ f) fun f=>ih f) false) n
theorem QH:∀ {n a f:Nat},scan n a=true→a≤f→f<a+n→zE (zN f)=true→f∈CC∨RL (W9 f)=true
 |0,a,f,_,h1,h2,_=>by omega
 |n+1,a,f,h,h1,h2,hz=>by
  obtain⟨h3,h4⟩:=I3 (show H9 (H9 (zE (zN a)) (H9 (V3 a CC) true (RL (W9 a))) true) (Y3 (Nat.succ a) fun f=>scan n f) false=true from h)
  rw [N9] at h4
  by_cases e:f=a
  ·subst e
   rw [hz] at h3
   have h3:H9 (V3 f CC) true (RL (W9 f))=true:=h3
   cases hb:V3 f CC with
   |true=>exact .inl (PG hb)
   |false=>rw [hb] at h3;exact .inr h3
  ·exact QH h4 (by omega) (by omega) hz
theorem Dz:scan 490 0=true:=by kernel_rfl
def Tc:SL→Nat
 | .n=>0
 | .c _ r=>Tc r+1
theorem QJ:∀ {s:SL} {k:Nat},Tc s≤k→zV s k=[]
 | .n,k,_=>rfl
 | .c l r,0,h=>by simp [Tc] at h
 | .c l r,k+1,h=>QJ (s:=r) (k:=k) (by simp only [Tc] at h;omega)
theorem Bl:Nat.ble (Tc Vp) 490=true:=by kernel_rfl
theorem Hk {f:Nat}(h:490≤f):RL (W9 f)=true:=by
 have e:zV Vp f=[]:=QJ (Nat.le_trans (B3 Bl) h)
 unfold W9
 rw [e]
 rfl
theorem Ug {f:Nat}(h:f<490)(hz:zE (zN f)=false):∃ c,EI HH W9 Ie Ih (pg f) f c=true:=by
 by_cases h0:f<69
 ·exact wZ aE6 (by omega) (by omega) hz
 by_cases h1:f<131
 ·exact wZ Yu (by omega) (by omega) hz
 by_cases h2:f<206
 ·exact wZ Uc (by omega) (by omega) hz
 by_cases h3:f<275
 ·exact wZ Ud (by omega) (by omega) hz
 by_cases h4:f<366
 ·exact wZ Ue (by omega) (by omega) hz
 ·exact wZ Uf (by omega) (by omega) hz
theorem Yp:zE (zN 285)=true:=by kernel_rfl
theorem Yq:zE (zN 290)=true:=by kernel_rfl
theorem Yr:zE (zN 307)=true:=by kernel_rfl
theorem Ys:zE (zN 383)=true:=by kernel_rfl
theorem IN:∀ f,Q.Good U6 R f (W9 f):=by
 have main:∀ f,Q.Good HH.tab R f (W9 f):=TQ (cx:=HH) (R:=R) (con:=W9) fun f=>by
  by_cases hf:f<490
  ·cases hz:zE (zN f) with
   |false=>
    obtain⟨c,hc⟩:=Ug hf hz
    refine .inr (NM (UW f hf fun p hp=>?_) hc)
    simp only [Vh,B7,List.not_mem_nil,or_false] at hp
    rcases hp with rfl|rfl|rfl|rfl<;>(rintro rfl;first|(rw [Yp] at hz;cases hz)|(rw [Yq] at hz;cases hz)|(rw [Yr] at hz;cases hz)|(rw [Ys] at hz;cases hz))
   |true=>
    rcases QH Dz (C4 _) (by omega) hz with h|h
    ·simp only [CC,B7,List.not_mem_nil,or_false] at h
     rw [Fg]
     rcases h with rfl|rfl|rfl|rfl|rfl|rfl|rfl|rfl|rfl|rfl|rfl|rfl
     ·exact .inl (Vy▸Ic)
     ·exact .inl (Ph▸Av)
     ·exact .inl (Pj▸Aw)
     ·rw [← Fg];exact .inr Mb
     ·rw [← Fg];exact .inr Mc
     ·exact .inl (Pm▸Ax)
     ·exact .inl (Pn▸Ay)
     ·exact .inl (Po▸Az)
     ·exact .inl (Pp▸Ba)
     ·exact .inl (Pq▸Bb)
     ·exact .inl (Pr▸Bc)
     ·exact .inl (Pt▸Be)
    ·exact .inl (CH h)
  ·exact .inl (CH (Hk (by omega)))
 intro f
 have:=main f
 rw [Fg] at this
 exact this
end Go.Proofs.YtpmjplpnpnmlcaaGreatDoor
