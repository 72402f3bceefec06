import Derived.Test.YthlhbocobgkdmaaGreatZCatA
import Derived.Test.YthlhbocobgkdmaaGreatEng
set_option linter.all false
namespace Go.Proofs.YthlhbocobgkdmaaGreatZ
open Go.AE Go.RowKit
theorem FH:(Tryz.prog.funcs.all fun fn=>!(fn.name=="runtime.NumGoroutine"))=true:=by kernel_rfl
theorem names:fP C:=by
 refine⟨fun f fn hf=>?_,IF uD ?_ (fun f ds=>rfl),fun h h' hh k=>k,(fun _ _ h=>by cases h),(fun _ h=>by cases h),(fun _ h=>by cases h)⟩
 ·have h:Tryz.prog.funcs[f]? = some fn:=hf
  have:=Array.all_eq_true.1 FH f (Array.getElem?_eq_some_iff.1 h).1
  rw [(Array.getElem?_eq_some_iff.1 h).2] at this
  simpa using this
 ·intro p hp
  simp only [uD,List.not_mem_nil] at hp
theorem Ti:∀ f sk ds r,C.CK f sk ds=some r→fO C f sk ds r:=by
 intro f sk ds r h
 have h:(none:Option (List D))=some r:=h
 cases h
theorem Ep {f:Nat}{sk:Sk}{ds out:List D}(h:U (fun n=>run C n (.call f sk ds)) fun r=>r=(true,out)):fO C f sk ds out:=by
 obtain⟨r,hr,N,hN⟩:=h
 subst hr
 exact ((HE names Ti N).1 f _ _ _ (hN N (B9 _))).1
def rest (h0:Nat→Option Obj)(W:World)(b:Nat):Option Obj:=match h0 b with|none=>W.heap[b]?|some _=>none
theorem NS {h0:Nat→Option Obj}{W:World}(hfrz:∀ b x,h0 b=some x→W.heap[b]? = some x)(p:Nat→Prop)(bk:Nat→Nat)(hd:Nat→Value):P3 (rest h0 W) p ⟨h0,bk,hd⟩ (fun _=>none) W:=
 ⟨hfrz,(fun b x h=>by unfold rest at h;split at h;exact h;cases h),(fun _ _ h=>by cases h),(fun _ _ _ h=>by cases h),(fun _ _ _ _ _ h=>by cases h),(fun _ _ h=>by cases h),fun b=>by
  cases e:h0 b with
  |none=>exact .inl e
  |some _=>exact .inr (by simp [rest,e])⟩
theorem Ca {h0:Nat→Option Obj}{W W':World}{p:Nat→Prop}{g':G}{h:Nat→Option Ob}{bk:Nat→Nat}{hd:Nat→Value}(hfrz:∀ b x,h0 b=some x→W.heap[b]? = some x)(hs:P3 (rest h0 W) p g' h W')(he:Ext ⟨h0,bk,hd⟩ W g' W'):Below W.heap.size W W':=by
 refine⟨he.os,he.tape,he.output,he.size,fun k hk=>?_⟩
 cases e:h0 k with
 |none=>
  have h1:rest h0 W k=some W.heap[k]:=by simp [rest,e,C8 hk]
  rw [hs.unt k _ h1,C8 hk]
 |some x=>rw [hs.frz k x (he.h k x e),hfrz k x e]
def kG (l:List Bool):List Value:=l.map Value.bool
theorem PR {h:Nat→Option Obj}:∀ {l:List Bool} {us:List Value},mY h 1 (l.map bD) us→us=kG l
 |[],us,h=>h
 |b::l,us,h=>by
  obtain⟨v,r,rfl,_,_,hv,hr⟩:=h
  have hv:v = .bool b:=hv
  subst hv
  rw [PR hr];rfl
def sA (w a:Nat):List Bool:=(List.range w).map a.testBit
theorem Oj (w a:Nat):(sA w a).map bD=jH w a:=by simp [sA,jH,bD]
theorem PZ (w a:Nat):(sA w a).length=w:=by simp [sA]
theorem Fs {h0:Nat→Option Obj}{W:World}(hfrz:∀ b x,h0 b=some x→W.heap[b]? = some x){w a:Nat}(h1:1≤w)(h2:w≤128)(ha:a<2 ^ w){v:Value}(hv:VD h0 (vec w a) v) :
  Calls Tryz.prog 54 #[v] W fun e W'=>∃ b cap,e = .returned (.slice (some ⟨b,0,none⟩) w cap)∧Below W.heap.size W W'∧∀ j u,(kG (sA w a))[j]? = some u→W'.cell? ((⟨b,0,none⟩:Addr).add j)=some u:=by
 have hs:fO C 54 Q2.sk [vec w a] [.Z 1 (jH w a)]:=by
  have h:=SC h2 ha
  unfold Q2 at h
  exact Ep h
 refine (hs Tryz.f54 Tryz.func54 (rest h0 W) ⟨h0,fun _=>0,fun _=>undef⟩ True.intro #[v] W rfl (NS hfrz _ _ _) ?_).mono ?_
 ·intro t
  cases t with
  |zero=>exact⟨hv,True.intro⟩
  |succ t=>exact⟨True.intro,True.intro⟩
 ·rintro e W' ⟨v',rfl,g',tm',k1,k2,k3,_,hv2⟩
  have eo:cF C.P (C.dres 54) Tryz.f54.resultTypes.toList Q2.sk=Q2.H9:=by kernel_rfl
  rw [eo] at k1 k2 hv2
  have hB:=Ca hfrz k1 k3
  obtain⟨us,_,hown,hF⟩:=k1.ob 0 (.row 4 1 (jH w a) false) rfl
  have hv2:v'=tm' 0:=hv2
  have hh:tm' 0=g'.hdr 0:=(k2 0).1.1
  rw [← Oj] at hF
  have hus:=PR hF
  subst hus
  rcases S4 hown with ⟨_,m2,_⟩|⟨b,cap,cur,m1,m2,m3,m4,m5,m6,m7⟩
  ·rw [qE] at m2;omega
  ·rw [qE] at m1 m6
   refine⟨b,cap,by rw [hv2,hh,m1],hB,fun j u hj=>?_⟩
   exact HA m2 m6 j u hj
def UM (l:List Bool):D×Int:=if 1≤l.length∧l.length≤128 then (vec l.length (jE l),0) else (.agg [.int .i64 0,.Z 1 []],2)
theorem Ui (l:List Bool):U (fun n=>gV n (.Z 1 (l.map bD))) fun r=>r=(true,[(UM l).1,.int .i64 (UM l).2]):=by
 unfold UM
 split
 ·rename_i h;exact Cz h.1 h.2
 ·rename_i h;exact ZY h
theorem HP (h:Nat→Option Obj):∀ l:List Bool,mY h 1 (l.map bD) (kG l)
 |[]=>rfl
 |b::l=>⟨.bool b,kG l,rfl,rfl,fun u hu=>(by simp [Value.cells] at hu;subst hu;rfl),rfl,HP h l⟩
theorem Pz {h0:Nat→Option Obj}{W:World}(hfrz:∀ b x,h0 b=some x→W.heap[b]? = some x){n0:Nat}(hn0:∀ b x,h0 b=some x→b<n0){l:List Bool}{v:Value}(hown:W.ownsRow n0 4 1 v l.length (kG l)) :
  Calls Tryz.prog 50 #[v] W fun e W'=>∃ r,e = .returned (.tuple #[r,.int .i64 (UM l).2])∧W.grownBy W' v.ownBlock∧∃ h':Nat→Option Obj,(∀ b x,h0 b=some x→h' b=some x)∧(∀ b x,h' b=some x→W'.heap[b]? = some x)∧(∀ b,b<W.heap.size→some b≠v.ownBlock→h' b=h0 b)∧VD h' (UM l).1 r:=by
 have hs:fO C 50 gV.sk [.Z 1 (l.map bD)] [(UM l).1,.int .i64 (UM l).2]:=by
  have h:=Ui l
  unfold gV at h
  exact Ep h
 obtain⟨u,hu⟩:∃ u:Nat→Option Obj,u=fun b=>if some b=v.ownBlock then none else rest h0 W b:=⟨_,rfl⟩
 have hob:∀ b,v.ownBlock=some b→h0 b=none:=fun b hb=>by
  cases e:h0 b with
  |none=>rfl
  |some x=>
   have h1:=hn0 b x e
   rcases hown.2 with ⟨rfl,_⟩|⟨b',cap,cur,rfl,hb',_⟩
   ·cases hb
   ·have:b'=b:=by simpa [Value.ownBlock] using hb
    omega
 have S0:P3 u (·=0) ⟨h0,fun _=>0,fun _=>v⟩ (fun x=>bif Nat.beq x 0 then some (.row 4 1 (l.map bD) false) else none) W:=by
  have only:∀ o x,(bif Nat.beq o 0 then some (Ob.row 4 1 (l.map bD) false) else none)=some x→o=0∧x = .row 4 1 (l.map bD) false:=by
   intro o x hx
   cases o with
   |zero=>cases hx;exact⟨rfl,rfl⟩
   |succ o=>cases hx
  refine⟨hfrz,fun b x hb=>?_,fun o x hx=>?_,fun o x b hx hb=>?_,fun o o' x x' b hx hx' _ _=>?_,fun o x hx=>?_,fun b=>?_⟩
  ·rw [hu] at hb
   simp only [] at hb
   split at hb
   ·cases hb
   ·exact (NS hfrz (·=0) (fun _=>0) (fun _=>v)).unt b x hb
  ·obtain⟨rfl,rfl⟩:=only o x hx
   refine⟨kG l,Nat.one_pos,?_,HP _ _⟩
   rw [List.length_map]
   rcases hown with ⟨m0,m1|⟨b',cap,cur,m1,_,m2⟩⟩
   ·exact⟨m0,.inl m1⟩
   ·exact⟨m0,.inr ⟨b',cap,cur,m1,C4 _,m2⟩⟩
  ·obtain⟨rfl,rfl⟩:=only o x hx
   have hb:v.ownBlock=some b:=hb
   exact⟨hob b hb,by rw [hu];simp [hb]⟩
  ·rw [(only o x hx).1,(only o' x' hx').1]
  ·obtain⟨rfl,rfl⟩:=only o x hx
   exact⟨rfl,True.intro⟩
  ·rcases (NS hfrz (·=0) (fun _=>0) (fun _=>v)).dj b with h|h
   ·exact .inl h
   ·right
    rw [hu]
    simp only []
    split
    ·rfl
    ·exact h
 obtain⟨g1,a1,b1,c1,s1⟩:=S0.freeze [0]
 have hv:VD g1.h (.Z 1 (l.map bD)) v:=by
  have h1:=s1.ob 0 (.row 4 1 (l.map bD) true) rfl
  have hh:g1.hdr 0=v:=by rw [c1]
  rcases h1 with ⟨k1,k2⟩|⟨b,cap,k1,k2,k3,k4⟩
  ·rw [hh] at k1
   exact⟨none,0,by rw [k1,k2];rfl,by rw [k2];exact B9 _,C4 _,.inl k2⟩
  ·rw [hh] at k1
   exact⟨_,cap,k1,k2,k3,.inr ⟨_,rfl,k4⟩⟩
 have S1:P3 u (·<0) g1 (fun _=>none) W:=⟨s1.frz,s1.unt,(fun _ _ h=>by cases h),(fun _ _ _ h=>by cases h),(fun _ _ _ _ _ h=>by cases h),(fun _ _ h=>by cases h),s1.dj⟩
 refine (hs Tryz.f50 Tryz.func50 u g1 True.intro #[v] W rfl S1 ?_).mono ?_
 ·intro t
  cases t with
  |zero=>exact⟨hv,True.intro⟩
  |succ t=>exact⟨True.intro,True.intro⟩
 ·rintro e W' ⟨v',rfl,g',tm',k1,k2,k3,_,hv2⟩
  have eo:cF C.P (C.dres 50) Tryz.f50.resultTypes.toList gV.sk=gV.H9:=by kernel_rfl
  rw [eo] at k1 k2 hv2
  have hv2:v' = .tuple #[tm' 0,tm' 1]:=hv2
  have h1:VD g'.h (UM l).1 (tm' 0):=(k2 0).1
  have h2:tm' 1 = .int .i64 (UM l).2:=(k2 1).1
  have key:∀ b,b<W.heap.size→some b≠v.ownBlock→u b=rest h0 W b:=fun b _ hne=>by rw [hu];simp [hne]
  refine⟨tm' 0,by rw [hv2,h2],⟨k3.os,k3.tape,k3.output,k3.size,fun k hk hne=>?_⟩,g'.h,fun b x hb=>k3.h b x (a1.h b x hb),fun b x hb=>k1.frz b x hb,fun b hb hne=>?_,h1⟩
  ·cases e:h0 k with
   |none=>
    have h3:u k=some W.heap[k]:=by rw [key k hk hne];simp [rest,e,C8 hk]
    rw [k1.unt k _ h3,C8 hk]
   |some x=>rw [k1.frz k x (k3.h k x (a1.h k x e)),hfrz k x e]
  ·cases e:h0 b with
   |none=>
    have h3:u b=some W.heap[b]:=by rw [key b hb hne];simp [rest,e,C8 hb]
    rcases k1.dj b with h4|h4
    ·exact h4
    ·rw [h3] at h4;cases h4
   |some x=>exact k3.h b x (a1.h b x e)
end Go.Proofs.YthlhbocobgkdmaaGreatZ
