import Derived.Test.YtpmjplpnpnmlcaaGreatDoorQaJ
import Derived.Test.YtpmjplpnpnmlcaaGreatDoorQaW
import Derived.Test.YtpmjplpnpnmlcaaGreatDoorQr
import Derived.Test.YtpmjplpnpnmlcaaGreatDoorEng
set_option linter.all false
namespace Go.Proofs.YtpmjplpnpnmlcaaGreatDoor
open Go.AE
open Go.AE.Q Go.AE.Dc
theorem Fg:HH.tab=U6:=by kernel_rfl
def Vj (con:Nat→fX)(f:Nat):Prop:=∀ {ng:Nat} {ar re:Tp} {er:List Tp} {b:Bool} {lv:Nat} {me:L},con f = .mk ng ar re er b lv me→∀ δ xs,(∀ g,oV HH.tab R lv (me.ev (nu δ 0)) g (con g))→SW (ng+nK ar) δ→Gh ng δ→AN HH.tab δ ng ar xs→U (fun n=>R n f xs) (DV HH.tab δ (ng+nK ar) b re er)
theorem NM {con:Nat→fX}{f:Nat}{p:T}{ct:Nat}(q:jY C sg f p)(h:EI HH con Ie Ih p f ct=true):Vj con f:=
 ZX Ol (fun _=>rfl) rfl (fun n xs hx=>(BJ q hx n).trans (by rw [vJ hx])) h
theorem Gs {con:Nat→fX}{k:Nat}{ng:Nat}{ar re:Tp}{er:List Tp}{b:Bool}{lv:Nat}{δ:Nat→D}(h:∀ g,oV HH.tab R lv 0 g (con g))(g:Nat):oV HH.tab R lv 0 g (H9 (Nat.beq g k) (.mk ng ar re er b lv (.c 0)) (con g)):=by
 cases hb:Nat.beq g k with
 |true=>exact fun δ' xs hlt=>by rcases hlt with h|⟨_,h,_⟩<;>omega
 |false=>exact h g
theorem VB {xs ls:List D}(h:eP [3,0] xs ls):∃ c0 c1 x,xs=[.agg [c0,c1],x]∧ls=[c0,c1,x]:=by
 cases xs with
 |nil=>exact h.elim
 |cons x xs=>
  obtain⟨cs,r,rfl,hc,rfl,h⟩:=h
  obtain⟨y,rfl,rfl⟩:=mT h
  match cs,hc with
  |[c0,c1],_=>exact⟨c0,c1,y,rfl,rfl⟩
theorem UZ {m:Nat}{xs ls:List D}(h:eP [m+1] xs ls):∃ cs,xs=[.agg cs]∧cs.length=m∧ls=cs:=by
 cases xs with
 |nil=>exact h.elim
 |cons x xs=>
  obtain⟨cs,r,rfl,hc,rfl,h⟩:=h
  cases xs with
  |nil=>obtain rfl:r=[]:=h;exact⟨cs,rfl,hc,D7 cs⟩
  |cons _ _=>exact h.elim
theorem Mc:Vj W9 263:=by
 intro ng ar re er b lv me hf δ xs hG htop hgh hT
 have hc:W9 263=Ew:=Pl
 rw [hc] at hf
 injection hf with e1 e2 e3 e4 e5 e6 e7
 subst e1 e2 e3 e4 e5 e6 e7
 have hG:∀ g,oV HH.tab R 209 0 g (W9 g):=hG
 have hw:=NM Sc Ui (show OH 263=_ from rfl) δ xs (fun g=>Gs (δ:=δ) hG g) htop hgh hT
 obtain⟨ls,hfl,hl,_,hfm⟩:=hT
 obtain⟨c0,c1,x,rfl,rfl⟩:=VB hfl
 obtain⟨h1,⟨th,rfl,hE⟩,h2,⟨ev,rfl,_⟩,h3,⟨nm,rfl⟩,_⟩:=hl
 have e1:nu δ 0 9=(th.length:Nat):=(gO (a:=1)).trans (by rw [h1];rfl)
 have b0:=R0 hfm 0 rfl
 simp only [V2,Y4,e1] at b0
 rw [Fg] at hE
 have hth:∀ d∈th,NV d:=fun d hd=>YT (iJ.1 hE d hd)
 have hr:=Lr (ev:=ev) (nm:=nm) hth (by omega)
 refine Em hr ?_
 have hp:=ZO hr hw
 rcases hp with ⟨_,δ',ha,ht,ls,hfl,hl,hcl,_⟩|⟨hb,_⟩
 ·refine .inl ⟨rfl,δ',ha,ht,ls,hfl,hl,hcl,?_⟩
  obtain⟨cs,e,hcs,hls⟩:=UZ (m:=19) hfl
  rw [hls] at hl
  have e:(th.find? fun x=>(x.at_ 0).s==nm).getD Ei = .agg cs:=(List.cons.inj e).1
  have k1:δ' 1 = .Z 19 th:=(ha 1 (by show 1<4;omega)).trans h1
  have k3:δ' 3 = .str nm:=(ha 3 (by show 3<4;omega)).trans h3
  have hkey:δ' 5=(D.agg cs).at_ 1∧δ' 11=(D.agg cs).at_ 7:=by
   clear e
   match cs,hcs,hl with
   |[a0,a1,a2,a3,a4,a5,a6,a7,a8,a9,a10,a11,a12,a13,a14,a15,a16,a17,a18],_,hl=>exact⟨hl.2.2.1,hl.2.2.2.2.2.2.2.2.2.2.2.2.2.2.1⟩
  intro g hg
  rcases B7.1 hg with rfl|hg
  ·refine Lt.rP.2 ?_
   show FK (δ' 1).l (δ' 3).s=1*nu δ' 0 40+0∧FA (δ' 1).l (δ' 3).s=1*nu δ' 0 89+0
   rw [show nu δ' 0 40=(δ' 5).i from AX (a:=5),show nu δ' 0 89=((δ' 11).l.length:Nat) from gO (a:=11),hkey.1,hkey.2,k1,k3,← e]
   show ((Oy th nm).at_ 1).i=_∧((((Oy th nm).at_ 7).l.length:Nat):Int)=_
   unfold Oy
   cases th.find? fun x=>(x.at_ 0).s==nm with
   |none=>exact⟨rfl,rfl⟩
   |some d=>simp
  ·cases hg
 ·cases hb
end Go.Proofs.YtpmjplpnpnmlcaaGreatDoor
