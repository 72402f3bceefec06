import Derived.Test.YtpmjplpnpnmlcaaGreatDoorQaN
import Derived.Test.YtpmjplpnpnmlcaaGreatDoorQaA
import Derived.Test.YtpmjplpnpnmlcaaGreatDoorEng
import Derived.KernelRfl
set_option linter.all false
namespace Go.Proofs.YtpmjplpnpnmlcaaGreatDoor
open Go.AE
open Go.AE.Q Go.AE.Dc
set_option maxRecDepth 100000
section
variable {rec:Nat→List D→Out} {J:List (List D→Out)} {n:Nat} {V:Nat→D} {z:Bool×List D} {x y:T}
theorem uD {f:Nat}{es:List Ar}(h:(cn f es x).den sg rec J n V=some z):∃ r,rec f (pC V es)=some (true,r)∧AE.aL (sg f).ro r=true∧x.den sg rec J (n+(I5 (sg f).ro).length) (S3 V n (I5 (sg f).ro) r)=some z:=by
 have h:AE.bT (rec f (pC V es)) (fun r=>bif AE.aL (sg f).ro r then x.den sg rec J (n+(I5 (sg f).ro).length) (S3 V n (I5 (sg f).ro) r) else none)=some z:=h
 cases hr:rec f (pC V es) with
 |none=>rw [hr] at h;cases h
 |some y=>
  obtain⟨b,r⟩:=y
  rw [hr] at h
  cases b with
  |false=>cases h
  |true=>
   have h:(bif AE.aL (sg f).ro r then x.den sg rec J (n+(I5 (sg f).ro).length) (S3 V n (I5 (sg f).ro) r) else none)=some z:=h
   cases hc:AE.aL (sg f).ro r with
   |true=>rw [hc] at h;exact⟨r,rfl,hc,h⟩
   |false=>rw [hc] at h;cases h
theorem Pz {f:Nat}{es:List Ar}(h:(T.o f es x).den sg rec J n V=some z):(∃ r,rec f (pC V es)=some (true,r)∧z=(true,r))∨∃ r,rec f (pC V es)=some (false,r)∧x.den sg rec J (n+(I5 (sg f).ro).length) (S3 V n (I5 (sg f).ro) r)=some z:=by
 have h:AE.cX (rec f (pC V es)) (fun r=>bif AE.aL (sg f).ro r then x.den sg rec J (n+(I5 (sg f).ro).length) (S3 V n (I5 (sg f).ro) r) else none)=some z:=h
 cases hr:rec f (pC V es) with
 |none=>rw [hr] at h;cases h
 |some y=>
  obtain⟨b,r⟩:=y
  rw [hr] at h
  cases b with
  |true=>exact .inl ⟨r,rfl,(Option.some.inj h).symm⟩
  |false=>
   have h:(bif AE.aL (sg f).ro r then x.den sg rec J (n+(I5 (sg f).ro).length) (S3 V n (I5 (sg f).ro) r) else none)=some z:=h
   cases hc:AE.aL (sg f).ro r with
   |true=>rw [hc] at h;exact .inr ⟨r,rfl,h⟩
   |false=>rw [hc] at h;cases h
theorem yL {c:E}(h:(T.i c x y).den sg rec J n V=some z):((c.den V).b=true∧x.den sg rec J n V=some z)∨((c.den V).b=false∧y.den sg rec J n V=some z):=by
 have h:(bif (c.den V).b then x.den sg rec J n V else y.den sg rec J n V)=some z:=h
 cases hc:(c.den V).b with
 |true=>rw [hc] at h;exact .inl ⟨rfl,h⟩
 |false=>rw [hc] at h;exact .inr ⟨rfl,h⟩
theorem VO {c:E}(h:(T.g c x).den sg rec J n V=some z):x.den sg rec J n V=some z:=by
 have h:(bif (c.den V).b then x.den sg rec J n V else none)=some z:=h
 cases hc:(c.den V).b with
 |true=>rw [hc] at h;exact h
 |false=>rw [hc] at h;cases h
theorem Qa {ty:Ty}{e:E}(h:(T.t ty e x).den sg rec J n V=some z):x.den sg rec J (n+1) (push V n (L0 ty (e.den V)))=some z:=by
 have h:(bif V9 ty&&eG ty (e.den V) then x.den sg rec J (n+1) (push V n (L0 ty (e.den V))) else none)=some z:=h
 cases hc:(V9 ty&&eG ty (e.den V)) with
 |true=>rw [hc] at h;exact h
 |false=>rw [hc] at h;cases h
theorem CG {e:E}(h:(T.l e x).den sg rec J n V=some z):x.den sg rec J (n+1) (push V n (e.den V))=some z:=h
theorem Oo {f:Nat}{es:List Ar}{r:List D}(h:rec f (pC V es)=some (true,r))(h2:AE.aL (sg f).ro r=true):(cn f es x).den sg rec J n V=x.den sg rec J (n+(I5 (sg f).ro).length) (S3 V n (I5 (sg f).ro) r):=by
 show AE.bT (rec f (pC V es)) (fun r=>bif AE.aL (sg f).ro r then x.den sg rec J (n+(I5 (sg f).ro).length) (S3 V n (I5 (sg f).ro) r) else none)=_
 rw [h]
 show (bif AE.aL (sg f).ro r then x.den sg rec J (n+(I5 (sg f).ro).length) (S3 V n (I5 (sg f).ro) r) else none)=_
 rw [h2];rfl
end
theorem qB:∀ (n:Nat) (xs:List D) (z:Bool×List D),K4 (sg 12).hs xs=true→R n 12 xs=some z→z.1=false
 |0,xs,z,_,h=>by cases h
 |n+1,xs,z,hx,h=>by
  have h:=(BJ aD6 hx n).symm.trans h
  unfold Wm at h
  rcases yL h with ⟨_,h⟩|⟨_,h⟩
  ·have h:=Qa (VO h)
   rcases yL h with ⟨_,h⟩|⟨_,h⟩
   ·exact qB n _ z (by kernel_rfl) (CG h)
   ·obtain⟨_,_,_,h⟩:=uD h
    rcases yL h with ⟨_,h⟩|⟨_,h⟩
    ·obtain⟨_,_,_,h⟩:=uD h
     exact qB n _ z (by kernel_rfl) (CG h)
    ·rcases yL h with ⟨_,h⟩|⟨_,h⟩
     ·obtain⟨_,_,_,h⟩:=uD h
      exact qB n _ z (by kernel_rfl) (CG (CG (VO h)))
     ·obtain⟨_,_,_,h⟩:=uD h
      exact qB n _ z (by kernel_rfl) (CG (CG (VO h)))
  ·exact (congrArg Prod.fst (Option.some.inj h)).symm
theorem Ze (l:List D)(top:G0):K4 (sg 4).hs [.Z 7 l,.str top]=true:=by kernel_rfl
theorem UN {n:Nat}{l:List D}{top:G0}{d p:D}(h:R (n+1) 4 [.Z 7 l,.str top]=some (true,[d,p,.int .i64 0])):∃ r,R n 5 [d]=some (true,r)∧AE.aL (sg 5).ro r=true∧(Y r 2).i=0:=by
 have h:=(BJ q4 (Ze l top) n).symm.trans h
 unfold p4 at h
 obtain⟨r10,_,_,h⟩:=uD h
 rw [show (I5 (sg 10).ro).length=17 by kernel_rfl] at h
 rcases yL h with ⟨_,h⟩|⟨_,h⟩
 ·have h:some (true,[_,_,D.int .i64 9])=some (true,[d,p,.int .i64 0]):=h
  cases h
 ·obtain⟨r11,_,_,h⟩:=uD h
  rw [show (I5 (sg 11).ro).length=22 by kernel_rfl] at h
  rcases Pz h with ⟨r,hr,_⟩|⟨r12,_,h⟩
  ·have:=qB _ _ _ (by kernel_rfl) hr
   cases this
  ·rw [show (I5 (sg 12).ro).length=42 by kernel_rfl] at h
   obtain⟨r13,_,_,h⟩:=uD h
   rw [show (I5 (sg 13).ro).length=22 by kernel_rfl] at h
   rcases yL h with ⟨hc,h⟩|⟨hc,h⟩
   ·have h:=congrArg Prod.snd (Option.some.inj h)
    generalize S3 _ _ (I5 (sg 13).ro) r13=V at h hc
    have e:V 94 = .int .i64 0:=(List.cons.inj (List.cons.inj (List.cons.inj h).2).2).1
    have hc:((V 94).i !=0)=true:=hc
    rw [e] at hc
    cases hc
   ·obtain⟨r5,h5,hk,h⟩:=uD h
    rw [show (I5 (sg 5).ro).length=3 by kernel_rfl] at h
    generalize S3 _ _ (I5 (sg 13).ro) r13=V at h h5
    rcases yL h with ⟨hc,h⟩|⟨hc,h⟩
    ·have h:=congrArg Prod.snd (Option.some.inj h)
     generalize S3 V _ (I5 (sg 5).ro) r5=W at h hc
     have e:W 107 = .int .i64 0:=(List.cons.inj (List.cons.inj (List.cons.inj h).2).2).1
     have hc:((W 107).i !=0)=true:=hc
     rw [e] at hc
     cases hc
    ·have h:=congrArg Prod.snd (Option.some.inj h)
     have hc:((fB (I5 (sg 5).ro) r5 2).i !=0)=false:=hc
     rw [show fB (I5 (sg 5).ro) r5 2 = .int .i64 (Y r5 2).i by kernel_rfl] at hc
     have hc:((Y r5 2).i !=0)=false:=hc
     have e:(E.den V (Ac [99,100,95,96,101,102,103] e0))=d:=(List.cons.inj h).1
     refine⟨r5,?_,hk,by simpa using hc⟩
     rw [← e]
     exact h5
theorem Sy {d:D}(h:ZN d)(nm:G0):Ru 89 [d,.str nm] (true,[.bool ((d.at_ 0).s==nm),.str nm]):=by
 obtain⟨s,i,j,k,l1,l2,l3,_,rfl⟩:=h
 exact R9 aD9 (by kernel_rfl) ⟨0,fun n _=>rfl⟩
theorem WA {l:List D}{nm:G0}(hm:∀ d∈l,ZN d)(hlen:l.length<4611686018427387904)(hne:∀ d∈l,((d.at_ 0).s==nm)=false):∀ (k i:Nat),i+k=l.length→
  Ru 53 [.Z 7 l,.int .i64 (l.length:Nat),.int .i64 i,.str nm] (false,[.Z 7 l,.int .i64 (l.length:Nat),.int .i64 (l.length:Nat),.str nm])
 |0,i,hi=>by
  obtain rfl:i=l.length:=by omega
  refine R9 Zr (by kernel_rfl) ⟨0,fun n _=>?_⟩
  refine (Q5 (by show decide (((l.length:Nat):Int)<(l.length:Nat))=false;exact E8 (by omega))).trans ?_
  rfl
 |k+1,i,hi=>by
  have hlt:i<l.length:=by omega
  have hd:=hm _ (C6 hlt)
  have ht:=WD hd
  obtain⟨N1,h1⟩:=Sy hd nm
  rw [hne _ (C6 hlt)] at h1
  obtain⟨N2,h2⟩:=WA hm hlen hne k (i+1) (by omega)
  have hel:(E.g 0 2).den (fun j=>Y [D.Z 7 l,.int .i64 (l.length:Nat),.int .i64 i,.str nm] j)=l[i]:=by
   show l[((i:Nat):Int).toNat]?.getD .top=_
   rw [E3,C2 hlt];rfl
  refine R9 Zr (by kernel_rfl) ⟨N1+N2,fun n hn=>?_⟩
  refine (R6 (by show decide ((i:Int)<(l.length:Nat))=true;exact E6 (by omega))).trans ?_
  refine (gA (by show (decide ((0:Int)≤i)&&decide ((i:Int)<(l.length:Nat)))=true;rw [E6 (by omega),E6 (by omega)];rfl)).trans ?_
  refine (xJ ht.1 (by rw [hel];exact ht.2.1)).trans ?_
  rw [hel,ht.2.2.1]
  refine (bU (h1 n (by omega)) (by kernel_rfl)).trans ?_
  rw [show (I5 (sg 89).ro).length=2 by kernel_rfl]
  refine (Q5 rfl).trans ?_
  refine gY.trans ?_
  have:=h2 n (by omega)
  rw [← ws (by omega)] at this
  exact this
theorem Sx {l:List D}{nm:G0}(hm:∀ d∈l,ZN d)(hlen:l.length<4611686018427387904)(hne:∀ d∈l,((d.at_ 0).s==nm)=false):Ru 27 [.Z 7 l,.str nm] (true,[.int .i64 (-1),.str nm]):=by
 obtain⟨N,h⟩:=WA hm hlen hne l.length 0 (by omega)
 refine R9 aD7 (by kernel_rfl) ⟨N,fun n hn=>?_⟩
 refine (BT (h n hn) (by kernel_rfl)).trans ?_
 rw [show (I5 (sg 53).ro).length=4 by kernel_rfl]
 rfl
def Yt:D:= .agg [.str [],.int .i64 0,.int .i64 0,.int .i64 0,.Z 14 [],.Z 14 [],.Z 14 []]
theorem Sw {l:List D}{nm:G0}(hm:∀ d∈l,ZN d)(hlen:l.length<4611686018427387904)(hne:∀ d∈l,((d.at_ 0).s==nm)=false) :
  Ru 10 [.str nm,.Z 7 l,.int .i64 0,.int .i64 0,.int .i64 0,.int .i64 0,.int .i64 0,.int .i64 0,.Z 1 [],.Z 1 [],.Z 4 [],.Z 3 [],.Z 5 [],.Z 1 [],.Z 3 [],.Z 1 []]
   (true,[Yt,.bool false,.Z 7 l,.int .i64 0,.int .i64 0,.int .i64 0,.int .i64 0,.int .i64 0,.int .i64 0,.Z 1 [],.Z 1 [],.Z 4 [],.Z 3 [],.Z 5 [],.Z 1 [],.Z 3 [],.Z 1 []]):=by
 obtain⟨N,h⟩:=Sx hm hlen hne
 refine R9 aD5 (by kernel_rfl) ⟨N,fun n hn=>?_⟩
 refine (bU (h n hn) (by kernel_rfl)).trans ?_
 rw [show (I5 (sg 27).ro).length=2 by kernel_rfl]
 refine (R6 rfl).trans ?_
 rfl
def Ub:D:= .agg [.Z 4 [],.Z 3 [],.Z 1 [],.Z 1 [],.Z 5 [],.Z 1 [],.Z 3 []]
theorem Xm {l:List D}{nm:G0}(hm:∀ d∈l,ZN d)(hlen:l.length<4611686018427387904)(hne:∀ d∈l,((d.at_ 0).s==nm)=false) :
  Ru 4 [.Z 7 l,.str nm] (true,[Ub,.agg [.int .i64 0,.int .i64 0,.int .i64 0],.int .i64 9]):=by
 obtain⟨N,h⟩:=Sw hm hlen hne
 refine R9 q4 (Ze l nm) ⟨N,fun n hn=>?_⟩
 refine (bU (h n hn) (by kernel_rfl)).trans ?_
 rw [show (I5 (sg 10).ro).length=17 by kernel_rfl]
 refine (R6 rfl).trans ?_
 rfl
def kn (nm:G0)(l:List D):Bool:=l.any fun d=>(d.at_ 0).s==nm
theorem WB {l:List D}{nm:G0}(hm:∀ d∈l,ZN d)(hlen:l.length<4611686018427387904):∀ (k i:Nat) (b:Bool),i+k=l.length→
  Ru 6 [.str nm,.Z 7 l,.bool b,.Z 7 l,.int .i64 (l.length:Nat),.int .i64 i] (false,[.str nm,.Z 7 l,.bool (b||kn nm (l.drop i)),.Z 7 l,.int .i64 (l.length:Nat),.int .i64 (l.length:Nat)])
 |0,i,b,hi=>by
  obtain rfl:i=l.length:=by omega
  refine R9 q6 (by kernel_rfl) ⟨0,fun n _=>?_⟩
  refine (Q5 (by show decide (((l.length:Nat):Int)<(l.length:Nat))=false;exact E8 (by omega))).trans ?_
  rw [List.drop_length]
  show some (false,[D.str nm,.Z 7 l,.bool b,.Z 7 l,.int .i64 (l.length:Nat),.int .i64 (l.length:Nat)])=some (false,[D.str nm,.Z 7 l,.bool (b||false),.Z 7 l,.int .i64 (l.length:Nat),.int .i64 (l.length:Nat)])
  rw [Bool.or_false]
 |k+1,i,b,hi=>by
  have hlt:i<l.length:=by omega
  have hd:=hm _ (C6 hlt)
  have ht:=WD hd
  have hdrop:l.drop i=l[i]::l.drop (i+1):=List.drop_eq_getElem_cons hlt
  have hel:(E.g 3 5).den (fun j=>Y [D.str nm,.Z 7 l,.bool b,.Z 7 l,.int .i64 (l.length:Nat),.int .i64 i] j)=l[i]:=by
   show l[((i:Nat):Int).toNat]?.getD .top=_
   rw [E3,C2 hlt];rfl
  have hk:kn nm (l.drop i)=((l[i].at_ 0).s==nm||kn nm (l.drop (i+1))):=by rw [hdrop];rfl
  cases b with
  |true=>
   obtain⟨N,h⟩:=WB (nm:=nm) hm hlen k (i+1) true (by omega)
   refine R9 q6 (by kernel_rfl) ⟨N,fun n hn=>?_⟩
   refine (R6 (by show decide ((i:Int)<(l.length:Nat))=true;exact E6 (by omega))).trans ?_
   refine (gA (by show (decide ((0:Int)≤i)&&decide ((i:Int)<(l.length:Nat)))=true;rw [E6 (by omega),E6 (by omega)];rfl)).trans ?_
   refine (xJ ht.1 (by rw [hel];exact ht.2.1)).trans ?_
   rw [hel,ht.2.2.1]
   refine (R6 rfl).trans ?_
   refine gY.trans ?_
   have:=h n hn
   rw [← ws (by omega)] at this
   rw [Bool.true_or] at this ⊢
   exact this
  |false=>
   obtain⟨N,h⟩:=WB (nm:=nm) hm hlen k (i+1) ((l[i].at_ 0).s==nm) (by omega)
   refine R9 q6 (by kernel_rfl) ⟨N,fun n hn=>?_⟩
   refine (R6 (by show decide ((i:Int)<(l.length:Nat))=true;exact E6 (by omega))).trans ?_
   refine (gA (by show (decide ((0:Int)≤i)&&decide ((i:Int)<(l.length:Nat)))=true;rw [E6 (by omega),E6 (by omega)];rfl)).trans ?_
   refine (xJ ht.1 (by rw [hel];exact ht.2.1)).trans ?_
   rw [hel,ht.2.2.1]
   refine (Q5 rfl).trans ?_
   refine gY.trans ?_
   have:=h n hn
   rw [← ws (by omega)] at this
   rw [Bool.false_or,hk]
   exact this
theorem AP {b:List D}(top:G0)(hb:∀ x∈b,HP U6 5 [] x):Ru 0 [.Z 1 b,.str top] (true,[.bool true]):=by
 obtain⟨N1,n1⟩:=TW
 obtain⟨c,⟨N2,n2⟩,hc,hcl⟩:=YF hb
 obtain⟨l,⟨N3,n3⟩,hl,hll,hsz⟩:=Bo hc hcl
 have hm:∀ d∈l,ZN d:=fun d hd=>Iz (hl d hd)
 have hl4:l.length<4611686018427387904:=by omega
 obtain⟨s,a2,a3,p,a5,a6,bb,x,y,z,e,⟨N4,n4⟩,he⟩:=OL (top:=[109,48]) hl hll hsz (by decide)
 obtain⟨N6,n6⟩:=WB (nm:=top) hm hl4 l.length 0 false (by omega)
 rw [List.drop_zero,Bool.false_or] at n6
 have h2:∃ r,(∃ N,∀ n,N≤n→R n 4 [.Z 7 l,.str top]=some (true,r))∧K4 (I5 (sg 4).ro) r=true∧(kn top l=false→r=[Ub,.agg [.int .i64 0,.int .i64 0,.int .i64 0],.int .i64 9]):=by
  cases hk:kn top l with
  |true=>
   obtain⟨d,hd,hdn⟩:=List.any_eq_true.1 hk
   obtain⟨nm,_,_,_,_,_,_,hnl,rfl⟩:=hm d hd
   have hdn:(nm==top)=true:=hdn
   obtain rfl:=eq_of_beq hdn
   obtain⟨s,a2,a3,p,a5,a6,bb,x,y,z,e,hr,_⟩:=OL (top:=nm) hl hll hsz hnl
   exact⟨_,hr,by kernel_rfl,fun h=>by cases h⟩
  |false=>
   have hne:∀ d∈l,((d.at_ 0).s==top)=false:=fun d hd=>by
    cases hq:((d.at_ 0).s==top) with
    |false=>rfl
    |true=>
     have:kn top l=true:=List.any_eq_true.2 ⟨d,hd,hq⟩
     rw [this] at hk;cases hk
   exact⟨_,Xm hm hl4 hne,by kernel_rfl,fun _=>rfl⟩
 obtain⟨r,⟨N5,n5⟩,hnr,hrk⟩:=h2
 refine R9 q0 (by kernel_rfl) ⟨N1+N2+N3+N4+N5+N6+1,fun n hn=>?_⟩
 refine (bU (r:=[.bool true]) (n1 n (by omega)) (by kernel_rfl)).trans ?_
 rw [show (I5 (sg 1).ro).length=1 by kernel_rfl]
 refine (Q5 rfl).trans ?_
 refine (bU (r:=[.Z 1 c]) (n2 n (by omega)) (by kernel_rfl)).trans ?_
 rw [show (I5 (sg 2).ro).length=1 by kernel_rfl]
 refine (bU (r:=[.Z 7 l]) (n3 n (by omega)) (by kernel_rfl)).trans ?_
 rw [show (I5 (sg 3).ro).length=1 by kernel_rfl]
 refine (bU (n4 n (by omega)) (by kernel_rfl)).trans ?_
 rw [show (I5 (sg 4).ro).length=3 by kernel_rfl]
 by_cases he0:e=0
 ·subst he0
  refine (R6 rfl).trans ?_
  obtain⟨r5,h5,hk5,hi5⟩:=UN (n:=n) (n4 (n+1) (by omega))
  refine (Oo h5 hk5).trans ?_
  rw [show (I5 (sg 5).ro).length=3 by kernel_rfl]
  refine (Q5 ?_).trans ?_
  ·show ((fB (I5 (sg 5).ro) r5 2).i !=0)=false
   rw [show fB (I5 (sg 5).ro) r5 2 = .int .i64 (Y r5 2).i by kernel_rfl]
   show ((Y r5 2).i !=0)=false
   rw [hi5];rfl
  refine (BT (n6 n (by omega)) (by kernel_rfl)).trans ?_
  rw [show (I5 (sg 6).ro).length=6 by kernel_rfl]
  refine (bU (n5 n (by omega)) hnr).trans ?_
  rw [show (I5 (sg 4).ro).length=3 by kernel_rfl]
  cases hk:kn top l with
  |true=>
   refine (R6 rfl).trans ?_
   rfl
  |false=>
   obtain rfl:=hrk hk
   refine (Q5 rfl).trans ?_
   refine (R6 rfl).trans ?_
   rfl
 ·obtain⟨rfl,rfl⟩:=he he0
  refine (Q5 (by show ((e==0)=false);simpa using he0)).trans ?_
  refine (Q5 rfl).trans ?_
  refine (Q5 rfl).trans ?_
  refine (BT (n6 n (by omega)) (by kernel_rfl)).trans ?_
  rw [show (I5 (sg 6).ro).length=6 by kernel_rfl]
  refine (bU (n5 n (by omega)) hnr).trans ?_
  rw [show (I5 (sg 4).ro).length=3 by kernel_rfl]
  cases hk:kn top l with
  |true=>
   refine (R6 rfl).trans ?_
   rfl
  |false=>
   obtain rfl:=hrk hk
   refine (Q5 rfl).trans ?_
   refine (R6 rfl).trans ?_
   rfl
end Go.Proofs.YtpmjplpnpnmlcaaGreatDoor
