import Derived.Test.YtpmjplpnpnmlcaaGreatDoorQaK
import Derived.Test.YtpmjplpnpnmlcaaGreatDoorEng
set_option linter.all false
namespace Go.Proofs.YtpmjplpnpnmlcaaGreatDoor
open Go.AE
open Go.AE.Q Go.AE.Dc
def kp (k:Int)(d:D):Bool:=!((d.at_ 1).i==k)
theorem XY {d:D}(h:NV d)(k:Int):Ru 371 [d,.int .i64 k] (true,[.bool ((d.at_ 1).i==k),.int .i64 k]):=by
 obtain⟨s0,i1,i2,s3,i4,b5,i6,l7,i8,b9,i10,i11,i12,i13,i14,b15,i16,l17,l18,rfl⟩:=h
 exact R9 Xd rfl ⟨0,fun n _=>rfl⟩
theorem PF {th:List D}{k:Int}(hth:∀ d∈th,NV d)(hlen:th.length<4611686018427387904):∀ (m i:Nat),i+m=th.length→
  (Ru 370 [.int .i64 (th.length:Nat),.int .i64 i,.Z 19 th,.int .i64 k] (false,[.int .i64 (th.length:Nat),.int .i64 (th.length:Nat),.Z 19 th,.int .i64 k])∧∀ d∈th.drop i,kp k d=true)∨
  ∃ p:Nat,i≤p∧(∃ hp:p<th.length,kp k th[p]=false)∧(∀ d∈(th.drop i).take (p-i),kp k d=true)∧Ru 370 [.int .i64 (th.length:Nat),.int .i64 i,.Z 19 th,.int .i64 k] (true,[.int .i64 p,.Z 19 th,.int .i64 k])
 |0,i,hi=>by
  obtain rfl:i=th.length:=by omega
  refine .inl ⟨R9 Sn rfl ⟨0,fun n _=>?_⟩,fun d hd=>by rw [List.drop_length] at hd;cases hd⟩
  refine (Q5 (by show decide (((th.length:Nat):Int)<(th.length:Nat))=false;exact E8 (by omega))).trans ?_
  rfl
 |m+1,i,hi=>by
  have hlt:i<th.length:=by omega
  have hd:=hth _ (C6 hlt)
  have ht:=HA hd
  have hdrop:th.drop i=th[i]::th.drop (i+1):=List.drop_eq_getElem_cons hlt
  obtain⟨N1,h1⟩:=XY hd k
  have hel:(E.g 2 1).den (fun j=>Y [D.int .i64 (th.length:Nat),.int .i64 i,.Z 19 th,.int .i64 k] j)=th[i]:=by
   show th[((i:Nat):Int).toNat]?.getD .top=_
   rw [E3,C2 hlt];rfl
  have step:∀ {r:Bool×List D} {N2:Nat},(∀ n,N2≤n→(T.i 5 (rt [.r 1 2,6]) (.l (dF 1 (Zq 1)) (.tl 370 [0,7,2,6]))).den sg (R n) [] 7 (iD (push (fun j=>Y [D.int .i64 (th.length:Nat),.int .i64 i,.Z 19 th,.int .i64 k] j) 4 th[i]) 5 [D.bool ((th[i].at_ 1).i==k),.int .i64 k])=some r)→Ru 370 [.int .i64 (th.length:Nat),.int .i64 i,.Z 19 th,.int .i64 k] r:=by
   intro r N2 h2
   refine R9 Sn rfl ⟨N1+N2,fun n hn=>?_⟩
   refine (R6 (by show decide ((i:Int)<(th.length:Nat))=true;exact E6 (by omega))).trans ?_
   refine (gA (by show (decide ((0:Int)≤i)&&decide ((i:Int)<(th.length:Nat)))=true;rw [E6 (by omega),E6 (by omega)];rfl)).trans ?_
   refine (xJ ht.1 (by rw [hel];exact ht.2.1)).trans ?_
   rw [hel,ht.2.2.1]
   exact (bU (h1 n (by omega)) rfl).trans (h2 n (by omega))
  cases hb:((th[i].at_ 1).i==k) with
  |true=>
   refine .inr ⟨i,B9 _,⟨hlt,by unfold kp;rw [hb];rfl⟩,fun d hd=>(by rw [Nat.sub_self] at hd;cases hd),step (N2:=0) fun n _=>?_⟩
   rw [hb]
   exact (R6 rfl).trans rfl
  |false=>
   have hk:kp k th[i]=true:=by unfold kp;rw [hb];rfl
   rcases PF (k:=k) hth hlen m (i+1) (by omega) with ⟨⟨N2,h2⟩,h3⟩|⟨p,hp,h4,h5,N2,h2⟩
   ·refine .inl ⟨step (N2:=N2) fun n hn=>?_,fun d hd=>?_⟩
    ·rw [hb]
     refine (Q5 rfl).trans (gY.trans ?_)
     have:=h2 n hn
     rw [← ws (by omega)] at this
     exact this
    ·rw [hdrop] at hd
     rcases B7.1 hd with rfl|hd
     ·exact hk
     ·exact h3 d hd
   ·refine .inr ⟨p,by omega,h4,fun d hd=>?_,step (N2:=N2) fun n hn=>?_⟩
    ·rw [hdrop,show p-i=(p-(i+1))+1 by omega,List.take_succ_cons] at hd
     rcases B7.1 hd with rfl|hd
     ·exact hk
     ·exact h5 d hd
    ·rw [hb]
     refine (Q5 rfl).trans (gY.trans ?_)
     have:=h2 n hn
     rw [← ws (by omega)] at this
     exact this
theorem FM {th:List D}{k:Int}(hth:∀ d∈th,NV d)(hlen:th.length<4611686018427387904):∀ (m j i:Nat) (l:List D),j+m=th.length→l.length=th.length→l.drop j=th.drop j→i<j→
  ∃ (i':Nat) (l':List D),Ru 309 [.int .i64 i,.int .i64 j,.int .i64 k,.Z 19 l] (false,[.int .i64 i',.int .i64 (th.length:Nat),.int .i64 k,.Z 19 l'])∧l'.length=th.length∧i'≤th.length∧l'.take i'=l.take i++(th.drop j).filter (kp k)
 |0,j,i,l,hj,hl,hd,hi=>by
  obtain rfl:j=th.length:=by omega
  refine⟨i,l,R9 Sl rfl ⟨0,fun n _=>?_⟩,hl,by omega,by rw [List.drop_length];simp⟩
  refine (Q5 (by show decide (((th.length:Nat):Int)<(l.length:Nat))=false;exact E8 (by omega))).trans ?_
  rfl
 |m+1,j,i,l,hj,hl,hd,hi=>by
  have hlt:j<th.length:=by omega
  have hel0:=hth _ (C6 hlt)
  have ht:=HA hel0
  have hdrop:th.drop j=th[j]::th.drop (j+1):=List.drop_eq_getElem_cons hlt
  have hlj:l[j]? = some th[j]:=by
   have:=congrArg (fun x=>x[0]?) hd
   simpa [List.getElem?_drop,C2 hlt] using this
  have hd1:l.drop (j+1)=th.drop (j+1):=by
   have:=congrArg (List.drop 1) hd
   simpa [List.drop_drop] using this
  obtain⟨N1,h1⟩:=XY hel0 k
  have hel:(E.g 3 1).den (fun x=>Y [D.int .i64 i,.int .i64 j,.int .i64 k,.Z 19 l] x)=th[j]:=by
   show l[((j:Nat):Int).toNat]?.getD .top=_
   rw [E3,hlj];rfl
  have step:∀ {r:Bool×List D} {N2:Nat},(∀ n,N2≤n→(T.i (.n 5) (.g (.q (bV (Zq 0) 0) (bW 0 (.l 3))) (.l (.st 19 3 0 4) (.l (dF 0 (Zq 1)) (.l (dF 1 (Zq 1)) (.tl 309 [.r 8 2,.r 6 2]))))) (.l (dF 1 (Zq 1)) (.tl 309 [0,7,6,3]))).den sg (R n) [] 7 (iD (push (fun x=>Y [D.int .i64 i,.int .i64 j,.int .i64 k,.Z 19 l] x) 4 th[j]) 5 [D.bool ((th[j].at_ 1).i==k),.int .i64 k])=some r)→Ru 309 [.int .i64 i,.int .i64 j,.int .i64 k,.Z 19 l] r:=by
   intro r N2 h2
   refine R9 Sl rfl ⟨N1+N2,fun n hn=>?_⟩
   refine (R6 (by show decide ((j:Int)<(l.length:Nat))=true;exact E6 (by omega))).trans ?_
   refine (gA (by show (decide ((0:Int)≤j)&&decide ((j:Int)<(l.length:Nat)))=true;rw [E6 (by omega),E6 (by omega)];rfl)).trans ?_
   refine (xJ ht.1 (by rw [hel];exact ht.2.1)).trans ?_
   rw [hel,ht.2.2.1]
   exact (bU (h1 n (by omega)) rfl).trans (h2 n (by omega))
  cases hb:((th[j].at_ 1).i==k) with
  |true=>
   have hk:kp k th[j]=false:=by unfold kp;rw [hb];rfl
   obtain⟨i',l',⟨N2,h2⟩,a1,a2,a3⟩:=FM (k:=k) hth hlen m (j+1) i l (by omega) hl hd1 (by omega)
   refine⟨i',l',step (N2:=N2) fun n hn=>?_,a1,a2,by rw [a3,hdrop,List.filter_cons,if_neg (by rw [hk];decide)]⟩
   rw [hb]
   refine (Q5 rfl).trans (gY.trans ?_)
   have:=h2 n hn
   rw [← ws (by omega)] at this
   exact this
  |false=>
   have hk:kp k th[j]=true:=by unfold kp;rw [hb];rfl
   have hil:i<l.length:=by omega
   obtain⟨i',l',⟨N2,h2⟩,a1,a2,a3⟩:=FM (k:=k) hth hlen m (j+1) (i+1) (l.set i th[j]) (by omega) (by rw [List.length_set];exact hl) (by rw [List.drop_set_of_lt (by omega)];exact hd1) (by omega)
   refine⟨i',l',step (N2:=N2) fun n hn=>?_,a1,a2,?_⟩
   ·rw [hb]
    refine (R6 rfl).trans ?_
    refine (gA (by show (decide ((0:Int)≤i)&&decide ((i:Int)<(l.length:Nat)))=true;rw [E6 (by omega),E6 (by omega)];rfl)).trans ?_
    refine gY.trans (gY.trans (gY.trans ?_))
    have:=h2 n hn
    rw [← ws (by omega),← ws (by omega)] at this
    exact this
   ·rw [a3,hdrop,List.filter_cons,if_pos hk]
    have:(l.set i th[j]).take (i+1)=l.take i++[th[j]]:=by
     rw [List.take_succ_eq_append_getElem (by rw [List.length_set];exact hil),List.take_set_of_le (B9 _)];simp
    rw [this,C1];rfl
theorem Lw {th:List D}{k:Int}(hth:∀ d∈th,NV d)(hlen:th.length<4611686018427387904) :
  (Ru 308 [.Z 19 th,.int .i64 k] (true,[.int .i64 (-1),.Z 19 th,.int .i64 k])∧∀ d∈th,kp k d=true)∨
  ∃ p:Nat,(∃ hp:p<th.length,kp k th[p]=false)∧(∀ d∈th.take p,kp k d=true)∧Ru 308 [.Z 19 th,.int .i64 k] (true,[.int .i64 p,.Z 19 th,.int .i64 k]):=by
 rcases PF (k:=k) hth hlen th.length 0 (by omega) with ⟨⟨N,h⟩,h2⟩|⟨p,_,h1,h2,N,h⟩
 ·rw [List.drop_zero] at h2
  exact .inl ⟨R9 Sj rfl ⟨N,fun n hn=>(BT (h n hn) rfl).trans rfl⟩,h2⟩
 ·rw [List.drop_zero,Nat.sub_zero] at h2
  exact .inr ⟨p,h1,h2,R9 Sj rfl ⟨N,fun n hn=>UI (h n hn)⟩⟩
theorem Lu {th:List D}{k:Int}(hth:∀ d∈th,NV d)(hlen:th.length<4611686018427387904):Ru 270 [.int .i64 k,.Z 19 th] (true,[.int .i64 k,.Z 19 (th.filter (kp k))]):=by
 rcases Lw (k:=k) hth hlen with ⟨⟨N,h⟩,h2⟩|⟨p,⟨hp,h1⟩,h2,N,h⟩
 ·rw [List.filter_eq_self.2 h2]
  refine R9 Se rfl ⟨N,fun n hn=>(bU (h n hn) rfl).trans ?_⟩
  exact (R6 rfl).trans rfl
 ·obtain⟨i',l',⟨M,h3⟩,a1,a2,a3⟩:=FM (k:=k) hth hlen (th.length-(p+1)) (p+1) p th (by omega) rfl rfl (by omega)
  have hf:th.filter (kp k)=l'.take i':=by
   rw [a3]
   conv=>lhs;rw [← List.take_append_drop p th,List.filter_append,List.filter_eq_self.2 h2,List.drop_eq_getElem_cons hp,List.filter_cons,if_neg (by rw [h1];decide)]
  rw [hf]
  refine R9 Se rfl ⟨N+M,fun n hn=>(bU (h n (by omega)) rfl).trans ?_⟩
  refine (Q5 (by show decide ((p:Int) = -1)=false;exact E8 (by omega))).trans (gY.trans ?_)
  have h3:=h3 n (by omega)
  rw [← ws (by omega)] at h3
  refine (BT h3 rfl).trans ?_
  refine (gA (by show (decide ((0:Int)≤i')&&decide ((i':Int)≤(l'.length:Nat))&&decide (((l'.length:Nat):Int)≤(l'.length:Nat)))=true;rw [E6 (by omega),E6 (by omega),E6 (by omega)];rfl)).trans ?_
  refine (gA (by
   show Nat.ble (((i':Int).toNat+(((l'.length:Nat):Int).toNat-(i':Int).toNat:Nat):Nat):Int).toNat l'.length=true
   exact B2 (by omega))).trans (gY.trans ?_)
  have hX:∀ (n:Nat) (z:D) (m:Nat),((l'.take i'++List.replicate n z)++l'.drop m).take i'=l'.take i':=fun n z m=>by
   rw [C1,List.take_append_of_le_length (by simp;omega),List.take_take,Nat.min_self]
  refine (gA (by
   show (decide ((0:Int)≤i')&&decide ((i':Int)≤((l'.take (i':Int).toNat++List.replicate ((((l'.length:Nat):Int).toNat-(i':Int).toNat:Nat):Int).toNat Ei++l'.drop ((i':Int).toNat+((((l'.length:Nat):Int).toNat-(i':Int).toNat:Nat):Int).toNat)).length:Nat)))=true
   rw [E6 (by omega),E6 (by simp only [E3,A7,D9];omega)];rfl)).trans (gY.trans ?_)
  show some (true,[D.int .i64 k,D.Z 19 ((l'.take (i':Int).toNat++List.replicate ((((l'.length:Nat):Int).toNat-(i':Int).toNat:Nat):Int).toNat Ei++l'.drop ((i':Int).toNat+((((l'.length:Nat):Int).toNat-(i':Int).toNat:Nat):Int).toNat)).take (i':Int).toNat)])=_
  simp only [E3,hX]
theorem Lp {th:List D}(h:th.length≤68719476736):Ru 137 [.Z 19 th] (true,[.Z 19 th]):=by
 obtain⟨z,rfl,N,hN⟩:=rT (P:=fun z=>z=(true,[.Z 19 th])) Sa (by kernel_rfl) h rfl
 exact⟨N,hN⟩
theorem Lq {th ev:List D}{k:Int}{z:Bool×List D}{N:Nat}(hth:∀ d∈th,NV d)(hlen:th.length≤68719476736)(hz:∀ n,N≤n→R n 214 [.agg [.Z 19 th,.Z 2 ev],.int .i64 k]=some z):∃ y,z=(true,[.agg [.Z 19 (th.filter (kp k)),y]]):=by
 obtain⟨N1,h1⟩:=Lp hlen
 obtain⟨N2,h2⟩:=Lu (k:=k) hth (by omega)
 have h:=hz (N+N1+N2+1) (by omega)
 have h:R ((N+N1+N2)+1) 214 _=some z:=h
 rw [BJ Sb rfl,vJ rfl] at h
 rw [show Dq=_ from rfl] at h
 have h:=(bU (h1 (N+N1+N2) (by omega)) rfl).symm.trans h
 have h:=(bU (h2 (N+N1+N2) (by omega)) rfl).symm.trans h
 generalize hV:iD (iD (fun i=>Y [D.agg [.Z 19 th,.Z 2 ev],.int .i64 k] i) (sg 214).hs.length [D.Z 19 th]) ((sg 214).hs.length+(I5 (sg 137).ro).length) [D.int .i64 k,.Z 19 (th.filter (kp k))]=V at h
 have hV4:V 4 = .Z 19 (th.filter (kp k)):=by rw [← hV];rfl
 have h:AE.bT (R (N+N1+N2) 145 (pC V [.e (Ac [4,.k (.Z 2 [])] e0)])) (fun r=>bif aL (sg 145).ro r then some (true,[D.agg [V 4,(S3 V 5 (I5 (sg 145).ro) r 5).at_ 0]]) else none)=some z:=h
 generalize R (N+N1+N2) 145 (pC V [.e (Ac [4,.k (.Z 2 [])] e0)])=o at h
 rw [hV4] at h
 match o,h with
 |some (true,r),h=>
  have h:(bif aL (sg 145).ro r then some (true,[D.agg [.Z 19 (th.filter (kp k)),(S3 V 5 (I5 (sg 145).ro) r 5).at_ 0]]) else none)=some z:=h
  cases hc:aL (sg 145).ro r with
  |true=>rw [hc] at h;exact⟨_,(Option.some.inj h).symm⟩
  |false=>rw [hc] at h;cases h
 |some (false,_),h=>cases h
 |none,h=>cases h
theorem Mi {n m:Int}{d:D}(h:HP U6 19 [n] d)(hk:(d.at_ 1).i≠2):HP U6 19 [m] d:=by
 obtain⟨h1,h2,h3⟩:=Ig.1 h
 refine Ig.2 ⟨h1,fun j hj=>?_,fun g hg=>?_⟩
 ·have:=h2 j hj
  have hj:j<19:=hj
  match j,hj with
  |0,_=>exact this
  |1,_=>exact this
  |2,_=>exact this
  |3,_=>exact this
  |4,_=>exact this
  |5,_=>exact this
  |6,_=>exact this
  |7,_=>exact this
  |8,_=>exact this
  |9,_=>exact this
  |10,_=>exact this
  |11,_=>exact this
  |12,_=>exact this
  |13,_=>exact this
  |14,_=>exact this
  |15,_=>exact this
  |16,_=>exact this
  |17,_=>exact this
  |18,_=>exact this
  |j+19,hj=>omega
 ·have hk2:(Fm.or (.ge (.m 16 1 (.c (-3)))) (.ge (.m 16 (-1) (.c 1)))).bv (pw 1 [m] fun j=>d.at_ j)=true:=by
   have e:nu (pw 1 [m] fun j=>d.at_ j) 0 16=(d.at_ 1).i:=AX (a:=2)
   rcases Int.lt_or_gt_of_ne hk with hl|hl
   ·refine Fm.T4.2 (.inr (Fm.I7.2 ?_));rw [V2,Y4,e];omega
   ·refine Fm.T4.2 (.inl (Fm.I7.2 ?_));rw [V2,Y4,e];omega
  rcases B7.1 hg with rfl|hg
  ·exact h3 _ (B8 ..)
  rcases B7.1 hg with rfl|hg
  ·exact h3 _ (C0 _ (B8 ..))
  rcases B7.1 hg with rfl|hg
  ·exact h3 _ (C0 _ (C0 _ (B8 ..)))
  rcases B7.1 hg with rfl|hg
  ·exact h3 _ (C0 _ (C0 _ (C0 _ (B8 ..))))
  rcases B7.1 hg with rfl|hg
  ·exact h3 _ (C0 _ (C0 _ (C0 _ (C0 _ (B8 ..)))))
  rcases B7.1 hg with rfl|hg
  ·exact Fm.T4.2 (.inl hk2)
  rcases B7.1 hg with rfl|hg
  ·exact Fm.T4.2 (.inl hk2)
  rcases B7.1 hg with rfl|hg
  ·exact h3 _ (C0 _ (C0 _ (C0 _ (C0 _ (C0 _ (C0 _ (C0 _ (B8 ..))))))))
  rcases B7.1 hg with rfl|hg
  ·exact h3 _ (C0 _ (C0 _ (C0 _ (C0 _ (C0 _ (C0 _ (C0 _ (C0 _ (B8 ..)))))))))
  rcases B7.1 hg with rfl|hg
  ·exact h3 _ (C0 _ (C0 _ (C0 _ (C0 _ (C0 _ (C0 _ (C0 _ (C0 _ (C0 _ (B8 ..))))))))))
  rcases B7.1 hg with rfl|hg
  ·exact h3 _ (C0 _ (C0 _ (C0 _ (C0 _ (C0 _ (C0 _ (C0 _ (C0 _ (C0 _ (C0 _ (B8 ..)))))))))))
  rcases B7.1 hg with rfl|hg
  ·exact h3 _ (C0 _ (C0 _ (C0 _ (C0 _ (C0 _ (C0 _ (C0 _ (C0 _ (C0 _ (C0 _ (C0 _ (B8 ..))))))))))))
  rcases B7.1 hg with rfl|hg
  ·exact h3 _ (C0 _ (C0 _ (C0 _ (C0 _ (C0 _ (C0 _ (C0 _ (C0 _ (C0 _ (C0 _ (C0 _ (C0 _ (B8 ..)))))))))))))
  rcases B7.1 hg with rfl|hg
  ·exact h3 _ (C0 _ (C0 _ (C0 _ (C0 _ (C0 _ (C0 _ (C0 _ (C0 _ (C0 _ (C0 _ (C0 _ (C0 _ (C0 _ (B8 ..))))))))))))))
  rcases B7.1 hg with rfl|hg
  ·exact h3 _ (C0 _ (C0 _ (C0 _ (C0 _ (C0 _ (C0 _ (C0 _ (C0 _ (C0 _ (C0 _ (C0 _ (C0 _ (C0 _ (C0 _ (B8 ..)))))))))))))))
  rcases B7.1 hg with rfl|hg
  ·exact h3 _ (C0 _ (C0 _ (C0 _ (C0 _ (C0 _ (C0 _ (C0 _ (C0 _ (C0 _ (C0 _ (C0 _ (C0 _ (C0 _ (C0 _ (C0 _ (B8 ..))))))))))))))))
  rcases B7.1 hg with rfl|hg
  ·exact h3 _ (C0 _ (C0 _ (C0 _ (C0 _ (C0 _ (C0 _ (C0 _ (C0 _ (C0 _ (C0 _ (C0 _ (C0 _ (C0 _ (C0 _ (C0 _ (C0 _ (B8 ..)))))))))))))))))
  rcases B7.1 hg with rfl|hg
  ·exact h3 _ (C0 _ (C0 _ (C0 _ (C0 _ (C0 _ (C0 _ (C0 _ (C0 _ (C0 _ (C0 _ (C0 _ (C0 _ (C0 _ (C0 _ (C0 _ (C0 _ (C0 _ (B8 ..))))))))))))))))))
  rcases B7.1 hg with rfl|hg
  ·exact h3 _ (C0 _ (C0 _ (C0 _ (C0 _ (C0 _ (C0 _ (C0 _ (C0 _ (C0 _ (C0 _ (C0 _ (C0 _ (C0 _ (C0 _ (C0 _ (C0 _ (C0 _ (C0 _ (B8 ..)))))))))))))))))))
  rcases B7.1 hg with rfl|hg
  ·exact h3 _ (C0 _ (C0 _ (C0 _ (C0 _ (C0 _ (C0 _ (C0 _ (C0 _ (C0 _ (C0 _ (C0 _ (C0 _ (C0 _ (C0 _ (C0 _ (C0 _ (C0 _ (C0 _ (C0 _ (B8 ..))))))))))))))))))))
  cases hg
theorem ZK {hp:Hp}{ρ:Nat→D}{xs:List D}{p:Nat}{c:Int}:EL hp ρ xs p [.c c]↔∀ x∈xs,hp p [c] x:=by
 constructor
 ·intro h x hx
  obtain⟨j,hj,rfl⟩:=List.getElem_of_mem hx
  have:=h j hj
  rw [C2 hj] at this
  exact this
 ·intro h j hj
  rw [C2 hj]
  exact h _ (C6 hj)
theorem Mb:Vj W9 214:=by
 intro ng ar re er b lv me hf δ xs hG htop hgh hT
 have hc:W9 214=Eu:=Pk
 rw [hc] at hf
 injection hf with e1 e2 e3 e4 e5 e6 e7
 subst e1 e2 e3 e4 e5 e6 e7
 have hG:∀ g,oV HH.tab R 260 0 g (W9 g):=hG
 have hw:=NM Sb Uh (show OG 214=_ from rfl) δ xs (fun g=>Gs (δ:=δ) hG g) htop hgh hT
 obtain⟨ls,hfl,hl,_,hfm⟩:=hT
 obtain⟨c0,c1,x,rfl,rfl⟩:=VB hfl
 obtain⟨h1,⟨th,rfl,hE⟩,h2,⟨ev,rfl,_⟩,h3,⟨k,rfl⟩,_⟩:=hl
 have e1:nu δ 0 9=(th.length:Nat):=(gO (a:=1)).trans (by rw [h1];rfl)
 have e3:nu δ 0 24=k:=(AX (a:=3)).trans (by rw [h3];rfl)
 have b0:=R0 hfm 0 rfl
 have b3:=R0 hfm 3 rfl
 have b4:=R0 hfm 4 rfl
 simp only [V2,Y4,e1,e3] at b0 b3 b4
 obtain rfl:k=2:=by omega
 rw [Fg] at hE
 have hth:∀ d∈th,NV d:=fun d hd=>YT (iJ.1 hE d hd)
 obtain⟨z,hp,N,hN⟩:=hw
 obtain⟨y,rfl⟩:=Lq hth (by omega) hN
 refine⟨_,?_,N,hN⟩
 rcases hp with ⟨_,δ',ha,ht,ls,hfl,hl,hcl,hfm'⟩|⟨hb,_⟩
 ·obtain⟨cs,e,hcs,hls⟩:=UZ (m:=2) hfl
  injection e with e _
  injection e with e
  subst e
  rw [hls] at hl hfl
  obtain⟨k1,⟨r,e,hE2⟩,hl⟩:=hl
  injection e with _ e
  subst e
  rw [Fg] at hE2
  refine .inl ⟨rfl,δ',ha,ht,_,hfl,⟨k1,⟨_,rfl,ZK.2 fun d hd=>?_⟩,hl⟩,hcl,hfm'⟩
  rw [Fg]
  refine Mi (iJ.1 hE2 d hd) ?_
  have:=(List.mem_filter.1 hd).2
  unfold kp at this
  simpa using this
 ·cases hb
end Go.Proofs.YtpmjplpnpnmlcaaGreatDoor
