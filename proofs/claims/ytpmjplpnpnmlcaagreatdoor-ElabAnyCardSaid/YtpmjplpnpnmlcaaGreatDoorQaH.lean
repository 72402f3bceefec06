import Derived.Test.YtpmjplpnpnmlcaaGreatDoorQt
import Derived.Test.YtpmjplpnpnmlcaaGreatDoorFaA
import Derived.Test.YtpmjplpnpnmlcaaGreatDoorEng
set_option linter.all false
namespace Go.Proofs.YtpmjplpnpnmlcaaGreatDoor
open Go.AE
open Go.AE.Q Go.AE.Dc
def nw (δ:Nat→D)(n:Nat)(ls:List D):Nat→D:=fun i=>if i<n then δ i else ls[i-n]?.getD .top
theorem gP {δ:Nat→D}{n:Nat}{ls:List D}:L4 n δ (nw δ n ls):=fun a ha=>if_pos ha
theorem Jh {δ:Nat→D}{n:Nat}{ls:List D}:SW (n+ls.length) (nw δ n ls):=fun i hi=>by
 rw [nw,if_neg (by omega),List.getElem?_eq_none (by omega)];rfl
theorem aB {δ:Nat→D}{n m:Nat}{ls:List D}(h:m=n+ls.length):SW m (nw δ n ls):=h▸Jh
theorem Z2 {δ:Nat→D}{n:Nat}{ls:List D}(j:Nat):nw δ n ls (n+j)=ls[j]?.getD .top:=by
 rw [nw,if_neg (by omega),show n+j-n=j by omega]
theorem vN {f:Nat}{g:List D→Option (List D)}(h:SU C sg f (.o g)){xs r:List D}(hg:g xs=some r){P:Bool×List D→Prop}(hp:P (true,r)):U (fun n=>R n f xs) P:=⟨(true,r),hp,1,fun n hn=>by
 obtain⟨k,rfl⟩:∃ k,n=k+1:=⟨n-1,by omega⟩
 exact h xs r hg k⟩
theorem mT {xs ls:List D}(h:eP [0] xs ls):∃ x,xs=[x]∧ls=[x]:=by
 cases xs with
 |nil=>exact h.elim
 |cons x xs=>
  obtain⟨r,rfl,h⟩:=h
  cases xs with
  |nil=>obtain rfl:r=[]:=h;exact⟨x,rfl,rfl⟩
  |cons _ _=>exact h.elim
theorem OU {xs ls:List D}(h:eP [0,0] xs ls):∃ x y,xs=[x,y]∧ls=[x,y]:=by
 cases xs with
 |nil=>exact h.elim
 |cons x xs=>
  obtain⟨r,rfl,h⟩:=h
  obtain⟨y,rfl,rfl⟩:=mT h
  exact⟨x,y,rfl,rfl⟩
theorem Oz {xs ls:List D}(h:eP [0,0,0] xs ls):∃ x y z,xs=[x,y,z]∧ls=[x,y,z]:=by
 cases xs with
 |nil=>exact h.elim
 |cons x xs=>
  obtain⟨r,rfl,h⟩:=h
  obtain⟨y,z,rfl,rfl⟩:=OU h
  exact⟨x,y,z,rfl,rfl⟩
theorem R0 {ρ:Nat→D}{fm:List Fm}(h:Hs ρ fm)(i:Nat){e:L}(he:L3 .t fm i = .ge e):0≤e.ev (nu ρ 0):=by
 have:=h.at i
 rw [he] at this
 exact Fm.I7.1 this
theorem V2 {ν:Nat→Int}{a:Nat}{k:Int}{r:L}:(L.m a k r).ev ν=k*ν a+r.ev ν:=rfl
theorem Y4 {ν:Nat→Int}{k:Int}:(L.c k).ev ν=k:=rfl
theorem vA {ρ:Nat→D}:Hs ρ []:=fun x hx=>by cases hx
theorem fU {ρ:Nat→D}{e:L}{l:List Fm}(h:0≤e.ev (nu ρ 0))(hl:Hs ρ l):Hs ρ (.ge e::l):=hl.cons (Fm.I7.2 h)
theorem xI:∀ (k n:Nat) (acc:G0),(xH k n acc).length≤k+acc.length
 |0,n,acc=>by simp [xH]
 |k+1,n,acc=>by
  unfold xH
  cases Nat.ble n 9 with
  |true=>simp;omega
  |false=>
   have:=xI k (n / 10) (UInt8.ofNat (48+n % 10)::acc)
   simp at this ⊢;omega
theorem RM (n:Int):(hU n).length≤21:=by
 cases n with
 |ofNat u=>have:=xI 20 u [];simp only [hU];simp at this;omega
 |negSucc u=>have:=xI 20 (u+1) [];simp only [hU];simp at this ⊢;omega
theorem Az:Q.Good U6 R 307 Fa:=by
 intro δ xs htop _ hT
 obtain⟨ls,hf,hl,_,hfm⟩:=hT
 obtain⟨x,rfl,rfl⟩:=mT hf
 obtain⟨h0,⟨v,rfl⟩,_⟩:=hl
 have e0:nu δ 0 0=v:=(AX (a:=0)).trans (by rw [h0];rfl)
 have b1:=R0 hfm 0 rfl
 have b2:=R0 hfm 1 rfl
 rw [V2,Y4,e0] at b1 b2
 have hg:mF ⟨sl [dI],[]⟩ [.int .i64 v]=some [.str (hU v)]:=by
  show (bif decide (-9223372036854775808≤v)&&decide (v≤9223372036854775807) then _ else _)=_
  rw [E6 (by omega),E6 (by omega)];rfl
 refine vN Si hg (.inl ⟨rfl,nw δ 1 [.str (hU v)],gP,aB rfl,[.str (hU v)],⟨[],rfl,rfl⟩,⟨Z2 0,⟨_,rfl⟩,trivial⟩,fun c hc=>(by cases hc),?_⟩)
 have e1:nu (nw δ 1 [.str (hU v)]) 0 12=((hU v).length:Nat):=(MM (a:=1)).trans (by rw [show nw δ 1 [D.str (hU v)] 1 = .str (hU v) from Z2 0];rfl)
 have:=RM v
 refine fU ?_ (fU ?_ vA)<;>· rw [V2,Y4,e1];omega
theorem Ax:Q.Good U6 R 285 Ey:=by
 intro δ xs htop _ hT
 obtain⟨ls,hf,hl,_,hfm⟩:=hT
 obtain⟨x,y,rfl,rfl⟩:=OU hf
 obtain⟨h0,⟨s,rfl⟩,h1,⟨t,rfl⟩,_⟩:=hl
 have e0:nu δ 0 4=(s.length:Nat):=(MM (a:=0)).trans (by rw [h0];rfl)
 have b1:=R0 hfm 2 rfl
 rw [V2,Y4,e0] at b1
 have hg:aQ ⟨sl [dS,dS],[]⟩ [.str s,.str t]=some [.bool (decide (0≤gM t s 0))]:=by
  show (bif Nat.ble s.length 4294967280 then _ else _)=_
  rw [B2 (by omega)];rfl
 exact vN Sf hg (.inl ⟨rfl,nw δ 2 [.bool (decide (0≤gM t s 0))],gP,aB rfl,[.bool (decide (0≤gM t s 0))],⟨[],rfl,rfl⟩,⟨Z2 0,⟨_,rfl⟩,trivial⟩,fun c hc=>(by cases hc),vA⟩)
theorem Ad (s t:G0):(Z4 s t).1.length≤s.length∧(Z4 s t).2.1.length≤s.length:=by
 unfold Z4
 split
 ·simp;omega
 ·simp
theorem Ay:Q.Good U6 R 290 Ez:=by
 intro δ xs htop _ hT
 obtain⟨ls,hf,hl,_,hfm⟩:=hT
 obtain⟨x,y,rfl,rfl⟩:=OU hf
 obtain⟨h0,⟨s,rfl⟩,h1,⟨t,rfl⟩,_⟩:=hl
 have e0:nu δ 0 4=(s.length:Nat):=(MM (a:=0)).trans (by rw [h0];rfl)
 have b0:=R0 hfm 0 rfl
 have b1:=R0 hfm 2 rfl
 rw [V2,Y4,e0] at b0 b1
 have hg:sU ⟨sl [dS,dS],[]⟩ [.str s,.str t]=some [.str (Z4 s t).1,.str (Z4 s t).2.1,.bool (Z4 s t).2.2]:=by
  show (bif Nat.ble s.length 4294967280 then _ else _)=_
  rw [B2 (by omega)];rfl
 obtain⟨l1,l2⟩:=Ad s t
 generalize hr:[D.str (Z4 s t).1,D.str (Z4 s t).2.1,D.bool (Z4 s t).2.2]=r at hg
 refine vN Sh hg (.inl ⟨rfl,nw δ 2 r,gP,hr▸aB rfl,r,hr▸⟨_,rfl,_,rfl,[],rfl,rfl⟩,hr▸⟨Z2 0,⟨_,rfl⟩,Z2 1,⟨_,rfl⟩,Z2 2,⟨_,rfl⟩,trivial⟩,fun c hc=>(by cases hc),?_⟩)
 have e4:nu (nw δ 2 r) 0 4=(s.length:Nat):=(MM (a:=0)).trans (by rw [show nw δ 2 r 0=δ 0 from if_pos (by omega),h0];rfl)
 have e2:nu (nw δ 2 r) 0 20=((Z4 s t).1.length:Nat):=(MM (a:=2)).trans (by rw [show nw δ 2 r 2=_ from Z2 0,← hr];rfl)
 have e3:nu (nw δ 2 r) 0 28=((Z4 s t).2.1.length:Nat):=(MM (a:=3)).trans (by rw [show nw δ 2 r 3=_ from Z2 1,← hr];rfl)
 refine fU ?_ (fU ?_ (fU ?_ (fU ?_ vA)))<;>· simp only [V2,Y4,e2,e3,e4];omega
theorem vY (d:D):1≤bR d:=by unfold bR;split<;>omega
theorem jP:∀ xs ys:List D,bP (xs++ys)=bP xs+bP ys
 |[],ys=>by simp [bP]
 |x::xs,ys=>by simp only [List.cons_append,bP];have:=jP xs ys;omega
theorem eO {hp:Hp}{ρ:Nat→D}{xs:List D}{p:Nat}:EL hp ρ xs p []↔∀ x∈xs,hp p [] x:=by
 constructor
 ·intro h x hx
  obtain⟨j,hj,rfl⟩:=List.getElem_of_mem hx
  have:=h j hj
  rw [C2 hj] at this
  exact this
 ·intro h j hj
  rw [C2 hj]
  exact h _ (C6 hj)
theorem iJ {hp:Hp}{ρ:Nat→D}{xs:List D}{p:Nat}:EL hp ρ xs p [.m 0 1 (.c 0)]↔∀ x∈xs,hp p [(ρ 0).i] x:=by
 have e:∀ j,([L.m 0 1 (.c 0)].map fun e=>e.ev (nu ρ j))=[(ρ 0).i]:=fun j=>by
  show [1*nu ρ j 0+0]=_
  rw [show nu ρ j 0=(ρ 0).i from AX (a:=0)]
  simp
 constructor
 ·intro h x hx
  obtain⟨j,hj,rfl⟩:=List.getElem_of_mem hx
  have:=h j hj
  rw [C2 hj,e] at this
  exact this
 ·intro h j hj
  rw [C2 hj,e]
  exact h _ (C6 hj)
theorem Bc:Q.Good U6 R 383 Fe:=by
 intro δ xs htop _ hT
 obtain⟨ls,hf,hl,_,hfm⟩:=hT
 obtain⟨x,y,z,rfl,rfl⟩:=Oz hf
 obtain⟨h0,⟨i,rfl⟩,h1,⟨j,rfl⟩,h2,⟨xs,rfl,hE⟩,_⟩:=hl
 have e0:nu δ 0 0=i:=(AX (a:=0)).trans (by rw [h0];rfl)
 have e1:nu δ 0 8=j:=(AX (a:=1)).trans (by rw [h1];rfl)
 have e2:nu δ 0 17=(xs.length:Nat):=(gO (a:=2)).trans (by rw [h2];rfl)
 have b0:=R0 hfm 0 rfl
 have b1:=R0 hfm 1 rfl
 have b2:=R0 hfm 2 rfl
 have b3:=R0 hfm 3 rfl
 have b4:=R0 hfm 4 rfl
 simp only [V2,Y4,e0,e1,e2] at b0 b1 b2 b3 b4
 obtain⟨k,rfl⟩:∃ k:Nat,i=k:=⟨i.toNat,by omega⟩
 obtain rfl:j=k+1:=by omega
 have hk:k<xs.length:=by omega
 have hg:eN 298 9 ⟨sl [.row 0,dI,dI],[.row 298 9 2]⟩ [.int .i64 k,.int .i64 (k+1),.Z 9 xs]=some [.Z 9 (xs.take k++xs.drop (k+1))]:=by
  show (bif (decide ((0:Int)≤k)&&(decide ((k:Int)+1=k+1)&&decide ((k:Int)+1≤(xs.length:Nat)))) then some [D.Z 9 (xs.take (k:Int).toNat++xs.drop ((k:Int)+1).toNat)] else none)=_
  rw [E6 (by omega),E6 rfl,E6 (by omega)]
  rfl
 generalize hr:xs.take k++xs.drop (k+1)=r at hg
 have hxs:xs=xs.take k++xs[k]::xs.drop (k+1):=by simp
 have hlen:r.length+1=xs.length:=by rw [← hr];simp;omega
 have hsz:bP r+2≤bP xs:=by
  have h:=congrArg bP hxs
  rw [jP] at h
  simp only [bP] at h
  have:=vY xs[k]
  rw [← hr,jP];omega
 have e3:nu (nw δ 3 [.Z 9 r]) 0 25=(r.length:Nat):=(gO (a:=3)).trans (by rw [show nw δ 3 [D.Z 9 r] 3=_ from Z2 0];rfl)
 have e4:nu (nw δ 3 [.Z 9 r]) 0 26=(bP r+1:Nat):=(JI (a:=3)).trans (by rw [show nw δ 3 [D.Z 9 r] 3=_ from Z2 0];rfl)
 have e5:nu (nw δ 3 [.Z 9 r]) 0 18=(bP xs+1:Nat):=(JI (a:=2)).trans (by rw [show nw δ 3 [D.Z 9 r] 2=δ 2 from if_pos (by omega),h2];rfl)
 have e6:nu (nw δ 3 [.Z 9 r]) 0 17=(xs.length:Nat):=(gO (a:=2)).trans (by rw [show nw δ 3 [D.Z 9 r] 2=δ 2 from if_pos (by omega),h2];rfl)
 have e7:nu (nw δ 3 [.Z 9 r]) 0 0=k:=(AX (a:=0)).trans (by rw [show nw δ 3 [D.Z 9 r] 0=δ 0 from if_pos (by omega),h0];rfl)
 have e8:nu (nw δ 3 [.Z 9 r]) 0 8=k+1:=(AX (a:=1)).trans (by rw [show nw δ 3 [D.Z 9 r] 1=δ 1 from if_pos (by omega),h1];rfl)
 refine vN Sp hg (.inl ⟨rfl,nw δ 3 [.Z 9 r],gP,aB rfl,[.Z 9 r],⟨[],rfl,rfl⟩,⟨Z2 0,⟨r,rfl,eO.2 fun x hx=>eO.1 hE x ?_⟩,trivial⟩,fun c hc=>(by cases hc),?_⟩)
 ·rw [← hr] at hx
  rcases D5.1 hx with hx|hx
  ·exact List.mem_of_mem_take hx
  ·exact List.mem_of_mem_drop hx
 ·refine fU ?_ (fU ?_ (fU ?_ (fU ?_ vA)))<;>· simp only [V2,Y4,e3,e4,e5,e6,e7,e8];omega
noncomputable def Of (sz:Nat):T:= .g (.rm (.k (dm 0)) 0) (.l (.ap sz (.k (.Z sz [])) 0) (rt [1]))
noncomputable def Zx (sz:Nat):T:= .i (.em 0) (.ag (rt [.e (.k (.Z sz []))]) (Of sz)) (Of sz)
theorem ZZ {rec:Nat→List D→Out}{J:List (List D→Out)}{sz:Nat}{V:Nat→D}{xs:List D}(h0:V 0 = .Z sz xs)(h:xs.length≤68719476736):(Of sz).den sg rec J 1 V=some (true,[.Z sz xs]):=by
 have h1:((E.rm (.k (dm 0)) 0).den V).b=true:=by
  show Nat.ble ((dm 0).l.length+(V 0).l.length) M4=true
  rw [h0]
  exact B2 (by show 0+xs.length≤68719476736;omega)
 refine (gA h1).trans ?_
 show some (true,[D.Z sz ((D.Z sz []).l++(V 0).l)])=_
 rw [h0];rfl
theorem rT {f sz:Nat}(q:jY C sg f (Zx sz))(hh:(sg f).hs=[.leaf (.Z sz)]){xs:List D}(h:xs.length≤68719476736){P:Bool×List D→Prop}(hp:P (true,[.Z sz xs])):U (fun n=>R n f [.Z sz xs]) P:=by
 refine⟨_,hp,1,fun n hn=>?_⟩
 obtain⟨n,rfl⟩:∃ k,n=k+1:=⟨n-1,by omega⟩
 have hx:K4 (sg f).hs [.Z sz xs]=true:=by rw [hh];show (Nat.beq sz sz&&true)=true;rw [Nat.beq_refl];rfl
 refine (BJ q hx n).trans ?_
 rw [vJ hx,hh]
 show (bif (D.Z sz xs).l.isEmpty then agree (some (true,[D.Z sz []])) ((Of sz).den sg (R n) [] 1 fun i=>Y [D.Z sz xs] i) else (Of sz).den sg (R n) [] 1 fun i=>Y [D.Z sz xs] i)=_
 rw [ZZ (V:=fun i=>Y [D.Z sz xs] i) rfl h]
 cases xs with
 |nil=>
  show agree (some (true,[D.Z sz []])) (some (true,[D.Z sz []]))=_
  simp only [AE.agree,D.hO,F3,Bool.and_self,cond_true]
 |cons x xs=>rfl
theorem Ic:Q.Good U6 R 59 Oh:=by
 intro δ xs htop _ hT
 obtain⟨ls,hf,hl,_,hfm⟩:=hT
 obtain⟨x,rfl,rfl⟩:=mT hf
 obtain⟨h0,⟨xs,rfl,hE⟩,_⟩:=hl
 have e0:nu δ 0 1=(xs.length:Nat):=(gO (a:=0)).trans (by rw [h0];rfl)
 have b0:=R0 hfm 0 rfl
 simp only [V2,Y4,e0] at b0
 have k1:(nw δ 1 [D.Z 1 xs]) 1 = .Z 1 xs:=Z2 0
 have k0:(nw δ 1 [D.Z 1 xs]) 0 = .Z 1 xs:=(if_pos (by omega)).trans h0
 have e1:nu (nw δ 1 [D.Z 1 xs]) 0 9=(xs.length:Nat):=(gO (a:=1)).trans (by rw [k1];rfl)
 have e2:nu (nw δ 1 [D.Z 1 xs]) 0 1=(xs.length:Nat):=(gO (a:=0)).trans (by rw [k0];rfl)
 refine rT aD8 (by kernel_rfl) (by omega) (.inl ⟨rfl,(nw δ 1 [D.Z 1 xs]),gP,aB rfl,[.Z 1 xs],⟨[],rfl,rfl⟩,⟨k1,⟨xs,rfl,eO.2 (eO.1 hE)⟩,trivial⟩,fun c hc=>(by cases hc),?_⟩)
 refine fU ?_ (fU ?_ (fU ?_ vA))<;>· simp only [V2,Y4,e1,e2];omega
theorem Av:Q.Good U6 R 137 Es:=by
 intro δ xs htop _ hT
 obtain⟨ls,hf,hl,_,hfm⟩:=hT
 obtain⟨x,rfl,rfl⟩:=mT hf
 obtain⟨h0,⟨xs,rfl,hE⟩,_⟩:=hl
 have e0:nu δ 0 9=(xs.length:Nat):=(gO (a:=1)).trans (by rw [h0];rfl)
 have b0:=R0 hfm 0 rfl
 simp only [V2,Y4,e0] at b0
 have k1:(nw δ 2 [D.Z 19 xs]) 2 = .Z 19 xs:=Z2 0
 have k0:(nw δ 2 [D.Z 19 xs]) 1 = .Z 19 xs:=(if_pos (by omega)).trans h0
 have e1:nu (nw δ 2 [D.Z 19 xs]) 0 17=(xs.length:Nat):=(gO (a:=2)).trans (by rw [k1];rfl)
 have e2:nu (nw δ 2 [D.Z 19 xs]) 0 9=(xs.length:Nat):=(gO (a:=1)).trans (by rw [k0];rfl)
 refine rT Sa (by kernel_rfl) (by omega) (.inl ⟨rfl,(nw δ 2 [D.Z 19 xs]),gP,aB rfl,[.Z 19 xs],⟨[],rfl,rfl⟩,⟨k1,⟨xs,rfl,iJ.2 (by rw [show (nw δ 2 [D.Z 19 xs]) 0=δ 0 from if_pos (by omega)];exact iJ.1 hE)⟩,trivial⟩,fun c hc=>(by cases hc),?_⟩)
 refine fU ?_ (fU ?_ (fU ?_ vA))<;>· simp only [V2,Y4,e1,e2];omega
theorem Aw:Q.Good U6 R 139 Et:=by
 intro δ xs htop _ hT
 obtain⟨ls,hf,hl,_,hfm⟩:=hT
 obtain⟨x,rfl,rfl⟩:=mT hf
 obtain⟨h0,⟨xs,rfl,hE⟩,_⟩:=hl
 have e0:nu δ 0 1=(xs.length:Nat):=(gO (a:=0)).trans (by rw [h0];rfl)
 have b0:=R0 hfm 0 rfl
 simp only [V2,Y4,e0] at b0
 have k1:(nw δ 1 [D.Z 2 xs]) 1 = .Z 2 xs:=Z2 0
 have k0:(nw δ 1 [D.Z 2 xs]) 0 = .Z 2 xs:=(if_pos (by omega)).trans h0
 have e1:nu (nw δ 1 [D.Z 2 xs]) 0 9=(xs.length:Nat):=(gO (a:=1)).trans (by rw [k1];rfl)
 have e2:nu (nw δ 1 [D.Z 2 xs]) 0 1=(xs.length:Nat):=(gO (a:=0)).trans (by rw [k0];rfl)
 refine rT Xb (by kernel_rfl) (by omega) (.inl ⟨rfl,(nw δ 1 [D.Z 2 xs]),gP,aB rfl,[.Z 2 xs],⟨[],rfl,rfl⟩,⟨k1,⟨xs,rfl,eO.2 (eO.1 hE)⟩,trivial⟩,fun c hc=>(by cases hc),?_⟩)
 refine fU ?_ (fU ?_ (fU ?_ vA))<;>· simp only [V2,Y4,e1,e2];omega
theorem Ba:Q.Good U6 R 376 Fb:=by
 intro δ xs htop _ hT
 obtain⟨ls,hf,hl,_,hfm⟩:=hT
 obtain⟨x,rfl,rfl⟩:=mT hf
 obtain⟨h0,⟨xs,rfl,hE⟩,_⟩:=hl
 have e0:nu δ 0 9=(xs.length:Nat):=(gO (a:=1)).trans (by rw [h0];rfl)
 have b0:=R0 hfm 0 rfl
 simp only [V2,Y4,e0] at b0
 have k1:(nw δ 2 [D.Z 9 xs]) 2 = .Z 9 xs:=Z2 0
 have k0:(nw δ 2 [D.Z 9 xs]) 1 = .Z 9 xs:=(if_pos (by omega)).trans h0
 have e1:nu (nw δ 2 [D.Z 9 xs]) 0 17=(xs.length:Nat):=(gO (a:=2)).trans (by rw [k1];rfl)
 have e2:nu (nw δ 2 [D.Z 9 xs]) 0 9=(xs.length:Nat):=(gO (a:=1)).trans (by rw [k0];rfl)
 refine rT Xe (by kernel_rfl) (by omega) (.inl ⟨rfl,(nw δ 2 [D.Z 9 xs]),gP,aB rfl,[.Z 9 xs],⟨[],rfl,rfl⟩,⟨k1,⟨xs,rfl,iJ.2 (by rw [show (nw δ 2 [D.Z 9 xs]) 0=δ 0 from if_pos (by omega)];exact iJ.1 hE)⟩,trivial⟩,fun c hc=>(by cases hc),?_⟩)
 refine fU ?_ (fU ?_ (fU ?_ vA))<;>· simp only [V2,Y4,e1,e2];omega
theorem Bb:Q.Good U6 R 382 Fc:=by
 intro δ xs htop _ hT
 obtain⟨ls,hf,hl,_,hfm⟩:=hT
 obtain⟨x,rfl,rfl⟩:=mT hf
 obtain⟨h0,⟨xs,rfl,hE⟩,_⟩:=hl
 have e0:nu δ 0 1=(xs.length:Nat):=(gO (a:=0)).trans (by rw [h0];rfl)
 have b0:=R0 hfm 0 rfl
 simp only [V2,Y4,e0] at b0
 have k1:(nw δ 1 [D.Z 9 xs]) 1 = .Z 9 xs:=Z2 0
 have k0:(nw δ 1 [D.Z 9 xs]) 0 = .Z 9 xs:=(if_pos (by omega)).trans h0
 have e1:nu (nw δ 1 [D.Z 9 xs]) 0 9=(xs.length:Nat):=(gO (a:=1)).trans (by rw [k1];rfl)
 have e2:nu (nw δ 1 [D.Z 9 xs]) 0 1=(xs.length:Nat):=(gO (a:=0)).trans (by rw [k0];rfl)
 have e3:nu (nw δ 1 [D.Z 9 xs]) 0 10=(bR (D.Z 9 xs):Nat):=(JI (a:=1)).trans (by rw [k1])
 have e4:nu (nw δ 1 [D.Z 9 xs]) 0 2=(bR (D.Z 9 xs):Nat):=(JI (a:=0)).trans (by rw [k0])
 refine rT Xf (by kernel_rfl) (by omega) (.inl ⟨rfl,(nw δ 1 [D.Z 9 xs]),gP,aB rfl,[.Z 9 xs],⟨[],rfl,rfl⟩,⟨k1,⟨xs,rfl,eO.2 (eO.1 hE)⟩,trivial⟩,fun c hc=>(by cases hc),?_⟩)
 refine fU ?_ (fU ?_ (fU ?_ (fU ?_ vA)))<;>· simp only [V2,Y4,e1,e2,e3,e4];omega
end Go.Proofs.YtpmjplpnpnmlcaaGreatDoor
