import Derived.Test.YtalibicpmfbieaaGreatDoorM5
import Derived.Test.YtalibicpmfbieaaGreatDoorM2
import Derived.Test.YtalibicpmfbieaaGreatDoorM1
namespace Go.Proofs.YtalibicpmfbieaaGreatDoor
open Go.AE
set_option linter.all false
def yT:List G1:=[LH,lC,iS,QK,nL,bY]
def Oh (ty:G1):List Tk:=bif ty==bY then [(1,nL),(1,lC)] else [(1,ty)]
theorem Au {ty:G1}(h:ty∈yT):(Lib.split ty [32]).map D.str=QM (Oh ty)∧FG (Oh ty)∧(Oh ty).length≤2:=by
 have a:(yT.all fun ty=>(Lib.split ty [32]==(Oh ty).map (·.2))&&((Oh ty).all fun p=>!(p.1==9)&&Xh p.2))=true:=by decide +kernel
 have a:=B6.1 a ty h
 rw [A9] at a
 refine⟨?_,K1 a.2,?_⟩
 ·rw [eq_of_beq a.1];simp [QM]
 ·unfold Oh;cases ty==bY<;>simp
theorem Oc {ty:G1}(h:ty∈yT):U (fun n=>strings_Split n (.str ty) (.str [32])) fun r=>r=(true,[.Z 1 (QM (Oh ty))]):=by
 have a:(yT.all fun ty=>Nat.ble ty.length 4294967280)=true:=by decide +kernel
 have a:=B6.1 a ty h
 refine U.eq (u:=fun _=>some (true,[D.Z 1 (QM (Oh ty))])) (fun n=>HV n _ _ _ ?_) (U.ret rfl)
 show (bif Nat.ble ty.length 4294967280&&true then some [D.Z 1 ((Lib.split ty [32]).map D.str)] else none)=_
 rw [a,(Au h).1];rfl
theorem wU {n:Nat}{x y:D}(h:OI n x y):∃ m k i j l nm ty sg es fs bs its els ps qs es' fs' bs' its' els' ps' qs',n=m+1∧x=I k nm ty sg es fs bs its els ps qs∧y=AJ k i j l nm ty sg es' fs' bs' its' els' ps' qs'∧jI es es'∧jI fs fs'∧Rl (OS 4) bs bs'∧Rl (OI m) its its'∧Rl (OI m) els els'∧Rl OC ps ps'∧Rl OC qs qs':=by
 cases n with
 |zero=>exact h.elim
 |succ n=>
  obtain⟨k,i,j,l,nm,ty,sg,es,fs,bs,its,els,ps,qs,es',fs',bs',its',els',ps',qs',h1,h2,g1,g2,_,_,_,_,_,h3,h4,h5,h6,h7⟩:=h
  exact⟨n,k,i,j,l,nm,ty,sg,es,fs,bs,its,els,ps,qs,es',fs',bs',its',els',ps',qs',rfl,h1,h2,g1,g2,h3,h4,h5,h6,h7⟩
theorem ZW {n:Nat}{x y:D}(h:OI n x y):(L6 I4&&Q5 I4 y)=true:=by
 obtain⟨_,_,_,_,_,_,_,_,_,_,_,_,_,_,_,_,_,_,_,_,_,_,_,_,rfl,_⟩:=wU h;rfl
theorem VW {n:Nat}{x y:D}(h:OI n x y):J6 I4 y=y:=by
 obtain⟨_,_,_,_,_,_,_,_,_,_,_,_,_,_,_,_,_,_,_,_,_,_,_,_,rfl,_⟩:=wU h;rfl
theorem Kq {es es':List D}(h:Rl (OE 4) es es'):pA es=pA es':=by
 obtain⟨hl,hr⟩:=h
 match es,es',hl,hr with
 |[],[],_,_=>rfl
 |[x],[y],_,hr=>
  show [(3,[91])]++(wE 4 x++[(3,[93])])=[(3,[91])]++(wE 4 y++[(3,[93])])
  rw [show wE 4 x=wE 4 y from FK (hr 0 (by simp) (by simp))]
 |x::x'::_,y::y'::_,_,hr=>
  show [(3,[91])]++(wE 4 x++([(3,[58])]++(wE 4 x'++[(3,[93])])))=[(3,[91])]++(wE 4 y++([(3,[58])]++(wE 4 y'++[(3,[93])])))
  rw [show wE 4 x=wE 4 y from FK (hr 0 (by simp) (by simp)),show wE 4 x'=wE 4 y' from FK (hr 1 (by simp) (by simp))]
theorem Rl.take {R:D→D→Prop}{xs ys:List D}(h:Rl R xs ys)(n:Nat):Rl R (xs.take n) (ys.take n):=
 ⟨by rw [D7,D7,h.1],fun i hi hi'=>by
  rw [D7] at hi hi'
  rw [List.getElem_take,List.getElem_take];exact h.2 i (by omega) (by omega)⟩
theorem Rl.drop {R:D→D→Prop}{xs ys:List D}(h:Rl R xs ys)(n:Nat):Rl R (xs.drop n) (ys.drop n):=
 ⟨by rw [F9,F9,h.1],fun i hi hi'=>by
  rw [F9] at hi hi'
  rw [List.getElem_drop,List.getElem_drop];exact h.2 (n+i) (by omega) (by omega)⟩
theorem UJ {es:List D}(hl:es.length≤2)(hx:∀ x∈es,yR 4 x):Pr (fun n=>P1 n (.Z 6 es)) (pA es):=by rw [← Xu];exact UI (KE 4) hl hx
def Sy (fs:List D):List Tk:=bif fs.isEmpty then [] else [(3,[61])]++wE 4 (x0 fs)
theorem Yl {fs:List D}(hl:fs.length≤1)(hf:∀ e∈fs,yR 4 e)(f:Bool)(s:G1)(hb:s.length+14*(Sy fs).length≤68000000000):U (fun n=>jT n (M6 s) f fs) (fun r=>∃ st:Bool×G1,r=(true,[.bool st.1,.Z 1 (M6 st.2)])∧Wr (f,s) st (Sy fs)):=by
 refine O6 (fun n=>jT.eq_1 n _ _ _) ?_
 match fs,hl,hf,hb with
 |[],_,_,_=>exact U.no rfl (U.ret ⟨(f,s),rfl,Wr.nil _⟩)
 |[x],_,hf,hb=>
  (replace hb:s.length+14*([(3,[61])]++wE 4 x:List Tk).length≤68000000000:=hb;simp only [G0] at hb)
  refine U.I0 rfl ?_
  (refine U.H6 ((M4 (ws:=[(3,[61])]) (K1 rfl) (by decide) f s (by simp only [A0,A8];omega))) ?_;rintro _ _ ⟨⟨f1,s1⟩,h,w1⟩;cases h;have lw1:=Wr.len w1;(try simp only [G0] at lw1);refine⟨rfl,U.I0 (K3 rfl (M3 _ _ _)) ?_⟩)
  (refine U.H6 (EW (KE 4) (xs:=[x]) (by simp) hf f1 s1 (by show s1.length+14*(wE 4 x).length≤_;omega)) ?_;rintro _ _ ⟨⟨f2,s2⟩,h,w2⟩;cases h;have lw2:=Wr.len w2;(try simp only [G0] at lw2);refine⟨rfl,U.I0 rfl ?_⟩)
  exact U.ret ⟨(f2,s2),rfl,w1.app w2⟩
theorem aB9 {nm:G1}{es fs:List D}(hn:gw nm)(hl:es.length=0∨es.length=2∨es.length=4)(he:∀ e∈es,yR 4 e)(hl2:fs.length≤1)(hf:∀ e∈fs,yR 4 e)(f:Bool)(s:G1)
  (hb:s.length+14*(pA (es.take 2)++([(1,nm)]++(pA (es.drop 2)++Sy fs)):List Tk).length≤68000000000):U (fun n=>jS n (M6 s) f es nm fs) (fun r=>∃ st:Bool×G1,r=(true,[.bool st.1,.Z 1 (M6 st.2)])∧Wr (f,s) st (pA (es.take 2)++([(1,nm)]++(pA (es.drop 2)++Sy fs)))):=by
 refine O6 (fun n=>jS.eq_1 n _ _ _ _ _) ?_
 simp only [G0] at hb
 have b1:=UJ (es:=es.take 2) (by rw [D7];omega) fun e h=>he e (List.mem_of_mem_take h)
 have b2:=UJ (es:=es.drop 2) (by rw [F9];omega) fun e h=>he e (List.mem_of_mem_drop h)
 have e1:(es.drop 0).take ((min 2 (es.length:Int)).toNat-0)=es.take 2:=by
  rw [List.drop_zero,Nat.sub_zero]
  rcases hl with h|h|h<;>rw [h]
  ·rw [E5.1 h];rfl
  ·rfl
  ·rfl
 have e2:(es.drop 2).take ((es.length:Int).toNat-2)=es.drop 2:=List.take_of_length_le (by rw [F9,E1];exact B9 _)
 rw [e1,e2]
 refine U.I0 (by rcases hl with h|h|h<;>rw [h]<;>rfl) ?_
 (refine U.H6 (b1 f s (by omega)) ?_;rintro _ _ ⟨⟨f1,s1⟩,h,w1⟩;cases h;have lw1:=Wr.len w1;(try simp only [G0] at lw1);refine⟨rfl,U.I0 rfl ?_⟩)
 (refine U.H6 ((M4 (ws:=[(1,nm)]) (P6 hn (K1 rfl)) (by simp) f1 s1 (by simp only [A0,A8];omega))) ?_;rintro _ _ ⟨⟨f2,s2⟩,h,w2⟩;cases h;have lw2:=Wr.len w2;(try simp only [G0] at lw2);refine⟨rfl,U.I0 (K3 rfl (M3 _ _ _)) ?_⟩)
 refine U.N9 (fun h=>?_) fun h=>?_
 ·have h:=E7 h
  refine U.I0 (by rw [E6 (show (2:Int)≤es.length by omega),E6 (Int.le_refl _)];rfl) ?_
  (refine U.H6 (b2 f2 s2 (by omega)) ?_;rintro _ _ ⟨⟨f3,s3⟩,h,w3⟩;cases h;have lw3:=Wr.len w3;(try simp only [G0] at lw3);refine⟨rfl,U.I0 rfl ?_⟩)
  exact (Yl hl2 hf f3 s3 (by omega)).mono fun r ⟨st,h1,h2⟩=>⟨st,h1,w1.app (w2.app (w3.app h2))⟩
 ·have h:=E9 h
  have e3:pA (es.drop 2)=[]:=by rw [D4 (by omega)];rfl
  refine (Yl hl2 hf f2 s2 (by omega)).mono fun r ⟨st,h1,h2⟩=>⟨st,h1,?_⟩
  rw [e3]
  exact w1.app (w2.app h2)
theorem Ya {fs fs':List D}(h:Rl (OE 4) fs fs'):Sy fs=Sy fs':=by
 obtain⟨hl,hr⟩:=h
 match fs,fs',hl,hr with
 |[],[],_,_=>rfl
 |x::_,y::_,_,hr=>
  show [(3,[61])]++wE 4 x=[(3,[61])]++wE 4 y
  rw [show wE 4 x=wE 4 y from FK (hr 0 (by simp) (by simp))]
theorem Yn {T:NT}(hT:∀ p∈T,p.1∈yT){m:Nat}{x y:D}(h:xN T x)(h':OI m x y):Pr (fun n=>aL n (J6 I4 y)) (kC x):=by
 rw [VW h']
 obtain⟨nm,ty,q,fl,sg,es,fs,rfl,hn,ht,_,_,hl,hf1,he,hf⟩:=h
 obtain⟨m',k',i,j,l,nm',ty',sg',es2,fs2,bs,its,els,ps,qs,es',fs',bs',its',els',ps',qs',_,e,rfl,hE,hF,_⟩:=wU h'
 cases e
 have he:=JT hE
 have hf:=JT hF
 have le:=hE.2.1
 have lf:=hF.2.1
 have hl2:fs.length≤1:=by rcases hf1 with rfl|⟨_,h,_⟩;exact C4 _;omega
 have h12:=gX (T:=cN) rfl hn
 have hty:ty∈yT:=hT _ ht
 obtain⟨es1,es2,es3⟩:=Au hty
 intro f s hb
 have eW:kC (I 1 nm ty sg es fs [] [] [] [] [])=Oh ty++((bif sg&&!(ty==iS) then [(1,mL)] else [])++(pA (es'.take 2)++([(1,nm)]++(pA (es'.drop 2)++Sy fs')))):=by
  rw [← Kq (hE.2.take 2),← Kq (hE.2.drop 2),← Ya hF.2];rfl
 rw [eW] at hb ⊢
 have N:=fun f s hb=>aB9 (nm:=nm) h12 (by rw [← le];exact hl) he (by rw [← lf];exact hl2) hf f s hb
 generalize (pA (es'.take 2)++([(1,nm)]++(pA (es'.drop 2)++Sy fs')):List Tk)=R at hb N ⊢
 refine U.eq (fun n=>EC n 1 i j l nm ty sg es' fs' bs' its' els' ps' qs' f (M6 s)) (U.H6 (Oc hty) ?_)
 intro _ _ h;cases h
 refine⟨rfl,U.I0 rfl ?_⟩
 simp only [A7] at hb
 (refine U.H6 (M4 (ws:=Oh ty) es2 (by omega) f s (by omega)) ?_;rintro _ _ ⟨⟨f1,s1⟩,h,w1⟩;cases h;have lw1:=Wr.len w1;(try simp only [G0] at lw1);refine⟨rfl,U.I0 (K3 rfl (M3 _ _ _)) ?_⟩)
 have J:∀ g:Bool,g=(sg&&!(ty==iS))→U (fun n=>jR n g [.bool f1,.Z 1 (M6 s1)] es' nm fs') (fun r=>∃ st:Bool×G1,r=(true,[.bool st.1,.Z 1 (M6 st.2)])∧Wr (f,s) st (Oh ty++((bif sg&&!(ty==iS) then [(1,mL)] else [])++R))):=by
  intro g hg
  refine O6 (fun n=>jR.eq_1 n _ _ _ _ _) ?_
  rw [← hg] at hb ⊢
  cases g with
  |true=>
   simp only [cond_true,A0,A8] at hb
   refine U.I0 rfl ?_
   (refine U.H6 ((M4 (ws:=[(1,mL)]) (K1 rfl) (by decide) f1 s1 (by simp only [A0,A8];omega))) ?_;rintro _ _ ⟨⟨f2,s2⟩,h,w2⟩;cases h;have lw2:=Wr.len w2;(try simp only [G0] at lw2);refine⟨rfl,U.I0 (K3 rfl (M3 _ _ _)) ?_⟩)
   exact (N f2 s2 (by omega)).mono fun r ⟨st,h1,h2⟩=>⟨st,h1,w1.app (w2.app h2)⟩
  |false=>
   simp only [cond_false,A8] at hb
   exact U.no rfl ((N f1 s1 (by omega)).mono fun r ⟨st,h1,h2⟩=>⟨st,h1,w1.app h2⟩)
 cases sg with
 |true=>exact U.I0 rfl (J _ rfl)
 |false=>exact U.no rfl (J _ rfl)
theorem Lw (w:D→List Tk):∀ (b a:List D),(lW w a).length≤(lW w (a++b)).length
 |[],a=>by rw [D5];exact B9 _
 |x::b,a=>by
  have h:=Lw w b (a++[x])
  rw [VF,A7,C1] at h
  exact Nat.le_trans (Nat.le_add_right _ _) h
theorem WM {Q:Bool×List D→Prop}{xs:List D}{w:D→List Tk}{T:Int→Bool→G1→Nat→Out}{f:Bool}{s:G1}(hl:xs.length≤1000)(hb:s.length+14*(lW w xs).length≤68000000000)
  (step:∀ (j:Nat) (f:Bool) (s:G1) (h:j<xs.length),s.length+14*((bif j==0 then [] else [(3,[44])])++w xs[j]:List Tk).length≤68000000000→(∀ f1 s1,Wr (f,s) (f1,s1) ((bif j==0 then [] else [(3,[44])])++w xs[j])→U (T (IntKind.i64.wrap ((j:Int)+1)) f1 s1) Q)→U (T (j:Int) f s) Q)
  (fin:∀ f1 s1,Wr (f,s) (f1,s1) (lW w xs)→U (T (xs.length:Int) f1 s1) Q):U (T 0 f s) Q:=by
 have aux:∀ (m j:Nat) (f1:Bool) (s1:G1),xs.length-j=m→j≤xs.length→Wr (f,s) (f1,s1) (lW w (xs.take j))→U (T (j:Int) f1 s1) Q:=by
  intro m
  induction m with
  |zero=>
   intro j f1 s1 hm hj hw
   have:j=xs.length:=by omega
   subst this
   rw [List.take_length] at hw
   exact fin f1 s1 hw
  |succ m ih=>
   intro j f1 s1 hm hj hw
   have hlt:j<xs.length:=by omega
   have e0:(xs.take j).isEmpty=(j==0):=by
    cases j with
    |zero=>rfl
    |succ j=>
     cases xs with
     |nil=>simp at hlt
     |cons y r=>rfl
   have e:lW w (xs.take (j+1))=lW w (xs.take j)++((bif j==0 then [] else [(3,[44])])++w xs[j]):=by
    rw [List.take_add_one,C2 hlt,Option.toList_some,VF,e0]
   have le:=Lw w (xs.drop (j+1)) (xs.take (j+1))
   rw [List.take_append_drop,e,A7] at le
   have l0:=hw.len
   refine step j f1 s1 hlt (by omega) fun f2 s2 h2=>?_
   rw [P0 (by omega)]
   exact ih (j+1) f2 s2 (by omega) (by omega) (by rw [e];exact hw.app h2)
 exact aux xs.length 0 f s rfl (C4 _) (Wr.nil _)
theorem Kx {xs ys:List D}(hn:xs.length≤10)(h:∀ x∈xs,xC x)(hR:Rl OC xs ys):Pr (fun n=>Z9 n (.Z 5 ys)) (oI xs):=by
 have el:=hR.1
 intro f s hb
 (replace hb:s.length+14*([(3,[40])]++(lW cW xs++[(3,[41])]):List Tk).length≤68000000000:=hb;simp only [G0] at hb)
 refine U.eq (fun n=>zD n _ _ _) ?_
 (refine U.H6 ((M4 (ws:=[(3,[40])]) (K1 rfl) (by decide) f s (by simp only [A0,A8];omega))) ?_;rintro _ _ ⟨⟨f0,s0⟩,h,w1⟩;cases h;have lw1:=Wr.len w1;(try simp only [G0] at lw1);refine⟨rfl,U.I0 (K3 rfl (M3 _ _ _)) ?_⟩)
 refine U.L3 (Q:=fun r=>∃ st:Bool×G1,r=(false,[.Z 5 ys,.int .i64 (ys.length:Int),.int .i64 (ys.length:Int),.bool st.1,.Z 1 (M6 st.2)])∧Wr (f0,s0) st (lW cW xs)) ?_ (fun ds h=>by obtain⟨_,h,_⟩:=h;cases h) fun ds h=>?_
 ·refine WM (xs:=xs) (w:=cW) (T:=fun j f s n=>U9 n (.Z 5 ys) (ys.length:Int) j (.bool f) (.Z 1 (M6 s))) (by omega) (by show s0.length+_≤_;omega) (fun j f s hj hb K=>?_) fun f2 s2 W=>?_
  ·have hj':j<ys.length:=by omega
   obtain⟨nm,es,e,hnm,hle,hes⟩:=h xs[j] (C6 hj)
   obtain⟨nm2,i1,j1,l1,es2,es3,e2,ey,hE⟩:=hR.2 j hj hj'
   have e3:=e.symm.trans e2
   cases e3
   have hes:=JT hE
   have lle:=hE.2.1
   have h12:=gX (T:=cN) rfl hnm
   have eC:cW xs[j]=[(3,[46]),(1,nm),(3,[40])]++(lW (wE 4) es3++[(3,[41])]):=by rw [e,← Sr hE];rfl
   rw [eC] at hb K
   have J:∀ (f1:Bool) (s1:G1) (u:List Tk),Wr (f,s) (f1,s1) u→s1.length+14*([(3,[46]),(1,nm),(3,[40])]++(lW (wE 4) es3++[(3,[41])]):List Tk).length≤68000000000→(∀ f2 s2,Wr (f,s) (f2,s2) (u++([(3,[46]),(1,nm),(3,[40])]++(lW (wE 4) es3++[(3,[41])])))→U (fun n=>U9 n (.Z 5 ys) (ys.length:Int) (.int .i64 (IntKind.i64.wrap ((j:Int)+1))) (.bool f2) (.Z 1 (M6 s2))) fun r=>∃ st:Bool×G1,r=(false,[.Z 5 ys,.int .i64 (ys.length:Int),.int .i64 (ys.length:Int),.bool st.1,.Z 1 (M6 st.2)])∧Wr (f0,s0) st (lW cW xs))→
     U (fun n=>eY n (M6 s1) f1 ys (j:Int) (ys.length:Int)) fun r=>∃ st:Bool×G1,r=(false,[.Z 5 ys,.int .i64 (ys.length:Int),.int .i64 (ys.length:Int),.bool st.1,.Z 1 (M6 st.2)])∧Wr (f0,s0) st (lW cW xs):=by
    intro f1 s1 u hu hb K
    simp only [G0] at hb
    refine O6 (fun n=>eY.eq_1 n _ _ _ _ _) ?_
    rw [bN hj',ey]
    (refine U.H6 ((M4 (ws:=[(3,[46]),(1,nm),(3,[40])]) (P6 (by decide) (P6 h12 (K1 rfl))) (by simp) f1 s1 (by simp only [A0,A8];omega))) ?_;rintro _ _ ⟨⟨f2,s2⟩,h,w2⟩;cases h;have lw2:=Wr.len w2;(try simp only [G0] at lw2);refine⟨rfl,U.I0 (K3 rfl (M3 _ _ _)) ?_⟩)
    (refine U.H6 (EW (KE 4) (xs:=es3) (by omega) hes f2 s2 (by omega)) ?_;rintro _ _ ⟨⟨f3,s3⟩,h,w3⟩;cases h;have lw3:=Wr.len w3;(try simp only [G0] at lw3);refine⟨rfl,U.I0 rfl ?_⟩)
    (refine U.H6 ((M4 (ws:=[(3,[41])]) (K1 rfl) (by decide) f3 s3 (by simp only [A0,A8];omega))) ?_;rintro _ _ ⟨⟨f4,s4⟩,h,w4⟩;cases h;have lw4:=Wr.len w4;(try simp only [G0] at lw4);refine⟨rfl,U.I0 (K3 rfl (M3 _ _ _)) ?_⟩)
    exact K f4 s4 (hu.app (w2.app (w3.app w4)))
   refine U.eq (fun n=>nN n _ _ _ _ _) (U.I0 (E6 (by omega)) (U.I0 (O5 hj') (U.I0 (by rw [bN hj',ey];rfl) (U.N9 (fun h0=>?_) fun h0=>?_))))
   ·have h0:=E7 h0
    rw [show (j==0)=false from F4.2 (by omega)] at hb K
    have hb2:s.length+14*(1+([(3,[46]),(1,nm),(3,[40])]++(lW (wE 4) es3++[(3,[41])]):List Tk).length)≤68000000000:=by
     rw [cond_false,A7] at hb;simpa only [A0,A8,C5] using hb
    (refine U.H6 ((M4 (ws:=[(3,[44])]) (K1 rfl) (by decide) f s (by simp only [A0,A8];omega))) ?_;rintro _ _ ⟨⟨f1,s1⟩,h,w1⟩;cases h;have lw1:=Wr.len w1;(try simp only [G0] at lw1);refine⟨rfl,U.I0 (K3 rfl (M3 _ _ _)) ?_⟩)
    exact J f1 s1 _ w1 (by omega) K
   ·have h0:=E9 h0
    have:j=0:=by omega
    subst this
    exact J f s [] (Wr.nil _) hb K
  ·exact U.eq (fun n=>nN n _ _ _ _ _) (U.no (E8 (by omega)) (U.ret ⟨(f2,s2),by rw [el],W⟩))
 ·obtain⟨⟨f2,s2⟩,h,w2⟩:=h
  cases h
  have l2:=w2.len
  refine U.I0 rfl ?_
  (refine U.H6 ((M4 (ws:=[(3,[41])]) (K1 rfl) (by decide) f2 s2 (by simp only [A0,A8];omega))) ?_;rintro _ _ ⟨⟨f3,s3⟩,h,w3⟩;cases h;have lw3:=Wr.len w3;(try simp only [G0] at lw3);refine⟨rfl,U.I0 (K3 rfl (M3 _ _ _)) ?_⟩)
  exact U.ret ⟨(f3,s3),rfl,w1.app (w2.app w3)⟩
section
theorem Cc {w:D→List Tk}{xs ys:List D}(el:xs.length=ys.length)(hn:xs.length≤1000)(h:∀ (j:Nat) (hj:j<xs.length) (hj':j<ys.length),Pr (fun n=>aO n (J6 I4 ys[j])) (w xs[j])∧(L6 I4&&Q5 I4 ys[j])=true):Pr (fun n=>P7 n (.Z 14 ys)) (xs.flatMap w):=by
 intro f0 s0 hb
 refine U.eq (fun n=>zE n _ _ _) (U.L3 (Q:=fun r=>∃ st:Bool×G1,r=(false,[.Z 14 ys,.int .i64 (ys.length:Int),.int .i64 (ys.length:Int),.bool st.1,.Z 1 (M6 st.2)])∧Wr (f0,s0) st (xs.flatMap w)) ?_ (fun ds h=>by obtain⟨_,h,_⟩:=h;cases h) fun ds h=>?_)
 ·refine WN (xs:=xs) (w:=w) (T:=fun j f s n=>X6 n (.Z 14 ys) (ys.length:Int) j (.bool f) (.Z 1 (M6 s))) (by omega) (by show s0.length+_≤_;omega) (fun j f s hj hb K=>?_) fun f2 s2 W=>?_
  ·have hj':j<ys.length:=by omega
   obtain⟨p1,ok⟩:=h j hj hj'
   refine U.eq (fun n=>nO n _ _ _ _ _) (U.I0 (E6 (by omega)) (U.I0 (O5 hj') ?_))
   rw [bN hj']
   refine U.I0 ok ?_
   (refine U.H6 (p1 f s hb) ?_;rintro _ _ ⟨⟨f2,s2⟩,h,w2⟩;cases h;have lw2:=Wr.len w2;(try simp only [G0] at lw2);refine⟨rfl,U.I0 rfl ?_⟩)
   exact K f2 s2 w2
  ·exact U.eq (fun n=>nO n _ _ _ _ _) (U.no (E8 (by omega)) (U.ret ⟨(f2,s2),by rw [el],W⟩))
 ·obtain⟨⟨f2,s2⟩,h,w2⟩:=h
  cases h
  exact U.I0 rfl (U.ret ⟨(f2,s2),rfl,w2⟩)
theorem VO {T:NT}(hT:∀ p∈T,p.1∈yT){m:Nat}{x y:D}(h:xN T x)(h':OI m x y):Pr (fun n=>aO n (J6 I4 y)) (kC x++[(3,[59]),nl]):=by
 have hp:=Yn hT h h'
 rw [VW h'] at hp ⊢
 obtain⟨nm,ty,sg,es,fs,rfl⟩:=uE h
 obtain⟨m',k',i,j,l,nm',ty',sg',es2,fs2,bs,its,els,ps,qs,es',fs',bs',its',els',ps',qs',_,e,rfl,_⟩:=wU h'
 cases e
 intro f s hb
 rw [A7] at hb
 simp only [A0,A8] at hb
 refine U.eq (fun n=>W9 n 1 i j l nm ty sg es' fs' bs' its' els' ps' qs' f (M6 s)) (U.I0 rfl ?_)
 (refine U.H6 (hp f s (by omega)) ?_;rintro _ _ ⟨⟨f1,s1⟩,h,w1⟩;cases h;have lw1:=Wr.len w1;(try simp only [G0] at lw1);refine⟨rfl,U.I0 rfl ?_⟩)
 (refine U.H6 ((pC (ws:=[(3,[59])]) (K1 rfl) (by decide) (by decide) f1 s1 (by simp only [G0];omega))) ?_;rintro _ _ ⟨⟨f2,s2⟩,h,w2⟩;cases h;have lw2:=Wr.len w2;(try simp only [G0] at lw2);refine⟨rfl,U.I0 (K3 rfl (M3 _ _ _)) ?_⟩)
 exact U.ret ⟨(f2,s2),rfl,w1.app w2⟩
theorem Nj {nm ty:G1}{x:D}(hn:gw nm)(ht:gw ty)(hx:yR 4 x)(k i j l:Int)(sg:Bool)(fs bs its els ps qs:List D):Pr (fun n=>V8 n (AJ k i j l nm ty sg [x] fs bs its els ps qs)) ([(1,ty),(1,nm),(3,[61])]++wE 4 x):=by
 intro f s hb
 simp only [G0] at hb
 refine U.eq (fun n=>zF n k i j l nm ty sg [x] fs bs its els ps qs f (M6 s)) ?_
 (refine U.H6 ((M4 (ws:=[(1,ty),(1,nm),(3,[61])]) (P6 ht (P6 hn (K1 rfl))) (by simp) f s (by simp only [A0,A8];omega))) ?_;rintro _ _ ⟨⟨f1,s1⟩,h,w1⟩;cases h;have lw1:=Wr.len w1;(try simp only [G0] at lw1);refine⟨rfl,U.I0 (K3 rfl (M3 _ _ _)) ?_⟩)
 (refine U.H6 (EW (KE 4) (xs:=[x]) (by simp) (fun e h=>by rw [C3.1 h];exact hx) f1 s1 (by show s1.length+14*(wE 4 x).length≤_;omega)) ?_;rintro _ _ ⟨⟨f2,s2⟩,h,w2⟩;cases h;have lw2:=Wr.len w2;(try simp only [G0] at lw2);refine⟨rfl,U.I0 rfl ?_⟩)
 exact U.ret ⟨(f2,s2),rfl,w1.app w2⟩
theorem De {x y:D}(h:sE 4 x)(h':OS 4 x y):Pr (fun n=>L0 n (J6 J5 y)) (yS 4 x):=by rw [WI h'];exact Yx 4 x y h h'
theorem Qm {x y:D}(h:isLeft x)(hO:OE 4 x y):aW (wE 4) y=wE 4 y:=by
 obtain⟨k,t,ar,rfl,_,h,_⟩:=h
 have:=Sq hO
 unfold aW
 rw [← this]
 rcases h with ⟨rfl,_⟩|⟨rfl,_⟩|⟨rfl,_⟩<;>rfl
def XG (w:D→List Tk)(g:D):List Tk:=[(1,V9),(3,[58]),(1,(g.at_ 1).s),nl]++((g.at_ 7).l.flatMap w++[(1,fF),nl])
def Xe (q:D):List Tk:=kC q++[(3,[59]),nl]
def aE8 (w:D→List Tk)(k:Int)(nm ty:G1)(sg:Bool)(es fs bs its els ps qs:List D):List Tk:=
 bif k==1 then nW nm ty sg es fs++[(3,[59]),nl]
 else bif k==2 then [(1,ty),(1,nm),(3,[61])]++(wE 4 (x0 es)++[(3,[59]),nl])
 else bif k==3 then [(1,GO),(1,nm),(3,[59]),nl]
 else bif k==4 then [(1,qG)]++(wE 4 (x0 es)++([(3,[61])]++(wE 4 (x1 es)++[(3,[59]),nl])))
 else bif k==5 then [(1,lU),(3,[64]),(3,[42])]++yS 4 (x0 bs)
 else bif k==6 then [(1,lU),(3,[64]),(3,[40]),(1,CT),(1,nm),(3,[41])]++yS 4 (x0 bs)
 else bif k==7 then [(1,yG)]++((bif sg then [(1,mL)] else [])++(pA es++([(1,nm),(3,[59]),nl]++(its.flatMap Xe++(yS 4 (x0 bs)++[(1,mG),nl])))))
 else bif k==8 then [(1,ty)]++((bif ps.isEmpty then [] else [(3,[35])]++oI ps)++([(1,nm)]++(oI qs++[(3,[59]),nl])))
 else bif k==9 then bR nm es++its.flatMap (XG w)
 else [(1,uI)]++(pW (x0 es)++(its.flatMap (XG w)++(bif els.isEmpty then [] else [(1,dR)]++els.flatMap (XG w))))
def yI:Nat→D→List Tk
 |0,_=>[]
 |n+1,x=>aE8 (yI n) (x.at_ 0).i (x.at_ 1).s (x.at_ 2).s (x.at_ 3).b (x.at_ 4).l (x.at_ 5).l (x.at_ 6).l (x.at_ 7).l (x.at_ 8).l (x.at_ 9).l (x.at_ 10).l
section
variable {d:Nat} (ih:∀ x y m,xI d x→OI m x y→Pr (fun n=>aO n (J6 I4 y)) (yI d x))
include ih
theorem Uz {its its':List D}{m:Nat}(hl:its.length≤10)(hi:∀ i∈its,xI d i)(hR:Rl (OI m) its its'):Pr (fun n=>P7 n (.Z 14 its')) (its.flatMap (yI d)):=
 Cc hR.1 (by omega) fun j hj hj'=>⟨ih _ _ m (hi _ (C6 hj)) (hR.2 j hj hj'),ZW (hR.2 j hj hj')⟩
theorem Bo {t:G1}{its ys:List D}{m:Nat}(ht:gw t)(hl:its.length≤2)(hi:∀ i∈its,xI d i)(hR:Rl (OI m) [gB t its] ys):Pr (fun n=>V7 n (.Z 14 ys)) ([gB t its].flatMap (XG (yI d))):=by
 obtain⟨y,rfl,hO⟩:=Xf hR
 obtain⟨m',k',i,j,l,nm',ty',sg',es2,fs2,bs,its2,els,ps,qs,es',fs',bs',its',els',ps',qs',_,e,rfl,_,_,_,hI,_⟩:=wU hO
 cases e
 have p1:=Uz ih (by omega) hi hI
 intro f s hb
 have eW:[gB t its].flatMap (XG (yI d))=[(1,V9),(3,[58]),(1,t),nl]++(its.flatMap (yI d)++[(1,fF),nl]):=by
  show ([(1,V9),(3,[58]),(1,t),nl]++(its.flatMap (yI d)++[(1,fF),nl]))++[]=_
  rw [D5]
 rw [eW] at hb ⊢
 simp only [G0] at hb
 refine U.eq (fun n=>zC n _ _ _) (U.L3 (Q:=fun r=>∃ st:Bool×G1,r=(false,[.Z 14 [AJ 11 i j l t [] false es' fs' bs' its' els' ps' qs'],.int .i64 1,.int .i64 1,.bool st.1,.Z 1 (M6 st.2)])∧Wr (f,s) st ([(1,V9),(3,[58]),(1,t),nl]++(its.flatMap (yI d)++[(1,fF),nl]))) ?_ (fun ds h=>by obtain⟨_,h,_⟩:=h;cases h) fun ds h=>?_)
 ·refine U.eq (fun n=>nM n _ _ _ _ _) (U.I0 rfl (U.I0 rfl (U.I0 rfl ?_)))
  (refine U.H6 ((pC (ws:=[(1,V9),(3,[58]),(1,t)]) (P6 (by decide) (P6 (by decide) (P6 ht (K1 rfl)))) (by simp) (by simp) f s (by simp only [G0];omega))) ?_;rintro _ _ ⟨⟨f1,s1⟩,h,w1⟩;cases h;have lw1:=Wr.len w1;(try simp only [G0] at lw1);refine⟨rfl,U.I0 (K3 rfl (M3 _ _ _)) ?_⟩)
  (refine U.H6 (p1 f1 s1 (by omega)) ?_;rintro _ _ ⟨⟨f2,s2⟩,h,w2⟩;cases h;have lw2:=Wr.len w2;(try simp only [G0] at lw2);refine⟨rfl,U.I0 rfl ?_⟩)
  (refine U.H6 ((pC (ws:=[(1,fF)]) (K1 rfl) (by decide) (by decide) f2 s2 (by simp only [G0];omega))) ?_;rintro _ _ ⟨⟨f3,s3⟩,h,w3⟩;cases h;have lw3:=Wr.len w3;(try simp only [G0] at lw3);refine⟨rfl,U.I0 (K3 rfl (M3 _ _ _)) ?_⟩)
  exact U.eq (fun n=>nM n _ _ _ _ _) (U.no rfl (U.ret ⟨(f3,s3),rfl,w1.app (w2.app w3)⟩))
 ·obtain⟨⟨f2,s2⟩,h,w2⟩:=h
  cases h
  exact U.I0 rfl (U.ret ⟨(f2,s2),rfl,w2⟩)
end
def aA1 (sg:Bool)(nm:G1)(es its:List D)(x:D):List Tk:=[(1,yG)]++((bif sg then [(1,mL)] else [])++(pA es++([(1,nm),(3,[59]),nl]++(its.flatMap Xe++(yS 4 x++[(1,mG),nl])))))
theorem Hg {T:NT}(hT:∀ p∈T,p.1∈yT){m:Nat}{i j l:Int}{nm ty:G1}{sg:Bool}{es fs its els ps qs its' els' ps' qs':List D}{x y:D}(hn:gw nm)(hl:es.length≤2)(he:∀ e∈es,yR 4 e)(hi:its.length≤10)(hx:∀ i∈its,xN T i)(hs:sE 4 x)(hO:OS 4 x y)(hI:Rl (OI m) its its') :
  Pr (fun n=>bG n (AJ 7 i j l nm ty sg es fs [y] its' els' ps' qs')) (aA1 sg nm es its x):=by
 have p1:=UJ hl he
 have p2:Pr (fun n=>P7 n (.Z 14 its')) (its.flatMap Xe):=Cc hI.1 (by omega) fun j hj hj'=>⟨VO hT (hx _ (C6 hj)) (hI.2 j hj hj'),ZW (hI.2 j hj hj')⟩
 have p3:=De hs hO
 intro f s hb
 unfold aA1 at hb ⊢
 have J:∀ (f1:Bool) (s1:G1) (u:List Tk),Wr (f,s) (f1,s1) u→s1.length+14*(pA es++([(1,nm),(3,[59]),nl]++(its.flatMap Xe++(yS 4 x++[(1,mG),nl]))):List Tk).length≤68000000000→U (fun n=>eZ n (M6 s1) f1 es nm its' [y]) (fun r=>∃ st:Bool×G1,r=(true,[.bool st.1,.Z 1 (M6 st.2)])∧Wr (f,s) st (u++(pA es++([(1,nm),(3,[59]),nl]++(its.flatMap Xe++(yS 4 x++[(1,mG),nl])))))):=by
  intro f1 s1 u hu hb
  simp only [G0] at hb
  refine O6 (fun n=>eZ.eq_1 n _ _ _ _ _ _) ?_
  (refine U.H6 (p1 f1 s1 (by omega)) ?_;rintro _ _ ⟨⟨f2,s2⟩,h,w2⟩;cases h;have lw2:=Wr.len w2;(try simp only [G0] at lw2);refine⟨rfl,U.I0 rfl ?_⟩)
  (refine U.H6 ((pC (ws:=[(1,nm),(3,[59])]) (P6 hn (K1 rfl)) (by simp) (by simp) f2 s2 (by simp only [G0];omega))) ?_;rintro _ _ ⟨⟨f3,s3⟩,h,w3⟩;cases h;have lw3:=Wr.len w3;(try simp only [G0] at lw3);refine⟨rfl,U.I0 (K3 rfl (M3 _ _ _)) ?_⟩)
  (refine U.H6 (p2 f3 s3 (by omega)) ?_;rintro _ _ ⟨⟨f4,s4⟩,h,w4⟩;cases h;have lw4:=Wr.len w4;(try simp only [G0] at lw4);refine⟨rfl,U.I0 rfl ?_⟩)
  refine U.I0 rfl (U.I0 (HN hO) ?_)
  (refine U.H6 (p3 f4 s4 (by omega)) ?_;rintro _ _ ⟨⟨f5,s5⟩,h,w5⟩;cases h;have lw5:=Wr.len w5;(try simp only [G0] at lw5);refine⟨rfl,U.I0 rfl ?_⟩)
  (refine U.H6 ((pC (ws:=[(1,mG)]) (K1 rfl) (by decide) (by decide) f5 s5 (by simp only [G0];omega))) ?_;rintro _ _ ⟨⟨f6,s6⟩,h,w6⟩;cases h;have lw6:=Wr.len w6;(try simp only [G0] at lw6);refine⟨rfl,U.I0 (K3 rfl (M3 _ _ _)) ?_⟩)
  exact U.ret ⟨(f6,s6),rfl,hu.app (w2.app (w3.app (w4.app (w5.app w6))))⟩
 refine U.eq (fun n=>uS n 7 i j l nm ty sg es fs [y] its' els' ps' qs' f (M6 s)) ?_
 generalize (pA es++([(1,nm),(3,[59]),nl]++(its.flatMap Xe++(yS 4 x++[(1,mG),nl]))):List Tk)=R at hb J ⊢
 cases sg with
 |true=>
  simp only [cond_true,G0] at hb
  (refine U.H6 ((M4 (ws:=[(1,yG)]) (K1 rfl) (by decide) f s (by simp only [A0,A8];omega))) ?_;rintro _ _ ⟨⟨f1,s1⟩,h,w1⟩;cases h;have lw1:=Wr.len w1;(try simp only [G0] at lw1);refine⟨rfl,U.I0 (K3 rfl (M3 _ _ _)) ?_⟩)
  refine U.I0 rfl ?_
  (refine U.H6 ((M4 (ws:=[(1,mL)]) (K1 rfl) (by decide) f1 s1 (by simp only [A0,A8];omega))) ?_;rintro _ _ ⟨⟨f2,s2⟩,h,w2⟩;cases h;have lw2:=Wr.len w2;(try simp only [G0] at lw2);refine⟨rfl,U.I0 (K3 rfl (M3 _ _ _)) ?_⟩)
  refine (J f2 s2 _ (w1.app w2) (by omega)).mono fun r ⟨st,h1,h2⟩=>⟨st,h1,?_⟩
  rw [C1] at h2
  exact h2
 |false=>
  simp only [cond_false,G0] at hb
  (refine U.H6 ((M4 (ws:=[(1,yG)]) (K1 rfl) (by decide) f s (by simp only [A0,A8];omega))) ?_;rintro _ _ ⟨⟨f1,s1⟩,h,w1⟩;cases h;have lw1:=Wr.len w1;(try simp only [G0] at lw1);refine⟨rfl,U.I0 (K3 rfl (M3 _ _ _)) ?_⟩)
  exact U.no rfl (J f1 s1 _ w1 (by omega))
end
theorem Up (c:UInt8)(hc:gw [c]){k:UInt8}(hk:k.toNat≤8):gw [c,48+k]:=by
 have a:∀ n:Nat,n≤8→(!((48+UInt8.ofNat n)==32)&&!((48+UInt8.ofNat n)==10))=true:=by decide +kernel
 have a:=a _ hk
 rw [UInt8.ofNat_toNat] at a
 have hc:(true&&(true&&((!(c==32)&&!(c==10))&&true)))=true:=hc
 rw [Bool.true_and,Bool.true_and,Bool.and_true] at hc
 show (true&&(true&&((!(c==32)&&!(c==10))&&((!((48+k)==32)&&!((48+k)==10))&&true))))=true
 rw [hc,a];rfl
theorem Yj:∀ (d:Nat) (x y:D) (m:Nat),xI d x→OI m x y→Pr (fun n=>aO n (J6 I4 y)) (yI d x):=by
 intro d
 induction d with
 |zero=>intro x y m h;exact h.elim
 |succ d ih=>
  intro x y m h h'
  rcases h with (h|h)|⟨nm,e,rfl,hn,he⟩|⟨nm,rfl,hn⟩|⟨l,e,rfl,hlf,he⟩|⟨s0,rfl,hs⟩|⟨s0,rfl,hs⟩|⟨sg,es,its,s0,rfl,hl,he,_,hi,hx,hs⟩|⟨k,ps,qs,rfl,hk,hp,hq,hpc,hqc⟩|⟨es,its,rfl,hl,he,hi,hx⟩|⟨e,its,els,rfl,he,hi,hx,hel⟩
  ·have hp:=VO (T:=vN) (by decide) h h'
   obtain⟨nm,ty,sg,es,fs,rfl⟩:=uE h
   exact hp
  ·have hp:=VO (T:=JN) (by decide) h h'
   obtain⟨nm,ty,sg,es,fs,rfl⟩:=uE h
   exact hp
  all_goals
   rw [VW h']
   obtain⟨m',k',i0,j0,l0,nm',ty',sg',es2,fs2,bs2,its2,els2,ps2,qs2,es',fs',bs',its',els',ps',qs',_,e',rfl,hX,hF,hB,hI,hE,hP,hQ⟩:=wU h'
   cases e'
   have hfl:=hF.2.1
  ·have h12:=gX (T:=cN) rfl hn
   obtain⟨e',rfl,h1,e1⟩:=Gi hX
   have hp:=Nj h12 (ty:=oP) (by decide) h1 2 i0 j0 l0 false fs' bs' its' els' ps' qs'
   intro f s hb
   show U _ fun r=>∃ st:Bool×G1,r=(true,[.bool st.1,.Z 1 (M6 st.2)])∧Wr (f,s) st ([(1,oP),(1,nm),(3,[61])]++(wE 4 e++[(3,[59]),nl]))
   replace hb:s.length+14*([(1,oP),(1,nm),(3,[61])]++(wE 4 e++[(3,[59]),nl]):List Tk).length≤68000000000:=hb
   rw [e1] at hb ⊢
   simp only [G0] at hb
   refine U.eq (fun n=>W9 n 2 i0 j0 l0 nm oP false [e'] fs' bs' its' els' ps' qs' f (M6 s)) (U.no rfl (U.I0 rfl ?_))
   (refine U.H6 (hp f s (by simp only [G0];omega)) ?_;rintro _ _ ⟨⟨f1,s1⟩,h,w1⟩;cases h;have lw1:=Wr.len w1;(try simp only [G0] at lw1);refine⟨rfl,U.I0 rfl ?_⟩)
   (refine U.H6 ((pC (ws:=[(3,[59])]) (K1 rfl) (by decide) (by decide) f1 s1 (by simp only [G0];omega))) ?_;rintro _ _ ⟨⟨f2,s2⟩,h,w2⟩;cases h;have lw2:=Wr.len w2;(try simp only [G0] at lw2);refine⟨rfl,U.I0 (K3 rfl (M3 _ _ _)) ?_⟩)
   refine U.ret ⟨(f2,s2),rfl,?_⟩
   have W:=w1.app w2
   rw [C1] at W
   exact W
  ·have h12:=gX (T:=cN) rfl hn
   intro f s hb
   (replace hb:s.length+14*([(1,GO),(1,nm),(3,[59]),nl]:List Tk).length≤68000000000:=hb;simp only [G0] at hb)
   refine U.eq (fun n=>W9 n 3 i0 j0 l0 nm [] false es' fs' bs' its' els' ps' qs' f (M6 s)) (U.no rfl (U.no rfl (U.I0 rfl ?_)))
   (refine U.H6 ((pC (ws:=[(1,GO),(1,nm),(3,[59])]) (P6 (by decide) (P6 h12 (K1 rfl))) (by simp) (by simp) f s (by simp only [G0];omega))) ?_;rintro _ _ ⟨⟨f1,s1⟩,h,w1⟩;cases h;have lw1:=Wr.len w1;(try simp only [G0] at lw1);refine⟨rfl,U.I0 (K3 rfl (M3 _ _ _)) ?_⟩)
   exact U.ret ⟨(f1,s1),rfl,w1⟩
  ·have hO1:∃ l' e',es'=[l',e']∧OE 4 l l'∧OE 4 e e':=by
    obtain⟨_,hl,hr⟩:=hX
    match es',hl,hr with
    |[l',e'],_,hr=>exact⟨l',e',rfl,hr 0 (by simp) (by simp),hr 1 (by simp) (by simp)⟩
   obtain⟨l',e',rfl,g1,g2⟩:=hO1
   have hl4:=Pd g1
   have he4:=Pd g2
   have e1:=FK g1
   have e2:=FK g2
   have p1:=XX (KE 4) hl4
   rw [Qm hlf g1] at p1
   have p2:=SJ he4
   intro f s hb
   show U _ fun r=>∃ st:Bool×G1,r=(true,[.bool st.1,.Z 1 (M6 st.2)])∧Wr (f,s) st ([(1,qG)]++(wE 4 l++([(3,[61])]++(wE 4 e++[(3,[59]),nl]))))
   replace hb:s.length+14*([(1,qG)]++(wE 4 l++([(3,[61])]++(wE 4 e++[(3,[59]),nl]))):List Tk).length≤68000000000:=hb
   rw [e1,e2] at hb ⊢
   simp only [G0] at hb
   refine U.eq (fun n=>W9 n 4 i0 j0 l0 [] [] false [l',e'] fs' bs' its' els' ps' qs' f (M6 s)) (U.no rfl (U.no rfl (U.no rfl (U.I0 rfl ?_))))
   (refine U.H6 ((M4 (ws:=[(1,qG)]) (K1 rfl) (by decide) f s (by simp only [A0,A8];omega))) ?_;rintro _ _ ⟨⟨f1,s1⟩,h,w1⟩;cases h;have lw1:=Wr.len w1;(try simp only [G0] at lw1);refine⟨rfl,U.I0 (K3 rfl (M3 _ _ _)) ?_⟩)
   refine U.I0 rfl ?_
   (refine U.H6 (p1 f1 s1 (by omega)) ?_;rintro _ _ ⟨⟨f2,s2⟩,h,w2⟩;cases h;have lw2:=Wr.len w2;(try simp only [G0] at lw2);refine⟨rfl,U.I0 rfl ?_⟩)
   (refine U.H6 ((M4 (ws:=[(3,[61])]) (K1 rfl) (by decide) f2 s2 (by simp only [A0,A8];omega))) ?_;rintro _ _ ⟨⟨f3,s3⟩,h,w3⟩;cases h;have lw3:=Wr.len w3;(try simp only [G0] at lw3);refine⟨rfl,U.I0 (K3 rfl (M3 _ _ _)) ?_⟩)
   refine U.I0 rfl (U.I0 (LR he4) ?_)
   (refine U.H6 (p2 f3 s3 (by omega)) ?_;rintro _ _ ⟨⟨f4,s4⟩,h,w4⟩;cases h;have lw4:=Wr.len w4;(try simp only [G0] at lw4);refine⟨rfl,U.I0 rfl ?_⟩)
   (refine U.H6 ((pC (ws:=[(3,[59])]) (K1 rfl) (by decide) (by decide) f4 s4 (by simp only [G0];omega))) ?_;rintro _ _ ⟨⟨f5,s5⟩,h,w5⟩;cases h;have lw5:=Wr.len w5;(try simp only [G0] at lw5);refine⟨rfl,U.I0 (K3 rfl (M3 _ _ _)) ?_⟩)
   exact U.ret ⟨(f5,s5),rfl,w1.app (w2.app (w3.app (w4.app w5)))⟩
  ·obtain⟨y0,rfl,hO⟩:=Xf hB
   have p1:=De hs hO
   intro f s hb
   (replace hb:s.length+14*([(1,lU),(3,[64]),(3,[42])]++yS 4 s0:List Tk).length≤68000000000:=hb;simp only [G0] at hb)
   refine U.eq (fun n=>W9 n 5 i0 j0 l0 [] [] false es' fs' [y0] its' els' ps' qs' f (M6 s)) (U.no rfl (U.no rfl (U.no rfl (U.no rfl (U.I0 rfl ?_)))))
   (refine U.H6 ((M4 (ws:=[(1,lU),(3,[64]),(3,[42])]) (K1 rfl) (by decide) f s (by simp only [A0,A8];omega))) ?_;rintro _ _ ⟨⟨f1,s1⟩,h,w1⟩;cases h;have lw1:=Wr.len w1;(try simp only [G0] at lw1);refine⟨rfl,U.I0 (K3 rfl (M3 _ _ _)) ?_⟩)
   refine U.I0 rfl (U.I0 (HN hO) ?_)
   (refine U.H6 (p1 f1 s1 (by omega)) ?_;rintro _ _ ⟨⟨f2,s2⟩,h,w2⟩;cases h;have lw2:=Wr.len w2;(try simp only [G0] at lw2);refine⟨rfl,U.I0 rfl ?_⟩)
   exact U.ret ⟨(f2,s2),rfl,w1.app w2⟩
  ·obtain⟨y0,rfl,hO⟩:=Xf hB
   have p1:=De hs hO
   intro f s hb
   (replace hb:s.length+14*([(1,lU),(3,[64]),(3,[40]),(1,CT),(1,vZ),(3,[41])]++yS 4 s0:List Tk).length≤68000000000:=hb;simp only [G0] at hb)
   refine U.eq (fun n=>W9 n 6 i0 j0 l0 vZ [] false es' fs' [y0] its' els' ps' qs' f (M6 s)) (U.no rfl (U.no rfl (U.no rfl (U.no rfl (U.no rfl (U.I0 rfl ?_))))))
   (refine U.H6 ((M4 (ws:=[(1,lU),(3,[64]),(3,[40]),(1,CT),(1,vZ),(3,[41])]) (K1 rfl) (by decide) f s (by simp only [A0,A8];omega))) ?_;rintro _ _ ⟨⟨f1,s1⟩,h,w1⟩;cases h;have lw1:=Wr.len w1;(try simp only [G0] at lw1);refine⟨rfl,U.I0 (K3 rfl (M3 _ _ _)) ?_⟩)
   refine U.I0 rfl (U.I0 (HN hO) ?_)
   (refine U.H6 (p1 f1 s1 (by omega)) ?_;rintro _ _ ⟨⟨f2,s2⟩,h,w2⟩;cases h;have lw2:=Wr.len w2;(try simp only [G0] at lw2);refine⟨rfl,U.I0 rfl ?_⟩)
   exact U.ret ⟨(f2,s2),rfl,w1.app w2⟩
  ·obtain⟨y0,rfl,hO⟩:=Xf hB
   have p1:=Hg (T:=CO) (by decide) (nm:=[102]) (ty:=[]) (sg:=sg) (es:=es') (fs:=fs') (els:=[]) (ps:=[]) (qs:=[]) (i:=i0) (j:=j0) (l:=l0) (els':=els') (ps':=ps') (qs':=qs') (by decide) (by have:=hX.2.1;omega) (JT hX) (by omega) hx hs hO hI
   intro f s hb
   have eW:yI (d+1) (I 7 [102] [] sg es [] [s0] its [] [] [])=aA1 sg [102] es' its s0:=by
    unfold aA1;rw [← Kq hX.2];rfl
   rw [eW] at hb ⊢
   refine U.eq (fun n=>W9 n 7 i0 j0 l0 [102] [] sg es' fs' [y0] its' els' ps' qs' f (M6 s)) (U.no rfl (U.no rfl (U.no rfl (U.no rfl (U.no rfl (U.no rfl (U.I0 rfl ?_)))))))
   (refine U.H6 (p1 f s hb) ?_;rintro _ _ ⟨⟨f1,s1⟩,h,w1⟩;cases h;have lw1:=Wr.len w1;(try simp only [G0] at lw1);refine⟨rfl,U.I0 rfl ?_⟩)
   exact U.ret ⟨(f1,s1),rfl,w1⟩
  ·have cp:=Kx (by omega) hpc hP
   have cq:=Kx (by omega) hqc hQ
   intro f s hb
   have eW:yI (d+1) (I 8 [117,48+k] uN false [] [] [] [] [] ps qs)=[(1,uN)]++((bif ps.isEmpty then [] else [(3,[35])]++oI ps)++([(1,[117,48+k])]++(oI qs++[(3,[59]),nl]))):=rfl
   rw [eW] at hb ⊢
   have J:∀ (f1:Bool) (s1:G1) (u:List Tk),Wr (f,s) (f1,s1) u→s1.length+14*([(1,[117,48+k])]++(oI qs++[(3,[59]),nl]):List Tk).length≤68000000000→U (fun n=>iU n (M6 s1) f1 [117,48+k] qs') (fun r=>∃ st:Bool×G1,r=(true,[.bool st.1,.Z 1 (M6 st.2)])∧Wr (f,s) st (u++([(1,[117,48+k])]++(oI qs++[(3,[59]),nl])))):=by
    intro f1 s1 u hu hb
    simp only [G0] at hb
    refine O6 (fun n=>iU.eq_1 n _ _ _ _) ?_
    (refine U.H6 ((M4 (ws:=[(1,[117,48+k])]) (P6 (Up 117 (by decide) hk) (K1 rfl)) (by simp) f1 s1 (by simp only [A0,A8];omega))) ?_;rintro _ _ ⟨⟨f2,s2⟩,h,w2⟩;cases h;have lw2:=Wr.len w2;(try simp only [G0] at lw2);refine⟨rfl,U.I0 (K3 rfl (M3 _ _ _)) ?_⟩)
    (refine U.H6 (cq f2 s2 (by omega)) ?_;rintro _ _ ⟨⟨f3,s3⟩,h,w3⟩;cases h;have lw3:=Wr.len w3;(try simp only [G0] at lw3);refine⟨rfl,U.I0 rfl ?_⟩)
    (refine U.H6 ((pC (ws:=[(3,[59])]) (K1 rfl) (by decide) (by decide) f3 s3 (by simp only [G0];omega))) ?_;rintro _ _ ⟨⟨f4,s4⟩,h,w4⟩;cases h;have lw4:=Wr.len w4;(try simp only [G0] at lw4);refine⟨rfl,U.I0 (K3 rfl (M3 _ _ _)) ?_⟩)
    exact U.ret ⟨(f4,s4),rfl,hu.app (w2.app (w3.app w4))⟩
   refine U.eq (fun n=>W9 n 8 i0 j0 l0 [117,48+k] uN false es' fs' bs' its' els' ps' qs' f (M6 s)) (U.no rfl (U.no rfl (U.no rfl (U.no rfl (U.no rfl (U.no rfl (U.no rfl (U.I0 rfl ?_))))))))
   have hb2:s.length+14*(1+((bif ps.isEmpty then [] else [(3,[35])]++oI ps:List Tk).length+([(1,[117,48+k])]++(oI qs++[(3,[59]),nl]):List Tk).length))≤68000000000:=by
    rw [A7,A7] at hb;simpa only [A0,A8,C5] using hb
   clear hb
   (refine U.H6 ((M4 (ws:=[(1,uN)]) (K1 rfl) (by decide) f s (by simp only [A0,A8];omega))) ?_;rintro _ _ ⟨⟨f1,s1⟩,h,w1⟩;cases h;have lw1:=Wr.len w1;(try simp only [G0] at lw1);refine⟨rfl,U.I0 (K3 rfl (M3 _ _ _)) ?_⟩)
   have el:=hP.1
   refine U.N9 (fun h0=>?_) fun h0=>?_
   ·have h0:=E7 h0
    have:ps.isEmpty=false:=by
     cases ps with
     |nil=>simp at el;omega
     |cons=>rfl
    rw [this] at hb2 ⊢
    simp only [cond_false] at hb2
    rw [A7] at hb2
    simp only [A0,A8] at hb2
    (refine U.H6 ((M4 (ws:=[(3,[35])]) (K1 rfl) (by decide) f1 s1 (by simp only [A0,A8];omega))) ?_;rintro _ _ ⟨⟨f2,s2⟩,h,w2⟩;cases h;have lw2:=Wr.len w2;(try simp only [G0] at lw2);refine⟨rfl,U.I0 (K3 rfl (M3 _ _ _)) ?_⟩)
    (refine U.H6 (cp f2 s2 (by omega)) ?_;rintro _ _ ⟨⟨f3,s3⟩,h,w3⟩;cases h;have lw3:=Wr.len w3;(try simp only [G0] at lw3);refine⟨rfl,U.I0 rfl ?_⟩)
    refine (J f3 s3 _ (w1.app (w2.app w3)) (by omega)).mono fun r ⟨st,h1,h2⟩=>⟨st,h1,?_⟩
    simpa using h2
   ·have h0:=E9 h0
    have:ps=[]:=E5.1 (by omega)
    subst this
    exact J f1 s1 _ w1 (by omega)
  ·have pb:=Bo ih (t:=[103]) (by decide) hi hx hI
   match es,hl,he,hX with
   |[a,b,c],_,he,hX=>
    obtain⟨a',b',c',rfl,h1,h2,h3,e1,e2,e3⟩:=Xo hX
    have p1:=Tb (t:=[105]) (by decide) h1 h2 h3
    intro f s hb
    show U _ fun r=>∃ st:Bool×G1,r=(true,[.bool st.1,.Z 1 (M6 st.2)])∧Wr (f,s) st (bR [105] [a,b,c]++[gB [103] its].flatMap (XG (yI d)))
    replace hb:s.length+14*(bR [105] [a,b,c]++[gB [103] its].flatMap (XG (yI d)):List Tk).length≤68000000000:=hb
    rw [Ez e1 e2 e3] at hb ⊢
    rw [A7] at hb
    refine U.eq (fun n=>W9 n 9 i0 j0 l0 [105] [] false [a',b',c'] fs' bs' its' els' ps' qs' f (M6 s)) (U.no rfl (U.no rfl (U.no rfl (U.no rfl (U.no rfl (U.no rfl (U.no rfl (U.no rfl (U.I0 rfl ?_)))))))))
    (refine U.H6 (p1 f s (by omega)) ?_;rintro _ _ ⟨⟨f1,s1⟩,h,w1⟩;cases h;have lw1:=Wr.len w1;(try simp only [G0] at lw1);refine⟨rfl,U.I0 rfl ?_⟩)
    (refine U.H6 (pb f1 s1 (by omega)) ?_;rintro _ _ ⟨⟨f2,s2⟩,h,w2⟩;cases h;have lw2:=Wr.len w2;(try simp only [G0] at lw2);refine⟨rfl,U.I0 rfl ?_⟩)
    exact U.ret ⟨(f2,s2),rfl,w1.app w2⟩
  ·have pb:=Bo ih (t:=[116]) (by decide) hi hx hI
   obtain⟨e',rfl,h1,e1⟩:=Gi hX
   have p1:=WK h1
   intro f s hb
   have eW:yI (d+1) (I 10 [] [] false [e] [] [] [gB [116] its] els [] [])=[(1,uI)]++(pW e'++([gB [116] its].flatMap (XG (yI d))++(bif els.isEmpty then [] else [(1,dR)]++els.flatMap (XG (yI d))))):=by
    rw [← Rm e1];rfl
   rw [eW] at hb ⊢
   refine U.eq (fun n=>W9 n 10 i0 j0 l0 [] [] false [e'] fs' bs' its' els' ps' qs' f (M6 s)) (U.no rfl (U.no rfl (U.no rfl (U.no rfl (U.no rfl (U.no rfl (U.no rfl (U.no rfl (U.no rfl (U.I0 rfl ?_))))))))))
   have hb2:s.length+14*(1+((pW e').length+(([gB [116] its].flatMap (XG (yI d))).length+(bif els.isEmpty then [] else [(1,dR)]++els.flatMap (XG (yI d)):List Tk).length)))≤68000000000:=by
    rw [A7,A7,A7] at hb;simpa only [A0,A8,C5] using hb
   clear hb
   (refine U.H6 ((M4 (ws:=[(1,uI)]) (K1 rfl) (by decide) f s (by simp only [A0,A8];omega))) ?_;rintro _ _ ⟨⟨f1,s1⟩,h,w1⟩;cases h;have lw1:=Wr.len w1;(try simp only [G0] at lw1);refine⟨rfl,U.I0 (K3 rfl (M3 _ _ _)) ?_⟩)
   refine U.I0 rfl (U.I0 (LR h1) ?_)
   (refine U.H6 (p1 f1 s1 (by omega)) ?_;rintro _ _ ⟨⟨f2,s2⟩,h,w2⟩;cases h;have lw2:=Wr.len w2;(try simp only [G0] at lw2);refine⟨rfl,U.I0 rfl ?_⟩)
   have l2:s2.length≤s1.length+14*(pW e').length:=w2.len
   refine U.H6 (pb f2 s2 (by omega)) ?_
   rintro _ _ ⟨⟨f3,s3⟩,h,w3⟩;cases h
   have l3:s3.length≤s2.length+14*([gB [116] its].flatMap (XG (yI d))).length:=w3.len
   refine⟨rfl,U.I0 rfl ?_⟩
   rcases hel with rfl|⟨zs,rfl,hz,hzx⟩
   ·have:els'=[]:=E5.1 hE.1.symm
    subst this
    exact U.no rfl (U.ret ⟨(f3,s3),rfl,by simpa using w1.app (w2.app w3)⟩)
   ·have pe:=Bo ih (t:=[101]) (by decide) hz hzx hE
    have el:=hE.1
    rw [show (bif ([gB [101] zs]:List D).isEmpty then [] else [(1,dR)]++[gB [101] zs].flatMap (XG (yI d)):List Tk)=[(1,dR)]++[gB [101] zs].flatMap (XG (yI d)) from rfl] at hb2 ⊢
    rw [List.singleton_append,A0] at hb2
    refine U.I0 (E6 (by simp at el;omega)) ?_
    (refine U.H6 ((M4 (ws:=[(1,dR)]) (K1 rfl) (by decide) f3 s3 (by simp only [A0,A8];omega))) ?_;rintro _ _ ⟨⟨f4,s4⟩,h,w4⟩;cases h;have lw4:=Wr.len w4;(try simp only [G0] at lw4);refine⟨rfl,U.I0 (K3 rfl (M3 _ _ _)) ?_⟩)
    refine U.H6 (pe f4 s4 (by omega)) ?_
    rintro _ _ ⟨⟨f5,s5⟩,h,w5⟩;cases h
    refine⟨rfl,U.I0 rfl ?_⟩
    exact U.ret ⟨(f5,s5),rfl,w1.app (w2.app (w3.app (w4.app w5)))⟩
theorem Wf {m:Nat}{x y:D}(h:xP x)(h':OI m x y):Pr (fun n=>V8 n (J6 I4 y)) (rJ x):=by
 rw [VW h']
 obtain⟨nm,e,rfl,hn,he⟩:=h
 obtain⟨m',k',i0,j0,l0,nm',ty',sg',es2,fs2,bs,its,els,ps,qs,es',fs',bs',its',els',ps',qs',_,e',rfl,hX,_⟩:=wU h'
 cases e'
 obtain⟨e',rfl,h1,e1⟩:=Gi hX
 have eW:rJ (I 2 nm rL false [e] [] [] [] [] [] [])=[(1,rL),(1,nm),(3,[61])]++wE 4 e':=by
  rw [← e1];rfl
 rw [eW]
 exact Nj (gX (T:=cN) rfl hn) (ty:=rL) (by decide) h1 2 i0 j0 l0 false fs' bs' its' els' ps' qs'
theorem Ro {xs ys pp qq ii:List D}{nm:G1}{i k l:Int}{m:Nat}(hn:xs.length≤10)(h:∀ x∈xs,xP x)(hR:Rl (OI m) xs ys)(f:Bool)(s:G1)(hb:s.length+14*(lW rJ xs).length≤68000000000) :
  U (fun n=>Q9 n (.Z 14 ys) (ys.length:Int) (0:Int) (.bool f) (.str nm) i k l (.Z 14 pp) (.Z 14 qq) (.Z 14 ii) (.Z 1 (M6 s))) fun r=>∃ st:Bool×G1,r=(false,[.Z 14 ys,.int .i64 (ys.length:Int),.int .i64 (ys.length:Int),.bool st.1,.str nm,.int .i64 i,.int .i64 k,.int .i64 l,.Z 14 pp,.Z 14 qq,.Z 14 ii,.Z 1 (M6 st.2)])∧Wr (f,s) st (lW rJ xs):=by
 have el:=hR.1
 ·refine WM (xs:=xs) (w:=rJ) (T:=fun j f s n=>Q9 n (.Z 14 ys) (ys.length:Int) j (.bool f) (.str nm) i k l (.Z 14 pp) (.Z 14 qq) (.Z 14 ii) (.Z 1 (M6 s))) (by omega) (by show s.length+_≤_;omega) (fun j f s hj hb K=>?_) fun f2 s2 W=>?_
  ·have hj':j<ys.length:=by omega
   have r:=hR.2 j hj hj'
   have p1:=Wf (h _ (C6 hj)) r
   refine U.eq (fun n=>mO n _ _ _ _ _ _ _ _ _ _ _ _) (U.I0 (E6 (by omega)) (U.I0 (O5 hj') ?_))
   rw [bN hj']
   refine U.I0 (ZW r) (U.N9 (fun h0=>?_) fun h0=>?_)
   ·have h0:=E7 h0
    rw [show (j==0)=false from F4.2 (by omega)] at hb K
    simp only [cond_false,G0] at hb
    (refine U.H6 ((M4 (ws:=[(3,[44])]) (K1 rfl) (by decide) f s (by simp only [A0,A8];omega))) ?_;rintro _ _ ⟨⟨f1,s1⟩,h,w1⟩;cases h;have lw1:=Wr.len w1;(try simp only [G0] at lw1);refine⟨rfl,U.I0 (K3 rfl (M3 _ _ _)) ?_⟩)
    (refine U.H6 (p1 f1 s1 (by omega)) ?_;rintro _ _ ⟨⟨f2,s2⟩,h,w2⟩;cases h;have lw2:=Wr.len w2;(try simp only [G0] at lw2);refine⟨rfl,U.I0 rfl ?_⟩)
    exact K f2 s2 (w1.app w2)
   ·have h0:=E9 h0
    have:j=0:=by omega
    subst this
    (refine U.H6 (p1 f s hb) ?_;rintro _ _ ⟨⟨f2,s2⟩,h,w2⟩;cases h;have lw2:=Wr.len w2;(try simp only [G0] at lw2);refine⟨rfl,U.I0 rfl ?_⟩)
    exact K f2 s2 w2
  ·exact U.eq (fun n=>mO n _ _ _ _ _ _ _ _ _ _ _ _) (U.no (E8 (by omega)) (U.ret ⟨(f2,s2),by rw [el],W⟩))
theorem Wj {xs ys pp qq ii:List D}{nm:G1}{i k l:Int}{m:Nat}(hn:xs.length≤10)(h:∀ x∈xs,xN nA x)(hR:Rl (OI m) xs ys)(f:Bool)(s:G1)(hb:s.length+14*(lW kC xs).length≤68000000000) :
  U (fun n=>R0 n (.Z 14 ys) (ys.length:Int) (0:Int) (.bool f) (.str nm) i k l (.Z 14 pp) (.Z 14 qq) (.Z 14 ii) (.Z 1 (M6 s))) fun r=>∃ st:Bool×G1,r=(false,[.Z 14 ys,.int .i64 (ys.length:Int),.int .i64 (ys.length:Int),.bool st.1,.str nm,.int .i64 i,.int .i64 k,.int .i64 l,.Z 14 pp,.Z 14 qq,.Z 14 ii,.Z 1 (M6 st.2)])∧Wr (f,s) st (lW kC xs):=by
 have el:=hR.1
 ·refine WM (xs:=xs) (w:=kC) (T:=fun j f s n=>R0 n (.Z 14 ys) (ys.length:Int) j (.bool f) (.str nm) i k l (.Z 14 pp) (.Z 14 qq) (.Z 14 ii) (.Z 1 (M6 s))) (by omega) (by show s.length+_≤_;omega) (fun j f s hj hb K=>?_) fun f2 s2 W=>?_
  ·have hj':j<ys.length:=by omega
   have r:=hR.2 j hj hj'
   have p1:=Yn (T:=nA) (by decide) (h _ (C6 hj)) r
   refine U.eq (fun n=>mP n _ _ _ _ _ _ _ _ _ _ _ _) (U.I0 (E6 (by omega)) (U.I0 (O5 hj') ?_))
   rw [bN hj']
   refine U.I0 (ZW r) (U.N9 (fun h0=>?_) fun h0=>?_)
   ·have h0:=E7 h0
    rw [show (j==0)=false from F4.2 (by omega)] at hb K
    simp only [cond_false,G0] at hb
    (refine U.H6 ((M4 (ws:=[(3,[44])]) (K1 rfl) (by decide) f s (by simp only [A0,A8];omega))) ?_;rintro _ _ ⟨⟨f1,s1⟩,h,w1⟩;cases h;have lw1:=Wr.len w1;(try simp only [G0] at lw1);refine⟨rfl,U.I0 (K3 rfl (M3 _ _ _)) ?_⟩)
    (refine U.H6 (p1 f1 s1 (by omega)) ?_;rintro _ _ ⟨⟨f2,s2⟩,h,w2⟩;cases h;have lw2:=Wr.len w2;(try simp only [G0] at lw2);refine⟨rfl,U.I0 rfl ?_⟩)
    exact K f2 s2 (w1.app w2)
   ·have h0:=E9 h0
    have:j=0:=by omega
    subst this
    (refine U.H6 (p1 f s hb) ?_;rintro _ _ ⟨⟨f2,s2⟩,h,w2⟩;cases h;have lw2:=Wr.len w2;(try simp only [G0] at lw2);refine⟨rfl,U.I0 rfl ?_⟩)
    exact K f2 s2 w2
  ·exact U.eq (fun n=>mP n _ _ _ _ _ _ _ _ _ _ _ _) (U.no (E8 (by omega)) (U.ret ⟨(f2,s2),by rw [el],W⟩))
theorem Qs:∀ k:Nat,k≤8→gw [109,48+UInt8.ofNat k]:=by decide +kernel
def yM (x:D):List Tk:=[(1,qV),(1,(x.at_ 0).s)]++((bif (x.at_ 1).l.isEmpty then [] else [(3,[35]),(3,[40])]++(lW rJ (x.at_ 1).l++[(3,[41])]))++([(3,[40])]++(lW kC (x.at_ 2).l++([(3,[41]),(3,[59]),nl]++((x.at_ 3).l.flatMap (yI 4)++[(1,mH),nl])))))
def XD (nm:G1)(x:D):Prop:=∃ ps qs its,x=M nm ps qs its∧ps.length≤2∧qs.length≤3∧its.length≤5∧(∀ p∈ps,xP p)∧(∀ q∈qs,xN nA q)∧∀ i∈its,xI 4 i
theorem Qq {nm0:G1}(hg:gw nm0){x y:D}(h:XD nm0 x)(h':OM x y):Pr (fun n=>Y3 n (J6 O1 y)) (yM x):=by
 intro f s hb
 obtain⟨ps,qs,its,rfl,l1,l2,l3,h1,h2,h3⟩:=h
 obtain⟨nm,i,kk,l,ps2,qs2,its2,ps',qs',its',e,rfl,_,_,_,_,hP,hQ,hI⟩:=h'
 cases e
 have p3:Pr (fun n=>P7 n (.Z 14 its')) (its.flatMap (yI 4)):=Cc hI.1 (by omega) fun j hj hj'=>⟨Yj 4 _ _ 8 (h3 _ (C6 hj)) (hI.2 j hj hj'),ZW (hI.2 j hj hj')⟩
 have eW:yM (M nm0 ps qs its)=[(1,qV),(1,nm0)]++((bif ps.isEmpty then [] else [(3,[35]),(3,[40])]++(lW rJ ps++[(3,[41])]))++([(3,[40])]++(lW kC qs++([(3,[41]),(3,[59]),nl]++(its.flatMap (yI 4)++[(1,mH),nl]))))):=rfl
 rw [eW] at hb ⊢
 have J:∀ (f1:Bool) (s1:G1) (u:List Tk),Wr (f,s) (f1,s1) u→s1.length+14*([(3,[40])]++(lW kC qs++([(3,[41]),(3,[59]),nl]++(its.flatMap (yI 4)++[(1,mH),nl]))):List Tk).length≤68000000000→
   U (fun n=>gS n f1 nm0 i kk l ps' qs' its' (M6 s1)) fun r=>∃ st:Bool×G1,r=(true,[.bool st.1,.Z 1 (M6 st.2)])∧Wr (f,s) st (u++([(3,[40])]++(lW kC qs++([(3,[41]),(3,[59]),nl]++(its.flatMap (yI 4)++[(1,mH),nl]))))):=by
  intro f1 s1 u hu hb
  simp only [G0] at hb
  refine O6 (fun n=>gS.eq_1 n _ _ _ _ _ _ _ _ _) ?_
  (refine U.H6 ((M4 (ws:=[(3,[40])]) (K1 rfl) (by decide) f1 s1 (by simp only [A0,A8];omega))) ?_;rintro _ _ ⟨⟨f2,s2⟩,h,w2⟩;cases h;have lw2:=Wr.len w2;(try simp only [G0] at lw2);refine⟨rfl,U.I0 (K3 rfl (M3 _ _ _)) ?_⟩)
  refine U.L3 (Wj (xs:=qs) (ys:=qs') (pp:=ps') (qq:=qs') (ii:=its') (nm:=nm0) (i:=i) (k:=kk) (l:=l) (by omega) h2 hQ f2 s2 (by omega)) (fun ds h=>by obtain⟨_,h,_⟩:=h;cases h) fun ds h=>?_
  obtain⟨⟨f3,s3⟩,h,w3⟩:=h
  cases h
  have l3:=w3.len
  refine U.I0 rfl ?_
  (refine U.H6 ((pC (ws:=[(3,[41]),(3,[59])]) (K1 rfl) (by decide) (by decide) f3 s3 (by simp only [G0];omega))) ?_;rintro _ _ ⟨⟨f4,s4⟩,h,w4⟩;cases h;have lw4:=Wr.len w4;(try simp only [G0] at lw4);refine⟨rfl,U.I0 (K3 rfl (M3 _ _ _)) ?_⟩)
  (refine U.H6 (p3 f4 s4 (by omega)) ?_;rintro _ _ ⟨⟨f5,s5⟩,h,w5⟩;cases h;have lw5:=Wr.len w5;(try simp only [G0] at lw5);refine⟨rfl,U.I0 rfl ?_⟩)
  (refine U.H6 ((pC (ws:=[(1,mH)]) (K1 rfl) (by decide) (by decide) f5 s5 (by simp only [G0];omega))) ?_;rintro _ _ ⟨⟨f6,s6⟩,h,w6⟩;cases h;have lw6:=Wr.len w6;(try simp only [G0] at lw6);refine⟨rfl,U.I0 (K3 rfl (M3 _ _ _)) ?_⟩)
  exact U.ret ⟨(f6,s6),rfl,hu.app (w2.app (w3.app (w4.app (w5.app w6))))⟩
 show U (fun n=>Y3 n (AM nm0 i kk l ps' qs' its') (.bool f) (.Z 1 (M6 s))) _
 refine U.eq (fun n=>yE n nm0 i kk l ps' qs' its' f (M6 s)) ?_
 generalize ([(3,[40])]++(lW kC qs++([(3,[41]),(3,[59]),nl]++(its.flatMap (yI 4)++[(1,mH),nl]))):List Tk)=R at hb J ⊢
 have hb2:s.length+14*(2+((bif ps.isEmpty then [] else [(3,[35]),(3,[40])]++(lW rJ ps++[(3,[41])]):List Tk).length+R.length))≤68000000000:=by
  rw [A7,A7] at hb;simpa only [A0,A8,C5] using hb
 clear hb
 (refine U.H6 ((M4 (ws:=[(1,qV),(1,nm0)]) (P6 (by decide) (P6 hg (K1 rfl))) (by simp) f s (by simp only [A0,A8];omega))) ?_;rintro _ _ ⟨⟨f1,s1⟩,h,w1⟩;cases h;have lw1:=Wr.len w1;(try simp only [G0] at lw1);refine⟨rfl,U.I0 (K3 rfl (M3 _ _ _)) ?_⟩)
 have el:=hP.1
 refine U.N9 (fun h0=>?_) fun h0=>?_
 ·have h0:=E7 h0
  have:ps.isEmpty=false:=by
   cases ps with
   |nil=>simp at el;omega
   |cons=>rfl
  rw [this] at hb2 ⊢
  simp only [cond_false,G0] at hb2
  (refine U.H6 ((M4 (ws:=[(3,[35]),(3,[40])]) (K1 rfl) (by decide) f1 s1 (by simp only [A0,A8];omega))) ?_;rintro _ _ ⟨⟨f2,s2⟩,h,w2⟩;cases h;have lw2:=Wr.len w2;(try simp only [G0] at lw2);refine⟨rfl,U.I0 (K3 rfl (M3 _ _ _)) ?_⟩)
  refine U.L3 (Ro (xs:=ps) (ys:=ps') (pp:=ps') (qq:=qs') (ii:=its') (nm:=nm0) (i:=i) (k:=kk) (l:=l) (by omega) h1 hP f2 s2 (by omega)) (fun ds h=>by obtain⟨_,h,_⟩:=h;cases h) fun ds h=>?_
  obtain⟨⟨f3,s3⟩,h,w3⟩:=h
  cases h
  have l3:=w3.len
  refine U.I0 rfl ?_
  (refine U.H6 ((M4 (ws:=[(3,[41])]) (K1 rfl) (by decide) f3 s3 (by simp only [A0,A8];omega))) ?_;rintro _ _ ⟨⟨f4,s4⟩,h,w4⟩;cases h;have lw4:=Wr.len w4;(try simp only [G0] at lw4);refine⟨rfl,U.I0 (K3 rfl (M3 _ _ _)) ?_⟩)
  refine (J f4 s4 _ (w1.app (w2.app (w3.app w4))) (by omega)).mono fun r ⟨st,h1,h2⟩=>⟨st,h1,?_⟩
  simpa using h2
 ·have h0:=E9 h0
  have:ps=[]:=E5.1 (by omega)
  subst this
  exact J f1 s1 _ w1 (by omega)
theorem Ic (s:G1):tY (M6 s)=true:=by
 induction s with
 |nil=>rfl
 |cons c s ih=>
  show (decide (0≤(c.toNat:Int))&&decide ((c.toNat:Int)<256)&&tY (M6 s))=true
  have:=c.toNat_lt
  rw [ih,E6 (by omega),E6 (by omega)];rfl
theorem Ja (s:G1):(M6 s).map toByte=s:=by
 induction s with
 |nil=>rfl
 |cons c s ih=>
  show UInt8.ofNat (c.toNat:Int).toNat::(M6 s).map toByte=c::s
  rw [ih,E1,UInt8.ofNat_toNat]
def aD1 (nms:List G1)(ms:List D):Prop:=nms.length=ms.length∧∀ (k:Nat) (h:k<ms.length) (h':k<nms.length),XD nms[k] ms[k]∧gw nms[k]
theorem Ag {nms:List G1}{ms ys:List D}(hn:ms.length≤6)(h:aD1 nms ms)(hR:Rl OM ms ys)(hL:14*(ms.flatMap yM).length≤68000000000):U (fun n=>kE n (.Z 7 ys)) fun r=>r=(true,[.str (PI (ms.flatMap yM) (true,[])).2]):=by
 have el:=hR.1
 refine U.eq (fun n=>XT n ys) (U.L3 (Q:=fun r=>∃ st:Bool×G1,r=(false,[.Z 7 ys,.int .i64 (ys.length:Int),.int .i64 (ys.length:Int),.bool st.1,.Z 1 (M6 st.2)])∧Wr (true,[]) st (ms.flatMap yM)) ?_ (fun ds h=>by obtain⟨_,h,_⟩:=h;cases h) fun ds h=>?_)
 ·refine WN (xs:=ms) (w:=yM) (f:=true) (s:=[]) (T:=fun j f s n=>gY n (.Z 7 ys) (ys.length:Int) j (.bool f) (.Z 1 (M6 s))) (by omega) (by show 0+_≤_;rw [C5];exact hL) (fun j f s hj hb K=>?_) fun f2 s2 W=>?_
  ·have hj':j<ys.length:=by omega
   have r:=hR.2 j hj hj'
   obtain⟨hm,hg⟩:=h.2 j hj (by rw [h.1];exact hj)
   refine U.eq (fun n=>zB n _ _ _ _ _) (U.I0 (E6 (by omega)) (U.I0 (O5 hj') ?_))
   rw [bN hj']
   refine U.I0 (by obtain⟨_,_,_,_,_,_,_,_,_,_,_,e,_⟩:=r;rw [e];rfl) ?_
   (refine U.H6 (Qq hg hm r f s hb) ?_;rintro _ _ ⟨⟨f2,s2⟩,h,w2⟩;cases h;have lw2:=Wr.len w2;(try simp only [G0] at lw2);refine⟨rfl,U.I0 rfl ?_⟩)
   exact K f2 s2 w2
  ·exact U.eq (fun n=>zB n _ _ _ _ _) (U.no (E8 (by omega)) (U.ret ⟨(f2,s2),by rw [el],W⟩))
 ·obtain⟨⟨f2,s2⟩,h,w2⟩:=h
  cases h
  refine U.I0 rfl (U.I0 (by show (tY (M6 s2)&&true&&true)=true;rw [Ic];rfl) (U.ret ?_))
  show (true,[D.str ((M6 s2).map toByte)])=_
  rw [Ja,← w2.1]
section
theorem Tn:∀ (n:Nat) (x:D),xI n x→qI n x≤(wI n x).length
 |0,_,h=>h.elim
 |n+1,x,h=>by
  have ih:=Tn n
  rcases h with (h|h)|⟨nm,e,rfl,hn,he⟩|⟨nm,rfl,hn⟩|⟨l0,e,rfl,hlf,he⟩|⟨s0,rfl,hs⟩|⟨s0,rfl,hs⟩|⟨sg,es,its,s0,rfl,h2e,he,h1n,h2n,hx,hs⟩|⟨k,ps,qs,rfl,hk,hp,hq,hpc,hqc⟩|⟨es,its,rfl,h3,he,hn,hx⟩|⟨e,its,els,rfl,he,hn,hx,hel⟩
  ·obtain⟨nm,ty,q,f,sg,es,fs,rfl,_⟩:=jG h
   show 1+0≤(nW nm ty sg es fs++[(3,[59])]:List Tk).length
   simp only [G0];omega
  ·obtain⟨nm,ty,q,f,sg,es,fs,rfl,_⟩:=jG h
   show 1+0≤(nW nm ty sg es fs++[(3,[59])]:List Tk).length
   simp only [G0];omega
  ·show 1+0≤([(1,oP),(1,nm),(3,[61])]++(wE 4 e++[(3,[59])]):List Tk).length
   simp only [G0];omega
  ·show 1+0≤([(1,GO),(1,nm),(3,[59])]:List Tk).length
   simp only [A0,A8];omega
  ·show 1+0≤([(1,qG)]++(wE 4 l0++([(3,[61])]++(wE 4 e++[(3,[59])]))):List Tk).length
   simp only [G0];omega
  ·have:=Ft 4 s0 hs
   show 1+((qS 4 s0+0)+0+0)≤([(1,lU),(3,[64]),(3,[42])]++wS 4 s0:List Tk).length
   simp only [G0];omega
  ·have:=Ft 4 s0 hs
   show 1+((qS 4 s0+0)+0+0)≤([(1,lU),(3,[64]),(3,[40]),(1,CT),(1,vZ),(3,[41])]++wS 4 s0:List Tk).length
   simp only [G0];omega
  ·have:=Ft 4 s0 hs
   show 1+qS 4 s0≤([(1,yG)]++((bif sg then [(1,mL)] else [])++(pA es++([(1,[102]),(3,[59])]++(its.flatMap EP++(wS 4 s0++[(1,mG)]))))):List Tk).length
   simp only [G0];omega
  ·show 1+0≤([(1,uN)]++((bif ps.isEmpty then [] else [(3,[35])]++oI ps)++([(1,[117,48+k])]++(oI qs++[(3,[59])]))):List Tk).length
   simp only [G0];omega
  ·have h1:sQ (qI n) its≤(its.flatMap (wI n)).length:=KY fun x hx'=>ih x (hx x hx')
   have eB:[gB [103] its].flatMap (vO (wI n))=[(1,V9),(3,[58]),(1,[103])]++(its.flatMap (wI n)++[(1,fF)]):=by
    show ([(1,V9),(3,[58]),(1,[103])]++(its.flatMap (wI n)++[(1,fF)]))++[]=_
    rw [D5]
   show 1+(0+(sQ (qI n) its+0)+0)≤(bR [105] es++[gB [103] its].flatMap (vO (wI n)):List Tk).length
   rw [eB]
   simp only [G0];omega
  ·have h1:sQ (qI n) its≤(its.flatMap (wI n)).length:=KY fun x hx'=>ih x (hx x hx')
   have eB:[gB [116] its].flatMap (vO (wI n))=[(1,V9),(3,[58]),(1,[116])]++(its.flatMap (wI n)++[(1,fF)]):=by
    show ([(1,V9),(3,[58]),(1,[116])]++(its.flatMap (wI n)++[(1,fF)]))++[]=_
    rw [D5]
   rcases hel with rfl|⟨ys,rfl,hyn,hyx⟩
   ·show 1+(0+(sQ (qI n) its+0)+0)≤([(1,uI)]++(pW e++([gB [116] its].flatMap (vO (wI n))++[])):List Tk).length
    rw [eB]
    simp only [G0];omega
   ·have h2:sQ (qI n) ys≤(ys.flatMap (wI n)).length:=KY fun x hx'=>ih x (hyx x hx')
    have eC:[gB [101] ys].flatMap (vO (wI n))=[(1,V9),(3,[58]),(1,[101])]++(ys.flatMap (wI n)++[(1,fF)]):=by
     show ([(1,V9),(3,[58]),(1,[101])]++(ys.flatMap (wI n)++[(1,fF)]))++[]=_
     rw [D5]
    show 1+(0+(sQ (qI n) its+0)+(sQ (qI n) ys+0))≤([(1,uI)]++(pW e++([gB [116] its].flatMap (vO (wI n))++([(1,dR)]++[gB [101] ys].flatMap (vO (wI n))))):List Tk).length
    rw [eB,eC]
    simp only [G0];omega
theorem Vk {t:G1}(h:t∈cN):(t==lC)=false:=
 TJ (by simp only [sT,D3];exact .inl h) (by simp [Ti])
theorem Vh {l:List D}{nm ty:G1}{sg:Bool}{es fs:List D}(hn:nm∈cN){i:Nat}(ht:K0 l i (nR nm ty sg es fs)):∃ k t a b e,l[i]? = some (tk k t a b e)∧(t==lC)=false:=by
 unfold nR at ht
 cases hb:(sg&&!(ty==iS)) with
 |true=>
  rw [hb] at ht
  obtain⟨a,b,e,h⟩:=J8 (show K0 l i ((1,mL)::_) from ht)
  exact⟨_,_,_,_,_,h,rfl⟩
 |false=>
  rw [hb] at ht
  have ht:K0 l i (pA (es.take 2)++([(1,nm)]++(pA (es.drop 2)++Xg fs))):=ht
  match hes:es.take 2,ht with
  |[],ht=>
   obtain⟨a,b,e,h⟩:=J8 (show K0 l i ((1,nm)::_) from ht)
   exact⟨_,_,_,_,_,h,Vk hn⟩
  |[x],ht=>
   obtain⟨a,b,e,h⟩:=J8 (show K0 l i ((3,[91])::_) from ht)
   exact⟨_,_,_,_,_,h,rfl⟩
  |x::y::r,ht=>
   obtain⟨a,b,e,h⟩:=J8 (show K0 l i ((3,[91])::_) from ht)
   exact⟨_,_,_,_,_,h,rfl⟩
section
variable {l:List D} (hl:l.length≤1000000)
include hl
theorem Rr {x:D}(hx:xN nA x){i:Nat}(ht:K0 l i (kC x)){t:G1}{a b e:Int}(hcl:l[i+(kC x).length]? = some (tk 3 t a b e))(hc:cl t=true)(d c p0 p1 p2:Int)(hd:0≤d)(hd2:d≤32) :
  U (fun n=>dJ n (.Z 5 l) (i:Int) d c p0 p1 p2 (0:Int)) fun r=>∃ y,OI 8 x y∧r=(true,[y,.Z 5 l,.int .i64 ((i+(kC x).length:Nat):Int),.int .i64 d,.int .i64 c,.int .i64 p0,.int .i64 p1,.int .i64 p2,.int .i64 0]):=by
 obtain⟨nm,ty,q,f,sg,es,fs,rfl,g1,hm,g3,g4,g5,g6,g7,g8⟩:=jG hx
 have eW:kC (I 1 nm ty sg es fs [] [] [] [] [])=(bif ty==bY then [(1,nL),(1,lC)] else [(1,ty)])++nR nm ty sg es fs:=Qr ..
 have hty:ty=QK∨ty=nL∨ty=bY:=by
  simp only [nA,B7,C7,List.not_mem_nil,or_false] at hm
  rcases hm with h|h|h
  ·exact .inl h.1
  ·exact .inr (.inl h.1)
  ·exact .inr (.inr h.1)
 rw [eW] at ht hcl ⊢
 rcases hty with rfl|rfl|rfl
 ·have ht:K0 l i ((1,QK)::nR nm QK sg es fs):=ht
  have eL:((bif QK==bY then [(1,nL),(1,lC)] else [(1,QK)])++nR nm QK sg es fs:List Tk).length=1+(nR nm QK sg es fs).length:=by
   show (_::nR nm QK sg es fs:List Tk).length=_
   rw [A0];omega
  rw [eL] at hcl ⊢
  obtain⟨a1,b1,e1,h1⟩:=J8 ht
  have N:=PB hl (Gp (.inr (.inr (.inr rfl)))) g1 hm g3 g4 g5 g6 g7 g8 (K7 ht) (QP hcl (by omega)) hc a1 b1 e1 d c p0 p1 p2 hd hd2
  refine U.eq (fun n=>lR n l i d c p0 p1 p2 0) (U.H6 (S5 (d:=d) (c:=c) (p0:=p0) (p1:=p1) (p2:=p2) h1) ?_)
  (intro _ ds h0;cases h0;refine⟨rfl,U.I0 rfl ?_⟩)
  refine U.H6 (N6 (d:=d) (c:=c) (p0:=p0) (p1:=p1) (p2:=p2) hl h1 rfl) ?_
  (intro _ ds h0;cases h0;refine⟨rfl,U.I0 rfl ?_⟩)
  refine U.I0 rfl (U.H6 N ?_)
  rintro _ ds ⟨es',fs',hE,hF,h0⟩;cases h0
  refine⟨rfl,U.I0 rfl (U.ret ⟨_,AO (i:=a1) (j:=b1) (l:=e1) hE hF (by simp) (by simp) (by simp) (by simp) (by simp) Rl.nil Rl.nil Rl.nil Rl.nil Rl.nil,?_⟩)⟩
  rw [show i+(1+(nR nm QK sg es fs).length)=i+1+(nR nm QK sg es fs).length from by omega]
  rfl
 ·have ht:K0 l i ((1,nL)::nR nm nL sg es fs):=ht
  have eL:((bif nL==bY then [(1,nL),(1,lC)] else [(1,nL)])++nR nm nL sg es fs:List Tk).length=1+(nR nm nL sg es fs).length:=by
   show (_::nR nm nL sg es fs:List Tk).length=_
   rw [A0];omega
  rw [eL] at hcl ⊢
  obtain⟨a1,b1,e1,h1⟩:=J8 ht
  obtain⟨k2,t2,a2,b2,e2,h2,hr⟩:=Vh g1 (K7 ht)
  have N:=PB hl (Gp (.inr (.inr (.inr rfl)))) g1 hm g3 g4 g5 g6 g7 g8 (K7 ht) (QP hcl (by omega)) hc a1 b1 e1 d c p0 p1 p2 hd hd2
  refine U.eq (fun n=>lR n l i d c p0 p1 p2 0) (U.H6 (S5 (d:=d) (c:=c) (p0:=p0) (p1:=p1) (p2:=p2) h1) ?_)
  (intro _ ds h0;cases h0;refine⟨rfl,U.I0 rfl ?_⟩)
  refine U.H6 (J7 (d:=d) (c:=c) (p0:=p0) (p1:=p1) (p2:=p2) h1 rfl) ?_
  (intro _ ds h0;cases h0;refine⟨rfl,U.I0 rfl ?_⟩)
  refine U.no rfl (U.H6 (O7 (d:=d) (c:=c) (p0:=p0) (p1:=p1) (p2:=p2) hl [nL] (by simp) (P5 h1 rfl)) ?_)
  (intro _ ds h0;cases h0;refine⟨rfl,U.I0 rfl ?_⟩)
  refine U.H6 (J7 (d:=d) (c:=c) (p0:=p0) (p1:=p1) (p2:=p2) h2 (PA hr)) ?_
  (intro _ ds h0;cases h0;refine⟨rfl,U.I0 rfl ?_⟩)
  refine U.no rfl (O6 (fun n=>iI.eq_1 n _ _ _) (U.H6 N ?_))
  rintro _ ds ⟨es',fs',hE,hF,h0⟩;cases h0
  refine⟨rfl,U.I0 rfl (U.ret ⟨_,AO (i:=a1) (j:=b1) (l:=e1) hE hF (by simp) (by simp) (by simp) (by simp) (by simp) Rl.nil Rl.nil Rl.nil Rl.nil Rl.nil,?_⟩)⟩
  rw [show i+(1+(nR nm nL sg es fs).length)=i+1+(nR nm nL sg es fs).length from by omega]
  rfl
 ·have ht:K0 l i ((1,nL)::(1,lC)::nR nm bY sg es fs):=ht
  have eL:((bif bY==bY then [(1,nL),(1,lC)] else [(1,bY)])++nR nm bY sg es fs:List Tk).length=2+(nR nm bY sg es fs).length:=by
   show (_::_::nR nm bY sg es fs:List Tk).length=_
   rw [A0,A0];omega
  rw [eL] at hcl ⊢
  obtain⟨a1,b1,e1,h1⟩:=J8 ht
  obtain⟨a2,b2,e2,h2⟩:=J8 (K7 ht)
  have N:=PB hl (Gp (.inr (.inr (.inr rfl)))) g1 hm g3 g4 g5 g6 g7 g8 (K7 (K7 ht)) (QP hcl (by omega)) hc a1 b1 e1 d c p0 p1 p2 hd hd2
  refine U.eq (fun n=>lR n l i d c p0 p1 p2 0) (U.H6 (S5 (d:=d) (c:=c) (p0:=p0) (p1:=p1) (p2:=p2) h1) ?_)
  (intro _ ds h0;cases h0;refine⟨rfl,U.I0 rfl ?_⟩)
  refine U.H6 (J7 (d:=d) (c:=c) (p0:=p0) (p1:=p1) (p2:=p2) h1 rfl) ?_
  (intro _ ds h0;cases h0;refine⟨rfl,U.I0 rfl ?_⟩)
  refine U.no rfl (U.H6 (O7 (d:=d) (c:=c) (p0:=p0) (p1:=p1) (p2:=p2) hl [nL] (by simp) (P5 h1 rfl)) ?_)
  (intro _ ds h0;cases h0;refine⟨rfl,U.I0 rfl ?_⟩)
  refine U.H6 (N6 (d:=d) (c:=c) (p0:=p0) (p1:=p1) (p2:=p2) hl h2 rfl) ?_
  (intro _ ds h0;cases h0;refine⟨rfl,U.I0 rfl ?_⟩)
  refine U.I0 rfl (O6 (fun n=>iI.eq_1 n _ _ _) (U.H6 N ?_))
  rintro _ ds ⟨es',fs',hE,hF,h0⟩;cases h0
  refine⟨rfl,U.I0 rfl (U.ret ⟨_,AO (i:=a1) (j:=b1) (l:=e1) hE hF (by simp) (by simp) (by simp) (by simp) (by simp) Rl.nil Rl.nil Rl.nil Rl.nil Rl.nil,?_⟩)⟩
  rw [show i+(2+(nR nm bY sg es fs).length)=i+1+1+(nR nm bY sg es fs).length from by omega]
  rfl
def Jy (l:List D)(nm:G1)(m0 m1 m2 d c p0 p1 p2:Int)(zs:List D)(z:D):Prop:=∀ (i:Nat) (acc xs:List D),(∀ y∈z::zs,xP y)→K0 l i (lW rJ (z::zs)++[(3,[41])])→(z::zs).length+acc.length≤100→Rl (OI 8) xs acc→
  U (fun n=>U7 n (.Z 5 l) (i:Int) d c p0 p1 p2 (0:Int) (.str []) (0:Int) (0:Int) (0:Int) (.str nm) m0 m1 m2 (.Z 14 []) (.Z 14 []) (.Z 14 []) (.Z 14 acc) (.Z 14 []) (.Z 14 [])) fun r=>∃ ys,Rl (OI 8) (xs++z::zs) ys∧r=(false,[.Z 5 l,.int .i64 ((i+(lW rJ (z::zs)).length:Nat):Int),.int .i64 d,.int .i64 c,.int .i64 p0,.int .i64 p1,.int .i64 p2,.int .i64 0,.str [],.int .i64 0,.int .i64 0,.int .i64 0,.str nm,.int .i64 m0,.int .i64 m1,.int .i64 m2,.Z 14 [],.Z 14 [],.Z 14 [],.Z 14 ys,.Z 14 [],.Z 14 []])
theorem Nk (nm:G1)(m0 m1 m2 d c p0 p1 p2:Int)(hd:0≤d)(hd2:d≤32)(zs:List D)(z:D)(hK:∀ z2 zs2,zs=z2::zs2→Jy l nm m0 m1 m2 d c p0 p1 p2 zs2 z2):Jy l nm m0 m1 m2 d c p0 p1 p2 zs z:=by
 intro i acc xs hz ht hn hr
 obtain⟨n1,e,ez,hnm,he⟩:=hz z (B8 ..)
 subst ez
 have eC:rJ (I 2 n1 rL false [e] [] [] [] [] [] [])=[(1,rL),(1,n1),(3,[61])]++wE 4 e:=rfl
 have eCl:(rJ (I 2 n1 rL false [e] [] [] [] [] [] [])).length=3+(wE 4 e).length:=by rw [eC];simp only [G0]
 have hhead:∃ rest,lW rJ (I 2 n1 rL false [e] [] [] [] [] [] []::zs)++[(3,[41])]=[(1,rL),(1,n1),(3,[61])]++(wE 4 e++rest)∧rest=(match zs with|[]=>[(3,[41])]|z2::zs2=>(3,[44])::(lW rJ (z2::zs2)++[(3,[41])])):=by
  cases zs with
  |nil=>exact⟨_,by show rJ _++[(3,[41])]=_;rw [eC,C1],rfl⟩
  |cons z2 zs2=>exact⟨_,by show (rJ _++((3,[44])::lW rJ (z2::zs2)))++[(3,[41])]=_;rw [eC,C1,C1];rfl,rfl⟩
 obtain⟨rest,h0,hrest⟩:=hhead
 rw [h0] at ht
 have ht:K0 l i ((1,rL)::([(1,n1),(3,[61])]++(wE 4 e++rest))):=ht
 rw [← C1] at ht
 obtain⟨a1,b1,e1,h1⟩:=J8 ht
 obtain⟨hE,hR⟩:=K4.1 (K7 ht)
 have hL:([(1,n1),(3,[61])]++wE 4 e:List Tk).length=2+(wE 4 e).length:=by simp only [G0]
 rw [hL] at hR
 have hcl:∃ t a b e',l[i+1+(2+(wE 4 e).length)]? = some (tk 3 t a b e')∧cl t=true:=by
  subst hrest
  cases zs with
  |nil=>obtain⟨a,b,e',h⟩:=J8 hR;exact⟨_,_,_,_,h,rfl⟩
  |cons z2 zs2=>obtain⟨a,b,e',h⟩:=J8 hR;exact⟨_,_,_,_,h,rfl⟩
 obtain⟨t7,a7,b7,e7,g7,gc⟩:=hcl
 have A:=Ad hl hnm he hE g7 gc (ty:=rL) a1 b1 e1 d c p0 p1 p2 hd hd2
 refine U.eq (fun n=>tK n _ _ _ _ _ _ _ _ _ _ _ _ _ _ _ _ _ _ _ _ _ _) (U.I0 rfl (U.H6 (S5 (d:=d) (c:=c) (p0:=p0) (p1:=p1) (p2:=p2) h1) ?_))
 (intro _ ds h0;cases h0;refine⟨rfl,U.I0 rfl ?_⟩)
 refine U.H6 (O7 (d:=d) (c:=c) (p0:=p0) (p1:=p1) (p2:=p2) hl [rL] (by simp) (P5 h1 rfl)) ?_
 (intro _ ds h0;cases h0;refine⟨rfl,U.I0 rfl ?_⟩)
 refine U.H6 A ?_
 rintro _ ds ⟨y,hy,h0⟩;cases h0
 have hO:OI 8 (I 2 n1 rL false [e] [] [] [] [] [] []) (AJ 2 a1 b1 e1 n1 rL false [y] [] [] [] [] [] []):=AO (jI.one he hy) jI.nil (by simp) (by simp) (by simp) (by simp) (by simp) Rl.nil Rl.nil Rl.nil Rl.nil Rl.nil
 refine⟨rfl,U.I0 rfl (U.I0 (B2 (by simp only [L7,A0] at hn ⊢;omega)) ?_)⟩
 cases zs with
 |nil=>
  subst hrest
  obtain⟨a5,b5,e5,h5⟩:=J8 hR
  refine U.H6 (J7 (d:=d) (c:=c) (p0:=p0) (p1:=p1) (p2:=p2) h5 rfl) ?_
  (intro _ ds h0;cases h0;refine⟨rfl,U.I0 rfl ?_⟩)
  refine U.I0 rfl (U.ret ⟨acc++[AJ 2 a1 b1 e1 n1 rL false [y] [] [] [] [] [] []],hr.snoc hO,?_⟩)
  rw [show i+(lW rJ [I 2 n1 rL false [e] [] [] [] [] [] []]).length=i+1+(2+(wE 4 e).length) from by show i+(rJ _).length=_;rw [eCl];omega]
  rfl
 |cons z2 zs2=>
  subst hrest
  obtain⟨a5,b5,e5,h5⟩:=J8 hR
  have hR:=K7 hR
  have K:=hK z2 zs2 rfl (i+1+(2+(wE 4 e).length)+1) (acc++[AJ 2 a1 b1 e1 n1 rL false [y] [] [] [] [] [] []]) (xs++[I 2 n1 rL false [e] [] [] [] [] [] []]) (fun y hy=>hz y (C0 _ hy)) hR (by simp only [G0] at hn ⊢;omega) (hr.snoc hO)
  refine U.H6 (N6 (d:=d) (c:=c) (p0:=p0) (p1:=p1) (p2:=p2) hl h5 rfl) ?_
  (intro _ ds h0;cases h0;refine⟨rfl,U.I0 rfl ?_⟩)
  refine U.no rfl ?_
  refine K.mono fun r ⟨ys,g1,g2⟩=>⟨ys,by rw [C1] at g1;exact g1,?_⟩
  rw [g2,show i+(lW rJ (I 2 n1 rL false [e] [] [] [] [] [] []::z2::zs2)).length=i+1+(2+(wE 4 e).length)+1+(lW rJ (z2::zs2)).length from by
   show i+(rJ _++((3,[44])::lW rJ (z2::zs2))).length=_
   rw [A7,eCl,A0];omega]
theorem Wg (nm:G1)(m0 m1 m2 d c p0 p1 p2:Int)(hd:0≤d)(hd2:d≤32):∀ (zs:List D) (z:D),Jy l nm m0 m1 m2 d c p0 p1 p2 zs z:=by
 intro zs
 induction zs with
 |nil=>exact fun z=>Nk hl nm m0 m1 m2 d c p0 p1 p2 hd hd2 [] z fun _ _ h=>(by cases h)
 |cons z2 zs2 ih=>exact fun z=>Nk hl nm m0 m1 m2 d c p0 p1 p2 hd hd2 (z2::zs2) z fun z3 zs3 h=>(by cases h;exact ih z2)
def Jz (l:List D)(nm:G1)(m0 m1 m2 d c p0 p1 p2:Int)(ps:List D)(zs:List D)(z:D):Prop:=∀ (i:Nat) (acc xs:List D),(∀ y∈z::zs,xN nA y)→K0 l i (lW kC (z::zs)++[(3,[41])])→(z::zs).length+acc.length≤100→Rl (OI 8) xs acc→
  U (fun n=>aD n true l (i:Int) d c p0 p1 p2 0 acc [] 0 0 0 nm m0 m1 m2 [] [] [] ps []) fun r=>∃ ys,Rl (OI 8) (xs++z::zs) ys∧r=(false,[.Z 5 l,.int .i64 ((i+(lW kC (z::zs)).length:Nat):Int),.int .i64 d,.int .i64 c,.int .i64 p0,.int .i64 p1,.int .i64 p2,.int .i64 0,.str [],.int .i64 0,.int .i64 0,.int .i64 0,.str nm,.int .i64 m0,.int .i64 m1,.int .i64 m2,.Z 14 [],.Z 14 [],.Z 14 [],.Z 14 ps,.Z 14 ys,.Z 14 []])
theorem Fp (nm:G1)(m0 m1 m2 d c p0 p1 p2:Int)(ps:List D)(hd:0≤d)(hd2:d≤32)(zs:List D)(z:D)(hK:∀ z2 zs2,zs=z2::zs2→Jz l nm m0 m1 m2 d c p0 p1 p2 ps zs2 z2):Jz l nm m0 m1 m2 d c p0 p1 p2 ps zs z:=by
 intro i acc xs hz ht hn hr
 have hz1:=hz z (B8 ..)
 have hhead:∃ rest,lW kC (z::zs)++[(3,[41])]=kC z++rest∧rest=(match zs with|[]=>[(3,[41])]|z2::zs2=>(3,[44])::(lW kC (z2::zs2)++[(3,[41])])):=by
  cases zs with
  |nil=>exact⟨_,rfl,rfl⟩
  |cons z2 zs2=>exact⟨_,by show (kC _++((3,[44])::lW kC (z2::zs2)))++[(3,[41])]=_;rw [C1];rfl,rfl⟩
 obtain⟨rest,h0,hrest⟩:=hhead
 rw [h0] at ht
 obtain⟨hE,hR⟩:=K4.1 ht
 have hcl:∃ t a b e',l[i+(kC z).length]? = some (tk 3 t a b e')∧cl t=true:=by
  subst hrest
  cases zs with
  |nil=>obtain⟨a,b,e',h⟩:=J8 hR;exact⟨_,_,_,_,h,rfl⟩
  |cons z2 zs2=>obtain⟨a,b,e',h⟩:=J8 hR;exact⟨_,_,_,_,h,rfl⟩
 obtain⟨t7,a7,b7,e7,g7,gc⟩:=hcl
 refine O6 (fun n=>aD.eq_1 n _ _ _ _ _ _ _ _ _ _ _ _ _ _ _ _ _ _ _ _ _ _ _) (U.I0 rfl (U.H6 (Rr hl hz1 hE g7 gc d c p0 p1 p2 hd hd2) ?_))
 rintro _ ds ⟨y,hy,h0⟩;cases h0
 have hO:=hy
 obtain⟨k',i',j',l',nm',ty',sg',es,fs,bs,its,els,ps2,qs2,es',fs',bs',its',els',ps',qs',_,rfl,_⟩:=hy
 refine⟨rfl,U.I0 rfl (U.I0 (B2 (by simp only [L7,A0] at hn ⊢;omega)) ?_)⟩
 cases zs with
 |nil=>
  subst hrest
  obtain⟨a5,b5,e5,h5⟩:=J8 hR
  refine U.H6 (J7 (d:=d) (c:=c) (p0:=p0) (p1:=p1) (p2:=p2) h5 rfl) ?_
  (intro _ ds h0;cases h0;refine⟨rfl,U.I0 rfl ?_⟩)
  refine U.I0 rfl (U.ret ⟨_,hr.snoc hO,?_⟩)
  rfl
 |cons z2 zs2=>
  subst hrest
  obtain⟨a5,b5,e5,h5⟩:=J8 hR
  have hR:=K7 hR
  have K:=hK z2 zs2 rfl (i+(kC z).length+1) (acc++[AJ k' i' j' l' nm' ty' sg' es' fs' bs' its' els' ps' qs']) (xs++[z]) (fun y hy=>hz y (C0 _ hy)) hR (by simp only [G0] at hn ⊢;omega) (hr.snoc hO)
  refine U.H6 (N6 (d:=d) (c:=c) (p0:=p0) (p1:=p1) (p2:=p2) hl h5 rfl) ?_
  (intro _ ds h0;cases h0;refine⟨rfl,U.I0 rfl ?_⟩)
  refine U.no rfl (U.eq (fun n=>gU n _ _ _ _ _ _ _ _ _ _ _ _ _ _ _ _ _ _ _ _ _ _) (U.I0 rfl (U.I0 (E6 (by show ((acc++[AJ k' i' j' l' nm' ty' sg' es' fs' bs' its' els' ps' qs']).length:Int)>0;rw [A7,C9];omega)) ?_)))
  refine K.mono fun r ⟨ys,g1,g2⟩=>⟨ys,by rw [C1] at g1;exact g1,?_⟩
  rw [g2,show i+(lW kC (z::z2::zs2)).length=i+(kC z).length+1+(lW kC (z2::zs2)).length from by
   show i+(kC _++((3,[44])::lW kC (z2::zs2))).length=_
   rw [A7,A0];omega]
theorem Rt (nm:G1)(m0 m1 m2 d c p0 p1 p2:Int)(ps:List D)(hd:0≤d)(hd2:d≤32):∀ (zs:List D) (z:D),Jz l nm m0 m1 m2 d c p0 p1 p2 ps zs z:=by
 intro zs
 induction zs with
 |nil=>exact fun z=>Fp hl nm m0 m1 m2 d c p0 p1 p2 ps hd hd2 [] z fun _ _ h=>(by cases h)
 |cons z2 zs2 ih=>exact fun z=>Fp hl nm m0 m1 m2 d c p0 p1 p2 ps hd hd2 (z2::zs2) z fun z3 zs3 h=>(by cases h;exact ih z2)
theorem Wi {z:D}{zs:List D}(hz:xN nA z){i:Nat}(ht:K0 l i (lW kC (z::zs)++[(3,[41])])):∃ k t a b e,l[i]? = some (tk k t a b e)∧(t==[41]&&k !=2)=false:=by
 obtain⟨nm,ty,q,f,sg,es,fs,rfl,g1,hm,_⟩:=jG hz
 have hP:K0 l i (kC (I 1 nm ty sg es fs [] [] [] [] [])):=by
  cases zs with
  |nil=>exact (K4.1 ht).1
  |cons z2 zs2=>exact (K4.1 (K4.1 ht).1).1
 have hP:K0 l i ((bif ty==bY then [(1,nL),(1,lC)] else [(1,ty)])++nR nm ty sg es fs):=hP
 simp only [nA,B7,C7,List.not_mem_nil,or_false] at hm
 rcases hm with ⟨rfl,_⟩|⟨rfl,_⟩|⟨rfl,_⟩
 ·obtain⟨a,b,e,h⟩:=J8 (show K0 l i ((1,QK)::_) from hP);exact⟨_,_,_,_,_,h,rfl⟩
 ·obtain⟨a,b,e,h⟩:=J8 (show K0 l i ((1,nL)::_) from hP);exact⟨_,_,_,_,_,h,rfl⟩
 ·obtain⟨a,b,e,h⟩:=J8 (show K0 l i ((1,nL)::_) from hP);exact⟨_,_,_,_,_,h,rfl⟩
theorem Nn (nm:G1)(m0 m1 m2 d c p0 p1 p2:Int)(ps:List D)(hd:0≤d)(hd2:d≤32){qs:List D}(hn:qs.length≤10)(hz:∀ y∈qs,xN nA y){i:Nat}(ht:K0 l i (lW kC qs++[(3,[41])])) :
  U (fun n=>U8 n (.Z 5 l) (i:Int) d c p0 p1 p2 (0:Int) (.str []) (0:Int) (0:Int) (0:Int) (.str nm) m0 m1 m2 (.Z 14 []) (.Z 14 []) (.Z 14 []) (.Z 14 ps) (.Z 14 []) (.Z 14 [])) fun r=>∃ ys,Rl (OI 8) qs ys∧r=(false,[.Z 5 l,.int .i64 ((i+(lW kC qs).length:Nat):Int),.int .i64 d,.int .i64 c,.int .i64 p0,.int .i64 p1,.int .i64 p2,.int .i64 0,.str [],.int .i64 0,.int .i64 0,.int .i64 0,.str nm,.int .i64 m0,.int .i64 m1,.int .i64 m2,.Z 14 [],.Z 14 [],.Z 14 [],.Z 14 ps,.Z 14 ys,.Z 14 []]):=by
 cases qs with
 |nil=>
  obtain⟨a,b,e,h⟩:=J8 (show K0 l i [(3,[41])] from ht)
  refine U.eq (fun n=>gU n _ _ _ _ _ _ _ _ _ _ _ _ _ _ _ _ _ _ _ _ _ _) (U.I0 rfl (U.no rfl (U.H6 (gM (d:=d) (c:=c) (p0:=p0) (p1:=p1) (p2:=p2) [41] h) ?_)))
  (intro _ ds h0;cases h0;refine⟨rfl,U.I0 rfl ?_⟩)
  exact O6 (fun n=>aD.eq_1 n _ _ _ _ _ _ _ _ _ _ _ _ _ _ _ _ _ _ _ _ _ _ _) (U.no rfl (U.ret ⟨[],Rl.nil,rfl⟩))
 |cons z zs=>
  obtain⟨k,t,a,b,e,h,ht0⟩:=Wi hl (hz z (B8 ..)) ht
  have K:=Rt hl nm m0 m1 m2 d c p0 p1 p2 ps hd hd2 zs z i [] [] hz ht (by simp only [A0,A8] at hn ⊢;omega) Rl.nil
  refine U.eq (fun n=>gU n _ _ _ _ _ _ _ _ _ _ _ _ _ _ _ _ _ _ _ _ _ _) (U.I0 rfl (U.no rfl (U.H6 (gM (d:=d) (c:=c) (p0:=p0) (p1:=p1) (p2:=p2) [41] h) ?_)))
  intro _ ds h0
  rw [ht0] at h0
  cases h0
  exact⟨rfl,U.I0 rfl K⟩
def qM (x:D):Nat:=sQ (qI 4) (x.at_ 3).l
theorem Hu {nm:G1}(hg:qQ nm=true){x:D}(h:XD nm x){i:Nat}(ht:K0 l i (wM x))(c p0 p1 p2:Int)(hc:0≤c)(hc2:c+qM x≤4000) :
  U (fun n=>Z5 n (.Z 5 l) (i:Int) (0:Int) c p0 p1 p2 (0:Int)) fun r=>∃ y,OM x y∧r=(true,[y,.Z 5 l,.int .i64 ((i+(wM x).length:Nat):Int),.int .i64 0,.int .i64 (c+(qM x:Int)),.int .i64 p0,.int .i64 p1,.int .i64 p2,.int .i64 0]):=by
 obtain⟨ps,qs,its,rfl,l1,l2,l3,hP,hQ,hI⟩:=h
 have hlen:nm.length≤200:=by
  simp only [qQ,A9,decide_eq_true_eq] at hg
  omega
 have eQ:qM (M nm ps qs its)=sQ (qI 4) its:=rfl
 rw [eQ] at hc2 ⊢
 have ht:K0 l i ((1,qV)::(1,nm)::((bif ps.isEmpty then [] else [(3,[35]),(3,[40])]++(lW rJ ps++[(3,[41])]))++([(3,[40])]++(lW kC qs++([(3,[41]),(3,[59])]++(its.flatMap (wI 4)++[(1,mH)])))))):=ht
 have eL:(wM (M nm ps qs its)).length=2+((bif ps.isEmpty then [] else [(3,[35]),(3,[40])]++(lW rJ ps++[(3,[41])]):List Tk).length+(1+((lW kC qs).length+(2+((its.flatMap (wI 4)).length+1))))):=by
  show ([(1,qV),(1,nm)]++((bif ps.isEmpty then [] else [(3,[35]),(3,[40])]++(lW rJ ps++[(3,[41])]))++([(3,[40])]++(lW kC qs++([(3,[41]),(3,[59])]++(its.flatMap (wI 4)++[(1,mH)]))))):List Tk).length=_
  simp only [G0]
 rw [eL]
 obtain⟨a1,b1,e1,h1⟩:=J8 ht
 obtain⟨a2,b2,e2,h2⟩:=J8 (K7 ht)
 obtain⟨hA,hB⟩:=K4.1 (K7 (K7 ht))
 generalize hv:(bif ps.isEmpty then [] else [(3,[35]),(3,[40])]++(lW rJ ps++[(3,[41])]):List Tk)=v at hA hB ⊢
 have hB:=eI hB
 obtain⟨a3,b3,e3,h3⟩:=J8 hB
 obtain⟨hC,hD⟩:=K4.1 (K7 hB)
 have hD:K0 l (i+1+1+v.length+1+(lW kC qs).length) ((3,[41])::(3,[59])::(its.flatMap (wI 4)++[(1,mH)])):=hD
 obtain⟨a4,b4,e4,h4⟩:=J8 hD
 obtain⟨a5,b5,e5,h5⟩:=J8 (K7 hD)
 have hE:=K7 (K7 hD)
 have hC41:K0 l (i+1+1+v.length+1) (lW kC qs++[(3,[41])]):=K4.2 ⟨hC,⟨_,_,_,h4⟩,trivial⟩
 have hw:FM l (i+1+1+v.length+1+(lW kC qs).length) [[41],[59]]:=by
  intro j hj
  have:j=0∨j=1:=by simp at hj;omega
  rcases this with rfl|rfl
  ·exact⟨3,_,_,_,h4,rfl⟩
  ·exact⟨3,_,_,_,h5,rfl⟩
 have J:∀ ps',Rl (OI 8) ps ps'→U (fun n=>fW n l ((i+1+1+v.length:Nat):Int) 0 c p0 p1 p2 0 [] 0 0 0 [] [] [] nm a1 b1 e1 ps' [] []) fun r=>∃ y,OM (M nm ps qs its) y∧r=(true,[y,.Z 5 l,.int .i64 ((i+(2+(v.length+(1+((lW kC qs).length+(2+((its.flatMap (wI 4)).length+1)))))):Nat):Int),.int .i64 0,.int .i64 (c+(sQ (qI 4) its:Int)),.int .i64 p0,.int .i64 p1,.int .i64 p2,.int .i64 0]):=by
  intro ps' hps
  refine O6 (fun n=>fW.eq_1 n _ _ _ _ _ _ _ _ _ _ _ _ _ _ _ _ _ _ _ _ _ _) (U.H6 (O7 (d:=0) (c:=c) (p0:=p0) (p1:=p1) (p2:=p2) hl [[40]] (by decide) (P5 h3 rfl)) ?_)
  (intro _ ds h0;cases h0;refine⟨rfl,U.I0 rfl ?_⟩)
  refine U.L3 (Nn hl nm a1 b1 e1 0 c p0 p1 p2 ps' (by omega) (by omega) (by omega) hQ hC41) (fun ds h=>by obtain⟨_,_,h⟩:=h;cases h) fun ds h=>?_
  obtain⟨qs',hqs,h⟩:=h
  cases h
  refine U.I0 rfl (U.H6 (O7 (d:=0) (c:=c) (p0:=p0) (p1:=p1) (p2:=p2) hl [[41],[59]] (by decide) hw) ?_)
  (intro _ ds h0;cases h0;refine⟨rfl,U.I0 rfl ?_⟩)
  refine U.H6 (YV hl (aD6 hl 4) (.inr rfl) (by omega) hI hE 0 c p0 p1 p2 (by omega) (by show (0:Int)+((19:Nat):Int)≤40;omega) hc hc2) ?_
  rintro _ ds ⟨its',hits,h0⟩;cases h0
  refine⟨rfl,U.I0 rfl (U.ret ⟨AM nm a1 b1 e1 ps' qs' its',⟨nm,a1,b1,e1,ps,qs,its,ps',qs',its',rfl,rfl,hlen,by omega,by omega,by omega,hps,hqs,hits⟩,?_⟩)⟩
  rw [show i+(2+(v.length+(1+((lW kC qs).length+(2+((its.flatMap (wI 4)).length+1))))))=i+1+1+v.length+1+(lW kC qs).length+1+1+((its.flatMap (wI 4)).length+1) from by omega]
  rfl
 refine U.eq (fun n=>wZ n l i 0 c p0 p1 p2 0) (U.H6 (S5 (d:=0) (c:=c) (p0:=p0) (p1:=p1) (p2:=p2) h1) ?_)
 (intro _ ds h0;cases h0;refine⟨rfl,U.I0 rfl ?_⟩)
 refine U.H6 (O7 (d:=0) (c:=c) (p0:=p0) (p1:=p1) (p2:=p2) hl [qV] (by simp) (P5 h1 rfl)) ?_
 (intro _ ds h0;cases h0;refine⟨rfl,U.I0 rfl ?_⟩)
 refine U.H6 (kB (d:=0) (c:=c) (p0:=p0) (p1:=p1) (p2:=p2) hl h2 hg) ?_
 (intro _ ds h0;cases h0;refine⟨rfl,U.I0 rfl ?_⟩)
 cases ps with
 |nil=>
  subst hv
  have h3:l[i+1+1]? = _:=h3
  refine U.H6 (J7 (d:=0) (c:=c) (p0:=p0) (p1:=p1) (p2:=p2) h3 rfl) ?_
  (intro _ ds h0;cases h0;refine⟨rfl,U.I0 rfl ?_⟩)
  exact U.no rfl (J [] Rl.nil)
 |cons z zs=>
  have hv:[(3,[35]),(3,[40])]++(lW rJ (z::zs)++[(3,[41])])=v:=hv
  have hA0:K0 l (i+1+1) ((3,[35])::(3,[40])::(lW rJ (z::zs)++[(3,[41])])):=by
   rw [← hv] at hA;exact hA
  have hvl:v.length=2+((lW rJ (z::zs)).length+1):=by
   rw [← hv];simp only [G0]
  obtain⟨a6,b6,e6,h6⟩:=J8 hA0
  obtain⟨a7,b7,e7,h7⟩:=J8 (K7 hA0)
  have hA1:=K7 (K7 hA0)
  obtain⟨a8,b8,e8,h8⟩:=J8 (K4.1 hA1).2
  have K:=Wg hl nm a1 b1 e1 0 c p0 p1 p2 (by omega) (by omega) zs z (i+1+1+1+1) [] [] hP hA1 (by simp only [A0,A8] at l1 ⊢;omega) Rl.nil
  refine U.H6 (N6 (d:=0) (c:=c) (p0:=p0) (p1:=p1) (p2:=p2) hl h6 rfl) ?_
  (intro _ ds h0;cases h0;refine⟨rfl,U.I0 rfl ?_⟩)
  refine U.I0 rfl (U.H6 (O7 (d:=0) (c:=c) (p0:=p0) (p1:=p1) (p2:=p2) hl [[40]] (by decide) (P5 h7 rfl)) ?_)
  (intro _ ds h0;cases h0;refine⟨rfl,U.I0 rfl ?_⟩)
  refine U.L3 K (fun ds h=>by obtain⟨_,_,h⟩:=h;cases h) fun ds h=>?_
  obtain⟨ps',hps,h⟩:=h
  cases h
  refine U.I0 rfl (U.H6 (O7 (d:=0) (c:=c) (p0:=p0) (p1:=p1) (p2:=p2) hl [[41]] (by decide) (P5 h8 rfl)) ?_)
  (intro _ ds h0;cases h0;refine⟨rfl,U.I0 rfl ?_⟩)
  have J:=J ps' hps
  rw [show i+1+1+v.length=i+1+1+1+1+(lW rJ (z::zs)).length+1 from by omega] at J
  exact J
end
end
theorem Aj {q:D→Nat}{w v:D→List Tk}:∀ {xs:List D},(∀ x∈xs,(w x).length+2*q x≤(v x).length)→(xs.flatMap w).length+2*sQ q xs≤(xs.flatMap v).length
 |[],_=>by simp [sQ]
 |x::xs,h=>by
  have h1:=h x (B8 ..)
  have h2:=Aj (q:=q) (w:=w) (v:=v) (xs:=xs) fun y hy=>h y (C0 _ hy)
  simp only [sQ,D9,A7];omega
theorem FC {u v:List Tk}(e:u=v):u.length+2*(1+0)≤(du++v).length:=by
 rw [e,A7];show _≤2+_;omega
theorem Sc:∀ (n:Nat) (x:D),sE n x→(wS n x).length+2*qS n x≤(vS n x).length
 |0,_,h=>h.elim
 |n+1,x,h=>by
  obtain⟨k,t,es,bs,zs,rfl,he,hb,hz,hs⟩:=h
  have ih:=Sc n
  have hB:(bs.flatMap (wS n)).length+2*sQ (qS n) bs≤(bs.flatMap (vS n)).length:=Aj fun x hx=>ih x (hb x hx)
  have hZ:(zs.flatMap (iM (wS n))).length+2*sQ (fun a=>qS n (CF a)) zs≤(zs.flatMap (iM (vS n))).length:=Aj fun a ha=>by
   obtain⟨es,s,rfl,_,_,hs⟩:=hz a ha
   have h1:=ih s hs
   show ((bif es.isEmpty then [(1,wA)] else [])++(lW (wE 4) es++([(3,[58])]++wS n (CF (arm es s)))):List Tk).length+2*qS n (CF (arm es s))≤((bif es.isEmpty then [(1,wA)] else [])++(lW (wE 4) es++([(3,[58])]++vS n (CF (arm es s)))):List Tk).length
   rw [Dd hs]
   simp only [A7];omega
  show (sW (wS n) k t es bs zs).length+2*aA2 (qS n) k bs zs≤(du++sW (vS n) k t es bs zs).length
  rcases hs with ⟨rfl,rfl,rfl,hn,rfl⟩|⟨hk,rfl,⟨x,e,rfl,hx⟩,rfl,rfl⟩|⟨rfl,rfl,hn,⟨b,c,rfl,hop⟩,rfl⟩|⟨rfl,rfl,hn,rfl,hz1,hz2⟩|⟨rfl,rfl,hn,hl2,rfl⟩|⟨rfl,ht',hn,rfl,rfl⟩|⟨rfl,rfl,rfl,rfl,rfl⟩
  ·show ([(1,V9)]++(bs.flatMap (wS n)++[(1,fF)]):List Tk).length+2*(1+(sQ (qS n) bs+0))≤(du++([(1,V9)]++(bs.flatMap (vS n)++[(1,fF)])):List Tk).length
   simp only [du,G0];omega
  ·have e:∀ w:D→List Tk,(sW w k [] [x,e] [] []).length=(sW (wS n) k [] [x,e] [] []).length:=fun w=>by rcases hk with rfl|rfl<;>rfl
   have q:aA2 (qS n) k [] []=1:=by rcases hk with rfl|rfl<;>rfl
   rw [q,A7,e (vS n)]
   show _≤2+_
   omega
  ·have h1:=ih b (hb b (by simp))
   have h2:=ih c (hb c (by simp))
   show ([(1,uI)]++(pW (x0 es)++(wS n b++(bif (c.at_ 0).i==8 then [] else [(1,dR)]++wS n c))):List Tk).length+2*(1+(qS n b+(bif (c.at_ 0).i==8 then 0 else qS n c)))≤(du++([(1,uI)]++(pW (x0 es)++(vS n b++(bif (c.at_ 0).i==8 then [] else [(1,dR)]++vS n c)))):List Tk).length
   cases (c.at_ 0).i==8<;>simp only [du,cond_true,cond_false,G0]<;>omega
  ·show ([(1,pB)]++(pW (x0 es)++(zs.flatMap (iM (wS n))++[(1,dW)])):List Tk).length+2*(1+(0+sQ (fun a=>qS n (CF a)) zs))≤(du++([(1,pB)]++(pW (x0 es)++(zs.flatMap (iM (vS n))++[(1,dW)]))):List Tk).length
   simp only [du,G0];omega
  ·match bs,hl2,hb with
   |[b],_,hb=>
    have h1:=ih b (hb b (by simp))
    show (bR [105] es++wS n b:List Tk).length+2*(1+(qS n b+0+0))≤(du++(bR [105] es++vS n b):List Tk).length
    simp only [du,G0];omega
  ·exact FC (u:=(bif t.isEmpty then [] else [(1,t),(3,[58])])++([(1,pK)]++(pW (x0 es)++[(3,[59])]))) rfl
  ·show 1+2*1≤3
   omega
theorem Ut {n:Nat}{t:G1}{its:List D}(h:(its.flatMap (wI n)).length+2*sQ (qI n) its≤(its.flatMap (vI n)).length):([gB t its].flatMap (vO (wI n))).length+2*sQ (qI n) its≤([gB t its].flatMap (vO (vI n))).length:=by
 show (([(1,V9),(3,[58]),(1,t)]++(its.flatMap (wI n)++[(1,fF)]))++[]:List Tk).length+_≤(([(1,V9),(3,[58]),(1,t)]++(its.flatMap (vI n)++[(1,fF)]))++[]:List Tk).length
 simp only [G0];omega
theorem Zj:∀ (n:Nat) (x:D),xI n x→(wI n x).length+2*qI n x≤(vI n x).length
 |0,_,h=>h.elim
 |n+1,x,h=>by
  have ih:=Zj n
  rcases h with (h|h)|⟨nm,e,rfl,hn,he⟩|⟨nm,rfl,hn⟩|⟨l0,e,rfl,hlf,he⟩|⟨s0,rfl,hs⟩|⟨s0,rfl,hs⟩|⟨sg,es,its,s0,rfl,h2e,he,h1n,h2n,hx,hs⟩|⟨k,ps,qs,rfl,hk,hp,hq,hpc,hqc⟩|⟨es,its,rfl,h3,he,hn,hx⟩|⟨e,its,els,rfl,he,hn,hx,hel⟩
  ·obtain⟨nm,ty,q,f,sg,es,fs,rfl,_⟩:=jG h
   exact FC (u:=nW nm ty sg es fs++[(3,[59])]) rfl
  ·obtain⟨nm,ty,q,f,sg,es,fs,rfl,_⟩:=jG h
   exact FC (u:=nW nm ty sg es fs++[(3,[59])]) rfl
  ·exact FC (u:=[(1,oP),(1,nm),(3,[61])]++(wE 4 e++[(3,[59])])) rfl
  ·exact FC (u:=[(1,GO),(1,nm),(3,[59])]) rfl
  ·exact FC (u:=[(1,qG)]++(wE 4 l0++([(3,[61])]++(wE 4 e++[(3,[59])])))) rfl
  ·have:=Sc 4 s0 hs
   show ([(1,lU),(3,[64]),(3,[42])]++wS 4 s0:List Tk).length+2*(1+((qS 4 s0+0)+0+0))≤(du++([(1,lU),(3,[64]),(3,[42])]++vS 4 s0):List Tk).length
   simp only [du,G0];omega
  ·have:=Sc 4 s0 hs
   show ([(1,lU),(3,[64]),(3,[40]),(1,CT),(1,vZ),(3,[41])]++wS 4 s0:List Tk).length+2*(1+((qS 4 s0+0)+0+0))≤(du++([(1,lU),(3,[64]),(3,[40]),(1,CT),(1,vZ),(3,[41])]++vS 4 s0):List Tk).length
   simp only [du,G0];omega
  ·have:=Sc 4 s0 hs
   show ([(1,yG)]++((bif sg then [(1,mL)] else [])++(pA es++([(1,[102]),(3,[59])]++(its.flatMap EP++(wS 4 s0++[(1,mG)]))))):List Tk).length+2*(1+qS 4 s0)≤(du++([(1,yG)]++((bif sg then [(1,mL)] else [])++(pA es++([(1,[102]),(3,[59])]++(its.flatMap EP++(vS 4 s0++[(1,mG)])))))):List Tk).length
   simp only [du,G0];omega
  ·exact FC (u:=[(1,uN)]++((bif ps.isEmpty then [] else [(3,[35])]++oI ps)++([(1,[117,48+k])]++(oI qs++[(3,[59])])))) rfl
  ·have h1:=Ut (t:=[103]) (Aj (q:=qI n) (w:=wI n) (v:=vI n) (xs:=its) fun x hx'=>ih x (hx x hx'))
   show (bR [105] es++[gB [103] its].flatMap (vO (wI n)):List Tk).length+2*(1+(0+(sQ (qI n) its+0)+0))≤(du++(bR [105] es++[gB [103] its].flatMap (vO (vI n))):List Tk).length
   simp only [du,G0] at h1 ⊢;omega
  ·have h1:=Ut (t:=[116]) (Aj (q:=qI n) (w:=wI n) (v:=vI n) (xs:=its) fun x hx'=>ih x (hx x hx'))
   rcases hel with rfl|⟨ys,rfl,hyn,hyx⟩
   ·show ([(1,uI)]++(pW e++([gB [116] its].flatMap (vO (wI n))++[])):List Tk).length+2*(1+(0+(sQ (qI n) its+0)+0))≤(du++([(1,uI)]++(pW e++([gB [116] its].flatMap (vO (vI n))++[]))):List Tk).length
    simp only [du,G0] at h1 ⊢;omega
   ·have h2:=Ut (t:=[101]) (Aj (q:=qI n) (w:=wI n) (v:=vI n) (xs:=ys) fun x hx'=>ih x (hyx x hx'))
    show ([(1,uI)]++(pW e++([gB [116] its].flatMap (vO (wI n))++([(1,dR)]++[gB [101] ys].flatMap (vO (wI n))))):List Tk).length+2*(1+(0+(sQ (qI n) its+0)+(sQ (qI n) ys+0)))≤(du++([(1,uI)]++(pW e++([gB [116] its].flatMap (vO (vI n))++([(1,dR)]++[gB [101] ys].flatMap (vO (vI n)))))):List Tk).length
    simp only [du,G0] at h1 h2 ⊢;omega
theorem aC8 {nm:G1}{x:D}(h:XD nm x):(wM x).length+2*qM x≤(vM x).length:=by
 obtain⟨ps,qs,its,rfl,_,_,_,_,_,hI⟩:=h
 have h1:(its.flatMap (wI 4)).length+2*sQ (qI 4) its≤(its.flatMap (vI 4)).length:=Aj fun x hx=>Zj 4 x (hI x hx)
 show ([(1,qV),(1,nm)]++((bif ps.isEmpty then [] else [(3,[35]),(3,[40])]++(lW rJ ps++[(3,[41])]))++([(3,[40])]++(lW kC qs++([(3,[41]),(3,[59])]++(its.flatMap (wI 4)++[(1,mH)]))))):List Tk).length+2*sQ (qI 4) its≤([(1,qV),(1,nm)]++((bif ps.isEmpty then [] else [(3,[35]),(3,[40])]++(lW rJ ps++[(3,[41])]))++([(3,[40])]++(lW kC qs++([(3,[41]),(3,[59])]++(its.flatMap (vI 4)++[(1,mH)]))))):List Tk).length
 simp only [G0] at h1 ⊢;omega
def aE0 (nm:G1)(acc:List D):Prop:=∀ (r:Nat) (h:r<acc.length),∃ nm' i j l ps qs its,acc[r]=AM nm' i j l ps qs its∧(nm'==nm)=false
theorem Ky {acc:List D}{nm:G1}(hn:acc.length≤1000)(h:aE0 nm acc)(i j k:Int)(ps qs its:List D) :
  U (fun n=>W2 n (.Z 7 acc) (.str nm) i j k (.Z 14 ps) (.Z 14 qs) (.Z 14 its)) fun r=>r=(true,[.bool false,.Z 7 acc,.str nm,.int .i64 i,.int .i64 j,.int .i64 k,.Z 14 ps,.Z 14 qs,.Z 14 its]):=by
 have L:∀ (m r:Nat),acc.length-r=m→r≤acc.length→U (fun n=>Q1 n (acc.length:Int) (r:Int) (.Z 7 acc) (.str nm) i j k (.Z 14 ps) (.Z 14 qs) (.Z 14 its)) fun q=>q=(false,[.int .i64 (acc.length:Int),.int .i64 (acc.length:Int),.Z 7 acc,.str nm,.int .i64 i,.int .i64 j,.int .i64 k,.Z 14 ps,.Z 14 qs,.Z 14 its]):=by
  intro m
  induction m with
  |zero=>
   intro r hm hr
   have:r=acc.length:=by omega
   subst this
   exact U.eq (fun n=>jN n _ _ _ _ _ _ _ _ _ _) (U.no (E8 (by omega)) (U.ret rfl))
  |succ m ih=>
   intro r hm hr
   have hr':r<acc.length:=by omega
   obtain⟨nm',i',j',l',ps',qs',its',e,hne⟩:=h r hr'
   refine U.eq (fun n=>jN n _ _ _ _ _ _ _ _ _ _) (U.I0 (E6 (by omega)) (U.I0 (O5 hr') ?_))
   rw [bN hr',e]
   refine U.I0 rfl (U.H6 (U.eq (fun n=>JK n nm' i' j' l' ps' qs' its' nm i j k ps qs its) (U.ret rfl)) ?_)
   intro _ ds h0;cases h0
   refine⟨rfl,U.I0 rfl (U.no hne ?_)⟩
   rw [P0 (by omega)]
   exact ih (r+1) (by omega) (by omega)
 have I:U (fun n=>W8 n (.Z 7 acc) (.str nm) i j k (.Z 14 ps) (.Z 14 qs) (.Z 14 its)) fun r=>r=(true,[.int .i64 (-1),.Z 7 acc,.str nm,.int .i64 i,.int .i64 j,.int .i64 k,.Z 14 ps,.Z 14 qs,.Z 14 its]):=by
  refine U.eq (fun n=>tG n acc nm i j k ps qs its) (U.L3 (L acc.length 0 (by omega) (by omega)) (fun ds h=>by cases h) fun ds h=>?_)
  cases h
  exact U.I0 rfl (U.ret rfl)
 refine U.eq (fun n=>rE n acc nm i j k ps qs its) (U.H6 I ?_)
 intro _ ds h0;cases h0
 exact⟨rfl,U.I0 rfl (U.ret rfl)⟩
def Oy (nms:List G1)(ms:List D):Prop:=nms.length=ms.length∧(∀ (k:Nat) (h:k<ms.length) (h':k<nms.length),XD nms[k] ms[k]∧qQ nms[k]=true)∧∀ (j k:Nat) (hj:j<nms.length) (hk:k<nms.length),j<k→(nms[j]==nms[k])=false
theorem Rp {l:List D}(hl:l.length≤1000000){nms:List G1}{ms:List D}(hn:ms.length≤6)(h:Oy nms ms) :
  ∀ (m j:Nat) (i:Nat) (c:Int) (acc:List D),ms.length-j=m→j≤ms.length→K0 l i ((ms.drop j).flatMap wM)→i+((ms.drop j).flatMap wM).length=l.length→0≤c→c+sQ qM (ms.drop j)≤4000→Rl OM (ms.take j) acc→
   U (fun n=>bZ n (0:Int) (0:Int) (0:Int) (.Z 5 l) (i:Int) (0:Int) c (0:Int) (0:Int) (0:Int) (0:Int) (.Z 7 acc)) fun r=>∃ ys,Rl OM ms ys∧r=(false,[.int .i64 0,.int .i64 0,.int .i64 0,.Z 5 l,.int .i64 (l.length:Int),.int .i64 0,.int .i64 (c+(sQ qM (ms.drop j):Int)),.int .i64 0,.int .i64 0,.int .i64 0,.int .i64 0,.Z 7 ys]):=by
 intro m
 induction m with
 |zero=>
  intro j i c acc hm hj ht hi hc hq hr
  have:j=ms.length:=by omega
  subst this
  rw [List.drop_length] at hi ⊢
  have hi:i+0=l.length:=hi
  refine U.eq (fun n=>uA n _ _ _ _ _ _ _ _ _ _ _ _) (U.I0 rfl (O6 (fun n=>kU.eq_1 n _ _ _ _ _ _ _ _ _ _ _ _ _) (U.no (E8 (by omega)) (U.ret ⟨acc,by rw [List.take_length] at hr;exact hr,?_⟩))))
  show (_:Bool×List D)=(false,[_,_,_,_,.int .i64 (l.length:Int),_,.int .i64 (c+((0:Nat):Int)),_,_,_,_,_])
  rw [show c+((0:Nat):Int)=c from by omega,show (l.length:Int)=(i:Int) from by omega]
 |succ m ih=>
  intro j i c acc hm hj ht hi hc hq hr
  have hj':j<ms.length:=by omega
  rw [List.drop_eq_getElem_cons hj',D9] at ht hi
  rw [List.drop_eq_getElem_cons hj'] at hq ⊢
  have hq:c+((qM ms[j]+sQ qM (ms.drop (j+1)):Nat):Int)≤4000:=hq
  obtain⟨h1,h2⟩:=K4.1 ht
  obtain⟨hlen,hx,hne⟩:=h
  have hjn:j<nms.length:=by omega
  obtain⟨hxm,hg⟩:=hx j hj' hjn
  have Mo:=Hu hl hg hxm h1 c 0 0 0 hc (by omega)
  have hwl:1≤(wM ms[j]).length:=by
   obtain⟨ps,qs,its,e,_⟩:=hxm
   rw [e]
   show 1≤([(1,qV),(1,nms[j])]++_:List Tk).length
   simp only [G0];omega
  rw [A7] at hi
  have hacc:acc.length=j:=by have:=hr.1;rw [D7] at this;omega
  refine U.eq (fun n=>uA n _ _ _ _ _ _ _ _ _ _ _ _) (U.I0 rfl (O6 (fun n=>kU.eq_1 n _ _ _ _ _ _ _ _ _ _ _ _ _) (U.I0 (E6 (by omega)) (U.no (F4.2 (by omega)) (O6 (fun n=>oU.eq_1 n _ _ _ _ _ _ _ _ _ _ _ _) (U.H6 Mo ?_))))))
  rintro _ ds ⟨y,hy,h0⟩;cases h0
  have hO:=hy
  have hnm:∃ i2 j2 l2 ps2 qs2 its2,y=AM nms[j] i2 j2 l2 ps2 qs2 its2:=by
   obtain⟨ps,qs,its,e,_⟩:=hxm
   obtain⟨nm',i2,j2,l2,ps',qs',its',ps2,qs2,its2,e',rfl,_⟩:=hy
   rw [e] at e'
   cases e'
   exact⟨_,_,_,_,_,_,rfl⟩
  obtain⟨i2,j2,l2,ps2,qs2,its2,rfl⟩:=hnm
  have hno:aE0 nms[j] acc:=by
   intro r hrr
   have hrj:r<(ms.take j).length:=by rw [hr.1];exact hrr
   have hO2:=hr.2 r hrj hrr
   rw [List.getElem_take] at hO2
   have hrm:r<ms.length:=by rw [D7] at hrj;omega
   obtain⟨⟨ps,qs,its,e,_⟩,_⟩:=hx r hrm (by omega)
   obtain⟨nm',i3,j3,l3,ps',qs',its',ps3,qs3,its3,e',ey,_⟩:=hO2
   rw [e] at e'
   cases e'
   exact⟨_,_,_,_,_,_,_,ey,hne r j (by omega) hjn (by omega)⟩
  refine⟨rfl,U.I0 rfl (U.H6 (Ky (by omega) hno i2 j2 l2 ps2 qs2 its2) ?_)⟩
  intro _ ds h0;cases h0
  refine⟨rfl,U.I0 rfl (U.no rfl (U.I0 (B2 (by show acc.length+1≤L7;simp only [L7];omega)) ?_))⟩
  have hr2:Rl OM (ms.take (j+1)) (acc++[AM nms[j] i2 j2 l2 ps2 qs2 its2]):=by
   rw [List.take_succ_eq_append_getElem hj']
   exact hr.snoc hO
  have K:=ih (j+1) (i+(wM ms[j]).length) (c+(qM ms[j]:Int)) _ (by omega) (by omega) h2 (by omega) (by omega) (by omega) hr2
  refine K.mono fun r ⟨ys,g1,g2⟩=>⟨ys,g1,?_⟩
  rw [g2]
  show (_:Bool×List D)=(false,[_,_,_,_,_,_,.int .i64 (c+((qM ms[j]+sQ qM (ms.drop (j+1)):Nat):Int)),_,_,_,_,_])
  rw [show c+(qM ms[j]:Int)+(sQ qM (ms.drop (j+1)):Int)=c+((qM ms[j]+sQ qM (ms.drop (j+1)):Nat):Int) from by omega]
theorem To {nms:List G1}{ms:List D}(h:Oy nms ms):sQ qM ms≤(ms.flatMap wM).length:=by
 refine KY fun x hx=>?_
 obtain⟨k,hk,rfl⟩:=List.getElem_of_mem hx
 obtain⟨⟨ps,qs,its,e,_,_,_,_,_,hI⟩,_⟩:=h.2.1 k hk (by rw [h.1];exact hk)
 rw [e]
 have h1:sQ (qI 4) its≤(its.flatMap (wI 4)).length:=KY fun x hx=>Tn 4 x (hI x hx)
 show sQ (qI 4) its≤(mW _ ps qs its).length
 unfold mW
 simp only [A7];omega
theorem Hh {l:List D}(hl:l.length≤1000000){nms:List G1}{ms:List D}(hn:ms.length≤6)(h:Oy nms ms)(ht:K0 l 0 (ms.flatMap wM))(hll:(ms.flatMap wM).length=l.length)(hq:sQ qM ms≤4000) :
  U (fun n=>jL n (.Z 5 l)) fun r=>∃ ys,Rl OM ms ys∧r=(true,[.agg [.int .i64 0,.int .i64 0,.int .i64 0],.int .i64 0,.Z 7 ys]):=by
 refine U.eq (fun n=>PM n l) (U.L3 (Rp hl hn h ms.length 0 0 0 [] (by omega) (by omega) ht (by rw [List.drop_zero];omega) (by omega) (by rw [List.drop_zero];omega) Rl.nil) (fun ds h=>by obtain⟨_,_,h⟩:=h;cases h) fun ds h=>?_)
 obtain⟨ys,hy,h⟩:=h
 cases h
 exact U.I0 rfl (U.no rfl (U.ret ⟨ys,hy,rfl⟩))
def Pj (ts:List D):Prop:=∀ y∈ts,∃ (k:Int) (t:G1) (a b c:Int),y = .agg [.int .i64 k,.str t,.int .i64 a,.int .i64 b,.int .i64 c]
def BC (R:Option (Int×Int×Int×Int))(out ts:List D):Bool×List D:=match R with
 |none=>(true,[.agg [.int .i64 0,.int .i64 0,.int .i64 0],.int .i64 0,.Z 5 (out++ts)])
 |some (a,b,c,e)=>(true,[.agg [.int .i64 a,.int .i64 b,.int .i64 c],.int .i64 e,.Z 5 []])
def Wh (t:G1)(p0 p1 p2:Int)(fx:Bool):D:= .agg [.str t,.int .i64 p0,.int .i64 p1,.int .i64 p2,.bool fx]
def aE2 (L:Nat)(y:D):Prop:=∃ (t:G1) (p0 p1 p2:Int) (fx:Bool),y=Wh t p0 p1 p2 fx∧t.length≤L
abbrev PR:=Option (Int×Int×Int×Int)×List D
def Pe (y:D)(p:PR):Prop:=Pj p.2∧p.2.length≤300∧(∀ a b c e,p.1=some (a,b,c,e)→e≠0)∧∀ out:List D,out.length+300≤12000→U (fun n=>mA n y (.Z 5 out)) fun r=>r=BC p.1 out p.2
inductive Tw:List D→List PR→Prop
 |nil:Tw [] []
 |cons {y p ys ps}:aE2 300 y→Pe y p→Tw ys ps→Tw (y::ys) (p::ps)
def bI (b:UInt8):Bool:=decide (0≤gT b [32,9,13,10] 0)
theorem gZ {b:UInt8}(h:bI b=true):b=32∨b=9∨b=13∨b=10:=by
 have h:0≤gT b [32,9,13,10] 0:=E7 h
 simp only [gT] at h
 cases h1:(32:UInt8)==b with
 |true=>exact .inl (by simpa using h1:(32:UInt8)=b).symm
 |false=>
  cases h2:(9:UInt8)==b with
  |true=>exact .inr (.inl (by simpa using h2:(9:UInt8)=b).symm)
  |false=>
   cases h3:(13:UInt8)==b with
   |true=>exact .inr (.inr (.inl (by simpa using h3:(13:UInt8)=b).symm))
   |false=>
    cases h4:(10:UInt8)==b with
    |true=>exact .inr (.inr (.inr (by simpa using h4:(10:UInt8)=b).symm))
    |false=>rw [h1,h2,h3,h4] at h;exact absurd h (by decide)
def Jg (p:Int×Int)(b:UInt8):Int×Int:=bif ((b.toNat:Int)==10) then (p.1+1,1) else (p.1,p.2+1)
def mv (p:Int×Int)(s:G1):Int×Int:=s.foldl Jg p
def Room (p:Int×Int)(m:Nat):Prop:=1≤p.1∧1≤p.2∧p.1+m≤1000000∧p.2+m≤1000000
theorem Ah {p:Int×Int}{m:Nat}(h:Room p (m+1))(b:UInt8):Room (Jg p b) m:=by
 obtain⟨h1,h2,h3,h4⟩:=h
 unfold Jg
 cases ((b.toNat:Int)==10)
 ·exact⟨h1,by show 1≤p.2+1;omega,by show p.1+(m:Int)≤1000000;omega,by show p.2+1+(m:Int)≤1000000;omega⟩
 ·exact⟨by show 1≤p.1+1;omega,by show (1:Int)≤1;omega,by show p.1+1+(m:Int)≤1000000;omega,by show 1+(m:Int)≤1000000;omega⟩
theorem WT:∀ {s:G1} {p:Int×Int} {m:Nat},Room p (m+s.length)→Room (mv p s) m
 |[],_,_,h=>h
 |b::s,p,m,h=>WT (s:=s) (Ah (m:=m+s.length) h b)
inductive aA7:Int×Int→G1→List D→Prop
 |nil {p s}:(∀ b∈s,bI b=true)→aA7 p s []
 |cons {p k bl w rest ts}:(∀ b∈bl,bI b=true)→w≠[]→aA7 (mv (mv p bl) w) rest ts→
   aA7 p (bl++(w++rest)) (.agg [.int .i64 k,.str w,.int .i64 1,.int .i64 (mv p bl).1,.int .i64 (mv p bl).2]::ts)
theorem byte_back (b:UInt8):((b.toNat:Int)).toNat.toUInt8=b:=by
 rw [E1];exact UInt8.ofNat_toNat
theorem GP {s:G1}{j:Nat}(h:j<s.length):s[((j:Nat):Int).toNat]?.getD 0=s[j]:=by
 rw [E1,C2 h];rfl
theorem Gt (b:UInt8):U (fun n=>lN n (.int .u8 (b.toNat:Int))) fun r=>r=(true,[.bool (bI b)]):=by
 refine U.eq (fun n=>OW n _) (U.H6 (rV _ _) ?_)
 rw [byte_back]
 intro _ _ h;cases h;exact⟨rfl,U.I0 rfl (U.ret rfl)⟩
theorem Ml (f:Int){p:Int×Int}{s:G1}(hr:Room p s.length):U (fun n=>qT n (.agg [.int .i64 f,.int .i64 p.1,.int .i64 p.2]) (.str s)) fun r=>r=(true,[.agg [.int .i64 f,.int .i64 (mv p s).1,.int .i64 (mv p s).2]]):=by
 refine U.eq (fun n=>ZA n f p.1 p.2 s) ?_
 have hsl:s.length≤1000000:=by obtain⟨r1,r2,r3,r4⟩:=hr;omega
 have loop:∀ (m j:Nat) (q:Int×Int),s.length-j=m→j≤s.length→Room q m→
   U (fun n=>gC n (.str s) (s.length:Int) (j:Int) f (.int .i64 q.1) (.int .i64 q.2) (0:Int) (0:Int) (0:Int)) fun r=>∃ j':Int,r=(false,[.str s,.int .i64 (s.length:Int),.int .i64 j',.int .i64 f,.int .i64 (mv q (s.drop j)).1,.int .i64 (mv q (s.drop j)).2,.int .i64 0,.int .i64 0,.int .i64 0]):=by
  intro m
  induction m with
  |zero=>
   intro j q hm hj hr
   refine U.eq (fun n=>AH n _ _ _ _ _ _ _ _ _) (U.no (E8 (by omega)) (U.ret ⟨(j:Int),?_⟩))
   rw [D4 (by omega)];rfl
  |succ m ih=>
   intro j q hm hj hr
   have hj2:j<s.length:=by omega
   have hw:IntKind.i64.wrap ((j:Int)+1)=((j+1:Nat):Int):=P0 (by omega)
   have hr':=hr
   obtain⟨r1,r2,r3,r4⟩:=hr'
   refine U.eq (fun n=>AH n _ _ _ _ _ _ _ _ _) (U.I0 (E6 (by omega)) (U.I0 (O5 hj2) ?_))
   rw [GP hj2,hw,drop_cons hj2,Q3 (x:=q.1+1) (by omega) (by omega),Q3 (x:=q.2+1) (by omega) (by omega)]
   have hn:=ih (j+1) (Jg q s[j]) (by omega) hj2 (Ah hr _)
   refine U.N9 (fun h=>?_) fun h=>?_
   ·have e:Jg q s[j]=(q.1+1,1):=by unfold Jg;rw [h];rfl
    have hn2:=hn
    rw [e] at hn2
    show U _ fun r=>∃ j':Int,r=(false,[.str s,.int .i64 (s.length:Int),.int .i64 j',.int .i64 f,.int .i64 (mv (Jg q s[j]) (s.drop (j+1))).1,.int .i64 (mv (Jg q s[j]) (s.drop (j+1))).2,.int .i64 0,.int .i64 0,.int .i64 0])
    rw [e];exact hn2
   ·have e:Jg q s[j]=(q.1,q.2+1):=by unfold Jg;rw [h];rfl
    have hn2:=hn
    rw [e] at hn2
    show U _ fun r=>∃ j':Int,r=(false,[.str s,.int .i64 (s.length:Int),.int .i64 j',.int .i64 f,.int .i64 (mv (Jg q s[j]) (s.drop (j+1))).1,.int .i64 (mv (Jg q s[j]) (s.drop (j+1))).2,.int .i64 0,.int .i64 0,.int .i64 0])
    rw [e];exact hn2
 refine U.L3 (loop s.length 0 p rfl (C4 _) hr) (fun ds h=>by obtain⟨_,h⟩:=h;cases h) fun ds h=>?_
 obtain⟨j',h⟩:=h
 cases h
 exact U.I0 rfl (U.ret rfl)
theorem PY {s:G1}{k:Nat}(hk:k≤s.length)(x:G1)(p0 p1 p2 f:Int){q:Int×Int}(hr:Room q s.length) :
  U (fun n=>cM n (k:Int) (.str x) p0 p1 p2 (.bool false) f (.int .i64 q.1) (.int .i64 q.2) (.str s)) fun r=>
   r=(true,[.str x,.int .i64 p0,.int .i64 p1,.int .i64 p2,.bool false,.int .i64 f,.int .i64 (mv q (s.take k)).1,.int .i64 (mv q (s.take k)).2,.str (s.drop k)]):=by
 have hc:(decide ((0:Int)≤(k:Int))&&decide ((k:Int)≤(s.length:Int))&&decide ((s.length:Int)≤(s.length:Int)))=true:=K3 (K3 (E6 (by omega)) (E6 (by omega))) (E6 (Int.le_refl _))
 refine U.eq (fun n=>OV n _ _ _ _ _ _ _ _ _ _) (U.I0 rfl ?_)
 simp only [E1,NP,List.drop_zero,Nat.sub_zero]
 refine U.I0 (K3 (K3 rfl (E6 (by omega))) (E6 (by omega))) (U.H6 (Ml f (p:=q) (s:=s.take k) ?_) ?_)
 ·obtain⟨r1,r2,r3,r4⟩:=hr
  refine⟨r1,r2,?_,?_⟩<;>simp only [D7]<;>omega
 ·intro _ _ h;cases h
  exact⟨rfl,U.I0 rfl (U.I0 hc (U.ret rfl))⟩
def LP (b:UInt8):Bool:=bif decide ((b.toNat:Int)≥97) then (bif decide ((b.toNat:Int)≤122) then true else (bif decide ((b.toNat:Int)≥65) then (bif decide ((b.toNat:Int)≤90) then true else ((b.toNat:Int)==95)) else ((b.toNat:Int)==95))) else (bif decide ((b.toNat:Int)≥65) then (bif decide ((b.toNat:Int)≤90) then true else ((b.toNat:Int)==95)) else ((b.toNat:Int)==95))
def IQ (b:UInt8):Bool:=bif decide ((b.toNat:Int)≥48) then decide ((b.toNat:Int)≤57) else false
def p2 (b:UInt8):Bool:=bif LP b then true else IQ b
def p3 (b:UInt8):Bool:=bif IQ b then true else ((b.toNat:Int)==95)
def p4 (b:UInt8):Bool:=bif IQ b then true else LP b
theorem HC (b:UInt8):U (fun n=>fG n (.int .u8 (b.toNat:Int))) fun r=>r=(true,[.bool (LP b)]):=by
 refine U.eq (fun n=>DF n _) ?_
 unfold LP
 refine U.N9 (fun h1=>U.N9 (fun h2=>?_) fun h2=>U.N9 (fun h3=>U.N9 (fun h4=>?_) fun h4=>?_) fun h3=>?_) fun h1=>U.N9 (fun h3=>U.N9 (fun h4=>?_) fun h4=>?_) fun h3=>?_
 all_goals (refine U.ret ?_;simp only [*,cond_true,cond_false])
theorem GF (b:UInt8):U (fun n=>fA n (.int .u8 (b.toNat:Int))) fun r=>r=(true,[.bool (IQ b)]):=by
 refine U.eq (fun n=>HD n _) ?_
 unfold IQ
 refine U.N9 (fun h1=>?_) fun h1=>?_
 all_goals (refine U.ret ?_;simp only [*,cond_true,cond_false])
theorem Wb (b:UInt8):U (fun n=>lP n (.int .u8 (b.toNat:Int))) fun r=>r=(true,[.bool (p2 b)]):=by
 refine U.eq (fun n=>DK n _) (U.H6 (HC b) ?_)
 unfold p2
 intro _ _ h;cases h;refine⟨rfl,U.I0 rfl (U.N9 (fun h=>U.ret ?_) fun h=>U.H6 (GF b) ?_)⟩
 ·have h:LP b=true:=h
  rw [h];rfl
 ·have h:LP b=false:=h
  rw [h]
  intro _ _ h;cases h;exact⟨rfl,U.I0 rfl (U.ret rfl)⟩
theorem Wc (b:UInt8):U (fun n=>iC n (.int .u8 (b.toNat:Int))) fun r=>r=(true,[.bool (p3 b)]):=by
 refine U.eq (fun n=>xX n _) (U.H6 (GF b) ?_)
 unfold p3
 intro _ _ h;cases h;refine⟨rfl,U.I0 rfl (U.N9 (fun h=>U.ret ?_) fun h=>U.ret ?_)⟩
 ·have h:IQ b=true:=h
  rw [h];rfl
 ·have h:IQ b=false:=h
  rw [h];rfl
theorem We (b:UInt8):U (fun n=>iD n (.int .u8 (b.toNat:Int))) fun r=>r=(true,[.bool (p4 b)]):=by
 refine U.eq (fun n=>xY n _) (U.H6 (GF b) ?_)
 unfold p4
 intro _ _ h;cases h;refine⟨rfl,U.I0 rfl (U.N9 (fun h=>U.ret ?_) fun h=>U.H6 (HC b) ?_)⟩
 ·have h:IQ b=true:=h
  rw [h];rfl
 ·have h:IQ b=false:=h
  rw [h]
  intro _ _ h;cases h;exact⟨rfl,U.I0 rfl (U.ret rfl)⟩
def Y2 (p:UInt8→Bool)(s:G1):Nat:=(s.takeWhile p).length
theorem tH (p:UInt8→Bool)(s:G1):Y2 p s≤s.length:=List.IsPrefix.length_le (List.takeWhile_prefix p)
theorem fI {p:UInt8→Bool}{b:UInt8}{s:G1}:Y2 p (b::s)=bif p b then Y2 p s+1 else 0:=by
 unfold Y2
 rw [List.takeWhile_cons]
 cases p b<;>simp
theorem Ip {s:G1}(hs:s.length≤1048576):U (fun n=>cH n (.str s)) fun r=>r=(true,[.int .i64 (Y2 p2 s:Int)]):=by
 refine U.eq (fun n=>DH n s) ?_
 have loop:∀ (m j:Nat),s.length-j=m→j≤s.length→
   U (fun n=>cP n (.str s) (j:Int)) fun r=>r=(false,[.str s,.int .i64 ((j+Y2 p2 (s.drop j):Nat):Int)]):=by
  intro m
  induction m with
  |zero=>
   intro j hm hj
   refine U.eq (fun n=>mB n _ _) (U.no (E8 (by omega)) (U.ret ?_))
   rw [D4 (by omega)];rfl
  |succ m ih=>
   intro j hm hj
   have hj2:j<s.length:=by omega
   have hw:IntKind.i64.wrap ((j:Int)+1)=((j+1:Nat):Int):=P0 (by omega)
   refine U.eq (fun n=>mB n _ _) (U.I0 (E6 (by omega)) (U.I0 (O5 hj2) ?_))
   rw [GP hj2,hw,drop_cons hj2,fI]
   refine U.H6 (Wb _) ?_
   intro _ _ h;cases h
   refine⟨rfl,U.I0 rfl ?_⟩
   cases hB:p2 s[j] with
   |true=>
    refine (ih (j+1) (by omega) hj2).mono fun r hr=>?_
    rw [hr,show j+1+Y2 p2 (s.drop (j+1))=j+(Y2 p2 (s.drop (j+1))+1) by omega];rfl
   |false=>exact U.ret rfl
 refine U.L3 (loop s.length 0 rfl (C4 _)) (fun ds h=>by cases h) fun ds h=>?_
 cases h
 exact U.I0 rfl (U.ret (by simp [Y,D.i]))
theorem Ir {s:G1}(hs:s.length≤1048576):U (fun n=>jZ n (.str s)) fun r=>r=(true,[.int .i64 (Y2 p3 s:Int)]):=by
 refine U.eq (fun n=>DI n s) ?_
 have loop:∀ (m j:Nat),s.length-j=m→j≤s.length→
   U (fun n=>cQ n (.str s) (j:Int)) fun r=>r=(false,[.str s,.int .i64 ((j+Y2 p3 (s.drop j):Nat):Int)]):=by
  intro m
  induction m with
  |zero=>
   intro j hm hj
   refine U.eq (fun n=>mC n _ _) (U.no (E8 (by omega)) (U.ret ?_))
   rw [D4 (by omega)];rfl
  |succ m ih=>
   intro j hm hj
   have hj2:j<s.length:=by omega
   have hw:IntKind.i64.wrap ((j:Int)+1)=((j+1:Nat):Int):=P0 (by omega)
   refine U.eq (fun n=>mC n _ _) (U.I0 (E6 (by omega)) (U.I0 (O5 hj2) ?_))
   rw [GP hj2,hw,drop_cons hj2,fI]
   refine U.H6 (Wc _) ?_
   intro _ _ h;cases h
   refine⟨rfl,U.I0 rfl ?_⟩
   cases hB:p3 s[j] with
   |true=>
    refine (ih (j+1) (by omega) hj2).mono fun r hr=>?_
    rw [hr,show j+1+Y2 p3 (s.drop (j+1))=j+(Y2 p3 (s.drop (j+1))+1) by omega];rfl
   |false=>exact U.ret rfl
 refine U.L3 (loop s.length 0 rfl (C4 _)) (fun ds h=>by cases h) fun ds h=>?_
 cases h
 exact U.I0 rfl (U.ret (by simp [Y,D.i]))
theorem It {s:G1}(hs:s.length≤1048576):U (fun n=>kA n (.str s)) fun r=>r=(true,[.int .i64 (Y2 p4 s:Int)]):=by
 refine U.eq (fun n=>DJ n s) ?_
 have loop:∀ (m j:Nat),s.length-j=m→j≤s.length→
   U (fun n=>cR n (.str s) (j:Int)) fun r=>r=(false,[.str s,.int .i64 ((j+Y2 p4 (s.drop j):Nat):Int)]):=by
  intro m
  induction m with
  |zero=>
   intro j hm hj
   refine U.eq (fun n=>mD n _ _) (U.no (E8 (by omega)) (U.ret ?_))
   rw [D4 (by omega)];rfl
  |succ m ih=>
   intro j hm hj
   have hj2:j<s.length:=by omega
   have hw:IntKind.i64.wrap ((j:Int)+1)=((j+1:Nat):Int):=P0 (by omega)
   refine U.eq (fun n=>mD n _ _) (U.I0 (E6 (by omega)) (U.I0 (O5 hj2) ?_))
   rw [GP hj2,hw,drop_cons hj2,fI]
   refine U.H6 (We _) ?_
   intro _ _ h;cases h
   refine⟨rfl,U.I0 rfl ?_⟩
   cases hB:p4 s[j] with
   |true=>
    refine (ih (j+1) (by omega) hj2).mono fun r hr=>?_
    rw [hr,show j+1+Y2 p4 (s.drop (j+1))=j+(Y2 p4 (s.drop (j+1))+1) by omega];rfl
   |false=>exact U.ret rfl
 refine U.L3 (loop s.length 0 rfl (C4 _)) (fun ds h=>by cases h) fun ds h=>?_
 cases h
 exact U.I0 rfl (U.ret (by simp [Y,D.i]))
theorem Fx {s:G1}(hs:s.length≤1048576):U (fun n=>qU n (.str s)) fun r=>r=(true,[.int .i64 (Y2 bI s:Int)]):=by
 refine U.eq (fun n=>ZB n s) ?_
 have loop:∀ (m j:Nat),s.length-j=m→j≤s.length→
   U (fun n=>iE n (.str s) (j:Int)) fun r=>r=(false,[.str s,.int .i64 ((j+Y2 bI (s.drop j):Nat):Int)]):=by
  intro m
  induction m with
  |zero=>
   intro j hm hj
   refine U.eq (fun n=>AK n _ _) (U.no (E8 (by omega)) (U.ret ?_))
   rw [D4 (by omega)];rfl
  |succ m ih=>
   intro j hm hj
   have hj2:j<s.length:=by omega
   have hw:IntKind.i64.wrap ((j:Int)+1)=((j+1:Nat):Int):=P0 (by omega)
   refine U.eq (fun n=>AK n _ _) (U.I0 (E6 (by omega)) (U.I0 (O5 hj2) ?_))
   rw [GP hj2,hw,drop_cons hj2,fI]
   refine U.H6 (Gt _) ?_
   intro _ _ h;cases h
   refine⟨rfl,U.I0 rfl ?_⟩
   cases hB:bI s[j] with
   |true=>
    refine (ih (j+1) (by omega) hj2).mono fun r hr=>?_
    rw [hr,show j+1+Y2 bI (s.drop (j+1))=j+(Y2 bI (s.drop (j+1))+1) by omega];rfl
   |false=>exact U.ret rfl
 refine U.L3 (loop s.length 0 rfl (C4 _)) (fun ds h=>by cases h) fun ds h=>?_
 cases h
 exact U.I0 rfl (U.ret (by simp [Y,D.i]))
def Pc (r:G1):Prop:=∀ b t,r=b::t→bI b=true
theorem Lk {p:UInt8→Bool}(hp:∀ b,bI b=true→p b=false){r:G1}(h:Pc r):Y2 p r=0:=by
 cases r with
 |nil=>rfl
 |cons b t=>rw [fI,hp b (h b t rfl)];rfl
theorem XZ (b:UInt8)(h:bI b=true):p2 b=false:=by
 rcases gZ h with rfl|rfl|rfl|rfl<;>rfl
theorem YA (b:UInt8)(h:bI b=true):p3 b=false:=by
 rcases gZ h with rfl|rfl|rfl|rfl<;>rfl
theorem YB (b:UInt8)(h:bI b=true):p4 b=false:=by
 rcases gZ h with rfl|rfl|rfl|rfl<;>rfl
theorem sD {p:UInt8→Bool}:∀ {w r:G1},(∀ b∈w,p b=true)→Y2 p (w++r)=w.length+Y2 p r
 |[],r,_=>by simp
 |b::w,r,h=>by
  rw [List.cons_append,fI,h b (B8 ..),sD (w:=w) fun x hx=>h x (C0 _ hx)]
  simp only [cond_true,A0];omega
theorem JQ {p:UInt8→Bool}:∀ {w r:G1},w.length≤Y2 p (w++r)→∀ b∈w,p b=true
 |[],_,_=>fun b hb=>by simp at hb
 |c::w,r,h=>by
  rw [List.cons_append,fI] at h
  cases hc:p c with
  |false=>rw [hc] at h;simp at h
  |true=>
   rw [hc] at h
   intro b hb
   rcases B7.1 hb with rfl|hb
   ·exact hc
   ·exact JQ (w:=w) (r:=r) (by simp only [cond_true,A0] at h;omega) b hb
def wT (s:G1):Nat:=match s.drop (Y2 p3 s) with
 |[]=>Y2 p3 s
 |b::t=>bif ((b.toNat:Int)==39) then Y2 p3 s+(1+Y2 p4 t) else Y2 p3 s
theorem Ib {s:G1}(hs:s.length≤1048576):U (fun n=>cX n (.str s)) fun r=>r=(true,[.int .i64 (wT s:Int)]):=by
 refine U.eq (fun n=>DG n s) (U.H6 (Ir hs) ?_)
 have hk:=tH p3 s
 unfold wT
 generalize Y2 p3 s=k at hk
 intro _ _ h;cases h
 refine⟨rfl,U.I0 rfl (U.N9 (fun hl=>?_) fun hl=>?_)⟩
 ·have hl:k<s.length:=by have:=E7 hl;simp only [Y,D.i,List.getD_cons_zero] at this;omega
  have hw:IntKind.i64.wrap ((k:Int)+1)=((k+1:Nat):Int):=P0 (by omega)
  rw [drop_cons hl]
  simp only [Y,D.i,List.getD_cons_zero,hw,E1,NP,C2 hl,Option.getD_some]
  refine U.I0 (O5 hl) ?_
  cases hq:((s[k].toNat:Int)==39) with
  |false=>exact U.ret rfl
  |true=>
   refine U.I0 rfl (U.I0 (K3 (K3 (E6 (by omega)) (E6 (by omega))) (E6 (Int.le_refl _))) (U.H6 (It (by simp;omega)) ?_))
   have h4:=tH p4 (s.drop (k+1))
   simp only [F9] at h4
   intro _ _ h;cases h
   refine⟨rfl,U.I0 rfl (U.ret ?_)⟩
   show (true,[D.int .i64 (IntKind.i64.wrap ((k:Int)+IntKind.i64.wrap (1+((Y2 p4 (s.drop (k+1)):Nat):Int))))])=(true,[D.int .i64 ((k+(1+Y2 p4 (s.drop (k+1))):Nat):Int)])
   rw [Q3 (x:=1+((Y2 p4 (s.drop (k+1)):Nat):Int)) (by omega) (by omega),Q3 (by omega) (by omega)]
   rfl
 ·have hl:¬ k<s.length:=by have:=E9 hl;simp only [Y,D.i,List.getD_cons_zero] at this;omega
  rw [D4 (by omega)]
  exact U.ret rfl
theorem Aq {p:UInt8→Bool}:∀ {w r0 r:G1},Y2 p (w++r0)<w.length→Y2 p (w++r)=Y2 p (w++r0)
 |[],_,_,h=>by simp at h
 |c::w,r0,r,h=>by
  rw [List.cons_append,fI] at h
  rw [List.cons_append,List.cons_append,fI,fI]
  cases hc:p c with
  |false=>rfl
  |true=>
   rw [hc] at h
   have h:Y2 p (w++r0)+1<w.length+1:=h
   rw [Aq (w:=w) (r0:=r0) (r:=r) (by omega)]
theorem ZU {w r0 r:G1}(h:wT (w++r0)=w.length)(hr:Pc r):wT (w++r)=w.length:=by
 unfold wT at h
 by_cases hw:w.length≤Y2 p3 (w++r0)
 ·have ha:=JQ hw
  have hs:Y2 p3 (w++r)=w.length:=by rw [sD ha,Lk YA hr];omega
  unfold wT
  rw [hs,List.drop_left]
  cases r with
  |nil=>rfl
  |cons b t=>
   have:((b.toNat:Int)==39)=false:=by rcases gZ (hr b t rfl) with rfl|rfl|rfl|rfl<;>rfl
   simp only [this,cond_false]
 ·have hs:=Aq (r:=r) (show Y2 p3 (w++r0)<w.length by omega)
  unfold wT
  rw [hs]
  generalize Y2 p3 (w++r0)=k at h hw
  have hk:k<w.length:=by omega
  have hd:∀ x:G1,(w++x).drop k=w[k]::(w.drop (k+1)++x):=fun x=>by
   rw [List.drop_append_of_le_length (by omega),drop_cons hk];rfl
  rw [hd] at h ⊢
  cases hq:((w[k].toNat:Int)==39) with
  |false=>simp only [hq,cond_false] at h;omega
  |true=>
   simp only [hq,cond_true] at h ⊢
   have hl:(w.drop (k+1)).length=w.length-(k+1):=F9 ..
   have ha:=JQ (p:=p4) (w:=w.drop (k+1)) (r:=r0) (by omega)
   rw [sD ha,Lk YB hr]
   omega
end Go.Proofs.YtalibicpmfbieaaGreatDoor
