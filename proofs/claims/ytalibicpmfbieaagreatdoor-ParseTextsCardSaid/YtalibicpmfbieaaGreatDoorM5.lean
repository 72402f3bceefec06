import Derived.Test.YtalibicpmfbieaaGreatDoorM4
namespace Go.Proofs.YtalibicpmfbieaaGreatDoor
open Go.AE
set_option linter.unusedVariables false
set_option linter.unusedSimpArgs false
section
theorem C5 {ws:List Tk}(h:(ws.all fun p=>!(p.1==9)&&Tj p.2)=true):CC ws:=fun p hp=>by
 have:=Yg.1 h p hp
 rw [Xz,Zd] at this
 exact this
theorem H9 {p:Tk}{ws:List Tk}(h:gw p.2)(h':CC ws)(hk:(p.1==9)=false:=by rfl):CC (p::ws):=fun q hq=>by
 rcases Yh.1 hq with rfl|hq
 ·exact⟨hk,h⟩
 ·exact h' q hq
theorem dU {T:List Zt}(h:T.all Tj=true){t:Zt}(ht:t∈T):gw t:=Yg.1 h t ht
def Qh (w:D→List Tk)(es:List D):List Tk:=match es with
 |[]=>[]
 |[x]=>[(3,[91])]++(w x++[(3,[93])])
 |x::y::_=>[(3,[91])]++(w x++([(3,[58])]++(w y++[(3,[93])])))
theorem Tw (es:List D):Qh (wE 4) es=mM es:=by
 match es with
 |[]=>rfl
 |[x]=>rfl
 |x::y::_=>rfl
def vH:Nat→D→Prop
 |0,_=>False
 |n+1,x=>∃ k u0 u1 u2 t ar,x=PE k u0 u1 u2 t ar∧CB k t ar.length∧∀ a∈ar,vH n a
theorem Wb {d:Nat}{x:D}(h:vH d x):C0 B1 x=x∧J3 B1 x=true:=by
 cases d with
 |zero=>exact h.elim
 |succ d=>obtain⟨k,u0,u1,u2,t,xs,rfl,_⟩:=h;exact⟨rfl,rfl⟩
theorem Fu {d:Nat}{x:D}(h:vH d x):(D7 B1&&J3 B1 x)=true:=by rw [(Wb h).2];rfl
theorem Xa (n:Nat)(k u0 u1 u2:Int)(t:Zt)(ar:List D):wE (n+1) (PE k u0 u1 u2 t ar)=kW (wE n) k t ar:=rfl
section
variable {d:Nat} (hE:∀ x,vH d x→Pr (fun n=>C8 n x) (wE d x))
include hE
theorem FN {x:D}(hx:vH d x):Pr (fun n=>C8 n (C0 B1 x)) (wE d x):=by rw [(Wb hx).1];exact hE x hx
theorem Cx {x:D}(hx:vH d x):Pr (fun n=>Y8 n (C0 B1 x)) (aW (wE d) x):=by
 rw [(Wb hx).1]
 have hp:=hE x hx
 cases d with
 |zero=>exact hx.elim
 |succ d=>
  obtain⟨k,u0,u1,u2,t,xs,rfl,_⟩:=hx
  intro f s hb
  have J:∀ g,NA (PE k u0 u1 u2 t xs)=g→U (fun n=>cZ n g f (E9 s) k u0 u1 u2 t xs) fun r=>∃ st:Bool×Zt,r=(true,[.bool st.1,.Z 1 (E9 st.2)])∧Wr (f,s) st (aW (wE (d+1)) (PE k u0 u1 u2 t xs)):=by
   intro g hg
   refine G4 (fun n=>cZ.eq_1 n _ _ _ _ _ _ _ _ _) ?_
   unfold aW at hb ⊢
   rw [hg] at hb ⊢
   cases g with
   |true=>
    simp only [cond_true,Xx,Xw,Xy] at hb
    refine U.Xu rfl ?_
    (refine U.A0 ((E7 (ws:=[(3,[40])]) (C5 rfl) (by decide) f s (by simp only [Xw,Xy];omega))) ?_;rintro _ _ ⟨⟨f1,s1⟩,h,w1⟩;cases h;have lw1:=Wr.len w1;(try simp only [Xx,Xw,Xy] at lw1);refine⟨rfl,U.Xu (C6 rfl (E6 _ _ _)) ?_⟩)
    (refine U.A0 (hp f1 s1 (by omega)) ?_;rintro _ _ ⟨⟨f2,s2⟩,h,w2⟩;cases h;have lw2:=Wr.len w2;(try simp only [Xx,Xw,Xy] at lw2);refine⟨rfl,U.Xu rfl ?_⟩)
    (refine U.A0 ((E7 (ws:=[(3,[41])]) (C5 rfl) (by decide) f2 s2 (by simp only [Xw,Xy];omega))) ?_;rintro _ _ ⟨⟨f3,s3⟩,h,w3⟩;cases h;have lw3:=Wr.len w3;(try simp only [Xx,Xw,Xy] at lw3);refine⟨rfl,U.Xu (C6 rfl (E6 _ _ _)) ?_⟩)
    exact U.ret ⟨(f3,s3),rfl,w1.app (w2.app w3)⟩
   |false=>
    simp only [cond_false] at hb
    refine U.no rfl ?_
    (refine U.A0 (hp f s hb) ?_;rintro _ _ ⟨⟨f2,s2⟩,h,w2⟩;cases h;have lw2:=Wr.len w2;(try simp only [Xx,Xw,Xy] at lw2);refine⟨rfl,U.Xu rfl ?_⟩)
    exact U.ret ⟨(f2,s2),rfl,w2⟩
  refine U.eq (fun n=>AX n k u0 u1 u2 t xs f (E9 s)) ?_
  have e:NA (PE k u0 u1 u2 t xs)=(k==3||(k==4||k==5)):=rfl
  refine U.Xv (fun h=>J true (by rw [e,show (k==3)=true from h];rfl)) fun h=>U.Xv (fun h'=>J true (by rw [e,show (k==3)=false from h,show (k==4)=true from h'];rfl)) fun h'=>J (k==5) (by rw [e,show (k==3)=false from h,show (k==4)=false from h'];rfl)
theorem Dw {xs:List D}(hn:xs.length≤100)(hx:∀ x∈xs,vH d x):∀ (m j:Nat) (f:Bool) (s:Zt),xs.length-j=m→j≤xs.length→
  s.length+14*((bif j==0||j==xs.length then [] else [(3,[44])])++lW (wE d) (xs.drop j):List Tk).length≤68000000000→
  U (fun n=>M3 n (.Z 6 xs) (xs.length:Int) (j:Int) (.bool f) (.Z 1 (E9 s))) fun r=>
   ∃ st:Bool×Zt,r=(false,[.Z 6 xs,.int .i64 (xs.length:Int),.int .i64 (xs.length:Int),.bool st.1,.Z 1 (E9 st.2)])∧Wr (f,s) st ((bif j==0||j==xs.length then [] else [(3,[44])])++lW (wE d) (xs.drop j)):=by
 intro m
 induction m with
 |zero=>
  intro j f s hm hj hb
  have:j=xs.length:=by omega
  subst this
  refine U.eq (fun n=>lF n _ _ _ _ _) (U.no (Zk (by omega)) (U.ret ⟨(f,s),rfl,?_⟩))
  rw [Zm,Bool.or_true,List.drop_length]
  exact Wr.nil _
 |succ m ih=>
  intro j f s hm hj hb
  have hlt:j<xs.length:=by omega
  have hw:=hx xs[j] (Yr hlt)
  have hp:=FN hE hw
  have hnl:(j==xs.length)=false:=Zn.2 (by omega)
  have hnz:(j+1==0)=false:=Zn.2 (by omega)
  have sp:lW (wE d) (xs.drop j)=wE d xs[j]++((bif j+1==0||j+1==xs.length then [] else [(3,[44])])++lW (wE d) (xs.drop (j+1))):=by
   rw [drop_cons hlt,hnz,Bool.false_or]
   cases hd:xs.drop (j+1) with
   |nil=>
    have:j+1=xs.length:=by have:=congrArg List.length hd;simp at this;omega
    rw [this,Zm]
    show wE d xs[j]=wE d xs[j]++([]++[])
    simp
   |cons y r=>
    have:(j+1==xs.length)=false:=by
     have:=congrArg List.length hd
     simp only [Zs,Xw] at this
     exact Zn.2 (by omega)
    rw [this];rfl
  rw [sp,hnl,Bool.or_false] at hb ⊢
  have fin:∀ (f1:Bool) (s1:Zt) (u:List Tk),Wr (f,s) (f1,s1) u→s1.length+14*((bif j+1==0||j+1==xs.length then [] else [(3,[44])])++lW (wE d) (xs.drop (j+1)):List Tk).length≤68000000000→
    U (fun n=>M3 n (.Z 6 xs) (xs.length:Int) (.int .i64 (IntKind.i64.wrap ((j:Int)+1))) (.bool f1) (.Z 1 (E9 s1))) fun r=>
     ∃ st:Bool×Zt,r=(false,[.Z 6 xs,.int .i64 (xs.length:Int),.int .i64 (xs.length:Int),.bool st.1,.Z 1 (E9 st.2)])∧Wr (f,s) st (u++((bif j+1==0||j+1==xs.length then [] else [(3,[44])])++lW (wE d) (xs.drop (j+1)))):=by
   intro f1 s1 u hu hb
   rw [H7 (by omega)]
   exact (ih (j+1) f1 s1 (by omega) hlt hb).mono fun r ⟨st,h1,h2⟩=>⟨st,h1,hu.app h2⟩
  generalize ((bif j+1==0||j+1==xs.length then [] else [(3,[44])])++lW (wE d) (xs.drop (j+1)):List Tk)=rest at hb fin ⊢
  refine U.eq (fun n=>lF n _ _ _ _ _) (U.Xu (Zi (by omega)) (U.Xu (G9 hlt) ?_))
  rw [X7 hlt]
  refine U.Xu (Fu hw) (U.Xv (fun h0=>?_) fun h0=>?_)
  ·have h0:=Zj h0
   rw [show (j==0)=false from Zn.2 (by omega)] at hb ⊢
   simp only [cond_false,Xx,Xw,Xy] at hb
   (refine U.A0 ((E7 (ws:=[(3,[44])]) (C5 rfl) (by decide) f s (by simp only [Xw,Xy];omega))) ?_;rintro _ _ ⟨⟨f1,s1⟩,h,w1⟩;cases h;have lw1:=Wr.len w1;(try simp only [Xx,Xw,Xy] at lw1);refine⟨rfl,U.Xu (C6 rfl (E6 _ _ _)) ?_⟩)
   (refine U.A0 (hp f1 s1 (by omega)) ?_;rintro _ _ ⟨⟨f2,s2⟩,h,w2⟩;cases h;have lw2:=Wr.len w2;(try simp only [Xx,Xw,Xy] at lw2);refine⟨rfl,U.Xu rfl ?_⟩)
   refine (fin f2 s2 _ (w1.app w2) (by omega)).mono fun r ⟨st,h1,h2⟩=>⟨st,h1,?_⟩
   rw [Yl] at h2
   exact h2
  ·have h0:=Zl h0
   have:j=0:=by omega
   subst this
   simp only [Zm,cond_true,List.nil_append,Xx] at hb
   (refine U.A0 (hp f s (by omega)) ?_;rintro _ _ ⟨⟨f2,s2⟩,h,w2⟩;cases h;have lw2:=Wr.len w2;(try simp only [Xx,Xw,Xy] at lw2);refine⟨rfl,U.Xu rfl ?_⟩)
   exact fin f2 s2 _ w2 (by omega)
theorem BS {xs:List D}(hn:xs.length≤100)(hx:∀ x∈xs,vH d x):Pr (fun n=>F7 n (.Z 6 xs)) (lW (wE d) xs):=by
 intro f s hb
 refine U.eq (fun n=>zB n _ _ _) (U.D4 (Dw hE hn hx xs.length 0 f s rfl (Yo _) (by simpa using hb)) (fun ds h=>by obtain⟨_,h,_⟩:=h;cases h) fun ds h=>?_)
 obtain⟨st,h,hw⟩:=h
 cases h
 exact U.Xu rfl (U.ret ⟨st,rfl,by simpa using hw⟩)
theorem RE {es:List D}(hl:es.length≤2)(hx:∀ x∈es,vH d x):Pr (fun n=>H0 n (.Z 6 es)) (Qh (wE d) es):=by
 intro f s hb
 refine U.eq (fun n=>uX n _ _ _) ?_
 match es,hl,hx,hb with
 |[],_,_,_=>exact U.Xu rfl (U.ret ⟨(f,s),rfl,Wr.nil _⟩)
 |[x],_,hx,hb=>
  have h1:=hx x (by simp)
  have p1:=FN hE h1
  simp only [Qh,Xx,Xw,Xy] at hb
  refine U.no rfl ?_
  (refine U.A0 ((E7 (ws:=[(3,[91])]) (C5 rfl) (by decide) f s (by simp only [Xw,Xy];omega))) ?_;rintro _ _ ⟨⟨f1,s1⟩,h,w1⟩;cases h;have lw1:=Wr.len w1;(try simp only [Xx,Xw,Xy] at lw1);refine⟨rfl,U.Xu (C6 rfl (E6 _ _ _)) ?_⟩)
  refine U.D4 (Q:=fun r=>∃ st:Bool×Zt,r=(false,[.Z 6 [x],.int .i64 1,.int .i64 1,.bool st.1,.Z 1 (E9 st.2)])∧Wr (f1,s1) st (wE d x)) ?_ (fun ds h=>by obtain⟨_,h,_⟩:=h;cases h) fun ds h=>?_
  ·refine U.eq (fun n=>X8 n _ _ _ _ _) (U.Xu rfl (U.Xu rfl (U.Xu (Fu h1) (U.no rfl ?_))))
   (refine U.A0 (p1 f1 s1 (by omega)) ?_;rintro _ _ ⟨⟨f2,s2⟩,h,w2⟩;cases h;have lw2:=Wr.len w2;(try simp only [Xx,Xw,Xy] at lw2);refine⟨rfl,U.Xu rfl ?_⟩)
   exact U.eq (fun n=>X8 n _ _ _ _ _) (U.no rfl (U.ret ⟨(f2,s2),rfl,w2⟩))
  ·obtain⟨⟨f2,s2⟩,h,w2⟩:=h
   cases h
   have l2:=w2.len
   refine U.Xu rfl ?_
   (refine U.A0 ((E7 (ws:=[(3,[93])]) (C5 rfl) (by decide) f2 s2 (by simp only [Xw,Xy];omega))) ?_;rintro _ _ ⟨⟨f3,s3⟩,h,w3⟩;cases h;have lw3:=Wr.len w3;(try simp only [Xx,Xw,Xy] at lw3);refine⟨rfl,U.Xu (C6 rfl (E6 _ _ _)) ?_⟩)
   exact U.ret ⟨(f3,s3),rfl,w1.app (w2.app w3)⟩
 |[x,y],_,hx,hb=>
  have h1:=hx x (by simp)
  have h2:=hx y (by simp)
  have p1:=FN hE h1
  have p2:=FN hE h2
  simp only [Qh,Xx,Xw,Xy] at hb
  refine U.no rfl ?_
  (refine U.A0 ((E7 (ws:=[(3,[91])]) (C5 rfl) (by decide) f s (by simp only [Xw,Xy];omega))) ?_;rintro _ _ ⟨⟨f1,s1⟩,h,w1⟩;cases h;have lw1:=Wr.len w1;(try simp only [Xx,Xw,Xy] at lw1);refine⟨rfl,U.Xu (C6 rfl (E6 _ _ _)) ?_⟩)
  refine U.D4 (Q:=fun r=>∃ st:Bool×Zt,r=(false,[.Z 6 [x,y],.int .i64 2,.int .i64 2,.bool st.1,.Z 1 (E9 st.2)])∧Wr (f1,s1) st (wE d x++([(3,[58])]++wE d y))) ?_ (fun ds h=>by obtain⟨_,h,_⟩:=h;cases h) fun ds h=>?_
  ·refine U.eq (fun n=>X8 n _ _ _ _ _) (U.Xu rfl (U.Xu rfl (U.Xu (Fu h1) (U.no rfl ?_))))
   (refine U.A0 (p1 f1 s1 (by omega)) ?_;rintro _ _ ⟨⟨f2,s2⟩,h,w2⟩;cases h;have lw2:=Wr.len w2;(try simp only [Xx,Xw,Xy] at lw2);refine⟨rfl,U.Xu rfl ?_⟩)
   refine U.eq (fun n=>X8 n _ _ _ _ _) (U.Xu rfl (U.Xu rfl (U.Xu (Fu h2) (U.Xu rfl ?_))))
   (refine U.A0 ((E7 (ws:=[(3,[58])]) (C5 rfl) (by decide) f2 s2 (by simp only [Xw,Xy];omega))) ?_;rintro _ _ ⟨⟨f3,s3⟩,h,w3⟩;cases h;have lw3:=Wr.len w3;(try simp only [Xx,Xw,Xy] at lw3);refine⟨rfl,U.Xu (C6 rfl (E6 _ _ _)) ?_⟩)
   (refine U.A0 (p2 f3 s3 (by omega)) ?_;rintro _ _ ⟨⟨f4,s4⟩,h,w4⟩;cases h;have lw4:=Wr.len w4;(try simp only [Xx,Xw,Xy] at lw4);refine⟨rfl,U.Xu rfl ?_⟩)
   exact U.eq (fun n=>X8 n _ _ _ _ _) (U.no rfl (U.ret ⟨(f4,s4),rfl,w2.app (w3.app w4)⟩))
  ·obtain⟨⟨f2,s2⟩,h,w2⟩:=h
   cases h
   have l2:=w2.len
   simp only [Xx,Xw,Xy] at l2
   refine U.Xu rfl ?_
   (refine U.A0 ((E7 (ws:=[(3,[93])]) (C5 rfl) (by decide) f2 s2 (by simp only [Xw,Xy];omega))) ?_;rintro _ _ ⟨⟨f3,s3⟩,h,w3⟩;cases h;have lw3:=Wr.len w3;(try simp only [Xx,Xw,Xy] at lw3);refine⟨rfl,U.Xu (C6 rfl (E6 _ _ _)) ?_⟩)
   have W:=w1.app (w2.app w3)
   refine U.ret ⟨(f3,s3),rfl,?_⟩
   simpa [Qh] using W
theorem UO {x:D}(h1:vH d x):Pr (fun n=>F5 n (.Z 6 [x]) (.Z 1 [])) (aW (wE d) x):=by
 intro f s hb
 have p1:=Cx hE h1
 refine U.eq (fun n=>fV n _ _ _ _) (U.D4 (Q:=fun r=>∃ st:Bool×Zt,r=(false,[.Z 1 [],.Z 6 [x],.int .i64 1,.int .i64 1,.bool st.1,.Z 1 (E9 st.2)])∧Wr (f,s) st (aW (wE d) x)) ?_ (fun ds h=>by obtain⟨_,h,_⟩:=h;cases h) fun ds h=>?_)
 ·refine U.eq (fun n=>J4 n _ _ _ _ _ _) (U.Xu rfl (U.Xu rfl (U.Xu (Fu h1) (U.no rfl (G4 (fun n=>M0.eq_1 n _ _ _ _ _ _ _) (U.no rfl ?_))))))
  (refine U.A0 (p1 f s hb) ?_;rintro _ _ ⟨⟨f2,s2⟩,h,w2⟩;cases h;have lw2:=Wr.len w2;(try simp only [Xx,Xw,Xy] at lw2);refine⟨rfl,U.Xu rfl ?_⟩)
  exact U.eq (fun n=>J4 n _ _ _ _ _ _) (U.no rfl (U.ret ⟨(f2,s2),rfl,w2⟩))
 ·obtain⟨st,h,hw⟩:=h
  cases h
  exact U.Xu rfl (U.ret ⟨st,rfl,hw⟩)
theorem Gy {x y:D}{o:Zt}(ho:gw o)(h1:vH d x)(h2:vH d y):Pr (fun n=>F5 n (.Z 6 [x,y]) (.Z 1 [.str o])) (aW (wE d) x++([(3,o)]++aW (wE d) y)):=by
 intro f s hb
 have p1:=Cx hE h1
 have p2:=Cx hE h2
 simp only [Xx,Xw,Xy] at hb
 refine U.eq (fun n=>fV n _ _ _ _) (U.D4 (Q:=fun r=>∃ st:Bool×Zt,r=(false,[.Z 1 [.str o],.Z 6 [x,y],.int .i64 2,.int .i64 2,.bool st.1,.Z 1 (E9 st.2)])∧Wr (f,s) st (aW (wE d) x++([(3,o)]++aW (wE d) y))) ?_ (fun ds h=>by obtain⟨_,h,_⟩:=h;cases h) fun ds h=>?_)
 ·refine U.eq (fun n=>J4 n _ _ _ _ _ _) (U.Xu rfl (U.Xu rfl (U.Xu (Fu h1) (U.no rfl (G4 (fun n=>M0.eq_1 n _ _ _ _ _ _ _) (U.no rfl ?_))))))
  (refine U.A0 (p1 f s (by omega)) ?_;rintro _ _ ⟨⟨f2,s2⟩,h,w2⟩;cases h;have lw2:=Wr.len w2;(try simp only [Xx,Xw,Xy] at lw2);refine⟨rfl,U.Xu rfl ?_⟩)
  refine U.eq (fun n=>J4 n _ _ _ _ _ _) (U.Xu rfl (U.Xu rfl (U.Xu (Fu h2) (U.Xu rfl (G4 (fun n=>M0.eq_1 n _ _ _ _ _ _ _) (U.Xu rfl (U.Xu rfl (U.Xu rfl ?_))))))))
  (refine U.A0 ((E7 (ws:=[(3,o)]) (H9 ho (C5 rfl)) (by simp) f2 s2 (by simp only [Xw,Xy];omega))) ?_;rintro _ _ ⟨⟨f3,s3⟩,h,w3⟩;cases h;have lw3:=Wr.len w3;(try simp only [Xx,Xw,Xy] at lw3);refine⟨rfl,U.Xu (C6 rfl (E6 _ _ _)) ?_⟩)
  (refine U.A0 (p2 f3 s3 (by omega)) ?_;rintro _ _ ⟨⟨f4,s4⟩,h,w4⟩;cases h;have lw4:=Wr.len w4;(try simp only [Xx,Xw,Xy] at lw4);refine⟨rfl,U.Xu rfl ?_⟩)
  exact U.eq (fun n=>J4 n _ _ _ _ _ _) (U.no rfl (U.ret ⟨(f4,s4),rfl,w2.app (w3.app w4)⟩))
 ·obtain⟨st,h,hw⟩:=h
  cases h
  exact U.Xu rfl (U.ret ⟨st,rfl,hw⟩)
theorem Gz {x y z:D}(h1:vH d x)(h2:vH d y)(h3:vH d z):Pr (fun n=>F5 n (.Z 6 [x,y,z]) (.Z 1 [.str [63],.str [58]])) (aW (wE d) x++([(3,[63])]++(aW (wE d) y++([(3,[58])]++aW (wE d) z)))):=by
 intro f s hb
 have p1:=Cx hE h1
 have p2:=Cx hE h2
 have p3:=Cx hE h3
 simp only [Xx,Xw,Xy] at hb
 refine U.eq (fun n=>fV n _ _ _ _) (U.D4 (Q:=fun r=>∃ st:Bool×Zt,r=(false,[.Z 1 [.str [63],.str [58]],.Z 6 [x,y,z],.int .i64 3,.int .i64 3,.bool st.1,.Z 1 (E9 st.2)])∧Wr (f,s) st (aW (wE d) x++([(3,[63])]++(aW (wE d) y++([(3,[58])]++aW (wE d) z))))) ?_ (fun ds h=>by obtain⟨_,h,_⟩:=h;cases h) fun ds h=>?_)
 ·refine U.eq (fun n=>J4 n _ _ _ _ _ _) (U.Xu rfl (U.Xu rfl (U.Xu (Fu h1) (U.no rfl (G4 (fun n=>M0.eq_1 n _ _ _ _ _ _ _) (U.no rfl ?_))))))
  (refine U.A0 (p1 f s (by omega)) ?_;rintro _ _ ⟨⟨f2,s2⟩,h,w2⟩;cases h;have lw2:=Wr.len w2;(try simp only [Xx,Xw,Xy] at lw2);refine⟨rfl,U.Xu rfl ?_⟩)
  refine U.eq (fun n=>J4 n _ _ _ _ _ _) (U.Xu rfl (U.Xu rfl (U.Xu (Fu h2) (U.Xu rfl (G4 (fun n=>M0.eq_1 n _ _ _ _ _ _ _) (U.Xu rfl (U.Xu rfl (U.Xu rfl ?_))))))))
  (refine U.A0 ((E7 (ws:=[(3,[63])]) (C5 rfl) (by decide) f2 s2 (by simp only [Xw,Xy];omega))) ?_;rintro _ _ ⟨⟨f3,s3⟩,h,w3⟩;cases h;have lw3:=Wr.len w3;(try simp only [Xx,Xw,Xy] at lw3);refine⟨rfl,U.Xu (C6 rfl (E6 _ _ _)) ?_⟩)
  (refine U.A0 (p2 f3 s3 (by omega)) ?_;rintro _ _ ⟨⟨f4,s4⟩,h,w4⟩;cases h;have lw4:=Wr.len w4;(try simp only [Xx,Xw,Xy] at lw4);refine⟨rfl,U.Xu rfl ?_⟩)
  refine U.eq (fun n=>J4 n _ _ _ _ _ _) (U.Xu rfl (U.Xu rfl (U.Xu (Fu h3) (U.Xu rfl (G4 (fun n=>M0.eq_1 n _ _ _ _ _ _ _) (U.Xu rfl (U.Xu rfl (U.Xu rfl ?_))))))))
  (refine U.A0 ((E7 (ws:=[(3,[58])]) (C5 rfl) (by decide) f4 s4 (by simp only [Xw,Xy];omega))) ?_;rintro _ _ ⟨⟨f5,s5⟩,h,w5⟩;cases h;have lw5:=Wr.len w5;(try simp only [Xx,Xw,Xy] at lw5);refine⟨rfl,U.Xu (C6 rfl (E6 _ _ _)) ?_⟩)
  (refine U.A0 (p3 f5 s5 (by omega)) ?_;rintro _ _ ⟨⟨f6,s6⟩,h,w6⟩;cases h;have lw6:=Wr.len w6;(try simp only [Xx,Xw,Xy] at lw6);refine⟨rfl,U.Xu rfl ?_⟩)
  exact U.eq (fun n=>J4 n _ _ _ _ _ _) (U.no rfl (U.ret ⟨(f6,s6),rfl,w2.app (w3.app (w4.app (w5.app w6)))⟩))
 ·obtain⟨st,h,hw⟩:=h
  cases h
  exact U.Xu rfl (U.ret ⟨st,rfl,hw⟩)
end
end
theorem HC:∀ (d:Nat) (x:D),vH d x→Pr (fun n=>C8 n x) (wE d x):=by
 intro d
 induction d with
 |zero=>intro x h;exact h.elim
 |succ d ih=>
  rintro x ⟨k,u0,u1,u2,t,ar,rfl,hs,ha⟩ f s hb
  rw [Xa] at hb ⊢
  refine U.eq (fun n=>zA n k u0 u1 u2 t ar f (E9 s)) ?_
  rcases hs with ⟨rfl,ht,hm⟩|⟨rfl,ht,hm⟩|⟨rfl,ht,hm⟩|⟨rfl,ht,hm⟩|⟨rfl,rfl,hm⟩|⟨rfl,rfl,hm,hm2⟩|⟨rfl,rfl,hm,hm2⟩|⟨rfl,ht,hm⟩|⟨rfl,ht,hm⟩|⟨rfl,ht,hm,hm2⟩
  ·have h12:=dU (T:=WO) rfl ht
   (replace hb:s.length+14*([(2,t)]:List Tk).length≤68000000000:=hb;simp only [Xx,Xw,Xy] at hb)
   refine U.no rfl (U.no rfl (U.no rfl (U.no rfl (U.no rfl (U.no rfl (G4 (fun n=>X5.eq_1 n _ _ _ _ _ _) (U.no rfl (U.no rfl ?_))))))))
   (refine U.A0 ((E7 (ws:=[(2,t)]) (H9 h12 (C5 rfl)) (by simp) f s (by simp only [Xw,Xy];omega))) ?_;rintro _ _ ⟨⟨f1,s1⟩,h,w1⟩;cases h;have lw1:=Wr.len w1;(try simp only [Xx,Xw,Xy] at lw1);refine⟨rfl,U.Xu (C6 rfl (E6 _ _ _)) ?_⟩)
   exact U.ret ⟨(f1,s1),rfl,w1⟩
  ·have h12:=dU (T:=Z7) rfl ht
   (replace hb:s.length+14*([(1,t)]:List Tk).length≤68000000000:=hb;simp only [Xx,Xw,Xy] at hb)
   refine U.no rfl (U.no rfl (U.no rfl (U.no rfl (U.no rfl (U.no rfl (G4 (fun n=>X5.eq_1 n _ _ _ _ _ _) (U.no rfl (U.no rfl ?_))))))))
   (refine U.A0 ((E7 (ws:=[(1,t)]) (H9 h12 (C5 rfl)) (by simp) f s (by simp only [Xw,Xy];omega))) ?_;rintro _ _ ⟨⟨f1,s1⟩,h,w1⟩;cases h;have lw1:=Wr.len w1;(try simp only [Xx,Xw,Xy] at lw1);refine⟨rfl,U.Xu (C6 rfl (E6 _ _ _)) ?_⟩)
   exact U.ret ⟨(f1,s1),rfl,w1⟩
  ·have h12:=dU (T:=Kn) rfl ht
   match ar,hm,ha with
   |[x],_,ha=>
    have h1:=ha x (by simp)
    (replace hb:s.length+14*([(3,t)]++aW (wE d) x:List Tk).length≤68000000000:=hb;simp only [Xx,Xw,Xy] at hb)
    refine U.Xu rfl ?_
    (refine U.A0 ((E7 (ws:=[(3,t)]) (H9 h12 (C5 rfl)) (by simp) f s (by simp only [Xw,Xy];omega))) ?_;rintro _ _ ⟨⟨f1,s1⟩,h,w1⟩;cases h;have lw1:=Wr.len w1;(try simp only [Xx,Xw,Xy] at lw1);refine⟨rfl,U.Xu (C6 rfl (E6 _ _ _)) ?_⟩)
    (refine U.A0 (UO ih h1 f1 s1 (by omega)) ?_;rintro _ _ ⟨⟨f2,s2⟩,h,w2⟩;cases h;have lw2:=Wr.len w2;(try simp only [Xx,Xw,Xy] at lw2);refine⟨rfl,U.Xu rfl ?_⟩)
    exact U.ret ⟨(f2,s2),rfl,w1.app w2⟩
  ·have h12:=dU (T:=Nb) rfl ht
   match ar,hm,ha with
   |[x,y],_,ha=>
    have h1:=ha x (by simp)
    have h2:=ha y (by simp)
    refine U.no rfl (U.Xu rfl ?_)
    (refine U.A0 (Gy ih h12 h1 h2 f s hb) ?_;rintro _ _ ⟨⟨f2,s2⟩,h,w2⟩;cases h;have lw2:=Wr.len w2;(try simp only [Xx,Xw,Xy] at lw2);refine⟨rfl,U.Xu (C6 rfl (E6 _ _ _)) ?_⟩)
    exact U.ret ⟨(f2,s2),rfl,w2⟩
  ·match ar,hm,ha with
   |[x,y,z],_,ha=>
    have h1:=ha x (by simp)
    have h2:=ha y (by simp)
    have h3:=ha z (by simp)
    refine U.no rfl (U.no rfl (U.Xu rfl ?_))
    (refine U.A0 (Gz ih h1 h2 h3 f s hb) ?_;rintro _ _ ⟨⟨f2,s2⟩,h,w2⟩;cases h;have lw2:=Wr.len w2;(try simp only [Xx,Xw,Xy] at lw2);refine⟨rfl,U.Xu (C6 rfl (E6 _ _ _)) ?_⟩)
    exact U.ret ⟨(f2,s2),rfl,w2⟩
  ·(replace hb:s.length+14*([(3,[123])]++(lW (wE d) ar++[(3,[125])]):List Tk).length≤68000000000:=hb;simp only [Xx,Xw,Xy] at hb)
   refine U.no rfl (U.no rfl (U.no rfl (U.Xu rfl ?_)))
   (refine U.A0 ((E7 (ws:=[(3,[123])]) (C5 rfl) (by decide) f s (by simp only [Xw,Xy];omega))) ?_;rintro _ _ ⟨⟨f1,s1⟩,h,w1⟩;cases h;have lw1:=Wr.len w1;(try simp only [Xx,Xw,Xy] at lw1);refine⟨rfl,U.Xu (C6 rfl (E6 _ _ _)) ?_⟩)
   (refine U.A0 (BS ih (xs:=ar) (by omega) ha f1 s1 (by omega)) ?_;rintro _ _ ⟨⟨f2,s2⟩,h,w2⟩;cases h;have lw2:=Wr.len w2;(try simp only [Xx,Xw,Xy] at lw2);refine⟨rfl,U.Xu rfl ?_⟩)
   (refine U.A0 ((E7 (ws:=[(3,[125])]) (C5 rfl) (by decide) f2 s2 (by simp only [Xw,Xy];omega))) ?_;rintro _ _ ⟨⟨f3,s3⟩,h,w3⟩;cases h;have lw3:=Wr.len w3;(try simp only [Xx,Xw,Xy] at lw3);refine⟨rfl,U.Xu (C6 rfl (E6 _ _ _)) ?_⟩)
   exact U.ret ⟨(f3,s3),rfl,w1.app (w2.app w3)⟩
  ·match ar,hm,hm2,ha with
   |x::rest,_,hm2,ha=>
    have h1:=ha x (by simp)
    have p1:=FN ih h1
    have hr:∀ y∈rest,vH d y:=fun y hy=>ha y (Yk _ hy)
    have lr:rest.length≤100:=by simp only [Xw] at hm2;omega
    have p2:=BS ih lr hr
    (replace hb:s.length+14*([(3,[123])]++(wE d x++([(3,[123])]++(lW (wE d) rest++[(3,[125]),(3,[125])]))):List Tk).length≤68000000000:=hb;simp only [Xx,Xw,Xy] at hb)
    refine U.no rfl (U.no rfl (U.no rfl (U.no rfl (U.Xu rfl ?_))))
    (refine U.A0 ((E7 (ws:=[(3,[123])]) (C5 rfl) (by decide) f s (by simp only [Xw,Xy];omega))) ?_;rintro _ _ ⟨⟨f1,s1⟩,h,w1⟩;cases h;have lw1:=Wr.len w1;(try simp only [Xx,Xw,Xy] at lw1);refine⟨rfl,U.Xu (C6 rfl (E6 _ _ _)) ?_⟩)
    refine U.Xu (by simp) (U.Xu (Fu h1) ?_)
    (refine U.A0 (p1 f1 s1 (by omega)) ?_;rintro _ _ ⟨⟨f2,s2⟩,h,w2⟩;cases h;have lw2:=Wr.len w2;(try simp only [Xx,Xw,Xy] at lw2);refine⟨rfl,U.Xu rfl ?_⟩)
    (refine U.A0 ((E7 (ws:=[(3,[123])]) (C5 rfl) (by decide) f2 s2 (by simp only [Xw,Xy];omega))) ?_;rintro _ _ ⟨⟨f3,s3⟩,h,w3⟩;cases h;have lw3:=Wr.len w3;(try simp only [Xx,Xw,Xy] at lw3);refine⟨rfl,U.Xu (C6 rfl (E6 _ _ _)) ?_⟩)
    refine U.Xu (by simp;omega) ?_
    have e:((x::rest).drop 1).take (((x::rest).length:Int).toNat-1)=rest:=by
     show rest.take (rest.length+1-1)=rest
     rw [Nat.add_sub_cancel,List.take_length]
    rw [e]
    (refine U.A0 (p2 f3 s3 (by omega)) ?_;rintro _ _ ⟨⟨f4,s4⟩,h,w4⟩;cases h;have lw4:=Wr.len w4;(try simp only [Xx,Xw,Xy] at lw4);refine⟨rfl,U.Xu rfl ?_⟩)
    (refine U.A0 ((E7 (ws:=[(3,[125]),(3,[125])]) (C5 rfl) (by decide) f4 s4 (by simp only [Xw,Xy];omega))) ?_;rintro _ _ ⟨⟨f5,s5⟩,h,w5⟩;cases h;have lw5:=Wr.len w5;(try simp only [Xx,Xw,Xy] at lw5);refine⟨rfl,U.Xu (C6 rfl (E6 _ _ _)) ?_⟩)
    exact U.ret ⟨(f5,s5),rfl,w1.app (w2.app (w3.app (w4.app w5)))⟩
  ·have h12:=dU (T:=Z7) rfl ht
   match ar,hm,ha with
   |[x],_,ha=>
    have p1:=RE ih (es:=[x]) (by simp) ha
    refine U.no rfl (U.no rfl (U.no rfl (U.no rfl (U.no rfl (U.Xu rfl (G4 (fun n=>X5.eq_1 n _ _ _ _ _ _) (U.Xu rfl ?_)))))))
    (replace hb:s.length+14*([(1,t)]++Qh (wE d) [x]:List Tk).length≤68000000000:=hb;simp only [Xx,Xw,Xy] at hb)
    (refine U.A0 ((E7 (ws:=[(1,t)]) (H9 h12 (C5 rfl)) (by simp) f s (by simp only [Xw,Xy];omega))) ?_;rintro _ _ ⟨⟨f1,s1⟩,h,w1⟩;cases h;have lw1:=Wr.len w1;(try simp only [Xx,Xw,Xy] at lw1);refine⟨rfl,U.Xu (C6 rfl (E6 _ _ _)) ?_⟩)
    (refine U.A0 (p1 f1 s1 (by omega)) ?_;rintro _ _ ⟨⟨f2,s2⟩,h,w2⟩;cases h;have lw2:=Wr.len w2;(try simp only [Xx,Xw,Xy] at lw2);refine⟨rfl,U.Xu rfl ?_⟩)
    exact U.ret ⟨(f2,s2),rfl,w1.app w2⟩
  ·have h12:=dU (T:=Z7) rfl ht
   match ar,hm,ha with
   |[x,y],_,ha=>
    have p1:=RE ih (es:=[x,y]) (by simp) ha
    refine U.no rfl (U.no rfl (U.no rfl (U.no rfl (U.no rfl (U.no rfl (G4 (fun n=>X5.eq_1 n _ _ _ _ _ _) (U.Xu rfl ?_)))))))
    (replace hb:s.length+14*([(1,t)]++Qh (wE d) [x,y]:List Tk).length≤68000000000:=hb;simp only [Xx,Xw,Xy] at hb)
    (refine U.A0 ((E7 (ws:=[(1,t)]) (H9 h12 (C5 rfl)) (by simp) f s (by simp only [Xw,Xy];omega))) ?_;rintro _ _ ⟨⟨f1,s1⟩,h,w1⟩;cases h;have lw1:=Wr.len w1;(try simp only [Xx,Xw,Xy] at lw1);refine⟨rfl,U.Xu (C6 rfl (E6 _ _ _)) ?_⟩)
    (refine U.A0 (p1 f1 s1 (by omega)) ?_;rintro _ _ ⟨⟨f2,s2⟩,h,w2⟩;cases h;have lw2:=Wr.len w2;(try simp only [Xx,Xw,Xy] at lw2);refine⟨rfl,U.Xu rfl ?_⟩)
    exact U.ret ⟨(f2,s2),rfl,w1.app w2⟩
  ·have h12:=dU (T:=GX) rfl ht
   (replace hb:s.length+14*([(1,t),(3,[40])]++(lW (wE d) ar++[(3,[41])]):List Tk).length≤68000000000:=hb;simp only [Xx,Xw,Xy] at hb)
   refine U.no rfl (U.no rfl (U.no rfl (U.no rfl (U.no rfl (U.no rfl (G4 (fun n=>X5.eq_1 n _ _ _ _ _ _) (U.no rfl (U.Xu rfl ?_))))))))
   (refine U.A0 ((E7 (ws:=[(1,t),(3,[40])]) (H9 h12 (C5 rfl)) (by simp) f s (by simp only [Xw,Xy];omega))) ?_;rintro _ _ ⟨⟨f1,s1⟩,h,w1⟩;cases h;have lw1:=Wr.len w1;(try simp only [Xx,Xw,Xy] at lw1);refine⟨rfl,U.Xu (C6 rfl (E6 _ _ _)) ?_⟩)
   (refine U.A0 (BS ih (xs:=ar) (by omega) ha f1 s1 (by omega)) ?_;rintro _ _ ⟨⟨f2,s2⟩,h,w2⟩;cases h;have lw2:=Wr.len w2;(try simp only [Xx,Xw,Xy] at lw2);refine⟨rfl,U.Xu rfl ?_⟩)
   (refine U.A0 ((E7 (ws:=[(3,[41])]) (C5 rfl) (by decide) f2 s2 (by simp only [Xw,Xy];omega))) ?_;rintro _ _ ⟨⟨f3,s3⟩,h,w3⟩;cases h;have lw3:=Wr.len w3;(try simp only [Xx,Xw,Xy] at lw3);refine⟨rfl,U.Xu (C6 rfl (E6 _ _ _)) ?_⟩)
   exact U.ret ⟨(f3,s3),rfl,w1.app (w2.app w3)⟩
theorem DR {w v:D→List Tk}:∀ {xs ys:List D},Rl (fun x y=>w x=v y) xs ys→lW w xs=lW v ys
 |[],[],_=>rfl
 |[x],[y],h=>h.2 0 (by simp) (by simp)
 |x::x'::r,y::y'::r',h=>by
  have h0:=h.2 0 (by simp) (by simp)
  have ih:=DR (w:=w) (v:=v) (xs:=x'::r) (ys:=y'::r') ⟨by simpa using h.1,fun i hi hi'=>h.2 (i+1) (by simpa using hi) (by simpa using hi')⟩
  show w x++((3,[44])::lW w (x'::r))=v y++((3,[44])::lW v (y'::r'))
  rw [ih,show w x=v y from h0]
 |[],_::_,h=>by have:=h.1;simp at this
 |_::_,[],h=>by have:=h.1;simp at this
 |[_],_::_::_,h=>by have:=h.1;simp at this
 |_::_::_,[_],h=>by have:=h.1;simp at this
theorem Wm {w v:D→List Tk}{k:Int}{t:Zt}{xs ys:List D}(hs:CB k t xs.length)(ho:Rl (fun x y=>w x=v y∧NA x=NA y) xs ys):kW w k t xs=kW v k t ys:=by
 have h:Rl (fun x y=>w x=v y) xs ys:=ho.mono fun _ _ _ h=>h.1
 have ha:∀ {x y:D},w x=v y∧NA x=NA y→aW w x=aW v y:=fun h=>by unfold aW;rw [h.1,h.2]
 rcases hs with ⟨rfl,_,hm⟩|⟨rfl,_,hm⟩|⟨rfl,_,hm⟩|⟨rfl,_,hm⟩|⟨rfl,_,hm⟩|⟨rfl,_,hm,hm2⟩|⟨rfl,_,hm,hm2⟩|⟨rfl,_,hm⟩|⟨rfl,_,hm⟩|⟨rfl,_,hm,hm2⟩
 ·rfl
 ·rfl
 ·match xs,ys,hm,ho with
  |[a],[a'],_,ho=>
   show [(3,t)]++aW w a=[(3,t)]++aW v a'
   rw [show aW w a=aW v a' from ha (ho.2 0 (by simp) (by simp))]
  |[a],[],_,ho=>have:=ho.1;simp at this
  |[a],_::_::_,_,ho=>have:=ho.1;simp at this
 ·match xs,ys,hm,ho with
  |[a,b],[a',b'],_,ho=>
   show aW w a++([(3,t)]++aW w b)=aW v a'++([(3,t)]++aW v b')
   rw [show aW w a=aW v a' from ha (ho.2 0 (by simp) (by simp)),show aW w b=aW v b' from ha (ho.2 1 (by simp) (by simp))]
  |[a,b],[],_,ho=>have:=ho.1;simp at this
  |[a,b],[_],_,ho=>have:=ho.1;simp at this
  |[a,b],_::_::_::_,_,ho=>have:=ho.1;simp at this
 ·match xs,ys,hm,ho with
  |[a,b,c],[a',b',c'],_,ho=>
   show aW w a++([(3,[63])]++(aW w b++([(3,[58])]++aW w c)))=aW v a'++([(3,[63])]++(aW v b'++([(3,[58])]++aW v c')))
   rw [show aW w a=aW v a' from ha (ho.2 0 (by simp) (by simp)),show aW w b=aW v b' from ha (ho.2 1 (by simp) (by simp)),show aW w c=aW v c' from ha (ho.2 2 (by simp) (by simp))]
  |[a,b,c],[],_,ho=>have:=ho.1;simp at this
  |[a,b,c],[_],_,ho=>have:=ho.1;simp at this
  |[a,b,c],[_,_],_,ho=>have:=ho.1;simp at this
  |[a,b,c],_::_::_::_::_,_,ho=>have:=ho.1;simp at this
 ·show [(3,[123])]++(lW w xs++[(3,[125])])=[(3,[123])]++(lW v ys++[(3,[125])])
  rw [DR h]
 ·match xs,ys,hm,h with
  |a::r,a'::r',_,h=>
   have h0:w a=v a':=h.2 0 (by simp) (by simp)
   have h1:lW w r=lW v r':=DR ⟨by simpa using h.1,fun i hi hi'=>h.2 (i+1) (by simpa using hi) (by simpa using hi')⟩
   show [(3,[123])]++(w a++([(3,[123])]++(lW w r++[(3,[125]),(3,[125])])))=[(3,[123])]++(v a'++([(3,[123])]++(lW v r'++[(3,[125]),(3,[125])])))
   rw [h0,h1]
  |a::r,[],_,h=>have:=h.1;simp at this
 ·match xs,ys,hm,h with
  |[a],[a'],_,h=>
   have h0:w a=v a':=h.2 0 (by simp) (by simp)
   show [(1,t),(3,[91])]++(w a++[(3,[93])])=[(1,t),(3,[91])]++(v a'++[(3,[93])])
   rw [h0]
  |[a],[],_,h=>have:=h.1;simp at this
  |[a],_::_::_,_,h=>have:=h.1;simp at this
 ·match xs,ys,hm,h with
  |[a,b],[a',b'],_,h=>
   have h0:w a=v a':=h.2 0 (by simp) (by simp)
   have h1:w b=v b':=h.2 1 (by simp) (by simp)
   show [(1,t),(3,[91])]++(w a++([(3,[58])]++(w b++[(3,[93])])))=[(1,t),(3,[91])]++(v a'++([(3,[58])]++(v b'++[(3,[93])])))
   rw [h0,h1]
  |[a,b],[],_,h=>have:=h.1;simp at this
  |[a,b],[_],_,h=>have:=h.1;simp at this
  |[a,b],_::_::_::_,_,h=>have:=h.1;simp at this
 ·show [(1,t),(3,[40])]++(lW w xs++[(3,[41])])=[(1,t),(3,[40])]++(lW v ys++[(3,[41])])
  rw [DR h]
theorem Om {n:Nat}{x y:D}(h:OE n x y):NA x=NA y:=by obtain⟨k,t,ar,a,b,e,ar',rfl,rfl⟩:=Y7 h;rfl
theorem CG:∀ {n:Nat} {x y:D},OE n x y→wE n x=wE n y
 |0,_,_,h=>h.elim
 |n+1,_,_,⟨k,t,ar,a,b,e,ar',hx,hy,hs,hr⟩=>by
  subst hx hy
  show kW (wE n) k t ar=kW (wE n) k t ar'
  exact Wm hs (hr.mono fun x _ y h=>⟨CG h,Om h⟩)
theorem Lg:∀ {n:Nat} {x y:D},OE n x y→vH n y
 |0,_,_,h=>h.elim
 |n+1,_,_,⟨k,t,ar,a,b,e,ar',hx,hy,hs,hr⟩=>by
  subst hx hy
  refine⟨k,a,b,e,t,ar',rfl,by rw [← hr.1];exact hs,fun z hz=>?_⟩
  obtain⟨i,hi,rfl⟩:=List.getElem_of_mem hz
  exact Lg (hr.2 i (by rw [hr.1];exact hi) hi)
theorem GR {es es':List D}(h:fL es es'):∀ e∈es',vH 4 e:=fun z hz=>by
 obtain⟨i,hi,rfl⟩:=List.getElem_of_mem hz
 exact Lg (h.2.2 i (by rw [h.2.1];exact hi) hi)
theorem On {es es':List D}(h:fL es es'):lW (wE 4) es=lW (wE 4) es':=DR (h.2.mono fun _ _ _ h=>CG h)
section
theorem Xh (f:Bool){s:Zt}(hb:s.length≤68000100000):U (fun n=>J6 n (.int .u8 10) (.bool f) (.Z 1 (E9 s))) fun r=>r=(true,[.nili,.bool f,.Z 1 (E9 (s++[10]))]):=by
 refine U.eq (fun n=>gP n _ _ _) (U.Xu (Yc (by rw [pB];simp only [D8];omega)) (U.ret ?_))
 rw [← yN];rfl
theorem mE {ws:List Tk}(hs:CC ws)(h1:1≤ws.length)(hl:ws.length≤1000):Pr (fun n=>B4 n (.Z 1 (MQ ws))) (ws++[nl]):=by
 intro f s hb
 simp only [Xx,Xw,Xy] at hb
 refine U.eq (fun n=>oN n _ _ _) (U.A0 (E7 hs hl f s (by omega)) ?_)
 rintro _ _ ⟨⟨f1,s1⟩,h,w⟩;cases h
 have l:=w.len
 refine⟨rfl,U.Xu rfl (U.A0 (Xh f1 (s:=s1) (by omega)) ?_)⟩
 intro _ _ h;cases h
 exact⟨rfl,U.Xu rfl (U.ret ⟨(true,s1++[10]),rfl,w.app ⟨rfl,fun q hq=>by rw [Yn.1 hq];exact .inl rfl⟩⟩)⟩
theorem Um:Pr (fun n=>B4 n (.Z 1 [])) [nl]:=by
 intro f s hb
 simp only [Xw,Xy] at hb
 refine U.eq (fun n=>oN n _ _ _) (U.A0 (E7 (ws:=[]) (C5 rfl) (by decide) f s (by simp;omega)) ?_)
 rintro _ _ ⟨⟨f1,s1⟩,h,w⟩;cases h
 cases w.1
 refine⟨rfl,U.Xu rfl (U.A0 (Xh f (s:=s) (by omega)) ?_)⟩
 intro _ _ h;cases h
 exact⟨rfl,U.Xu rfl (U.ret ⟨(true,s++[10]),rfl,rfl,fun q hq=>by rw [Yn.1 hq];exact .inl rfl⟩)⟩
def Wc (w:D→List Tk)(k:Int)(t:Zt)(es bs zs:List D):List Tk:=
 bif k==1 then [(1,Q6),nl]++(bs.flatMap w++[(1,dD),nl])
 else bif k==2 then wE 4 (x0 es)++([(3,[61])]++(wE 4 (x1 es)++[(3,[59]),nl]))
 else bif k==3 then wE 4 (x0 es)++([(3,[60,61])]++(wE 4 (x1 es)++[(3,[59]),nl]))
 else bif k==4 then [(1,vI)]++(pW (x0 es)++(w (x0 bs)++(bif ((x1 bs).at_ 0).i==8 then [] else [(1,cT)]++w (x1 bs))))
 else bif k==5 then [(1,oO)]++(pW (x0 es)++([nl]++(zs.flatMap (fS w)++[(1,bZ),nl])))
 else bif k==6 then Z9 t es++w (x0 bs)
 else bif k==7 then (bif t.isEmpty then [] else [(1,t),(3,[58])])++([(1,nK)]++(pW (x0 es)++[(3,[59]),nl]))
 else [(3,[59]),nl]
def yS:Nat→D→List Tk
 |0,_=>[]
 |n+1,x=>Wc (yS n) (x.at_ 0).i (x.at_ 1).s (x.at_ 2).l (x.at_ 3).l (x.at_ 4).l
theorem Xb (n:Nat)(k:Int)(t:Zt)(es bs zs:List D):yS (n+1) (S k t es bs zs)=Wc (yS n) k t es bs zs:=rfl
theorem Cp {a:D}{ys:List D}(h:fL [a] ys):∃ a',ys=[a']∧vH 4 a'∧wE 4 a=wE 4 a':=by
 have hp:=GR h
 obtain⟨_,hl,hr⟩:=h
 match ys,hl,hr,hp with
 |[a'],_,hr,hp=>exact⟨a',rfl,hp a' (by simp),CG (hr 0 (by simp) (by simp))⟩
theorem Wf {a b:D}{ys:List D}(h:fL [a,b] ys):∃ a' b',ys=[a',b']∧vH 4 a'∧vH 4 b'∧wE 4 a=wE 4 a'∧wE 4 b=wE 4 b':=by
 have hp:=GR h
 obtain⟨_,hl,hr⟩:=h
 match ys,hl,hr,hp with
 |[a',b'],_,hr,hp=>exact⟨a',b',rfl,hp a' (by simp),hp b' (by simp),CG (hr 0 (by simp) (by simp)),CG (hr 1 (by simp) (by simp))⟩
theorem Tr {a b c:D}{ys:List D}(h:fL [a,b,c] ys):∃ a' b' c',ys=[a',b',c']∧vH 4 a'∧vH 4 b'∧vH 4 c'∧wE 4 a=wE 4 a'∧wE 4 b=wE 4 b'∧wE 4 c=wE 4 c':=by
 have hp:=GR h
 obtain⟨_,hl,hr⟩:=h
 match ys,hl,hr,hp with
 |[a',b',c'],_,hr,hp=>exact⟨a',b',c',rfl,hp a' (by simp),hp b' (by simp),hp c' (by simp),CG (hr 0 (by simp) (by simp)),CG (hr 1 (by simp) (by simp)),CG (hr 2 (by simp) (by simp))⟩
theorem IQ {x:D}(h:vH 4 x):(D7 B1&&J3 B1 x)=true:=Fu h
theorem Nl {a b:D}(h:wE 4 a=wE 4 b):pW a=pW b:=by unfold pW;rw [h]
theorem Bj {t:Zt}{a b c a' b' c':D}(h1:wE 4 a=wE 4 a')(h2:wE 4 b=wE 4 b')(h3:wE 4 c=wE 4 c'):Z9 t [a,b,c]=Z9 t [a',b',c']:=by
 show [(1,uZ),(3,[40]),(1,t),(3,[61])]++(wE 4 a++([(3,[59])]++(wE 4 b++([(3,[59]),(1,t),(3,[61])]++(wE 4 c++[(3,[41])])))))=_
 rw [h1,h2,h3];rfl
theorem PG {x:D}(hx:vH 4 x):Pr (fun n=>C8 n (C0 B1 x)) (wE 4 x):=FN (HC 4) hx
theorem TB {x:D}(hx:vH 4 x):Pr (fun n=>K9 n (C0 B1 x)) (pW x):=by
 have hp:=HC 4 x hx
 rw [(Wb hx).1]
 obtain⟨k,u0,u1,u2,t,xs,rfl,_⟩:=hx
 intro f s hb
 (replace hb:s.length+14*([(3,[40])]++(wE 4 (PE k u0 u1 u2 t xs)++[(3,[41])]):List Tk).length≤68000000000:=hb;simp only [Xx,Xw,Xy] at hb)
 refine U.eq (fun n=>vW n k u0 u1 u2 t xs f (E9 s)) ?_
 (refine U.A0 ((E7 (ws:=[(3,[40])]) (C5 rfl) (by decide) f s (by simp only [Xw,Xy];omega))) ?_;rintro _ _ ⟨⟨f1,s1⟩,h,w1⟩;cases h;have lw1:=Wr.len w1;(try simp only [Xx,Xw,Xy] at lw1);refine⟨rfl,U.Xu (C6 rfl (E6 _ _ _)) ?_⟩)
 (refine U.A0 (hp f1 s1 (by omega)) ?_;rintro _ _ ⟨⟨f2,s2⟩,h,w2⟩;cases h;have lw2:=Wr.len w2;(try simp only [Xx,Xw,Xy] at lw2);refine⟨rfl,U.Xu rfl ?_⟩)
 (refine U.A0 ((E7 (ws:=[(3,[41])]) (C5 rfl) (by decide) f2 s2 (by simp only [Xw,Xy];omega))) ?_;rintro _ _ ⟨⟨f3,s3⟩,h,w3⟩;cases h;have lw3:=Wr.len w3;(try simp only [Xx,Xw,Xy] at lw3);refine⟨rfl,U.Xu (C6 rfl (E6 _ _ _)) ?_⟩)
 exact U.ret ⟨(f3,s3),rfl,w1.app (w2.app w3)⟩
theorem Oz {t:Zt}(ht:gw t){a b c:D}(h1:vH 4 a)(h2:vH 4 b)(h3:vH 4 c):Pr (fun n=>W9 n (.str t) (.Z 6 [a,b,c])) (Z9 t [a,b,c]):=by
 have p1:=PG h1
 have p2:=PG h2
 have p3:=PG h3
 intro f s hb
 (replace hb:s.length+14*([(1,uZ),(3,[40]),(1,t),(3,[61])]++(wE 4 a++([(3,[59])]++(wE 4 b++([(3,[59]),(1,t),(3,[61])]++(wE 4 c++[(3,[41])]))))):List Tk).length≤68000000000:=hb;simp only [Xx,Xw,Xy] at hb)
 refine U.eq (fun n=>zC n t _ f (E9 s)) ?_
 (refine U.A0 ((E7 (ws:=[(1,uZ),(3,[40]),(1,t),(3,[61])]) (H9 (by decide) (H9 (by decide) (H9 ht (C5 rfl)))) (by simp) f s (by simp only [Xw,Xy];omega))) ?_;rintro _ _ ⟨⟨f1,s1⟩,h,w1⟩;cases h;have lw1:=Wr.len w1;(try simp only [Xx,Xw,Xy] at lw1);refine⟨rfl,U.Xu (C6 rfl (E6 _ _ _)) ?_⟩)
 refine U.Xu rfl (U.Xu (IQ h1) ?_)
 (refine U.A0 (p1 f1 s1 (by omega)) ?_;rintro _ _ ⟨⟨f2,s2⟩,h,w2⟩;cases h;have lw2:=Wr.len w2;(try simp only [Xx,Xw,Xy] at lw2);refine⟨rfl,U.Xu rfl ?_⟩)
 (refine U.A0 ((E7 (ws:=[(3,[59])]) (C5 rfl) (by decide) f2 s2 (by simp only [Xw,Xy];omega))) ?_;rintro _ _ ⟨⟨f3,s3⟩,h,w3⟩;cases h;have lw3:=Wr.len w3;(try simp only [Xx,Xw,Xy] at lw3);refine⟨rfl,U.Xu (C6 rfl (E6 _ _ _)) ?_⟩)
 refine U.Xu rfl (U.Xu (IQ h2) ?_)
 (refine U.A0 (p2 f3 s3 (by omega)) ?_;rintro _ _ ⟨⟨f4,s4⟩,h,w4⟩;cases h;have lw4:=Wr.len w4;(try simp only [Xx,Xw,Xy] at lw4);refine⟨rfl,U.Xu rfl ?_⟩)
 (refine U.A0 ((E7 (ws:=[(3,[59]),(1,t),(3,[61])]) (H9 (by decide) (H9 ht (C5 rfl))) (by simp) f4 s4 (by simp only [Xw,Xy];omega))) ?_;rintro _ _ ⟨⟨f5,s5⟩,h,w5⟩;cases h;have lw5:=Wr.len w5;(try simp only [Xx,Xw,Xy] at lw5);refine⟨rfl,U.Xu (C6 rfl (E6 _ _ _)) ?_⟩)
 refine U.Xu rfl (U.Xu (IQ h3) ?_)
 (refine U.A0 (p3 f5 s5 (by omega)) ?_;rintro _ _ ⟨⟨f6,s6⟩,h,w6⟩;cases h;have lw6:=Wr.len w6;(try simp only [Xx,Xw,Xy] at lw6);refine⟨rfl,U.Xu rfl ?_⟩)
 (refine U.A0 ((E7 (ws:=[(3,[41])]) (C5 rfl) (by decide) f6 s6 (by simp only [Xw,Xy];omega))) ?_;rintro _ _ ⟨⟨f7,s7⟩,h,w7⟩;cases h;have lw7:=Wr.len w7;(try simp only [Xx,Xw,Xy] at lw7);refine⟨rfl,U.Xu (C6 rfl (E6 _ _ _)) ?_⟩)
 exact U.ret ⟨(f7,s7),rfl,w1.app (w2.app (w3.app (w4.app (w5.app (w6.app w7)))))⟩
theorem TE {Q:Bool×List D→Prop}{xs:List D}{w:D→List Tk}{T:Int→Bool→Zt→Nat→Out}{f:Bool}{s:Zt}(hl:xs.length≤1000)(hb:s.length+14*(xs.flatMap w).length≤68000000000)
  (step:∀ (j:Nat) (f:Bool) (s:Zt) (h:j<xs.length),s.length+14*(w xs[j]).length≤68000000000→(∀ f1 s1,Wr (f,s) (f1,s1) (w xs[j])→U (T (IntKind.i64.wrap ((j:Int)+1)) f1 s1) Q)→U (T (j:Int) f s) Q)
  (fin:∀ f1 s1,Wr (f,s) (f1,s1) (xs.flatMap w)→U (T (xs.length:Int) f1 s1) Q):U (T 0 f s) Q:=by
 have aux:∀ (m j:Nat) (f1:Bool) (s1:Zt),xs.length-j=m→j≤xs.length→Wr (f,s) (f1,s1) ((xs.take j).flatMap w)→s1.length+14*((xs.drop j).flatMap w).length≤68000000000→U (T (j:Int) f1 s1) Q:=by
  intro m
  induction m with
  |zero=>
   intro j f1 s1 hm hj hw _
   have:j=xs.length:=by omega
   subst this
   rw [List.take_length] at hw
   exact fin f1 s1 hw
  |succ m ih=>
   intro j f1 s1 hm hj hw hb
   have hlt:j<xs.length:=by omega
   rw [drop_cons hlt,Ze,Xx] at hb
   refine step j f1 s1 hlt (by omega) fun f2 s2 h2=>?_
   have l2:=h2.len
   rw [H7 (by omega)]
   refine ih (j+1) f2 s2 (by omega) (by omega) ?_ (by omega)
   have W:=hw.app h2
   have e:(xs.take (j+1)).flatMap w=(xs.take j).flatMap w++w xs[j]:=by
    rw [List.take_add_one,Ym hlt,Option.toList_some,List.flatMap_append];simp
   rw [e];exact W
 exact aux xs.length 0 f s rfl (Yo _) (Wr.nil _) (by simpa using hb)
theorem Tg {R:D→D→Prop}{a:D}{ys:List D}(h:Rl R [a] ys):∃ a',ys=[a']∧R a a':=by
 obtain⟨hl,hr⟩:=h
 match ys,hl with
 |[a'],_=>exact⟨a',rfl,hr 0 (by simp) (by simp)⟩
theorem Xe {R:D→D→Prop}{a b:D}{ys:List D}(h:Rl R [a,b] ys):∃ a' b',ys=[a',b']∧R a a'∧R b b':=by
 obtain⟨hl,hr⟩:=h
 match ys,hl with
 |[a',b'],_=>exact⟨a',b',rfl,hr 0 (by simp) (by simp),hr 1 (by simp) (by simp)⟩
theorem EG {n:Nat}{x y:D}(h:OS n x y):∃ k i j l t es bs zs es' bs' zs',x=S k t es bs zs∧y=AT k i j l t es' bs' zs':=by
 cases n with
 |zero=>exact h.elim
 |succ n=>obtain⟨k,i,j,l,t,es,bs,zs,es',bs',zs',h1,h2,_⟩:=h;exact⟨k,i,j,l,t,es,bs,zs,es',bs',zs',h1,h2⟩
theorem EH {n:Nat}{x y:D}(h:OS n x y):(D7 B9&&J3 B9 y)=true:=by
 obtain⟨k,i,j,l,t,es,bs,zs,es',bs',zs',_,rfl⟩:=EG h;rfl
theorem SZ {n:Nat}{x y:D}(h:OS n x y):C0 B9 y=y:=by
 obtain⟨k,i,j,l,t,es,bs,zs,es',bs',zs',_,rfl⟩:=EG h;rfl
theorem Jq:∀ (n:Nat) (x y:D),qL n x→OS n x y→U (fun m=>iJ m y) fun r=>r=(true,[.bool (kX n x)]):=by
 intro n
 induction n with
 |zero=>intro x y h;exact h.elim
 |succ n ih=>
  rintro x y ⟨k,t,es,bs,zs,rfl,_,hb,_,hsh⟩ ⟨k2,i,j,l,t2,es2,bs2,zs2,es',bs',zs',e,rfl,_,_,_,hR,_⟩
  cases e
  refine U.eq (fun m=>UL m k i j l t es' bs' zs') ?_
  rcases hsh with ⟨rfl,_⟩|⟨rfl|rfl,_⟩|⟨rfl,rfl,h1,⟨b,c,rfl,_⟩,rfl⟩|⟨rfl,_⟩|⟨rfl,rfl,h1,h2,rfl⟩|⟨rfl,_⟩|⟨rfl,_⟩
  ·exact U.no rfl (U.no rfl (U.ret rfl))
  ·exact U.no rfl (U.no rfl (U.ret rfl))
  ·exact U.no rfl (U.no rfl (U.ret rfl))
  ·obtain⟨b',c',rfl,hb',hc'⟩:=Xe hR
   have hc:=hb c (by simp)
   have ih:=ih c c' hc hc'
   cases n with
   |zero=>exact hc.elim
   |succ n=>
    obtain⟨k',i',j',l',t',es',bs3,zs3,es4,bs4,zs4,rfl,rfl⟩:=EG hc'
    refine U.Xu rfl (U.Xu rfl (U.Xu rfl (U.Xu rfl (U.Xv (fun h8=>?_) fun h8=>?_))))
    ·have h8:(k'==8)=true:=h8
     refine U.ret ?_
     show _=(true,[D.bool (k'==8||kX (n+1) (S k' t' es' bs3 zs3))])
     rw [h8];rfl
    ·have h8:(k'==8)=false:=h8
     refine U.Xu rfl (U.Xu rfl (U.A0 ih ?_))
     intro _ ds h;cases h
     refine⟨rfl,U.Xu rfl (U.ret ?_)⟩
     show _=(true,[D.bool (k'==8||kX (n+1) (S k' t' es' bs3 zs3))])
     rw [h8];rfl
  ·exact U.no rfl (U.no rfl (U.ret rfl))
  ·obtain⟨b,rfl⟩:∃ b,bs=[b]:=by
    match bs,h2 with
    |[b],_=>exact⟨b,rfl⟩
   obtain⟨b',rfl,hb'⟩:=Tg hR
   have ih:=ih b b' (hb b (by simp)) hb'
   refine U.no rfl (U.Xu rfl (U.Xu rfl (U.Xu (EH hb') ?_)))
   rw [show C0 B9 ([b'][0]?.getD D.top)=b' from SZ hb']
   refine U.A0 ih ?_
   intro _ ds h;cases h
   exact⟨rfl,U.Xu rfl (U.ret rfl)⟩
  ·exact U.no rfl (U.no rfl (U.ret rfl))
  ·exact U.no rfl (U.no rfl (U.ret rfl))
section
variable {d:Nat} (ih:∀ x y,qL d x→OS d x y→Pr (fun n=>D3 n y) (yS d x))
include ih
theorem Cd {x y:D}(h:qL d x)(h':OS d x y):Pr (fun n=>D3 n (C0 B9 y)) (yS d x):=by rw [SZ h'];exact ih x y h h'
theorem Va {x y:D}(h:qL d x)(h':OS d x y)(ho:kX d x=false):Pr (fun n=>bA n (C0 B9 y)) (yS d x):=by
 have ho':=Jq d x y h h'
 have hp:=ih x y h h'
 rw [SZ h']
 obtain⟨k,i,j,l,t,es,bs,zs,es',bs',zs',rfl,rfl⟩:=EG h'
 rw [ho] at ho'
 intro f s hb
 refine U.eq (fun n=>zE n k i j l t es' bs' zs' f (E9 s)) (U.A0 ho' ?_)
 intro _ ds h;cases h
 refine⟨rfl,U.Xu rfl (U.no rfl ?_)⟩
 (refine U.A0 (hp f s hb) ?_;rintro _ _ ⟨⟨f2,s2⟩,h,w2⟩;cases h;have lw2:=Wr.len w2;(try simp only [Xx,Xw,Xy] at lw2);refine⟨rfl,U.Xu rfl ?_⟩)
 exact U.ret ⟨(f2,s2),rfl,w2⟩
theorem Ss {xs ys:List D}(hl:xs.length≤10)(hx:∀ x∈xs,qL d x)(hR:Rl (OS d) xs ys)(f:Bool)(s:Zt)(hb:s.length+14*(xs.flatMap (yS d)).length≤68000000000) :
  U (fun n=>P4 n (.Z 8 ys) (ys.length:Int) (0:Int) (.bool f) (.Z 1 (E9 s))) fun r=>∃ st:Bool×Zt,r=(false,[.Z 8 ys,.int .i64 (ys.length:Int),.int .i64 (ys.length:Int),.bool st.1,.Z 1 (E9 st.2)])∧Wr (f,s) st (xs.flatMap (yS d)):=by
 have el:=hR.1
 refine TE (xs:=xs) (w:=yS d) (T:=fun j f s n=>P4 n (.Z 8 ys) (ys.length:Int) j (.bool f) (.Z 1 (E9 s))) (by omega) hb (fun j f s hj hb K=>?_) fun f1 s1 W=>?_
 ·have hj':j<ys.length:=by omega
  have r:=hR.2 j hj hj'
  have p1:=Cd ih (hx _ (Yr hj)) r
  refine U.eq (fun n=>lG n _ _ _ _ _) (U.Xu (Zi (by omega)) (U.Xu (G9 hj') ?_))
  rw [X7 hj']
  refine U.Xu (EH r) ?_
  (refine U.A0 (p1 f s hb) ?_;rintro _ _ ⟨⟨f2,s2⟩,h,w2⟩;cases h;have lw2:=Wr.len w2;(try simp only [Xx,Xw,Xy] at lw2);refine⟨rfl,U.Xu rfl ?_⟩)
  exact K f2 s2 w2
 ·exact U.eq (fun n=>lG n _ _ _ _ _) (U.no (Zk (by omega)) (U.ret ⟨(f1,s1),by rw [el],W⟩))
theorem Wh {x y:D}(h:Tc d x)(h':OA (OS d) x y):Pr (fun n=>bY n (C0 O1 y)) (fS (yS d) x):=by
 obtain⟨es0,es',k,i,j,l,t,fs,bs,zs,fs',bs',zs',rfl,rfl,hE,hO⟩:=h'
 have hel:=On hE
 have hep:=GR hE
 have hle:=hE.2.1
 obtain⟨es,s0,e,hl,_,hs⟩:=h
 have e1:s0=S k t fs bs zs:=by
  cases d with
  |zero=>exact hs.elim
  |succ d=>
   obtain⟨k2,t2,es2,bs2,zs2,rfl,_⟩:=hs
   cases e;rfl
 subst e1
 have e2:es=es0:=by cases e;rfl
 subst e2
 have p2:=ih _ _ hs hO
 have J:∀ (f:Bool) (s:Zt),s.length+14*(lW (wE 4) es++([(3,[58])]++yS d (S k t fs bs zs)):List Tk).length≤68000000000→U (fun n=>fU n (E9 s) f es' k i j l t fs' bs' zs') fun r=>∃ st:Bool×Zt,r=(true,[.bool st.1,.Z 1 (E9 st.2)])∧Wr (f,s) st (lW (wE 4) es++([(3,[58])]++yS d (S k t fs bs zs))):=by
  intro f s hb
  simp only [Xx,Xw,Xy] at hb
  refine G4 (fun n=>fU.eq_1 n _ _ _ _ _ _ _ _ _ _ _) ?_
  rw [hel] at hb ⊢
  (refine U.A0 (BS (HC 4) (xs:=es') (by omega) hep f s (by omega)) ?_;rintro _ _ ⟨⟨f1,s1⟩,h,w1⟩;cases h;have lw1:=Wr.len w1;(try simp only [Xx,Xw,Xy] at lw1);refine⟨rfl,U.Xu rfl ?_⟩)
  (refine U.A0 ((E7 (ws:=[(3,[58])]) (C5 rfl) (by decide) f1 s1 (by simp only [Xw,Xy];omega))) ?_;rintro _ _ ⟨⟨f2,s2⟩,h,w2⟩;cases h;have lw2:=Wr.len w2;(try simp only [Xx,Xw,Xy] at lw2);refine⟨rfl,U.Xu (C6 rfl (E6 _ _ _)) ?_⟩)
  (refine U.A0 (p2 f2 s2 (by omega)) ?_;rintro _ _ ⟨⟨f3,s3⟩,h,w3⟩;cases h;have lw3:=Wr.len w3;(try simp only [Xx,Xw,Xy] at lw3);refine⟨rfl,U.Xu rfl ?_⟩)
  exact U.ret ⟨(f3,s3),rfl,w1.app (w2.app w3)⟩
 intro f s hb
 have ea:fS (yS d) (arm es (S k t fs bs zs))=(bif es.isEmpty then [(1,wJ)] else [])++(lW (wE 4) es++([(3,[58])]++yS d (S k t fs bs zs))):=rfl
 rw [ea] at hb ⊢
 refine U.eq (fun n=>AY n es' k i j l t fs' bs' zs' f (E9 s)) (U.Xv (fun h=>?_) fun h=>?_)
 ·have h0:es=[]:=by
   have:=eq_of_beq h
   exact Zh.1 (by omega)
  subst h0
  (replace hb:s.length+14*([(1,wJ)]++(lW (wE 4) []++([(3,[58])]++yS d (S k t fs bs zs))):List Tk).length≤68000000000:=hb;simp only [Xx,Xw,Xy] at hb)
  (refine U.A0 ((E7 (ws:=[(1,wJ)]) (C5 rfl) (by decide) f s (by simp only [Xw,Xy];omega))) ?_;rintro _ _ ⟨⟨f1,s1⟩,h,w1⟩;cases h;have lw1:=Wr.len w1;(try simp only [Xx,Xw,Xy] at lw1);refine⟨rfl,U.Xu (C6 rfl (E6 _ _ _)) ?_⟩)
  refine (J f1 s1 (by simp only [Xx,Xw,Xy];omega)).mono fun r ⟨st,h1,h2⟩=>⟨st,h1,w1.app h2⟩
 ·have h0:es.isEmpty=false:=by
   cases es with
   |nil=>exact absurd h (by rw [show (es'.length:Int)=0 from by simp at hle;omega];decide)
   |cons=>rfl
  rw [h0] at hb ⊢
  exact J f s hb
theorem Tt {xs ys:List D}(hl:xs.length≤10)(hx:∀ x∈xs,Tc d x)(hR:Rl (OA (OS d)) xs ys)(f:Bool)(s:Zt)(hb:s.length+14*(xs.flatMap (fS (yS d))).length≤68000000000) :
  U (fun n=>P5 n (.Z 9 ys) (ys.length:Int) (0:Int) (.bool f) (.Z 1 (E9 s))) fun r=>∃ st:Bool×Zt,r=(false,[.Z 9 ys,.int .i64 (ys.length:Int),.int .i64 (ys.length:Int),.bool st.1,.Z 1 (E9 st.2)])∧Wr (f,s) st (xs.flatMap (fS (yS d))):=by
 have el:=hR.1
 refine TE (xs:=xs) (w:=fS (yS d)) (T:=fun j f s n=>P5 n (.Z 9 ys) (ys.length:Int) j (.bool f) (.Z 1 (E9 s))) (by omega) hb (fun j f s hj hb K=>?_) fun f1 s1 W=>?_
 ·have hj':j<ys.length:=by omega
  have r:=hR.2 j hj hj'
  have p1:=Wh ih (hx _ (Yr hj)) r
  refine U.eq (fun n=>lH n _ _ _ _ _) (U.Xu (Zi (by omega)) (U.Xu (G9 hj') ?_))
  rw [X7 hj']
  refine U.Xu (by obtain⟨_,_,_,_,_,_,_,_,_,_,_,_,_,_,e,_⟩:=r;rw [e];rfl) ?_
  (refine U.A0 (p1 f s hb) ?_;rintro _ _ ⟨⟨f2,s2⟩,h,w2⟩;cases h;have lw2:=Wr.len w2;(try simp only [Xx,Xw,Xy] at lw2);refine⟨rfl,U.Xu rfl ?_⟩)
  exact K f2 s2 w2
 ·exact U.eq (fun n=>lH n _ _ _ _ _) (U.no (Zk (by omega)) (U.ret ⟨(f1,s1),by rw [el],W⟩))
end
end
theorem Uz:∀ (d:Nat) (x y:D),qL d x→OS d x y→Pr (fun n=>D3 n y) (yS d x):=by
 intro d
 induction d with
 |zero=>intro x y h;exact h.elim
 |succ d ih=>
  rintro x y ⟨k,t,es,bs,zs,rfl,he,hb0,hz,hsh⟩ ⟨k2,i,j,l0,t2,es2,bs2,zs2,es',bs',zs',e,rfl,hE,_,_,hR,hZ⟩ f s hb
  cases e
  rw [Xb] at hb ⊢
  refine U.eq (fun n=>zD n k i j l0 t es' bs' zs' f (E9 s)) ?_
  rcases hsh with ⟨rfl,rfl,rfl,hl,rfl⟩|⟨hk,rfl,⟨l,e,rfl,_⟩,rfl,rfl⟩|⟨rfl,rfl,hl,⟨b,c,rfl,hop⟩,rfl⟩|⟨rfl,rfl,hl,rfl,hz1,hz2⟩|⟨rfl,rfl,hl,hl2,rfl⟩|⟨rfl,ht,hl,rfl,rfl⟩|⟨rfl,rfl,rfl,rfl,rfl⟩
  ·(replace hb:s.length+14*([(1,Q6),nl]++(bs.flatMap (yS d)++[(1,dD),nl]):List Tk).length≤68000000000:=hb;simp only [Xx,Xw,Xy] at hb)
   refine U.Xu rfl ?_
   (refine U.A0 ((mE (ws:=[(1,Q6)]) (C5 rfl) (by decide) (by decide) f s (by simp only [Xx,Xw,Xy];omega))) ?_;rintro _ _ ⟨⟨f1,s1⟩,h,w1⟩;cases h;have lw1:=Wr.len w1;(try simp only [Xx,Xw,Xy] at lw1);refine⟨rfl,U.Xu (C6 rfl (E6 _ _ _)) ?_⟩)
   refine U.D4 (Ss ih (xs:=bs) (ys:=bs') (by omega) hb0 hR f1 s1 (by omega)) (fun ds h=>by obtain⟨_,h,_⟩:=h;cases h) fun ds h=>?_
   obtain⟨⟨f2,s2⟩,h,w2⟩:=h
   cases h
   have l2:=w2.len
   refine U.Xu rfl ?_
   (refine U.A0 ((mE (ws:=[(1,dD)]) (C5 rfl) (by decide) (by decide) f2 s2 (by simp only [Xx,Xw,Xy];omega))) ?_;rintro _ _ ⟨⟨f3,s3⟩,h,w3⟩;cases h;have lw3:=Wr.len w3;(try simp only [Xx,Xw,Xy] at lw3);refine⟨rfl,U.Xu (C6 rfl (E6 _ _ _)) ?_⟩)
   exact U.ret ⟨(f3,s3),rfl,w1.app (w2.app w3)⟩
  ·obtain⟨l',e',rfl,h1,h2,e1,e2⟩:=Wf hE
   have p1:=PG h1
   have p2:=PG h2
   rcases hk with rfl|rfl
   ·show U _ fun r=>∃ st:Bool×Zt,r=(true,[.bool st.1,.Z 1 (E9 st.2)])∧Wr (f,s) st (wE 4 l++([(3,[61])]++(wE 4 e++[(3,[59]),nl])))
    replace hb:s.length+14*(wE 4 l++([(3,[61])]++(wE 4 e++[(3,[59]),nl])):List Tk).length≤68000000000:=hb
    rw [e1,e2] at hb ⊢
    simp only [Xx,Xw,Xy] at hb
    refine U.no rfl (U.Xu rfl (G4 (fun n=>R8.eq_1 n _ _ _ _ _ _ _ _) (U.Xu rfl (U.Xu rfl (U.Xu (IQ h1) ?_)))))
    (refine U.A0 (p1 f s (by omega)) ?_;rintro _ _ ⟨⟨f1,s1⟩,h,w1⟩;cases h;have lw1:=Wr.len w1;(try simp only [Xx,Xw,Xy] at lw1);refine⟨rfl,U.Xu rfl ?_⟩)
    refine U.Xu rfl ?_
    (refine U.A0 ((E7 (ws:=[(3,[61])]) (C5 rfl) (by decide) f1 s1 (by simp only [Xw,Xy];omega))) ?_;rintro _ _ ⟨⟨f2,s2⟩,h,w2⟩;cases h;have lw2:=Wr.len w2;(try simp only [Xx,Xw,Xy] at lw2);refine⟨rfl,U.Xu (C6 rfl (E6 _ _ _)) ?_⟩)
    refine G4 (fun n=>fB.eq_1 n _ _ _) (U.Xu rfl (U.Xu (IQ h2) ?_))
    (refine U.A0 (p2 f2 s2 (by omega)) ?_;rintro _ _ ⟨⟨f3,s3⟩,h,w3⟩;cases h;have lw3:=Wr.len w3;(try simp only [Xx,Xw,Xy] at lw3);refine⟨rfl,U.Xu rfl ?_⟩)
    (refine U.A0 ((mE (ws:=[(3,[59])]) (C5 rfl) (by decide) (by decide) f3 s3 (by simp only [Xx,Xw,Xy];omega))) ?_;rintro _ _ ⟨⟨f4,s4⟩,h,w4⟩;cases h;have lw4:=Wr.len w4;(try simp only [Xx,Xw,Xy] at lw4);refine⟨rfl,U.Xu (C6 rfl (E6 _ _ _)) ?_⟩)
    exact U.ret ⟨(f4,s4),rfl,w1.app (w2.app (w3.app w4))⟩
   ·show U _ fun r=>∃ st:Bool×Zt,r=(true,[.bool st.1,.Z 1 (E9 st.2)])∧Wr (f,s) st (wE 4 l++([(3,[60,61])]++(wE 4 e++[(3,[59]),nl])))
    replace hb:s.length+14*(wE 4 l++([(3,[60,61])]++(wE 4 e++[(3,[59]),nl])):List Tk).length≤68000000000:=hb
    rw [e1,e2] at hb ⊢
    simp only [Xx,Xw,Xy] at hb
    refine U.no rfl (U.no rfl (G4 (fun n=>R8.eq_1 n _ _ _ _ _ _ _ _) (U.Xu rfl (U.Xu rfl (U.Xu (IQ h1) ?_)))))
    (refine U.A0 (p1 f s (by omega)) ?_;rintro _ _ ⟨⟨f1,s1⟩,h,w1⟩;cases h;have lw1:=Wr.len w1;(try simp only [Xx,Xw,Xy] at lw1);refine⟨rfl,U.Xu rfl ?_⟩)
    refine U.no rfl ?_
    (refine U.A0 ((E7 (ws:=[(3,[60,61])]) (C5 rfl) (by decide) f1 s1 (by simp only [Xw,Xy];omega))) ?_;rintro _ _ ⟨⟨f2,s2⟩,h,w2⟩;cases h;have lw2:=Wr.len w2;(try simp only [Xx,Xw,Xy] at lw2);refine⟨rfl,U.Xu (C6 rfl (E6 _ _ _)) ?_⟩)
    refine G4 (fun n=>fB.eq_1 n _ _ _) (U.Xu rfl (U.Xu (IQ h2) ?_))
    (refine U.A0 (p2 f2 s2 (by omega)) ?_;rintro _ _ ⟨⟨f3,s3⟩,h,w3⟩;cases h;have lw3:=Wr.len w3;(try simp only [Xx,Xw,Xy] at lw3);refine⟨rfl,U.Xu rfl ?_⟩)
    (refine U.A0 ((mE (ws:=[(3,[59])]) (C5 rfl) (by decide) (by decide) f3 s3 (by simp only [Xx,Xw,Xy];omega))) ?_;rintro _ _ ⟨⟨f4,s4⟩,h,w4⟩;cases h;have lw4:=Wr.len w4;(try simp only [Xx,Xw,Xy] at lw4);refine⟨rfl,U.Xu (C6 rfl (E6 _ _ _)) ?_⟩)
    exact U.ret ⟨(f4,s4),rfl,w1.app (w2.app (w3.app w4))⟩
  ·obtain⟨b',c',rfl,hb',hc'⟩:=Xe hR
   have hb1:=hb0 b (by simp)
   have hc1:=hb0 c (by simp)
   match es,hl,he,hE with
   |[e],_,he,hE=>
    obtain⟨e',rfl,h1,e1⟩:=Cp hE
    have p1:=TB h1
    have p2:=Cd ih hb1 hb'
    have p3:=Cd ih hc1 hc'
    have pt:=Va ih hb1 hb'
    obtain⟨kc,ic,jc,lc,tc,ec,bc,zc,ec',bc',zc',rfl,rfl⟩:=EG hc'
    refine U.no rfl (U.no rfl (G4 (fun n=>R8.eq_1 n _ _ _ _ _ _ _ _) (U.no rfl (U.Xu rfl ?_))))
    have eW:Wc (yS d) 4 [] [e] [b,S kc tc ec bc zc] []=[(1,vI)]++(pW e'++(yS d b++(bif kc==8 then [] else [(1,cT)]++yS d (S kc tc ec bc zc)))):=by
     rw [← Nl e1];rfl
    rw [eW] at hb ⊢
    have hb2:s.length+14*(1+((pW e').length+((yS d b).length+(bif kc==8 then [] else [(1,cT)]++yS d (S kc tc ec bc zc):List Tk).length)))≤68000000000:=by simpa only [Xx,Xw,Xy,Yp] using hb
    clear hb
    (refine U.A0 ((E7 (ws:=[(1,vI)]) (C5 rfl) (by decide) f s (by simp only [Xw,Xy];omega))) ?_;rintro _ _ ⟨⟨f1,s1⟩,h,w1⟩;cases h;have lw1:=Wr.len w1;(try simp only [Xx,Xw,Xy] at lw1);refine⟨rfl,U.Xu (C6 rfl (E6 _ _ _)) ?_⟩)
    refine U.Xu rfl (U.Xu (IQ h1) ?_)
    (refine U.A0 (p1 f1 s1 (by omega)) ?_;rintro _ _ ⟨⟨f2,s2⟩,h,w2⟩;cases h;have lw2:=Wr.len w2;(try simp only [Xx,Xw,Xy] at lw2);refine⟨rfl,U.Xu rfl ?_⟩)
    refine U.Xu rfl (U.Xu rfl (U.Xu rfl (U.Xv (fun h8=>?_) fun h8=>?_)))
    ·have h8:(kc==8)=true:=h8
     rw [h8] at hb2 ⊢
     refine U.Xu rfl (U.Xu (EH hb') ?_)
     (refine U.A0 (p2 f2 s2 (by omega)) ?_;rintro _ _ ⟨⟨f3,s3⟩,h,w3⟩;cases h;have lw3:=Wr.len w3;(try simp only [Xx,Xw,Xy] at lw3);refine⟨rfl,U.Xu rfl ?_⟩)
     refine U.ret ⟨(f3,s3),rfl,?_⟩
     have W:=w1.app (w2.app w3)
     simpa using W
    ·have h8:(kc==8)=false:=h8
     rw [h8] at hb2 ⊢
     simp only [cond_false,Xx,Xw,Xy] at hb2
     have ho:kX d b=false:=by
      rcases hop with h|h
      ·exact absurd (congrArg (fun x=>(x.at_ 0).i==8) h) (by show ¬ (kc==8)=true;rw [h8];decide)
      ·exact h
     refine U.Xu rfl (U.Xu (EH hb') ?_)
     (refine U.A0 (pt ho f2 s2 (by omega)) ?_;rintro _ _ ⟨⟨f3,s3⟩,h,w3⟩;cases h;have lw3:=Wr.len w3;(try simp only [Xx,Xw,Xy] at lw3);refine⟨rfl,U.Xu rfl ?_⟩)
     (refine U.A0 ((E7 (ws:=[(1,cT)]) (C5 rfl) (by decide) f3 s3 (by simp only [Xw,Xy];omega))) ?_;rintro _ _ ⟨⟨f4,s4⟩,h,w4⟩;cases h;have lw4:=Wr.len w4;(try simp only [Xx,Xw,Xy] at lw4);refine⟨rfl,U.Xu (C6 rfl (E6 _ _ _)) ?_⟩)
     refine U.Xu rfl (U.Xu (EH hc') ?_)
     (refine U.A0 (p3 f4 s4 (by omega)) ?_;rintro _ _ ⟨⟨f5,s5⟩,h,w5⟩;cases h;have lw5:=Wr.len w5;(try simp only [Xx,Xw,Xy] at lw5);refine⟨rfl,U.Xu rfl ?_⟩)
     exact U.ret ⟨(f5,s5),rfl,w1.app (w2.app (w3.app (w4.app w5)))⟩
  ·match es,hl,he,hE with
   |[e],_,he,hE=>
    obtain⟨e',rfl,h1,e1⟩:=Cp hE
    have p1:=TB h1
    show U _ fun r=>∃ st:Bool×Zt,r=(true,[.bool st.1,.Z 1 (E9 st.2)])∧Wr (f,s) st ([(1,oO)]++(pW e++([nl]++(zs.flatMap (fS (yS d))++[(1,bZ),nl]))))
    replace hb:s.length+14*([(1,oO)]++(pW e++([nl]++(zs.flatMap (fS (yS d))++[(1,bZ),nl]))):List Tk).length≤68000000000:=hb
    rw [Nl e1] at hb ⊢
    simp only [Xx,Xw,Xy] at hb
    refine U.no rfl (U.no rfl (G4 (fun n=>R8.eq_1 n _ _ _ _ _ _ _ _) (U.no rfl (U.no rfl (U.Xu rfl ?_)))))
    (refine U.A0 ((E7 (ws:=[(1,oO)]) (C5 rfl) (by decide) f s (by simp only [Xw,Xy];omega))) ?_;rintro _ _ ⟨⟨f1,s1⟩,h,w1⟩;cases h;have lw1:=Wr.len w1;(try simp only [Xx,Xw,Xy] at lw1);refine⟨rfl,U.Xu (C6 rfl (E6 _ _ _)) ?_⟩)
    refine U.Xu rfl (U.Xu (IQ h1) ?_)
    (refine U.A0 (p1 f1 s1 (by omega)) ?_;rintro _ _ ⟨⟨f2,s2⟩,h,w2⟩;cases h;have lw2:=Wr.len w2;(try simp only [Xx,Xw,Xy] at lw2);refine⟨rfl,U.Xu rfl ?_⟩)
    refine U.A0 (Um f2 s2 (by simp only [Xw,Xy];omega)) ?_
    rintro _ _ ⟨⟨f3,s3⟩,h,w3⟩;cases h
    have l3:=w3.len
    simp only [Xw,Xy] at l3
    refine⟨rfl,U.Xu rfl ?_⟩
    refine U.D4 (Tt ih (xs:=zs) (ys:=zs') (by omega) hz hZ f3 s3 (by omega)) (fun ds h=>by obtain⟨_,h,_⟩:=h;cases h) fun ds h=>?_
    obtain⟨⟨f4,s4⟩,h,w4⟩:=h
    cases h
    have l4:=w4.len
    refine U.Xu rfl ?_
    (refine U.A0 ((mE (ws:=[(1,bZ)]) (C5 rfl) (by decide) (by decide) f4 s4 (by simp only [Xx,Xw,Xy];omega))) ?_;rintro _ _ ⟨⟨f5,s5⟩,h,w5⟩;cases h;have lw5:=Wr.len w5;(try simp only [Xx,Xw,Xy] at lw5);refine⟨rfl,U.Xu (C6 rfl (E6 _ _ _)) ?_⟩)
    exact U.ret ⟨(f5,s5),rfl,w1.app (w2.app (w3.app (w4.app w5)))⟩
  ·obtain⟨b,rfl⟩:∃ b,bs=[b]:=by
    match bs,hl2 with
    |[b],_=>exact⟨b,rfl⟩
   obtain⟨b',rfl,hb'⟩:=Tg hR
   have p2:=Cd ih (hb0 b (by simp)) hb'
   match es,hl,he,hE with
   |[x,y,z],_,he,hE=>
    obtain⟨x',y',z',rfl,h1,h2,h3,e1,e2,e3⟩:=Tr hE
    have p1:=Oz (t:=[105]) (by decide) h1 h2 h3
    show U _ fun r=>∃ st:Bool×Zt,r=(true,[.bool st.1,.Z 1 (E9 st.2)])∧Wr (f,s) st (Z9 [105] [x,y,z]++yS d b)
    replace hb:s.length+14*(Z9 [105] [x,y,z]++yS d b:List Tk).length≤68000000000:=hb
    rw [Bj e1 e2 e3] at hb ⊢
    rw [Xx] at hb
    refine U.no rfl (U.no rfl (G4 (fun n=>R8.eq_1 n _ _ _ _ _ _ _ _) (U.no rfl (U.no rfl (U.no rfl (U.Xu rfl ?_))))))
    (refine U.A0 (p1 f s (by omega)) ?_;rintro _ _ ⟨⟨f1,s1⟩,h,w1⟩;cases h;have lw1:=Wr.len w1;(try simp only [Xx,Xw,Xy] at lw1);refine⟨rfl,U.Xu rfl ?_⟩)
    refine U.Xu rfl (U.Xu (EH hb') ?_)
    (refine U.A0 (p2 f1 s1 (by omega)) ?_;rintro _ _ ⟨⟨f2,s2⟩,h,w2⟩;cases h;have lw2:=Wr.len w2;(try simp only [Xx,Xw,Xy] at lw2);refine⟨rfl,U.Xu rfl ?_⟩)
    exact U.ret ⟨(f2,s2),rfl,w1.app w2⟩
  ·match es,hl,he,hE with
   |[e],_,he,hE=>
    obtain⟨e',rfl,h1,e1⟩:=Cp hE
    have p1:=TB h1
    have J:∀ (f:Bool) (s:Zt),s.length+14*([(1,nK)]++(pW e++[(3,[59]),nl]):List Tk).length≤68000000000→U (fun n=>fC n (E9 s) f [e']) fun r=>∃ st:Bool×Zt,r=(true,[.bool st.1,.Z 1 (E9 st.2)])∧Wr (f,s) st ([(1,nK)]++(pW e++[(3,[59]),nl])):=by
     intro f s hb
     rw [Nl e1] at hb ⊢
     simp only [Xx,Xw,Xy] at hb
     refine G4 (fun n=>fC.eq_1 n _ _ _) ?_
     (refine U.A0 ((E7 (ws:=[(1,nK)]) (C5 rfl) (by decide) f s (by simp only [Xw,Xy];omega))) ?_;rintro _ _ ⟨⟨f1,s1⟩,h,w1⟩;cases h;have lw1:=Wr.len w1;(try simp only [Xx,Xw,Xy] at lw1);refine⟨rfl,U.Xu (C6 rfl (E6 _ _ _)) ?_⟩)
     refine U.Xu rfl (U.Xu (IQ h1) ?_)
     (refine U.A0 (p1 f1 s1 (by omega)) ?_;rintro _ _ ⟨⟨f2,s2⟩,h,w2⟩;cases h;have lw2:=Wr.len w2;(try simp only [Xx,Xw,Xy] at lw2);refine⟨rfl,U.Xu rfl ?_⟩)
     (refine U.A0 ((mE (ws:=[(3,[59])]) (C5 rfl) (by decide) (by decide) f2 s2 (by simp only [Xx,Xw,Xy];omega))) ?_;rintro _ _ ⟨⟨f3,s3⟩,h,w3⟩;cases h;have lw3:=Wr.len w3;(try simp only [Xx,Xw,Xy] at lw3);refine⟨rfl,U.Xu (C6 rfl (E6 _ _ _)) ?_⟩)
     exact U.ret ⟨(f3,s3),rfl,w1.app (w2.app w3)⟩
    refine U.no rfl (U.no rfl (G4 (fun n=>R8.eq_1 n _ _ _ _ _ _ _ _) (U.no rfl (U.no rfl (U.no rfl (U.no rfl (U.Xu rfl ?_)))))))
    rcases ht with rfl|rfl
    ·exact U.no rfl (J f s hb)
    ·(replace hb:s.length+14*([(1,[112,49]),(3,[58])]++([(1,nK)]++(pW e++[(3,[59]),nl])):List Tk).length≤68000000000:=hb;simp only [Xx,Xw,Xy] at hb)
     refine U.Xu rfl ?_
     (refine U.A0 ((E7 (ws:=[(1,[112,49]),(3,[58])]) (C5 rfl) (by decide) f s (by simp only [Xw,Xy];omega))) ?_;rintro _ _ ⟨⟨f1,s1⟩,h,w1⟩;cases h;have lw1:=Wr.len w1;(try simp only [Xx,Xw,Xy] at lw1);refine⟨rfl,U.Xu (C6 rfl (E6 _ _ _)) ?_⟩)
     exact (J f1 s1 (by simp only [Xx,Xw,Xy];omega)).mono fun r ⟨st,h1,h2⟩=>⟨st,h1,w1.app h2⟩
  ·(replace hb:s.length+14*([(3,[59]),nl]:List Tk).length≤68000000000:=hb;simp only [Xx,Xw,Xy] at hb)
   refine U.no rfl (U.no rfl (G4 (fun n=>R8.eq_1 n _ _ _ _ _ _ _ _) (U.no rfl (U.no rfl (U.no rfl (U.no rfl (U.no rfl ?_)))))))
   (refine U.A0 ((mE (ws:=[(3,[59])]) (C5 rfl) (by decide) (by decide) f s (by simp only [Xx,Xw,Xy];omega))) ?_;rintro _ _ ⟨⟨f1,s1⟩,h,w1⟩;cases h;have lw1:=Wr.len w1;(try simp only [Xx,Xw,Xy] at lw1);refine⟨rfl,U.Xu (C6 rfl (E6 _ _ _)) ?_⟩)
   exact U.ret ⟨(f1,s1),rfl,w1⟩
def vJ:List Zt:=[ID,iF,eZ,MZ,kO,Y2]
def Kl (ty:Zt):List Tk:=bif ty==Y2 then [(1,kO),(1,iF)] else [(1,ty)]
theorem XM {ty:Zt}(h:ty∈vJ):(Lib.split ty [32]).map D.str=MQ (Kl ty)∧CC (Kl ty)∧(Kl ty).length≤2:=by
 have a:(vJ.all fun ty=>(Lib.split ty [32]==(Kl ty).map (·.2))&&((Kl ty).all fun p=>!(p.1==9)&&Tj p.2))=true:=by decide +kernel
 have a:=Yg.1 a ty h
 rw [Xz] at a
 refine⟨?_,C5 a.2,?_⟩
 ·rw [eq_of_beq a.1];simp [MQ]
 ·unfold Kl;cases ty==Y2<;>simp
theorem Kg {ty:Zt}(h:ty∈vJ):U (fun n=>strings_Split n (.str ty) (.str [32])) fun r=>r=(true,[.Z 1 (MQ (Kl ty))]):=by
 have a:(vJ.all fun ty=>Nat.ble ty.length 4294967280)=true:=by decide +kernel
 have a:=Yg.1 a ty h
 refine U.eq (u:=fun _=>some (true,[D.Z 1 (MQ (Kl ty))])) (fun n=>ER n _ _ _ ?_) (U.ret rfl)
 show (bif Nat.ble ty.length 4294967280&&true then some [D.Z 1 ((Lib.split ty [32]).map D.str)] else none)=_
 rw [a,(XM h).1];rfl
theorem tO {n:Nat}{x y:D}(h:OI n x y):∃ m k i j l nm ty sg es fs bs its els ps qs es' fs' bs' its' els' ps' qs',n=m+1∧x=I k nm ty sg es fs bs its els ps qs∧y=AJ k i j l nm ty sg es' fs' bs' its' els' ps' qs'∧fL es es'∧fL fs fs'∧Rl (OS 4) bs bs'∧Rl (OI m) its its'∧Rl (OI m) els els'∧Rl OC ps ps'∧Rl OC qs qs':=by
 cases n with
 |zero=>exact h.elim
 |succ n=>
  obtain⟨k,i,j,l,nm,ty,sg,es,fs,bs,its,els,ps,qs,es',fs',bs',its',els',ps',qs',h1,h2,g1,g2,_,_,_,_,_,h3,h4,h5,h6,h7⟩:=h
  exact⟨n,k,i,j,l,nm,ty,sg,es,fs,bs,its,els,ps,qs,es',fs',bs',its',els',ps',qs',rfl,h1,h2,g1,g2,h3,h4,h5,h6,h7⟩
theorem WQ {n:Nat}{x y:D}(h:OI n x y):(D7 B0&&J3 B0 y)=true:=by
 obtain⟨_,_,_,_,_,_,_,_,_,_,_,_,_,_,_,_,_,_,_,_,_,_,_,_,rfl,_⟩:=tO h;rfl
theorem SM {n:Nat}{x y:D}(h:OI n x y):C0 B0 y=y:=by
 obtain⟨_,_,_,_,_,_,_,_,_,_,_,_,_,_,_,_,_,_,_,_,_,_,_,_,rfl,_⟩:=tO h;rfl
theorem Hf {es es':List D}(h:Rl (OE 4) es es'):mM es=mM es':=by
 obtain⟨hl,hr⟩:=h
 match es,es',hl,hr with
 |[],[],_,_=>rfl
 |[x],[y],_,hr=>
  show [(3,[91])]++(wE 4 x++[(3,[93])])=[(3,[91])]++(wE 4 y++[(3,[93])])
  rw [show wE 4 x=wE 4 y from CG (hr 0 (by simp) (by simp))]
 |x::x'::_,y::y'::_,_,hr=>
  show [(3,[91])]++(wE 4 x++([(3,[58])]++(wE 4 x'++[(3,[93])])))=[(3,[91])]++(wE 4 y++([(3,[58])]++(wE 4 y'++[(3,[93])])))
  rw [show wE 4 x=wE 4 y from CG (hr 0 (by simp) (by simp)),show wE 4 x'=wE 4 y' from CG (hr 1 (by simp) (by simp))]
theorem Rl.take {R:D→D→Prop}{xs ys:List D}(h:Rl R xs ys)(n:Nat):Rl R (xs.take n) (ys.take n):=
 ⟨by rw [Zc,Zc,h.1],fun i hi hi'=>by
  rw [Zc] at hi hi'
  rw [List.getElem_take,List.getElem_take];exact h.2 i (by omega) (by omega)⟩
theorem Rl.drop {R:D→D→Prop}{xs ys:List D}(h:Rl R xs ys)(n:Nat):Rl R (xs.drop n) (ys.drop n):=
 ⟨by rw [Zs,Zs,h.1],fun i hi hi'=>by
  rw [Zs] at hi hi'
  rw [List.getElem_drop,List.getElem_drop];exact h.2 (n+i) (by omega) (by omega)⟩
theorem RF {es:List D}(hl:es.length≤2)(hx:∀ x∈es,vH 4 x):Pr (fun n=>H0 n (.Z 6 es)) (mM es):=by rw [← Tw];exact RE (HC 4) hl hx
def Ow (fs:List D):List Tk:=bif fs.isEmpty then [] else [(3,[61])]++wE 4 (x0 fs)
theorem Un {fs:List D}(hl:fs.length≤1)(hf:∀ e∈fs,vH 4 e)(f:Bool)(s:Zt)(hb:s.length+14*(Ow fs).length≤68000000000):U (fun n=>fY n (E9 s) f fs) (fun r=>∃ st:Bool×Zt,r=(true,[.bool st.1,.Z 1 (E9 st.2)])∧Wr (f,s) st (Ow fs)):=by
 refine G4 (fun n=>fY.eq_1 n _ _ _) ?_
 match fs,hl,hf,hb with
 |[],_,_,_=>exact U.no rfl (U.ret ⟨(f,s),rfl,Wr.nil _⟩)
 |[x],_,hf,hb=>
  (replace hb:s.length+14*([(3,[61])]++wE 4 x:List Tk).length≤68000000000:=hb;simp only [Xx,Xw,Xy] at hb)
  refine U.Xu rfl ?_
  (refine U.A0 ((E7 (ws:=[(3,[61])]) (C5 rfl) (by decide) f s (by simp only [Xw,Xy];omega))) ?_;rintro _ _ ⟨⟨f1,s1⟩,h,w1⟩;cases h;have lw1:=Wr.len w1;(try simp only [Xx,Xw,Xy] at lw1);refine⟨rfl,U.Xu (C6 rfl (E6 _ _ _)) ?_⟩)
  (refine U.A0 (BS (HC 4) (xs:=[x]) (by simp) hf f1 s1 (by show s1.length+14*(wE 4 x).length≤_;omega)) ?_;rintro _ _ ⟨⟨f2,s2⟩,h,w2⟩;cases h;have lw2:=Wr.len w2;(try simp only [Xx,Xw,Xy] at lw2);refine⟨rfl,U.Xu rfl ?_⟩)
  exact U.ret ⟨(f2,s2),rfl,w1.app w2⟩
theorem Ws {nm:Zt}{es fs:List D}(hn:gw nm)(hl:es.length=0∨es.length=2∨es.length=4)(he:∀ e∈es,vH 4 e)(hl2:fs.length≤1)(hf:∀ e∈fs,vH 4 e)(f:Bool)(s:Zt)
  (hb:s.length+14*(mM (es.take 2)++([(1,nm)]++(mM (es.drop 2)++Ow fs)):List Tk).length≤68000000000):U (fun n=>fX n (E9 s) f es nm fs) (fun r=>∃ st:Bool×Zt,r=(true,[.bool st.1,.Z 1 (E9 st.2)])∧Wr (f,s) st (mM (es.take 2)++([(1,nm)]++(mM (es.drop 2)++Ow fs)))):=by
 refine G4 (fun n=>fX.eq_1 n _ _ _ _ _) ?_
 simp only [Xx,Xw,Xy] at hb
 have b1:=RF (es:=es.take 2) (by rw [Zc];omega) fun e h=>he e (List.mem_of_mem_take h)
 have b2:=RF (es:=es.drop 2) (by rw [Zs];omega) fun e h=>he e (List.mem_of_mem_drop h)
 have e1:(es.drop 0).take ((min 2 (es.length:Int)).toNat-0)=es.take 2:=by
  rw [List.drop_zero,Nat.sub_zero]
  rcases hl with h|h|h<;>rw [h]
  ·rw [Zh.1 h];rfl
  ·rfl
  ·rfl
 have e2:(es.drop 2).take ((es.length:Int).toNat-2)=es.drop 2:=List.take_of_length_le (by rw [Zs,Zf];exact Yj _)
 rw [e1,e2]
 refine U.Xu (by rcases hl with h|h|h<;>rw [h]<;>rfl) ?_
 (refine U.A0 (b1 f s (by omega)) ?_;rintro _ _ ⟨⟨f1,s1⟩,h,w1⟩;cases h;have lw1:=Wr.len w1;(try simp only [Xx,Xw,Xy] at lw1);refine⟨rfl,U.Xu rfl ?_⟩)
 (refine U.A0 ((E7 (ws:=[(1,nm)]) (H9 hn (C5 rfl)) (by simp) f1 s1 (by simp only [Xw,Xy];omega))) ?_;rintro _ _ ⟨⟨f2,s2⟩,h,w2⟩;cases h;have lw2:=Wr.len w2;(try simp only [Xx,Xw,Xy] at lw2);refine⟨rfl,U.Xu (C6 rfl (E6 _ _ _)) ?_⟩)
 refine U.Xv (fun h=>?_) fun h=>?_
 ·have h:=Zj h
  refine U.Xu (by rw [Zi (show (2:Int)≤es.length by omega),Zi (Int.le_refl _)];rfl) ?_
  (refine U.A0 (b2 f2 s2 (by omega)) ?_;rintro _ _ ⟨⟨f3,s3⟩,h,w3⟩;cases h;have lw3:=Wr.len w3;(try simp only [Xx,Xw,Xy] at lw3);refine⟨rfl,U.Xu rfl ?_⟩)
  exact (Un hl2 hf f3 s3 (by omega)).mono fun r ⟨st,h1,h2⟩=>⟨st,h1,w1.app (w2.app (w3.app h2))⟩
 ·have h:=Zl h
  have e3:mM (es.drop 2)=[]:=by rw [Yz (by omega)];rfl
  refine (Un hl2 hf f2 s2 (by omega)).mono fun r ⟨st,h1,h2⟩=>⟨st,h1,?_⟩
  rw [e3]
  exact w1.app (w2.app h2)
theorem Ud {fs fs':List D}(h:Rl (OE 4) fs fs'):Ow fs=Ow fs':=by
 obtain⟨hl,hr⟩:=h
 match fs,fs',hl,hr with
 |[],[],_,_=>rfl
 |x::_,y::_,_,hr=>
  show [(3,[61])]++wE 4 x=[(3,[61])]++wE 4 y
  rw [show wE 4 x=wE 4 y from CG (hr 0 (by simp) (by simp))]
theorem Up {T:NT}(hT:∀ p∈T,p.1∈vJ){m:Nat}{x y:D}(h:xN T x)(h':OI m x y):Pr (fun n=>U4 n (C0 B0 y)) (hU x):=by
 rw [SM h']
 obtain⟨nm,ty,q,fl,sg,es,fs,rfl,hn,ht,_,_,hl,hf1,he,hf⟩:=h
 obtain⟨m',k',i,j,l,nm',ty',sg',es2,fs2,bs,its,els,ps,qs,es',fs',bs',its',els',ps',qs',_,e,rfl,hE,hF,_⟩:=tO h'
 cases e
 have he:=GR hE
 have hf:=GR hF
 have le:=hE.2.1
 have lf:=hF.2.1
 have hl2:fs.length≤1:=by rcases hf1 with rfl|⟨_,h,_⟩;exact Yo _;omega
 have h12:=dU (T:=Z7) rfl hn
 have hty:ty∈vJ:=hT _ ht
 obtain⟨es1,es2,es3⟩:=XM hty
 intro f s hb
 have eW:hU (I 1 nm ty sg es fs [] [] [] [] [])=Kl ty++((bif sg&&!(ty==eZ) then [(1,lD)] else [])++(mM (es'.take 2)++([(1,nm)]++(mM (es'.drop 2)++Ow fs')))):=by
  rw [← Hf (hE.2.take 2),← Hf (hE.2.drop 2),← Ud hF.2];rfl
 rw [eW] at hb ⊢
 have N:=fun f s hb=>Ws (nm:=nm) h12 (by rw [← le];exact hl) he (by rw [← lf];exact hl2) hf f s hb
 generalize (mM (es'.take 2)++([(1,nm)]++(mM (es'.drop 2)++Ow fs')):List Tk)=R at hb N ⊢
 refine U.eq (fun n=>AZ n 1 i j l nm ty sg es' fs' bs' its' els' ps' qs' f (E9 s)) (U.A0 (Kg hty) ?_)
 intro _ _ h;cases h
 refine⟨rfl,U.Xu rfl ?_⟩
 simp only [Xx] at hb
 (refine U.A0 (E7 (ws:=Kl ty) es2 (by omega) f s (by omega)) ?_;rintro _ _ ⟨⟨f1,s1⟩,h,w1⟩;cases h;have lw1:=Wr.len w1;(try simp only [Xx,Xw,Xy] at lw1);refine⟨rfl,U.Xu (C6 rfl (E6 _ _ _)) ?_⟩)
 have J:∀ g:Bool,g=(sg&&!(ty==eZ))→U (fun n=>fW n g [.bool f1,.Z 1 (E9 s1)] es' nm fs') (fun r=>∃ st:Bool×Zt,r=(true,[.bool st.1,.Z 1 (E9 st.2)])∧Wr (f,s) st (Kl ty++((bif sg&&!(ty==eZ) then [(1,lD)] else [])++R))):=by
  intro g hg
  refine G4 (fun n=>fW.eq_1 n _ _ _ _ _) ?_
  rw [← hg] at hb ⊢
  cases g with
  |true=>
   simp only [cond_true,Xw,Xy] at hb
   refine U.Xu rfl ?_
   (refine U.A0 ((E7 (ws:=[(1,lD)]) (C5 rfl) (by decide) f1 s1 (by simp only [Xw,Xy];omega))) ?_;rintro _ _ ⟨⟨f2,s2⟩,h,w2⟩;cases h;have lw2:=Wr.len w2;(try simp only [Xx,Xw,Xy] at lw2);refine⟨rfl,U.Xu (C6 rfl (E6 _ _ _)) ?_⟩)
   exact (N f2 s2 (by omega)).mono fun r ⟨st,h1,h2⟩=>⟨st,h1,w1.app (w2.app h2)⟩
  |false=>
   simp only [cond_false,Xy] at hb
   exact U.no rfl ((N f1 s1 (by omega)).mono fun r ⟨st,h1,h2⟩=>⟨st,h1,w1.app h2⟩)
 cases sg with
 |true=>exact U.Xu rfl (J _ rfl)
 |false=>exact U.no rfl (J _ rfl)
theorem Io (w:D→List Tk):∀ (b a:List D),(lW w a).length≤(lW w (a++b)).length
 |[],a=>by rw [Za];exact Yj _
 |x::b,a=>by
  have h:=Io w b (a++[x])
  rw [RZ,Xx,Yl] at h
  exact Nat.le_trans (Nat.le_add_right _ _) h
theorem TD {Q:Bool×List D→Prop}{xs:List D}{w:D→List Tk}{T:Int→Bool→Zt→Nat→Out}{f:Bool}{s:Zt}(hl:xs.length≤1000)(hb:s.length+14*(lW w xs).length≤68000000000)
  (step:∀ (j:Nat) (f:Bool) (s:Zt) (h:j<xs.length),s.length+14*((bif j==0 then [] else [(3,[44])])++w xs[j]:List Tk).length≤68000000000→(∀ f1 s1,Wr (f,s) (f1,s1) ((bif j==0 then [] else [(3,[44])])++w xs[j])→U (T (IntKind.i64.wrap ((j:Int)+1)) f1 s1) Q)→U (T (j:Int) f s) Q)
  (fin:∀ f1 s1,Wr (f,s) (f1,s1) (lW w xs)→U (T (xs.length:Int) f1 s1) Q):U (T 0 f s) Q:=by
 have aux:∀ (m j:Nat) (f1:Bool) (s1:Zt),xs.length-j=m→j≤xs.length→Wr (f,s) (f1,s1) (lW w (xs.take j))→U (T (j:Int) f1 s1) Q:=by
  intro m
  induction m with
  |zero=>
   intro j f1 s1 hm hj hw
   have:j=xs.length:=by omega
   subst this
   rw [List.take_length] at hw
   exact fin f1 s1 hw
  |succ m ih=>
   intro j f1 s1 hm hj hw
   have hlt:j<xs.length:=by omega
   have e0:(xs.take j).isEmpty=(j==0):=by
    cases j with
    |zero=>rfl
    |succ j=>
     cases xs with
     |nil=>simp at hlt
     |cons y r=>rfl
   have e:lW w (xs.take (j+1))=lW w (xs.take j)++((bif j==0 then [] else [(3,[44])])++w xs[j]):=by
    rw [List.take_add_one,Ym hlt,Option.toList_some,RZ,e0]
   have le:=Io w (xs.drop (j+1)) (xs.take (j+1))
   rw [List.take_append_drop,e,Xx] at le
   have l0:=hw.len
   refine step j f1 s1 hlt (by omega) fun f2 s2 h2=>?_
   rw [H7 (by omega)]
   exact ih (j+1) f2 s2 (by omega) (by omega) (by rw [e];exact hw.app h2)
 exact aux xs.length 0 f s rfl (Yo _) (Wr.nil _)
theorem Hn {xs ys:List D}(hn:xs.length≤10)(h:∀ x∈xs,xC x)(hR:Rl OC xs ys):Pr (fun n=>S8 n (.Z 5 ys)) (mR xs):=by
 have el:=hR.1
 intro f s hb
 (replace hb:s.length+14*([(3,[40])]++(lW cW xs++[(3,[41])]):List Tk).length≤68000000000:=hb;simp only [Xx,Xw,Xy] at hb)
 refine U.eq (fun n=>vT n _ _ _) ?_
 (refine U.A0 ((E7 (ws:=[(3,[40])]) (C5 rfl) (by decide) f s (by simp only [Xw,Xy];omega))) ?_;rintro _ _ ⟨⟨f0,s0⟩,h,w1⟩;cases h;have lw1:=Wr.len w1;(try simp only [Xx,Xw,Xy] at lw1);refine⟨rfl,U.Xu (C6 rfl (E6 _ _ _)) ?_⟩)
 refine U.D4 (Q:=fun r=>∃ st:Bool×Zt,r=(false,[.Z 5 ys,.int .i64 (ys.length:Int),.int .i64 (ys.length:Int),.bool st.1,.Z 1 (E9 st.2)])∧Wr (f0,s0) st (lW cW xs)) ?_ (fun ds h=>by obtain⟨_,h,_⟩:=h;cases h) fun ds h=>?_
 ·refine TD (xs:=xs) (w:=cW) (T:=fun j f s n=>N4 n (.Z 5 ys) (ys.length:Int) j (.bool f) (.Z 1 (E9 s))) (by omega) (by show s0.length+_≤_;omega) (fun j f s hj hb K=>?_) fun f2 s2 W=>?_
  ·have hj':j<ys.length:=by omega
   obtain⟨nm,es,e,hnm,hle,hes⟩:=h xs[j] (Yr hj)
   obtain⟨nm2,i1,j1,l1,es2,es3,e2,ey,hE⟩:=hR.2 j hj hj'
   have e3:=e.symm.trans e2
   cases e3
   have hes:=GR hE
   have lle:=hE.2.1
   have h12:=dU (T:=Z7) rfl hnm
   have eC:cW xs[j]=[(3,[46]),(1,nm),(3,[40])]++(lW (wE 4) es3++[(3,[41])]):=by rw [e,← On hE];rfl
   rw [eC] at hb K
   have J:∀ (f1:Bool) (s1:Zt) (u:List Tk),Wr (f,s) (f1,s1) u→s1.length+14*([(3,[46]),(1,nm),(3,[40])]++(lW (wE 4) es3++[(3,[41])]):List Tk).length≤68000000000→(∀ f2 s2,Wr (f,s) (f2,s2) (u++([(3,[46]),(1,nm),(3,[40])]++(lW (wE 4) es3++[(3,[41])])))→U (fun n=>N4 n (.Z 5 ys) (ys.length:Int) (.int .i64 (IntKind.i64.wrap ((j:Int)+1))) (.bool f2) (.Z 1 (E9 s2))) fun r=>∃ st:Bool×Zt,r=(false,[.Z 5 ys,.int .i64 (ys.length:Int),.int .i64 (ys.length:Int),.bool st.1,.Z 1 (E9 st.2)])∧Wr (f0,s0) st (lW cW xs))→
     U (fun n=>bT n (E9 s1) f1 ys (j:Int) (ys.length:Int)) fun r=>∃ st:Bool×Zt,r=(false,[.Z 5 ys,.int .i64 (ys.length:Int),.int .i64 (ys.length:Int),.bool st.1,.Z 1 (E9 st.2)])∧Wr (f0,s0) st (lW cW xs):=by
    intro f1 s1 u hu hb K
    simp only [Xx,Xw,Xy] at hb
    refine G4 (fun n=>bT.eq_1 n _ _ _ _ _) ?_
    rw [X7 hj',ey]
    (refine U.A0 ((E7 (ws:=[(3,[46]),(1,nm),(3,[40])]) (H9 (by decide) (H9 h12 (C5 rfl))) (by simp) f1 s1 (by simp only [Xw,Xy];omega))) ?_;rintro _ _ ⟨⟨f2,s2⟩,h,w2⟩;cases h;have lw2:=Wr.len w2;(try simp only [Xx,Xw,Xy] at lw2);refine⟨rfl,U.Xu (C6 rfl (E6 _ _ _)) ?_⟩)
    (refine U.A0 (BS (HC 4) (xs:=es3) (by omega) hes f2 s2 (by omega)) ?_;rintro _ _ ⟨⟨f3,s3⟩,h,w3⟩;cases h;have lw3:=Wr.len w3;(try simp only [Xx,Xw,Xy] at lw3);refine⟨rfl,U.Xu rfl ?_⟩)
    (refine U.A0 ((E7 (ws:=[(3,[41])]) (C5 rfl) (by decide) f3 s3 (by simp only [Xw,Xy];omega))) ?_;rintro _ _ ⟨⟨f4,s4⟩,h,w4⟩;cases h;have lw4:=Wr.len w4;(try simp only [Xx,Xw,Xy] at lw4);refine⟨rfl,U.Xu (C6 rfl (E6 _ _ _)) ?_⟩)
    exact K f4 s4 (hu.app (w2.app (w3.app w4)))
   refine U.eq (fun n=>kQ n _ _ _ _ _) (U.Xu (Zi (by omega)) (U.Xu (G9 hj') (U.Xu (by rw [X7 hj',ey];rfl) (U.Xv (fun h0=>?_) fun h0=>?_))))
   ·have h0:=Zj h0
    rw [show (j==0)=false from Zn.2 (by omega)] at hb K
    have hb2:s.length+14*(1+([(3,[46]),(1,nm),(3,[40])]++(lW (wE 4) es3++[(3,[41])]):List Tk).length)≤68000000000:=by
     rw [cond_false,Xx] at hb;simpa only [Xw,Xy,Yp] using hb
    (refine U.A0 ((E7 (ws:=[(3,[44])]) (C5 rfl) (by decide) f s (by simp only [Xw,Xy];omega))) ?_;rintro _ _ ⟨⟨f1,s1⟩,h,w1⟩;cases h;have lw1:=Wr.len w1;(try simp only [Xx,Xw,Xy] at lw1);refine⟨rfl,U.Xu (C6 rfl (E6 _ _ _)) ?_⟩)
    exact J f1 s1 _ w1 (by omega) K
   ·have h0:=Zl h0
    have:j=0:=by omega
    subst this
    exact J f s [] (Wr.nil _) hb K
  ·exact U.eq (fun n=>kQ n _ _ _ _ _) (U.no (Zk (by omega)) (U.ret ⟨(f2,s2),by rw [el],W⟩))
 ·obtain⟨⟨f2,s2⟩,h,w2⟩:=h
  cases h
  have l2:=w2.len
  refine U.Xu rfl ?_
  (refine U.A0 ((E7 (ws:=[(3,[41])]) (C5 rfl) (by decide) f2 s2 (by simp only [Xw,Xy];omega))) ?_;rintro _ _ ⟨⟨f3,s3⟩,h,w3⟩;cases h;have lw3:=Wr.len w3;(try simp only [Xx,Xw,Xy] at lw3);refine⟨rfl,U.Xu (C6 rfl (E6 _ _ _)) ?_⟩)
  exact U.ret ⟨(f3,s3),rfl,w1.app (w2.app w3)⟩
section
theorem YT {w:D→List Tk}{xs ys:List D}(el:xs.length=ys.length)(hn:xs.length≤1000)(h:∀ (j:Nat) (hj:j<xs.length) (hj':j<ys.length),Pr (fun n=>U7 n (C0 B0 ys[j])) (w xs[j])∧(D7 B0&&J3 B0 ys[j])=true):Pr (fun n=>I0 n (.Z 14 ys)) (xs.flatMap w):=by
 intro f0 s0 hb
 refine U.eq (fun n=>vU n _ _ _) (U.D4 (Q:=fun r=>∃ st:Bool×Zt,r=(false,[.Z 14 ys,.int .i64 (ys.length:Int),.int .i64 (ys.length:Int),.bool st.1,.Z 1 (E9 st.2)])∧Wr (f0,s0) st (xs.flatMap w)) ?_ (fun ds h=>by obtain⟨_,h,_⟩:=h;cases h) fun ds h=>?_)
 ·refine TE (xs:=xs) (w:=w) (T:=fun j f s n=>P8 n (.Z 14 ys) (ys.length:Int) j (.bool f) (.Z 1 (E9 s))) (by omega) (by show s0.length+_≤_;omega) (fun j f s hj hb K=>?_) fun f2 s2 W=>?_
  ·have hj':j<ys.length:=by omega
   obtain⟨p1,ok⟩:=h j hj hj'
   refine U.eq (fun n=>kR n _ _ _ _ _) (U.Xu (Zi (by omega)) (U.Xu (G9 hj') ?_))
   rw [X7 hj']
   refine U.Xu ok ?_
   (refine U.A0 (p1 f s hb) ?_;rintro _ _ ⟨⟨f2,s2⟩,h,w2⟩;cases h;have lw2:=Wr.len w2;(try simp only [Xx,Xw,Xy] at lw2);refine⟨rfl,U.Xu rfl ?_⟩)
   exact K f2 s2 w2
  ·exact U.eq (fun n=>kR n _ _ _ _ _) (U.no (Zk (by omega)) (U.ret ⟨(f2,s2),by rw [el],W⟩))
 ·obtain⟨⟨f2,s2⟩,h,w2⟩:=h
  cases h
  exact U.Xu rfl (U.ret ⟨(f2,s2),rfl,w2⟩)
theorem SG {T:NT}(hT:∀ p∈T,p.1∈vJ){m:Nat}{x y:D}(h:xN T x)(h':OI m x y):Pr (fun n=>U7 n (C0 B0 y)) (hU x++[(3,[59]),nl]):=by
 have hp:=Up hT h h'
 rw [SM h'] at hp ⊢
 obtain⟨nm,ty,sg,es,fs,rfl⟩:=rJ h
 obtain⟨m',k',i,j,l,nm',ty',sg',es2,fs2,bs,its,els,ps,qs,es',fs',bs',its',els',ps',qs',_,e,rfl,_⟩:=tO h'
 cases e
 intro f s hb
 rw [Xx] at hb
 simp only [Xw,Xy] at hb
 refine U.eq (fun n=>P3 n 1 i j l nm ty sg es' fs' bs' its' els' ps' qs' f (E9 s)) (U.Xu rfl ?_)
 (refine U.A0 (hp f s (by omega)) ?_;rintro _ _ ⟨⟨f1,s1⟩,h,w1⟩;cases h;have lw1:=Wr.len w1;(try simp only [Xx,Xw,Xy] at lw1);refine⟨rfl,U.Xu rfl ?_⟩)
 (refine U.A0 ((mE (ws:=[(3,[59])]) (C5 rfl) (by decide) (by decide) f1 s1 (by simp only [Xx,Xw,Xy];omega))) ?_;rintro _ _ ⟨⟨f2,s2⟩,h,w2⟩;cases h;have lw2:=Wr.len w2;(try simp only [Xx,Xw,Xy] at lw2);refine⟨rfl,U.Xu (C6 rfl (E6 _ _ _)) ?_⟩)
 exact U.ret ⟨(f2,s2),rfl,w1.app w2⟩
theorem Jr {nm ty:Zt}{x:D}(hn:gw nm)(ht:gw ty)(hx:vH 4 x)(k i j l:Int)(sg:Bool)(fs bs its els ps qs:List D):Pr (fun n=>O4 n (AJ k i j l nm ty sg [x] fs bs its els ps qs)) ([(1,ty),(1,nm),(3,[61])]++wE 4 x):=by
 intro f s hb
 simp only [Xx,Xw,Xy] at hb
 refine U.eq (fun n=>vV n k i j l nm ty sg [x] fs bs its els ps qs f (E9 s)) ?_
 (refine U.A0 ((E7 (ws:=[(1,ty),(1,nm),(3,[61])]) (H9 ht (H9 hn (C5 rfl))) (by simp) f s (by simp only [Xw,Xy];omega))) ?_;rintro _ _ ⟨⟨f1,s1⟩,h,w1⟩;cases h;have lw1:=Wr.len w1;(try simp only [Xx,Xw,Xy] at lw1);refine⟨rfl,U.Xu (C6 rfl (E6 _ _ _)) ?_⟩)
 (refine U.A0 (BS (HC 4) (xs:=[x]) (by simp) (fun e h=>by rw [Yn.1 h];exact hx) f1 s1 (by show s1.length+14*(wE 4 x).length≤_;omega)) ?_;rintro _ _ ⟨⟨f2,s2⟩,h,w2⟩;cases h;have lw2:=Wr.len w2;(try simp only [Xx,Xw,Xy] at lw2);refine⟨rfl,U.Xu rfl ?_⟩)
 exact U.ret ⟨(f2,s2),rfl,w1.app w2⟩
theorem ZR {x y:D}(h:qL 4 x)(h':OS 4 x y):Pr (fun n=>D3 n (C0 B9 y)) (yS 4 x):=by rw [SZ h'];exact Uz 4 x y h h'
theorem Ml {x y:D}(h:isLeft x)(hO:OE 4 x y):aW (wE 4) y=wE 4 y:=by
 obtain⟨k,t,ar,rfl,_,h,_⟩:=h
 have:=Om hO
 unfold aW
 rw [← this]
 rcases h with ⟨rfl,_⟩|⟨rfl,_⟩|⟨rfl,_⟩<;>rfl
def TX (w:D→List Tk)(g:D):List Tk:=[(1,Q6),(3,[58]),(1,(g.at_ 1).s),nl]++((g.at_ 7).l.flatMap w++[(1,dD),nl])
def Tf (q:D):List Tk:=hU q++[(3,[59]),nl]
def Xs (w:D→List Tk)(k:Int)(nm ty:Zt)(sg:Bool)(es fs bs its els ps qs:List D):List Tk:=
 bif k==1 then nW nm ty sg es fs++[(3,[59]),nl]
 else bif k==2 then [(1,ty),(1,nm),(3,[61])]++(wE 4 (x0 es)++[(3,[59]),nl])
 else bif k==3 then [(1,IM),(1,nm),(3,[59]),nl]
 else bif k==4 then [(1,pI)]++(wE 4 (x0 es)++([(3,[61])]++(wE 4 (x1 es)++[(3,[59]),nl])))
 else bif k==5 then [(1,mD),(3,[64]),(3,[42])]++yS 4 (x0 bs)
 else bif k==6 then [(1,mD),(3,[64]),(3,[40]),(1,GI),(1,nm),(3,[41])]++yS 4 (x0 bs)
 else bif k==7 then [(1,BI)]++((bif sg then [(1,lD)] else [])++(mM es++([(1,nm),(3,[59]),nl]++(its.flatMap Tf++(yS 4 (x0 bs)++[(1,lM),nl])))))
 else bif k==8 then [(1,ty)]++((bif ps.isEmpty then [] else [(3,[35])]++mR ps)++([(1,nm)]++(mR qs++[(3,[59]),nl])))
 else bif k==9 then Z9 nm es++its.flatMap (TX w)
 else [(1,vI)]++(pW (x0 es)++(its.flatMap (TX w)++(bif els.isEmpty then [] else [(1,cT)]++els.flatMap (TX w))))
def yI:Nat→D→List Tk
 |0,_=>[]
 |n+1,x=>Xs (yI n) (x.at_ 0).i (x.at_ 1).s (x.at_ 2).s (x.at_ 3).b (x.at_ 4).l (x.at_ 5).l (x.at_ 6).l (x.at_ 7).l (x.at_ 8).l (x.at_ 9).l (x.at_ 10).l
section
variable {d:Nat} (ih:∀ x y m,xI d x→OI m x y→Pr (fun n=>U7 n (C0 B0 y)) (yI d x))
include ih
theorem Qy {its its':List D}{m:Nat}(hl:its.length≤10)(hi:∀ i∈its,xI d i)(hR:Rl (OI m) its its'):Pr (fun n=>I0 n (.Z 14 its')) (its.flatMap (yI d)):=
 YT hR.1 (by omega) fun j hj hj'=>⟨ih _ _ m (hi _ (Yr hj)) (hR.2 j hj hj'),WQ (hR.2 j hj hj')⟩
theorem YF {t:Zt}{its ys:List D}{m:Nat}(ht:gw t)(hl:its.length≤2)(hi:∀ i∈its,xI d i)(hR:Rl (OI m) [gB t its] ys):Pr (fun n=>O3 n (.Z 14 ys)) ([gB t its].flatMap (TX (yI d))):=by
 obtain⟨y,rfl,hO⟩:=Tg hR
 obtain⟨m',k',i,j,l,nm',ty',sg',es2,fs2,bs,its2,els,ps,qs,es',fs',bs',its',els',ps',qs',_,e,rfl,_,_,_,hI,_⟩:=tO hO
 cases e
 have p1:=Qy ih (by omega) hi hI
 intro f s hb
 have eW:[gB t its].flatMap (TX (yI d))=[(1,Q6),(3,[58]),(1,t),nl]++(its.flatMap (yI d)++[(1,dD),nl]):=by
  show ([(1,Q6),(3,[58]),(1,t),nl]++(its.flatMap (yI d)++[(1,dD),nl]))++[]=_
  rw [Za]
 rw [eW] at hb ⊢
 simp only [Xx,Xw,Xy] at hb
 refine U.eq (fun n=>vS n _ _ _) (U.D4 (Q:=fun r=>∃ st:Bool×Zt,r=(false,[.Z 14 [AJ 11 i j l t [] false es' fs' bs' its' els' ps' qs'],.int .i64 1,.int .i64 1,.bool st.1,.Z 1 (E9 st.2)])∧Wr (f,s) st ([(1,Q6),(3,[58]),(1,t),nl]++(its.flatMap (yI d)++[(1,dD),nl]))) ?_ (fun ds h=>by obtain⟨_,h,_⟩:=h;cases h) fun ds h=>?_)
 ·refine U.eq (fun n=>kP n _ _ _ _ _) (U.Xu rfl (U.Xu rfl (U.Xu rfl ?_)))
  (refine U.A0 ((mE (ws:=[(1,Q6),(3,[58]),(1,t)]) (H9 (by decide) (H9 (by decide) (H9 ht (C5 rfl)))) (by simp) (by simp) f s (by simp only [Xx,Xw,Xy];omega))) ?_;rintro _ _ ⟨⟨f1,s1⟩,h,w1⟩;cases h;have lw1:=Wr.len w1;(try simp only [Xx,Xw,Xy] at lw1);refine⟨rfl,U.Xu (C6 rfl (E6 _ _ _)) ?_⟩)
  (refine U.A0 (p1 f1 s1 (by omega)) ?_;rintro _ _ ⟨⟨f2,s2⟩,h,w2⟩;cases h;have lw2:=Wr.len w2;(try simp only [Xx,Xw,Xy] at lw2);refine⟨rfl,U.Xu rfl ?_⟩)
  (refine U.A0 ((mE (ws:=[(1,dD)]) (C5 rfl) (by decide) (by decide) f2 s2 (by simp only [Xx,Xw,Xy];omega))) ?_;rintro _ _ ⟨⟨f3,s3⟩,h,w3⟩;cases h;have lw3:=Wr.len w3;(try simp only [Xx,Xw,Xy] at lw3);refine⟨rfl,U.Xu (C6 rfl (E6 _ _ _)) ?_⟩)
  exact U.eq (fun n=>kP n _ _ _ _ _) (U.no rfl (U.ret ⟨(f3,s3),rfl,w1.app (w2.app w3)⟩))
 ·obtain⟨⟨f2,s2⟩,h,w2⟩:=h
  cases h
  exact U.Xu rfl (U.ret ⟨(f2,s2),rfl,w2⟩)
end
def Vy (sg:Bool)(nm:Zt)(es its:List D)(x:D):List Tk:=[(1,BI)]++((bif sg then [(1,lD)] else [])++(mM es++([(1,nm),(3,[59]),nl]++(its.flatMap Tf++(yS 4 x++[(1,lM),nl])))))
theorem Dn {T:NT}(hT:∀ p∈T,p.1∈vJ){m:Nat}{i j l:Int}{nm ty:Zt}{sg:Bool}{es fs its els ps qs its' els' ps' qs':List D}{x y:D}(hn:gw nm)(hl:es.length≤2)(he:∀ e∈es,vH 4 e)(hi:its.length≤10)(hx:∀ i∈its,xN T i)(hs:qL 4 x)(hO:OS 4 x y)(hI:Rl (OI m) its its') :
  Pr (fun n=>W4 n (AJ 7 i j l nm ty sg es fs [y] its' els' ps' qs')) (Vy sg nm es its x):=by
 have p1:=RF hl he
 have p2:Pr (fun n=>I0 n (.Z 14 its')) (its.flatMap Tf):=YT hI.1 (by omega) fun j hj hj'=>⟨SG hT (hx _ (Yr hj)) (hI.2 j hj hj'),WQ (hI.2 j hj hj')⟩
 have p3:=ZR hs hO
 intro f s hb
 unfold Vy at hb ⊢
 have J:∀ (f1:Bool) (s1:Zt) (u:List Tk),Wr (f,s) (f1,s1) u→s1.length+14*(mM es++([(1,nm),(3,[59]),nl]++(its.flatMap Tf++(yS 4 x++[(1,lM),nl]))):List Tk).length≤68000000000→U (fun n=>bU n (E9 s1) f1 es nm its' [y]) (fun r=>∃ st:Bool×Zt,r=(true,[.bool st.1,.Z 1 (E9 st.2)])∧Wr (f,s) st (u++(mM es++([(1,nm),(3,[59]),nl]++(its.flatMap Tf++(yS 4 x++[(1,lM),nl])))))):=by
  intro f1 s1 u hu hb
  simp only [Xx,Xw,Xy] at hb
  refine G4 (fun n=>bU.eq_1 n _ _ _ _ _ _) ?_
  (refine U.A0 (p1 f1 s1 (by omega)) ?_;rintro _ _ ⟨⟨f2,s2⟩,h,w2⟩;cases h;have lw2:=Wr.len w2;(try simp only [Xx,Xw,Xy] at lw2);refine⟨rfl,U.Xu rfl ?_⟩)
  (refine U.A0 ((mE (ws:=[(1,nm),(3,[59])]) (H9 hn (C5 rfl)) (by simp) (by simp) f2 s2 (by simp only [Xx,Xw,Xy];omega))) ?_;rintro _ _ ⟨⟨f3,s3⟩,h,w3⟩;cases h;have lw3:=Wr.len w3;(try simp only [Xx,Xw,Xy] at lw3);refine⟨rfl,U.Xu (C6 rfl (E6 _ _ _)) ?_⟩)
  (refine U.A0 (p2 f3 s3 (by omega)) ?_;rintro _ _ ⟨⟨f4,s4⟩,h,w4⟩;cases h;have lw4:=Wr.len w4;(try simp only [Xx,Xw,Xy] at lw4);refine⟨rfl,U.Xu rfl ?_⟩)
  refine U.Xu rfl (U.Xu (EH hO) ?_)
  (refine U.A0 (p3 f4 s4 (by omega)) ?_;rintro _ _ ⟨⟨f5,s5⟩,h,w5⟩;cases h;have lw5:=Wr.len w5;(try simp only [Xx,Xw,Xy] at lw5);refine⟨rfl,U.Xu rfl ?_⟩)
  (refine U.A0 ((mE (ws:=[(1,lM)]) (C5 rfl) (by decide) (by decide) f5 s5 (by simp only [Xx,Xw,Xy];omega))) ?_;rintro _ _ ⟨⟨f6,s6⟩,h,w6⟩;cases h;have lw6:=Wr.len w6;(try simp only [Xx,Xw,Xy] at lw6);refine⟨rfl,U.Xu (C6 rfl (E6 _ _ _)) ?_⟩)
  exact U.ret ⟨(f6,s6),rfl,hu.app (w2.app (w3.app (w4.app (w5.app w6))))⟩
 refine U.eq (fun n=>rW n 7 i j l nm ty sg es fs [y] its' els' ps' qs' f (E9 s)) ?_
 generalize (mM es++([(1,nm),(3,[59]),nl]++(its.flatMap Tf++(yS 4 x++[(1,lM),nl]))):List Tk)=R at hb J ⊢
 cases sg with
 |true=>
  simp only [cond_true,Xx,Xw,Xy] at hb
  (refine U.A0 ((E7 (ws:=[(1,BI)]) (C5 rfl) (by decide) f s (by simp only [Xw,Xy];omega))) ?_;rintro _ _ ⟨⟨f1,s1⟩,h,w1⟩;cases h;have lw1:=Wr.len w1;(try simp only [Xx,Xw,Xy] at lw1);refine⟨rfl,U.Xu (C6 rfl (E6 _ _ _)) ?_⟩)
  refine U.Xu rfl ?_
  (refine U.A0 ((E7 (ws:=[(1,lD)]) (C5 rfl) (by decide) f1 s1 (by simp only [Xw,Xy];omega))) ?_;rintro _ _ ⟨⟨f2,s2⟩,h,w2⟩;cases h;have lw2:=Wr.len w2;(try simp only [Xx,Xw,Xy] at lw2);refine⟨rfl,U.Xu (C6 rfl (E6 _ _ _)) ?_⟩)
  refine (J f2 s2 _ (w1.app w2) (by omega)).mono fun r ⟨st,h1,h2⟩=>⟨st,h1,?_⟩
  rw [Yl] at h2
  exact h2
 |false=>
  simp only [cond_false,Xx,Xw,Xy] at hb
  (refine U.A0 ((E7 (ws:=[(1,BI)]) (C5 rfl) (by decide) f s (by simp only [Xw,Xy];omega))) ?_;rintro _ _ ⟨⟨f1,s1⟩,h,w1⟩;cases h;have lw1:=Wr.len w1;(try simp only [Xx,Xw,Xy] at lw1);refine⟨rfl,U.Xu (C6 rfl (E6 _ _ _)) ?_⟩)
  exact U.no rfl (J f1 s1 _ w1 (by omega))
end
theorem Qp (c:UInt8)(hc:gw [c]){k:UInt8}(hk:k.toNat≤8):gw [c,48+k]:=by
 have a:∀ n:Nat,n≤8→(!((48+UInt8.ofNat n)==32)&&!((48+UInt8.ofNat n)==10))=true:=by decide +kernel
 have a:=a _ hk
 rw [UInt8.ofNat_toNat] at a
 have hc:(true&&(true&&((!(c==32)&&!(c==10))&&true)))=true:=hc
 rw [Bool.true_and,Bool.true_and,Bool.and_true] at hc
 show (true&&(true&&((!(c==32)&&!(c==10))&&((!((48+k)==32)&&!((48+k)==10))&&true))))=true
 rw [hc,a];rfl
theorem Ul:∀ (d:Nat) (x y:D) (m:Nat),xI d x→OI m x y→Pr (fun n=>U7 n (C0 B0 y)) (yI d x):=by
 intro d
 induction d with
 |zero=>intro x y m h;exact h.elim
 |succ d ih=>
  intro x y m h h'
  rcases h with (h|h)|⟨nm,e,rfl,hn,he⟩|⟨nm,rfl,hn⟩|⟨l,e,rfl,hlf,he⟩|⟨s0,rfl,hs⟩|⟨s0,rfl,hs⟩|⟨sg,es,its,s0,rfl,hl,he,_,hi,hx,hs⟩|⟨k,ps,qs,rfl,hk,hp,hq,hpc,hqc⟩|⟨es,its,rfl,hl,he,hi,hx⟩|⟨e,its,els,rfl,he,hi,hx,hel⟩
  ·have hp:=SG (T:=sR) (by decide) h h'
   obtain⟨nm,ty,sg,es,fs,rfl⟩:=rJ h
   exact hp
  ·have hp:=SG (T:=GL) (by decide) h h'
   obtain⟨nm,ty,sg,es,fs,rfl⟩:=rJ h
   exact hp
  all_goals
   rw [SM h']
   obtain⟨m',k',i0,j0,l0,nm',ty',sg',es2,fs2,bs2,its2,els2,ps2,qs2,es',fs',bs',its',els',ps',qs',_,e',rfl,hX,hF,hB,hI,hE,hP,hQ⟩:=tO h'
   cases e'
   have hfl:=hF.2.1
  ·have h12:=dU (T:=Z7) rfl hn
   obtain⟨e',rfl,h1,e1⟩:=Cp hX
   have hp:=Jr h12 (ty:=mF) (by decide) h1 2 i0 j0 l0 false fs' bs' its' els' ps' qs'
   intro f s hb
   show U _ fun r=>∃ st:Bool×Zt,r=(true,[.bool st.1,.Z 1 (E9 st.2)])∧Wr (f,s) st ([(1,mF),(1,nm),(3,[61])]++(wE 4 e++[(3,[59]),nl]))
   replace hb:s.length+14*([(1,mF),(1,nm),(3,[61])]++(wE 4 e++[(3,[59]),nl]):List Tk).length≤68000000000:=hb
   rw [e1] at hb ⊢
   simp only [Xx,Xw,Xy] at hb
   refine U.eq (fun n=>P3 n 2 i0 j0 l0 nm mF false [e'] fs' bs' its' els' ps' qs' f (E9 s)) (U.no rfl (U.Xu rfl ?_))
   (refine U.A0 (hp f s (by simp only [Xx,Xw,Xy];omega)) ?_;rintro _ _ ⟨⟨f1,s1⟩,h,w1⟩;cases h;have lw1:=Wr.len w1;(try simp only [Xx,Xw,Xy] at lw1);refine⟨rfl,U.Xu rfl ?_⟩)
   (refine U.A0 ((mE (ws:=[(3,[59])]) (C5 rfl) (by decide) (by decide) f1 s1 (by simp only [Xx,Xw,Xy];omega))) ?_;rintro _ _ ⟨⟨f2,s2⟩,h,w2⟩;cases h;have lw2:=Wr.len w2;(try simp only [Xx,Xw,Xy] at lw2);refine⟨rfl,U.Xu (C6 rfl (E6 _ _ _)) ?_⟩)
   refine U.ret ⟨(f2,s2),rfl,?_⟩
   have W:=w1.app w2
   rw [Yl] at W
   exact W
  ·have h12:=dU (T:=Z7) rfl hn
   intro f s hb
   (replace hb:s.length+14*([(1,IM),(1,nm),(3,[59]),nl]:List Tk).length≤68000000000:=hb;simp only [Xx,Xw,Xy] at hb)
   refine U.eq (fun n=>P3 n 3 i0 j0 l0 nm [] false es' fs' bs' its' els' ps' qs' f (E9 s)) (U.no rfl (U.no rfl (U.Xu rfl ?_)))
   (refine U.A0 ((mE (ws:=[(1,IM),(1,nm),(3,[59])]) (H9 (by decide) (H9 h12 (C5 rfl))) (by simp) (by simp) f s (by simp only [Xx,Xw,Xy];omega))) ?_;rintro _ _ ⟨⟨f1,s1⟩,h,w1⟩;cases h;have lw1:=Wr.len w1;(try simp only [Xx,Xw,Xy] at lw1);refine⟨rfl,U.Xu (C6 rfl (E6 _ _ _)) ?_⟩)
   exact U.ret ⟨(f1,s1),rfl,w1⟩
  ·have hO1:∃ l' e',es'=[l',e']∧OE 4 l l'∧OE 4 e e':=by
    obtain⟨_,hl,hr⟩:=hX
    match es',hl,hr with
    |[l',e'],_,hr=>exact⟨l',e',rfl,hr 0 (by simp) (by simp),hr 1 (by simp) (by simp)⟩
   obtain⟨l',e',rfl,g1,g2⟩:=hO1
   have hl4:=Lg g1
   have he4:=Lg g2
   have e1:=CG g1
   have e2:=CG g2
   have p1:=UO (HC 4) hl4
   rw [Ml hlf g1] at p1
   have p2:=PG he4
   intro f s hb
   show U _ fun r=>∃ st:Bool×Zt,r=(true,[.bool st.1,.Z 1 (E9 st.2)])∧Wr (f,s) st ([(1,pI)]++(wE 4 l++([(3,[61])]++(wE 4 e++[(3,[59]),nl]))))
   replace hb:s.length+14*([(1,pI)]++(wE 4 l++([(3,[61])]++(wE 4 e++[(3,[59]),nl]))):List Tk).length≤68000000000:=hb
   rw [e1,e2] at hb ⊢
   simp only [Xx,Xw,Xy] at hb
   refine U.eq (fun n=>P3 n 4 i0 j0 l0 [] [] false [l',e'] fs' bs' its' els' ps' qs' f (E9 s)) (U.no rfl (U.no rfl (U.no rfl (U.Xu rfl ?_))))
   (refine U.A0 ((E7 (ws:=[(1,pI)]) (C5 rfl) (by decide) f s (by simp only [Xw,Xy];omega))) ?_;rintro _ _ ⟨⟨f1,s1⟩,h,w1⟩;cases h;have lw1:=Wr.len w1;(try simp only [Xx,Xw,Xy] at lw1);refine⟨rfl,U.Xu (C6 rfl (E6 _ _ _)) ?_⟩)
   refine U.Xu rfl ?_
   (refine U.A0 (p1 f1 s1 (by omega)) ?_;rintro _ _ ⟨⟨f2,s2⟩,h,w2⟩;cases h;have lw2:=Wr.len w2;(try simp only [Xx,Xw,Xy] at lw2);refine⟨rfl,U.Xu rfl ?_⟩)
   (refine U.A0 ((E7 (ws:=[(3,[61])]) (C5 rfl) (by decide) f2 s2 (by simp only [Xw,Xy];omega))) ?_;rintro _ _ ⟨⟨f3,s3⟩,h,w3⟩;cases h;have lw3:=Wr.len w3;(try simp only [Xx,Xw,Xy] at lw3);refine⟨rfl,U.Xu (C6 rfl (E6 _ _ _)) ?_⟩)
   refine U.Xu rfl (U.Xu (IQ he4) ?_)
   (refine U.A0 (p2 f3 s3 (by omega)) ?_;rintro _ _ ⟨⟨f4,s4⟩,h,w4⟩;cases h;have lw4:=Wr.len w4;(try simp only [Xx,Xw,Xy] at lw4);refine⟨rfl,U.Xu rfl ?_⟩)
   (refine U.A0 ((mE (ws:=[(3,[59])]) (C5 rfl) (by decide) (by decide) f4 s4 (by simp only [Xx,Xw,Xy];omega))) ?_;rintro _ _ ⟨⟨f5,s5⟩,h,w5⟩;cases h;have lw5:=Wr.len w5;(try simp only [Xx,Xw,Xy] at lw5);refine⟨rfl,U.Xu (C6 rfl (E6 _ _ _)) ?_⟩)
   exact U.ret ⟨(f5,s5),rfl,w1.app (w2.app (w3.app (w4.app w5)))⟩
  ·obtain⟨y0,rfl,hO⟩:=Tg hB
   have p1:=ZR hs hO
   intro f s hb
   (replace hb:s.length+14*([(1,mD),(3,[64]),(3,[42])]++yS 4 s0:List Tk).length≤68000000000:=hb;simp only [Xx,Xw,Xy] at hb)
   refine U.eq (fun n=>P3 n 5 i0 j0 l0 [] [] false es' fs' [y0] its' els' ps' qs' f (E9 s)) (U.no rfl (U.no rfl (U.no rfl (U.no rfl (U.Xu rfl ?_)))))
   (refine U.A0 ((E7 (ws:=[(1,mD),(3,[64]),(3,[42])]) (C5 rfl) (by decide) f s (by simp only [Xw,Xy];omega))) ?_;rintro _ _ ⟨⟨f1,s1⟩,h,w1⟩;cases h;have lw1:=Wr.len w1;(try simp only [Xx,Xw,Xy] at lw1);refine⟨rfl,U.Xu (C6 rfl (E6 _ _ _)) ?_⟩)
   refine U.Xu rfl (U.Xu (EH hO) ?_)
   (refine U.A0 (p1 f1 s1 (by omega)) ?_;rintro _ _ ⟨⟨f2,s2⟩,h,w2⟩;cases h;have lw2:=Wr.len w2;(try simp only [Xx,Xw,Xy] at lw2);refine⟨rfl,U.Xu rfl ?_⟩)
   exact U.ret ⟨(f2,s2),rfl,w1.app w2⟩
  ·obtain⟨y0,rfl,hO⟩:=Tg hB
   have p1:=ZR hs hO
   intro f s hb
   (replace hb:s.length+14*([(1,mD),(3,[64]),(3,[40]),(1,GI),(1,wF),(3,[41])]++yS 4 s0:List Tk).length≤68000000000:=hb;simp only [Xx,Xw,Xy] at hb)
   refine U.eq (fun n=>P3 n 6 i0 j0 l0 wF [] false es' fs' [y0] its' els' ps' qs' f (E9 s)) (U.no rfl (U.no rfl (U.no rfl (U.no rfl (U.no rfl (U.Xu rfl ?_))))))
   (refine U.A0 ((E7 (ws:=[(1,mD),(3,[64]),(3,[40]),(1,GI),(1,wF),(3,[41])]) (C5 rfl) (by decide) f s (by simp only [Xw,Xy];omega))) ?_;rintro _ _ ⟨⟨f1,s1⟩,h,w1⟩;cases h;have lw1:=Wr.len w1;(try simp only [Xx,Xw,Xy] at lw1);refine⟨rfl,U.Xu (C6 rfl (E6 _ _ _)) ?_⟩)
   refine U.Xu rfl (U.Xu (EH hO) ?_)
   (refine U.A0 (p1 f1 s1 (by omega)) ?_;rintro _ _ ⟨⟨f2,s2⟩,h,w2⟩;cases h;have lw2:=Wr.len w2;(try simp only [Xx,Xw,Xy] at lw2);refine⟨rfl,U.Xu rfl ?_⟩)
   exact U.ret ⟨(f2,s2),rfl,w1.app w2⟩
  ·obtain⟨y0,rfl,hO⟩:=Tg hB
   have p1:=Dn (T:=zH) (by decide) (nm:=[102]) (ty:=[]) (sg:=sg) (es:=es') (fs:=fs') (els:=[]) (ps:=[]) (qs:=[]) (i:=i0) (j:=j0) (l:=l0) (els':=els') (ps':=ps') (qs':=qs') (by decide) (by have:=hX.2.1;omega) (GR hX) (by omega) hx hs hO hI
   intro f s hb
   have eW:yI (d+1) (I 7 [102] [] sg es [] [s0] its [] [] [])=Vy sg [102] es' its s0:=by
    unfold Vy;rw [← Hf hX.2];rfl
   rw [eW] at hb ⊢
   refine U.eq (fun n=>P3 n 7 i0 j0 l0 [102] [] sg es' fs' [y0] its' els' ps' qs' f (E9 s)) (U.no rfl (U.no rfl (U.no rfl (U.no rfl (U.no rfl (U.no rfl (U.Xu rfl ?_)))))))
   (refine U.A0 (p1 f s hb) ?_;rintro _ _ ⟨⟨f1,s1⟩,h,w1⟩;cases h;have lw1:=Wr.len w1;(try simp only [Xx,Xw,Xy] at lw1);refine⟨rfl,U.Xu rfl ?_⟩)
   exact U.ret ⟨(f1,s1),rfl,w1⟩
  ·have cp:=Hn (by omega) hpc hP
   have cq:=Hn (by omega) hqc hQ
   intro f s hb
   have eW:yI (d+1) (I 8 [117,48+k] sP false [] [] [] [] [] ps qs)=[(1,sP)]++((bif ps.isEmpty then [] else [(3,[35])]++mR ps)++([(1,[117,48+k])]++(mR qs++[(3,[59]),nl]))):=rfl
   rw [eW] at hb ⊢
   have J:∀ (f1:Bool) (s1:Zt) (u:List Tk),Wr (f,s) (f1,s1) u→s1.length+14*([(1,[117,48+k])]++(mR qs++[(3,[59]),nl]):List Tk).length≤68000000000→U (fun n=>fA n (E9 s1) f1 [117,48+k] qs') (fun r=>∃ st:Bool×Zt,r=(true,[.bool st.1,.Z 1 (E9 st.2)])∧Wr (f,s) st (u++([(1,[117,48+k])]++(mR qs++[(3,[59]),nl])))):=by
    intro f1 s1 u hu hb
    simp only [Xx,Xw,Xy] at hb
    refine G4 (fun n=>fA.eq_1 n _ _ _ _) ?_
    (refine U.A0 ((E7 (ws:=[(1,[117,48+k])]) (H9 (Qp 117 (by decide) hk) (C5 rfl)) (by simp) f1 s1 (by simp only [Xw,Xy];omega))) ?_;rintro _ _ ⟨⟨f2,s2⟩,h,w2⟩;cases h;have lw2:=Wr.len w2;(try simp only [Xx,Xw,Xy] at lw2);refine⟨rfl,U.Xu (C6 rfl (E6 _ _ _)) ?_⟩)
    (refine U.A0 (cq f2 s2 (by omega)) ?_;rintro _ _ ⟨⟨f3,s3⟩,h,w3⟩;cases h;have lw3:=Wr.len w3;(try simp only [Xx,Xw,Xy] at lw3);refine⟨rfl,U.Xu rfl ?_⟩)
    (refine U.A0 ((mE (ws:=[(3,[59])]) (C5 rfl) (by decide) (by decide) f3 s3 (by simp only [Xx,Xw,Xy];omega))) ?_;rintro _ _ ⟨⟨f4,s4⟩,h,w4⟩;cases h;have lw4:=Wr.len w4;(try simp only [Xx,Xw,Xy] at lw4);refine⟨rfl,U.Xu (C6 rfl (E6 _ _ _)) ?_⟩)
    exact U.ret ⟨(f4,s4),rfl,hu.app (w2.app (w3.app w4))⟩
   refine U.eq (fun n=>P3 n 8 i0 j0 l0 [117,48+k] sP false es' fs' bs' its' els' ps' qs' f (E9 s)) (U.no rfl (U.no rfl (U.no rfl (U.no rfl (U.no rfl (U.no rfl (U.no rfl (U.Xu rfl ?_))))))))
   have hb2:s.length+14*(1+((bif ps.isEmpty then [] else [(3,[35])]++mR ps:List Tk).length+([(1,[117,48+k])]++(mR qs++[(3,[59]),nl]):List Tk).length))≤68000000000:=by
    rw [Xx,Xx] at hb;simpa only [Xw,Xy,Yp] using hb
   clear hb
   (refine U.A0 ((E7 (ws:=[(1,sP)]) (C5 rfl) (by decide) f s (by simp only [Xw,Xy];omega))) ?_;rintro _ _ ⟨⟨f1,s1⟩,h,w1⟩;cases h;have lw1:=Wr.len w1;(try simp only [Xx,Xw,Xy] at lw1);refine⟨rfl,U.Xu (C6 rfl (E6 _ _ _)) ?_⟩)
   have el:=hP.1
   refine U.Xv (fun h0=>?_) fun h0=>?_
   ·have h0:=Zj h0
    have:ps.isEmpty=false:=by
     cases ps with
     |nil=>simp at el;omega
     |cons=>rfl
    rw [this] at hb2 ⊢
    simp only [cond_false] at hb2
    rw [Xx] at hb2
    simp only [Xw,Xy] at hb2
    (refine U.A0 ((E7 (ws:=[(3,[35])]) (C5 rfl) (by decide) f1 s1 (by simp only [Xw,Xy];omega))) ?_;rintro _ _ ⟨⟨f2,s2⟩,h,w2⟩;cases h;have lw2:=Wr.len w2;(try simp only [Xx,Xw,Xy] at lw2);refine⟨rfl,U.Xu (C6 rfl (E6 _ _ _)) ?_⟩)
    (refine U.A0 (cp f2 s2 (by omega)) ?_;rintro _ _ ⟨⟨f3,s3⟩,h,w3⟩;cases h;have lw3:=Wr.len w3;(try simp only [Xx,Xw,Xy] at lw3);refine⟨rfl,U.Xu rfl ?_⟩)
    refine (J f3 s3 _ (w1.app (w2.app w3)) (by omega)).mono fun r ⟨st,h1,h2⟩=>⟨st,h1,?_⟩
    simpa using h2
   ·have h0:=Zl h0
    have:ps=[]:=Zh.1 (by omega)
    subst this
    exact J f1 s1 _ w1 (by omega)
  ·have pb:=YF ih (t:=[103]) (by decide) hi hx hI
   match es,hl,he,hX with
   |[a,b,c],_,he,hX=>
    obtain⟨a',b',c',rfl,h1,h2,h3,e1,e2,e3⟩:=Tr hX
    have p1:=Oz (t:=[105]) (by decide) h1 h2 h3
    intro f s hb
    show U _ fun r=>∃ st:Bool×Zt,r=(true,[.bool st.1,.Z 1 (E9 st.2)])∧Wr (f,s) st (Z9 [105] [a,b,c]++[gB [103] its].flatMap (TX (yI d)))
    replace hb:s.length+14*(Z9 [105] [a,b,c]++[gB [103] its].flatMap (TX (yI d)):List Tk).length≤68000000000:=hb
    rw [Bj e1 e2 e3] at hb ⊢
    rw [Xx] at hb
    refine U.eq (fun n=>P3 n 9 i0 j0 l0 [105] [] false [a',b',c'] fs' bs' its' els' ps' qs' f (E9 s)) (U.no rfl (U.no rfl (U.no rfl (U.no rfl (U.no rfl (U.no rfl (U.no rfl (U.no rfl (U.Xu rfl ?_)))))))))
    (refine U.A0 (p1 f s (by omega)) ?_;rintro _ _ ⟨⟨f1,s1⟩,h,w1⟩;cases h;have lw1:=Wr.len w1;(try simp only [Xx,Xw,Xy] at lw1);refine⟨rfl,U.Xu rfl ?_⟩)
    (refine U.A0 (pb f1 s1 (by omega)) ?_;rintro _ _ ⟨⟨f2,s2⟩,h,w2⟩;cases h;have lw2:=Wr.len w2;(try simp only [Xx,Xw,Xy] at lw2);refine⟨rfl,U.Xu rfl ?_⟩)
    exact U.ret ⟨(f2,s2),rfl,w1.app w2⟩
  ·have pb:=YF ih (t:=[116]) (by decide) hi hx hI
   obtain⟨e',rfl,h1,e1⟩:=Cp hX
   have p1:=TB h1
   intro f s hb
   have eW:yI (d+1) (I 10 [] [] false [e] [] [] [gB [116] its] els [] [])=[(1,vI)]++(pW e'++([gB [116] its].flatMap (TX (yI d))++(bif els.isEmpty then [] else [(1,cT)]++els.flatMap (TX (yI d))))):=by
    rw [← Nl e1];rfl
   rw [eW] at hb ⊢
   refine U.eq (fun n=>P3 n 10 i0 j0 l0 [] [] false [e'] fs' bs' its' els' ps' qs' f (E9 s)) (U.no rfl (U.no rfl (U.no rfl (U.no rfl (U.no rfl (U.no rfl (U.no rfl (U.no rfl (U.no rfl (U.Xu rfl ?_))))))))))
   have hb2:s.length+14*(1+((pW e').length+(([gB [116] its].flatMap (TX (yI d))).length+(bif els.isEmpty then [] else [(1,cT)]++els.flatMap (TX (yI d)):List Tk).length)))≤68000000000:=by
    rw [Xx,Xx,Xx] at hb;simpa only [Xw,Xy,Yp] using hb
   clear hb
   (refine U.A0 ((E7 (ws:=[(1,vI)]) (C5 rfl) (by decide) f s (by simp only [Xw,Xy];omega))) ?_;rintro _ _ ⟨⟨f1,s1⟩,h,w1⟩;cases h;have lw1:=Wr.len w1;(try simp only [Xx,Xw,Xy] at lw1);refine⟨rfl,U.Xu (C6 rfl (E6 _ _ _)) ?_⟩)
   refine U.Xu rfl (U.Xu (IQ h1) ?_)
   (refine U.A0 (p1 f1 s1 (by omega)) ?_;rintro _ _ ⟨⟨f2,s2⟩,h,w2⟩;cases h;have lw2:=Wr.len w2;(try simp only [Xx,Xw,Xy] at lw2);refine⟨rfl,U.Xu rfl ?_⟩)
   have l2:s2.length≤s1.length+14*(pW e').length:=w2.len
   refine U.A0 (pb f2 s2 (by omega)) ?_
   rintro _ _ ⟨⟨f3,s3⟩,h,w3⟩;cases h
   have l3:s3.length≤s2.length+14*([gB [116] its].flatMap (TX (yI d))).length:=w3.len
   refine⟨rfl,U.Xu rfl ?_⟩
   rcases hel with rfl|⟨zs,rfl,hz,hzx⟩
   ·have:els'=[]:=Zh.1 hE.1.symm
    subst this
    exact U.no rfl (U.ret ⟨(f3,s3),rfl,by simpa using w1.app (w2.app w3)⟩)
   ·have pe:=YF ih (t:=[101]) (by decide) hz hzx hE
    have el:=hE.1
    rw [show (bif ([gB [101] zs]:List D).isEmpty then [] else [(1,cT)]++[gB [101] zs].flatMap (TX (yI d)):List Tk)=[(1,cT)]++[gB [101] zs].flatMap (TX (yI d)) from rfl] at hb2 ⊢
    rw [List.singleton_append,Xw] at hb2
    refine U.Xu (Zi (by simp at el;omega)) ?_
    (refine U.A0 ((E7 (ws:=[(1,cT)]) (C5 rfl) (by decide) f3 s3 (by simp only [Xw,Xy];omega))) ?_;rintro _ _ ⟨⟨f4,s4⟩,h,w4⟩;cases h;have lw4:=Wr.len w4;(try simp only [Xx,Xw,Xy] at lw4);refine⟨rfl,U.Xu (C6 rfl (E6 _ _ _)) ?_⟩)
    refine U.A0 (pe f4 s4 (by omega)) ?_
    rintro _ _ ⟨⟨f5,s5⟩,h,w5⟩;cases h
    refine⟨rfl,U.Xu rfl ?_⟩
    exact U.ret ⟨(f5,s5),rfl,w1.app (w2.app (w3.app (w4.app w5)))⟩
theorem Sd {m:Nat}{x y:D}(h:xP x)(h':OI m x y):Pr (fun n=>O4 n (C0 B0 y)) (qE x):=by
 rw [SM h']
 obtain⟨nm,e,rfl,hn,he⟩:=h
 obtain⟨m',k',i0,j0,l0,nm',ty',sg',es2,fs2,bs,its,els,ps,qs,es',fs',bs',its',els',ps',qs',_,e',rfl,hX,_⟩:=tO h'
 cases e'
 obtain⟨e',rfl,h1,e1⟩:=Cp hX
 have eW:qE (I 2 nm oM false [e] [] [] [] [] [] [])=[(1,oM),(1,nm),(3,[61])]++wE 4 e':=by
  rw [← e1];rfl
 rw [eW]
 exact Jr (dU (T:=Z7) rfl hn) (ty:=oM) (by decide) h1 2 i0 j0 l0 false fs' bs' its' els' ps' qs'
theorem No {xs ys pp qq ii:List D}{nm:Zt}{i k l:Int}{m:Nat}(hn:xs.length≤10)(h:∀ x∈xs,xP x)(hR:Rl (OI m) xs ys)(f:Bool)(s:Zt)(hb:s.length+14*(lW qE xs).length≤68000000000) :
  U (fun n=>J7 n (.Z 14 ys) (ys.length:Int) (0:Int) (.bool f) (.str nm) i k l (.Z 14 pp) (.Z 14 qq) (.Z 14 ii) (.Z 1 (E9 s))) fun r=>∃ st:Bool×Zt,r=(false,[.Z 14 ys,.int .i64 (ys.length:Int),.int .i64 (ys.length:Int),.bool st.1,.str nm,.int .i64 i,.int .i64 k,.int .i64 l,.Z 14 pp,.Z 14 qq,.Z 14 ii,.Z 1 (E9 st.2)])∧Wr (f,s) st (lW qE xs):=by
 have el:=hR.1
 ·refine TD (xs:=xs) (w:=qE) (T:=fun j f s n=>J7 n (.Z 14 ys) (ys.length:Int) j (.bool f) (.str nm) i k l (.Z 14 pp) (.Z 14 qq) (.Z 14 ii) (.Z 1 (E9 s))) (by omega) (by show s.length+_≤_;omega) (fun j f s hj hb K=>?_) fun f2 s2 W=>?_
  ·have hj':j<ys.length:=by omega
   have r:=hR.2 j hj hj'
   have p1:=Sd (h _ (Yr hj)) r
   refine U.eq (fun n=>jR n _ _ _ _ _ _ _ _ _ _ _ _) (U.Xu (Zi (by omega)) (U.Xu (G9 hj') ?_))
   rw [X7 hj']
   refine U.Xu (WQ r) (U.Xv (fun h0=>?_) fun h0=>?_)
   ·have h0:=Zj h0
    rw [show (j==0)=false from Zn.2 (by omega)] at hb K
    simp only [cond_false,Xx,Xw,Xy] at hb
    (refine U.A0 ((E7 (ws:=[(3,[44])]) (C5 rfl) (by decide) f s (by simp only [Xw,Xy];omega))) ?_;rintro _ _ ⟨⟨f1,s1⟩,h,w1⟩;cases h;have lw1:=Wr.len w1;(try simp only [Xx,Xw,Xy] at lw1);refine⟨rfl,U.Xu (C6 rfl (E6 _ _ _)) ?_⟩)
    (refine U.A0 (p1 f1 s1 (by omega)) ?_;rintro _ _ ⟨⟨f2,s2⟩,h,w2⟩;cases h;have lw2:=Wr.len w2;(try simp only [Xx,Xw,Xy] at lw2);refine⟨rfl,U.Xu rfl ?_⟩)
    exact K f2 s2 (w1.app w2)
   ·have h0:=Zl h0
    have:j=0:=by omega
    subst this
    (refine U.A0 (p1 f s hb) ?_;rintro _ _ ⟨⟨f2,s2⟩,h,w2⟩;cases h;have lw2:=Wr.len w2;(try simp only [Xx,Xw,Xy] at lw2);refine⟨rfl,U.Xu rfl ?_⟩)
    exact K f2 s2 w2
  ·exact U.eq (fun n=>jR n _ _ _ _ _ _ _ _ _ _ _ _) (U.no (Zk (by omega)) (U.ret ⟨(f2,s2),by rw [el],W⟩))
theorem Sh {xs ys pp qq ii:List D}{nm:Zt}{i k l:Int}{m:Nat}(hn:xs.length≤10)(h:∀ x∈xs,xN kC x)(hR:Rl (OI m) xs ys)(f:Bool)(s:Zt)(hb:s.length+14*(lW hU xs).length≤68000000000) :
  U (fun n=>J8 n (.Z 14 ys) (ys.length:Int) (0:Int) (.bool f) (.str nm) i k l (.Z 14 pp) (.Z 14 qq) (.Z 14 ii) (.Z 1 (E9 s))) fun r=>∃ st:Bool×Zt,r=(false,[.Z 14 ys,.int .i64 (ys.length:Int),.int .i64 (ys.length:Int),.bool st.1,.str nm,.int .i64 i,.int .i64 k,.int .i64 l,.Z 14 pp,.Z 14 qq,.Z 14 ii,.Z 1 (E9 st.2)])∧Wr (f,s) st (lW hU xs):=by
 have el:=hR.1
 ·refine TD (xs:=xs) (w:=hU) (T:=fun j f s n=>J8 n (.Z 14 ys) (ys.length:Int) j (.bool f) (.str nm) i k l (.Z 14 pp) (.Z 14 qq) (.Z 14 ii) (.Z 1 (E9 s))) (by omega) (by show s.length+_≤_;omega) (fun j f s hj hb K=>?_) fun f2 s2 W=>?_
  ·have hj':j<ys.length:=by omega
   have r:=hR.2 j hj hj'
   have p1:=Up (T:=kC) (by decide) (h _ (Yr hj)) r
   refine U.eq (fun n=>jS n _ _ _ _ _ _ _ _ _ _ _ _) (U.Xu (Zi (by omega)) (U.Xu (G9 hj') ?_))
   rw [X7 hj']
   refine U.Xu (WQ r) (U.Xv (fun h0=>?_) fun h0=>?_)
   ·have h0:=Zj h0
    rw [show (j==0)=false from Zn.2 (by omega)] at hb K
    simp only [cond_false,Xx,Xw,Xy] at hb
    (refine U.A0 ((E7 (ws:=[(3,[44])]) (C5 rfl) (by decide) f s (by simp only [Xw,Xy];omega))) ?_;rintro _ _ ⟨⟨f1,s1⟩,h,w1⟩;cases h;have lw1:=Wr.len w1;(try simp only [Xx,Xw,Xy] at lw1);refine⟨rfl,U.Xu (C6 rfl (E6 _ _ _)) ?_⟩)
    (refine U.A0 (p1 f1 s1 (by omega)) ?_;rintro _ _ ⟨⟨f2,s2⟩,h,w2⟩;cases h;have lw2:=Wr.len w2;(try simp only [Xx,Xw,Xy] at lw2);refine⟨rfl,U.Xu rfl ?_⟩)
    exact K f2 s2 (w1.app w2)
   ·have h0:=Zl h0
    have:j=0:=by omega
    subst this
    (refine U.A0 (p1 f s hb) ?_;rintro _ _ ⟨⟨f2,s2⟩,h,w2⟩;cases h;have lw2:=Wr.len w2;(try simp only [Xx,Xw,Xy] at lw2);refine⟨rfl,U.Xu rfl ?_⟩)
    exact K f2 s2 w2
  ·exact U.eq (fun n=>jS n _ _ _ _ _ _ _ _ _ _ _ _) (U.no (Zk (by omega)) (U.ret ⟨(f2,s2),by rw [el],W⟩))
theorem Ms:∀ k:Nat,k≤8→gw [109,48+UInt8.ofNat k]:=by decide +kernel
def yM (x:D):List Tk:=[(1,uT),(1,(x.at_ 0).s)]++((bif (x.at_ 1).l.isEmpty then [] else [(3,[35]),(3,[40])]++(lW qE (x.at_ 1).l++[(3,[41])]))++([(3,[40])]++(lW hU (x.at_ 2).l++([(3,[41]),(3,[59]),nl]++((x.at_ 3).l.flatMap (yI 4)++[(1,nP),nl])))))
def Tm (nm:Zt)(x:D):Prop:=∃ ps qs its,x=M nm ps qs its∧ps.length≤2∧qs.length≤3∧its.length≤5∧(∀ p∈ps,xP p)∧(∀ q∈qs,xN kC q)∧∀ i∈its,xI 4 i
theorem Mq {nm0:Zt}(hg:gw nm0){x y:D}(h:Tm nm0 x)(h':OM x y):Pr (fun n=>Q5 n (C0 G5 y)) (yM x):=by
 intro f s hb
 obtain⟨ps,qs,its,rfl,l1,l2,l3,h1,h2,h3⟩:=h
 obtain⟨nm,i,kk,l,ps2,qs2,its2,ps',qs',its',e,rfl,_,_,_,_,hP,hQ,hI⟩:=h'
 cases e
 have p3:Pr (fun n=>I0 n (.Z 14 its')) (its.flatMap (yI 4)):=YT hI.1 (by omega) fun j hj hj'=>⟨Ul 4 _ _ 8 (h3 _ (Yr hj)) (hI.2 j hj hj'),WQ (hI.2 j hj hj')⟩
 have eW:yM (M nm0 ps qs its)=[(1,uT),(1,nm0)]++((bif ps.isEmpty then [] else [(3,[35]),(3,[40])]++(lW qE ps++[(3,[41])]))++([(3,[40])]++(lW hU qs++([(3,[41]),(3,[59]),nl]++(its.flatMap (yI 4)++[(1,nP),nl]))))):=rfl
 rw [eW] at hb ⊢
 have J:∀ (f1:Bool) (s1:Zt) (u:List Tk),Wr (f,s) (f1,s1) u→s1.length+14*([(3,[40])]++(lW hU qs++([(3,[41]),(3,[59]),nl]++(its.flatMap (yI 4)++[(1,nP),nl]))):List Tk).length≤68000000000→
   U (fun n=>dO n f1 nm0 i kk l ps' qs' its' (E9 s1)) fun r=>∃ st:Bool×Zt,r=(true,[.bool st.1,.Z 1 (E9 st.2)])∧Wr (f,s) st (u++([(3,[40])]++(lW hU qs++([(3,[41]),(3,[59]),nl]++(its.flatMap (yI 4)++[(1,nP),nl]))))):=by
  intro f1 s1 u hu hb
  simp only [Xx,Xw,Xy] at hb
  refine G4 (fun n=>dO.eq_1 n _ _ _ _ _ _ _ _ _) ?_
  (refine U.A0 ((E7 (ws:=[(3,[40])]) (C5 rfl) (by decide) f1 s1 (by simp only [Xw,Xy];omega))) ?_;rintro _ _ ⟨⟨f2,s2⟩,h,w2⟩;cases h;have lw2:=Wr.len w2;(try simp only [Xx,Xw,Xy] at lw2);refine⟨rfl,U.Xu (C6 rfl (E6 _ _ _)) ?_⟩)
  refine U.D4 (Sh (xs:=qs) (ys:=qs') (pp:=ps') (qq:=qs') (ii:=its') (nm:=nm0) (i:=i) (k:=kk) (l:=l) (by omega) h2 hQ f2 s2 (by omega)) (fun ds h=>by obtain⟨_,h,_⟩:=h;cases h) fun ds h=>?_
  obtain⟨⟨f3,s3⟩,h,w3⟩:=h
  cases h
  have l3:=w3.len
  refine U.Xu rfl ?_
  (refine U.A0 ((mE (ws:=[(3,[41]),(3,[59])]) (C5 rfl) (by decide) (by decide) f3 s3 (by simp only [Xx,Xw,Xy];omega))) ?_;rintro _ _ ⟨⟨f4,s4⟩,h,w4⟩;cases h;have lw4:=Wr.len w4;(try simp only [Xx,Xw,Xy] at lw4);refine⟨rfl,U.Xu (C6 rfl (E6 _ _ _)) ?_⟩)
  (refine U.A0 (p3 f4 s4 (by omega)) ?_;rintro _ _ ⟨⟨f5,s5⟩,h,w5⟩;cases h;have lw5:=Wr.len w5;(try simp only [Xx,Xw,Xy] at lw5);refine⟨rfl,U.Xu rfl ?_⟩)
  (refine U.A0 ((mE (ws:=[(1,nP)]) (C5 rfl) (by decide) (by decide) f5 s5 (by simp only [Xx,Xw,Xy];omega))) ?_;rintro _ _ ⟨⟨f6,s6⟩,h,w6⟩;cases h;have lw6:=Wr.len w6;(try simp only [Xx,Xw,Xy] at lw6);refine⟨rfl,U.Xu (C6 rfl (E6 _ _ _)) ?_⟩)
  exact U.ret ⟨(f6,s6),rfl,hu.app (w2.app (w3.app (w4.app (w5.app w6))))⟩
 show U (fun n=>Q5 n (AM nm0 i kk l ps' qs' its') (.bool f) (.Z 1 (E9 s))) _
 refine U.eq (fun n=>uY n nm0 i kk l ps' qs' its' f (E9 s)) ?_
 generalize ([(3,[40])]++(lW hU qs++([(3,[41]),(3,[59]),nl]++(its.flatMap (yI 4)++[(1,nP),nl]))):List Tk)=R at hb J ⊢
 have hb2:s.length+14*(2+((bif ps.isEmpty then [] else [(3,[35]),(3,[40])]++(lW qE ps++[(3,[41])]):List Tk).length+R.length))≤68000000000:=by
  rw [Xx,Xx] at hb;simpa only [Xw,Xy,Yp] using hb
 clear hb
 (refine U.A0 ((E7 (ws:=[(1,uT),(1,nm0)]) (H9 (by decide) (H9 hg (C5 rfl))) (by simp) f s (by simp only [Xw,Xy];omega))) ?_;rintro _ _ ⟨⟨f1,s1⟩,h,w1⟩;cases h;have lw1:=Wr.len w1;(try simp only [Xx,Xw,Xy] at lw1);refine⟨rfl,U.Xu (C6 rfl (E6 _ _ _)) ?_⟩)
 have el:=hP.1
 refine U.Xv (fun h0=>?_) fun h0=>?_
 ·have h0:=Zj h0
  have:ps.isEmpty=false:=by
   cases ps with
   |nil=>simp at el;omega
   |cons=>rfl
  rw [this] at hb2 ⊢
  simp only [cond_false,Xx,Xw,Xy] at hb2
  (refine U.A0 ((E7 (ws:=[(3,[35]),(3,[40])]) (C5 rfl) (by decide) f1 s1 (by simp only [Xw,Xy];omega))) ?_;rintro _ _ ⟨⟨f2,s2⟩,h,w2⟩;cases h;have lw2:=Wr.len w2;(try simp only [Xx,Xw,Xy] at lw2);refine⟨rfl,U.Xu (C6 rfl (E6 _ _ _)) ?_⟩)
  refine U.D4 (No (xs:=ps) (ys:=ps') (pp:=ps') (qq:=qs') (ii:=its') (nm:=nm0) (i:=i) (k:=kk) (l:=l) (by omega) h1 hP f2 s2 (by omega)) (fun ds h=>by obtain⟨_,h,_⟩:=h;cases h) fun ds h=>?_
  obtain⟨⟨f3,s3⟩,h,w3⟩:=h
  cases h
  have l3:=w3.len
  refine U.Xu rfl ?_
  (refine U.A0 ((E7 (ws:=[(3,[41])]) (C5 rfl) (by decide) f3 s3 (by simp only [Xw,Xy];omega))) ?_;rintro _ _ ⟨⟨f4,s4⟩,h,w4⟩;cases h;have lw4:=Wr.len w4;(try simp only [Xx,Xw,Xy] at lw4);refine⟨rfl,U.Xu (C6 rfl (E6 _ _ _)) ?_⟩)
  refine (J f4 s4 _ (w1.app (w2.app (w3.app w4))) (by omega)).mono fun r ⟨st,h1,h2⟩=>⟨st,h1,?_⟩
  simpa using h2
 ·have h0:=Zl h0
  have:ps=[]:=Zh.1 (by omega)
  subst this
  exact J f1 s1 _ w1 (by omega)
theorem Eg (s:Zt):rD (E9 s)=true:=by
 induction s with
 |nil=>rfl
 |cons c s ih=>
  show (decide (0≤(c.toNat:Int))&&decide ((c.toNat:Int)<256)&&rD (E9 s))=true
  have:=c.toNat_lt
  rw [ih,Zi (by omega),Zi (by omega)];rfl
theorem Ff (s:Zt):(E9 s).map toByte=s:=by
 induction s with
 |nil=>rfl
 |cons c s ih=>
  show UInt8.ofNat (c.toNat:Int).toNat::(E9 s).map toByte=c::s
  rw [ih,Zf,UInt8.ofNat_toNat]
def Xl (nms:List Zt)(ms:List D):Prop:=nms.length=ms.length∧∀ (k:Nat) (h:k<ms.length) (h':k<nms.length),Tm nms[k] ms[k]∧gw nms[k]
theorem XA {nms:List Zt}{ms ys:List D}(hn:ms.length≤6)(h:Xl nms ms)(hR:Rl OM ms ys)(hL:14*(ms.flatMap yM).length≤68000000000):U (fun n=>iI n (.Z 7 ys)) fun r=>r=(true,[.str (PI (ms.flatMap yM) (true,[])).2]):=by
 have el:=hR.1
 refine U.eq (fun n=>UK n ys) (U.D4 (Q:=fun r=>∃ st:Bool×Zt,r=(false,[.Z 7 ys,.int .i64 (ys.length:Int),.int .i64 (ys.length:Int),.bool st.1,.Z 1 (E9 st.2)])∧Wr (true,[]) st (ms.flatMap yM)) ?_ (fun ds h=>by obtain⟨_,h,_⟩:=h;cases h) fun ds h=>?_)
 ·refine TE (xs:=ms) (w:=yM) (f:=true) (s:=[]) (T:=fun j f s n=>dV n (.Z 7 ys) (ys.length:Int) j (.bool f) (.Z 1 (E9 s))) (by omega) (by show 0+_≤_;rw [Yp];exact hL) (fun j f s hj hb K=>?_) fun f2 s2 W=>?_
  ·have hj':j<ys.length:=by omega
   have r:=hR.2 j hj hj'
   obtain⟨hm,hg⟩:=h.2 j hj (by rw [h.1];exact hj)
   refine U.eq (fun n=>vR n _ _ _ _ _) (U.Xu (Zi (by omega)) (U.Xu (G9 hj') ?_))
   rw [X7 hj']
   refine U.Xu (by obtain⟨_,_,_,_,_,_,_,_,_,_,_,e,_⟩:=r;rw [e];rfl) ?_
   (refine U.A0 (Mq hg hm r f s hb) ?_;rintro _ _ ⟨⟨f2,s2⟩,h,w2⟩;cases h;have lw2:=Wr.len w2;(try simp only [Xx,Xw,Xy] at lw2);refine⟨rfl,U.Xu rfl ?_⟩)
   exact K f2 s2 w2
  ·exact U.eq (fun n=>vR n _ _ _ _ _) (U.no (Zk (by omega)) (U.ret ⟨(f2,s2),by rw [el],W⟩))
 ·obtain⟨⟨f2,s2⟩,h,w2⟩:=h
  cases h
  refine U.Xu rfl (U.Xu (by show (rD (E9 s2)&&true&&true)=true;rw [Eg];rfl) (U.ret ?_))
  show (true,[D.str ((E9 s2).map toByte)])=_
  rw [Ff,← w2.1]
end Go.Proofs.YtalibicpmfbieaaGreatDoor
