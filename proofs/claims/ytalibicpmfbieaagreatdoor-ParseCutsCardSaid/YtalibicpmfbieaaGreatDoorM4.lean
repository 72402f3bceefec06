import Derived.Test.YtalibicpmfbieaaGreatDoorM3
import Derived.Test.YtalibicpmfbieaaGreatDoorM1
namespace Go.Proofs.YtalibicpmfbieaaGreatDoor
open Go.AE
open IntKind (i64 u64)
set_option linter.all false
section
section
variable {l:List D} (hl:l.length≤1000000)
def DJ {n:Nat}{k:Int}{t:G1}{ar c:List D}(a b e:Int)(h:F2 (Sm n) ar c):Sm (n+1) (E k t ar) (PE k a b e t c):=⟨k,t,ar,a,b,e,c,rfl,rfl,h⟩
def Ho {i:Nat}(h:Nx l i cl):Nx l i cu:=h.mono aL7
def HV {i:Nat}{t:G1}{p:G1→Bool}(h:∃ a b e,l[i]? = some (tk 3 t a b e))(hp:p t=true):Nx l i p:=by obtain⟨a,b,e,h⟩:=h;exact⟨t,a,b,e,h,hp⟩
def Zy {i:Nat}{k:Int}{t:G1}(h:∃ a b e,l[i]? = some (tk k t a b e)):∃ k t a b e,l[i]? = some (tk k t a b e):=by obtain⟨a,b,e,h⟩:=h;exact⟨k,t,a,b,e,h⟩
def Hf {i:Nat}{p:Int→G1→Prop}(h:∃ k t a b e,l[i]? = some (tk k t a b e)∧p k t):∃ k t a b e,l[i]? = some (tk k t a b e):=by obtain⟨k,t,a,b,e,h,_⟩:=h;exact⟨k,t,a,b,e,h⟩
include hl
def tW {n i m:Nat}{x:D}(d:∃ k t a b e,l[i]? = some (tk k t a b e)∧(k≠3∨t=[40]∨t=[123]))(O:Nx l (i+m) cu→Ph wB l i m (Sm (n+1) x) (HX n)) :(RV x=false→Nx l (i+m) cu→Ph wB l i m (Sm (n+1) x) (HX (n+1)-1))∧(Nx l (i+m) cl→Ph pG l i m (Sm (n+1) x) (HX (n+1))):=by refine⟨fun _ c=>(O c).mono (fun _ h=>h) (by simp only [HX];omega),fun c=>?_⟩;exact (xA hl (fun y=>fK) (Hf d) c (IL (fun y=>fK) d (O (Ho c)))).mono (fun _ h=>h) (by simp only [HX];omega)
def aI1 {n i h:Nat}{t:G1}{x:D}(f:t∈Ts)(g:∃ a b e,l[i]? = some (tk 3 t a b e)){m:Nat}(Uq:Ph Gr l (i+1) m (Sm n x) h):Ph Gr l i (1+m) (Sm (n+1) (E 3 t [x])) (h+1):=by
 have c:(t==[43])=false:=by have:=B6.1 aI2 t f;simpa using this
 refine (Gs hl (fun y=>fK) (C0 _ f) g Uq).mono (fun y d=>?_) (B9 _);rw [c] at d;obtain⟨a,b,e,u,rfl,j⟩:=d;exact DJ a b e (.cons j .nil)
def Uw {n i m1 c h:Nat}{o:G1}{x y:D}(r:o∈Wm)(g:∃ k t a b e,l[i]? = some (tk k t a b e))(w:Ph Gr l i m1 (Sm n x) h)(f:∃ a b e,l[i+m1]? = some (tk 3 o a b e))(d:∃ k t a b e,l[i+m1+1]? = some (tk k t a b e)) (s:Ph Gr l (i+m1+1) c (Sm n y) h) (j:Nx l (i+(m1+1+c)) cl):Ph pG l i (m1+1+c) (Sm (n+1) (E 4 o [x,y])) (h+1):=by have L:=Ln hl (Ce r) (fun y=>fK) (fun y=>fK) g w f d s (by rw [show i+m1+1+c=i+(m1+1+c) from by omega];exact j);have A:Ph (Fj 0) l i (m1+1+c) (Sm (n+1) (E 4 o [x,y])) h:=L.mono (fun z ⟨a,b,e,u,v,m,q,p⟩=>by subst m;exact DJ a b e (.cons q (.cons p .nil))) (B9 _);exact Hz hl (fun y=>fK) g j A
def Pl {n i m1 c d h:Nat}{x y z:D}(m:∃ k t a b e,l[i]? = some (tk k t a b e))(G:Ph Gr l i m1 (Sm n x) h)(o:∃ a b e,l[i+m1]? = some (tk 3 [63] a b e))(g:∃ k t a b e,l[i+m1+1]? = some (tk k t a b e)) (F:Ph Gr l (i+m1+1) c (Sm n y) h) (q:∃ a b e,l[i+m1+1+c]? = some (tk 3 [58] a b e)) (f:∃ k t a b e,l[i+m1+1+c+1]? = some (tk k t a b e)) (C:Ph Gr l (i+m1+1+c+1) d (Sm n z) h) (B:Nx l (i+(m1+1+c+1+d)) cl) :Ph pG l i (m1+1+c+1+d) (Sm (n+1) (E 5 [] [x,y,z])) (h+2):=by have H:Ph (Fj 0) l i m1 (Sm n x) h:=vW (fun y=>fK) (p:=fun t=>t==[63]) (HV o rfl) m 10 0 (by decide) (fun t A=>by rw [eq_of_beq A];exact Xc _) (uX (fun y=>fK) G);have J:=xA hl (fun y=>fK) g (HV q rfl) F;have I:=xA hl (fun y=>fK) f (by rw [show i+m1+1+c+1+d=i+(m1+1+c+1+d) from by omega];exact B) C;refine (Ld hl (fun y=>fK) (fun y=>fK) (fun y=>fK) m (H.mono (fun _ h=>h) (Nat.le_succ h)) o J q I).mono (fun w j=>?_) (B9 _);obtain⟨a,b,e,u,v,w,rfl,s,r,j⟩:=j;exact DJ a b e (.cons s (.cons r (.cons j .nil)))
omit hl in
def uA {n:Nat}{x:D}(h:gQ n x){i:Nat}(c:K6 l i (aW (wE n) x)):∃ k t a b e,l[i]? = some (tk k t a b e):=Hf (UD h c)
omit hl in
def Zn {R:D→D→Prop}{xs ys:List D}(h:F2 R xs ys){m:Nat}(hm:xs.length≤m):ys.length≤m:=h.length▸hm
def Il {n:Nat}(ih:∀ x,gQ n x→Core l n x){ar:List D}(h1:1≤ar.length)(c:ar.length≤900)(f:∀ a∈ar,gQ n a){i:Nat}(d:K6 l i (lW (wE n) ar))(e:aJ5 l (i+(lW (wE n) ar).length)):Ui l i (lW (wE n) ar).length (fun ys=>F2 (Sm n) ar ys) (HX n):=by
 match ar,h1 with
 |x::r,_=>exact Wb hl (fun x y=>fK) (by simp only [A0] at c;omega) (fun x' b j h1 c=>(ih x' (f x' b) j h1).2 c) d e
def La {n:Nat}(ih:∀ x,gQ n x→Core l n x):∀ x,gQ (n+1) x→Core l (n+1) x:=by
 intro x j i c;have X:=JN (n+1) x j i c;obtain⟨k,t,ar,rfl,R,g⟩:=j;rw [IM] at c ⊢;have d:∀ x∈ar,∀ {i},K6 l i (aW (wE n) x)→Nx l (i+(aW (wE n) x).length) cu→Ph Gr l i (aW (wE n) x).length (Sm n x) (HX n):=fun x j i h1 f=>Us hl (g x j) (ih x (g x j)) h1 f;rcases R with ⟨rfl,_,hm⟩|⟨rfl,p,hm⟩|⟨rfl,I,hm⟩|⟨rfl,I,hm⟩|⟨rfl,h0,hm⟩|⟨rfl,h0,hm,w⟩|⟨rfl,h0,hm,w⟩|⟨rfl,p,hm⟩|⟨rfl,p,hm⟩|⟨rfl,p,hm,w⟩
 ·match ar,hm,c with
  |[],_,c=>have c:(∃ a b e,l[i]? = some (tk 2 t a b e))∧True:=c;obtain⟨a,b,e,h1⟩:=c.1;exact tW hl (m:=1) ⟨_,_,a,b,e,h1,.inl (by decide)⟩ fun _=>(one_num hl c.1).mono (fun y ⟨a,b,e,q⟩=>by subst q;exact DJ a b e .nil) (C4 _)
 ·match ar,hm,c with
  |[],_,c=>have c:(∃ a b e,l[i]? = some (tk 1 t a b e))∧True:=c;obtain⟨a,b,e,h1⟩:=c.1;exact tW hl (m:=1) ⟨_,_,a,b,e,h1,.inl (by decide)⟩ fun j=>(Ru hl (vN p) c.1 j Vc).mono (fun y ⟨a,b,e,q⟩=>by subst q;exact DJ a b e .nil) (C4 _)
 ·match ar,hm,c,g,d with
  |[x],_,c,g,d=>(have c:(∃ a b e,l[i]? = some (tk 3 t a b e))∧K6 l (i+1) (aW (wE n) x):=c;refine⟨fun h=>(by cases h),fun j=>?_⟩;have j:Nx l (i+([(3,t)]++aW (wE n) x).length) cl:=j;have e:([((3:Int),t)]++aW (wE n) x).length=1+(aW (wE n) x).length:=by simp only [G0]);show Ph pG l i ([((3:Int),t)]++aW (wE n) x).length _ _;rw [e] at j ⊢;have Uq:=d x (B8 ..) c.2 (Ho (by rw [show i+1+(aW (wE n) x).length=i+(1+(aW (wE n) x).length) from by omega];exact j));exact xA hl (fun y=>fK) (Zy c.1) j (aI1 hl I c.1 Uq)
 ·match ar,hm,c,g,d with
  |[x,y],_,c,g,d=>(refine⟨fun h=>(by cases h),fun j=>?_⟩;have c:K6 l i (aW (wE n) x++([(3,t)]++aW (wE n) y)):=c;have j:Nx l (i+(aW (wE n) x++([(3,t)]++aW (wE n) y)).length) cl:=j;have e:(aW (wE n) x++([((3:Int),t)]++aW (wE n) y)).length=(aW (wE n) x).length+1+(aW (wE n) y).length:=by simp only [G0];omega);show Ph pG l i (aW (wE n) x++([((3:Int),t)]++aW (wE n) y)).length _ _;rw [e] at j ⊢;obtain⟨h1,f⟩:=L6.1 c;have f:(∃ a b e,l[i+(aW (wE n) x).length]? = some (tk 3 t a b e))∧K6 l (i+(aW (wE n) x).length+1) (aW (wE n) y):=f;have N:=d x (by simp) h1 (HV f.1 (aO1 (Ce I)));have M:=d y (by simp) f.2 (Ho (by rw [show i+(aW (wE n) x).length+1+(aW (wE n) y).length=i+((aW (wE n) x).length+1+(aW (wE n) y).length) from by omega];exact j));exact (Uw hl I (uA (g x (by simp)) h1) N f.1 (uA (g y (by simp)) f.2) M j).mono (fun _ h=>h) (by simp only [HX];omega)
 ·match ar,hm,c,g,d with
  |[x,y,z],_,c,g,d=>(subst h0;refine⟨fun h=>(by cases h),fun j=>?_⟩;have c:K6 l i (aW (wE n) x++([(3,[63])]++(aW (wE n) y++([(3,[58])]++aW (wE n) z)))):=c;have j:Nx l (i+(aW (wE n) x++([(3,[63])]++(aW (wE n) y++([(3,[58])]++aW (wE n) z)))).length) cl:=j;have e:(aW (wE n) x++([((3:Int),([63]:G1))]++(aW (wE n) y++([((3:Int),([58]:G1))]++aW (wE n) z)))).length=(aW (wE n) x).length+1+(aW (wE n) y).length+1+(aW (wE n) z).length:=by simp only [G0];omega);show Ph pG l i (aW (wE n) x++([((3:Int),([63]:G1))]++(aW (wE n) y++([((3:Int),([58]:G1))]++aW (wE n) z)))).length _ _;rw [e] at j ⊢;obtain⟨h1,f⟩:=L6.1 c;have f:(∃ a b e,l[i+(aW (wE n) x).length]? = some (tk 3 [63] a b e))∧K6 l (i+(aW (wE n) x).length+1) (aW (wE n) y++([(3,[58])]++aW (wE n) z)):=f;obtain⟨A,o⟩:=L6.1 f.2;have o:(∃ a b e,l[i+(aW (wE n) x).length+1+(aW (wE n) y).length]? = some (tk 3 [58] a b e))∧K6 l (i+(aW (wE n) x).length+1+(aW (wE n) y).length+1) (aW (wE n) z):=o;have N:=d x (by simp) h1 (HV f.1 rfl);have M:=d y (by simp) A (HV o.1 rfl);have T:=d z (by simp) o.2 (Ho (by rw [show i+(aW (wE n) x).length+1+(aW (wE n) y).length+1+(aW (wE n) z).length=i+((aW (wE n) x).length+1+(aW (wE n) y).length+1+(aW (wE n) z).length) from by omega];exact j));exact Pl hl (uA (g x (by simp)) h1) N f.1 (uA (g y (by simp)) A) M o.1 (uA (g z (by simp)) o.2) T j
 ·subst h0;have c:(∃ a b e,l[i]? = some (tk 3 [123] a b e))∧K6 l (i+1) (lW (wE n) ar++[(3,[125])]):=c;obtain⟨h1,f⟩:=c;obtain⟨A,o⟩:=L6.1 f;have o:=o.1;obtain⟨a,b,e,g1⟩:=h1;obtain⟨a4,G,F,C⟩:=o;have L:=Il hl ih hm (by omega) g A ⟨[125],a4,G,F,C,rfl,rfl⟩;have O:=(Wi hl ⟨a,b,e,g1⟩ L ⟨a4,G,F,C⟩).mono (R':=Sm (n+1) (E 6 [] ar)) (fun y ⟨a,b,e,ys,q,B⟩=>by subst q;exact DJ a b e B) (B9 _);have e:1+(lW (wE n) ar).length+1=([((3:Int),([123]:G1))]++(lW (wE n) ar++[(3,[125])])).length:=by simp only [G0];omega
  exact tW hl (m:=([((3:Int),([123]:G1))]++(lW (wE n) ar++[(3,[125])])).length) ⟨_,_,a,b,_,g1,.inr (.inr rfl)⟩ fun _=>O.cast e
 ·subst h0
  match ar,hm,w,c,g with
  |x::r,hm,w,c,g=>(have c:(∃ a b e,l[i]? = some (tk 3 [123] a b e))∧K6 l (i+1) (wE n x++([(3,[123])]++(lW (wE n) r++[(3,[125]),(3,[125])]))):=c;obtain⟨h1,f⟩:=c;obtain⟨A,o⟩:=L6.1 f;have o:(∃ a b e,l[i+1+(wE n x).length]? = some (tk 3 [123] a b e))∧K6 l (i+1+(wE n x).length+1) (lW (wE n) r++[(3,[125]),(3,[125])]):=o;obtain⟨s,K⟩:=L6.1 o.2;have J:=K.1;have S:=K.2.1;obtain⟨a,b,e,g1⟩:=h1;obtain⟨a4,G,F,C⟩:=J;have L:=Il hl ih (ar:=r) (by simp only [A0] at hm;omega) (by simp only [A0] at w;omega) (fun a h=>g a (C0 _ h)) s ⟨[125],a4,G,F,C,rfl,rfl⟩;have H1:=(ih x (g x (B8 ..)) (i+1) A).2 (HV o.1 rfl);have O:=(Wj hl (fun y=>fK) (fun ys h=>Zn h (by simp only [A0] at w;omega)) ⟨a,b,e,g1⟩ H1 o.1 L ⟨a4,G,F,C⟩ S).mono (R':=Sm (n+1) (E 7 [] (x::r))) (fun y ⟨a,b,e,u,ys,q,H,B⟩=>by subst q;exact DJ a b e (.cons H B)) (B9 _);have e:1+(wE n x).length+1+(lW (wE n) r).length+2=([((3:Int),([123]:G1))]++(wE n x++([(3,[123])]++(lW (wE n) r++[(3,[125]),(3,[125])])))).length:=by simp only [G0];omega);exact tW hl (m:=([((3:Int),([123]:G1))]++(wE n x++([(3,[123])]++(lW (wE n) r++[(3,[125]),(3,[125])])))).length) ⟨_,_,a,b,_,g1,.inr (.inr rfl)⟩ fun _=>O.cast e
 ·match ar,hm,c,g with
  |[x],_,c,g=>(have c:(∃ a b e,l[i]? = some (tk 1 t a b e))∧(∃ a b e,l[i+1]? = some (tk 3 [91] a b e))∧K6 l (i+2) (wE n x++[(3,[93])]):=c;obtain⟨h1,f,A⟩:=c;obtain⟨o,s⟩:=L6.1 A;obtain⟨a,b,e,g1⟩:=h1;have H1:=(ih x (g x (B8 ..)) (i+2) o).2 (HV s.1 rfl);have O:=(Cd hl (vN p) ⟨a,b,e,g1⟩ (fun y ⟨a,b,e,u,q,_⟩=>⟨_,_,_,_,_,_,q,by decide⟩) (QG hl (fun y=>fK) (rG (vN p)) ⟨a,b,e,g1⟩ f H1 s.1)).mono (R':=Sm (n+1) (E 8 t [x])) (fun y ⟨a,b,e,u,q,H⟩=>by subst q;exact DJ a b e (.cons H .nil)) (B9 _);have e:2+(wE n x).length+1=([((1:Int),t),(3,[91])]++(wE n x++[(3,[93])])).length:=by simp only [G0];omega);exact tW hl (m:=([((1:Int),t),(3,[91])]++(wE n x++[(3,[93])])).length) ⟨_,_,a,b,_,g1,.inl (by decide)⟩ fun _=>O.cast e
 ·match ar,hm,c,g with
  |[x,y],_,c,g=>(have c:(∃ a b e,l[i]? = some (tk 1 t a b e))∧(∃ a b e,l[i+1]? = some (tk 3 [91] a b e))∧K6 l (i+2) (wE n x++([(3,[58])]++(wE n y++[(3,[93])]))):=c;obtain⟨h1,f,A⟩:=c;obtain⟨o,s⟩:=L6.1 A;have s:(∃ a b e,l[i+2+(wE n x).length]? = some (tk 3 [58] a b e))∧K6 l (i+2+(wE n x).length+1) (wE n y++[(3,[93])]):=s;obtain⟨K,J⟩:=L6.1 s.2;obtain⟨a,b,e,g1⟩:=h1;have H1:=(ih x (g x (by simp)) (i+2) o).2 (HV s.1 rfl);have W:=(ih y (g y (by simp)) _ K).2 (HV J.1 rfl);have O:=(Cd hl (vN p) ⟨a,b,e,g1⟩ (fun y ⟨a,b,e,u,v,q,_⟩=>⟨_,_,_,_,_,_,q,by decide⟩) (QH hl (fun y=>fK) (fun y=>fK) (rG (vN p)) ⟨a,b,e,g1⟩ f H1 s.1 W J.1)).mono (R':=Sm (n+1) (E 9 t [x,y])) (fun z ⟨a,b,e,u,v,P,H,Q⟩=>by subst P;exact DJ a b e (.cons H (.cons Q .nil))) (B9 _);have e:2+(wE n x).length+1+(wE n y).length+1=([((1:Int),t),(3,[91])]++(wE n x++([(3,[58])]++(wE n y++[(3,[93])])))).length:=by simp only [G0];omega);exact tW hl (m:=([((1:Int),t),(3,[91])]++(wE n x++([(3,[58])]++(wE n y++[(3,[93])])))).length) ⟨_,_,a,b,_,g1,.inl (by decide)⟩ fun _=>O.cast e
 ·have c:(∃ a b e,l[i]? = some (tk 1 t a b e))∧(∃ a b e,l[i+1]? = some (tk 3 [40] a b e))∧K6 l (i+2) (lW (wE n) ar++[(3,[41])]):=c;obtain⟨h1,f,A⟩:=c;obtain⟨o,s⟩:=L6.1 A;obtain⟨a,b,e,g1⟩:=h1;have s:=s.1;obtain⟨a4,G,F,C⟩:=s;have L:=Il hl ih hm (by omega) g o ⟨[41],a4,G,F,C,rfl,rfl⟩;have O:Ph wB l i (2+(lW (wE n) ar).length+1) (fun y=>∃ a b e ys,y=PE 10 a b e t ys∧F2 (Sm n) ar ys) (HX n):=by
   simp only [KU,B7,List.not_mem_nil,or_false] at p;rcases p with p|p|p|p
   ·exact Cc hl (B6.1 Qh t (by rw [p];simp)) ⟨a,b,e,g1⟩ f L ⟨a4,G,F,C⟩
   ·exact Cc hl (B6.1 Qh t (by rw [p];simp)) ⟨a,b,e,g1⟩ f L ⟨a4,G,F,C⟩
   ·exact Iw hl (.inl p) ⟨a,b,e,g1⟩ f L ⟨a4,G,F,C⟩
   ·exact Iw hl (.inr p) ⟨a,b,e,g1⟩ f L ⟨a4,G,F,C⟩
  have V:=O.mono (R':=Sm (n+1) (E 10 t ar)) (fun y ⟨a,b,e,ys,q,B⟩=>by subst q;exact DJ a b e B) (B9 _);have e:2+(lW (wE n) ar).length+1=([((1:Int),t),(3,[40])]++(lW (wE n) ar++[(3,[41])])).length:=by simp only [G0];omega
  exact tW hl (m:=([((1:Int),t),(3,[40])]++(lW (wE n) ar++[(3,[41])])).length) ⟨_,_,a,b,_,g1,.inl (by decide)⟩ fun _=>V.cast e
def core:∀ (n:Nat) (x:D),gQ n x→Core l n x
 |0,_,h=>h.elim
 |n+1,x,h=>La hl (core n) x h
end
end
def sL (w:D→List Tk):List D→Nat
 |[]=>0
 |x::xs=>(w x).length+sL w xs
def qJ (w:D→List Tk)(x:D):∀ xs:List D,sL w (xs++[x])=sL w xs+(w x).length
 |[]=>by simp [sL]
 |y::xs=>by simp only [List.cons_append,sL,qJ w x xs];omega
def yA (w:D→List Tk):∀ xs:List D,(xs.flatMap w).length=sL w xs
 |[]=>rfl
 |y::xs=>by rw [D9,A7,yA w xs];rfl
def Co (w:D→List Tk):∀ xs:List D,(lW w xs).length+1≤sL w xs+xs.length+1
 |[]=>by simp [lW]
 |[x]=>by simp [lW,sL]
 |x::y::r=>by have:=Co w (y::r);simp only [lW,sL,A7,A0] at this ⊢;omega
def yB (w:D→List Tk):∀ xs:List D,1≤xs.length→(lW w xs).length+1≤sL w xs+xs.length
 |[],h=>by simp at h
 |[x],_=>by simp [lW,sL]
 |x::y::r,_=>by have:=yB w (y::r) (by simp);simp only [lW,sL,A7,A0] at this ⊢;omega
def uE {n:Nat}{k:Int}{t:G1}(a:k=1∨k=2):(wE (n+1) (E k t [])).length=1:=by rcases a with rfl|rfl<;>rfl
def TO (w:D→List Tk)(x:D):(aW w x).length≤(w x).length+2:=Zw (B9 _)
def SJ {w:D→List Tk}{k:Int}{t:G1}{ar:List D}(e:3≤k)(h:FT k t ar.length):(kW w k t ar).length+ar.length≤sL w ar+14:=by
 rcases h with ⟨rfl,_,hm⟩|⟨rfl,_,hm⟩|⟨rfl,_,hm⟩|⟨rfl,_,hm⟩|⟨rfl,_,hm⟩|⟨rfl,_,hm,d⟩|⟨rfl,_,hm,d⟩|⟨rfl,_,hm⟩|⟨rfl,_,hm⟩|⟨rfl,_,hm,d⟩
 ·exact absurd e (by decide)
 ·exact absurd e (by decide)
 ·match ar,hm with
  |[a],_=>have h1:=TO w a;show ([(3,t)]++aW w a).length+_≤_;simp only [sL,G0];omega
 ·match ar,hm with
  |[a,b],_=>have h1:=TO w a;have f:=TO w b;show (aW w a++([(3,t)]++aW w b)).length+_≤_;simp only [sL,G0];omega
 ·match ar,hm with
  |[a,b,c],_=>have h1:=TO w a;have f:=TO w b;have g:=TO w c;show (aW w a++([(3,[63])]++(aW w b++([(3,[58])]++aW w c)))).length+_≤_;simp only [sL,G0];omega
 ·have h1:=yB w ar hm;show ([(3,[123])]++(lW w ar++[(3,[125])])).length+_≤_;simp only [G0];omega
 ·match ar,hm,d with
  |a::r,hm,d=>simp only [A0] at hm d;have h1:=yB w r (by omega);show ([(3,[123])]++(w a++([(3,[123])]++(lW w r++[(3,[125]),(3,[125])])))).length+_≤_;simp only [sL,G0];omega
 ·match ar,hm with
  |[a],_=>show ([(1,t),(3,[91])]++(w a++[(3,[93])])).length+_≤_;simp only [sL,G0];omega
 ·match ar,hm with
  |[a,b],_=>show ([(1,t),(3,[91])]++(w a++([(3,[58])]++(w b++[(3,[93])])))).length+_≤_;simp only [sL,G0];omega
 ·have h1:=yB w ar hm;show ([(1,t),(3,[40])]++(lW w ar++[(3,[41])])).length+_≤_;simp only [G0];omega
def R6 {k:Int}(f:0<k)(h:k≤1000){b:List D}{a:Int}(hm:Mk b a):U (fun n=>J9 n k (.Z 1 b) a) fun r=>∃ v c,r=(true,[iD v,.Z 1 b,iD c])∧0≤v∧v<k∧Mk b c∧a≤c∧(v=0∨a+1≤c):=by
 obtain⟨e,hl,h0,h1⟩:=hm;refine I5 (fun n=>SW n ..) (K0 (fun _=>H8 ⟨0,a,rfl,Int.le_refl _,f,⟨e,hl,h0,h1⟩,Int.le_refl _,.inl rfl⟩) fun g=>?_);have g:¬ a≥(b.length:Int):=E9 g;have e1:i64.wrap (a+1)=a+1:=Q3;have q:i64.wrap (a+1-1)=a:=by rw [Q3];omega
 obtain⟨i,l,d,j⟩:=Fb (P:=fun y=>∃ i:Int,y = .int .u8 i∧0≤i∧i≤255) e (v:=a) h0 (by omega);simp only [e1,q,l];refine I4 (by simp;omega) ?_;refine J5 (N8 aY0 ?_);have p:(i64.wrap (D.int IntKind.u8 i).i)=i:=Q3 (show -9223372036854775808≤i by omega) (show i≤9223372036854775807 by omega);simp only [p];have o:0≤i.tmod k:=Int.tmod_nonneg k d;have m:i.tmod k<k:=Int.tmod_lt_of_pos i f;have s:i64.wrap (i.tmod k)=i.tmod k:=Q3;exact H8 ⟨_,_,rfl,o,m,⟨e,hl,by omega,by omega⟩,by omega,.inr (by omega)⟩
def aY1 {k:Int}{b:List D}{a:Int}(hm:Mk b a)(h0:0<k:=by decide)(c:k≤1000:=by decide):=R6 h0 c hm
def kV {b:List D}{a:Int}(hm:Mk b a):U (fun n=>W2 n (.Z 1 b) a) fun r=>∃ s g,r=(true,[.str s,.Z 1 b,iD g])∧s∈dP∧Mk b g∧a≤g:=by refine I5 (fun n=>SY n b a) ?_;(refine H6 (aY1 (by assumption)) ?_;rintro _ _ ⟨v,a,h,d,c,hm,f,e⟩;cases h;(try simp only [Y,D.i] at f e);refine⟨rfl,?_⟩);refine J5 (I4 (L0 (E6 d) (E6 c)) ?_);obtain⟨s,h1,j⟩:=RG (T:=dP) d c;refine I4 (by exact congrArg (fun x=>dA (.leaf .str)&&kX (.leaf .str) x) j) (H8 ⟨s,a,?_,h1,hm,by omega⟩);exact congrArg (fun x:D=>(true,[D.str x.s,.Z 1 b,iD a])) j
def RS {b:List D}{a:Int}(hm:Mk b a):U (fun n=>lS n (.Z 1 b) a) fun r=>∃ s g,r=(true,[.str s,.Z 1 b,iD g])∧s∈Ca∧Mk b g∧a≤g:=by refine I5 (fun n=>MQ n b a) ?_;(refine H6 (aY1 (by assumption)) ?_;rintro _ _ ⟨v,a,h,d,c,hm,f,e⟩;cases h;(try simp only [Y,D.i] at f e);refine⟨rfl,?_⟩);refine J5 (I4 (L0 (E6 d) (E6 c)) ?_);obtain⟨s,h1,j⟩:=RG (T:=Ca) d c;refine I4 (by exact congrArg (fun x=>dA (.leaf .str)&&kX (.leaf .str) x) j) (H8 ⟨s,a,?_,h1,hm,by omega⟩);exact congrArg (fun x:D=>(true,[D.str x.s,.Z 1 b,iD a])) j
def fX {d:Nat}{deep:Int}(B:∀ b a,Mk b a→U (fun n=>T7 n deep (.Z 1 b) a) fun r=>∃ x e,r=(true,[x,.Z 1 b,iD e])∧gQ d x∧Mk b e∧a≤e∧((wE d x).length:Int)≤13*(e-a)+1) {c:Int} (I:0≤c) (w:c≤100) {b:List D} {a:Int} (hm:Mk b a):U (fun n=>J7 n deep c (.Z 1 b) a) fun r=>∃ xs e,r=(true,[.Z 1 b,iD e,.Z 6 xs])∧xs.length=c.toNat∧(∀ x∈xs,gQ d x)∧Mk b e∧a≤e∧(sL (wE d) xs:Int)≤13*(e-a)+c:=by
 have loop:∀ (a0:Int) (k:Nat) (i:Int) (a:Int) (xs:List D),c-i=k→0≤i→xs.length=i.toNat→(∀ x∈xs,gQ d x)→Mk b a→a0≤a→(sL (wE d) xs:Int)≤13*(a-a0)+i→U (fun n=>bM n deep c i (.Z 1 b) a (.Z 6 xs)) fun r=>∃ ys e,r=(false,[iD deep,iD c,iD c,.Z 1 b,iD e,.Z 6 ys])∧ys.length=c.toNat∧(∀ x∈ys,gQ d x)∧Mk b e∧a0≤e∧(sL (wE d) ys:Int)≤13*(e-a0)+c:=by
  intro a0 k
  induction k with
  |zero=>(intro i a xs v h0 hl j hm p o;refine I5 (fun n=>qR n ..) (N8 aY0 ?_);have:i=c:=by omega);subst this;exact H8 ⟨xs,a,rfl,hl,j,hm,p,o⟩
  |succ k ih=>
   (intro i a xs v h0 hl j hm p o;refine I5 (fun n=>qR n deep c i b a xs) (I4 aX8 (H6 (B b a hm) ?_));rintro _ _ ⟨x,e,h,f,m,A,u⟩;cases h;refine⟨rfl,?_⟩;obtain⟨dd,rfl⟩:∃ dd,d=dd+1:=by cases d with|zero=>exact f.elim|succ dd=>exact⟨dd,rfl⟩);have l:=f;obtain⟨q,t,ar,rfl,s,z⟩:=f;refine J5 (I4 (B2 (by unfold L9;omega)) ?_);have e1:i64.wrap (i+1)=i+1:=Q3;rw [e1];exact ih (i+1) e (xs++[E q t ar]) (by omega) (by omega) (by simp;omega) (fun y g=>by
    rcases D3.1 g with g|g
    ·exact j y g
    ·simp at g;subst g;exact l) m (by omega) (by rw [qJ];omega)
 refine I5 (fun n=>FK n deep c b a) (L4 (loop a c.toNat 0 a [] (by omega) (by omega) rfl (fun x j=>by cases j) hm (Int.le_refl _) (by simp [sL])) ?_ ?_)
 ·rintro ds ⟨ys,e,h,_⟩;cases h
 ·rintro ds ⟨ys,e,h,h1,H,G,F,C⟩;cases h;exact J5 (H8 ⟨ys,e,rfl,h1,H,G,F,C⟩)
def IN:∀ (d:Nat) (deep:Int),-1000≤deep→deep≤d+1→d≤100→∀ (b:List D) (a:Int),Mk b a→U (fun n=>T7 n deep (.Z 1 b) a) fun r=>∃ x p,r=(true,[x,.Z 1 b,iD p])∧gQ (d+1) x∧Mk b p∧a≤p∧((wE (d+1) x).length:Int)≤13*(p-a)+1:=by
 intro d
 induction d with
 |zero=>
  intro deep R F P b a0 hm;refine I5 (fun n=>vE n ..) ?_;(refine H6 (aY1 (by assumption)) ?_;rintro _ _ ⟨v,a,h,j,o,hm,e,f⟩;cases h;(try simp only [Y,D.i] at e f);refine⟨rfl,?_⟩);refine J5 (L4 (Q:=fun r=>∃ k:Int,r=(false,[iD deep,iD k,.bool true,.Z 1 b,iD a,iD 0,iD 0,iD 0,iD 0,.str [],.Z 6 []])∧(k=0∨k=1∨k=2)) (I5 (fun n=>qQ n ..) (I4 (E6 (by simpa using F)) (H8 ⟨_,rfl,?_⟩))) ?_ ?_)
  ·have e1:0≤v.tmod 3:=Int.tmod_nonneg 3 j;have q:v.tmod 3<3:=Int.tmod_lt_of_pos v (by decide);show v.tmod 3=0∨v.tmod 3=1∨v.tmod 3=2;omega
  ·rintro ds ⟨k,h,_⟩;cases h
  ·rintro ds ⟨k,h,u⟩;cases h;refine J5 ?_;rcases u with rfl|rfl|rfl
   ·refine J5 (H6 (kV (by assumption)) ?_);rintro _ _ ⟨s,a,h,g,hm,e⟩;cases h;(try simp only [Y,D.i] at e);refine⟨rfl,?_⟩;refine J5 ?_;exact H8 ⟨E 2 s [],a,rfl,⟨2,s,[],rfl,.inr (.inl ⟨rfl,g,rfl⟩),fun x m=>by cases m⟩,hm,by omega,by rw [uE (by decide)];omega⟩
   ·refine L3 (J5 (H6 (kV (by assumption)) ?_));rintro _ _ ⟨s,a,h,g,hm,e⟩;cases h;(try simp only [Y,D.i] at e);refine⟨rfl,?_⟩;refine J5 ?_;exact H8 ⟨E 2 s [],a,rfl,⟨2,s,[],rfl,.inr (.inl ⟨rfl,g,rfl⟩),fun x m=>by cases m⟩,hm,by omega,by rw [uE (by decide)];omega⟩
   ·refine L3 (L3 (J5 (H6 (RS (by assumption)) ?_)));rintro _ _ ⟨s,a,h,g,hm,e⟩;cases h;(try simp only [Y,D.i] at e);refine⟨rfl,?_⟩;refine J5 ?_;exact H8 ⟨E 1 s [],a,rfl,⟨1,s,[],rfl,.inl ⟨rfl,g,rfl⟩,fun x m=>by cases m⟩,hm,by omega,by rw [uE (by decide)];omega⟩
 |succ d ih=>
  intro deep R F P b a0 hm;have F:deep≤(d:Int)+1+1:=by simpa using F
  have e1:i64.wrap (deep-1)=deep-1:=Q3;have z:-999≤deep→∀ b a,Mk b a→U (fun n=>T7 n (i64.wrap (deep-1):Int) (.Z 1 b) a) fun r=>∃ x p,r=(true,[x,.Z 1 b,iD p])∧gQ (d+1) x∧Mk b p∧a≤p∧((wE (d+1) x).length:Int)≤13*(p-a)+1:=by intro h;rw [e1];exact ih (deep-1) (by omega) (by omega) (by omega)
  refine I5 (fun n=>vE n deep b a0) ?_;(refine H6 (aY1 (by assumption)) ?_;rintro _ _ ⟨v,a,h,j,o,hm,e,f⟩;cases h;(try simp only [Y,D.i] at e f);refine⟨rfl,?_⟩);refine J5 (L4 (Q:=fun r=>∃ k:Int,r=(false,[iD deep,iD k,.bool (decide (deep≤1)),.Z 1 b,iD a,iD 0,iD 0,iD 0,iD 0,.str [],.Z 6 []])∧0≤k∧k≤11∧(2<k→2≤deep)∧(k≠0→v≠0)) (I5 (fun n=>qQ n ..) (K0 (fun G=>H8 ⟨v.tmod 3,by rw [G];rfl,?_⟩) (fun G=>H8 ⟨v,by rw [G];rfl,j,by omega,fun _=>?_,fun h=>h⟩))) ?_ ?_)
  ·have e1:0≤v.tmod 3:=Int.tmod_nonneg 3 j;have q:v.tmod 3<3:=Int.tmod_lt_of_pos v (by decide);refine⟨e1,by omega,fun h=>(by omega),fun h h'=>h (by rw [h'];rfl)⟩
  ·have:=E9 G;omega
  ·rintro ds ⟨k,h,_⟩;cases h
  ·rintro ds ⟨k,h,hk0,hk1,O,N⟩;cases h;refine J5 (K0 (fun u=>?_) (fun M=>?_))
   ·refine H6 (kV (by assumption)) ?_;rintro _ _ ⟨s,a,h,g,hm,e⟩;cases h;(try simp only [Y,D.i] at e);refine⟨rfl,?_⟩;refine J5 ?_;exact H8 ⟨E 2 s [],a,rfl,⟨2,s,[],rfl,.inr (.inl ⟨rfl,g,rfl⟩),fun x m=>by cases m⟩,hm,by omega,by rw [uE (by decide)];omega⟩
   refine K0 (fun u=>?_) (fun L=>?_)
   ·refine H6 (kV (by assumption)) ?_;rintro _ _ ⟨s,a,h,g,hm,e⟩;cases h;(try simp only [Y,D.i] at e);refine⟨rfl,?_⟩;refine J5 ?_;exact H8 ⟨E 2 s [],a,rfl,⟨2,s,[],rfl,.inr (.inl ⟨rfl,g,rfl⟩),fun x m=>by cases m⟩,hm,by omega,by rw [uE (by decide)];omega⟩
   refine K0 (fun u=>?_) (fun K=>?_)
   ·refine H6 (RS (by assumption)) ?_;rintro _ _ ⟨s,a,h,g,hm,e⟩;cases h;(try simp only [Y,D.i] at e);refine⟨rfl,?_⟩;refine J5 ?_;exact H8 ⟨E 1 s [],a,rfl,⟨1,s,[],rfl,.inl ⟨rfl,g,rfl⟩,fun x m=>by cases m⟩,hm,by omega,by rw [uE (by decide)];omega⟩
   (have W:k≠0:=by simpa [Y,D.i] using M);have n1:k≠1:=by simpa [Y,D.i] using L
   (have n2:k≠2:=by simpa [Y,D.i] using K);have nv:=N W;have z:=z (by have:=O (by omega);omega);have y:∀ {b:List D} {a:Int},Mk b a→a0+1≤a→U (fun n=>bc iP.I6 (iP n) fun J=>bc J9.I6 (J9 n (21:Int) (.Z 1 b) a) fun C=>bif (inr (Y C 0).i ((Y J 0).l.length:Int)) then (gd (oX (.leaf .str) (ix (Y J 0).l (Y C 0).i)) (bc J7.I6 (J7 n (.int .i64 (i64.wrap (deep-(1:Int)))) (2:Int) (.Z 1 (Y C 1).l) (.int .i64 (Y C 2).i)) fun I=>ok [(.agg [(4:Int),(0:Int),(0:Int),(0:Int),(.str (ix (Y J 0).l (Y C 0).i).s),(.Z 6 (Y I 2).l)]),(.Z 1 (Y I 0).l),(.int .i64 (Y I 1).i)])) else none) fun r=>∃ x p,r=(true,[x,.Z 1 b,iD p])∧gQ (d+1+1) x∧Mk b p∧a0≤p∧((wE (d+1+1) x).length:Int)≤13*(p-a0)+1:=by intro b a hm hac;refine H6 aE9 ?_;rintro _ _ h;cases h;refine⟨rfl,?_⟩;refine J5 ?_;(refine H6 (aY1 (by assumption)) ?_;rintro _ _ ⟨v,a,h,j,o,hm,e,f⟩;cases h;(try simp only [Y,D.i] at e f);refine⟨rfl,?_⟩);refine J5 ?_;(refine I4 (L0 (E6 j) (E6 o)) ?_;obtain⟨s,g,A⟩:=RG (T:=Wm) j o;refine I4 (by exact congrArg (fun x=>dA (.leaf .str)&&kX (.leaf .str) x) A) ?_);(refine H6 (fX z (c:=2) (by decide) (by decide) (by assumption)) ?_;rintro _ _ ⟨xs,a,h,hl,m,hm,e,f⟩;cases h;(try simp only [Y,D.i] at e f);refine⟨rfl,?_⟩);refine J5 ?_;refine H8 ⟨E 4 s xs,a,?_,⟨4,s,xs,rfl,.inr (.inr (.inr (.inl ⟨rfl,g,hl⟩))),m⟩,hm,by omega,by have:=SJ (w:=wE (d+1)) (k:=4) (t:=s) (ar:=xs) (by decide) (.inr (.inr (.inr (.inl ⟨rfl,g,hl⟩))));rw [IM];omega⟩;exact congrArg (fun x:D=>(true,[D.agg [iD 4,iD 0,iD 0,iD 0,.str x.s,.Z 6 xs],.Z 1 b,iD a])) A
   refine K0 (fun u=>?_) (fun B=>?_)
   ·(refine H6 (aY1 (by assumption)) ?_;rintro _ _ ⟨v,a,h,j,o,hm,e,f⟩;cases h;(try simp only [Y,D.i] at e f);refine⟨rfl,?_⟩);refine J5 ?_;(refine I4 (L0 (E6 j) (E6 o)) ?_;obtain⟨s,g,A⟩:=RG (T:=Ts) j o;refine I4 (by exact congrArg (fun x=>dA (.leaf .str)&&kX (.leaf .str) x) A) ?_);(refine H6 (fX z (c:=1) (by decide) (by decide) (by assumption)) ?_;rintro _ _ ⟨xs,a,h,hl,m,hm,e,f⟩;cases h;(try simp only [Y,D.i] at e f);refine⟨rfl,?_⟩);refine J5 ?_;refine H8 ⟨E 3 s xs,a,?_,⟨3,s,xs,rfl,.inr (.inr (.inl ⟨rfl,g,hl⟩)),m⟩,hm,by omega,by have:=SJ (w:=wE (d+1)) (k:=3) (t:=s) (ar:=xs) (by decide) (.inr (.inr (.inl ⟨rfl,g,hl⟩)));rw [IM];omega⟩;exact congrArg (fun x:D=>(true,[D.agg [iD 3,iD 0,iD 0,iD 0,.str x.s,.Z 6 xs],.Z 1 b,iD a])) A
   refine K0 (fun u=>y (a:=a) (by assumption) (by omega)) (fun B=>K0 (fun u=>y (a:=a) (by assumption) (by omega)) (fun B=>K0 (fun u=>y (a:=a) (by assumption) (by omega)) (fun B=>K0 (fun u=>?_) (fun B=>?_))))
   ·(refine H6 (fX z (c:=3) (by decide) (by decide) (by assumption)) ?_;rintro _ _ ⟨xs,a,h,hl,m,hm,e,f⟩;cases h;(try simp only [Y,D.i] at e f);refine⟨rfl,?_⟩);refine J5 ?_;exact H8 ⟨E 5 [] xs,a,rfl,⟨5,[],xs,rfl,.inr (.inr (.inr (.inr (.inl ⟨rfl,rfl,hl⟩)))),m⟩,hm,by omega,by have:=SJ (w:=wE (d+1)) (k:=5) (t:=[]) (ar:=xs) (by decide) (.inr (.inr (.inr (.inr (.inl ⟨rfl,rfl,hl⟩)))));rw [IM];omega⟩
   refine K0 (fun u=>?_) (fun B=>?_)
   ·(refine H6 (aY1 (by assumption)) ?_;rintro _ _ ⟨v,a,h,j,o,hm,e,f⟩;cases h;(try simp only [Y,D.i] at e f);refine⟨rfl,?_⟩);refine J5 ?_;have q:i64.wrap (1+v)=1+v:=Q3;refine H6 (fX z (c:=i64.wrap (1+v)) (by rw [q];omega) (by rw [q];omega) (by assumption)) ?_;rintro _ _ ⟨xs,a,h,hl,m,hm,e,f⟩;cases h;(try simp only [Y,D.i] at e f);refine⟨rfl,?_⟩;refine J5 ?_;rw [q] at hl;exact H8 ⟨E 6 [] xs,a,rfl,⟨6,[],xs,rfl,.inr (.inr (.inr (.inr (.inr (.inl ⟨rfl,rfl,by omega,by omega⟩))))),m⟩,hm,by omega,by have:=SJ (w:=wE (d+1)) (k:=6) (t:=[]) (ar:=xs) (by decide) (.inr (.inr (.inr (.inr (.inr (.inl ⟨rfl,rfl,by omega,by omega⟩))))));rw [IM];omega⟩
   refine K0 (fun u=>?_) (fun B=>?_)
   ·(refine H6 (aY1 (by assumption)) ?_;rintro _ _ ⟨v,a,h,j,o,hm,e,f⟩;cases h;(try simp only [Y,D.i] at e f);refine⟨rfl,?_⟩);refine J5 ?_;have q:i64.wrap (2+v)=2+v:=Q3;refine H6 (fX z (c:=i64.wrap (2+v)) (by rw [q];omega) (by rw [q];omega) (by assumption)) ?_;rintro _ _ ⟨xs,a,h,hl,m,hm,e,f⟩;cases h;(try simp only [Y,D.i] at e f);refine⟨rfl,?_⟩;refine J5 ?_;rw [q] at hl;exact H8 ⟨E 7 [] xs,a,rfl,⟨7,[],xs,rfl,.inr (.inr (.inr (.inr (.inr (.inr (.inl ⟨rfl,rfl,by omega,by omega⟩)))))),m⟩,hm,by omega,by have:=SJ (w:=wE (d+1)) (k:=7) (t:=[]) (ar:=xs) (by decide) (.inr (.inr (.inr (.inr (.inr (.inr (.inl ⟨rfl,rfl,by omega,by omega⟩)))))));rw [IM];omega⟩
   refine K0 (fun u=>?_) (fun B=>?_)
   ·(refine H6 (aY1 (by assumption)) ?_;rintro _ _ ⟨v,a,h,j,o,hm,e,f⟩;cases h;(try simp only [Y,D.i] at e f);refine⟨rfl,?_⟩);refine J5 ?_;have X:v=0∨v=1:=by omega
    rcases X with rfl|rfl
    ·refine J5 (J5 (H6 (kV (by assumption)) ?_));rintro _ _ ⟨s,a,h,g,hm,e⟩;cases h;(try simp only [Y,D.i] at e);refine⟨rfl,?_⟩;refine J5 (H6 (fX z (c:=i64.wrap (1+0)) (by decide) (by decide) (by assumption)) ?_);rintro _ _ ⟨xs,a,h,hl,m,hm,e,f⟩;cases h;(try simp only [Y,D.i] at e f);refine⟨rfl,?_⟩;refine J5 ?_;exact H8 ⟨E 8 s xs,a,rfl,⟨8,s,xs,rfl,.inr (.inr (.inr (.inr (.inr (.inr (.inr (.inl ⟨rfl,g,hl⟩))))))),m⟩,hm,by omega,by have:=SJ (w:=wE (d+1)) (k:=8) (t:=s) (ar:=xs) (by decide) (.inr (.inr (.inr (.inr (.inr (.inr (.inr (.inl ⟨rfl,g,hl⟩))))))));rw [IM];omega⟩
    ·refine J5 (J5 (H6 (kV (by assumption)) ?_));rintro _ _ ⟨s,a,h,g,hm,e⟩;cases h;(try simp only [Y,D.i] at e);refine⟨rfl,?_⟩;refine J5 (H6 (fX z (c:=i64.wrap (1+1)) (by decide) (by decide) (by assumption)) ?_);rintro _ _ ⟨xs,a,h,hl,m,hm,e,f⟩;cases h;(try simp only [Y,D.i] at e f);refine⟨rfl,?_⟩;refine J5 ?_;exact H8 ⟨E 9 s xs,a,rfl,⟨9,s,xs,rfl,.inr (.inr (.inr (.inr (.inr (.inr (.inr (.inr (.inl ⟨rfl,g,hl⟩)))))))),m⟩,hm,by omega,by have:=SJ (w:=wE (d+1)) (k:=9) (t:=s) (ar:=xs) (by decide) (.inr (.inr (.inr (.inr (.inr (.inr (.inr (.inr (.inl ⟨rfl,g,hl⟩)))))))));rw [IM];omega⟩
   ·(refine H6 (aY1 (by assumption)) ?_;rintro _ _ ⟨v,a,h,j,o,hm,e,f⟩;cases h;(try simp only [Y,D.i] at e f);refine⟨rfl,?_⟩);refine J5 ?_;(refine I4 (L0 (E6 j) (E6 o)) ?_;obtain⟨s,g,A⟩:=RG (T:=KU) j o;refine I4 (by exact congrArg (fun x=>dA (.leaf .str)&&kX (.leaf .str) x) A) ?_);refine H6 (aY1 (by assumption)) ?_;rintro _ _ ⟨H,a,h,V,S,hm,e,f⟩;cases h;(try simp only [Y,D.i] at e f);refine⟨rfl,?_⟩;refine J5 ?_;have q:i64.wrap (1+H)=1+H:=Q3;refine H6 (fX z (c:=i64.wrap (1+H)) (by rw [q];omega) (by rw [q];omega) (by assumption)) ?_;rintro _ _ ⟨xs,a,h,hl,m,hm,e,f⟩;cases h;(try simp only [Y,D.i] at e f);refine⟨rfl,?_⟩;refine J5 ?_;rw [q] at hl;refine H8 ⟨E 10 s xs,a,?_,⟨10,s,xs,rfl,.inr (.inr (.inr (.inr (.inr (.inr (.inr (.inr (.inr ⟨rfl,g,by omega,by omega⟩)))))))),m⟩,hm,by omega,by have:=SJ (w:=wE (d+1)) (k:=10) (t:=s) (ar:=xs) (by decide) (.inr (.inr (.inr (.inr (.inr (.inr (.inr (.inr (.inr ⟨rfl,g,by omega,by omega⟩)))))))));rw [IM];omega⟩;exact congrArg (fun x:D=>(true,[D.agg [iD 10,iD 0,iD 0,iD 0,.str x.s,.Z 6 xs],.Z 1 b,iD a])) A
def Vv {w v:D→List Tk}{k:Int}{t:G1}{ar:List D}(g:FT k t ar.length)(h:∀ x∈ar,w x=v x):kW w k t ar=kW v k t ar:=by
 have hl:∀ xs:List D,(∀ x∈xs,w x=v x)→lW w xs=lW v xs:=by
  intro xs
  induction xs with
  |nil=>intro _;rfl
  |cons x r ih=>
   intro h
   cases r with
   |nil=>exact h x (B8 ..)
   |cons y r=>show w x++((3,[44])::lW w (y::r))=v x++((3,[44])::lW v (y::r));rw [h x (B8 ..),ih fun z f=>h z (C0 _ f)]
 have d:∀ x,w x=v x→aW w x=aW v x:=fun x h=>by unfold aW;rw [h]
 rcases g with ⟨rfl,_,hm⟩|⟨rfl,_,hm⟩|⟨rfl,_,hm⟩|⟨rfl,_,hm⟩|⟨rfl,_,hm⟩|⟨rfl,_,hm,e⟩|⟨rfl,_,hm,e⟩|⟨rfl,_,hm⟩|⟨rfl,_,hm⟩|⟨rfl,_,hm,e⟩
 ·rfl
 ·rfl
 ·match ar,hm,h with
  |[a],_,h=>show [(3,t)]++aW w a=[(3,t)]++aW v a;rw [d a (h a (by simp))]
 ·match ar,hm,h with
  |[a,b],_,h=>show aW w a++([(3,t)]++aW w b)=aW v a++([(3,t)]++aW v b);rw [d a (h a (by simp)),d b (h b (by simp))]
 ·match ar,hm,h with
  |[a,b,c],_,h=>show aW w a++([(3,[63])]++(aW w b++([(3,[58])]++aW w c)))=aW v a++([(3,[63])]++(aW v b++([(3,[58])]++aW v c)));rw [d a (h a (by simp)),d b (h b (by simp)),d c (h c (by simp))]
 ·show [(3,[123])]++(lW w ar++[(3,[125])])=[(3,[123])]++(lW v ar++[(3,[125])]);rw [hl ar h]
 ·match ar,hm,h with
  |a::r,_,h=>show [(3,[123])]++(w a++([(3,[123])]++(lW w r++[(3,[125]),(3,[125])])))=[(3,[123])]++(v a++([(3,[123])]++(lW v r++[(3,[125]),(3,[125])])));rw [h a (B8 ..),hl r fun z f=>h z (C0 _ f)]
 ·match ar,hm,h with
  |[a],_,h=>show [(1,t),(3,[91])]++(w a++[(3,[93])])=[(1,t),(3,[91])]++(v a++[(3,[93])]);rw [h a (by simp)]
 ·match ar,hm,h with
  |[a,b],_,h=>show [(1,t),(3,[91])]++(w a++([(3,[58])]++(w b++[(3,[93])])))=[(1,t),(3,[91])]++(v a++([(3,[58])]++(v b++[(3,[93])])));rw [h a (by simp),h b (by simp)]
 ·show [(1,t),(3,[40])]++(lW w ar++[(3,[41])])=[(1,t),(3,[40])]++(lW v ar++[(3,[41])]);rw [hl ar h]
def Jx:∀ {n:Nat} {x:D},gQ n x→wE (n+1) x=wE n x
 |0,_,h=>h.elim
 |n+1,_,⟨k,t,ar,e,c,b⟩=>by subst e;show kW (wE (n+1)) k t ar=kW (wE n) k t ar;exact Vv c fun x a=>Jx (b x a)
def RO:∀ {m n:Nat} {x:D},n≤m→gQ n x→wE m x=wE n x
 |0,n,x,hm,h=>by
  have:n=0:=by omega
  subst this;rfl
 |m+1,n,x,hm,h=>by
  by_cases e:n=m+1
  ·subst e;rfl
  ·rw [Jx (iL (by omega) h)];exact RO (by omega) h
def NK {w v:D→List Tk}:∀ {xs:List D},(∀ x∈xs,w x=v x)→sL w xs=sL v xs
 |[],_=>rfl
 |x::xs,h=>by simp only [sL];rw [h x (B8 ..),NK fun z a=>h z (C0 _ a)]
def VP (d:Nat)(i:d≤3){b:List D}{a:Int}(hm:Mk b a):U (fun n=>T7 n ((d+1:Nat):Int) (.Z 1 b) a) fun r=>∃ x c,r=(true,[x,.Z 1 b,iD c])∧gQ (d+1) x∧Mk b c∧a≤c∧((wE 4 x).length:Int)≤13*(c-a)+1:=(IN d _ (by omega) (by omega) (by omega) b a hm).mono fun _ ⟨x,c,h1,e,h,g,f⟩=>⟨x,c,h1,e,h,g,by rw [RO (by omega) e];exact f⟩
def dM (d:Nat)(o:d≤3){c:Int}(i:0≤c)(f:c≤100){b:List D}{a:Int}(hm:Mk b a):U (fun n=>J7 n ((d+1:Nat):Int) c (.Z 1 b) a) fun r=>∃ xs e,r=(true,[.Z 1 b,iD e,.Z 6 xs])∧xs.length=c.toNat∧(∀ x∈xs,gQ (d+1) x)∧Mk b e∧a≤e∧(sL (wE 4) xs:Int)≤13*(e-a)+c:=(fX (fun b a hm=>IN d _ (by omega) (by omega) (by omega) b a hm) i f hm).mono fun _ ⟨xs,e,h1,m,g,l,k,j⟩=>⟨xs,e,h1,m,g,l,k,by rw [NK fun x h=>RO (by omega) (g x h)];exact j⟩
section
def MG:G1:=[119,105,114,101]
def mQ:G1:=[114,101,103]
def kP:G1:=[105,110,116,101,103,101,114]
def RU:G1:=[105,110,112,117,116]
def oW:G1:=[111,117,116,112,117,116]
def dC:G1:=[111,117,116,112,117,116,32,114,101,103]
def sD:G1:=[108,111,99,97,108,112,97,114,97,109]
def sR:G1:=[112,97,114,97,109,101,116,101,114]
def AN:G1:=[99,108,107]
def wL:G1:=[115,117,98]
abbrev NT:=List (G1×Nat×Bool)
def wO:NT:=[(MG,2,false)]
def KH:NT:=[(mQ,4,true),(kP,0,false)]
def oN:NT:=[(RU,2,false),(oW,2,false),(dC,2,true)]
def DI:NT:=[(RU,2,false),(mQ,2,false),(kP,0,false)]
def xN (T:NT)(x:D):Prop:=∃ nm ty q f sg es fs,x=I 1 nm ty sg es fs [] [] [] [] []∧nm∈dP∧(ty,q,f)∈T∧(ty=kP→sg=true)∧es.length≤q∧(es.length=0∨es.length=2∨es.length=4)∧(fs=[]∨(f=true∧fs.length=1∧es.length≤2))∧(∀ e∈es,gQ 4 e)∧∀ e∈fs,gQ 4 e
def xC (x:D):Prop:=∃ nm es,x = .agg [.str nm,.Z 6 es]∧nm∈dP∧es.length≤1∧∀ e∈es,gQ 4 e
def gB (t:G1)(its:List D):D:=I 11 t [] false [] [] [] its [] [] []
def xI:Nat→D→Prop
 |0,_=>False
 |n+1,x=>(xN wO x∨xN KH x)∨(∃ nm e,x=I 2 nm sD false [e] [] [] [] [] [] []∧nm∈dP∧gQ 4 e)∨(∃ nm,x=I 3 nm [] false [] [] [] [] [] [] []∧nm∈dP)∨
  (∃ l e,x=I 4 [] [] false [l,e] [] [] [] [] [] []∧isLeft l∧gQ 4 e)∨(∃ s,x=I 5 [] [] false [] [] [s] [] [] [] []∧uN 4 s)∨(∃ s,x=I 6 AN [] false [] [] [s] [] [] [] []∧uN 4 s)∨
  (∃ sg es its s,x=I 7 [102] [] sg es [] [s] its [] [] []∧(es.length=0∨es.length=2)∧(∀ e∈es,gQ 4 e)∧1≤its.length∧its.length≤2∧(∀ i∈its,xN DI i)∧uN 4 s)∨
  (∃ k ps qs,x=I 8 [117,48+k] wL false [] [] [] [] [] ps qs∧k.toNat≤8∧ps.length≤2∧qs.length≤2∧(∀ c∈ps,xC c)∧∀ c∈qs,xC c)∨
  (∃ es its,x=I 9 [105] [] false es [] [] [gB [103] its] [] [] []∧es.length=3∧(∀ e∈es,gQ 4 e)∧its.length≤2∧∀ i∈its,xI n i)∨
  (∃ e its els,x=I 10 [] [] false [e] [] [] [gB [116] its] els [] []∧gQ 4 e∧its.length≤2∧(∀ i∈its,xI n i)∧(els=[]∨∃ ys,els=[gB [101] ys]∧ys.length≤2∧∀ i∈ys,xI n i))
def vH {T:NT}{x:D}(h:xN T x):∃ nm ty sg es fs,x=I 1 nm ty sg es fs [] [] [] [] []:=by obtain⟨nm,ty,q,f,sg,es,fs,h0,_⟩:=h;exact⟨nm,ty,sg,es,fs,h0⟩
def Xn {n:Nat}{x:D}(h:xI n x):∃ k nm ty sg es fs bs its els ps qs,x=I k nm ty sg es fs bs its els ps qs:=by
 cases n with
 |zero=>exact h.elim
 |succ n=>rcases h with (⟨nm,ty,q,f,sg,es,fs,rfl,_⟩|⟨nm,ty,q,f,sg,es,fs,rfl,_⟩)|⟨nm,e,rfl,_⟩|⟨nm,rfl,_⟩|⟨l,e,rfl,_⟩|⟨s,rfl,_⟩|⟨s,rfl,_⟩|⟨sg,es,its,s,rfl,_⟩|⟨k,ps,qs,rfl,_⟩|⟨es,its,rfl,_⟩|⟨e,its,els,rfl,_⟩;all_goals exact⟨_,_,_,_,_,_,_,_,_,_,_,rfl⟩
def Kd {v:Int}(h0:0≤v)(h1:v≤9):U (fun n=>mB n v) fun r=>r=(true,[.str [48+UInt8.ofNat v.toNat]]):=by
 have e:∀ k:Nat,k<10→(List.map toByte ([(.int .u8 (IntKind.u8.wrap (i64.wrap ((48:Int)+(k:Int)))))]:List D))++[]=[48+UInt8.ofNat k]:=by decide +kernel
 refine I5 (fun n=>YM n v) (L4 (Q:=fun r=>r=(false,[iD v,.str []])) (I5 (fun n=>MP n v []) (N8 aY0 (H8 rfl))) (fun ds h=>by cases h) fun ds h=>?_);cases h;obtain⟨k,rfl⟩:∃ k:Nat,v=(k:Int):=⟨v.toNat,by omega⟩;refine J5 (I4 (E6 (by show 1+0≤Z5;simp only [Z5];omega)) (H8 ?_));show (true,[D.str _])=_;rw [show ((k:Nat):Int).toNat=k from rfl,← e k (by omega)];rfl
section
variable {b:List D} {a:Int}
def aN5 (T:NT)(c:Int)(ty:G1):Bool:=T.any fun p=>(p.1==ty&&(bif ty==kP then p.2.1==0 else decide ((p.2.1:Int)=2*c)))&&(!(decide (c=2)&&(ty==mQ||ty==dC))||p.2.2)
end
end
def xP (x:D):Prop:=∃ nm e,x=I 2 nm sR false [e] [] [] [] [] [] []∧nm∈dP∧gQ 4 e
def xM (k:Nat)(x:D):Prop:=∃ ps qs its,x=M [109,48+UInt8.ofNat k] ps qs its∧ps.length≤2∧qs.length≤3∧its.length≤5∧(∀ p∈ps,xP p)∧(∀ q∈qs,xN oN q)∧∀ i∈its,xI 4 i
def Ul (ms:List D):Prop:=∀ (k:Nat) (h:k<ms.length),xM k ms[k]
def Uc {ms:List D}{x:D}(h:Ul ms)(a:xM ms.length x):Ul (ms++[x]):=fun k b=>by
 by_cases e:k<ms.length
 ·rw [F6 e];exact h k e
 ·have:k=ms.length:=by rw [A7,C9] at b;omega
  subst this;simpa using a
def Xo:Ul []:=fun k h=>by cases h
def aM:G1:=[98,101,103,105,110]
def iU:G1:=[101,110,100]
def zD:G1:=[105,102]
def iM:G1:=[101,108,115,101]
def sV:G1:=[99,97,115,101]
def gS:G1:=[101,110,100,99,97,115,101]
def AQ:G1:=[100,101,102,97,117,108,116]
def yZ:G1:=[102,111,114]
def rR:G1:=[97,115,115,101,114,116]
def pW (e:D):List Tk:=[(3,[40])]++(wE 4 e++[(3,[41])])
def x0 (l:List D):D:=l[0]?.getD .top
def x1 (l:List D):D:=l[1]?.getD .top
def x2 (l:List D):D:=l[2]?.getD .top
def dX (t:G1)(es:List D):List Tk:=
 [(1,yZ),(3,[40]),(1,t),(3,[61])]++(wE 4 (x0 es)++([(3,[59])]++(wE 4 (x1 es)++([(3,[59]),(1,t),(3,[61])]++(wE 4 (x2 es)++[(3,[41])])))))
def IU (a:D):D:= .agg (a.cells.drop 1)
def lE (w:D→List Tk)(a:D):List Tk:=(bif (a.at_ 0).l.isEmpty then [(1,AQ)] else [])++(lW (wE 4) (a.at_ 0).l++([(3,[58])]++w (IU a)))
def sW (w:D→List Tk)(k:Int)(t:G1)(es bs zs:List D):List Tk:=
 bif k==1 then [(1,aM)]++(bs.flatMap w++[(1,iU)])
 else bif k==2 then wE 4 (x0 es)++([(3,[61])]++(wE 4 (x1 es)++[(3,[59])]))
 else bif k==3 then wE 4 (x0 es)++([(3,[60,61])]++(wE 4 (x1 es)++[(3,[59])]))
 else bif k==4 then [(1,zD)]++(pW (x0 es)++(w (x0 bs)++(bif ((x1 bs).at_ 0).i==8 then [] else [(1,iM)]++w (x1 bs))))
 else bif k==5 then [(1,sV)]++(pW (x0 es)++(zs.flatMap (lE w)++[(1,gS)]))
 else bif k==6 then dX t es++w (x0 bs)
 else bif k==7 then (bif t.isEmpty then [] else [(1,t),(3,[58])])++([(1,rR)]++(pW (x0 es)++[(3,[59])]))
 else [(3,[59])]
def wS:Nat→D→List Tk
 |0,_=>[]
 |n+1,x=>sW (wS n) (x.at_ 0).i (x.at_ 1).s (x.at_ 2).l (x.at_ 3).l (x.at_ 4).l
def aQ1 (n:Nat)(k:Int)(t:G1)(es bs zs:List D):wS (n+1) (S k t es bs zs)=sW (wS n) k t es bs zs:=rfl
def To {es:List D}{s:D}{n:Nat}(h:uN n s):IU (arm es s)=s:=by
 cases n with
 |zero=>exact h.elim
 |succ n=>obtain⟨k,t,fs,bs,zs,rfl,_⟩:=h;rfl
def aK7 (es:List D)(s:D):((arm es s).at_ 0).l=es:=rfl
def pI:G1:=[115,105,103,110,101,100]
def MK:G1:=[103,101,110,118,97,114]
def tO:G1:=[97,115,115,105,103,110]
def qK:G1:=[97,108,119,97,121,115]
def KE:G1:=[112,111,115,101,100,103,101]
def FA:G1:=[102,117,110,99,116,105,111,110]
def pS:G1:=[101,110,100,102,117,110,99,116,105,111,110]
def yU:G1:=[109,111,100,117,108,101]
def rV:G1:=[101,110,100,109,111,100,117,108,101]
def qV (es:List D):List Tk:=match es with
 |[]=>[]
 |[x]=>[(3,[91])]++(wE 4 x++[(3,[93])])
 |x::y::_=>[(3,[91])]++(wE 4 x++([(3,[58])]++(wE 4 y++[(3,[93])])))
def nW (nm ty:G1)(sg:Bool)(es fs:List D):List Tk:=
 (bif ty==dC then [(1,oW),(1,mQ)] else [(1,ty)])++((bif sg&&!(ty==kP) then [(1,pI)] else [])++(qV (es.take 2)++([(1,nm)]++(qV (es.drop 2)++(bif fs.isEmpty then [] else [(3,[61])]++wE 4 (x0 fs))))))
def cW (c:D):List Tk:=[(3,[46]),(1,(c.at_ 0).s),(3,[40])]++(lW (wE 4) (c.at_ 1).l++[(3,[41])])
def rA (xs:List D):List Tk:=[(3,[40])]++(lW cW xs++[(3,[41])])
def JC (w:D→List Tk)(g:D):List Tk:=[(1,aM),(3,[58]),(1,(g.at_ 1).s)]++((g.at_ 7).l.flatMap w++[(1,iU)])
def IT (q:D):List Tk:=nW (q.at_ 1).s (q.at_ 2).s (q.at_ 3).b (q.at_ 4).l (q.at_ 5).l++[(3,[59])]
def iW (w:D→List Tk)(k:Int)(nm ty:G1)(sg:Bool)(es fs bs its els ps qs:List D):List Tk:=
 bif k==1 then nW nm ty sg es fs++[(3,[59])]
 else bif k==2 then [(1,ty),(1,nm),(3,[61])]++(wE 4 (x0 es)++[(3,[59])])
 else bif k==3 then [(1,MK),(1,nm),(3,[59])]
 else bif k==4 then [(1,tO)]++(wE 4 (x0 es)++([(3,[61])]++(wE 4 (x1 es)++[(3,[59])])))
 else bif k==5 then [(1,qK),(3,[64]),(3,[42])]++wS 4 (x0 bs)
 else bif k==6 then [(1,qK),(3,[64]),(3,[40]),(1,KE),(1,nm),(3,[41])]++wS 4 (x0 bs)
 else bif k==7 then [(1,FA)]++((bif sg then [(1,pI)] else [])++(qV es++([(1,nm),(3,[59])]++(its.flatMap IT++(wS 4 (x0 bs)++[(1,pS)])))))
 else bif k==8 then [(1,ty)]++((bif ps.isEmpty then [] else [(3,[35])]++rA ps)++([(1,nm)]++(rA qs++[(3,[59])])))
 else bif k==9 then dX nm es++its.flatMap (JC w)
 else [(1,zD)]++(pW (x0 es)++(its.flatMap (JC w)++(bif els.isEmpty then [] else [(1,iM)]++els.flatMap (JC w))))
def wI:Nat→D→List Tk
 |0,_=>[]
 |n+1,x=>iW (wI n) (x.at_ 0).i (x.at_ 1).s (x.at_ 2).s (x.at_ 3).b (x.at_ 4).l (x.at_ 5).l (x.at_ 6).l (x.at_ 7).l (x.at_ 8).l (x.at_ 9).l (x.at_ 10).l
def uI (p:D):List Tk:=[(1,(p.at_ 2).s),(1,(p.at_ 1).s),(3,[61])]++wE 4 (x0 (p.at_ 4).l)
def mN (q:D):List Tk:=nW (q.at_ 1).s (q.at_ 2).s (q.at_ 3).b (q.at_ 4).l (q.at_ 5).l
def mW (nm:G1)(ps qs its:List D):List Tk:=
 [(1,yU),(1,nm)]++((bif ps.isEmpty then [] else [(3,[35]),(3,[40])]++(lW uI ps++[(3,[41])]))++([(3,[40])]++(lW mN qs++([(3,[41]),(3,[59])]++(its.flatMap (wI 4)++[(1,rV)])))))
def wM (x:D):List Tk:=mW (x.at_ 0).s (x.at_ 1).l (x.at_ 2).l (x.at_ 3).l
def XJ (w:D→List Tk)(x:D):∀ l:List D,lW w (l++[x])=lW w l++((bif l.isEmpty then [] else [(3,[44])])++w x)
 |[]=>rfl
 |[y]=>by show w y++((3,[44])::w x)=w y++([(3,[44])]++w x);rfl
 |y::z::r=>by have ih:=XJ w x (z::r);show w y++((3,[44])::lW w ((z::r)++[x]))=(w y++((3,[44])::lW w (z::r)))++([(3,[44])]++w x);rw [ih];simp
def sQ (q:D→Nat):List D→Nat
 |[]=>0
 |x::xs=>q x+sQ q xs
def aY5 (q:D→Nat)(k:Int)(bs zs:List D):Nat:=
 1+(bif k==4 then q (x0 bs)+(bif ((x1 bs).at_ 0).i==8 then 0 else q (x1 bs)) else sQ q bs+sQ (fun a=>q (IU a)) zs)
def qS:Nat→D→Nat
 |0,_=>0
 |n+1,x=>aY5 (qS n) (x.at_ 0).i (x.at_ 3).l (x.at_ 4).l
def aY4 (n:Nat)(k:Int)(t:G1)(es bs zs:List D):qS (n+1) (S k t es bs zs)=aY5 (qS n) k bs zs:=rfl
def aY6 (q:D→Nat)(k:Int)(bs its els:List D):Nat:=
 1+(bif k==7 then qS 4 (x0 bs) else sQ (qS 4) bs+sQ (fun g=>sQ q (g.at_ 7).l) its+sQ (fun g=>sQ q (g.at_ 7).l) els)
def qI:Nat→D→Nat
 |0,_=>0
 |n+1,x=>aY6 (qI n) (x.at_ 0).i (x.at_ 6).l (x.at_ 7).l (x.at_ 8).l
section
def SH (n:Nat):Nat:=n+10
abbrev PW:=Nat→D→D→D→D→D→D→D→D→Out
def Pq (F:PW)(l:List D)(i m q:Nat)(R:D→Prop)(h:Nat):Prop:=
 ∀ d c O V W:Int,0≤d→d+h≤40→0≤c→c+q≤4000→U (fun n=>F n (.Z 5 l) (i:Int) d c O V W (0:Int)) fun r=>∃ y,R y∧r=(true,[y,.Z 5 l,iD ((i+m:Nat):Int),iD d,iD (c+(q:Int)),iD O,iD V,iD W,iD 0])
def Nw (l:List D)(j:Nat):Prop:=∃ k t a b e,l[j]? = some (tk k t a b e)∧(t==iM)=false
def K1 {l:List D}{i:Nat}{k:Int}{t:G1}{ws:List Tk}(h:K6 l i ((k,t)::ws)):∃ a b e,l[i]? = some (tk k t a b e):=h.1
def M0 {l:List D}{i:Nat}{k:Int}{t:G1}{ws:List Tk}(h:K6 l i ((k,t)::ws)):K6 l (i+1) ws:=h.2
def fM {l:List D}{i:Nat}{w:Tk}{ws:List Tk}(h:K6 l i ([w]++ws)):K6 l i (w::ws):=h
def Up {l:List D}{i j:Nat}{ws:List Tk}(h:K6 l i ws)(e:i=j):K6 l j ws:=e▸h
def SA {l:List D}{i j:Nat}{x:D}(h:l[i]? = some x)(e:i=j):l[j]? = some x:=e▸h
section
variable {l:List D} (hl:l.length≤1000000)
def aM0 (hl:l.length≤1000000){x:D}(c:gQ 4 x){i:Nat}(d:K6 l i (wE 4 x)){k:Int}{t:G1}{a b e:Int}(f:l[i+(wE 4 x).length]? = some (tk 3 t a b e))(g:cl t=true):Ph pG l i (wE 4 x).length (fun y=>OE 4 x y) 8:=(((core hl 4 x c) i d).2 ⟨t,a,b,e,f,g⟩).mono (fun _ h=>TK c h) (B9 _)
def Ny {n:Nat}{x y:D}(h:OE n x y):GA y:=by obtain⟨k,t,ar,a,b,e,c,_,rfl⟩:=dW h;exact⟨_,_,_,_,_,_,rfl⟩
def aU0 {n:Nat}{x y:D}(h:OE n x y):K4 J0 y=y:=by obtain⟨k,t,ar,a,b,e,c,_,rfl⟩:=dW h;rfl
def AW (hl:l.length≤1000000){x:D}(f:gQ 4 x){i:Nat}(g:K6 l i (wE 4 x)){t:G1}{a b e:Int}(h:l[i+(wE 4 x).length]? = some (tk 3 t a b e))(o:cl t=true)(d c O V W:Int)(m:0≤d)(j:d≤32) :U (fun n=>I9 n (.Z 5 l) (i:Int) d c O V W (0:Int)) fun r=>∃ y,OE 4 x y∧r=(true,[y,.Z 5 l,iD ((i+(wE 4 x).length:Nat):Int),iD d,iD c,iD O,iD V,iD W,iD 0]):=aM0 hl f g (k:=3) h o d c O V W m (by omega)
def wC (hl:l.length≤1000000){x:D}(m:gQ 4 x){i:Nat}(f:K6 l i (pW x))(d c O V W:Int)(o:0≤d)(h:d≤32) :U (fun n=>R9 n (.Z 5 l) (i:Int) d c O V W (0:Int)) fun r=>∃ y,OE 4 x y∧r=(true,[y,.Z 5 l,iD ((i+(pW x).length:Nat):Int),iD d,iD c,iD O,iD V,iD W,iD 0]):=by have f:K6 l i ((3,[40])::(wE 4 x++[(3,[41])])):=f;obtain⟨a,b,e,h1⟩:=K1 f;obtain⟨p,g⟩:=L6.1 (M0 f);obtain⟨a3,w,u,g⟩:=K1 g;have X:=AW hl m p g rfl d c O V W o h;refine I5 (fun n=>mI n ..) (M3 (M8 d c O V W hl [[40]] (by decide) (S7 h1 rfl)) (H6 X ?_));rintro _ ds ⟨y,j,h0⟩;cases h0;obtain⟨k,t,ar,a4,v,s,q,_,rfl⟩:=dW j;refine⟨rfl,J5 (M3 (M8 d c O V W hl [[41]] (by decide) (S7 g rfl)) (H8 ⟨_,j,?_⟩))⟩;rw [show i+(pW x).length=i+1+(wE 4 x).length+1 from by simp only [pW,G0];omega];rfl
def Jq (hl:l.length≤1000000){x:D}(R:isLeft x){i:Nat}(f:K6 l i (wE 4 x)){k:Int}{t:G1}{a b e:Int}(p:l[i+(wE 4 x).length]? = some (tk k t a b e))(hc:(t==[91])=false)(d c O V W:Int)(N:0≤d)(hd2:d≤32) :U (fun n=>Q1 n (.Z 5 l) (i:Int) d c O V W (0:Int)) fun r=>∃ y,OE 4 x y∧r=(true,[y,.Z 5 l,iD ((i+(wE 4 x).length:Nat):Int),iD d,iD c,iD O,iD V,iD W,iD 0]):=by
 obtain⟨k0,j,ar,rfl,m,T,ha⟩:=R;have g:∀ z∈ar,gQ 3 z:=fun z o=>iL (by decide) (ha z o);have C:=rG (vN m);rcases T with ⟨rfl,hm⟩|⟨rfl,hm⟩|⟨rfl,hm⟩
 ·have:ar=[]:=E5.1 hm;subst this;have f:K6 l i [(1,j)]:=f;obtain⟨a1,J,e1,h1⟩:=K1 f;have p:l[i+1]? = some (tk k t a b e):=p;refine (FV d c O V W hl h1 C p hc).mono fun r s=>⟨_,?_,s⟩;exact⟨2,j,[],a1,J,e1,[],rfl,rfl,.inr (.inl ⟨rfl,m,rfl⟩),rfl,fun i h=>absurd h (by simp)⟩
 ·match ar,hm,g,f,p with
  |[z],_,g,f,p=>
   have o:=g z (by simp);have f:K6 l i ((1,j)::(3,[91])::(wE 3 z++[(3,[93])])):=f;obtain⟨a1,J,e1,h1⟩:=K1 f;obtain⟨a2,b2,e2,G⟩:=K1 (M0 f);obtain⟨F,q⟩:=L6.1 (M0 (M0 f));obtain⟨a4,b4,e4,q⟩:=K1 q;have X:=(((core hl 3 z o) _ F).2 ⟨_,_,_,_,q,rfl⟩).mono (R':=fun y=>OE 3 z y) (fun _ h=>TK o h) (B9 _);have L:=QG hl (fun y h=>Ny h) C ⟨_,_,_,h1⟩ ⟨_,_,_,G⟩ X ⟨_,_,_,q⟩ d c O V W N (by show d+6≤40;omega);refine L.mono fun r ⟨y,⟨K,I,H,u,A,B⟩,s⟩=>⟨y,?_,?_⟩
   ·exact⟨8,j,[z],K,I,H,[u],rfl,A,.inr (.inr (.inr (.inr (.inr (.inr (.inr (.inl ⟨rfl,m,rfl⟩))))))),rfl,fun i h h'=>by (have:i=0:=by simpa using h);subst this;exact B⟩
   ·rw [s,show i+(wE 4 (E 8 j [z])).length=i+(2+(wE 3 z).length+1) from by show i+([(1,j),(3,[91])]++(wE 3 z++[(3,[93])]):List Tk).length=_;simp only [G0];omega]
 ·match ar,hm,g,f,p with
  |[z,w],_,g,f,p=>
   have o:=g z (by simp);have M:=g w (by simp);have f:K6 l i ((1,j)::(3,[91])::(wE 3 z++((3,[58])::(wE 3 w++[(3,[93])])))):=f;obtain⟨a1,J,e1,h1⟩:=K1 f;obtain⟨a2,b2,e2,G⟩:=K1 (M0 f);obtain⟨F,q⟩:=L6.1 (M0 (M0 f));obtain⟨a4,b4,e4,Q⟩:=K1 q;obtain⟨h5,h6⟩:=L6.1 (M0 q);obtain⟨a6,b6,e6,P⟩:=K1 h6;have X1:=(((core hl 3 z o) _ F).2 ⟨_,_,_,_,Q,rfl⟩).mono (R':=fun y=>OE 3 z y) (fun _ h=>TK o h) (B9 _);have X2:=(((core hl 3 w M) _ h5).2 ⟨_,_,_,_,P,rfl⟩).mono (R':=fun y=>OE 3 w y) (fun _ h=>TK M h) (B9 _);have L:=QH hl (fun y h=>Ny h) (fun y h=>Ny h) C ⟨_,_,_,h1⟩ ⟨_,_,_,G⟩ X1 ⟨_,_,_,Q⟩ X2 ⟨_,_,_,P⟩ d c O V W N (by show d+6≤40;omega);refine L.mono fun r ⟨y,⟨K,I,H,u,v,A,B,S⟩,s⟩=>⟨y,?_,?_⟩
   ·exact⟨9,j,[z,w],K,I,H,[u,v],rfl,A,.inr (.inr (.inr (.inr (.inr (.inr (.inr (.inr (.inl ⟨rfl,m,rfl⟩)))))))),rfl,fun i h h'=>by
     (have:i=0∨i=1:=by simp at h;omega);rcases this with rfl|rfl
     ·exact B
     ·exact S⟩
   ·rw [s,show i+(wE 4 (E 9 j [z,w])).length=i+(2+(wE 3 z).length+1+(wE 3 w).length+1) from by show i+([(1,j),(3,[91])]++(wE 3 z++([(3,[58])]++(wE 3 w++[(3,[93])]))):List Tk).length=_;simp only [G0];omega]
def Bf {x:D}(g:isLeft x){i:Nat}(c:K6 l i (wE 4 x)):∃ t a b e,l[i]? = some (tk 1 t a b e)∧t∈dP:=by
 obtain⟨k,f,ar,rfl,d,j,m⟩:=g;rcases j with ⟨rfl,hm⟩|⟨rfl,hm⟩|⟨rfl,hm⟩
 ·have c:K6 l i [(1,f)]:=c;obtain⟨a,b,e,h⟩:=K1 c;exact⟨f,a,b,e,h,d⟩
 ·have c:K6 l i ((1,f)::_):=c;obtain⟨a,b,e,h⟩:=K1 c;exact⟨f,a,b,e,h,d⟩
 ·have c:K6 l i ((1,f)::_):=c;obtain⟨a,b,e,h⟩:=K1 c;exact⟨f,a,b,e,h,d⟩
def aB9 (hl:l.length≤1000000){xs:List D}(h1:1≤xs.length)(v:xs.length≤10)(f:∀ x∈xs,gQ 4 x){i:Nat}(m:K6 l i (lW (wE 4) xs)){t:G1}{a b e:Int}(p:l[i+(lW (wE 4) xs).length]? = some (tk 3 t a b e))(u:cl t=true)(j:(t==[44])=false)(d c O V W:Int)(s:0≤d)(q:d≤32) :U (fun n=>O7 n (.Z 5 l) (i:Int) d c O V W (0:Int)) fun r=>∃ ys,kY xs ys∧r=(true,[.Z 5 l,iD ((i+(lW (wE 4) xs).length:Nat):Int),iD d,iD c,iD O,iD V,iD W,iD 0,.Z 6 ys]):=by have L:=Il hl (fun x f=>core hl 4 x f) h1 (by omega) f m ⟨t,a,b,e,p,u,j⟩ d c O V W s (by show d+8≤40;omega);refine L.mono fun r ⟨ys,k,o⟩=>⟨ys,⟨⟨v,f⟩,(Np k).mono fun x g y h=>TK (f x g) h⟩,o⟩
def Iq (hl:l.length≤1000000){t:G1}(T:qL t=true){es:List D}(o:es.length=3)(e:∀ x∈es,gQ 4 x){i:Nat}(a:K6 l i (dX t es))(d c O V W:Int)(m:0≤d)(b:d≤32) :U (fun n=>aI n (.Z 5 l) ((i+1:Nat):Int) d c O V W (0:Int)) fun r=>∃ ys,kY es ys∧r=(true,[.str t,.Z 5 l,iD ((i+(dX t es).length:Nat):Int),iD d,iD c,iD O,iD V,iD W,iD 0,.Z 6 ys]):=by
 match es,o,e,a with
 |[x,y,z],_,e,a=>
  have w:=e x (by simp);have v:=e y (by simp);have u:=e z (by simp);have a:K6 l i ((1,yZ)::(3,[40])::(1,t)::(3,[61])::(wE 4 x++((3,[59])::(wE 4 y++((3,[59])::(1,t)::(3,[61])::(wE 4 z++[(3,[41])])))))):=a;have a:=M0 a;obtain⟨a1,b1,e1,h1⟩:=K1 a;have a:=M0 a;obtain⟨a2,b2,e2,h2⟩:=K1 a;have a:=M0 a;obtain⟨a3,b3,e3,o⟩:=K1 a;obtain⟨hX,a⟩:=L6.1 (M0 a);obtain⟨a4,b4,e4,s⟩:=K1 a;obtain⟨hY,a⟩:=L6.1 (M0 a);obtain⟨a5,b5,e5,q⟩:=K1 a;have a:=M0 a;obtain⟨a6,b6,e6,h6⟩:=K1 a;have a:=M0 a;obtain⟨a7,b7,e7,h7⟩:=K1 a;obtain⟨hZ,a⟩:=L6.1 (M0 a);obtain⟨a8,b8,e8,p⟩:=K1 a;have eL:(dX t [x,y,z]).length=4+(wE 4 x).length+1+(wE 4 y).length+3+(wE 4 z).length+1:=by show ([(1,yZ),(3,[40]),(1,t),(3,[61])]++(wE 4 x++([(3,[59])]++(wE 4 y++([(3,[59]),(1,t),(3,[61])]++(wE 4 z++[(3,[41])]))))):List Tk).length=_;simp only [G0];omega
  have X:=AW hl w hX s rfl d c O V W m b;have Yq:=AW hl v hY q rfl d c O V W m b;have Zq:=AW hl u hZ p rfl d c O V W m b;refine I5 (fun n=>nK n ..) (M3 (M8 d c O V W hl [[40]] (by decide) (S7 h1 rfl)) (M3 (fJ d c O V W hl h2 T) (M3 (M8 d c O V W hl [[61]] (by decide) (S7 o rfl)) (H6 X ?_))));rintro _ ds ⟨x',h,h0⟩;cases h0;obtain⟨Q,t1,r1,M,q2,L,s1,_,rfl⟩:=dW h;refine⟨rfl,J5 (M3 (M8 d c O V W hl [[59]] (by decide) (S7 s rfl)) (H6 Yq ?_))⟩;rintro _ ds ⟨y',g,h0⟩;cases h0;obtain⟨P,B,r2,K,J,I,E,_,rfl⟩:=dW g;have R:CG l (i+1+1+1+1+(wE 4 x).length+1+(wE 4 y).length) [[59],t,[61]]:=by
   (intro j k;have:j=0∨j=1∨j=2:=by simp at k;omega);rcases this with rfl|rfl|rfl
   ·exact⟨3,_,_,_,q,rfl⟩
   ·exact⟨1,_,_,_,h6,rfl⟩
   ·exact⟨3,_,_,_,h7,rfl⟩
  refine⟨rfl,J5 (M3 (M8 d c O V W hl [[59],t,[61]] (by simp) R) (H6 Zq ?_))⟩;rintro _ ds ⟨z',f,h0⟩;cases h0;obtain⟨N,A,r3,H,G,F,C,_,rfl⟩:=dW f;refine⟨rfl,J5 (M3 (M8 d c O V W hl [[41]] (by decide) (S7 p rfl)) (H8 ⟨[PE Q M q2 L t1 s1,PE P K J I B E,PE N H G F A C],⟨⟨by simp,e⟩,rfl,fun j k S=>?_⟩,?_⟩))⟩
  ·(have:j=0∨j=1∨j=2:=by simp at k;omega);rcases this with rfl|rfl|rfl
   ·exact h
   ·exact g
   ·exact f
  ·rw [eL,show i+(4+(wE 4 x).length+1+(wE 4 y).length+3+(wE 4 z).length+1)=i+1+1+1+1+(wE 4 x).length+1+(wE 4 y).length+1+1+1+(wE 4 z).length+1 from by omega];rfl
end
end
section
def aC9:(dP.all fun t=>([[59],aM,zD,sV,yZ,rR]:List G1).all fun w=>!(t==w))=true:=by kernel_rfl
def UT {t w:G1}(h:t∈dP)(a:([[59],aM,zD,sV,yZ,rR]:List G1).contains w=true):(t==w&&(1:Int) !=2)=false:=by have:=B6.1 (B6.1 aC9 t h) w (List.contains_iff_mem.1 a);rw [D8] at this;rw [this];rfl
def QO {t w:G1}{k:Int}(h:(t==w)=false):(t==w&&k !=2)=false:=by rw [h];rfl
def sY {n:Nat}{x y:D}(h:OS n x y):∃ k i j l t es bs zs b c a,x=S k t es bs zs∧y=AT k i j l t b c a:=by
 cases n with
 |zero=>exact h.elim
 |succ n=>obtain⟨k,i,j,l,t,es,bs,zs,b,c,a,h1,d,_⟩:=h;exact⟨k,i,j,l,t,es,bs,zs,b,c,a,h1,d⟩
def Rl.snoc {R:D→D→Prop}{xs ys:List D}{x y:D}(h:Rl R xs ys)(a:R x y):Rl R (xs++[x]) (ys++[y]):=by
 refine⟨by simp [h.1],fun i c b=>?_⟩;by_cases hl:i<xs.length
 ·rw [F6 hl,F6 (by rw [← h.1];exact hl)];exact h.2 i hl (by rw [← h.1];exact hl)
 ·have:i=xs.length:=by rw [A7,C9] at c;omega
  subst this;rw [List.getElem_append_right (by omega),List.getElem_append_right (by rw [h.1];exact B9 _)];simpa [h.1] using a
def Rl.app {R:D→D→Prop}{xs ys us a:List D}(h:Rl R xs ys)(h':Rl R us a):Rl R (xs++us) (ys++a):=by
 refine⟨by simp [h.1,h'.1],fun i c b=>?_⟩;by_cases hl:i<xs.length
 ·rw [F6 hl,F6 (by rw [← h.1];exact hl)];exact h.2 i hl (by rw [← h.1];exact hl)
 ·rw [List.getElem_append_right (by omega),List.getElem_append_right (by rw [← h.1];omega)];have e:=h.1;rw [A7] at c;have:=h'.2 (i-xs.length) (by omega) (by rw [← h'.1];omega);simpa only [e] using this
def Rl.nil {R:D→D→Prop}:Rl R [] []:=⟨rfl,fun i h=>absurd h (by simp)⟩
def Rl.one {R:D→D→Prop}{x y:D}(h:R x y):Rl R [x] [y]:=⟨rfl,fun i a _=>by
 have:i=0:=by simpa using a
 subst this;exact h⟩
def kY.one {x y:D}(a:gQ 4 x)(h:OE 4 x y):kY [x] [y]:=⟨⟨by simp,fun e b=>by rw [C3.1 b];exact a⟩,Rl.one h⟩
def kY.two {x y x' c:D}(d:gQ 4 x)(a:gQ 4 x')(h:OE 4 x y)(h':OE 4 x' c):kY [x,x'] [y,c]:=⟨⟨by simp,fun e b=>by
  rcases B7.1 b with rfl|b
  ·exact d
  ·rw [C3.1 b];exact a⟩,Rl.snoc (Rl.one h) h'⟩
def kY.nil:kY [] []:=⟨⟨by simp,fun e a=>(by cases a)⟩,Rl.nil⟩
def Cw {a:List D}{z y:D}:(a++[z]).set (a.length:Int).toNat y=a++[y]:=by rw [E1,List.set_append_right _ _ (B9 _),Nat.sub_self];rfl
def aS6 (l:List D)(n:Nat):Prop:=∀ x,uN n x→∀ i,K6 l i (wS n x)→(pE n x=true→Nw l (i+(wS n x).length))→Pq (fun m=>L7 m) l i (wS n x).length (qS n x) (OS n x) (SH n)
def sT:List G1:=dP++[aM,zD,sV,yZ,rR,[59],[112,49]]
def Yr:List G1:=[iU,iM,gS,RU,mQ,kP]
def aG5:(sT.all fun t=>Yr.all fun w=>!(t==w))=true:=by kernel_rfl
def VE {t w:G1}(h:t∈sT)(a:w∈Yr):(t==w)=false:=by
 have:=B6.1 (B6.1 aG5 t h) w a
 rwa [D8] at this
def Tn {l:List D}:∀ {n:Nat} {x:D},uN n x→∀ {i:Nat},K6 l i (wS n x)→∃ k t a b e,l[i]? = some (tk k t a b e)∧t∈sT
 |0,_,h,_,_=>h.elim
 |n+1,x,h,i,d=>by
  obtain⟨k,t,es,bs,zs,rfl,A,B,z,r⟩:=h;rw [aQ1] at d;have one:∀ (g:Int) (f:G1) (ws:List Tk),K6 l i ((g,f)::ws)→f∈sT→∃ k t a b e,l[i]? = some (tk k t a b e)∧t∈sT:=by intro g f ws h1 o;obtain⟨a,b,e,y⟩:=K1 h1;exact⟨g,f,a,b,e,y,o⟩
  rcases r with ⟨rfl,rfl,rfl,hl,rfl⟩|⟨v,rfl,⟨l0,e,rfl,m⟩,rfl,rfl⟩|⟨rfl,rfl,hl,⟨b,c,rfl,s⟩,rfl⟩|⟨rfl,rfl,hl,rfl,q,p⟩|⟨rfl,rfl,hl,u,rfl⟩|⟨rfl,j,hl,rfl,rfl⟩|⟨rfl,rfl,rfl,rfl,rfl⟩
  ·exact one _ _ _ d (by simp [sT])
  ·have w:K6 l i (wE 4 l0):=by
    rcases v with rfl|rfl
    ·exact (L6.1 (show K6 l i (wE 4 l0++_) from d)).1
    ·exact (L6.1 (show K6 l i (wE 4 l0++_) from d)).1
   obtain⟨t,a,b,e,h1,o⟩:=Bf m w;exact⟨1,t,a,b,e,h1,B5 _ o⟩
  ·exact one _ _ _ d (by simp [sT])
  ·exact one _ _ _ d (by simp [sT])
  ·match es,hl,d with
   |[a,b,c],_,d=>exact one _ _ _ d (by simp [sT])
  ·rcases j with rfl|rfl
   ·exact one _ _ _ d (by simp [sT])
   ·exact one _ _ _ d (by simp [sT])
  ·exact one _ _ _ d (by simp [sT])
def aH4 {l:List D}{n:Nat}{x:D}(h:uN n x){i:Nat}(c:K6 l i (wS n x)):∃ k t a b e,l[i]? = some (tk k t a b e)∧(t==iU&&k !=2)=false:=by obtain⟨k,t,a,b,e,h1,d⟩:=Tn h c;exact⟨k,t,a,b,e,h1,by rw [VE d (by simp [Yr])];rfl⟩
def aH3 {l:List D}{n:Nat}{x:D}(h:uN n x){i:Nat}(c:K6 l i (wS n x)):Nw l i:=by obtain⟨k,t,a,b,e,h1,d⟩:=Tn h c;exact⟨k,t,a,b,e,h1,VE d (by simp [Yr])⟩
def fT:List G1:=Ca++dP++KU++Ts++[[40],[123]]
def aJ4:List G1:=[iM,gS,AQ,iU,[41],[91],[58],[59],[44]]
def aC0:(fT.all fun t=>aJ4.all fun w=>!(t==w))=true:=by kernel_rfl
def Ia {t w:G1}(h:t∈fT)(a:w∈aJ4):(t==w)=false:=by
 have:=B6.1 (B6.1 aC0 t h) w a
 rwa [D8] at this
def xD {t:G1}(h:t∈Ca∨t∈dP∨t∈KU∨t∈Ts∨t=[40]∨t=[123]):t∈fT:=by
 simp only [fT,D3,B7,List.not_mem_nil,or_false];rcases h with h|h|h|h|h|h
 ·exact .inl (.inl (.inl (.inl h)))
 ·exact .inl (.inl (.inl (.inr h)))
 ·exact .inl (.inl (.inr h))
 ·exact .inl (.inr h)
 ·exact .inr (.inl h)
 ·exact .inr (.inr h)
def HD {l:List D}:∀ (n:Nat) (x:D),gQ n x→∀ i,K6 l i (wE n x)→∃ k t a b e,l[i]? = some (tk k t a b e)∧t∈fT
 |0,_,h,_,_=>h.elim
 |n+1,x,h,i,c=>by
  obtain⟨k,t,ar,rfl,q,f⟩:=h;rw [IM] at c;have one:∀ (o:Int) (j:G1) (ws:List Tk),K6 l i ((o,j)::ws)→j∈fT→∃ m t1 a b e,l[i]? = some (tk m t1 a b e)∧t1∈fT:=by intro o j ws h1 s;obtain⟨a,b,e,r⟩:=K1 h1;exact⟨_,_,a,b,e,r,s⟩
  have arg:∀ (x:D) (ws:List Tk),gQ n x→K6 l i (aW (wE n) x++ws)→∃ m t1 a b e,l[i]? = some (tk m t1 a b e)∧t1∈fT:=by
   intro x ws p h1;have h1:=(L6.1 h1).1;unfold aW at h1
   cases hop:RV x with
   |true=>rw [hop] at h1;exact one 3 [40] _ h1 (xD (.inr (.inr (.inr (.inr (.inl rfl))))))
   |false=>rw [hop] at h1;exact HD n x p i h1
  rcases q with ⟨rfl,d,hm⟩|⟨rfl,d,hm⟩|⟨rfl,d,hm⟩|⟨rfl,_,hm⟩|⟨rfl,_,hm⟩|⟨rfl,_,hm,g⟩|⟨rfl,_,hm,g⟩|⟨rfl,d,hm⟩|⟨rfl,d,hm⟩|⟨rfl,d,hm,g⟩
  ·exact one 2 t [] c (xD (.inl d))
  ·exact one 1 t [] c (xD (.inr (.inl d)))
  ·exact one 3 t _ c (xD (.inr (.inr (.inr (.inl d)))))
  ·match ar,hm,f,c with
   |[x,y],_,f,c=>exact arg x _ (f x (by simp)) c
  ·match ar,hm,f,c with
   |[x,y,z],_,f,c=>exact arg x _ (f x (by simp)) c
  ·exact one 3 [123] _ c (xD (.inr (.inr (.inr (.inr (.inr rfl))))))
  ·exact one 3 [123] _ c (xD (.inr (.inr (.inr (.inr (.inr rfl))))))
  ·exact one 1 t _ c (xD (.inr (.inl d)))
  ·exact one 1 t _ c (xD (.inr (.inl d)))
  ·exact one 1 t _ c (xD (.inr (.inr (.inl d))))
def Bk {l:List D}{xs:List D}(h1:1≤xs.length)(c:∀ x∈xs,gQ 4 x){i:Nat}(d:K6 l i (lW (wE 4) xs)):∃ k t a b e,l[i]? = some (tk k t a b e)∧(t==AQ&&k !=2)=false∧(t==iM)=false∧(t==gS&&k !=2)=false:=by
 have:∃ k t a b e,l[i]? = some (tk k t a b e)∧t∈fT:=by
  match xs,h1,c,d with
  |[x],_,c,d=>exact HD 4 x (c x (by simp)) i d
  |x::y::r,_,c,d=>exact HD 4 x (c x (by simp)) i (L6.1 (show K6 l i (wE 4 x++_) from d)).1
 obtain⟨k,t,a,b,e,g1,g2⟩:=this;refine⟨k,t,a,b,e,g1,?_,Ia g2 (by simp [aJ4]),?_⟩
 ·rw [Ia g2 (by simp [aJ4])];rfl
 ·rw [Ia g2 (by simp [aJ4])];rfl
def Hg {l:List D}{n:Nat}{z:D}(h:aI6 n z){i:Nat}(c:K6 l i (lE (wS n) z)):∃ k t a b e,l[i]? = some (tk k t a b e)∧(t==iM)=false∧(t==gS&&k !=2)=false:=by
 obtain⟨es,d,rfl,j,m,p⟩:=h;have c:K6 l i ((bif (arm es d |>.at_ 0).l.isEmpty then [(1,AQ)] else [])++(lW (wE 4) (arm es d |>.at_ 0).l++([(3,[58])]++wS n (IU (arm es d))))):=c;rw [aK7] at c
 cases es with
 |nil=>obtain⟨a,b,e,h⟩:=K1 (show K6 l i ((1,AQ)::_) from c);exact⟨1,AQ,a,b,e,h,rfl,rfl⟩
 |cons g f=>obtain⟨k,t,a,b,e,g1,_,g2,o⟩:=Bk (xs:=g::f) (by simp) m (L6.1 (show K6 l i (lW (wE 4) (g::f)++_) from c)).1;exact⟨k,t,a,b,e,g1,g2,o⟩
section
variable {l:List D} (hl:l.length≤1000000)
include hl
def TR {e:D}(p:gQ 4 e){i:Nat}(a:K6 l i ([(1,rR)]++(pW e++[(3,[59])])))(o k j h:Int)(t:G1)(es bs zs:List D)(d c O V W:Int)(q:0≤d)(f:d≤32) :U (fun n=>U4 n (.Z 5 l) (i:Int) d c O V W (0:Int) o k j h (.str t) (.Z 6 es) (.Z 8 bs) (.Z 9 zs)) fun r=>∃ y,OE 4 e y∧r=(true,[.Z 5 l,iD ((i+((pW e).length+2):Nat):Int),iD d,iD c,iD O,iD V,iD W,iD 0,iD 7,iD k,iD j,iD h,.str t,.Z 6 [y],.Z 8 bs,.Z 9 zs]):=by have a:=fM a;obtain⟨a1,C,e1,h1⟩:=K1 a;obtain⟨s,g⟩:=L6.1 (M0 a);obtain⟨a3,B,z,g⟩:=K1 g;refine I5 (fun n=>lO n ..) (M3 (M8 d c O V W hl [rR] (by decide) (S7 h1 rfl)) (H6 (wC hl p s d c O V W q f) ?_));rintro _ ds ⟨y,m,h0⟩;cases h0;have b:=m;obtain⟨k4,u,w,a4,A,x,v,_,rfl⟩:=dW m;refine⟨rfl,J5 (M3 (M8 d c O V W hl [[59]] (by decide) (S7 g rfl)) (H8 ⟨_,b,?_⟩))⟩;rw [show i+((pW e).length+2)=i+1+(pW e).length+1 from by omega];rfl
def aG9 {k:Int}(v:k=2∨k=3){x e:D}(J:isLeft x)(K:gQ 4 e){i:Nat}(m:K6 l i (wE 4 x++([(3,bif k==2 then [61] else [60,61])]++(wE 4 e++[(3,[59])]))))(j h g:Int)(d c O V W:Int)(A:0≤d)(q:d≤32) :U (fun n=>aF n (.Z 5 l) (i:Int) d c O V W (0:Int) (8:Int) j h g (.str []) (.Z 6 []) (.Z 8 []) (.Z 9 [])) fun r=>∃ y z,OE 4 x y∧OE 4 e z∧r=(true,[.Z 5 l,iD ((i+((wE 4 x).length+(wE 4 e).length+2):Nat):Int),iD d,iD c,iD O,iD V,iD W,iD 0,iD k,iD j,iD h,iD g,.str [],.Z 6 [y,z],.Z 8 [],.Z 9 []]):=by
 obtain⟨h1,m⟩:=L6.1 m;have m:=fM m;obtain⟨a1,T,e1,s⟩:=K1 m;obtain⟨M,t⟩:=L6.1 (M0 m);obtain⟨a4,S,R,t⟩:=K1 t;have L:=Jq hl J h1 s (by rcases v with rfl|rfl<;>rfl) d c O V W A q;have X:=AW hl K M t rfl d c O V W A q;have p:i+((wE 4 x).length+(wE 4 e).length+2)=i+(wE 4 x).length+1+(wE 4 e).length+1:=by omega
 have B:∀ (a:List D) (y:D),a=[y,.Z 5 l,iD ((i+(wE 4 x).length:Nat):Int),iD d,iD c,iD O,iD V,iD W,iD 0]→OE 4 x y→U (fun n=>Y8 n l ((i+(wE 4 x).length+1:Nat):Int) d c O V W 0 k j h g [] a [] []) fun r=>∃ y z,OE 4 x y∧OE 4 e z∧r=(true,[.Z 5 l,iD ((i+((wE 4 x).length+(wE 4 e).length+2):Nat):Int),iD d,iD c,iD O,iD V,iD W,iD 0,iD k,iD j,iD h,iD g,.str [],.Z 6 [y,z],.Z 8 [],.Z 9 []]):=by intro a y b f;refine (H6 X ?_);rintro _ ds ⟨z,w,h0⟩;cases h0;have u:=w;obtain⟨H,E,G,Q,P,N,F,_,rfl⟩:=dW w;refine⟨rfl,J5 (M3 (M8 d c O V W hl [[59]] (by decide) (S7 t rfl)) (H8 ⟨y,_,f,u,?_⟩))⟩;subst b;rw [p,show K4 J0 (Y [y,.Z 5 l,iD ((i+(wE 4 x).length:Nat):Int),iD d,iD c,iD O,iD V,iD W,iD 0] 0)=y from aU0 f];rfl
 have C:∀ (a:List D) (y:D),a=[y,.Z 5 l,iD ((i+(wE 4 x).length:Nat):Int),iD d,iD c,iD O,iD V,iD W,iD 0]→OE 4 x y→U (fun n=>Y7 n false l ((i+(wE 4 x).length:Nat):Int) d c O V W 0 8 j h g a [] [] [] []) fun r=>∃ y z,OE 4 x y∧OE 4 e z∧r=(true,[.Z 5 l,iD ((i+((wE 4 x).length+(wE 4 e).length+2):Nat):Int),iD d,iD c,iD O,iD V,iD W,iD 0,iD k,iD j,iD h,iD g,.str [],.Z 6 [y,z],.Z 8 [],.Z 9 []]):=by
  intro a y b f;refine (L3 ?_);rcases v with rfl|rfl
  ·exact M3 (I7 d c O V W s rfl) (L3 (M3 (M8 d c O V W hl [[61]] (by decide) (S7 s rfl)) (B a y b f)))
  ·exact M3 (M6 d c O V W hl s rfl) (J5 (B a y b f))
 refine I5 (fun n=>iJ n l i d c O V W 0 8 j h g [] [] [] []) (H6 L ?_);rintro _ ds ⟨y,f,h0⟩;cases h0;have o:=f;obtain⟨H,E,G,Q,P,N,F,I,rfl⟩:=dW f;refine⟨rfl,J5 (K0 (fun _=>?_) fun _=>C _ _ rfl o)⟩;refine M3 (I7 d c O V W s (by rcases v with rfl|rfl<;>rfl)) ?_;exact C _ _ rfl o
def Rq {e:D}(m:gQ 4 e){i:Nat}(g:K6 l i ([(1,[112,49]),(3,[58])]++([(1,rR)]++(pW e++[(3,[59])]))))(f b a:Int)(d c O V W:Int)(o:0≤d)(h:d≤32) :U (fun n=>aF n (.Z 5 l) (i:Int) d c O V W (0:Int) (8:Int) f b a (.str []) (.Z 6 []) (.Z 8 []) (.Z 9 [])) fun r=>∃ y,OE 4 e y∧r=(true,[.Z 5 l,iD ((i+((pW e).length+4):Nat):Int),iD d,iD c,iD O,iD V,iD W,iD 0,iD 7,iD f,iD b,iD a,.str [112,49],.Z 6 [y],.Z 8 [],.Z 9 []]):=by obtain⟨a1,t,e1,h1⟩:=K1 g;obtain⟨a2,s,q,j⟩:=K1 (M0 g);have p:K6 l (i+1+1) ([(1,rR)]++(pW e++[(3,[59])])):=M0 (M0 g);refine I5 (fun n=>iJ n ..) (M3 (FV d c O V W hl h1 (by kernel_rfl) j rfl) (J5 (M3 (M6 d c O V W hl j rfl) (J5 (H6 (TR hl m p 8 f b a [112,49] [] [] [] d c O V W o h) ?_)))));rintro _ ds ⟨y,k,h0⟩;cases h0;refine⟨rfl,J5 (H8 ⟨y,k,?_⟩)⟩;rw [show i+((pW e).length+4)=i+1+1+((pW e).length+2) from by omega];rfl
end
section
variable {l:List D} (hl:l.length≤1000000) {n:Nat} (ih:aS6 l n)
include hl ih
def Hj (u s q d O V W:Int)(H:0≤d)(g:d+SH n≤40):∀ (bs:List D) (i:Nat) (c:Int) (acc xs:List D),(∀ b∈bs,uN n b)→K6 l i (bs.flatMap (wS n)++[(1,iU)])→bs.length+acc.length≤100→0≤c→c+sQ (qS n) bs≤4000→Rl (OS n) xs acc→U (fun m=>U6 m (.Z 5 l) (i:Int) d c O V W (0:Int) (0:Int) (0:Int) (0:Int) (0:Int) (.str []) (1:Int) u s q (.str []) (.Z 6 []) (.Z 8 []) (.Z 9 []) (.Z 6 []) (.Z 8 acc) (.Z 9 [])) fun r=>
   ∃ ys,Rl (OS n) (xs++bs) ys∧r=(false,[.Z 5 l,iD ((i+((bs.flatMap (wS n)).length+1):Nat):Int),iD d,iD (c+(sQ (qS n) bs:Nat)),iD O,iD V,iD W,iD 0,iD 0,iD 0,iD 0,iD 0,.str [],iD 1,iD u,iD s,iD q,.str [],.Z 6 [],.Z 8 [],.Z 9 [],.Z 6 [],.Z 8 ys,.Z 9 []])
 |[],i,c,acc,xs,_,j,_,J,z,w=>by obtain⟨a,b,e,h1⟩:=K1 (show K6 l i [(1,iU)] from j);refine I5 (fun m=>dR m ..) (J5 (M3 (M6 d c O V W hl h1 rfl) (L3 (H8 ⟨acc,by rw [D5];exact w,?_⟩))));show (_:Bool×List D)=(false,[.Z 5 l,iD ((i+(0+1):Nat):Int),iD d,iD (c+((0:Nat):Int)),iD O,iD V,iD W,iD 0,_,_,_,_,_,_,_,_,_,_,_,_,_,_,_,_]);rw [show c+((0:Nat):Int)=c from by omega];rfl
 |b::bs,i,c,acc,xs,B,j,S,J,z,w=>by
  have z:c+((qS n b+sQ (qS n) bs:Nat):Int)≤4000:=z;rw [D9,C1] at j;obtain⟨h1,o⟩:=L6.1 j;have f:=B b (B8 ..);obtain⟨k,t,a0,b0,e0,h0,A⟩:=aH4 f h1;have h:Nw l (i+(wS n b).length):=by
   cases bs with
   |nil=>obtain⟨a,b,e,C⟩:=K1 (show K6 l _ [(1,iU)] from o);exact⟨1,iU,a,b,e,C,rfl⟩
   |cons b2 bs=>rw [D9,C1] at o;have v:=B b2 (by simp);exact aH3 v (L6.1 o).1
  have I:=ih b f i h1 (fun _=>h) d c O V W H g J (by omega);refine I5 (fun m=>dR m ..) (J5 (M3 (I7 d c O V W h0 A) (J5 (H6 I ?_))));rintro _ ds ⟨y,G,C⟩;cases C;obtain⟨k4,Q,P,N,M,T,X,L,E,F,p,_,rfl⟩:=sY G;simp only [A0] at S;refine⟨rfl,J5 (I4 (B2 (by simp only [L9];omega)) (I4 (L0 aX8 (E6 (by rw [A7,C9];omega))) ?_))⟩;rw [Cw];have K:=Hj u s q d O V W H g bs (i+(wS n b).length) (c+(qS n b:Int)) (acc++[AT k4 Q P N M E F p]) (xs++[b]) (fun x R=>B x (C0 _ R)) o (by rw [A7,C9];omega) (by omega) (by omega) (w.snoc G);refine K.mono fun r ⟨ys,g1,g2⟩=>⟨ys,by rw [C1] at g1;exact g1,?_⟩;rw [g2,D9,A7,show i+(wS n b).length+((bs.flatMap (wS n)).length+1)=i+((wS n b).length+(bs.flatMap (wS n)).length+1) from by omega];show (_:Bool×List D)=(false,[.Z 5 l,iD ((i+((wS n b).length+(bs.flatMap (wS n)).length+1):Nat):Int),iD d,iD (c+((qS n b+sQ (qS n) bs:Nat):Int)),iD O,iD V,iD W,iD 0,_,_,_,_,_,_,_,_,_,_,_,_,_,_,_,_]);rw [show c+(qS n b:Int)+(sQ (qS n) bs:Int)=c+((qS n b+sQ (qS n) bs:Nat):Int) from by omega]
end
end
section
section
variable {l:List D} (hl:l.length≤1000000) {n:Nat} (ih:aS6 l n)
include hl
def aE2 {i:Nat}(e:K6 l i [(3,[59])]):Pq (fun m=>L7 m) l i 1 1 (OS (n+1) vB) (SH (n+1)):=by
 obtain⟨a1,h,e1,h1⟩:=K1 e;intro d c O V W b a g f;have j:d+1+(SH n:Int)≤40:=by unfold SH at a ⊢;omega
 unfold SH at a;(refine I5 (fun m=>U7 m ..) (M3 (bR l d c O V W (i:Int) (by omega) b) (L3 (M3 (S5 l (d+1) c O V W (i:Int) (by omega) g) (M3 (O3 (d+1) (c+1) O V W h1) ?_)))));refine M3 (M6 (d+1) (c+1) O V W hl h1 rfl) (J5 ?_);(refine M3 (aR l d (c+1) O V W _ (by omega) b) ?_);exact H8 ⟨_,⟨8,a1,h,e1,[],[],[],[],[],[],[],rfl,rfl,kY.nil,by simp,by simp,Rl.nil,Rl.nil⟩,rfl⟩
def Tg {k:Int}(v:k=2∨k=3){x e:D}(j:isLeft x)(s:gQ 4 e){i:Nat}(q:K6 l i (wE 4 x++([(3,bif k==2 then [61] else [60,61])]++(wE 4 e++[(3,[59])])))) :Pq (fun m=>L7 m) l i ((wE 4 x).length+(wE 4 e).length+2) 1 (OS (n+1) (S k [] [x,e] [] [])) (SH (n+1)):=by
 obtain⟨t,a1,p,e1,h1,a⟩:=Bf j (L6.1 q).1;have g:gQ 4 x:=iL (by decide) (vV j);intro d c O V W u o A w;unfold SH at o;(refine I5 (fun m=>U7 m ..) (M3 (bR l d c O V W (i:Int) (by omega) u) (L3 (M3 (S5 l (d+1) c O V W (i:Int) (by omega) A) (M3 (O3 (d+1) (c+1) O V W h1) ?_)))));(refine M3 (I7 (d+1) (c+1) O V W h1 (UT a rfl)) (L3 ?_));(refine M3 (I7 (d+1) (c+1) O V W h1 (UT a rfl)) (L3 ?_));(refine M3 (I7 (d+1) (c+1) O V W h1 (UT a rfl)) (L3 ?_));refine M3 (I7 (d+1) (c+1) O V W h1 (UT a rfl)) (L4 (Q:=fun r=>∃ y z,OE 4 x y∧OE 4 e z∧r=(false,[.bool false,.Z 5 l,iD ((i+((wE 4 x).length+(wE 4 e).length+2):Nat):Int),iD (d+1),iD (c+1),iD O,iD V,iD W,iD 0,iD 0,iD 0,iD 0,iD 0,.str [],iD k,iD a1,iD p,iD e1,.str [],.Z 6 [],.Z 8 [],.Z 9 [],.Z 6 [y,z],.Z 8 [],.Z 9 []])) ?_ (fun ds h=>by obtain⟨_,_,_,_,h⟩:=h;cases h) fun ds h=>?_)
 ·refine I5 (fun m=>Z1 m ..) (L3 (M3 (I7 (d+1) (c+1) O V W h1 (UT a rfl)) (L3 (M3 (bG (d+1) (c+1) O V W rR h1) (N8 (by exact UT a rfl) (H6 (aG9 hl v j s q a1 p e1 (d+1) (c+1) O V W (by omega) (by omega)) ?_))))));rintro _ ds ⟨y,z,f,b,h0⟩;cases h0;exact⟨rfl,J5 (H8 ⟨y,z,f,b,rfl⟩)⟩
 ·obtain⟨y,z,f,b,h⟩:=h;cases h;refine J5 ?_;(refine M3 (aR l d (c+1) O V W _ (by omega) u) ?_);exact H8 ⟨_,⟨k,a1,p,e1,[],[x,e],[],[],[y,z],[],[],rfl,rfl,kY.two g s f b,by simp,by simp,Rl.nil,Rl.nil⟩,rfl⟩
def aK9 {t:G1}(k:t=[]∨t=[112,49]){e:D}(g:gQ 4 e){i:Nat}(a:K6 l i ((bif t.isEmpty then [] else [(1,t),(3,[58])])++([(1,rR)]++(pW e++[(3,[59])])))) :Pq (fun m=>L7 m) l i ((bif t.isEmpty then 0 else 2)+((pW e).length+2)) 1 (OS (n+1) (S 7 t [e] [] [])) (SH (n+1)):=by
 intro d c O V W j o p q;unfold SH at o;rcases k with rfl|rfl
 ·have a:K6 l i ([(1,rR)]++(pW e++[(3,[59])])):=a;obtain⟨a1,f,e1,h1⟩:=K1 a;(refine I5 (fun m=>U7 m ..) (M3 (bR l d c O V W (i:Int) (by omega) j) (L3 (M3 (S5 l (d+1) c O V W (i:Int) (by omega) p) (M3 (O3 (d+1) (c+1) O V W h1) ?_)))));(refine M3 (I7 (d+1) (c+1) O V W h1 rfl) (L3 ?_));(refine M3 (I7 (d+1) (c+1) O V W h1 rfl) (L3 ?_));(refine M3 (I7 (d+1) (c+1) O V W h1 rfl) (L3 ?_));refine M3 (I7 (d+1) (c+1) O V W h1 rfl) (L4 (Q:=fun r=>∃ y,OE 4 e y∧r=(false,[.bool false,.Z 5 l,iD ((i+((pW e).length+2):Nat):Int),iD (d+1),iD (c+1),iD O,iD V,iD W,iD 0,iD 0,iD 0,iD 0,iD 0,.str [],iD 7,iD a1,iD f,iD e1,.str [],.Z 6 [],.Z 8 [],.Z 9 [],.Z 6 [y],.Z 8 [],.Z 9 []])) ?_ (fun ds h=>by obtain⟨_,_,h⟩:=h;cases h) fun ds h=>?_)
  ·refine I5 (fun m=>Z1 m ..) (L3 (M3 (I7 (d+1) (c+1) O V W h1 rfl) (L3 (M3 (bG (d+1) (c+1) O V W rR h1) (J5 (H6 (TR hl g a 8 a1 f e1 [] [] [] [] (d+1) (c+1) O V W (by omega) (by omega)) ?_))))));rintro _ ds ⟨y,b,h0⟩;cases h0;exact⟨rfl,J5 (H8 ⟨y,b,rfl⟩)⟩
  ·obtain⟨y,b,h⟩:=h;cases h;refine J5 ?_;(refine M3 (aR l d (c+1) O V W _ (by omega) j) ?_);refine H8 ⟨_,⟨7,a1,f,e1,[],[e],[],[],[y],[],[],rfl,rfl,kY.one g b,by simp,by simp,Rl.nil,Rl.nil⟩,?_⟩;show (_:Bool×List D)=(true,[_,.Z 5 l,iD ((i+(0+((pW e).length+2)):Nat):Int),iD d,iD (c+((1:Nat):Int)),iD O,iD V,iD W,iD 0]);rw [C5];rfl
 ·have a:K6 l i ([(1,[112,49]),(3,[58])]++([(1,rR)]++(pW e++[(3,[59])]))):=a;obtain⟨a1,f,e1,h1⟩:=K1 a;(refine I5 (fun m=>U7 m l i d c O V W 0) (M3 (bR l d c O V W (i:Int) (by omega) j) (L3 (M3 (S5 l (d+1) c O V W (i:Int) (by omega) p) (M3 (O3 (d+1) (c+1) O V W h1) ?_)))));(refine M3 (I7 (d+1) (c+1) O V W h1 rfl) (L3 ?_));(refine M3 (I7 (d+1) (c+1) O V W h1 rfl) (L3 ?_));(refine M3 (I7 (d+1) (c+1) O V W h1 rfl) (L3 ?_));refine M3 (I7 (d+1) (c+1) O V W h1 rfl) (L4 (Q:=fun r=>∃ y,OE 4 e y∧r=(false,[.bool false,.Z 5 l,iD ((i+((pW e).length+4):Nat):Int),iD (d+1),iD (c+1),iD O,iD V,iD W,iD 0,iD 0,iD 0,iD 0,iD 0,.str [],iD 7,iD a1,iD f,iD e1,.str [112,49],.Z 6 [],.Z 8 [],.Z 9 [],.Z 6 [y],.Z 8 [],.Z 9 []])) ?_ (fun ds h=>by obtain⟨_,_,h⟩:=h;cases h) fun ds h=>?_)
  ·refine I5 (fun m=>Z1 m ..) (L3 (M3 (I7 (d+1) (c+1) O V W h1 rfl) (L3 (M3 (bG (d+1) (c+1) O V W rR h1) (L3 (H6 (Rq hl g a a1 f e1 (d+1) (c+1) O V W (by omega) (by omega)) ?_))))));rintro _ ds ⟨y,b,h0⟩;cases h0;exact⟨rfl,J5 (H8 ⟨y,b,rfl⟩)⟩
  ·obtain⟨y,b,h⟩:=h;cases h;refine J5 ?_;(refine M3 (aR l d (c+1) O V W _ (by omega) j) ?_);refine H8 ⟨_,⟨7,a1,f,e1,[112,49],[e],[],[],[y],[],[],rfl,rfl,kY.one g b,by simp,by simp,Rl.nil,Rl.nil⟩,?_⟩;show (_:Bool×List D)=(true,[_,.Z 5 l,iD ((i+(2+((pW e).length+2)):Nat):Int),iD d,iD (c+((1:Nat):Int)),iD O,iD V,iD W,iD 0]);rw [show i+(2+((pW e).length+2))=i+((pW e).length+4) from by omega];rfl
include ih
def aL5 {bs:List D}(r:bs.length≤3)(p:∀ b∈bs,uN n b){i:Nat}(a:K6 l i ([(1,aM)]++(bs.flatMap (wS n)++[(1,iU)]))) :Pq (fun m=>L7 m) l i ((bs.flatMap (wS n)).length+2) (1+sQ (qS n) bs) (OS (n+1) (S 1 [] [] bs [])) (SH (n+1)):=by
 have a:=fM a;obtain⟨a1,g,e1,h1⟩:=K1 a;have a:=M0 a;intro d c O V W f e o k;have q:d+1+(SH n:Int)≤40:=by unfold SH at e ⊢;omega
 unfold SH at e;have B:=Hj hl ih a1 g e1 (d+1) O V W (by omega) q bs (i+1) (c+1) [] [] p a (by simp;omega) (by omega) (by omega) Rl.nil;(refine I5 (fun m=>U7 m ..) (M3 (bR l d c O V W (i:Int) (by omega) f) (L3 (M3 (S5 l (d+1) c O V W (i:Int) (by omega) o) (M3 (O3 (d+1) (c+1) O V W h1) ?_)))));(refine M3 (I7 (d+1) (c+1) O V W h1 rfl) (L3 ?_));refine M3 (M6 (d+1) (c+1) O V W hl h1 rfl) (J5 (L4 B (fun ds h=>by obtain⟨_,_,h⟩:=h;cases h) fun ds h=>?_));obtain⟨ys,j,h⟩:=h;cases h;refine J5 ?_;(refine M3 (aR l d (c+1+(sQ (qS n) bs:Int)) O V W _ (by omega) f) ?_);refine H8 ⟨_,⟨1,a1,g,e1,[],[],bs,[],[],ys,[],rfl,rfl,kY.nil,by omega,by simp,j,Rl.nil⟩,?_⟩;rw [show i+((bs.flatMap (wS n)).length+2)=i+1+((bs.flatMap (wS n)).length+1) from by omega,show c+((1+sQ (qS n) bs:Nat):Int)=c+1+(sQ (qS n) bs:Int) from by omega];rfl
def aT1 {e b f:D}(M:gQ 4 e)(hb:uN n b)(A:uN n f)(hop:f=vB∨pE n b=false){i:Nat}(p:K6 l i (wS (n+1) (S 4 [] [e] [b,f] [])))(r:pE (n+1) (S 4 [] [e] [b,f] [])=true→Nw l (i+(wS (n+1) (S 4 [] [e] [b,f] [])).length)) :Pq (fun m=>L7 m) l i (wS (n+1) (S 4 [] [e] [b,f] [])).length (qS (n+1) (S 4 [] [e] [b,f] [])) (OS (n+1) (S 4 [] [e] [b,f] [])) (SH (n+1)):=by
 intro d c O V W N G hc H;have hS:d+1+(SH n:Int)≤40:=by unfold SH at G ⊢;omega
 unfold SH at G;have hn0:n≠0:=by rintro rfl;exact hb.elim
 obtain⟨a,rfl⟩:∃ a,n=a+1:=⟨n-1,by omega⟩;have w:(f.at_ 0).i==8→f=vB:=by intro o;obtain⟨k,t,es,bs,zs,rfl,_,_,_,hs⟩:=A;have o:(k==8)=true:=o;have o:=eq_of_beq o;subst o;rcases hs with ⟨h,_⟩|⟨h|h,_⟩|⟨h,_⟩|⟨h,_⟩|⟨h,_⟩|⟨h,_⟩|⟨_,rfl,rfl,rfl,rfl⟩;all_goals first|rfl|exact absurd h (by decide)
 have j:pE (a+1+1) (S 4 [] [e] [b,f] [])=((f.at_ 0).i==8||pE (a+1) f):=by obtain⟨k,t,es,bs,zs,rfl,_⟩:=A;rfl
 cases o:(f.at_ 0).i==8 with
 |true=>
  have e0:=w o;subst e0;have K:wS (a+1+1) (S 4 [] [e] [b,vB] [])=[(1,zD)]++(pW e++wS (a+1) b):=by show [(1,zD)]++(pW e++(wS (a+1) b++[]))=_;rw [D5]
  have eq:qS (a+1+1) (S 4 [] [e] [b,vB] [])=1+qS (a+1) b:=rfl;have r:=r (by rw [j,o];rfl);rw [K] at p r;rw [K,eq];rw [eq] at H;have p:=fM p;obtain⟨a1,b1,e1,h1⟩:=K1 p;obtain⟨h2,J⟩:=L6.1 (M0 p);have el:([(1,zD)]++(pW e++wS (a+1) b):List Tk).length=1+(pW e).length+(wS (a+1) b).length:=by simp only [G0];omega
  rw [el] at r ⊢;obtain⟨kn,L,an,R,Q,g,q⟩:=r;have g:l[i+1+(pW e).length+(wS (a+1) b).length]? = some (tk kn L an R Q):=SA g (by omega);have I:=ih b hb _ J (fun _=>⟨kn,L,an,R,Q,g,q⟩) (d+1) (c+1) O V W (by omega) hS (by omega) (by omega);(refine I5 (fun m=>U7 m ..) (M3 (bR l d c O V W (i:Int) (by omega) N) (L3 (M3 (S5 l (d+1) c O V W (i:Int) (by omega) hc) (M3 (O3 (d+1) (c+1) O V W h1) ?_)))));(refine M3 (I7 (d+1) (c+1) O V W h1 rfl) (L3 ?_));(refine M3 (I7 (d+1) (c+1) O V W h1 rfl) (L3 ?_));refine M3 (M6 (d+1) (c+1) O V W hl h1 rfl) (J5 (H6 (wC hl M h2 (d+1) (c+1) O V W (by omega) (by omega)) ?_));rintro _ ds ⟨x,F,h0⟩;cases h0;have v:=F;obtain⟨k4,t4,r4,a4,b4,e4,s4,_,rfl⟩:=dW F;refine⟨rfl,J5 (H6 I ?_)⟩;rintro _ ds ⟨y,E,h0⟩;cases h0;have u:=E;obtain⟨k5,i5,j5,l5,t5,es5,bs5,X,B,C,s,_,rfl⟩:=sY E;refine⟨rfl,J5 (M3 (I7 (d+1) (c+1+(qS (a+1) b:Int)) O V W g (QO q)) (L3 ?_))⟩;(refine M3 (aR l d (c+1+(qS (a+1) b:Int)) O V W _ (by omega) N) ?_);have hO:OS (a+1) vB (AT 8 0 0 0 [] [] [] []):=⟨8,0,0,0,[],[],[],[],[],[],[],rfl,rfl,kY.nil,by simp,by simp,Rl.nil,Rl.nil⟩;refine H8 ⟨_,⟨4,a1,b1,e1,[],[e],[b,vB],[],[PE k4 a4 b4 e4 t4 s4],[AT k5 i5 j5 l5 t5 B C s,AT 8 0 0 0 [] [] [] []],[],rfl,rfl,kY.one M v,by simp,by simp,(Rl.one u).snoc hO,Rl.nil⟩,?_⟩;rw [show i+(1+(pW e).length+(wS (a+1) b).length)=i+1+(pW e).length+(wS (a+1) b).length from by omega,show c+((1+qS (a+1) b:Nat):Int)=c+1+(qS (a+1) b:Int) from by omega];rfl
 |false=>
  have ho:pE (a+1) b=false:=by
   rcases hop with h|h
   ·subst h;exact absurd o (by decide)
   ·exact h
  have K:wS (a+1+1) (S 4 [] [e] [b,f] [])=[(1,zD)]++(pW e++(wS (a+1) b++([(1,iM)]++wS (a+1) f))):=by show [(1,zD)]++(pW e++(wS (a+1) b++(bif (f.at_ 0).i==8 then [] else [(1,iM)]++wS (a+1) f)))=_;rw [o];rfl
  have eq:qS (a+1+1) (S 4 [] [e] [b,f] [])=1+(qS (a+1) b+qS (a+1) f):=by show 1+(qS (a+1) b+(bif (f.at_ 0).i==8 then 0 else qS (a+1) f))=_;rw [o];rfl
  rw [K] at p r;rw [K,eq];rw [eq] at H;have p:=fM p;obtain⟨a1,b1,e1,h1⟩:=K1 p;obtain⟨h2,J⟩:=L6.1 (M0 p);obtain⟨J,P⟩:=L6.1 J;have P:=fM P;obtain⟨a5,b5,e5,h5⟩:=K1 P;have h6:=M0 P;have el:([(1,zD)]++(pW e++(wS (a+1) b++([(1,iM)]++wS (a+1) f))):List Tk).length=1+(pW e).length+(wS (a+1) b).length+1+(wS (a+1) f).length:=by simp only [G0];omega
  rw [el] at r ⊢;have I:=ih b hb _ J (fun h=>by rw [ho] at h;cases h) (d+1) (c+1) O V W (by omega) hS (by omega) (by omega);have I2:=ih f A _ h6 (fun h=>by obtain⟨kn,L,an,R,Q,g,q⟩:=r (by rw [j,h,Bool.or_true]);exact⟨kn,L,an,R,Q,SA g (by omega),q⟩) (d+1) (c+1+(qS (a+1) b:Int)) O V W (by omega) hS (by omega) (by omega);(refine I5 (fun m=>U7 m l i d c O V W 0) (M3 (bR l d c O V W (i:Int) (by omega) N) (L3 (M3 (S5 l (d+1) c O V W (i:Int) (by omega) hc) (M3 (O3 (d+1) (c+1) O V W h1) ?_)))));(refine M3 (I7 (d+1) (c+1) O V W h1 rfl) (L3 ?_));(refine M3 (I7 (d+1) (c+1) O V W h1 rfl) (L3 ?_));refine M3 (M6 (d+1) (c+1) O V W hl h1 rfl) (J5 (H6 (wC hl M h2 (d+1) (c+1) O V W (by omega) (by omega)) ?_));rintro _ ds ⟨x,F,h0⟩;cases h0;have v:=F;obtain⟨k4,t4,r4,a4,b4,e4,s4,_,rfl⟩:=dW F;refine⟨rfl,J5 (H6 I ?_)⟩;rintro _ ds ⟨y,E,h0⟩;cases h0;have u:=E;obtain⟨k5,i5,j5,l5,t5,es5,bs5,X,B,C,s,_,rfl⟩:=sY E;refine⟨rfl,J5 (M3 (M6 (d+1) (c+1+(qS (a+1) b:Int)) O V W hl h5 rfl) (J5 (H6 I2 ?_)))⟩;rintro _ ds ⟨z,hz,h0⟩;cases h0;have hz0:=hz;obtain⟨k7,i7,j7,l7,t7,es7,bs7,zs7,es8,bs8,T,_,rfl⟩:=sY hz;refine⟨rfl,J5 ?_⟩;(refine M3 (aR l d (c+1+(qS (a+1) b:Int)+(qS (a+1) f:Int)) O V W _ (by omega) N) ?_);refine H8 ⟨_,⟨4,a1,b1,e1,[],[e],[b,f],[],[PE k4 a4 b4 e4 t4 s4],[AT k5 i5 j5 l5 t5 B C s,AT k7 i7 j7 l7 t7 es8 bs8 T],[],rfl,rfl,kY.one M v,by simp,by simp,(Rl.one u).snoc hz0,Rl.nil⟩,?_⟩;rw [show i+(1+(pW e).length+(wS (a+1) b).length+1+(wS (a+1) f).length)=i+1+(pW e).length+(wS (a+1) b).length+1+(wS (a+1) f).length from by omega,show c+((1+(qS (a+1) b+qS (a+1) f):Nat):Int)=c+1+(qS (a+1) b:Int)+(qS (a+1) f:Int) from by omega];rfl
def aM1 {es:List D}{b:D}(u:es.length=3)(E:∀ e∈es,gQ 4 e)(H:uN n b){i:Nat}(C:K6 l i (dX [105] es++wS n b))(K:pE n b=true→Nw l (i+((dX [105] es).length+(wS n b).length))) :Pq (fun m=>L7 m) l i ((dX [105] es).length+(wS n b).length) (1+qS n b) (OS (n+1) (S 6 [105] es [b] [])) (SH (n+1)):=by
 intro d c O V W s g G F;have J:d+1+(SH n:Int)≤40:=by unfold SH at g ⊢;omega
 unfold SH at g;obtain⟨k,M⟩:=L6.1 C;obtain⟨a1,v,e1,h1⟩:∃ a b e,l[i]? = some (tk 1 yZ a b e):=by
  match es,u,k with
  |[x,y,z],_,k=>exact K1 (show K6 l i ((1,yZ)::_) from k)
 have L:=Iq hl (t:=[105]) (by kernel_rfl) u E k (d+1) (c+1) O V W (by omega) (by omega);have I:=ih b H _ M (fun h=>by obtain⟨kn,B,an,bn,R,q,p⟩:=K h;exact⟨kn,B,an,bn,R,SA q (by omega),p⟩) (d+1) (c+1) O V W (by omega) J (by omega) (by omega);(refine I5 (fun m=>U7 m ..) (M3 (bR l d c O V W (i:Int) (by omega) s) (L3 (M3 (S5 l (d+1) c O V W (i:Int) (by omega) G) (M3 (O3 (d+1) (c+1) O V W h1) ?_)))));(refine M3 (I7 (d+1) (c+1) O V W h1 rfl) (L3 ?_));(refine M3 (I7 (d+1) (c+1) O V W h1 rfl) (L3 ?_));(refine M3 (I7 (d+1) (c+1) O V W h1 rfl) (L3 ?_));refine M3 (I7 (d+1) (c+1) O V W h1 rfl) (L4 (Q:=fun r=>∃ ys y,kY es ys∧OS n b y∧r=(false,[.bool false,.Z 5 l,iD ((i+(dX [105] es).length+(wS n b).length:Nat):Int),iD (d+1),iD (c+1+(qS n b:Int)),iD O,iD V,iD W,iD 0,iD 0,iD 0,iD 0,iD 0,.str [],iD 6,iD a1,iD v,iD e1,.str [105],.Z 6 [],.Z 8 [],.Z 9 [],.Z 6 ys,.Z 8 [y],.Z 9 []])) ?_ (fun ds h=>by obtain⟨_,_,_,_,h⟩:=h;cases h) fun ds h=>?_)
 ·refine I5 (fun m=>Z1 m ..) (L3 (M3 (M6 (d+1) (c+1) O V W hl h1 rfl) (J5 (H6 L ?_))));rintro _ ds ⟨ys,f,h0⟩;cases h0;refine⟨rfl,J5 (H6 I ?_)⟩;rintro _ ds ⟨y,j,h0⟩;cases h0;have o:=j;obtain⟨k5,i5,j5,l5,t5,P,X,A,N,T,w,_,rfl⟩:=sY j;exact⟨rfl,J5 (H8 ⟨ys,_,f,o,rfl⟩)⟩
 ·obtain⟨ys,y,f,j,h⟩:=h;cases h;refine J5 ?_;(refine M3 (aR l d (c+1+(qS n b:Int)) O V W _ (by omega) s) ?_);refine H8 ⟨_,⟨6,a1,v,e1,[105],es,[b],[],ys,[y],[],rfl,rfl,f,by simp,by simp,Rl.one j,Rl.nil⟩,?_⟩;rw [show i+((dX [105] es).length+(wS n b).length)=i+(dX [105] es).length+(wS n b).length from by omega,show c+((1+qS n b:Nat):Int)=c+1+(qS n b:Int) from by omega];rfl
omit hl ih in
def Tz {n:Nat}{x:D}(h:uN n x):∃ k t fs bs zs,x=S k t fs bs zs:=by
 cases n with
 |zero=>exact h.elim
 |succ n=>obtain⟨k,t,fs,bs,zs,e,_⟩:=h;exact⟨k,t,fs,bs,zs,e⟩
def Ol (p o h d O V W:Int)(hd:0≤d)(L:d+SH n≤40)(H:d≤32)(u:D):∀ (zs:List D) (i:Nat) (c:Int) (acc xs:List D),(∀ z∈zs,aI6 n z)→K6 l i (zs.flatMap (lE (wS n))++[(1,gS)])→zs.length+acc.length≤100→1≤zs.length+acc.length→0≤c→c+sQ (fun a=>qS n (IU a)) zs≤4000→Rl (OA (OS n)) xs acc→U (fun m=>S8 m (.Z 5 l) (i:Int) d c O V W (0:Int) (5:Int) p o h (.str []) (.Z 6 [u]) (.Z 8 []) (.Z 9 acc)) fun r=>
   ∃ ys,Rl (OA (OS n)) (xs++zs) ys∧r=(false,[.Z 5 l,iD ((i+(zs.flatMap (lE (wS n))).length:Nat):Int),iD d,iD (c+(sQ (fun a=>qS n (IU a)) zs:Nat)),iD O,iD V,iD W,iD 0,iD 5,iD p,iD o,iD h,.str [],.Z 6 [u],.Z 8 [],.Z 9 ys])
 |[],i,c,acc,xs,_,N,_,h1,hc,F,hr=>by obtain⟨a,b,e,A⟩:=K1 (show K6 l i [(1,gS)] from N);refine I5 (fun m=>dD m ..) (J5 (N8 (F4.2 (by simp only [A8] at h1;omega)) (M3 (bG d c O V W gS A) ?_)));refine O9 (fun m=>O0.eq_1 m ..) (L3 (H8 ⟨acc,by rw [D5];exact hr,?_⟩));show (_:Bool×List D)=(false,[.Z 5 l,iD ((i+0:Nat):Int),iD d,iD (c+((0:Nat):Int)),iD O,iD V,iD W,iD 0,_,_,_,_,_,_,_,_]);rw [show c+((0:Nat):Int)=c from by omega];rfl
 |z::zs,i,c,acc,xs,hz,N,hn,h1,hc,F,hr=>by
  have F:c+((qS n (IU z)+sQ (fun a=>qS n (IU a)) zs:Nat):Int)≤4000:=F;rw [D9,C1] at N;obtain⟨w,A⟩:=L6.1 N;obtain⟨es,s0,ez,hle,he,hs⟩:=hz z (B8 ..);have E:=hs;obtain⟨k,t,fs,bs,f,rfl⟩:=Tz hs;subst ez;have F:c+((qS n (S k t fs bs f)+sQ (fun a=>qS n (IU a)) zs:Nat):Int)≤4000:=F;have eA:lE (wS n) (arm es (S k t fs bs f))=(bif es.isEmpty then [(1,AQ)] else [])++(lW (wE 4) es++([(3,[58])]++wS n (S k t fs bs f))):=rfl;rw [eA] at w;have s:(lE (wS n) (arm es (S k t fs bs f))).length=(bif es.isEmpty then 1 else 0)+(lW (wE 4) es).length+1+(wS n (S k t fs bs f)).length:=by rw [eA];cases es.isEmpty<;>simp only [cond_true,cond_false,G0]<;>omega
  rw [s] at A;have M:Nw l (i+((bif es.isEmpty then 1 else 0)+(lW (wE 4) es).length+1+(wS n (S k t fs bs f)).length)):=by
   cases zs with
   |nil=>obtain⟨a,b,e,q⟩:=K1 (show K6 l _ [(1,gS)] from A);exact⟨1,gS,a,b,e,q,rfl⟩
   |cons z2 zs=>rw [D9,C1] at A;obtain⟨k,t,a,b,e,g1,g2,_⟩:=Hg (hz z2 (by simp)) (L6.1 A).1;exact⟨k,t,a,b,e,g1,g2⟩
  have J2:∀ (j:Nat) (g:List D),kY es g→K6 l j ([(3,[58])]++wS n (S k t fs bs f))→i+((bif es.isEmpty then 1 else 0)+(lW (wE 4) es).length)=j→U (fun m=>aO m l (j:Int) d c O V W 0 g acc 5 p o h [] [u] []) fun r=>∃ ys,Rl (OA (OS n)) (xs++arm es (S k t fs bs f)::zs) ys∧r=(false,[.Z 5 l,iD ((i+((arm es (S k t fs bs f)::zs).flatMap (lE (wS n))).length:Nat):Int),iD d,iD (c+(sQ (fun a=>qS n (IU a)) (arm es (S k t fs bs f)::zs):Nat)),iD O,iD V,iD W,iD 0,iD 5,iD p,iD o,iD h,.str [],.Z 6 [u],.Z 8 [],.Z 9 ys]):=by intro j g hE P ej;have P:=fM P;obtain⟨a3,b3,e3,q⟩:=K1 P;have I:=ih _ E (j+1) (M0 P) (fun _=>by rw [show j+1+(wS n (S k t fs bs f)).length=i+((bif es.isEmpty then 1 else 0)+(lW (wE 4) es).length+1+(wS n (S k t fs bs f)).length) from by omega];exact M) d c O V W hd L hc (by omega);refine O9 (fun m=>aO.eq_1 m ..) (M3 (M8 d c O V W hl [[58]] (by decide) (S7 q rfl)) (H6 I ?_));rintro _ ds ⟨y,hy,h0⟩;cases h0;have hy0:=hy;obtain⟨k5,T,R,Q,t5,es5,bs5,zs5,B,C,v,e5,rfl⟩:=sY hy;cases e5;simp only [A0] at hn;refine⟨rfl,J5 (I4 (B2 (by simp only [L9];omega)) (I4 (L0 aX8 (E6 (by rw [A7,C9];omega))) ?_))⟩;rw [Cw];have hA:OA (OS n) (arm es (S k t fs bs f)) (AA g k T R Q t B C v):=⟨es,g,k,T,R,Q,t,fs,bs,f,B,C,v,rfl,rfl,hE,hy0⟩;have K:=Ol p o h d O V W hd L H u zs (j+1+(wS n (S k t fs bs f)).length) (c+(qS n (S k t fs bs f):Int)) (acc++[AA g k T R Q t B C v]) (xs++[arm es (S k t fs bs f)]) (fun x hx=>hz x (C0 _ hx)) (Up A (by omega)) (by rw [A7,C9];omega) (by rw [A7,C9];omega) (by omega) (by omega) (hr.snoc hA);refine K.mono fun r ⟨ys,g1,g2⟩=>⟨ys,by rw [C1] at g1;exact g1,?_⟩;rw [g2,D9,A7,s,show j+1+(wS n (S k t fs bs f)).length+(zs.flatMap (lE (wS n))).length=i+((bif es.isEmpty then 1 else 0)+(lW (wE 4) es).length+1+(wS n (S k t fs bs f)).length+(zs.flatMap (lE (wS n))).length) from by omega];show (_:Bool×List D)=(false,[.Z 5 l,iD ((i+((bif es.isEmpty then 1 else 0)+(lW (wE 4) es).length+1+(wS n (S k t fs bs f)).length+(zs.flatMap (lE (wS n))).length):Nat):Int),iD d,iD (c+((qS n (S k t fs bs f)+sQ (fun a=>qS n (IU a)) zs:Nat):Int)),iD O,iD V,iD W,iD 0,_,_,_,_,_,_,_,_]);rw [show c+(qS n (S k t fs bs f):Int)+(sQ (fun a=>qS n (IU a)) zs:Int)=c+((qS n (S k t fs bs f)+sQ (fun a=>qS n (IU a)) zs:Nat):Int) from by omega]
  have J1:U (fun m=>O0 m true l (i:Int) d c O V W 0 acc 5 p o h [] [u] []) fun r=>∃ ys,Rl (OA (OS n)) (xs++arm es (S k t fs bs f)::zs) ys∧r=(false,[.Z 5 l,iD ((i+((arm es (S k t fs bs f)::zs).flatMap (lE (wS n))).length:Nat):Int),iD d,iD (c+(sQ (fun a=>qS n (IU a)) (arm es (S k t fs bs f)::zs):Nat)),iD O,iD V,iD W,iD 0,iD 5,iD p,iD o,iD h,.str [],.Z 6 [u],.Z 8 [],.Z 9 ys]):=by
   refine O9 (fun m=>O0.eq_1 m ..) (J5 ?_)
   cases hes:es with
   |nil=>rw [hes] at w;obtain⟨a3,b3,e3,q⟩:=K1 (show K6 l i ((1,AQ)::([(3,[58])]++wS n (S k t fs bs f))) from w);refine M3 (M6 d c O V W hl q rfl) (L3 ?_);have J:=J2 (i+1) [] (by rw [hes];exact kY.nil) (M0 (show K6 l i ((1,AQ)::([(3,[58])]++wS n (S k t fs bs f))) from w)) (by rw [hes];rfl);rw [hes] at J;exact J
   |cons e0 er=>(rw [← hes];have G:es.isEmpty=false:=by rw [hes];rfl);rw [G] at w;obtain⟨q,h4⟩:=L6.1 (show K6 l i (lW (wE 4) es++([(3,[58])]++wS n (S k t fs bs f))) from w);obtain⟨a4,b4,e4,g4⟩:=K1 h4;obtain⟨kk,t3,a3,b3,e3,g3,g5,_⟩:=Bk (xs:=es) (by rw [hes];simp) he q;have X:=aB9 hl (by rw [hes];simp) (by omega) he q g4 rfl rfl d c O V W hd H;refine M3 (I7 d c O V W g3 g5) (J5 (H6 X ?_));rintro _ ds ⟨g,hE,h0⟩;cases h0;exact⟨rfl,J5 (J2 _ g hE h4 (by rw [G];simp))⟩
  refine I5 (fun m=>dD m ..) (J5 (K0 (fun _=>J1) fun _=>?_));obtain⟨kk,t3,a3,b3,e3,g3,_,g5⟩:=Hg (n:=n) ⟨es,_,rfl,hle,he,E⟩ (show K6 l i (lE (wS n) (arm es (S k t fs bs f))) from w);refine M3 (bG d c O V W gS g3) ?_;show U (fun m=>O0 m (!(t3==gS&&kk !=2)) l (i:Int) d c O V W 0 acc 5 p o h [] [u] []) _;rw [g5];exact J1
def aA9 {e:D}{zs:List D}(s:gQ 4 e)(A:∀ z∈zs,aI6 n z)(I:1≤zs.length)(G:zs.length≤4){i:Nat}(j:K6 l i ([(1,sV)]++(pW e++(zs.flatMap (lE (wS n))++[(1,gS)])))) :Pq (fun m=>L7 m) l i (1+(pW e).length+(zs.flatMap (lE (wS n))).length+1) (1+sQ (fun a=>qS n (IU a)) zs) (OS (n+1) (S 5 [] [e] [] zs)) (SH (n+1)):=by
 intro d c O V W t g E C;have F:d+1+(SH n:Int)≤40:=by unfold SH at g ⊢;omega
 unfold SH at g;have j:=fM j;obtain⟨a1,k,e1,h1⟩:=K1 j;obtain⟨H,u⟩:=L6.1 (M0 j);obtain⟨_,p⟩:=L6.1 u;obtain⟨a9,N,M,p⟩:=K1 p;(refine I5 (fun m=>U7 m ..) (M3 (bR l d c O V W (i:Int) (by omega) t) (L3 (M3 (S5 l (d+1) c O V W (i:Int) (by omega) E) (M3 (O3 (d+1) (c+1) O V W h1) ?_)))));(refine M3 (I7 (d+1) (c+1) O V W h1 rfl) (L3 ?_));(refine M3 (I7 (d+1) (c+1) O V W h1 rfl) (L3 ?_));(refine M3 (I7 (d+1) (c+1) O V W h1 rfl) (L3 ?_));refine M3 (M6 (d+1) (c+1) O V W hl h1 rfl) (L4 (Q:=fun r=>∃ y ys,OE 4 e y∧Rl (OA (OS n)) zs ys∧r=(false,[.bool true,.Z 5 l,iD ((i+1+(pW e).length+(zs.flatMap (lE (wS n))).length+1:Nat):Int),iD (d+1),iD (c+1+(sQ (fun a=>qS n (IU a)) zs:Int)),iD O,iD V,iD W,iD 0,iD 0,iD 0,iD 0,iD 0,.str [],iD 5,iD a1,iD k,iD e1,.str [],.Z 6 [],.Z 8 [],.Z 9 [],.Z 6 [y],.Z 8 [],.Z 9 ys])) ?_ (fun ds h=>by obtain⟨_,_,_,_,h⟩:=h;cases h) fun ds h=>?_)
 ·refine I5 (fun m=>Z1 m ..) (J5 (H6 (Q:=fun r=>∃ y ys,OE 4 e y∧Rl (OA (OS n)) zs ys∧r=(true,[.Z 5 l,iD ((i+1+(pW e).length+(zs.flatMap (lE (wS n))).length+1:Nat):Int),iD (d+1),iD (c+1+(sQ (fun a=>qS n (IU a)) zs:Int)),iD O,iD V,iD W,iD 0,iD 5,iD a1,iD k,iD e1,.str [],.Z 6 [y],.Z 8 [],.Z 9 ys])) ?_ ?_))
  ·refine I5 (fun m=>mE m l _ _ _ _ _ _ _ _ _ _ _ _ _ _ _) (H6 (wC hl s H (d+1) (c+1) O V W (by omega) (by omega)) ?_);rintro _ ds ⟨x,q,h0⟩;cases h0;have o:=q;obtain⟨k4,v,L,a4,K,J,w,_,rfl⟩:=dW q;have B:=Ol hl ih a1 k e1 (d+1) O V W (by omega) F (by omega) (PE k4 a4 K J v w) zs (i+1+(pW e).length) (c+1) [] [] A u (by simp;omega) (by simp;omega) (by omega) (by omega) Rl.nil;refine⟨rfl,J5 (L4 B (fun ds h=>by obtain⟨_,_,h⟩:=h;cases h) fun ds h=>?_)⟩;obtain⟨ys,f,h⟩:=h;cases h;exact J5 (M3 (M8 (d+1) (c+1+(sQ (fun a=>qS n (IU a)) zs:Int)) O V W hl [gS] (by decide) (S7 p rfl)) (H8 ⟨_,ys,o,f,rfl⟩))
  ·rintro _ ds ⟨y,ys,f,b,h0⟩;cases h0;exact⟨rfl,J5 (H8 ⟨y,ys,f,b,rfl⟩)⟩
 ·obtain⟨y,ys,f,b,h⟩:=h;cases h;refine J5 ?_;(refine M3 (aR l d (c+1+(sQ (fun a=>qS n (IU a)) zs:Int)) O V W _ (by omega) t) ?_);refine H8 ⟨_,⟨5,a1,k,e1,[],[e],[],zs,[y],[],ys,rfl,rfl,kY.one s f,by simp,by omega,Rl.nil,b⟩,?_⟩;rw [show i+(1+(pW e).length+(zs.flatMap (lE (wS n))).length+1)=i+1+(pW e).length+(zs.flatMap (lE (wS n))).length+1 from by omega,show c+((1+sQ (fun a=>qS n (IU a)) zs:Nat):Int)=c+1+(sQ (fun a=>qS n (IU a)) zs:Int) from by omega];rfl
end
def Pq.cast {F:PW}{l:List D}{i m q b a:Nat}{R:D→Prop}{h:Nat}(H:Pq F l i m q R h)(e:m=b)(c:q=a):Pq F l i b a R h:=e▸c▸H
def aR2 {l:List D}(hl:l.length≤1000000):∀ n,aS6 l n
 |0=>fun _ h=>h.elim
 |n+1=>by
  have ih:=aR2 hl n;rintro x ⟨k,t,es,bs,zs,rfl,f,j,y,A⟩ i d m;rcases A with ⟨rfl,rfl,rfl,g,rfl⟩|⟨u,rfl,⟨x,e,rfl,z⟩,rfl,rfl⟩|⟨rfl,rfl,g,⟨b,c,rfl,r⟩,rfl⟩|⟨rfl,rfl,g,rfl,p,o⟩|⟨rfl,rfl,g,s,rfl⟩|⟨rfl,q,g,rfl,rfl⟩|⟨rfl,rfl,rfl,rfl,rfl⟩
  ·exact (aL5 hl ih g j (show K6 l i ([(1,aM)]++(bs.flatMap (wS n)++[(1,iU)])) from d)).cast (by show _=([(1,aM)]++(bs.flatMap (wS n)++[(1,iU)]):List Tk).length;simp only [G0];omega) rfl
  ·(have B:=f e (by simp);have v:wS (n+1) (S k [] [x,e] [] [])=wE 4 x++([(3,bif k==2 then [61] else [60,61])]++(wE 4 e++[(3,[59])])):=by rcases u with rfl|rfl<;>rfl);rw [v] at d ⊢;exact (Tg hl u z B d).cast (by simp only [G0];omega) (by rcases u with rfl|rfl<;>rfl)
  ·match es,g,f,d,m with
   |[e],_,f,d,m=>exact aT1 hl ih (f e (by simp)) (j b (by simp)) (j c (by simp)) r d m
  ·match es,g,f,d with
   |[e],_,f,d=>exact (aA9 hl ih (f e (by simp)) y p o (show K6 l i ([(1,sV)]++(pW e++(zs.flatMap (lE (wS n))++[(1,gS)]))) from d)).cast (by show _=([(1,sV)]++(pW e++(zs.flatMap (lE (wS n))++[(1,gS)])):List Tk).length;simp only [G0];omega) (by show 1+sQ (fun a=>qS n (IU a)) zs=1+(0+sQ (fun a=>qS n (IU a)) zs);omega)
  ·match bs,s,j,d,m with
   |[b],_,j,d,m=>(have v:wS (n+1) (S 6 [105] es [b] [])=dX [105] es++wS n b:=rfl;have w:(wS (n+1) (S 6 [105] es [b] [])).length=(dX [105] es).length+(wS n b).length:=by rw [v,A7]);refine (aM1 hl ih g f (j b (by simp)) (show K6 l i (dX [105] es++wS n b) from d) (fun h=>?_)).cast w.symm (by show _=1+((qS n b+0)+0);omega);rw [← w];exact m h
  ·match es,g,f,d with
   |[e],_,f,d=>exact (aK9 hl q (f e (by simp)) (show K6 l i ((bif t.isEmpty then [] else [(1,t),(3,[58])])++([(1,rR)]++(pW e++[(3,[59])]))) from d)).cast (by show _=((bif t.isEmpty then [] else [(1,t),(3,[58])])++([(1,rR)]++(pW e++[(3,[59])])):List Tk).length;cases t.isEmpty<;>simp only [cond_true,cond_false,G0]<;>omega) rfl
  ·exact aE2 hl (show K6 l i [(3,[59])] from d)
def LY {q:D→Nat}{w:D→List Tk}:∀ {xs:List D},(∀ x∈xs,q x≤(w x).length)→sQ q xs≤(xs.flatMap w).length
 |[],_=>C4 _
 |x::xs,h=>by have h1:=h x (B8 ..);have b:=LY (q:=q) (w:=w) (xs:=xs) fun y a=>h y (C0 _ a);simp only [sQ,D9,A7];omega
def Jf:∀ (n:Nat) (x:D),uN n x→qS n x≤(wS n x).length
 |0,_,h=>h.elim
 |n+1,x,h=>by
  obtain⟨k,t,es,bs,zs,rfl,y,d,q,f⟩:=h;have ih:=Jf n;have A:sQ (qS n) bs≤(bs.flatMap (wS n)).length:=LY fun x m=>ih x (d x m);have z:sQ (fun a=>qS n (IU a)) zs≤(zs.flatMap (lE (wS n))).length:=LY fun a w=>by obtain⟨es,s,rfl,_,_,f⟩:=q a w;have h1:=ih s f;show qS n (IU (arm es s))≤((bif (arm es s |>.at_ 0).l.isEmpty then [(1,AQ)] else [])++(lW (wE 4) (arm es s |>.at_ 0).l++([(3,[58])]++wS n (IU (arm es s)))):List Tk).length;rw [To f];simp only [A7];omega
  rw [aQ1,aY4];rcases f with ⟨rfl,rfl,rfl,g,rfl⟩|⟨v,rfl,⟨x,e,rfl,m⟩,rfl,rfl⟩|⟨rfl,rfl,g,⟨b,c,rfl,u⟩,rfl⟩|⟨rfl,rfl,g,rfl,p,o⟩|⟨rfl,rfl,g,j,rfl⟩|⟨rfl,r,g,rfl,rfl⟩|⟨rfl,rfl,rfl,rfl,rfl⟩
  ·show 1+(sQ (qS n) bs+0)≤([(1,aM)]++(bs.flatMap (wS n)++[(1,iU)]):List Tk).length;simp only [G0];omega
  ·rcases v with rfl|rfl
   ·show 1≤(wE 4 x++([(3,[61])]++(wE 4 e++[(3,[59])])):List Tk).length;simp only [G0];omega
   ·show 1≤(wE 4 x++([(3,[60,61])]++(wE 4 e++[(3,[59])])):List Tk).length;simp only [G0];omega
  ·have h1:=ih b (d b (by simp));have B:=ih c (d c (by simp));show 1+(qS n b+(bif (c.at_ 0).i==8 then 0 else qS n c))≤([(1,zD)]++(pW (x0 es)++(wS n b++(bif (c.at_ 0).i==8 then [] else [(1,iM)]++wS n c))):List Tk).length;cases (c.at_ 0).i==8<;>simp only [cond_true,cond_false,G0]<;>omega
  ·show 1+(0+sQ (fun a=>qS n (IU a)) zs)≤([(1,sV)]++(pW (x0 es)++(zs.flatMap (lE (wS n))++[(1,gS)])):List Tk).length;simp only [G0];omega
  ·match bs,j,d with
   |[b],_,d=>(have h1:=ih b (d b (by simp));show 1+(qS n b+0+0)≤(dX [105] es++wS n b:List Tk).length;have:1≤(dX [105] es).length:=by simp only [dX,G0];omega);rw [A7];omega
  ·show 1≤((bif t.isEmpty then [] else [(1,t),(3,[58])])++([(1,rR)]++(pW (x0 es)++[(3,[59])])):List Tk).length;simp only [G0];omega
  ·show 1≤([(3,[59])]:List Tk).length;simp
end
end Go.Proofs.YtalibicpmfbieaaGreatDoor
