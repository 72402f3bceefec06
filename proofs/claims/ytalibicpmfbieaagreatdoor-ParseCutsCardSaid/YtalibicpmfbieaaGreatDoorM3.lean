import Derived.Test.YtalibicpmfbieaaGreatDoorM2
import Derived.Test.YtalibicpmfbieaaGreatDoorM1
namespace Go.Proofs.YtalibicpmfbieaaGreatDoor
open Go.AE
set_option linter.all false
section
attribute [local simp] Y tk jG nB oC jH mM List.getElem?_cons_zero
section
variable {G:Bool×List D→Prop} {L l:List D} {m:Int} (C:Cx L l m) {lv dd:Prop} {n:Nat} {P Zq:(List D→Bool×List D)→Prop} {i d c O V W e i0 e0 q z:Int} {p y:Prop} {K:List D→List D→Nat→Out}
include C
def tB (w:G1)(j:w.isEmpty=false)(g:∀ (b:Bool) (a f c':Int),Bo G L l (Lv p m i0 e0 q a e) (Dz True l m 0 a O V W e) (fun x n=>K x [.bool b,.Z 5 x,iD a,iD f,iD c',iD O,iD V,iD W,iD e] n) n P Zq) :Bo G L l (Lv p m i0 e0 q i e) (Dz y l m z i O V W e) (fun x n=>bc H9.I6 (H9 n (.str w) (.Z 5 x) i d c O V W e) fun r=>K x r n) n P Zq:=t1 C w j (fun a f c'=>(g true a f c').fW (fun h=>⟨h.1.1,by omega⟩) fun h=>⟨trivial,h.2⟩) fun f c'=>g false i f c'
def OD (w:∀ (ys:List D) (t u c' o g b s:Int),((ys.length:Int)=0∨(ys.length:Int)=2)→Bo G L l (Lv p m i0 e0 q t s) (Dz (s=0→(ys.length:Int)=0) l m 0 t o g b s) (fun x n=>K x [.Z 5 x,iD t,iD u,iD c',iD o,iD g,iD b,iD s,.Z 6 ys] n) n P Zq) :Bo G L l (Lv p m i0 e0 q i e) (Dz y l m z i O V W e) (fun x n=>bc Q7.I6 (Q7 n (.Z 5 x) i d c O V W e) fun r=>K x r n) n P Zq:=by
 have A:zC L l (0≤i∧i≤m) (i=m∧(e=0∨e=6∧O=((K3 l).at_ 2).i∧V=((K3 l).at_ 3).i∧W=((K3 l).at_ 4).i)) (fun x n=>Q7 n (.Z 5 x) i d c O V W e) n true (fun f=>∃ (ys:List D) (t u c' o g b s:Int),f=(fun x=>[.Z 5 x,iD t,iD u,iD c',iD o,iD g,iD b,iD s,.Z 6 ys])∧((ys.length:Int)=0∨(ys.length:Int)=2)∧i≤t∧t≤m∧(e≠0→s≠0)) (fun f=>∃ (ys:List D) (t u c' o g b s:Int),f=(fun x=>[.Z 5 x,iD t,iD u,iD c',iD o,iD g,iD b,iD s,.Z 6 ys])∧((ys.length:Int)=0∨(ys.length:Int)=2)∧(t=m∧(s=0∨s=6∧o=((K3 l).at_ 2).i∧g=((K3 l).at_ 3).i∧b=((K3 l).at_ 4).i))∧(s=0→(ys.length:Int)=0)):=by
  refine Bo.of C (fun _=>rfl) (fun h=>h) (fun h=>h) ?_ fun k w F=>?_
  ·rintro j rfl E B;exact (OY E d c O V W).mono fun r h=>⟨_,⟨[],j,d,c,O,V,W,e,rfl,.inl rfl,B,fun _=>rfl⟩,h⟩
  refine Bo.eq (fun x n=>iH n x i d c O V W e) (t1 C [91] rfl (fun i d c=>?_) fun d c=>?_)
  ·refine aX9 (e1 (RZ C _).expr rfl fun _ _ _ _ _ _ i d c O V W e=>w1 C [58] rfl fun i d c O V W e=>e1 (RZ C _).expr rfl fun _ _ _ _ _ _ i d c O V W e=>w1 C [93] rfl fun i d c O V W e=>?_);dsimp +instances;exact Bo.ret (fun _ _=>rfl) (fun h=>⟨_,i,d,c,O,V,W,e,rfl,.inr rfl,by omega⟩) fun h=>⟨_,i,d,c,O,V,W,e,rfl,.inr rfl,by omega,fun h'=>absurd h' (h.2.2 rfl)⟩
  ·refine aX7 ?_;dsimp +instances;exact Bo.ret (fun _ _=>rfl) (fun h=>⟨_,i,d,c,O,V,W,e,rfl,.inl rfl,by omega⟩) fun h=>⟨_,i,d,c,O,V,W,e,rfl,.inl rfl,h.2.1,fun _=>rfl⟩
 refine Bo.J3 (A.fW Lv.a Dz.a) fun f=>⟨?_,?_⟩
 ·rintro ⟨hl,ys,t,u,c',o,g,b,s,rfl,v,hh⟩;exact (w ys t u c' o g b s v).1 ⟨hl.1,by omega⟩
 ·rintro ⟨ys,t,u,c',o,g,b,s,rfl,v,hh⟩;exact (w ys t u c' o g b s v).2 ⟨hh.2,hh.1,by omega⟩
def NZ (l:List D)(m:Int)(w:Bool)(f:List D→List D):Prop:=∃ (k x1 x2 x3:Int) (t ty:G1) (sg:Bool) (ex o u it el pa r:List D) (j s c' g b a h:Int),f=(fun x=>[.agg [iD k,iD x1,iD x2,iD x3,.str t,.str ty,.bool sg,.Z 6 ex,.Z 6 o,.Z 8 u,.Z 14 it,.Z 14 el,.Z 5 pa,.Z 5 r],.Z 5 x,iD j,iD s,iD c',iD g,iD b,iD a,iD h])∧(w=true→o=[]∧(h=0→(ex.length:Int)≤2))∧j=m∧(h=0∨h=6∧g=((K3 l).at_ 2).i∧b=((K3 l).at_ 3).i∧a=((K3 l).at_ 4).i)
def Yz (w:Bool)(a0 a1 a2:Int)(a3:G1)(i d c O V W e:Int):Bo (fun r=>w=true→((Y r.2 0).at_ 8).l=[]) L l (0≤i∧i≤m) (i=m∧(e=0∨e=6∧O=((K3 l).at_ 2).i∧V=((K3 l).at_ 3).i∧W=((K3 l).at_ 4).i)) (fun x n=>Q2 n (.agg [iD a0,iD a1,iD a2]) (.str a3) (.Z 5 x) i d c O V W e) n (fl true (SP m i e 0 fI)) (fl true (NZ l m w)):=by
 have hm:=C.m0;refine Bo.of C (fun _=>rfl) (fun h=>h) (fun h=>h) ?_ fun k I J=>?_
 ·rintro j rfl H E;refine (Yc H d c O V W).mono fun r ⟨y,d,c,t,s,q2,f,⟨x1,x2,x3,ty,sg,A⟩,F,M,h⟩=>?_;subst A;exact⟨_,⟨_,_,_,_,_,_,_,_,_,_,_,_,_,_,j,d,c,t,s,q2,f,rfl,fun _=>⟨rfl,fun _=>by decide⟩,IY F E⟩,h⟩
 refine Bo.eq (fun x n=>kK n a0 a1 a2 a3 x i d c O V W e) (Bo.ite (fun _=>?_) fun _=>?_)
 ·refine tB C [115,105,103,110,101,100] rfl fun q i d c=>OD C fun ys i d c O V W e v=>m1 C fun nm i d c O V W e=>?_;dsimp +instances;refine Bo.ite (fun _=>Bo.ite (fun _=>?_) fun _=>?_) fun _=>?_
  ·(refine OD C fun zs i d c O V W e u=>?_;have B:(((ys++zs).length:Nat):Int)=ys.length+zs.length:=by rw [A7];omega);dsimp +instances;refine Bo.LB (fun _=>B2 (by simp only [L9];omega)) fun _=>?_;refine Bo.ite (fun _=>Bo.ite (fun b=>?_) fun _=>?_) fun _=>Bo.ite (fun _=>Bo.ite (fun b=>?_) fun _=>?_) fun _=>?_
   all_goals first
    |((try dsimp +instances);exact Bo.ret (fun _ _=>rfl) (fun h=>⟨[_],[],i,d,c,O,V,W,e,rfl,⟨_,_,_,_,_,_,_,_,_,_,_,_,_,_,rfl,rfl⟩,by omega⟩) fun h=>⟨_,_,_,_,_,_,_,_,_,_,_,_,_,_,i,d,c,O,V,W,e,rfl,fun _=>⟨rfl,fun _=>by first|omega|(rw [A8];decide)⟩,by omega⟩)
    |(try have b:=E7 b
      refine t1 C [61] rfl (fun i d c=>?_) fun d c=>?_
      ·refine aX7 ?_
       cases w with
       |false=>refine e1 (RZ C _).expr rfl fun _ _ _ _ _ _ i d c O V W e=>?_;(try dsimp +instances);exact Bo.ret (fun _ _=>rfl) (fun h=>⟨[_],[],i,d,c,O,V,W,e,rfl,⟨_,_,_,_,_,_,_,_,_,_,_,_,_,_,rfl,rfl⟩,by omega⟩) fun h=>⟨_,_,_,_,_,_,_,_,_,_,_,_,_,_,i,d,c,O,V,W,e,rfl,(fun h=>by cases h),by omega⟩
       |true=>refine Bo.fW id (fun h=>absurd h.1 (by decide)) (Bo.not fun hl r g o=>?_);obtain⟨ds,_,a⟩:=Y0 g;have a:=S4 a;cases a;exact absurd (o rfl) (List.cons_ne_nil _ _)
      ·refine aX9 ?_;(try dsimp +instances);exact Bo.ret (fun _ _=>rfl) (fun h=>⟨[_],[],i,d,c,O,V,W,e,rfl,⟨_,_,_,_,_,_,_,_,_,_,_,_,_,_,rfl,rfl⟩,by omega⟩) fun h=>⟨_,_,_,_,_,_,_,_,_,_,_,_,_,_,i,d,c,O,V,W,e,rfl,fun _=>⟨rfl,fun _=>by first|omega|(rw [A8];decide)⟩,by omega⟩)
  ·skip
   refine Bo.ite (fun _=>Bo.ite (fun b=>?_) fun _=>?_) fun _=>Bo.ite (fun _=>Bo.ite (fun b=>?_) fun _=>?_) fun _=>?_
   all_goals first
    |((try dsimp +instances);exact Bo.ret (fun _ _=>rfl) (fun h=>⟨[_],[],i,d,c,O,V,W,e,rfl,⟨_,_,_,_,_,_,_,_,_,_,_,_,_,_,rfl,rfl⟩,by omega⟩) fun h=>⟨_,_,_,_,_,_,_,_,_,_,_,_,_,_,i,d,c,O,V,W,e,rfl,fun _=>⟨rfl,fun _=>by first|omega|(rw [A8];decide)⟩,by omega⟩)
    |(try have b:=E7 b
      refine t1 C [61] rfl (fun i d c=>?_) fun d c=>?_
      ·refine aX7 ?_
       cases w with
       |false=>refine e1 (RZ C _).expr rfl fun _ _ _ _ _ _ i d c O V W e=>?_;(try dsimp +instances);exact Bo.ret (fun _ _=>rfl) (fun h=>⟨[_],[],i,d,c,O,V,W,e,rfl,⟨_,_,_,_,_,_,_,_,_,_,_,_,_,_,rfl,rfl⟩,by omega⟩) fun h=>⟨_,_,_,_,_,_,_,_,_,_,_,_,_,_,i,d,c,O,V,W,e,rfl,(fun h=>by cases h),by omega⟩
       |true=>refine Bo.fW id (fun h=>absurd h.1 (by decide)) (Bo.not fun hl r g o=>?_);obtain⟨ds,_,a⟩:=Y0 g;have a:=S4 a;cases a;exact absurd (o rfl) (List.cons_ne_nil _ _)
      ·refine aX9 ?_;(try dsimp +instances);exact Bo.ret (fun _ _=>rfl) (fun h=>⟨[_],[],i,d,c,O,V,W,e,rfl,⟨_,_,_,_,_,_,_,_,_,_,_,_,_,_,rfl,rfl⟩,by omega⟩) fun h=>⟨_,_,_,_,_,_,_,_,_,_,_,_,_,_,i,d,c,O,V,W,e,rfl,fun _=>⟨rfl,fun _=>by first|omega|(rw [A8];decide)⟩,by omega⟩)
  ·skip
   refine Bo.ite (fun _=>Bo.ite (fun b=>?_) fun _=>?_) fun _=>Bo.ite (fun _=>Bo.ite (fun b=>?_) fun _=>?_) fun _=>?_
   all_goals first
    |((try dsimp +instances);exact Bo.ret (fun _ _=>rfl) (fun h=>⟨[_],[],i,d,c,O,V,W,e,rfl,⟨_,_,_,_,_,_,_,_,_,_,_,_,_,_,rfl,rfl⟩,by omega⟩) fun h=>⟨_,_,_,_,_,_,_,_,_,_,_,_,_,_,i,d,c,O,V,W,e,rfl,fun _=>⟨rfl,fun _=>by first|omega|(rw [A8];decide)⟩,by omega⟩)
    |(try have b:=E7 b
      refine t1 C [61] rfl (fun i d c=>?_) fun d c=>?_
      ·refine aX7 ?_
       cases w with
       |false=>refine e1 (RZ C _).expr rfl fun _ _ _ _ _ _ i d c O V W e=>?_;(try dsimp +instances);exact Bo.ret (fun _ _=>rfl) (fun h=>⟨[_],[],i,d,c,O,V,W,e,rfl,⟨_,_,_,_,_,_,_,_,_,_,_,_,_,_,rfl,rfl⟩,by omega⟩) fun h=>⟨_,_,_,_,_,_,_,_,_,_,_,_,_,_,i,d,c,O,V,W,e,rfl,(fun h=>by cases h),by omega⟩
       |true=>refine Bo.fW id (fun h=>absurd h.1 (by decide)) (Bo.not fun hl r g o=>?_);obtain⟨ds,_,a⟩:=Y0 g;have a:=S4 a;cases a;exact absurd (o rfl) (List.cons_ne_nil _ _)
      ·refine aX9 ?_;(try dsimp +instances);exact Bo.ret (fun _ _=>rfl) (fun h=>⟨[_],[],i,d,c,O,V,W,e,rfl,⟨_,_,_,_,_,_,_,_,_,_,_,_,_,_,rfl,rfl⟩,by omega⟩) fun h=>⟨_,_,_,_,_,_,_,_,_,_,_,_,_,_,i,d,c,O,V,W,e,rfl,fun _=>⟨rfl,fun _=>by first|omega|(rw [A8];decide)⟩,by omega⟩)
 ·refine m1 C fun nm i d c O V W e=>?_;dsimp +instances;refine Bo.ite (fun _=>Bo.ite (fun _=>?_) fun _=>Bo.ite (fun _=>?_) fun _=>?_) fun _=>Bo.ite (fun _=>?_) fun _=>Bo.ite (fun _=>?_) fun _=>?_
  all_goals first
   |((try dsimp +instances);exact Bo.ret (fun _ _=>rfl) (fun h=>⟨[_],[],i,d,c,O,V,W,e,rfl,⟨_,_,_,_,_,_,_,_,_,_,_,_,_,_,rfl,rfl⟩,by omega⟩) fun h=>⟨_,_,_,_,_,_,_,_,_,_,_,_,_,_,i,d,c,O,V,W,e,rfl,fun _=>⟨rfl,fun _=>by first|omega|(rw [A8];decide)⟩,by omega⟩)
   |(try have b:=E7 b
     refine t1 C [61] rfl (fun i d c=>?_) fun d c=>?_
     ·refine aX7 ?_
      cases w with
      |false=>refine e1 (RZ C _).expr rfl fun _ _ _ _ _ _ i d c O V W e=>?_;(try dsimp +instances);exact Bo.ret (fun _ _=>rfl) (fun h=>⟨[_],[],i,d,c,O,V,W,e,rfl,⟨_,_,_,_,_,_,_,_,_,_,_,_,_,_,rfl,rfl⟩,by omega⟩) fun h=>⟨_,_,_,_,_,_,_,_,_,_,_,_,_,_,i,d,c,O,V,W,e,rfl,(fun h=>by cases h),by omega⟩
      |true=>refine Bo.fW id (fun h=>absurd h.1 (by decide)) (Bo.not fun hl r g o=>?_);obtain⟨ds,_,a⟩:=Y0 g;have a:=S4 a;cases a;exact absurd (o rfl) (List.cons_ne_nil _ _)
     ·refine aX9 ?_;(try dsimp +instances);exact Bo.ret (fun _ _=>rfl) (fun h=>⟨[_],[],i,d,c,O,V,W,e,rfl,⟨_,_,_,_,_,_,_,_,_,_,_,_,_,_,rfl,rfl⟩,by omega⟩) fun h=>⟨_,_,_,_,_,_,_,_,_,_,_,_,_,_,i,d,c,O,V,W,e,rfl,fun _=>⟨rfl,fun _=>by first|omega|(rw [A8];decide)⟩,by omega⟩)
def JY (a0 a1 a2:Int)(a3:G1):Sp L l m 0 0 fI (fun n=>Q2 n (.agg [iD a0,iD a1,iD a2]) (.str a3)) n:=by
 intro i d c O V W e;have h:=Yz C (n:=n) false a0 a1 a2 a3 i d c O V W e;refine⟨fun hl r x _=>(h.1 hl r x fun h=>by cases h).mono ?_,fun A=>(h.2 A).mono ?_⟩
 ·rintro v (h|⟨_,⟨f,⟨k,x1,x2,x3,t,ty,sg,ex,B,E,it,el,pa,w,j,u,c',g,b,a,s,rfl,_,o⟩,rfl⟩,h⟩)
  ·exact .inl h
  ·exact .inr ⟨_,⟨_,⟨[_],[],j,u,c',g,b,a,s,rfl,⟨_,_,_,_,_,_,_,_,_,_,_,_,_,_,rfl,rfl⟩,o,fun h=>absurd h (by decide)⟩,rfl⟩,h⟩
 ·rintro v ⟨_,⟨f,⟨k,x1,x2,x3,t,ty,sg,ex,B,E,it,el,pa,w,j,u,c',g,b,a,s,rfl,_,o⟩,rfl⟩,h⟩;exact⟨_,⟨_,⟨[_],[],j,u,c',g,b,a,s,rfl,⟨_,_,_,_,_,_,_,_,_,_,_,_,_,_,rfl,rfl⟩,o,fun h=>absurd h (by decide)⟩,rfl⟩,h⟩
end
end
section
attribute [local simp] Y tk jG nB oC jH mM List.getElem?_cons_zero
def aQ9 (k:Nat)(pre a:List D):Prop:=pre=[]∧∃ ys:List D,a=[.Z k ys]
section
variable {G:Bool×List D→Prop} {L l:List D} {m:Int} (C:Cx L l m) {lv dd:Prop} {n:Nat} {P Zq:(List D→Bool×List D)→Prop} {i d c O V W e i0 e0 q z:Int} {p y:Prop} {K:List D→List D→Nat→Out}
def NR (y:D)(h:Zo y):fI [y] []:=by obtain⟨k,x1,x2,x3,t,ty,sg,ex,b,f,it,el,pa,a,rfl⟩:=h;exact⟨_,_,_,_,_,_,_,_,_,_,_,_,_,_,rfl,rfl⟩
include C
def Jm (a0 a1 a2:Int)(a3:G1):Sp L l m 1 0 fI (fun n=>Z6 n (.agg [iD a0,iD a1,iD a2]) (.str a3)) n:=by refine Sp.oE C rfl NR (fun _ _=>Hv) fun k a i d c O V W e=>Bo.eq (fun x n=>mH n a0 a1 a2 a3 x i d c O V W e) (m1 C fun nm i d c O V W e=>w1 C [61] rfl fun i d c O V W e=>e1 (RZ C _).expr rfl fun _ _ _ _ _ _ i d c O V W e=>?_);(try dsimp +instances);exact rt [_] [] ⟨_,_,_,_,_,_,_,_,_,_,_,_,_,_,rfl,rfl⟩
def aS2 (L l:List D)(m:Int)(n:Nat):Prop:=∀ (acc:List D) (i d c O V W e:Int),(acc.length:Int)≤m+2→
 NS L l m 0 0 ((0≤i∧i≤m)∧(e=0→(acc.length:Int)≤i+1)) (i=m∧(e=0∨e=6∧O=((K3 l).at_ 2).i∧V=((K3 l).at_ 3).i∧W=((K3 l).at_ 4).i)) i e (aQ9 5) (fun x n=>V6 n (.Z 5 x) i d c O V W e (.Z 5 acc)) n
def Sv:∀ n,aS2 L l m n:=by
 have hm:=C.m0;intro n
 induction n with
 |zero=>exact fun acc i d c O V W e g=>NS.of C (fun _=>rfl) (fun h=>h) (fun h=>h.1) (fun j u w _=>by subst u;exact (Am (by omega) w d c O V W).mono fun r ⟨ys,d,c,s,o,q2,f,F,v,h⟩=>⟨[],[_],d,c,s,o,q2,f,⟨rfl,ys,rfl⟩,F,fun _=>v,h⟩) fun k B _=>absurd B (by omega)
 |succ n A=>
  intro acc i d c O V W e g;refine NS.of C (fun _=>rfl) (fun h=>h) (fun h=>h.1) (fun j u w _=>?_) fun k B E=>?_
  ·subst u;exact (Am (by omega) w d c O V W).mono fun r ⟨ys,d,c,s,o,q2,f,F,v,h⟩=>⟨[],[_],d,c,s,o,q2,f,⟨rfl,ys,rfl⟩,F,fun _=>v,h⟩
  obtain rfl:n=k:=by omega
  have J:e=0→∀ (y:Prop) (d c:Int),zC L l (Lv True m i e 0 i e) (Dz y l m 0 i O V W e) (fun x n=>P2 n true x i d c O V W e acc) n false (SP m i e 0 (aQ9 5)) (SZ l m 0 (aQ9 5)):=by
   intro b y d c;refine (aX7 (n1 C fun _ t _ _ _ d c=>w1 C [46] rfl fun i d c O V W e=>m1 C fun nm i d c O V W e=>w1 C [40] rfl fun i d c O V W e=>i1 C [41] rfl (fun d c=>?_) fun d c=>?_))
   ·refine aX9 (w1 C [41] rfl fun i d c O V W e=>Bo.LB (fun _=>B2 (by simp only [L9];omega)) fun _=>?_);refine t1 C [44] rfl (fun i d c=>?_) fun d c=>?_
    ·exact aX9 (IK (A _ i d c O V W e (by rw [A7,C9];omega)) (fun h=>by rw [A7,C9];omega) Dz.a)
    ·refine aX7 ?_;(try dsimp +instances);exact rt [] [_] ⟨rfl,_,rfl⟩
   ·refine aX7 (e1 (RZ C _).expr rfl fun _ _ _ _ _ _ i d c O V W e=>(w1 C [41] rfl fun i d c O V W e=>Bo.LB (fun _=>B2 (by simp only [L9];omega)) fun _=>?_));refine t1 C [44] rfl (fun i d c=>?_) fun d c=>?_
    ·exact aX9 (IK (A _ i d c O V W e (by rw [A7,C9];omega)) (fun h=>by rw [A7,C9];omega) Dz.a)
    ·refine aX7 ?_;(try dsimp +instances);exact rt [] [_] ⟨rfl,_,rfl⟩
  refine Bo.eq (fun x n=>bV n x i d c O V W e acc) (Bo.ite (fun b=>?_) fun _=>?_)
  ·have b:e=0:=eq_of_beq b;refine Bo.ite (fun _=>(J b _ d c).fW (fun h=>⟨trivial,h.2⟩) id) fun _=>i1 C [41] rfl (fun d c=>?_) fun d c=>?_
   ·refine (aX9 ?_);(try dsimp +instances);exact rt [] [_] ⟨rfl,_,rfl⟩
   ·exact (J b _ d c).fW (fun h=>⟨trivial,h.2⟩) id
  ·refine (aX9 ?_);(try dsimp +instances);exact rt [] [_] ⟨rfl,_,rfl⟩
def YS:Sp L l m 1 0 (aQ9 5) (fun n=>W1 n) n:=by refine Sp.aE4 C (fun _ _ _ _ _ _ _ _=>rfl) (fun j d c O V W e h=>(Hs h d c O V W).mono fun _ h=>h.fd (fun ys _=>⟨rfl,ys,rfl⟩)) fun k g i d c O V W e=>?_;have hm:=C.m0;have h1:=C.h1;refine Bo.eq (fun x n=>mF n x i d c O V W e) (w1 C [40] rfl fun i d c O V W e=>DK (Sv C _ _ i d c O V W e (by rw [A8];omega)) (fun h=>by rw [A8];omega) Dz.a fun pre b i d c O V W e f=>?_);obtain⟨rfl,ys,rfl⟩:=f;refine aX7 (w1 C [41] rfl fun i d c O V W e=>?_);(try dsimp +instances);exact rt [] [_] ⟨rfl,_,rfl⟩
def aG7 (a0 a1 a2:Int):Sp L l m 1 1 fI (fun n=>cC n (.agg [iD a0,iD a1,iD a2])) n:=by
 refine Sp.oE C rfl NR (fun _ _=>Px) fun k g i d c O V W e=>Bo.eq (fun x n=>nJ n a0 a1 a2 x i d c O V W e) (m1 C fun nm i d c O V W e=>t1 C [35] rfl (fun i d c=>?_) fun d c=>?_)
 ·refine aX7 ?_;refine s1 (YS C) fun pre a i d c O V W e b=>?_;obtain⟨rfl,ys,rfl⟩:=b;refine aX7 ?_;refine (m1 C fun f i d c O V W e=>?_);refine s1 (YS C) fun pre a i d c O V W e b=>?_;obtain⟨rfl,zs,rfl⟩:=b;refine aX7 ?_;refine w1 C [59] rfl fun i d c O V W e=>?_;(try dsimp +instances);exact rt [_] [] ⟨_,_,_,_,_,_,_,_,_,_,_,_,_,_,rfl,rfl⟩
 ·refine aX9 (m1 C fun f i d c O V W e=>?_);refine s1 (YS C) fun pre a i d c O V W e b=>?_;obtain⟨rfl,zs,rfl⟩:=b;refine aX7 ?_;refine w1 C [59] rfl fun i d c O V W e=>?_;(try dsimp +instances);exact rt [_] [] ⟨_,_,_,_,_,_,_,_,_,_,_,_,_,_,rfl,rfl⟩
def Ss (a0 a1 a2:Int):Sp L l m 0 0 fI (fun n=>aD n (.agg [iD a0,iD a1,iD a2])) n:=by
 refine Sp.oE C rfl NR (fun _ _=>Ps) fun k a i d c O V W e=>Bo.eq (fun x n=>iG n a0 a1 a2 x i d c O V W e) (w1 C [64] rfl fun i d c O V W e=>t1 C [42] rfl (fun i d c=>?_) fun d c=>?_)
 ·refine aX9 (mJ ((aK6 C _).stmt) rfl fun _ _ _ _ _ _ _ _ i d c O V W e=>?_);(try dsimp +instances);exact rt [_] [] ⟨_,_,_,_,_,_,_,_,_,_,_,_,_,_,rfl,rfl⟩
 ·refine aX7 (w1 C [40] rfl fun i d c O V W e=>t1 C [112,111,115,101,100,103,101] rfl (fun i d c=>?_) fun d c=>?_)
  ·refine aX7 (m1 C fun nm i d c O V W e=>w1 C [41] rfl fun i d c O V W e=>(mJ ((aK6 C _).stmt) rfl fun _ _ _ _ _ _ _ _ i d c O V W e=>?_));(try dsimp +instances);exact rt [_] [] ⟨_,_,_,_,_,_,_,_,_,_,_,_,_,_,rfl,rfl⟩
  ·refine aX9 (w1 C [42] rfl fun i d c O V W e=>w1 C [41] rfl fun i d c O V W e=>(mJ ((aK6 C _).stmt) rfl fun _ _ _ _ _ _ _ _ i d c O V W e=>?_));(try dsimp +instances);exact rt [_] [] ⟨_,_,_,_,_,_,_,_,_,_,_,_,_,_,rfl,rfl⟩
def aG8:Sp L l m 0 0 fI (fun n=>cD n) n:=by
 refine Sp.oE C rfl NR (fun _ _=>Qb) fun k a i d c O V W e=>Bo.eq (fun x n=>gD n x i d c O V W e) (n1 C fun _ t _ _ _ d c=>t1 C [105,110,112,117,116] rfl (fun i d c=>?_) fun d c=>?_)
 ·refine aX7 (Qv (JY C _ _ _ _) rfl fun _ _ _ _ _ _ _ _ _ _ _ _ _ _ i d c O V W e=>?_);(try dsimp +instances);exact rt [_] [] ⟨_,_,_,_,_,_,_,_,_,_,_,_,_,_,rfl,rfl⟩
 ·refine aX9 (w1 C [111,117,116,112,117,116] rfl fun i d c O V W e=>t1 C [114,101,103] rfl (fun i d c=>?_) fun d c=>?_)
  ·refine aX7 (Qv (JY C _ _ _ _) rfl fun _ _ _ _ _ _ _ _ _ _ _ _ _ _ i d c O V W e=>?_);(try dsimp +instances);exact rt [_] [] ⟨_,_,_,_,_,_,_,_,_,_,_,_,_,_,rfl,rfl⟩
  ·refine aX9 (Qv (JY C _ _ _ _) rfl fun _ _ _ _ _ _ _ _ _ _ _ _ _ _ i d c O V W e=>?_);(try dsimp +instances);exact rt [_] [] ⟨_,_,_,_,_,_,_,_,_,_,_,_,_,_,rfl,rfl⟩
def Uu {a b g:Int}{k:Int}(v:k≠0)(E:dd→(i=m∧(e=0∨e=6∧O=((K3 l).at_ 2).i∧V=((K3 l).at_ 3).i∧W=((K3 l).at_ 4).i))∧e≠0)(w:∀ s o j t:Int,Bo G L l (lv∧t≠0) ((i=m∧(t=0∨t=6∧s=((K3 l).at_ 2).i∧o=((K3 l).at_ 3).i∧j=((K3 l).at_ 4).i))∧t≠0) (fun x n=>K x [.Z 5 x,iD i,iD d,iD c,iD s,iD o,iD j,iD t] n) n P Zq) :Bo G L l lv dd (fun x n=>AE.J3 (M9 n (.agg [iD a,iD b,iD g]) k (.Z 5 x) i d c O V W e) fun ds=>K x ds n) n P Zq:=by
 have _:=C;by_cases he:e=0
 ·refine Bo.fW (dd':=False) id (fun h=>(E h).2 he) ?_;subst he;refine Bo.J3 (Pg:=fun f=>f=(fun x=>[.Z 5 x,iD i,iD d,iD c,iD a,iD b,iD g,iD k])) (Zg:=fun _=>False) (zC.mk (fun _ r u=>?_) False.elim) fun f=>⟨?_,False.elim⟩
  ·exact (XB a b g k i d c O V W).mono fun B h=> .inl ⟨_,rfl,PJ u,h⟩
  ·rintro ⟨hl,rfl⟩;exact (w a b g k).1 ⟨hl,v⟩
 ·refine Bo.J3 (Pg:=fun f=>f=(fun x=>[.Z 5 x,iD i,iD d,iD c,iD O,iD V,iD W,iD e])) (Zg:=fun f=>f=(fun x=>[.Z 5 x,iD i,iD d,iD c,iD O,iD V,iD W,iD e])∧dd) (zC.mk (fun _ r u=>?_) fun A=>?_) fun f=>⟨?_,?_⟩
  ·exact (AX he a b g k i d c O V W).mono fun B h=> .inl ⟨_,rfl,NC he u,h⟩
  ·exact (AX he a b g k i d c O V W).mono fun B h=>⟨_,⟨rfl,A⟩,h⟩
  ·rintro ⟨hl,rfl⟩;exact (w O V W e).1 ⟨hl,he⟩
  ·rintro ⟨rfl,A⟩;exact (w O V W e).2 ⟨(E A).1,he⟩
def On {a b g:Int}{k:Int}(t:k≠0)(v:Dz y l m z i O V W e→e≠0)(u:∀ w c' o j f s:Int,Bo G L l (Lv p m i0 e0 q i s) (Dz True l m 1 i o j f s) (fun x n=>K x [.Z 5 x,iD i,iD w,iD c',iD o,iD j,iD f,iD s] n) n P Zq) :Bo G L l (Lv p m i0 e0 q i e) (Dz y l m z i O V W e) (fun x n=>bc M9.I6 (M9 n (.agg [iD a,iD b,iD g]) k (.Z 5 x) i d c O V W e) fun r=>K x r n) n P Zq:=Uu C t (fun h=>⟨h.2.1,v h⟩) fun o j f s=>aX7 ((u d c o j f s).fW (fun h=>⟨h.1.1,by omega⟩) fun h=>⟨trivial,h.1,fun _=>h.2⟩)
end
end
section
attribute [local simp] Y tk jG nB oC jH mM List.getElem?_cons_zero
def Good (k:Nat)(r:Bool×List D):Prop:=(Y r.2 k).i=0
def Gy (k:Nat)(r:Bool×List D):Prop:=r.1=false→(Y r.2 k).i=0
section
variable {G:Bool×List D→Prop} {L l:List D} {m:Int} (C:Cx L l m) {lv dd lv' dd':Prop} {n:Nat} {P Zq:(List D→Bool×List D)→Prop} {i d c O V W e i0 e0 q z:Int} {p y:Prop} {K:List D→List D→Nat→Out} {H:List D→Nat→Out}
def aJ1 (G:Bool×List D→Prop)(L l:List D)(m z:Int)(lv dd:Prop)(i e:Int)(o:List D→List D→Prop)(H:List D→Nat→Out)(n:Nat):Prop:=Bo G L l lv dd H n
 (fl false fun f=>∃ (pre a:List D) (j r c' h g b k:Int),f=(fun x=>pre++([.Z 5 x,iD j,iD r,iD c',iD h,iD g,iD b,iD k]++a))∧o pre a∧i≤j∧j≤m∧(e≠0→k≠0))
 (fl false (SZ l m z o))
def Tp {o:List D→List D→Prop}{k:Int}(h:aJ1 G L l m k lv' dd' i e o H n)(h1:Lv p m i0 e0 q i e→lv')(t:Dz y l m z i O V W e→dd'):aJ1 G L l m k (Lv p m i0 e0 q i e) (Dz y l m z i O V W e) i0 e0 o H n:=by refine Bo.post (Bo.fW h1 t h) ?_ fun f h=>h;rintro f hl ⟨_,⟨pre,a,r,v,c',j,g,b,u,rfl,s,hh⟩,rfl⟩;exact⟨_,⟨pre,a,r,v,c',j,g,b,u,rfl,s,by omega⟩,rfl⟩
def f28 (a8 a9 a10 a11 a15 I F E:Int)(a12 a13 B A:G1)(a14 x:Bool)(w v u t s r o k j h g f b:List D)(pre a:List D):Prop:=pre=[]∧∃ ys:List D,a=[iD a8,iD a9,iD a10,iD a11,.str a12,.str a13,.bool a14,iD a15,iD I,iD F,iD E,.str B,.str A,.bool x,.Z 6 w,.Z 6 v,.Z 8 u,.Z 14 t,.Z 14 s,.Z 5 r,.Z 5 o,.Z 6 k,.Z 6 j,.Z 8 h,.Z 14 ys,.Z 14 g,.Z 5 f,.Z 5 b]
def aS3 (L l:List D)(m:Int)(n:Nat):Prop:=∀ (a8 a9 a10 a11 a15 J I F:Int) (a12 a13 E B:G1) (a14 A:Bool) (w v u t s r o k j h a g f b:List D) (i d c O V W e:Int),(a.length:Int)≤m+2→
 aJ1 (Gy 7) L l m 0 ((0≤i∧i≤m)∧(e=0→(a.length:Int)≤i+1)) (i=m∧(e=0∨e=6∧O=((K3 l).at_ 2).i∧V=((K3 l).at_ 3).i∧W=((K3 l).at_ 4).i)) i e (f28 a8 a9 a10 a11 a15 J I F a12 a13 E B a14 A w v u t s r o k j h g f b) (fun x n=>P3 n (.Z 5 x) i d c O V W e a8 a9 a10 a11 (.str a12) (.str a13) (.bool a14) a15 J I F (.str E) (.str B) (.bool A) (.Z 6 w) (.Z 6 v) (.Z 8 u) (.Z 14 t) (.Z 14 s) (.Z 5 r) (.Z 5 o) (.Z 6 k) (.Z 6 j) (.Z 8 h) (.Z 14 a) (.Z 14 g) (.Z 5 f) (.Z 5 b)) n
def Ie {X T:List D}{a8 a9 a10 a11 a15 S R Q:Int}{a12 a13 N M:G1}{a14 J:Bool}{I F E B A x w v u t s o k j:List D}{r:Bool×List D}(h:Y5 n true X T s a8 a9 a10 a11 a12 a13 a14 a15 S R Q N M J I F E B A x w v u t o k j=some r):¬ Gy 7 r:=by
 rw [Y5.eq_1] at h;obtain⟨ds,h1,g⟩:=Y0 (show AE.J3 (M9 n _ _ _ _ _ _ _ _ _ _) _=some r from h);have h1:=congrArg Prod.snd (PJ h1);have g:=S4 g;obtain⟨ds2,f,a⟩:=Y0 g;have b:(Y ds 7).i≠0:=by
  cases hc:((Y T 8).i==0) with
  |true=>rw [hc] at h1;subst h1;exact (by decide:(5:Int)≠0)
  |false=>rw [hc] at h1;subst h1;exact F4.1 hc
 have f:=congrArg Prod.snd (Jy b (by decide) f);subst f;have a:=S4 (S4 a);rw [Y6.eq_1] at a;have h5:=Vm b a;subst h5;exact fun h=>b (h rfl)
include C
def aA0 {a0 a1 a2:Int}{a3:G1}(J:∀ ds r,Lv p m i0 e0 q i e→K L ds n=some r→G r→((Y ds 0).at_ 8).l=[])(B:∀ (k x1 x2 x3:Int) (t ty:G1) (sg:Bool) (ex u A it el pa v:List D) (s w c' j g b o:Int),Bo G L l (Lv p m i0 e0 q s o) (Dz (u=[]∧(o=0→(ex.length:Int)≤2)) l m 0 s j g b o) (fun x n=>K x [.agg [iD k,iD x1,iD x2,iD x3,.str t,.str ty,.bool sg,.Z 6 ex,.Z 6 u,.Z 8 A,.Z 14 it,.Z 14 el,.Z 5 pa,.Z 5 v],.Z 5 x,iD s,iD w,iD c',iD j,iD g,iD b,iD o] n) n P Zq) :Bo G L l (Lv p m i0 e0 q i e) (Dz y l m z i O V W e) (fun x n=>AE.J3 (Q2 n (.agg [iD a0,iD a1,iD a2]) (.str a3) (.Z 5 x) i d c O V W e) fun ds=>K x ds n) n P Zq:=by
 refine Bo.WD ((Yz C true a0 a1 a2 a3 i d c O V W e).fW Lv.a Dz.a) (fun ds r hl h I _=>J ds r hl h I) fun f=>⟨?_,?_⟩
 ·rintro ⟨hl,pre,E,s,w,c',j,g,b,o,rfl,⟨k,x1,x2,x3,t,ty,sg,ex,u,A,it,el,pa,v,rfl,rfl⟩,h1,R,Q,N⟩;exact (B k x1 x2 x3 t ty sg ex u A it el pa v s w c' j g b o).1 ⟨hl.1,by omega⟩
 ·rintro ⟨k,x1,x2,x3,t,ty,sg,ex,u,A,it,el,pa,v,s,w,c',j,g,b,o,rfl,F,M⟩;exact (B k x1 x2 x3 t ty sg ex u A it el pa v s w c' j g b o).2 ⟨F rfl,M,by omega⟩
omit C in
def aL2 {v:Bool×List D→Prop}{B:List D→List D→Prop}{w:Int}(h:aJ1 v L l m w lv' dd' i e B H n)(h1:Lv p m i0 e0 q i e→lv')(F:Dz y l m z i O V W e→dd')(E:∀ ds r,Lv p m i0 e0 q i e→K L ds n=some r→G r→v (false,ds))(t:∀ ds,Lv p m i0 e0 q i e→G (true,ds)→v (true,ds))(A:∀ (pre a:List D) (k s c' j g b o:Int),B pre a→Bo G L l (Lv p m i0 e0 q k o) (Dz True l m w k j g b o) (fun x n=>K x (pre++([.Z 5 x,iD k,iD s,iD c',iD j,iD g,iD b,iD o]++a)) n) n P Zq) :Bo G L l (Lv p m i0 e0 q i e) (Dz y l m z i O V W e) (fun x n=>AE.gM (H x n) fun ds=>K x ds n) n P Zq:=by
 refine Bo.Eg (Bo.fW h1 F h) E t fun f=>⟨?_,?_⟩
 ·rintro ⟨hl,pre,a,k,s,c',j,g,b,o,rfl,u,hh⟩;exact (A pre a k s c' j g b o u).1 ⟨hl.1,by omega⟩
 ·rintro ⟨pre,a,k,s,c',j,g,b,o,rfl,u,hh⟩;exact (A pre a k s c' j g b o u).2 ⟨trivial,hh⟩
omit C in
def rg {r:List D→List D→Prop}{s:Int}{b:Bool}{v:List D→Nat→Out}(pre a:List D)(t:r pre a)(A:∀ x n,v x n=some (b,pre++([.Z 5 x,iD i,iD d,iD c,iD O,iD V,iD W,iD e]++a)))(w:s=1→z=1):Bo G L l (Lv p m i0 e0 q i e) (Dz y l m z i O V W e) v n
  (fl b fun f=>∃ (pre a:List D) (o B c' k j g u:Int),f=(fun x=>pre++([.Z 5 x,iD o,iD B,iD c',iD k,iD j,iD g,iD u]++a))∧r pre a∧i0≤o∧o≤m∧(e0≠0→u≠0)) (fl b (SZ l m s r)):=
 Bo.ret A (fun h=>⟨pre,a,i,d,c,O,V,W,e,rfl,t,by omega⟩) fun h=>⟨pre,a,i,d,c,O,V,W,e,rfl,t,h.2.1,fun h1=>h.2.2 (w h1)⟩
def aG6:∀ n,aS3 L l m n:=by
 have hm:=C.m0;have dead:∀ (j:Nat) (a8 a9 a10 a11 a15 a16 X T:Int) (a12 a13 S R:G1) (a14 Q:Bool) (N M I F E B w v u s a32 o g b:List D) (d c O V W e:Int),Dd l j e→((j:Int)=m∧(e=0∨e=6∧O=((K3 l).at_ 2).i∧V=((K3 l).at_ 3).i∧W=((K3 l).at_ 4).i))→U (fun n=>P3 n (.Z 5 l) (j:Int) d c O V W e a8 a9 a10 a11 (.str a12) (.str a13) (.bool a14) a15 a16 X T (.str S) (.str R) (.bool Q) (.Z 6 N) (.Z 6 M) (.Z 8 I) (.Z 14 F) (.Z 14 E) (.Z 5 B) (.Z 5 w) (.Z 6 v) (.Z 6 u) (.Z 8 s) (.Z 14 a32) (.Z 14 o) (.Z 5 g) (.Z 5 b)) fun r'=>∃ f:List D→List D,(∃ (pre suf:List D) (i' d' c' p0' p1' p2' e':Int),f=(fun x=>pre++([.Z 5 x,iD i',iD d',iD c',iD p0',iD p1',iD p2',iD e']++suf))∧f28 a8 a9 a10 a11 a15 a16 X T a12 a13 S R a14 Q N M I F E B w v u s o g b pre suf∧(i'=m∧(e'=0∨e'=6∧p0'=((K3 l).at_ 2).i∧p1'=((K3 l).at_ 3).i∧p2'=((K3 l).at_ 4).i))∧((0:Int)=1→e'≠0))∧r'=(false,f l):=by intro j a8 a9 a10 a11 a15 a16 X T a12 a13 S R a14 Q N M I F E B w v u s a32 o g b d c O V W e hD hd;exact (Pw hD d c O V W).mono fun r h=>⟨_,⟨[],[iD a8,iD a9,iD a10,iD a11,.str a12,.str a13,.bool a14,iD a15,iD a16,iD X,iD T,.str S,.str R,.bool Q,.Z 6 N,.Z 6 M,.Z 8 I,.Z 14 F,.Z 14 E,.Z 5 B,.Z 5 w,.Z 6 v,.Z 6 u,.Z 8 s,.Z 14 a32,.Z 14 o,.Z 5 g,.Z 5 b],j,d,c,O,V,W,e,rfl,⟨rfl,a32,rfl⟩,hd,fun h=>absurd h (by decide)⟩,h⟩
 intro n
 induction n with
 |zero=>exact fun a8 a9 a10 a11 a15 a16 X T a12 a13 S R a14 Q N M I F E B w v u s a32 o g b i d c O V W e hacc=>Bo.of C (fun _=>rfl) (fun h=>h) (fun h=>h.1) (fun j hj hD hd=>by subst hj;exact dead j a8 a9 a10 a11 a15 a16 X T a12 a13 S R a14 Q N M I F E B w v u s a32 o g b d c O V W e hD hd) fun k hk _=>absurd hk (by omega)
 |succ n A=>
  intro a8 a9 a10 a11 a15 a16 X T a12 a13 S R a14 Q N M I F E B w v u s a32 o g b i d c O V W e hacc;refine Bo.of C (fun _=>rfl) (fun h=>h) (fun h=>h.1) (fun j hj hD hd=>?_) fun k hk hi=>?_
  ·subst hj;exact dead j a8 a9 a10 a11 a15 a16 X T a12 a13 S R a14 Q N M I F E B w v u s a32 o g b d c O V W e hD hd
  obtain rfl:n=k:=by omega
  have J:i<m→e=0→∀ d c:Int,aJ1 (Gy 7) L l m 0 (Lv True m i e 0 i e) (Dz ((0:Int)=1) l m 0 i O V W e) i e (f28 a8 a9 a10 a11 a15 a16 X T a12 a13 S R a14 Q N M I F E B w v u s o g b) (fun x n=>P5 n true x i d c O V W e a32 a8 a9 a10 a11 a12 a13 a14 a15 a16 X T S R Q N M I F E B w v u s o g b) n:=by
   intro him he d c;unfold aJ1;refine (aX7 (n2 C fun _ t _ _ _ d c _=>?_));dsimp +instances;rw [inc C (i:=i) (by omega)];refine Bo.fW (lv':=Lv True m i e 1 (i+1) e) (dd':=Dz ((0:Int)=1) l m 0 (i+1) O V W e) (fun h=>⟨trivial,by omega⟩) (fun h=>by omega) (aA0 C (fun ds r _ h hr=>?_) fun k x1 x2 x3 t' ty sg ex fi bo it el pa po i d c O V W e=>?_)
   ·have h:=S4 h;rcases Classical.em (((Y ds 0).at_ 8).l=[]) with hfi|hfi
    ·exact hfi
    ·exfalso;rcases tI h with h|h
     ·exact Ie h hr
     ·rw [E6 (show (((Y ds 0).at_ 8).l.length:Int)>0 from by
       have:=List.length_pos_iff.2 hfi;omega)] at h
      exact Ie h hr
   refine aX7 ?_;dsimp +instances;refine Bo.ite (fun hb=>?_) fun _=>?_
   ·have hb:=E7 hb;refine (aX7 (On C (by decide) (fun h he=>by have:=h.1.2 he;omega) fun d c O V W e=>?_));refine w1 C [59] rfl fun i d c O V W e=>Bo.LB (fun _=>B2 (by simp only [L9];omega)) fun _=>?_;exact Bo.df (fun x n=>Y6.eq_1 n ..) (Tp (A _ _ _ _ _ _ _ _ _ _ _ _ _ _ _ _ _ _ _ _ _ _ _ _ _ _ _ _ i d c O V W e (by rw [A7,C9];omega)) (fun h=>by rw [A7,C9];omega) Dz.a)
   ·refine Bo.df (fun x n=>Y5.eq_1 n ..) (Bo.ite (fun hb=>?_) fun _=>?_)
    ·have hb:=E7 hb;refine On C (by decide) (fun h he=>by have:=h.1.1;rw [this,A8] at hb;omega) fun d c O V W e=>?_;refine w1 C [59] rfl fun i d c O V W e=>Bo.LB (fun _=>B2 (by simp only [L9];omega)) fun _=>?_;exact Bo.df (fun x n=>Y6.eq_1 n ..) (Tp (A _ _ _ _ _ _ _ _ _ _ _ _ _ _ _ _ _ _ _ _ _ _ _ _ _ _ _ _ i d c O V W e (by rw [A7,C9];omega)) (fun h=>by rw [A7,C9];omega) Dz.a)
    ·refine w1 C [59] rfl fun i d c O V W e=>Bo.LB (fun _=>B2 (by simp only [L9];omega)) fun _=>?_;exact Bo.df (fun x n=>Y6.eq_1 n ..) (Tp (A _ _ _ _ _ _ _ _ _ _ _ _ _ _ _ _ _ _ _ _ _ _ _ _ _ _ _ _ i d c O V W e (by rw [A7,C9];omega)) (fun h=>by rw [A7,C9];omega) Dz.a)
  refine Bo.eq (fun x n=>cB n x i d c O V W e a8 a9 a10 a11 a12 a13 a14 a15 a16 X T S R Q N M I F E B w v u s a32 o g b) (i1 C [105,110,112,117,116] rfl (fun d c=>?_) fun d c=>?_)
  ·exact aX7 (Bo.UO Dz.no fun h=>(J h.1.2.1 h.1.2.2 d c).fW (fun h=>⟨trivial,h.2⟩) id)
  refine aX9 (i1 C [114,101,103] rfl (fun d c=>?_) fun d c=>?_)
  ·exact aX7 (Bo.UO Dz.no fun h=>(J h.1.2.1 h.1.2.2 d c).fW (fun h=>⟨trivial,h.2⟩) id)
  refine aX9 (i1 C [105,110,116,101,103,101,114] rfl (fun d c=>?_) fun d c=>?_)
  ·exact Bo.UO Dz.no fun h=>(J h.1.2.1 h.1.2.2 d c).fW (fun h=>⟨trivial,h.2⟩) id
  ·refine (aX9 ?_);(try dsimp +instances);exact rg [] [iD a8,iD a9,iD a10,iD a11,.str a12,.str a13,.bool a14,iD a15,iD a16,iD X,iD T,.str S,.str R,.bool Q,.Z 6 N,.Z 6 M,.Z 8 I,.Z 14 F,.Z 14 E,.Z 5 B,.Z 5 w,.Z 6 v,.Z 6 u,.Z 8 s,.Z 14 _,.Z 14 o,.Z 5 g,.Z 5 b] ⟨rfl,_,rfl⟩ (fun _ _=>rfl) (by decide)
def aK2 (L l:List D)(m:Int)(F:PF)(n:Nat):Prop:=∀ i d c O V W e:Int,Bo (Good 8) L l (0≤i∧i≤m) (i=m∧(e=0∨e=6∧O=((K3 l).at_ 2).i∧V=((K3 l).at_ 3).i∧W=((K3 l).at_ 4).i)) (fun x n=>F n (.Z 5 x) i d c O V W e) n (fl true (SP m i e 0 fI)) (fl true (SZ l m 1 fI))
def Ge (a0 a1 a2:Int):aK2 L l m (fun n=>W8 n (.agg [iD a0,iD a1,iD a2])) n:=by
 intro i d c O V W e;have h1:=C.h1;refine Bo.of C (fun _=>rfl) (fun h=>h) (fun h=>h) ?_ fun k S T=>?_
 ·rintro j rfl M I;exact (Et M d c O V W).mono fun r ⟨y,d,c,v,u,q2,f,A,F,E,h⟩=>⟨_,⟨[y],[],j,d,c,v,u,q2,f,rfl,NR y A,IY F I,fun _=>E⟩,h⟩
 refine Bo.eq (fun x n=>kC n a0 a1 a2 x i d c O V W e) (tB C [115,105,103,110,101,100] rfl fun q i d c=>OD C fun ys i d c O V W e w=>m1 C fun nm i d c O V W e=>w1 C [59] rfl fun i d c O V W e=>aL2 (aG6 C _ _ _ _ _ _ _ _ _ _ _ _ _ _ _ _ _ _ _ _ _ _ _ _ _ _ _ _ _ i d c O V W e (by rw [A8];omega)) (fun h=>by rw [A8];omega) Dz.a (fun ds r _ h B _=>?_) (fun ds _ _ h=>by cases h) fun pre t i d c O V W e J=>?_)
 ·refine Classical.byContradiction fun b=>?_;obtain⟨R,h1,N⟩:=Y0 (S4 h);obtain⟨y,X,h1⟩:=Xh b h1;have h1:=congrArg Prod.snd h1;subst h1;obtain⟨Q,o,g⟩:=Y0 (S4 N);have o:=congrArg Prod.snd (Jy b (by decide) o);subst o;have g:=S4 g;cases g;exact b B
 obtain⟨rfl,s,rfl⟩:=J;refine aX7 (mJ ((aK6 C _).stmt) rfl fun _ _ _ _ _ _ _ _ i d c O V W e=>w1 C [101,110,100,102,117,110,99,116,105,111,110] rfl fun i d c O V W e=>?_);(try dsimp +instances);exact rt [_] [] ⟨_,_,_,_,_,_,_,_,_,_,_,_,_,_,rfl,rfl⟩
end
end
section
attribute [local simp] Y tk jG nB oC jH mM List.getElem?_cons_zero
def NL (m k i e:Int)(f:List D→List D):Prop:=∃ (ys:List D) (a o c' j h g b:Int),f=(fun x=>[.Z 5 x,iD a,iD o,iD c',iD j,iD h,iD g,iD b,.Z 14 ys])∧i≤a∧a≤m∧(e≠0→b≠0)∧(b=0→i+k≤a)∧(ys.length:Int)≤a-i+1∧(b=0→(ys.length:Int)≤a-i)
def LZ (l:List D)(m z i:Int)(f:List D→List D):Prop:=∃ (ys:List D) (j k c' g b a h:Int),f=(fun x=>[.Z 5 x,iD j,iD k,iD c',iD g,iD b,iD a,iD h,.Z 14 ys])∧(j=m∧(h=0∨h=6∧g=((K3 l).at_ 2).i∧b=((K3 l).at_ 3).i∧a=((K3 l).at_ 4).i))∧(z=1→h≠0)∧(ys.length:Int)≤j-i+1∧(h=0→(ys.length:Int)≤j-i)
section
variable {G:Bool×List D→Prop} {L l:List D} {m:Int} (C:Cx L l m) {lv dd lv' dd':Prop} {n:Nat} {P Zq:(List D→Bool×List D)→Prop} {i d c O V W e i0 e0 q z:Int} {p y:Prop} {K:List D→List D→Nat→Out} {H:List D→Nat→Out}
def Ea (L l:List D)(m a z:Int)(F:PF)(n:Nat):Prop:=∀ i d c O V W e:Int,Bo (Good 7) L l (0≤i∧i≤m) (i=m∧(e=0∨e=6∧O=((K3 l).at_ 2).i∧V=((K3 l).at_ 3).i∧W=((K3 l).at_ 4).i)) (fun x n=>F n (.Z 5 x) i d c O V W e) n (fl true (NL m a i e)) (fl true (LZ l m z i))
def KS {u t:Int}{F:PF}(h:Ea L l m u t F n)(w:∀ ds r,Lv p m i0 e0 q i e→K L ds n=some r→G r→(Y ds 7).i=0) (v:∀ (ys:List D) (k s c' j g b o:Int),Bo G L l (Lv (p∧(ys.length:Int)≤k-i+1∧(o=0→(ys.length:Int)≤k-i)) m i0 e0 (q+u) k o) (Dz ((ys.length:Int)≤k-i+1∧(o=0→(ys.length:Int)≤k-i)) l m t k j g b o) (fun x n=>K x [.Z 5 x,iD k,iD s,iD c',iD j,iD g,iD b,iD o,.Z 14 ys] n) n P Zq) :Bo G L l (Lv p m i0 e0 q i e) (Dz y l m z i O V W e) (fun x n=>AE.J3 (F n (.Z 5 x) i d c O V W e) fun ds=>K x ds n) n P Zq:=by
 refine Bo.WD ((h i d c O V W e).fW Lv.a Dz.a) w fun f=>⟨?_,?_⟩
 ·rintro ⟨hl,ys,k,s,c',j,g,b,o,rfl,hh⟩;exact (v ys k s c' j g b o).1 ⟨⟨hl.1,hh.2.2.2.2⟩,by omega⟩
 ·rintro ⟨ys,k,s,c',j,g,b,o,rfl,hh⟩;exact (v ys k s c' j g b o).2 ⟨hh.2.2,hh.1,hh.2.1⟩
def aA2 {F:PF}(h:aK2 L l m F n)(I:∀ ds r,Lv p m i0 e0 q i e→K L ds n=some r→G r→(Y ds 8).i=0) (E:∀ (k x1 x2 x3:Int) (t ty:G1) (sg:Bool) (ex v A it el pa u:List D) (o w c' j g b s:Int),Bo G L l (Lv p m i0 e0 q o s) (Dz True l m 1 o j g b s) (fun x n=>K x [.agg [iD k,iD x1,iD x2,iD x3,.str t,.str ty,.bool sg,.Z 6 ex,.Z 6 v,.Z 8 A,.Z 14 it,.Z 14 el,.Z 5 pa,.Z 5 u],.Z 5 x,iD o,iD w,iD c',iD j,iD g,iD b,iD s] n) n P Zq) :Bo G L l (Lv p m i0 e0 q i e) (Dz y l m z i O V W e) (fun x n=>AE.J3 (F n (.Z 5 x) i d c O V W e) fun ds=>K x ds n) n P Zq:=by
 refine Bo.WD ((h i d c O V W e).fW Lv.a Dz.a) I fun f=>⟨?_,?_⟩
 ·rintro ⟨hl,pre,B,o,w,c',j,g,b,s,rfl,⟨k,x1,x2,x3,t,ty,sg,ex,v,A,it,el,pa,u,rfl,rfl⟩,h1,N,M,J⟩;exact (E k x1 x2 x3 t ty sg ex v A it el pa u o w c' j g b s).1 ⟨hl.1,by omega⟩
 ·rintro ⟨pre,B,o,w,c',j,g,b,s,rfl,⟨k,x1,x2,x3,t,ty,sg,ex,v,A,it,el,pa,u,rfl,rfl⟩,hh⟩;exact (E k x1 x2 x3 t ty sg ex v A it el pa u o w c' j g b s).2 ⟨trivial,hh⟩
def Zv (L l:List D)(m:Int)(n:Nat):Prop:=∀ (w:G1) (acc:List D) (i0 i d c O V W e:Int),0<w.length→0≤i0→
 Bo (Gy 8) L l ((0≤i∧i≤m)∧i0≤i∧(acc.length:Int)≤i-i0+1∧(e=0→(acc.length:Int)≤i-i0)) ((i=m∧(e=0∨e=6∧O=((K3 l).at_ 2).i∧V=((K3 l).at_ 3).i∧W=((K3 l).at_ 4).i))∧i0≤m∧(acc.length:Int)≤i-i0+1∧(e=0→(acc.length:Int)≤i-i0)) (fun x n=>Q0 n (.str w) (.Z 5 x) i d c O V W e (.Z 14 acc)) n
  (fl false fun f=>∃ (ys:List D) (a k c' h g b j:Int),f=(fun x=>[.str w,.Z 5 x,iD a,iD k,iD c',iD h,iD g,iD b,iD j,.Z 14 ys])∧i≤a∧a≤m∧(e≠0→j≠0)∧(ys.length:Int)≤a-i0+1∧(j=0→(ys.length:Int)≤a-i0))
  (fl false fun f=>∃ (ys:List D) (a k c' h g b j:Int),f=(fun x=>[.str w,.Z 5 x,iD a,iD k,iD c',iD h,iD g,iD b,iD j,.Z 14 ys])∧(a=m∧(j=0∨j=6∧h=((K3 l).at_ 2).i∧g=((K3 l).at_ 3).i∧b=((K3 l).at_ 4).i))∧j≠0∧(ys.length:Int)≤a-i0+1∧(j=0→(ys.length:Int)≤a-i0))
def aA3 {w:G1}{acc:List D}{u:Int}(h:Zv L l m n)(v:0<w.length)(s:0≤u)(h1:Lv p m i0 e0 q i e→(0≤i∧i≤m)∧u≤i∧(acc.length:Int)≤i-u+1∧(e=0→(acc.length:Int)≤i-u))(E:Dz y l m z i O V W e→(i=m∧(e=0∨e=6∧O=((K3 l).at_ 2).i∧V=((K3 l).at_ 3).i∧W=((K3 l).at_ 4).i))∧u≤m∧(acc.length:Int)≤i-u+1∧(e=0→(acc.length:Int)≤i-u))(B:∀ ds r,Lv p m i0 e0 q i e→K L ds n=some r→G r→(Y ds 8).i=0) (t:∀ (ys:List D) (j o c' g b a k:Int),Bo G L l (Lv (p∧(ys.length:Int)≤j-u+1∧(k=0→(ys.length:Int)≤j-u)) m i0 e0 q j k) (Dz ((ys.length:Int)≤j-u+1∧(k=0→(ys.length:Int)≤j-u)) l m 1 j g b a k) (fun x n=>K x [.str w,.Z 5 x,iD j,iD o,iD c',iD g,iD b,iD a,iD k,.Z 14 ys] n) n P Zq) :Bo G L l (Lv p m i0 e0 q i e) (Dz y l m z i O V W e) (fun x n=>AE.gM (Q0 n (.str w) (.Z 5 x) i d c O V W e (.Z 14 acc)) fun ds=>K x ds n) n P Zq:=by
 refine Bo.Eg ((h w acc u i d c O V W e v s).fW h1 E) (fun ds r hl h A _=>B ds r hl h A) (fun ds _ _ h=>by cases h) fun f=>⟨?_,?_⟩
 ·rintro ⟨hl,ys,j,o,c',g,b,a,k,rfl,hh⟩;exact (t ys j o c' g b a k).1 ⟨⟨hl.1,hh.2.2.2⟩,by omega⟩
 ·rintro ⟨ys,j,o,c',g,b,a,k,rfl,hh⟩;exact (t ys j o c' g b a k).2 ⟨hh.2.2,hh.1,fun _=>hh.2.1⟩
structure Zl (L l:List D) (m:Int) (n:Nat):Prop where
 itemsL:Zv L l m n
 items:∀ w:G1,0<w.length→Ea L l m 0 1 (fun n=>Q8 n (.str w)) n
 block:Ea L l m 1 1 (fun n=>T4 n) n
 item:Ea L l m 1 0 (fun n=>O1 n) n
include C
def Ct (A:∀ k,n=k+1→Zl L l m k):Zv L l m n:=by
 intro w acc i0 i d c O V W e b t;have hm:=C.m0;refine Bo.of C (fun _=>rfl) (fun h=>h.1) (fun h=>h.1) (fun j M Q u=>?_) fun k J X=>?_
 ·subst M;have b:([]==w)=false:=by cases w with|nil=>exact absurd b (by decide)|cons _ _=>rfl
  by_cases a:e=0
  ·exact (Ap b (by omega) Q d c O V W).mono fun r ⟨ys,d,c,B,v,q2,f,T,F,N,h⟩=>⟨_,⟨ys,j,d,c,B,v,q2,f,rfl,IY F u.1,N,by omega⟩,h⟩
  ·exact (QB a).mono fun r h=>⟨_,⟨acc,j,d,c,O,V,W,e,rfl,u.1,a,by omega⟩,h⟩
 have A:=A k J;refine Bo.eq (fun x n=>aQ n w x i d c O V W e acc) (Bo.ite (fun a=>?_) fun _=>?_)
 ·have a:e=0:=eq_of_beq a;refine t1 C w (by cases w with|nil=>exact absurd b (by decide)|cons=>rfl) (fun i d c=>?_) fun d c=>?_
  ·refine (aX9 ?_);(try dsimp +instances);exact Bo.ret (fun _ _=>rfl) (fun h=>⟨acc,i,d,c,O,V,W,e,rfl,(by first|omega|(simp only [A0,A8,A7];omega))⟩) fun h=>⟨acc,i,d,c,O,V,W,e,rfl,(by first|omega|(simp only [A0,A8,A7];omega))⟩
  ·refine (aX7 (KS A.item (fun ds r _ h I=>?_) fun ys i d c O V W e=>?_))
   ·refine Classical.byContradiction fun a=>?_;have h:=Ll a (S4 (S4 h));subst h;exact a (I rfl)
   refine aX7 ?_;dsimp +instances;refine Bo.LB (fun _=>B2 (by simp only [L9];omega)) fun _=>?_;refine Bo.post (Bo.fW (fun h=>by rw [A7];omega) (fun h=>by rw [A7];omega) (A.itemsL w (acc++ys) i0 i d c O V W e b t)) ?_ fun f h=>h;rintro f hl ⟨_,⟨ys,E,S,c',s,o,g,R,rfl,hh⟩,rfl⟩;exact⟨_,⟨ys,E,S,c',s,o,g,R,rfl,by omega⟩,rfl⟩
 ·refine (aX9 ?_);(try dsimp +instances);exact Bo.ret (fun _ _=>rfl) (fun h=>⟨acc,i,d,c,O,V,W,e,rfl,(by first|omega|(simp only [A0,A8,A7];omega))⟩) fun h=>⟨acc,i,d,c,O,V,W,e,rfl,(by first|omega|(simp only [A0,A8,A7];omega))⟩
def Jk (A:∀ k,n=k+1→Zl L l m k)(w:G1)(a:0<w.length):Ea L l m 0 1 (fun n=>Q8 n (.str w)) n:=by
 intro i d c O V W e;have hm:=C.m0;refine Bo.of C (fun _=>rfl) (fun h=>h) (fun h=>h) (fun j t E B=>?_) fun k s u=>?_
 ·subst t;have a:([]==w)=false:=by cases w with|nil=>exact absurd a (by decide)|cons _ _=>rfl
  exact (Vf a E d c O V W).mono fun r ⟨ys,d,c,g,b,q2,f,I,F,v,h⟩=>⟨_,⟨ys,j,d,c,g,b,q2,f,rfl,IY F B,fun _=>v,by omega⟩,h⟩
 have A:=A k s;refine Bo.eq (fun x n=>jE n w x i d c O V W e) (aA3 (acc:=[]) A.itemsL a u.1 (fun h=>by rw [A8];omega) (fun h=>by rw [A8];omega) (fun ds r _ h o=>?_) fun ys i d c O V W e=>?_)
 ·have h:=S4 h;cases h;exact o
 refine aX7 ?_;(try dsimp +instances);exact Bo.ret (fun _ _=>rfl) (fun h=>⟨ys,i,d,c,O,V,W,e,rfl,(by first|omega|(simp only [A0,A8,A7];omega))⟩) fun h=>⟨ys,i,d,c,O,V,W,e,rfl,(by first|omega|(simp only [A0,A8,A7];omega))⟩
omit C in
def aR9 {w:G1}(h:0<w.length):Ne [.str w]:=fun y a=>by
 rcases B7.1 a with rfl|a
 ·exact⟨w,rfl,h⟩
 ·cases a
def Cs (A:∀ k,n=k+1→Zl L l m k):Ea L l m 1 1 (fun n=>T4 n) n:=by
 intro i d c O V W e;refine Bo.of C (fun _=>rfl) (fun h=>h) (fun h=>h) (fun j s w v=>?_) fun k o E=>?_
 ·subst s;exact (Vd w d c O V W).mono fun r ⟨ys,d,c,b,a,q2,f,B,F,u,h⟩=>⟨_,⟨ys,j,d,c,b,a,q2,f,rfl,IY F v,fun _=>u,by omega⟩,h⟩
 have A:=A k o;refine Bo.eq (fun x n=>mD n x i d c O V W e) (n1 C fun _ t _ _ _ d c=>wN C [98,101,103,105,110] [.str [58]] (B3 rfl) rfl (fun _ _=>aR9 (by decide)) fun i d c O V W e=>m1 C fun nm i d c O V W e=>KS (A.items _ (by decide)) (fun ds r _ h g=>?_) fun ys i d c O V W e=>?_)
 ·have h:=S4 h;cases h;exact g
 refine aX7 ?_;(try dsimp +instances);exact Bo.ret (fun _ _=>rfl) (fun h=>⟨_,i,d,c,O,V,W,e,rfl,(by first|omega|(simp only [A0,A8,A7];omega))⟩) fun h=>⟨_,i,d,c,O,V,W,e,rfl,(by first|omega|(simp only [A0,A8,A7];omega))⟩
def BG {ys x:List D}{r:Bool×List D}(h:K5 n ys x i d c O V W e=some r):(Y r.2 7).i=e:=by have _:=C;rw [K5.eq_1] at h;obtain⟨ds,h1,a⟩:=Y0 h;have h1:=congrArg Prod.snd (Yu h1);subst h1;have a:=S4 a;cases a;rfl
def Sx (A:∀ k,n=k+1→Zl L l m k):Ea L l m 1 0 (fun n=>O1 n) n:=by
 intro i d c O V W e;refine Bo.of C (fun _=>rfl) (fun h=>h) (fun h=>h) (fun j w J E=>?_) fun k v T=>?_
 ·subst w;exact (Py J d c O V W).mono fun r ⟨ys,d,c,u,s,q2,f,S,F,B,h⟩=>⟨_,⟨ys,j,d,c,u,s,q2,f,rfl,IY F E,fun _=>B,by omega⟩,h⟩
 have A:=A k v;refine Bo.eq (fun x n=>P7 n x i d c O V W e) (aR1 C fun d c O V W e=>?_);dsimp +instances;refine Bo.ite (fun I=>?_) fun _=>?_
 ·have g:e≠0:=by simpa using I
  refine o1 C fun d c=>?_;(try dsimp +instances);exact Bo.ret (fun _ _=>rfl) (fun h=>⟨[],i,d,c,O,V,W,e,rfl,(by first|omega|(simp only [A0,A8,A7];omega))⟩) fun h=>⟨[],i,d,c,O,V,W,e,rfl,(by first|omega|(simp only [A0,A8,A7];omega))⟩
 refine s1 (VF C) fun pre b i d c O V W e o=>?_;obtain⟨rfl,rfl⟩:=o;refine aX7 ?_;refine n1 C fun _ t _ _ _ d c=>t1 C [119,105,114,101] rfl (fun i d c=>?_) fun d c=>?_
 ·refine aX7 (Bo.UO Dz.no fun hp=>(aX7 (Qv (JY C _ _ _ _) rfl fun _ _ _ _ _ _ _ _ _ _ _ _ _ _ i d c O V W e=>w1 C [59] rfl fun i d c O V W e=>(o1 C fun d c=>?_))));(try dsimp +instances);exact Bo.ret (fun _ _=>rfl) (fun h=>⟨_,i,d,c,O,V,W,e,rfl,(by first|omega|(simp only [A0,A8,A7];omega))⟩) fun h=>⟨_,i,d,c,O,V,W,e,rfl,(by first|omega|(simp only [A0,A8,A7];omega))⟩
 refine aX9 (t1 C [114,101,103] rfl (fun i d c=>?_) fun d c=>?_)
 ·refine aX7 (Bo.UO Dz.no fun hp=>(aX7 (Qv (JY C _ _ _ _) rfl fun _ _ _ _ _ _ _ _ _ _ _ _ _ _ i d c O V W e=>w1 C [59] rfl fun i d c O V W e=>(o1 C fun d c=>?_))));(try dsimp +instances);exact Bo.ret (fun _ _=>rfl) (fun h=>⟨_,i,d,c,O,V,W,e,rfl,(by first|omega|(simp only [A0,A8,A7];omega))⟩) fun h=>⟨_,i,d,c,O,V,W,e,rfl,(by first|omega|(simp only [A0,A8,A7];omega))⟩
 refine aX9 (t1 C [105,110,116,101,103,101,114] rfl (fun i d c=>?_) fun d c=>?_)
 ·refine Bo.UO Dz.no fun hp=>(aX7 (Qv (JY C _ _ _ _) rfl fun _ _ _ _ _ _ _ _ _ _ _ _ _ _ i d c O V W e=>w1 C [59] rfl fun i d c O V W e=>(o1 C fun d c=>?_)));(try dsimp +instances);exact Bo.ret (fun _ _=>rfl) (fun h=>⟨_,i,d,c,O,V,W,e,rfl,(by first|omega|(simp only [A0,A8,A7];omega))⟩) fun h=>⟨_,i,d,c,O,V,W,e,rfl,(by first|omega|(simp only [A0,A8,A7];omega))⟩
 refine (aX9 (t1 C [108,111,99,97,108,112,97,114,97,109] rfl (fun i d c=>?_) fun d c=>?_))
 ·refine aX7 (Bo.UO Dz.no fun hp=>Qv (Jm C _ _ _ _) rfl fun _ _ _ _ _ _ _ _ _ _ _ _ _ _ i d c O V W e=>w1 C [59] rfl fun i d c O V W e=>(o1 C fun d c=>?_));(try dsimp +instances);exact Bo.ret (fun _ _=>rfl) (fun h=>⟨_,i,d,c,O,V,W,e,rfl,(by first|omega|(simp only [A0,A8,A7];omega))⟩) fun h=>⟨_,i,d,c,O,V,W,e,rfl,(by first|omega|(simp only [A0,A8,A7];omega))⟩
 refine aX9 (t1 C [103,101,110,118,97,114] rfl (fun i d c=>?_) fun d c=>?_)
 ·refine aX7 (Bo.UO Dz.no fun hp=>m1 C fun nm i d c O V W e=>w1 C [59] rfl fun i d c O V W e=>(o1 C fun d c=>?_));(try dsimp +instances);exact Bo.ret (fun _ _=>rfl) (fun h=>⟨_,i,d,c,O,V,W,e,rfl,(by first|omega|(simp only [A0,A8,A7];omega))⟩) fun h=>⟨_,i,d,c,O,V,W,e,rfl,(by first|omega|(simp only [A0,A8,A7];omega))⟩
 refine aX9 (t1 C [97,115,115,105,103,110] rfl (fun i d c=>?_) fun d c=>?_)
 ·refine aX7 (Bo.UO Dz.no fun hp=>e1 ((RZ C _).left) rfl fun _ _ _ _ _ _ i d c O V W e=>w1 C [61] rfl fun i d c O V W e=>e1 (RZ C _).expr rfl fun _ _ _ _ _ _ i d c O V W e=>w1 C [59] rfl fun i d c O V W e=>(o1 C fun d c=>?_));(try dsimp +instances);exact Bo.ret (fun _ _=>rfl) (fun h=>⟨_,i,d,c,O,V,W,e,rfl,(by first|omega|(simp only [A0,A8,A7];omega))⟩) fun h=>⟨_,i,d,c,O,V,W,e,rfl,(by first|omega|(simp only [A0,A8,A7];omega))⟩
 refine aX9 (t1 C [97,108,119,97,121,115] rfl (fun i d c=>?_) fun d c=>?_)
 ·refine aX7 (Bo.UO Dz.no fun hp=>Qv (Ss C _ _ _) rfl fun _ _ _ _ _ _ _ _ _ _ _ _ _ _ i d c O V W e=>(o1 C fun d c=>?_));(try dsimp +instances);exact Bo.ret (fun _ _=>rfl) (fun h=>⟨_,i,d,c,O,V,W,e,rfl,(by first|omega|(simp only [A0,A8,A7];omega))⟩) fun h=>⟨_,i,d,c,O,V,W,e,rfl,(by first|omega|(simp only [A0,A8,A7];omega))⟩
 refine aX9 (t1 C [102,117,110,99,116,105,111,110] rfl (fun i d c=>?_) fun d c=>?_)
 ·refine aX7 (Bo.UO Dz.no fun hp=>aA2 (Ge C _ _ _) (fun ds r _ h a=>(BG C (S4 h)).symm.trans a) fun k x1 x2 x3 Q ty sg ex X bo it el pa R i d c O V W e=>aX7 (o1 C fun d c=>?_));(try dsimp +instances);exact Bo.ret (fun _ _=>rfl) (fun h=>⟨_,i,d,c,O,V,W,e,rfl,(by first|omega|(simp only [A0,A8,A7];omega))⟩) fun h=>⟨_,i,d,c,O,V,W,e,rfl,(by first|omega|(simp only [A0,A8,A7];omega))⟩
 refine aX9 (t1 C [103,101,110,101,114,97,116,101] rfl (fun i d c=>?_) fun d c=>?_)
 ·refine aX7 (Bo.UO Dz.no fun hp=>KS (A.items _ (by decide)) (fun ds r _ h a=>(BG C (S4 h)).symm.trans a) fun ys i d c O V W e=>aX7 (o1 C fun d c=>?_));(try dsimp +instances);exact Bo.ret (fun _ _=>rfl) (fun h=>⟨ys,i,d,c,O,V,W,e,rfl,(by first|omega|(simp only [A0,A8,A7];omega))⟩) fun h=>⟨ys,i,d,c,O,V,W,e,rfl,(by first|omega|(simp only [A0,A8,A7];omega))⟩
 refine aX9 (t1 C [102,111,114] rfl (fun i d c=>?_) fun d c=>?_)
 ·refine aX7 (Bo.UO Dz.no fun hp=>?_);refine s1 (Sz C) fun pre b i d c O V W e o=>?_;obtain⟨_,_,rfl,rfl⟩:=o;refine aX7 ?_;refine KS A.block (fun ds r _ h a=>(BG C (S4 h)).symm.trans a) fun ys i d c O V W e=>aX7 (o1 C fun d c=>?_);(try dsimp +instances);exact Bo.ret (fun _ _=>rfl) (fun h=>⟨_,i,d,c,O,V,W,e,rfl,(by first|omega|(simp only [A0,A8,A7];omega))⟩) fun h=>⟨_,i,d,c,O,V,W,e,rfl,(by first|omega|(simp only [A0,A8,A7];omega))⟩
 refine aX9 (t1 C [105,102] rfl (fun i d c=>?_) fun d c=>?_)
 ·refine aX7 (Bo.UO Dz.no fun hp=>e1 (NM C) rfl fun _ _ _ _ _ _ i d c O V W e=>KS A.block (fun ds r _ h a=>?_) fun ys i d c O V W e=>?_)
  ·refine Classical.byContradiction fun g=>?_;obtain⟨N,h1,M⟩:=Y0 (S4 h);have h1:=congrArg Prod.snd (Jw g (by decide) h1);subst h1;exact g ((BG C (S4 M)).symm.trans a)
  refine aX7 (t1 C [101,108,115,101] rfl (fun i d c=>?_) fun d c=>?_)
  ·refine aX7 (KS A.block (fun ds r _ h a=>(BG C (S4 h)).symm.trans a) fun zs i d c O V W e=>aX7 (o1 C fun d c=>?_));(try dsimp +instances);exact Bo.ret (fun _ _=>rfl) (fun h=>⟨_,i,d,c,O,V,W,e,rfl,(by first|omega|(simp only [A0,A8,A7];omega))⟩) fun h=>⟨_,i,d,c,O,V,W,e,rfl,(by first|omega|(simp only [A0,A8,A7];omega))⟩
  ·refine aX9 (o1 C fun d c=>?_);(try dsimp +instances);exact Bo.ret (fun _ _=>rfl) (fun h=>⟨_,i,d,c,O,V,W,e,rfl,(by first|omega|(simp only [A0,A8,A7];omega))⟩) fun h=>⟨_,i,d,c,O,V,W,e,rfl,(by first|omega|(simp only [A0,A8,A7];omega))⟩
 refine aX9 (Qv (aG7 C _ _ _) rfl fun _ _ _ _ _ _ _ _ _ _ _ _ _ _ i d c O V W e=>o1 C fun d c=>?_);(try dsimp +instances);exact Bo.ret (fun _ _=>rfl) (fun h=>⟨_,i,d,c,O,V,W,e,rfl,(by first|omega|(simp only [A0,A8,A7];omega))⟩) fun h=>⟨_,i,d,c,O,V,W,e,rfl,(by first|omega|(simp only [A0,A8,A7];omega))⟩
def aS7:∀ n,Zl L l m n
 |0=>have A:∀ k,0=k+1→Zl L l m k:=fun k h=>absurd h (by omega)
  ⟨Ct C A,Jk C A,Cs C A,Sx C A⟩
 |n+1=>have A:∀ k,n+1=k+1→Zl L l m k:=fun k h=>by have:n=k:=by omega
                                                  subst this;exact aS7 n
  ⟨Ct C A,Jk C A,Cs C A,Sx C A⟩
end
end
section
attribute [local simp] Y tk jG nB oC jH mM List.getElem?_cons_zero
def g14 (c pre a:List D):Prop:=pre=[]∧∃ (a8:G1) (a9 a10 a11:Int) (a12:G1) (a13 a14 a15:Int) (g f e d b:List D),a=[.str a8,iD a9,iD a10,iD a11,.str a12,iD a13,iD a14,iD a15,.Z 14 g,.Z 14 f,.Z 14 e,.Z 14 d,.Z 14 c,.Z 14 b]
def f14 (pre a:List D):Prop:=pre=[]∧∃ (a8:G1) (a9 a10 a11:Int) (a12:G1) (a13 a14 a15:Int) (g f e d c b:List D),a=[.str a8,iD a9,iD a10,iD a11,.str a12,iD a13,iD a14,iD a15,.Z 14 g,.Z 14 f,.Z 14 e,.Z 14 d,.Z 14 c,.Z 14 b]
section
variable {L l:List D} {m:Int} (C:Cx L l m) {n:Nat}
def aS4 (L l:List D)(m:Int)(n:Nat):Prop:=∀ (a8:G1) (a9 a10 a11:Int) (a12:G1) (a13 a14 a15:Int) (j h g a b f:List D) (i d c O V W e:Int),(a.length:Int)≤m+2→
 NS L l m 0 0 ((0≤i∧i≤m)∧(e=0→(a.length:Int)≤i+1)) (i=m∧(e=0∨e=6∧O=((K3 l).at_ 2).i∧V=((K3 l).at_ 3).i∧W=((K3 l).at_ 4).i)) i e (g14 b) (fun x n=>T5 n (.Z 5 x) i d c O V W e (.str a8) a9 a10 a11 (.str a12) a13 a14 a15 (.Z 14 j) (.Z 14 h) (.Z 14 g) (.Z 14 a) (.Z 14 b) (.Z 14 f)) n
def aS5 (L l:List D)(m:Int)(n:Nat):Prop:=∀ (a8:G1) (a9 a10 a11:Int) (a12:G1) (a13 a14 a15:Int) (j h g f a b:List D) (i d c O V W e:Int),(a.length:Int)≤m+2→
 NS L l m 0 0 ((0≤i∧i≤m)∧(e=0→(a.length:Int)≤i+1)) (i=m∧(e=0∨e=6∧O=((K3 l).at_ 2).i∧V=((K3 l).at_ 3).i∧W=((K3 l).at_ 4).i)) i e f14 (fun x n=>T6 n (.Z 5 x) i d c O V W e (.str a8) a9 a10 a11 (.str a12) a13 a14 a15 (.Z 14 j) (.Z 14 h) (.Z 14 g) (.Z 14 f) (.Z 14 a) (.Z 14 b)) n
include C
def aU3:∀ n,aS4 L l m n:=by
 have hm:=C.m0;intro n
 induction n with
 |zero=>exact fun a8 a9 a10 a11 a12 a13 a14 a15 u s q p o g i d c O V W e b=>NS.of C (fun _=>rfl) (fun h=>h) (fun h=>h.1) (fun j y B _=>by subst y;exact (Ht (by omega) B d c O V W).mono fun r ⟨ys,d,c,w,v,q2,f,F,z,h⟩=>⟨[],[_,_,_,_,_,_,_,_,_,_,_,_,_,_],d,c,w,v,q2,f,⟨rfl,_,_,_,_,_,_,_,_,_,_,_,_,_,rfl⟩,F,fun _=>z,h⟩) fun k E _=>absurd E (by omega)
 |succ n A=>
  intro a8 a9 a10 a11 a12 a13 a14 a15 u s q p o g i d c O V W e b;refine NS.of C (fun _=>rfl) (fun h=>h) (fun h=>h.1) (fun j y B _=>?_) fun k E H=>?_
  ·subst y;exact (Ht (by omega) B d c O V W).mono fun r ⟨ys,d,c,w,v,q2,f,F,z,h⟩=>⟨[],[_,_,_,_,_,_,_,_,_,_,_,_,_,_],d,c,w,v,q2,f,⟨rfl,_,_,_,_,_,_,_,_,_,_,_,_,_,rfl⟩,F,fun _=>z,h⟩
  obtain rfl:n=k:=by omega
  refine Bo.eq (fun x n=>fA n x i d c O V W e a8 a9 a10 a11 a12 a13 a14 a15 u s q p o g) (Bo.ite (fun G=>?_) fun _=>?_)
  ·have G:e=0:=eq_of_beq G;refine n1 C fun _ t _ _ _ d c=>w1 C [112,97,114,97,109,101,116,101,114] rfl fun i d c O V W e=>Qv (Jm C _ _ _ _) rfl fun _ _ _ _ _ _ _ _ _ _ _ _ _ _ i d c O V W e=>Bo.LB (fun _=>B2 (by simp only [L9];omega)) fun _=>?_;refine t1 C [44] rfl (fun i d c=>?_) fun d c=>?_
   ·exact aX9 (IK (A _ _ _ _ _ _ _ _ _ _ _ _ _ _ i d c O V W e (by rw [A7,C9];omega)) (fun h=>by rw [A7,C9];omega) Dz.a)
   ·refine aX7 ?_;(try dsimp +instances);exact rt [] [_,_,_,_,_,_,_,_,_,_,_,_,_,_] ⟨rfl,_,_,_,_,_,_,_,_,_,_,_,_,_,rfl⟩
  ·(try dsimp +instances);exact rt [] [_,_,_,_,_,_,_,_,_,_,_,_,_,_] ⟨rfl,_,_,_,_,_,_,_,_,_,_,_,_,_,rfl⟩
def aO5:∀ n,aS5 L l m n:=by
 have hm:=C.m0;intro n
 induction n with
 |zero=>exact fun a8 a9 a10 a11 a12 a13 a14 a15 s q p o g b i d c O V W e u=>NS.of C (fun _=>rfl) (fun h=>h) (fun h=>h.1) (fun j z E _=>by subst z;exact (Hu (by omega) E d c O V W).mono fun r ⟨ys,d,c,w,v,q2,f,F,B,h⟩=>⟨[],[_,_,_,_,_,_,_,_,_,_,_,_,_,_],d,c,w,v,q2,f,⟨rfl,_,_,_,_,_,_,_,_,_,_,_,_,_,_,rfl⟩,F,fun _=>B,h⟩) fun k G _=>absurd G (by omega)
 |succ n A=>
  intro a8 a9 a10 a11 a12 a13 a14 a15 s q p o g b i d c O V W e u;refine NS.of C (fun _=>rfl) (fun h=>h) (fun h=>h.1) (fun j z E _=>?_) fun k G H=>?_
  ·subst z;exact (Hu (by omega) E d c O V W).mono fun r ⟨ys,d,c,w,v,q2,f,F,B,h⟩=>⟨[],[_,_,_,_,_,_,_,_,_,_,_,_,_,_],d,c,w,v,q2,f,⟨rfl,_,_,_,_,_,_,_,_,_,_,_,_,_,_,rfl⟩,F,fun _=>B,h⟩
  obtain rfl:n=k:=by omega
  have J:e=0→∀ (y:Prop) (d c:Int),zC L l (Lv True m i e 0 i e) (Dz y l m 0 i O V W e) (fun x n=>O6 n true x i d c O V W e g a8 a9 a10 a11 a12 a13 a14 a15 s q p o b) n false (SP m i e 0 f14) (SZ l m 0 f14):=by
   intro t y d c;refine (aX7 (Qv (aG8 C) rfl fun _ _ _ _ _ _ _ _ _ _ _ _ _ _ i d c O V W e=>Bo.LB (fun _=>B2 (by simp only [L9];omega)) fun _=>?_));refine t1 C [44] rfl (fun i d c=>?_) fun d c=>?_
   ·exact aX9 (IK (A _ _ _ _ _ _ _ _ _ _ _ _ _ _ i d c O V W e (by rw [A7,C9];omega)) (fun h=>by rw [A7,C9];omega) Dz.a)
   ·refine aX7 ?_;(try dsimp +instances);exact rt [] [_,_,_,_,_,_,_,_,_,_,_,_,_,_] ⟨rfl,_,_,_,_,_,_,_,_,_,_,_,_,_,_,rfl⟩
  refine Bo.eq (fun x n=>bI n x i d c O V W e a8 a9 a10 a11 a12 a13 a14 a15 s q p o g b) (Bo.ite (fun t=>?_) fun _=>?_)
  ·have t:e=0:=eq_of_beq t;refine Bo.ite (fun _=>(J t _ d c).fW (fun h=>⟨trivial,h.2⟩) id) fun _=>i1 C [41] rfl (fun d c=>?_) fun d c=>?_
   ·refine (aX9 ?_);(try dsimp +instances);exact rt [] [_,_,_,_,_,_,_,_,_,_,_,_,_,_] ⟨rfl,_,_,_,_,_,_,_,_,_,_,_,_,_,_,rfl⟩
   ·exact (J t _ d c).fW (fun h=>⟨trivial,h.2⟩) id
  ·refine (aX9 ?_);(try dsimp +instances);exact rt [] [_,_,_,_,_,_,_,_,_,_,_,_,_,_] ⟨rfl,_,_,_,_,_,_,_,_,_,_,_,_,_,_,rfl⟩
def aU8 (y:D):Prop:=∃ (t:G1) (a b g:Int) (ps qs its:List D),y = .agg [.str t,iD a,iD b,iD g,.Z 14 ps,.Z 14 qs,.Z 14 its]
def Ta (i d c O V W e:Int):Bo (Good 8) L l (0≤i∧i≤m) False (fun x n=>Q9 n (.Z 5 x) i d c O V W e) n
  (fl true fun f=>∃ (y:D) (q v c' j g b o:Int),f=(fun x=>[y,.Z 5 x,iD q,iD v,iD c',iD j,iD g,iD b,iD o])∧q≤m)
  (fl true fun f=>∃ (y:D) (q v c' j g b o:Int),f=(fun x=>[y,.Z 5 x,iD q,iD v,iD c',iD j,iD g,iD b,iD o])∧aU8 y∧(q=m∧(o=0∨o=6∧j=((K3 l).at_ 2).i∧g=((K3 l).at_ 3).i∧b=((K3 l).at_ 4).i))∧o≠0):=by
 have hm:=C.m0;have h1:=C.h1;refine Bo.of C (i:=i) (e:=e) (O:=O) (V:=V) (W:=W) (fun _=>rfl) False.elim (fun h=>h) (fun _ _ _ h=>h.elim) fun k w z=>Bo.eq (fun x n=>qG n x i d c O V W e) (n1 C fun _ t _ _ _ d c=>w1 C [109,111,100,117,108,101] rfl fun i d c O V W e=>m1 C fun nm i d c O V W e=>t1 C [35] rfl (fun i d c=>?_) fun d c=>?_)
 ·refine aX7 (w1 C [40] rfl fun i d c O V W e=>DK (aU3 C _ _ _ _ _ _ _ _ _ _ _ _ _ _ _ i d c O V W e (by rw [A8];omega)) (fun h=>by rw [A8];omega) Dz.a fun pre p i d c O V W e s=>?_);obtain⟨rfl,_,_,_,_,_,_,_,_,_,_,_,_,_,rfl⟩:=s;refine aX7 (w1 C [41] rfl fun i d c O V W e=>(w1 C [40] rfl fun i d c O V W e=>DK (aO5 C _ _ _ _ _ _ _ _ _ _ _ _ _ _ _ i d c O V W e (by rw [A8];omega)) (fun h=>by rw [A8];omega) Dz.a fun pre p i d c O V W e s=>?_));obtain⟨rfl,_,_,_,_,_,_,_,_,_,_,_,_,_,_,rfl⟩:=s;refine aX7 (wN C [41] [.str [59]] (B3 rfl) rfl (fun _ _=>aR9 (by decide)) fun i d c O V W e=>KS ((aS7 C _).items _ (by decide)) (fun ds r _ h u=>?_) fun ys i d c O V W e=>?_)
  ·have h:=S4 h;cases h;exact u
  refine aX7 ?_;dsimp +instances;exact Bo.ret (fun _ _=>rfl) (fun h=>⟨_,i,d,c,O,V,W,e,rfl,by omega⟩) fun h=>⟨_,i,d,c,O,V,W,e,rfl,⟨_,_,_,_,_,_,_,rfl⟩,h.2.1,h.2.2 rfl⟩
 ·refine aX9 (w1 C [40] rfl fun i d c O V W e=>DK (aO5 C _ _ _ _ _ _ _ _ _ _ _ _ _ _ _ i d c O V W e (by rw [A8];omega)) (fun h=>by rw [A8];omega) Dz.a fun pre p i d c O V W e s=>?_);obtain⟨rfl,_,_,_,_,_,_,_,_,_,_,_,_,_,_,rfl⟩:=s;refine aX7 (wN C [41] [.str [59]] (B3 rfl) rfl (fun _ _=>aR9 (by decide)) fun i d c O V W e=>KS ((aS7 C _).items _ (by decide)) (fun ds r _ h u=>?_) fun ys i d c O V W e=>?_)
  ·have h:=S4 h;cases h;exact u
  refine aX7 ?_;dsimp +instances;exact Bo.ret (fun _ _=>rfl) (fun h=>⟨_,i,d,c,O,V,W,e,rfl,by omega⟩) fun h=>⟨_,i,d,c,O,V,W,e,rfl,⟨_,_,_,_,_,_,_,rfl⟩,h.2.1,h.2.2 rfl⟩
end
end
def Mi {k:Int}{t:G1}{m:Nat}(h:FT k t m):m≤3:=by rcases h with h|h|h|h|h|h|h|h|h|h<;>omega
def Ka {d:Nat}{x:D}(h:gQ d x):K4 J0 x=x∧kX J0 x=true:=by
 cases d with
 |zero=>exact h.elim
 |succ d=>obtain⟨k,t,xs,rfl,_⟩:=h;exact⟨rfl,rfl⟩
def aF5:∀ (d:Nat) (x:D),gQ d x→U (fun n=>cY n x) fun r=>r=(true,[x]):=by
 intro d
 induction d with
 |zero=>intro x h;exact h.elim
 |succ d ih=>
  rintro x ⟨k,t,xs,rfl,g,l⟩;have hl:=Mi g;refine I5 (fun n=>JU n ..) ?_;have loop:∀ (m j:Nat),xs.length-j=m→j≤xs.length→U (fun n=>bD n (.Z 6 xs) (xs.length:Int) (j:Int) (.Z 6 (xs.take j))) fun r=>r=(false,[.Z 6 xs,iD (xs.length:Int),iD (xs.length:Int),.Z 6 xs]):=by
   intro m
   induction m with
   |zero=>(intro j hm i;have:j=xs.length:=by omega);subst this;refine I5 (fun n=>jQ n xs _ _ _) (N8 aY0 (H8 ?_));simp
   |succ m c=>
    (intro j hm i;have a:j<xs.length:=by omega);refine I5 (fun n=>jQ n xs _ _ _) (I4 aX8 (I4 (P1 a) ?_));have f:=l xs[j] (C6 a);obtain⟨e1,e⟩:=Ka f;rw [bS a,e1];refine I4 e (H6 (ih xs[j] f) ?_);intro b ds h;cases h;refine⟨rfl,?_⟩;refine I4 (show Q5 cY.I6 [xs[j]]=true by have:=e;simp only [Q5,cY.I6,rT,MJ,mL,qZ] at this ⊢;simp [show kX J0 xs[j]=true from e]) ?_;refine I4 (B2 (by simp [L9];omega)) ?_;rw [P4];have o:xs.take j++[K4 J0 (Y [xs[j]] 0)]=xs.take (j+1):=by rw [show Y [xs[j]] 0=xs[j] from rfl,e1,List.take_succ_eq_append_getElem a]
    rw [o];exact c (j+1) (by omega) (by omega)
  refine H6 (Q:=fun r=>r=(true,[.Z 6 xs])) (I5 (fun n=>uT n xs) ?_) ?_
  ·refine L4 (loop xs.length 0 rfl (C4 _)) (fun ds h=>by cases h) fun ds h=>?_;cases h;exact J5 (H8 rfl)
  ·intro b ds h;cases h;exact⟨rfl,J5 (H8 rfl)⟩
section
def Dm:∀ {n:Nat} {x:D},gQ n x→gQ (n+1) x
 |0,_,h=>h.elim
 |n+1,_,⟨k,t,ar,h1,f,e⟩=>⟨k,t,ar,h1,f,fun a c=>Dm (e a c)⟩
def iL:∀ {m n:Nat} {x:D},n≤m→gQ n x→gQ m x
 |0,n,x,hm,h=>by
  have:n=0:=by omega
  subst this;exact h
 |m+1,n,x,hm,h=>by
  by_cases e:n=m+1
  ·subst e;exact h
  ·exact Dm (iL (by omega) h)
def isLeft (x:D):Prop:=∃ k t ar,x=E k t ar∧t∈dP∧((k=2∧ar.length=0)∨(k=8∧ar.length=1)∨(k=9∧ar.length=2))∧∀ a∈ar,gQ 2 a
def vV {x:D}(h:isLeft x):gQ 3 x:=by
 obtain⟨k,t,ar,rfl,c,e,f⟩:=h;refine⟨k,t,ar,rfl,?_,f⟩;rcases e with ⟨rfl,h⟩|⟨rfl,h⟩|⟨rfl,h⟩
 ·exact .inr (.inl ⟨rfl,c,h⟩)
 ·exact .inr (.inr (.inr (.inr (.inr (.inr (.inr (.inl ⟨rfl,c,h⟩)))))))
 ·exact .inr (.inr (.inr (.inr (.inr (.inr (.inr (.inr (.inl ⟨rfl,c,h⟩))))))))
def S (k:Int)(t:G1)(es bs zs:List D):D:= .agg [iD k,.str t,.Z 6 es,.Z 5 bs,.Z 6 zs]
def arm (es:List D)(s:D):D:= .agg (.Z 6 es::s.cells)
def vB:D:=S 8 [] [] [] []
def pE:Nat→D→Bool
 |n+1,.agg [.int _ k,_,_,.Z _ bs,_]=>bif k==4 then (match bs with|[_,.agg (.int _ c::r)]=>c==8||pE n (.agg (.int .i64 c::r))|_=>false) else bif k==6 then (match bs with|[b]=>pE n b|_=>false) else false
 |_,_=>false
def Tf (n:Nat)(k:Int)(t:G1)(es bs zs:List D):Prop:=
 (k=1∧t=[]∧es=[]∧bs.length≤3∧zs=[])∨((k=2∨k=3)∧t=[]∧(∃ l e,es=[l,e]∧isLeft l)∧bs=[]∧zs=[])∨
 (k=4∧t=[]∧es.length=1∧(∃ b c,bs=[b,c]∧(c=vB∨pE n b=false))∧zs=[])∨(k=5∧t=[]∧es.length=1∧bs=[]∧1≤zs.length∧zs.length≤4)∨
 (k=6∧t=[105]∧es.length=3∧bs.length=1∧zs=[])∨(k=7∧(t=[]∨t=[112,49])∧es.length=1∧bs=[]∧zs=[])∨(k=8∧t=[]∧es=[]∧bs=[]∧zs=[])
def uN:Nat→D→Prop
 |0,_=>False
 |n+1,x=>∃ k t es bs zs,x=S k t es bs zs∧(∀ e∈es,gQ 4 e)∧(∀ b∈bs,uN n b)∧(∀ a∈zs,∃ c s,a=arm c s∧c.length≤2∧(∀ e∈c,gQ 4 e)∧uN n s)∧Tf n k t es bs zs
def RP (n:Nat):uN (n+1) vB:=⟨8,[],[],[],[],rfl,fun _ h=>(by cases h),fun _ h=>(by cases h),fun _ h=>(by cases h),.inr (.inr (.inr (.inr (.inr (.inr ⟨rfl,rfl,rfl,rfl,rfl⟩)))))⟩
def Xl {n:Nat}{x:D}(h:uN n x):K4 aJ x=x∧kX aJ x=true:=by
 cases n with
 |zero=>exact h.elim
 |succ n=>obtain⟨k,t,es,bs,zs,rfl,_⟩:=h;exact⟨rfl,rfl⟩
def Wu:∀ (n:Nat) (x:D),uN n x→U (fun m=>jA m x) fun r=>r=(true,[.bool (pE n x)]):=by
 intro n
 induction n with
 |zero=>intro x h;exact h.elim
 |succ n ih=>
  rintro x ⟨k,t,es,bs,zs,rfl,_,i,_,o⟩;refine I5 (fun m=>TA m ..) ?_;rcases o with ⟨rfl,_⟩|⟨rfl|rfl,_⟩|⟨rfl,rfl,h1,⟨b,c,rfl,_⟩,rfl⟩|⟨rfl,_⟩|⟨rfl,rfl,h1,s,rfl⟩|⟨rfl,_⟩|⟨rfl,_⟩
  ·exact L3 (L3 (H8 rfl))
  ·exact L3 (L3 (H8 rfl))
  ·exact L3 (L3 (H8 rfl))
  ·have p:=i c (by simp);have ih:=ih c p
   cases n with
   |zero=>exact p.elim
   |succ n=>
    obtain⟨f,q,j,l,g,rfl,_⟩:=p;refine J5 (J5 (J5 (J5 (K0 (fun e=>?_) fun e=>?_))))
    ·have e:(f==8)=true:=e;refine H8 ?_;show _=(true,[D.bool (f==8||pE (n+1) (S f q j l g))]);rw [e];rfl
    ·have e:(f==8)=false:=e;refine J5 (J5 (H6 ih ?_));intro _ ds h;cases h;refine⟨rfl,J5 (H8 ?_)⟩;show _=(true,[D.bool (f==8||pE (n+1) (S f q j l g))]);rw [e];rfl
  ·exact L3 (L3 (H8 rfl))
  ·obtain⟨b,rfl⟩:∃ b,bs=[b]:=by
    match bs,s with
    |[b],_=>exact⟨b,rfl⟩
   have i:=i b (by simp);obtain⟨e1,w⟩:=Xl i;refine L3 (J5 (J5 ?_));have u:([b][0]?.getD D.top)=b:=rfl;rw [u,e1];refine I4 w (H6 (ih b i) ?_);intro _ ds h;cases h;exact⟨rfl,J5 (H8 rfl)⟩
  ·exact L3 (L3 (H8 rfl))
  ·exact L3 (L3 (H8 rfl))
section
variable {d:Nat} {deep:Int} {b:List D} {a v:Int}
def aI6 (d:Nat)(x:D):Prop:=∃ c s,x=arm c s∧c.length≤2∧(∀ e∈c,gQ 4 e)∧uN d s
end
end
def I (k:Int)(nm ty:G1)(sg:Bool)(es fs bs its els ps qs:List D):D:=
 .agg [iD k,.str nm,.str ty,.bool sg,.Z 6 es,.Z 6 fs,.Z 5 bs,.Z 11 its,.Z 11 els,.Z 2 ps,.Z 2 qs]
def aR3 (x:D):Prop:=∃ nm es,x = .agg [.str nm,.Z 6 es]∧es.length≤1∧∀ e∈es,gQ 4 e
def aT5 (es fs bs its els ps qs:List D):Prop:=es.length≤4∧fs.length≤1∧bs.length≤1∧its.length≤2∧els.length≤1∧ps.length≤2∧qs.length≤2
def N4 {P:D→Prop}:∀ x∈([]:List D),P x:=fun _ h=>by cases h
def sP {P:D→Prop}{y:D}(h:P y):∀ x∈[y],P x:=fun _ a=>by rw [C3.1 a];exact h
def II {P:D→Prop}{l:List D}{y:D}(hl:∀ x∈l,P x)(h:P y):∀ x∈l++[y],P x:=fun x a=>by
 rcases D3.1 a with a|a
 ·exact hl x a
 ·rw [C3.1 a];exact h
def M (nm:G1)(ps qs its:List D):D:= .agg [.str nm,.Z 11 ps,.Z 11 qs,.Z 11 its]
def Rl (R:D→D→Prop)(xs ys:List D):Prop:=xs.length=ys.length∧∀ (i:Nat) (h:i<xs.length) (h':i<ys.length),R xs[i] ys[i]
def Rl.refl {R:D→D→Prop}{xs:List D}(h:∀ x∈xs,R x x):Rl R xs xs:=⟨rfl,fun i a _=>h _ (C6 a)⟩
def CW {R:D→D→Prop}{Q:Bool×List D→Prop}{xs:List D}{T:Int→List D→Nat→Out}(hl:xs.length≤1000) (step:∀ (j:Nat) (acc:List D) (c:j<xs.length),acc.length=j→(∀ y,R xs[j] y→U (T (IntKind.i64.wrap ((j:Int)+1)) (acc++[y])) Q)→U (T (j:Int) acc) Q) (fin:∀ acc,Rl R xs acc→U (T (xs.length:Int) acc) Q):U (T 0 []) Q:=by
 have aux:∀ (m j:Nat) (acc:List D),xs.length-j=m→j≤xs.length→acc.length=j→(∀ (i:Nat) (h:i<xs.length) (h':i<acc.length),R xs[i] acc[i])→U (T (j:Int) acc) Q:=by
  intro m
  induction m with
  |zero=>(intro j acc hm c a b;have:j=xs.length:=by omega);subst this;exact fin acc ⟨a.symm,b⟩
  |succ m ih=>
   intro j acc hm c a b;refine step j acc (by omega) a fun y d=>?_;rw [P4];refine ih (j+1) _ (by omega) (by omega) (by simp [a]) fun i h h'=>?_;by_cases hi:i<acc.length
   ·rw [F6 hi];exact b i h hi
   ·(have e:i=j:=by simp at h';omega);subst e;rw [List.getElem_append_right (by omega)];simpa [a] using d
 exact aux xs.length 0 [] rfl (C4 _) rfl fun i h h'=>absurd h' (by simp)
def sF {d:Nat}{xs:List D}(hl:xs.length≤10)(h:∀ x∈xs,gQ d x):U (fun n=>V5 n (.Z 6 xs)) fun r=>r=(true,[.Z 6 xs]):=by
 refine I5 (fun n=>uT n xs) (L4 (Q:=fun r=>∃ q ys,r=(false,[.Z 6 xs,iD (xs.length:Int),iD q,.Z 6 ys])∧Rl (fun x y=>y=x) xs ys) ?_ (fun ds h=>by obtain⟨_,_,h,_⟩:=h;cases h) fun ds h=>?_)
 ·refine CW (xs:=xs) (R:=fun x y=>y=x) (T:=fun j acc n=>bD n (.Z 6 xs) (xs.length:Int) j (.Z 6 acc)) (by omega) (fun j acc c k K=>?_) fun acc a=>?_
  ·refine I5 (fun n=>jQ n xs _ _ _) (I4 aX8 (I4 (P1 c) ?_));have f:=h xs[j] (C6 c);obtain⟨e1,e⟩:=Ka f;rw [bS c,e1];refine I4 e (H6 (aF5 d xs[j] f) ?_);intro b ds h;cases h;refine⟨rfl,?_⟩;refine I4 (show Q5 cY.I6 [xs[j]]=true by have:=e;simp only [Q5,cY.I6,rT,MJ,mL,qZ] at this ⊢;simp [show kX J0 xs[j]=true from e]) ?_;refine I4 (B2 (by simp only [L9];omega)) ?_;rw [show K4 J0 (Y [xs[j]] 0)=xs[j] from e1];exact K _ rfl
  ·exact I5 (fun n=>jQ n xs _ _ _) (N8 aY0 (H8 ⟨_,acc,rfl,a⟩))
 ·obtain⟨q,ys,h,a⟩:=h;cases h;have:ys=xs:=List.ext_getElem a.1.symm fun i h1 g=>a.2 i g h1;subst this;exact J5 (H8 rfl)
def aV7 (es:List D):Prop:=es.length≤10∧∀ e∈es,gQ 4 e
def OE:Nat→D→D→Prop
 |0,_,_=>False
 |n+1,x,y=>∃ k t ar a b e c,x=E k t ar∧y=PE k a b e t c∧FT k t ar.length∧Rl (OE n) ar c
def Ha:∀ {n:Nat} {x:D},gQ n x→OE n x x
 |0,_,h=>h.elim
 |n+1,_,⟨k,t,ar,e,h1,b⟩=>by subst e;exact⟨k,t,ar,0,0,0,ar,rfl,rfl,h1,Rl.refl fun x a=>Ha (b x a)⟩
def dW {n:Nat}{x y:D}(h:OE n x y):∃ k t ar a b e c,x=E k t ar∧y=PE k a b e t c:=by
 cases n with
 |zero=>exact h.elim
 |succ n=>obtain⟨k,t,ar,a,b,e,c,h1,d,_⟩:=h;exact⟨k,t,ar,a,b,e,c,h1,d⟩
def Np {R:D→D→Prop}:∀ {xs ys:List D},F2 R xs ys→Rl R xs ys
 |_,_,.nil=>⟨rfl,fun i h=>absurd h (by simp)⟩
 |_,_,.cons h b=>by
  obtain⟨h1,d⟩:=Np b;refine⟨by simp [h1],fun i c a=>?_⟩
  cases i with
  |zero=>exact h
  |succ i=>exact d i (by simpa using c) (by simpa using a)
def Rl.mono {R Q:D→D→Prop}{xs ys:List D}(h:Rl R xs ys)(c:∀ x∈xs,∀ y,R x y→Q x y):Rl Q xs ys:=⟨h.1,fun i b a=>c _ (C6 b) _ (h.2 i b a)⟩
def TK:∀ {n:Nat} {x y:D},gQ n x→Sm n x y→OE n x y
 |0,_,_,h,_=>h.elim
 |n+1,_,_,⟨k,t,ar,e,h1,j⟩,⟨p,o,m,a,b,c,d,l,f,i⟩=>by subst e;cases l;exact⟨k,t,ar,a,b,c,d,rfl,f,h1,(Np i).mono fun x g y h=>TK (j x g) h⟩
def kY (es a:List D):Prop:=aV7 es∧Rl (OE 4) es a
def zG {es:List D}(h:aV7 es):kY es es:=⟨h,Rl.refl fun x a=>Ha (h.2 x a)⟩
def AT (k i j l:Int)(t:G1)(es bs zs:List D):D:= .agg [iD k,iD i,iD j,iD l,.str t,.Z 6 es,.Z 8 bs,.Z 9 zs]
def AA (es:List D)(k i j l:Int)(t:G1)(fs bs zs:List D):D:= .agg [.Z 6 es,iD k,iD i,iD j,iD l,.str t,.Z 6 fs,.Z 8 bs,.Z 9 zs]
def OA (R:D→D→Prop)(x y:D):Prop:=∃ es c k i j l t fs bs zs b d a,x=arm es (S k t fs bs zs)∧y=AA c k i j l t b d a∧kY es c∧R (S k t fs bs zs) (AT k i j l t b d a)
def OS:Nat→D→D→Prop
 |0,_,_=>False
 |n+1,x,y=>∃ k i j l t es bs zs b c a,x=S k t es bs zs∧y=AT k i j l t b c a∧kY es b∧bs.length≤10∧zs.length≤10∧Rl (OS n) bs c∧Rl (OA (OS n)) zs a
def Mj {n:Nat}{k:Int}{t:G1}{es bs zs:List D}(h:Tf n k t es bs zs):es.length≤10∧bs.length≤10∧zs.length≤10:=by
 rcases h with ⟨_,_,rfl,h,rfl⟩|⟨_,_,⟨l,e,rfl,_⟩,rfl,rfl⟩|⟨_,_,h,⟨b,c,rfl,_⟩,rfl⟩|⟨_,_,h,rfl,_,a⟩|⟨_,_,h,a,rfl⟩|⟨_,_,h,rfl,rfl⟩|⟨_,_,rfl,rfl,rfl⟩<;>
  refine⟨?_,?_,?_⟩<;>first|decide|omega|(simp only [A0,A8];omega)
def Mr:∀ (d:Nat) (xs:List D),xs.length≤10→(∀ x∈xs,uN d x)→U (fun n=>dN n (.Z 5 xs)) fun r=>∃ ys,r=(true,[.Z 8 ys])∧Rl (OS d) xs ys:=by
 intro d
 induction d with
 |zero=>
  intro xs hl h
  cases xs with
  |cons x xs=>exact (h x B8).elim
  |nil=>refine I5 (fun n=>BI n []) (L4 (Q:=fun r=>r=(false,[.Z 5 [],iD 0,iD 0,.Z 8 []])) (I5 (fun n=>pX n ..) (L3 (H8 rfl))) (fun ds h=>by cases h) fun ds h=>?_);cases h;exact J5 (H8 ⟨[],rfl,rfl,fun i h=>absurd h (by simp)⟩)
 |succ d ih=>
  intro xs hl h;refine I5 (fun n=>BI n xs) (L4 (Q:=fun r=>∃ q ys,r=(false,[.Z 5 xs,iD (xs.length:Int),iD q,.Z 8 ys])∧Rl (OS (d+1)) xs ys) ?_ (fun ds h=>by obtain⟨_,_,h,_⟩:=h;cases h) fun ds h=>?_)
  ·refine CW (xs:=xs) (R:=OS (d+1)) (T:=fun j acc n=>eI n (.Z 5 xs) (xs.length:Int) j (.Z 8 acc)) (by omega) (fun j acc J ha K=>?_) fun acc u=>?_
   ·refine I5 (fun n=>pX n xs _ _ _) (I4 aX8 (I4 (P1 J) ?_));obtain⟨k,t,es,bs,zs,e,W,hb,hz,G⟩:=h xs[j] (C6 J);obtain⟨le,N,lz⟩:=Mj G;rw [bS J,e];rw [e] at K;refine J5 (H6 (sF (xs:=es) le W) ?_);intro b ds h;cases h;refine⟨rfl,?_⟩;refine J5 (H6 (ih bs N hb) ?_);rintro b ds ⟨g,h,M⟩;cases h;refine⟨rfl,?_⟩;refine J5 (L4 (Q:=fun r=>∃ q c,r=(false,[.Z 5 xs,iD (xs.length:Int),iD (j:Int),.Z 6 zs,iD (zs.length:Int),iD q,.Z 8 acc,iD k,iD 0,iD 0,iD 0,.str t,.Z 6 es,.Z 8 g,.Z 9 c])∧Rl (OA (OS d)) zs c) ?_ (fun ds h=>by obtain⟨_,_,h,_⟩:=h;cases h) fun ds h=>?_)
    ·refine CW (xs:=zs) (R:=OA (OS d)) (T:=fun i a n=>eJ n (.Z 5 xs) (xs.length:Int) (j:Int) (.Z 6 zs) (zs.length:Int) i (.Z 8 acc) k (0:Int) (0:Int) (0:Int) (.str t) (.Z 6 es) (.Z 8 g) (.Z 9 a)) (by omega) (fun i a L ha2 K2=>?_) fun a u=>?_
     ·refine I5 (fun n=>uV n ..) (I4 aX8 (I4 (P1 L) ?_));obtain⟨f,s,X,l2,v,I⟩:=hz zs[i] (C6 L);rw [bS L,X];rw [X] at K2
      cases d with
      |zero=>exact I.elim
      |succ d=>
       have H:=I;obtain⟨B,A,fs,m,l,rfl,_⟩:=I;refine J5 (H6 (sF (xs:=f) (by omega) v) ?_);intro b ds h;cases h;refine⟨rfl,?_⟩;refine J5 (H6 (ih [S B A fs m l] (by simp) (sP H)) ?_);rintro b ds ⟨ys,h,p⟩;cases h;refine⟨rfl,?_⟩;obtain⟨y,rfl⟩:∃ y,ys=[y]:=by
        match ys,p.1 with
        |[y],_=>exact⟨y,rfl⟩
       have C:=p.2 0 (by simp) (by simp);have C:OS (d+1) (S B A fs m l) y:=C;have F:=C;obtain⟨k4,V,P,O,t4,fs4,bs4,zs4,w,z,o,e4,rfl,_⟩:=C;cases e4;refine J5 (J5 (J5 (I4 (B2 (by simp only [L9];omega)) ?_)));exact K2 (AA f B V P O A w z o) ⟨f,f,B,V,P,O,A,fs,m,l,w,z,o,rfl,rfl,zG ⟨by omega,v⟩,F⟩
     ·exact I5 (fun n=>uV n ..) (N8 aY0 (H8 ⟨_,a,rfl,u⟩))
    ·obtain⟨q,c,h,E⟩:=h;cases h;refine J5 (I4 (B2 (by show acc.length+1≤L9;simp only [L9];omega)) ?_);exact K (AT k 0 0 0 t es g c) ⟨k,0,0,0,t,es,bs,zs,es,g,c,rfl,rfl,zG ⟨le,W⟩,N,lz,M,E⟩
   ·exact I5 (fun n=>pX n xs _ _ _) (N8 aY0 (H8 ⟨_,acc,rfl,u⟩))
  ·obtain⟨q,ys,h,u⟩:=h;cases h;exact J5 (H8 ⟨ys,rfl,u⟩)
def AC (nm:G1)(i j l:Int)(es:List D):D:= .agg [.str nm,iD i,iD j,iD l,.Z 6 es]
def OC (x y:D):Prop:=∃ nm i j l es a,x = .agg [.str nm,.Z 6 es]∧y=AC nm i j l a∧kY es a
def TU {xs:List D}(hl:xs.length≤10)(h:∀ x∈xs,aR3 x):U (fun n=>iN n (.Z 2 xs)) fun r=>∃ ys,r=(true,[.Z 5 ys])∧Rl OC xs ys:=by
 refine I5 (fun n=>QE n xs) (L4 (Q:=fun r=>∃ q ys,r=(false,[.Z 2 xs,iD (xs.length:Int),iD q,.Z 5 ys])∧Rl OC xs ys) ?_ (fun ds h=>by obtain⟨_,_,h,_⟩:=h;cases h) fun ds h=>?_)
 ·refine CW (xs:=xs) (R:=OC) (T:=fun j acc n=>eE n (.Z 2 xs) (xs.length:Int) j (.Z 5 acc)) (by omega) (fun j acc c f K=>?_) fun acc a=>?_
  ·refine I5 (fun n=>uU n xs _ _ _) (I4 aX8 (I4 (P1 c) ?_));obtain⟨nm,es,e,le,d⟩:=h xs[j] (C6 c);rw [bS c,e];rw [e] at K;refine J5 (H6 (sF (xs:=es) (by omega) d) ?_);intro b ds h;cases h;refine⟨rfl,?_⟩;refine J5 (I4 (B2 (by simp only [L9];omega)) ?_);exact K (AC nm 0 0 0 es) ⟨nm,0,0,0,es,es,rfl,rfl,zG ⟨by omega,d⟩⟩
  ·exact I5 (fun n=>uU n xs _ _ _) (N8 aY0 (H8 ⟨_,acc,rfl,a⟩))
 ·obtain⟨q,ys,h,a⟩:=h;cases h;exact J5 (H8 ⟨ys,rfl,a⟩)
def gI:Nat→D→Prop
 |0,_=>False
 |n+1,x=>∃ k nm ty sg es fs bs its els ps qs,x=I k nm ty sg es fs bs its els ps qs∧aT5 es fs bs [] els ps qs∧its.length≤10∧(∀ e∈es,gQ 4 e)∧(∀ e∈fs,gQ 4 e)∧(∀ e∈bs,uN 4 e)∧
  (∀ i∈its,gI n i)∧(∀ i∈els,gI n i)∧(∀ c∈ps,aR3 c)∧∀ c∈qs,aR3 c
def AJ (k i j l:Int)(nm ty:G1)(sg:Bool)(es fs bs its els ps qs:List D):D:=
 .agg [iD k,iD i,iD j,iD l,.str nm,.str ty,.bool sg,.Z 6 es,.Z 6 fs,.Z 8 bs,.Z 14 its,.Z 14 els,.Z 5 ps,.Z 5 qs]
def OI:Nat→D→D→Prop
 |0,_,_=>False
 |n+1,x,y=>∃ k i j l nm ty sg es fs bs its els ps qs c b d a els' ps' qs',x=I k nm ty sg es fs bs its els ps qs∧y=AJ k i j l nm ty sg c b d a els' ps' qs'∧kY es c∧kY fs b∧bs.length≤10∧its.length≤10∧els.length≤10∧ps.length≤10∧qs.length≤10∧
  Rl (OS 4) bs d∧Rl (OI n) its a∧Rl (OI n) els els'∧Rl OC ps ps'∧Rl OC qs qs'
def JS:∀ (d:Nat) (xs:List D),xs.length≤10→(∀ x∈xs,gI d x)→U (fun n=>bX n (.Z 11 xs)) fun r=>∃ ys,r=(true,[.Z 14 ys])∧Rl (OI d) xs ys:=by
 intro d
 induction d with
 |zero=>
  intro xs hl h
  cases xs with
  |cons x xs=>exact (h x B8).elim
  |nil=>refine I5 (fun n=>BH n []) (L4 (Q:=fun r=>r=(false,[.Z 11 [],iD 0,iD 0,.Z 14 []])) (I5 (fun n=>pV n ..) (L3 (H8 rfl))) (fun ds h=>by cases h) fun ds h=>?_);cases h;exact J5 (H8 ⟨[],rfl,rfl,fun i h=>absurd h (by simp)⟩)
 |succ d ih=>
  intro xs hl h;refine I5 (fun n=>BH n xs) (L4 (Q:=fun r=>∃ q ys,r=(false,[.Z 11 xs,iD (xs.length:Int),iD q,.Z 14 ys])∧Rl (OI (d+1)) xs ys) ?_ (fun ds h=>by obtain⟨_,_,h,_⟩:=h;cases h) fun ds h=>?_)
  ·refine CW (xs:=xs) (R:=OI (d+1)) (T:=fun j acc n=>eG n (.Z 11 xs) (xs.length:Int) j (.Z 14 acc)) (by omega) (fun j acc p I K=>?_) fun acc l=>?_
   ·refine I5 (fun n=>pV n xs _ _ _) (I4 aX8 (I4 (P1 p) ?_));obtain⟨k,nm,ty,sg,es,fs,bs,its,els,ps,qs,e,⟨m1,H,G,_,E,C,B⟩,F,u,t,A,z,y,w,v⟩:=h xs[j] (C6 p);rw [bS p,e];rw [e] at K;refine J5 (H6 (sF (xs:=es) (by omega) u) ?_);intro b ds h;cases h;refine⟨rfl,?_⟩;refine J5 (H6 (sF (xs:=fs) (by omega) t) ?_);intro b ds h;cases h;refine⟨rfl,?_⟩;refine J5 (H6 (Mr 4 bs (by omega) A) ?_);rintro b ds ⟨g,h,s⟩;cases h;refine⟨rfl,?_⟩;refine J5 (H6 (ih its (by omega) z) ?_);rintro b ds ⟨a,h,c⟩;cases h;refine⟨rfl,?_⟩;refine J5 (H6 (ih els (by omega) y) ?_);rintro b ds ⟨els',h,f⟩;cases h;refine⟨rfl,?_⟩;refine J5 (H6 (TU (xs:=ps) (by omega) w) ?_);rintro b ds ⟨ps',h,o⟩;cases h;refine⟨rfl,?_⟩;refine J5 (H6 (TU (xs:=qs) (by omega) v) ?_);rintro b ds ⟨qs',h,m⟩;cases h;refine⟨rfl,?_⟩;refine J5 (I4 (B2 (by simp only [L9];omega)) ?_);exact K (AJ k 0 0 0 nm ty sg es fs g a els' ps' qs') ⟨k,0,0,0,nm,ty,sg,es,fs,bs,its,els,ps,qs,es,fs,g,a,els',ps',qs',rfl,rfl,zG ⟨by omega,u⟩,zG ⟨by omega,t⟩,by omega,by omega,by omega,by omega,by omega,s,c,f,o,m⟩
   ·exact I5 (fun n=>pV n xs _ _ _) (N8 aY0 (H8 ⟨_,acc,rfl,l⟩))
  ·obtain⟨q,ys,h,l⟩:=h;cases h;exact J5 (H8 ⟨ys,rfl,l⟩)
def AM (nm:G1)(i j l:Int)(ps qs its:List D):D:= .agg [.str nm,iD i,iD j,iD l,.Z 14 ps,.Z 14 qs,.Z 14 its]
def OM (x y:D):Prop:=∃ nm i j l ps qs its ps' qs' a,x=M nm ps qs its∧y=AM nm i j l ps' qs' a∧nm.length≤200∧ps.length≤10∧qs.length≤10∧its.length≤10∧Rl (OI 8) ps ps'∧Rl (OI 8) qs qs'∧Rl (OI 8) its a
section
def Tt:decide (YY.length≤4294967280)=true:=by kernel_rfl
def Dk:YY.length≤4294967280:=E7 Tt
def aI3:(([43]::Ts).all fun t=>decide (t.length≤3)&&decide (0≤bZ (([32]++t)++[32]) YY 0)&&!(t==[94,126]))=true:=by kernel_rfl
def aP2:([[40],[123]].all fun t=>!decide (0≤bZ (([32]++t)++[32]) YY 0))=true:=by kernel_rfl
def aI2:(Ts.all fun t=>!(t==[43]))=true:=by kernel_rfl
noncomputable def Gr:PF:=fun n=>S3 n
noncomputable def wB:PF:=fun n=>bB n
noncomputable def pG:PF:=fun n=>I9 n
section
variable {l:List D} (hl:l.length≤1000000)
def IL {i m:Nat}{R:D→Prop}{h:Nat}(z:∀ y,R y→GA y)(u:∃ k t a b e,l[i]? = some (tk k t a b e)∧(k≠3∨t=[40]∨t=[123]))(H:Ph wB l i m R h):Ph Gr l i m R h:=by
 intro d c O V W x o;obtain⟨k,t,a,b,e,v,w⟩:=u;have J:U (fun n=>X0 n true [tk k t a b e,.Z 5 l,iD (i:Int),iD d,iD c,iD O,iD V,iD W,iD 0]) fun r=>∃ y,R y∧r=(true,[y,.Z 5 l,iD ((i+m:Nat):Int),iD d,iD c,iD O,iD V,iD W,iD 0]):=by refine (J5 (H6 (H d c O V W x o) ?_));rintro _ ds ⟨y,p,h0⟩;cases h0;obtain⟨G,F,E,C,A,B,rfl⟩:=z y p;exact⟨rfl,J5 (H8 ⟨_,p,rfl⟩)⟩
 unfold Gr;refine I5 (fun n=>jF n l i d c O V W 0) (M3 (O3 d c O V W v) (K0 (fun _=>J) fun f=>?_));have f:(k !=3)=false:=f;have f:k=3:=by simpa using f
 have g:t=[40]∨t=[123]:=by rcases w with h|h;exact absurd f h;exact h
 have j:decide (0≤bZ (([32]++t)++[32]) YY 0)=false:=by have:=B6.1 aP2 t (by rcases g with rfl|rfl<;>simp);simpa using this
 have q:t.length≤3:=by rcases g with rfl|rfl<;>simp
 refine I4 (E6 (by show 1+t.length≤Z5;simp only [Z5];omega)) (I4 (E6 (by show ([32]++t).length+1≤Z5;simp only [Z5,A7,C9];omega)) (M3 (fY (s:=YY) Dk (([32]++t)++[32])) ?_));show U (fun n=>X0 n (!decide (0≤bZ (([32]++t)++[32]) YY 0)) _) _;rw [j];exact J
include hl
def Gs {i m:Nat}{R:D→Prop}{h:Nat}(A:∀ y,R y→GA y){t:G1}(w:t∈[43]::Ts)(k:∃ a b e,l[i]? = some (tk 3 t a b e))(H:Ph Gr l (i+1) m R h) :Ph Gr l i (1+m) (fun y=>bif t==[43] then R y else ∃ a b e u,y=PE 3 a b e t [u]∧R u) (h+1):=by
 intro d c O V W q z;obtain⟨a,b,e,k⟩:=k;have f:=B6.1 aI3 t w;simp only [A9,decide_eq_true_eq,D8] at f;obtain⟨⟨v,g⟩,p⟩:=f;have x:=vY k;have I:=H (d+1) c O V W (by omega) (by omega);rw [show i+1+m=i+(1+m) from by omega,← P4 (j:=i) (by omega)] at I;unfold Gr at I ⊢;refine I5 (fun n=>jF n ..) (M3 (O3 d c O V W k) (L3 (I4 (E6 (by show 1+t.length≤Z5;simp only [Z5];omega)) (I4 (E6 (by show ([32]++t).length+1≤Z5;simp only [Z5,A7,C9];omega)) (M3 (fY (s:=YY) Dk (([32]++t)++[32])) ?_)))));show U (fun n=>X0 n (!decide (0≤bZ (([32]++t)++[32]) YY 0)) _) _;rw [E6 g];refine (L3 (M3 (bR l d c O V W (i:Int) (by omega) q) (L3 (H6 I ?_))));(rintro _ ds ⟨y,o,h0⟩;cases h0;obtain⟨J,G,F,E,B,C,rfl⟩:=A y o;refine⟨rfl,J5 ?_⟩);refine K0 (fun h=>?_) fun h=>?_
 ·have h:(t==[43])=true:=h;refine M3 (aR l d c O V W _ (by omega) q) ?_;exact H8 ⟨_,by rw [h];exact o,rfl⟩
 ·have h:(t==[43])=false:=h;refine M3 (I5 (fun n=>qH n t) (N8 p (H8 (P:=fun r=>r=(true,[.str t])) rfl))) (M3 (aR l d c O V W _ (by omega) q) ?_);exact H8 ⟨_,by rw [h];exact⟨a,b,e,_,rfl,o⟩,rfl⟩
omit hl in
def Pj {t w:G1}(h:cl t=true)(a:aB1.contains w=false)(k:Int):(t==w&&k !=2)=false:=by
 cases hb:t==w with
 |false=>rfl
 |true=>rw [eq_of_beq hb] at h;unfold cl at h;rw [a] at h;cases h
def Hz {i m:Nat}{R:D→Prop}{h:Nat}(r:∀ y,R y→GA y)(f:∃ k t a b e,l[i]? = some (tk k t a b e))(o:Nx l (i+m) cl)(H:Ph (Fj 0) l i m R h):Ph pG l i m R (h+1):=by have _:=hl;intro d c O V W j p;obtain⟨k,t,a,b,e,f⟩:=f;obtain⟨C,a2,F,E,s,q⟩:=o;have I:=H (d+1) c O V W (by omega) (by omega);unfold pG;unfold Fj at I;refine I5 (fun n=>jX n ..) (M3 (O3 d c O V W f) (M3 (bR l d c O V W (i:Int) (by omega) j) (L3 (H6 I ?_))));(rintro _ ds ⟨y,g,h0⟩;cases h0;obtain⟨B,A,z,x,u,v,rfl⟩:=r y g;refine⟨rfl,J5 ?_⟩);exact M3 (I7 (d+1) c O V W (w:=[63]) s (Pj q rfl 3)) (J5 (M3 (aR l d c O V W _ (by omega) j) (H8 ⟨_,g,rfl⟩)))
def Ld {i m1 f o:Nat}{C B A:D→Prop}{h:Nat}(z:∀ y,C y→GA y)(x:∀ y,B y→GA y)(s:∀ y,A y→GA y)(q:∃ k t a b e,l[i]? = some (tk k t a b e))(H1:Ph (Fj 0) l i m1 C h) (r:∃ a b e,l[i+m1]? = some (tk 3 [63] a b e)) (H2:Ph pG l (i+m1+1) f B h) (p:∃ a b e,l[i+m1+1+f]? = some (tk 3 [58] a b e)) (X:Ph pG l (i+m1+1+f+1) o A h) :Ph pG l i (m1+1+f+1+o) (fun y=>∃ a b e u v w,y=PE 5 a b e [] [u,v,w]∧C u∧B v∧A w) (h+1):=by intro d c O V W L T;obtain⟨k,t,a,b,e,q⟩:=q;obtain⟨a2,b2,e2,r⟩:=r;obtain⟨a3,b3,e3,p⟩:=p;have S:=vY p;have N:=H1 (d+1) c O V W (by omega) (by omega);have M:=H2 (d+1) c O V W (by omega) (by omega);have E:=X (d+1) c O V W (by omega) (by omega);rw [show i+m1+1+f+1+o=i+(m1+1+f+1+o) from by omega] at E;unfold pG at M E ⊢;unfold Fj at N;refine I5 (fun n=>jX n ..) (M3 (O3 d c O V W q) (M3 (bR l d c O V W (i:Int) (by omega) L) (L3 (H6 N ?_))));(rintro _ ds ⟨R,m,h0⟩;cases h0;obtain⟨K,J,I,H,F,G,rfl⟩:=z R m;refine⟨rfl,J5 ?_⟩);refine M3 (M6 (d+1) c O V W (w:=[63]) hl r rfl) (L3 (H6 M ?_));(rintro _ ds ⟨Q,j,h0⟩;cases h0;obtain⟨K,J,I,H,F,G,rfl⟩:=x Q j;refine⟨rfl,J5 ?_⟩);refine M3 (M8 (d+1) c O V W hl [[58]] (by decide) (S7 p rfl)) (H6 E ?_);(rintro _ ds ⟨P,g,h0⟩;cases h0;obtain⟨K,J,I,H,F,G,rfl⟩:=s P g;refine⟨rfl,J5 ?_⟩);exact M3 (aR l d c O V W _ (by omega) L) (H8 ⟨_,⟨a,b,e,_,_,_,rfl,m,j,g⟩,rfl⟩)
def Mc {i m:Nat}{R:D→Prop}{h:Nat}(p:∀ y,R y→GA y)(f:∃ a b e,l[i]? = some (tk 3 [40] a b e))(H:Ph pG l (i+1) m R h)(g:∃ a b e,l[i+1+m]? = some (tk 3 [41] a b e)):Ph wB l i (1+m+1) R h:=by intro d c O V W o j;obtain⟨a,b,e,f⟩:=f;obtain⟨a2,z,x,g⟩:=g;have I:=H d c O V W o j;unfold pG at I;unfold wB;rw [show i+(1+m+1)=i+1+m+1 from by omega];refine I5 (fun n=>aE n ..) (M3 (O3 d c O V W f) (L3 (M3 (M6 d c O V W (w:=[40]) hl f rfl) (J5 (H6 I ?_)))));(rintro _ ds ⟨y,k,h0⟩;cases h0;obtain⟨v,u,t,s,q,r,rfl⟩:=p y k;refine⟨rfl,J5 ?_⟩);exact M3 (M8 d c O V W hl [[41]] (by decide) (S7 g rfl)) (H8 ⟨_,k,rfl⟩)
def one_num {i:Nat}{t:G1}(f:∃ a b e,l[i]? = some (tk 2 t a b e)):Ph wB l i 1 (fun y=>∃ a b e,y=PE 1 a b e t []) 0:=by intro d c O V W j h;obtain⟨a,b,e,f⟩:=f;have g:=vY f;unfold wB;refine I5 (fun n=>aE n ..) (M3 (O3 d c O V W f) (J5 (H8 ⟨_,⟨a,b,e,rfl⟩,?_⟩)));rw [← P4];rfl
def Ru {i:Nat}{t:G1}(m:Mb t=true)(f:∃ a b e,l[i]? = some (tk 1 t a b e)){p:G1→Bool}(k:Nx l (i+1) p)(hp:∀ t,p t=true→(t==[91])=false∧(t==[40])=false):Ph wB l i 1 (fun y=>∃ a b e,y=PE 2 a b e t []) 0:=by intro d c O V W q n;obtain⟨a,b,e,f⟩:=f;obtain⟨g,a2,u,s,o,h⟩:=k;exact (aE6 (d:=d) (c:=c) (O:=O) (V:=V) (W:=W) hl f m o (hp g h).1 (hp g h).2).mono fun r j=>⟨_,⟨a,b,e,rfl⟩,j⟩
def aJ6 (l:List D)(h:Nat):Nat→List (Nat×(D→Prop))→Nat→Prop
 |i,[],e=>i=e
 |i,p::r,e=>(∃ a b c,l[i]? = some (tk 3 [44] a b c))∧Ph pG l (i+1) p.1 p.2 h∧(∀ y,p.2 y→GA y)∧aJ6 l h (i+1+p.1) r e
def Qd {h:Nat}{e:Nat}(q:∃ t a b c,l[e]? = some (tk 3 t a b c)∧(t==[44])=false):∀ (es:List (Nat×(D→Prop))) (i:Nat) (acc:List D),aJ6 l h i es e→acc.length+es.length≤1000→∀ d c O V W:Int,0≤d→d+h≤40→U (fun n=>V7 n (.Z 5 l) (i:Int) d c O V W (0:Int) (.Z 6 acc)) fun r=>∃ ys,F2 (fun p y=>p.2 y) es ys∧r=(false,[.Z 5 l,iD (e:Int),iD d,iD c,iD O,iD V,iD W,iD 0,.Z 6 (acc++ys)])
 |[],i,acc,h0,_,d,c,O,V,W,k,f=>by obtain⟨t,a,b,J,C,j⟩:=q;have h0:i=e:=h0;subst h0;refine I5 (fun n=>fP n ..) (M3 (I7 d c O V W (w:=[44]) C (by rw [j];rfl)) ?_);exact L3 (H8 ⟨[],.nil,by rw [D5];rfl⟩)
 |(m,R)::es,i,acc,h0,s,d,c,O,V,W,k,f=>by obtain⟨⟨a,b,J,E⟩,H,F,g⟩:=h0;have I:=H d c O V W k f;unfold pG at I;refine I5 (fun n=>fP n l i d c O V W 0 acc) (M3 (M6 d c O V W (w:=[44]) hl E rfl) (J5 (H6 I ?_)));(rintro _ ds ⟨y,o,h0⟩;cases h0;obtain⟨B,A,z,x,u,v,rfl⟩:=F y o;refine⟨rfl,J5 ?_⟩);have K:=Qd q es (i+1+m) (acc++[.agg [iD B,iD A,iD z,iD x,.str u,.Z 6 v]]) g (by simp only [G0] at s ⊢;omega) d c O V W k f;refine I4 (B2 (by simp only [A0] at s;simp only [L9];omega)) (K.mono fun r g=>?_);obtain⟨ys,h1,G⟩:=g;exact⟨_::ys,.cons o h1,by rw [G,C1];rfl⟩
def Ui (l:List D)(i m:Nat)(R:List D→Prop)(h:Nat):Prop:=
 ∀ d c O V W:Int,0≤d→d+h≤40→U (fun n=>O7 n (.Z 5 l) (i:Int) d c O V W (0:Int)) fun r=>∃ ys,R ys∧r=(true,[.Z 5 l,iD ((i+m:Nat):Int),iD d,iD c,iD O,iD V,iD W,iD 0,.Z 6 ys])
def Av {i m e:Nat}{R:D→Prop}{h:Nat}{es:List (Nat×(D→Prop))}(B:∀ y,R y→GA y)(H:Ph pG l i m R h)(C:aJ6 l h (i+m) es e)(A:es.length≤900)(z:∃ t a b c,l[e]? = some (tk 3 t a b c)∧(t==[44])=false){q:Nat}(x:e=i+q) :Ui l i q (fun ys=>∃ y r,ys=y::r∧R y∧F2 (fun p y=>p.2 y) es r) h:=by intro d c O V W j f;have I:=H d c O V W j f;unfold pG at I;refine I5 (fun n=>mG n ..) (H6 I ?_);(rintro _ ds ⟨y,g,h0⟩;cases h0;obtain⟨w,v,u,s,k,o,rfl⟩:=B y g;refine⟨rfl,J5 ?_⟩);have K:=Qd hl z es (i+m) [.agg [iD w,iD v,iD u,iD s,.str k,.Z 6 o]] C (by simp only [A0,A8];omega) d c O V W j f;refine L4 K (fun ds h=>by obtain⟨_,_,h⟩:=h;cases h) fun ds h=>?_;obtain⟨ys,h1,E⟩:=h;cases E;subst x;exact J5 (H8 ⟨_,⟨_,ys,rfl,g,h1⟩,rfl⟩)
def Wi {i m:Nat}{R:List D→Prop}{h:Nat}(g:∃ a b e,l[i]? = some (tk 3 [123] a b e))(H:Ui l (i+1) m R h)(j:∃ a b e,l[i+1+m]? = some (tk 3 [125] a b e)):Ph wB l i (1+m+1) (fun y=>∃ a b e ys,y=PE 6 a b e [] ys∧R ys) h:=by
 intro d c O V W o k;obtain⟨a,b,e,g⟩:=g;obtain⟨a2,q,p,j⟩:=j;have I:=H d c O V W o k;unfold wB;rw [show i+(1+m+1)=i+1+m+1 from by omega];have J:∀ ys,R ys→U (fun n=>Y4 n ys 6 l ((i+1+m:Nat):Int) d c O V W 0 a b e) fun r=>∃ y,(∃ a b e ys,y=PE 6 a b e [] ys∧R ys)∧r=(true,[y,.Z 5 l,iD ((i+1+m+1:Nat):Int),iD d,iD c,iD O,iD V,iD W,iD 0]):=by intro ys f;exact (M3 (M8 d c O V W hl [[125]] (by decide) (S7 j rfl)) (H8 ⟨_,⟨a,b,e,ys,rfl,f⟩,rfl⟩))
 have B:U (fun n=>X8 n (.agg [iD a,iD b,iD e]) (.Z 5 l) ((i+1:Nat):Int) d c O V W (0:Int)) fun r=>∃ y,(∃ a b e ys,y=PE 6 a b e [] ys∧R ys)∧r=(true,[y,.Z 5 l,iD ((i+1+m+1:Nat):Int),iD d,iD c,iD O,iD V,iD W,iD 0]):=by
  refine I5 (fun n=>iI n a b e l _ d c O V W 0) (H6 I ?_);rintro _ ds ⟨ys,f,h0⟩;cases h0;refine⟨rfl,J5 (K0 (fun _=>?_) fun _=>?_)⟩
  ·exact M3 (I7 d c O V W (w:=[123]) j rfl) (L3 (J ys f))
  ·exact (L3 (J ys f))
 refine I5 (fun n=>aE n l i d c O V W 0) (M3 (O3 d c O V W g) (L3 (M3 (I7 d c O V W (w:=[40]) g rfl) (L3 (M3 (M6 d c O V W (w:=[123]) hl g rfl) (J5 (H6 B ?_)))))));rintro _ ds ⟨y,⟨a,b,e,ys,rfl,f⟩,h0⟩;cases h0;exact⟨rfl,J5 (H8 ⟨_,⟨a,b,e,ys,rfl,f⟩,rfl⟩)⟩
def Wj {i m1 g:Nat}{q:D→Prop}{s:List D→Prop}{h:Nat}(z:∀ y,q y→GA y)(x:∀ ys,s ys→ys.length≤1000)(m:∃ a b e,l[i]? = some (tk 3 [123] a b e))(H1:Ph pG l (i+1) m1 q h)(k:∃ a b e,l[i+1+m1]? = some (tk 3 [123] a b e)) (H:Ui l (i+1+m1+1) g s h) (v:∃ a b e,l[i+1+m1+1+g]? = some (tk 3 [125] a b e)) (j:∃ a b e,l[i+1+m1+1+g+1]? = some (tk 3 [125] a b e)) :Ph wB l i (1+m1+1+g+2) (fun y=>∃ a b e u ys,y=PE 7 a b e [] (u::ys)∧q u∧s ys) h:=by
 have E:Ui l (i+1) m1 (fun ys=>∃ y r,ys=y::r∧q y∧F2 (fun (p:Nat×(D→Prop)) y=>p.2 y) [] r) h:=by obtain⟨a,b,e,k⟩:=k;exact Av hl z H1 (es:=[]) (e:=i+1+m1) rfl (by decide) ⟨_,a,b,e,k,rfl⟩ rfl
 intro d c O V W A o;obtain⟨a,b,e,m⟩:=m;obtain⟨a1,M,e1,k⟩:=k;obtain⟨a2,L,J,v⟩:=v;obtain⟨a3,K,I,j⟩:=j;have G:=E d c O V W A o;have F:=H d c O V W A o;unfold wB;rw [show i+(1+m1+1+g+2)=i+1+m1+1+g+1+1 from by omega];have B:U (fun n=>X8 n (.agg [iD a,iD b,iD e]) (.Z 5 l) ((i+1:Nat):Int) d c O V W (0:Int)) fun r=>∃ y,(∃ a b e u ys,y=PE 7 a b e [] (u::ys)∧q u∧s ys)∧r=(true,[y,.Z 5 l,iD ((i+1+m1+1+g+1+1:Nat):Int),iD d,iD c,iD O,iD V,iD W,iD 0]):=by refine I5 (fun n=>iI n ..) (H6 G ?_);rintro _ ds ⟨_,⟨u,r,rfl,t,C⟩,h0⟩;cases h0;cases C;refine⟨rfl,J5 (J5 (M3 (M6 d c O V W (w:=[123]) hl k rfl) (J5 (H6 F ?_))))⟩;rintro _ ds ⟨ys,f,h0⟩;cases h0;have k:=x ys f;refine⟨rfl,J5 (I4 (B2 (by show ([u]:List D).length+ys.length≤L9;simp only [A0,A8,L9];omega)) (M3 (M8 d c O V W hl [[125]] (by decide) (S7 v rfl)) ?_))⟩;exact (M3 (M8 d c O V W hl [[125]] (by decide) (S7 j rfl)) (H8 ⟨_,⟨a,b,e,u,ys,rfl,t,f⟩,rfl⟩))
 refine I5 (fun n=>aE n l i d c O V W 0) (M3 (O3 d c O V W m) (L3 (M3 (I7 d c O V W (w:=[40]) m rfl) (L3 (M3 (M6 d c O V W (w:=[123]) hl m rfl) (J5 (H6 B ?_)))))));rintro _ ds ⟨y,⟨a,b,e,u,ys,rfl,t,f⟩,h0⟩;cases h0;exact⟨rfl,J5 (H8 ⟨_,⟨a,b,e,u,ys,rfl,t,f⟩,rfl⟩)⟩
def QG {i m:Nat}{R:D→Prop}{h:Nat}(r:∀ y,R y→GA y){t:G1}(p:qL t=true)(f:∃ a b e,l[i]? = some (tk 1 t a b e))(j:∃ a b e,l[i+1]? = some (tk 3 [91] a b e))(H:Ph pG l (i+2) m R h)(g:∃ a b e,l[i+2+m]? = some (tk 3 [93] a b e)) :Ph (fun n=>Q1 n) l i (2+m+1) (fun y=>∃ a b e u,y=PE 8 a b e t [u]∧R u) h:=by intro d c O V W q k;obtain⟨a,b,e,f⟩:=f;obtain⟨a2,G,E,j⟩:=j;obtain⟨a3,F,C,g⟩:=g;have I:=H d c O V W q k;unfold pG at I;rw [show i+(2+m+1)=i+2+m+1 from by omega];refine I5 (fun n=>gA n ..) (M3 (O3 d c O V W f) (M3 (fJ d c O V W hl f p) (M3 (M6 d c O V W (w:=[91]) hl j rfl) (L3 (H6 I ?_)))));(rintro _ ds ⟨y,o,h0⟩;cases h0;obtain⟨B,A,z,x,s,v,rfl⟩:=r y o;refine⟨rfl,J5 ?_⟩);exact M3 (I7 d c O V W (w:=[58]) g rfl) (L3 (M3 (M8 d c O V W hl [[93]] (by decide) (S7 g rfl)) (H8 ⟨_,⟨a,b,e,_,rfl,o⟩,rfl⟩)))
def QH {i m1 f:Nat}{z x:D→Prop}{h:Nat}(s:∀ y,z y→GA y)(r:∀ y,x y→GA y){t:G1}(M:qL t=true)(m:∃ a b e,l[i]? = some (tk 1 t a b e))(p:∃ a b e,l[i+1]? = some (tk 3 [91] a b e))(H1:Ph pG l (i+2) m1 z h) (q:∃ a b e,l[i+2+m1]? = some (tk 3 [58] a b e)) (N:Ph pG l (i+2+m1+1) f x h) (o:∃ a b e,l[i+2+m1+1+f]? = some (tk 3 [93] a b e)) :Ph (fun n=>Q1 n) l i (2+m1+1+f+1) (fun y=>∃ a b e u v,y=PE 9 a b e t [u,v]∧z u∧x v) h:=by intro d c O V W A k;obtain⟨a,b,e,m⟩:=m;obtain⟨a2,X,R,p⟩:=p;obtain⟨a3,T,Q,q⟩:=q;obtain⟨a4,S,P,o⟩:=o;have C:=H1 d c O V W A k;have B:=N d c O V W A k;unfold pG at C B;rw [show i+(2+m1+1+f+1)=i+2+m1+1+f+1 from by omega];refine I5 (fun n=>gA n ..) (M3 (O3 d c O V W m) (M3 (fJ d c O V W hl m M) (M3 (M6 d c O V W (w:=[91]) hl p rfl) (L3 (H6 C ?_)))));(rintro _ ds ⟨F,j,h0⟩;cases h0;obtain⟨L,K,J,I,G,H,rfl⟩:=s F j;refine⟨rfl,J5 ?_⟩);refine M3 (M6 d c O V W (w:=[58]) hl q rfl) (J5 (H6 B ?_));(rintro _ ds ⟨E,g,h0⟩;cases h0;obtain⟨L,K,J,I,G,H,rfl⟩:=r E g;refine⟨rfl,J5 ?_⟩);exact (M3 (M8 d c O V W hl [[93]] (by decide) (S7 o rfl)) (H8 ⟨_,⟨a,b,e,_,_,rfl,j,g⟩,rfl⟩))
def Cd {i m:Nat}{R:D→Prop}{h:Nat}{t:G1}(o:Mb t=true)(f:∃ a b e,l[i]? = some (tk 1 t a b e))(r:∀ y,R y→∃ k a b e t ar,y=PE k a b e t ar∧k≠2)(H:Ph (fun n=>Q1 n) l i m R h):Ph wB l i m R h:=by have _:=hl;intro d c O V W q g;obtain⟨a,b,e,f⟩:=f;have I:=H d c O V W q g;simp only [Mb,A9,D8] at o;obtain⟨⟨⟨⟨g1,g2⟩,v⟩,u⟩,s⟩:=o;unfold wB;refine I5 (fun n=>aE n ..) (M3 (O3 d c O V W f) (L3 (M3 (I7 d c O V W f (by rw [g2];rfl)) ?_)));refine L3 (M3 (I7 d c O V W f (by rw [v];rfl)) ?_);refine L3 (M3 (bG d c O V W _ f) (N8 (by show (_&&_)=false;rw [u];rfl) (M3 (bG d c O V W _ f) ?_)));refine N8 (by show (_&&_)=false;rw [s];rfl) (H6 I ?_);rintro _ ds ⟨y,j,h0⟩;cases h0;obtain⟨k,a,b,e,t,ar,rfl,p⟩:=r y j;exact⟨rfl,J5 (N8 (F4.2 p) (L3 (H8 ⟨_,j,rfl⟩)))⟩
def Hm {i m:Nat}{R:List D→Prop}{h:Nat}(k a b e:Int)(t:G1)(j:∃ a b e,l[i]? = some (tk 3 [40] a b e))(H:Ui l (i+1) m R h)(g:∃ a b e,l[i+1+m]? = some (tk 3 [41] a b e)) :Ph (fun n=>V8 n (tk k t a b e)) l i (1+m+1) (fun y=>∃ ys,y=PE 10 a b e t ys∧R ys) h:=by intro d c O V W p o;obtain⟨a2,u,r,j⟩:=j;obtain⟨a3,s,q,g⟩:=g;have I:=H d c O V W p o;rw [show i+(1+m+1)=i+1+m+1 from by omega];refine I5 (fun n=>nH n ..) (M3 (M8 d c O V W hl [[40]] (by decide) (S7 j rfl)) (H6 I ?_));rintro _ ds ⟨ys,f,h0⟩;cases h0;exact⟨rfl,J5 (M3 (M8 d c O V W hl [[41]] (by decide) (S7 g rfl)) (H8 ⟨_,⟨ys,rfl,f⟩,rfl⟩))⟩
def Cc {i m:Nat}{R:List D→Prop}{h:Nat}{t:G1}(k:Mb t=true)(f:∃ a b e,l[i]? = some (tk 1 t a b e))(g:∃ a b e,l[i+1]? = some (tk 3 [40] a b e))(H:Ui l (i+2) m R h)(p:∃ a b e,l[i+2+m]? = some (tk 3 [41] a b e)) :Ph wB l i (2+m+1) (fun y=>∃ a b e ys,y=PE 10 a b e t ys∧R ys) h:=by intro d c O V W r o;obtain⟨a,b,e,f⟩:=f;have C:=Hm hl 1 a b e t (i:=i+1) g H p d c O V W r o;obtain⟨a2,x,w,g⟩:=g;have q:=k;simp only [Mb,A9,D8] at k;obtain⟨⟨⟨⟨g1,g2⟩,v⟩,u⟩,s⟩:=k;unfold wB;rw [show i+(2+m+1)=i+1+(1+m+1) from by omega];refine I5 (fun n=>aE n ..) (M3 (O3 d c O V W f) (L3 (M3 (I7 d c O V W f (by rw [g2];rfl)) ?_)));refine L3 (M3 (I7 d c O V W f (by rw [v];rfl)) ?_);refine L3 (M3 (bG d c O V W _ f) (N8 (by show (_&&_)=false;rw [u];rfl) (M3 (bG d c O V W _ f) ?_)));refine N8 (by show (_&&_)=false;rw [s];rfl) (M3 (FV d c O V W hl f g1 g rfl) ?_);refine J5 (M3 (bG d c O V W [40] g) (J5 (H6 C ?_)));rintro _ ds ⟨y,⟨ys,rfl,j⟩,h0⟩;cases h0;exact⟨rfl,J5 (H8 ⟨_,⟨a,b,e,ys,rfl,j⟩,rfl⟩)⟩
def Iw {i m:Nat}{R:List D→Prop}{h:Nat}{t:G1}(o:t=[36,115,105,103,110,101,100]∨t=[36,117,110,115,105,103,110,101,100])(f:∃ a b e,l[i]? = some (tk 1 t a b e))(q:∃ a b e,l[i+1]? = some (tk 3 [40] a b e))(H:Ui l (i+2) m R h)(p:∃ a b e,l[i+2+m]? = some (tk 3 [41] a b e)) :Ph wB l i (2+m+1) (fun y=>∃ a b e ys,y=PE 10 a b e t ys∧R ys) h:=by
 intro d c O V W s k;obtain⟨a,b,e,f⟩:=f;have r:=vY f;have C:=Hm hl 1 a b e t (i:=i+1) q H p d c O V W s k;unfold wB;rw [show i+(2+m+1)=i+1+(1+m+1) from by omega];rw [← P4 (j:=i) (by omega)] at C;refine I5 (fun n=>aE n ..) (H6 (O3 d c O V W f) ?_);rcases o with rfl|rfl
 ·(intro _ ds h0;cases h0;refine⟨rfl,J5 ?_⟩);refine L3 (M3 (I7 d c O V W f rfl) (L3 (M3 (I7 d c O V W f rfl) (L3 (M3 (bG d c O V W _ f) (J5 (H6 C ?_)))))));rintro _ ds ⟨y,⟨ys,rfl,g⟩,h0⟩;cases h0;exact⟨rfl,J5 (H8 ⟨_,⟨a,b,e,ys,rfl,g⟩,rfl⟩)⟩
 ·(intro _ ds h0;cases h0;refine⟨rfl,J5 ?_⟩);refine L3 (M3 (I7 d c O V W f rfl) (L3 (M3 (I7 d c O V W f rfl) (L3 (M3 (bG d c O V W _ f) (L3 (M3 (bG d c O V W _ f) (J5 (H6 C ?_)))))))));rintro _ ds ⟨y,⟨ys,rfl,g⟩,h0⟩;cases h0;exact⟨rfl,J5 (H8 ⟨_,⟨a,b,e,ys,rfl,g⟩,rfl⟩)⟩
end
end
section
def Ph.cast {F:PF}{l:List D}{i m a:Nat}{R:D→Prop}{h:Nat}(H:Ph F l i m R h)(e:m=a):Ph F l i a R h:=e▸H
def aE0:(dP.all Mb)=true:=by kernel_rfl
def vN {t:G1}(h:t∈dP):Mb t=true:=B6.1 aE0 t h
def rG {t:G1}(h:Mb t=true):qL t=true:=by simp only [Mb,A9] at h;exact h.1.1.1.1
def Qh:(([[102],[103]]:List G1).all Mb)=true:=by kernel_rfl
def aE8:(Wm.all fun o=>BR.contains o)=true:=by kernel_rfl
def Ce {o:G1}(h:o∈Wm):o∈BR:=by have:=B6.1 aE8 o h;simpa using this
def aB3:((aB1++BR++[[63]]).all fun t=>!(t==[91])&&!(t==[40]))=true:=by kernel_rfl
def Vc (t:G1)(h:cu t=true):(t==[91])=false∧(t==[40])=false:=by
 have hm:t∈aB1++BR++[[63]]:=by simp only [cu,Bool.or_eq_true,List.contains_iff_mem,beq_iff_eq] at h;simp only [D3,C3];exact h
 have:=B6.1 aB3 t hm;simpa using this
def aO1 {o:G1}(h:o∈BR):cu o=true:=by simp [cu,h]
def HX:Nat→Nat
 |0=>0
 |n+1=>HX n+2
section
variable {l:List D} (hl:l.length≤1000000)
def aJ5 (l:List D)(e:Nat):Prop:=∃ t a b c,l[e]? = some (tk 3 t a b c)∧cl t=true∧(t==[44])=false
def aJ5.nx {e:Nat}(h:aJ5 l e):Nx l e cl:=by obtain⟨t,a,b,c,h1,d,_⟩:=h;exact⟨t,a,b,c,h1,d⟩
def Qe {w:D→List Tk}{R:D→D→Prop}{h:Nat}(k:∀ x y,R x y→GA y){e:Nat}(m:aJ5 l e):∀ (r:List D) (y:D) (j:Nat),(∀ x∈y::r,∀ i,K6 l i (w x)→Nx l (i+(w x).length) cl→Ph pG l i (w x).length (R x) h)→K6 l j ((3,[44])::lW w (y::r))→e=j+1+(lW w (y::r)).length→aJ6 l h j ((y::r).map fun x=>((w x).length,R x)) e
 |[],y,j,g,d,f=>by have d:(∃ a b e,l[j]? = some (tk 3 [44] a b e))∧K6 l (j+1) (w y):=d;have f:e=j+1+(w y).length:=f;subst f;exact⟨d.1,g y (B8 ..) (j+1) d.2 m.nx,k y,rfl⟩
 |z::r,y,j,g,d,f=>by have d:(∃ a b e,l[j]? = some (tk 3 [44] a b e))∧K6 l (j+1) (w y++((3,[44])::lW w (z::r))):=d;have f:e=j+1+(w y++((3,[44])::lW w (z::r))).length:=f;obtain⟨h1,s⟩:=d;obtain⟨q,n⟩:=L6.1 s;obtain⟨a,b,c,p⟩:=n.1;refine⟨h1,g y (B8 ..) (j+1) q ⟨[44],a,b,c,p,rfl⟩,k y,Qe k m r z (j+1+(w y).length) (fun x o=>g x (C0 _ o)) n ?_⟩;rw [f,A7,A0];omega
def Nq {R:D→D→Prop}{w:D→List Tk}:∀ {xs ys:List D},F2 (fun (p:Nat×(D→Prop)) y=>p.2 y) (xs.map fun x=>((w x).length,R x)) ys→F2 R xs ys
 |[],_,h=>by cases h;exact .nil
 |x::xs,_,h=>by cases h with|cons h1 a=>exact .cons h1 (Nq a)
include hl
def Wb {w:D→List Tk}{R:D→D→Prop}{h:Nat}(p:∀ x y,R x y→GA y){x:D}{r:List D}{i:Nat}(v:r.length≤900)(o:∀ x'∈x::r,∀ i,K6 l i (w x')→Nx l (i+(w x').length) cl→Ph pG l i (w x').length (R x') h) (f:K6 l i (lW w (x::r))) (m:aJ5 l (i+(lW w (x::r)).length)):Ui l i (lW w (x::r)).length (fun ys=>F2 R (x::r) ys) h:=by
 have fin:∀ {es},aJ6 l h (i+(w x).length) es (i+(lW w (x::r)).length)→es=r.map (fun x=>((w x).length,R x))→Ph pG l i (w x).length (R x) h→Ui l i (lW w (x::r)).length (fun ys=>F2 R (x::r) ys) h:=by intro es E g H;have k:=m;obtain⟨t,a,b,c,h1,_,F⟩:=k;have:=Av hl (p x) H E (by rw [g,List.length_map];exact v) ⟨t,a,b,c,h1,F⟩ rfl;intro d c O V W B n;refine (this d c O V W B n).mono fun G j=>?_;obtain⟨_,⟨y,ys,rfl,s,A⟩,e⟩:=j;subst g;exact⟨_,.cons s (Nq A),e⟩
 cases r with
 |nil=>have f:K6 l i (w x):=f;exact fin (es:=[]) rfl rfl (o x (B8 ..) i f m.nx)
 |cons z r=>have f:K6 l i (w x++((3,[44])::lW w (z::r))):=f;obtain⟨h1,q⟩:=L6.1 f;obtain⟨a,b,c,C⟩:=q.1;refine fin (Qe p m r z (i+(w x).length) (fun x' u=>o x' (C0 _ u)) q ?_) rfl (o x (B8 ..) i h1 ⟨[44],a,b,c,C,rfl⟩);show i+(w x++((3,[44])::lW w (z::r))).length=_;rw [A7,A0];omega
omit hl in
def JN:∀ (n:Nat) (x:D),gQ n x→∀ i,K6 l i (wE n x)→∃ k t a b e,l[i]? = some (tk k t a b e)∧(RV x=false→k≠3∨t=[40]∨t=[123])
 |0,_,h,_,_=>h.elim
 |n+1,x,h,i,c=>by
  obtain⟨k,t,ar,rfl,s,f⟩:=h;rw [IM] at c;have one:∀ (m:Int) (j:G1) (ws:List Tk),K6 l i ((m,j)::ws)→(RV (E k t ar)=false→m≠3∨j=[40]∨j=[123])→∃ d t1 a b e,l[i]? = some (tk d t1 a b e)∧(RV (E k t ar)=false→d≠3∨t1=[40]∨t1=[123]):=by intro m j ws h1 p;obtain⟨⟨a,b,e,o⟩,_⟩:=h1;exact⟨_,_,a,b,e,o,p⟩
  have arg:∀ (x:D) (ws:List Tk),gQ n x→RV (E k t ar)=true→K6 l i (aW (wE n) x++ws)→∃ d t1 a b e,l[i]? = some (tk d t1 a b e)∧(RV (E k t ar)=false→d≠3∨t1=[40]∨t1=[123]):=by
   intro x ws r q h1;have h1:=(L6.1 h1).1;unfold aW at h1
   cases hop:RV x with
   |true=>rw [hop] at h1;obtain⟨⟨a,b,e,o⟩,_⟩:=h1;exact⟨_,_,a,b,e,o,fun h=>by rw [q] at h;cases h⟩
   |false=>rw [hop] at h1;obtain⟨d,t1,a,b,e,p,_⟩:=JN n x r i h1;exact⟨d,t1,a,b,e,p,fun h=>by rw [q] at h;cases h⟩
  rcases s with ⟨rfl,_,hm⟩|⟨rfl,_,hm⟩|⟨rfl,_,hm⟩|⟨rfl,_,hm⟩|⟨rfl,_,hm⟩|⟨rfl,_,hm,g⟩|⟨rfl,_,hm,g⟩|⟨rfl,_,hm⟩|⟨rfl,_,hm⟩|⟨rfl,_,hm,g⟩
  ·exact one 2 t [] c fun _=> .inl (by decide)
  ·exact one 1 t [] c fun _=> .inl (by decide)
  ·exact one 3 t _ c fun h=>by cases h
  ·match ar,hm,f,arg,c with
   |[x,y],_,f,arg,c=>exact arg x _ (f x (by simp)) rfl c
  ·match ar,hm,f,arg,c with
   |[x,y,z],_,f,arg,c=>exact arg x _ (f x (by simp)) rfl c
  ·exact one 3 [123] _ c fun _=> .inr (.inr rfl)
  ·exact one 3 [123] _ c fun _=> .inr (.inr rfl)
  ·exact one 1 t _ c fun _=> .inl (by decide)
  ·exact one 1 t _ c fun _=> .inl (by decide)
  ·exact one 1 t _ c fun _=> .inl (by decide)
omit hl in
def UD {n:Nat}{x:D}(h:gQ n x){i:Nat}(c:K6 l i (aW (wE n) x)):∃ k t a b e,l[i]? = some (tk k t a b e)∧(k≠3∨t=[40]∨t=[123]):=by
 unfold aW at c
 cases hop:RV x with
 |true=>rw [hop] at c;obtain⟨⟨a,b,e,d⟩,_⟩:=c;exact⟨_,_,a,b,e,d,.inr (.inl rfl)⟩
 |false=>rw [hop] at c;obtain⟨f,t1,a,b,e,g,d⟩:=JN n x h i c;exact⟨f,t1,a,b,e,g,d hop⟩
def Core (l:List D)(n:Nat)(x:D):Prop:=∀ i,K6 l i (wE n x)→
 (RV x=false→Nx l (i+(wE n x).length) cu→Ph wB l i (wE n x).length (Sm n x) (HX n-1))∧(Nx l (i+(wE n x).length) cl→Ph pG l i (wE n x).length (Sm n x) (HX n))
def Us {n:Nat}{x:D}(g:gQ n x)(H:Core l n x){i:Nat}(c:K6 l i (aW (wE n) x))(d:Nx l (i+(aW (wE n) x).length) cu):Ph Gr l i (aW (wE n) x).length (Sm n x) (HX n):=by
 have j:=UD g c;refine IL (fun y=>fK) j ?_;unfold aW at c d ⊢
 cases hop:RV x with
 |true=>rw [hop] at c d;have c:(∃ a b e,l[i]? = some (tk 3 [40] a b e))∧K6 l (i+1) (wE n x++[(3,[41])]):=c;obtain⟨h1,q⟩:=c;obtain⟨p,o⟩:=L6.1 q;obtain⟨f,_⟩:=o;have k:=f;obtain⟨a,b,e,m⟩:=f;exact (Mc hl (fun y=>fK) h1 ((H (i+1) p).2 ⟨[41],a,b,e,m,rfl⟩) k).cast (by show 1+(wE n x).length+1=([(3,[40])]++(wE n x++[(3,[41])])).length;simp only [G0];omega)
 |false=>rw [hop] at c d;exact ((H i c).1 hop d).mono (fun _ h=>h) (by omega)
omit hl in
def xA {i m:Nat}{R:D→Prop}{h:Nat}(hl:l.length≤1000000)(c:∀ y,R y→GA y)(d:∃ k t a b e,l[i]? = some (tk k t a b e))(f:Nx l (i+m) cl)(H:Ph Gr l i m R h):Ph pG l i m R (h+1):=Hz hl c d f (vW c f d 10 0 (by decide) (fun t g=>GM g _) (uX c H))
end
end
end Go.Proofs.YtalibicpmfbieaaGreatDoor
