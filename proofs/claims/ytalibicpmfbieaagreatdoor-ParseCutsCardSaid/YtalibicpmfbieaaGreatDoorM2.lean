import Derived.Test.YtalibicpmfbieaaGreatDoorM1
namespace Go.Proofs.YtalibicpmfbieaaGreatDoor
open Go.AE
open IntKind (i64 u64)
set_option linter.all false
section
def Bo (G:Bool×List D→Prop)(L l:List D)(lv dd:Prop)(K:List D→Nat→Out)(n:Nat)(P Zq:(List D→Bool×List D)→Prop):Prop:=
 (lv→∀ r,K L n=some r→G r→U (K l) fun a=>(∃ f,P f∧r=f L∧a=f l)∨∃ f,Zq f∧a=f l)∧(dd→U (K l) fun a=>∃ f,Zq f∧a=f l)
def fl (b:Bool)(P:(List D→List D)→Prop)(f:List D→Bool×List D):Prop:=∃ g,P g∧f=fun x=>(b,g x)
abbrev zC (L l:List D)(lv dd:Prop)(K:List D→Nat→Out)(n:Nat)(b:Bool)(P Zq:(List D→List D)→Prop):Prop:=Bo (fun _=>True) L l lv dd K n (fl b P) (fl b Zq)
section
variable {G:Bool×List D→Prop} {L l:List D} {lv dd lv' dd':Prop} {n:Nat} {b:Bool} {P Zq:(List D→Bool×List D)→Prop} {Pg Zg:(List D→List D)→Prop}
def nB (k:IntKind)(n:Int):(D.int k n).i=n:=rfl
def oC (t:G1):(D.str t).s=t:=rfl
def jH (b:Bool):(D.bool b).b=b:=rfl
def mM (k:Nat)(t:List D):(D.Z k t).l=t:=rfl
def jG (cs:List D)(j:Nat):(D.agg cs).at_ j=(cs[j]?).getD .top:=rfl
def Y0 {r:Out}{k:List D→Out}{q:Bool×List D}(h:AE.J3 r k=some q):∃ ds,r=some (true,ds)∧k ds=some q:=by
 unfold AE.J3 at h;split at h
 ·exact⟨_,rfl,h⟩
 ·cases h
def aW5 {t:Nat→Out}{P:Bool×List D→Prop}(h:U t P):∃ r,P r∧U t (fun x=>x=r):=by obtain⟨r,h1,N,a⟩:=h;exact⟨r,h1,r,rfl,N,a⟩
def JB {r:Out}{k:List D→Out}{q:Bool×List D}(h:AE.gM r k=some q):(∃ ds,r=some (true,ds)∧q=(true,ds))∨∃ ds,r=some (false,ds)∧k ds=some q:=by
 unfold AE.gM at h;split at h
 ·exact .inl ⟨_,rfl,(Option.some.inj h).symm⟩
 ·exact .inr ⟨_,rfl,h⟩
 ·cases h
def Bo.WD {u:Bool×List D→Prop}{g:List D→Nat→Out}{k:List D→List D→Nat→Out}(s:Bo u L l lv dd g n (fl true Pg) (fl true Zg))(y:∀ ds r,lv→k L ds n=some r→G r→u (true,ds))(p:∀ f,Bo G L l (lv∧Pg f) (Zg f) (fun x n=>k x (f x) n) n P Zq):Bo G L l lv dd (fun x n=>AE.J3 (g x n) fun ds=>k x ds n) n P Zq:=by
 refine⟨fun hl r v j=>?_,fun w=>?_⟩
 ·obtain⟨ds,h1,t⟩:=Y0 v;refine H6 (s.1 hl _ h1 (y ds r hl t j)) fun b' q h=>?_;rcases h with ⟨_,⟨f,a,rfl⟩,e1,o⟩|⟨_,⟨f,a,rfl⟩,o⟩
  ·cases o;have e1:=congrArg Prod.snd e1;subst e1;exact⟨rfl,(p f).1 ⟨hl,a⟩ r t j⟩
  ·cases o;exact⟨rfl,((p f).2 a).mono fun z h=> .inr h⟩
 ·refine H6 (s.2 w) fun b' q h=>?_;obtain⟨_,⟨f,a,rfl⟩,o⟩:=h;cases o;exact⟨rfl,(p f).2 a⟩
def Bo.J3 {g:List D→Nat→Out}{k:List D→List D→Nat→Out}(h:zC L l lv dd g n true Pg Zg)(a:∀ f,Bo G L l (lv∧Pg f) (Zg f) (fun x n=>k x (f x) n) n P Zq):Bo G L l lv dd (fun x n=>AE.J3 (g x n) fun ds=>k x ds n) n P Zq:=Bo.WD h (fun _ _ _ _ _=>trivial) a
def Bo.Eg {v:Bool×List D→Prop}{g:List D→Nat→Out}{k:List D→List D→Nat→Out}(t:Bo v L l lv dd g n (fl false Pg) (fl false Zg))(A:∀ ds r,lv→k L ds n=some r→G r→v (false,ds))(u:∀ ds,lv→G (true,ds)→v (true,ds))(q:∀ f,Bo G L l (lv∧Pg f) (Zg f) (fun x n=>k x (f x) n) n P Zq):Bo G L l lv dd (fun x n=>AE.gM (g x n) fun ds=>k x ds n) n P Zq:=by
 refine⟨fun hl r y p=>?_,fun z=>?_⟩
 ·rcases JB y with ⟨ds,h1,s⟩|⟨ds,h1,s⟩
  ·subst s;refine L4 (t.1 hl _ h1 (u ds hl p)) (fun a h=>?_) fun a h=>?_
   ·rcases h with ⟨_,⟨f,_,rfl⟩,e1,_⟩|⟨_,⟨f,_,rfl⟩,e1⟩<;>cases e1
   ·rcases h with ⟨_,⟨f,_,rfl⟩,e1,_⟩|⟨_,⟨f,o,rfl⟩,j⟩
    ·cases e1
    ·cases j;exact ((q f).2 o).mono fun w h=> .inr h
  ·refine L4 (t.1 hl _ h1 (A ds r hl s p)) (fun a h=>?_) fun a h=>?_
   ·rcases h with ⟨_,⟨f,_,rfl⟩,_,j⟩|⟨_,⟨f,_,rfl⟩,j⟩<;>cases j
   ·rcases h with ⟨_,⟨f,o,rfl⟩,e1,j⟩|⟨_,⟨f,o,rfl⟩,j⟩
    ·cases j;have e1:=congrArg Prod.snd e1;subst e1;exact (q f).1 ⟨hl,o⟩ r s p
    ·cases j;exact ((q f).2 o).mono fun w h=> .inr h
 ·refine L4 (t.2 z) (fun a h=>?_) fun a h=>?_
  ·obtain⟨_,⟨f,_,rfl⟩,e⟩:=h;cases e
  ·obtain⟨_,⟨f,o,rfl⟩,e⟩:=h;cases e;exact (q f).2 o
def Bo.gM {g:List D→Nat→Out}{k:List D→List D→Nat→Out}(h:zC L l lv dd g n false Pg Zg)(a:∀ f,Bo G L l (lv∧Pg f) (Zg f) (fun x n=>k x (f x) n) n P Zq):Bo G L l lv dd (fun x n=>AE.gM (g x n) fun ds=>k x ds n) n P Zq:=Bo.Eg h (fun _ _ _ _ _=>trivial) (fun _ _ _=>trivial) a
def Bo.aA5 {g:List D→Nat→Out}{k:List D→List D→Nat→Out}{Pq s:(List D→Bool×List D)→Prop}(z:Bo (fun _=>True) L l lv dd g n Pq s)(h1:∀ f,Pq f→∃ (c:Bool) (h:List D→List D),f=fun x=>(c,h x))(A:∀ f,s f→∃ (c:Bool) (h:List D→List D),f=fun x=>(c,h x)) (B:∀ h:List D→List D,lv→Pq (fun x=>(true,h x))→P fun x=>(true,h x)) (t:∀ h:List D→List D,s (fun x=>(true,h x))→Zq fun x=>(true,h x)) (y:∀ h:List D→List D,Bo G L l (lv∧Pq fun x=>(false,h x)) (s fun x=>(false,h x)) (fun x n=>k x (h x) n) n P Zq):Bo G L l lv dd (fun x n=>AE.gM (g x n) fun ds=>k x ds n) n P Zq:=by
 have dead:U (g l) (fun p=>∃ f,s f∧p=f l)→U (fun n=>AE.gM (g l n) fun ds=>k l ds n) fun p=>∃ f,Zq f∧p=f l:=fun E=>by
  refine L4 E (fun j h=>?_) fun j h=>?_
  ·obtain⟨f,a,e⟩:=h;obtain⟨c,h,rfl⟩:=A f a;cases e;exact⟨_,t h a,rfl⟩
  ·obtain⟨f,a,e⟩:=h;obtain⟨c,h,rfl⟩:=A f a;cases e;exact (y h).2 a
 refine⟨fun hl r o u=>?_,fun F=>dead (z.2 F)⟩;obtain⟨q,w⟩:∃ q,g L n=some q:=by
  rcases JB o with ⟨ds,h,_⟩|⟨ds,h,_⟩
  ·exact⟨_,h⟩
  ·exact⟨_,h⟩
 obtain⟨J,H,E⟩:=aW5 (z.1 hl q w trivial);rcases H with ⟨f,a,e1,v⟩|⟨f,a,v⟩
 ·obtain⟨c,h,rfl⟩:=h1 f a;subst e1 v;have o:(AE.gM (g L n) fun ds=>k L ds n)=some r:=o;rw [w] at o
  cases c with
  |true=>have I:r=(true,h L):=(Option.some.inj o).symm;exact L4 E (fun j h'=>by cases h';exact .inl ⟨_,B h hl a,I,rfl⟩) fun j h'=>by cases h'
  |false=>exact L4 E (fun j h'=>by cases h') fun j h'=>by cases h';exact (y h).1 ⟨hl,a⟩ r o u
 ·exact (dead (E.mono fun p h=>⟨f,a,h.trans v⟩)).mono fun p h=> .inr h
def Bo.eq {K f:List D→Nat→Out}(a:∀ x n,K x (n+1)=f x n)(h:Bo G L l lv dd f n P Zq):Bo G L l lv dd K (n+1) P Zq:=⟨fun hl r g k=>I5 (fun n=>a l n) (h.1 hl r (by rw [← a];exact g) k),fun j=>I5 (fun n=>a l n) (h.2 j)⟩
def Bo.df {K a:List D→Nat→Out}(f:∀ x n,K x n=a x n)(h:Bo G L l lv dd a n P Zq):Bo G L l lv dd K n P Zq:=by have:K=a:=funext fun x=>funext fun n=>f x n;rw [this];exact h
def Bo.fW {K:List D→Nat→Out}(h1:lv→lv')(f:dd→dd')(h:Bo G L l lv' dd' K n P Zq):Bo G L l lv dd K n P Zq:=⟨fun hl=>h.1 (h1 hl),fun a=>h.2 (f a)⟩
def Bo.start {K:List D→Nat→Out}(h:Bo G L l lv False K n P Zq)(g:dd→U (K l) fun a=>∃ f,Zq f∧a=f l):Bo G L l lv dd K n P Zq:=⟨h.1,g⟩
def Bo.fact {φ:Prop}{K:List D→Nat→Out}(a:lv→φ)(h:Bo G L l (lv∧φ) dd K n P Zq):Bo G L l lv dd K n P Zq:=h.fW (fun hl=>⟨hl,a hl⟩) id
def Bo.live {K:List D→Nat→Out}(h:lv→Bo G L l lv False K n P Zq):Bo G L l lv False K n P Zq:=⟨fun hl=>(h hl).1 hl,fun h=>h.elim⟩
def Bo.ite {c:Bool}{X Yq:List D→Nat→Out}(a:c=true→Bo G L l lv dd X n P Zq)(f:c=false→Bo G L l lv dd Yq n P Zq):Bo G L l lv dd (fun x n=>bif c then X x n else Yq x n) n P Zq:=by
 cases c with
 |true=>exact a rfl
 |false=>exact f rfl
def Bo.cT {c:List D→Bool}{X Yq:List D→Nat→Out}(a:∀ x,c x=true)(h:Bo G L l lv dd X n P Zq):Bo G L l lv dd (fun x n=>bif c x then X x n else Yq x n) n P Zq:=by
 have:(fun x n=>bif c x then X x n else Yq x n)=X:=funext fun x=>funext fun n=>by rw [a];rfl
 rw [this];exact h
def Bo.no {c:List D→Bool}{X Yq:List D→Nat→Out}(a:∀ x,c x=false)(h:Bo G L l lv dd Yq n P Zq):Bo G L l lv dd (fun x n=>bif c x then X x n else Yq x n) n P Zq:=by
 have:(fun x n=>bif c x then X x n else Yq x n)=Yq:=funext fun x=>funext fun n=>by rw [a];rfl
 rw [this];exact h
def aX7 {X Yq:List D→Nat→Out}(h:Bo G L l lv dd X n P Zq):Bo G L l lv dd (fun x n=>bif true then X x n else Yq x n) n P Zq:=h
def aX9 {X Yq:List D→Nat→Out}(h:Bo G L l lv dd Yq n P Zq):Bo G L l lv dd (fun x n=>bif false then X x n else Yq x n) n P Zq:=h
def Bo.LB {c:Bool}{X:List D→Nat→Out}(f:dd→c=true)(h:c=true→Bo G L l lv dd X n P Zq):Bo G L l lv dd (fun x n=>bif c then X x n else none) n P Zq:=by
 cases c with
 |true=>exact h rfl
 |false=>exact⟨fun hl r a _=>(by cases a),fun h=>absurd (f h) (by decide)⟩
def Bo.post {K:List D→Nat→Out}{k j:(List D→Bool×List D)→Prop}(h:Bo G L l lv dd K n k j)(hp:∀ f,lv→k f→P f)(g:∀ f,j f→Zq f):Bo G L l lv dd K n P Zq:=⟨fun hl r p s=>(h.1 hl r p s).mono fun o h=>h.imp (fun ⟨f,a,e⟩=>⟨f,hp f hl a,e⟩) fun ⟨f,a,e⟩=>⟨f,g f a,e⟩,fun q=>(h.2 q).mono fun o ⟨f,a,e⟩=>⟨f,g f a,e⟩⟩
def Bo.ret {K:List D→Nat→Out}{f:List D→List D}(g:∀ x n,K x n=some (b,f x))(h1:lv→Pg f)(j:dd→Zg f):Bo G L l lv dd K n (fl b Pg) (fl b Zg):=by have:K=fun x _=>some (b,f x):=funext fun x=>funext fun n=>g x n;rw [this];exact⟨fun hl r a _=>H8 (.inl ⟨_,⟨f,h1 hl,rfl⟩,(Option.some.inj a).symm,rfl⟩),fun h=>H8 ⟨_,⟨f,j h,rfl⟩,rfl⟩⟩
def Bo.not {K:List D→Nat→Out}(h:lv→∀ r,K L n=some r→G r→False):Bo G L l lv False K n P Zq:=⟨fun hl r a f=>(h hl r a f).elim,fun h=>h.elim⟩
def Bo.any {K:List D→Nat→Out}(h:Bo (fun _=>True) L l lv dd K n P Zq):Bo G L l lv dd K n P Zq:=⟨fun hl r a _=>h.1 hl r a trivial,h.2⟩
def XD {t:Nat→Out}{b:Bool}(h:U t fun a=>∃ f,Zg f∧a=(b,f l)):U t fun a=>∃ f,fl b Zg f∧a=f l:=h.mono fun a ⟨f,g,e⟩=>⟨_,⟨f,g,rfl⟩,e⟩
def zC.mk {K:List D→Nat→Out}{b:Bool}(h1:lv→∀ r,K L n=some r→U (K l) fun a=>(∃ f,Pg f∧r=(b,f L)∧a=(b,f l))∨∃ f,Zg f∧a=(b,f l))(o:dd→U (K l) fun a=>∃ f,Zg f∧a=(b,f l)):zC L l lv dd K n b Pg Zg:=⟨fun hl r j _=>(h1 hl r j).mono fun a h=>h.imp (fun ⟨f,g,e1,p⟩=>⟨_,⟨f,g,rfl⟩,e1,p⟩) fun ⟨f,g,e⟩=>⟨_,⟨f,g,rfl⟩,e⟩,fun k=>XD (o k)⟩
end
structure Cx (L l:List D) (m:Int):Prop where
 wd:aK5 L
 le:L.length≤1000000
 hl:∃ q:Nat,(q:Int)=m∧l=L.take q
 hm:m<L.length
 h1:1≤m
section
variable {L l:List D} {m:Int}
def Cx.m0 (C:Cx L l m):m≤1000000:=by have:=C.le;have:=C.hm;omega
def Cx.len (C:Cx L l m):(l.length:Int)=m:=by obtain⟨q,h1,rfl⟩:=C.hl;have:=C.hm;rw [D7];omega
def Cx.tl (C:Cx L l m):aK5 l:=by obtain⟨q,_,rfl⟩:=C.hl;exact fun y a=>C.wd y (List.mem_of_mem_take a)
def Cx.get (C:Cx L l m){i:Nat}(h:(i:Int)<m):l[i]? = L[i]?:=by obtain⟨q,a,rfl⟩:=C.hl;rw [List.getElem?_take,if_pos (by omega)]
def Cx.dd (C:Cx L l m){i:Nat}{e:Int}(h:e≠0∨m≤i):Dd l i e:=⟨C.tl,by have:=C.m0;have:=C.len;omega,by have:=C.len;rcases h with h|h;exact .inl h;exact .inr (by omega)⟩
def Cx.tok (C:Cx L l m){i:Nat}(h:(i:Int)≤m):∃ k t a b g,L[i]? = some (tk k t a b g):=by
 have:=C.hm;have f:i<L.length:=by omega
 obtain⟨k,t,a,b,g,h⟩:=C.wd _ (C6 f);exact⟨k,t,a,b,g,by rw [C2 f,h]⟩
end
section
variable {G:Bool×List D→Prop} {L l:List D} {m:Int} (C:Cx L l m) {lv dd:Prop} {n:Nat} {P Zq:(List D→Bool×List D)→Prop} {i d c O V W e:Int} {K:List D→List D→Nat→Out}
def aN9 (h:L.length≤1000000){i:Nat}{k:Int}{t:G1}{a b g:Int}(o:L[i]? = some (tk k t a b g)){r:Bool×List D}(f:J8 n (.Z 5 L) (i:Int) d c O V W (0:Int)=some r) :r=(true,[tk k t a b g,.Z 5 L,iD (i:Int),iD d,iD c,iD O,iD V,iD W,iD 0]):=by
 cases n with
 |zero=>cases f
 |succ n=>
  have j:i<L.length:=by
   by_cases h:i<L.length
   ·exact h
   ·rw [List.getElem?_eq_none (by omega)] at o;cases o
  have p:ix L ((i:Nat):Int)=tk k t a b g:=by rw [ix,E1,o];rfl
  rw [kL] at f;have f:aX n (decide ((i:Int)≥(L.length:Int))) L i d c O V W 0=some r:=f;rw [aY0,aX.eq_1,P1 j,p] at f;exact (Option.some.inj f).symm
def Yq {x:List D}(f:e≠0){r:Bool×List D}(a:J8 n (.Z 5 x) i d c O V W e=some r):r=(true,[tk 0 [] 0 0 0,.Z 5 x,iD i,iD d,iD c,iD O,iD V,iD W,iD e]):=by
 cases n with
 |zero=>cases a
 |succ n=>
  have f:(e !=0)=true:=by simpa using f
  rw [kL,f] at a;have a:aX n true x i d c O V W e=some r:=a;rw [aX.eq_1] at a;exact (Option.some.inj a).symm
include C
def ZS (h1:lv→0≤i∧i≤m)(A:dd→i=m∧(e=0∨e=6∧O=((K3 l).at_ 2).i∧V=((K3 l).at_ 3).i∧W=((K3 l).at_ 4).i))(s:∀ (k:Int) (t:G1) (a b' g:Int),(e=0→i<m→L[i.toNat]? = some (tk k t a b' g))→Bo G L l (lv∧(k≠0→i<m∧e=0)∧(0<(t.length:Int)→i<m∧e=0)) ((i=m∧(e=0∨e=6∧O=((K3 l).at_ 2).i∧V=((K3 l).at_ 3).i∧W=((K3 l).at_ 4).i))∧k=0∧(t.length:Int)=0) (fun x n=>K x [tk k t a b' g,.Z 5 x,iD i,iD d,iD c,iD O,iD V,iD W,iD e] n) n P Zq) :Bo G L l lv dd (fun x n=>AE.J3 (J8 n (.Z 5 x) i d c O V W e) fun ds=>K x ds n) n P Zq:=by
 have dead:∀ (j:Nat),(j:Int)=i→(e≠0∨m≤j)→U (fun n=>J8 n (.Z 5 l) i d c O V W e) fun r=>r=(true,[tk 0 [] 0 0 0,.Z 5 l,iD i,iD d,iD c,iD O,iD V,iD W,iD e]):=by rintro j rfl h;exact OZ (C.dd h) d c O V W
 have w:zC L l lv dd (fun x n=>J8 n (.Z 5 x) i d c O V W e) n true (fun f=>∃ k t a b' g,f=(fun x=>[tk k t a b' g,.Z 5 x,iD i,iD d,iD c,iD O,iD V,iD W,iD e])∧(e=0→i<m→L[i.toNat]? = some (tk k t a b' g))∧(k≠0→i<m∧e=0)∧(0<(t.length:Int)→i<m∧e=0)) (fun f=>f=(fun x=>[tk 0 [] 0 0 0,.Z 5 x,iD i,iD d,iD c,iD O,iD V,iD W,iD e])∧(i=m∧(e=0∨e=6∧O=((K3 l).at_ 2).i∧V=((K3 l).at_ 3).i∧W=((K3 l).at_ 4).i))):=by
  refine zC.mk (fun hl r q=>?_) fun y=>?_
  ·obtain⟨u,z⟩:=h1 hl;obtain⟨j,rfl⟩:∃ j:Nat,i=(j:Int):=⟨i.toNat,by omega⟩;by_cases he:e=0
   ·subst he;obtain⟨k,t,a,b',g,o⟩:=C.tok (i:=j) z;have e1:=aN9 C.le o q;subst e1;by_cases hjm:(j:Int)<m
    ·exact (BO (l:=l) (by rw [C.get hjm];exact o)).mono fun p h=> .inl ⟨_,⟨k,t,a,b',g,rfl,fun _ _=>o,fun _=>⟨hjm,rfl⟩,fun _=>⟨hjm,rfl⟩⟩,rfl,h⟩
    ·exact (dead j rfl (.inr (by omega))).mono fun p h=> .inr ⟨_,⟨rfl,by omega,.inl rfl⟩,h⟩
   ·have e1:=Yq he q;subst e1;exact (dead j rfl (.inl he)).mono fun p h=> .inl ⟨_,⟨0,[],0,0,0,rfl,fun h=>absurd h he,fun h=>absurd rfl h,fun h=>absurd h (by decide)⟩,rfl,h⟩
  ·have u:=A y;have:=C.h1;obtain⟨j,o⟩:∃ j:Nat,(j:Int)=i:=⟨i.toNat,by omega⟩;exact (dead j o (.inr (by omega))).mono fun p h=>⟨_,⟨rfl,u⟩,h⟩
 refine Bo.J3 w fun f=>⟨?_,?_⟩
 ·rintro ⟨hl,k,t,a,b',g,rfl,v,hh⟩;exact (s k t a b' g v).1 ⟨hl,hh⟩
 ·rintro ⟨rfl,hh⟩;exact (s 0 [] 0 0 0 fun _ h=>absurd hh.1 (by omega)).2 ⟨hh,rfl,rfl⟩
def aL0 {w:G1}(o:0<w.length)(h1:lv→0≤i∧i≤m)(E:dd→i=m∧(e=0∨e=6∧O=((K3 l).at_ 2).i∧V=((K3 l).at_ 3).i∧W=((K3 l).at_ 4).i))(u:Bo G L l (lv∧i<m∧e=0) False (fun x n=>K x [.bool true,.Z 5 x,iD i,iD d,iD c,iD O,iD V,iD W,iD e] n) n P Zq)(s:Bo G L l lv (i=m∧(e=0∨e=6∧O=((K3 l).at_ 2).i∧V=((K3 l).at_ 3).i∧W=((K3 l).at_ 4).i)) (fun x n=>K x [.bool false,.Z 5 x,iD i,iD d,iD c,iD O,iD V,iD W,iD e] n) n P Zq) :Bo G L l lv dd (fun x n=>AE.J3 (L5 n (.str w) (.Z 5 x) i d c O V W e) fun ds=>K x ds n) n P Zq:=by
 have z:zC L l lv dd (fun x n=>L5 n (.str w) (.Z 5 x) i d c O V W e) n true (fun f=>(f=(fun x=>[.bool true,.Z 5 x,iD i,iD d,iD c,iD O,iD V,iD W,iD e])∧i<m∧e=0)∨f=(fun x=>[.bool false,.Z 5 x,iD i,iD d,iD c,iD O,iD V,iD W,iD e])) (fun f=>f=(fun x=>[.bool false,.Z 5 x,iD i,iD d,iD c,iD O,iD V,iD W,iD e])∧(i=m∧(e=0∨e=6∧O=((K3 l).at_ 2).i∧V=((K3 l).at_ 3).i∧W=((K3 l).at_ 4).i))):=by
  have dead:dd→U (fun n=>L5 n (.str w) (.Z 5 l) i d c O V W e) fun q=>∃ f:List D→List D,(f=(fun x=>[.bool false,.Z 5 x,iD i,iD d,iD c,iD O,iD V,iD W,iD e])∧(i=m∧(e=0∨e=6∧O=((K3 l).at_ 2).i∧V=((K3 l).at_ 3).i∧W=((K3 l).at_ 4).i)))∧q=(true,f l):=fun A=>by (have B:=E A;have:=C.h1;obtain⟨j,rfl⟩:∃ j:Nat,i=(j:Int):=⟨i.toNat,by omega⟩;have o:([]==w)=false:=by cases w with|nil=>exact absurd o (by decide)|cons _ _=>rfl);exact (WQ o (C.dd (.inr (by omega))) d c O V W).mono fun q h=>⟨_,⟨rfl,B⟩,h⟩
  cases n with
  |zero=>exact zC.mk (fun hl r v=>(by cases v)) dead
  |succ n=>
   refine Bo.start (Bo.eq (fun x n=>lR n w x i d c O V W e) (ZS C h1 (fun h=>h.elim) fun k t a b' g _=>?_)) (fun h=>XD (dead h));(dsimp +instances only [Y,tk,jG,List.getElem?_cons_zero,List.getElem?_cons_succ,Option.getD_some,nB,oC,jH,mM,List.cons_append,List.nil_append];refine aX7 ?_);refine Bo.ite (fun p=>?_) fun _=>Bo.ret (fun _ _=>rfl) (fun _=> .inr rfl) fun h=>⟨rfl,h.1⟩;have p:t=w:=eq_of_beq p;subst p;refine Bo.fW (lv':=lv∧i<m∧e=0) (dd':=False) (fun h=>by have:=h1 h.1;exact⟨h.1,by omega⟩) (fun h=>by omega) ?_;refine Bo.live fun y=>ZS C (fun h=>h1 h.1) (fun h=>h.elim) fun k t a b' g _=>?_;(dsimp +instances only [Y,tk,jG,List.getElem?_cons_zero,List.getElem?_cons_succ,Option.getD_some,nB,oC,jH,mM,List.cons_append,List.nil_append];refine aX7 ?_);refine Bo.ret (f:=fun x=>[.bool (k !=2),.Z 5 x,iD i,iD d,iD c,iD O,iD V,iD W,iD e]) (fun _ _=>rfl) (fun h=>?_) fun h=>by omega
   cases (k !=2) with
   |true=>exact .inl ⟨rfl,y.2⟩
   |false=>exact .inr rfl
 refine Bo.J3 z fun f=>⟨?_,?_⟩
 ·rintro ⟨hl,⟨rfl,hh⟩|rfl⟩
  ·exact u.1 ⟨hl,hh⟩
  ·exact s.1 hl
 ·rintro ⟨rfl,hh⟩;exact s.2 hh
end
end
section
section
variable {G:Bool×List D→Prop} {L l:List D} {m:Int} {lv dd:Prop} {n:Nat} {P Zq:(List D→Bool×List D)→Prop} {i d c O V W e:Int} {K:List D→List D→Nat→Out}
def Sp (L l:List D)(m q z:Int)(p:List D→List D→Prop)(F:PF)(n:Nat):Prop:=∀ i d c O V W e:Int,zC L l (0≤i∧i≤m) (i=m∧(e=0∨e=6∧O=((K3 l).at_ 2).i∧V=((K3 l).at_ 3).i∧W=((K3 l).at_ 4).i)) (fun x n=>F n (.Z 5 x) i d c O V W e) n true
 (fun f=>∃ (pre a:List D) (k o c' h g b j:Int),f=(fun x=>pre++([.Z 5 x,iD k,iD o,iD c',iD h,iD g,iD b,iD j]++a))∧p pre a∧i≤k∧k≤m∧(e≠0→j≠0)∧(j=0→i+q≤k))
 (fun f=>∃ (pre a:List D) (k o c' h g b j:Int),f=(fun x=>pre++([.Z 5 x,iD k,iD o,iD c',iD h,iD g,iD b,iD j]++a))∧p pre a∧(k=m∧(j=0∨j=6∧h=((K3 l).at_ 2).i∧g=((K3 l).at_ 3).i∧b=((K3 l).at_ 4).i))∧(z=1→j≠0))
def aA1 {r z:Int}{t:List D→List D→Prop}{F:PF}(h:Sp L l m r z t F n)(h1:lv→0≤i∧i≤m)(u:dd→i=m∧(e=0∨e=6∧O=((K3 l).at_ 2).i∧V=((K3 l).at_ 3).i∧W=((K3 l).at_ 4).i)) (s:∀ (pre a:List D) (o p c' j g b k:Int),t pre a→Bo G L l (lv∧i≤o∧o≤m∧(e≠0→k≠0)∧(k=0→i+r≤o)) ((o=m∧(k=0∨k=6∧j=((K3 l).at_ 2).i∧g=((K3 l).at_ 3).i∧b=((K3 l).at_ 4).i))∧(z=1→k≠0)) (fun x n=>K x (pre++([.Z 5 x,iD o,iD p,iD c',iD j,iD g,iD b,iD k]++a)) n) n P Zq) :Bo G L l lv dd (fun x n=>AE.J3 (F n (.Z 5 x) i d c O V W e) fun ds=>K x ds n) n P Zq:=by
 refine Bo.J3 ((h i d c O V W e).fW h1 u) fun f=>⟨?_,?_⟩
 ·rintro ⟨hl,pre,a,o,p,c',j,g,b,k,rfl,q,hh⟩;exact (s pre a o p c' j g b k q).1 ⟨hl,hh⟩
 ·rintro ⟨pre,a,o,p,c',j,g,b,k,rfl,q,hh⟩;exact (s pre a o p c' j g b k q).2 hh
def f0 (pre a:List D):Prop:=pre=[]∧a=[]
def OF {g:Nat→Out}{ds:List D}(j:∀ r,g n=some r→r=(true,ds))(b:U g fun r=>r=(true,ds))(f:Bo G L l lv dd (fun x n=>K x ds n) n P Zq):Bo G L l lv dd (fun x n=>AE.J3 (g n) fun ds=>K x ds n) n P Zq:=by
 refine⟨fun hl r k p=>?_,fun o=>?_⟩
 ·obtain⟨a,h1,q⟩:=Y0 k;cases j _ h1;refine H6 b fun b' a h=>?_;cases h;exact⟨rfl,f.1 hl r q p⟩
 ·refine H6 b fun b' a h=>?_;cases h;exact⟨rfl,f.2 o⟩
def EU {s t:G1}{r:Bool×List D}(a:s.length≤4294967280)(h:strings_Contains n (.str s) (.str t)=some r):r=(true,[.bool (decide (0≤bZ t s 0))]):=by
 cases n with
 |zero=>cases h
 |succ n=>have e:strings_Contains (n+1) (.str s) (.str t)=some (true,[D.bool (decide (0≤bZ t s 0))]):=sM n _ _ _ (by show (bif Nat.ble s.length 4294967280 then some [D.bool (decide (0≤bZ t s 0))] else none)=_;rw [B2 (by omega)];rfl);rw [e] at h;exact (Option.some.inj h).symm
def kD (t:G1):G1:=bif t==[94,126] then [126,94] else t
def Jb (t:G1):U (fun n=>gG n (.str t)) fun r=>r=(true,[.str (kD t)]):=by refine I5 (fun n=>qH n t) (K0 (fun h=>H8 ?_) fun h=>H8 ?_)<;>unfold kD<;>rw [h]<;>rfl
def Ja {t:G1}{r:Bool×List D}(h:gG n (.str t)=some r):r=(true,[.str (kD t)]):=by
 cases n with
 |zero=>cases h
 |succ n=>
  rw [qH] at h;unfold kD
  cases hc:(t==[94,126]) with
  |true=>rw [hc] at h;exact (Option.some.inj h).symm
  |false=>rw [hc] at h;exact (Option.some.inj h).symm
end
section
variable {G:Bool×List D→Prop} {L l:List D} {m:Int} (C:Cx L l m) {lv dd:Prop} {n:Nat} {P Zq:(List D→Bool×List D)→Prop} {i d c O V W e:Int} {K:List D→List D→Nat→Out}
def PJ {x:List D}{a b g k:Int}{r:Bool×List D}(h:M9 n (.agg [iD a,iD b,iD g]) k (.Z 5 x) i d c O V W e=some r):r=(true,bif e==0 then [.Z 5 x,iD i,iD d,iD c,iD a,iD b,iD g,iD k] else [.Z 5 x,iD i,iD d,iD c,iD O,iD V,iD W,iD e]):=by
 cases n with
 |zero=>cases h
 |succ n=>
  rw [nI] at h
  cases he:(e==0) with
  |true=>rw [he] at h;exact (Option.some.inj h).symm
  |false=>rw [he] at h;exact (Option.some.inj h).symm
def aL3 {x:List D}{j:Nat}{k:Int}{t:G1}{a b g:Int}(f:x[j]? = some (tk k t a b g)){r:Bool×List D}(h:S6 n (.Z 5 x) (j:Int) d c O V W e=some r) :r=(true,bif e==0 then [.Z 5 x,iD (j:Int),iD d,iD c,iD a,iD b,iD g,iD 5] else [.Z 5 x,iD (j:Int),iD d,iD c,iD O,iD V,iD W,iD e]):=by
 have q:=vY f;have p:ix x ((j:Nat):Int)=tk k t a b g:=by rw [ix,E1,f];rfl
 cases n with
 |zero=>cases h
 |succ n=>
  rw [hU,E6 (show (j:Int)<(x.length:Int) by omega),P1 (show j<x.length by omega),p] at h;obtain⟨ds,h1,o⟩:=Y0 (show AE.J3 (M9 n (.agg [iD a,iD b,iD g]) (5:Int) (.Z 5 x) (j:Int) d c O V W e) _=some r from h);have h1:=congrArg Prod.snd (PJ h1)
  cases he:(e==0) with
  |true=>rw [he] at h1;subst h1;exact (Option.some.inj o).symm
  |false=>rw [he] at h1;subst h1;exact (Option.some.inj o).symm
def aL4 {x:List D}{j:Nat}{k:Int}{t:G1}{a b g:Int}(h:x[j]? = some (tk k t a b g))(d c O V W e:Int):U (fun n=>S6 n (.Z 5 x) (j:Int) d c O V W e) fun r=>
  r=(true,bif e==0 then [.Z 5 x,iD (j:Int),iD d,iD c,iD a,iD b,iD g,iD 5] else [.Z 5 x,iD (j:Int),iD d,iD c,iD O,iD V,iD W,iD e]):=by
 have f:=vY h;have o:ix x ((j:Nat):Int)=tk k t a b g:=by rw [ix,E1,h];rfl
 refine I5 (fun n=>hU n ..) (I4 aX8 (I4 (P1 f) ?_));rw [o];refine J5 (J5 ?_);by_cases he:e=0
 ·subst he;refine M3 (XB a b g 5 j d c O V W) (H8 rfl)
 ·refine M3 (AX he a b g 5 j d c O V W) (H8 ?_);rw [F4.2 he];rfl
def Ya {x:List D}{j:Nat}(s:aK5 x)(hl:x.length≤1000000)(q:e≠0)(u:x.length≤j)(d c O V W:Int):U (fun n=>S6 n (.Z 5 x) (j:Int) d c O V W e) fun r=>
  r=(true,[.Z 5 x,iD (j:Int),iD d,iD c,iD O,iD V,iD W,iD e]):=by
 have J:∀ a b g:Int,U (fun n=>bY n a b g x j d c O V W e) fun r=>r=(true,[.Z 5 x,iD (j:Int),iD d,iD c,iD O,iD V,iD W,iD e]):=by intro a b g;refine (M3 (AX q a b g 6 j d c O V W) (H8 rfl))
 refine I5 (fun n=>hU n x j d c O V W e) (N8 aY0 ?_);by_cases h0:x.length=0
 ·exact N8 aY0 (J 0 0 0)
 ·have f:x.length-1<x.length:=by omega
  have o:i64.wrap ((x.length:Int)-1)=((x.length-1:Nat):Int):=by rw [Q3];omega
  obtain⟨k,t,a,b,g,p⟩:=s x[x.length-1] (C6 f);have h:ix x ((x.length-1:Nat):Int)=tk k t a b g:=by rw [bS f,p]
  refine I4 aX8 ?_;rw [o];refine I4 (P1 f) ?_;rw [h];exact J5 (J5 (J a b g))
include C
def Yx:Sp L l m 2000000 1 f0 (fun n=>S6 n) n:=by
 intro i d c O V W e;refine zC.mk (fun hl r w=>?_) fun y=>?_
 ·obtain⟨j,rfl⟩:∃ j:Nat,i=(j:Int):=⟨i.toNat,by omega⟩;have hm:=C.m0;obtain⟨k,t,a,b,g,v⟩:=C.tok (i:=j) hl.2;have e1:=aL3 v w;by_cases hjm:(j:Int)<m
  ·refine (aL4 (x:=l) (by rw [C.get hjm];exact v) d c O V W e).mono fun o h=> .inl ?_;by_cases he:e=0
   ·subst he;exact⟨_,⟨[],[],j,d,c,a,b,g,5,rfl,⟨rfl,rfl⟩,by omega⟩,e1,h⟩
   ·rw [F4.2 he] at e1 h;exact⟨_,⟨[],[],j,d,c,O,V,W,e,rfl,⟨rfl,rfl⟩,by omega⟩,e1,h⟩
  ·by_cases he:e=0
   ·subst he;refine (Ak (C.dd (i:=j) (e:=0) (.inr (by omega))) d c O V W).mono fun o ⟨u,c',q,p,q2,f,F,s,h⟩=> .inr ⟨_,⟨[],[],j,u,c',q,p,q2,f,rfl,⟨rfl,rfl⟩,⟨by omega,?_⟩,fun _=>s⟩,h⟩;rcases F.2 rfl with h|h
    ·exact .inl h
    ·exact .inr h
   ·rw [F4.2 he] at e1;have:=C.len;refine (Ya (x:=l) (j:=j) C.tl (by omega) he (by omega) d c O V W).mono fun o h=> .inl ⟨_,⟨[],[],j,d,c,O,V,W,e,rfl,⟨rfl,rfl⟩,by omega⟩,e1,h⟩
 ·have:=C.h1;obtain⟨j,rfl⟩:∃ j:Nat,i=(j:Int):=⟨i.toNat,by omega⟩;refine (Ak (C.dd (i:=j) (e:=e) (.inr (by omega))) d c O V W).mono fun o ⟨u,c',q,p,q2,f,F,s,h⟩=>⟨_,⟨[],[],j,u,c',q,p,q2,f,rfl,⟨rfl,rfl⟩,⟨by omega,?_⟩,fun _=>s⟩,h⟩;by_cases he:e=0
  ·rcases F.2 he with h|h
   ·exact .inl h
   ·exact .inr h
  ·obtain⟨rfl,rfl,rfl,rfl⟩:=F.1 he;exact y.2
end
end
section
section
variable {G:Bool×List D→Prop} {L l:List D} {m:Int} (C:Cx L l m) {lv dd:Prop} {n:Nat} {P Zq:(List D→Bool×List D)→Prop} {i d c O V W e:Int} {K:List D→List D→Nat→Out}
def aD5 {x:List D}{q:Int}{j:Nat}{k:Int}{t:G1}{a b g:Int}(o:x[j]? = some (tk k t a b g)){r:Bool×List D}(h:V9 n q (.Z 5 x) (j:Int) d c O V W e=some r) :r=(true,bif e==0 then [.Z 5 x,iD (j:Int),iD d,iD c,iD a,iD b,iD g,iD q] else [.Z 5 x,iD (j:Int),iD d,iD c,iD O,iD V,iD W,iD e]):=by
 have f:=vY o;have s:ix x ((j:Nat):Int)=tk k t a b g:=by rw [ix,E1,o];rfl
 cases n with
 |zero=>cases h
 |succ n=>
  rw [gC,E8 (show ¬ ((j:Int)≥(x.length:Int)) by omega),P1 f,s] at h;obtain⟨ds,h1,p⟩:=Y0 (show AE.J3 (M9 n (.agg [iD a,iD b,iD g]) q (.Z 5 x) (j:Int) d c O V W e) _=some r from h);have h1:=congrArg Prod.snd (PJ h1)
  cases he:(e==0) with
  |true=>rw [he] at h1;subst h1;exact (Option.some.inj p).symm
  |false=>rw [he] at h1;subst h1;exact (Option.some.inj p).symm
def aD6 {x:List D}{j:Nat}{k:Int}{t:G1}{a b g:Int}(h:x[j]? = some (tk k t a b g))(q d c O V W e:Int):U (fun n=>V9 n q (.Z 5 x) (j:Int) d c O V W e) fun r=>
  r=(true,bif e==0 then [.Z 5 x,iD (j:Int),iD d,iD c,iD a,iD b,iD g,iD q] else [.Z 5 x,iD (j:Int),iD d,iD c,iD O,iD V,iD W,iD e]):=by
 have f:=vY h;have o:ix x ((j:Nat):Int)=tk k t a b g:=by rw [ix,E1,h];rfl
 refine I5 (fun n=>gC n ..) (N8 aY0 (I4 (P1 f) ?_));rw [o];refine J5 (J5 ?_);by_cases he:e=0
 ·subst he;refine M3 (XB a b g q j d c O V W) (H8 rfl)
 ·refine M3 (AX he a b g q j d c O V W) (H8 ?_);rw [F4.2 he];rfl
def aD4 {x:List D}{j:Nat}(f:aK5 x)(hl:x.length≤1000000)(b:e≠0)(a:x.length≤j)(q d c O V W:Int):U (fun n=>V9 n q (.Z 5 x) (j:Int) d c O V W e) fun r=>
  r=(true,[.Z 5 x,iD (j:Int),iD d,iD c,iD O,iD V,iD W,iD e]):=by
 refine I5 (fun n=>gC n ..) (I4 aX8 (M3 (Ya f hl b a d c O V W) (H8 rfl)))
def IY {i:Int}{b a q2 f:Int}(F:Fq l O V W e b a q2 f)(h:i=m∧(e=0∨e=6∧O=((K3 l).at_ 2).i∧V=((K3 l).at_ 3).i∧W=((K3 l).at_ 4).i)):i=m∧(f=0∨f=6∧b=((K3 l).at_ 2).i∧a=((K3 l).at_ 3).i∧q2=((K3 l).at_ 4).i):=by
 refine⟨h.1,?_⟩;by_cases he:e=0
 ·exact F.2 he
 ·obtain⟨rfl,rfl,rfl,rfl⟩:=F.1 he;exact h.2
omit C in
def Cx.nat (C:Cx L l m){i:Int}(h:i=m):∃ j:Nat,i=(j:Int)∧m≤(j:Int):=by have:=C.h1;exact⟨i.toNat,by omega,by omega⟩
include C
def aV4 (L l:List D)(m:Int)(F:PF)(n:Nat):Prop:=∀ i d c O V W e:Int,zC L l (0≤i∧i≤m) (i=m∧(e=0∨e=6∧O=((K3 l).at_ 2).i∧V=((K3 l).at_ 3).i∧W=((K3 l).at_ 4).i)) (fun x n=>F n (.Z 5 x) i d c O V W e) n true
 (fun f=>∃ j c' g b a h:Int,f=(fun x=>[.Z 5 x,iD i,iD j,iD c',iD g,iD b,iD a,iD h])∧h≠0)
 (fun f=>∃ j c' g b a h:Int,f=(fun x=>[.Z 5 x,iD i,iD j,iD c',iD g,iD b,iD a,iD h])∧(i=m∧(h=0∨h=6∧g=((K3 l).at_ 2).i∧b=((K3 l).at_ 3).i∧a=((K3 l).at_ 4).i))∧h≠0)
omit C in
def Xz {F:PF}(h:aV4 L l m F n)(h1:lv→0≤i∧i≤m)(p:dd→i=m∧(e=0∨e=6∧O=((K3 l).at_ 2).i∧V=((K3 l).at_ 3).i∧W=((K3 l).at_ 4).i)) (o:∀ k c' g b a j:Int,Bo G L l (lv∧j≠0) ((i=m∧(j=0∨j=6∧g=((K3 l).at_ 2).i∧b=((K3 l).at_ 3).i∧a=((K3 l).at_ 4).i))∧j≠0) (fun x n=>K x [.Z 5 x,iD i,iD k,iD c',iD g,iD b,iD a,iD j] n) n P Zq) :Bo G L l lv dd (fun x n=>AE.J3 (F n (.Z 5 x) i d c O V W e) fun ds=>K x ds n) n P Zq:=by
 refine Bo.J3 ((h i d c O V W e).fW h1 p) fun f=>⟨?_,?_⟩
 ·rintro ⟨hl,k,c',g,b,a,j,rfl,hh⟩;exact (o k c' g b a j).1 ⟨hl,hh⟩
 ·rintro ⟨k,c',g,b,a,j,rfl,hh⟩;exact (o k c' g b a j).2 hh
def Tb {q:Int}(A:q≠0):aV4 L l m (fun n=>V9 n q) n:=by
 intro i d c O V W e;refine zC.mk (fun hl r z=>?_) fun y=>?_
 ·obtain⟨j,rfl⟩:∃ j:Nat,i=(j:Int):=⟨i.toNat,by omega⟩;have hm:=C.m0;obtain⟨k,t,a,b,g,o⟩:=C.tok (i:=j) hl.2;have e1:=aD5 o z;by_cases hjm:(j:Int)<m
  ·refine (aD6 (x:=l) (by rw [C.get hjm];exact o) q d c O V W e).mono fun p h=> .inl ?_;by_cases he:e=0
   ·subst he;exact⟨_,⟨d,c,a,b,g,q,rfl,A⟩,e1,h⟩
   ·rw [F4.2 he] at e1 h;exact⟨_,⟨d,c,O,V,W,e,rfl,he⟩,e1,h⟩
  ·by_cases he:e=0
   ·subst he;exact (WS q (C.dd (i:=j) (e:=0) (.inr (by omega))) d c O V W).mono fun p ⟨w,c',u,s,q2,f,F,v,h⟩=> .inr ⟨_,⟨w,c',u,s,q2,f,rfl,IY F (by omega),v⟩,h⟩
   ·rw [F4.2 he] at e1;have:=C.len;exact (aD4 (x:=l) (j:=j) C.tl (by omega) he (by omega) q d c O V W).mono fun p h=> .inl ⟨_,⟨d,c,O,V,W,e,rfl,he⟩,e1,h⟩
 ·obtain⟨j,rfl,o⟩:=C.nat y.1;exact (WS q (C.dd (i:=j) (e:=e) (.inr o)) d c O V W).mono fun p ⟨w,c',u,s,q2,f,F,v,h⟩=>⟨_,⟨w,c',u,s,q2,f,rfl,IY F y,v⟩,h⟩
def Oq {w:G1}(b:0<w.length)(h1:lv→0≤i∧i≤m)(v:dd→i=m∧(e=0∨e=6∧O=((K3 l).at_ 2).i∧V=((K3 l).at_ 3).i∧W=((K3 l).at_ 4).i))(p:∀ a:Int,Bo G L l (lv∧a=i+1∧a≤m∧e=0) False (fun x n=>K x [.bool true,.Z 5 x,iD a,iD d,iD c,iD O,iD V,iD W,iD e] n) n P Zq)(k:Bo G L l lv (i=m∧(e=0∨e=6∧O=((K3 l).at_ 2).i∧V=((K3 l).at_ 3).i∧W=((K3 l).at_ 4).i)) (fun x n=>K x [.bool false,.Z 5 x,iD i,iD d,iD c,iD O,iD V,iD W,iD e] n) n P Zq) :Bo G L l lv dd (fun x n=>AE.J3 (H9 n (.str w) (.Z 5 x) i d c O V W e) fun ds=>K x ds n) n P Zq:=by
 have t:zC L l lv dd (fun x n=>H9 n (.str w) (.Z 5 x) i d c O V W e) n true (fun f=>(∃ a:Int,f=(fun x=>[.bool true,.Z 5 x,iD a,iD d,iD c,iD O,iD V,iD W,iD e])∧a=i+1∧a≤m∧e=0)∨f=(fun x=>[.bool false,.Z 5 x,iD i,iD d,iD c,iD O,iD V,iD W,iD e])) (fun f=>f=(fun x=>[.bool false,.Z 5 x,iD i,iD d,iD c,iD O,iD V,iD W,iD e])∧(i=m∧(e=0∨e=6∧O=((K3 l).at_ 2).i∧V=((K3 l).at_ 3).i∧W=((K3 l).at_ 4).i))):=by
  have dead:dd→U (fun n=>H9 n (.str w) (.Z 5 l) i d c O V W e) fun g=>∃ f:List D→List D,(f=(fun x=>[.bool false,.Z 5 x,iD i,iD d,iD c,iD O,iD V,iD W,iD e])∧(i=m∧(e=0∨e=6∧O=((K3 l).at_ 2).i∧V=((K3 l).at_ 3).i∧W=((K3 l).at_ 4).i)))∧g=(true,f l):=fun u=>by (have o:=v u;obtain⟨j,rfl,s⟩:=C.nat o.1;have b:([]==w)=false:=by cases w with|nil=>exact absurd b (by decide)|cons _ _=>rfl);exact (vM b (C.dd (.inr s)) d c O V W).mono fun g h=>⟨_,⟨rfl,o⟩,h⟩
  cases n with
  |zero=>exact zC.mk (fun hl r q=>(by cases q)) dead
  |succ n=>
   have hm:=C.m0;refine Bo.start (Bo.eq (fun x n=>gE n w x i d c O V W e) (aL0 C b h1 (fun h=>h.elim) ?_ ?_)) (fun h=>XD (dead h))
   ·(dsimp +instances only [Y,tk,jG,List.getElem?_cons_zero,List.getElem?_cons_succ,Option.getD_some,nB,oC,jH,mM,List.cons_append,List.nil_append];refine aX7 ?_);refine aX9 (Bo.ret (fun _ _=>rfl) (fun h=> .inl ⟨_,rfl,?_,?_,h.2.2⟩) fun h=>h.elim)
    ·have:=h1 h.1;exact Q3
    ·have:=h1 h.1;rw [Q3];omega
   ·(dsimp +instances only [Y,tk,jG,List.getElem?_cons_zero,List.getElem?_cons_succ,Option.getD_some,nB,oC,jH,mM,List.cons_append,List.nil_append];refine aX7 ?_);exact aX7 (Bo.ret (fun _ _=>rfl) (fun _=> .inr rfl) fun h=>⟨rfl,h⟩)
 refine Bo.J3 t fun f=>⟨?_,?_⟩
 ·rintro ⟨hl,⟨a,rfl,hh⟩|rfl⟩
  ·exact (p a).1 ⟨hl,hh⟩
  ·exact k.1 hl
 ·rintro ⟨rfl,hh⟩;exact k.2 hh
def aS9 (h1:lv→0≤i∧i≤m)(B:dd→i=m∧(e=0∨e=6∧O=((K3 l).at_ 2).i∧V=((K3 l).at_ 3).i∧W=((K3 l).at_ 4).i))(s:∀ o c' g b a k:Int,Bo G L l (lv∧(e≠0→k≠0)) (i=m∧(k=0∨k=6∧g=((K3 l).at_ 2).i∧b=((K3 l).at_ 3).i∧a=((K3 l).at_ 4).i)) (fun x n=>K x [.bool (k==0),.Z 5 x,iD i,iD o,iD c',iD g,iD b,iD a,iD k] n) n P Zq) :Bo G L l lv dd (fun x n=>AE.J3 (P8 n (.Z 5 x) i d c O V W e) fun ds=>K x ds n) n P Zq:=by
 have z:zC L l lv dd (fun x n=>P8 n (.Z 5 x) i d c O V W e) n true (fun f=>∃ o c' g b a k:Int,f=(fun x=>[.bool (k==0),.Z 5 x,iD i,iD o,iD c',iD g,iD b,iD a,iD k])∧(e≠0→k≠0)) (fun f=>∃ o c' g b a k:Int,f=(fun x=>[.bool (k==0),.Z 5 x,iD i,iD o,iD c',iD g,iD b,iD a,iD k])∧i=m∧(k=0∨k=6∧g=((K3 l).at_ 2).i∧b=((K3 l).at_ 3).i∧a=((K3 l).at_ 4).i)):=by
  have dead:dd→U (fun n=>P8 n (.Z 5 l) i d c O V W e) fun p=>∃ f:List D→List D,(∃ o c' g b a k:Int,f=(fun x=>[.bool (k==0),.Z 5 x,iD i,iD o,iD c',iD g,iD b,iD a,iD k])∧i=m∧(k=0∨k=6∧g=((K3 l).at_ 2).i∧b=((K3 l).at_ 3).i∧a=((K3 l).at_ 4).i))∧p=(true,f l):=fun A=>by have t:=B A;obtain⟨j,rfl,y⟩:=C.nat t.1;exact (Ve (C.dd (.inr y)) d c O V W).mono fun p ⟨o,c',v,u,q2,f,F,h⟩=>⟨_,⟨o,c',v,u,q2,f,rfl,IY F t⟩,h⟩
  cases n with
  |zero=>exact zC.mk (fun hl r w=>(by cases w)) dead
  |succ n=>
   refine Bo.start (Bo.eq (fun x n=>lP n x i d c O V W e) (Bo.ite (fun _=>?_) fun _=>?_)) (fun h=>XD (dead h))
   ·refine Xz (Tb C (q:=8) (by decide)) h1 (fun h=>h.elim) fun o c' g b a k=>?_;(dsimp +instances only [Y,tk,jG,List.getElem?_cons_zero,List.getElem?_cons_succ,Option.getD_some,nB,oC,jH,mM,List.cons_append,List.nil_append];refine aX7 ?_);exact Bo.ret (fun _ _=>rfl) (fun h=>⟨o,c',g,b,a,k,rfl,fun _=>h.2⟩) fun h=>⟨o,c',g,b,a,k,rfl,h.1⟩
   ·exact Bo.ret (fun _ _=>rfl) (fun _=>⟨_,c,O,V,W,e,rfl,id⟩) fun h=>h.elim
 refine Bo.J3 z fun f=>⟨?_,?_⟩
 ·rintro ⟨hl,o,c',g,b,a,k,rfl,hh⟩;exact (s o c' g b a k).1 ⟨hl,hh⟩
 ·rintro ⟨o,c',g,b,a,k,rfl,hh⟩;exact (s o c' g b a k).2 hh
def aL1 (b:∀ k:Int,Bo G L l lv dd (fun x n=>K x [.Z 5 x,iD i,iD k,iD c,iD O,iD V,iD W,iD e] n) n P Zq) :Bo G L l lv dd (fun x n=>AE.J3 (K7 n (.Z 5 x) i d c O V W e) fun ds=>K x ds n) n P Zq:=by
 have _:=C;have j:zC L l lv dd (fun x n=>K7 n (.Z 5 x) i d c O V W e) n true (fun f=>f=(fun x=>[.Z 5 x,iD i,iD (i64.wrap (d-1)),iD c,iD O,iD V,iD W,iD e])) (fun f=>f=(fun x=>[.Z 5 x,iD i,iD (i64.wrap (d-1)),iD c,iD O,iD V,iD W,iD e])∧dd):=by
  cases n with
  |zero=>exact zC.mk (fun hl r g=>(by cases g)) fun a=>I5 (fun n=>iA n ..) (H8 ⟨_,⟨rfl,a⟩,rfl⟩)
  |succ n=>exact Bo.eq (fun x n=>iA n x i d c O V W e) (Bo.ret (fun _ _=>rfl) (fun _=>rfl) fun h=>⟨rfl,h⟩)
 refine Bo.J3 j fun f=>⟨?_,?_⟩
 ·rintro ⟨hl,rfl⟩;exact (b _).1 hl
 ·rintro ⟨rfl,a⟩;exact (b _).2 a
omit C in
def Fd (z:Int)(h:List D→List D→Prop)(l:List D)(j:Nat)(O V W e:Int)(r:Bool×List D):Prop:=∃ (pre a:List D) (d c g b q2 f:Int),h pre a∧Fq l O V W e g b q2 f∧(z=1→f≠0)∧
 r=(true,pre++([.Z 5 l,iD (j:Int),iD d,iD c,iD g,iD b,iD q2,iD f]++a))
omit C in
def FW.fd {j:Nat}{r:Bool×List D}(h:FW l j O V W e r):Fd 0 f0 l j O V W e r:=by obtain⟨d,c,b,a,q2,f,F,h⟩:=h;exact⟨[],[],d,c,b,a,q2,f,⟨rfl,rfl⟩,F,fun h=>absurd h (by decide),h⟩
omit C in
def F0.fd {j:Nat}{r:Bool×List D}(h:F0 l j O V W e r):Fd 1 f0 l j O V W e r:=by obtain⟨d,c,b,a,q2,f,F,g,h⟩:=h;exact⟨[],[],d,c,b,a,q2,f,⟨rfl,rfl⟩,F,fun _=>g,h⟩
omit C in
def F1.fd {R:D→Prop}{z:Int}{a:List D→List D→Prop}(p:∀ y,R y→a [y] []){j:Nat}{r:Bool×List D}(h:F1 R l j O V W e r):Fd z a l j O V W e r:=by obtain⟨y,d,c,g,b,q2,f,k,F,o,h⟩:=h;exact⟨[y],[],d,c,g,b,q2,f,p y k,F,fun _=>o,h⟩
omit C in
def FL.fd {k:Nat}{z:Int}{a:List D→List D→Prop}(q:∀ ys,ys.length≤1→a [] [.Z k ys]){j:Nat}{r:Bool×List D}(h:FL k l j O V W e r):Fd z a l j O V W e r:=by obtain⟨ys,d,c,g,b,q2,f,o,F,p,h⟩:=h;exact⟨[],[.Z k ys],d,c,g,b,q2,f,q ys o,F,fun _=>p,h⟩
def Sp.of {u z:Int}{t:List D→List D→Prop}{F:PF}(h0:∀ x a1 a2 a3 a4 M J I,F 0 x a1 a2 a3 a4 M J I=none)(dead:∀ (j:Nat) (d c O V W e:Int),Dd l j e→U (fun n=>F n (.Z 5 l) (j:Int) d c O V W e) (Fd z t l j O V W e)) (live:∀ k,n=k+1→∀ i d c O V W e:Int,zC L l (0≤i∧i≤m) False (fun x n=>F n (.Z 5 x) i d c O V W e) (k+1) true
   (fun f=>∃ (pre a:List D) (q s c' o g b p:Int),f=(fun x=>pre++([.Z 5 x,iD q,iD s,iD c',iD o,iD g,iD b,iD p]++a))∧t pre a∧i≤q∧q≤m∧(e≠0→p≠0)∧(p=0→i+u≤q))
   (fun f=>∃ (pre a:List D) (q s c' o g b p:Int),f=(fun x=>pre++([.Z 5 x,iD q,iD s,iD c',iD o,iD g,iD b,iD p]++a))∧t pre a∧(q=m∧(p=0∨p=6∧o=((K3 l).at_ 2).i∧g=((K3 l).at_ 3).i∧b=((K3 l).at_ 4).i))∧(z=1→p≠0))):Sp L l m u z t F n:=by
 intro i d c O V W e;refine⟨fun hl=>?_,fun v=>XD ?_⟩
 ·cases n with
  |zero=>intro r A _;exact absurd (A.symm.trans (h0 ..)) (by simp)
  |succ k=>exact (live k rfl i d c O V W e).1 hl
 ·obtain⟨j,rfl,B⟩:=C.nat v.1;exact (dead j d c O V W e (C.dd (.inr B))).mono fun N ⟨pre,a,s,c',y,w,q2,f,H,F,E,h⟩=>⟨_,⟨pre,a,j,s,c',y,w,q2,f,rfl,H,IY F v,E⟩,h⟩
def VF:Sp L l m 0 0 f0 (fun n=>W5 n) n:=by
 refine Sp.of C (fun _ _ _ _ _ _ _ _=>rfl) (fun j d c O V W e h=>(JI h d c O V W).mono fun _ h=>h.fd) fun k p i d c O V W e=>?_;have hm:=C.m0;refine Bo.eq (fun x n=>kS n x i d c O V W e) (Bo.ite (fun _=>?_) fun _=>?_)
 ·refine Xz (Tb C (q:=19) (by decide)) (fun h=>h) (fun h=>h.elim) fun o c' f b a g=>?_;(dsimp +instances only [Y,tk,jG,List.getElem?_cons_zero,List.getElem?_cons_succ,Option.getD_some,nB,oC,jH,mM,List.cons_append,List.nil_append];refine aX7 ?_);exact Bo.ret (fun _ _=>rfl) (fun h=>⟨[],[],i,o,c',f,b,a,g,rfl,⟨rfl,rfl⟩,by omega⟩) fun h=>⟨[],[],i,o,c',f,b,a,g,rfl,⟨rfl,rfl⟩,h.1,fun h=>absurd h (by decide)⟩
 ·exact Bo.ret (fun _ _=>rfl) (fun h=>⟨[],[],i,d,_,O,V,W,e,rfl,⟨rfl,rfl⟩,by omega⟩) fun h=>h.elim
def Ne (ws:List D):Prop:=∀ y∈ws,∃ w:G1,y = .str w∧0<w.length
def aW3 (l:List D)(m i e:Int)(ws:List D)(f:List D→Bool×List D):Prop:=
 (∃ h j c' g b a k:Int,f=(fun x=>(true,[.Z 5 x,iD h,iD j,iD c',iD g,iD b,iD a,iD k]))∧i≤h∧h≤m∧k≠0)∨(∃ h o j c' g b a:Int,f=(fun x=>(false,[.Z 1 ws,iD (ws.length:Int),iD o,.Z 5 x,iD h,iD j,iD c',iD g,iD b,iD a,iD e]))∧i+1≤h∧h≤m∧e=0)
def ZW (l:List D)(m:Int)(f:List D→Bool×List D):Prop:=∃ j k c' g b a h:Int,f=(fun x=>(true,[.Z 5 x,iD j,iD k,iD c',iD g,iD b,iD a,iD h]))∧(j=m∧(h=0∨h=6∧g=((K3 l).at_ 2).i∧b=((K3 l).at_ 3).i∧a=((K3 l).at_ 4).i))∧h≠0
def Jo {ws:List D}(F:ws.length≤1000000)(s e:Int)(p:e=0→Ne ws)(z:∃ w r,ws = .str w::r∧0<w.length):∀ (n:Nat) (j:Nat) (i d c O V W:Int),(e≠0→j=0)→j≤ws.length→(0<j→s+1≤i)→s≤i→Bo (fun _=>True) L l (0≤i∧i≤m) False (fun x n=>U8 n (.Z 1 ws) (ws.length:Int) (j:Int) (.Z 5 x) i d c O V W e) n (aW3 l m s e ws) (ZW l m)
 |0,j,i,d,c,O,V,W,_,_,_,_=>⟨fun _ r o _=>(by cases o),fun h=>h.elim⟩
 |n+1,j,i,d,c,O,V,W,q,Q,H,I=>by
  have hm:=C.m0;refine Bo.eq (fun x n=>dT n ws (ws.length:Int) j x i d c O V W e) (Bo.ite (fun a=>?_) fun a=>?_)
  ·(have a:j<ws.length:=by have:=E7 a;omega);have b:∃ w,ws[j] = .str w∧0<w.length:=by
    by_cases u:e=0
    ·exact p u _ (C6 a)
    ·have:=q u;subst this;obtain⟨w,r,rfl,h⟩:=z;exact⟨w,rfl,h⟩
   (obtain⟨w,b,y⟩:=b;have J:ix ws ((j:Nat):Int) = .str w:=by rw [bS a,b]);refine Bo.cT (fun _=>P1 a) ?_;rw [J];refine aX7 (Oq C y (fun h=>h) (fun h=>h.elim) (fun t=>?_) ?_)
   ·(dsimp +instances only [Y,tk,jG,List.getElem?_cons_zero,List.getElem?_cons_succ,Option.getD_some,nB,oC,jH,mM,List.cons_append,List.nil_append];refine aX7 ?_);refine aX9 (Bo.live fun h=>?_);obtain⟨h1,S,R,N⟩:=h;rw [P4];exact (Jo F s e p z n (j+1) t d c O V W (fun h=>absurd N h) (by omega) (fun _=>by omega) (by omega)).fW (fun _=>by omega) id
   ·(dsimp +instances only [Y,tk,jG,List.getElem?_cons_zero,List.getElem?_cons_succ,Option.getD_some,nB,oC,jH,mM,List.cons_append,List.nil_append];refine aX7 ?_);refine aX7 (aA1 (Yx C) (fun h=>h) (fun h=>h) fun pre E t B c' k g f A M=>?_);obtain⟨rfl,rfl⟩:=M;(dsimp +instances only [Y,tk,jG,List.getElem?_cons_zero,List.getElem?_cons_succ,Option.getD_some,nB,oC,jH,mM,List.cons_append,List.nil_append];refine aX7 ?_);refine⟨fun h r o _=>?_,fun h=>?_⟩
    ·exact H8 (.inl ⟨_,.inl ⟨t,B,c',k,g,f,A,rfl,by omega,by omega,by omega⟩,(Option.some.inj o).symm,rfl⟩)
    ·exact H8 ⟨_,⟨t,B,c',k,g,f,A,rfl,h.1,h.2 rfl⟩,rfl⟩
  ·(have a:j=ws.length:=by have:=E9 a;omega);refine⟨fun h r o _=>?_,fun h=>h.elim⟩;obtain⟨w,r0,v,_⟩:=z;have:0<j:=by rw [a,v,A0];omega
   exact H8 (.inl ⟨_,.inr ⟨i,j,d,c,O,V,W,rfl,by omega,by omega,Classical.byContradiction fun u=>by have:=q u;omega⟩,(Option.some.inj o).symm,rfl⟩)
def aA4 {w:G1}{ws:List D}(z:ws.length≤1000)(q:0<w.length)(u:lv→e=0→Ne ws)(h1:lv→0≤i∧i≤m)(X:dd→i=m∧(e=0∨e=6∧O=((K3 l).at_ 2).i∧V=((K3 l).at_ 3).i∧W=((K3 l).at_ 4).i)) (A:∀ k p c' g b a o:Int,Bo G L l (lv∧i≤k∧k≤m∧(e≠0→o≠0)∧(o=0→i+1≤k)) ((k=m∧(o=0∨o=6∧g=((K3 l).at_ 2).i∧b=((K3 l).at_ 3).i∧a=((K3 l).at_ 4).i))∧o≠0) (fun x n=>K x [.Z 5 x,iD k,iD p,iD c',iD g,iD b,iD a,iD o] n) n P Zq) :Bo G L l lv dd (fun x n=>AE.J3 (I0 n (.Z 1 (.str w::ws)) (.Z 5 x) i d c O V W e) fun ds=>K x ds n) n P Zq:=by
 have Q:zC L l lv dd (fun x n=>I0 n (.Z 1 (.str w::ws)) (.Z 5 x) i d c O V W e) n true (fun f=>∃ k p c' g b a o:Int,f=(fun x=>[.Z 5 x,iD k,iD p,iD c',iD g,iD b,iD a,iD o])∧i≤k∧k≤m∧(e≠0→o≠0)∧(o=0→i+1≤k)) (fun f=>∃ k p c' g b a o:Int,f=(fun x=>[.Z 5 x,iD k,iD p,iD c',iD g,iD b,iD a,iD o])∧(k=m∧(o=0∨o=6∧g=((K3 l).at_ 2).i∧b=((K3 l).at_ 3).i∧a=((K3 l).at_ 4).i))∧o≠0):=by
  have dead:dd→U (fun n=>I0 n (.Z 1 (.str w::ws)) (.Z 5 l) i d c O V W e) fun v=>∃ f:List D→List D,(∃ k p c' g b a o:Int,f=(fun x=>[.Z 5 x,iD k,iD p,iD c',iD g,iD b,iD a,iD o])∧(k=m∧(o=0∨o=6∧g=((K3 l).at_ 2).i∧b=((K3 l).at_ 3).i∧a=((K3 l).at_ 4).i))∧o≠0)∧v=(true,f l):=fun T=>by (have B:=X T;obtain⟨j,rfl,N⟩:=C.nat B.1;have z:([]==w)=false:=by cases w with|nil=>exact absurd q (by decide)|cons _ _=>rfl);exact (WU ws z (C.dd (.inr N)) d c O V W).mono fun v ⟨p,c',H,E,q2,f,F,R,h⟩=>⟨_,⟨j,p,c',H,E,q2,f,rfl,IY F B,R⟩,h⟩
  cases n with
  |zero=>exact zC.mk (fun hl r s=>(by cases s)) dead
  |succ n=>
   refine Bo.start (Bo.live fun hl=>?_) (fun h=>XD (dead h));have M:=h1 hl;have J:e=0→Ne (.str w::ws):=fun S y t=>by
    rcases B7.1 t with rfl|t
    ·exact⟨w,rfl,q⟩
    ·exact u hl S y t
   refine Bo.eq (fun x n=>jY n (.str w::ws) x i d c O V W e) (Bo.aA5 ((Jo C (ws:= .str w::ws) (by rw [A0];omega) i e J ⟨w,ws,rfl,q⟩ n 0 i d c O V W (fun _=>rfl) (C4 _) (fun h=>absurd h (by decide)) (Int.le_refl _)).fW h1 (fun h=>h)) ?_ ?_ ?_ ?_ ?_)
   ·rintro f (⟨_,_,_,_,_,_,_,rfl,_⟩|⟨_,_,_,_,_,_,_,rfl,_⟩)
    ·exact⟨true,_,rfl⟩
    ·exact⟨false,_,rfl⟩
   ·rintro f ⟨_,_,_,_,_,_,_,rfl,_⟩;exact⟨true,_,rfl⟩
   ·rintro h hl (⟨k,p,c',g,b,a,o,e1,hh⟩|⟨_,_,_,_,_,_,_,e1,_⟩)
    ·have:h=fun x=>[.Z 5 x,iD k,iD p,iD c',iD g,iD b,iD a,iD o]:=funext fun x=>congrArg Prod.snd (congrFun e1 x);exact⟨h,⟨k,p,c',g,b,a,o,this,by omega⟩,rfl⟩
    ·have:=congrArg Prod.fst (congrFun e1 L);cases this
   ·rintro h ⟨k,p,c',g,b,a,o,e1,hh⟩;have:h=fun x=>[.Z 5 x,iD k,iD p,iD c',iD g,iD b,iD a,iD o]:=funext fun x=>congrArg Prod.snd (congrFun e1 x);exact⟨h,⟨k,p,c',g,b,a,o,this,hh⟩,rfl⟩
   ·intro h;refine⟨?_,?_⟩
    ·rintro ⟨hl,⟨_,_,_,_,_,_,_,e1,_⟩|⟨k,I,p,c',g,b,a,e1,hh⟩⟩
     ·have:=congrArg Prod.fst (congrFun e1 L);cases this
     ·have:h=fun x=>[.Z 1 (.str w::ws),iD ((D.str w::ws).length:Int),iD I,.Z 5 x,iD k,iD p,iD c',iD g,iD b,iD a,iD e]:=funext fun x=>congrArg Prod.snd (congrFun e1 x);subst this;intro r s _;have s:some (true,[.Z 5 L,iD k,iD p,iD c',iD g,iD b,iD a,iD e])=some r:=s;exact J5 (H8 (.inl ⟨_,⟨fun x=>[.Z 5 x,iD k,iD p,iD c',iD g,iD b,iD a,iD e],⟨k,p,c',g,b,a,e,rfl,by omega⟩,rfl⟩,(Option.some.inj s).symm,rfl⟩))
    ·rintro ⟨_,_,_,_,_,_,_,e1,_⟩;have:=congrArg Prod.fst (congrFun e1 L);cases this
 refine Bo.J3 Q fun f=>⟨?_,?_⟩
 ·rintro ⟨hl,k,p,c',g,b,a,o,rfl,hh⟩;exact (A k p c' g b a o).1 ⟨hl,hh⟩
 ·rintro ⟨k,p,c',g,b,a,o,rfl,hh⟩;exact (A k p c' g b a o).2 hh
end
end
section
section
variable {G:Bool×List D→Prop} {L l:List D} {m:Int} (C:Cx L l m) {lv dd:Prop} {n:Nat} {P Zq:(List D→Bool×List D)→Prop} {i d c O V W e:Int} {K:List D→List D→Nat→Out}
include C
def aS0 (L:List D)(i:Int):Prop:=∃ k t a b g,L[i.toNat]? = some (tk k t a b g)∧0<(t.length:Int)
def Oo (h1:lv→0≤i∧i≤m)(F:dd→i=m∧(e=0∨e=6∧O=((K3 l).at_ 2).i∧V=((K3 l).at_ 3).i∧W=((K3 l).at_ 4).i))(w:aS0 L i→Bo G L l (lv∧i<m∧e=0) False (fun x n=>K x [.bool true,.Z 5 x,iD i,iD d,iD c,iD O,iD V,iD W,iD e] n) n P Zq)(u:Bo G L l lv (i=m∧(e=0∨e=6∧O=((K3 l).at_ 2).i∧V=((K3 l).at_ 3).i∧W=((K3 l).at_ 4).i)) (fun x n=>K x [.bool false,.Z 5 x,iD i,iD d,iD c,iD O,iD V,iD W,iD e] n) n P Zq) :Bo G L l lv dd (fun x n=>AE.J3 (X9 n (.Z 5 x) i d c O V W e) fun ds=>K x ds n) n P Zq:=by
 have A:zC L l lv dd (fun x n=>X9 n (.Z 5 x) i d c O V W e) n true (fun f=>(f=(fun x=>[.bool true,.Z 5 x,iD i,iD d,iD c,iD O,iD V,iD W,iD e])∧aS0 L i∧i<m∧e=0)∨f=(fun x=>[.bool false,.Z 5 x,iD i,iD d,iD c,iD O,iD V,iD W,iD e])) (fun f=>f=(fun x=>[.bool false,.Z 5 x,iD i,iD d,iD c,iD O,iD V,iD W,iD e])∧(i=m∧(e=0∨e=6∧O=((K3 l).at_ 2).i∧V=((K3 l).at_ 3).i∧W=((K3 l).at_ 4).i))):=by
  have dead:dd→U (fun n=>X9 n (.Z 5 l) i d c O V W e) fun q=>∃ f:List D→List D,(f=(fun x=>[.bool false,.Z 5 x,iD i,iD d,iD c,iD O,iD V,iD W,iD e])∧(i=m∧(e=0∨e=6∧O=((K3 l).at_ 2).i∧V=((K3 l).at_ 3).i∧W=((K3 l).at_ 4).i)))∧q=(true,f l):=fun B=>by have v:=F B;obtain⟨j,rfl,z⟩:=C.nat v.1;exact (Ao (C.dd (.inr z)) d c O V W).mono fun q h=>⟨_,⟨rfl,v⟩,h⟩
  cases n with
  |zero=>exact zC.mk (fun hl r o=>(by cases o)) dead
  |succ n=>
   (refine Bo.start (Bo.eq (fun x n=>lQ n x i d c O V W e) (ZS C h1 False.elim fun k t a b' g b=>?_)) (fun h=>XD (dead h));(dsimp +instances only [Y,tk,jG,List.getElem?_cons_zero,List.getElem?_cons_succ,Option.getD_some,nB,oC,jH,mM,List.cons_append,List.nil_append];refine aX7 ?_);refine Bo.ite (fun E=>?_) fun _=>Bo.ret (fun _ _=>rfl) (fun _=> .inr rfl) fun h=>⟨rfl,h.1⟩;have y:k=1:=by simpa using E);subst y;refine Bo.fW (lv':=lv∧i<m∧e=0) (dd':=False) (fun h=>⟨h.1,h.2.1 (by decide)⟩) (fun h=>absurd h.2.1 (by decide)) (Bo.live fun hl=>Bo.LB False.elim fun h0=>?_);have h0:0<(t.length:Int):=E7 (by simpa using h0);have p:aS0 L i:=⟨_,_,_,_,_,b hl.2.2 hl.2.1,h0⟩;refine Bo.ite (fun _=>?_) fun _=>Bo.ret (fun _ _=>rfl) (fun _=> .inr rfl) False.elim;refine Bo.LB False.elim fun _=>Bo.LB False.elim fun _=>OF (fun r o=>EU YP o) (fY (s:=Cm) YP (32::(t++[32]))) ?_;(dsimp +instances only [Y,tk,jG,List.getElem?_cons_zero,List.getElem?_cons_succ,Option.getD_some,nB,oC,jH,mM,List.cons_append,List.nil_append];refine aX7 ?_);refine Bo.ret (f:=fun x=>[.bool (!decide (0≤bZ (32::(t++[32])) Cm 0)),.Z 5 x,iD i,iD d,iD c,iD O,iD V,iD W,iD e]) (fun _ _=>rfl) (fun h=>?_) False.elim
   cases decide (0≤bZ (32::(t++[32])) Cm 0) with
   |true=>exact .inr rfl
   |false=>exact .inl ⟨rfl,p,h.2⟩
 refine Bo.J3 A fun f=>⟨?_,?_⟩
 ·rintro ⟨hl,⟨rfl,p,hh⟩|rfl⟩
  ·exact (w p).1 ⟨hl,hh⟩
  ·exact u.1 hl
 ·rintro ⟨rfl,hh⟩;exact u.2 hh
def Zz (h1:lv→0≤i∧i≤m)(h2:dd→i=m∧(e=0∨e=6∧O=((K3 l).at_ 2).i∧V=((K3 l).at_ 3).i∧W=((K3 l).at_ 4).i))(B:∀ (t:G1) (s u c' p o b q:Int),Bo G L l (lv∧i≤s∧s≤m∧(e≠0→q≠0)∧(q=0→i+1≤s)∧(q=0→0<(t.length:Int))) ((s=m∧(q=0∨q=6∧p=((K3 l).at_ 2).i∧o=((K3 l).at_ 3).i∧b=((K3 l).at_ 4).i))∧q≠0) (fun x n=>K x [.str t,.Z 5 x,iD s,iD u,iD c',iD p,iD o,iD b,iD q] n) n P Zq) :Bo G L l lv dd (fun x n=>AE.J3 (K9 n (.Z 5 x) i d c O V W e) fun ds=>K x ds n) n P Zq:=by
 have X:zC L l lv dd (fun x n=>K9 n (.Z 5 x) i d c O V W e) n true (fun f=>∃ (t:G1) (s u c' p o b q:Int),f=(fun x=>[.str t,.Z 5 x,iD s,iD u,iD c',iD p,iD o,iD b,iD q])∧i≤s∧s≤m∧(e≠0→q≠0)∧(q=0→i+1≤s)∧(q=0→0<(t.length:Int))) (fun f=>∃ (t:G1) (s u c' p o b q:Int),f=(fun x=>[.str t,.Z 5 x,iD s,iD u,iD c',iD p,iD o,iD b,iD q])∧(s=m∧(q=0∨q=6∧p=((K3 l).at_ 2).i∧o=((K3 l).at_ 3).i∧b=((K3 l).at_ 4).i))∧q≠0):=by
  have dead:dd→U (fun n=>K9 n (.Z 5 l) i d c O V W e) fun A=>∃ f:List D→List D,(∃ (t:G1) (s u c' p o b q:Int),f=(fun x=>[.str t,.Z 5 x,iD s,iD u,iD c',iD p,iD o,iD b,iD q])∧(s=m∧(q=0∨q=6∧p=((K3 l).at_ 2).i∧o=((K3 l).at_ 3).i∧b=((K3 l).at_ 4).i))∧q≠0)∧A=(true,f l):=fun hd=>by have H:=h2 hd;obtain⟨j,rfl,T⟩:=C.nat H.1;refine (Qa (C.dd (.inr T)) d c O V W).mono fun A ⟨y,u,c',M,J,q2,f,Q,F,hf,h⟩=>?_;subst Q;exact⟨_,⟨[],j,u,c',M,J,q2,f,rfl,IY F H,hf⟩,h⟩
  cases n with
  |zero=>exact zC.mk (fun hl r R=>(by cases R)) dead
  |succ n=>
   have hm:=C.m0;refine Bo.start (Bo.live fun hl=>?_) (fun h=>XD (dead h));have S:=h1 hl;refine Bo.eq (fun x n=>nL n x i d c O V W e) (Oo C h1 False.elim (fun v=>?_) ?_)
   ·(dsimp +instances only [Y,tk,jG,List.getElem?_cons_zero,List.getElem?_cons_succ,Option.getD_some,nB,oC,jH,mM,List.cons_append,List.nil_append];refine aX7 ?_);refine aX9 (Bo.live fun E=>ZS C (fun h=>h1 h.1) False.elim fun k t a b' g z=>?_);(dsimp +instances only [Y,tk,jG,List.getElem?_cons_zero,List.getElem?_cons_succ,Option.getD_some,nB,oC,jH,mM,List.cons_append,List.nil_append];refine aX7 ?_);obtain⟨N,t1,a1,b1,g1,v,h0⟩:=v;rw [z E.2.2 E.2.1] at v;have v:tk k t a b' g=tk N t1 a1 b1 g1:=Option.some.inj v;have:t=t1:=by unfold tk at v;injection v with v;injection v with _ v;injection v with v _;injection v
    subst this;have w:i64.wrap (i+1)=i+1:=Q3;rw [w];exact Bo.ret (fun _ _=>rfl) (fun h=>⟨t,i+1,d,c,O,V,W,e,rfl,by omega⟩) fun h=>by omega
   ·(dsimp +instances only [Y,tk,jG,List.getElem?_cons_zero,List.getElem?_cons_succ,Option.getD_some,nB,oC,jH,mM,List.cons_append,List.nil_append];refine aX7 ?_);refine aX7 (aA1 (Yx C) h1 (fun h=>h) fun pre I s u c' p o b q hF=>?_);obtain⟨rfl,rfl⟩:=hF;(dsimp +instances only [Y,tk,jG,List.getElem?_cons_zero,List.getElem?_cons_succ,Option.getD_some,nB,oC,jH,mM,List.cons_append,List.nil_append];refine aX7 ?_);exact Bo.ret (fun _ _=>rfl) (fun h=>⟨[],s,u,c',p,o,b,q,rfl,by omega⟩) fun h=>⟨[],s,u,c',p,o,b,q,rfl,h.1,h.2 rfl⟩
 refine Bo.J3 X fun f=>⟨?_,?_⟩
 ·rintro ⟨hl,t,s,u,c',p,o,b,q,rfl,hh⟩;exact (B t s u c' p o b q).1 ⟨hl,hh⟩
 ·rintro ⟨t,s,u,c',p,o,b,q,rfl,hh⟩;exact (B t s u c' p o b q).2 hh
end
end
section
abbrev Lv (p:Prop)(m i0 e0 q i e:Int):Prop:=p∧0≤i0∧i0≤i∧i≤m∧(e0≠0→e≠0)∧(e=0→i0+q≤i)
abbrev Dz (y:Prop)(l:List D)(m z i O V W e:Int):Prop:=y∧(i=m∧(e=0∨e=6∧O=((K3 l).at_ 2).i∧V=((K3 l).at_ 3).i∧W=((K3 l).at_ 4).i))∧(z=1→e≠0)
def fE (pre a:List D):Prop:=∃ (o k j h:Int) (f:G1) (g:List D),pre=[.agg [iD o,iD k,iD j,iD h,.str f,.Z 6 g]]∧a=[]
def fL (k:Nat)(B:Int)(pre a:List D):Prop:=pre=[]∧∃ ys:List D,a=[.Z k ys]∧(ys.length:Int)≤B
def fS (pre f:List D):Prop:=∃ (k a b g:Int) (t:G1) (es bs zs:List D),pre=[.agg [iD k,iD a,iD b,iD g,.str t,.Z 6 es,.Z 8 bs,.Z 9 zs]]∧f=[]
def f8 (pre f:List D):Prop:=∃ (k a b g:Int) (t:G1) (es bs zs:List D),pre=[]∧f=[iD k,iD a,iD b,iD g,.str t,.Z 6 es,.Z 8 bs,.Z 9 zs]
def fI (pre a:List D):Prop:=∃ (k x1 x2 x3:Int) (t ty:G1) (sg:Bool) (ex g h it el pa f:List D),pre=[.agg [iD k,iD x1,iD x2,iD x3,.str t,.str ty,.bool sg,.Z 6 ex,.Z 6 g,.Z 8 h,.Z 14 it,.Z 14 el,.Z 5 pa,.Z 5 f]]∧a=[]
def SP (m i e pr:Int)(Fm:List D→List D→Prop)(f:List D→List D):Prop:=∃ (pre a:List D) (g r c' k j h o:Int),f=(fun x=>pre++([.Z 5 x,iD g,iD r,iD c',iD k,iD j,iD h,iD o]++a))∧Fm pre a∧i≤g∧g≤m∧(e≠0→o≠0)∧(o=0→i+pr≤g)
def SZ (l:List D)(m z:Int)(Fm:List D→List D→Prop)(f:List D→List D):Prop:=∃ (pre a:List D) (o r c' j h g k:Int),f=(fun x=>pre++([.Z 5 x,iD o,iD r,iD c',iD j,iD h,iD g,iD k]++a))∧Fm pre a∧(o=m∧(k=0∨k=6∧j=((K3 l).at_ 2).i∧h=((K3 l).at_ 3).i∧g=((K3 l).at_ 4).i))∧(z=1→k≠0)
def NS (L l:List D)(m pr z:Int)(lv dd:Prop)(i e:Int)(Fm:List D→List D→Prop)(H:List D→Nat→Out)(n:Nat):Prop:=zC L l lv dd H n false (SP m i e pr Fm) (SZ l m z Fm)
def aV9 (z:Int)(Fm:List D→List D→Prop)(l:List D)(j:Nat)(O V W e:Int)(r:Bool×List D):Prop:=∃ (pre a:List D) (d c h g q2 f:Int),Fm pre a∧Fq l O V W e h g q2 f∧(z=1→f≠0)∧
 r=(false,pre++([.Z 5 l,iD (j:Int),iD d,iD c,iD h,iD g,iD q2,iD f]++a))
section
variable {G:Bool×List D→Prop} {L l:List D} {m:Int} (C:Cx L l m) {lv dd lv' dd':Prop} {n:Nat} {P Zq:(List D→Bool×List D)→Prop} {Pg Zg:(List D→List D)→Prop} {i d c O V W e i0 e0 q z pr:Int} {p y:Prop} {K:List D→List D→Nat→Out} {b:Bool} {Fm:List D→List D→Prop} {H KK:List D→Nat→Out} {sk:Sk}
def Lv.a (h:Lv p m i0 e0 q i e):0≤i∧i≤m:=by omega
def Dz.no:¬ Dz ((0:Int)=1) l m z i O V W e:=fun h=>absurd h.1 (by decide)
def Bo.UO (a:¬ dd)(h:lv→Bo G L l lv dd KK n P Zq):Bo G L l lv dd KK n P Zq:=⟨fun hl=>(h hl).1 hl,fun h=>(a h).elim⟩
def Dz.a (h:Dz y l m z i O V W e):i=m∧(e=0∨e=6∧O=((K3 l).at_ 2).i∧V=((K3 l).at_ 3).i∧W=((K3 l).at_ 4).i):=h.2.1
include C
def n2 (j:∀ (k:Int) (t:G1) (a b' g o c':Int),(e=0→i<m→L[i.toNat]? = some (tk k t a b' g))→Bo G L l (Lv (p∧(k≠0→i<m∧e=0)∧(0<(t.length:Int)→i<m∧e=0)) m i0 e0 q i e) (Dz (k=0∧(t.length:Int)=0) l m 0 i O V W e) (fun x n=>K x [tk k t a b' g,.Z 5 x,iD i,iD o,iD c',iD O,iD V,iD W,iD e] n) n P Zq) :Bo G L l (Lv p m i0 e0 q i e) (Dz y l m z i O V W e) (fun x n=>bc J8.I6 (J8 n (.Z 5 x) i d c O V W e) fun r=>K x r n) n P Zq:=ZS C (fun h=>h.a) (fun h=>h.a) fun k t a b' g f=>aX7 ((j k t a b' g d c f).fW (fun h=>⟨⟨h.1.1,h.2⟩,h.1.2⟩) fun h=>⟨h.2,h.1,by omega⟩)
def n1 (j:∀ (k:Int) (t:G1) (a b' g f c':Int),Bo G L l (Lv p m i0 e0 q i e) (Dz True l m 0 i O V W e) (fun x n=>K x [tk k t a b' g,.Z 5 x,iD i,iD f,iD c',iD O,iD V,iD W,iD e] n) n P Zq) :Bo G L l (Lv p m i0 e0 q i e) (Dz y l m z i O V W e) (fun x n=>bc J8.I6 (J8 n (.Z 5 x) i d c O V W e) fun r=>K x r n) n P Zq:=n2 C fun k t a b' g f c' _=>(j k t a b' g f c').fW (fun h=>⟨h.1.1,h.2⟩) fun h=>⟨trivial,h.2⟩
def i1 (w:G1)(f:w.isEmpty=false)(j:∀ g c':Int,Bo G L l (Lv (p∧i<m∧e=0) m i0 e0 q i e) (Dz ((0:Int)=1) l m 0 i O V W e) (fun x n=>K x [.bool true,.Z 5 x,iD i,iD g,iD c',iD O,iD V,iD W,iD e] n) n P Zq) (k:∀ g c':Int,Bo G L l (Lv p m i0 e0 q i e) (Dz True l m 0 i O V W e) (fun x n=>K x [.bool false,.Z 5 x,iD i,iD g,iD c',iD O,iD V,iD W,iD e] n) n P Zq) :Bo G L l (Lv p m i0 e0 q i e) (Dz y l m z i O V W e) (fun x n=>bc L5.I6 (L5 n (.str w) (.Z 5 x) i d c O V W e) fun r=>K x r n) n P Zq:=by
 have f:0<w.length:=by cases w with|nil=>cases f|cons=>exact Nat.succ_pos _
 exact aL0 C f (fun h=>h.a) (fun h=>h.a) (aX7 ((j d c).fW (fun h=>⟨⟨h.1.1,h.2⟩,h.1.2⟩) False.elim)) (aX7 ((k d c).fW id fun h=>⟨trivial,h,by omega⟩))
def t1 (w:G1)(g:w.isEmpty=false)(k:∀ f j c':Int,Bo G L l (Lv (p∧e=0) m i0 e0 (q+1) f e) (Dz ((0:Int)=1) l m 0 f O V W e) (fun x n=>K x [.bool true,.Z 5 x,iD f,iD j,iD c',iD O,iD V,iD W,iD e] n) n P Zq) (o:∀ j c':Int,Bo G L l (Lv p m i0 e0 q i e) (Dz True l m 0 i O V W e) (fun x n=>K x [.bool false,.Z 5 x,iD i,iD j,iD c',iD O,iD V,iD W,iD e] n) n P Zq) :Bo G L l (Lv p m i0 e0 q i e) (Dz y l m z i O V W e) (fun x n=>bc H9.I6 (H9 n (.str w) (.Z 5 x) i d c O V W e) fun r=>K x r n) n P Zq:=by
 have g:0<w.length:=by cases w with|nil=>cases g|cons=>exact Nat.succ_pos _
 exact Oq C g (fun h=>h.a) (fun h=>h.a) (fun f=>aX7 ((k f d c).fW (fun h=>⟨⟨h.1.1,h.2.2.2⟩,by omega⟩) False.elim)) (aX7 ((o d c).fW id fun h=>⟨trivial,h,by omega⟩))
def wN (w:G1)(ws:List D)(s:ws.length≤1000)(t:w.isEmpty=false)(u:Lv p m i0 e0 q i e→e=0→Ne ws)(A:∀ k v c' j g f o:Int,Bo G L l (Lv p m i0 e0 (q+1) k o) (Dz True l m 1 k j g f o) (fun x n=>K x [.Z 5 x,iD k,iD v,iD c',iD j,iD g,iD f,iD o] n) n P Zq) :Bo G L l (Lv p m i0 e0 q i e) (Dz y l m z i O V W e) (fun x n=>bc I0.I6 (I0 n (.Z 1 (.str w::ws)) (.Z 5 x) i d c O V W e) fun r=>K x r n) n P Zq:=by
 have t:0<w.length:=by cases w with|nil=>cases t|cons=>exact Nat.succ_pos _
 exact aA4 C s t u (fun h=>h.a) (fun h=>h.a) fun k v c' j g f o=>aX7 ((A k v c' j g f o).fW (fun h=>⟨h.1.1,by omega⟩) fun h=>⟨trivial,h.1,fun _=>h.2⟩)
def w1 (w:G1)(o:w.isEmpty=false)(s:∀ h t c' g f a j:Int,Bo G L l (Lv p m i0 e0 (q+1) h j) (Dz True l m 1 h g f a j) (fun x n=>K x [.Z 5 x,iD h,iD t,iD c',iD g,iD f,iD a,iD j] n) n P Zq) :Bo G L l (Lv p m i0 e0 q i e) (Dz y l m z i O V W e) (fun x n=>bc I0.I6 (I0 n (.Z 1 [.str w]) (.Z 5 x) i d c O V W e) fun r=>K x r n) n P Zq:=wN C w [] (C4 _) o (fun _ _ y k=>by cases k) s
def m1 (u:∀ (t:G1) (o s c' j g f k:Int),Bo G L l (Lv (p∧(k=0→0<(t.length:Int))) m i0 e0 (q+1) o k) (Dz True l m 1 o j g f k) (fun x n=>K x [.str t,.Z 5 x,iD o,iD s,iD c',iD j,iD g,iD f,iD k] n) n P Zq) :Bo G L l (Lv p m i0 e0 q i e) (Dz y l m z i O V W e) (fun x n=>bc K9.I6 (K9 n (.Z 5 x) i d c O V W e) fun r=>K x r n) n P Zq:=Zz C (fun h=>h.a) (fun h=>h.a) fun t o s c' j g f k=>aX7 ((u t o s c' j g f k).fW (fun h=>⟨⟨h.1.1,h.2.2.2.2.2⟩,by omega⟩) fun h=>⟨trivial,h.1,fun _=>h.2⟩)
def aR1 (s:∀ o c' j g f k:Int,Bo G L l (Lv p m i0 e0 q i k) (Dz True l m 0 i j g f k) (fun x n=>K x [.bool (k==0),.Z 5 x,iD i,iD o,iD c',iD j,iD g,iD f,iD k] n) n P Zq) :Bo G L l (Lv p m i0 e0 q i e) (Dz y l m z i O V W e) (fun x n=>bc P8.I6 (P8 n (.Z 5 x) i d c O V W e) fun r=>K x r n) n P Zq:=aS9 C (fun h=>h.a) (fun h=>h.a) fun o c' j g f k=>aX7 ((s o c' j g f k).fW (fun h=>⟨h.1.1,by omega⟩) fun h=>⟨trivial,h,by omega⟩)
def o1 (f:∀ a c':Int,Bo G L l lv dd (fun x n=>K x [.Z 5 x,iD i,iD a,iD c',iD O,iD V,iD W,iD e] n) n P Zq) :Bo G L l lv dd (fun x n=>bc K7.I6 (K7 n (.Z 5 x) i d c O V W e) fun r=>K x r n) n P Zq:=aL1 C fun a=>aX7 (f a c)
omit C
def s1 {F:PF}{t:Int}(h:Sp L l m pr t Fm F n)(u:∀ (pre f:List D) (o s c' k j g r:Int),Fm pre f→Bo G L l (Lv p m i0 e0 (q+pr) o r) (Dz True l m t o k j g r) (fun x n=>K x (pre++([.Z 5 x,iD o,iD s,iD c',iD k,iD j,iD g,iD r]++f)) n) n P Zq) :Bo G L l (Lv p m i0 e0 q i e) (Dz y l m z i O V W e) (fun x n=>AE.J3 (F n (.Z 5 x) i d c O V W e) fun ds=>K x ds n) n P Zq:=aA1 h (fun h=>h.a) (fun h=>h.a) fun pre f o s c' k j g r v=>(u pre f o s c' k j g r v).fW (fun h=>⟨h.1.1,by omega⟩) fun h=>⟨trivial,h⟩
def e1 {F:PF}{B:Int}(h:Sp L l m pr B fE F n)(I:sk=I9.I6)(J:∀ (w v u t:Int) (o:G1) (s:List D) (j A c' g f a k:Int),Bo G L l (Lv p m i0 e0 (q+pr) j k) (Dz True l m B j g f a k) (fun x n=>K x [.agg [iD w,iD v,iD u,iD t,.str o,.Z 6 s],.Z 5 x,iD j,iD A,iD c',iD g,iD f,iD a,iD k] n) n P Zq) :Bo G L l (Lv p m i0 e0 q i e) (Dz y l m z i O V W e) (fun x n=>bc sk (F n (.Z 5 x) i d c O V W e) fun r=>K x r n) n P Zq:=by refine s1 h fun pre E j A c' g f a k M=>?_;obtain⟨w,v,u,t,o,s,rfl,rfl⟩:=M;subst I;exact aX7 (J w v u t o s j A c' g f a k)
def aR5 {F:PF}{t B:Int}{k:Nat}(h:Sp L l m pr t (fL k B) F n)(w:∀ (ys:List D) (j s c' g f a o:Int),(ys.length:Int)≤B→Bo G L l (Lv p m i0 e0 (q+pr) j o) (Dz True l m t j g f a o) (fun x n=>K x [.Z 5 x,iD j,iD s,iD c',iD g,iD f,iD a,iD o,.Z k ys] n) n P Zq) :Bo G L l (Lv p m i0 e0 q i e) (Dz y l m z i O V W e) (fun x n=>AE.J3 (F n (.Z 5 x) i d c O V W e) fun r=>K x r n) n P Zq:=by refine s1 h fun pre u j s c' g f a o A=>?_;obtain⟨rfl,ys,rfl,v⟩:=A;exact w ys j s c' g f a o v
def mJ {F:PF}{B:Int}(h:Sp L l m pr B fS F n)(I:sk=L7.I6)(J:∀ (w v u t:Int) (o:G1) (s bs zs:List D) (j A c' g f a k:Int),Bo G L l (Lv p m i0 e0 (q+pr) j k) (Dz True l m B j g f a k) (fun x n=>K x [.agg [iD w,iD v,iD u,iD t,.str o,.Z 6 s,.Z 8 bs,.Z 9 zs],.Z 5 x,iD j,iD A,iD c',iD g,iD f,iD a,iD k] n) n P Zq) :Bo G L l (Lv p m i0 e0 q i e) (Dz y l m z i O V W e) (fun x n=>bc sk (F n (.Z 5 x) i d c O V W e) fun r=>K x r n) n P Zq:=by refine s1 h fun pre E j A c' g f a k M=>?_;obtain⟨w,v,u,t,o,s,bs,zs,rfl,rfl⟩:=M;subst I;exact aX7 (J w v u t o s bs zs j A c' g f a k)
def u1 {F:PF}{B:Int}(h:Sp L l m pr B f8 F n)(I:sk=U4.I6)(J:∀ (w v u t:Int) (o:G1) (s bs zs:List D) (j A c' g f a k:Int),Bo G L l (Lv p m i0 e0 (q+pr) j k) (Dz True l m B j g f a k) (fun x n=>K x [.Z 5 x,iD j,iD A,iD c',iD g,iD f,iD a,iD k,iD w,iD v,iD u,iD t,.str o,.Z 6 s,.Z 8 bs,.Z 9 zs] n) n P Zq) :Bo G L l (Lv p m i0 e0 q i e) (Dz y l m z i O V W e) (fun x n=>bc sk (F n (.Z 5 x) i d c O V W e) fun r=>K x r n) n P Zq:=by refine s1 h fun pre E j A c' g f a k M=>?_;obtain⟨w,v,u,t,o,s,bs,zs,rfl,rfl⟩:=M;subst I;exact aX7 (J w v u t o s bs zs j A c' g f a k)
def Qv {F:PF}{A:Int}(h:Sp L l m pr A fI F n)(E:sk=Q2.I6)(I:∀ (k x1 x2 x3:Int) (t ty:G1) (sg:Bool) (ex u w it el pa s:List D) (j v c' g f a o:Int),Bo G L l (Lv p m i0 e0 (q+pr) j o) (Dz True l m A j g f a o) (fun x n=>K x [.agg [iD k,iD x1,iD x2,iD x3,.str t,.str ty,.bool sg,.Z 6 ex,.Z 6 u,.Z 8 w,.Z 14 it,.Z 14 el,.Z 5 pa,.Z 5 s],.Z 5 x,iD j,iD v,iD c',iD g,iD f,iD a,iD o] n) n P Zq) :Bo G L l (Lv p m i0 e0 q i e) (Dz y l m z i O V W e) (fun x n=>bc sk (F n (.Z 5 x) i d c O V W e) fun r=>K x r n) n P Zq:=by refine s1 h fun pre B j v c' g f a o J=>?_;obtain⟨k,x1,x2,x3,t,ty,sg,ex,u,w,it,el,pa,s,rfl,rfl⟩:=J;subst E;exact aX7 (I k x1 x2 x3 t ty sg ex u w it el pa s j v c' g f a o)
def DK {u:Int}(h:NS L l m pr u lv' dd' i e Fm H n)(h1:Lv p m i0 e0 q i e→lv')(w:Dz y l m z i O V W e→dd')(v:∀ (pre a:List D) (o s c' k j g r:Int),Fm pre a→Bo G L l (Lv p m i0 e0 (q+pr) o r) (Dz True l m u o k j g r) (fun x n=>K x (pre++([.Z 5 x,iD o,iD s,iD c',iD k,iD j,iD g,iD r]++a)) n) n P Zq) :Bo G L l (Lv p m i0 e0 q i e) (Dz y l m z i O V W e) (fun x n=>AE.gM (H x n) fun ds=>K x ds n) n P Zq:=by
 refine Bo.gM (h.fW h1 w) fun f=>⟨?_,?_⟩
 ·rintro ⟨hl,pre,a,o,s,c',k,j,g,r,rfl,t,hh⟩;exact (v pre a o s c' k j g r t).1 ⟨hl.1,by omega⟩
 ·rintro ⟨pre,a,o,s,c',k,j,g,r,rfl,t,hh⟩;exact (v pre a o s c' k j g r t).2 ⟨trivial,hh⟩
def IK {o:Int}(h:NS L l m 0 o lv' dd' i e Fm H n)(h1:Lv p m i0 e0 q i e→lv')(t:Dz y l m z i O V W e→dd'):zC L l (Lv p m i0 e0 q i e) (Dz y l m z i O V W e) H n false (SP m i0 e0 0 Fm) (SZ l m o Fm):=by refine Bo.post (Bo.fW h1 t h) ?_ fun f h=>h;rintro f hl ⟨_,⟨pre,a,r,v,c',k,j,g,u,rfl,s,hh⟩,rfl⟩;exact⟨_,⟨pre,a,r,v,c',k,j,g,u,rfl,s,by omega⟩,rfl⟩
def Bo.of (C:Cx L l m)(h0:∀ x,H x 0=none)(h1:dd→i=m∧(e=0∨e=6∧O=((K3 l).at_ 2).i∧V=((K3 l).at_ 3).i∧W=((K3 l).at_ 4).i))(u:lv→0≤i∧i≤m)(dead:∀ j:Nat,i=(j:Int)→Dd l j e→dd→U (H l) (fun h=>∃ f,Zg f∧h=(b,f l))) (live:∀ k,n=k+1→lv→Bo G L l (Lv lv m i e 0 i e) (Dz ((0:Int)=1) l m 0 i O V W e) H (k+1) (fl b Pg) (fl b Zg)):Bo G L l lv dd H n (fl b Pg) (fl b Zg):=by
 refine⟨fun hl=>?_,fun g=>XD ?_⟩
 ·cases n with
  |zero=>intro r o _;exact absurd (o.symm.trans (h0 L)) (by simp)
  |succ k=>exact (live k rfl hl).1 ⟨hl,by have:=u hl;omega⟩
 ·have t:=h1 g;obtain⟨j,a,s⟩:=C.nat t.1;exact dead j a (C.dd (.inr s)) g
def NS.of (C:Cx L l m)(h0:∀ x,H x 0=none)(h1:dd→i=m∧(e=0∨e=6∧O=((K3 l).at_ 2).i∧V=((K3 l).at_ 3).i∧W=((K3 l).at_ 4).i))(w:lv→0≤i∧i≤m)(dead:∀ j:Nat,i=(j:Int)→Dd l j e→dd→U (H l) (aV9 z Fm l j O V W e))(live:∀ k,n=k+1→lv→zC L l (Lv lv m i e 0 i e) (Dz ((0:Int)=1) l m 0 i O V W e) H (k+1) false (SP m i e pr Fm) (SZ l m z Fm)):NS L l m pr z lv dd i e Fm H n:=Bo.of C h0 h1 w (fun j g v o=>(dead j g v o).mono fun B ⟨pre,a,A,c',s,r,q2,f,u,F,t,h⟩=>⟨_,⟨pre,a,j,A,c',s,r,q2,f,rfl,u,by have:=IY F (h1 o);omega,t⟩,h⟩) live
def Sp.aE4 (C:Cx L l m){F:PF}(h0:∀ x a1 a2 a3 a4 o g f,F 0 x a1 a2 a3 a4 o g f=none)(dead:∀ (j:Nat) (d c O V W e:Int),Dd l j e→U (fun n=>F n (.Z 5 l) (j:Int) d c O V W e) (Fd z Fm l j O V W e)) (live:∀ k,n=k+1→∀ i d c O V W e:Int,zC L l (Lv True m i e 0 i e) (Dz ((0:Int)=1) l m 0 i O V W e) (fun x n=>F n (.Z 5 x) i d c O V W e) (k+1) true (SP m i e pr Fm) (SZ l m z Fm)):Sp L l m pr z Fm F n:=Sp.of C h0 dead fun k a i d c O V W e=>(live k a i d c O V W e).fW (fun h=>⟨trivial,by omega⟩) False.elim
def Sp.oE (C:Cx L l m){F:PF}{R:D→Prop}(h0:F 0=fun _ _ _ _ _ _ _ _=>none)(a:∀ y,R y→Fm [y] [])(dead:∀ (j:Nat) (e:Int),Dd l j e→∀ d c O V W:Int,U (fun n=>F n (.Z 5 l) (j:Int) d c O V W e) (F1 R l j O V W e)) (live:∀ k,n=k+1→∀ i d c O V W e:Int,zC L l (Lv True m i e 0 i e) (Dz ((0:Int)=1) l m 0 i O V W e) (fun x n=>F n (.Z 5 x) i d c O V W e) (k+1) true (SP m i e pr Fm) (SZ l m z Fm)):Sp L l m pr z Fm F n:=Sp.aE4 C (fun x a1 a2 a3 a4 o g f=>by rw [h0]) (fun j d c O V W e h=>(dead j e h d c O V W).mono fun _ h=>h.fd a) live
def VT (y:D)(h:GA y):fE [y] []:=by obtain⟨o,k,j,g,a,f,rfl⟩:=h;exact⟨o,k,j,g,a,f,rfl,rfl⟩
def Hb (y:D)(h:y=PE 2 0 0 0 [] []):fE [y] []:=by subst h;exact⟨_,_,_,_,_,_,rfl,rfl⟩
def rt {f:Int}(pre a:List D)(g:Fm pre a)(k:∀ x n,KK x n=some (b,pre++([.Z 5 x,iD i,iD d,iD c,iD O,iD V,iD W,iD e]++a)):=by exact fun _ _=>rfl)(o:pr≤q:=by decide)(j:f=1→z=1:=by decide):Bo G L l (Lv p m i0 e0 q i e) (Dz y l m z i O V W e) KK n (fl b (SP m i0 e0 pr Fm)) (fl b (SZ l m f Fm)):=Bo.ret k (fun h=>⟨pre,a,i,d,c,O,V,W,e,rfl,g,by omega⟩) fun h=>⟨pre,a,i,d,c,O,V,W,e,rfl,g,h.2.1,fun h1=>h.2.2 (j h1)⟩
def rx {g:Int}(pre a:List D)(j:e≠0)(f:Fm pre a)(k:∀ x n,KK x n=some (b,pre++([.Z 5 x,iD i,iD d,iD c,iD O,iD V,iD W,iD e]++a))):Bo G L l (Lv p m i0 e0 q i e) (Dz y l m z i O V W e) KK n (fl b (SP m i0 e0 pr Fm)) (fl b (SZ l m g Fm)):=Bo.ret k (fun h=>⟨pre,a,i,d,c,O,V,W,e,rfl,f,by omega⟩) fun h=>⟨pre,a,i,d,c,O,V,W,e,rfl,f,h.2.1,fun _=>j⟩
def rb {pr':Int}{o:(List D→Bool×List D)→Prop}(h:Bo G L l (Lv p m i e 0 i e) (Dz y l m z i O V W e) KK n (fl b (SP m i e pr' Fm)) o)(v:pr≤q):Bo G L l (Lv p m i0 e0 q i e) (Dz y l m z i O V W e) KK n (fl b (SP m i0 e0 pr Fm)) o:=by refine Bo.post (h.fW (fun h=>⟨h.1,by omega⟩) id) ?_ fun f h=>h;rintro f hl ⟨_,⟨pre,a,r,u,c',k,j,g,t,rfl,s,hh⟩,rfl⟩;exact⟨_,⟨pre,a,r,u,c',k,j,g,t,rfl,s,by omega⟩,rfl⟩
def rE {a o k j h:Int}{f:G1}{g:List D}(t:∀ x n,KK x n=some (b,[.agg [iD o,iD k,iD j,iD h,.str f,.Z 6 g],.Z 5 x,iD i,iD d,iD c,iD O,iD V,iD W,iD e]):=by exact fun _ _=>rfl)(s:pr≤q:=by decide)(r:a=1→z=1:=by decide):Bo G L l (Lv p m i0 e0 q i e) (Dz y l m z i O V W e) KK n (fl b (SP m i0 e0 pr fE)) (fl b (SZ l m a fE)):=rt _ [] ⟨_,_,_,_,_,_,rfl,rfl⟩ t s r
end
end
section
attribute [local simp] Y tk jG nB oC jH mM List.getElem?_cons_zero
section
variable {L l:List D} {m:Int}
def aW6 (j a9 a10 a11 a12 a14 a15 i:Int)(a13:G1)(h:List D)(pre a:List D):Prop:=∃ (g f e d:Int) (c:G1) (b:List D),pre=[iD j]∧a=[iD a9,iD a10,iD a11,iD a12,.str a13,iD a14,iD a15,iD i,iD g,iD f,iD e,iD d,.str c,.Z 6 b,.Z 6 h]
def aK3 (L l:List D)(m:Int)(n:Nat):Prop:=∀ (j:Nat) (a9 a10 a11 a12 a14 a15 b p o k h:Int) (a13 g:G1) (f a:List D) (i d c O V W e:Int),j<10→
 NS L l m 0 0 (0≤i∧i≤m) (i=m∧(e=0∨e=6∧O=((K3 l).at_ 2).i∧V=((K3 l).at_ 3).i∧W=((K3 l).at_ 4).i)) i e (aW6 j a9 a10 a11 a12 a14 a15 b a13 a) (fun x n=>R4 n (j:Int) (.Z 5 x) i d c O V W e a9 a10 a11 a12 (.str a13) a14 a15 b p o k h (.str g) (.Z 6 f) (.Z 6 a)) n
def aK4 (L l:List D)(m:Int)(n:Nat):Prop:=∀ (acc:List D) (i d c O V W e:Int),(acc.length:Int)≤m+2→
 NS L l m 0 0 ((0≤i∧i≤m)∧(e=0→(acc.length:Int)≤i+1)) (i=m∧(e=0∨e=6∧O=((K3 l).at_ 2).i∧V=((K3 l).at_ 3).i∧W=((K3 l).at_ 4).i)) i e (fL 6 (m+3)) (fun x n=>V7 n (.Z 5 x) i d c O V W e (.Z 6 acc)) n
structure Kh (L l:List D) (m:Int) (n:Nat):Prop where
 expr:Sp L l m 0 0 fE (fun n=>I9 n) n
 level:∀ j:Nat,j≤10→Sp L l m 0 0 fE (fun n=>R8 n (j:Int)) n
 levelL:aK3 L l m n
 unary:Sp L l m 0 0 fE (fun n=>S3 n) n
 one:Sp L l m 0 0 fE (fun n=>bB n) n
 left:Sp L l m 0 0 fE (fun n=>Q1 n) n
 call:∀ (a0 a2 a3 a4:Int) (a1:G1),Sp L l m 0 0 fE (fun n=>V8 n (.agg [iD a0,.str a1,iD a2,iD a3,iD a4])) n
 braces:∀ a0 a1 a2:Int,Sp L l m 0 0 fE (fun n=>X8 n (.agg [iD a0,iD a1,iD a2])) n
 exprs:Sp L l m 0 0 (fL 6 (m+3)) (fun n=>O7 n) n
 exprsL:aK4 L l m n
variable (C:Cx L l m) {n:Nat}
include C
def Sy (A:∀ k,n=k+1→Kh L l m k):Sp L l m 0 0 fE (fun n=>Q1 n) n:=by
 refine Sp.oE C rfl Hb (fun _ _=>Eu) fun k a i d c O V W e=>?_;have hm:=C.m0;have A:=A k a;refine Bo.eq (fun x n=>gA n x i d c O V W e) (n1 C fun _ t _ _ _ d c=>m1 C fun b i d c O V W e=>t1 C [91] rfl (fun i d c=>?_) fun d c=>?_)
 ·refine aX9 (e1 A.expr rfl fun _ _ _ _ _ _ i d c O V W e=>t1 C [58] rfl (fun i d c=>?_) fun d c=>?_)
  ·refine aX7 (e1 A.expr rfl fun _ _ _ _ _ _ i d c O V W e=>(w1 C [93] rfl fun i d c O V W e=>?_));dsimp +instances;exact rE
  ·refine aX9 (w1 C [93] rfl fun i d c O V W e=>?_);dsimp +instances;exact rE
 ·refine aX7 ?_;dsimp +instances;exact rE
def inc {i:Int}(h:0≤i∧i<m):i64.wrap (i+1)=i+1:=by have:=C.m0;exact Q3
def Su (A:∀ k,n=k+1→Kh L l m k)(a0 a2 a3 a4:Int)(a1:G1):Sp L l m 0 0 fE (fun n=>V8 n (.agg [iD a0,.str a1,iD a2,iD a3,iD a4])) n:=by refine Sp.oE C rfl VT (fun _ _=>aB6) fun k b i d c O V W e=>Bo.eq (fun x n=>nH n a0 a1 a2 a3 a4 x i d c O V W e) (w1 C [40] rfl fun i d c O V W e=>aR5 (A k b).exprs fun ys i d c O V W e a=>aX7 (w1 C [41] rfl fun i d c O V W e=>?_));dsimp +instances;exact rE
def Cq (A:∀ k,n=k+1→Kh L l m k)(a0 a1 a2:Int):Sp L l m 0 0 fE (fun n=>X8 n (.agg [iD a0,iD a1,iD a2])) n:=by
 refine Sp.oE C rfl VT (fun _ _=>Pu) fun k f i d c O V W e=>Bo.eq (fun x n=>iI n a0 a1 a2 x i d c O V W e) ?_;have A:=A k f;have hm:=C.m0;refine aR5 A.exprs fun ys i d c O V W e b=>aX7 ?_;dsimp +instances;refine Bo.ite (fun _=>?_) fun _=>?_
 ·refine t1 C [123] rfl (fun i d c=>?_) fun d c=>?_
  ·refine (aX7 (aR5 A.exprs fun zs i d c O V W e a=>aX7 ?_));dsimp +instances;refine Bo.LB (fun _=>B2 (by show ys.length+zs.length≤L9;simp only [L9];omega)) fun _=>?_;refine w1 C [125] rfl fun i d c O V W e=>(w1 C [125] rfl fun i d c O V W e=>?_);dsimp +instances;exact rE
  ·refine (aX9 (w1 C [125] rfl fun i d c O V W e=>?_));dsimp +instances;exact rE
 ·refine (aX9 (w1 C [125] rfl fun i d c O V W e=>?_));dsimp +instances;exact rE
def Cr (A:∀ k,n=k+1→Kh L l m k):aK4 L l m n:=by
 intro acc i d c O V W e f;have hm:=C.m0;refine NS.of C (fun _=>rfl) (fun h=>h) (fun h=>h.1) ?_ fun k b o=>?_
 ·rintro j rfl g _;exact (An g d c O V W).mono fun r h=>⟨[],[_],d,c,O,V,W,e,⟨rfl,acc,rfl,by omega⟩,Fq.refl,fun h=>absurd h (by decide),h⟩
 refine Bo.eq (fun x n=>fP n x i d c O V W e acc) (t1 C [44] rfl (fun i d c=>?_) fun d c=>?_)
 ·refine aX7 (Bo.UO Dz.no fun hp=>e1 (A k b).expr rfl fun _ _ _ _ _ _ i d c O V W e=>?_);dsimp +instances;refine Bo.LB (fun _=>B2 (by simp only [L9];omega)) fun _=>?_;exact IK ((A k b).exprsL _ i d c O V W e (by rw [A7,C9];omega)) (fun h=>by rw [A7,C9];omega) Dz.a
 ·refine aX9 ?_;(try dsimp +instances);exact rt [] [_] ⟨rfl,acc,rfl,by omega⟩
def Jj (A:∀ k,n=k+1→Kh L l m k):Sp L l m 0 0 (fL 6 (m+3)) (fun n=>O7 n) n:=by have hm:=C.m0;have h1:=C.h1;refine Sp.aE4 C (fun _ _ _ _ _ _ _ _=>rfl) (fun j d c O V W e h=>(GU h d c O V W).mono fun r ⟨y,d,c,q,p,q2,f,F,s,h⟩=>⟨[],[_],d,c,q,p,q2,f,⟨rfl,[y],rfl,by rw [C9];omega⟩,F,fun _=>s,h⟩) fun k g i d c O V W e=>Bo.eq (fun x n=>mG n x i d c O V W e) ?_;refine e1 (A k g).expr rfl fun _ _ _ _ _ _ i d c O V W e=>DK ((A k g).exprsL _ i d c O V W e (by rw [C9];omega)) (fun h=>by rw [C9];omega) Dz.a fun pre o i d c O V W e t=>?_;obtain⟨rfl,ys,rfl,b⟩:=t;refine aX7 ?_;(try dsimp +instances);exact rt [] [_] ⟨rfl,ys,rfl,b⟩
def Za (A:∀ k,n=k+1→Kh L l m k):Sp L l m 0 0 fE (fun n=>bB n) n:=by
 refine Sp.oE C rfl Hb (fun _ _=>Yd) fun k q b d c O V W f=>Bo.eq (fun x n=>aE n x b d c O V W f) ?_;have A:=A k q;refine n2 C fun k t a b' g d c j=>?_;dsimp +instances;refine Bo.ite (fun r=>?_) fun _=>?_
 ·have p:k=2:=eq_of_beq r;refine Bo.fW (dd':=False) id (fun h=>by omega) (Bo.live fun o=>?_);show Bo _ L l _ _ (fun x n=>some (true,[_,.Z 5 x,iD (i64.wrap (b+1)),iD d,iD c,iD O,iD V,iD W,iD f])) _ _ _;rw [inc C (i:=b) (by omega)];exact Bo.ret (fun _ _=>rfl) (fun _=>⟨[_],[],b+1,d,c,O,V,W,f,rfl,⟨_,_,_,_,_,_,rfl,rfl⟩,by omega⟩) False.elim
 refine Bo.fW (lv':=Lv True m b f 0 b f) (dd':=Dz True l m 0 b O V W f) (fun h=>⟨trivial,h.2⟩) (fun h=>⟨trivial,h.2⟩) (t1 C [40] rfl (fun i d c=>?_) fun d c=>?_)
 ·refine aX7 (e1 A.expr rfl fun _ _ _ _ _ _ i d c O V W e=>w1 C [41] rfl fun i d c O V W e=>?_);dsimp +instances;exact rE
 refine aX9 (t1 C [123] rfl (fun i d c=>?_) fun d c=>?_)
 ·refine aX7 (e1 (A.braces _ _ _) rfl fun _ _ _ _ _ _ i d c O V W e=>?_);dsimp +instances;exact rE
 refine aX9 (i1 C [36,115,105,103,110,101,100] rfl (fun d c=>?_) fun d c=>?_)
 ·refine aX7 ?_
  ((try dsimp +instances);refine Bo.UO (fun h=>by omega) fun o=>?_;rw [inc C (i:=b) (by omega)];refine Bo.fW (lv':=Lv True m b f 1 (b+1) f) (dd':=Dz ((0:Int)=1) l m 0 (b+1) O V W f) (fun h=>⟨trivial,by omega⟩) (fun h=>by omega) ?_)
  refine e1 (A.call _ _ _ _ _) rfl fun _ _ _ _ _ _ i d c O V W e=>?_;dsimp +instances;exact rE
 refine aX9 (i1 C [36,117,110,115,105,103,110,101,100] rfl (fun d c=>?_) fun d c=>?_)
 ·refine aX7 ?_
  ((try dsimp +instances);refine Bo.UO (fun h=>by omega) fun o=>?_;rw [inc C (i:=b) (by omega)];refine Bo.fW (lv':=Lv True m b f 1 (b+1) f) (dd':=Dz ((0:Int)=1) l m 0 (b+1) O V W f) (fun h=>⟨trivial,by omega⟩) (fun h=>by omega) ?_)
  refine e1 (A.call _ _ _ _ _) rfl fun _ _ _ _ _ _ i d c O V W e=>?_;dsimp +instances;exact rE
 refine aX9 (e1 A.left rfl fun _ _ _ _ _ _ i d c O V W e=>?_);dsimp +instances;refine Bo.ite (fun _=>?_) fun _=>?_
 ·refine i1 C [40] rfl (fun d c=>?_) fun d c=>?_
  ·refine (aX7 (e1 (A.call _ _ _ _ _) rfl fun _ _ _ _ _ _ i d c O V W e=>?_));dsimp +instances;exact rE
  ·refine (aX9 ?_);dsimp +instances;exact rE
 ·refine (aX9 ?_);dsimp +instances;exact rE
def Jn (A:∀ k,n=k+1→Kh L l m k):Sp L l m 0 0 fE (fun n=>S3 n) n:=by
 refine Sp.oE C rfl Hb (fun _ _=>Hw) fun k q b d c O V W f=>Bo.eq (fun x n=>jF n x b d c O V W f) ?_;have A:=A k q;refine n2 C fun k t a b' g d c o=>?_;dsimp +instances;refine Bo.ite (fun _=>?_) fun u=>?_
 ·refine (aX7 (e1 A.one rfl fun _ _ _ _ _ _ i d c O V W e=>?_));dsimp +instances;exact rE
 have p:k=3:=Classical.byContradiction fun h=>by exact absurd (show (k !=3)=false from u) (by rw [bne_iff_ne.2 h];decide)
 refine Bo.fW (lv':=Lv (b<m) m b f 0 b f) (dd':=Dz ((0:Int)=1) l m 0 b O V W f) (fun h=>⟨by omega,h.2⟩) (fun h=>by omega) (Bo.LB (fun h=>by omega) fun _=>Bo.LB (fun h=>by omega) fun _=>OF (fun r j=>EU (by decide) j) (fY (by decide) _) (aX7 (Bo.df (fun x n=>X0.eq_1 n _ _) (Bo.ite (fun _=>?_) fun _=>?_))))
 ·refine e1 A.one rfl fun _ _ _ _ _ _ i d c O V W e=>?_;dsimp +instances;exact rE
 refine Bo.UO Dz.no fun s=>aR1 C fun d c O V W e=>?_;dsimp +instances;refine Bo.ite (fun _=>?_) fun _=>?_
 ·refine o1 C fun d c=>?_;dsimp +instances;exact rE
 ((try dsimp +instances);refine Bo.UO (fun h=>by omega) fun s=>?_;rw [inc C (i:=b) (by omega)];refine Bo.fW (lv':=Lv True m b f 1 (b+1) e) (dd':=Dz ((0:Int)=1) l m 0 (b+1) O V W e) (fun h=>⟨trivial,by omega⟩) (fun h=>by omega) ?_)
 refine e1 A.unary rfl fun _ _ _ _ _ _ i d c O V W e=>?_;dsimp +instances;refine Bo.ite (fun _=>?_) fun _=>?_
 ·refine o1 C fun d c=>?_;dsimp +instances;exact rE
 refine OF (fun r j=>Ja j) (Jb _) (aX7 (o1 C fun d c=>?_));dsimp +instances;exact rE
def Cu (A:∀ k,n=k+1→Kh L l m k):aK3 L l m n:=by
 intro j a9 a10 a11 a12 a14 a15 G F E B z a13 y w v b d c O V W f q;refine NS.of C (fun _=>rfl) (fun h=>h) (fun h=>h) ?_ fun k K M=>?_
 ·rintro j rfl Q _;exact (Pz Q d c O V W).mono fun r h=>⟨[_],_,d,c,O,V,W,f,⟨_,_,_,_,_,_,rfl,rfl⟩,Fq.refl,fun h=>absurd h (by decide),h⟩
 have A:=A k K;have P:(ix (NG.map D.str) ((j:Nat):Int)) = .str (NG[j]?.getD []):=by rw [ix,show ((j:Nat):Int).toNat=j from rfl,List.getElem?_map,C2 (show j<NG.length from q)];rfl
 have u:(ix (NG.map D.str) ((j:Nat):Int)).s=NG[j]?.getD []:=congrArg D.s P;have o:(ix (NG.map D.str) ((j:Nat):Int)).s.length≤4294967280:=by rw [u,C2 (show j<NG.length from q)];exact Nat.le_trans (Rd _ (C6 _)) (by decide)
 refine Bo.eq (fun x n=>fQ n j x b d c O V W f a9 a10 a11 a12 a13 a14 a15 G F E B z y w v) (Bo.ite (fun I=>?_) fun _=>?_)
 ·have I:f=0:=eq_of_beq I;refine n2 C fun k t a b' g d c H=>?_;dsimp +instances;refine Bo.ite (fun _=>?_) fun N=>?_
  ·refine (aX7 ?_);(try dsimp +instances);exact rt [_] [_,_,_,_,_,_,_,_,_,_,_,_,_,_,_] ⟨_,_,_,_,_,_,rfl,rfl⟩
  have J:k=3:=Classical.byContradiction fun h=>by exact absurd (show (k !=3)=false from N) (by rw [bne_iff_ne.2 h];decide)
  refine Bo.fW (lv':=Lv (b<m) m b f 0 b f) (dd':=Dz ((0:Int)=1) l m 0 b O V W f) (fun h=>⟨by omega,h.2⟩) (fun h=>by omega) (Bo.LB (fun h=>by omega) fun _=>Bo.LB (fun h=>by omega) fun _=>Bo.LB (fun h=>by omega) fun _=>Bo.LB (fun h=>by omega) fun _=>OF (fun r p=>EU (s:=(ix (NG.map D.str) ((j:Nat):Int)).s) o p) (fY (s:=(ix (NG.map D.str) ((j:Nat):Int)).s) o _) (aX7 (Bo.df (fun x n=>Z0.eq_1 n ..) (Bo.ite (fun _=>?_) fun _=>?_))))
  ·(try dsimp +instances);exact rt [_] [_,_,_,_,_,_,_,_,_,_,_,_,_,_,_] ⟨_,_,_,_,_,_,rfl,rfl⟩
  refine OF (fun r p=>Ja p) (Jb _) (aX7 ?_)
  ((try dsimp +instances);refine Bo.UO (fun h=>by omega) fun M=>?_;rw [inc C (i:=b) (by omega)];refine Bo.fW (lv':=Lv True m b f 1 (b+1) f) (dd':=Dz ((0:Int)=1) l m 0 (b+1) O V W f) (fun h=>⟨trivial,by omega⟩) (fun h=>by omega) ?_)
  rw [P4];exact e1 (A.level (j+1) (by omega)) rfl fun _ _ _ _ _ _ i d c O V W e=>IK (A.levelL j _ _ _ _ _ _ _ _ _ _ _ _ _ _ _ i d c O V W e q) Lv.a Dz.a
 ·(try dsimp +instances);exact rt [_] [_,_,_,_,_,_,_,_,_,_,_,_,_,_,_] ⟨_,_,_,_,_,_,rfl,rfl⟩
def Jl (A:∀ k,n=k+1→Kh L l m k)(j:Nat)(f:j≤10):Sp L l m 0 0 fE (fun n=>R8 n (j:Int)) n:=by
 refine Sp.oE C rfl Hb (fun i e h d c O V W=>WR h d c O V W (10-j) j (by omega)) fun k b i d c O V W e=>Bo.eq (fun x n=>cV n j x i d c O V W e) (Bo.ite (fun _=>?_) fun g=>?_)
 ·refine e1 (A k b).unary rfl fun _ _ _ _ _ _ i d c O V W e=>?_;dsimp +instances;exact rE
 have f:j<10:=by
  have:(j:Int)≠10:=fun h=>by rw [show ((j:Int)==10)=true from beq_iff_eq.2 h] at g;cases g
  omega
 refine n1 C fun _ t _ _ _ d c=>?_;rw [P4];refine e1 ((A k b).level (j+1) (by omega)) rfl fun _ _ _ _ _ _ i d c O V W e=>DK ((A k b).levelL j _ _ _ _ _ _ _ _ _ _ _ _ _ _ _ i d c O V W e f) Lv.a Dz.a fun pre o i d c O V W e p=>?_;obtain⟨_,_,_,_,_,_,rfl,rfl⟩:=p;refine aX7 ?_;dsimp +instances;exact rE
def Sw (A:∀ k,n=k+1→Kh L l m k):Sp L l m 0 0 fE (fun n=>I9 n) n:=by
 refine Sp.oE C rfl VT (fun _ _=>wY) fun k a i d c O V W e=>Bo.eq (fun x n=>jX n x i d c O V W e) ?_;have A:=A k a;refine n1 C fun _ t _ _ _ d c=>aR1 C fun d c O V W e=>?_;dsimp +instances;refine Bo.ite (fun _=>?_) fun _=>?_
 ·refine o1 C fun d c=>?_;dsimp +instances;exact rE
 refine e1 (A.level 0 (by omega)) rfl fun _ _ _ _ _ _ i d c O V W e=>t1 C [63] rfl (fun i d c=>?_) fun d c=>?_
 ·refine aX9 (e1 A.expr rfl fun _ _ _ _ _ _ i d c O V W e=>w1 C [58] rfl fun i d c O V W e=>e1 A.expr rfl fun _ _ _ _ _ _ i d c O V W e=>o1 C fun d c=>?_);dsimp +instances;exact rE
 ·refine aX7 (o1 C fun d c=>?_);dsimp +instances;exact rE
def RZ:∀ n,Kh L l m n
 |0=>have A:∀ k,0=k+1→Kh L l m k:=fun k h=>absurd h (by omega)
  ⟨Sw C A,Jl C A,Cu C A,Jn C A,Za C A,Sy C A,Su C A,Cq C A,Jj C A,Cr C A⟩
 |n+1=>have A:∀ k,n+1=k+1→Kh L l m k:=fun k h=>by have:n=k:=by omega
                                                  subst this;exact RZ n
  ⟨Sw C A,Jl C A,Cu C A,Jn C A,Za C A,Sy C A,Su C A,Cq C A,Jj C A,Cr C A⟩
end
end
section
attribute [local simp] Y tk jG nB oC jH mM List.getElem?_cons_zero
def fO (pre a:List D):Prop:=∃ (t:G1) (ys:List D),pre=[.str t]∧a=[.Z 6 ys]
section
variable {L l:List D} {m:Int} (C:Cx L l m) {n:Nat}
include C
omit C in
def aW2 {nm:G1}(h:0<(nm.length:Int)):Ne [.str nm,.str [61]]:=fun y a=>by
 rcases B7.1 a with rfl|a
 ·exact⟨nm,rfl,by omega⟩
 rcases B7.1 a with rfl|a
 ·exact⟨_,rfl,by decide⟩
 cases a
def NM:Sp L l m 1 0 fE (fun n=>R9 n) n:=by refine Sp.oE C rfl VT (fun _ _=>WT) fun k a i d c O V W e=>Bo.eq (fun x n=>mI n x i d c O V W e) (w1 C [40] rfl fun i d c O V W e=>e1 (RZ C _).expr rfl fun _ _ _ _ _ _ i d c O V W e=>w1 C [41] rfl fun i d c O V W e=>?_);dsimp +instances;exact rE
def Sz:Sp L l m 1 0 fO (fun n=>aI n) n:=by refine Sp.aE4 C (fun _ _ _ _ _ _ _ _=>rfl) (fun j d c O V W e h=>(aB7 h d c O V W).mono fun r ⟨_,_,_,d,c,b,a,q2,f,F,g,h⟩=>⟨[_],[_],d,c,b,a,q2,f,⟨_,_,rfl,rfl⟩,F,fun _=>g,h⟩) fun k o i d c O V W e=>Bo.eq (fun x n=>nK n x i d c O V W e) (w1 C [40] rfl fun i d c O V W e=>m1 C fun nm i d c O V W e=>rb (pr':=0) ?_ (by decide));refine w1 C [61] rfl fun i d c O V W e=>e1 (RZ C _).expr rfl fun _ _ _ _ _ _ i d c O V W e=>w1 C [59] rfl fun i d c O V W e=>e1 (RZ C _).expr rfl fun _ _ _ _ _ _ i d c O V W e=>wN C [59] [.str nm,.str [61]] (B3 rfl) rfl (fun h p=>aW2 (by omega)) fun i d c O V W e=>e1 (RZ C _).expr rfl fun _ _ _ _ _ _ i d c O V W e=>w1 C [41] rfl fun i d c O V W e=>?_;(try dsimp +instances);exact rt [_] [_] ⟨_,_,rfl,rfl⟩
omit C in
def Nr {z:Int}{i:Nat}{O V W e:Int}{r:Bool×List D}(h:FS l i O V W e r):Fd z f8 l i O V W e r:=by obtain⟨k,a,b,g,t,es,bs,zs,d,c,o,j,q2,f,F,p,h⟩:=h;exact⟨[],[_,_,_,_,_,_,_,_],d,c,o,j,q2,f,⟨_,_,_,_,_,_,_,_,rfl,rfl⟩,F,fun _=>p,h⟩
def Cp (a8 a9 a10 a11:Int)(a12:G1)(a13 a14 a15:List D):Sp L l m 1 0 f8 (fun n x1 x2 x3 x4 x5 x6 x7 x8=>U4 n x1 x2 x3 x4 x5 x6 x7 x8 a8 a9 a10 a11 (.str a12) (.Z 6 a13) (.Z 8 a14) (.Z 9 a15)) n:=by refine Sp.aE4 C (fun _ _ _ _ _ _ _ _=>rfl) (fun j d c O V W e h=>(Pt h d c O V W).mono fun _ h=>Nr h) fun k a i d c O V W e=>Bo.eq (fun x n=>lO n x i d c O V W e a8 a9 a10 a11 a12 a13 a14 a15) (w1 C [97,115,115,101,114,116] rfl fun i d c O V W e=>e1 (NM C) rfl fun _ _ _ _ _ _ i d c O V W e=>w1 C [59] rfl fun i d c O V W e=>?_);(try dsimp +instances);exact rt [] [_,_,_,_,_,_,_,_] ⟨_,_,_,_,_,_,_,_,rfl,rfl⟩
def Td (a8 a9 a10 a11:Int)(a12:G1)(a13 a14 a15:List D):Sp L l m 1 0 f8 (fun n x1 x2 x3 x4 x5 x6 x7 x8=>aF n x1 x2 x3 x4 x5 x6 x7 x8 a8 a9 a10 a11 (.str a12) (.Z 6 a13) (.Z 8 a14) (.Z 9 a15)) n:=by
 refine Sp.aE4 C (fun _ _ _ _ _ _ _ _=>rfl) (fun j d c O V W e h=>(Aq h d c O V W).mono fun _ h=>Nr h) fun k a i d c O V W e=>Bo.eq (fun x n=>iJ n x i d c O V W e a8 a9 a10 a11 a12 a13 a14 a15) (e1 ((RZ C _).left) rfl fun _ _ _ _ _ _ i d c O V W e=>?_);dsimp +instances;refine Bo.ite (fun _=>?_) fun _=>?_
 ·refine t1 C [58] rfl (fun i d c=>?_) fun d c=>?_
  ·refine (aX7 (u1 (Cp C _ _ _ _ _ _ _ _) rfl fun _ _ _ _ _ _ _ _ i d c O V W e=>?_));(try dsimp +instances);exact rt [] [_,_,_,_,_,_,_,_] ⟨_,_,_,_,_,_,_,_,rfl,rfl⟩
  ·refine (aX9 (t1 C [60,61] rfl (fun i d c=>?_) fun d c=>?_))
   ·refine aX7 (e1 (RZ C _).expr rfl fun _ _ _ _ _ _ i d c O V W e=>w1 C [59] rfl fun i d c O V W e=>?_);(try dsimp +instances);exact rt [] [_,_,_,_,_,_,_,_] ⟨_,_,_,_,_,_,_,_,rfl,rfl⟩
   ·refine aX9 (w1 C [61] rfl fun i d c O V W e=>(e1 (RZ C _).expr rfl fun _ _ _ _ _ _ i d c O V W e=>w1 C [59] rfl fun i d c O V W e=>?_));(try dsimp +instances);exact rt [] [_,_,_,_,_,_,_,_] ⟨_,_,_,_,_,_,_,_,rfl,rfl⟩
 ·refine (aX9 (t1 C [60,61] rfl (fun i d c=>?_) fun d c=>?_))
  ·refine aX7 (e1 (RZ C _).expr rfl fun _ _ _ _ _ _ i d c O V W e=>w1 C [59] rfl fun i d c O V W e=>?_);(try dsimp +instances);exact rt [] [_,_,_,_,_,_,_,_] ⟨_,_,_,_,_,_,_,_,rfl,rfl⟩
  ·refine aX9 (w1 C [61] rfl fun i d c O V W e=>(e1 (RZ C _).expr rfl fun _ _ _ _ _ _ i d c O V W e=>w1 C [59] rfl fun i d c O V W e=>?_));(try dsimp +instances);exact rt [] [_,_,_,_,_,_,_,_] ⟨_,_,_,_,_,_,_,_,rfl,rfl⟩
def aK0 (L l:List D)(m:Int)(n:Nat):Prop:=∀ (a8 a9 a10 a11:Int) (a12:G1) (a13 a14 acc:List D) (i d c O V W e:Int),(acc.length:Int)≤m+2→
 NS L l m 0 0 ((0≤i∧i≤m)∧(e=0→(acc.length:Int)≤i+1)) (i=m∧(e=0∨e=6∧O=((K3 l).at_ 2).i∧V=((K3 l).at_ 3).i∧W=((K3 l).at_ 4).i)) i e f8 (fun x n=>S8 n (.Z 5 x) i d c O V W e a8 a9 a10 a11 (.str a12) (.Z 6 a13) (.Z 8 a14) (.Z 9 acc)) n
def f16 (p o f e:Int)(d:G1)(j i h:List D)(q pre c:List D):Prop:=∃ (k a b g:Int) (t:G1) (es bs zs:List D),pre=q∧c=[iD p,iD o,iD f,iD e,.str d,iD k,iD a,iD b,iD g,.str t,.Z 6 j,.Z 8 i,.Z 9 h,.Z 6 es,.Z 8 bs,.Z 9 zs]
def aK1 (L l:List D)(m:Int)(n:Nat):Prop:=∀ (p o f b:Int) (a:G1) (k t s r:Int) (q:G1) (j h g es bs zs:List D) (i d c O V W e:Int),(bs.length:Int)≤m+2→
 NS L l m 0 0 ((0≤i∧i≤m)∧(e=0→(bs.length:Int)≤i+1)) (i=m∧(e=0∨e=6∧O=((K3 l).at_ 2).i∧V=((K3 l).at_ 3).i∧W=((K3 l).at_ 4).i)) i e (f16 p o f b a j h g []) (fun x n=>U6 n (.Z 5 x) i d c O V W e p o f b (.str a) k t s r (.str q) (.Z 6 j) (.Z 8 h) (.Z 9 g) (.Z 6 es) (.Z 8 bs) (.Z 9 zs)) n
def aV3 (L l:List D)(m:Int)(n:Nat):Prop:=∀ (q:Bool) (p o f b:Int) (a:G1) (k u t s:Int) (r:G1) (j h g es bs zs:List D) (i d c O V W e:Int),(zs.length:Int)≤1→
 NS L l m 1 0 (0≤i∧i≤m) (i=m∧(e=0∨e=6∧O=((K3 l).at_ 2).i∧V=((K3 l).at_ 3).i∧W=((K3 l).at_ 4).i)) i e (f16 p o f b a j h g [.bool q]) (fun x n=>W9 n (.bool q) (.Z 5 x) i d c O V W e p o f b (.str a) k u t s (.str r) (.Z 6 j) (.Z 8 h) (.Z 9 g) (.Z 6 es) (.Z 8 bs) (.Z 9 zs)) n
structure Xr (L l:List D) (m:Int) (n:Nat):Prop where
 stmt:Sp L l m 1 0 fS (fun n=>L7 n) n
 block:aK1 L l m n
 rows:aK0 L l m n
 cases:∀ (a8 a9 a10 a11:Int) (a12:G1) (a13 a14 a15:List D),(a15.length:Int)≤1→Sp L l m 1 0 f8 (fun n x1 x2 x3 x4 x5 x6 x7 x8=>aN n x1 x2 x3 x4 x5 x6 x7 x8 a8 a9 a10 a11 (.str a12) (.Z 6 a13) (.Z 8 a14) (.Z 9 a15)) n
 c63:aV3 L l m n
omit C in
def Zp (y:D)(h:aR8 y):fS [y] []:=by obtain⟨k,a,b,g,t,es,bs,zs,rfl⟩:=h;exact⟨k,a,b,g,t,es,bs,zs,rfl,rfl⟩
def Tc (A:∀ k,n=k+1→Xr L l m k):aK0 L l m n:=by
 intro a8 a9 a10 a11 a12 a13 a14 acc i d c O V W e g;have hm:=C.m0;refine NS.of C (fun _=>rfl) (fun h=>h) (fun h=>h.1) ?_ fun k s u=>?_
 ·rintro j rfl t _;exact (Al (by omega) t d c O V W).mono fun r ⟨zs,d,c,p,o,q2,f,F,v,h⟩=>⟨[],[_,_,_,_,_,_,_,_],d,c,p,o,q2,f,⟨_,_,_,_,_,_,_,_,rfl,rfl⟩,F,fun h=>absurd h (by decide),h⟩
 have A:=A k s;have J:e=0→∀ (y:Prop) (d c:Int),zC L l (Lv True m i e 0 i e) (Dz y l m 0 i O V W e) (fun x n=>O0 n true x i d c O V W e acc a8 a9 a10 a11 a12 a13 a14) k false (SP m i e 0 f8) (SZ l m 0 f8):=by
  intro b y d c;refine (aX7 (t1 C [100,101,102,97,117,108,116] rfl (fun i d c=>?_) fun d c=>?_))
  ·refine aX9 (w1 C [58] rfl fun i d c O V W e=>mJ A.stmt rfl fun _ _ _ _ _ _ _ _ i d c O V W e=>Bo.LB (fun _=>B2 (by simp only [L9];omega)) fun _=>?_);refine Bo.LB (fun _=>L0 aX8 (E6 (by rw [A7,C9];omega))) fun _=>?_;exact IK (A.rows _ _ _ _ _ _ _ _ i d c O V W e (by rw [List.length_set,A7,C9];omega)) (fun h=>by rw [List.length_set,A7,C9];omega) Dz.a
  ·refine aX7 (aR5 ((RZ C _).exprs) fun ys i d c O V W e q=>aX7 (w1 C [58] rfl fun i d c O V W e=>mJ A.stmt rfl fun _ _ _ _ _ _ _ _ i d c O V W e=>Bo.LB (fun _=>B2 (by simp only [L9];omega)) fun _=>?_));refine Bo.LB (fun _=>L0 aX8 (E6 (by rw [A7,C9];omega))) fun _=>?_;exact IK (A.rows _ _ _ _ _ _ _ _ i d c O V W e (by rw [List.length_set,A7,C9];omega)) (fun h=>by rw [List.length_set,A7,C9];omega) Dz.a
 refine Bo.eq (fun x n=>dD n x i d c O V W e a8 a9 a10 a11 a12 a13 a14 acc) (Bo.ite (fun b=>?_) fun _=>?_)
 ·have b:e=0:=eq_of_beq b;refine Bo.ite (fun _=>(J b _ d c).fW (fun h=>⟨trivial,h.2⟩) id) fun _=>i1 C [101,110,100,99,97,115,101] rfl (fun d c=>?_) fun d c=>?_
  ·refine (aX9 ?_);(try dsimp +instances);exact rt [] [_,_,_,_,_,_,_,_] ⟨_,_,_,_,_,_,_,_,rfl,rfl⟩
  ·exact (J b _ d c).fW (fun h=>⟨trivial,h.2⟩) id
 ·refine (aX9 ?_);(try dsimp +instances);exact rt [] [_,_,_,_,_,_,_,_] ⟨_,_,_,_,_,_,_,_,rfl,rfl⟩
def Ji (A:∀ k,n=k+1→Xr L l m k)(a8 a9 a10 a11:Int)(a12:G1)(a13 a14 a15:List D)(o:(a15.length:Int)≤1):Sp L l m 1 0 f8 (fun n x1 x2 x3 x4 x5 x6 x7 x8=>aN n x1 x2 x3 x4 x5 x6 x7 x8 a8 a9 a10 a11 (.str a12) (.Z 6 a13) (.Z 8 a14) (.Z 9 a15)) n:=by have h1:=C.h1;refine Sp.aE4 C (fun _ _ _ _ _ _ _ _=>rfl) (fun j d c O V W e h=>(Hr (by omega) h d c O V W).mono fun _ h=>Nr h) fun k f i d c O V W e=>?_;have A:=A k f;refine Bo.eq (fun x n=>mE n x i d c O V W e a8 a9 a10 a11 a12 a13 a14 a15) (e1 (NM C) rfl fun _ _ _ _ _ _ i d c O V W e=>DK (A.rows _ _ _ _ _ _ _ _ i d c O V W e (by omega)) (fun h=>by omega) Dz.a fun pre b i d c O V W e g=>?_);obtain⟨_,_,_,_,_,_,_,_,rfl,rfl⟩:=g;refine aX7 (w1 C [101,110,100,99,97,115,101] rfl fun i d c O V W e=>?_);(try dsimp +instances);exact rt [] [_,_,_,_,_,_,_,_] ⟨_,_,_,_,_,_,_,_,rfl,rfl⟩
def Yy (A:∀ k,n=k+1→Xr L l m k):aV3 L l m n:=by
 intro q Q P w v u k H G E B N M K es bs zs i d c O V W e I;refine NS.of C (fun _=>rfl) (fun h=>h) (fun h=>h) ?_ fun f o R=>?_
 ·rintro j rfl y _
  cases q with
  |true=>exact (aB5 (by omega) y d c O V W).mono fun r ⟨k,a,b,g,t,es,bs,zs,d,c,s,p,q2,f,F,o,h⟩=>⟨[_],[_,_,_,_,_,_,_,_,_,_,_,_,_,_,_,_],d,c,s,p,q2,f,⟨_,_,_,_,_,_,_,_,rfl,rfl⟩,F,fun _=>o,h⟩
  |false=>exact (Pv y d c O V W).mono fun r ⟨k,a,b,g,t,es,bs,zs,d,c,s,p,q2,f,F,o,h⟩=>⟨[_],[_,_,_,_,_,_,_,_,_,_,_,_,_,_,_,_],d,c,s,p,q2,f,⟨_,_,_,_,_,_,_,_,rfl,rfl⟩,F,fun _=>o,h⟩
 have A:=A f o;refine Bo.eq (fun x n=>Z1 n q x i d c O V W e Q P w v u k H G E B N M K es bs zs) ?_
 cases q with
 |true=>refine aX7 (u1 (A.cases _ _ _ _ _ _ _ _ I) rfl fun _ _ _ _ _ _ _ _ i d c O V W e=>?_);(try dsimp +instances);exact rt [_] [_,_,_,_,_,_,_,_,_,_,_,_,_,_,_,_] ⟨_,_,_,_,_,_,_,_,rfl,rfl⟩
 |false=>
  refine aX9 (t1 C [102,111,114] rfl (fun i d c=>?_) fun d c=>?_)
  ·refine aX7 ?_;refine s1 (Sz C) fun pre z i d c O V W e J=>?_;obtain⟨_,_,rfl,rfl⟩:=J;refine aX7 ?_;refine mJ A.stmt rfl fun _ _ _ _ _ _ _ _ i d c O V W e=>?_;(try dsimp +instances);exact rt [_] [_,_,_,_,_,_,_,_,_,_,_,_,_,_,_,_] ⟨_,_,_,_,_,_,_,_,rfl,rfl⟩
  refine aX9 (i1 C [97,115,115,101,114,116] rfl (fun d c=>?_) fun d c=>?_)
  ·refine aX7 (u1 (Cp C _ _ _ _ _ _ _ _) rfl fun _ _ _ _ _ _ _ _ i d c O V W e=>?_);(try dsimp +instances);exact rt [_] [_,_,_,_,_,_,_,_,_,_,_,_,_,_,_,_] ⟨_,_,_,_,_,_,_,_,rfl,rfl⟩
  refine aX9 (u1 (Td C _ _ _ _ _ _ _ _) rfl fun _ _ _ _ _ _ _ _ i d c O V W e=>?_);(try dsimp +instances);exact rt [_] [_,_,_,_,_,_,_,_,_,_,_,_,_,_,_,_] ⟨_,_,_,_,_,_,_,_,rfl,rfl⟩
def Jh (A:∀ k,n=k+1→Xr L l m k):aK1 L l m n:=by
 intro I H p o g k y w v u G E B es bs zs i d c O V W e K;have hm:=C.m0;refine NS.of C (fun _=>rfl) (fun h=>h) (fun h=>h.1) ?_ fun f b J=>?_
 ·rintro j rfl z _;exact (Vg (by omega) z d c O V W).mono fun r ⟨bs,d,c,t,s,q2,f,F,b,h⟩=>⟨[],[_,_,_,_,_,_,_,_,_,_,_,_,_,_,_,_],d,c,t,s,q2,f,⟨_,_,_,_,_,_,_,_,rfl,rfl⟩,F,fun _=>b,h⟩
 have A:=A f b;refine Bo.eq (fun x n=>dR n x i d c O V W e I H p o g k y w v u G E B es bs zs) (Bo.ite (fun q=>?_) fun _=>?_)
 ·have q:e=0:=eq_of_beq q;refine t1 C [101,110,100] rfl (fun i d c=>?_) fun d c=>?_
  ·refine aX9 ?_;(try dsimp +instances);exact rt [] [_,_,_,_,_,_,_,_,_,_,_,_,_,_,_,_] ⟨_,_,_,_,_,_,_,_,rfl,rfl⟩
  ·refine aX7 (mJ A.stmt rfl fun _ _ _ _ _ _ _ _ i d c O V W e=>Bo.LB (fun _=>B2 (by simp only [L9];omega)) fun _=>?_);refine Bo.LB (fun _=>L0 aX8 (E6 (by rw [A7,C9];omega))) fun _=>?_;exact IK (A.block _ _ _ _ _ _ _ _ _ _ _ _ _ _ _ _ i d c O V W e (by rw [List.length_set,A7,C9];omega)) (fun h=>by rw [List.length_set,A7,C9];omega) Dz.a
 ·(try dsimp +instances);exact rt [] [_,_,_,_,_,_,_,_,_,_,_,_,_,_,_,_] ⟨_,_,_,_,_,_,_,_,rfl,rfl⟩
def Te (A:∀ k,n=k+1→Xr L l m k):Sp L l m 1 0 fS (fun n=>L7 n) n:=by
 have h1:=C.h1;refine Sp.oE C rfl Zp (fun _ _=>PA) fun k g i d c O V W e=>?_;have A:=A k g;refine Bo.eq (fun x n=>U7 n x i d c O V W e) (aR1 C fun d c O V W e=>?_);dsimp +instances;refine Bo.ite (fun o=>?_) fun _=>?_
 ·have j:e≠0:=by simpa using o
  refine o1 C fun d c=>?_;(try dsimp +instances);exact rx [_] [] j ⟨_,_,_,_,_,_,_,_,rfl,rfl⟩ (fun _ _=>rfl)
 refine s1 (VF C) fun pre b i d c O V W e f=>?_;obtain⟨rfl,rfl⟩:=f;refine aX7 ?_;refine n1 C fun _ t _ _ _ d c=>t1 C [59] rfl (fun i d c=>?_) fun d c=>?_
 ·refine aX7 (o1 C fun d c=>?_);(try dsimp +instances);exact rt [_] [] ⟨_,_,_,_,_,_,_,_,rfl,rfl⟩
 refine aX9 (t1 C [98,101,103,105,110] rfl (fun i d c=>?_) fun d c=>?_)
 ·refine aX7 (DK (A.block _ _ _ _ _ _ _ _ _ _ _ _ _ _ _ _ i d c O V W e (by rw [A8];omega)) (fun h=>by rw [A8];omega) Dz.a fun pre b i d c O V W e f=>?_);obtain⟨_,_,_,_,_,_,_,_,rfl,rfl⟩:=f;refine aX7 (o1 C fun d c=>?_);(try dsimp +instances);exact rt [_] [] ⟨_,_,_,_,_,_,_,_,rfl,rfl⟩
 refine aX9 (t1 C [105,102] rfl (fun i d c=>?_) fun d c=>?_)
 ·refine aX7 (e1 (NM C) rfl fun _ _ _ _ _ _ i d c O V W e=>mJ A.stmt rfl fun _ _ _ _ _ _ _ _ i d c O V W e=>t1 C [101,108,115,101] rfl (fun i d c=>?_) fun d c=>?_)
  ·refine aX7 (mJ A.stmt rfl fun _ _ _ _ _ _ _ _ i d c O V W e=>o1 C fun d c=>?_);(try dsimp +instances);exact rt [_] [] ⟨_,_,_,_,_,_,_,_,rfl,rfl⟩
  ·refine aX9 (o1 C fun d c=>?_);(try dsimp +instances);exact rt [_] [] ⟨_,_,_,_,_,_,_,_,rfl,rfl⟩
 refine aX9 (t1 C [99,97,115,101] rfl (fun i d c=>?_) fun d c=>?_)
 ·refine DK (A.c63 true _ _ _ _ _ _ _ _ _ _ _ _ _ _ _ _ i d c O V W e (by rw [A8];decide)) Lv.a Dz.a fun pre b i d c O V W e f=>?_;obtain⟨_,_,_,_,_,_,_,_,rfl,rfl⟩:=f;refine aX7 (o1 C fun d c=>?_);(try dsimp +instances);exact rt [_] [] ⟨_,_,_,_,_,_,_,_,rfl,rfl⟩
 ·refine DK (A.c63 false _ _ _ _ _ _ _ _ _ _ _ _ _ _ _ _ i d c O V W e (by rw [A8];decide)) Lv.a Dz.a fun pre b i d c O V W e f=>?_;obtain⟨_,_,_,_,_,_,_,_,rfl,rfl⟩:=f;refine aX7 (o1 C fun d c=>?_);(try dsimp +instances);exact rt [_] [] ⟨_,_,_,_,_,_,_,_,rfl,rfl⟩
def aK6:∀ n,Xr L l m n
 |0=>have A:∀ k,0=k+1→Xr L l m k:=fun k h=>absurd h (by omega)
  ⟨Te C A,Jh C A,Tc C A,Ji C A,Yy C A⟩
 |n+1=>have A:∀ k,n+1=k+1→Xr L l m k:=fun k h=>by have:n=k:=by omega
                                                  subst this;exact aK6 n
  ⟨Te C A,Jh C A,Tc C A,Ji C A,Yy C A⟩
end
end
section
section
variable {n:Nat} {x:List D} {i d c O V W e:Int} {r:Bool×List D}
def S4 {b:Bool}{a:Out}(h:(bif b then a else none)=some r):a=some r:=by
 cases b with
 |true=>exact h
 |false=>cases h
def tI {b:Bool}{a f:Out}(h:(bif b then a else f)=some r):a=some r∨f=some r:=by
 cases b with
 |true=>exact .inl h
 |false=>exact .inr h
def NC (f:e≠0){a b g k:Int}(h:M9 n (.agg [iD a,iD b,iD g]) k (.Z 5 x) i d c O V W e=some r):r=(true,[.Z 5 x,iD i,iD d,iD c,iD O,iD V,iD W,iD e]):=by
 have:=PJ h
 rwa [F4.2 f] at this
def Ot (j:e≠0)(h:S6 n (.Z 5 x) i d c O V W e=some r):r=(true,[.Z 5 x,iD i,iD d,iD c,iD O,iD V,iD W,iD e]):=by
 cases n with
 |zero=>cases h
 |succ n=>
  have J:∀ {a b g:Int} {r:Bool×List D},bY n a b g x i d c O V W e=some r→r=(true,[.Z 5 x,iD i,iD d,iD c,iD O,iD V,iD W,iD e]):=by intro a b g r h;rw [bY.eq_1] at h;obtain⟨ds,h1,f⟩:=Y0 h;have h1:=congrArg Prod.snd (NC j h1);subst h1;exact (Option.some.inj (S4 f)).symm
  rw [hU] at h;rcases tI h with h|h
  ·obtain⟨ds,h1,f⟩:=Y0 (S4 (S4 (S4 h)));have h1:=congrArg Prod.snd (NC j h1);subst h1;exact (Option.some.inj (S4 f)).symm
  ·rcases tI h with h|h
   ·exact J (S4 (S4 (S4 h)))
   ·exact J h
def We (b:e≠0){q:Int}(h:V9 n q (.Z 5 x) i d c O V W e=some r):r=(true,[.Z 5 x,iD i,iD d,iD c,iD O,iD V,iD W,iD e]):=by
 cases n with
 |zero=>cases h
 |succ n=>
  rw [gC] at h;rcases tI h with h|h
  ·obtain⟨ds,h1,a⟩:=Y0 h;have h1:=congrArg Prod.snd (Ot b h1);subst h1;exact (Option.some.inj (S4 a)).symm
  ·obtain⟨ds,h1,a⟩:=Y0 (S4 (S4 (S4 h)));have h1:=congrArg Prod.snd (NC b h1);subst h1;exact (Option.some.inj (S4 a)).symm
def Ih (f:e≠0){w:G1}(b:0<w.length)(h:L5 n (.str w) (.Z 5 x) i d c O V W e=some r):r=(true,[.bool false,.Z 5 x,iD i,iD d,iD c,iD O,iD V,iD W,iD e]):=by
 cases n with
 |zero=>cases h
 |succ n=>
  rw [lR] at h;obtain⟨ds,h1,a⟩:=Y0 h;have h1:=congrArg Prod.snd (Yq f h1);subst h1;have b:([]==w)=false:=by cases w with|nil=>exact absurd b (by decide)|cons _ _=>rfl
  have a:(bif ([]==w) then _ else some (true,[.bool false,.Z 5 x,iD i,iD d,iD c,iD O,iD V,iD W,iD e]))=some r:=S4 a;rw [b] at a;exact (Option.some.inj a).symm
def Jw (b:e≠0){w:G1}(a:0<w.length)(h:H9 n (.str w) (.Z 5 x) i d c O V W e=some r):r=(true,[.bool false,.Z 5 x,iD i,iD d,iD c,iD O,iD V,iD W,iD e]):=by
 cases n with
 |zero=>cases h
 |succ n=>rw [gE] at h;obtain⟨ds,h1,f⟩:=Y0 h;have h1:=congrArg Prod.snd (Ih b a h1);subst h1;exact (Option.some.inj (S4 f)).symm
def Dl (b:e≠0){w:G1}{ws:List D}(f:0<w.length)(h:U8 n (.Z 1 (.str w::ws)) ((D.str w::ws).length:Int) (0:Int) (.Z 5 x) i d c O V W e=some r) :r=(true,[.Z 5 x,iD i,iD d,iD c,iD O,iD V,iD W,iD e])∨r=(false,[.Z 1 (.str w::ws),iD ((D.str w::ws).length:Int),iD 0,.Z 5 x,iD i,iD d,iD c,iD O,iD V,iD W,iD e]):=by
 cases n with
 |zero=>cases h
 |succ n=>
  rw [dT] at h;rcases tI h with h|h
  ·obtain⟨ds,h1,a⟩:=Y0 (S4 (S4 h));have h1:=congrArg Prod.snd (Jw b f h1);subst h1;obtain⟨ds,h1,a⟩:=Y0 (show AE.J3 (S6 n (.Z 5 x) i d c O V W e) _=some r from S4 a);have h1:=congrArg Prod.snd (Ot b h1);subst h1;exact .inl (Option.some.inj (S4 a)).symm
  ·exact .inr (Option.some.inj h).symm
def Jy (g:e≠0){w:G1}{ws:List D}(f:0<w.length)(h:I0 n (.Z 1 (.str w::ws)) (.Z 5 x) i d c O V W e=some r):r=(true,[.Z 5 x,iD i,iD d,iD c,iD O,iD V,iD W,iD e]):=by
 cases n with
 |zero=>cases h
 |succ n=>
  rw [jY] at h;rcases JB h with ⟨ds,h1,b⟩|⟨ds,h1,b⟩
  ·rcases Dl g f h1 with a|a
   ·exact b.trans a
   ·cases a
  ·rcases Dl g f h1 with a|a
   ·cases a
   ·have a:=congrArg Prod.snd a;subst a;exact (Option.some.inj (S4 b)).symm
def Yu (h:K7 n (.Z 5 x) i d c O V W e=some r):r=(true,[.Z 5 x,iD i,iD (i64.wrap (d-1)),iD c,iD O,iD V,iD W,iD e]):=by
 cases n with
 |zero=>cases h
 |succ n=>rw [iA] at h;exact (Option.some.inj h).symm
def aM9 (a:e≠0)(h:P8 n (.Z 5 x) i d c O V W e=some r):r=(true,[.bool (e==0),.Z 5 x,iD i,iD (i64.wrap (d+1)),iD c,iD O,iD V,iD W,iD e]):=by
 cases n with
 |zero=>cases h
 |succ n=>
  rw [lP] at h;rcases tI h with h|h
  ·obtain⟨ds,h1,b⟩:=Y0 h;have h1:=congrArg Prod.snd (We a h1);subst h1;exact (Option.some.inj (S4 b)).symm
  ·exact (Option.some.inj h).symm
def Xh (b:e≠0)(h:L7 n (.Z 5 x) i d c O V W e=some r):∃ (y:D) (f:Int),r=(true,[y,.Z 5 x,iD i,iD f,iD c,iD O,iD V,iD W,iD e]):=by
 cases n with
 |zero=>cases h
 |succ n=>rw [U7] at h;obtain⟨ds,h1,a⟩:=Y0 h;have h1:=congrArg Prod.snd (aM9 b h1);rw [F4.2 b] at h1;subst h1;obtain⟨ds,h1,a⟩:=Y0 (show AE.J3 (K7 n _ _ _ _ _ _ _ _) _=some r from S4 a);have h1:=congrArg Prod.snd (Yu h1);subst h1;exact⟨_,_,(Option.some.inj (S4 a)).symm⟩
def Ll (a:e≠0){w:G1}{acc:List D}(h:Q0 n (.str w) (.Z 5 x) i d c O V W e (.Z 14 acc)=some r):r=(false,[.str w,.Z 5 x,iD i,iD d,iD c,iD O,iD V,iD W,iD e,.Z 14 acc]):=by
 cases n with
 |zero=>cases h
 |succ n=>rw [aQ,F4.2 a] at h;have h:P9 n false x i d c O V W e acc w=some r:=h;rw [P9.eq_1] at h;exact (Option.some.inj h).symm
def Vm (E:e≠0){a8 a9 a10 a11 a15 C B A:Int}{a12 a13 z y:G1}{a14 w:Bool}{v u t s q p o m l k j g f b:List D}(h:P3 n (.Z 5 x) i d c O V W e a8 a9 a10 a11 (.str a12) (.str a13) (.bool a14) a15 C B A (.str z) (.str y) (.bool w) (.Z 6 v) (.Z 6 u) (.Z 8 t) (.Z 14 s) (.Z 14 q) (.Z 5 p) (.Z 5 o) (.Z 6 m) (.Z 6 l) (.Z 8 k) (.Z 14 j) (.Z 14 g) (.Z 5 f) (.Z 5 b)=some r):r=(false,[.Z 5 x,iD i,iD d,iD c,iD O,iD V,iD W,iD e,iD a8,iD a9,iD a10,iD a11,.str a12,.str a13,.bool a14,iD a15,iD C,iD B,iD A,.str z,.str y,.bool w,.Z 6 v,.Z 6 u,.Z 8 t,.Z 14 s,.Z 14 q,.Z 5 p,.Z 5 o,.Z 6 m,.Z 6 l,.Z 8 k,.Z 14 j,.Z 14 g,.Z 5 f,.Z 5 b]):=by
 cases n with
 |zero=>cases h
 |succ n=>rw [cB] at h;obtain⟨ds,h1,a⟩:=Y0 h;have h1:=congrArg Prod.snd (Ih E (by decide) h1);subst h1;obtain⟨ds,h1,a⟩:=Y0 (show AE.J3 (L5 n _ _ _ _ _ _ _ _ _) _=some r from S4 a);have h1:=congrArg Prod.snd (Ih E (by decide) h1);subst h1;obtain⟨ds,h1,a⟩:=Y0 (show AE.J3 (L5 n _ _ _ _ _ _ _ _ _) _=some r from S4 a);have h1:=congrArg Prod.snd (Ih E (by decide) h1);subst h1;have a:=S4 a;dsimp only at a;rw [P5.eq_1] at a;exact (Option.some.inj a).symm
end
end
end Go.Proofs.YtalibicpmfbieaaGreatDoor
