import Derived.Test.YtalibicpmfbieaaGreatDoorAe1
import Derived.Test.YtalibicpmfbieaaGreatDoorAe2
import Derived.Test.YtalibicpmfbieaaGreatDoorAe3
import Derived.Test.YtalibicpmfbieaaGreatDoorEng
namespace Go.Proofs.YtalibicpmfbieaaGreatDoor
open Go.AE
open IntKind (i64 u64)
set_option linter.all false
def zH (ws:List D):Prop:=∀ y∈ws,∃ i:Int,y = .int .u64 i∧0≤i∧i<18446744073709551616
def ZN (w:Int)(ws:List D):Prop:=1≤w∧w≤128∧(ws.length:Int)=(w+63) / 64∧zH ws
def zH.set {ws:List D}(h:zH ws){i:Nat}{x:Int}(c:0≤x)(b:x<18446744073709551616):zH (ws.set i (.int .u64 x)):=fun y a=>by
 rcases List.mem_or_eq_of_mem_set a with a|rfl
 ·exact h y a
 ·exact⟨x,rfl,c,b⟩
def zH.append {a b:List D}(e:zH a)(d:zH b):zH (a++b):=fun y c=>by
 rcases D3.1 c with c|c
 ·exact e y c
 ·exact d y c
def uM (x:Int):0≤u64.wrap x:=by rw [IntKind.wrap_u64];omega
def RM (x:Int):u64.wrap x<18446744073709551616:=by rw [IntKind.wrap_u64];omega
def Po {w:Int}(h1:0≤w)(c:w≤1000):U (fun n=>tR n w) fun r=>r=(true,[iD ((w+63) / 64)]):=by
 refine I5 (fun n=>Af n w) (H8 ?_);have e1:i64.wrap (w+64)=w+64:=Q3;have b:i64.wrap (w+64-1)=w+63:=by rw [Q3];omega
 have a:(w+63).tdiv 64=(w+63) / 64:=Int.tdiv_eq_ediv_of_nonneg (by omega);rw [e1,b,a,Q3]
def OH {w:Int}(h1:1≤w)(c:w≤128):U (fun n=>mU n w) fun r=>∃ ws,r=(true,[iD w,.Z 1 ws])∧ZN w ws:=by
 refine I5 (fun n=>Ae n w) (H6 (Po (by omega) (by omega)) ?_);intro b ds h;cases h;refine⟨rfl,J5 ?_⟩;refine I4 (L0 (L0 (E6 (show (0:Int)≤(w+63) / 64 by omega)) (E6 (Int.le_refl _))) (E6 (show (w+63) / 64≤(L9:Int) by simp only [L9];omega))) (H8 ⟨_,rfl,h1,c,?_,?_⟩)
 ·simp [Y,D.i];omega
 ·intro y a;obtain⟨_,rfl⟩:=List.mem_replicate.1 a;exact⟨0,rfl,Int.le_refl _,by omega⟩
def Er {w:Int}{ws:List D}(h:ZN w ws):U (fun n=>iR n w (.Z 1 ws)) fun r=>∃ a,r=(true,[iD w,.Z 1 a])∧ZN w a:=by
 obtain⟨h1,e,d,b⟩:=h;refine I5 (fun n=>SB n ..) ?_;have hl:1≤ws.length:=by omega
 have e1:i64.wrap ((ws.length:Int)-1)=((ws.length-1:Nat):Int):=by rw [Q3];omega
 have c:(decide ((0:Int)≤((ws.length-1:Nat):Int))&&decide (((ws.length-1:Nat):Int)<(ws.length:Int)))=true:=L0 aX8 aX8;have k:w.tmod 64=w % 64:=Int.tmod_eq_emod_of_nonneg (by omega);rw [e1];refine K0 (fun _=>?_) (fun _=>H8 ⟨ws,rfl,h1,e,d,b⟩);refine I4 c ?_;obtain⟨i,j,g,f⟩:=Fb (P:=fun y=>∃ i:Int,y = .int .u64 i∧0≤i∧i<18446744073709551616) b (v:=((ws.length-1:Nat):Int)) (by omega) (by omega);rw [j];refine J5 (N8 (E8 (by rw [k];omega)) (I4 c (H8 ⟨_,rfl,h1,e,by rw [List.length_set];exact d,b.set (uM _) (RM _)⟩)))
def XS {w:Int}(h1:1≤w)(f:w≤128){us:List D}(k:zH us)(hl:us.length≤1):U (fun n=>qX n w (.Z 1 us)) fun r=>∃ ws,r=(true,[.agg [iD w,.Z 1 ws],iD 0])∧ZN w ws:=by
 refine I5 (fun n=>Kw n ..) (H6 (Q:=fun r=>r=(true,[.bool true])) (I5 (fun n=>Ej n w) (I4 aX8 (H8 (by rw [E6 f])))) ?_);intro b ds h;cases h;refine⟨rfl,J5 (L3 ?_)⟩;refine H6 (OH h1 f) ?_;rintro _ _ ⟨ws,h,i,g,e,d⟩;cases h;refine⟨rfl,J5 ?_⟩;refine H6 (Er (w:=w) (ws:=us.take ws.length++ws.drop us.length) ⟨h1,f,?_,?_⟩) ?_
 ·rw [← e];simp;omega
 ·exact zH.append (fun y c=>k y (List.mem_of_mem_take c)) (fun y c=>d y (List.mem_of_mem_drop c))
 ·rintro _ _ ⟨a,h,j⟩;cases h;exact⟨rfl,J5 (H8 ⟨a,rfl,j⟩)⟩
def Ro (a b:Int):U (fun n=>gV n (.int .u64 a) (.int .u64 b)) fun r=>∃ h l,r=(true,[.int .u64 h,.int .u64 l])∧0≤h∧h<18446744073709551616∧0≤l∧l<18446744073709551616:=I5 (fun n=>FD n a b) (H8 ⟨_,_,rfl,uM _,RM _,uM _,RM _⟩)
def Wz {w:Int}{a b:List D}(O:ZN w a)(M:ZN w b){k:Int}(e:0≤k)(d:k≤1) :U (fun n=>pP n (.agg [iD w,.Z 1 a]) (.agg [iD w,.Z 1 b]) (.int .u64 k)) fun r=>∃ ws,r=(true,[iD w,.Z 1 ws])∧ZN w ws:=by
 obtain⟨h1,E,N,A⟩:=O;obtain⟨_,_,L,z⟩:=M;refine I5 (fun n=>El n ..) (H6 (OH h1 E) ?_);rintro _ _ ⟨ws,h,_,_,l,u⟩;cases h;refine⟨rfl,J5 ?_⟩;have loop:∀ (m j:Nat) (k:Int) (out:List D),out.length-j=m→j≤out.length→(out.length:Int)=(w+63) / 64→0≤k→k≤1→zH out→U (fun n=>lK n (.int .u64 k) (out.length:Int) (j:Int) w (.Z 1 a) w (.Z 1 b) (0:Int) w (.Z 1 []) (.Z 1 out)) fun r=>∃ B C c,r=(false,[.int .u64 B,iD (out.length:Int),iD C,iD w,.Z 1 a,iD w,.Z 1 b,iD 0,iD w,.Z 1 [],.Z 1 c])∧c.length=out.length∧zH c:=by
  intro m
  induction m with
  |zero=>intro j k out hm K hl e d o;exact I5 (fun n=>DL n ..) (N8 aY0 (H8 ⟨_,_,out,rfl,rfl,o⟩))
  |succ m ih=>
   (intro j k out hm K hl e d o;have g:j<a.length:=by omega);have f:j<b.length:=by omega
   (have v:j<out.length:=by omega);refine I5 (fun n=>DL n ..) (I4 aX8 (I4 (P1 g) ?_));obtain⟨x,I,t,H⟩:=A a[j] (C6 g);obtain⟨y,G,s,F⟩:=z b[j] (C6 f);rw [bS g,bS f,I,G];refine J5 (I4 (P1 f) (J5 (I4 (L0 (L0 (L0 (E6 t) (E6 s)) (E6 e)) (E6 d)) (I4 (P1 v) ?_))));simp only [D.i];rw [P4,E1];have p:(out.set j (.int .u64 ((x+y+k) % 18446744073709551616))).length=out.length:=List.length_set;have:=ih (j+1) ((x+y+k) / 18446744073709551616) (out.set j (.int .u64 ((x+y+k) % 18446744073709551616))) (by omega) (by omega) (by rw [p];exact hl) (by omega) (by omega) (o.set (by omega) (by omega));rw [p] at this;exact this
 refine L4 (loop ws.length 0 k ws rfl (C4 _) l e d u) (fun ds h=>by obtain⟨_,_,_,h,_⟩:=h;cases h) fun ds h=>?_;obtain⟨B,C,c,h,hl,o⟩:=h;cases h;refine J5 (H6 (Er (w:=w) (ws:=c) ⟨h1,E,by rw [hl];exact l,o⟩) ?_);rintro _ _ ⟨q,h,J⟩;cases h;exact⟨rfl,J5 (H8 ⟨q,rfl,J⟩)⟩
def Tq {w:Int}{a b:List D}(ha:ZN w a)(W:ZN w b) :U (fun n=>pR n (.agg [iD w,.Z 1 a]) (.agg [iD w,.Z 1 b])) fun r=>∃ ws,r=(true,[.agg [iD w,.Z 1 ws]])∧ZN w ws:=by
 obtain⟨h1,I,ha3,G⟩:=ha;obtain⟨_,_,V,F⟩:=W;have X:a.length≤2:=by omega
 refine I5 (fun n=>Ag n ..) (H6 (OH h1 I) ?_);rintro _ _ ⟨ws,h,_,_,p,B⟩;cases h;refine⟨rfl,J5 ?_⟩;have inner:∀ (m i j:Nat) (k:Int) (out:List D),out.length-(i+j)=m→i<a.length→(out.length:Int)=(w+63) / 64→j≤1000→0≤k→k<18446744073709551616→zH out→U (fun n=>jP n (i:Int) (.int .u64 k) (j:Int) (a.length:Int) (i:Int) w (.Z 1 a) w (.Z 1 b) (0:Int) w (.Z 1 []) (.Z 1 out)) fun r=>∃ H f c,r=(false,[iD (i:Int),.int .u64 H,iD f,iD (a.length:Int),iD (i:Int),iD w,.Z 1 a,iD w,.Z 1 b,iD 0,iD w,.Z 1 [],.Z 1 c])∧c.length=out.length∧zH c:=by
  intro m
  induction m with
  |zero=>
   intro i j k out hm o hl T t E d
   ·(have e1:i64.wrap ((i:Int)+(j:Int))=((i+j:Nat):Int):=by rw [Q3];omega);refine I5 (fun n=>AH n ..) ?_;rw [e1];exact N8 aY0 (H8 ⟨_,_,out,rfl,rfl,d⟩)
  |succ m ih=>
   (intro i j k out hm o hl T t E d;have e1:i64.wrap ((i:Int)+(j:Int))=((i+j:Nat):Int):=by rw [Q3];omega);have g:j<b.length:=by omega
   (have e:i+j<out.length:=by omega);refine I5 (fun n=>AH n ..) ?_;rw [e1];refine I4 aX8 (I4 (P1 o) ?_);obtain⟨x,R,Q,P⟩:=G a[i] (C6 o);obtain⟨y,O,N,M⟩:=F b[j] (C6 g);obtain⟨z,L,A,K⟩:=d out[i+j] (C6 e);rw [bS o,bS g,bS e,R,O,L];refine J5 (I4 (P1 g) (J5 (H6 (Ro _ _) ?_)));rintro _ _ ⟨hh,u,h,p1,p2,p3,p4⟩;cases h;refine⟨rfl,J5 ?_⟩;simp only [Y,D.i];refine I4 (L0 (L0 (L0 (E6 p3) (E6 t)) (E6 (Int.le_refl _))) (E6 (by decide))) (I4 (P1 e) (J5 (I4 (L0 (L0 (L0 (E6 A) aX8) (E6 (Int.le_refl _))) (E6 (by decide))) (I4 (P1 e) ?_))));rw [P4,E1];have q:(out.set (i+j) (.int .u64 ((z+(u+k+0) % 18446744073709551616+0) % 18446744073709551616))).length=out.length:=List.length_set;have:=ih i (j+1) (u64.wrap (u64.wrap (hh+(u+k+0) / 18446744073709551616)+(z+(u+k+0) % 18446744073709551616+0) / 18446744073709551616)) (out.set (i+j) (.int .u64 ((z+(u+k+0) % 18446744073709551616+0) % 18446744073709551616))) (by omega) o (by rw [q];exact hl) (by omega) (uM _) (RM _) (d.set (by omega) (by omega));rw [q] at this;exact this
 have outer:∀ (m i:Nat) (out:List D),a.length-i=m→i≤a.length→(out.length:Int)=(w+63) / 64→zH out→U (fun n=>jO n (a.length:Int) (i:Int) w (.Z 1 a) w (.Z 1 b) (0:Int) w (.Z 1 []) (.Z 1 out)) fun r=>∃ f c,r=(false,[iD (a.length:Int),iD f,iD w,.Z 1 a,iD w,.Z 1 b,iD 0,iD w,.Z 1 [],.Z 1 c])∧c.length=out.length∧zH c:=by
  intro m
  induction m with
  |zero=>intro i out hm o hl d;exact I5 (fun n=>AG n ..) (N8 aY0 (H8 ⟨_,out,rfl,rfl,d⟩))
  |succ m ih=>intro i out hm o hl d;refine I5 (fun n=>AG n ..) (I4 aX8 (L4 (inner _ i 0 0 out rfl (by omega) hl (by omega) (Int.le_refl _) (by omega) d) (fun ds h=>by obtain⟨_,_,_,h,_⟩:=h;cases h) fun ds h=>?_));obtain⟨H,f,c,h,s,C⟩:=h;cases h;refine J5 ?_;simp only [Y,D.i,D.l];rw [P4];refine (ih (i+1) c (by omega) (by omega) (by rw [s];exact hl) C).mono ?_;rintro r ⟨f,J,h,h3,h4⟩;exact⟨f,J,h,by rw [h3,s],h4⟩
 refine L4 (outer _ 0 ws rfl (C4 _) p B) (fun ds h=>by obtain⟨_,_,h,_⟩:=h;cases h) fun ds h=>?_;obtain⟨f,c,h,hl,d⟩:=h;cases h;refine J5 (H6 (Er (w:=w) (ws:=c) ⟨h1,I,by rw [hl];exact p,d⟩) ?_);rintro _ _ ⟨v,h,S⟩;cases h;exact⟨rfl,J5 (H8 ⟨v,rfl,S⟩)⟩
def Ow {op w:Int}(e:op=0∨op=2){a b:List D}(f:ZN w a)(g:ZN w b) :U (fun n=>wR n op (.agg [iD w,.Z 1 a]) (.agg [iD w,.Z 1 b])) fun r=>∃ ws,r=(true,[.agg [iD w,.Z 1 ws],iD 0])∧ZN w ws:=by
 have i:=f.1;refine I5 (fun n=>Kv n ..) (N8 aY0 (N8 aY0 (N8 (by simp) (N8 (by simp;omega) ?_))));rcases e with rfl|rfl
 ·refine J5 (H6 (Wz f g (Int.le_refl _) (by omega)) ?_);rintro _ _ ⟨c,h,d⟩;cases h;exact⟨rfl,J5 (H8 ⟨c,rfl,d⟩)⟩
 ·refine L3 (L3 (J5 (H6 (Tq f g) ?_)));rintro _ _ ⟨c,h,d⟩;cases h;exact⟨rfl,J5 (H8 ⟨c,rfl,d⟩)⟩
def LC (c:UInt8):∀ (s:G1) (j:Nat),jD c s j=-1∨((j:Int)≤jD c s j∧jD c s j<(j:Int)+s.length)
 |[],_=> .inl rfl
 |x::s,j=>by
  unfold jD
  cases x==c with
  |true=>exact .inr ⟨Int.le_refl _,by simp;omega⟩
  |false=>
   rcases LC c s (j+1) with h|⟨h1,a⟩
   ·exact .inl h
   ·refine .inr ⟨?_,?_⟩<;>simp only [cond_false,A0]<;>omega
def tE (s:G1)(x:Int):U (fun n=>U0 n (.str s) (.int .u8 x)) fun r=>r=(true,[iD (jD x.toNat.toUInt8 s 0)]):=by refine I5 (fun n=>CC n s x) (H6 (Q:=fun r=>r=(true,[iD (jD x.toNat.toUInt8 s 0)])) (I5 (fun n=>pH n s x) (H8 rfl)) ?_);intro b ds h;cases h;exact⟨rfl,J5 (H8 rfl)⟩
def aM4 (c:UInt8):jD c [48,49,50,51,52,53,54,55,56,57,97,98,99,100,101,102] 0≤16:=by
 rcases LC c [48,49,50,51,52,53,54,55,56,57,97,98,99,100,101,102] 0 with h|⟨_,h⟩
 ·omega
 ·simp only [A0,A8] at h;omega
def Tu (x:Int):U (fun n=>rD n (.int .u8 x)) fun r=>∃ v,r=(true,[iD v])∧0≤v∧v≤16:=by
 refine I5 (fun n=>XP n x) (K0 (fun _=>K0 (fun _=>?_) (fun _=>?_)) (fun _=>?_))
 all_goals
  refine H6 (tE _ _) ?_;rintro b ds h;cases h;refine⟨rfl,J5 (K0 (fun h=>H8 ⟨_,rfl,E7 h,?_⟩) (fun _=>H8 ⟨16,rfl,by omega,by omega⟩))⟩;exact aM4 _
def ZF (ds:List D):Prop:=∀ y∈ds,∃ i:Int,y = .int .i64 i∧0≤i∧i≤16
def ZF.snoc {ds:List D}(h:ZF ds){v:Int}(h0:0≤v)(h1:v≤16):ZF (ds++[iD v]):=fun y a=>by
 rcases D3.1 a with a|a
 ·exact h y a
 ·exact⟨v,C3.1 a,h0,h1⟩
def CQ {s:G1}(q:s.length≤1048576)(b:Int):U (fun n=>eN n (.str s) b) fun r=>∃ e ds,r=(true,[iD e,.Z 1 ds])∧ZF ds∧ds.length≤s.length:=by
 refine I5 (fun n=>DZ n s b) (K0 (fun _=>H8 ⟨6,[],rfl,fun y c=>by simp at c,by simp⟩) fun _=>?_);have loop:∀ (m j:Nat) (acc:List D),s.length-j=m→j≤s.length→acc.length≤j→ZF acc→U (fun n=>cZ n (.str s) b (s.length:Int) (j:Int) (.Z 1 acc)) fun r=>r=(true,[iD 5,.Z 1 []])∨∃ g a,r=(false,[.str s,iD b,iD (s.length:Int),iD g,.Z 1 a])∧ZF a∧a.length≤s.length:=by
  intro m
  induction m with
  |zero=>intro j acc hm o hl f;exact I5 (fun n=>vX n ..) (N8 aY0 (H8 (.inr ⟨_,acc,rfl,f,by omega⟩)))
  |succ m ih=>
   (intro j acc hm o hl f;have d:j<s.length:=by omega);have l:i64.wrap ((j:Int)+1)=((j+1:Nat):Int):=P4;refine I5 (fun n=>vX n ..) (I4 aX8 (I4 (P1 d) (H6 (Tu _) ?_)));rintro _ _ ⟨v,h,h0,h1⟩;cases h;refine⟨rfl,J5 (I4 (P1 d) ?_)⟩;simp only [Y,D.i,l];have tail:=ih (j+1) (acc++[iD v]) (by omega) (by omega) (by simp;omega) (f.snoc h0 h1);have k:Nat.ble (acc.length+1) L9=true:=B2 (by simp only [L9];omega);refine K0 (fun _=>K0 (fun _=>?_) fun _=>?_) fun _=>?_
   ·exact ih (j+1) acc (by omega) (by omega) (by omega) f
   ·exact K0 (fun _=>I4 k tail) fun _=>H8 (.inl rfl)
   ·exact K0 (fun _=>I4 k tail) fun _=>H8 (.inl rfl)
 refine L4 (loop s.length 0 [] rfl (C4 _) (B9 _) (fun y c=>by simp at c)) (fun ds h=>?_) fun ds h=>?_
 ·rcases h with h|⟨_,_,h,_⟩
  ·cases h;exact⟨5,[],rfl,fun y c=>by simp at c,by simp⟩
  ·cases h
 ·rcases h with h|⟨g,a,h,h1,p⟩
  ·cases h
  ·cases h;exact J5 (H8 ⟨0,a,rfl,h1,p⟩)
def Db {ds:List D}(s:ZF ds)(hl:ds.length≤1048576){lim:Int}(h0:0≤lim)(h1:lim≤2147483648):U (fun n=>jJ n (.Z 1 ds) lim) fun r=>∃ v,r=(true,[iD v])∧0≤v∧v≤lim:=by
 refine I5 (fun n=>XO n ..) ?_;have loop:∀ (m j:Nat) (v:Int),ds.length-j=m→j≤ds.length→0≤v→v≤lim→U (fun n=>iF n lim v (.Z 1 ds) (ds.length:Int) (j:Int)) fun r=>∃ b e,r=(false,[iD lim,iD b,.Z 1 ds,iD (ds.length:Int),iD e])∧0≤b∧b≤lim:=by
  intro m
  induction m with
  |zero=>intro j v hm q d c;exact I5 (fun n=>yT n ..) (N8 aY0 (H8 ⟨v,_,rfl,d,c⟩))
  |succ m ih=>(intro j v hm q d c;have a:j<ds.length:=by omega);have p:i64.wrap ((j:Int)+1)=((j+1:Nat):Int):=P4;refine I5 (fun n=>yT n ..) (I4 aX8 (I4 (P1 a) ?_));obtain⟨x,o,l,k⟩:=s ds[j] (C6 a);rw [bS a,o,p];refine J5 ?_;simp only [D.i];rw [Q3 (x:=10*v) (by omega) (by omega),Q3 (x:=10*v+x) (by omega) (by omega)];exact ih (j+1) (min (10*v+x) lim) (by omega) (by omega) (by omega) (by omega)
 refine L4 (loop ds.length 0 0 rfl (C4 _) (Int.le_refl _) h0) (fun ds h=>by obtain⟨_,_,h,_⟩:=h;cases h) fun ds h=>?_;obtain⟨b,e,h,g,f⟩:=h;cases h;exact J5 (H8 ⟨b,rfl,g,f⟩)
def Lit (r:Bool×List D):Prop:=∃ w ws b a e,r=(true,[.agg [iD w,.Z 1 ws,.bool b,.bool a],iD e])∧(e=0→ZN w ws)
def RN (x:Int):zH [.int .u64 (u64.wrap x)]:=fun y a=>⟨_,C3.1 a,uM _,RM _⟩
def aO0 (v:Int):U (fun n=>FC n v) Lit:=by refine I5 (fun n=>Lq n v) (K0 (fun _=>H8 ⟨0,[],false,false,3,rfl,fun h=>by cases h⟩) fun _=>K0 (fun _=>H8 ⟨0,[],false,false,3,rfl,fun h=>by cases h⟩) fun _=>H6 (XS (w:=32) (by omega) (by omega) (RN v) (B9 _)) ?_);rintro _ _ ⟨ws,h,a⟩;cases h;exact⟨rfl,J5 (H8 ⟨_,ws,true,false,0,rfl,fun _=>a⟩)⟩
def Sh {s:G1}(b:s.length≤1048576):U (fun n=>rC n (.str s)) Lit:=by
 refine I5 (fun n=>HT n s) (H6 (CQ b 10) ?_);rintro _ _ ⟨e,ds,h,d,hl⟩;cases h;refine⟨rfl,J5 (K0 (fun c=>H8 ⟨0,[],false,false,e,rfl,fun h=>?_⟩) fun _=>?_)⟩
 ·subst h;cases c
 refine H6 (Db d (by omega) (by omega) (Int.le_refl _)) ?_;rintro _ _ ⟨v,h,_,_⟩;cases h;refine⟨rfl,J5 ?_⟩;refine H6 (aO0 _) ?_;rintro _ _ ⟨w,ws,g,f,e,h,a⟩;cases h;exact⟨rfl,J5 (H8 ⟨w,ws,g,f,e,rfl,a⟩)⟩
def Uv (x:Int):U (fun n=>kQ n (.int .u8 x)) fun r=>∃ v,r=(true,[iD v])∧0≤v∧v≤16:=by exact I5 (fun n=>Bl n x) (K0 (fun _=>H8 ⟨2,rfl,by omega,by omega⟩) fun _=>K0 (fun _=>H8 ⟨8,rfl,by omega,by omega⟩) fun _=>K0 (fun _=>H8 ⟨10,rfl,by omega,by omega⟩) fun _=>K0 (fun _=>H8 ⟨16,rfl,by omega,by omega⟩) fun _=>H8 ⟨0,rfl,by omega,by omega⟩)
def QN {s:G1}(h:(s==[])=false):0<s.length:=by
 cases s with
 |nil=>cases h
 |cons x s=>simp
def Xs (s:G1)(r:Bool×List D):Prop:=∃ a b g e,r=(true,[.str a,iD b,.bool g,iD e])∧a.length≤s.length∧0≤b∧b≤16
def WO {s:G1}:((s.drop 1).take ((s.length:Int).toNat-1)).length≤s.length:=by simp
def IG {s:G1}(h:0<s.length):(true&&decide ((1:Int)≤(s.length:Int))&&decide ((s.length:Int)≤(s.length:Int)))=true:=L0 (L0 rfl aX8) (E6 (Int.le_refl _))
def ZT (s:G1):U (fun n=>nY n (.str s)) (Xs s):=by
 refine I5 (fun n=>XN n s) ?_;have tail:∀ (t:G1) (g:Bool),t.length≤s.length→U (fun n=>bif (t==([]:G1)) then (ok [(.str ([]:G1)),(0:Int),(.bool false),(6:Int)]) else (gd (true&&decide ((0:Int)<(t.length:Int))) (bc kQ.I6 (kQ n (.int .u8 ((t[0]?.getD 0).toNat:Int))) fun a=>bif ((Y a 0).i==(0:Int)) then (ok [(.str ([]:G1)),(0:Int),(.bool false),(5:Int)]) else (gd (true&&decide ((1:Int)≤(t.length:Int))&&decide ((t.length:Int)≤(t.length:Int))) (ok [(.str ((t.drop 1).take ((t.length:Int).toNat-1))),(.int .i64 (Y a 0).i),(.bool g),(0:Int)]))))) (Xs s):=by intro t g b;refine K0 (fun _=>H8 ⟨[],0,false,6,rfl,by simp,by omega,by omega⟩) fun h=>?_;have:=QN h;refine I4 (L0 rfl aX8) (H6 (Uv _) ?_);rintro _ _ ⟨v,h,h0,h1⟩;cases h;refine⟨rfl,J5 (K0 (fun _=>H8 ⟨[],0,false,5,rfl,by simp,by omega,by omega⟩) fun _=>?_)⟩;exact I4 (IG this) (H8 ⟨_,v,g,0,rfl,Nat.le_trans WO b,h0,h1⟩)
 refine K0 (fun h=>?_) fun _=>tail s false (B9 _);have hl:0<s.length:=QN (by simpa using h);refine I4 (L0 rfl aX8) (K0 (fun _=>I4 (IG hl) (tail _ _ WO)) fun _=>tail s _ (B9 _))
def Ep (s t:G1):(mX s t).1.length≤s.length∧(mX s t).2.1.length≤s.length:=by unfold mX;split<;>simp<;>omega
def VK {s:G1}(a:s.length≤1048576)(t:G1):U (fun n=>strings_Cut n (.str s) (.str t)) fun r=>r=(true,[.str (mX s t).1,.str (mX s t).2.1,.bool (mX s t).2.2]):=by refine I5 (u:=fun _=>some (true,[D.str (mX s t).1,.str (mX s t).2.1,.bool (mX s t).2.2])) (fun n=>MS n _ _ _ ?_) (H8 rfl);show (bif Nat.ble s.length 4294967280 then some [D.str (mX s t).1,.str (mX s t).2.1,.bool (mX s t).2.2] else none)=_;rw [B2 (by omega)];rfl
def Hh {ds:List D}(z:ZF ds)(hl:ds.length≤1048576)(b:Int){w:Int}(h1:1≤w)(l:w≤128):U (fun n=>oL n (.Z 1 ds) b w) fun r=>∃ ws,r=(true,[.agg [iD w,.Z 1 ws]])∧ZN w ws:=by
 refine I5 (fun n=>Bm n ..) (H6 (XS h1 l (us:=[]) (fun y e=>by simp at e) (by simp)) ?_);rintro _ _ ⟨p,h,d⟩;cases h;refine⟨rfl,J5 ?_⟩;refine H6 (XS h1 l (RN b) (B9 _)) ?_;rintro _ _ ⟨bs,h,A⟩;cases h;refine⟨rfl,J5 ?_⟩;have loop:∀ (m j:Nat) (x:Int) (ws:List D),ds.length-j=m→j≤ds.length→ZN w ws→U (fun n=>jU n w (.Z 1 ds) (ds.length:Int) (j:Int) x w (.Z 1 ws) w (.Z 1 bs) (.Z 1 [])) fun r=>∃ o a,r=(false,[iD w,.Z 1 ds,iD (ds.length:Int),iD o,iD x,iD w,.Z 1 a,iD w,.Z 1 bs,.Z 1 []])∧ZN w a:=by
  intro m
  induction m with
  |zero=>intro j x ws hm v d;exact I5 (fun n=>BL n ..) (N8 aY0 (H8 ⟨_,ws,rfl,d⟩))
  |succ m ih=>(intro j x ws hm v d;have c:j<ds.length:=by omega);have u:i64.wrap ((j:Int)+1)=((j+1:Nat):Int):=P4;refine I5 (fun n=>BL n ..) (I4 aX8 (I4 (P1 c) ?_));obtain⟨y,e,t,s⟩:=z ds[j] (C6 c);rw [bS c,e,u];refine J5 (H6 (Ow (.inr rfl) d A) ?_);rintro _ _ ⟨C,h,i⟩;cases h;refine⟨rfl,J5 ?_⟩;refine H6 (XS h1 l (RN _) (B9 _)) ?_;rintro _ _ ⟨B,h,g⟩;cases h;refine⟨rfl,J5 ?_⟩;refine H6 (Ow (.inl rfl) i g) ?_;rintro _ _ ⟨q,h,f⟩;cases h;refine⟨rfl,J5 ?_⟩;exact ih (j+1) x q (by omega) (by omega) f
 refine L4 (loop ds.length 0 0 p rfl (C4 _) d) (fun ds h=>by obtain⟨_,_,h,_⟩:=h;cases h) fun ds h=>?_;obtain⟨o,a,h,k⟩:=h;cases h;exact J5 (H8 ⟨a,rfl,k⟩)
def Ck {s:G1}(f:s.length≤1048576):U (fun n=>fF n (.str s)) Lit:=by
 refine I5 (fun n=>HS n s) (H6 (VK f _) ?_);obtain⟨l,r⟩:=Ep s [39];intro _ _ h;cases h;refine⟨rfl,J5 ?_⟩;simp only [Y,D.s,D.b,List.getD_cons_zero,List.getD_cons_succ];refine K0 (fun _=>?_) fun _=>K0 (fun _=>?_) fun _=>?_
 ·refine H6 (Sh f) ?_;rintro _ _ ⟨w,ws,j,m,e,h,c⟩;cases h;exact⟨rfl,J5 (H8 ⟨w,ws,j,m,e,rfl,c⟩)⟩
 ·refine H6 (CQ (Nat.le_trans l f) 10) ?_;rintro _ _ ⟨e,ds,h,d,hl⟩;cases h;refine⟨rfl,J5 (K0 (fun a=>H8 ⟨0,[],false,false,e,rfl,fun h=>?_⟩) fun _=>?_)⟩
  ·subst h;cases a
  refine H6 (Db d (by omega) (lim:=129) (by omega) (by omega)) ?_;rintro _ _ ⟨v,h,q,p⟩;cases h;refine⟨rfl,J5 ?_⟩;refine H6 (ZT _) ?_;rintro _ _ ⟨t,b,g,e,h,k,o,j⟩;cases h;refine⟨rfl,J5 (K0 (fun a=>H8 ⟨0,[],false,false,e,rfl,fun h=>?_⟩) fun _=>?_)⟩
  ·subst h;cases a
  refine H6 (CQ (s:=t) (by omega) b) ?_;rintro _ _ ⟨e,us,h,d,hl⟩;cases h;refine⟨rfl,J5 (K0 (fun a=>H8 ⟨0,[],false,false,e,rfl,fun h=>?_⟩) fun _=>?_)⟩
  ·subst h;cases a
  refine K0 (fun _=>H8 ⟨0,[],false,false,2,rfl,fun h=>by cases h⟩) fun w0=>K0 (fun _=>H8 ⟨0,[],false,false,2,rfl,fun h=>by cases h⟩) fun w1=>?_;have w0:=E9 w0;have w1:=E9 w1;simp only [Y,D.i,List.getD_cons_zero,List.getD_cons_succ] at w0 w1;refine H6 (Hh d (by omega) b (w:=v) (by omega) (by omega)) ?_;rintro _ _ ⟨ws,h,c⟩;cases h;exact⟨rfl,J5 (H8 ⟨v,ws,_,_,0,rfl,fun _=>c⟩)⟩
 ·refine H6 (ZT _) ?_;rintro _ _ ⟨t,b,g,e,h,k,o,j⟩;cases h;refine⟨rfl,J5 (K0 (fun a=>H8 ⟨0,[],false,false,e,rfl,fun h=>?_⟩) fun _=>?_)⟩
  ·subst h;cases a
  refine H6 (CQ (s:=t) (by omega) b) ?_;rintro _ _ ⟨e,us,h,d,hl⟩;cases h;refine⟨rfl,J5 (K0 (fun a=>H8 ⟨0,[],false,false,e,rfl,fun h=>?_⟩) fun _=>?_)⟩
  ·subst h;cases a
  refine H6 (Hh d (by omega) b (w:=32) (by omega) (by omega)) ?_;rintro _ _ ⟨ws,h,c⟩;cases h;exact⟨rfl,J5 (H8 ⟨32,ws,_,_,0,rfl,fun _=>c⟩)⟩
def aL9 {t:Nat→Out}{P:Bool×List D→Prop}(h:U t P):∃ r,P r∧U t (fun x=>x=r):=by obtain⟨r,h1,a⟩:=h;exact⟨r,h1,r,rfl,a⟩
def fY {s:G1}(a:s.length≤4294967280)(t:G1):U (fun n=>strings_Contains n (.str s) (.str t)) fun r=>r=(true,[.bool (decide (0≤bZ t s 0))]):=by refine I5 (u:=fun _=>some (true,[D.bool (decide (0≤bZ t s 0))])) (fun n=>sM n _ _ _ ?_) (H8 rfl);show (bif Nat.ble s.length 4294967280 then some [D.bool (decide (0≤bZ t s 0))] else none)=_;rw [B2 (by omega)];rfl
def aJ8 (r:Bool×List D):Prop:=∃ b,r=(true,[.bool b])
def JV (x:Int):U (fun n=>gU n (.int .u8 x)) aJ8:=by refine I5 (fun n=>DT n x) (K0 (fun _=>K0 (fun _=>H8 ⟨_,rfl⟩) fun _=>?_) fun _=>?_);all_goals exact K0 (fun _=>K0 (fun _=>H8 ⟨_,rfl⟩) fun _=>H8 ⟨_,rfl⟩) fun _=>H8 ⟨_,rfl⟩
def GW (x:Int):U (fun n=>gN n (.int .u8 x)) aJ8:=I5 (fun n=>HR n x) (K0 (fun _=>H8 ⟨_,rfl⟩) fun _=>H8 ⟨_,rfl⟩)
def Ua (x:Int):U (fun n=>nG n (.int .u8 x)) aJ8:=by refine I5 (fun n=>DY n x) (H6 (JV _) ?_);rintro _ _ ⟨b,h⟩;cases h;refine⟨rfl,J5 (K0 (fun _=>H8 ⟨_,rfl⟩) fun _=>H6 (GW _) ?_)⟩;rintro _ _ ⟨b,h⟩;cases h;exact⟨rfl,J5 (H8 ⟨_,rfl⟩)⟩
def Fs (x:Int):U (fun n=>jR n (.int .u8 x)) aJ8:=by refine I5 (fun n=>yP n x) (H6 (GW _) ?_);rintro _ _ ⟨b,h⟩;cases h;exact⟨rfl,J5 (K0 (fun _=>H8 ⟨_,rfl⟩) fun _=>H8 ⟨_,rfl⟩)⟩
def Ft (x:Int):U (fun n=>jS n (.int .u8 x)) aJ8:=by refine I5 (fun n=>yQ n x) (H6 (GW _) ?_);rintro _ _ ⟨b,h⟩;cases h;refine⟨rfl,J5 (K0 (fun _=>H8 ⟨_,rfl⟩) fun _=>H6 (JV _) ?_)⟩;rintro _ _ ⟨b,h⟩;cases h;exact⟨rfl,J5 (H8 ⟨_,rfl⟩)⟩
def Kk (m:Nat)(r:Bool×List D):Prop:=∃ k:Nat,r=(true,[iD (k:Int)])∧k≤m
def Ml {s:G1}(f:s.length≤1048576):U (fun n=>dJ n (.str s)) (Kk s.length):=by
 refine I5 (fun n=>DV n s) ?_;have loop:∀ (m j:Nat),s.length-j=m→j≤s.length→U (fun n=>dY n (.str s) (j:Int)) fun r=>∃ d:Nat,r=(false,[.str s,iD (d:Int)])∧d≤s.length:=by
  intro m
  induction m with
  |zero=>intro j hm c;exact I5 (fun n=>nU n _ _) (N8 aY0 (H8 ⟨j,rfl,c⟩))
  |succ m ih=>(intro j hm c;have a:j<s.length:=by omega);have e:i64.wrap ((j:Int)+1)=((j+1:Nat):Int):=P4;refine I5 (fun n=>nU n _ _) (I4 aX8 (I4 (P1 a) (H6 (Ua _) ?_)));rintro _ _ ⟨b,h⟩;cases h;refine⟨rfl,J5 (K0 (fun _=>?_) fun _=>H8 ⟨j,rfl,c⟩)⟩;rw [e];exact ih (j+1) (by omega) a
 refine L4 (loop s.length 0 rfl (C4 _)) (fun ds h=>by obtain⟨_,h,_⟩:=h;cases h) fun ds h=>?_;obtain⟨d,h,c⟩:=h;cases h;exact J5 (H8 ⟨d,rfl,c⟩)
def Mn {s:G1}(f:s.length≤1048576):U (fun n=>lM n (.str s)) (Kk s.length):=by
 refine I5 (fun n=>DW n s) ?_;have loop:∀ (m j:Nat),s.length-j=m→j≤s.length→U (fun n=>dZ n (.str s) (j:Int)) fun r=>∃ d:Nat,r=(false,[.str s,iD (d:Int)])∧d≤s.length:=by
  intro m
  induction m with
  |zero=>intro j hm c;exact I5 (fun n=>nV n _ _) (N8 aY0 (H8 ⟨j,rfl,c⟩))
  |succ m ih=>(intro j hm c;have a:j<s.length:=by omega);have e:i64.wrap ((j:Int)+1)=((j+1:Nat):Int):=P4;refine I5 (fun n=>nV n _ _) (I4 aX8 (I4 (P1 a) (H6 (Fs _) ?_)));rintro _ _ ⟨b,h⟩;cases h;refine⟨rfl,J5 (K0 (fun _=>?_) fun _=>H8 ⟨j,rfl,c⟩)⟩;rw [e];exact ih (j+1) (by omega) a
 refine L4 (loop s.length 0 rfl (C4 _)) (fun ds h=>by obtain⟨_,h,_⟩:=h;cases h) fun ds h=>?_;obtain⟨d,h,c⟩:=h;cases h;exact J5 (H8 ⟨d,rfl,c⟩)
def Mp {s:G1}(f:s.length≤1048576):U (fun n=>lN n (.str s)) (Kk s.length):=by
 refine I5 (fun n=>DX n s) ?_;have loop:∀ (m j:Nat),s.length-j=m→j≤s.length→U (fun n=>eD n (.str s) (j:Int)) fun r=>∃ d:Nat,r=(false,[.str s,iD (d:Int)])∧d≤s.length:=by
  intro m
  induction m with
  |zero=>intro j hm c;exact I5 (fun n=>nX n _ _) (N8 aY0 (H8 ⟨j,rfl,c⟩))
  |succ m ih=>(intro j hm c;have a:j<s.length:=by omega);have e:i64.wrap ((j:Int)+1)=((j+1:Nat):Int):=P4;refine I5 (fun n=>nX n _ _) (I4 aX8 (I4 (P1 a) (H6 (Ft _) ?_)));rintro _ _ ⟨b,h⟩;cases h;refine⟨rfl,J5 (K0 (fun _=>?_) fun _=>H8 ⟨j,rfl,c⟩)⟩;rw [e];exact ih (j+1) (by omega) a
 refine L4 (loop s.length 0 rfl (C4 _)) (fun ds h=>by obtain⟨_,h,_⟩:=h;cases h) fun ds h=>?_;obtain⟨d,h,c⟩:=h;cases h;exact J5 (H8 ⟨d,rfl,c⟩)
def PC (s:G1)(k:Nat):(s.drop k).take (s.length-k)=s.drop k:=List.take_of_length_le (by simp)
def Lx {s:G1}(c:s.length≤1048576):U (fun n=>eK n (.str s)) (Kk s.length):=by
 refine I5 (fun n=>DU n s) (H6 (Mn c) ?_);rintro _ _ ⟨k,h,a⟩;cases h;have b:i64.wrap ((k:Int)+1)=((k+1:Nat):Int):=P4;refine⟨rfl,J5 (K0 (fun hl=>?_) fun _=>H8 ⟨k,rfl,a⟩)⟩;have hl:k<s.length:=by have:=E7 hl;simp only [Y,D.i,List.getD_cons_zero] at this;omega
 refine I4 (P1 hl) (K0 (fun _=>?_) fun _=>H8 ⟨k,rfl,a⟩);simp only [Y,D.i,List.getD_cons_zero,b,E1,PC];refine I4 (L0 (L0 aX8 aX8) (E6 (Int.le_refl _))) (H6 (Mp (by simp;omega)) ?_);rintro _ _ ⟨j,h,d⟩;cases h;simp only [F9] at d;refine⟨rfl,J5 (H8 ⟨k+(1+j),?_,by omega⟩)⟩;simp only [Y,D.i,List.getD_cons_zero];rw [Q3 (x:=1+(j:Int)) (by omega) (by omega),Q3];rfl
def Xf {s:G1}(e:s.length≤1048576)(h0:0<s.length):U (fun n=>pZ n (.str s)) (Kk s.length):=by
 refine I5 (fun n=>LN n s) ?_;have loop:∀ (j:Nat),j≤s.length→U (fun n=>fZ n (.str s) (j:Int)) fun r=>Kk s.length r∨∃ d,r=(false,[.str s,iD d]):=by
  intro j
  induction j with
  |zero=>intro b;exact I5 (fun n=>nF n _ _) (L3 (H8 (.inr ⟨_,rfl⟩)))
  |succ j ih=>
   (intro b;have a:i64.wrap (((j+1:Nat):Int)-1)=(j:Int):=by rw [Q3];omega);have c:(true&&decide ((0:Int)≤((j+1:Nat):Int))&&decide (((j+1:Nat):Int)≤(s.length:Int)))=true:=L0 (L0 rfl aX8) aX8;refine I5 (fun n=>nF n _ _) (K0 (fun _=>?_) fun _=>H8 (.inr ⟨_,rfl⟩));refine I4 c (M3 (fY (by simp;omega) _) (K0 (fun _=>?_) fun _=>?_))
   ·refine I4 c (I4 (E6 (by simp [Z5];omega)) (I4 (E6 (by simp [Z5];omega)) (M3 (fY (by simp) _) (K0 (fun _=>H8 (.inl ⟨j+1,rfl,b⟩)) fun _=>?_))));rw [a];exact ih (by omega)
   ·rw [a];exact ih (by omega)
 have hm:min (3:Int) (s.length:Int)=((min 3 s.length:Nat):Int):=by omega
 rw [hm];refine L4 (loop (min 3 s.length) (by omega)) (fun ds h=>?_) fun ds h=>?_
 ·rcases h with h|⟨_,h⟩
  ·exact h
  ·cases h
 ·rcases h with ⟨_,h,_⟩|⟨_,h⟩
  ·cases h
  ·cases h;refine J5 (I4 (L0 rfl (E6 (by show (0:Int)<(s.length:Int);omega))) (M3 (tE _ _) (K0 (fun _=>H8 ⟨1,rfl,by omega⟩) fun _=>H8 ⟨0,rfl,by omega⟩)))
def Mg:U (fun n=>fF n (.str [])) fun r=>r=(true,[.agg [iD 0,.Z 1 [],.bool false,.bool false],iD 6]):=by
 refine I5 (fun n=>HS n []) (M3 (VK (by simp) _) (J5 (H6 (Q:=fun r=>r=(true,[.agg [iD 0,.Z 1 [],.bool false,.bool false],iD 6])) (I5 (fun n=>HT n []) (H6 (Q:=fun r=>r=(true,[iD 6,.Z 1 []])) (I5 (fun n=>DZ n [] 10) (J5 (H8 rfl))) ?_)) ?_)))
 ·intro _ _ h;cases h;exact⟨rfl,J5 (J5 (H8 rfl))⟩
 ·intro _ _ h;cases h;exact⟨rfl,J5 (H8 rfl)⟩
def Word (s:G1)(r:Bool×List D):Prop:=∃ (k:Int) (n:Nat) (e:Int),r=(true,[iD k,iD (n:Int),iD e])∧n≤s.length∧(e=0→1≤n)
def Xm {s:G1}(j:s.length≤1048576)(h0:0<s.length):U (fun n=>iX n (.str s)) (Word s):=by
 have d:∀ e:Int,e≠0→Word s (true,[iD 0,iD 0,iD e]):=fun e o=>⟨0,0,e,rfl,C4 _,fun h=>absurd h o⟩;refine I5 (fun n=>uY n s) (I4 (L0 rfl aX8) (H6 (JV _) ?_));have name:U (fun n=>bif (true&&decide ((1:Int)≤(s.length:Int))&&decide ((s.length:Int)≤(s.length:Int))) then (bc dJ.I6 (dJ n (.str ((s.drop 1).take ((s.length:Int).toNat-1)))) fun a=>bif (decide ((i64.wrap ((1:Int)+(Y a 0).i))>(40:Int))) then (ok [(0:Int),(0:Int),(9:Int)]) else (gd (true&&decide ((0:Int)≤(i64.wrap ((1:Int)+(Y a 0).i)))&&decide ((i64.wrap ((1:Int)+(Y a 0).i))≤(s.length:Int))) (bif (((s.drop 0).take ((i64.wrap ((1:Int)+(Y a 0).i)).toNat-0))==([36]:G1)) then (ok [(0:Int),(0:Int),(9:Int)]) else (ok [(1:Int),(.int .i64 (i64.wrap ((1:Int)+(Y a 0).i))),(0:Int)])))) else none) (Word s):=by
  refine I4 (IG h0) (H6 (Ml (Nat.le_trans WO j)) ?_);rintro _ _ ⟨k,h,c⟩;cases h;simp only [D7,F9,E1] at c;have m:i64.wrap ((1:Int)+(k:Int))=((1+k:Nat):Int):=by rw [Q3];omega
  simp only [Y,D.i,List.getD_cons_zero,m];refine⟨trivial,J5 (K0 (fun _=>H8 (d 9 (by decide))) fun _=>I4 (L0 (L0 rfl aX8) aX8) (K0 (fun _=>H8 (d 9 (by decide))) fun _=>H8 ⟨1,1+k,0,rfl,by omega,fun _=>by omega⟩))⟩
 have num:U (fun n=>bc eK.I6 (eK n (.str s)) fun f=>bif (true&&decide ((0:Int)≤(Y f 0).i)&&decide ((Y f 0).i≤(s.length:Int))) then (bc fF.I6 (fF n (.str ((s.drop 0).take ((Y f 0).i.toNat-0)))) fun l=>bif ((Y l 1).i !=(0:Int)) then (ok [(0:Int),(0:Int),(7:Int)]) else (ok [(2:Int),(.int .i64 (Y f 0).i),(0:Int)])) else none) (Word s):=by
  refine H6 (Lx j) ?_;rintro _ _ ⟨k,h,c⟩;cases h;simp only [Y,D.i,List.getD_cons_zero,E1];refine⟨trivial,J5 (I4 (L0 (L0 rfl aX8) aX8) ?_)⟩;by_cases g:k=0
  ·subst g;refine M3 Mg (J5 (H8 (d 7 (by decide))))
  ·refine H6 (Ck (by simp;omega)) ?_;rintro _ _ ⟨w,ws,r,q,e,h,p⟩;cases h;exact⟨rfl,J5 (K0 (fun _=>H8 (d 7 (by decide))) fun _=>H8 ⟨2,k,0,rfl,c,fun _=>by omega⟩)⟩
 rintro _ _ ⟨b,h⟩;cases h;refine⟨rfl,J5 (K0 (fun _=>name) fun _=>K0 (fun _=>name) fun _=>H6 (GW _) ?_)⟩;rintro _ _ ⟨b,h⟩;cases h;refine⟨rfl,J5 (K0 (fun _=>num) fun _=>K0 (fun _=>num) fun _=>H6 (Xf j h0) ?_)⟩;rintro _ _ ⟨k,h,c⟩;cases h;simp only [Y,D.i,List.getD_cons_zero];refine⟨trivial,J5 (K0 (fun _=>H8 (d 7 (by decide))) fun g=>H8 ⟨3,k,0,rfl,c,fun _=>?_⟩)⟩
 cases k with
 |zero=>cases g
 |succ k=>omega
section
def O9 {t u:Nat→Out}{P:Bool×List D→Prop}(f:∀ n,t n=u n)(h:U u P):U t P:=by have:t=u:=funext f;rw [this];exact h
def tk (k:Int)(t:G1)(a b c:Int):D:= .agg [iD k,.str t,iD a,iD b,iD c]
def Cm:G1:=[32,109,111,100,117,108,101,32,101,110,100,109,111,100,117,108,101,32,112,97,114,97,109,101,116,101,114,32,108,111,99,97,108,112,97,114,97,109,32,105,110,112,117,116,32,111,117,116,112,117,116,32,114,101,103,32,119,105,114,101,32,115,105,103,110,101,100,32,105,110,116,101,103,101,114,32,103,101,110,118,97,114,32,103,101,110,101,114,97,116,101,32,101,110,100,103,101,110,101,114,97,116,101,32,97,115,115,105,103,110,32,97,108,119,97,121,115,32,112,111,115,101,100,103,101,32,102,117,110,99,116,105,111,110,32,101,110,100,102,117,110,99,116,105,111,110,32,102,111,114,32,105,102,32,101,108,115,101,32,98,101,103,105,110,32,101,110,100,32,99,97,115,101,32,101,110,100,99,97,115,101,32,100,101,102,97,117,108,116,32,97,115,115,101,114,116,32]
def YY:G1:=[32,45,32,126,32,33,32,38,32,124,32,94,32,126,38,32,126,124,32,126,94,32,94,126,32,43,32]
def NG:List G1:=[[32,124,124,32],[32,38,38,32],[32,124,32],[32,94,32,126,94,32,94,126,32],[32,38,32],[32,61,61,32,33,61,32],[32,60,32,60,61,32,62,32,62,61,32],[32,60,60,32,62,62,32,60,60,60,32,62,62,62,32],[32,43,32,45,32],[32,42,32,47,32,37,32]]
def BR:List G1:=[[124,124],[38,38],[124],[94],[126,94],[38],[61,61],[33,61],[60],[60,61],[62],[62,61],[60,60],[62,62],[60,60,60],[62,62,62],[43],[45],[42],[47],[37]]
def MM (o:G1):Nat:=bif o==[124,124] then 0 else bif o==[38,38] then 1 else bif o==[124] then 2 else bif o==[94] then 3 else bif o==[126,94] then 3 else bif o==[38] then 4 else bif o==[61,61] then 5 else bif o==[33,61] then 5 else bif o==[60] then 6 else bif o==[60,61] then 6 else bif o==[62] then 6 else bif o==[62,61] then 6 else bif o==[60,60] then 7 else bif o==[62,62] then 7 else bif o==[60,60,60] then 7 else bif o==[62,62,62] then 7 else bif o==[43] then 8 else bif o==[45] then 8 else bif o==[42] then 9 else bif o==[47] then 9 else bif o==[37] then 9 else 9
def aD3:(BR.all fun o=>decide (MM o≤9))=true:=by kernel_rfl
def aD2 {o:G1}(f:o∈BR):MM o≤9:=E7 (B6.1 aD3 o f)
def Rf:(BR.all fun o=>(List.range 10).all fun j=>decide (0≤bZ (([32]++o)++[32]) (NG[j]?.getD []) 0)==(MM o==j))=true:=by kernel_rfl
def Yl {o:G1}(f:o∈BR){j:Nat}(g:j<10):decide (0≤bZ (([32]++o)++[32]) (NG[j]?.getD []) 0)=(MM o==j):=eq_of_beq (B6.1 (B6.1 Rf o f) j (List.mem_range.2 g))
def Sb:(BR.all fun o=>decide (o.length≤3))=true:=by kernel_rfl
def YA {o:G1}(f:o∈BR):o.length≤3:=E7 (B6.1 Sb o f)
def Xe:decide (Cm.length≤4294967280)=true:=by kernel_rfl
def YP:Cm.length≤4294967280:=E7 Xe
def qL (t:G1):Bool:=decide (t.length≤100)&&decide (0<t.length)&&!((t[0]?.getD 0).toNat==36)&&!decide (0≤bZ (([32]++t)++[32]) Cm 0)
section
variable {l:List D} {i:Nat} {d c O V W:Int} {k:Int} {t:G1} {a b e:Int}
def vY (h:l[i]? = some (tk k t a b e)):i<l.length:=by
 by_cases hl:i<l.length
 ·exact hl
 ·rw [List.getElem?_eq_none (by omega)] at h;cases h
def BO (h:l[i]? = some (tk k t a b e)):U (fun n=>J8 n (.Z 5 l) (i:Int) d c O V W (0:Int)) fun r=>r=(true,[tk k t a b e,.Z 5 l,iD (i:Int),iD d,iD c,iD O,iD V,iD W,iD 0]):=by
 have f:=vY h;have g:ix l ((i:Nat):Int)=tk k t a b e:=by rw [ix,show ((i:Nat):Int).toNat=i from rfl,h];rfl
 refine I5 (fun n=>kL n ..) (L3 (N8 aY0 (I4 (P1 f) ?_)));rw [g];exact J5 (H8 rfl)
def O3 (d c O V W:Int)(h:l[i]? = some (tk k t a b e)):=BO (d:=d) (c:=c) (O:=O) (V:=V) (W:=W) h
def UI (w:G1)(h:l[i]? = some (tk k t a b e)):U (fun n=>L5 n (.str w) (.Z 5 l) (i:Int) d c O V W (0:Int)) fun r=>r=(true,[.bool (t==w&&k !=2),.Z 5 l,iD (i:Int),iD d,iD c,iD O,iD V,iD W,iD 0]):=by
 refine I5 (fun n=>lR n ..) (M3 (BO h) (K0 (fun h1=>?_) fun h1=>?_))
 ·have h1:(t==w)=true:=h1;refine M3 (BO h) (H8 (by rw [h1];rfl))
 ·have h1:(t==w)=false:=h1;exact H8 (by rw [h1];rfl)
def bG (d c O V W:Int)(w:G1)(h:l[i]? = some (tk k t a b e)):=UI (d:=d) (c:=c) (O:=O) (V:=V) (W:=W) w h
def Dh {w:G1}(hl:l.length≤1000000)(h:l[i]? = some (tk k t a b e))(f:(t==w&&k !=2)=true):U (fun n=>H9 n (.str w) (.Z 5 l) (i:Int) d c O V W (0:Int)) fun r=>r=(true,[.bool true,.Z 5 l,iD ((i+1:Nat):Int),iD d,iD c,iD O,iD V,iD W,iD 0]):=by have g:=vY h;refine I5 (fun n=>gE n ..) (M3 (UI w h) (N8 (by show (!(t==w&&k !=2))=false;rw [f];rfl) (H8 ?_)));rw [← P4];rfl
def M6 (d c O V W:Int){w:G1}(hl:l.length≤1000000)(h:l[i]? = some (tk k t a b e))(f:(t==w&&k !=2)=true):=Dh (d:=d) (c:=c) (O:=O) (V:=V) (W:=W) hl h f
def NO {w:G1}(h:l[i]? = some (tk k t a b e))(f:(t==w&&k !=2)=false):U (fun n=>H9 n (.str w) (.Z 5 l) (i:Int) d c O V W (0:Int)) fun r=>r=(true,[.bool false,.Z 5 l,iD (i:Int),iD d,iD c,iD O,iD V,iD W,iD 0]):=by refine I5 (fun n=>gE n ..) (M3 (UI w h) (I4 (by show (!(t==w&&k !=2))=true;rw [f];rfl) (H8 rfl)))
def I7 (d c O V W:Int){w:G1}(h:l[i]? = some (tk k t a b e))(f:(t==w&&k !=2)=false):=NO (d:=d) (c:=c) (O:=O) (V:=V) (W:=W) h f
def CG (l:List D)(i:Nat)(ws:List G1):Prop:=∀ (j:Nat) (h:j<ws.length),∃ k a b e,l[i+j]? = some (tk k ws[j] a b e)∧(k !=2)=true
def Xk (hl:l.length≤1000000)(ws:List G1)(q:ws.length≤1000)(h:CG l i ws):U (fun n=>I0 n (.Z 1 (ws.map D.str)) (.Z 5 l) (i:Int) d c O V W (0:Int)) fun r=>r=(true,[.Z 5 l,iD ((i+ws.length:Nat):Int),iD d,iD c,iD O,iD V,iD W,iD 0]):=by
 refine I5 (fun n=>jY n ..) ?_;have loop:∀ (m j:Nat),ws.length-j=m→j≤ws.length→U (fun n=>U8 n (.Z 1 (ws.map D.str)) ((ws.map D.str).length:Int) (j:Int) (.Z 5 l) ((i+j:Nat):Int) d c O V W (0:Int)) fun r=>r=(false,[.Z 1 (ws.map D.str),iD ((ws.map D.str).length:Int),iD (ws.length:Int),.Z 5 l,iD ((i+ws.length:Nat):Int),iD d,iD c,iD O,iD V,iD W,iD 0]):=by
  intro m
  induction m with
  |zero=>(intro j hm g;have:j=ws.length:=by omega);subst this;exact I5 (fun n=>dT n ..) (N8 (E8 (by rw [List.length_map];omega)) (H8 rfl))
  |succ m ih=>
   (intro j hm g;have f:j<ws.length:=by omega);obtain⟨k,a,b,e,h1,p⟩:=h j f;have o:ix (ws.map D.str) ((j:Nat):Int) = .str ws[j]:=by rw [ix,show ((j:Nat):Int).toNat=j from rfl,List.getElem?_map,C2 f];rfl
   refine I5 (fun n=>dT n ..) (I4 (E6 (by rw [List.length_map];omega)) (I4 (P1 (by rw [List.length_map];exact f)) ?_));rw [o];refine J5 (M3 (Dh hl h1 (by rw [p];show (ws[j]==ws[j]&&true)=true;rw [F3];rfl)) (L3 ?_));have K:=ih (j+1) (by omega) (by omega);rw [← P4] at K;exact K
 refine L4 (loop ws.length 0 rfl (C4 _)) (fun ds h=>by cases h) fun ds h=>?_;cases h;exact J5 (H8 rfl)
def M8 (d c O V W:Int)(hl:l.length≤1000000)(ws:List G1)(f:ws.length≤1000)(h:CG l i ws):=Xk (d:=d) (c:=c) (O:=O) (V:=V) (W:=W) hl ws f h
def Lk (h:l[i]? = some (tk 1 t a b e))(f:qL t=true):U (fun n=>X9 n (.Z 5 l) (i:Int) d c O V W (0:Int)) fun r=>r=(true,[.bool true,.Z 5 l,iD (i:Int),iD d,iD c,iD O,iD V,iD W,iD 0]):=by
 simp only [qL,A9,decide_eq_true_eq,D8,F4] at f;obtain⟨⟨⟨g1,g2⟩,j⟩,g⟩:=f;refine I5 (fun n=>lQ n ..) (M3 (BO h) (J5 (I4 (L0 rfl (E6 (by show (0:Int)<(t.length:Int);omega))) (I4 ?_ (I4 (E6 (by show 1+t.length≤Z5;simp only [Z5];omega)) (I4 (E6 (by show ([32]++t).length+1≤Z5;simp only [Z5,A7,C9];omega)) (H6 (fY (s:=Cm) YP (([32]++t)++[32])) ?_)))))))
 ·show ((((t[0]?.getD 0).toNat:Int)) !=36)=true;simp only [bne_iff_ne,ne_eq];omega
 ·intro _ ds h0;cases h0;refine⟨rfl,J5 (H8 ?_)⟩;show (true,[D.bool (!decide (0≤bZ (([32]++t)++[32]) Cm 0)),_,_,_,_,_,_,_,_])=_;rw [g];rfl
def XQ (hl:l.length≤1000000)(h:l[i]? = some (tk 1 t a b e))(f:qL t=true):U (fun n=>K9 n (.Z 5 l) (i:Int) d c O V W (0:Int)) fun r=>r=(true,[.str t,.Z 5 l,iD ((i+1:Nat):Int),iD d,iD c,iD O,iD V,iD W,iD 0]):=by have g:=vY h;refine I5 (fun n=>nL n ..) (M3 (Lk h f) (L3 (M3 (BO h) (H8 ?_))));rw [← P4];rfl
def fJ (d c O V W:Int)(hl:l.length≤1000000)(h:l[i]? = some (tk 1 t a b e))(f:qL t=true):=XQ (d:=d) (c:=c) (O:=O) (V:=V) (W:=W) hl h f
end
end
section
def Nm (x:G1)(a b e:Int):D:= .agg [iD 2,iD a,iD b,iD e,.str x,.Z 6 []]
inductive BT where
 |nm (x:G1)
 |bn (o:G1) (l r:BT)
def Re:(NG.all fun s=>decide (s.length≤100))=true:=by kernel_rfl
def Rd (s:G1)(h:s∈NG):s.length≤100:=E7 (B6.1 Re s h)
abbrev ZH:=List (G1×G1)
inductive Bd:G1→ZH→List G1→Prop
 |one (x:G1):Bd x [] [x]
 |split {x:G1} {q1:ZH} {o y:G1} {q2:ZH} {w1 w2:List G1}:Bd x q1 w1→Bd y q2 w2→(∀ p∈q1,MM o≤MM p.1)→(∀ p∈q2,MM o<MM p.1)→
   Bd x (q1++(o,y)::q2) ((bif q1.isEmpty then w1 else [[40]]++w1++[[41]])++[o]++(bif q2.isEmpty then w2 else [[40]]++w2++[[41]]))
def Mb (t:G1):Bool:=qL t&&!(t==[40])&&!(t==[123])&&!(t==[36,115,105,103,110,101,100])&&!(t==[36,117,110,115,105,103,110,101,100])
def Zt (l:List D):Nat→ZH→Prop
 |i,[]=>∃ a b e,l[i]? = some (tk 3 [59] a b e)
 |i,(o,y)::r=>(∃ a b e,l[i]? = some (tk 3 o a b e))∧(∃ a b e,l[i+1]? = some (tk 1 y a b e))∧o∈BR∧Mb y=true∧Zt l (i+2) r
def Yt:(BR.all fun o=>!(o==[91])&&!(o==[40])&&!(o==[63])&&!(o==[94,126]))=true:=by kernel_rfl
def Sa {o:G1}(a:o∈BR):U (fun n=>gG n (.str o)) fun r=>r=(true,[.str o]):=by have:=B6.1 Yt o a;simp only [A9,D8] at this;exact I5 (fun n=>qH n o) (N8 this.2 (H8 rfl))
def Zt.next {l:List D}{i:Nat}{ps:ZH}(h:Zt l i ps):∃ t a b e,l[i]? = some (tk 3 t a b e)∧(t==[91])=false∧(t==[40])=false∧(t==[63])=false:=by
 match ps,h with
 |[],⟨a,b,e,h⟩=>exact⟨_,a,b,e,h,rfl,rfl,rfl⟩
 |(o,y)::r,⟨⟨a,b,e,h⟩,_,f,_⟩=>have:=B6.1 Yt o f;simp only [A9,D8] at this;exact⟨o,a,b,e,h,this.1.1.1,this.1.1.2,this.1.2⟩
section
variable {l:List D} {d c O V W:Int} (hl:l.length≤1000000)
include hl
def Ij {i:Nat}{t f:G1}{g a b e a2 p o:Int}(h:l[i]? = some (tk 1 t a b e))(j:qL t=true)(m:l[i+1]? = some (tk g f a2 p o))(k:(f==[91])=false) :U (fun n=>Q1 n (.Z 5 l) (i:Int) d c O V W (0:Int)) fun r=>r=(true,[Nm t a b e,.Z 5 l,iD ((i+1:Nat):Int),iD d,iD c,iD O,iD V,iD W,iD 0]):=by refine I5 (fun n=>gA n ..) (M3 (BO h) (M3 (XQ hl h j) (M3 (NO m (by rw [k];rfl)) (J5 (H8 rfl)))))
def FV (d c O V W:Int)(hl:l.length≤1000000){i:Nat}{t f:G1}{g a b e a2 o n:Int}(h:l[i]? = some (tk 1 t a b e))(j:qL t=true)(m:l[i+1]? = some (tk g f a2 o n))(k:(f==[91])=false):=Ij (d:=d) (c:=c) (O:=O) (V:=V) (W:=W) hl h j m k
def aE6 {i:Nat}{t f:G1}{m a b e a2 v u:Int}(h:l[i]? = some (tk 1 t a b e))(j:Mb t=true)(k:l[i+1]? = some (tk m f a2 v u))(o:(f==[91])=false)(g:(f==[40])=false) :U (fun n=>bB n (.Z 5 l) (i:Int) d c O V W (0:Int)) fun r=>r=(true,[Nm t a b e,.Z 5 l,iD ((i+1:Nat):Int),iD d,iD c,iD O,iD V,iD W,iD 0]):=by simp only [Mb,A9,D8] at j;obtain⟨⟨⟨⟨g1,g2⟩,s⟩,q⟩,p⟩:=j;refine I5 (fun n=>aE n ..) (M3 (BO h) (L3 (M3 (NO h (by rw [g2];rfl)) (L3 (M3 (NO h (by rw [s];rfl)) (L3 (M3 (UI _ h) (N8 (by show (_&&_)=false;rw [q];rfl) (M3 (UI _ h) (N8 (by show (_&&_)=false;rw [p];rfl) (M3 (Ij hl h g1 k o) (J5 (M3 (UI [40] k) (N8 (by show (_&&_)=false;rw [g];rfl) (H8 rfl)))))))))))))))
end
end
section
section
variable {l:List D} {d c O V W:Int}
def aM5 (i:Int)(b:d<40)(a:0≤d):U (fun n=>P8 n (.Z 5 l) i d c O V W (0:Int)) fun r=>r=(true,[.bool true,.Z 5 l,iD i,iD (d+1),iD c,iD O,iD V,iD W,iD 0]):=by have w1:i64.wrap (d+1)=d+1:=Q3;exact I5 (fun n=>lP n ..) (N8 (E8 (by rw [w1];omega)) (H8 (by rw [w1];rfl)))
def bR (l:List D)(d c O V W:Int)(i:Int)(b:d<40)(a:0≤d):=aM5 (l:=l) (d:=d) (c:=c) (O:=O) (V:=V) (W:=W) i b a
def aF2 (i:Int)(e:d<40)(b:0≤d):U (fun n=>K7 n (.Z 5 l) i (d+1:Int) c O V W (0:Int)) fun r=>r=(true,[.Z 5 l,iD i,iD d,iD c,iD O,iD V,iD W,iD 0]):=by
 have a:i64.wrap (d+1-1)=d:=by rw [Q3];omega
 exact I5 (fun n=>iA n ..) (H8 (by rw [a]))
def aR (l:List D)(d c O V W:Int)(i:Int)(b:d<40)(a:0≤d):=aF2 (l:=l) (d:=d) (c:=c) (O:=O) (V:=V) (W:=W) i b a
def Eo (i:Int)(b:c<4000)(a:0≤c):U (fun n=>W5 n (.Z 5 l) i d c O V W (0:Int)) fun r=>r=(true,[.Z 5 l,iD i,iD d,iD (c+1),iD O,iD V,iD W,iD 0]):=by have w1:i64.wrap (c+1)=c+1:=Q3;exact I5 (fun n=>kS n ..) (N8 (E8 (by rw [w1];omega)) (H8 (by rw [w1])))
def S5 (l:List D)(d c O V W:Int)(i:Int)(b:c<4000)(a:0≤c):=Eo (l:=l) (d:=d) (c:=c) (O:=O) (V:=V) (W:=W) i b a
def S7 {i:Nat}{k a b e:Int}{w:G1}(h:l[i]? = some (tk k w a b e))(f:(k !=2)=true):CG l i [w]:=by
 intro j g;have:j=0:=by simpa using g
 subst this;exact⟨k,a,b,e,h,f⟩
def AI (a b e:Int)(u v:D):D:= .agg [iD 4,iD a,iD b,iD e,.str [],.str [],.bool false,.Z 6 [u,v],.Z 6 [],.Z 8 [],.Z 14 [],.Z 14 [],.Z 5 [],.Z 5 []]
end
end
def Mk (b:List D)(a:Int):Prop:=Bytes b∧b.length≤300∧0≤a∧a≤b.length
def dP:List G1:=[[97],[98],[99],[100],[120,49],[95,121],[113],[114]]
def Ca:List G1:=[[48],[49],[50],[55],[52,39,98,49,48,49,48],[56,39,104,102,102],[51,39,115,100,50],[49,95,48]]
def Ts:List G1:=[[45],[126],[33],[38],[124],[94],[126,38],[126,124],[126,94]]
def Wm:List G1:=[[43],[45],[42],[47],[37],[38],[124],[94],[126,94],[60,60],[62,62],[60,60,60],[62,62,62],[60],[60,61],[62],[62,61],[61,61],[33,61],[38,38],[124,124]]
def KU:List G1:=[[102],[103],[36,115,105,103,110,101,100],[36,117,110,115,105,103,110,101,100]]
def RG {T:List G1}{v:Int}(h0:0≤v)(h1:v<T.length):∃ s,s∈T∧ix (T.map D.str) v = .str s:=by have:=Fb (P:=fun y=>∃ s,s∈T∧y=D.str s) (xs:=T.map D.str) (fun x a=>by obtain⟨s,b,rfl⟩:=List.mem_map.1 a;exact⟨s,b,rfl⟩) h0 (by simpa using h1);exact this
def E (k:Int)(t:G1)(ar:List D):D:= .agg [iD k,iD 0,iD 0,iD 0,.str t,.Z 6 ar]
def FT (k:Int)(t:G1)(m:Nat):Prop:=
 (k=1∧t∈Ca∧m=0)∨(k=2∧t∈dP∧m=0)∨(k=3∧t∈Ts∧m=1)∨(k=4∧t∈Wm∧m=2)∨(k=5∧t=[]∧m=3)∨(k=6∧t=[]∧1≤m∧m≤3)∨
 (k=7∧t=[]∧2≤m∧m≤3)∨(k=8∧t∈dP∧m=1)∨(k=9∧t∈dP∧m=2)∨(k=10∧t∈KU∧1≤m∧m≤2)
def gQ:Nat→D→Prop
 |0,_=>False
 |n+1,x=>∃ k t ar,x=E k t ar∧FT k t ar.length∧∀ a∈ar,gQ n a
def aE9:U (fun n=>iP n) fun r=>r=(true,[.Z 1 (Wm.map D.str)]):=I5 (fun n=>YN n) (H8 rfl)
abbrev Tk:=Int×G1
def RW (ws:List Tk):List D:=ws.map fun p=>D.str p.2
def YW (u:List Tk):(RW u).length=u.length:=List.length_map ..
def RV (x:D):Bool:=(x.at_ 0).i==3||((x.at_ 0).i==4||(x.at_ 0).i==5)
def aW (w:D→List Tk)(x:D):List Tk:=bif RV x then [(3,[40])]++(w x++[(3,[41])]) else w x
def lW (w:D→List Tk):List D→List Tk
 |[]=>[]
 |[x]=>w x
 |x::y::r=>w x++((3,[44])::lW w (y::r))
def kW (w:D→List Tk)(k:Int)(t:G1)(ar:List D):List Tk:=
 bif k==3 then [(3,t)]++aW w (ar[0]?.getD .top)
 else bif k==4 then aW w (ar[0]?.getD .top)++([(3,t)]++aW w (ar[1]?.getD .top))
 else bif k==5 then aW w (ar[0]?.getD .top)++([(3,[63])]++(aW w (ar[1]?.getD .top)++([(3,[58])]++aW w (ar[2]?.getD .top))))
 else bif k==6 then [(3,[123])]++(lW w ar++[(3,[125])])
 else bif k==7 then [(3,[123])]++(w (ar[0]?.getD .top)++([(3,[123])]++(lW w (ar.drop 1)++[(3,[125]),(3,[125])])))
 else bif k==8 then [(1,t),(3,[91])]++(w (ar[0]?.getD .top)++[(3,[93])])
 else bif k==9 then [(1,t),(3,[91])]++(w (ar[0]?.getD .top)++([(3,[58])]++(w (ar[1]?.getD .top)++[(3,[93])])))
 else bif k==10 then [(1,t),(3,[40])]++(lW w ar++[(3,[41])])
 else bif k==1 then [(2,t)] else [(1,t)]
def wE:Nat→D→List Tk
 |0,_=>[]
 |n+1,x=>kW (wE n) (x.at_ 0).i (x.at_ 4).s (x.at_ 5).l
def IM (n:Nat)(k:Int)(t:G1)(ar:List D):wE (n+1) (E k t ar)=kW (wE n) k t ar:=rfl
def Zw {w:D→List Tk}{x:D}{A:Nat}(h:(w x).length≤A):(aW w x).length≤A+2:=by unfold aW;cases RV x<;>simp<;>omega
section
def K6 (l:List D):Nat→List Tk→Prop
 |_,[]=>True
 |i,w::ws=>(∃ a b e,l[i]? = some (tk w.1 w.2 a b e))∧K6 l (i+1) ws
def L6 {l:List D}:∀ {u:List Tk} {i:Nat} {v:List Tk},K6 l i (u++v)↔K6 l i u∧K6 l (i+u.length) v
 |[],i,v=>by simp [K6]
 |w::u,i,v=>by have:=L6 (l:=l) (u:=u) (i:=i+1) (v:=v);simp only [List.cons_append,K6,this,A0,and_assoc];rw [show i+1+u.length=i+(u.length+1) from by omega]
def PE (k a b e:Int)(t:G1)(ar:List D):D:= .agg [iD k,iD a,iD b,iD e,.str t,.Z 6 ar]
def Sm:Nat→D→D→Prop
 |0,_,_=>False
 |n+1,x,y=>∃ k t ar a b e c,x=E k t ar∧y=PE k a b e t c∧F2 (Sm n) ar c
def GA (y:D):Prop:=∃ f e d c a b,y = .agg [iD f,iD e,iD d,iD c,.str a,.Z 6 b]
def fK {n:Nat}{x y:D}(h:Sm n x y):GA y:=by
 cases n with
 |zero=>exact h.elim
 |succ n=>obtain⟨k,t,ar,a,b,e,c,_,rfl,_⟩:=h;exact⟨_,_,_,_,_,_,rfl⟩
abbrev PF:=Nat→D→D→D→D→D→D→D→D→Out
def Ph (F:PF)(l:List D)(i m:Nat)(R:D→Prop)(h:Nat):Prop:=
 ∀ d c O V W:Int,0≤d→d+h≤40→U (fun n=>F n (.Z 5 l) (i:Int) d c O V W (0:Int)) fun r=>∃ y,R y∧r=(true,[y,.Z 5 l,iD ((i+m:Nat):Int),iD d,iD c,iD O,iD V,iD W,iD 0])
def Ph.mono {F:PF}{l:List D}{i m:Nat}{R R':D→Prop}{h h':Nat}(H:Ph F l i m R h)(b:∀ y,R y→R' y)(hh:h≤h'):Ph F l i m R' h':=by intro d c O V W g f;exact (H d c O V W g (by omega)).mono fun r ⟨y,a,e⟩=>⟨y,b y a,e⟩
def Nx (l:List D)(i:Nat)(p:G1→Bool):Prop:=∃ t a b e,l[i]? = some (tk 3 t a b e)∧p t=true
def Nx.mono {l:List D}{i:Nat}{p q:G1→Bool}(h:Nx l i p)(c:∀ t,p t=true→q t=true):Nx l i q:=by obtain⟨t,a,b,e,h1,d⟩:=h;exact⟨t,a,b,e,h1,c t d⟩
def aB1:List G1:=[[41],[93],[125],[44],[59],[58],[123]]
def cl (t:G1):Bool:=aB1.contains t
def cu (t:G1):Bool:=aB1.contains t||BR.contains t||t==[63]
def aL7 (t:G1)(h:cl t=true):cu t=true:=by unfold cu;rw [show aB1.contains t=true from h];rfl
def wA (j:Nat)(t:G1):Bool:=decide (t.length≤3)&&(List.range 10).all fun i=>decide (i<j)||!decide (0≤bZ (([32]++t)++[32]) (NG[i]?.getD []) 0)
def GN:(([63]::aB1).all (wA 0))=true:=by kernel_rfl
def GM {t:G1}(h:cl t=true)(j:Nat):wA j t=true:=by
 have:=B6.1 GN t (C0 _ (by simpa [cl] using h));simp only [wA,A9,B6,List.mem_range,Bool.or_eq_true] at this ⊢;refine⟨this.1,fun i a=>?_⟩;rcases this.2 i a with h|h
 ·exact absurd (E7 h) (by omega)
 ·exact .inr h
def Xc (j:Nat):wA j [63]=true:=by
 have:=B6.1 GN [63] (B8 ..);simp only [wA,A9,B6,List.mem_range,Bool.or_eq_true] at this ⊢;refine⟨this.1,fun i a=>?_⟩;rcases this.2 i a with h|h
 ·exact absurd (E7 h) (by omega)
 ·exact .inr h
def Rz {o:G1}(a:o∈BR):wA (MM o+1) o=true:=by
 simp only [wA,A9,B6,List.mem_range,Bool.or_eq_true];refine⟨E6 (YA a),fun i b=>?_⟩;rw [Yl a b];by_cases h:i<MM o+1
 ·exact .inl (E6 h)
 ·refine .inr ?_;rw [F4.2 (by omega:MM o≠i)];rfl
def Rt {j i:Nat}{t:G1}(h:wA j t=true)(a:i<10)(b:j≤i):decide (0≤bZ (([32]++t)++[32]) (NG[i]?.getD []) 0)=false:=by
 simp only [wA,A9,B6,List.mem_range,Bool.or_eq_true] at h;rcases h.2 i a with h|h
 ·exact absurd (E7 h) (by omega)
 ·simpa using h
section
variable {l:List D} (hl:l.length≤1000000)
def aV1 (l:List D)(i:Nat)(d c O V W:Int)(j:Nat)(a b e:Int)(R:D→Prop)(r:Bool×List D):Prop:=
 ∃ h u1 g f k us,R (.agg [iD h,iD u1,iD g,iD f,.str k,.Z 6 us])∧
  r=(false,[iD (j:Int),.Z 5 l,iD (i:Int),iD d,iD c,iD O,iD V,iD W,iD 0,iD 0,iD 0,iD 0,iD 0,.str [],iD a,iD b,iD e,iD h,iD u1,iD g,iD f,.str k,.Z 6 us,.Z 6 []])
def Ir {j:Nat}(v:j<10){i:Nat}{d c O V W:Int}{t:G1}{a1 y e1 a b e r q p o:Int}{k:G1}{f:List D}{Q:Bool×List D→Prop}(z:l[i]? = some (tk 3 t a1 y e1))(u:t.length≤3) (K:∀ m,m=[tk 3 t a1 y e1,.Z 5 l,iD (i:Int),iD d,iD c,iD O,iD V,iD W,iD 0]→U (fun n=>Z0 n (!decide (0≤bZ (([32]++t)++[32]) (NG[j]?.getD []) 0)) (j:Int) m 0 0 0 0 [] a b e r q p o k f []) Q) :U (fun n=>R4 n (j:Int) (.Z 5 l) (i:Int) d c O V W (0:Int) (0:Int) (0:Int) (0:Int) (0:Int) (.str []) a b e r q p o (.str k) (.Z 6 f) (.Z 6 [])) Q:=by
 have w:(ix (NG.map D.str) ((j:Nat):Int)) = .str (NG[j]?.getD []):=by rw [ix,show ((j:Nat):Int).toNat=j from rfl,List.getElem?_map,C2 (show j<NG.length from v)];rfl
 have g:(ix (NG.map D.str) ((j:Nat):Int)).s=NG[j]?.getD []:=congrArg D.s w;have h:(ix (NG.map D.str) ((j:Nat):Int)).s.length≤4294967280:=by rw [g,C2 (show j<NG.length from v)];exact Nat.le_trans (Rd _ (C6 _)) (by decide)
 refine I5 (fun n=>fQ n ..) (J5 (M3 (O3 d c O V W z) (L3 (I4 (L0 aX8 aX8) (I4 (by exact congrArg (fun x=>dA (.leaf .str)&&kX (.leaf .str) x) w) (I4 (E6 (by show 1+t.length≤Z5;simp only [Z5];omega)) (I4 (E6 (by show ([32]++t).length+1≤Z5;simp only [Z5,A7,C9];omega)) (M3 (fY (s:=(ix (NG.map D.str) ((j:Nat):Int)).s) h (([32]++t)++[32])) ?_))))))));have:=K _ rfl;rw [← g] at this;exact this
def Rc {j:Nat}(u:j<10){i:Nat}{d c O V W:Int}{p:G1→Bool}(x:Nx l i p)(hp:∀ t,p t=true→wA j t=true){a b e r q o m:Int}{k:G1}{f:List D}{R:D→Prop} (w:R (.agg [iD r,iD q,iD o,iD m,.str k,.Z 6 f])) :U (fun n=>R4 n (j:Int) (.Z 5 l) (i:Int) d c O V W (0:Int) (0:Int) (0:Int) (0:Int) (0:Int) (.str []) a b e r q o m (.str k) (.Z 6 f) (.Z 6 [])) (aV1 l i d c O V W j a b e R):=by
 obtain⟨t,a1,A,e1,v,y⟩:=x;have g:=hp t y;have h:t.length≤3:=by simp only [wA,A9] at g;exact E7 g.1
 refine Ir u (d:=d) (c:=c) (O:=O) (V:=V) (W:=W) v h fun z s=>?_;rw [Rt g u (B9 _)];subst s;exact (J5 (H8 ⟨r,q,o,m,k,f,w,rfl⟩))
noncomputable def Fj (j:Nat):PF:=fun n=>R8 n (j:Int)
def vW {i m:Nat}{R:D→Prop}{h:Nat}(u:∀ y,R y→GA y){p:G1→Bool}(s:Nx l (i+m) p)(r:∃ k t a b e,l[i]? = some (tk k t a b e)):∀ (q j:Nat),j+q≤10→(∀ t,p t=true→wA j t=true)→Ph (Fj (j+q)) l i m R h→Ph (Fj j) l i m R h
 |0,j,_,_,H=>H
 |q+1,j,M,hp,H=>by
  have H1:Ph (Fj (j+1)) l i m R h:=vW u s r q (j+1) (by omega) (fun t f=>by
   have:=hp t f;simp only [wA,A9,B6,List.mem_range,Bool.or_eq_true] at this ⊢;refine⟨this.1,fun i w=>?_⟩;rcases this.2 i w with h|h
   ·exact .inl (E6 (by have:=E7 h;omega))
   ·exact .inr h) (by rw [show j+1+q=j+(q+1) from by omega];exact H)
  intro d c O V W x g;obtain⟨k,t,a,b,e,f⟩:=r;have I:=H1 d c O V W x g;unfold Fj at I ⊢;rw [← P4] at I;refine I5 (fun n=>cV n ..) (N8 (F4.2 (by omega)) (M3 (O3 d c O V W f) (H6 I ?_)));rintro _ ds ⟨y,o,h0⟩;cases h0;obtain⟨F,E,C,B,z,A,rfl⟩:=u y o;refine⟨rfl,J5 (L4 (Rc (l:=l) (i:=i+m) (d:=d) (c:=c) (O:=O) (V:=V) (W:=W) (R:=R) (by omega) s hp o) (fun ds h=>by obtain⟨_,_,_,_,_,_,_,h⟩:=h;cases h) fun ds h=>?_)⟩;obtain⟨K,u1,J,G,L,us,v,h⟩:=h;cases h;exact J5 (H8 ⟨_,v,rfl⟩)
def uX {i m:Nat}{R:D→Prop}{h:Nat}(f:∀ y,R y→GA y)(H:Ph (fun n=>S3 n) l i m R h):Ph (Fj 10) l i m R h:=by intro d c O V W e a;refine I5 (fun n=>cV n ..) (J5 (H6 (H d c O V W e a) ?_));rintro _ ds ⟨y,b,h0⟩;cases h0;obtain⟨q,p,o,k,g,j,rfl⟩:=f y b;exact⟨rfl,J5 (H8 ⟨_,b,rfl⟩)⟩
include hl
def Ln {i m1 f:Nat}{w s:D→Prop}{h:Nat}{o:G1}(x:o∈BR)(r:∀ y,w y→GA y)(q:∀ y,s y→GA y)(G:∃ k t a b e,l[i]? = some (tk k t a b e)) (H1:Ph (fun n=>S3 n) l i m1 w h) (g:∃ a b e,l[i+m1]? = some (tk 3 o a b e)) (F:∃ k t a b e,l[i+m1+1]? = some (tk k t a b e)) (H2:Ph (fun n=>S3 n) l (i+m1+1) f s h) (K:Nx l (i+m1+1+f) cl) :Ph (Fj 0) l i (m1+1+f) (fun y=>∃ a b e u v,y=PE 4 a b e o [u,v]∧w u∧s v) h:=by
 have N:=aD2 x;have R:∀ y,(∃ a b e u v,y=PE 4 a b e o [u,v]∧w u∧s v)→GA y:=fun y ⟨a,b,e,u,v,E,_⟩=>⟨_,_,_,_,_,_,E⟩;have A:Nx l (i+(m1+1+f)) cl:=by rw [show i+(m1+1+f)=i+m1+1+f from by omega];exact K
 refine vW R A G (MM o) 0 (by omega) (fun t m=>GM m _) ?_;rw [C5];obtain⟨a2,T,S,g⟩:=g;have L1:Ph (Fj (MM o+1)) l i m1 w h:=vW r (p:=fun t=>t==o) ⟨o,a2,T,S,g,F3 _⟩ G (10-(MM o+1)) (MM o+1) (by omega) (fun t m=>by rw [eq_of_beq m];exact Rz x) (by rw [show MM o+1+(10-(MM o+1))=10 from by omega];exact uX r H1);have X:Ph (Fj (MM o+1)) l (i+m1+1) f s h:=vW q K F (10-(MM o+1)) (MM o+1) (by omega) (fun t m=>GM m _) (by rw [show MM o+1+(10-(MM o+1))=10 from by omega];exact uX q H2);intro d c O V W L B;obtain⟨k,t,a,b,e,m⟩:=G;have I:=L1 d c O V W L B;have C:=X d c O V W L B;have P:=vY g;unfold Fj at I C ⊢;rw [show i+m1+1+f=i+(m1+1+f) from by omega] at C;rw [← P4] at I C;rw [← P4 (j:=i+m1) (by omega)] at C;refine I5 (fun n=>cV n ..) (N8 (F4.2 (by omega)) (M3 (O3 d c O V W m) (H6 I ?_)));rintro _ ds ⟨y,E,h0⟩;cases h0;obtain⟨v0,v1,v2,v3,vt,vs,rfl⟩:=r y E;refine⟨rfl,J5 (L4 (Q:=aV1 l (i+(m1+1+f)) d c O V W (MM o) a b e fun y=>∃ a b e u v,y=PE 4 a b e o [u,v]∧w u∧s v) ?_ (fun ds h=>by obtain⟨_,_,_,_,_,_,_,h⟩:=h;cases h) fun ds h=>?_)⟩
 ·refine Ir (l:=l) (i:=i+m1) (d:=d) (c:=c) (O:=O) (V:=V) (W:=W) (j:=MM o) (by omega) g (YA x) fun r1 H=>?_;rw [Yl x (by omega),F3];subst H;refine (L3 (M3 (Sa x) (H6 C ?_)));rintro _ ds ⟨z,J,h0⟩;cases h0;obtain⟨w0,w1,w2,w3,wt,ws,rfl⟩:=q z J;exact⟨rfl,J5 (Rc (l:=l) (i:=i+(m1+1+f)) (d:=d) (c:=c) (O:=O) (V:=V) (W:=W) (j:=MM o) (by omega) A (fun t m=>GM m _) ⟨_,_,_,_,_,rfl,E,J⟩)⟩
 ·obtain⟨u0,u1,u2,u3,su,us,M,h⟩:=h;cases h;exact J5 (H8 ⟨_,M,rfl⟩)
end
end
section
def aK5 (l:List D):Prop:=∀ y∈l,∃ (k:Int) (t:G1) (a b g:Int),y=tk k t a b g
structure Dd (l:List D) (i:Nat) (e:Int):Prop where
 tk:aK5 l
 le:l.length≤1000000
 dead:e≠0∨l.length≤i
def K3 (l:List D):D:=l[l.length-1]?.getD (tk 0 [] 0 0 0)
def Fq (l:List D)(O V W e b a q2 f:Int):Prop:=
 (e≠0→f=e∧b=O∧a=V∧q2=W)∧(e=0→f=0∨f=6∧b=((K3 l).at_ 2).i∧a=((K3 l).at_ 3).i∧q2=((K3 l).at_ 4).i)
section
variable {l:List D} {i:Nat} {e:Int}
def Fq.refl {O V W:Int}:Fq l O V W e O V W e:=⟨fun _=>⟨rfl,rfl,rfl,rfl⟩,fun h=> .inl h⟩
def Fq.trans {O V W n m q2 f j s1 b g:Int}(h:Fq l O V W e n m q2 f)(h':Fq l n m q2 f j s1 b g):Fq l O V W e j s1 b g:=by
 refine⟨fun a=>?_,fun a=>?_⟩
 ·obtain⟨rfl,rfl,rfl,rfl⟩:=h.1 a;exact h'.1 a
 ·rcases h.2 a with rfl|⟨rfl,r0,p,o⟩
  ·exact h'.2 rfl
  ·obtain⟨rfl,rfl,rfl,rfl⟩:=h'.1 (by decide);exact .inr ⟨rfl,r0,p,o⟩
def Dd.fq {O V W b a q2 f:Int}(h:Dd l i e)(g:Fq l O V W e b a q2 f):Dd l i f:=by
 refine⟨h.tk,h.le,?_⟩;by_cases he:e=0
 ·exact .inr (h.dead.resolve_left fun h=>h he)
 ·rw [(g.1 he).1];exact .inl he
def FW (l:List D)(i:Nat)(O V W e:Int)(r:Bool×List D):Prop:=∃ d c b a q2 f:Int,Fq l O V W e b a q2 f∧
 r=(true,[.Z 5 l,iD (i:Int),iD d,iD c,iD b,iD a,iD q2,iD f])
def F0 (l:List D)(i:Nat)(O V W e:Int)(r:Bool×List D):Prop:=∃ d c b a q2 f:Int,Fq l O V W e b a q2 f∧f≠0∧
 r=(true,[.Z 5 l,iD (i:Int),iD d,iD c,iD b,iD a,iD q2,iD f])
def F1 (R:D→Prop)(l:List D)(i:Nat)(O V W e:Int)(r:Bool×List D):Prop:=∃ (y:D) (d c b a q2 f:Int),R y∧Fq l O V W e b a q2 f∧f≠0∧
 r=(true,[y,.Z 5 l,iD (i:Int),iD d,iD c,iD b,iD a,iD q2,iD f])
def FL (k:Nat)(l:List D)(i:Nat)(O V W e:Int)(r:Bool×List D):Prop:=∃ (ys:List D) (d c b a q2 f:Int),ys.length≤1∧Fq l O V W e b a q2 f∧f≠0∧
 r=(true,[.Z 5 l,iD (i:Int),iD d,iD c,iD b,iD a,iD q2,iD f,.Z k ys])
def XB (a b g k i d c O V W:Int):U (fun n=>M9 n (.agg [iD a,iD b,iD g]) k (.Z 5 l) i d c O V W (0:Int)) fun r=>r=(true,[.Z 5 l,iD i,iD d,iD c,iD a,iD b,iD g,iD k]):=I5 (fun n=>nI n ..) (J5 (H8 rfl))
def AX (f:e≠0)(a b g k i d c O V W:Int):U (fun n=>M9 n (.agg [iD a,iD b,iD g]) k (.Z 5 l) i d c O V W e) fun r=>r=(true,[.Z 5 l,iD i,iD d,iD c,iD O,iD V,iD W,iD e]):=I5 (fun n=>nI n ..) (N8 (F4.2 f) (H8 rfl))
def OZ (h:Dd l i e)(d c O V W:Int):U (fun n=>J8 n (.Z 5 l) (i:Int) d c O V W e) fun r=>r=(true,[tk 0 [] 0 0 0,.Z 5 l,iD (i:Int),iD d,iD c,iD O,iD V,iD W,iD e]):=by
 have J:U (fun n=>aX n true l i d c O V W e) fun r=>r=(true,[tk 0 [] 0 0 0,.Z 5 l,iD (i:Int),iD d,iD c,iD O,iD V,iD W,iD e]):=(J5 (H8 rfl));refine I5 (fun n=>kL n ..) (K0 (fun _=>J) fun a=>?_);have a:e=0:=by simpa using a
 have b:=h.dead.resolve_left fun h=>h a;rw [show decide ((i:Int)≥(l.length:Int))=true from aX8];exact J
def WQ {w:G1}(a:([]==w)=false)(h:Dd l i e)(d c O V W:Int):U (fun n=>L5 n (.str w) (.Z 5 l) (i:Int) d c O V W e) fun r=>r=(true,[.bool false,.Z 5 l,iD (i:Int),iD d,iD c,iD O,iD V,iD W,iD e]):=by refine I5 (fun n=>lR n ..) ?_;(refine H6 (OZ h d c O V W) ?_;(intro _ ds h0;cases h0;refine⟨rfl,J5 ?_⟩));exact N8 a (H8 rfl)
def vM {w:G1}(a:([]==w)=false)(h:Dd l i e)(d c O V W:Int):U (fun n=>H9 n (.str w) (.Z 5 l) (i:Int) d c O V W e) fun r=>r=(true,[.bool false,.Z 5 l,iD (i:Int),iD d,iD c,iD O,iD V,iD W,iD e]):=by exact I5 (fun n=>gE n ..) (M3 (WQ a h d c O V W) (J5 (H8 rfl)))
def Ak (h:Dd l i e)(d c O V W:Int):U (fun n=>S6 n (.Z 5 l) (i:Int) d c O V W e) (F0 l i O V W e):=by
 have s:=h.le;refine I5 (fun n=>hU n ..) ?_;by_cases hi:i<l.length
 ·have o:e≠0:=h.dead.resolve_right (by omega);obtain⟨k,t,a,b,g,m⟩:=h.tk l[i] (C6 hi);have p:ix l ((i:Nat):Int)=tk k t a b g:=by rw [bS hi,m]
  refine I4 aX8 (I4 (P1 hi) ?_);rw [p];exact J5 (J5 (M3 (AX o a b g 5 i d c O V W) (H8 ⟨d,c,O,V,W,e,Fq.refl,o,rfl⟩)))
 ·have J:∀ a b g:Int,a=((K3 l).at_ 2).i→b=((K3 l).at_ 3).i→g=((K3 l).at_ 4).i→U (fun n=>bY n a b g l i d c O V W e) (F0 l i O V W e):=by
   intro a b g v u m;refine O9 (fun n=>bY.eq_1 n a b g l i d c O V W e) ?_;by_cases o:e=0
   ·subst o;exact M3 (XB a b g 6 i d c O V W) (H8 ⟨d,c,a,b,g,6,⟨fun h=>absurd rfl h,fun _=> .inr ⟨rfl,v,u,m⟩⟩,by decide,rfl⟩)
   ·exact M3 (AX o a b g 6 i d c O V W) (H8 ⟨d,c,O,V,W,e,Fq.refl,o,rfl⟩)
  refine N8 aY0 ?_;by_cases hl:l.length=0
  ·have j:l=[]:=E5.1 hl;exact N8 aY0 (J 0 0 0 (by rw [j];rfl) (by rw [j];rfl) (by rw [j];rfl))
  ·(have f:l.length-1<l.length:=by omega);have r:i64.wrap ((l.length:Int)-1)=((l.length-1:Nat):Int):=by rw [Q3];omega
   (obtain⟨k,t,a,b,g,m⟩:=h.tk l[l.length-1] (C6 f);have p:ix l ((l.length-1:Nat):Int)=tk k t a b g:=by rw [bS f,m]);have q:K3 l=tk k t a b g:=by unfold K3;rw [C2 f,m];rfl
   refine I4 aX8 ?_;rw [r];refine I4 (P1 f) ?_;rw [p];exact J5 (J5 (J a b g (by rw [q];rfl) (by rw [q];rfl) (by rw [q];rfl)))
def WU {w:G1}(ws:List D)(a:([]==w)=false)(h:Dd l i e)(d c O V W:Int):U (fun n=>I0 n (.Z 1 (.str w::ws)) (.Z 5 l) (i:Int) d c O V W e) (F0 l i O V W e):=by
 have f:U (fun n=>U8 n (.Z 1 (.str w::ws)) ((D.str w::ws).length:Int) (0:Int) (.Z 5 l) (i:Int) d c O V W e) (F0 l i O V W e):=by refine I5 (fun n=>dT n ..) (I4 (E6 (by rw [A0];omega)) (I4 (P1 (j:=0) (by rw [A0];omega)) (J5 (M3 (show U (fun n=>H9 n (.str w) (.Z 5 l) (i:Int) d c O V W e) _ from vM a h d c O V W) ?_))));refine J5 (H6 (Ak h d c O V W) ?_);have F:=@Fq.refl l e O V W;rintro _ ds ⟨d,c,O,V,W,e,g,b,h0⟩;cases h0;exact⟨rfl,J5 (H8 ⟨d,c,O,V,W,e,F.trans g,b,rfl⟩)⟩
 exact I5 (fun n=>jY n (.str w::ws) l i d c O V W e) (L4 f (fun _ h=>h) fun _ h=>by obtain⟨_,_,_,_,_,_,_,_,h⟩:=h;cases h)
def Ao (h:Dd l i e)(d c O V W:Int):U (fun n=>X9 n (.Z 5 l) (i:Int) d c O V W e) fun r=>r=(true,[.bool false,.Z 5 l,iD (i:Int),iD d,iD c,iD O,iD V,iD W,iD e]):=by refine I5 (fun n=>lQ n ..) ?_;(refine H6 (OZ h d c O V W) ?_;(intro _ ds h0;cases h0;refine⟨rfl,J5 ?_⟩));exact L3 (H8 rfl)
def Qa (h:Dd l i e)(d c O V W:Int):U (fun n=>K9 n (.Z 5 l) (i:Int) d c O V W e) (F1 (· = .str []) l i O V W e):=by have F:=@Fq.refl l e O V W;refine I5 (fun n=>nL n ..) (M3 (Ao h d c O V W) (J5 ?_));(refine H6 (Ak h d c O V W) ?_;rintro _ ds ⟨d,c,O,V,W,e,a,b,h0⟩;cases h0;have h:=h.fq a;have F:=F.trans a;refine⟨rfl,J5 ?_⟩);exact H8 ⟨_,d,c,O,V,W,e,rfl,F,b,rfl⟩
end
section
variable {l:List D} {i:Nat} {e d c O V W b0 b1 b2 be:Int} {P:Bool×List D→Prop} {k:List D→Nat→Out} {t:Nat→Out} {sk:Sk}
def zn (h:Dd l i e)(F:Fq l b0 b1 b2 be O V W e)(K:∀ d c:Int,U (fun n=>k [tk 0 [] 0 0 0,.Z 5 l,iD (i:Int),iD d,iD c,iD O,iD V,iD W,iD e] n) P):U (fun n=>bc J8.I6 (J8 n (.Z 5 l) (i:Int) d c O V W e) fun r=>k r n) P:=by have _:=F;refine M3 (OZ h d c O V W) (K d c)
def zt (w:G1)(a:([]==w)=false)(h:Dd l i e)(F:Fq l b0 b1 b2 be O V W e)(K:∀ d c:Int,U (fun n=>k [.bool false,.Z 5 l,iD (i:Int),iD d,iD c,iD O,iD V,iD W,iD e] n) P):U (fun n=>bc H9.I6 (H9 n (.str w) (.Z 5 l) (i:Int) d c O V W e) fun r=>k r n) P:=by have _:=F;refine M3 (vM a h d c O V W) (K d c)
def zi (w:G1)(a:([]==w)=false)(h:Dd l i e)(F:Fq l b0 b1 b2 be O V W e)(K:∀ d c:Int,U (fun n=>k [.bool false,.Z 5 l,iD (i:Int),iD d,iD c,iD O,iD V,iD W,iD e] n) P):U (fun n=>bc L5.I6 (L5 n (.str w) (.Z 5 l) (i:Int) d c O V W e) fun r=>k r n) P:=by have _:=F;refine M3 (WQ a h d c O V W) (K d c)
def z0 (X:U t (F0 l i O V W e))(h:Dd l i e)(F:Fq l b0 b1 b2 be O V W e)(b:sk=I0.I6)(K:∀ d c O V W e:Int,Dd l i e→Fq l b0 b1 b2 be O V W e→e≠0→U (fun n=>k [.Z 5 l,iD (i:Int),iD d,iD c,iD O,iD V,iD W,iD e] n) P):U (fun n=>bc sk (t n) fun r=>k r n) P:=by subst b;refine H6 X ?_;rintro _ ds ⟨d,c,O,V,W,e,a,f,h0⟩;cases h0;exact⟨rfl,J5 (K d c O V W e (h.fq a) (F.trans a) f)⟩
def zw (X:U t (FW l i O V W e))(h:Dd l i e)(F:Fq l b0 b1 b2 be O V W e)(b:sk=I0.I6)(K:∀ d c O V W e:Int,Dd l i e→Fq l b0 b1 b2 be O V W e→U (fun n=>k [.Z 5 l,iD (i:Int),iD d,iD c,iD O,iD V,iD W,iD e] n) P):U (fun n=>bc sk (t n) fun r=>k r n) P:=by subst b;refine H6 X ?_;rintro _ ds ⟨d,c,O,V,W,e,a,h0⟩;cases h0;exact⟨rfl,J5 (K d c O V W e (h.fq a) (F.trans a))⟩
def zI (X:U t fun r=>∃ d c b a q2 f:Int,Fq l O V W e b a q2 f∧r=(true,[.bool (f==0),.Z 5 l,iD (i:Int),iD d,iD c,iD b,iD a,iD q2,iD f]))(h:Dd l i e)(F:Fq l b0 b1 b2 be O V W e)(K:∀ d c O V W e:Int,Dd l i e→Fq l b0 b1 b2 be O V W e→U (fun n=>k [.bool (e==0),.Z 5 l,iD (i:Int),iD d,iD c,iD O,iD V,iD W,iD e] n) P):U (fun n=>bc P8.I6 (t n) fun r=>k r n) P:=by refine H6 X ?_;rintro _ ds ⟨d,c,O,V,W,e,g,h0⟩;cases h0;exact⟨rfl,J5 (K d c O V W e (h.fq g) (F.trans g))⟩
def z1 {R:D→Prop}(X:U t (F1 R l i O V W e))(h:Dd l i e)(F:Fq l b0 b1 b2 be O V W e)(K:∀ y:D,R y→∀ d c O V W e:Int,Dd l i e→Fq l b0 b1 b2 be O V W e→e≠0→U (fun n=>k [y,.Z 5 l,iD (i:Int),iD d,iD c,iD O,iD V,iD W,iD e] n) P):U (fun n=>AE.J3 (t n) fun r=>k r n) P:=by refine H6 X ?_;rintro _ ds ⟨y,d,c,O,V,W,e,b,a,f,h0⟩;cases h0;exact⟨rfl,K y b d c O V W e (h.fq a) (F.trans a) f⟩
def zm (h:Dd l i e)(F:Fq l b0 b1 b2 be O V W e)(K:∀ d c O V W e:Int,Dd l i e→Fq l b0 b1 b2 be O V W e→e≠0→U (fun n=>k [.str [],.Z 5 l,iD (i:Int),iD d,iD c,iD O,iD V,iD W,iD e] n) P):U (fun n=>bc K9.I6 (K9 n (.Z 5 l) (i:Int) d c O V W e) fun r=>k r n) P:=z1 (Qa h d c O V W) h F fun y a d c O V W e h F b=>by subst a;exact J5 (K d c O V W e h F b)
def zW (w:G1)(ws:List D)(a:([]==w)=false)(h:Dd l i e)(F:Fq l b0 b1 b2 be O V W e)(K:∀ d c O V W e:Int,Dd l i e→Fq l b0 b1 b2 be O V W e→e≠0→U (fun n=>k [.Z 5 l,iD (i:Int),iD d,iD c,iD O,iD V,iD W,iD e] n) P):U (fun n=>bc I0.I6 (I0 n (.Z 1 (.str w::ws)) (.Z 5 l) (i:Int) d c O V W e) fun r=>k r n) P:=z0 (WU ws a h d c O V W) h F rfl K
def zP (X:U t (F1 (·=PE 2 0 0 0 [] []) l i O V W e))(h:Dd l i e)(F:Fq l b0 b1 b2 be O V W e)(b:sk=I9.I6)(K:∀ d c O V W e:Int,Dd l i e→Fq l b0 b1 b2 be O V W e→e≠0→U (fun n=>k [PE 2 0 0 0 [] [],.Z 5 l,iD (i:Int),iD d,iD c,iD O,iD V,iD W,iD e] n) P):U (fun n=>bc sk (t n) fun r=>k r n) P:=by subst b;exact z1 X h F fun y a d c O V W e h F f=>by subst a;exact J5 (K d c O V W e h F f)
def zE (X:U t (F1 GA l i O V W e))(h:Dd l i e)(F:Fq l b0 b1 b2 be O V W e)(p:sk=I9.I6)(K:∀ (m j g f:Int) (a:G1) (b:List D),∀ d c O V W e:Int,Dd l i e→Fq l b0 b1 b2 be O V W e→e≠0→U (fun n=>k [.agg [iD m,iD j,iD g,iD f,.str a,.Z 6 b],.Z 5 l,iD (i:Int),iD d,iD c,iD O,iD V,iD W,iD e] n) P):U (fun n=>bc sk (t n) fun r=>k r n) P:=by subst p;exact z1 X h F fun y o d c O V W e h F q=>by obtain⟨m,j,g,f,a,b,rfl⟩:=o;exact J5 (K m j g f a b d c O V W e h F q)
end
end
section
section
variable {l:List D} {i:Nat} {e:Int}
def WS (k:Int)(h:Dd l i e)(d c O V W:Int):U (fun n=>V9 n k (.Z 5 l) (i:Int) d c O V W e) (F0 l i O V W e):=by
 have F:=@Fq.refl l e O V W;refine I5 (fun n=>gC n ..) ?_;by_cases hi:i<l.length
 ·have f:e≠0:=h.dead.resolve_right (by omega);obtain⟨j,t,a,b,g,o⟩:=h.tk l[i] (C6 hi);have m:ix l ((i:Nat):Int)=tk j t a b g:=by rw [bS hi,o]
  refine N8 aY0 (I4 (P1 hi) ?_);rw [m];exact J5 (J5 (M3 (AX f a b g k i d c O V W) (H8 ⟨d,c,O,V,W,e,F,f,rfl⟩)))
 ·exact I4 aX8 (z0 (Ak h d c O V W) h F rfl fun d c O V W e h F f=>H8 ⟨d,c,O,V,W,e,F,f,rfl⟩)
def Ve (h:Dd l i e)(d c O V W:Int):U (fun n=>P8 n (.Z 5 l) (i:Int) d c O V W e) fun r=>∃ d c b a q2 f:Int,Fq l O V W e b a q2 f∧r=(true,[.bool (f==0),.Z 5 l,iD (i:Int),iD d,iD c,iD b,iD a,iD q2,iD f]):=by have F:=@Fq.refl l e O V W;refine I5 (fun n=>lP n ..) (K0 (fun _=>?_) fun _=>H8 ⟨_,c,O,V,W,e,F,rfl⟩);exact z0 (WS 8 h _ c O V W) h F rfl fun d c O V W e h F g=>H8 ⟨d,c,O,V,W,e,F,rfl⟩
def TX (h:Dd l i e)(d c O V W:Int):U (fun n=>K7 n (.Z 5 l) (i:Int) d c O V W e) (FW l i O V W e):=by have _:=h;exact I5 (fun n=>iA n ..) (H8 ⟨_,c,O,V,W,e,Fq.refl,rfl⟩)
def JI (h:Dd l i e)(d c O V W:Int):U (fun n=>W5 n (.Z 5 l) (i:Int) d c O V W e) (FW l i O V W e):=by have F:=@Fq.refl l e O V W;refine I5 (fun n=>kS n ..) (K0 (fun _=>?_) fun _=>H8 ⟨d,_,O,V,W,e,F,rfl⟩);exact z0 (WS 19 h d _ O V W) h F rfl fun d c O V W e h F a=>H8 ⟨d,c,O,V,W,e,F,rfl⟩
def Eu (h:Dd l i e)(d c O V W:Int):U (fun n=>Q1 n (.Z 5 l) (i:Int) d c O V W e) (F1 (·=PE 2 0 0 0 [] []) l i O V W e):=by have F:=@Fq.refl l e O V W;refine I5 (fun n=>gA n ..) (zn h F fun d c=>zm h F fun d c O V W e h F a=>?_);(refine zt [91] rfl h F fun d c=>?_;refine J5 ?_);exact H8 ⟨_,d,c,O,V,W,e,rfl,F,a,rfl⟩
def Yd (h:Dd l i e)(d c O V W:Int):U (fun n=>bB n (.Z 5 l) (i:Int) d c O V W e) (F1 (·=PE 2 0 0 0 [] []) l i O V W e):=by have F:=@Fq.refl l e O V W;refine I5 (fun n=>aE n ..) (zn h F fun d c=>L3 ?_);(refine zt [40] rfl h F fun d c=>?_;refine L3 ?_);(refine zt [123] rfl h F fun d c=>?_;refine L3 ?_);exact zi [36,115,105,103,110,101,100] rfl h F fun d c=>L3 (zi [36,117,110,115,105,103,110,101,100] rfl h F fun d c=>L3 (zP (Eu h d c O V W) h F rfl fun d c O V W e h F a=>J5 (zi [40] rfl h F fun d c=>(L3 (H8 ⟨_,d,c,O,V,W,e,rfl,F,a,rfl⟩)))))
def Hw (h:Dd l i e)(d c O V W:Int):U (fun n=>S3 n (.Z 5 l) (i:Int) d c O V W e) (F1 (·=PE 2 0 0 0 [] []) l i O V W e):=by have F:=@Fq.refl l e O V W;exact I5 (fun n=>jF n ..) (zn h F fun d c=>J5 (J5 (zP (Yd h d c O V W) h F rfl fun d c O V W e h F a=>H8 ⟨_,d,c,O,V,W,e,rfl,F,a,rfl⟩)))
def WR (h:Dd l i e)(d c O V W:Int):∀ (q j:Nat),j+q=10→U (fun n=>R8 n (j:Int) (.Z 5 l) (i:Int) d c O V W e) (F1 (·=PE 2 0 0 0 [] []) l i O V W e)
 |0,j,b=>by have F:=@Fq.refl l e O V W;refine I5 (fun n=>cV n ..) (I4 (by simp;omega) ?_);refine zP (Hw h d c O V W) h F rfl fun d c O V W e h F a=>?_;exact H8 ⟨_,d,c,O,V,W,e,rfl,F,a,rfl⟩
 |q+1,j,b=>by have F:=@Fq.refl l e O V W;refine I5 (fun n=>cV n j l i d c O V W e) (N8 (F4.2 (by omega)) (zn h F fun d c=>?_));have I:=WR h d c O V W q (j+1) (by omega);rw [← P4] at I;refine zP I h F rfl fun d c O V W e h F a=>?_;have L:U (fun n=>R4 n (j:Int) (.Z 5 l) (i:Int) d c O V W e (0:Int) (0:Int) (0:Int) (0:Int) (.str []) (0:Int) (0:Int) (0:Int) (2:Int) (0:Int) (0:Int) (0:Int) (.str []) (.Z 6 []) (.Z 6 [])) fun r=>r=(false,[iD (j:Int),.Z 5 l,iD (i:Int),iD d,iD c,iD O,iD V,iD W,iD e,iD 0,iD 0,iD 0,iD 0,.str [],iD 0,iD 0,iD 0,iD 2,iD 0,iD 0,iD 0,.str [],.Z 6 [],.Z 6 []]):=I5 (fun n=>fQ n j l i d c O V W e 0 0 0 0 [] 0 0 0 2 0 0 0 [] [] []) (N8 (F4.2 a) (H8 rfl));refine L4 L (fun _ h=>by cases h) fun _ h0=>?_;cases h0;exact J5 (H8 ⟨_,d,c,O,V,W,e,rfl,F,a,rfl⟩)
def wY (h:Dd l i e)(d c O V W:Int):U (fun n=>I9 n (.Z 5 l) (i:Int) d c O V W e) (F1 GA l i O V W e):=by
 have F:=@Fq.refl l e O V W;refine I5 (fun n=>jX n ..) (zn h F fun d c=>zI (Ve h d c O V W) h F fun d c O V W e h F=>K0 (fun g=>?_) fun g=>?_)
 ·have a:e≠0:=by simpa [Y,D.b] using g
  refine H6 (TX h d c O V W) ?_;rintro _ ds ⟨d,c,O,V,W,e,f,h0⟩;cases h0;have a:=(f.1 a).1▸a;exact⟨rfl,J5 (H8 ⟨_,d,c,O,V,W,e,⟨_,_,_,_,_,_,rfl⟩,F.trans f,a,rfl⟩)⟩
 ·refine zP (WR h d c O V W 10 0 rfl) h F rfl fun d c O V W e h F a=>?_;(refine zt [63] rfl h F fun d c=>?_;refine J5 ?_);refine H6 (TX h d c O V W) ?_;rintro _ ds ⟨d,c,O,V,W,e,f,h0⟩;cases h0;have a:=(f.1 a).1▸a;exact⟨rfl,J5 (H8 ⟨_,d,c,O,V,W,e,⟨_,_,_,_,_,_,rfl⟩,F.trans f,a,rfl⟩)⟩
def Vt (a:e≠0)(w:G1)(i d c O V W:Int):U (fun n=>Q8 n (.str w) (.Z 5 l) i d c O V W e) fun r=>r=(true,[.Z 5 l,iD i,iD d,iD c,iD O,iD V,iD W,iD e,.Z 14 []]):=by
 refine I5 (fun n=>jE n ..) (L4 (Q:=fun r=>r=(false,[.str w,.Z 5 l,iD i,iD d,iD c,iD O,iD V,iD W,iD e,.Z 14 []])) ?_ (fun ds h=>by cases h) fun ds h=>?_)
 ·exact I5 (fun n=>aQ n w l i d c O V W e []) (N8 (F4.2 a) (L3 (H8 rfl)))
 ·cases h;exact J5 (H8 rfl)
end
end
section
section
variable {l:List D} {i:Nat} {e:Int}
def An {acc:List D}(h:Dd l i e)(d c O V W:Int):U (fun n=>V7 n (.Z 5 l) (i:Int) d c O V W e (.Z 6 acc)) fun r=>r=(false,[.Z 5 l,iD (i:Int),iD d,iD c,iD O,iD V,iD W,iD e,.Z 6 acc]):=by
 refine I5 (fun n=>fP n ..) ?_
 ((refine H6 (vM (w:=[44]) (by decide) h d c O V W) ?_;(intro _ ds h0;cases h0;refine⟨rfl,J5 ?_⟩));refine L3 ?_)
 exact H8 rfl
def FX (l:List D)(i:Nat)(O V W e:Int)(r:Bool×List D):Prop:=∃ (y:D) (d c b a q2 f:Int),Fq l O V W e b a q2 f∧f≠0∧r=(true,[.Z 5 l,iD (i:Int),iD d,iD c,iD b,iD a,iD q2,iD f,.Z 6 [y]])
def GU (h:Dd l i e)(d c O V W:Int):U (fun n=>O7 n (.Z 5 l) (i:Int) d c O V W e) (FX l i O V W e):=by (have F:=@Fq.refl l e O V W);refine I5 (fun n=>mG n ..) (zE (wY h d c O V W) h F rfl fun _ _ _ _ _ _ d c O V W e h F a=>L4 (An h d c O V W) (fun _ h=>by cases h) fun _ h0=>?_);cases h0;exact J5 (H8 ⟨_,d,c,O,V,W,e,F,a,rfl⟩)
def zX {O V W f b a be:Int}{P:Bool×List D→Prop}{k:List D→Nat→Out}{t:Nat→Out}{sk:Sk}(X:U t (FX l i O V W e))(h:Dd l i e)(F:Fq l f b a be O V W e)(j:sk=O7.I6)(K:∀ y:D,∀ d c O V W e:Int,Dd l i e→Fq l f b a be O V W e→e≠0→U (fun n=>k [.Z 5 l,iD (i:Int),iD d,iD c,iD O,iD V,iD W,iD e,.Z 6 [y]] n) P):U (fun n=>bc sk (t n) fun r=>k r n) P:=by subst j;refine H6 X ?_;rintro _ ds ⟨y,d,c,O,V,W,e,g,m,h0⟩;cases h0;exact⟨rfl,J5 (K y d c O V W e (h.fq g) (F.trans g) m)⟩
def aB6 {a0 a2 a3 a4:Int}{a1:G1}(h:Dd l i e)(d c O V W:Int):U (fun n=>V8 n (.agg [iD a0,.str a1,iD a2,iD a3,iD a4]) (.Z 5 l) (i:Int) d c O V W e) (F1 GA l i O V W e):=by (have F:=@Fq.refl l e O V W);exact I5 (fun n=>nH n ..) (zW [40] [] rfl h F fun d c O V W e h F a=>zX (GU h d c O V W) h F rfl fun _ d c O V W e h F a=>zW [41] [] rfl h F fun d c O V W e h F a=>H8 ⟨_,d,c,O,V,W,e,⟨_,_,_,_,_,_,rfl⟩,F,a,rfl⟩)
def Pu {a0 a1 a2:Int}(h:Dd l i e)(d c O V W:Int):U (fun n=>X8 n (.agg [iD a0,iD a1,iD a2]) (.Z 5 l) (i:Int) d c O V W e) (F1 GA l i O V W e):=by (have F:=@Fq.refl l e O V W);exact I5 (fun n=>iI n ..) (zX (GU h d c O V W) h F rfl fun _ d c O V W e h F a=>J5 (zt [123] rfl h F fun d c=>(L3 (O9 (fun n=>Y4.eq_1 n ..) (zW [125] [] rfl h F fun d c O V W e h F a=>H8 ⟨_,d,c,O,V,W,e,⟨_,_,_,_,_,_,rfl⟩,F,a,rfl⟩)))))
def OY (h:Dd l i e)(d c O V W:Int):U (fun n=>Q7 n (.Z 5 l) (i:Int) d c O V W e) fun r=>r=(true,[.Z 5 l,iD (i:Int),iD d,iD c,iD O,iD V,iD W,iD e,.Z 6 []]):=by
 refine I5 (fun n=>iH n ..) ?_
 ((refine H6 (vM (w:=[91]) (by decide) h d c O V W) ?_;(intro _ ds h0;cases h0;refine⟨rfl,J5 ?_⟩));refine J5 ?_)
 exact H8 rfl
def WT (h:Dd l i e)(d c O V W:Int):U (fun n=>R9 n (.Z 5 l) (i:Int) d c O V W e) (F1 GA l i O V W e):=by (have F:=@Fq.refl l e O V W);exact I5 (fun n=>mI n ..) (zW [40] [] rfl h F fun d c O V W e h F a=>zE (wY h d c O V W) h F rfl fun _ _ _ _ _ _ d c O V W e h F a=>zW [41] [] rfl h F fun d c O V W e h F a=>H8 ⟨_,d,c,O,V,W,e,⟨_,_,_,_,_,_,rfl⟩,F,a,rfl⟩)
def FO (l:List D)(i:Nat)(O V W e:Int)(r:Bool×List D):Prop:=∃ (j h g:D) (d c b a q2 f:Int),Fq l O V W e b a q2 f∧f≠0∧r=(true,[.str [],.Z 5 l,iD (i:Int),iD d,iD c,iD b,iD a,iD q2,iD f,.Z 6 [j,h,g]])
def aB7 (h:Dd l i e)(d c O V W:Int):U (fun n=>aI n (.Z 5 l) (i:Int) d c O V W e) (FO l i O V W e):=by (have F:=@Fq.refl l e O V W);exact I5 (fun n=>nK n ..) (zW [40] [] rfl h F fun d c O V W e h F a=>zm h F fun d c O V W e h F a=>zW [61] [] rfl h F fun d c O V W e h F a=>zE (wY h d c O V W) h F rfl fun _ _ _ _ _ _ d c O V W e h F a=>zW [59] [] rfl h F fun d c O V W e h F a=>zE (wY h d c O V W) h F rfl fun _ _ _ _ _ _ d c O V W e h F a=>zW [59] [.str [],.str [61]] rfl h F fun d c O V W e h F a=>zE (wY h d c O V W) h F rfl fun _ _ _ _ _ _ d c O V W e h F a=>zW [41] [] rfl h F fun d c O V W e h F a=>H8 ⟨_,_,_,d,c,O,V,W,e,F,a,rfl⟩)
def FS (l:List D)(i:Nat)(O V W e:Int)(r:Bool×List D):Prop:=∃ (k a b g:Int) (t:G1) (es bs zs:List D) (d c j h q2 f:Int),Fq l O V W e j h q2 f∧f≠0∧r=(true,[.Z 5 l,iD (i:Int),iD d,iD c,iD j,iD h,iD q2,iD f,iD k,iD a,iD b,iD g,.str t,.Z 6 es,.Z 8 bs,.Z 9 zs])
def zS {O V W m j g be:Int}{P:Bool×List D→Prop}{k:List D→Nat→Out}{t:Nat→Out}{sk:Sk}(X:U t (FS l i O V W e))(h:Dd l i e)(F:Fq l m j g be O V W e)(p:sk=U4.I6)(K:∀ (f s1 b a:Int) (t:G1) (es bs zs:List D),∀ d c O V W e:Int,Dd l i e→Fq l m j g be O V W e→e≠0→U (fun n=>k [.Z 5 l,iD (i:Int),iD d,iD c,iD O,iD V,iD W,iD e,iD f,iD s1,iD b,iD a,.str t,.Z 6 es,.Z 8 bs,.Z 9 zs] n) P):U (fun n=>bc sk (t n) fun r=>k r n) P:=by subst p;refine H6 X ?_;rintro _ ds ⟨f,s1,b,a,t,es,bs,zs,d,c,O,V,W,e,o,q,h0⟩;cases h0;exact⟨rfl,J5 (K f s1 b a t es bs zs d c O V W e (h.fq o) (F.trans o) q)⟩
def Pt {a8 a9 a10 a11:Int}{a12:G1}{a13 a14 a15:List D}(h:Dd l i e)(d c O V W:Int):U (fun n=>U4 n (.Z 5 l) (i:Int) d c O V W e a8 a9 a10 a11 (.str a12) (.Z 6 a13) (.Z 8 a14) (.Z 9 a15)) (FS l i O V W e):=by (have F:=@Fq.refl l e O V W);exact I5 (fun n=>lO n ..) (zW [97,115,115,101,114,116] [] rfl h F fun d c O V W e h F a=>zE (WT h d c O V W) h F rfl fun _ _ _ _ _ _ d c O V W e h F a=>zW [59] [] rfl h F fun d c O V W e h F a=>H8 ⟨_,_,_,_,_,_,_,_,d,c,O,V,W,e,F,a,rfl⟩)
def Aq {a8 a9 a10 a11:Int}{a12:G1}{a13 a14 a15:List D}(h:Dd l i e)(d c O V W:Int):U (fun n=>aF n (.Z 5 l) (i:Int) d c O V W e a8 a9 a10 a11 (.str a12) (.Z 6 a13) (.Z 8 a14) (.Z 9 a15)) (FS l i O V W e):=by (have F:=@Fq.refl l e O V W);refine I5 (fun n=>iJ n ..) (zP (Eu h d c O V W) h F rfl fun d c O V W e h F a=>J5 (zt [58] rfl h F fun d c=>(L3 ?_)));(refine zt [60,61] rfl h F fun d c=>?_;refine L3 ?_);exact zW [61] [] rfl h F fun d c O V W e h F a=>O9 (fun n=>Y8.eq_1 n ..) (zE (wY h d c O V W) h F rfl fun _ _ _ _ _ _ d c O V W e h F a=>zW [59] [] rfl h F fun d c O V W e h F a=>H8 ⟨_,_,_,_,_,_,_,_,d,c,O,V,W,e,F,a,rfl⟩)
def aR8 (y:D):Prop:=∃ (k a b g:Int) (t:G1) (es bs zs:List D),y = .agg [iD k,iD a,iD b,iD g,.str t,.Z 6 es,.Z 8 bs,.Z 9 zs]
def zT {O V W m j g be:Int}{P:Bool×List D→Prop}{k:List D→Nat→Out}{t:Nat→Out}(X:U t (F1 aR8 l i O V W e))(h:Dd l i e)(F:Fq l m j g be O V W e)(K:∀ (f s1 b a:Int) (t:G1) (es bs zs:List D),∀ d c O V W e:Int,Dd l i e→Fq l m j g be O V W e→e≠0→U (fun n=>k [.agg [iD f,iD s1,iD b,iD a,.str t,.Z 6 es,.Z 8 bs,.Z 9 zs],.Z 5 l,iD (i:Int),iD d,iD c,iD O,iD V,iD W,iD e] n) P):U (fun n=>bc L7.I6 (t n) fun r=>k r n) P:=z1 X h F fun y o d c O V W e h F p=>by obtain⟨f,s1,b,a,t,es,bs,zs,rfl⟩:=o;exact J5 (K f s1 b a t es bs zs d c O V W e h F p)
def aU9 (p:Bool)(l:List D)(i:Nat)(O V W e:Int)(w v m j:Int)(h:G1)(u s q:List D)(r:Bool×List D):Prop:=∃ (k a b g:Int) (t:G1) (es bs zs:List D) (d c o n q2 f:Int),Fq l O V W e o n q2 f∧f≠0∧
 r=(false,[.bool p,.Z 5 l,iD (i:Int),iD d,iD c,iD o,iD n,iD q2,iD f,iD w,iD v,iD m,iD j,.str h,iD k,iD a,iD b,iD g,.str t,.Z 6 u,.Z 8 s,.Z 9 q,.Z 6 es,.Z 8 bs,.Z 9 zs])
def Pv {p o f b:Int}{a:G1}{k t s r:Int}{q:G1}{m j g es bs zs:List D}(h:Dd l i e)(d c O V W:Int):U (fun n=>W9 n (.bool false) (.Z 5 l) (i:Int) d c O V W e p o f b (.str a) k t s r (.str q) (.Z 6 m) (.Z 8 j) (.Z 9 g) (.Z 6 es) (.Z 8 bs) (.Z 9 zs)) (aU9 false l i O V W e p o f b a m j g):=by (have F:=@Fq.refl l e O V W);refine I5 (fun n=>Z1 n ..) (L3 ?_);(refine zt [102,111,114] rfl h F fun d c=>?_;refine L3 ?_);exact zi [97,115,115,101,114,116] rfl h F fun d c=>L3 (zS (Aq h d c O V W) h F rfl fun _ _ _ _ _ _ _ _ d c O V W e h F u=>H8 ⟨_,_,_,_,_,_,_,_,d,c,O,V,W,e,F,u,rfl⟩)
def PA (h:Dd l i e)(d c O V W:Int):U (fun n=>L7 n (.Z 5 l) (i:Int) d c O V W e) (F1 aR8 l i O V W e):=by
 (have F:=@Fq.refl l e O V W);refine I5 (fun n=>U7 n ..) (zI (Ve h d c O V W) h F fun d c O V W e h F=>K0 (fun g=>?_) fun _=>?_)
 ·have a:e≠0:=by simpa [Y,D.b] using g
  refine H6 (TX h d c O V W) ?_;rintro _ ds ⟨d,c,O,V,W,e,f,h0⟩;cases h0;have a:=(f.1 a).1▸a;exact⟨rfl,J5 (H8 ⟨_,d,c,O,V,W,e,⟨_,_,_,_,_,_,_,_,rfl⟩,F.trans f,a,rfl⟩)⟩
 ·refine zw (JI h d c O V W) h F rfl fun d c O V W e h F=>zn h F fun d c=>?_;(refine zt [59] rfl h F fun d c=>?_;refine L3 ?_);(refine zt [98,101,103,105,110] rfl h F fun d c=>?_;refine L3 ?_);(refine zt [105,102] rfl h F fun d c=>?_;refine L3 ?_);refine zt [99,97,115,101] rfl h F fun d c=>L4 (Pv h d c O V W) (fun _ h=>by obtain⟨_,_,_,_,_,_,_,_,_,_,_,_,_,_,_,_,h⟩:=h;cases h) fun _ h0=>?_;obtain⟨k,p,o,m,j,es,bs,zs,d,c,O,V,W,e,f,a,h0⟩:=h0;cases h0;have h:=h.fq f;have F:=F.trans f;refine J5 (H6 (TX h d c O V W) ?_);rintro _ ds ⟨d,c,O,V,W,e,f,h0⟩;cases h0;have a:=(f.1 a).1▸a;exact⟨rfl,J5 (H8 ⟨_,d,c,O,V,W,e,⟨_,_,_,_,_,_,_,_,rfl⟩,F.trans f,a,rfl⟩)⟩
def Hn (a:e≠0){d c O V W:Int}{i:Int}{a8 a9 a10 a11:Int}{a12:G1}{a13 a14 a15:List D}:U (fun n=>S8 n (.Z 5 l) (i:Int) d c O V W e a8 a9 a10 a11 (.str a12) (.Z 6 a13) (.Z 8 a14) (.Z 9 a15)) fun r=>r=(false,[.Z 5 l,iD (i:Int),iD d,iD c,iD O,iD V,iD W,iD e,iD a8,iD a9,iD a10,iD a11,.str a12,.Z 6 a13,.Z 8 a14,.Z 9 a15]):=I5 (fun n=>dD n ..) (N8 (F4.2 a) (L3 (H8 rfl)))
def Al {a8 a9 a10 a11:Int}{a12:G1}{a13 a14 a15:List D}(k:a15.length≤2000000)(h:Dd l i e)(d c O V W:Int):U (fun n=>S8 n (.Z 5 l) (i:Int) d c O V W e a8 a9 a10 a11 (.str a12) (.Z 6 a13) (.Z 8 a14) (.Z 9 a15)) fun r=>∃ (zs:List D) (d c g b q2 f:Int),Fq l O V W e g b q2 f∧f≠0∧r=(false,[.Z 5 l,iD (i:Int),iD d,iD c,iD g,iD b,iD q2,iD f,iD a8,iD a9,iD a10,iD a11,.str a12,.Z 6 a13,.Z 8 a14,.Z 9 zs]):=by
 (have F:=@Fq.refl l e O V W);by_cases a:e=0
 ·subst a;have J:U (fun n=>O0 n true l i d c O V W 0 a15 a8 a9 a10 a11 a12 a13 a14) fun r=>∃ (zs:List D) (d c g b q2 f:Int),Fq l O V W 0 g b q2 f∧f≠0∧r=(false,[.Z 5 l,iD (i:Int),iD d,iD c,iD g,iD b,iD q2,iD f,iD a8,iD a9,iD a10,iD a11,.str a12,.Z 6 a13,.Z 8 a14,.Z 9 zs]):=by
   refine (J5 (M3 (vM (w:=[100,101,102,97,117,108,116]) (by decide) h d c O V W) (J5 (H6 (GU h d c O V W) ?_))));rintro _ ds ⟨y,d,c,O,V,W,e,j,a,h0⟩;cases h0;have h:=h.fq j;have F:=F.trans j;refine⟨rfl,J5 ?_⟩;refine O9 (fun n=>aO.eq_1 n ..) (zW [58] [] rfl h F fun d c O V W e h F a=>zT (PA h d c O V W) h F fun _ _ _ _ _ _ _ _ d c O V W e h F a=>I4 (B2 (by simp only [L9];omega)) (I4 (L0 aX8 (E6 (by rw [A7];simp only [A0,A8];omega))) ?_));exact (Hn a).mono fun r h=>⟨_,d,c,O,V,W,e,F,a,h⟩
  exact I5 (fun n=>dD n l i d c O V W 0 a8 a9 a10 a11 a12 a13 a14 a15) (J5 (K0 (fun _=>J) fun _=>M3 (WQ (w:=[101,110,100,99,97,115,101]) (by decide) h d c O V W) J))
 ·exact (Hn a).mono fun r h=>⟨_,d,c,O,V,W,e,F,a,h⟩
def Hr {a8 a9 a10 a11:Int}{a12:G1}{a13 a14 a15:List D}(f:a15.length≤2000000)(h:Dd l i e)(d c O V W:Int):U (fun n=>aN n (.Z 5 l) (i:Int) d c O V W e a8 a9 a10 a11 (.str a12) (.Z 6 a13) (.Z 8 a14) (.Z 9 a15)) (FS l i O V W e):=by (have F:=@Fq.refl l e O V W);refine I5 (fun n=>mE n ..) (zE (WT h d c O V W) h F rfl fun _ _ _ _ _ _ d c O V W e h F a=>L4 (Al f h d c O V W) (fun _ h=>by obtain⟨_,_,_,_,_,_,_,_,_,h⟩:=h;cases h) fun _ h0=>?_);obtain⟨zs,d,c,O,V,W,e,b,a,h0⟩:=h0;cases h0;have h:=h.fq b;have F:=F.trans b;exact J5 (zW [101,110,100,99,97,115,101] [] rfl h F fun d c O V W e h F a=>H8 ⟨_,_,_,_,_,_,_,_,d,c,O,V,W,e,F,a,rfl⟩)
def aB5 {p o f b:Int}{a:G1}{k t s r:Int}{q:G1}{m j g es bs zs:List D}(u:zs.length≤2000000)(h:Dd l i e)(d c O V W:Int):U (fun n=>W9 n (.bool true) (.Z 5 l) (i:Int) d c O V W e p o f b (.str a) k t s r (.str q) (.Z 6 m) (.Z 8 j) (.Z 9 g) (.Z 6 es) (.Z 8 bs) (.Z 9 zs)) (aU9 true l i O V W e p o f b a m j g):=by (have F:=@Fq.refl l e O V W);exact I5 (fun n=>Z1 n ..) (J5 (zS (Hr u h d c O V W) h F rfl fun _ _ _ _ _ _ _ _ d c O V W e h F v=>H8 ⟨_,_,_,_,_,_,_,_,d,c,O,V,W,e,F,v,rfl⟩))
def Js (u:e≠0){d c O V W:Int}{i:Int}{t s f b:Int}{a:G1}{k m j h:Int}{g:G1}{q p o es bs zs:List D}:U (fun n=>U6 n (.Z 5 l) (i:Int) d c O V W e t s f b (.str a) k m j h (.str g) (.Z 6 q) (.Z 8 p) (.Z 9 o) (.Z 6 es) (.Z 8 bs) (.Z 9 zs)) fun r=>r=(false,[.Z 5 l,iD (i:Int),iD d,iD c,iD O,iD V,iD W,iD e,iD t,iD s,iD f,iD b,.str a,iD k,iD m,iD j,iD h,.str g,.Z 6 q,.Z 8 p,.Z 9 o,.Z 6 es,.Z 8 bs,.Z 9 zs]):=I5 (fun n=>dR n ..) (N8 (F4.2 u) (H8 rfl))
def Vg {A z j g:Int}{b:G1}{k t s q:Int}{p:G1}{x v u es bs zs:List D}(L:bs.length≤2000000)(h:Dd l i e)(d c O V W:Int):U (fun n=>U6 n (.Z 5 l) (i:Int) d c O V W e A z j g (.str b) k t s q (.str p) (.Z 6 x) (.Z 8 v) (.Z 9 u) (.Z 6 es) (.Z 8 bs) (.Z 9 zs)) fun r=>∃ (bs:List D) (d c o m q2 f:Int),Fq l O V W e o m q2 f∧f≠0∧r=(false,[.Z 5 l,iD (i:Int),iD d,iD c,iD o,iD m,iD q2,iD f,iD A,iD z,iD j,iD g,.str b,iD k,iD t,iD s,iD q,.str p,.Z 6 x,.Z 8 v,.Z 9 u,.Z 6 es,.Z 8 bs,.Z 9 zs]):=by
 (have F:=@Fq.refl l e O V W);by_cases a:e=0
 ·subst a;refine I5 (fun n=>dR n ..) (J5 (M3 (vM (w:=[101,110,100]) (by decide) h d c O V W) (J5 (H6 (PA h d c O V W) ?_))));rintro _ ds ⟨y,d,c,O,V,W,e,⟨K,s1,J,I,H,G,E,C,rfl⟩,B,a,h0⟩;cases h0;have F:=F.trans B;refine⟨rfl,J5 ?_⟩;refine I4 (B2 (by simp only [L9];omega)) (I4 (L0 aX8 (E6 (by rw [A7];simp only [A0,A8];omega))) ?_);exact (Js a).mono fun r h=>⟨_,d,c,O,V,W,e,F,a,h⟩
 ·exact (Js a).mono fun r h=>⟨_,d,c,O,V,W,e,F,a,h⟩
end
end
section
section
variable {l:List D} {i:Nat} {e:Int}
def Zo (y:D):Prop:=∃ (k x1 x2 x3:Int) (t ty:G1) (sg:Bool) (ex b c it el pa a:List D),y = .agg [iD k,iD x1,iD x2,iD x3,.str t,.str ty,.bool sg,.Z 6 ex,.Z 6 b,.Z 8 c,.Z 14 it,.Z 14 el,.Z 5 pa,.Z 5 a]
def zJ {O V W p o m be:Int}{P:Bool×List D→Prop}{j:List D→Nat→Out}{g:Nat→Out}(X:U g (F1 Zo l i O V W e))(h:Dd l i e)(F:Fq l p o m be O V W e)(K:∀ (k x1 x2 x3:Int) (t ty:G1) (sg:Bool) (ex b f it el pa a:List D),∀ d c O V W e:Int,Dd l i e→Fq l p o m be O V W e→e≠0→U (fun n=>j [.agg [iD k,iD x1,iD x2,iD x3,.str t,.str ty,.bool sg,.Z 6 ex,.Z 6 b,.Z 8 f,.Z 14 it,.Z 14 el,.Z 5 pa,.Z 5 a],.Z 5 l,iD (i:Int),iD d,iD c,iD O,iD V,iD W,iD e] n) P):U (fun n=>bc Q2.I6 (g n) fun r=>j r n) P:=z1 X h F fun y q d c O V W e h F s=>by obtain⟨k,x1,x2,x3,t,ty,sg,ex,b,f,it,el,pa,a,rfl⟩:=q;exact J5 (K k x1 x2 x3 t ty sg ex b f it el pa a d c O V W e h F s)
def zL {O V W f b a be:Int}{P:Bool×List D→Prop}{k:List D→Nat→Out}{t:Nat→Out}{sk:Sk}(X:U t (FL 5 l i O V W e))(h:Dd l i e)(F:Fq l f b a be O V W e)(m:sk=W1.I6)(K:∀ ys:List D,ys.length≤1→∀ d c O V W e:Int,Dd l i e→Fq l f b a be O V W e→e≠0→U (fun n=>k [.Z 5 l,iD (i:Int),iD d,iD c,iD O,iD V,iD W,iD e,.Z 5 ys] n) P):U (fun n=>bc sk (t n) fun r=>k r n) P:=by subst m;refine H6 X ?_;rintro _ ds ⟨ys,d,c,O,V,W,e,j,g,o,h0⟩;cases h0;exact⟨rfl,J5 (K ys j d c O V W e (h.fq g) (F.trans g) o)⟩
def aW0 (y:D):Prop:=∃ (x1 x2 x3:Int) (ty:G1) (sg:Bool),y = .agg [iD 1,iD x1,iD x2,iD x3,.str [],.str ty,.bool sg,.Z 6 [],.Z 6 [],.Z 8 [],.Z 14 [],.Z 14 [],.Z 5 [],.Z 5 []]
def Yc {a0 a1 a2:Int}{a3:G1}(h:Dd l i e)(d c O V W:Int):U (fun n=>Q2 n (.agg [iD a0,iD a1,iD a2]) (.str a3) (.Z 5 l) (i:Int) d c O V W e) (F1 aW0 l i O V W e):=by
 (have F:=@Fq.refl l e O V W);refine I5 (fun n=>kK n ..) (K0 (fun _=>?_) fun _=>?_)
 ·refine zt [115,105,103,110,101,100] rfl h F fun d c=>M3 (OY h d c O V W) (zm h F fun d c O V W e h F a=>K0 (fun _=>L3 (K0 (fun _=>J5 ?_) fun _=>K0 (fun _=>J5 ?_) fun _=>?_)) fun _=>K0 (fun _=>J5 ?_) fun _=>K0 (fun _=>J5 ?_) fun _=>?_)
  all_goals first
   |exact H8 ⟨_,d,c,O,V,W,e,⟨_,_,_,_,_,rfl⟩,F,a,rfl⟩
   |(refine M3 (vM (w:=[61]) (by decide) h d c O V W) (L3 (H8 ⟨_,d,c,O,V,W,e,⟨_,_,_,_,_,rfl⟩,F,a,rfl⟩)))
 ·refine zm h F fun d c O V W e h F a=>K0 (fun _=>K0 (fun _=>?_) fun _=>K0 (fun _=>?_) fun _=>?_) fun _=>K0 (fun _=>?_) fun _=>K0 (fun _=>?_) fun _=>?_
  all_goals first
   |exact H8 ⟨_,d,c,O,V,W,e,⟨_,_,_,_,_,rfl⟩,F,a,rfl⟩
   |(refine M3 (vM (w:=[61]) (by decide) h d c O V W) (L3 (H8 ⟨_,d,c,O,V,W,e,⟨_,_,_,_,_,rfl⟩,F,a,rfl⟩)))
def Hv {a0 a1 a2:Int}{a3:G1}(h:Dd l i e)(d c O V W:Int):U (fun n=>Z6 n (.agg [iD a0,iD a1,iD a2]) (.str a3) (.Z 5 l) (i:Int) d c O V W e) (F1 Zo l i O V W e):=by (have F:=@Fq.refl l e O V W);exact I5 (fun n=>mH n ..) (zm h F fun d c O V W e h F a=>zW [61] [] rfl h F fun d c O V W e h F a=>zE (wY h d c O V W) h F rfl fun _ _ _ _ _ _ d c O V W e h F a=>H8 ⟨_,d,c,O,V,W,e,⟨_,_,_,_,_,_,_,_,_,_,_,_,_,_,rfl⟩,F,a,rfl⟩)
def Hq (a:e≠0){d c O V W i:Int}{acc:List D}:U (fun n=>V6 n (.Z 5 l) (i:Int) d c O V W e (.Z 5 acc)) fun r=>r=(false,[.Z 5 l,iD (i:Int),iD d,iD c,iD O,iD V,iD W,iD e,.Z 5 acc]):=I5 (fun n=>bV n ..) (N8 (F4.2 a) (L3 (H8 rfl)))
def Am {acc:List D}(k:acc.length≤2000000)(h:Dd l i e)(d c O V W:Int):U (fun n=>V6 n (.Z 5 l) (i:Int) d c O V W e (.Z 5 acc)) fun r=>∃ (ys:List D) (d c g b q2 f:Int),Fq l O V W e g b q2 f∧f≠0∧r=(false,[.Z 5 l,iD (i:Int),iD d,iD c,iD g,iD b,iD q2,iD f,.Z 5 ys]):=by
 (have F:=@Fq.refl l e O V W);by_cases a:e=0
 ·subst a;have J:U (fun n=>P2 n true l i d c O V W 0 acc) fun r=>∃ (ys:List D) (d c g b q2 f:Int),Fq l O V W 0 g b q2 f∧f≠0∧r=(false,[.Z 5 l,iD (i:Int),iD d,iD c,iD g,iD b,iD q2,iD f,.Z 5 ys]):=by
   refine (J5 (M3 (OZ h d c O V W) (H6 (WU (w:=[46]) [] (by decide) h d c O V W) ?_)));(rintro _ ds ⟨d,c,O,V,W,e,j,a,h0⟩;cases h0;have h:=h.fq j;have F:=F.trans j;refine⟨rfl,J5 ?_⟩);refine zm h F fun d c O V W e h F a=>zW [40] [] rfl h F fun d c O V W e h F a=>zi [41] rfl h F fun d c=>J5 (zE (wY h d c O V W) h F rfl fun _ _ _ _ _ _ d c O V W e h F a=>O9 (fun n=>aP.eq_1 n ..) (zW [41] [] rfl h F fun d c O V W e h F a=>I4 (B2 (by simp only [L9];omega)) ?_));(refine zt [44] rfl h F fun d c=>?_;refine J5 ?_);exact H8 ⟨_,d,c,O,V,W,e,F,a,rfl⟩
  exact I5 (fun n=>bV n l i d c O V W 0 acc) (J5 (K0 (fun _=>J) fun _=>M3 (WQ (w:=[41]) (by decide) h d c O V W) J))
 ·exact (Hq a).mono fun r h=>⟨_,d,c,O,V,W,e,F,a,h⟩
def Hs (h:Dd l i e)(d c O V W:Int):U (fun n=>W1 n (.Z 5 l) (i:Int) d c O V W e) (FL 5 l i O V W e):=by (have F:=@Fq.refl l e O V W);refine I5 (fun n=>mF n ..) (zW [40] [] rfl h F fun d c O V W e h F a=>L4 (Hq a) (fun _ h=>by cases h) fun _ h0=>?_);cases h0;exact J5 (zW [41] [] rfl h F fun d c O V W e h F a=>H8 ⟨[],d,c,O,V,W,e,C4 _,F,a,rfl⟩)
def Px {a0 a1 a2:Int}(h:Dd l i e)(d c O V W:Int):U (fun n=>cC n (.agg [iD a0,iD a1,iD a2]) (.Z 5 l) (i:Int) d c O V W e) (F1 Zo l i O V W e):=by (have F:=@Fq.refl l e O V W);refine I5 (fun n=>nJ n ..) (zm h F fun d c O V W e h F a=>?_);(refine zt [35] rfl h F fun d c=>?_;refine L3 ?_);exact O9 (fun n=>cK.eq_1 n ..) (zm h F fun d c O V W e h F a=>zL (Hs h d c O V W) h F rfl fun ys b d c O V W e h F a=>zW [59] [] rfl h F fun d c O V W e h F a=>H8 ⟨_,d,c,O,V,W,e,⟨_,_,_,_,_,_,_,_,_,_,_,_,_,_,rfl⟩,F,a,rfl⟩)
def Py (h:Dd l i e)(d c O V W:Int):U (fun n=>O1 n (.Z 5 l) (i:Int) d c O V W e) (FL 14 l i O V W e):=by
 (have F:=@Fq.refl l e O V W);refine I5 (fun n=>P7 n ..) (zI (Ve h d c O V W) h F fun d c O V W e h F=>K0 (fun g=>?_) fun _=>?_)
 ·have a:e≠0:=by simpa [Y,D.b] using g
  refine H6 (TX h d c O V W) ?_;rintro _ ds ⟨d,c,O,V,W,e,f,h0⟩;cases h0;have a:=(f.1 a).1▸a;exact⟨rfl,J5 (H8 ⟨[],d,c,O,V,W,e,C4 _,F.trans f,a,rfl⟩)⟩
 ·refine zw (JI h d c O V W) h F rfl fun d c O V W e h F=>zn h F fun d c=>?_;(refine zt [119,105,114,101] rfl h F fun d c=>?_;refine L3 ?_);(refine zt [114,101,103] rfl h F fun d c=>?_;refine L3 ?_);refine zt [105,110,116,101,103,101,114] rfl h F fun d c=>(L3 ?_);(refine zt [108,111,99,97,108,112,97,114,97,109] rfl h F fun d c=>?_;refine L3 ?_);(refine zt [103,101,110,118,97,114] rfl h F fun d c=>?_;refine L3 ?_);(refine zt [97,115,115,105,103,110] rfl h F fun d c=>?_;refine L3 ?_);(refine zt [97,108,119,97,121,115] rfl h F fun d c=>?_;refine L3 ?_);(refine zt [102,117,110,99,116,105,111,110] rfl h F fun d c=>?_;refine L3 ?_);(refine zt [103,101,110,101,114,97,116,101] rfl h F fun d c=>?_;refine L3 ?_);(refine zt [102,111,114] rfl h F fun d c=>?_;refine L3 ?_);(refine zt [105,102] rfl h F fun d c=>?_;refine L3 ?_);refine zJ (Px h d c O V W) h F fun _ _ _ _ _ _ _ _ _ _ _ _ _ _ d c O V W e h F a=>H6 (TX h d c O V W) ?_;rintro _ ds ⟨d,c,O,V,W,e,f,h0⟩;cases h0;have a:=(f.1 a).1▸a;exact⟨rfl,J5 (H8 ⟨[_],d,c,O,V,W,e,B9 1,F.trans f,a,rfl⟩)⟩
def QB (a:e≠0){w:G1}{d c O V W i:Int}{acc:List D}:U (fun n=>Q0 n (.str w) (.Z 5 l) (i:Int) d c O V W e (.Z 14 acc)) fun r=>r=(false,[.str w,.Z 5 l,iD (i:Int),iD d,iD c,iD O,iD V,iD W,iD e,.Z 14 acc]):=I5 (fun n=>aQ n ..) (N8 (F4.2 a) (L3 (H8 rfl)))
def Ap {w:G1}(j:([]==w)=false){acc:List D}(m:acc.length≤2000000)(h:Dd l i e)(d c O V W:Int):U (fun n=>Q0 n (.str w) (.Z 5 l) (i:Int) d c O V W e (.Z 14 acc)) fun r=>∃ (ys:List D) (d c g b q2 f:Int),ys.length≤acc.length+1∧Fq l O V W e g b q2 f∧f≠0∧r=(false,[.str w,.Z 5 l,iD (i:Int),iD d,iD c,iD g,iD b,iD q2,iD f,.Z 14 ys]):=by
 (have F:=@Fq.refl l e O V W);by_cases a:e=0
 ·subst a;refine I5 (fun n=>aQ n ..) (J5 (M3 (vM j h d c O V W) (J5 (H6 (Py h d c O V W) ?_))));rintro _ ds ⟨ys,d,c,O,V,W,e,o,k,a,h0⟩;cases h0;have F:=F.trans k;refine⟨rfl,J5 ?_⟩;refine I4 (B2 (by show acc.length+ys.length≤L9;simp only [L9];omega)) ?_;exact (QB a).mono fun r h=>⟨_,d,c,O,V,W,e,by show (acc++ys).length≤_;rw [A7];omega,F,a,h⟩
 ·exact (QB a).mono fun r h=>⟨_,d,c,O,V,W,e,by omega,F,a,h⟩
def Vf {w:G1}(b:([]==w)=false)(h:Dd l i e)(d c O V W:Int):U (fun n=>Q8 n (.str w) (.Z 5 l) (i:Int) d c O V W e) (FL 14 l i O V W e):=by (have F:=@Fq.refl l e O V W);refine I5 (fun n=>jE n ..) (L4 (Ap b (acc:=[]) (by decide) h d c O V W) (fun _ h=>by obtain⟨_,_,_,_,_,_,_,_,_,_,h⟩:=h;cases h) fun _ h0=>?_);obtain⟨ys,d,c,O,V,W,e,a,g,f,h0⟩:=h0;cases h0;exact J5 (H8 ⟨ys,d,c,O,V,W,e,a,g,f,rfl⟩)
def Vd (h:Dd l i e)(d c O V W:Int):U (fun n=>T4 n (.Z 5 l) (i:Int) d c O V W e) (FL 14 l i O V W e):=by (have F:=@Fq.refl l e O V W);exact I5 (fun n=>mD n ..) (zn h F fun d c=>zW [98,101,103,105,110] [.str [58]] rfl h F fun d c O V W e h F a=>zm h F fun d c O V W e h F a=>M3 (Vt a _ i d c O V W) (H8 ⟨[_],d,c,O,V,W,e,B9 1,F,a,rfl⟩))
def Ps {a0 a1 a2:Int}(h:Dd l i e)(d c O V W:Int):U (fun n=>aD n (.agg [iD a0,iD a1,iD a2]) (.Z 5 l) (i:Int) d c O V W e) (F1 Zo l i O V W e):=by (have F:=@Fq.refl l e O V W);refine I5 (fun n=>iG n ..) (zW [64] [] rfl h F fun d c O V W e h F a=>?_);(refine zt [42] rfl h F fun d c=>?_;refine J5 ?_);refine zW [40] [] rfl h F fun d c O V W e h F a=>?_;(refine zt [112,111,115,101,100,103,101] rfl h F fun d c=>?_;refine L3 ?_);exact zW [42] [] rfl h F fun d c O V W e h F a=>zW [41] [] rfl h F fun d c O V W e h F a=>O9 (fun n=>Y2.eq_1 n ..) (zT (PA h d c O V W) h F fun _ _ _ _ _ _ _ _ d c O V W e h F a=>H8 ⟨_,d,c,O,V,W,e,⟨_,_,_,_,_,_,_,_,_,_,_,_,_,_,rfl⟩,F,a,rfl⟩)
def Pw {a8 a9 a10 a11 a15 C B A:Int}{a12 a13 z y:G1}{a14 x:Bool}{v u t s q p o m k j g f b a:List D}(h:Dd l i e)(d c O V W:Int):U (fun n=>P3 n (.Z 5 l) (i:Int) d c O V W e a8 a9 a10 a11 (.str a12) (.str a13) (.bool a14) a15 C B A (.str z) (.str y) (.bool x) (.Z 6 v) (.Z 6 u) (.Z 8 t) (.Z 14 s) (.Z 14 q) (.Z 5 p) (.Z 5 o) (.Z 6 m) (.Z 6 k) (.Z 8 j) (.Z 14 g) (.Z 14 f) (.Z 5 b) (.Z 5 a)) fun r=>r=(false,[.Z 5 l,iD (i:Int),iD d,iD c,iD O,iD V,iD W,iD e,iD a8,iD a9,iD a10,iD a11,.str a12,.str a13,.bool a14,iD a15,iD C,iD B,iD A,.str z,.str y,.bool x,.Z 6 v,.Z 6 u,.Z 8 t,.Z 14 s,.Z 14 q,.Z 5 p,.Z 5 o,.Z 6 m,.Z 6 k,.Z 8 j,.Z 14 g,.Z 14 f,.Z 5 b,.Z 5 a]):=by refine I5 (fun n=>cB n ..) ?_;(refine H6 (WQ (w:=[105,110,112,117,116]) (by decide) h d c O V W) ?_;(intro _ ds h0;cases h0;refine⟨rfl,J5 ?_⟩));refine L3 ?_;(refine H6 (WQ (w:=[114,101,103]) (by decide) h d c O V W) ?_;(intro _ ds h0;cases h0;refine⟨rfl,J5 ?_⟩));refine L3 ?_;(refine H6 (WQ (w:=[105,110,116,101,103,101,114]) (by decide) h d c O V W) ?_;(intro _ ds h0;cases h0;refine⟨rfl,J5 ?_⟩));exact (L3 (H8 rfl))
def Et {a0 a1 a2:Int}(h:Dd l i e)(d c O V W:Int):U (fun n=>W8 n (.agg [iD a0,iD a1,iD a2]) (.Z 5 l) (i:Int) d c O V W e) (F1 Zo l i O V W e):=by (have F:=@Fq.refl l e O V W);refine I5 (fun n=>kC n ..) (zt [115,105,103,110,101,100] rfl h F fun d c=>M3 (OY h d c O V W) (zm h F fun d c O V W e h F a=>zW [59] [] rfl h F fun d c O V W e h F a=>L4 (Pw h d c O V W) (fun _ h=>by cases h) fun _ h0=>?_));cases h0;exact J5 (zT (PA h d c O V W) h F fun _ _ _ _ _ _ _ _ d c O V W e h F a=>zW [101,110,100,102,117,110,99,116,105,111,110] [] rfl h F fun d c O V W e h F a=>H8 ⟨_,d,c,O,V,W,e,⟨_,_,_,_,_,_,_,_,_,_,_,_,_,_,rfl⟩,F,a,rfl⟩)
def Qb (h:Dd l i e)(d c O V W:Int):U (fun n=>cD n (.Z 5 l) (i:Int) d c O V W e) (F1 Zo l i O V W e):=by (have F:=@Fq.refl l e O V W);refine I5 (fun n=>gD n ..) (zn h F fun d c=>?_);(refine zt [105,110,112,117,116] rfl h F fun d c=>?_;refine L3 ?_);refine zW [111,117,116,112,117,116] [] rfl h F fun d c O V W e h F a=>?_;(refine zt [114,101,103] rfl h F fun d c=>?_;refine L3 ?_);refine (H6 (Yc h d c O V W) ?_);rintro _ ds ⟨y,d,c,O,V,W,e,⟨x1,x2,x3,ty,sg,rfl⟩,b,a,h0⟩;cases h0;have F:=F.trans b;refine⟨rfl,J5 ?_⟩;exact H8 ⟨_,d,c,O,V,W,e,⟨_,_,_,_,_,_,_,_,_,_,_,_,_,_,rfl⟩,F,a,rfl⟩
def Ht {a9 a10 a11 a13 a14 a15:Int}{a8 a12:G1}{m k j a g b:List D}(t:a.length≤2000000)(h:Dd l i e)(d c O V W:Int):U (fun n=>T5 n (.Z 5 l) (i:Int) d c O V W e (.str a8) a9 a10 a11 (.str a12) a13 a14 a15 (.Z 14 m) (.Z 14 k) (.Z 14 j) (.Z 14 a) (.Z 14 g) (.Z 14 b)) fun r=>∃ (ys:List D) (d c q p q2 f:Int),Fq l O V W e q p q2 f∧f≠0∧r=(false,[.Z 5 l,iD (i:Int),iD d,iD c,iD q,iD p,iD q2,iD f,.str a8,iD a9,iD a10,iD a11,.str a12,iD a13,iD a14,iD a15,.Z 14 m,.Z 14 k,.Z 14 j,.Z 14 ys,.Z 14 g,.Z 14 b]):=by
 (have F:=@Fq.refl l e O V W);by_cases o:e=0
 ·subst o;refine I5 (fun n=>fA n ..) (J5 (M3 (OZ h d c O V W) (H6 (WU (w:=[112,97,114,97,109,101,116,101,114]) [] (by decide) h d c O V W) ?_)));(rintro _ ds ⟨d,c,O,V,W,e,s,o,h0⟩;cases h0;have h:=h.fq s;have F:=F.trans s;refine⟨rfl,J5 ?_⟩);refine zJ (Hv h d c O V W) h F fun _ _ _ _ _ _ _ _ _ _ _ _ _ _ d c O V W e h F o=>I4 (B2 (by simp only [L9];omega)) ?_;(refine zt [44] rfl h F fun d c=>?_;refine J5 ?_);exact H8 ⟨_,d,c,O,V,W,e,F,o,rfl⟩
 ·exact I5 (fun n=>fA n l i d c O V W e a8 a9 a10 a11 a12 a13 a14 a15 m k j a g b) (N8 (F4.2 o) (H8 ⟨a,d,c,O,V,W,e,F,o,rfl⟩))
def Hu {a9 a10 a11 a13 a14 a15:Int}{a8 a12:G1}{m k j g b a:List D}(K:b.length≤2000000)(h:Dd l i e)(d c O V W:Int):U (fun n=>T6 n (.Z 5 l) (i:Int) d c O V W e (.str a8) a9 a10 a11 (.str a12) a13 a14 a15 (.Z 14 m) (.Z 14 k) (.Z 14 j) (.Z 14 g) (.Z 14 b) (.Z 14 a)) fun r=>∃ (ys:List D) (d c p o q2 f:Int),Fq l O V W e p o q2 f∧f≠0∧r=(false,[.Z 5 l,iD (i:Int),iD d,iD c,iD p,iD o,iD q2,iD f,.str a8,iD a9,iD a10,iD a11,.str a12,iD a13,iD a14,iD a15,.Z 14 m,.Z 14 k,.Z 14 j,.Z 14 g,.Z 14 ys,.Z 14 a]):=by
 (have F:=@Fq.refl l e O V W);by_cases q:e=0
 ·subst q;have J:U (fun n=>O6 n true l i d c O V W 0 b a8 a9 a10 a11 a12 a13 a14 a15 m k j g a) fun r=>∃ (ys:List D) (d c p o q2 f:Int),Fq l O V W 0 p o q2 f∧f≠0∧r=(false,[.Z 5 l,iD (i:Int),iD d,iD c,iD p,iD o,iD q2,iD f,.str a8,iD a9,iD a10,iD a11,.str a12,iD a13,iD a14,iD a15,.Z 14 m,.Z 14 k,.Z 14 j,.Z 14 g,.Z 14 ys,.Z 14 a]):=by
   refine (J5 (H6 (Qb h d c O V W) ?_));rintro _ ds ⟨y,d,c,O,V,W,e,⟨I,i1,H,G,E,C,B,A,z,x,v,u,t,id,rfl⟩,s,q,h0⟩;cases h0;have h:=h.fq s;have F:=F.trans s;refine⟨rfl,J5 ?_⟩;refine I4 (B2 (by simp only [L9];omega)) ?_;(refine zt [44] rfl h F fun d c=>?_;refine J5 ?_);exact H8 ⟨_,d,c,O,V,W,e,F,q,rfl⟩
  exact I5 (fun n=>bI n l i d c O V W 0 a8 a9 a10 a11 a12 a13 a14 a15 m k j g b a) (J5 (K0 (fun _=>J) fun _=>M3 (WQ (w:=[41]) (by decide) h d c O V W) J))
 ·exact I5 (fun n=>bI n l i d c O V W e a8 a9 a10 a11 a12 a13 a14 a15 m k j g b a) (N8 (F4.2 q) (L3 (H8 ⟨b,d,c,O,V,W,e,F,q,rfl⟩)))
def Pz {p:Int}{a9 a10 a11 a12 a14 a15 o m k j g:Int}{a13 f:G1}{b a:List D}(h:Dd l i e)(d c O V W:Int) :U (fun n=>R4 n p (.Z 5 l) (i:Int) d c O V W e a9 a10 a11 a12 (.str a13) a14 a15 o m k j g (.str f) (.Z 6 b) (.Z 6 a)) fun r=>
   r=(false,[iD p,.Z 5 l,iD (i:Int),iD d,iD c,iD O,iD V,iD W,iD e,iD a9,iD a10,iD a11,iD a12,.str a13,iD a14,iD a15,iD o,iD m,iD k,iD j,iD g,.str f,.Z 6 b,.Z 6 a]):=by
 refine I5 (fun n=>fQ n ..) (K0 (fun _=>?_) fun _=>H8 rfl);(refine H6 (OZ h d c O V W) ?_;(intro _ ds h0;cases h0;refine⟨rfl,J5 ?_⟩));exact J5 (J5 (H8 rfl))
end
end
end Go.Proofs.YtalibicpmfbieaaGreatDoor
