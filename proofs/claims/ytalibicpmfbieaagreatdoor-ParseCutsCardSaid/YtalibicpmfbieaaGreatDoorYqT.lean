import Derived.Test.YtalibicpmfbieaaGreatDoorM6
import Derived.Test.YtalibicpmfbieaaGreatDoorM7
set_option linter.all false
namespace Go.Proofs.YtalibicpmfbieaaGreatDoor
open Go.AE
def Na {c:UInt8}{t:G1}{k:Int}(b:(c::t).length≤1000)(h:∀ n,iX (n+100) (.str (c::t))=some (true,[iD k,iD (((c::t).length:Nat):Int),iD 0])):Wd (c::t) k:=by
 have a:U (fun n=>iX n (.str (c::t))) fun r=>r=(true,[iD k,iD (((c::t).length:Nat):Int),iD 0]):=⟨_,rfl,100,fun n d=>by obtain⟨m,rfl⟩:∃ m,n=m+100:=⟨n-100,by omega⟩;exact h m⟩;have:=(Dq (by omega) a).2.2
 rwa [List.take_length] at this
def aO7:List G1:=[[40],[41],[63],[58],[123],[125],[44],[91],[93],[43],[59],[61],[60,61],[64],[42],[46],[35]]
def Be:List G1:=[yU,rV,sR,RU,oW,mQ,MG,pI,kP,MK,tO,qK,KE,FA,pS,zD,iM,sV,gS,AQ,yZ,aM,iU,rR,sD,AN,wL,[102],[103],[116],[101],[105],[112,49]]
def uW:List G1:=(List.range 9).map fun k=>[117,48+UInt8.ofNat k]
def aW8:List G1:=(List.range 9).map fun k=>[109,48+UInt8.ofNat k]
def aW9:List G1:=(List.range 9).map fun k=>[109,48+UInt8.ofNat k,122]
def kT (k:Int)(l:List G1):List Tk:=l.map fun t=>(k,t)
def sS:List Tk:=kT 1 dP++(kT 2 Ca++(kT 3 Ts++(kT 3 Wm++(kT 1 KU++(kT 3 aO7++(kT 1 Be++(kT 1 uW++(kT 1 aW8++kT 1 aW9))))))))
def aT9 (p:Tk):Out→Bool
 |some (true,[iD k,iD m,iD z])=>k==p.1&&(m==(p.2.length:Int)&&z==0)
 |_=>false
def aE5 {p:Tk}{o:Out}(h:aT9 p o=true):o=some (true,[iD p.1,iD (p.2.length:Int),iD 0]):=by
 unfold aT9 at h;split at h
 ·simp only [A9,beq_iff_eq] at h;rw [h.1,h.2.1,h.2.2]
 ·cases h
def Xj (n:Nat):(sS.all fun p=>aT9 p (iX (n+100) (.str p.2)))=true:=by kernel_rfl
def RH:(sS.all fun p=>Nat.ble p.2.length 12&&(!p.2.isEmpty&&!(p.1==9)))=true:=by kernel_rfl
def Gn {p:Tk}(h:p∈sS):Wd p.2 p.1:=by
 have h1:=fun n=>aE5 (B6.1 (Xj n) p h);have a:=B6.1 RH p h;simp only [A9,D8] at a;have b:=B3 a.1;obtain⟨k,t⟩:=p
 cases t with
 |nil=>exact absurd a.2.1 (by simp)
 |cons c t=>exact Na (by show (c::t).length≤1000;have:(c::t).length≤12:=b;omega) h1
def Jv {p:Tk}(h:p∈sS):(p.1==9)=false:=by have a:=B6.1 RH p h;simp only [A9,D8] at a;exact a.2.2
def Wk (ws:List Tk):Prop:=∀ p∈ws,p∈sS
def LJ {k:Int}{l:List G1}{t:G1}(h:t∈l):(k,t)∈kT k l:=List.mem_map.2 ⟨t,h,rfl⟩
def LG {t:G1}(h:t∈dP):(1,t)∈sS:=B5 _ (LJ h)
def aC3 {t:G1}(h:t∈Ca):(2,t)∈sS:=B4 _ (B5 _ (LJ h))
def aM8 {t:G1}(h:t∈Ts):(3,t)∈sS:=B4 _ (B4 _ (B5 _ (LJ h)))
def aM6 {t:G1}(h:t∈Wm):(3,t)∈sS:=B4 _ (B4 _ (B4 _ (B5 _ (LJ h))))
def Vq {t:G1}(h:t∈KU):(1,t)∈sS:=B4 _ (B4 _ (B4 _ (B4 _ (B5 _ (LJ h)))))
def Yj {t:G1}(h:t∈aO7):(3,t)∈sS:=B4 _ (B4 _ (B4 _ (B4 _ (B4 _ (B5 _ (LJ h))))))
def Qs {t:G1}(h:t∈Be):(1,t)∈sS:=B4 _ (B4 _ (B4 _ (B4 _ (B4 _ (B4 _ (B5 _ (LJ h)))))))
def aT2 {t:G1}(h:t∈uW):(1,t)∈sS:=B4 _ (B4 _ (B4 _ (B4 _ (B4 _ (B4 _ (B4 _ (B5 _ (LJ h))))))))
def Wk.nil:Wk []:=fun _ h=>by cases h
def Wk.app {u v:List Tk}(h:Wk u)(h':Wk v):Wk (u++v):=fun p hp=>(D3.1 hp).elim (h p) (h' p)
def Wk.cons {p:Tk}{v:List Tk}(h:p∈sS)(h':Wk v):Wk (p::v):=fun q a=>by
 rcases B7.1 a with rfl|a
 ·exact h
 ·exact h' q a
def Wk.one {p:Tk}(h:p∈sS):Wk [p]:= .cons h .nil
def Wk.sg {t:G1}(h:aO7.contains t=true):Wk [(3,t)]:= .one (Yj (List.contains_iff_mem.1 h))
def Wk.key {t:G1}(h:Be.contains t=true):Wk [(1,t)]:= .one (Qs (List.contains_iff_mem.1 h))
def Wk.flat {w:D→List Tk}{xs:List D}(h:∀ x∈xs,Wk (w x)):Wk (xs.flatMap w):=fun p hp=>by obtain⟨x,a,hp⟩:=F7.1 hp;exact h x a p hp
def Kl {w:D→List Tk}{x:D}(h:Wk (w x)):Wk (aW w x):=by
 unfold aW
 cases RV x with
 |true=>exact (Wk.sg rfl).app (h.app (Wk.sg rfl))
 |false=>exact h
def XI {w:D→List Tk}:∀ {xs:List D},(∀ x∈xs,Wk (w x))→Wk (lW w xs)
 |[],_=> .nil
 |[x],h=>h x (B8 ..)
 |x::y::r,h=>(h x (B8 ..)).app ((Wk.sg (t:=[44]) rfl).app (XI (xs:=y::r) fun z a=>h z (C0 _ a)))
def aP3:∀ (n:Nat) (x:D),gQ n x→Wk (wE n x)
 |0,_,h=>h.elim
 |n+1,x,h=>by
  obtain⟨k,t,ar,rfl,e,f⟩:=h;have ih:∀ x∈ar,Wk (wE n x):=fun x d=>aP3 n x (f x d);rw [IM];rcases e with ⟨rfl,a,hm⟩|⟨rfl,a,hm⟩|⟨rfl,a,hm⟩|⟨rfl,a,hm⟩|⟨rfl,a,hm⟩|⟨rfl,a,hm,b⟩|⟨rfl,a,hm,b⟩|⟨rfl,a,hm⟩|⟨rfl,a,hm⟩|⟨rfl,a,hm,b⟩
  ·exact Wk.one (aC3 a)
  ·exact Wk.one (LG a)
  ·match ar,hm,ih with
   |[x],_,ih=>exact Wk.cons (aM8 a) (Kl (ih x (by simp)))
  ·match ar,hm,ih with
   |[x,y],_,ih=>exact (Kl (ih x (by simp))).app (Wk.cons (aM6 a) (Kl (ih y (by simp))))
  ·match ar,hm,ih with
   |[x,y,z],_,ih=>exact (Kl (ih x (by simp))).app ((Wk.sg rfl).app ((Kl (ih y (by simp))).app ((Wk.sg rfl).app (Kl (ih z (by simp))))))
  ·exact (Wk.sg (t:=[123]) rfl).app ((XI ih).app (Wk.sg rfl))
  ·match ar,hm,ih with
   |x::r,_,ih=>exact (Wk.sg (t:=[123]) rfl).app ((ih x (by simp)).app ((Wk.sg (t:=[123]) rfl).app ((XI fun z c=>ih z (C0 _ c)).app ((Wk.sg (t:=[125]) rfl).app (Wk.sg (t:=[125]) rfl)))))
  ·match ar,hm,ih with
   |[x],_,ih=>exact Wk.cons (LG a) ((Wk.sg (t:=[91]) rfl).app ((ih x (by simp)).app (Wk.sg rfl)))
  ·match ar,hm,ih with
   |[x,y],_,ih=>exact Wk.cons (LG a) ((Wk.sg (t:=[91]) rfl).app ((ih x (by simp)).app ((Wk.sg rfl).app ((ih y (by simp)).app (Wk.sg rfl)))))
  ·exact Wk.cons (Vq a) ((Wk.sg (t:=[40]) rfl).app ((XI ih).app (Wk.sg rfl)))
end Go.Proofs.YtalibicpmfbieaaGreatDoor
