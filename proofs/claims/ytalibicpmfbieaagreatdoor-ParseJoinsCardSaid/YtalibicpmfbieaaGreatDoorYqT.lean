import Derived.Test.YtalibicpmfbieaaGreatDoorM6
import Derived.Test.YtalibicpmfbieaaGreatDoorM7
set_option linter.all false
namespace Go.Proofs.YtalibicpmfbieaaGreatDoor
open Go.AE
theorem Je {c:UInt8}{t:G1}{k:Int}(hs:(c::t).length≤1000)(h:∀ n,gN (n+100) (.str (c::t))=some (true,[.int .i64 k,.int .i64 (((c::t).length:Nat):Int),.int .i64 0])):Wd (c::t) k:=by
 have hE:U (fun n=>gN n (.str (c::t))) fun r=>r=(true,[.int .i64 k,.int .i64 (((c::t).length:Nat):Int),.int .i64 0]):=
  ⟨_,rfl,100,fun n hn=>by
   obtain⟨m,rfl⟩:∃ m,n=m+100:=⟨n-100,by omega⟩
   exact h m⟩
 have:=(Az (by omega) hE).2.2
 rwa [List.take_length] at this
def Yw:List G1:=[[40],[41],[63],[58],[123],[125],[44],[91],[93],[43],[59],[61],[60,61],[64],[42],[46],[35]]
def YX:List G1:=[qV,mH,rL,QK,nL,lC,LH,mL,iS,GO,qG,lU,CT,yG,mG,uI,dR,pB,dW,wA,yF,V9,fF,pK,oP,vZ,uN,[102],[103],[116],[101],[105],[112,49]]
def uW:List G1:=(List.range 9).map fun k=>[117,48+UInt8.ofNat k]
def aD7:List G1:=(List.range 9).map fun k=>[109,48+UInt8.ofNat k]
def aD8:List G1:=(List.range 9).map fun k=>[109,48+UInt8.ofNat k,122]
def kT (k:Int)(l:List G1):List Tk:=l.map fun t=>(k,t)
def rM:List Tk:=kT 1 cN++(kT 2 ZV++(kT 3 Oj++(kT 3 Rc++(kT 1 JZ++(kT 3 Yw++(kT 1 YX++(kT 1 uW++(kT 1 aD7++kT 1 aD8))))))))
def aC0 (p:Tk):Out→Bool
 |some (true,[.int .i64 k,.int .i64 m,.int .i64 z])=>k==p.1&&(m==(p.2.length:Int)&&z==0)
 |_=>false
theorem Vr {p:Tk}{o:Out}(h:aC0 p o=true):o=some (true,[.int .i64 p.1,.int .i64 (p.2.length:Int),.int .i64 0]):=by
 unfold aC0 at h
 split at h
 ·simp only [A9,beq_iff_eq] at h
  rw [h.1,h.2.1,h.2.2]
 ·cases h
theorem Sb (n:Nat):(rM.all fun p=>aC0 p (gN (n+100) (.str p.2)))=true:=by kernel_rfl
theorem Dj:(rM.all fun p=>Nat.ble p.2.length 12&&(!p.2.isEmpty&&!(p.1==9)))=true:=by kernel_rfl
theorem Oe {p:Tk}(h:p∈rM):Wd p.2 p.1:=by
 have h1:=fun n=>Vr (B6.1 (Sb n) p h)
 have h2:=B6.1 Dj p h
 simp only [A9,D8] at h2
 have h3:=B3 h2.1
 obtain⟨k,t⟩:=p
 cases t with
 |nil=>exact absurd h2.2.1 (by simp)
 |cons c t=>exact Je (by show (c::t).length≤1000;have:(c::t).length≤12:=h3;omega) h1
theorem Ga {p:Tk}(h:p∈rM):(p.1==9)=false:=by
 have h2:=B6.1 Dj p h
 simp only [A9,D8] at h2
 exact h2.2.2
def Wk (ws:List Tk):Prop:=∀ p∈ws,p∈rM
theorem DC {k:Int}{l:List G1}{t:G1}(h:t∈l):(k,t)∈kT k l:=List.mem_map.2 ⟨t,h,rfl⟩
theorem KI {t:G1}(h:t∈cN):(1,t)∈rM:=B5 _ (DC h)
theorem Uw {t:G1}(h:t∈ZV):(2,t)∈rM:=B4 _ (B5 _ (DC h))
theorem Yh {t:G1}(h:t∈Oj):(3,t)∈rM:=B4 _ (B4 _ (B5 _ (DC h)))
theorem Yf {t:G1}(h:t∈Rc):(3,t)∈rM:=B4 _ (B4 _ (B4 _ (B5 _ (DC h))))
theorem Qf {t:G1}(h:t∈JZ):(1,t)∈rM:=B4 _ (B4 _ (B4 _ (B4 _ (B5 _ (DC h)))))
theorem Ta {t:G1}(h:t∈Yw):(3,t)∈rM:=B4 _ (B4 _ (B4 _ (B4 _ (B4 _ (B5 _ (DC h))))))
theorem Ls {t:G1}(h:t∈YX):(1,t)∈rM:=B4 _ (B4 _ (B4 _ (B4 _ (B4 _ (B4 _ (B5 _ (DC h)))))))
theorem aB3 {t:G1}(h:t∈uW):(1,t)∈rM:=B4 _ (B4 _ (B4 _ (B4 _ (B4 _ (B4 _ (B4 _ (B5 _ (DC h))))))))
theorem Yd {t:G1}(h:t∈aD7):(1,t)∈rM:=B4 _ (B4 _ (B4 _ (B4 _ (B4 _ (B4 _ (B4 _ (B4 _ (B5 _ (DC h)))))))))
theorem Ye {t:G1}(h:t∈aD8):(1,t)∈rM:=B4 _ (B4 _ (B4 _ (B4 _ (B4 _ (B4 _ (B4 _ (B4 _ (B4 _ (DC h)))))))))
theorem Wk.nil:Wk []:=fun _ h=>by cases h
theorem Wk.app {u v:List Tk}(h:Wk u)(h':Wk v):Wk (u++v):=fun p hp=>(D3.1 hp).elim (h p) (h' p)
theorem Wk.cons {p:Tk}{v:List Tk}(h:p∈rM)(h':Wk v):Wk (p::v):=fun q hq=>by
 rcases B7.1 hq with rfl|hq
 ·exact h
 ·exact h' q hq
theorem Wk.one {p:Tk}(h:p∈rM):Wk [p]:= .cons h .nil
theorem Wk.sg {t:G1}(h:Yw.contains t=true):Wk [(3,t)]:= .one (Ta (List.contains_iff_mem.1 h))
theorem Wk.key {t:G1}(h:YX.contains t=true):Wk [(1,t)]:= .one (Ls (List.contains_iff_mem.1 h))
theorem Wk.flat {w:D→List Tk}{xs:List D}(h:∀ x∈xs,Wk (w x)):Wk (xs.flatMap w):=fun p hp=>by
 obtain⟨x,hx,hp⟩:=F7.1 hp
 exact h x hx p hp
theorem Gl {w:D→List Tk}{x:D}(h:Wk (w x)):Wk (aW w x):=by
 unfold aW
 cases QL x with
 |true=>exact (Wk.sg rfl).app (h.app (Wk.sg rfl))
 |false=>exact h
theorem VE {w:D→List Tk}:∀ {xs:List D},(∀ x∈xs,Wk (w x))→Wk (lW w xs)
 |[],_=> .nil
 |[x],h=>h x (B8 ..)
 |x::y::r,h=>(h x (B8 ..)).app ((Wk.sg (t:=[44]) rfl).app (VE (xs:=y::r) fun z hz=>h z (C0 _ hz)))
theorem Zp:∀ (n:Nat) (x:D),fD n x→Wk (wE n x)
 |0,_,h=>h.elim
 |n+1,x,h=>by
  obtain⟨k,t,ar,rfl,hs,ha⟩:=h
  have ih:∀ x∈ar,Wk (wE n x):=fun x hx=>Zp n x (ha x hx)
  rw [HZ]
  rcases hs with ⟨rfl,ht,hm⟩|⟨rfl,ht,hm⟩|⟨rfl,ht,hm⟩|⟨rfl,ht,hm⟩|⟨rfl,ht,hm⟩|⟨rfl,ht,hm,hm2⟩|⟨rfl,ht,hm,hm2⟩|⟨rfl,ht,hm⟩|⟨rfl,ht,hm⟩|⟨rfl,ht,hm,hm2⟩
  ·exact Wk.one (Uw ht)
  ·exact Wk.one (KI ht)
  ·match ar,hm,ih with
   |[x],_,ih=>exact Wk.cons (Yh ht) (Gl (ih x (by simp)))
  ·match ar,hm,ih with
   |[x,y],_,ih=>exact (Gl (ih x (by simp))).app (Wk.cons (Yf ht) (Gl (ih y (by simp))))
  ·match ar,hm,ih with
   |[x,y,z],_,ih=>exact (Gl (ih x (by simp))).app ((Wk.sg rfl).app ((Gl (ih y (by simp))).app ((Wk.sg rfl).app (Gl (ih z (by simp))))))
  ·exact (Wk.sg (t:=[123]) rfl).app ((VE ih).app (Wk.sg rfl))
  ·match ar,hm,ih with
   |x::r,_,ih=>exact (Wk.sg (t:=[123]) rfl).app ((ih x (by simp)).app ((Wk.sg (t:=[123]) rfl).app ((VE fun z hz=>ih z (C0 _ hz)).app ((Wk.sg (t:=[125]) rfl).app (Wk.sg (t:=[125]) rfl)))))
  ·match ar,hm,ih with
   |[x],_,ih=>exact Wk.cons (KI ht) ((Wk.sg (t:=[91]) rfl).app ((ih x (by simp)).app (Wk.sg rfl)))
  ·match ar,hm,ih with
   |[x,y],_,ih=>exact Wk.cons (KI ht) ((Wk.sg (t:=[91]) rfl).app ((ih x (by simp)).app ((Wk.sg rfl).app ((ih y (by simp)).app (Wk.sg rfl)))))
  ·exact Wk.cons (Qf ht) ((Wk.sg (t:=[40]) rfl).app ((VE ih).app (Wk.sg rfl)))
end Go.Proofs.YtalibicpmfbieaaGreatDoor
