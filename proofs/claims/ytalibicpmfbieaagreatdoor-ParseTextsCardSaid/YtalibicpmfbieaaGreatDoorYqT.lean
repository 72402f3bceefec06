import Derived.Test.YtalibicpmfbieaaGreatDoorM6
namespace Go.Proofs.YtalibicpmfbieaaGreatDoor
open Go.AE
set_option linter.unusedVariables false
set_option linter.unusedSimpArgs false
theorem Fj {c:UInt8}{t:Zt}{k:Int}(hs:(c::t).length≤1000)(h:∀ n,dG (n+100) (.str (c::t))=some (true,[.int .i64 k,.int .i64 (((c::t).length:Nat):Int),.int .i64 0])):Wd (c::t) k:=by
 have hE:U (fun n=>dG n (.str (c::t))) fun r=>r=(true,[.int .i64 k,.int .i64 (((c::t).length:Nat):Int),.int .i64 0]):=
  ⟨_,rfl,100,fun n hn=>by
   obtain⟨m,rfl⟩:∃ m,n=m+100:=⟨n-100,by omega⟩
   exact h m⟩
 have:=(XR (by omega) hE).2.2
 rwa [List.take_length] at this
def Uy:List Zt:=[[40],[41],[63],[58],[123],[125],[44],[91],[93],[43],[59],[61],[60,61],[64],[42],[46],[35]]
def VR:List Zt:=[uT,nP,oM,MZ,kO,iF,ID,lD,eZ,IM,pI,mD,GI,BI,lM,vI,cT,oO,bZ,wJ,uZ,Q6,dD,nK,mF,wF,sP,[102],[103],[116],[101],[105],[112,49]]
def uW:List Zt:=(List.range 9).map fun k=>[117,48+UInt8.ofNat k]
def Xg:List Zt:=(List.range 9).map fun k=>[109,48+UInt8.ofNat k]
def Xo:List Zt:=(List.range 9).map fun k=>[109,48+UInt8.ofNat k,122]
def kT (k:Int)(l:List Zt):List Tk:=l.map fun t=>(k,t)
def qP:List Tk:=kT 1 Z7++(kT 2 WO++(kT 3 Kn++(kT 3 Nb++(kT 1 GX++(kT 3 Uy++(kT 1 VR++(kT 1 uW++(kT 1 Xg++kT 1 Xo))))))))
def Wt (p:Tk):Out→Bool
 |some (true,[.int .i64 k,.int .i64 m,.int .i64 z])=>k==p.1&&(m==(p.2.length:Int)&&z==0)
 |_=>false
theorem Rp {p:Tk}{o:Out}(h:Wt p o=true):o=some (true,[.int .i64 p.1,.int .i64 (p.2.length:Int),.int .i64 0]):=by
 unfold Wt at h
 split at h
 ·simp only [Xz,beq_iff_eq] at h
  rw [h.1,h.2.1,h.2.2]
 ·cases h
theorem Oc (n:Nat):(qP.all fun p=>Wt p (dG (n+100) (.str p.2)))=true:=by kernel_rfl
theorem ZW:(qP.all fun p=>Nat.ble p.2.length 12&&(!p.2.isEmpty&&!(p.1==9)))=true:=by kernel_rfl
theorem Kj {p:Tk}(h:p∈qP):Wd p.2 p.1:=by
 have h1:=fun n=>Rp (Yg.1 (Oc n) p h)
 have h2:=Yg.1 ZW p h
 simp only [Xz,Zd] at h2
 have h3:=Yd h2.1
 obtain⟨k,t⟩:=p
 cases t with
 |nil=>exact absurd h2.2.1 (by simp)
 |cons c t=>exact Fj (by show (c::t).length≤1000;have:(c::t).length≤12:=h3;omega) h1
theorem Cg {p:Tk}(h:p∈qP):(p.1==9)=false:=by
 have h2:=Yg.1 ZW p h
 simp only [Xz,Zd] at h2
 exact h2.2.2
def Wk (ws:List Tk):Prop:=∀ p∈ws,p∈qP
theorem DQ {k:Int}{l:List Zt}{t:Zt}(h:t∈l):(k,t)∈kT k l:=List.mem_map.2 ⟨t,h,rfl⟩
theorem HG {t:Zt}(h:t∈Z7):(1,t)∈qP:=Yf _ (DQ h)
theorem Qv {t:Zt}(h:t∈WO):(2,t)∈qP:=Ye _ (Yf _ (DQ h))
theorem Uj {t:Zt}(h:t∈Kn):(3,t)∈qP:=Ye _ (Ye _ (Yf _ (DQ h)))
theorem Uh {t:Zt}(h:t∈Nb):(3,t)∈qP:=Ye _ (Ye _ (Ye _ (Yf _ (DQ h))))
theorem Md {t:Zt}(h:t∈GX):(1,t)∈qP:=Ye _ (Ye _ (Ye _ (Ye _ (Yf _ (DQ h)))))
theorem Oy {t:Zt}(h:t∈Uy):(3,t)∈qP:=Ye _ (Ye _ (Ye _ (Ye _ (Ye _ (Yf _ (DQ h))))))
theorem Ij {t:Zt}(h:t∈VR):(1,t)∈qP:=Ye _ (Ye _ (Ye _ (Ye _ (Ye _ (Ye _ (Yf _ (DQ h)))))))
theorem Wl {t:Zt}(h:t∈uW):(1,t)∈qP:=Ye _ (Ye _ (Ye _ (Ye _ (Ye _ (Ye _ (Ye _ (Yf _ (DQ h))))))))
theorem Ug {t:Zt}(h:t∈Xg):(1,t)∈qP:=Ye _ (Ye _ (Ye _ (Ye _ (Ye _ (Ye _ (Ye _ (Ye _ (Yf _ (DQ h)))))))))
theorem Wk.nil:Wk []:=fun _ h=>by cases h
theorem Wk.app {u v:List Tk}(h:Wk u)(h':Wk v):Wk (u++v):=fun p hp=>(Yy.1 hp).elim (h p) (h' p)
theorem Wk.cons {p:Tk}{v:List Tk}(h:p∈qP)(h':Wk v):Wk (p::v):=fun q hq=>by
 rcases Yh.1 hq with rfl|hq
 ·exact h
 ·exact h' q hq
theorem Wk.one {p:Tk}(h:p∈qP):Wk [p]:= .cons h .nil
theorem Wk.sg {t:Zt}(h:Uy.contains t=true):Wk [(3,t)]:= .one (Oy (List.contains_iff_mem.1 h))
theorem Wk.key {t:Zt}(h:VR.contains t=true):Wk [(1,t)]:= .one (Ij (List.contains_iff_mem.1 h))
theorem Wk.flat {w:D→List Tk}{xs:List D}(h:∀ x∈xs,Wk (w x)):Wk (xs.flatMap w):=fun p hp=>by
 obtain⟨x,hx,hp⟩:=Zr.1 hp
 exact h x hx p hp
theorem Cr {w:D→List Tk}{x:D}(h:Wk (w x)):Wk (aW w x):=by
 unfold aW
 cases NA x with
 |true=>exact (Wk.sg rfl).app (h.app (Wk.sg rfl))
 |false=>exact h
theorem RY {w:D→List Tk}:∀ {xs:List D},(∀ x∈xs,Wk (w x))→Wk (lW w xs)
 |[],_=> .nil
 |[x],h=>h x (Yi ..)
 |x::y::r,h=>(h x (Yi ..)).app ((Wk.sg (t:=[44]) rfl).app (RY (xs:=y::r) fun z hz=>h z (Yk _ hz)))
theorem Ve:∀ (n:Nat) (x:D),bS n x→Wk (wE n x)
 |0,_,h=>h.elim
 |n+1,x,h=>by
  obtain⟨k,t,ar,rfl,hs,ha⟩:=h
  have ih:∀ x∈ar,Wk (wE n x):=fun x hx=>Ve n x (ha x hx)
  rw [EU]
  rcases hs with ⟨rfl,ht,hm⟩|⟨rfl,ht,hm⟩|⟨rfl,ht,hm⟩|⟨rfl,ht,hm⟩|⟨rfl,ht,hm⟩|⟨rfl,ht,hm,hm2⟩|⟨rfl,ht,hm,hm2⟩|⟨rfl,ht,hm⟩|⟨rfl,ht,hm⟩|⟨rfl,ht,hm,hm2⟩
  ·exact Wk.one (Qv ht)
  ·exact Wk.one (HG ht)
  ·match ar,hm,ih with
   |[x],_,ih=>exact Wk.cons (Uj ht) (Cr (ih x (by simp)))
  ·match ar,hm,ih with
   |[x,y],_,ih=>exact (Cr (ih x (by simp))).app (Wk.cons (Uh ht) (Cr (ih y (by simp))))
  ·match ar,hm,ih with
   |[x,y,z],_,ih=>exact (Cr (ih x (by simp))).app ((Wk.sg rfl).app ((Cr (ih y (by simp))).app ((Wk.sg rfl).app (Cr (ih z (by simp))))))
  ·exact (Wk.sg (t:=[123]) rfl).app ((RY ih).app (Wk.sg rfl))
  ·match ar,hm,ih with
   |x::r,_,ih=>exact (Wk.sg (t:=[123]) rfl).app ((ih x (by simp)).app ((Wk.sg (t:=[123]) rfl).app ((RY fun z hz=>ih z (Yk _ hz)).app ((Wk.sg (t:=[125]) rfl).app (Wk.sg (t:=[125]) rfl)))))
  ·match ar,hm,ih with
   |[x],_,ih=>exact Wk.cons (HG ht) ((Wk.sg (t:=[91]) rfl).app ((ih x (by simp)).app (Wk.sg rfl)))
  ·match ar,hm,ih with
   |[x,y],_,ih=>exact Wk.cons (HG ht) ((Wk.sg (t:=[91]) rfl).app ((ih x (by simp)).app ((Wk.sg rfl).app ((ih y (by simp)).app (Wk.sg rfl)))))
  ·exact Wk.cons (Md ht) ((Wk.sg (t:=[40]) rfl).app ((RY ih).app (Wk.sg rfl)))
end Go.Proofs.YtalibicpmfbieaaGreatDoor
