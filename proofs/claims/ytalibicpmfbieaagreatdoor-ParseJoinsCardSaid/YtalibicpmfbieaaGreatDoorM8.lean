import Derived.Test.YtalibicpmfbieaaGreatDoorYqT
import Derived.Test.YtalibicpmfbieaaGreatDoorM2
import Derived.Test.YtalibicpmfbieaaGreatDoorPaW
import Derived.Test.YtalibicpmfbieaaGreatDoorM6
namespace Go.Proofs.YtalibicpmfbieaaGreatDoor
open Go.AE
set_option linter.all false
inductive Tv:Int×Int→G1→List D→Prop
 |nil {p bl}:(∀ b∈bl,bI b=true)→Tv p bl []
 |cons {p k bl w rest ts}:(∀ b∈bl,bI b=true)→Wd w k→Pc rest→Tv (mv (mv p bl) w) rest ts→Tv p (bl++(w++rest)) (Jb k w 1 (mv p bl).1 (mv p bl).2::ts)
theorem Nw {bl:G1}(h:∀ b∈bl,bI b=true):Y2 bI bl=bl.length:=by
 have:=sD (r:=[]) h
 rw [D5] at this
 exact this
theorem Ue:∀ {q:Int×Int} {s:G1} {ts:List D},Tv q s ts→∀ (x:G1) (p0 p1 p2:Int) (out:List D),Room q s.length→out.length+ts.length≤12000→
  U (fun n=>cY n (0:Int) (.Z 5 out) (.Z 5 []) (0:Int) (0:Int) (0:Int) (.str s) (1:Int) (.int .i64 q.1) (.int .i64 q.2) (.str x) p0 p1 p2 (.bool false)) fun r=>r=BC none out ts:=by
 intro q s ts h
 induction h with
 |@nil q bl hbl=>
  intro x p0 p1 p2 out hr hl
  have hr0:=hr
  obtain⟨r1,r2,r3,r4⟩:=hr
  have hsp:=Nw hbl
  have hs1:=PY (s:=bl) (k:=bl.length) (B9 _) x p0 p1 p2 1 hr0
  rw [List.take_length,List.drop_length] at hs1
  refine U.eq (fun n=>xZ n _ _ _ _ _ _ _ _ _ _ _ _ _ _ _) (U.H6 (Fx (by omega)) ?_)
  rw [hsp]
  intro _ _ h;cases h
  refine⟨rfl,U.I0 rfl (U.H6 hs1 ?_)⟩
  intro _ _ h;cases h
  exact⟨rfl,U.I0 rfl (U.I0 rfl (U.ret (by simp [BC])))⟩
 |@cons q k bl w rest ts hbl hW hg _ ih=>
  intro x p0 p1 p2 out hr hl
  have hlen:(bl++(w++rest)).length=bl.length+(w.length+rest.length):=by simp only [A7]
  have hr0:=hr
  obtain⟨r1,r2,r3,r4⟩:=hr0
  rw [hlen] at r3
  have hw1:1≤w.length:=List.length_pos_iff.2 hW.ne
  have hsp:Y2 bI (bl++(w++rest))=bl.length:=by rw [sD hbl,Ny hW];omega
  have hr2:Room (mv q bl) (w++rest).length:=WT (s:=bl) (m:=(w++rest).length) (by rw [Nat.add_comm,← A7];exact hr)
  have hr3:Room (mv (mv q bl) w) rest.length:=WT (s:=w) (m:=rest.length) (by rw [Nat.add_comm,← A7];exact hr2)
  have hz:(w++rest==[])=false:=by
   cases hw:w with
   |nil=>exact absurd hw hW.ne
   |cons _ _=>rfl
  have hs1:U (fun n=>cM n (bl.length:Int) (.str x) p0 p1 p2 (.bool false) (1:Int) (.int .i64 q.1) (.int .i64 q.2) (.str (bl++(w++rest)))) fun r=>
    r=(true,[.str x,.int .i64 p0,.int .i64 p1,.int .i64 p2,.bool false,.int .i64 1,.int .i64 (mv q bl).1,.int .i64 (mv q bl).2,.str (w++rest)]):=by
   have h:=PY (s:=bl++(w++rest)) (k:=bl.length) (by rw [hlen];omega) x p0 p1 p2 1 hr
   rw [List.take_left,List.drop_left] at h
   exact h
  have hs2:U (fun n=>cM n (w.length:Int) (.str x) p0 p1 p2 (.bool false) (1:Int) (.int .i64 (mv q bl).1) (.int .i64 (mv q bl).2) (.str (w++rest))) fun r=>
    r=(true,[.str x,.int .i64 p0,.int .i64 p1,.int .i64 p2,.bool false,.int .i64 1,.int .i64 (mv (mv q bl) w).1,.int .i64 (mv (mv q bl) w).2,.str rest]):=by
   have h:=PY (s:=w++rest) (k:=w.length) (by rw [A7];omega) x p0 p1 p2 1 hr2
   rw [List.take_left,List.drop_left] at h
   exact h
  simp only [A0] at hl
  refine U.eq (fun n=>xZ n _ _ _ _ _ _ _ _ _ _ _ _ _ _ _) (U.H6 (Fx (by rw [hlen];omega)) ?_)
  rw [hsp]
  intro _ _ h;cases h
  refine⟨rfl,U.I0 rfl (U.H6 hs1 ?_)⟩
  intro _ _ h;cases h
  refine⟨rfl,U.I0 rfl (U.no hz (U.H6 (hW.go rest hg (by rw [A7];omega)) ?_))⟩
  intro _ _ h;cases h
  refine⟨rfl,U.I0 rfl (U.I0 rfl (U.no ?_ (U.no rfl (U.I0 (K3 (K3 rfl (E6 ?_)) (E6 ?_)) (U.I0 (B2 (by simp only [L7];omega)) (U.H6 hs2 ?_))))))⟩
  ·have:(out.length:Int)≠12000:=by omega
   simpa using this
  ·show (0:Int)≤(w.length:Int);omega
  ·show (w.length:Int)≤((w++rest).length:Int);rw [A7];omega
  intro _ _ h;cases h
  refine⟨rfl,U.I0 rfl ?_⟩
  have hwt:(((w++rest).drop 0).take (((w.length:Nat):Int).toNat-0))=w:=by rw [List.drop_zero,E1,Nat.sub_zero,List.take_left]
  have hi:=ih x p0 p1 p2 (out++[Jb k w 1 (mv q bl).1 (mv q bl).2]) hr3 (by simp only [A7,C9];omega)
  show U (fun n=>cY n (0:Int) (.Z 5 (out++[.agg [.int .i64 k,.str (((w++rest).drop 0).take (((w.length:Nat):Int).toNat-0)),.int .i64 1,.int .i64 (mv q bl).1,.int .i64 (mv q bl).2]])) (.Z 5 []) (0:Int) (0:Int) (0:Int) (.str rest) (1:Int) (.int .i64 (mv (mv q bl) w).1) (.int .i64 (mv (mv q bl) w).2) (.str x) p0 p1 p2 (.bool false)) _
  rw [hwt]
  refine hi.mono fun r hr=>?_
  rw [hr];simp [BC]
theorem Gn {s:G1}{ts:List D}(hs:s.length≤900000)(ht:ts.length≤12000)(ha:Tv (1,1) s ts):U (fun n=>qC n (.Z 5 [.agg [.str s,.int .i64 1,.int .i64 1,.int .i64 1,.bool false]])) fun r=>r=XC 0 0 0 0 ts:=by
 have hp:U (fun n=>mA n (.agg [.str s,.int .i64 1,.int .i64 1,.int .i64 1,.bool false]) (.Z 5 [])) fun r=>r=XC 0 0 0 0 ts:=by
  refine U.eq (fun n=>VI n _ _ _ _ _ _) (U.L3 (Ue ha s 1 1 1 [] ⟨Int.le_refl _,Int.le_refl _,by show (1:Int)+_≤_;omega,by show (1:Int)+_≤_;omega⟩ (by simpa using ht)) (fun ds h=>?_) fun ds h=>?_)
  ·rw [h];simp [BC,XC]
  ·cases h
 refine U.eq (fun n=>Ch n _) ?_
 have loop:U (fun n=>jY n (.Z 5 [.agg [.str s,.int .i64 1,.int .i64 1,.int .i64 1,.bool false]]) (1:Int) (0:Int) (0:Int) (0:Int) (0:Int) (.Z 5 [])) fun r=>
   r=(false,[.Z 5 [.agg [.str s,.int .i64 1,.int .i64 1,.int .i64 1,.bool false]],.int .i64 1,.int .i64 1,.int .i64 0,.int .i64 0,.int .i64 0,.Z 5 ts]):=by
  refine U.eq (fun n=>DE n _ _ _ _ _ _ _) (U.I0 rfl (U.I0 rfl (U.I0 rfl (U.H6 hp ?_))))
  intro _ _ h;cases h
  exact⟨rfl,U.I0 rfl (U.no rfl (U.eq (fun n=>DE n _ _ _ _ _ _ _) (U.no rfl (U.ret rfl))))⟩
 refine U.L3 loop (fun ds h=>by cases h) fun ds h=>?_
 cases h
 exact U.I0 rfl (U.ret rfl)
def yQ:Bool→List Tk→G1
 |_,[]=>[]
 |f,p::r=>bif p.1==9 then 10::yQ true r else ((bif f then [] else [32])++(p.2++yQ false r))
def gL (its:List Tk):Prop:=∀ p∈its,p=nl∨p∈rM
def nn (its:List Tk):List Tk:=its.filter fun p=>!(p.1==9)
theorem JU:∀ {its:List Tk} (_:gL its) (f:Bool) (s:G1),(f=false→s.isEmpty=false)→(PI its (f,s)).2=s++yQ f its
 |[],_,f,s,_=>by show s=s++[];rw [D5]
 |p::r,h,f,s,hf=>by
  have hr:gL r:=fun q hq=>h q (C0 _ hq)
  show (PI r (Oz (f,s) p)).2=_
  rcases h p (B8 ..) with rfl|hp
  ·show (PI r (true,s++[10])).2=s++(10::yQ true r)
   rw [JU hr true _ (fun h=>by cases h),C1];rfl
  ·have h9:=Ga hp
   have hW:=Oe hp
   have e1:Oz (f,s) p=(false,s++((bif f then [] else [32])++p.2)):=by
    unfold Oz;rw [h9]
    cases f with
    |true=>show (false,s++((bif !s.isEmpty&&false then [32] else [])++p.2))=_;rw [Bool.and_false];rfl
    |false=>show (false,s++((bif !s.isEmpty&&true then [32] else [])++p.2))=_;rw [hf rfl];rfl
   rw [e1,JU hr false _ (fun _=>?_)]
   ·rw [show yQ f (p::r)=(bif f then [] else [32])++(p.2++yQ false r) from by rw [yQ,h9];rfl]
    simp only [C1]
   ·cases hp2:p.2 with
    |nil=>exact absurd hp2 hW.ne
    |cons c t=>cases s<;>cases f<;>rfl
def Mt:List D→List Tk→Prop
 |[],[]=>True
 |y::ts,p::ws=>(∃ a b c,y=Jb p.1 p.2 a b c)∧Mt ts ws
 |_,_=>False
theorem Uu {its:List Tk}:Pc (yQ false its):=by
 intro b t h
 cases its with
 |nil=>cases h
 |cons p r=>
  unfold yQ at h
  cases h9:(p.1==9) with
  |true=>rw [h9] at h;have h:(10:UInt8)::yQ true r=b::t:=h;injection h with h1;subst h1;rfl
  |false=>rw [h9] at h;have h:(32:UInt8)::(p.2++yQ false r)=b::t:=h;injection h with h1;subst h1;rfl
theorem Bk:∀ {its:List Tk} (_:gL its) (f:Bool) (p:Int×Int) (bl:G1),(∀ b∈bl,bI b=true)→∃ ts,Tv p (bl++yQ f its) ts∧Mt ts (nn its)
 |[],_,f,p,bl,hb=>⟨[],by rw [show yQ f []=[] from by unfold yQ;rfl,D5];exact .nil hb,trivial⟩
 |q::r,h,f,p,bl,hb=>by
  have hr:gL r:=fun q hq=>h q (C0 _ hq)
  rcases h q (B8 ..) with rfl|hp
  ·obtain⟨ts,h1,h2⟩:=Bk hr true p (bl++[10]) (fun b hb'=>by
    rcases D3.1 hb' with h|h
    ·exact hb b h
    ·rw [C3.1 h];rfl)
   rw [C1] at h1
   exact⟨ts,h1,h2⟩
  ·have h9:=Ga hp
   obtain⟨ts,h1,h2⟩:=Bk hr false (mv (mv p (bl++(bif f then [] else [32]))) q.2) [] (fun b hb'=>by cases hb')
   refine⟨Jb q.1 q.2 1 (mv p (bl++(bif f then [] else [32]))).1 (mv p (bl++(bif f then [] else [32]))).2::ts,?_,?_⟩
   ·have:=Tv.cons (p:=p) (bl:=bl++(bif f then [] else [32])) (fun b hb'=>by
     rcases D3.1 hb' with h|h
     ·exact hb b h
     ·cases f with
      |true=>cases h
      |false=>rw [C3.1 h];rfl) (Oe hp) Uu h1
    rw [C1] at this
    rw [show yQ f (q::r)=(bif f then [] else [32])++(q.2++yQ false r) from by rw [yQ,h9];rfl]
    exact this
   ·rw [show nn (q::r)=q::nn r from by unfold nn;rw [List.filter_cons,h9];rfl]
    exact⟨⟨_,_,_,rfl⟩,h2⟩
theorem Cl:∀ {ts:List D} {ws:List Tk},Mt ts ws→ts.length=ws.length
 |[],[],_=>rfl
 |_::ts,_::ws,h=>by rw [A0,A0,Cl h.2]
theorem Td:∀ {ts:List D} {ws:List Tk} (_:Mt ts ws) (pre:List D),K0 (pre++ts) pre.length ws
 |[],[],_,_=>trivial
 |y::ts,p::ws,h,pre=>by
  obtain⟨⟨a,b,c,e⟩,h2⟩:=h
  have ih:=Td h2 (pre++[y])
  rw [C1,A7,C9] at ih
  exact⟨⟨a,b,c,by rw [F5 (B9 _),Nat.sub_self,e];rfl⟩,ih⟩
theorem Fe:∀ {ts:List D} {ws:List Tk},Mt ts ws→Pj ts
 |[],[],_=>fun y hy=>by cases hy
 |y::ts,p::ws,h=>fun z hz=>by
  obtain⟨⟨a,b,c,e⟩,h2⟩:=h
  rcases B7.1 hz with rfl|hz
  ·exact⟨_,_,_,_,_,e⟩
  ·exact Fe h2 z hz
theorem Qo {its:List Tk}(h:gL its)(hn:(nn its).length≤12000)(hl:(PI its (true,[])).2.length≤900000) :
  ∃ ts,Mt ts (nn its)∧U (fun n=>qC n (.Z 5 [.agg [.str (PI its (true,[])).2,.int .i64 1,.int .i64 1,.int .i64 1,.bool false]])) fun r=>r=XC 0 0 0 0 ts:=by
 obtain⟨ts,h1,h2⟩:=Bk h true (1,1) [] (fun b hb=>by cases hb)
 refine⟨ts,h2,Gn hl (by rw [Cl h2];exact hn) ?_⟩
 rw [JU h true [] (fun h=>by cases h)]
 exact h1
def Ly (u v:List Tk):Prop:=nn u=v∧u.length≤2*v.length∧gL u
theorem Mv (u v:List Tk):nn (u++v)=nn u++nn v:=List.filter_append ..
theorem Ly.nil:Ly [] []:=⟨rfl,B9 _,fun _ h=>by cases h⟩
theorem Ly.app {u v u' v':List Tk}(h:Ly u v)(h':Ly u' v'):Ly (u++u') (v++v'):=
 ⟨by rw [Mv,h.1,h'.1],by have:=h.2.1;have:=h'.2.1;simp only [A7];omega,fun p hp=>(D3.1 hp).elim (h.2.2 p) (h'.2.2 p)⟩
theorem Vn:∀ {v:List Tk},Wk v→nn v=v
 |[],_=>rfl
 |p::v,h=>by
  have h9:=Ga (h p (B8 ..))
  have ih:=Vn (v:=v) fun q hq=>h q (C0 _ hq)
  unfold nn at ih ⊢
  rw [List.filter_cons,h9,ih];rfl
theorem Ly.w {v:List Tk}(h:Wk v):Ly v v:=⟨Vn h,by omega,fun p hp=> .inr (h p hp)⟩
theorem Ly.e {v:List Tk}(h:Wk v)(hv:v≠[]):Ly (v++[nl]) v:=by
 refine⟨by rw [Mv,Vn h];show v++[]=v;rw [D5],?_,fun p hp=>?_⟩
 ·have:=List.length_pos_iff.2 hv
  rw [A7,C9];omega
 ·rcases D3.1 hp with h1|h1
  ·exact .inr (h p h1)
  ·exact .inl (C3.1 h1)
theorem Ly.flat {w v:D→List Tk}:∀ {xs:List D},(∀ x∈xs,Ly (w x) (v x))→Ly (xs.flatMap w) (xs.flatMap v)
 |[],_=> .nil
 |x::xs,h=>by
  rw [D9,D9]
  exact (h x (B8 ..)).app (Ly.flat fun y hy=>h y (C0 _ hy))
theorem Ly.RO:Ly [(3,[59]),nl] [(3,[59])]:=Ly.e (Wk.sg rfl) (by simp)
theorem Ly.kn {t:G1}(h:YX.contains t=true):Ly [(1,t),nl] [(1,t)]:=Ly.e (Wk.key h) (by simp)
theorem Ly.key {t:G1}(h:YX.contains t=true):Ly [(1,t)] [(1,t)]:=Ly.w (Wk.key h)
theorem Ly.sg {t:G1}(h:Yw.contains t=true):Ly [(3,t)] [(3,t)]:=Ly.w (Wk.sg h)
theorem k4 {x:D}(h:fD 4 x):Wk (wE 4 x):=Zp 4 x h
theorem Ly.ex {x:D}(h:fD 4 x):Ly (wE 4 x) (wE 4 x):=Ly.w (k4 h)
theorem Rk {x:D}(h:fD 4 x):Wk (pW x):=(Wk.sg rfl).app ((k4 h).app (Wk.sg rfl))
theorem Wk.rR {t:G1}{v:List Tk}(h:Yw.contains t=true)(h':Wk v):Wk ((3,t)::v):= .cons (Ta (List.contains_iff_mem.1 h)) h'
theorem Wk.gJ {t:G1}{v:List Tk}(h:YX.contains t=true)(h':Wk v):Wk ((1,t)::v):= .cons (Ls (List.contains_iff_mem.1 h)) h'
theorem Ew {t:G1}(ht:YX.contains t=true){es:List D}(h3:es.length=3)(he:∀ e∈es,fD 4 e):Wk (bR t es):=by
 match es,h3,he with
 |[x,y,z],_,he=>
  show Wk ([(1,yF),(3,[40]),(1,t),(3,[61])]++(wE 4 x++([(3,[59])]++(wE 4 y++([(3,[59]),(1,t),(3,[61])]++(wE 4 z++[(3,[41])])))))
)
  exact (Wk.gJ rfl (Wk.rR rfl (Wk.gJ ht (Wk.sg rfl)))).app ((k4 (he x (by simp))).app ((Wk.sg rfl).app ((k4 (he y (by simp))).app ((Wk.rR rfl (Wk.gJ ht (Wk.sg rfl))).app ((k4 (he z (by simp))).app (Wk.sg rfl))))))
theorem Vd {x:D}(h:isLeft x):Wk (wE 4 x):=k4 (fZ (by decide) (uV h))
theorem Ly.left {x:D}(h:isLeft x):Ly (wE 4 x) (wE 4 x):=Ly.w (Vd h)
theorem Gg:∀ (n:Nat) (x:D),sE n x→Ly (yS n x) (wS n x)
 |0,_,h=>h.elim
 |n+1,x,h=>by
  obtain⟨k,t,es,bs,zs,rfl,he,hb,hz,hs⟩:=h
  have ih:=Gg n
  have hB:Ly (bs.flatMap (yS n)) (bs.flatMap (wS n)):=Ly.flat fun x hx=>ih x (hb x hx)
  have hZ:Ly (zs.flatMap (iM (yS n))) (zs.flatMap (iM (wS n))):=Ly.flat fun a ha=>by
   obtain⟨es,s,rfl,_,he2,hs⟩:=hz a ha
   show Ly ((bif es.isEmpty then [(1,wA)] else [])++(lW (wE 4) es++([(3,[58])]++yS n (CF (arm es s))))) ((bif es.isEmpty then [(1,wA)] else [])++(lW (wE 4) es++([(3,[58])]++wS n (CF (arm es s)))))
   rw [Dd hs]
   refine Ly.app ?_ ((Ly.w (VE fun x hx=>k4 (he2 x hx))).app ((Ly.sg rfl).app (ih s hs)))
   cases es.isEmpty with
   |true=>exact Ly.key rfl
   |false=>exact Ly.nil
  show Ly (aA6 (yS n) k t es bs zs) (sW (wS n) k t es bs zs)
  rcases hs with ⟨rfl,rfl,rfl,hn,rfl⟩|⟨hk,rfl,⟨x,e,rfl,hx⟩,rfl,rfl⟩|⟨rfl,rfl,hn,⟨b,c,rfl,hop⟩,rfl⟩|⟨rfl,rfl,hn,rfl,hz1,hz2⟩|⟨rfl,rfl,hn,hl2,rfl⟩|⟨rfl,ht',hn,rfl,rfl⟩|⟨rfl,rfl,rfl,rfl,rfl⟩
  ·show Ly ([(1,V9),nl]++(bs.flatMap (yS n)++[(1,fF),nl])) ([(1,V9)]++(bs.flatMap (wS n)++[(1,fF)]))
   exact (Ly.kn rfl).app (hB.app (Ly.kn rfl))
  ·have he2:=he e (by simp)
   rcases hk with rfl|rfl
   ·show Ly (wE 4 x++([(3,[61])]++(wE 4 e++[(3,[59]),nl]))) (wE 4 x++([(3,[61])]++(wE 4 e++[(3,[59])])))
    exact (Ly.left hx).app ((Ly.sg rfl).app ((Ly.ex he2).app Ly.RO))
   ·show Ly (wE 4 x++([(3,[60,61])]++(wE 4 e++[(3,[59]),nl]))) (wE 4 x++([(3,[60,61])]++(wE 4 e++[(3,[59])])))
    exact (Ly.left hx).app ((Ly.sg rfl).app ((Ly.ex he2).app Ly.RO))
  ·match es,hn,he with
   |[e],_,he=>
    show Ly ([(1,uI)]++(pW e++(yS n b++(bif (c.at_ 0).i==8 then [] else [(1,dR)]++yS n c)))) ([(1,uI)]++(pW e++(wS n b++(bif (c.at_ 0).i==8 then [] else [(1,dR)]++wS n c))))
    refine (Ly.key rfl).app ((Ly.w (Rk (he e (by simp)))).app ((ih b (hb b (by simp))).app ?_))
    cases (c.at_ 0).i==8 with
    |true=>exact Ly.nil
    |false=>exact (Ly.key rfl).app (ih c (hb c (by simp)))
  ·match es,hn,he with
   |[e],_,he=>
    show Ly ([(1,pB)]++(pW e++([nl]++(zs.flatMap (iM (yS n))++[(1,dW),nl])))) ([(1,pB)]++(pW e++(zs.flatMap (iM (wS n))++[(1,dW)])))
    rw [← C1 (pW e)]
    exact (Ly.key rfl).app ((Ly.e (Rk (he e (by simp))) (by simp [pW])).app (hZ.app (Ly.kn rfl)))
  ·match bs,hl2,hb with
   |[b],_,hb=>
    show Ly (bR [105] es++yS n b) (bR [105] es++wS n b)
    exact (Ly.w (Ew rfl hn he)).app (ih b (hb b (by simp)))
  ·match es,hn,he with
   |[e],_,he=>
    show Ly ((bif t.isEmpty then [] else [(1,t),(3,[58])])++([(1,pK)]++(pW e++[(3,[59]),nl]))) ((bif t.isEmpty then [] else [(1,t),(3,[58])])++([(1,pK)]++(pW e++[(3,[59])])))
    refine Ly.app ?_ ((Ly.key rfl).app ((Ly.w (Rk (he e (by simp)))).app Ly.RO))
    rcases ht' with rfl|rfl
    ·exact Ly.nil
    ·exact Ly.w (Wk.gJ rfl (Wk.sg rfl))
  ·exact Ly.RO
theorem Kp {es:List D}(he:∀ e∈es,fD 4 e):Wk (pA es):=by
 match es,he with
 |[],_=>exact Wk.nil
 |[x],he=>exact (Wk.sg (t:=[91]) rfl).app ((k4 (he x (by simp))).app (Wk.sg (t:=[93]) rfl))
 |x::y::r,he=>exact (Wk.sg (t:=[91]) rfl).app ((k4 (he x (by simp))).app ((Wk.sg (t:=[58]) rfl).app ((k4 (he y (by simp))).app (Wk.sg (t:=[93]) rfl))))
theorem aB8 {T:NT}(hT:T=vN∨T=JN∨T=CO∨T=nA){nm ty:G1}{q:Nat}{f sg:Bool}{es fs:List D}(hn:nm∈cN)(hm:(ty,q,f)∈T)(he:∀ e∈es,fD 4 e)(hf:∀ e∈fs,fD 4 e)(hfs:fs=[]∨(f=true∧fs.length=1∧es.length≤2)):Wk (nW nm ty sg es fs):=by
 have hty:=(Gp hT _ hm).1
 have h1:Wk (bif ty==bY then [(1,nL),(1,lC)] else [(1,ty)]):=by
  simp only [B7,List.not_mem_nil,or_false] at hty
  rcases hty with h|h|h|h|h|h
  ·rw [show ty=LH from h];exact Wk.key rfl
  ·rw [show ty=lC from h];exact Wk.key rfl
  ·rw [show ty=iS from h];exact Wk.key rfl
  ·rw [show ty=QK from h];exact Wk.key rfl
  ·rw [show ty=nL from h];exact Wk.key rfl
  ·rw [show ty=bY from h];exact Wk.gJ rfl (Wk.key rfl)
 unfold nW
 refine h1.app (Wk.app ?_ ((Kp fun e h=>he e (List.mem_of_mem_take h)).app ((Wk.one (KI hn)).app ((Kp fun e h=>he e (List.mem_of_mem_drop h)).app ?_))))
 ·cases sg&&!(ty==iS) with
  |true=>exact Wk.key rfl
  |false=>exact Wk.nil
 ·rcases hfs with rfl|⟨_,h1,_⟩
  ·exact Wk.nil
  ·match fs,h1,hf with
   |[x],_,hf=>exact (Wk.sg (t:=[61]) rfl).app (k4 (hf x (by simp)))
theorem Sj {T:NT}(hT:T=vN∨T=JN∨T=CO∨T=nA){x:D}(h:xN T x):Wk (kC x):=by
 obtain⟨nm,ty,q,f,sg,es,fs,rfl,g1,hm,g3,g4,g5,g6,g7,g8⟩:=jG h
 exact aB8 hT g1 hm g7 g8 g6
theorem aB1 {c:D}(h:xC c):Wk (cW c):=by
 obtain⟨nm,es,rfl,hnm,hle,he⟩:=h
 show Wk ([(3,[46]),(1,nm),(3,[40])]++(lW (wE 4) es++[(3,[41])]))
 exact (Wk.rR rfl (Wk.cons (KI hnm) (Wk.sg rfl))).app ((VE fun x hx=>k4 (he x hx)).app (Wk.sg rfl))
theorem Sv {xs:List D}(h:∀ c∈xs,xC c):Wk (oI xs):=(Wk.sg rfl).app ((VE fun x hx=>aB1 (h x hx)).app (Wk.sg rfl))
theorem Yg {k:UInt8}(h:k.toNat≤8):(1,[117,48+k])∈rM:=by
 refine aB3 (List.mem_map.2 ⟨k.toNat,List.mem_range.2 (by omega),?_⟩)
 rw [UInt8.ofNat_toNat]
theorem Km {w v:D→List Tk}{t:G1}(ht:YX.contains t=true){its:List D}(h:∀ x∈its,Ly (w x) (v x)):Ly ([gB t its].flatMap (XG w)) ([gB t its].flatMap (vO v)):=by
 refine Ly.flat fun x hx=>?_
 rw [C3.1 hx]
 show Ly ([(1,V9),(3,[58]),(1,t),nl]++(its.flatMap w++[(1,fF),nl])) ([(1,V9),(3,[58]),(1,t)]++(its.flatMap v++[(1,fF)]))
 exact (Ly.e (v:=[(1,V9),(3,[58]),(1,t)]) (Wk.gJ rfl (Wk.rR rfl (Wk.key ht))) (by simp)).app ((Ly.flat h).app (Ly.kn rfl))
theorem Tu:∀ (n:Nat) (x:D),xI n x→Ly (yI n x) (wI n x)
 |0,_,h=>h.elim
 |n+1,x,h=>by
  have ih:=Tu n
  rcases h with (h|h)|⟨nm,e,rfl,hn,he⟩|⟨nm,rfl,hn⟩|⟨l0,e,rfl,hlf,he⟩|⟨s0,rfl,hs⟩|⟨s0,rfl,hs⟩|⟨sg,es,its,s0,rfl,h2e,he,h1n,h2n,hx,hs⟩|⟨k,ps,qs,rfl,hk,hp,hq,hpc,hqc⟩|⟨es,its,rfl,h3,he,hn,hx⟩|⟨e,its,els,rfl,he,hn,hx,hel⟩
  ·have hk:=Sj (.inl rfl) h
   obtain⟨nm,ty,q,f,sg,es,fs,rfl,_⟩:=jG h
   show Ly (nW nm ty sg es fs++[(3,[59]),nl]) (nW nm ty sg es fs++[(3,[59])])
   exact (Ly.w hk).app Ly.RO
  ·have hk:=Sj (.inr (.inl rfl)) h
   obtain⟨nm,ty,q,f,sg,es,fs,rfl,_⟩:=jG h
   show Ly (nW nm ty sg es fs++[(3,[59]),nl]) (nW nm ty sg es fs++[(3,[59])])
   exact (Ly.w hk).app Ly.RO
  ·show Ly ([(1,oP),(1,nm),(3,[61])]++(wE 4 e++[(3,[59]),nl])) ([(1,oP),(1,nm),(3,[61])]++(wE 4 e++[(3,[59])]))
   exact (Ly.w (Wk.gJ rfl (Wk.cons (KI hn) (Wk.sg rfl)))).app ((Ly.ex he).app Ly.RO)
  ·show Ly ([(1,GO),(1,nm),(3,[59])]++[nl]) [(1,GO),(1,nm),(3,[59])]
   exact Ly.e (Wk.gJ rfl (Wk.cons (KI hn) (Wk.sg rfl))) (by simp)
  ·show Ly ([(1,qG)]++(wE 4 l0++([(3,[61])]++(wE 4 e++[(3,[59]),nl])))) ([(1,qG)]++(wE 4 l0++([(3,[61])]++(wE 4 e++[(3,[59])]))))
   exact (Ly.key rfl).app ((Ly.left hlf).app ((Ly.sg rfl).app ((Ly.ex he).app Ly.RO)))
  ·show Ly ([(1,lU),(3,[64]),(3,[42])]++yS 4 s0) ([(1,lU),(3,[64]),(3,[42])]++wS 4 s0)
   exact (Ly.w (Wk.gJ rfl (Wk.rR rfl (Wk.sg rfl)))).app (Gg 4 s0 hs)
  ·show Ly ([(1,lU),(3,[64]),(3,[40]),(1,CT),(1,vZ),(3,[41])]++yS 4 s0) ([(1,lU),(3,[64]),(3,[40]),(1,CT),(1,vZ),(3,[41])]++wS 4 s0)
   exact (Ly.w (Wk.gJ rfl (Wk.rR rfl (Wk.rR rfl (Wk.gJ rfl (Wk.gJ rfl (Wk.sg rfl))))))).app (Gg 4 s0 hs)
  ·show Ly ([(1,yG)]++((bif sg then [(1,mL)] else [])++(pA es++([(1,[102]),(3,[59]),nl]++(its.flatMap Xe++(yS 4 s0++[(1,mG),nl])))))) ([(1,yG)]++((bif sg then [(1,mL)] else [])++(pA es++([(1,[102]),(3,[59])]++(its.flatMap EP++(wS 4 s0++[(1,mG)]))))))
   refine (Ly.key rfl).app (Ly.app ?_ ((Ly.w (Kp he)).app ((Ly.e (v:=[(1,[102]),(3,[59])]) (Wk.gJ rfl (Wk.sg rfl)) (by simp)).app (Ly.app ?_ ((Gg 4 s0 hs).app (Ly.kn rfl))))))
   ·cases sg with
    |true=>exact Ly.key rfl
    |false=>exact Ly.nil
   ·refine Ly.flat fun x hx'=>?_
    show Ly (kC x++[(3,[59]),nl]) (kC x++[(3,[59])])
    exact (Ly.w (Sj (.inr (.inr (.inl rfl))) (hx x hx'))).app Ly.RO
  ·show Ly ([(1,uN)]++((bif ps.isEmpty then [] else [(3,[35])]++oI ps)++([(1,[117,48+k])]++(oI qs++[(3,[59]),nl])))) ([(1,uN)]++((bif ps.isEmpty then [] else [(3,[35])]++oI ps)++([(1,[117,48+k])]++(oI qs++[(3,[59])]))))
   refine (Ly.key rfl).app (Ly.app ?_ ((Ly.w (Wk.one (Yg hk))).app ((Ly.w (Sv hqc)).app Ly.RO)))
   cases ps.isEmpty with
   |true=>exact Ly.nil
   |false=>exact Ly.w ((Wk.sg rfl).app (Sv hpc))
  ·show Ly (bR [105] es++[gB [103] its].flatMap (XG (yI n))) (bR [105] es++[gB [103] its].flatMap (vO (wI n)))
   exact (Ly.w (Ew rfl h3 he)).app (Km rfl fun x hx'=>ih x (hx x hx'))
  ·show Ly ([(1,uI)]++(pW e++([gB [116] its].flatMap (XG (yI n))++(bif els.isEmpty then [] else [(1,dR)]++els.flatMap (XG (yI n)))))) ([(1,uI)]++(pW e++([gB [116] its].flatMap (vO (wI n))++(bif els.isEmpty then [] else [(1,dR)]++els.flatMap (vO (wI n))))))
   refine (Ly.key rfl).app ((Ly.w (Rk he)).app ((Km rfl fun x hx'=>ih x (hx x hx')).app ?_))
   rcases hel with rfl|⟨ys,rfl,hyn,hyx⟩
   ·exact Ly.nil
   ·exact (Ly.key rfl).app (Km rfl fun x hx'=>ih x (hyx x hx'))
theorem Zy {nm:G1}(hnm:(1,nm)∈rM){x:D}(h:XD nm x):Ly (yM x) (wM x):=by
 obtain⟨ps,qs,its,rfl,_,_,_,h1,h2,h3⟩:=h
 show Ly ([(1,qV),(1,nm)]++((bif ps.isEmpty then [] else [(3,[35]),(3,[40])]++(lW rJ ps++[(3,[41])]))++([(3,[40])]++(lW kC qs++([(3,[41]),(3,[59]),nl]++(its.flatMap (yI 4)++[(1,mH),nl])))))) ([(1,qV),(1,nm)]++((bif ps.isEmpty then [] else [(3,[35]),(3,[40])]++(lW rJ ps++[(3,[41])]))++([(3,[40])]++(lW kC qs++([(3,[41]),(3,[59])]++(its.flatMap (wI 4)++[(1,mH)]))))))
 refine (Ly.w (Wk.gJ rfl (Wk.one hnm))).app (Ly.app ?_ ((Ly.sg rfl).app ((Ly.w (VE fun x hx=>Sj (.inr (.inr (.inr rfl))) (h2 x hx))).app ((Ly.e (v:=[(3,[41]),(3,[59])]) (Wk.rR rfl (Wk.sg rfl)) (by simp)).app ((Ly.flat fun x hx=>Tu 4 x (h3 x hx)).app (Ly.kn rfl))))))
 cases ps.isEmpty with
 |true=>exact Ly.nil
 |false=>
  refine Ly.w ((Wk.rR rfl (Wk.sg rfl)).app ((VE fun x hx=>?_).app (Wk.sg rfl)))
  obtain⟨nm',e,rfl,hn,he⟩:=h1 x hx
  show Wk ([(1,rL),(1,nm'),(3,[61])]++wE 4 e)
  exact (Wk.gJ rfl (Wk.cons (KI hn) (Wk.sg rfl))).app (k4 he)
theorem Ts {c:D}(h:xC c):aA4 c:=by
 obtain⟨nm,es,rfl,_,hl,he⟩:=h
 exact⟨nm,es,rfl,hl,he⟩
theorem Ge {T:NT}(hT:T=vN∨T=JN∨T=CO∨T=nA){x:D}(h:xN T x)(n:Nat):gI (n+1) x:=by
 obtain⟨nm,ty,q,f,sg,es,fs,rfl,g1,hm,g3,g4,g5,g6,g7,g8⟩:=jG h
 refine⟨1,nm,ty,sg,es,fs,[],[],[],[],[],rfl,⟨by omega,?_,by decide,by decide,by decide,by decide,by decide⟩,by decide,g7,g8,L8,L8,L8,L8,L8⟩
 rcases g6 with rfl|⟨_,h,_⟩
 ·exact C4 _
 ·omega
theorem Ep {n:Nat}{t:G1}{its:List D}(hn:its.length≤2)(h:∀ x∈its,gI n x):gI (n+1) (gB t its):=
 ⟨11,t,[],false,[],[],[],its,[],[],[],rfl,⟨by decide,by decide,by decide,by decide,by decide,by decide,by decide⟩,by omega,L8,L8,L8,h,L8,L8,L8⟩
theorem Vc {x:D}(h:isLeft x):fD 4 x:=fZ (by decide) (uV h)
theorem Wx {P:D→Prop}{x y:D}(hx:P x)(hy:P y):∀ z∈[x,y],P z:=fun z hz=>by
 rcases B7.1 hz with rfl|hz
 ·exact hx
 ·rw [C3.1 hz];exact hy
theorem Tt:∀ (n:Nat) (x:D),xI n x→gI (2*n) x
 |0,_,h=>h.elim
 |n+1,x,h=>by
  have ih:=Tt n
  rcases h with (h|h)|⟨nm,e,rfl,hn,he⟩|⟨nm,rfl,hn⟩|⟨l0,e,rfl,hlf,he⟩|⟨s0,rfl,hs⟩|⟨s0,rfl,hs⟩|⟨sg,es,its,s0,rfl,h2e,he,h1n,h2n,hx,hs⟩|⟨k,ps,qs,rfl,hk,hp,hq,hpc,hqc⟩|⟨es,its,rfl,h3,he,hn,hx⟩|⟨e,its,els,rfl,he,hn,hx,hel⟩
  ·exact Ge (.inl rfl) h _
  ·exact Ge (.inr (.inl rfl)) h _
  ·exact⟨2,nm,oP,false,[e],[],[],[],[],[],[],rfl,⟨by simp,by simp,by simp,by simp,by simp,by simp,by simp⟩,by simp,rK he,L8,L8,L8,L8,L8,L8⟩
  ·exact⟨3,nm,[],false,[],[],[],[],[],[],[],rfl,⟨by simp,by simp,by simp,by simp,by simp,by simp,by simp⟩,by simp,L8,L8,L8,L8,L8,L8,L8⟩
  ·exact⟨4,[],[],false,[l0,e],[],[],[],[],[],[],rfl,⟨by simp,by simp,by simp,by simp,by simp,by simp,by simp⟩,by simp,Wx (Vc hlf) he,L8,L8,L8,L8,L8,L8⟩
  ·exact⟨5,[],[],false,[],[],[s0],[],[],[],[],rfl,⟨by simp,by simp,by simp,by simp,by simp,by simp,by simp⟩,by simp,L8,L8,rK hs,L8,L8,L8,L8⟩
  ·exact⟨6,vZ,[],false,[],[],[s0],[],[],[],[],rfl,⟨by simp,by simp,by simp,by simp,by simp,by simp,by simp⟩,by simp,L8,L8,rK hs,L8,L8,L8,L8⟩
  ·exact⟨7,[102],[],sg,es,[],[s0],its,[],[],[],rfl,⟨by omega,by simp,by simp,by simp,by simp,by simp,by simp⟩,by omega,he,L8,rK hs,fun x h'=>Ge (.inr (.inr (.inl rfl))) (hx x h') _,L8,L8,L8⟩
  ·exact⟨8,[117,48+k],uN,false,[],[],[],[],[],ps,qs,rfl,⟨by simp,by simp,by simp,by simp,by simp,hp,hq⟩,by simp,L8,L8,L8,L8,L8,fun c h=>Ts (hpc c h),fun c h=>Ts (hqc c h)⟩
  ·exact⟨9,[105],[],false,es,[],[],[gB [103] its],[],[],[],rfl,⟨by omega,by simp,by simp,by simp,by simp,by simp,by simp⟩,by simp,he,L8,L8,rK (Ep hn fun x h'=>ih x (hx x h')),L8,L8,L8⟩
  ·rcases hel with rfl|⟨ys,rfl,hyn,hyx⟩
   ·exact⟨10,[],[],false,[e],[],[],[gB [116] its],[],[],[],rfl,⟨by simp,by simp,by simp,by simp,by simp,by simp,by simp⟩,by simp,rK he,L8,L8,rK (Ep hn fun x h'=>ih x (hx x h')),L8,L8,L8⟩
   ·exact⟨10,[],[],false,[e],[],[],[gB [116] its],[gB [101] ys],[],[],rfl,⟨by simp,by simp,by simp,by simp,by simp,by simp,by simp⟩,by simp,rK he,L8,L8,rK (Ep hn fun x h'=>ih x (hx x h')),rK (Ep hyn fun x h'=>ih x (hyx x h')),L8,L8⟩
theorem Zx {x:D}(h:xP x)(n:Nat):gI (n+1) x:=by
 obtain⟨nm,e,rfl,hn,he⟩:=h
 exact⟨2,nm,rL,false,[e],[],[],[],[],[],[],rfl,⟨by simp,by simp,by simp,by simp,by simp,by simp,by simp⟩,by simp,rK he,L8,L8,L8,L8,L8,L8⟩
theorem Ow {ms:List D}(hl:ms.length≤10)(h:∀ m∈ms,∃ nm,nm.length≤100∧XD nm m):U (fun n=>nQ n (.Z 4 ms)) fun r=>∃ ys,r=(true,[.Z 7 ys])∧Rl OM ms ys:=by
 refine U.eq (fun n=>VG n ms) ?_
 refine U.L3 (Q:=fun r=>∃ q ys,r=(false,[.Z 4 ms,.int .i64 (ms.length:Int),.int .i64 q,.Z 7 ys])∧Rl OM ms ys) ?_ (fun ds h=>by obtain⟨_,_,h,_⟩:=h;cases h) fun ds h=>?_
 ·refine CB (xs:=ms) (R:=OM) (T:=fun j acc n=>fQ n (.Z 4 ms) (ms.length:Int) j (.Z 7 acc)) (by omega) (fun j acc hj ha K=>?_) fun acc hr=>?_
  ·refine U.eq (fun n=>xW n ms _ _ _) (U.I0 (E6 (by omega)) (U.I0 (O5 hj) ?_))
   obtain⟨nm,l0,ps,qs,its,e,l1,l2,l3,h1,h2,h3⟩:=h ms[j] (C6 hj)
   rw [bN hj,e]
   rw [e] at K
   refine U.I0 rfl (U.H6 (JA 8 ps (by omega) fun x hx=>Zx (h1 x hx) 7) ?_)
   rintro b ds ⟨ps',h,hps⟩;cases h;refine⟨rfl,?_⟩
   refine U.I0 rfl (U.H6 (JA 8 qs (by omega) fun x hx=>Ge (.inr (.inr (.inr rfl))) (h2 x hx) 7) ?_)
   rintro b ds ⟨qs',h,hqs⟩;cases h;refine⟨rfl,?_⟩
   refine U.I0 rfl (U.H6 (JA 8 its (by omega) fun x hx=>Tt 4 x (h3 x hx)) ?_)
   rintro b ds ⟨its',h,hits⟩;cases h;refine⟨rfl,?_⟩
   refine U.I0 rfl (U.I0 (B2 (by simp only [L7];omega)) ?_)
   exact K (AM nm 0 0 0 ps' qs' its') ⟨nm,0,0,0,ps,qs,its,ps',qs',its',rfl,rfl,by omega,by omega,by omega,by omega,hps,hqs,hits⟩
  ·exact U.eq (fun n=>xW n ms _ _ _) (U.no (E8 (by omega)) (U.ret ⟨_,acc,rfl,hr⟩))
 ·obtain⟨q,ys,h,hr⟩:=h
  cases h
  exact U.I0 rfl (U.ret ⟨ys,rfl,hr⟩)
theorem wC {R:D→D→Prop}{k:Nat}{T:Ty}{F:Nat→D→D→Out}{L:Nat→D→D→D→D→Out}{same:Nat→D→D→Out}{sk I6:Sk}
  (hF:∀ n a0 a1,F (n+1) (.Z k a0) (.Z k a1)=(bif ((a0.length:Int) !=(a1.length:Int)) then (some (true,[(.bool false)])) else (AE.L3 (L n (.Z k a1) (.Z k a0) (.int .i64 (a0.length:Int)) (.int .i64 (0:Int))) fun r1=>bif J3 sk r1 then (some (true,[(.bool true)])) else none)))
  (hL:∀ n a0 a1 a2 a3,L (n+1) (.Z k a0) (.Z k a1) (.int .i64 a2) (.int .i64 a3)=(bif (decide (a3<a2)) then (bif (decide (0≤a3)&&decide (a3<(a1.length:Int))) then (bif L6 T&&Q5 T (a1[a3.toNat]?.getD D.top) then (bif (decide (0≤a3)&&decide (a3<(a0.length:Int))) then (bif L6 T&&Q5 T (a0[a3.toNat]?.getD D.top) then
   (AE.H6 (same n (J6 T (a1[a3.toNat]?.getD D.top)) (J6 T (a0[a3.toNat]?.getD D.top))) fun r1=>bif J3 I6 r1 then (bif (!(Y r1 0).b) then (some (true,[(.bool false)])) else (L n (.Z k a0) (.Z k a1) (.int .i64 a2) (.int .i64 (IntKind.i64.wrap (a3+1))))) else none) else none) else none) else none) else none) else (some (false,[(.Z k a0),(.Z k a1),(.int .i64 a2),(.int .i64 a3)]))))
  (hT:L6 T=true) (hsk:∀ a0 a1 i j,J3 sk [.Z k a0,.Z k a1,.int .i64 i,.int .i64 j]=true) (hosk:∀ b,J3 I6 [.bool b]=true)
  (ht:∀ x y,R x y→J6 T y=y∧Q5 T y=true)
  (hs:∀ x y u v,R x y→R u v→U (fun n=>same n y v) fun r=>∃ b,r=(true,[.bool b])∧(b=true↔x=u))
  {xs ys us vs:List D} (h1:Rl R xs ys) (h2:Rl R us vs) (hl:xs.length≤1000) :
  U (fun n=>F n (.Z k ys) (.Z k vs)) fun r=>∃ b,r=(true,[.bool b])∧(b=true↔xs=us):=by
 refine U.eq (fun n=>hF n ys vs) (U.N9 (fun hne=>U.ret ⟨false,rfl,fun h=>(by cases h),fun h=>?_⟩) fun he=>?_)
 ·subst h
  have e:ys.length=vs.length:=by rw [← h1.1,← h2.1]
  rw [e] at hne
  simp at hne
 ·have he:ys.length=vs.length:=by simp at he;omega
  have hu:xs.length=us.length:=by rw [h1.1,he,h2.1]
  have aux:∀ (m j:Nat),xs.length-j=m→j≤xs.length→U (fun n=>L n (.Z k vs) (.Z k ys) (.int .i64 (ys.length:Int)) (.int .i64 (j:Int))) fun r=>
    (r=(true,[.bool false])∧xs.drop j≠us.drop j)∨(∃ q,r=(false,[.Z k vs,.Z k ys,.int .i64 (ys.length:Int),.int .i64 q])∧xs.drop j=us.drop j):=by
   intro m
   induction m with
   |zero=>
    intro j hm hj
    have hy:=h1.1
    refine U.eq (fun n=>hL n _ _ _ _) (U.no (E8 (by omega)) (U.ret (.inr ⟨_,rfl,?_⟩)))
    rw [D4 (by omega),D4 (by omega)]
   |succ m ih=>
    intro j hm hj
    have hy:=h1.1
    have hv:=h2.1
    have j1:j<xs.length:=by omega
    have j2:j<ys.length:=by omega
    have j3:j<us.length:=by omega
    have j4:j<vs.length:=by omega
    have r1:=h1.2 j j1 j2
    have r2:=h2.2 j j3 j4
    refine U.eq (fun n=>hL n _ _ _ _) (U.I0 (E6 (by omega)) (U.I0 (O5 j2) ?_))
    rw [bN j2,bN j4,(ht _ _ r1).1,(ht _ _ r2).1]
    refine U.I0 (K3 hT (ht _ _ r1).2) (U.I0 (O5 j4) (U.I0 (K3 hT (ht _ _ r2).2) (U.H6 (hs _ _ _ _ r1 r2) ?_)))
    rintro b ds ⟨c,h,hc⟩
    cases h
    refine⟨rfl,U.I0 (hosk c) (U.N9 (fun hn=>U.ret (.inl ⟨rfl,?_⟩)) fun hn=>?_)⟩
    ·have hn:(!c)=true:=hn
     rw [drop_cons j1,drop_cons j3]
     intro e
     have:=hc.2 (List.cons.inj e).1
     rw [this] at hn;cases hn
    ·have hn:(!c)=false:=hn
     have hc':=hc.1 (by simpa using hn)
     have K:=ih (j+1) (by omega) (by omega)
     rw [← P0 (by omega)] at K
     refine K.mono fun r hr=>?_
     rcases hr with ⟨e1,e2⟩|⟨q,e1,e2⟩
     ·exact .inl ⟨e1,fun e=>e2 (by rw [drop_cons j1,drop_cons j3] at e;exact (List.cons.inj e).2)⟩
     ·exact .inr ⟨q,e1,by rw [drop_cons j1,drop_cons j3,hc',e2]⟩
  refine U.L3 (aux xs.length 0 rfl (C4 _)) (fun ds h=>?_) fun ds h=>?_
  ·rcases h with ⟨h,hn⟩|⟨q,h,_⟩
   ·exact⟨false,h,fun h=>(by cases h),fun h=>absurd h (by simpa using hn)⟩
   ·cases h
  ·rcases h with ⟨h,hn⟩|⟨q,h,hn⟩
   ·cases h
   ·cases h
    exact U.I0 (hsk _ _ _ _) (U.ret ⟨true,rfl,fun _=>by simpa using hn,fun _=>rfl⟩)
theorem not_iff {p:Prop}(h:¬ p):(false=true)↔p:=⟨fun h=>(by cases h),fun x=>absurd x h⟩
theorem sC {α:Type}[BEq α][LawfulBEq α]{a b:α}(h:(a==b)=false):a≠b:=fun e=>by subst e;simp at h
theorem Jl {k k':Int}{t t':G1}{xs xs':List D}:E k t xs=E k' t' xs'↔k=k'∧t=t'∧xs=xs':=by simp [E]
theorem Ju {d:Nat}{x y:D}(h:OE d x y):J6 I5 y=y∧Q5 I5 y=true:=by
 obtain⟨k,t,ar,a,b,e,ar',_,rfl⟩:=cD h;exact⟨rfl,rfl⟩
theorem Hd:∀ (d:Nat) (x y u v:D),OE d x y→OE d u v→U (fun n=>jU n y v) fun r=>∃ b,r=(true,[.bool b])∧(b=true↔x=u):=by
 intro d
 induction d with
 |zero=>intro x y u v h;exact h.elim
 |succ d ih=>
  rintro x y u v ⟨k,t,xs,a,b,c,ys,rfl,rfl,hs,ha⟩ ⟨k',t',us,a',b',c',vs,rfl,rfl,hs',ha'⟩
  have hl:=TM hs
  refine U.eq (fun n=>LL n k a b c t ys k' a' b' c' t' vs) ?_
  refine U.N9 (fun e1=>U.N9 (fun e2=>?_) fun e2=>U.ret ⟨false,rfl,not_iff fun e=>sC e2 (Jl.1 e).2.1⟩) fun e1=>U.ret ⟨false,rfl,not_iff fun e=>sC e1 (Jl.1 e).1⟩
  refine U.H6 (wC (R:=OE d) nB kZ rfl (fun _ _ _ _=>rfl) (fun _=>rfl) (fun x y h=>Ju h) ih ha ha' (by omega)) ?_
  rintro _ _ ⟨b,h,hb⟩;cases h
  exact⟨rfl,U.I0 rfl (U.ret ⟨b,rfl,by rw [hb,Jl];exact⟨fun h=>⟨eq_of_beq e1,eq_of_beq e2,h⟩,fun h=>h.2.2⟩⟩)⟩
theorem sS {xs ys us vs:List D}(h1:jI xs ys)(h2:jI us vs):U (fun n=>M1 n (.Z 6 ys) (.Z 6 vs)) fun r=>∃ b,r=(true,[.bool b])∧(b=true↔xs=us):=
 wC (R:=OE 4) nB kZ rfl (fun _ _ _ _=>rfl) (fun _=>rfl) (fun x y h=>Ju h) (Hd 4) h1.2 h2.2 (by have:=h1.1.1;omega)
theorem XK {k k':Int}{t t':G1}{es es' bs bs' zs zs':List D}:S k t es bs zs=S k' t' es' bs' zs'↔k=k'∧t=t'∧es=es'∧bs=bs'∧zs=zs':=by simp [S]
theorem Eb {es es':List D}{k k':Int}{t t':G1}{fs fs' bs bs' zs zs':List D}:arm es (S k t fs bs zs)=arm es' (S k' t' fs' bs' zs')↔es=es'∧S k t fs bs zs=S k' t' fs' bs' zs':=by simp [arm,S,D.cells]
theorem Jw {d:Nat}{x y:D}(h:OS d x y):J6 J5 y=y∧Q5 J5 y=true:=by
 cases d with
 |zero=>exact h.elim
 |succ d=>obtain⟨k,i,j,l,t,es,bs,zs,es',bs',zs',_,rfl,_⟩:=h;exact⟨rfl,rfl⟩
theorem Iu:∀ (d:Nat) (x y u v:D),OS d x y→OS d u v→U (fun n=>fO n y v) fun r=>∃ b,r=(true,[.bool b])∧(b=true↔x=u):=by
 intro d
 induction d with
 |zero=>intro x y u v h;exact h.elim
 |succ d ih=>
  rintro x y u v ⟨k,i,j,l,t,es,bs,zs,es1,bs1,zs1,rfl,rfl,he,lb,lz,hb,hz⟩ ⟨k',i',j',l',t',es',bs',zs',es1',bs1',zs1',rfl,rfl,he',lb',lz',hb',hz'⟩
  refine U.eq (fun n=>LN n k i j l t es1 bs1 zs1 k' i' j' l' t' es1' bs1' zs1') ?_
  refine U.N9 (fun e1=>U.N9 (fun e2=>?_) fun e2=>U.ret ⟨false,rfl,not_iff fun e=>sC e2 (XK.1 e).2.1⟩) fun e1=>U.ret ⟨false,rfl,not_iff fun e=>sC e1 (XK.1 e).1⟩
  refine U.H6 (sS he he') ?_
  rintro _ _ ⟨b,h,h3⟩;cases h
  refine⟨rfl,U.I0 rfl (U.N9 (fun e3=>?_) fun e3=>U.ret ⟨false,rfl,not_iff fun e=>by have:=h3.2 (XK.1 e).2.2.1;subst this;cases e3⟩)⟩
  have e3:=h3.1 e3
  refine U.H6 (wC (R:=OS d) nD lB rfl (fun _ _ _ _=>rfl) (fun _=>rfl) (fun x y h=>Jw h) ih hb hb' (by omega)) ?_
  rintro _ _ ⟨b,h,h4⟩;cases h
  refine⟨rfl,U.I0 rfl (U.N9 (fun e4=>?_) fun e4=>U.ret ⟨false,rfl,not_iff fun e=>by have:=h4.2 (XK.1 e).2.2.2.1;subst this;cases e4⟩)⟩
  have e4:=h4.1 e4
  refine U.H6 (wC (R:=OA (OS d)) vL tE rfl (fun _ _ _ _=>rfl) (fun _=>rfl) (fun x y h=>?_) (fun x y u v h h'=>?_) hz hz' (by omega)) ?_
  ·obtain⟨es,es',k,i,j,l,t,fs,bs,zs,fs',bs',zs',rfl,rfl,_⟩:=h;exact⟨rfl,rfl⟩
  ·obtain⟨es,es1,k,i,j,l,t,fs,bs,zs,fs1,bs1,zs1,rfl,rfl,he,h⟩:=h
   obtain⟨es',es1',k',i',j',l',t',fs',bs',zs',fs1',bs1',zs1',rfl,rfl,he',h'⟩:=h'
   refine U.eq (fun n=>MW n es1 k i j l t fs1 bs1 zs1 es1' k' i' j' l' t' fs1' bs1' zs1') ?_
   refine U.H6 (sS he he') ?_
   rintro _ _ ⟨b,h0,h3⟩;cases h0
   refine⟨rfl,U.I0 rfl (U.N9 (fun e3=>?_) fun e3=>U.ret ⟨false,rfl,not_iff fun e=>by have:=h3.2 (Eb.1 e).1;subst this;cases e3⟩)⟩
   have e3:=h3.1 e3
   refine U.H6 (ih _ _ _ _ h h') ?_
   rintro _ _ ⟨b,h0,h5⟩;cases h0
   exact⟨rfl,U.I0 rfl (U.ret ⟨b,rfl,by rw [h5,Eb];exact⟨fun h=>⟨e3,h⟩,fun h=>h.2⟩⟩)⟩
  ·rintro _ _ ⟨b,h,h5⟩;cases h
   exact⟨rfl,U.I0 rfl (U.ret ⟨b,rfl,by rw [h5,XK];exact⟨fun h=>⟨eq_of_beq e1,eq_of_beq e2,e3,e4,h⟩,fun h=>h.2.2.2.2⟩⟩)⟩
theorem Df {d:Nat}{xs ys us vs:List D}(h1:Rl (OS d) xs ys)(h2:Rl (OS d) us vs)(hl:xs.length≤10):U (fun n=>T0 n (.Z 8 ys) (.Z 8 vs)) fun r=>∃ b,r=(true,[.bool b])∧(b=true↔xs=us):=
 wC (R:=OS d) nD lB rfl (fun _ _ _ _=>rfl) (fun _=>rfl) (fun x y h=>Jw h) (Iu d) h1 h2 (by omega)
theorem Sn {nm nm':G1}{es es':List D}:D.agg [.str nm,.Z 6 es]=D.agg [.str nm',.Z 6 es']↔nm=nm'∧es=es':=by simp
theorem NK {xs ys us vs:List D}(h1:Rl OC xs ys)(h2:Rl OC us vs)(hl:xs.length≤10):U (fun n=>S9 n (.Z 5 ys) (.Z 5 vs)) fun r=>∃ b,r=(true,[.bool b])∧(b=true↔xs=us):=by
 refine wC (R:=OC) uM rX rfl (fun _ _ _ _=>rfl) (fun _=>rfl) (fun x y h=>?_) (fun x y u v h h'=>?_) h1 h2 (by omega)
 ·obtain⟨nm,i,j,l,es,es1,rfl,rfl,_⟩:=h;exact⟨rfl,rfl⟩
 ·obtain⟨nm,i,j,l,es,es1,rfl,rfl,he⟩:=h
  obtain⟨nm',i',j',l',es',es1',rfl,rfl,he'⟩:=h'
  refine U.eq (fun n=>LK n nm i j l es1 nm' i' j' l' es1') ?_
  refine U.N9 (fun e1=>?_) fun e1=>U.ret ⟨false,rfl,not_iff fun e=>sC e1 (Sn.1 e).1⟩
  refine U.H6 (sS he he') ?_
  rintro _ _ ⟨b,h,hb⟩;cases h
  exact⟨rfl,U.I0 rfl (U.ret ⟨b,rfl,by rw [hb,Sn];exact⟨fun h=>⟨eq_of_beq e1,h⟩,fun h=>h.2⟩⟩)⟩
theorem yU {k k':Int}{nm nm' ty ty':G1}{sg sg':Bool}{es es' fs fs' bs bs' its its' els els' ps ps' qs qs':List D}:I k nm ty sg es fs bs its els ps qs=I k' nm' ty' sg' es' fs' bs' its' els' ps' qs'↔
  k=k'∧nm=nm'∧ty=ty'∧sg=sg'∧es=es'∧fs=fs'∧bs=bs'∧its=its'∧els=els'∧ps=ps'∧qs=qs':=by simp [I]
theorem Jv {d:Nat}{x y:D}(h:OI d x y):J6 I4 y=y∧Q5 I4 y=true:=by
 cases d with
 |zero=>exact h.elim
 |succ d=>obtain⟨k,i,j,l,nm,ty,sg,es,fs,bs,its,els,ps,qs,es',fs',bs',its',els',ps',qs',_,rfl,_⟩:=h;exact⟨rfl,rfl⟩
theorem Hl:∀ (d:Nat) (x y u v:D),OI d x y→OI d u v→U (fun n=>jV n y v) fun r=>∃ b,r=(true,[.bool b])∧(b=true↔x=u):=by
 intro d
 induction d with
 |zero=>intro x y u v h;exact h.elim
 |succ d ih=>
  rintro x y u v ⟨k,i,j,l,nm,ty,sg,es,fs,bs,its,els,ps,qs,es1,fs1,bs1,its1,els1,ps1,qs1,rfl,rfl,he,hf,lb,li,ll,lp,lq,hb,hi,hel,hp,hq⟩ ⟨k',i',j',l',nm',ty',sg',es',fs',bs',its',els',ps',qs',es1',fs1',bs1',its1',els1',ps1',qs1',rfl,rfl,he',hf',lb',li',ll',lp',lq',hb',hi',hel',hp',hq'⟩
  have hits:∀ {xs ys us vs:List D},Rl (OI d) xs ys→Rl (OI d) us vs→xs.length≤10→U (fun n=>M5 n (.Z 14 ys) (.Z 14 vs)) fun r=>∃ b,r=(true,[.bool b])∧(b=true↔xs=us):=
   fun h1 h2 hl=>wC (R:=OI d) nC lA rfl (fun _ _ _ _=>rfl) (fun _=>rfl) (fun x y h=>Jv h) ih h1 h2 (by omega)
  have no:¬ (I k nm ty sg es fs bs its els ps qs=I k' nm' ty' sg' es' fs' bs' its' els' ps' qs')→U (fun n=>cF n true fs1 fs1' its1 its1' els1 els1' ps1 ps1' qs1 qs1') fun r=>∃ b,r=(true,[.bool b])∧(b=true↔I k nm ty sg es fs bs its els ps qs=I k' nm' ty' sg' es' fs' bs' its' els' ps' qs'):=
   fun h=>O6 (fun n=>cF.eq_1 n _ _ _ _ _ _ _ _ _ _ _) (U.I0 rfl (U.ret ⟨false,rfl,not_iff h⟩))
  refine U.eq (fun n=>LM n k i j l nm ty sg es1 fs1 bs1 its1 els1 ps1 qs1 k' i' j' l' nm' ty' sg' es1' fs1' bs1' its1' els1' ps1' qs1') ?_
  refine U.N9 (fun e1=>no fun e=>?_) fun e1=>U.N9 (fun e2=>no fun e=>?_) fun e2=>U.N9 (fun e3=>no fun e=>?_) fun e3=>U.N9 (fun e4=>no fun e=>?_) fun e4=>?_
  ·rw [(yU.1 e).1] at e1;simp at e1
  ·rw [(yU.1 e).2.1] at e2;simp at e2
  ·rw [(yU.1 e).2.2.1] at e3;simp at e3
  ·rw [(yU.1 e).2.2.2.1] at e4;simp at e4
  have e1:k=k':=by simpa using e1
  have e2:nm=nm':=by simpa using e2
  have e3:ty=ty':=by simpa using e3
  have e4:sg=sg':=by simpa using e4
  refine U.H6 (sS he he') ?_
  rintro _ _ ⟨b,h,h5⟩;cases h
  refine⟨rfl,U.I0 rfl (U.N9 (fun e5=>no fun e=>?_) fun e5=>?_)⟩
  ·have:=h5.2 (yU.1 e).2.2.2.2.1;subst this;cases e5
  have e5:(!b)=false:=e5
  have e5:=h5.1 (by simpa using e5)
  refine U.H6 (Df hb hb' lb) ?_
  rintro _ _ ⟨b,h,h6⟩;cases h
  refine⟨rfl,U.I0 rfl ?_⟩
  cases b with
  |false=>exact no fun e=>by have:=h6.2 (yU.1 e).2.2.2.2.2.2.1;cases this
  |true=>
   have e6:=h6.1 rfl
   refine O6 (fun n=>cF.eq_1 n _ _ _ _ _ _ _ _ _ _ _) (U.no rfl ?_)
   refine U.H6 (sS hf hf') ?_
   rintro _ _ ⟨b,h,h7⟩;cases h
   refine⟨rfl,U.I0 rfl (U.N9 (fun e7=>?_) fun e7=>U.ret ⟨false,rfl,not_iff fun e=>by have:=h7.2 (yU.1 e).2.2.2.2.2.1;subst this;cases e7⟩)⟩
   have e7:=h7.1 e7
   refine U.H6 (hits hi hi' li) ?_
   rintro _ _ ⟨b,h,h8⟩;cases h
   refine⟨rfl,U.I0 rfl (U.N9 (fun e8=>?_) fun e8=>U.ret ⟨false,rfl,not_iff fun e=>by have:=h8.2 (yU.1 e).2.2.2.2.2.2.2.1;subst this;cases e8⟩)⟩
   have e8:=h8.1 e8
   refine U.H6 (hits hel hel' ll) ?_
   rintro _ _ ⟨b,h,h9⟩;cases h
   refine⟨rfl,U.I0 rfl (U.N9 (fun e9=>?_) fun e9=>U.ret ⟨false,rfl,not_iff fun e=>by have:=h9.2 (yU.1 e).2.2.2.2.2.2.2.2.1;subst this;cases e9⟩)⟩
   have e9:=h9.1 e9
   refine U.H6 (NK hp hp' lp) ?_
   rintro _ _ ⟨b,h,h10⟩;cases h
   refine⟨rfl,U.I0 rfl (U.N9 (fun e10=>?_) fun e10=>U.ret ⟨false,rfl,not_iff fun e=>by have:=h10.2 (yU.1 e).2.2.2.2.2.2.2.2.2.1;subst this;cases e10⟩)⟩
   have e10:=h10.1 e10
   refine U.H6 (NK hq hq' lq) ?_
   rintro _ _ ⟨b,h,h11⟩;cases h
   exact⟨rfl,U.I0 rfl (U.ret ⟨b,rfl,by rw [h11,yU];exact⟨fun h=>⟨e1,e2,e3,e4,e5,e7,e6,e8,e9,e10,h⟩,fun h=>h.2.2.2.2.2.2.2.2.2.2⟩⟩)⟩
theorem EL {d:Nat}{xs ys us vs:List D}(h1:Rl (OI d) xs ys)(h2:Rl (OI d) us vs)(hl:xs.length≤10):U (fun n=>M5 n (.Z 14 ys) (.Z 14 vs)) fun r=>∃ b,r=(true,[.bool b])∧(b=true↔xs=us):=
 wC (R:=OI d) nC lA rfl (fun _ _ _ _=>rfl) (fun _=>rfl) (fun x y h=>Jv h) (Hl d) h1 h2 (by omega)
theorem Dt {nm nm':G1}{ps ps' qs qs' its its':List D}:M nm ps qs its=M nm' ps' qs' its'↔nm=nm'∧ps=ps'∧qs=qs'∧its=its':=by simp [M]
theorem SZ {xs ys us vs:List D}(h1:Rl OM xs ys)(h2:Rl OM us vs)(hl:xs.length≤10):U (fun n=>iZ n (.Z 7 ys) (.Z 7 vs)) fun r=>∃ b,r=(true,[.bool b])∧(b=true↔xs=us):=by
 refine U.eq (fun n=>XS n ys vs) (U.H6 (wC (R:=OM) tF rF rfl (fun _ _ _ _=>rfl) (fun _=>rfl) (fun x y h=>?_) (fun x y u v h h'=>?_) h1 h2 (by omega)) ?_)
 ·obtain⟨nm,i,j,l,ps,qs,its,ps',qs',its',rfl,rfl,_⟩:=h;exact⟨rfl,rfl⟩
 ·obtain⟨nm,i,j,l,ps,qs,its,ps1,qs1,its1,rfl,rfl,_,lp,lq,li,hp,hq,hi⟩:=h
  obtain⟨nm',i',j',l',ps',qs',its',ps1',qs1',its1',rfl,rfl,_,lp',lq',li',hp',hq',hi'⟩:=h'
  refine U.eq (fun n=>FP n nm i j l ps1 qs1 its1 nm' i' j' l' ps1' qs1' its1') ?_
  refine U.N9 (fun e1=>?_) fun e1=>U.ret ⟨false,rfl,not_iff fun e=>sC e1 (Dt.1 e).1⟩
  refine U.H6 (EL hp hp' lp) ?_
  rintro _ _ ⟨b,h,h2⟩;cases h
  refine⟨rfl,U.I0 rfl (U.N9 (fun e2=>?_) fun e2=>U.ret ⟨false,rfl,not_iff fun e=>by have:=h2.2 (Dt.1 e).2.1;subst this;cases e2⟩)⟩
  have e2:=h2.1 e2
  refine U.H6 (EL hq hq' lq) ?_
  rintro _ _ ⟨b,h,h3⟩;cases h
  refine⟨rfl,U.I0 rfl (U.N9 (fun e3=>?_) fun e3=>U.ret ⟨false,rfl,not_iff fun e=>by have:=h3.2 (Dt.1 e).2.2.1;subst this;cases e3⟩)⟩
  have e3:=h3.1 e3
  refine U.H6 (EL hi hi' li) ?_
  rintro _ _ ⟨b,h,h4⟩;cases h
  exact⟨rfl,U.I0 rfl (U.ret ⟨b,rfl,by rw [h4,Dt];exact⟨fun h=>⟨eq_of_beq e1,e2,e3,h⟩,fun h=>h.2.2.2⟩⟩)⟩
 ·rintro _ _ ⟨b,h,hb⟩;cases h
  exact⟨rfl,U.I0 rfl (U.ret ⟨b,rfl,hb⟩)⟩
def Mq (n:Nat):List G1:=(List.range n).map fun k=>[109,48+UInt8.ofNat k]
theorem Qv:∀ k:Nat,k≤8→qQ [109,48+UInt8.ofNat k]=true:=by decide +kernel
theorem Vj:∀ j:Nat,j≤8→∀ k:Nat,k≤8→j<k→(([109,48+UInt8.ofNat j]:G1)==[109,48+UInt8.ofNat k])=false:=by decide +kernel
theorem Er {its:List Tk}:∀ (_:gL its) (f:Bool),(yQ f its).length≤14*its.length:=by
 induction its with
 |nil=>intro _ f;exact C4 _
 |cons p r ih=>
  intro h f
  have hr:gL r:=fun q hq=>h q (C0 _ hq)
  rcases h p (B8 ..) with rfl|hp
  ·have:=ih hr true
   show (10::yQ true r).length≤_
   simp only [A0];omega
  ·have h2:=B6.1 Dj p hp
   simp only [A9] at h2
   have h3:=B3 h2.1
   have:=ih hr false
   rw [show yQ f (p::r)=(bif f then [] else [32])++(p.2++yQ false r) from by rw [yQ,Ga hp];rfl]
   have:(bif f then [] else [32]:G1).length≤1:=by cases f<;>simp
   simp only [A7,A0];omega
theorem VN {nms:List G1}{ms:List D}(hg:Oy nms ms)(hT:∀ nm∈nms,(1,nm)∈rM):Ly (ms.flatMap yM) (ms.flatMap wM):=by
 refine Ly.flat fun x hx=>?_
 obtain⟨k,hk,rfl⟩:=List.getElem_of_mem hx
 have hk':k<nms.length:=by rw [hg.1];exact hk
 exact Zy (hT _ (C6 hk')) (hg.2.1 k hk hk').1
theorem Yb {ts:List D}(h:Pj ts):ts.all WL=true:=B6.2 fun y hy=>by
 obtain⟨k,t,a,b,c,rfl⟩:=h y hy
 rfl
theorem Qe {sk:Sk}{e:Int}{ts:List D}{xs:List D}(h:Pj ts):K8 sk [.agg xs,.int .i64 e,.Z 5 ts]=true:=by simp [K8,Yb h]
theorem Lo {nms:List G1}{ms:List D}(hn:ms.length≤6)(hg:Oy nms ms)(hT:∀ nm∈nms,(1,nm)∈rM)(hw:(ms.flatMap wM).length≤12000)(hq:sQ qM ms≤4000) :
  U (fun n=>nK n (.str (PI (ms.flatMap yM) (true,[])).2)) fun r=>∃ ys ts,Rl OM ms ys∧r=(true,[.Z 7 ys,.Z 5 ts,.agg [.int .i64 0,.int .i64 0,.int .i64 0],.int .i64 0]):=by
 obtain⟨h1,h2,h3⟩:=VN hg hT
 have hl:(PI (ms.flatMap yM) (true,[])).2.length≤900000:=by
  have:=Er h3 true
  rw [JU h3 true [] (fun h=>by cases h)]
  show (yQ true (ms.flatMap yM)).length≤900000
  omega
 obtain⟨ts,hm,hL⟩:=Qo h3 (by rw [h1];exact hw) hl
 rw [h1] at hm
 have ht:=Td hm []
 have hln:=Cl hm
 have hT2:=Fe hm
 have P:=Hh (l:=ts) (by omega) hn hg ht hln.symm hq
 generalize (PI (ms.flatMap yM) (true,[])).2=s at hL
 refine U.eq (fun n=>QZ n s) (U.H6 hL ?_)
 intro _ ds h;cases h
 refine⟨rfl,U.I0 (K3 rfl (Qe hT2)) (U.no rfl (U.H6 P ?_))⟩
 rintro _ ds ⟨ys,hy,h⟩;cases h
 exact⟨rfl,U.I0 rfl (U.ret ⟨ys,ts,hy,rfl⟩)⟩
theorem TU {b:List D}(hb:Bytes b):U (fun n=>iB n (.Z 1 b)) fun r=>∃ b',r=(true,[.Z 1 b'])∧Bytes b'∧b'.length≤300:=by
 refine U.eq (fun n=>OO n b) (U.N9 (fun h=>?_) fun h=>?_)
 ·have h:=E7 h
  refine U.I0 (by rw [E6 (show (300:Int)≤(b.length:Int) by omega)];rfl) (U.ret ⟨_,rfl,?_,?_⟩)
  ·intro x hx
   exact hb x (List.mem_of_mem_drop (List.mem_of_mem_take hx))
  ·rw [D7];exact Nat.min_le_left _ _
 ·have h:=E9 h
  exact U.ret ⟨b,rfl,hb,by omega⟩
theorem VQ (n:Nat):(Mq n).length=n:=by simp [Mq]
theorem MJ {n k:Nat}(h:k<(Mq n).length):(Mq n)[k]=[109,48+UInt8.ofNat k]:=by simp [Mq]
theorem Qt {n:Nat}(hn:n≤9):∀ nm∈Mq n,(1,nm)∈rM:=fun nm h=>by
 obtain⟨k,hk,rfl⟩:=List.mem_map.1 h
 exact Yd (List.mem_map.2 ⟨k,List.mem_range.2 (by have:=List.mem_range.1 hk;omega),rfl⟩)
theorem Zt {ms:List D}(hn:ms.length≤3)(h:Bb ms):Oy (Mq ms.length) ms:=by
 refine⟨VQ _,fun k hk hk'=>?_,fun j k hj hk hjk=>?_⟩
 ·rw [MJ]
  exact⟨h k hk,Qv k (by omega)⟩
 ·rw [MJ,MJ]
  rw [VQ] at hj hk
  exact Vj j (by omega) k (by omega) hjk
theorem Zr {ms:List D}(hn:ms.length≤3)(h:Bb ms):aD1 (Mq ms.length) ms:=by
 refine⟨VQ _,fun k hk hk'=>?_⟩
 rw [MJ]
 exact⟨h k hk,Qs k (by omega)⟩
def vR (x:D):D:=Ol x 0 (.str ((x.at_ 0).s++[122]))
def Zs (ys w:List D)(j:Nat):Prop:=w.length=ys.length∧∀ (i:Nat) (h:i<ys.length) (h':i<w.length),w[i]=bif Nat.ble (i+1) j then vR ys[i] else ys[i]
theorem aA0 {xs ys:List D}(hn:ys.length≤10)(hO:∀ (i:Nat) (h:i<ys.length),∃ nm k j l ps qs its,ys[i]=AM nm k j l ps qs its∧nm.length≤100):∀ (m j:Nat) (w:List D),ys.length-j=m→j≤ys.length→Zs ys w j→
  U (fun n=>Z3 n (ys.length:Int) (j:Int) (.Z 7 xs) (.Z 7 w)) fun r=>∃ w',r=(false,[.int .i64 (ys.length:Int),.int .i64 (ys.length:Int),.Z 7 xs,.Z 7 w'])∧Zs ys w' ys.length:=by
 intro m
 induction m with
 |zero=>
  intro j w hm hj hw
  have:j=ys.length:=by omega
  subst this
  exact U.eq (fun n=>oM n _ _ _ _) (U.no (E8 (by omega)) (U.ret ⟨w,rfl,hw⟩))
 |succ m ih=>
  intro j w hm hj hw
  have hlt:j<ys.length:=by omega
  have hlw:j<w.length:=by rw [hw.1];exact hlt
  have e:=hw.2 j hlt hlw
  rw [show Nat.ble (j+1) j=false from by cases h:Nat.ble (j+1) j with|false=>rfl|true=>have:=B3 h;omega] at e
  obtain⟨nm,k,j',l,ps,qs,its,e2,hl⟩:=hO j hlt
  have e:w[j]=AM nm k j' l ps qs its:=e.trans e2
  refine U.eq (fun n=>oM n _ _ _ _) (U.I0 (E6 (by omega)) (U.I0 (O5 hlw) ?_))
  rw [bN hlw,e]
  refine U.I0 rfl (U.I0 rfl (U.I0 (E6 (by show nm.length+1≤W0;simp only [W0];omega)) (U.I0 (O5 hlw) (U.I0 rfl ?_))))
  rw [P0 (by omega)]
  refine ih (j+1) _ (by omega) (by omega) ⟨?_,fun i h h'=>?_⟩
  ·rw [List.length_set];exact hw.1
  ·by_cases hij:i=j
   ·subst hij
    rw [show Nat.ble (i+1) (i+1)=true from B2 (B9 _),e2]
    show (w.set ((i:Int).toNat) (AM (nm++[122]) k j' l ps qs its))[i]=AM (nm++[122]) k j' l ps qs its
    simp
   ·have h'':i<w.length:=by rw [hw.1];exact h
    have h1:=hw.2 i h h''
    have h2:Nat.ble (i+1) (j+1)=Nat.ble (i+1) j:=by
     cases h3:Nat.ble (i+1) j with
     |true=>exact B2 (by have:=B3 h3;omega)
     |false=>
      cases h4:Nat.ble (i+1) (j+1) with
      |false=>rfl
      |true=>
       have:=B3 h4
       have h5:Nat.ble (i+1) j=true:=B2 (by omega)
       rw [h3] at h5;cases h5
    rw [h2,← h1]
    exact List.getElem_set_ne (by show ((j:Int)).toNat≠i;rw [E1];omega) _
theorem Xp {ms ys w:List D}(h:Rl OM ms ys)(hn:∀ x∈ms,∃ nm,nm.length≤100∧XD nm x)(hw:Zs ys w ys.length):Rl OM (ms.map vR) w:=by
 refine⟨by rw [List.length_map,hw.1,h.1],fun i hi hi'=>?_⟩
 have hi1:i<ms.length:=by rw [List.length_map] at hi;exact hi
 have hi2:i<ys.length:=by rw [← h.1];exact hi1
 have e:=hw.2 i hi2 hi'
 rw [show Nat.ble (i+1) ys.length=true from B2 hi2] at e
 rw [e,List.getElem_map]
 obtain⟨nm0,hl,ps0,qs0,its0,e0,_⟩:=hn _ (C6 hi1)
 obtain⟨nm,k,j,l,ps,qs,its,ps',qs',its',e1,e2,_,h2,h3,h4,h5,h6,h7⟩:=h.2 i hi1 hi2
 rw [e1] at e0
 cases e0
 show OM (vR ms[i]) (vR ys[i])
 rw [e1,e2]
 exact⟨nm0++[122],k,j,l,ps0,qs0,its0,ps',qs',its',rfl,rfl,by rw [A7,C9];omega,h2,h3,h4,h5,h6,h7⟩
theorem Pl {nm:G1}{x:D}(h:XD nm x):XD (nm++[122]) (vR x):=by
 obtain⟨ps,qs,its,rfl,h⟩:=h
 exact⟨ps,qs,its,rfl,h⟩
theorem aD0 {nm:G1}{x:D}(h:XD nm x):(wM (vR x)).length=(wM x).length:=by
 obtain⟨ps,qs,its,rfl,_⟩:=h
 show (mW (nm++[122]) ps qs its).length=(mW nm ps qs its).length
 unfold mW
 simp only [G0]
theorem aC3 {nm:G1}{x:D}(h:XD nm x):qM (vR x)=qM x:=by
 obtain⟨ps,qs,its,rfl,_⟩:=h
 rfl
theorem Gd:∀ {ms:List D},(∀ x∈ms,∃ nm,XD nm x)→((ms.map vR).flatMap wM).length=(ms.flatMap wM).length∧sQ qM (ms.map vR)=sQ qM ms
 |[],_=>⟨rfl,rfl⟩
 |x::ms,h=>by
  obtain⟨nm,hx⟩:=h x (B8 ..)
  obtain⟨h1,h2⟩:=Gd (ms:=ms) fun y hy=>h y (C0 _ hy)
  refine⟨?_,?_⟩
  ·rw [List.map_cons,D9,D9,A7,A7,aD0 hx,h1]
  ·show qM (vR x)+sQ qM (ms.map vR)=qM x+sQ qM ms
   rw [aC3 hx,h2]
theorem Nt {q:D→Nat}:∀ (xs ys:List D),sQ q (xs++ys)=sQ q xs+sQ q ys
 |[],_=>by simp [sQ]
 |x::xs,ys=>by show q x+sQ q (xs++ys)=q x+sQ q xs+sQ q ys;rw [Nt xs ys];omega
theorem Dk (v:List Tk):∀ (u:List Tk) (f:Bool),yQ f (u++nl::v)=yQ f (u++[nl])++yQ true v
 |[],f=>by show 10::yQ true v=[10]++yQ true v;rfl
 |p::u,f=>by
  have e:∀ z,yQ f (p::z)=bif p.1==9 then 10::yQ true z else ((bif f then [] else [32])++(p.2++yQ false z)):=fun z=>by rw [yQ]
  show yQ f (p::(u++nl::v))=yQ f (p::(u++[nl]))++_
  rw [e,e,Dk v u true,Dk v u false]
  cases p.1==9 with
  |true=>rfl
  |false=>simp only [cond_false,C1]
theorem Zz {nm:G1}{x:D}(h:XD nm x):∃ u,yM x=u++[nl]:=by
 obtain⟨ps,qs,its,rfl,_⟩:=h
 refine⟨[(1,qV),(1,nm)]++((bif ps.isEmpty then [] else [(3,[35]),(3,[40])]++(lW rJ ps++[(3,[41])]))++([(3,[40])]++(lW kC qs++([(3,[41]),(3,[59]),nl]++(its.flatMap (yI 4)++[(1,mH)]))))),?_⟩
 show [(1,qV),(1,nm)]++((bif ps.isEmpty then [] else [(3,[35]),(3,[40])]++(lW rJ ps++[(3,[41])]))++([(3,[40])]++(lW kC qs++([(3,[41]),(3,[59]),nl]++(its.flatMap (yI 4)++([(1,mH)]++[nl]))))))=_
 simp only [C1]
theorem Fc:∀ {ms:List D},ms≠[]→(∀ x∈ms,∃ nm,XD nm x)→∃ u,ms.flatMap yM=u++[nl]
 |[],h,_=>absurd rfl h
 |[x],_,h=>by
  obtain⟨nm,hx⟩:=h x (B8 ..)
  obtain⟨u,e⟩:=Zz hx
  exact⟨u,by rw [D9,e];rw [List.flatMap_nil,D5]⟩
 |x::y::ms,_,h=>by
  obtain⟨u,e⟩:=Fc (ms:=y::ms) (by simp) fun z hz=>h z (C0 _ hz)
  exact⟨yM x++u,by rw [D9,e,C1]⟩
theorem Og {ms ns:List D}(h1:gL (ms.flatMap yM))(h2:gL (ns.flatMap yM))(hne:ms≠[])(hx:∀ x∈ms,∃ nm,XD nm x) :
  (PI (ms.flatMap yM) (true,[])).2++(PI (ns.flatMap yM) (true,[])).2=(PI ((ms++ns).flatMap yM) (true,[])).2:=by
 have h3:gL ((ms++ns).flatMap yM):=by
  rw [List.flatMap_append];exact fun p hp=>(D3.1 hp).elim (h1 p) (h2 p)
 rw [JU h1 true [] (fun h=>by cases h),JU h2 true [] (fun h=>by cases h),JU h3 true [] (fun h=>by cases h)]
 show yQ true (ms.flatMap yM)++yQ true (ns.flatMap yM)=yQ true ((ms++ns).flatMap yM)
 obtain⟨u,e⟩:=Fc hne hx
 rw [List.flatMap_append,e,C1]
 exact (Dk _ u true).symm
theorem Qc {nms nms':List G1}{ms ms':List D}(h:Oy nms ms)(h':Oy nms' ms')(hd:∀ a∈nms,∀ b∈nms',(a==b)=false):Oy (nms++nms') (ms++ms'):=by
 refine⟨by rw [A7,A7,h.1,h'.1],fun k hk hk'=>?_,fun j k hj hk hjk=>?_⟩
 ·by_cases hl:k<nms.length
  ·have hl2:k<ms.length:=by rw [← h.1];exact hl
   rw [F6 hl,F6 hl2]
   exact h.2.1 k hl2 hl
  ·have e:=h.1
   rw [List.getElem_append_right (by omega),List.getElem_append_right (by omega)]
   simp only [e]
   rw [A7] at hk hk'
   have h9:=h'.1
   exact h'.2.1 (k-ms.length) (by omega) (by omega)
 ·rw [A7] at hj hk
  by_cases hl:k<nms.length
  ·rw [F6 hl,F6 (by omega)]
   exact h.2.2 j k (by omega) hl hjk
  ·by_cases hl2:j<nms.length
   ·rw [F6 hl2,List.getElem_append_right (by omega)]
    exact hd _ (C6 hl2) _ (C6 _)
   ·rw [List.getElem_append_right (by omega),List.getElem_append_right (by omega)]
    exact h'.2.2 (j-nms.length) (k-nms.length) (by omega) (by omega) (by omega)
def Mr (n:Nat):List G1:=(List.range n).map fun k=>[109,48+UInt8.ofNat k,122]
theorem Qy:∀ k:Nat,k≤8→qQ [109,48+UInt8.ofNat k,122]=true:=by decide +kernel
theorem Yq:∀ k:Nat,k≤8→gw [109,48+UInt8.ofNat k,122]:=by decide +kernel
theorem Vp:∀ j:Nat,j≤8→∀ k:Nat,k≤8→j<k→(([109,48+UInt8.ofNat j,122]:G1)==[109,48+UInt8.ofNat k,122])=false:=by decide +kernel
theorem HI (n:Nat):(Mr n).length=n:=by simp [Mr]
theorem MK {n k:Nat}(h:k<(Mr n).length):(Mr n)[k]=[109,48+UInt8.ofNat k,122]:=by simp [Mr]
theorem Qu {n:Nat}(hn:n≤9):∀ nm∈Mr n,(1,nm)∈rM:=fun nm h=>by
 obtain⟨k,hk,rfl⟩:=List.mem_map.1 h
 exact Ye (List.mem_map.2 ⟨k,List.mem_range.2 (by have:=List.mem_range.1 hk;omega),rfl⟩)
theorem Xn {m n:Nat}:∀ a∈Mq m,∀ b∈Mr n,(a==b)=false:=fun a ha b hb=>by
 obtain⟨j,_,rfl⟩:=List.mem_map.1 ha
 obtain⟨k,_,rfl⟩:=List.mem_map.1 hb
 exact F4.2 fun e=>by have:=congrArg List.length e;simp at this
theorem Ov {ms:List D}(h:Bb ms){k:Nat}(hk:k<(ms.map vR).length):XD [109,48+UInt8.ofNat k,122] (ms.map vR)[k]:=by
 have hk':k<ms.length:=by rw [List.length_map] at hk;exact hk
 rw [List.getElem_map]
 exact Pl (nm:=[109,48+UInt8.ofNat k]) (h k hk')
theorem Zv {ms:List D}(hn:ms.length≤3)(h:Bb ms):Oy (Mr ms.length) (ms.map vR):=by
 refine⟨by rw [HI,List.length_map],fun k hk hk'=>?_,fun j k hj hk hjk=>?_⟩
 ·rw [MK]
  rw [HI] at hk'
  exact⟨Ov h hk,Qy k (by omega)⟩
 ·rw [MK,MK]
  rw [HI] at hj hk
  exact Vp j (by omega) k (by omega) hjk
theorem Zu {ms:List D}(hn:ms.length≤3)(h:Bb ms):aD1 (Mr ms.length) (ms.map vR):=by
 refine⟨by rw [HI,List.length_map],fun k hk hk'=>?_⟩
 rw [MK]
 rw [HI] at hk'
 exact⟨Ov h hk,Yq k (by omega)⟩
theorem XE {ms:List D}(h:Bb ms):∀ x∈ms,∃ nm,nm.length≤100∧XD nm x:=fun x hx=>by
 obtain⟨k,hk,rfl⟩:=List.getElem_of_mem hx
 exact⟨_,by simp,h k hk⟩
theorem Sf {ms:List D}(h:∀ x∈ms,∃ nm,nm.length≤100∧XD nm x):(ms.flatMap wM).length+2*sQ qM ms≤sL vM ms:=by
 rw [← xK vM ms]
 exact Aj fun x hx=>by
  obtain⟨nm,_,hx⟩:=h x hx
  exact aC8 hx
theorem ZS {b:List D}(hb:Bytes b)(hl:b.length≤300):U (fun n=>jX n (.Z 1 b)) fun r=>∃ ms ys,r=(true,[.Z 7 ys])∧ms≠[]∧ms.length≤3∧Bb ms∧(ms.flatMap wM).length+2*sQ qM ms≤5193∧Rl OM ms ys:=by
 refine U.eq (fun n=>QY n b) (U.H6 (Ms hb hl) ?_)
 rintro _ _ ⟨ms,h,hne,hn,hx,hs⟩;cases h
 refine⟨rfl,U.I0 rfl (U.H6 (Ow (ms:=ms) (by omega) (XE hx)) ?_)⟩
 rintro _ _ ⟨ys,h,hO⟩;cases h
 exact⟨rfl,U.I0 rfl (U.ret ⟨ms,ys,rfl,hne,hn,hx,Nat.le_trans (Sf (XE hx)) hs,hO⟩)⟩
theorem Pf {R:D→D→Prop}{xs us ys:List D}(h:Rl R (xs++us) ys):Rl R xs (ys.take xs.length):=by
 have e:=h.1
 rw [A7] at e
 refine⟨by rw [D7];omega,fun i hi hi'=>?_⟩
 have:=h.2 i (by rw [A7];omega) (by omega)
 rw [F6 hi] at this
 rw [List.getElem_take]
 exact this
theorem Ka {R:D→D→Prop}{xs us ys:List D}(h:Rl R (xs++us) ys):Rl R us (ys.drop xs.length):=by
 have e:=h.1
 rw [A7] at e
 refine⟨by rw [F9];omega,fun i hi hi'=>?_⟩
 have:=h.2 (xs.length+i) (by rw [A7];omega) (by omega)
 rw [List.getElem_append_right (by omega)] at this
 rw [List.getElem_drop]
 simpa using this
theorem Dw {its:List Tk}(h:gL its):(PI its (true,[])).2.length≤14*its.length:=by
 rw [JU h true [] (fun h=>by cases h)]
 exact Er h true
set_option maxHeartbeats 1000000 in
theorem JJ {b1 b2:List D}(hb1:Bytes b1)(hb2:Bytes b2):U (fun n=>dY n (.Z 1 b1) (.Z 1 b2)) fun r=>r=(true,[.bool true]):=by
 refine U.eq (fun n=>CQ n b1 b2) (U.H6 Pn ?_)
 intro _ _ h;cases h
 refine⟨rfl,U.I0 rfl (U.no rfl (U.H6 (TU hb1) ?_))⟩
 rintro _ _ ⟨b1',h,hb1',hl1⟩;cases h
 refine⟨rfl,U.I0 rfl (U.H6 (ZS hb1' hl1) ?_)⟩
 rintro _ _ ⟨ms,ys,h,hne,hn,hx,hw,hO⟩;cases h
 refine⟨rfl,U.I0 rfl (U.H6 (TU hb2) ?_)⟩
 rintro _ _ ⟨b2',h,hb2',hl2⟩;cases h
 refine⟨rfl,U.I0 rfl (U.H6 (ZS hb2' hl2) ?_)⟩
 rintro _ _ ⟨ns,zs,h,hne2,hn2,hx2,hw2,hO2⟩;cases h
 have hex:=XE hx
 have hex2:=XE hx2
 have hOn:∀ (i:Nat) (h:i<zs.length),∃ nm k j l ps qs its,zs[i]=AM nm k j l ps qs its∧nm.length≤100:=by
  intro i h
  have hi:i<ns.length:=by rw [hO2.1];exact h
  obtain⟨nm0,hl,ps0,qs0,its0,e0,_⟩:=hex2 _ (C6 hi)
  obtain⟨nm,k,j,l,ps,qs,its,ps',qs',its',e1,e2,_⟩:=hO2.2 i hi h
  rw [e1] at e0
  cases e0
  exact⟨_,_,_,_,_,_,_,e2,hl⟩
 have hz0:Zs zs zs 0:=⟨rfl,fun i h h'=>rfl⟩
 have hlen2:=hO2.1
 refine⟨rfl,U.I0 rfl (U.L3 (aA0 (xs:=ys) (by omega) hOn zs.length 0 zs (by omega) (by omega) hz0) (fun ds h=>by obtain⟨_,h,_⟩:=h;cases h) fun ds h=>?_)⟩
 obtain⟨w,h,hzw⟩:=h
 cases h
 have hOz:=Xp hO2 hex2 hzw
 have hg:=Zt hn hx
 have hgz:=Zv hn2 hx2
 have hG:=Qc hg hgz Xn
 have hT1:=Qt (n:=ms.length) (by omega)
 have hT2:=Qu (n:=ns.length) (by omega)
 have hT:∀ nm∈Mq ms.length++Mr ns.length,(1,nm)∈rM:=fun nm h=>(D3.1 h).elim (hT1 nm) (hT2 nm)
 have ly1:=VN hg hT1
 have ly2:=VN hgz hT2
 obtain⟨wz,qz⟩:=Gd (ms:=ns) fun x hx=>by obtain⟨nm,_,h⟩:=hex2 x hx;exact⟨nm,h⟩
 have q1:=To hg
 have q2:=To hgz
 have l1:=ly1.2.1
 have l2:=ly2.2.1
 have t1:=Dw ly1.2.2
 have t2:=Dw ly2.2.2
 have T1:=Ag (by omega) (Zr hn hx) hO (by omega)
 have T2:=Ag (ms:=ns.map vR) (by rw [List.length_map];omega) (Zu hn2 hx2) hOz (by omega)
 have hlm:(ms++ns.map vR).length=ms.length+ns.length:=by rw [A7,List.length_map]
 have R:=Lo (nms:=Mq ms.length++Mr ns.length) (ms:=ms++ns.map vR) (by omega) hG hT (by rw [List.flatMap_append,A7];omega) (by rw [Nt];omega)
 rw [← Og ly1.2.2 ly2.2.2 hne fun x hx=>by obtain⟨nm,_,h⟩:=hex x hx;exact⟨nm,h⟩] at R
 clear ly1 ly2
 generalize (PI (ms.flatMap yM) (true,[])).2=s1 at T1 R t1
 generalize (PI ((ns.map vR).flatMap yM) (true,[])).2=s2 at T2 R t2
 have e1:=hO.1
 have e2:=hOz.1
 rw [List.length_map] at e2
 refine U.I0 rfl (U.H6 T1 ?_)
 intro _ _ h;cases h
 refine⟨rfl,U.I0 rfl (U.H6 T2 ?_)⟩
 intro _ _ h;cases h
 refine⟨rfl,U.I0 rfl (U.I0 (E6 (by show s1.length+s2.length≤W0;simp only [W0];omega)) (U.H6 R ?_))⟩
 rintro _ _ ⟨us,ts,hOu,h⟩;cases h
 have e3:=hOu.1
 rw [hlm] at e3
 have A:=Pf hOu
 have B:=Ka hOu
 refine⟨rfl,U.I0 rfl (U.I0 rfl (U.I0 ?_ (U.I0 ?_ (U.H6 (Q:=fun r=>r=(true,[.bool true])) ?_ ?_))))⟩
 ·show ((us.length:Int)==IntKind.i64.wrap ((ys.length:Int)+(w.length:Int)))=true
  rw [Q3 (by omega) (by omega)]
  exact beq_iff_eq.2 (by omega)
 ·show (true&&decide (0≤(ys.length:Int))&&decide ((ys.length:Int)≤(us.length:Int)))=true
  rw [E6 (by omega),E6 (by omega)];rfl
 ·show U (fun n=>iZ n (.Z 7 ((us.drop 0).take ((ys.length:Int).toNat-0))) (.Z 7 ys)) _
  rw [List.drop_zero,E1,Nat.sub_zero,← e1]
  refine (SZ A hO (by omega)).mono ?_
  rintro _ ⟨b,rfl,hb⟩
  rw [hb.2 rfl]
 intro _ _ h;cases h
 refine⟨rfl,U.I0 rfl (U.I0 rfl (U.I0 ?_ (U.H6 (Q:=fun r=>r=(true,[.bool true])) ?_ ?_)))⟩
 ·show (decide (0≤(ys.length:Int))&&decide ((ys.length:Int)≤(us.length:Int))&&decide ((us.length:Int)≤(us.length:Int)))=true
  rw [E6 (by omega),E6 (by omega),E6 (by omega)];rfl
 ·show U (fun n=>iZ n (.Z 7 ((us.drop (ys.length:Int).toNat).take ((us.length:Int).toNat-(ys.length:Int).toNat))) (.Z 7 w)) _
  rw [E1,E1,List.take_of_length_le (by rw [F9];omega),← e1]
  refine (SZ B hOz (by rw [List.length_map];omega)).mono ?_
  rintro _ ⟨b,rfl,hb⟩
  rw [hb.2 rfl]
 intro _ _ h;cases h
 exact⟨rfl,U.I0 rfl (U.ret rfl)⟩
end Go.Proofs.YtalibicpmfbieaaGreatDoor
