import Derived.Test.YtalibicpmfbieaaGreatDoorYqT
import Derived.Test.YtalibicpmfbieaaGreatDoorM2
namespace Go.Proofs.YtalibicpmfbieaaGreatDoor
open Go.AE
set_option linter.all false
inductive Pw:Int×Int→Zt→List D→Prop
 |nil {p bl}:(∀ b∈bl,W5 b=true)→Pw p bl []
 |cons {p k bl w rest ts}:(∀ b∈bl,W5 b=true)→Wd w k→Lf rest→Pw (mv (mv p bl) w) rest ts→Pw p (bl++(w++rest)) (Fg k w 1 (mv p bl).1 (mv p bl).2::ts)
theorem Kc {bl:Zt}(h:∀ b∈bl,W5 b=true):Q4 W5 bl=bl.length:=by
 have:=pG (r:=[]) h
 rw [Za] at this
 exact this
theorem Qe:∀ {q:Int×Int} {s:Zt} {ts:List D},Pw q s ts→∀ (x:Zt) (p0 p1 p2:Int) (out:List D),Room q s.length→out.length+ts.length≤12000→
  U (fun n=>aJ n (0:Int) (.Z 5 out) (.Z 5 []) (0:Int) (0:Int) (0:Int) (.str s) (1:Int) (.int .i64 q.1) (.int .i64 q.2) (.str x) p0 p1 p2 (.bool false)) fun r=>r=xV none out ts:=by
 intro q s ts h
 induction h with
 |@nil q bl hbl=>
  intro x p0 p1 p2 out hr hl
  have hr0:=hr
  obtain⟨r1,r2,r3,r4⟩:=hr
  have hsp:=Kc hbl
  have hs1:=ML (s:=bl) (k:=bl.length) (Yj _) x p0 p1 p2 1 hr0
  rw [List.take_length,List.drop_length] at hs1
  refine U.eq (fun n=>uR n _ _ _ _ _ _ _ _ _ _ _ _ _ _ _) (U.A0 (Cc (by omega)) ?_)
  rw [hsp]
  intro _ _ h;cases h
  refine⟨rfl,U.Xu rfl (U.A0 hs1 ?_)⟩
  intro _ _ h;cases h
  exact⟨rfl,U.Xu rfl (U.Xu rfl (U.ret (by simp [xV])))⟩
 |@cons q k bl w rest ts hbl hW hg _ ih=>
  intro x p0 p1 p2 out hr hl
  have hlen:(bl++(w++rest)).length=bl.length+(w.length+rest.length):=by simp only [Xx]
  have hr0:=hr
  obtain⟨r1,r2,r3,r4⟩:=hr0
  rw [hlen] at r3
  have hw1:1≤w.length:=List.length_pos_iff.2 hW.ne
  have hsp:Q4 W5 (bl++(w++rest))=bl.length:=by rw [pG hbl,Kd hW];omega
  have hr2:Room (mv q bl) (w++rest).length:=TJ (s:=bl) (m:=(w++rest).length) (by rw [Nat.add_comm,← Xx];exact hr)
  have hr3:Room (mv (mv q bl) w) rest.length:=TJ (s:=w) (m:=rest.length) (by rw [Nat.add_comm,← Xx];exact hr2)
  have hz:(w++rest==[])=false:=by
   cases hw:w with
   |nil=>exact absurd hw hW.ne
   |cons _ _=>rfl
  have hs1:U (fun n=>Z6 n (bl.length:Int) (.str x) p0 p1 p2 (.bool false) (1:Int) (.int .i64 q.1) (.int .i64 q.2) (.str (bl++(w++rest)))) fun r=>
    r=(true,[.str x,.int .i64 p0,.int .i64 p1,.int .i64 p2,.bool false,.int .i64 1,.int .i64 (mv q bl).1,.int .i64 (mv q bl).2,.str (w++rest)]):=by
   have h:=ML (s:=bl++(w++rest)) (k:=bl.length) (by rw [hlen];omega) x p0 p1 p2 1 hr
   rw [List.take_left,List.drop_left] at h
   exact h
  have hs2:U (fun n=>Z6 n (w.length:Int) (.str x) p0 p1 p2 (.bool false) (1:Int) (.int .i64 (mv q bl).1) (.int .i64 (mv q bl).2) (.str (w++rest))) fun r=>
    r=(true,[.str x,.int .i64 p0,.int .i64 p1,.int .i64 p2,.bool false,.int .i64 1,.int .i64 (mv (mv q bl) w).1,.int .i64 (mv (mv q bl) w).2,.str rest]):=by
   have h:=ML (s:=w++rest) (k:=w.length) (by rw [Xx];omega) x p0 p1 p2 1 hr2
   rw [List.take_left,List.drop_left] at h
   exact h
  simp only [Xw] at hl
  refine U.eq (fun n=>uR n _ _ _ _ _ _ _ _ _ _ _ _ _ _ _) (U.A0 (Cc (by rw [hlen];omega)) ?_)
  rw [hsp]
  intro _ _ h;cases h
  refine⟨rfl,U.Xu rfl (U.A0 hs1 ?_)⟩
  intro _ _ h;cases h
  refine⟨rfl,U.Xu rfl (U.no hz (U.A0 (hW.go rest hg (by rw [Xx];omega)) ?_))⟩
  intro _ _ h;cases h
  refine⟨rfl,U.Xu rfl (U.Xu rfl (U.no ?_ (U.no rfl (U.Xu (C6 (C6 rfl (Zi ?_)) (Zi ?_)) (U.Xu (Yc (by simp only [D8];omega)) (U.A0 hs2 ?_))))))⟩
  ·have:(out.length:Int)≠12000:=by omega
   simpa using this
  ·show (0:Int)≤(w.length:Int);omega
  ·show (w.length:Int)≤((w++rest).length:Int);rw [Xx];omega
  intro _ _ h;cases h
  refine⟨rfl,U.Xu rfl ?_⟩
  have hwt:(((w++rest).drop 0).take (((w.length:Nat):Int).toNat-0))=w:=by rw [List.drop_zero,Zf,Nat.sub_zero,List.take_left]
  have hi:=ih x p0 p1 p2 (out++[Fg k w 1 (mv q bl).1 (mv q bl).2]) hr3 (by simp only [Xx,Yu];omega)
  show U (fun n=>aJ n (0:Int) (.Z 5 (out++[.agg [.int .i64 k,.str (((w++rest).drop 0).take (((w.length:Nat):Int).toNat-0)),.int .i64 1,.int .i64 (mv q bl).1,.int .i64 (mv q bl).2]])) (.Z 5 []) (0:Int) (0:Int) (0:Int) (.str rest) (1:Int) (.int .i64 (mv (mv q bl) w).1) (.int .i64 (mv (mv q bl) w).2) (.str x) p0 p1 p2 (.bool false)) _
  rw [hwt]
  refine hi.mono fun r hr=>?_
  rw [hr];simp [xV]
theorem Cu {s:Zt}{ts:List D}(hs:s.length≤900000)(ht:ts.length≤12000)(ha:Pw (1,1) s ts):U (fun n=>nF n (.Z 5 [.agg [.str s,.int .i64 1,.int .i64 1,.int .i64 1,.bool false]])) fun r=>r=TS 0 0 0 0 ts:=by
 have hp:U (fun n=>jG n (.agg [.str s,.int .i64 1,.int .i64 1,.int .i64 1,.bool false]) (.Z 5 [])) fun r=>r=TS 0 0 0 0 ts:=by
  refine U.eq (fun n=>SC n _ _ _ _ _ _) (U.D4 (Qe ha s 1 1 1 [] ⟨Int.le_refl _,Int.le_refl _,by show (1:Int)+_≤_;omega,by show (1:Int)+_≤_;omega⟩ (by simpa using ht)) (fun ds h=>?_) fun ds h=>?_)
  ·rw [h];simp [xV,TS]
  ·cases h
 refine U.eq (fun n=>YX n _) ?_
 have loop:U (fun n=>gD n (.Z 5 [.agg [.str s,.int .i64 1,.int .i64 1,.int .i64 1,.bool false]]) (1:Int) (0:Int) (0:Int) (0:Int) (0:Int) (.Z 5 [])) fun r=>
   r=(false,[.Z 5 [.agg [.str s,.int .i64 1,.int .i64 1,.int .i64 1,.bool false]],.int .i64 1,.int .i64 1,.int .i64 0,.int .i64 0,.int .i64 0,.Z 5 ts]):=by
  refine U.eq (fun n=>zT n _ _ _ _ _ _ _) (U.Xu rfl (U.Xu rfl (U.Xu rfl (U.A0 hp ?_))))
  intro _ _ h;cases h
  exact⟨rfl,U.Xu rfl (U.no rfl (U.eq (fun n=>zT n _ _ _ _ _ _ _) (U.no rfl (U.ret rfl))))⟩
 refine U.D4 loop (fun ds h=>by cases h) fun ds h=>?_
 cases h
 exact U.Xu rfl (U.ret rfl)
def MN:Bool→List Tk→Zt
 |_,[]=>[]
 |f,p::r=>bif p.1==9 then 10::MN true r else ((bif f then [] else [32])++(p.2++MN false r))
def gL (its:List Tk):Prop:=∀ p∈its,p=nl∨p∈qP
def nn (its:List Tk):List Tk:=its.filter fun p=>!(p.1==9)
theorem Ai:∀ {its:List Tk} (_:gL its) (f:Bool) (s:Zt),(f=false→s.isEmpty=false)→(PI its (f,s)).2=s++MN f its
 |[],_,f,s,_=>by show s=s++[];rw [Za]
 |p::r,h,f,s,hf=>by
  have hr:gL r:=fun q hq=>h q (Yk _ hq)
  show (PI r (Lb (f,s) p)).2=_
  rcases h p (Yi ..) with rfl|hp
  ·show (PI r (true,s++[10])).2=s++(10::MN true r)
   rw [Ai hr true _ (fun h=>by cases h),Yl];rfl
  ·have h9:=Cg hp
   have hW:=Kj hp
   have e1:Lb (f,s) p=(false,s++((bif f then [] else [32])++p.2)):=by
    unfold Lb;rw [h9]
    cases f with
    |true=>show (false,s++((bif !s.isEmpty&&false then [32] else [])++p.2))=_;rw [Bool.and_false];rfl
    |false=>show (false,s++((bif !s.isEmpty&&true then [32] else [])++p.2))=_;rw [hf rfl];rfl
   rw [e1,Ai hr false _ (fun _=>?_)]
   ·rw [show MN f (p::r)=(bif f then [] else [32])++(p.2++MN false r) from by rw [MN,h9];rfl]
    simp only [Yl]
   ·cases hp2:p.2 with
    |nil=>exact absurd hp2 hW.ne
    |cons c t=>cases s<;>cases f<;>rfl
def Mt:List D→List Tk→Prop
 |[],[]=>True
 |y::ts,p::ws=>(∃ a b c,y=Fg p.1 p.2 a b c)∧Mt ts ws
 |_,_=>False
theorem Qt {its:List Tk}:Lf (MN false its):=by
 intro b t h
 cases its with
 |nil=>cases h
 |cons p r=>
  unfold MN at h
  cases h9:(p.1==9) with
  |true=>rw [h9] at h;have h:(10:UInt8)::MN true r=b::t:=h;injection h with h1;subst h1;rfl
  |false=>rw [h9] at h;have h:(32:UInt8)::(p.2++MN false r)=b::t:=h;injection h with h1;subst h1;rfl
theorem YB:∀ {its:List Tk} (_:gL its) (f:Bool) (p:Int×Int) (bl:Zt),(∀ b∈bl,W5 b=true)→∃ ts,Pw p (bl++MN f its) ts∧Mt ts (nn its)
 |[],_,f,p,bl,hb=>⟨[],by rw [show MN f []=[] from by unfold MN;rfl,Za];exact .nil hb,trivial⟩
 |q::r,h,f,p,bl,hb=>by
  have hr:gL r:=fun q hq=>h q (Yk _ hq)
  rcases h q (Yi ..) with rfl|hp
  ·obtain⟨ts,h1,h2⟩:=YB hr true p (bl++[10]) (fun b hb'=>by
    rcases Yy.1 hb' with h|h
    ·exact hb b h
    ·rw [Yn.1 h];rfl)
   rw [Yl] at h1
   exact⟨ts,h1,h2⟩
  ·have h9:=Cg hp
   obtain⟨ts,h1,h2⟩:=YB hr false (mv (mv p (bl++(bif f then [] else [32]))) q.2) [] (fun b hb'=>by cases hb')
   refine⟨Fg q.1 q.2 1 (mv p (bl++(bif f then [] else [32]))).1 (mv p (bl++(bif f then [] else [32]))).2::ts,?_,?_⟩
   ·have:=Pw.cons (p:=p) (bl:=bl++(bif f then [] else [32])) (fun b hb'=>by
     rcases Yy.1 hb' with h|h
     ·exact hb b h
     ·cases f with
      |true=>cases h
      |false=>rw [Yn.1 h];rfl) (Kj hp) Qt h1
    rw [Yl] at this
    rw [show MN f (q::r)=(bif f then [] else [32])++(q.2++MN false r) from by rw [MN,h9];rfl]
    exact this
   ·rw [show nn (q::r)=q::nn r from by unfold nn;rw [List.filter_cons,h9];rfl]
    exact⟨⟨_,_,_,rfl⟩,h2⟩
theorem ZB:∀ {ts:List D} {ws:List Tk},Mt ts ws→ts.length=ws.length
 |[],[],_=>rfl
 |_::ts,_::ws,h=>by rw [Xw,Xw,ZB h.2]
theorem Pb:∀ {ts:List D} {ws:List Tk} (_:Mt ts ws) (pre:List D),C4 (pre++ts) pre.length ws
 |[],[],_,_=>trivial
 |y::ts,p::ws,h,pre=>by
  obtain⟨⟨a,b,c,e⟩,h2⟩:=h
  have ih:=Pb h2 (pre++[y])
  rw [Yl,Xx,Yu] at ih
  exact⟨⟨a,b,c,by rw [Zo (Yj _),Nat.sub_self,e];rfl⟩,ih⟩
theorem Bn:∀ {ts:List D} {ws:List Tk},Mt ts ws→Lj ts
 |[],[],_=>fun y hy=>by cases hy
 |y::ts,p::ws,h=>fun z hz=>by
  obtain⟨⟨a,b,c,e⟩,h2⟩:=h
  rcases Yh.1 hz with rfl|hz
  ·exact⟨_,_,_,_,_,e⟩
  ·exact Bn h2 z hz
theorem Mn {its:List Tk}(h:gL its)(hn:(nn its).length≤12000)(hl:(PI its (true,[])).2.length≤900000) :
  ∃ ts,Mt ts (nn its)∧U (fun n=>nF n (.Z 5 [.agg [.str (PI its (true,[])).2,.int .i64 1,.int .i64 1,.int .i64 1,.bool false]])) fun r=>r=TS 0 0 0 0 ts:=by
 obtain⟨ts,h1,h2⟩:=YB h true (1,1) [] (fun b hb=>by cases hb)
 refine⟨ts,h2,Cu hl (by rw [ZB h2];exact hn) ?_⟩
 rw [Ai h true [] (fun h=>by cases h)]
 exact h1
def Ly (u v:List Tk):Prop:=nn u=v∧u.length≤2*v.length∧gL u
theorem Je (u v:List Tk):nn (u++v)=nn u++nn v:=List.filter_append ..
theorem Ly.nil:Ly [] []:=⟨rfl,Yj _,fun _ h=>by cases h⟩
theorem Ly.app {u v u' v':List Tk}(h:Ly u v)(h':Ly u' v'):Ly (u++u') (v++v'):=
 ⟨by rw [Je,h.1,h'.1],by have:=h.2.1;have:=h'.2.1;simp only [Xx];omega,fun p hp=>(Yy.1 hp).elim (h.2.2 p) (h'.2.2 p)⟩
theorem Rm:∀ {v:List Tk},Wk v→nn v=v
 |[],_=>rfl
 |p::v,h=>by
  have h9:=Cg (h p (Yi ..))
  have ih:=Rm (v:=v) fun q hq=>h q (Yk _ hq)
  unfold nn at ih ⊢
  rw [List.filter_cons,h9,ih];rfl
theorem Ly.w {v:List Tk}(h:Wk v):Ly v v:=⟨Rm h,by omega,fun p hp=> .inr (h p hp)⟩
theorem Ly.e {v:List Tk}(h:Wk v)(hv:v≠[]):Ly (v++[nl]) v:=by
 refine⟨by rw [Je,Rm h];show v++[]=v;rw [Za],?_,fun p hp=>?_⟩
 ·have:=List.length_pos_iff.2 hv
  rw [Xx,Yu];omega
 ·rcases Yy.1 hp with h1|h1
  ·exact .inr (h p h1)
  ·exact .inl (Yn.1 h1)
theorem Ly.flat {w v:D→List Tk}:∀ {xs:List D},(∀ x∈xs,Ly (w x) (v x))→Ly (xs.flatMap w) (xs.flatMap v)
 |[],_=> .nil
 |x::xs,h=>by
  rw [Ze,Ze]
  exact (h x (Yi ..)).app (Ly.flat fun y hy=>h y (Yk _ hy))
theorem Ly.OH:Ly [(3,[59]),nl] [(3,[59])]:=Ly.e (Wk.sg rfl) (by simp)
theorem Ly.kn {t:Zt}(h:VR.contains t=true):Ly [(1,t),nl] [(1,t)]:=Ly.e (Wk.key h) (by simp)
theorem Ly.key {t:Zt}(h:VR.contains t=true):Ly [(1,t)] [(1,t)]:=Ly.w (Wk.key h)
theorem Ly.sg {t:Zt}(h:Uy.contains t=true):Ly [(3,t)] [(3,t)]:=Ly.w (Wk.sg h)
theorem k4 {x:D}(h:bS 4 x):Wk (wE 4 x):=Ve 4 x h
theorem Ly.ex {x:D}(h:bS 4 x):Ly (wE 4 x) (wE 4 x):=Ly.w (k4 h)
theorem Nk {x:D}(h:bS 4 x):Wk (pW x):=(Wk.sg rfl).app ((k4 h).app (Wk.sg rfl))
theorem Wk.oT {t:Zt}{v:List Tk}(h:Uy.contains t=true)(h':Wk v):Wk ((3,t)::v):= .cons (Oy (List.contains_iff_mem.1 h)) h'
theorem Wk.dC {t:Zt}{v:List Tk}(h:VR.contains t=true)(h':Wk v):Wk ((1,t)::v):= .cons (Ij (List.contains_iff_mem.1 h)) h'
theorem Bh {t:Zt}(ht:VR.contains t=true){es:List D}(h3:es.length=3)(he:∀ e∈es,bS 4 e):Wk (Z9 t es):=by
 match es,h3,he with
 |[x,y,z],_,he=>
  show Wk ([(1,uZ),(3,[40]),(1,t),(3,[61])]++(wE 4 x++([(3,[59])]++(wE 4 y++([(3,[59]),(1,t),(3,[61])]++(wE 4 z++[(3,[41])])))))
)
  exact (Wk.dC rfl (Wk.oT rfl (Wk.dC ht (Wk.sg rfl)))).app ((k4 (he x (by simp))).app ((Wk.sg rfl).app ((k4 (he y (by simp))).app ((Wk.oT rfl (Wk.dC ht (Wk.sg rfl))).app ((k4 (he z (by simp))).app (Wk.sg rfl))))))
theorem Rc {x:D}(h:isLeft x):Wk (wE 4 x):=k4 (cS (by decide) (rZ h))
theorem Ly.left {x:D}(h:isLeft x):Ly (wE 4 x) (wE 4 x):=Ly.w (Rc h)
theorem Cl:∀ (n:Nat) (x:D),qL n x→Ly (yS n x) (wS n x)
 |0,_,h=>h.elim
 |n+1,x,h=>by
  obtain⟨k,t,es,bs,zs,rfl,he,hb,hz,hs⟩:=h
  have ih:=Cl n
  have hB:Ly (bs.flatMap (yS n)) (bs.flatMap (wS n)):=Ly.flat fun x hx=>ih x (hb x hx)
  have hZ:Ly (zs.flatMap (fS (yS n))) (zs.flatMap (fS (wS n))):=Ly.flat fun a ha=>by
   obtain⟨es,s,rfl,_,he2,hs⟩:=hz a ha
   show Ly ((bif es.isEmpty then [(1,wJ)] else [])++(lW (wE 4) es++([(3,[58])]++yS n (EP (arm es s))))) ((bif es.isEmpty then [(1,wJ)] else [])++(lW (wE 4) es++([(3,[58])]++wS n (EP (arm es s)))))
   rw [Ki hs]
   refine Ly.app ?_ ((Ly.w (RY fun x hx=>k4 (he2 x hx))).app ((Ly.sg rfl).app (ih s hs)))
   cases es.isEmpty with
   |true=>exact Ly.key rfl
   |false=>exact Ly.nil
  show Ly (Wc (yS n) k t es bs zs) (sW (wS n) k t es bs zs)
  rcases hs with ⟨rfl,rfl,rfl,hn,rfl⟩|⟨hk,rfl,⟨x,e,rfl,hx⟩,rfl,rfl⟩|⟨rfl,rfl,hn,⟨b,c,rfl,hop⟩,rfl⟩|⟨rfl,rfl,hn,rfl,hz1,hz2⟩|⟨rfl,rfl,hn,hl2,rfl⟩|⟨rfl,ht',hn,rfl,rfl⟩|⟨rfl,rfl,rfl,rfl,rfl⟩
  ·show Ly ([(1,Q6),nl]++(bs.flatMap (yS n)++[(1,dD),nl])) ([(1,Q6)]++(bs.flatMap (wS n)++[(1,dD)]))
   exact (Ly.kn rfl).app (hB.app (Ly.kn rfl))
  ·have he2:=he e (by simp)
   rcases hk with rfl|rfl
   ·show Ly (wE 4 x++([(3,[61])]++(wE 4 e++[(3,[59]),nl]))) (wE 4 x++([(3,[61])]++(wE 4 e++[(3,[59])])))
    exact (Ly.left hx).app ((Ly.sg rfl).app ((Ly.ex he2).app Ly.OH))
   ·show Ly (wE 4 x++([(3,[60,61])]++(wE 4 e++[(3,[59]),nl]))) (wE 4 x++([(3,[60,61])]++(wE 4 e++[(3,[59])])))
    exact (Ly.left hx).app ((Ly.sg rfl).app ((Ly.ex he2).app Ly.OH))
  ·match es,hn,he with
   |[e],_,he=>
    show Ly ([(1,vI)]++(pW e++(yS n b++(bif (c.at_ 0).i==8 then [] else [(1,cT)]++yS n c)))) ([(1,vI)]++(pW e++(wS n b++(bif (c.at_ 0).i==8 then [] else [(1,cT)]++wS n c))))
    refine (Ly.key rfl).app ((Ly.w (Nk (he e (by simp)))).app ((ih b (hb b (by simp))).app ?_))
    cases (c.at_ 0).i==8 with
    |true=>exact Ly.nil
    |false=>exact (Ly.key rfl).app (ih c (hb c (by simp)))
  ·match es,hn,he with
   |[e],_,he=>
    show Ly ([(1,oO)]++(pW e++([nl]++(zs.flatMap (fS (yS n))++[(1,bZ),nl])))) ([(1,oO)]++(pW e++(zs.flatMap (fS (wS n))++[(1,bZ)])))
    rw [← Yl (pW e)]
    exact (Ly.key rfl).app ((Ly.e (Nk (he e (by simp))) (by simp [pW])).app (hZ.app (Ly.kn rfl)))
  ·match bs,hl2,hb with
   |[b],_,hb=>
    show Ly (Z9 [105] es++yS n b) (Z9 [105] es++wS n b)
    exact (Ly.w (Bh rfl hn he)).app (ih b (hb b (by simp)))
  ·match es,hn,he with
   |[e],_,he=>
    show Ly ((bif t.isEmpty then [] else [(1,t),(3,[58])])++([(1,nK)]++(pW e++[(3,[59]),nl]))) ((bif t.isEmpty then [] else [(1,t),(3,[58])])++([(1,nK)]++(pW e++[(3,[59])])))
    refine Ly.app ?_ ((Ly.key rfl).app ((Ly.w (Nk (he e (by simp)))).app Ly.OH))
    rcases ht' with rfl|rfl
    ·exact Ly.nil
    ·exact Ly.w (Wk.dC rfl (Wk.sg rfl))
  ·exact Ly.OH
theorem He {es:List D}(he:∀ e∈es,bS 4 e):Wk (mM es):=by
 match es,he with
 |[],_=>exact Wk.nil
 |[x],he=>exact (Wk.sg (t:=[91]) rfl).app ((k4 (he x (by simp))).app (Wk.sg (t:=[93]) rfl))
 |x::y::r,he=>exact (Wk.sg (t:=[91]) rfl).app ((k4 (he x (by simp))).app ((Wk.sg (t:=[58]) rfl).app ((k4 (he y (by simp))).app (Wk.sg (t:=[93]) rfl))))
theorem Wq {T:NT}(hT:T=sR∨T=GL∨T=zH∨T=kC){nm ty:Zt}{q:Nat}{f sg:Bool}{es fs:List D}(hn:nm∈Z7)(hm:(ty,q,f)∈T)(he:∀ e∈es,bS 4 e)(hf:∀ e∈fs,bS 4 e)(hfs:fs=[]∨(f=true∧fs.length=1∧es.length≤2)):Wk (nW nm ty sg es fs):=by
 have hty:=(Cv hT _ hm).1
 have h1:Wk (bif ty==Y2 then [(1,kO),(1,iF)] else [(1,ty)]):=by
  simp only [Yh,List.not_mem_nil,or_false] at hty
  rcases hty with h|h|h|h|h|h
  ·rw [show ty=ID from h];exact Wk.key rfl
  ·rw [show ty=iF from h];exact Wk.key rfl
  ·rw [show ty=eZ from h];exact Wk.key rfl
  ·rw [show ty=MZ from h];exact Wk.key rfl
  ·rw [show ty=kO from h];exact Wk.key rfl
  ·rw [show ty=Y2 from h];exact Wk.dC rfl (Wk.key rfl)
 unfold nW
 refine h1.app (Wk.app ?_ ((He fun e h=>he e (List.mem_of_mem_take h)).app ((Wk.one (HG hn)).app ((He fun e h=>he e (List.mem_of_mem_drop h)).app ?_))))
 ·cases sg&&!(ty==eZ) with
  |true=>exact Wk.key rfl
  |false=>exact Wk.nil
 ·rcases hfs with rfl|⟨_,h1,_⟩
  ·exact Wk.nil
  ·match fs,h1,hf with
   |[x],_,hf=>exact (Wk.sg (t:=[61]) rfl).app (k4 (hf x (by simp)))
theorem Oi {T:NT}(hT:T=sR∨T=GL∨T=zH∨T=kC){x:D}(h:xN T x):Wk (hU x):=by
 obtain⟨nm,ty,q,f,sg,es,fs,rfl,g1,hm,g3,g4,g5,g6,g7,g8⟩:=jA h
 exact Wq hT g1 hm g7 g8 g6
theorem Wi {c:D}(h:xC c):Wk (cW c):=by
 obtain⟨nm,es,rfl,hnm,hle,he⟩:=h
 show Wk ([(3,[46]),(1,nm),(3,[40])]++(lW (wE 4) es++[(3,[41])]))
 exact (Wk.oT rfl (Wk.cons (HG hnm) (Wk.sg rfl))).app ((RY fun x hx=>k4 (he x hx)).app (Wk.sg rfl))
theorem Ot {xs:List D}(h:∀ c∈xs,xC c):Wk (mR xs):=(Wk.sg rfl).app ((RY fun x hx=>Wi (h x hx)).app (Wk.sg rfl))
theorem Ui {k:UInt8}(h:k.toNat≤8):(1,[117,48+k])∈qP:=by
 refine Wl (List.mem_map.2 ⟨k.toNat,List.mem_range.2 (by omega),?_⟩)
 rw [UInt8.ofNat_toNat]
theorem Hb {w v:D→List Tk}{t:Zt}(ht:VR.contains t=true){its:List D}(h:∀ x∈its,Ly (w x) (v x)):Ly ([gB t its].flatMap (TX w)) ([gB t its].flatMap (FF v)):=by
 refine Ly.flat fun x hx=>?_
 rw [Yn.1 hx]
 show Ly ([(1,Q6),(3,[58]),(1,t),nl]++(its.flatMap w++[(1,dD),nl])) ([(1,Q6),(3,[58]),(1,t)]++(its.flatMap v++[(1,dD)]))
 exact (Ly.e (v:=[(1,Q6),(3,[58]),(1,t)]) (Wk.dC rfl (Wk.oT rfl (Wk.key ht))) (by simp)).app ((Ly.flat h).app (Ly.kn rfl))
theorem Pu:∀ (n:Nat) (x:D),xI n x→Ly (yI n x) (wI n x)
 |0,_,h=>h.elim
 |n+1,x,h=>by
  have ih:=Pu n
  rcases h with (h|h)|⟨nm,e,rfl,hn,he⟩|⟨nm,rfl,hn⟩|⟨l0,e,rfl,hlf,he⟩|⟨s0,rfl,hs⟩|⟨s0,rfl,hs⟩|⟨sg,es,its,s0,rfl,h2e,he,h1n,h2n,hx,hs⟩|⟨k,ps,qs,rfl,hk,hp,hq,hpc,hqc⟩|⟨es,its,rfl,h3,he,hn,hx⟩|⟨e,its,els,rfl,he,hn,hx,hel⟩
  ·have hk:=Oi (.inl rfl) h
   obtain⟨nm,ty,q,f,sg,es,fs,rfl,_⟩:=jA h
   show Ly (nW nm ty sg es fs++[(3,[59]),nl]) (nW nm ty sg es fs++[(3,[59])])
   exact (Ly.w hk).app Ly.OH
  ·have hk:=Oi (.inr (.inl rfl)) h
   obtain⟨nm,ty,q,f,sg,es,fs,rfl,_⟩:=jA h
   show Ly (nW nm ty sg es fs++[(3,[59]),nl]) (nW nm ty sg es fs++[(3,[59])])
   exact (Ly.w hk).app Ly.OH
  ·show Ly ([(1,mF),(1,nm),(3,[61])]++(wE 4 e++[(3,[59]),nl])) ([(1,mF),(1,nm),(3,[61])]++(wE 4 e++[(3,[59])]))
   exact (Ly.w (Wk.dC rfl (Wk.cons (HG hn) (Wk.sg rfl)))).app ((Ly.ex he).app Ly.OH)
  ·show Ly ([(1,IM),(1,nm),(3,[59])]++[nl]) [(1,IM),(1,nm),(3,[59])]
   exact Ly.e (Wk.dC rfl (Wk.cons (HG hn) (Wk.sg rfl))) (by simp)
  ·show Ly ([(1,pI)]++(wE 4 l0++([(3,[61])]++(wE 4 e++[(3,[59]),nl])))) ([(1,pI)]++(wE 4 l0++([(3,[61])]++(wE 4 e++[(3,[59])]))))
   exact (Ly.key rfl).app ((Ly.left hlf).app ((Ly.sg rfl).app ((Ly.ex he).app Ly.OH)))
  ·show Ly ([(1,mD),(3,[64]),(3,[42])]++yS 4 s0) ([(1,mD),(3,[64]),(3,[42])]++wS 4 s0)
   exact (Ly.w (Wk.dC rfl (Wk.oT rfl (Wk.sg rfl)))).app (Cl 4 s0 hs)
  ·show Ly ([(1,mD),(3,[64]),(3,[40]),(1,GI),(1,wF),(3,[41])]++yS 4 s0) ([(1,mD),(3,[64]),(3,[40]),(1,GI),(1,wF),(3,[41])]++wS 4 s0)
   exact (Ly.w (Wk.dC rfl (Wk.oT rfl (Wk.oT rfl (Wk.dC rfl (Wk.dC rfl (Wk.sg rfl))))))).app (Cl 4 s0 hs)
  ·show Ly ([(1,BI)]++((bif sg then [(1,lD)] else [])++(mM es++([(1,[102]),(3,[59]),nl]++(its.flatMap Tf++(yS 4 s0++[(1,lM),nl])))))) ([(1,BI)]++((bif sg then [(1,lD)] else [])++(mM es++([(1,[102]),(3,[59])]++(its.flatMap EY++(wS 4 s0++[(1,lM)]))))))
   refine (Ly.key rfl).app (Ly.app ?_ ((Ly.w (He he)).app ((Ly.e (v:=[(1,[102]),(3,[59])]) (Wk.dC rfl (Wk.sg rfl)) (by simp)).app (Ly.app ?_ ((Cl 4 s0 hs).app (Ly.kn rfl))))))
   ·cases sg with
    |true=>exact Ly.key rfl
    |false=>exact Ly.nil
   ·refine Ly.flat fun x hx'=>?_
    show Ly (hU x++[(3,[59]),nl]) (hU x++[(3,[59])])
    exact (Ly.w (Oi (.inr (.inr (.inl rfl))) (hx x hx'))).app Ly.OH
  ·show Ly ([(1,sP)]++((bif ps.isEmpty then [] else [(3,[35])]++mR ps)++([(1,[117,48+k])]++(mR qs++[(3,[59]),nl])))) ([(1,sP)]++((bif ps.isEmpty then [] else [(3,[35])]++mR ps)++([(1,[117,48+k])]++(mR qs++[(3,[59])]))))
   refine (Ly.key rfl).app (Ly.app ?_ ((Ly.w (Wk.one (Ui hk))).app ((Ly.w (Ot hqc)).app Ly.OH)))
   cases ps.isEmpty with
   |true=>exact Ly.nil
   |false=>exact Ly.w ((Wk.sg rfl).app (Ot hpc))
  ·show Ly (Z9 [105] es++[gB [103] its].flatMap (TX (yI n))) (Z9 [105] es++[gB [103] its].flatMap (FF (wI n)))
   exact (Ly.w (Bh rfl h3 he)).app (Hb rfl fun x hx'=>ih x (hx x hx'))
  ·show Ly ([(1,vI)]++(pW e++([gB [116] its].flatMap (TX (yI n))++(bif els.isEmpty then [] else [(1,cT)]++els.flatMap (TX (yI n)))))) ([(1,vI)]++(pW e++([gB [116] its].flatMap (FF (wI n))++(bif els.isEmpty then [] else [(1,cT)]++els.flatMap (FF (wI n))))))
   refine (Ly.key rfl).app ((Ly.w (Nk he)).app ((Hb rfl fun x hx'=>ih x (hx x hx')).app ?_))
   rcases hel with rfl|⟨ys,rfl,hyn,hyx⟩
   ·exact Ly.nil
   ·exact (Ly.key rfl).app (Hb rfl fun x hx'=>ih x (hyx x hx'))
theorem Vx {nm:Zt}(hnm:(1,nm)∈qP){x:D}(h:Tm nm x):Ly (yM x) (wM x):=by
 obtain⟨ps,qs,its,rfl,_,_,_,h1,h2,h3⟩:=h
 show Ly ([(1,uT),(1,nm)]++((bif ps.isEmpty then [] else [(3,[35]),(3,[40])]++(lW qE ps++[(3,[41])]))++([(3,[40])]++(lW hU qs++([(3,[41]),(3,[59]),nl]++(its.flatMap (yI 4)++[(1,nP),nl])))))) ([(1,uT),(1,nm)]++((bif ps.isEmpty then [] else [(3,[35]),(3,[40])]++(lW qE ps++[(3,[41])]))++([(3,[40])]++(lW hU qs++([(3,[41]),(3,[59])]++(its.flatMap (wI 4)++[(1,nP)]))))))
 refine (Ly.w (Wk.dC rfl (Wk.one hnm))).app (Ly.app ?_ ((Ly.sg rfl).app ((Ly.w (RY fun x hx=>Oi (.inr (.inr (.inr rfl))) (h2 x hx))).app ((Ly.e (v:=[(3,[41]),(3,[59])]) (Wk.oT rfl (Wk.sg rfl)) (by simp)).app ((Ly.flat fun x hx=>Pu 4 x (h3 x hx)).app (Ly.kn rfl))))))
 cases ps.isEmpty with
 |true=>exact Ly.nil
 |false=>
  refine Ly.w ((Wk.oT rfl (Wk.sg rfl)).app ((RY fun x hx=>?_).app (Wk.sg rfl)))
  obtain⟨nm',e,rfl,hn,he⟩:=h1 x hx
  show Wk ([(1,oM),(1,nm'),(3,[61])]++wE 4 e)
  exact (Wk.dC rfl (Wk.cons (HG hn) (Wk.sg rfl))).app (k4 he)
theorem Ps {c:D}(h:xC c):Wa c:=by
 obtain⟨nm,es,rfl,_,hl,he⟩:=h
 exact⟨nm,es,rfl,hl,he⟩
theorem Cj {T:NT}(hT:T=sR∨T=GL∨T=zH∨T=kC){x:D}(h:xN T x)(n:Nat):gI (n+1) x:=by
 obtain⟨nm,ty,q,f,sg,es,fs,rfl,g1,hm,g3,g4,g5,g6,g7,g8⟩:=jA h
 refine⟨1,nm,ty,sg,es,fs,[],[],[],[],[],rfl,⟨by omega,?_,by decide,by decide,by decide,by decide,by decide⟩,by decide,g7,g8,D9,D9,D9,D9,D9⟩
 rcases g6 with rfl|⟨_,h,_⟩
 ·exact Yo _
 ·omega
theorem Bc {n:Nat}{t:Zt}{its:List D}(hn:its.length≤2)(h:∀ x∈its,gI n x):gI (n+1) (gB t its):=
 ⟨11,t,[],false,[],[],[],its,[],[],[],rfl,⟨by decide,by decide,by decide,by decide,by decide,by decide,by decide⟩,by omega,D9,D9,D9,h,D9,D9,D9⟩
theorem Rb {x:D}(h:isLeft x):bS 4 x:=cS (by decide) (rZ h)
theorem Sx {P:D→Prop}{x y:D}(hx:P x)(hy:P y):∀ z∈[x,y],P z:=fun z hz=>by
 rcases Yh.1 hz with rfl|hz
 ·exact hx
 ·rw [Yn.1 hz];exact hy
theorem Pt:∀ (n:Nat) (x:D),xI n x→gI (2*n) x
 |0,_,h=>h.elim
 |n+1,x,h=>by
  have ih:=Pt n
  rcases h with (h|h)|⟨nm,e,rfl,hn,he⟩|⟨nm,rfl,hn⟩|⟨l0,e,rfl,hlf,he⟩|⟨s0,rfl,hs⟩|⟨s0,rfl,hs⟩|⟨sg,es,its,s0,rfl,h2e,he,h1n,h2n,hx,hs⟩|⟨k,ps,qs,rfl,hk,hp,hq,hpc,hqc⟩|⟨es,its,rfl,h3,he,hn,hx⟩|⟨e,its,els,rfl,he,hn,hx,hel⟩
  ·exact Cj (.inl rfl) h _
  ·exact Cj (.inr (.inl rfl)) h _
  ·exact⟨2,nm,mF,false,[e],[],[],[],[],[],[],rfl,⟨by simp,by simp,by simp,by simp,by simp,by simp,by simp⟩,by simp,oL he,D9,D9,D9,D9,D9,D9⟩
  ·exact⟨3,nm,[],false,[],[],[],[],[],[],[],rfl,⟨by simp,by simp,by simp,by simp,by simp,by simp,by simp⟩,by simp,D9,D9,D9,D9,D9,D9,D9⟩
  ·exact⟨4,[],[],false,[l0,e],[],[],[],[],[],[],rfl,⟨by simp,by simp,by simp,by simp,by simp,by simp,by simp⟩,by simp,Sx (Rb hlf) he,D9,D9,D9,D9,D9,D9⟩
  ·exact⟨5,[],[],false,[],[],[s0],[],[],[],[],rfl,⟨by simp,by simp,by simp,by simp,by simp,by simp,by simp⟩,by simp,D9,D9,oL hs,D9,D9,D9,D9⟩
  ·exact⟨6,wF,[],false,[],[],[s0],[],[],[],[],rfl,⟨by simp,by simp,by simp,by simp,by simp,by simp,by simp⟩,by simp,D9,D9,oL hs,D9,D9,D9,D9⟩
  ·exact⟨7,[102],[],sg,es,[],[s0],its,[],[],[],rfl,⟨by omega,by simp,by simp,by simp,by simp,by simp,by simp⟩,by omega,he,D9,oL hs,fun x h'=>Cj (.inr (.inr (.inl rfl))) (hx x h') _,D9,D9,D9⟩
  ·exact⟨8,[117,48+k],sP,false,[],[],[],[],[],ps,qs,rfl,⟨by simp,by simp,by simp,by simp,by simp,hp,hq⟩,by simp,D9,D9,D9,D9,D9,fun c h=>Ps (hpc c h),fun c h=>Ps (hqc c h)⟩
  ·exact⟨9,[105],[],false,es,[],[],[gB [103] its],[],[],[],rfl,⟨by omega,by simp,by simp,by simp,by simp,by simp,by simp⟩,by simp,he,D9,D9,oL (Bc hn fun x h'=>ih x (hx x h')),D9,D9,D9⟩
  ·rcases hel with rfl|⟨ys,rfl,hyn,hyx⟩
   ·exact⟨10,[],[],false,[e],[],[],[gB [116] its],[],[],[],rfl,⟨by simp,by simp,by simp,by simp,by simp,by simp,by simp⟩,by simp,oL he,D9,D9,oL (Bc hn fun x h'=>ih x (hx x h')),D9,D9,D9⟩
   ·exact⟨10,[],[],false,[e],[],[],[gB [116] its],[gB [101] ys],[],[],rfl,⟨by simp,by simp,by simp,by simp,by simp,by simp,by simp⟩,by simp,oL he,D9,D9,oL (Bc hn fun x h'=>ih x (hx x h')),oL (Bc hyn fun x h'=>ih x (hyx x h')),D9,D9⟩
theorem Vw {x:D}(h:xP x)(n:Nat):gI (n+1) x:=by
 obtain⟨nm,e,rfl,hn,he⟩:=h
 exact⟨2,nm,oM,false,[e],[],[],[],[],[],[],rfl,⟨by simp,by simp,by simp,by simp,by simp,by simp,by simp⟩,by simp,oL he,D9,D9,D9,D9,D9,D9⟩
theorem Kv {ms:List D}(hl:ms.length≤10)(h:∀ m∈ms,∃ nm,nm.length≤100∧Tm nm m):U (fun n=>kU n (.Z 4 ms)) fun r=>∃ ys,r=(true,[.Z 7 ys])∧Rl OM ms ys:=by
 refine U.eq (fun n=>SA n ms) ?_
 refine U.D4 (Q:=fun r=>∃ q ys,r=(false,[.Z 4 ms,.int .i64 (ms.length:Int),.int .i64 q,.Z 7 ys])∧Rl OM ms ys) ?_ (fun ds h=>by obtain⟨_,_,h,_⟩:=h;cases h) fun ds h=>?_
 ·refine yW (xs:=ms) (R:=OM) (T:=fun j acc n=>cK n (.Z 4 ms) (ms.length:Int) j (.Z 7 acc)) (by omega) (fun j acc hj ha K=>?_) fun acc hr=>?_
  ·refine U.eq (fun n=>uO n ms _ _ _) (U.Xu (Zi (by omega)) (U.Xu (G9 hj) ?_))
   obtain⟨nm,l0,ps,qs,its,e,l1,l2,l3,h1,h2,h3⟩:=h ms[j] (Yr hj)
   rw [X7 hj,e]
   rw [e] at K
   refine U.Xu rfl (U.A0 (FV 8 ps (by omega) fun x hx=>Vw (h1 x hx) 7) ?_)
   rintro b ds ⟨ps',h,hps⟩;cases h;refine⟨rfl,?_⟩
   refine U.Xu rfl (U.A0 (FV 8 qs (by omega) fun x hx=>Cj (.inr (.inr (.inr rfl))) (h2 x hx) 7) ?_)
   rintro b ds ⟨qs',h,hqs⟩;cases h;refine⟨rfl,?_⟩
   refine U.Xu rfl (U.A0 (FV 8 its (by omega) fun x hx=>Pt 4 x (h3 x hx)) ?_)
   rintro b ds ⟨its',h,hits⟩;cases h;refine⟨rfl,?_⟩
   refine U.Xu rfl (U.Xu (Yc (by simp only [D8];omega)) ?_)
   exact K (AM nm 0 0 0 ps' qs' its') ⟨nm,0,0,0,ps,qs,its,ps',qs',its',rfl,rfl,by omega,by omega,by omega,by omega,hps,hqs,hits⟩
  ·exact U.eq (fun n=>uO n ms _ _ _) (U.no (Zk (by omega)) (U.ret ⟨_,acc,rfl,hr⟩))
 ·obtain⟨q,ys,h,hr⟩:=h
  cases h
  exact U.Xu rfl (U.ret ⟨ys,rfl,hr⟩)
end Go.Proofs.YtalibicpmfbieaaGreatDoor
