import Derived.Test.YthlhbocobgkdmaaGreatM3
namespace Go.Proofs.YthlhbocobgkdmaaGreat
open Go.AE
set_option linter.all false
theorem Wo:Ar 5 1:=by constructor<;>decide
theorem Wi:Ar 6 1:=by constructor<;>decide
theorem Wp:Ar 7 2:=by constructor<;>decide
theorem Wq:Ar 8 3:=by constructor<;>decide
theorem Vt:Ar 10 1:=by constructor<;>decide
theorem Wh:Ar 1 0:=by constructor<;>decide
theorem Wl:Ar 2 0:=by constructor<;>decide
theorem Wm:Ar 3 1:=by constructor<;>decide
theorem Wn:Ar 4 2:=by constructor<;>decide
theorem Wj {n:Nat}(h:n≤68719476736):Ar 9 n:=⟨(fun h=>by omega),(fun h=>by omega),(fun h=>by omega),(fun h=>by omega),(fun h=>by omega),(fun h=>by omega),h⟩
theorem sR {ns:Nat}{M:Int→Prop}{k op wd lo:Int}{sn:Bool}{ts:List TE}(ar:Ar k ts.length)(h2:k≠2)(h3:k≠3)(hg:kC ns M ts):Good ns M (.mk k op wd 0 lo sn (0,0) ts):=
 ⟨Wf.zero,ar,fun h=>absurd h h3,fun h=>absurd h (fun h=>h.elim h2 h3),fun h=>absurd h h2,fun h=>absurd h h3,hg⟩
theorem Vg {k op wd sg lo:Int}{sn:Bool}{v:Nat×Nat}(t:TE):L6 (.mk k op wd sg lo sn v [t])=L6 t+1:=by simp only [L6,cG];omega
theorem Wk {k op wd sg lo:Int}{sn:Bool}{v:Nat×Nat}(t u:TE):L6 (.mk k op wd sg lo sn v [t,u])=L6 t+L6 u+1:=by simp only [L6,cG];omega
theorem Wu {k op wd sg lo:Int}{sn:Bool}{v:Nat×Nat}(t u w:TE):L6 (.mk k op wd sg lo sn v [t,u,w])=L6 t+L6 u+L6 w+1:=by simp only [L6,cG];omega
theorem Mt {k op wd sg lo:Int}{sn:Bool}{v:Nat×Nat}:L6 (.mk k op wd sg lo sn v [])=1:=by simp only [L6,cG]
def Of (c:Nat)(t t':TE):Prop:=L6 t'≤L6 t+c∧∀ (ns:Nat) (M:Int→Prop),Good ns M t→Good ns M t'
theorem EO (t:TE)(lo w:Int):∃ t',U (fun n=>V0 n (enc t) lo w) (fun r=>r=(true,[enc t']))∧Of 1 t t':=by
 obtain⟨k,op,wd,sg,l,sn,v,ts⟩:=t
 have j:∀ g:Bool,∃ t',U (fun n=>kU n g k op wd sg l sn (v.1:Int) (wz v) (O7 ts) w lo) (fun r=>r=(true,[enc t']))∧Of 1 (.mk k op wd sg l sn v ts) t':=by
  intro g
  cases g with
  |true=>exact⟨.mk k op wd sg l sn v ts,M1 (fun n=>kU.eq_1 n ..) (U.H5 rfl (U.ret rfl)),by omega,fun _ _ h=>h⟩
  |false=>exact⟨.mk 5 0 w 0 lo false (0,0) [.mk k op wd sg l sn v ts],M1 (fun n=>kU.eq_1 n ..) (U.no rfl (U.ret rfl)),by rw [Vg];omega,fun _ _ h=>sR Wo (by decide) (by decide) ⟨h,trivial⟩⟩
 cases h0:lo==0 with
 |true=>
  obtain⟨t',h1,h2⟩:=j (w==wd)
  exact⟨t',U.eq (fun n=>AX n ..) (U.H5 h0 h1),h2⟩
 |false=>
  obtain⟨t',h1,h2⟩:=j false
  exact⟨t',U.eq (fun n=>AX n ..) (U.no h0 h1),h2⟩
theorem Jp (t:TE):I7 V0.H9 [enc t]=true:=by cases t;rfl
theorem VS (t:TE)(w:Int)(g:Bool):∃ t',U (fun n=>aX n (enc t) w (.bool g)) (fun r=>r=(true,[enc t']))∧Of 1 t t':=by
 obtain⟨k,op,wd,sg,l,sn,v,ts⟩:=t
 cases h:decide (w≤wd) with
 |true=>
  obtain⟨t',h1,h2⟩:=EO (.mk k op wd sg l sn v ts) 0 w
  refine⟨t',U.eq (fun n=>AY n ..) (U.H5 h (H4 h1 (U.H5 (Jp t') (U.ret ?_)))),h2⟩
  show (true,[H7 H2 (enc t')])=_
  rw [M3]
 |false=>exact⟨.mk 10 0 w 0 0 g (0,0) [.mk k op wd sg l sn v ts],U.eq (fun n=>AY n ..) (U.no h (U.ret rfl)),by rw [Vg];omega,fun _ _ h=>sR Vt (by decide) (by decide) ⟨h,trivial⟩⟩
theorem BT (op:Int)(t:TE):∃ t',U (fun n=>R5 n op (enc t)) (fun r=>r=(true,[enc t']))∧Of 1 t t':=by
 obtain⟨k,o,wd,sg,l,sn,v,ts⟩:=t
 have j:∀ g:Bool,∃ t',U (fun n=>mW n g op wd k o sg l sn (v.1:Int) (wz v) (O7 ts)) (fun r=>r=(true,[enc t']))∧Of 1 (.mk k o wd sg l sn v ts) t':=by
  intro g
  cases g with
  |true=>exact⟨.mk 6 op wd 0 0 false (0,0) [.mk k o wd sg l sn v ts],M1 (fun n=>mW.eq_1 n ..) (U.H5 rfl (U.ret rfl)),by rw [Vg];omega,fun _ _ h=>sR Wi (by decide) (by decide) ⟨h,trivial⟩⟩
  |false=>exact⟨.mk 6 op 1 0 0 false (0,0) [.mk k o wd sg l sn v ts],M1 (fun n=>mW.eq_1 n ..) (U.no rfl (U.ret rfl)),by rw [Vg];omega,fun _ _ h=>sR Wi (by decide) (by decide) ⟨h,trivial⟩⟩
 cases h0:op==0 with
 |true=>
  obtain⟨t',h1,h2⟩:=j true
  exact⟨t',U.eq (fun n=>EZ n ..) (U.H5 h0 h1),h2⟩
 |false=>
  obtain⟨t',h1,h2⟩:=j (op==1)
  exact⟨t',U.eq (fun n=>EZ n ..) (U.no h0 h1),h2⟩
theorem HL (op:Int)(t u:TE):∃ t',U (fun n=>M8 n op (enc t) (enc u)) (fun r=>r=(true,[enc t']))∧L6 t'≤L6 t+L6 u+1∧∀ (ns:Nat) (M:Int→Prop),Good ns M t→Good ns M u→Good ns M t':=by
 obtain⟨k,o,wd,sg,l,sn,v,ts⟩:=t
 obtain⟨k2,o2,wd2,sg2,l2,sn2,v2,ts2⟩:=u
 have j:∀ g:Int,∃ t',U (fun n=>qC n g op k o wd sg l sn (v.1:Int) (wz v) (O7 ts) k2 o2 wd2 sg2 l2 sn2 (v2.1:Int) (wz v2) (O7 ts2)) (fun r=>r=(true,[enc t']))∧L6 t'≤L6 (.mk k o wd sg l sn v ts)+L6 (.mk k2 o2 wd2 sg2 l2 sn2 v2 ts2)+1∧∀ (ns:Nat) (M:Int→Prop),Good ns M (.mk k o wd sg l sn v ts)→Good ns M (.mk k2 o2 wd2 sg2 l2 sn2 v2 ts2)→Good ns M t':=
  fun g=>⟨.mk 7 op g 0 0 false (0,0) [.mk k o wd sg l sn v ts,.mk k2 o2 wd2 sg2 l2 sn2 v2 ts2],M1 (fun n=>qC.eq_1 n ..) (U.ret rfl),by rw [Wk];omega,fun _ _ h h2=>sR Wp (by decide) (by decide) ⟨h,h2,trivial⟩⟩
 cases h0:decide (op≥13) with
 |true=>
  obtain⟨t',h1,h2⟩:=j 1
  exact⟨t',U.eq (fun n=>FA n ..) (U.H5 h0 h1),h2⟩
 |false=>
  obtain⟨t',h1,h2⟩:=j wd
  exact⟨t',U.eq (fun n=>FA n ..) (U.no h0 h1),h2⟩
theorem KW (t:TE):I7 R5.H9 [enc t]=true:=by cases t;rfl
theorem OD (t:TE):∃ t',U (fun n=>Z1 n (enc t)) (fun r=>r=(true,[enc t']))∧Of 1 t t':=by
 obtain⟨k,op,wd,sg,l,sn,v,ts⟩:=t
 cases h:wd==1 with
 |true=>exact⟨.mk k op wd sg l sn v ts,U.eq (fun n=>yJ n ..) (U.H5 h (U.ret rfl)),by omega,fun _ _ h=>h⟩
 |false=>
  obtain⟨t',h1,h2⟩:=BT 3 (.mk k op wd sg l sn v ts)
  refine⟨t',U.eq (fun n=>yJ n ..) (U.no h (H4 h1 (U.H5 (KW t') (U.ret ?_)))),h2⟩
  show (true,[H7 H2 (enc t')])=_
  rw [M3]
theorem Ga (t u w:TE):∃ t',U (fun n=>eU n (enc t) (enc u) (enc w)) (fun r=>r=(true,[enc t']))∧L6 t'≤L6 t+L6 u+L6 w+1∧∀ (ns:Nat) (M:Int→Prop),Good ns M t→Good ns M u→Good ns M w→Good ns M t':=by
 obtain⟨k,o,wd,sg,l,sn,v,ts⟩:=t
 obtain⟨k2,o2,wd2,sg2,l2,sn2,v2,ts2⟩:=u
 obtain⟨k3,o3,wd3,sg3,l3,sn3,v3,ts3⟩:=w
 exact⟨.mk 8 0 wd2 0 0 false (0,0) [.mk k o wd sg l sn v ts,.mk k2 o2 wd2 sg2 l2 sn2 v2 ts2,.mk k3 o3 wd3 sg3 l3 sn3 v3 ts3],U.eq (fun n=>JM n ..) (U.ret rfl),by rw [Wu];omega,fun _ _ h h2 h3=>sR Wq (by decide) (by decide) ⟨h,h2,h3,trivial⟩⟩
theorem zL (num:Int)(nm:F9)(w:Int)(b:Bool)(k:Int):U (fun n=>Z9 n num (.agg [.str nm,.int .i64 w,.bool b,.int .i64 k])) (fun r=>r=(true,[enc (.mk 2 0 w num 0 false (0,0) [])])):=
 U.eq (fun n=>JN n ..) (U.ret rfl)
theorem MG {ns:Nat}{M:Int→Prop}{w num:Int}(h0:0≤num)(h1:num<(ns:Int)):Good ns M (.mk 2 0 w num 0 false (0,0) []):=
 ⟨Wf.zero,Wl,fun h=>absurd h (by decide),fun _=>⟨h0,h1⟩,fun _=>rfl,fun h=>absurd h (by decide),trivial⟩
theorem Lj {w n:Nat}(hw:w≤128)(hn:n<2 ^ w)(h1:1≤w):U (fun k=>dR k (.agg [.int .i64 (w:Int),.Z 1 (I9 w n)])) (fun r=>r=(true,[enc (.mk 1 0 (w:Int) 0 0 false (w,n) [])])):=by
 refine U.eq (fun k=>EY k ..) (H4 (ds:=[.int .i64 (w:Int)]) (U.eq (fun n=>kW n ..) (U.ret rfl)) (U.H5 rfl (U.ret ?_)))
 have e:wz (w,n)=I9 w n:=by unfold wz;rw [if_neg (show ¬ w=0 by omega)]
 show _=(true,[D.agg [.int .i64 1,.int .i64 0,.int .i64 (w:Int),.int .i64 0,.int .i64 0,.bool false,.int .i64 (w:Int),.Z 1 (wz (w,n)),.Z 9 []]])
 rw [e];rfl
theorem XM {ns:Nat}{M:Int→Prop}{w n:Nat}(hw:w≤128)(hn:n<2 ^ w):Good ns M (.mk 1 0 (w:Int) 0 0 false (w,n) []):=
 ⟨⟨hw,hn⟩,Wh,fun h=>absurd h (by decide),fun h=>absurd h (by decide),fun h=>absurd h (by decide),fun h=>absurd h (by decide),trivial⟩
theorem iT {ns:Nat}{M:Int→Prop}:∀ {l:List TE},kC ns M l↔∀ t∈l,Good ns M t
 |[]=>⟨(fun _ t h=>by cases h),fun _=>trivial⟩
 |t::r=>by
  constructor
  ·intro h u hu
   rcases B7.1 hu with rfl|hu
   ·exact h.1
   ·exact iT.1 h.2 u hu
  ·intro h
   exact⟨h t (by simp),iT.2 fun u hu=>h u (C0 _ hu)⟩
theorem OA:∀ a b:List TE,cG (a++b)=cG a+cG b
 |[],b=>by simp [cG]
 |t::a,b=>by simp only [List.cons_append,cG,OA a b];omega
theorem DQ (ts:List TE)(hl:ts.length≤1000000):∃ t',U (fun n=>X5 n (.Z 9 (O7 ts))) (fun r=>r=(true,[enc t']))∧L6 t'≤cG ts+1∧∀ (ns:Nat) (M:Int→Prop),kC ns M ts→Good ns M t':=by
 have el:=eI ts
 match ts,hl,el with
 |[t],_,_=>
  obtain⟨k,o,wd,sg,l,sn,v,us⟩:=t
  exact⟨.mk k o wd sg l sn v us,U.eq (fun n=>lL n ..) (U.H5 rfl (U.H5 rfl (U.H5 rfl (U.ret rfl)))),by simp only [cG];omega,fun _ _ h=>h.1⟩
 |[],_,_=>
  refine⟨.mk 9 0 0 0 0 false (0,0) [],U.eq (fun n=>lL n ..) (U.no rfl ?_),by rw [Mt];omega,fun _ _ h=>sR (Wj (by decide)) (by decide) (by decide) h⟩
  exact U.J2 (Q:=fun r=>r=(false,[.Z 9 [],.int .i64 0,.Z 9 [],.int .i64 0,.int .i64 0,.int .i64 0,.int .i64 0,.int .i64 0,.int .i64 0,.int .i64 0,.bool false,.int .i64 0,.Z 1 [],.Z 9 []])) (U.eq (fun n=>iX n ..) (U.no rfl (U.ret rfl))) (fun ds h=>by cases h) fun ds h=>by cases h;exact U.H5 rfl (U.ret rfl)
 |t::u::r,hl,el=>
  have loop:∀ (k j:Nat) (w:Int),(t::u::r).length-j=k→j≤(t::u::r).length→
    U (fun n=>T6 n (.Z 9 (O7 (t::u::r))) w (.Z 9 (O7 (t::u::r))) ((O7 (t::u::r)).length:Int) (j:Int) (0:Int) (0:Int) (0:Int) (0:Int) (0:Int) (.bool false) (0:Int) (.Z 1 []) (.Z 9 [])) fun z=>∃ w' j':Int,z=(false,[.Z 9 (O7 (t::u::r)),.int .i64 w',.Z 9 (O7 (t::u::r)),.int .i64 ((O7 (t::u::r)).length:Int),.int .i64 j',.int .i64 0,.int .i64 0,.int .i64 0,.int .i64 0,.int .i64 0,.bool false,.int .i64 0,.Z 1 [],.Z 9 []]):=by
   intro k
   induction k with
   |zero=>
    intro j w hk hj
    exact U.eq (fun n=>iX n ..) (U.no (E6 (by rw [el];omega)) (U.ret ⟨w,j,rfl⟩))
   |succ k ih=>
    intro j w hk hj
    have hj2:j<(t::u::r).length:=by omega
    have hj3:j<(O7 (t::u::r)).length:=by rw [el];exact hj2
    have hw:IntKind.i64.wrap ((j:Int)+1)=((j+1:Nat):Int):=J9 (by omega)
    refine U.eq (fun n=>iX n ..) (U.H5 (E4 (by rw [el];omega)) (U.H5 (J8 hj3) ?_))
    rw [hw,E1,oD _ j hj2]
    exact U.H5 (xQ _) (ih (j+1) _ (by omega) hj2)
  have hlp:=loop _ 0 0 rfl (C4 _)
  have ex:∃ w:Int,U (fun n=>T6 n (.Z 9 (O7 (t::u::r))) (0:Int) (.Z 9 (O7 (t::u::r))) ((O7 (t::u::r)).length:Int) ((0:Nat):Int) (0:Int) (0:Int) (0:Int) (0:Int) (0:Int) (.bool false) (0:Int) (.Z 1 []) (.Z 9 [])) fun z=>∃ j':Int,z=(false,[.Z 9 (O7 (t::u::r)),.int .i64 w,.Z 9 (O7 (t::u::r)),.int .i64 ((O7 (t::u::r)).length:Int),.int .i64 j',.int .i64 0,.int .i64 0,.int .i64 0,.int .i64 0,.int .i64 0,.bool false,.int .i64 0,.Z 1 [],.Z 9 []]):=by
   obtain⟨z,⟨w',j',hz⟩,hz2⟩:=hlp
   exact⟨w',z,⟨j',hz⟩,hz2⟩
  obtain⟨w,hlp⟩:=ex
  have hne:(((O7 (t::u::r)).length:Int)==1)=false:=by
   rw [el,E9]
   simp only [A0];omega
  refine⟨.mk 9 0 w 0 0 false (0,0) (t::u::r),U.eq (fun n=>lL n ..) (U.no hne (U.J2 hlp (fun ds h=>by obtain⟨_,h⟩:=h;cases h) fun ds h=>?_)),by unfold L6;omega,fun _ _ h=>sR (Wj (by omega)) (by decide) (by decide) h⟩
  obtain⟨_,h⟩:=h
  cases h
  exact U.H5 rfl (U.ret rfl)
theorem Gi (t:TE)(a:Int)(l:List Int):U (fun n=>gE n (enc t) a (.Z 1 (l.map iI))) fun z=>∃ a':Int,z=(true,[.int .i64 a',.Z 1 (l.map iI)]):=by
 obtain⟨k,o,wd,sg,lo,sn,v,ts⟩:=t
 have no:U (fun n=>eZ n false sg (l.map iI) a) fun z=>∃ a':Int,z=(true,[.int .i64 a',.Z 1 (l.map iI)]):=M1 (fun n=>eZ.eq_1 n ..) (U.no rfl (U.ret ⟨_,rfl⟩))
 refine U.eq (fun n=>HO n ..) (U.P7 (fun _=>U.P7 (fun h=>?_) fun _=>no) fun _=>no)
 have h:=E5 h
 cases h2:decide (sg<((l.map iI).length:Int)) with
 |false=>exact no
 |true=>
  have h3:=E5 h2
  obtain⟨q,hq⟩:=Ay (P:=fun y=>∃ q:Int,y = .int .i64 q) (xs:=l.map iI) (fun x hx=>by obtain⟨q,_,rfl⟩:=List.mem_map.1 hx;exact⟨q,rfl⟩) h h3
  refine M1 (fun n=>eZ.eq_1 n ..) (U.H5 rfl (U.H5 (N7 (E4 h) h2) ?_))
  rw [hq]
  exact U.H5 rfl (U.ret ⟨_,rfl⟩)
theorem Ct {k op wd sg lo:Int}{sn:Bool}{v:Nat×Nat}{ts:List TE}(l:List Int)(hs:∀ i (h:i<ts.length),∀ a:Int,U (fun n=>Y5 n (enc ts[i]) a (.Z 1 (l.map iI))) fun z=>∃ a':Int,z=(true,[.int .i64 a',.Z 1 (l.map iI)]))(hb:ts.length≤4611686018427387903)(a:Int) :
  U (fun n=>Y5 n (enc (.mk k op wd sg lo sn v ts)) a (.Z 1 (l.map iI))) fun z=>∃ a':Int,z=(true,[.int .i64 a',.Z 1 (l.map iI)]):=by
 have el:=eI ts
 have loop:∀ (q j:Nat) (a:Int),ts.length-j=q→j≤ts.length→U (fun n=>aQ n (.Z 9 (O7 ts)) ((O7 ts).length:Int) (j:Int) a (.Z 1 (l.map iI))) fun z=>∃ j' a':Int,z=(false,[.Z 9 (O7 ts),.int .i64 ((O7 ts).length:Int),.int .i64 j',.int .i64 a',.Z 1 (l.map iI)]):=by
  intro q
  induction q with
  |zero=>
   intro j a hk hj
   exact U.eq (fun n=>rP n ..) (U.no (E6 (by rw [el];omega)) (U.ret ⟨j,a,rfl⟩))
  |succ q ih=>
   intro j a hk hj
   have hj2:j<ts.length:=by omega
   have hj3:j<(O7 ts).length:=by rw [el];exact hj2
   have hw:IntKind.i64.wrap ((j:Int)+1)=((j+1:Nat):Int):=J9 (by omega)
   refine U.eq (fun n=>rP n ..) (U.H5 (E4 (by rw [el];omega)) (U.H5 (J8 hj3) ?_))
   rw [hw,E1,oD _ j hj2]
   show U (fun n=>bif I5 H2&&K0 H2 (enc ts[j]) then AE.H3 (Y5 n (H7 H2 (enc ts[j])) _ _) _ else _) _
   rw [M3]
   refine U.H5 (xQ _) (U.H3 (hs j hj2 a) ?_)
   rintro _ _ ⟨a',h⟩;cases h
   exact⟨rfl,U.H5 rfl (ih (j+1) a' (by omega) hj2)⟩
 refine U.eq (fun n=>JP n ..) (U.H3 (Gi (.mk k op wd sg lo sn v ts) a l) ?_)
 rintro _ _ ⟨a',h⟩;cases h
 refine⟨rfl,U.H5 rfl (U.J2 (loop ts.length 0 a' rfl (C4 _)) (fun ds h=>by obtain⟨_,_,h⟩:=h;cases h) fun ds h=>?_)⟩
 obtain⟨_,a2,h⟩:=h
 cases h
 exact U.H5 rfl (U.ret ⟨a2,rfl⟩)
mutual
theorem ZO (l:List Int):∀ t:TE,L6 t≤4611686018427387903→∀ a:Int,U (fun n=>Y5 n (enc t) a (.Z 1 (l.map iI))) fun z=>∃ a':Int,z=(true,[.int .i64 a',.Z 1 (l.map iI)])
 | .mk k op wd sg lo sn v ts,h=>by
  have h1:=yG ts
  have h2:L6 (.mk k op wd sg lo sn v ts)=1+cG ts:=by unfold L6;rfl
  exact Ct l (fun i hi=>RY l ts (by omega) i hi) (by omega)
theorem RY (l:List Int):∀ (ts:List TE),cG ts≤4611686018427387903→∀ i (h:i<ts.length) (a:Int),U (fun n=>Y5 n (enc ts[i]) a (.Z 1 (l.map iI))) fun z=>∃ a':Int,z=(true,[.int .i64 a',.Z 1 (l.map iI)])
 |[],_,i,h,_=>by cases h
 |t::r,hs,0,_,a=>by
  have h:cG (t::r)=L6 t+cG r:=by simp only [cG]
  exact ZO l t (by omega) a
 |t::r,hs,i+1,h,a=>by
  have h2:cG (t::r)=L6 t+cG r:=by simp only [cG]
  exact RY l r (by omega) i (by simpa using h) a
end
theorem Kk {v:TE}(hv:L6 v≤4611686018427387903){ts:List TE}(ht:ts.length≤1000000)(hs:∀ t∈ts,L6 t≤4611686018427387903):U (fun n=>cB n (enc v) (.Z 9 (O7 ts))) fun z=>∃ a:Int,z=(true,[.int .i64 a]):=by
 have el:=eI ts
 obtain⟨k,op,wd,sg,lo,sn,vv,vs⟩:=v
 have loop:∀ (q j:Nat) (l:List Int),ts.length-j=q→j≤ts.length→l.length=ts.length→
   U (fun n=>aI n (.Z 9 (O7 ts)) ((O7 ts).length:Int) (j:Int) k op wd sg lo (.bool sn) (vv.1:Int) (.Z 1 (wz vv)) (.Z 9 (O7 vs)) (.Z 1 (l.map iI))) fun z=>∃ (j':Int) (l':List Int),z=(false,[.Z 9 (O7 ts),.int .i64 ((O7 ts).length:Int),.int .i64 j',.int .i64 k,.int .i64 op,.int .i64 wd,.int .i64 sg,.int .i64 lo,.bool sn,.int .i64 (vv.1:Int),.Z 1 (wz vv),.Z 9 (O7 vs),.Z 1 (l'.map iI)]):=by
  intro q
  induction q with
  |zero=>
   intro j l hk hj hl
   exact U.eq (fun n=>sN n ..) (U.no (E6 (by rw [el];omega)) (U.ret ⟨j,l,rfl⟩))
  |succ q ih=>
   intro j l hk hj hl
   have hj2:j<ts.length:=by omega
   have hj3:j<(O7 ts).length:=by rw [el];exact hj2
   have hj4:j<(l.map iI).length:=by rw [List.length_map,hl];exact hj2
   have hw:IntKind.i64.wrap ((j:Int)+1)=((j+1:Nat):Int):=J9 (by omega)
   refine U.eq (fun n=>sN n ..) (U.H5 (E4 (by rw [el];omega)) (U.H5 (J8 hj3) ?_))
   rw [hw,E1,oD _ j hj2]
   show U (fun n=>bif I5 H2&&K0 H2 (enc ts[j]) then AE.H3 (W6 n (H7 H2 (enc ts[j]))) _ else _) _
   rw [M3]
   refine U.H5 (xQ _) (H4 (EG ts[j] (hs _ (C6 hj2))) (U.H5 rfl (U.H5 (J8 hj4) ?_)))
   have e:(l.map iI).set j (L6 ts[j]:Int)=(l.set j (L6 ts[j]:Int)).map iI:=by rw [List.map_set];rfl
   show U (fun n=>aI n _ _ _ _ _ _ _ _ _ _ _ _ (.Z 1 ((l.map iI).set j (L6 ts[j]:Int)))) _
   rw [e]
   exact ih (j+1) _ (by omega) hj2 (by rw [List.length_set];exact hl)
 have e0:(List.replicate ((O7 ts).length:Int).toNat (D.int .i64 0))=(List.replicate ts.length (0:Int)).map iI:=by
  rw [E1,el,List.map_replicate];rfl
 refine U.eq (fun n=>OH n ..) (U.H5 (N7 (N7 (E4 (by omega)) (E4 (Int.le_refl _))) (E4 (by rw [el];show (ts.length:Int)≤68719476736;omega))) ?_)
 rw [e0]
 refine U.J2 (loop ts.length 0 _ rfl (C4 _) (by rw [List.length_replicate])) (fun ds h=>by obtain⟨_,_,h⟩:=h;cases h) fun ds h=>?_
 obtain⟨_,l',h⟩:=h
 cases h
 refine U.H5 rfl (U.H3 (ZO l' (.mk k op wd sg lo sn vv vs) hv 0) ?_)
 rintro _ _ ⟨a',h⟩;cases h
 exact⟨rfl,U.H5 rfl (U.ret ⟨a',rfl⟩)⟩
section
mutual
theorem ZA {ns:Nat}{M:Int→Prop}{args:List TE}(ha:∀ a∈args,Good ns M a):∀ t:TE,Good args.length (fun _=>False) t→Good ns M (iO args t)
 | .mk k op wd sg lo sn v ts,h=>by
  obtain⟨hv,ar,h3,hr,h0,hm,hg⟩:=h
  unfold iO
  by_cases k2:k=2
  ·have hr:=hr (.inl k2)
   rw [if_pos k2,if_pos hr,C2 (by omega)]
   exact ha _ (C6 _)
  ·rw [if_neg k2]
   by_cases k3:k=3
   ·exact (hm k3).elim
   ·exact⟨hv,by rw [zM];exact ar,fun h=>absurd h k3,fun h=>absurd h (fun h=>h.elim k2 k3),fun h=>absurd h k2,fun h=>absurd h k3,RQ ha ts hg⟩
theorem RQ {ns:Nat}{M:Int→Prop}{args:List TE}(ha:∀ a∈args,Good ns M a):∀ ts:List TE,kC args.length (fun _=>False) ts→kC ns M (jC args ts)
 |[],_=>trivial
 |t::r,h=>⟨ZA ha t h.1,RQ ha r h.2⟩
end
mutual
theorem ZB {args:List TE}{b:Nat}(hb:1≤b)(ha:∀ a∈args,L6 a≤b):∀ t:TE,L6 (iO args t)≤L6 t*b
 | .mk k op wd sg lo sn v ts=>by
  have hs:=RR hb ha ts
  have h1:L6 (.mk k op wd sg lo sn v ts)=1+cG ts:=by simp only [L6]
  have h2:L6 (.mk k op wd sg lo sn v ts)*b=b+cG ts*b:=by rw [h1,Nat.add_mul,Nat.one_mul]
  have h4:L6 (.mk k op wd sg lo sn v ts)≤L6 (.mk k op wd sg lo sn v ts)*b:=Nat.le_mul_of_pos_right _ (by omega)
  unfold iO
  by_cases k2:k=2
  ·rw [if_pos k2]
   by_cases hr:0≤sg∧sg<(args.length:Int)
   ·rw [if_pos hr,C2 (by omega)]
    have:=ha _ (C6 (show sg.toNat<args.length by omega))
    show L6 args[sg.toNat]≤_
    omega
   ·rw [if_neg hr];exact h4
  ·rw [if_neg k2]
   have h3:L6 (.mk k op wd sg lo sn v (jC args ts))=1+cG (jC args ts):=by simp only [L6]
   omega
theorem RR {args:List TE}{b:Nat}(hb:1≤b)(ha:∀ a∈args,L6 a≤b):∀ ts:List TE,cG (jC args ts)≤cG ts*b
 |[]=>by simp [jC,cG]
 |t::r=>by
  have h1:=ZB hb ha t
  have h2:=RR hb ha r
  simp only [jC,cG,Nat.add_mul]
  omega
end
def On:Nat→Nat
 |0=>1
 |d+1=>41000*On d
theorem SO:∀ d,1≤On d
 |0=>B9 _
 |d+1=>by have:=SO d;unfold On;omega
section
variable {T:List Th} {L:List D} {kf:D→KR} {ns:Nat} {M:Int→Prop}
def fI (T:List Th)(L:List D)(ns:Nat)(M:Int→Prop)(b:Nat)(s:Er)(z:Bool×List D):Prop:=∃ (t:TE) (s':Er) (m':Int),z=(true,enc t::rs T L s' m')∧AB s s'∧L6 t≤b∧(s'.e=0→Good ns M t)
def CM (T:List Th)(L:List D)(kf:D→KR)(ns:Nat)(M:Int→Prop)(b:Nat)(d:Nat)(x:D):Prop:=∀ (w:Int) (g:Bool) (s:Er) (m:Int),(s.e=0→Fit T kf d x)→U (fun n=>J0 n x (.agg [.int .i64 w,.bool g]) (.Z 19 (T.map aL)) (.Z 2 L) (.int .i64 s.p) (.int .i64 s.q) (.int .i64 s.r) (.int .i64 s.e) m) (fI T L ns M b s)
theorem Po (a b c:Int)(t:TE)(s:Er)(m:Int):U (fun n=>J7 n (.agg [.int .i64 a,.int .i64 b,.int .i64 c]) (enc t) (.Z 19 (T.map aL)) (.Z 2 L) (.int .i64 s.p) (.int .i64 s.q) (.int .i64 s.r) (.int .i64 s.e) m) fun z=>∃ (s':Er) (m':Int),z=(true,enc t::rs T L s' m')∧AB s s':=by
 obtain⟨k,op,wd,sg,lo,sn,v,ts⟩:=t
 refine U.eq (fun n=>vG n ..) (U.P7 (fun h=>?_) fun h=>U.ret ⟨s,_,rfl,fun h=>h⟩)
 refine U.H3 (pN a b c (x:=19) (by decide) s _) ?_
 rintro _ _ ⟨s5,h,he⟩;cases h
 exact⟨rfl,U.H5 rfl (U.ret ⟨s5,_,rfl,fun _=>he⟩)⟩
theorem De (t:TE):I7 dR.H9 [enc t]=true:=by cases t;rfl
theorem X3 (t:TE)(s:Er)(m:Int):I7 J7.H9 (enc t::rs T L s m)=true:=by cases t;rfl
theorem aD {P:Bool×List D→Prop}{t:TE}{r:List D}(h:P (true,enc t::r)):U (fun _=>some (true,H7 H2 (enc t)::r)) P:=by
 rw [M3];exact U.ret h
section
variable (W:Sc T L kf ns M)
include W
theorem xU {d:Nat}{x:D}(hx:rS d x){b:Nat}(he:CM T L kf ns M b d x)(s:Er)(m:Int):U (fun n=>J6 n x (.Z 19 (T.map aL)) (.Z 2 L) (.int .i64 s.p) (.int .i64 s.q) (.int .i64 s.r) (.int .i64 s.e) m) (fI T L ns M b s):=by
 have hs:=EW W d x hx
 obtain⟨k,a,b',c,t,xs,rfl⟩:=P6 hx
 refine U.eq (fun n=>wC n ..) (U.H3 (hs s m) ?_)
 rintro _ _ ⟨w,g,s1,h,hs1,hw⟩;cases h
 refine⟨rfl,U.H5 rfl (U.H3 (he w g s1 m fun h=>(hw h).2.2) ?_)⟩
 rintro _ _ ⟨t',s2,m2,h,hs2,hz,hg⟩;cases h
 exact⟨rfl,U.H5 (X3 t' s2 m2) (aD ⟨t',s2,m2,rfl,hs1.tr hs2,hz,hg⟩)⟩
theorem Eb {d:Nat}{xs:List D}(hx:∀ y∈xs,rS d y){b:Nat}(he:∀ y∈xs,CM T L kf ns M b d y)(hl:xs.length≤1000)(s:Er)(m:Int):U (fun n=>R6 n (.Z 6 xs) (.Z 19 (T.map aL)) (.Z 2 L) (.int .i64 s.p) (.int .i64 s.q) (.int .i64 s.r) (.int .i64 s.e) m) fun z=>∃ (ts:List TE) (s':Er) (m':Int),z=(true,rs T L s' m'++[.Z 9 (O7 ts)])∧AB s s'∧ts.length=xs.length∧cG ts≤xs.length*b∧(s'.e=0→kC ns M ts):=by
 have loop:∀ (q j:Nat) (ts:List TE) (s:Er) (m:Int),xs.length-j=q→j≤xs.length→ts.length=j→cG ts≤j*b→(s.e=0→kC ns M ts)→
   U (fun n=>O6 n (.Z 6 xs) (xs.length:Int) (j:Int) (.Z 19 (T.map aL)) (.Z 2 L) (.int .i64 s.p) (.int .i64 s.q) (.int .i64 s.r) (.int .i64 s.e) m (.Z 9 (O7 ts))) fun z=>∃ (ts':List TE) (j':Int) (s':Er) (m':Int),z=(false,.Z 6 xs :: .int .i64 (xs.length:Int) :: .int .i64 j'::(rs T L s' m'++[.Z 9 (O7 ts')]))∧AB s s'∧ts'.length=xs.length∧cG ts'≤xs.length*b∧(s'.e=0→kC ns M ts'):=by
  intro q
  induction q with
  |zero=>
   intro j ts s m hk hj hl hz hg
   have:j=xs.length:=by omega
   subst this
   exact U.eq (fun n=>kF n ..) (U.no (E6 (by omega)) (U.ret ⟨ts,_,s,m,rfl,fun h=>h,hl,hz,hg⟩))
  |succ q ih=>
   intro j ts s m hk hj hlt hz hg
   have hj2:j<xs.length:=by omega
   have hw:IntKind.i64.wrap ((j:Int)+1)=((j+1:Nat):Int):=J9 (by omega)
   have hm:=C6 hj2
   obtain⟨o1,o2⟩:=MM (P6 (hx _ hm))
   refine U.eq (fun n=>kF n ..) (U.H5 (E4 (by omega)) (U.H5 (J8 hj2) ?_))
   rw [W7 hj2,hw,o2]
   refine U.H5 o1 (U.H3 (xU W (hx _ hm) (he _ hm) s m) ?_)
   rintro _ _ ⟨t',s1,m1,h,hs1,hz1,hg1⟩;cases h
   refine⟨rfl,U.H5 (X3 t' s1 m1) (U.H5 (B2 (by rw [eI,hlt];simp only [J5];omega)) ?_)⟩
   have e:O7 ts++[H7 H2 (enc t')]=O7 (ts++[t']):=by rw [M3,lO];rfl
   show U (fun n=>O6 n _ _ _ _ _ _ _ _ _ _ (.Z 9 (O7 ts++[H7 H2 (enc t')]))) _
   rw [e]
   refine (ih (j+1) (ts++[t']) s1 m1 (by omega) hj2 (by rw [A7,hlt];rfl) ?_ fun h=>?_).mono ?_
   ·rw [OA,Nat.add_mul]
    simp only [cG];omega
   ·refine iT.2 fun t ht=>?_
    rcases D3.1 ht with ht|ht
    ·exact iT.1 (hg (hs1.of h)) t ht
    ·rw [C3.1 ht];exact hg1 h
   ·rintro _ ⟨ts',j',s',m',rfl,h1,h2,h3,h4⟩
    exact⟨ts',j',s',m',rfl,hs1.tr h1,h2,h3,h4⟩
 refine U.eq (fun n=>vI n ..) (U.J2 (loop xs.length 0 [] s m rfl (C4 _) rfl (by simp [cG]) (fun _=>trivial)) (fun ds h=>by obtain⟨_,_,_,_,h,_⟩:=h;cases h) fun ds h=>?_)
 obtain⟨ts',j',s',m',h,h1,h2,h3,h4⟩:=h
 cases h
 exact U.H5 rfl (U.ret ⟨ts',s',m',rfl,h1,h2,h3,h4⟩)
theorem HT {d:Nat}{x:D}(hx:rS d x){b:Nat}(he:CM T L kf ns M b d x)(w:Int)(s:Er)(m:Int):U (fun n=>P2 n x w (.Z 19 (T.map aL)) (.Z 2 L) (.int .i64 s.p) (.int .i64 s.q) (.int .i64 s.r) (.int .i64 s.e) m) (fI T L ns M (b+1) s):=by
 have hs:=EW W d x hx
 obtain⟨k,a,b',c,t,xs,rfl⟩:=P6 hx
 refine U.eq (fun n=>rL n ..) (U.H3 (hs s m) ?_)
 rintro _ _ ⟨w1,g,s1,h,hs1,hw⟩;cases h
 refine⟨rfl,U.H5 rfl (U.H3 (he (max w1 w) g s1 m fun h=>(hw h).2.2) ?_)⟩
 rintro _ _ ⟨t',s2,m2,h,hs2,hz,hg⟩;cases h
 have j:∀ q:Bool,U (fun n=>bP n q (enc t'::rs T L s2 m2) w) (fI T L ns M (b+1) s):=by
  intro q
  refine M1 (fun n=>bP.eq_1 n ..) ?_
  cases q with
  |true=>exact U.H5 rfl (aD ⟨t',s2,m2,rfl,hs1.tr hs2,by omega,hg⟩)
  |false=>
   obtain⟨t2,p1,p2,p3⟩:=EO t' 0 w
   refine U.no rfl ?_
   show U (fun n=>AE.H3 (V0 n (H7 H2 (enc t')) _ _) _) _
   rw [M3]
   exact H4 p1 (U.H5 (Jp t2) (aD ⟨t2,s2,m2,rfl,hs1.tr hs2,by omega,fun h=>p3 _ _ (hg h)⟩))
 exact⟨rfl,U.H5 (X3 t' s2 m2) (U.P7 (fun _=>j true) fun _=>j _)⟩
theorem Fz {d:Nat}{xs:List D}(hx:∀ y∈xs,rS d y){b:Nat}(hb:1≤b)(hb2:b≤4000000000000000000)(he:∀ y∈xs,CM T L kf ns M b d y)(hl:xs.length≤1000)(a p c:Int){t:F9}(ht:t∈QD)(s:Er)(h0:s.e=0)(hf:Fit T kf (d+1) (cC 10 a p c t xs))(m:Int):U (fun n=>T9 n (cC 10 a p c t xs) (.Z 19 (T.map aL)) (.Z 2 L) (.int .i64 s.p) (.int .i64 s.q) (.int .i64 s.r) (.int .i64 s.e) m) (fI T L ns M (20000*(b+1)) s):=by
 obtain⟨k',a',b',c',t',xs',he',f2,f8,f7,f10,fy,fr⟩:=hf
 cases he'
 obtain⟨p1,p2⟩:=f10 rfl
 have fy:=fy (by decide) (by decide)
 refine U.eq (fun n=>sW n ..) (H4 (Me ht) (U.H5 rfl ?_))
 cases hp:IV t with
 |true=>
  obtain⟨x,rfl⟩:∃ x,xs=[x]:=by
   match xs,p1 hp with
   |[x],_=>exact⟨x,rfl⟩
  have ho:=xU W (hx x (by simp)) (he x (by simp)) s m
  obtain⟨k1,a1,b1,d1,t1,xs1,rfl⟩:=P6 (hx x (by simp))
  refine U.H5 rfl (U.H5 rfl (U.H5 rfl (U.H3 ho ?_)))
  rintro _ _ ⟨t',s2,m2,h,hs2,hz,hg⟩;cases h
  exact⟨rfl,U.H5 (X3 t' s2 m2) (aD ⟨t',s2,m2,rfl,hs2,by omega,hg⟩)⟩
 |false=>
  obtain⟨q1,q2⟩:=p2 hp
  have hfn:=W.fn t q1
  refine U.no rfl (H4 (pH W.len L t) (U.H5 rfl ?_))
  generalize ((aA t T).getD vB)=u at q1 q2 hfn ⊢
  obtain⟨_,_,⟨v,hv,hgv,hzv⟩,hps⟩:=hfn
  have loop:∀ (q j:Nat) (ts:List TE) (s1:Er) (m:Int),xs.length-j=q→j≤xs.length→ts.length=j→(∀ t∈ts,L6 t≤b+1)→AB s s1→(s1.e=0→kC ns M ts)→
    U (fun n=>N4 n (.Z 6 xs) (xs.length:Int) (j:Int) (.Z 19 (T.map aL)) (.Z 2 L) (.int .i64 s1.p) (.int .i64 s1.q) (.int .i64 s1.r) (.int .i64 s1.e) m (10:Int) a p c (.str t) (.Z 6 xs) (0:Int) (0:Int) (0:Int) (0:Int) (0:Int) (.bool false) (0:Int) (.Z 4 u.ps) (.int .i64 u.fw) (.bool u.fb) (.int .i64 u.vk) (.int .i64 u.vo) (.int .i64 u.vw) (.int .i64 u.vg) (.int .i64 u.vl) (.bool u.vb) (.int .i64 u.vn) (.Z 1 u.vs) (.Z 9 u.va) (.Z 9 (O7 ts)) (.Z 1 []) (.Z 9 [])) fun z=>∃ (ts':List TE) (j':Int) (s':Er) (m':Int),z=(false,[.Z 6 xs,.int .i64 (xs.length:Int),.int .i64 j',.Z 19 (T.map aL),.Z 2 L,.int .i64 s'.p,.int .i64 s'.q,.int .i64 s'.r,.int .i64 s'.e,.int .i64 m',.int .i64 10,.int .i64 a,.int .i64 p,.int .i64 c,.str t,.Z 6 xs,.int .i64 0,.int .i64 0,.int .i64 0,.int .i64 0,.int .i64 0,.bool false,.int .i64 0,.Z 4 u.ps,.int .i64 u.fw,.bool u.fb,.int .i64 u.vk,.int .i64 u.vo,.int .i64 u.vw,.int .i64 u.vg,.int .i64 u.vl,.bool u.vb,.int .i64 u.vn,.Z 1 u.vs,.Z 9 u.va,.Z 9 (O7 ts'),.Z 1 [],.Z 9 []])∧AB s s'∧ts'.length=xs.length∧(∀ t∈ts',L6 t≤b+1)∧(s'.e=0→kC ns M ts'):=by
   intro q
   induction q with
   |zero=>
    intro j ts s1 m hk hj hl hz hs1 hg
    have:j=xs.length:=by omega
    subst this
    exact U.eq (fun n=>jD n ..) (U.no (E6 (by omega)) (U.ret ⟨ts,_,s1,m,rfl,hs1,hl,hz,hg⟩))
   |succ q ih=>
    intro j ts s1 m hk hj hlt hz hs1 hg
    have hj2:j<xs.length:=by omega
    have hj3:j<u.ps.length:=by omega
    have hw:IntKind.i64.wrap ((j:Int)+1)=((j+1:Nat):Int):=J9 (by omega)
    have hm:=C6 hj2
    obtain⟨o1,o2⟩:=MM (P6 (hx _ hm))
    obtain⟨nm,w,bb,kk,hsg⟩:=hps _ (C6 hj3)
    refine U.eq (fun n=>jD n ..) (U.H5 (E4 (by omega)) (U.H5 (J8 hj2) ?_))
    rw [W7 hj2,W7 hj3,hw,o2,hsg]
    refine U.H5 o1 (U.H5 (J8 hj3) (U.H5 rfl (U.H5 rfl (U.H3 (HT W (hx _ hm) (he _ hm) w s1 m) ?_))))
    rintro _ _ ⟨t',s2,m2,h,hs2,hz1,hg1⟩;cases h
    refine⟨rfl,U.H5 (X3 t' s2 m2) (U.H5 (B2 (by rw [eI,hlt];simp only [J5];omega)) ?_)⟩
    have e:O7 ts++[H7 H2 (enc t')]=O7 (ts++[t']):=by rw [M3,lO];rfl
    show U (fun n=>N4 n _ _ _ _ _ _ _ _ _ _ _ _ _ _ _ _ _ _ _ _ _ _ _ _ _ _ _ _ _ _ _ _ _ _ _ (.Z 9 (O7 ts++[H7 H2 (enc t')])) _ _) _
    rw [e]
    refine ih (j+1) (ts++[t']) s2 m2 (by omega) hj2 (by rw [A7,hlt];rfl) (fun t ht=>?_) (hs1.tr hs2) fun h=>?_
    ·rcases D3.1 ht with ht|ht
     ·exact hz t ht
     ·rw [C3.1 ht];exact hz1
    ·refine iT.2 fun t ht=>?_
     rcases D3.1 ht with ht|ht
     ·exact iT.1 (hg (hs2.of h)) t ht
     ·rw [C3.1 ht];exact hg1 h
  refine U.J2 (loop xs.length 0 [] s m rfl (C4 _) rfl (fun t h=>by cases h) (fun h=>h) (fun _=>trivial)) (fun ds h=>by obtain⟨_,_,_,_,h,_⟩:=h;cases h) fun ds h=>?_
  obtain⟨ts,j',s1,m1,h,hs1,hlt,hz,hg⟩:=h
  cases h
  refine U.H5 rfl ?_
  show U (fun n=>AE.H3 (cB n (Ni u) (.Z 9 (O7 ts))) fun r4=>bif (I7 cB.H9 r4&&cS cB.H9 r4) then (bif decide (IntKind.i64.wrap (m1+(Y r4 0).i)>20000) then _ else AE.H3 (T8 n (Ni u) (.Z 9 (O7 ts))) _) else _) _
  rw [hv]
  refine U.H3 (Kk (v:=v) (by omega) (ts:=ts) (by omega) (fun t ht=>by have:=hz t ht;omega)) ?_
  rintro _ _ ⟨a4,h⟩;cases h
  refine⟨rfl,U.H5 rfl (U.P7 (fun _=>?_) fun _=>?_)⟩
  ·refine U.H3 (pN a p c (x:=19) (by decide) s1 _) ?_
   rintro _ _ ⟨s5,h,he⟩;cases h
   exact⟨rfl,U.H5 rfl (U.ret ⟨.mk 0 0 0 0 0 false (0,0) [],s5,_,rfl,fun _=>he,by rw [Mt];omega,fun h=>absurd h he⟩)⟩
  ·refine H4 (NZ (args:=ts) v hgv) (U.H5 (Dd _) (aD ⟨iO ts v,s1,_,rfl,hs1,?_,fun h=>ZA (iT.1 (hg h)) v ?_⟩))
   ·exact Nat.le_trans (ZB (by omega) hz v) (Nat.mul_le_mul_right _ hzv)
   ·rw [hlt,← q2];exact hgv
end
end
end
section
section
variable {T:List Th} {L:List D} {kf:D→KR} {ns:Nat} {M:Int→Prop}
theorem Sl (t:TE):I7 aX.H9 [enc t]=true:=by cases t;rfl
theorem QG (t:TE):I7 M8.H9 [enc t]=true:=by cases t;rfl
theorem Jq (t:TE):I7 Z1.H9 [enc t]=true:=by cases t;rfl
theorem Ul (t:TE):I7 eU.H9 [enc t]=true:=by cases t;rfl
theorem Um (t:TE):I7 X5.H9 [enc t]=true:=by cases t;rfl
theorem Al (t:TE)(g:Bool)(s:Er)(m:Int):I7 U0.H9 (enc t :: .bool g::rs T L s m)=true:=by cases t;rfl
section
variable (W:Sc T L kf ns M)
include W
theorem Mn {d:Nat}{x y:D}(hx:rS d x)(hy:rS d y){b:Nat}(hex:CM T L kf ns M b d x)(hey:CM T L kf ns M b d y)(k a p c:Int){t:F9}(ht:0<t.length)(w:Int)(g:Bool)(s:Er)(hf:s.e=0→Fit T kf d x)(m:Int):U (fun n=>L2 n (cC k a p c t [x,y]) (.agg [.int .i64 w,.bool g]) (.Z 19 (T.map aL)) (.Z 2 L) (.int .i64 s.p) (.int .i64 s.q) (.int .i64 s.r) (.int .i64 s.e) m) (fI T L ns M (2*b+4) s):=by
 have ho:=fun s m=>xU W hy hey s m
 have hx1:=hex w g s m hf
 obtain⟨k1,a1,b1,d1,t1,xs1,rfl⟩:=P6 hx
 obtain⟨k2,a2,b2,d2,t2,xs2,rfl⟩:=P6 hy
 have j:∀ op:Int,U (fun n=>Y7 n op [cC k1 a1 b1 d1 t1 xs1,cC k2 a2 b2 d2 t2 xs2] w g (T.map aL) L s.p s.q s.r s.e m) (fI T L ns M (2*b+4) s):=by
  intro op
  refine M1 (fun n=>Y7.eq_1 n ..) (U.H5 rfl (U.H5 rfl (U.H3 hx1 ?_)))
  rintro _ _ ⟨u1,s1,m1,h,hs1,hz1,hg1⟩;cases h
  refine⟨rfl,U.H5 (X3 u1 s1 m1) (U.H5 rfl (U.H5 rfl (U.H3 (ho s1 m1) ?_)))⟩
  rintro _ _ ⟨u2,s2,m2,h,hs2,hz2,hg2⟩;cases h
  refine⟨rfl,U.H5 (X3 u2 s2 m2) ?_⟩
  obtain⟨u3,p3,z3,g3⟩:=VS u1 (max ((enc u1).at_ 2).i ((enc u2).at_ 2).i) (op==12)
  obtain⟨u4,p4,z4,g4⟩:=VS u2 (max ((enc u1).at_ 2).i ((enc u2).at_ 2).i) false
  obtain⟨u5,p5,z5,g5⟩:=HL op u3 u4
  obtain⟨u6,p6,z6,g6⟩:=EO u5 0 (max ((enc u1).at_ 2).i 1)
  show U (fun n=>AE.H3 (aX n (H7 H2 (enc u1)) _ _) _) _;rw [M3]
  refine H4 p3 (U.H5 (Sl u3) ?_)
  show U (fun n=>AE.H3 (aX n (H7 H2 (enc u2)) _ _) _) _;rw [M3]
  refine H4 p4 (U.H5 (Sl u4) ?_)
  show U (fun n=>AE.H3 (M8 n _ (H7 H2 (enc u3)) (H7 H2 (enc u4))) _) _
  rw [M3,M3]
  refine H4 p5 (U.H5 (QG u5) ?_)
  show U (fun n=>AE.H3 (V0 n (H7 H2 (enc u5)) _ _) _) _;rw [M3]
  exact H4 p6 (U.H5 (Jp u6) (aD ⟨u6,s2,m2,rfl,hs1.tr hs2,by omega,fun h=>g6 _ _ (g5 _ _ (g3 _ _ (hg1 (hs2.of h))) (g4 _ _ (hg2 h)))⟩))
 exact U.eq (fun n=>tV n ..) (U.H5 (N7 rfl (E4 (by omega))) (U.P7 (fun _=>j 10) fun _=>U.P7 (fun _=>U.P7 (fun _=>j 12) fun _=>j 11) fun _=>j 11))
def Fh (T:List Th)(L:List D)(ns:Nat)(M:Int→Prop)(b:Nat)(s:Er)(m:Int)(z:Bool×List D):Prop:=∃ (t:TE) (q:Bool) (s':Er) (m':Int),z=(true,enc t :: .bool q::rs T L s' m')∧AB s s'∧L6 t≤b∧(q=true→s'.e=0→Good ns M t)∧(q=false→s'=s∧m'=m)
omit W in
theorem Td {t:F9}(ht:t∈YH):0<t.length:=by
 simp only [YH,B7,List.not_mem_nil,or_false] at ht
 rcases ht with rfl|rfl|rfl|rfl|rfl|rfl|rfl|rfl|rfl|rfl|rfl|rfl|rfl|rfl|rfl|rfl|rfl|rfl|rfl|rfl|rfl<;>decide
theorem Hz {d:Nat}{x y:D}(hx:rS d x)(hy:rS d y){b:Nat}(hex:CM T L kf ns M b d x)(hey:CM T L kf ns M b d y)(a p c:Int){t:F9}(ht:t∈YH)(w:Int)(g:Bool)(s:Er)(hf:s.e=0→Fit T kf d x∧Fit T kf d y)(m:Int):U (fun n=>U0 n (cC 4 a p c t [x,y]) (.agg [.int .i64 w,.bool g]) (.Z 19 (T.map aL)) (.Z 2 L) (.int .i64 s.p) (.int .i64 s.q) (.int .i64 s.r) (.int .i64 s.e) m) (Fh T L ns M (2*b+4) s m):=by
 have hsh:=Mn W hx hy hex hey 4 a p c (Td ht) w g s (fun h=>(hf h).1) m
 have hx1:=hex w g s m fun h=>(hf h).1
 obtain⟨k1,a1,b1,d1,t1,xs1,rfl⟩:=P6 hx
 obtain⟨k2,a2,b2,d2,t2,xs2,rfl⟩:=P6 hy
 have j3:∀ op:Int,U (fun n=>cY n op [cC k1 a1 b1 d1 t1 xs1,cC k2 a2 b2 d2 t2 xs2] w g (T.map aL) L s.p s.q s.r s.e m t) (Fh T L ns M (2*b+4) s m):=by
  intro op
  refine M1 (fun n=>cY.eq_1 n ..) (U.H5 rfl (U.H5 rfl (U.H3 hx1 ?_)))
  rintro _ _ ⟨u1,s1,m1,h,hs1,hz1,hg1⟩;cases h
  refine⟨rfl,U.H5 (X3 u1 s1 m1) (U.H5 rfl (U.H5 rfl (U.H3 (hey w g s1 m1 fun h=>(hf (hs1.of h)).2) ?_)))⟩
  rintro _ _ ⟨u2,s2,m2,h,hs2,hz2,hg2⟩;cases h
  refine⟨rfl,U.H5 (X3 u2 s2 m2) ?_⟩
  obtain⟨u5,p5,z5,g5⟩:=HL op u1 u2
  obtain⟨u6,p6,z6,g6⟩:=BT 0 u5
  show U (fun n=>AE.H3 (M8 n _ (H7 H2 (enc u1)) (H7 H2 (enc u2))) _) _
  rw [M3,M3]
  refine H4 p5 (U.H5 (QG u5) (U.P7 (fun _=>?_) fun _=>?_))
  ·show U (fun n=>AE.H3 (R5 n _ (H7 H2 (enc u5))) _) _;rw [M3]
   exact H4 p6 (U.H5 (KW u6) (aD ⟨u6,true,s2,m2,rfl,hs1.tr hs2,by omega,(fun _ h=>g6 _ _ (g5 _ _ (hg1 (hs2.of h)) (hg2 h))),fun h=>by cases h⟩))
  ·exact aD ⟨u5,true,s2,m2,rfl,hs1.tr hs2,by omega,(fun _ h=>g5 _ _ (hg1 (hs2.of h)) (hg2 h)),fun h=>by cases h⟩
 have j2:∀ (q:Bool) (op:Int),U (fun n=>aK n q op [cC k1 a1 b1 d1 t1 xs1,cC k2 a2 b2 d2 t2 xs2] w g (T.map aL) L s.p s.q s.r s.e m t) (Fh T L ns M (2*b+4) s m):=by
  intro q op
  refine M1 (fun n=>aK.eq_1 n ..) ?_
  cases q with
  |true=>exact U.H5 rfl (j3 _)
  |false=>exact U.no rfl (j3 _)
 have j1:∀ op:Int,U (fun n=>L7 n op (T.map aL) L s.p s.q s.r s.e m g [cC k1 a1 b1 d1 t1 xs1,cC k2 a2 b2 d2 t2 xs2] w t) (Fh T L ns M (2*b+4) s m):=by
  intro op
  refine M1 (fun n=>L7.eq_1 n ..) (U.P7 (fun _=>?_) fun _=>U.P7 (fun _=>U.P7 (fun _=>j2 true op) fun _=>j2 _ op) fun _=>j2 false op)
  exact U.ret ⟨.mk 0 0 0 0 0 false (0,0) [],false,s,m,rfl,fun h=>h,by rw [Mt];omega,(fun h=>by cases h),fun _=>⟨rfl,rfl⟩⟩
 have sh:U (fun n=>AE.H3 (L2 n (.agg [.int .i64 4,.int .i64 a,.int .i64 p,.int .i64 c,.str t,.Z 6 [cC k1 a1 b1 d1 t1 xs1,cC k2 a2 b2 d2 t2 xs2]]) (.agg [.int .i64 w,.bool g]) (.Z 19 (T.map aL)) (.Z 2 L) (.int .i64 s.p) (.int .i64 s.q) (.int .i64 s.r) (.int .i64 s.e) m) fun r1=>bif I7 L2.H9 r1 then some (true,[H7 H2 (Y r1 0),.bool true,.Z 19 (Y r1 1).l,.Z 2 (Y r1 2).l,.int .i64 (Y r1 3).i,.int .i64 (Y r1 4).i,.int .i64 (Y r1 5).i,.int .i64 (Y r1 6).i,.int .i64 (Y r1 7).i]) else none) (Fh T L ns M (2*b+4) s m):=by
  refine U.H3 hsh ?_
  rintro _ _ ⟨u,s2,m2,h,hs2,hz,hg⟩;cases h
  exact⟨rfl,U.H5 (X3 u s2 m2) (aD ⟨u,true,s2,m2,rfl,hs2,hz,(fun _=>hg),fun h=>by cases h⟩)⟩
 have j4:∀ q:Bool,U (fun n=>cZ n q (T.map aL) L s.p s.q s.r s.e m g [cC k1 a1 b1 d1 t1 xs1,cC k2 a2 b2 d2 t2 xs2] w t 4 a p c) (Fh T L ns M (2*b+4) s m):=by
  intro q
  refine M1 (fun n=>cZ.eq_1 n ..) ?_
  cases q with
  |true=>exact U.H5 rfl (j1 9)
  |false=>exact U.no rfl (U.P7 (fun _=>sh) fun _=>U.P7 (fun _=>sh) fun _=>U.P7 (fun _=>sh) fun _=>U.P7 (fun _=>sh) fun _=>j1 (-1))
 exact U.eq (fun n=>sY n ..) (U.P7 (fun _=>j1 0) fun _=>U.P7 (fun _=>j1 1) fun _=>U.P7 (fun _=>j1 2) fun _=>U.P7 (fun _=>j1 3) fun _=>U.P7 (fun _=>j1 4) fun _=>U.P7 (fun _=>j1 7) fun _=>U.P7 (fun _=>j1 8) fun _=>U.P7 (fun _=>j4 true) fun _=>j4 _)
theorem Bz {d:Nat}{x:D}(hx:rS d x){b:Nat}(hex:CM T L kf ns M b d x)(k a p c:Int)(t:F9)(ht:t∈Vi)(s:Er)(m:Int):U (fun n=>X2 n (cC k a p c t [x]) (.Z 19 (T.map aL)) (.Z 2 L) (.int .i64 s.p) (.int .i64 s.q) (.int .i64 s.r) (.int .i64 s.e) m) (fI T L ns M (b+2) s):=by
 have ho:=xU W hx hex s m
 have hp:∃ q:Bool,U (fun n=>Q6 n (.str t) (.str [126])) fun r=>r=(true,[.bool q]):=by
  have h:∃ q:Bool,U (fun n=>M5 n (.str t) (.str [126])) fun r=>r=(true,[.bool q]):=by
   cases h1:decide ((t.length:Int)≥(([126]:F9).length:Int)) with
   |false=>exact⟨false,U.eq (fun n=>bB n ..) (U.no h1 (U.ret rfl))⟩
   |true=>
    have h2:=E5 h1
    exact⟨_,U.eq (fun n=>bB n ..) (U.H5 h1 (U.H5 (N7 rfl (E4 (by omega))) (U.ret rfl)))⟩
  obtain⟨q,h⟩:=h
  exact⟨q,U.eq (fun n=>pG n ..) (H4 h (U.H5 rfl (U.ret rfl)))⟩
 obtain⟨q,hp⟩:=hp
 obtain⟨k1,a1,b1,d1,t1,xs1,rfl⟩:=P6 hx
 refine U.eq (fun n=>rZ n ..) (U.H5 rfl (U.H5 rfl (U.H3 ho ?_)))
 rintro _ _ ⟨u1,s1,m1,h,hs1,hz1,hg1⟩;cases h
 have j:∀ op:Int,U (fun n=>R7 n op (enc u1::rs T L s1 m1) t) (fI T L ns M (b+2) s):=by
  intro op
  obtain⟨u2,p2,z2,g2⟩:=BT op u1
  obtain⟨u3,p3,z3,g3⟩:=BT 0 u2
  refine M1 (fun n=>R7.eq_1 n ..) ?_
  show U (fun n=>AE.H3 (R5 n _ (H7 H2 (enc u1))) _) _;rw [M3]
  refine H4 p2 (U.H5 (KW u2) (H4 hp (U.H5 rfl ?_)))
  cases q with
  |true=>
   refine U.H5 rfl ?_
   show U (fun n=>AE.H3 (R5 n _ (H7 H2 (enc u2))) _) _;rw [M3]
   exact H4 p3 (U.H5 (KW u3) (aD ⟨u3,s1,m1,rfl,hs1,by omega,fun h=>g3 _ _ (g2 _ _ (hg1 h))⟩))
  |false=>exact U.no rfl (aD ⟨u2,s1,m1,rfl,hs1,by omega,fun h=>g2 _ _ (hg1 h)⟩)
 obtain⟨u2,p2,z2,g2⟩:=BT 5 u1
 refine⟨rfl,U.H5 (X3 u1 s1 m1) (U.P7 (fun _=>?_) fun _=>U.P7 (fun _=>j 2) fun _=>U.P7 (fun _=>j 2) fun _=>U.P7 (fun _=>j 3) fun _=>U.P7 (fun _=>j 3) fun _=>j 4)⟩
 show U (fun n=>AE.H3 (R5 n _ (H7 H2 (enc u1))) _) _;rw [M3]
 exact H4 p2 (U.H5 (KW u2) (aD ⟨u2,s1,m1,rfl,hs1,by omega,fun h=>g2 _ _ (hg1 h)⟩))
theorem WY {d:Nat}{x y:D}(hx:rS d x)(hy:rS d y){b:Nat}(hex:CM T L kf ns M b d x)(hey:CM T L kf ns M b d y)(k a p c:Int)(t:F9)(s:Er)(m:Int):U (fun n=>V2 n (cC k a p c t [x,y]) (.Z 19 (T.map aL)) (.Z 2 L) (.int .i64 s.p) (.int .i64 s.q) (.int .i64 s.r) (.int .i64 s.e) m) (fI T L ns M (2*b+3) s):=by
 have ho1:=xU W hx hex s m
 have ho2:=fun s m=>xU W hy hey s m
 have hs1:=fun s m=>EW W d x hx s m
 have hs2:=fun s m=>EW W d y hy s m
 obtain⟨k1,a1,b1,d1,t1,xs1,rfl⟩:=P6 hx
 obtain⟨k2,a2,b2,d2,t2,xs2,rfl⟩:=P6 hy
 have j:∀ q:Bool,U (fun n=>bQ n q [cC k1 a1 b1 d1 t1 xs1,cC k2 a2 b2 d2 t2 xs2] (T.map aL) L s.p s.q s.r s.e m t) (fI T L ns M (2*b+3) s):=by
  intro q
  refine M1 (fun n=>bQ.eq_1 n ..) ?_
  cases q with
  |true=>
   refine U.H5 rfl (U.H5 rfl (U.H5 rfl (U.H3 ho1 ?_)))
   rintro _ _ ⟨u1,s1,m1,h,hk1,hz1,hg1⟩;cases h
   refine⟨rfl,U.H5 (X3 u1 s1 m1) ?_⟩
   obtain⟨u2,p2,z2,g2⟩:=OD u1
   show U (fun n=>AE.H3 (Z1 n (H7 H2 (enc u1))) _) _;rw [M3]
   refine H4 p2 (U.H5 (Jq u2) (U.H5 rfl (U.H5 rfl (U.H3 (ho2 s1 m1) ?_))))
   rintro _ _ ⟨u3,s3,m3,h,hk3,hz3,hg3⟩;cases h
   refine⟨rfl,U.H5 (X3 u3 s3 m3) ?_⟩
   obtain⟨u4,p4,z4,g4⟩:=OD u3
   show U (fun n=>AE.H3 (Z1 n (H7 H2 (enc u3))) _) _;rw [M3]
   refine H4 p4 (U.H5 (Jq u4) ?_)
   obtain⟨u5,p5,z5,g5⟩:=HL 7 u2 u4
   obtain⟨u6,p6,z6,g6⟩:=HL 8 u2 u4
   refine U.P7 (fun _=>?_) fun _=>?_
   ·show U (fun n=>AE.H3 (M8 n _ (H7 H2 (enc u2)) (H7 H2 (enc u4))) _) _
    rw [M3,M3]
    exact H4 p5 (U.H5 (QG u5) (aD ⟨u5,s3,m3,rfl,hk1.tr hk3,by omega,fun h=>g5 _ _ (g2 _ _ (hg1 (hk3.of h))) (g4 _ _ (hg3 h))⟩))
   ·show U (fun n=>AE.H3 (M8 n _ (H7 H2 (enc u2)) (H7 H2 (enc u4))) _) _
    rw [M3,M3]
    exact H4 p6 (U.H5 (QG u6) (aD ⟨u6,s3,m3,rfl,hk1.tr hk3,by omega,fun h=>g6 _ _ (g2 _ _ (hg1 (hk3.of h))) (g4 _ _ (hg3 h))⟩))
  |false=>
   refine U.no rfl (U.H5 rfl (U.H5 rfl (U.H3 (hs1 s m) ?_)))
   rintro _ _ ⟨w1,g1,s1,h,hk1,hw1⟩;cases h
   refine⟨rfl,U.H5 rfl (U.H5 rfl (U.H5 rfl (U.H3 (hs2 s1 m) ?_)))⟩
   rintro _ _ ⟨w2,g2,s2,h,hk2,hw2⟩;cases h
   obtain⟨g,hj⟩:=GJ w1 g1 w2 g2
   refine⟨rfl,U.H5 rfl (H4 hj (U.H5 rfl (U.H5 rfl (U.H5 rfl (U.H3 (hex (max w1 w2) g s2 m fun h=>(hw1 (hk2.of h)).2.2) ?_)))))⟩
   rintro _ _ ⟨u4,s4,m4,h,hk4,hz4,hg4⟩;cases h
   refine⟨rfl,U.H5 (X3 u4 s4 m4) (U.H5 rfl (U.H5 rfl (U.H3 (hey (max w1 w2) g s4 m4 fun h=>(hw2 (hk4.of h)).2.2) ?_)))⟩
   rintro _ _ ⟨u5,s5,m5,h,hk5,hz5,hg5⟩;cases h
   have kk:AB s s5:=((hk1.tr hk2).tr hk4).tr hk5
   have two:∀ (op:Int) (swap:Bool),U (fun n=>AE.H3 (M8 n op (H7 H2 (bif swap then enc u5 else enc u4)) (H7 H2 (bif swap then enc u4 else enc u5))) fun r6=>bif I7 M8.H9 r6 then some (true,[H7 H2 (Y r6 0),.Z 19 (T.map aL),.Z 2 L,.int .i64 s5.p,.int .i64 s5.q,.int .i64 s5.r,.int .i64 s5.e,.int .i64 m5]) else none) (fI T L ns M (2*b+3) s):=by
    intro op swap
    cases swap with
    |true=>
     obtain⟨u6,p6,z6,g6⟩:=HL op u5 u4
     show U (fun n=>AE.H3 (M8 n _ (H7 H2 (enc u5)) (H7 H2 (enc u4))) _) _
     rw [M3,M3]
     exact H4 p6 (U.H5 (QG u6) (aD ⟨u6,s5,m5,rfl,kk,by omega,fun h=>g6 _ _ (hg5 h) (hg4 (hk5.of h))⟩))
    |false=>
     obtain⟨u6,p6,z6,g6⟩:=HL op u4 u5
     show U (fun n=>AE.H3 (M8 n _ (H7 H2 (enc u4)) (H7 H2 (enc u5))) _) _
     rw [M3,M3]
     exact H4 p6 (U.H5 (QG u6) (aD ⟨u6,s5,m5,rfl,kk,by omega,fun h=>g6 _ _ (hg4 (hk5.of h)) (hg5 h)⟩))
   have j2:∀ l m':Int,U (fun n=>bR n l m' t (enc u4::rs T L s4 m4) (enc u5::rs T L s5 m5)) (fI T L ns M (2*b+3) s):=fun l m'=>
    M1 (fun n=>bR.eq_1 n ..) (U.P7 (fun _=>two l false) fun _=>U.P7 (fun _=>two m' false) fun _=>U.P7 (fun _=>two l true) fun _=>U.P7 (fun _=>two m' true) fun _=>U.P7 (fun _=>two 13 false) fun _=>two 14 false)
   exact⟨rfl,U.H5 (X3 u5 s5 m5) (U.P7 (fun _=>j2 17 18) fun _=>j2 15 16)⟩
 exact U.eq (fun n=>rM n ..) (U.P7 (fun _=>j true) fun _=>j _)
theorem Az {d:Nat}{x:D}(hx:rS d x){b:Nat}(hex:CM T L kf ns M b d x)(k a p c:Int)(t:F9)(hk:((aA t T).getD vB).kd=2)(s:Er)(m:Int):U (fun n=>X0 n (cC k a p c t [x]) (.Z 19 (T.map aL)) (.Z 2 L) (.int .i64 s.p) (.int .i64 s.q) (.int .i64 s.r) (.int .i64 s.e) m) (fI T L ns M (b+3) s):=by
 have ho:=xU W hx hex s m
 have hf:=fun s m=>Mi W hx s m
 have hsg:=W.sig t hk
 have hfi:=pH W.len L t
 generalize ((aA t T).getD vB)=u at hsg hfi
 generalize kf x=f at hf
 obtain⟨k1,a1,b1,d1,t1,xs1,rfl⟩:=P6 hx
 refine U.eq (fun n=>rY n ..) (H4 hfi (U.H5 rfl (U.H5 rfl (U.H5 rfl (U.H3 ho ?_)))))
 rintro _ _ ⟨u1,s1,m1,h,hs1,hz1,hg1⟩;cases h
 have gref:Good ns M (.mk 2 0 u.sw u.nu 0 false (0,0) []):=MG hsg.lo hsg.hi
 refine⟨rfl,U.H5 (X3 u1 s1 m1) (U.P7 (fun hso=>?_) fun _=>U.H5 rfl (U.H5 rfl (H4 (hf s1 m1) (U.H5 rfl (U.P7 (fun _=>?_) fun _=>?_)))))⟩
 ·have hso:decide (u.so>0)=true:=hso
  have hso:=E5 hso
  show U (fun n=>some (true,[.agg [.int .i64 3,.int .i64 0,.int .i64 u.sw,.int .i64 u.nu,.int .i64 0,.bool false,.int .i64 0,.Z 1 [],.Z 9 [H7 H2 (enc u1)]],_,_,_,_,_,_,_])) _
  rw [M3]
  exact U.ret ⟨.mk 3 0 u.sw u.nu 0 false (0,0) [u1],s1,m1,rfl,hs1,by rw [Vg];omega,fun h=>⟨Wf.zero,Wm,fun _=>B9 1,fun _=>⟨hsg.lo,hsg.hi⟩,fun h=>absurd h (by decide),fun _=>hsg.mem hso,hg1 h,trivial⟩⟩
 ·obtain⟨u5,p5,z5,g5⟩:=EO (.mk 2 0 u.sw u.nu 0 false (0,0) []) f.v 1
  refine H4 (zL u.nu u.sn u.sw u.sb u.so) (U.H5 rfl ?_)
  show U (fun n=>AE.H3 (V0 n (H7 H2 (enc (.mk 2 0 u.sw u.nu 0 false (0,0) []))) _ _) _) _;rw [M3]
  refine H4 p5 (U.H5 (Jp u5) (aD ⟨u5,s1,m1,rfl,hs1,?_,fun _=>g5 _ _ gref⟩))
  rw [Mt] at z5;omega
 ·refine H4 (zL u.nu u.sn u.sw u.sb u.so) (U.H5 rfl ?_)
  show U (fun n=>some (true,[.agg [.int .i64 4,.int .i64 0,.int .i64 1,.int .i64 0,.int .i64 0,.bool false,.int .i64 0,.Z 1 [],.Z 9 [H7 H2 (enc (.mk 2 0 u.sw u.nu 0 false (0,0) [])),H7 H2 (enc u1)]],_,_,_,_,_,_,_])) _
  rw [M3,M3]
  exact U.ret ⟨.mk 4 0 1 0 0 false (0,0) [.mk 2 0 u.sw u.nu 0 false (0,0) [],u1],s1,m1,rfl,hs1,by rw [Wk,Mt];omega,fun h=>sR Wn (by decide) (by decide) ⟨gref,hg1 h,trivial⟩⟩
end
end
end
section
section
variable {T:List Th} {L:List D} {kf:D→KR} {ns:Nat} {M:Int→Prop}
theorem Mh {ts:List TE}(hl:ts.length≤1000)(v:Nat)(hv:v≤128)(s:Er)(m:Int):∀ (q j:Nat) (acc:List TE),v-j=q→j≤v→acc.length≤j*1000→cG acc=j*cG ts→(∀ (hg:kC ns M ts),kC ns M acc)→
  U (fun n=>Q0 n (v:Int) (j:Int) (.Z 19 (T.map aL)) (.Z 2 L) (.int .i64 s.p) (.int .i64 s.q) (.int .i64 s.r) (.int .i64 s.e) m (0:Int) (0:Int) (0:Int) (0:Int) (0:Int) (.bool false) (0:Int) (.Z 9 (O7 acc)) (.Z 9 (O7 ts)) (.Z 1 []) (.Z 9 [])) fun z=>∃ (out:List TE) (j':Int),z=(false,.int .i64 (v:Int) :: .int .i64 j'::(rs T L s m++[.int .i64 0,.int .i64 0,.int .i64 0,.int .i64 0,.int .i64 0,.bool false,.int .i64 0,.Z 9 (O7 out),.Z 9 (O7 ts),.Z 1 [],.Z 9 []]))∧out.length≤128000∧cG out=v*cG ts∧(kC ns M ts→kC ns M out):=by
 intro q
 induction q with
 |zero=>
  intro j acc hk hj hl2 hz hg
  have:j=v:=by omega
  subst this
  exact U.eq (fun n=>kE n ..) (U.no (E6 (by omega)) (U.ret ⟨acc,_,rfl,by omega,hz,hg⟩))
 |succ q ih=>
  intro j acc hk hj hl2 hz hg
  have hw:IntKind.i64.wrap ((j:Int)+1)=((j+1:Nat):Int):=J9 (by omega)
  refine U.eq (fun n=>kE n ..) (U.H5 (E4 (by omega)) (U.H5 (B2 (by rw [eI,eI];simp only [J5];omega)) ?_))
  rw [hw,← lO]
  refine ih (j+1) (acc++ts) (by omega) (by omega) (by rw [A7];omega) (by rw [OA,hz,Nat.add_mul,Nat.one_mul]) fun h=>iT.2 fun t ht=>?_
  rcases D3.1 ht with ht|ht
  ·exact iT.1 (hg h) t ht
  ·exact iT.1 h t ht
theorem fI.mono {b b':Nat}(h:b≤b'){s:Er}{z:Bool×List D}(k:fI T L ns M b s z):fI T L ns M b' s z:=by
 obtain⟨t,s',m',h1,h2,h3,h4⟩:=k
 exact⟨t,s',m',h1,h2,Nat.le_trans h3 h,h4⟩
theorem zE {b:Nat}{s:Er}{t:Nat→Out}(h:U t (fI T L ns M b s)):U (fun n=>AE.H3 (t n) fun r1=>bif I7 J7.H9 r1 then some (true,[H7 H2 (Y r1 0),.Z 19 (Y r1 1).l,.Z 2 (Y r1 2).l,.int .i64 (Y r1 3).i,.int .i64 (Y r1 4).i,.int .i64 (Y r1 5).i,.int .i64 (Y r1 6).i,.int .i64 (Y r1 7).i]) else none) (fI T L ns M b s):=by
 refine U.H3 h ?_
 rintro _ _ ⟨u,s1,m1,h,hs1,hz1,hg1⟩;cases h
 exact⟨rfl,U.H5 (X3 u s1 m1) (aD ⟨u,s1,m1,rfl,hs1,hz1,hg1⟩)⟩
theorem Uv (v:Int):∃ n:Nat,n<2 ^ 32∧U (fun k=>iV k (32:Int) (.Z 1 [.int .u64 (IntKind.u64.wrap v)])) fun r=>r=(true,[.agg [.int .i64 32,.Z 1 (I9 32 n)],.int .i64 0]):=by
 have hw:IntKind.u64.wrap v=v % 18446744073709551616:=by simp [IntKind.wrap,IntKind.bits,IntKind.signed]
 obtain⟨x,hx,hx2⟩:∃ x:Nat,(x:Int)=v % 18446744073709551616∧x<J1:=⟨(v % 18446744073709551616).toNat,by omega,by unfold J1;omega⟩
 rw [hw,← hx]
 exact⟨x % 2 ^ 32,Nat.mod_lt _ (by decide),KA (w:=32) (by decide) (by decide) hx2⟩
section
variable (W:Sc T L kf ns M)
include W
theorem Pm {d:Nat}{k a p c:Int}{t:F9}{xs:List D}(hs:rH k t xs.length)(h5:k≠5)(hy:∀ y∈xs,rS d y){b:Nat}(hb:1≤b)(hb2:b≤4000000000000000000)(he:∀ y∈xs,CM T L kf ns M b d y)(s:Er)(h0:s.e=0)(hf:Fit T kf (d+1) (cC k a p c t xs))(m:Int):U (fun n=>Y2 n (cC k a p c t xs) (.Z 19 (T.map aL)) (.Z 2 L) (.int .i64 s.p) (.int .i64 s.q) (.int .i64 s.r) (.int .i64 s.e) m) (fI T L ns M (20000*(b+1)) s):=by
 have hf':=hf
 obtain⟨k',a',b',c',t',xs',he',f2,f8,f7,f10,fy,fr⟩:=hf'
 cases he'
 unfold rH at hs
 rcases hs with ⟨rfl,ht,hl⟩|⟨rfl,ht,hl⟩|⟨rfl,ht,hl⟩|⟨rfl,ht,hl⟩|⟨rfl,ht,hl⟩|⟨rfl,ht,hl,hl2⟩|⟨rfl,ht,hl,hl2⟩|⟨rfl,ht,hl⟩|⟨rfl,ht,hl⟩|⟨rfl,ht,hl,hl2⟩
 ·obtain⟨w,n,sg,sz,h1,h2,h3,hp⟩:=Dv ht
  refine U.eq (fun n=>Q1 n ..) (U.H5 rfl (H4 hp (U.H5 rfl (H4 (Lj h2 h3 h1) (U.H5 (De _) (aD ⟨_,s,m,rfl,fun h=>h,by rw [Mt];omega,fun _=>XM h2 h3⟩))))))
 ·refine U.eq (fun n=>Q1 n ..) (U.no rfl (U.H5 rfl (H4 (pH W.len L t) (U.H5 rfl ?_))))
  have hsg:=W.sig t
  have f2:=f2 rfl
  generalize ((aA t T).getD vB)=u at hsg f2 ⊢
  cases hk:u.kd==1 with
  |true=>
   obtain⟨n,hn,hnew⟩:=Uv u.nu
   refine U.H5 hk (H4 hnew (U.H5 rfl (H4 (Lj (w:=32) (by decide) hn (by decide)) (U.H5 (De _) (aD ⟨_,s,m,rfl,fun h=>h,by rw [Mt];omega,fun _=>XM (by decide) hn⟩)))))
  |false=>
   have hk2:u.kd=2:=f2.resolve_left (by simpa using hk)
   have hsg:=hsg hk2
   exact U.no hk (H4 (zL u.nu u.sn u.sw u.sb u.so) (U.H5 rfl (aD ⟨_,s,m,rfl,fun h=>h,by rw [Mt];omega,fun _=>MG hsg.lo hsg.hi⟩)))
 ·obtain⟨x,rfl⟩:∃ x,xs=[x]:=by
   match xs,hl with
   |[x],_=>exact⟨x,rfl⟩
  exact U.eq (fun n=>Q1 n ..) (U.no rfl (U.no rfl (U.no rfl (U.no rfl (U.H5 rfl (zE ((Bz W (hy x (by simp)) (he x (by simp)) 3 a p c t ht s m).mono fun z h=>h.mono (by omega))))))))
 ·obtain⟨x,y,rfl⟩:∃ x y,xs=[x,y]:=by
   match xs,hl with
   |[x,y],_=>exact⟨x,y,rfl⟩
  exact U.eq (fun n=>Q1 n ..) (U.no rfl (U.no rfl (U.no rfl (U.no rfl (U.no rfl (U.H5 rfl (zE ((WY W (hy x (by simp)) (hy y (by simp)) (he x (by simp)) (he y (by simp)) 4 a p c t s m).mono fun z h=>h.mono (by omega)))))))))
 ·exact absurd rfl h5
 ·refine U.eq (fun n=>Q1 n ..) (U.no rfl (U.no rfl (U.no rfl (U.no rfl (U.no rfl (U.no rfl (U.H5 rfl (U.H3 (Eb W hy he (by omega) s m) ?_))))))))
  rintro _ _ ⟨ts,s1,m1,h,hs1,hlt,hz,hg⟩;cases h
  obtain⟨t',q1,q2,q3⟩:=DQ ts (by omega)
  have:xs.length*b≤3*b:=Nat.mul_le_mul_right _ hl2
  exact⟨rfl,U.H5 rfl (H4 q1 (U.H5 (Um t') (aD ⟨t',s1,m1,rfl,hs1,by omega,fun h=>q3 _ _ (hg h)⟩)))⟩
 ·obtain⟨y,r,rfl⟩:∃ y r,xs=y::r:=by
   match xs,hl with
   |y::r,_=>exact⟨y,r,rfl⟩
  simp only [A0] at hl hl2
  have hc:=VC W (hy y (by simp)) s m
  obtain⟨v0,v1,v2⟩:=f7 rfl y rfl
  generalize kf y=f at hc v0 v1 v2
  have hor:=fun s m=>Eb W (xs:=r) (fun z hz=>hy z (C0 _ hz)) (fun z hz=>he z (C0 _ hz)) (by omega) s m
  obtain⟨k1,a1,b1,d1,t1,xs1,rfl⟩:=P6 (hy y (by simp))
  have hlen:decide ((0:Int)<((cC k1 a1 b1 d1 t1 xs1::r).length:Int))=true:=E4 (by simp only [A0];omega)
  refine U.eq (fun n=>Q1 n ..) (U.no rfl (U.no rfl (U.no rfl (U.no rfl (U.no rfl (U.no rfl (U.no rfl (U.H5 rfl (U.H5 (N7 rfl hlen) (U.H5 rfl (U.H3 hc ?_)))))))))))
  rintro _ _ ⟨s1,h,hs1,hk⟩;cases h
  have e:((cC k1 a1 b1 d1 t1 xs1::r).drop 1).take (((cC k1 a1 b1 d1 t1 xs1::r).length:Int).toNat-1)=r:=by
   rw [List.drop_succ_cons,List.drop_zero,A0,E1,Nat.add_sub_cancel,List.take_length]
  refine⟨rfl,U.H5 rfl (U.H5 (N7 (N7 rfl (E4 (by simp only [A0];omega))) (E4 (Int.le_refl _))) ?_)⟩
  rw [e]
  refine U.H3 (hor s1 m) ?_
  rintro _ _ ⟨ts,s2,m2,h,hs2,hlt,hz,hg⟩;cases h
  obtain⟨v,hv⟩:∃ v:Nat,f.v=(v:Int):=⟨f.v.toNat,by omega⟩
  have hlp:=Mh (T:=T) (L:=L) (ns:=ns) (M:=M) (ts:=ts) (by omega) v (by omega) s2 m2 v 0 [] rfl (C4 _) (by simp) (by simp [cG]) (fun _=>trivial)
  rw [← hv] at hlp
  refine⟨rfl,U.H5 rfl (U.J2 hlp (fun ds h=>by obtain⟨_,_,h,_⟩:=h;cases h) fun ds h=>?_)⟩
  obtain⟨out,j',h,ho1,ho2,ho3⟩:=h
  cases h
  obtain⟨t',q1,q2,q3⟩:=DQ out (by omega)
  have z1:r.length*b≤2*b:=Nat.mul_le_mul_right _ (by omega)
  have z2:v*cG ts≤128*cG ts:=Nat.mul_le_mul_right _ (by omega)
  exact U.H5 rfl (H4 q1 (U.H5 (Um t') (aD ⟨t',s2,_,rfl,hs1.tr hs2,by omega,fun h=>q3 _ _ (ho3 (hg h))⟩)))
 ·obtain⟨x,rfl⟩:∃ x,xs=[x]:=by
   match xs,hl with
   |[x],_=>exact⟨x,rfl⟩
  exact U.eq (fun n=>Q1 n ..) (U.no rfl (U.no rfl (U.H5 rfl (zE ((Az W (hy x (by simp)) (he x (by simp)) 8 a p c t (f8 rfl) s m).mono fun z h=>h.mono (by omega))))))
 ·obtain⟨x,y,rfl⟩:∃ x y,xs=[x,y]:=by
   match xs,hl with
   |[x,y],_=>exact⟨x,y,rfl⟩
  have hsg:=W.sig t
  have hfi:=pH W.len L t
  have hbn:=Eg W (hy x (by simp)) (hy y (by simp)) 9 a p c t s m
  generalize ((aA t T).getD vB)=u at hsg hfi hbn
  refine U.eq (fun n=>Q1 n ..) (U.no rfl (U.no rfl (U.no rfl (U.H5 rfl (U.H3 hbn ?_)))))
  rintro _ _ ⟨hi,lo,s1,h,hs1,hw⟩;cases h
  obtain⟨u5,p5,z5,g5⟩:=EO (.mk 2 0 u.sw u.nu 0 false (0,0) []) lo (IntKind.i64.wrap (IntKind.i64.wrap (hi-lo)+1))
  rw [Mt] at z5
  refine⟨rfl,U.H5 rfl (H4 hfi (U.H5 rfl (H4 (zL u.nu u.sn u.sw u.sb u.so) (U.H5 rfl ?_))))⟩
  show U (fun n=>AE.H3 (V0 n (H7 H2 (enc (.mk 2 0 u.sw u.nu 0 false (0,0) []))) _ _) _) _;rw [M3]
  exact H4 p5 (U.H5 (Jp u5) (aD ⟨u5,s1,m,rfl,hs1,by omega,fun h=>g5 _ _ (MG (hsg (hw h).1).lo (hsg (hw h).1).hi)⟩))
 ·exact U.eq (fun n=>Q1 n ..) (U.no rfl (U.no rfl (U.no rfl (U.no rfl (U.no rfl (U.no rfl (U.no rfl (U.no rfl (zE (Fz W hy hb hb2 he (by omega) a p c ht s h0 hf m))))))))))
theorem Dm:∀ (d:Nat),d≤4→∀ x:D,rS d x→CM T L kf ns M (On d) d x
 |d+1,hd,x,h=>by
  obtain⟨k,a,p,c,t,xs,rfl,hs,hy⟩:=h
  have he:=fun y hm=>Dm d (by omega) y (hy y hm)
  have hb:=SO d
  have hb2:On d≤4000000000000000000:=by
   have:d=0∨d=1∨d=2∨d=3:=by omega
   rcases this with rfl|rfl|rfl|rfl<;>decide
  intro w g s m hf
  by_cases h0:s.e=0
  rotate_left
  ·exact U.eq (fun n=>bS n ..) (U.H5 (by simp [h0]) (U.ret ⟨.mk 0 0 0 0 0 false (0,0) [],s,m,rfl,fun h=>h,by rw [Mt];exact SO _,fun h=>absurd h h0⟩))
  have hn:(s.e !=0)=false:=by simp [h0]
  have hf:=hf h0
  have hlf:=fun h5=>Pm W hs h5 hy hb hb2 he s h0 hf m
  have hf':=hf
  obtain⟨k',a',b',c',t',xs',he',f2,f8,f7,f10,fy,fr⟩:=hf'
  cases he'
  have hB:On (d+1)=41000*On d:=rfl
  rw [hB]
  generalize On d=b at he hb hb2 hlf ⊢
  have mk:∀ (u:TE) (s1:Er) (m1:Int),AB s s1→L6 u≤41000*b→(s1.e=0→Good ns M u)→U (fun n=>AE.H3 (J7 n (.agg [.int .i64 a,.int .i64 p,.int .i64 c]) (H7 H2 (enc u)) (.Z 19 (T.map aL)) (.Z 2 L) (.int .i64 s1.p) (.int .i64 s1.q) (.int .i64 s1.r) (.int .i64 s1.e) m1) fun r1=>bif I7 J7.H9 r1 then some (true,[H7 H2 (Y r1 0),.Z 19 (Y r1 1).l,.Z 2 (Y r1 2).l,.int .i64 (Y r1 3).i,.int .i64 (Y r1 4).i,.int .i64 (Y r1 5).i,.int .i64 (Y r1 6).i,.int .i64 (Y r1 7).i]) else none) (fI T L ns M (41000*b) s):=by
   intro u s1 m1 hk hz hg
   rw [M3]
   refine U.H3 (Po a p c u s1 m1) ?_
   rintro _ _ ⟨s2,m2,h,hs2⟩;cases h
   exact⟨rfl,U.H5 (X3 u s2 m2) (aD ⟨u,s2,m2,rfl,hk.tr hs2,hz,fun h=>hg (hs2.of h)⟩)⟩
  have j1:k≠5→U (fun n=>bT n (T.map aL) L s.p s.q s.r s.e m k a p c t xs w g) (fI T L ns M (41000*b) s):=by
   intro h5
   refine M1 (fun n=>bT.eq_1 n ..) (U.H3 (hlf h5) ?_)
   rintro _ _ ⟨u1,s1,m1,h,hs1,hz1,hg1⟩;cases h
   obtain⟨u2,p2,z2,g2⟩:=VS u1 w g
   refine⟨rfl,U.H5 (X3 u1 s1 m1) ?_⟩
   show U (fun n=>AE.H3 (aX n (H7 H2 (enc u1)) _ _) _) _;rw [M3]
   exact H4 p2 (U.H5 (Sl u2) (mk u2 s1 m1 hs1 (by omega) fun h=>g2 _ _ (hg1 h)))
  by_cases h3:k=3
  ·subst h3
   obtain⟨x,rfl⟩:∃ x,xs=[x]:=by
    have hl:xs.length=1:=by
     unfold rH at hs
     rcases hs with ⟨h,_⟩|⟨h,_⟩|⟨_,_,h⟩|⟨h,_⟩|⟨h,_⟩|⟨h,_⟩|⟨h,_⟩|⟨h,_⟩|⟨h,_⟩|⟨h,_⟩
     all_goals first|exact h|(exfalso;omega)
    match xs,hl with
    |[x],_=>exact⟨x,rfl⟩
   have hex:=he x (by simp) w g s m fun _=>fy (by decide) (by decide) x (by simp)
   obtain⟨k1,a1,b1,d1,t1,xs1,rfl⟩:=P6 (hy x (by simp))
   refine U.eq (fun n=>bS n ..) (U.no hn (U.H5 rfl (U.P7 (fun _=>?_) fun _=>U.P7 (fun _=>?_) fun _=>j1 (by decide))))
   ·refine U.H5 rfl (U.H5 rfl (U.H3 hex ?_))
    rintro _ _ ⟨u1,s1,m1,h,hs1,hz1,hg1⟩;cases h
    obtain⟨u2,p2,z2,g2⟩:=BT 1 u1
    refine⟨rfl,U.H5 (X3 u1 s1 m1) ?_⟩
    show U (fun n=>AE.H3 (R5 n _ (H7 H2 (enc u1))) _) _;rw [M3]
    exact H4 p2 (U.H5 (KW u2) (mk u2 s1 m1 hs1 (by omega) fun h=>g2 _ _ (hg1 h)))
   ·refine U.H5 rfl (U.H5 rfl (U.H3 hex ?_))
    rintro _ _ ⟨u1,s1,m1,h,hs1,hz1,hg1⟩;cases h
    obtain⟨u2,p2,z2,g2⟩:=BT 0 u1
    refine⟨rfl,U.H5 (X3 u1 s1 m1) ?_⟩
    show U (fun n=>AE.H3 (R5 n _ (H7 H2 (enc u1))) _) _;rw [M3]
    exact H4 p2 (U.H5 (KW u2) (mk u2 s1 m1 hs1 (by omega) fun h=>g2 _ _ (hg1 h)))
  have n3:(k==3)=false:=E9.2 h3
  by_cases h4:k=4
  ·subst h4
   obtain⟨ht,x,y,rfl⟩:t∈YH∧∃ x y,xs=[x,y]:=by
    have hl:t∈YH∧xs.length=2:=by
     unfold rH at hs
     rcases hs with ⟨h,_⟩|⟨h,_⟩|⟨h,_⟩|⟨_,h1,h⟩|⟨h,_⟩|⟨h,_⟩|⟨h,_⟩|⟨h,_⟩|⟨h,_⟩|⟨h,_⟩
     all_goals first|exact⟨h1,h⟩|(exfalso;omega)
    refine⟨hl.1,?_⟩
    match xs,hl.2 with
    |[x,y],_=>exact⟨x,y,rfl⟩
   have fy:=fy (by decide) (by decide)
   refine U.eq (fun n=>bS n ..) (U.no hn (U.no rfl (U.H5 rfl (U.H3 (Hz W (hy x (by simp)) (hy y (by simp)) (he x (by simp)) (he y (by simp)) a p c ht w g s (fun _=>⟨fy x (by simp),fy y (by simp)⟩) m) ?_))))
   rintro _ _ ⟨u,q,s1,m1,h,hs1,hz1,hg1,hno⟩;cases h
   refine⟨rfl,U.H5 (Al u q s1 m1) ?_⟩
   cases q with
   |true=>exact U.H5 rfl (mk u s1 m1 hs1 (by omega) (hg1 rfl))
   |false=>
    obtain⟨rfl,rfl⟩:=hno rfl
    exact U.no rfl (j1 (by decide))
  have n4:(k==4)=false:=E9.2 h4
  by_cases h5:k=5
  ·subst h5
   obtain⟨x,y,z,rfl⟩:∃ x y z,xs=[x,y,z]:=by
    have hl:xs.length=3:=by
     unfold rH at hs
     rcases hs with ⟨h,_⟩|⟨h,_⟩|⟨h,_⟩|⟨h,_⟩|⟨_,_,h⟩|⟨h,_⟩|⟨h,_⟩|⟨h,_⟩|⟨h,_⟩|⟨h,_⟩
     all_goals first|exact h|(exfalso;omega)
    match xs,hl with
    |[x,y,z],_=>exact⟨x,y,z,rfl⟩
   have fy:=fy (by decide) (by decide)
   have ho:=xU W (hy x (by simp)) (he x (by simp)) s m
   have hey:=he y (by simp) w g
   have hez:=he z (by simp) w g
   have fyy:=fy y (by simp)
   have fyz:=fy z (by simp)
   obtain⟨k1,a1,b1,d1,t1,xs1,rfl⟩:=P6 (hy x (by simp))
   obtain⟨k2,a2,b2,d2,t2,xs2,rfl⟩:=P6 (hy y (by simp))
   obtain⟨k3,a3,b3,d3,t3,xs3,rfl⟩:=P6 (hy z (by simp))
   refine U.eq (fun n=>bS n ..) (U.no hn (U.no rfl (U.no rfl (U.H5 rfl (U.H5 rfl (U.H5 rfl (U.H3 ho ?_)))))))
   rintro _ _ ⟨u1,s1,m1,h,hs1,hz1,hg1⟩;cases h
   obtain⟨u2,p2,z2,g2⟩:=OD u1
   refine⟨rfl,U.H5 (X3 u1 s1 m1) ?_⟩
   show U (fun n=>AE.H3 (Z1 n (H7 H2 (enc u1))) _) _;rw [M3]
   refine H4 p2 (U.H5 (Jq u2) (U.H5 rfl (U.H5 rfl (U.H3 (hey s1 m1 fun _=>fyy) ?_))))
   rintro _ _ ⟨u3,s3,m3,h,hs3,hz3,hg3⟩;cases h
   refine⟨rfl,U.H5 (X3 u3 s3 m3) (U.H5 rfl (U.H5 rfl (U.H3 (hez s3 m3 fun _=>fyz) ?_)))⟩
   rintro _ _ ⟨u4,s4,m4,h,hs4,hz4,hg4⟩;cases h
   refine⟨rfl,U.H5 (X3 u4 s4 m4) ?_⟩
   obtain⟨u5,p5,z5,g5⟩:=Ga u2 u3 u4
   show U (fun n=>AE.H3 (eU n (H7 H2 (enc u2)) (H7 H2 (enc u3)) (H7 H2 (enc u4))) _) _
   rw [M3,M3,M3]
   exact H4 p5 (U.H5 (Ul u5) (mk u5 s4 m4 ((hs1.tr hs3).tr hs4) (by omega) fun h=>g5 _ _ (g2 _ _ (hg1 (hs3.of (hs4.of h)))) (hg3 (hs4.of h)) (hg4 h)))
  have n5:(k==5)=false:=E9.2 h5
  exact U.eq (fun n=>bS n ..) (U.no hn (U.no n3 (U.no n4 (U.no n5 (j1 h5)))))
theorem NQ {d:Nat}(hd:d≤4){x:D}(hx:rS d x)(w:Int):U (fun n=>cW n (.agg [.Z 19 (T.map aL),.Z 2 L]) x w) fun z=>∃ (t:TE) (q1 q2 q3 e:Int),z=(true,[enc t,.agg [.int .i64 q1,.int .i64 q2,.int .i64 q3],.int .i64 e])∧(e≠0→t = .mk 0 0 0 0 0 false (0,0) [])∧(e=0→Good ns M t∧L6 t≤20000):=by
 have ha:=HT W hx (Dm W d hd x hx) (max 0 (min w 128)) ⟨0,0,0,0⟩ 0
 have hB:On d+1≤4611686018427387903:=by
  have:d=0∨d=1∨d=2∨d=3∨d=4:=by omega
  rcases this with rfl|rfl|rfl|rfl|rfl<;>decide
 obtain⟨k,a,b',c,t,xs,rfl⟩:=P6 hx
 refine U.eq (fun n=>HN n ..) (U.H3 ha ?_)
 rintro _ _ ⟨u,s1,m1,h,hs1,hz1,hg1⟩;cases h
 have j2:∀ s2:Er,(s2.e=0→s1.e=0∧L6 u≤20000)→U (fun n=>kA n s2.p s2.q s2.r s2.e (enc u::rs T L s1 m1)) fun z=>∃ (t:TE) (q1 q2 q3 e:Int),z=(true,[enc t,.agg [.int .i64 q1,.int .i64 q2,.int .i64 q3],.int .i64 e])∧(e≠0→t = .mk 0 0 0 0 0 false (0,0) [])∧(e=0→Good ns M t∧L6 t≤20000):=by
  intro s2 h2
  refine M1 (fun n=>kA.eq_1 n ..) ?_
  by_cases h0:s2.e=0
  ·exact U.no (by simp [h0]) (aD ⟨u,0,0,0,0,rfl,fun h=>absurd rfl h,fun _=>⟨hg1 (h2 h0).1,(h2 h0).2⟩⟩)
  ·exact U.H5 (by simp [h0]) (U.ret ⟨.mk 0 0 0 0 0 false (0,0) [],s2.p,s2.q,s2.r,s2.e,rfl,fun _=>rfl,fun h=>absurd h h0⟩)
 have j1:∀ q:Bool,(s1.e=0→q=false→L6 u≤20000)→U (fun n=>jZ n q a b' c (enc u::rs T L s1 m1)) fun z=>∃ (t:TE) (q1 q2 q3 e:Int),z=(true,[enc t,.agg [.int .i64 q1,.int .i64 q2,.int .i64 q3],.int .i64 e])∧(e≠0→t = .mk 0 0 0 0 0 false (0,0) [])∧(e=0→Good ns M t∧L6 t≤20000):=by
  intro q hq
  refine M1 (fun n=>jZ.eq_1 n ..) ?_
  cases q with
  |true=>
   refine U.H5 rfl (U.H3 (pN a b' c (x:=19) (by decide) s1 m1) ?_)
   rintro _ _ ⟨s5,h,he⟩;cases h
   exact⟨rfl,U.H5 rfl (j2 s5 fun h=>absurd h he)⟩
  |false=>exact U.no rfl (j2 s1 fun h=>⟨h,hq h rfl⟩)
 refine⟨rfl,U.H5 (X3 u s1 m1) ?_⟩
 by_cases h0:s1.e=0
 ·refine U.H5 (by simp [Y,rs,h0,D.i]) ?_
  show U (fun n=>AE.H3 (W6 n (H7 H2 (enc u))) _) _;rw [M3]
  refine H4 (EG u (by omega)) (U.H5 rfl (j1 _ fun _ h=>?_))
  have h:decide ((L6 u:Int)>20000)=false:=h
  have:=E7 h
  omega
 ·exact U.no (by simp [Y,rs,h0,D.i]) (j1 false fun h=>absurd h h0)
end
end
end
section
theorem Fb {P:Int→Prop}{t:F9}{n:Int}(hn:P n){l:eE}(h:∀ q∈l,P q.2):∀ q∈nE t n l,P q.2:=by
 intro q hq
 unfold nE at hq
 cases hi:uH t l with
 |none=>
  rw [hi] at hq
  rcases D3.1 hq with hq|hq
  ·exact h q hq
  ·rw [C3.1 hq];exact hn
 |some i=>
  rw [hi] at hq
  rcases List.mem_or_eq_of_mem_set hq with hq|hq
  ·exact h q hq
  ·rw [hq];exact hn
structure ZZ (ns:Nat) (M:Int→Prop) (t:Th):Prop where
 k1:t.kd=1→wH t.nu
 k2:t.kd=2→Re ns M t
 k3:t.kd=3→Ir t
theorem ZZ.mono {ns ns':Nat}{M M':Int→Prop}(h:ns≤ns')(hm:∀ i,M i→M' i){t:Th}(k:ZZ ns M t):ZZ ns' M' t:=
 ⟨k.k1,fun h2=>have q:=k.k2 h2;⟨q.lo,by have:=q.hi;omega,q.w1,q.w2,fun h=>hm _ (q.mem h)⟩,k.k3⟩
structure WI (ns:Nat) (M:Int→Prop) (l:List Th) (e:eE) (j:Nat):Prop where
 all:∀ t∈l,ZZ ns M t
 len:l.length≤j
 el:e.length≤j
 er:∀ q∈e,wH q.2
theorem WI.nil (ns:Nat)(M:Int→Prop):WI ns M [] [] 0:=⟨(fun t h=>by cases h),B9 _,B9 _,fun q h=>by cases h⟩
theorem WI.mono {ns ns':Nat}{M M':Int→Prop}(h:ns≤ns')(hm:∀ i,M i→M' i){l:List Th}{e:eE}{j j':Nat}(hj:j≤j')(k:WI ns M l e j):WI ns' M' l e j':=
 ⟨fun t ht=>(k.all t ht).mono h hm,Nat.le_trans k.len hj,Nat.le_trans k.el hj,k.er⟩
theorem Dt {t x:Th}{l:List Th}(h:x∈xO t l):x∈l∨x=t:=by
 rcases D3.1 h with h|h
 ·exact .inl (List.mem_filter.1 h).1
 ·exact .inr (C3.1 h)
theorem Dw:∀ (l:List Th) (e:eE),(∀ t∈l,t.kd=1→wH t.nu)→(∀ q∈e,wH q.2)→∀ q∈xP e l,wH q.2
 |[],e,_,h=>h
 |x::l,e,hl,h=>by
  show ∀ q∈xP (bif x.kd==1 then nE x.nm x.nu e else e) l,wH q.2
  refine Dw l _ (fun t ht=>hl t (C0 _ ht)) ?_
  cases hk:x.kd==1 with
  |true=>exact Fb (hl x (B8 ..) (eq_of_beq hk)) h
  |false=>exact h
theorem WI.const {ns:Nat}{M:Int→Prop}{l:List Th}{e:eE}{j:Nat}(h:WI ns M l e j)(u:F9){m:Int}(hm:wH m):WI ns M (xO (Vq u m) l) (nE u m e) (j+1):=by
 have a:=EH (Vq u m) l
 have b:=zQ u m e
 have c:=h.len
 have d:=h.el
 refine⟨fun t ht=>?_,by omega,by omega,Fb hm h.er⟩
 rcases Dt ht with ht|rfl
 ·exact h.all t ht
 ·exact⟨fun _=>hm,fun h=>absurd (show (1:Int)=2 from h) (by decide),fun h=>absurd (show (1:Int)=3 from h) (by decide)⟩
theorem WI.other {ns:Nat}{M:Int→Prop}{l:List Th}{e:eE}{j:Nat}(h:WI ns M l e j){t:Th}(ht:ZZ ns M t):WI ns M (xO t l) (xP [] (xO t l)) (j+1):=by
 have a:=EH t l
 have b:=RH (xO t l) []
 have c:=h.len
 simp only [A8] at b
 have all:∀ x∈xO t l,ZZ ns M x:=fun x hx=>by
  rcases Dt hx with hx|rfl
  ·exact h.all x hx
  ·exact ht
 exact⟨all,by omega,by omega,Dw _ _ (fun x hx=>(all x hx).k1) fun q hq=>by cases hq⟩
open Classical in
noncomputable def Vv (e:eE) (x:D):KR:=if h:∃ k:KR,U (fun n=>dZ n x (.agg [.Z 2 (e.map gY)])) (fun r=>r=(true,k.out)) then Classical.choose h else ⟨0,0,0,0,0⟩
theorem Sy {e:eE}(hl:e.length≤1048576)(hr:∀ q∈e,wH q.2){d:Nat}{x:D}(hx:rS d x):U (fun n=>dZ n x (.agg [.Z 2 (e.map gY)])) fun r=>r=(true,(Vv e x).out):=by
 obtain⟨R,hR⟩:=QN hl hr d x hx
 have h:=Kb (P6 hx) hR
 unfold Vv
 rw [dif_pos h]
 exact Classical.choose_spec h
theorem Ds {u:F9}:∀ {l:List Th} {t:Th},aA u l=some t→t∈l
 |[],t,h=>by cases h
 |x::l,t,h=>by
  have h:(bif x.nm==u then some x else aA u l)=some t:=h
  cases hx:x.nm==u with
  |true=>rw [hx] at h;cases h;exact B8 ..
  |false=>rw [hx] at h;exact C0 _ (Ds h)
theorem WI.sc {ns:Nat}{M:Int→Prop}{l:List Th}{e:eE}{j:Nat}(h:WI ns M l e j)(hj:j≤1048576):Sc l (e.map gY) (Vv e) ns M:=by
 have hl:=h.len
 have he:=h.el
 have look:∀ t,((aA t l).getD vB).kd≠0→ZZ ns M ((aA t l).getD vB):=fun t ht=>by
  cases hq:aA t l with
  |none=>rw [hq] at ht;exact absurd rfl ht
  |some x=>exact h.all x (Ds hq)
 exact⟨by omega,fun d x hx=>Sy (by omega) h.er hx,fun t ht=>(look t (by omega)).k2 ht,fun t ht=>(look t (by omega)).k3 ht⟩
theorem SN {w:Nat}(hw:w≤1000){b:List D}{a:Int}(hm:Mk b a):U (fun n=>Z5 n (w:Int) (.Z 1 b) a) fun z=>∃ (a':Int) (l:List Bool),z=(true,[.Z 1 b,.int .i64 a',.Z 1 (l.map bD)])∧l.length=w∧Mk b a':=by
 have loop:∀ (q j:Nat) (a:Int) (l:List Bool),w-j=q→j≤w→l.length=w→Mk b a→
   U (fun n=>X7 n (w:Int) (j:Int) (.Z 1 b) a (.Z 1 (l.map bD))) fun z=>∃ (j' a':Int) (l':List Bool),z=(false,[.int .i64 (w:Int),.int .i64 j',.Z 1 b,.int .i64 a',.Z 1 (l'.map bD)])∧l'.length=w∧Mk b a':=by
  intro q
  induction q with
  |zero=>
   intro j a l hk hj hl hm
   exact U.eq (fun n=>pM n ..) (U.no (E6 (by omega)) (U.ret ⟨_,a,l,rfl,hl,hm⟩))
  |succ q ih=>
   intro j a l hk hj hl hm
   have hwr:IntKind.i64.wrap ((j:Int)+1)=((j+1:Nat):Int):=J9 (by omega)
   refine U.eq (fun n=>pM n ..) (U.H5 (E4 (by omega)) (U.H3 (jA (k:=2) (by decide) (by decide) hm) ?_))
   rintro _ _ ⟨v,a',h,hv0,hv1,hm'⟩;cases h
   refine⟨rfl,U.H5 rfl (U.H5 (J8 (by rw [List.length_map];omega)) ?_)⟩
   have e:(l.map bD).set j (.bool (v==1))=(l.set j (v==1)).map bD:=by rw [List.map_set];rfl
   rw [hwr,E1]
   show U (fun n=>X7 n _ _ _ _ (.Z 1 ((l.map bD).set j (.bool (v==1))))) _
   rw [e]
   exact ih (j+1) a' _ (by omega) (by omega) (by rw [List.length_set];exact hl) hm'
 have e0:List.replicate ((w:Int)).toNat (D.bool false)=(List.replicate w false).map bD:=by rw [E1,List.map_replicate];rfl
 refine U.eq (fun n=>GM n ..) (U.H5 (N7 (N7 (E4 (by omega)) (E4 (Int.le_refl _))) (E4 (by show (w:Int)≤68719476736;omega))) ?_)
 rw [e0]
 have hl0:((List.replicate w false).map bD).length=w:=by rw [List.length_map,List.length_replicate]
 rw [hl0]
 refine U.J2 (loop w 0 a _ rfl (C4 _) (by rw [List.length_replicate]) hm) (fun ds h=>by obtain⟨_,_,_,h,_⟩:=h;cases h) fun ds h=>?_
 obtain⟨j',a',l',h,h1,h2⟩:=h
 cases h
 exact U.H5 rfl (U.ret ⟨a',l',rfl,h1,h2⟩)
end
def Mw (ws:List WS)(i:Int):Prop:=0≤i∧∃ s,ws[i.toNat]? = some s∧s.words≠[]
theorem Mw.app {ws:List WS}{s:WS}{i:Int}(h:Mw ws i):Mw (ws++[s]) i:=by
 obtain⟨h0,t,h1,h2⟩:=h
 refine⟨h0,t,?_,h2⟩
 rw [List.getElem?_append_left (by
  rcases Nat.lt_or_ge i.toNat ws.length with h|h
  ·exact h
  ·rw [List.getElem?_eq_none h] at h1;cases h1)]
 exact h1
theorem Pe {a:List D}{x:D}{j:Nat}(h:a.length=j):(a++[x])[((j:Nat):Int).toNat]?.getD D.top=x:=by
 rw [E1,F3 (by omega),h,Nat.sub_self];rfl
theorem Vk {lr:eE}(hr:Nw lr){ns:Nat}{M:Int→Prop}(a2 a3 a7 a8 a9 a10 a12 a13:List D)(a11:Int):U (fun n=>aE n ((lr.map gY).length:Int) (0:Int) (.Z 19 a2) (.Z 2 a3) (.Z 19 []) (.Z 2 []) (.Z 2 (lr.map gY)) (.Z 2 a7) (.Z 5 a8) (.Z 10 a9) (.Z 1 a10) a11 (.Z 5 a12) (.Z 10 a13)) fun z=>∃ (j':Int) (l:List Th) (e:eE),z=(false,[.int .i64 ((lr.map gY).length:Int),.int .i64 j',.Z 19 a2,.Z 2 a3,.Z 19 (l.map aL),.Z 2 (e.map gY),.Z 2 (lr.map gY),.Z 2 a7,.Z 5 a8,.Z 10 a9,.Z 1 a10,.int .i64 a11,.Z 5 a12,.Z 10 a13])∧WI ns M l e 1000:=by
 have hsz:=hr.sz
 have loop:∀ (q j:Nat) (l:List Th) (e:eE),lr.length-j=q→j≤lr.length→WI ns M l e j→
   U (fun n=>aE n ((lr.map gY).length:Int) (j:Int) (.Z 19 a2) (.Z 2 a3) (.Z 19 (l.map aL)) (.Z 2 (e.map gY)) (.Z 2 (lr.map gY)) (.Z 2 a7) (.Z 5 a8) (.Z 10 a9) (.Z 1 a10) a11 (.Z 5 a12) (.Z 10 a13)) fun z=>∃ (j':Int) (l:List Th) (e:eE),z=(false,[.int .i64 ((lr.map gY).length:Int),.int .i64 j',.Z 19 a2,.Z 2 a3,.Z 19 (l.map aL),.Z 2 (e.map gY),.Z 2 (lr.map gY),.Z 2 a7,.Z 5 a8,.Z 10 a9,.Z 1 a10,.int .i64 a11,.Z 5 a12,.Z 10 a13])∧WI ns M l e 1000:=by
  intro q
  induction q with
  |zero=>
   intro j l e hk hj hI
   exact U.eq (fun n=>sE n ..) (U.no (E6 (by rw [List.length_map];omega)) (U.ret ⟨_,l,e,rfl,hI.mono (B9 _) (fun _ h=>h) (by omega)⟩))
  |succ q ih=>
   intro j l e hk hj hI
   have hj2:j<lr.length:=by omega
   have hj3:j<(lr.map gY).length:=by rw [List.length_map];exact hj2
   have hw:IntKind.i64.wrap ((j:Int)+1)=((j+1:Nat):Int):=J9 (by omega)
   have hl:=hI.len
   have he:=hI.el
   refine U.eq (fun n=>sE n ..) (U.H5 (E4 (by rw [List.length_map];omega)) (U.H5 (J8 hj3) ?_))
   rw [W7 hj3,List.getElem_map,hw]
   exact U.H5 rfl (H4 (Ju (by omega) (by omega) lr[j].1 lr[j].2) (U.H5 rfl (ih (j+1) _ _ (by omega) hj2 (hI.const _ (hr.rng _ (C6 hj2))))))
 exact loop lr.length 0 [] [] rfl (C4 _) (WI.nil ns M)
def yM (ws:List (List Bool)):List D:=ws.map fun l=> .Z 1 (l.map bD)
theorem No {w:Nat}(hw:w≤1000)(a0 a8:F9)(a2 a3:Int)(a4 a5 a6 a7 a11 a12 a13 a14 a17 a18 a19 a20:List D)(a10:Bool){b:List D}{a:Int}(hm:Mk b a):U (fun n=>Z0 n (.str a0) (0:Int) a2 a3 (.Z 19 a4) (.Z 2 a5) (.Z 19 a6) (.Z 2 a7) (.str a8) (w:Int) (.bool a10) (.Z 1 a11) (.Z 2 a12) (.Z 5 a13) (.Z 10 a14) (.Z 1 b) a (.Z 2 a17) (.Z 5 a18) (.Z 10 a19) (.Z 1 a20) (.Z 1 [])) fun z=>∃ (a':Int) (ws:List (List Bool)),z=(false,[.str a0,.int .i64 3,.int .i64 a2,.int .i64 a3,.Z 19 a4,.Z 2 a5,.Z 19 a6,.Z 2 a7,.str a8,.int .i64 (w:Int),.bool a10,.Z 1 a11,.Z 2 a12,.Z 5 a13,.Z 10 a14,.Z 1 b,.int .i64 a',.Z 2 a17,.Z 5 a18,.Z 10 a19,.Z 1 a20,.Z 1 (yM ws)])∧ws≠[]∧Mk b a':=by
 have loop:∀ (q j:Nat) (a:Int) (ws:List (List Bool)),3-j=q→j≤3→ws.length=j→Mk b a→
   U (fun n=>Z0 n (.str a0) (j:Int) a2 a3 (.Z 19 a4) (.Z 2 a5) (.Z 19 a6) (.Z 2 a7) (.str a8) (w:Int) (.bool a10) (.Z 1 a11) (.Z 2 a12) (.Z 5 a13) (.Z 10 a14) (.Z 1 b) a (.Z 2 a17) (.Z 5 a18) (.Z 10 a19) (.Z 1 a20) (.Z 1 (yM ws))) fun z=>∃ (a':Int) (ws:List (List Bool)),z=(false,[.str a0,.int .i64 3,.int .i64 a2,.int .i64 a3,.Z 19 a4,.Z 2 a5,.Z 19 a6,.Z 2 a7,.str a8,.int .i64 (w:Int),.bool a10,.Z 1 a11,.Z 2 a12,.Z 5 a13,.Z 10 a14,.Z 1 b,.int .i64 a',.Z 2 a17,.Z 5 a18,.Z 10 a19,.Z 1 a20,.Z 1 (yM ws)])∧ws≠[]∧Mk b a':=by
  intro q
  induction q with
  |zero=>
   intro j a ws hk hj hl hm
   have:j=3:=by omega
   subst this
   refine U.eq (fun n=>sG n ..) (U.no rfl (U.ret ⟨a,ws,rfl,fun h=>?_,hm⟩))
   rw [h] at hl
   cases hl
  |succ q ih=>
   intro j a ws hk hj hl hm
   have hwr:IntKind.i64.wrap ((j:Int)+1)=((j+1:Nat):Int):=J9 (by omega)
   refine U.eq (fun n=>sG n ..) (U.H5 (E4 (by omega)) (U.H3 (SN hw hm) ?_))
   rintro _ _ ⟨a',l,h,hll,hm'⟩;cases h
   refine⟨rfl,U.H5 rfl (U.H5 (B2 (by unfold yM;rw [List.length_map,hl];simp only [J5];omega)) ?_)⟩
   rw [hwr]
   have e:yM ws++[.Z 1 (l.map bD)]=yM (ws++[l]):=by unfold yM;rw [List.map_append];rfl
   show U (fun n=>Z0 n _ _ _ _ _ _ _ _ _ _ _ _ _ _ _ _ _ _ _ _ _ (.Z 1 (yM ws++[.Z 1 (l.map bD)]))) _
   rw [e]
   exact ih (j+1) a' _ (by omega) (by omega) (by rw [A7,hl];rfl) hm'
 exact loop 3 0 a [] rfl (C4 _) rfl hm
theorem Nl {v:Int}(h0:0≤v)(h1:v<8):∃ w:Nat,1≤w∧w≤40∧([(1:Int),(4:Int),(8:Int),(3:Int),(32:Int),(40:Int),(12:Int),(5:Int)]:List D)[v.toNat]?.getD D.top = .int .i64 (w:Int):=by
 have h:v=0∨v=1∨v=2∨v=3∨v=4∨v=5∨v=6∨v=7:=by omega
 rcases h with rfl|rfl|rfl|rfl|rfl|rfl|rfl|rfl
 ·exact⟨1,by decide,by decide,rfl⟩
 ·exact⟨4,by decide,by decide,rfl⟩
 ·exact⟨8,by decide,by decide,rfl⟩
 ·exact⟨3,by decide,by decide,rfl⟩
 ·exact⟨32,by decide,by decide,rfl⟩
 ·exact⟨40,by decide,by decide,rfl⟩
 ·exact⟨12,by decide,by decide,rfl⟩
 ·exact⟨5,by decide,by decide,rfl⟩
theorem Uu {j:Nat}(h:j<8):∃ s:F9,([(.str ([97]:F9)),(.str ([98]:F9)),(.str ([99]:F9)),(.str ([100]:F9)),(.str ([120,49]:F9)),(.str ([95,121]:F9)),(.str ([113]:F9)),(.str ([114]:F9))]:List D)[((j:Nat):Int).toNat]?.getD D.top = .str s:=by
 have h:j=0∨j=1∨j=2∨j=3∨j=4∨j=5∨j=6∨j=7:=by omega
 rcases h with rfl|rfl|rfl|rfl|rfl|rfl|rfl|rfl<;>exact⟨_,rfl⟩
structure Jb (l:List Th) (e:eE) (ws:List WS) (j:Nat):Prop where
 wi:WI ws.length (Mw ws) l e (1000+j)
 len:ws.length≤j
 wd:∀ s∈ws,s.w≤1000∧s.bits.length≤1000
theorem Jb.add {l:List Th}{e:eE}{ws:List WS}{j:Nat}(h:Jb l e ws j)(s:WS)(u:F9)(k:Int)(h1:1≤s.w)(h2:s.w≤128)(h4:s.bits.length≤1000)(hk:0<k→s.words≠[]):Jb (xO (Tt u (ws.length:Int) u (s.w:Int) s.sg k) l) (xP [] (xO (Tt u (ws.length:Int) u (s.w:Int) s.sg k) l)) (ws++[s]) (j+1):=by
 have hl:=h.len
 have hlen:(ws++[s]).length=ws.length+1:=by rw [A7];rfl
 refine⟨?_,by omega,fun x hx=>?_⟩
 ·have hI:WI (ws++[s]).length (Mw (ws++[s])) l e (1000+j):=h.wi.mono (by omega) (fun _ h=>h.app) (B9 _)
  refine hI.other ⟨fun h=>absurd (show (2:Int)=1 from h) (by decide),fun _=>⟨?_,?_,?_,?_,fun hk'=>?_⟩,fun h=>absurd (show (2:Int)=3 from h) (by decide)⟩
  ·show (0:Int)≤(ws.length:Int)
   omega
  ·show (ws.length:Int)<((ws++[s]).length:Int)
   omega
  ·show (1:Int)≤(s.w:Int)
   omega
  ·show (s.w:Int)≤128
   omega
  ·refine⟨by show (0:Int)≤(ws.length:Int);omega,s,?_,hk hk'⟩
   show (ws++[s])[((ws.length:Nat):Int).toNat]? = some s
   rw [E1,F3 (B9 _),Nat.sub_self];rfl
 ·rcases D3.1 hx with hx|hx
  ·exact h.wd x hx
  ·rw [C3.1 hx];exact⟨by omega,h4⟩
theorem DK (ws:List WS)(s:WS):ws.map aS++[aS s]=(ws++[s]).map aS:=by rw [List.map_append];rfl
theorem Qs (a2 a3 a7 a8 a9 a12 a14:List D){b:List D}:∀ (q j:Nat) (l:List Th) (e:eE) (ws:List WS) (a:Int),8-j=q→j≤8→Jb l e ws j→Mk b a→
  U (fun n=>Y9 n (8:Int) (j:Int) (.Z 19 a2) (.Z 2 a3) (.Z 19 (l.map aL)) (.Z 2 (e.map gY)) (.Z 1 ([(.str ([97]:F9)),(.str ([98]:F9)),(.str ([99]:F9)),(.str ([100]:F9)),(.str ([120,49]:F9)),(.str ([95,121]:F9)),(.str ([113]:F9)),(.str ([114]:F9))]:List D)) (.Z 2 a7) (.Z 5 a8) (.Z 10 a9) (.Z 1 b) a (.Z 2 a12) (.Z 5 (ws.map aS)) (.Z 10 a14)) fun z=>∃ (j':Int) (l:List Th) (e:eE) (ws:List WS) (a:Int),z=(false,[.int .i64 8,.int .i64 j',.Z 19 a2,.Z 2 a3,.Z 19 (l.map aL),.Z 2 (e.map gY),.Z 1 ([(.str ([97]:F9)),(.str ([98]:F9)),(.str ([99]:F9)),(.str ([100]:F9)),(.str ([120,49]:F9)),(.str ([95,121]:F9)),(.str ([113]:F9)),(.str ([114]:F9))]:List D),.Z 2 a7,.Z 5 a8,.Z 10 a9,.Z 1 b,.int .i64 a,.Z 2 a12,.Z 5 (ws.map aS),.Z 10 a14])∧Jb l e ws 8∧Mk b a:=by
 intro q
 induction q with
 |zero=>
  intro j l e ws a hk hj hI hm
  have:j=8:=by omega
  subst this
  exact U.eq (fun n=>sF n ..) (U.no rfl (U.ret ⟨_,l,e,ws,a,rfl,hI,hm⟩))
 |succ q ih=>
  intro j l e ws a hk hj hI hm
  have hj2:j<8:=by omega
  have hwr:IntKind.i64.wrap ((j:Int)+1)=((j+1:Nat):Int):=J9 (by omega)
  have hll:=hI.wi.len
  have hel:=hI.wi.el
  have hwl:=hI.len
  obtain⟨u,hu⟩:=Uu hj2
  refine U.eq (fun n=>sF n ..) (U.H5 (E4 (by omega)) (U.H5 (J8 (m:=8) hj2) ?_))
  rw [hu,hwr]
  refine U.H5 rfl (H4 (Mu (by omega) _ u) (U.H5 rfl (U.P7 (fun _=>?_) fun _=>?_)))
  ·exact ih (j+1) l e ws a (by omega) (by omega) ⟨hI.wi.mono (B9 _) (fun _ h=>h) (by omega),by omega,hI.wd⟩ hm
  ·refine U.H3 (jA (k:=8) (by decide) (by decide) hm) ?_
   rintro _ _ ⟨v,a1,h,hv0,hv1,hm1⟩;cases h
   obtain⟨w,hw1,hw2,hwd⟩:=Nl hv0 hv1
   refine⟨rfl,U.H5 rfl (U.H5 (N7 (E4 hv0) (E4 hv1)) ?_)⟩
   simp only [Y,D.i,hwd]
   refine U.H5 rfl (U.H3 (jA (k:=2) (by decide) (by decide) hm1) ?_)
   rintro _ _ ⟨v2,a2',h,hv20,hv21,hm2⟩;cases h
   refine⟨rfl,U.H5 rfl (U.P7 (fun h3=>?_) fun _=>?_)⟩
   ·refine U.J2 (No (w:=w) (by omega) u u 8 (j:Int) a2 a3 (l.map aL) (e.map gY) _ a7 a8 a9 a12 (ws.map aS) a14 [] (v2==1) hm2) (fun ds h=>by obtain⟨_,_,h,_⟩:=h;cases h) fun ds h=>?_
    obtain⟨a4,words,h,hne,hm4⟩:=h
    cases h
    refine U.H5 rfl (U.H3 (SN (w:=w) (by omega) hm4) ?_)
    rintro _ _ ⟨a5,l5,h,hl5,hm5⟩;cases h
    have hadd:=hI.add ⟨u,w,v2==1,l5,words⟩ u 3 hw1 (show w≤128 by omega) (show l5.length≤1000 by omega) fun _=>hne
    have hsg:=Cg (l:=l) (by omega) (e.map gY) u (ws.length:Int) u (w:Int) (v2==1) 3
    rw [show (ws.length:Int)=((ws.map aS).length:Int) by rw [List.length_map]] at hsg
    refine⟨rfl,U.H5 rfl (H4 hsg (U.H5 rfl (U.H5 (B2 (by show (ws.map aS).length+1≤J5;rw [List.length_map];simp only [J5];omega)) ?_)))⟩
    have hw4:IntKind.i64.wrap ((Y [D.int .i64 (j:Int)] 0).i+1)=((j+1:Nat):Int):=hwr
    have nx:=ih (j+1) _ _ _ a5 (by omega) (by omega) hadd hm5
    rw [← DK,show (ws.length:Int)=((ws.map aS).length:Int) by rw [List.length_map],← hwr] at nx
    exact nx
   ·refine U.H3 (SN (w:=w) (by omega) hm2) ?_
    rintro _ _ ⟨a5,l5,h,hl5,hm5⟩;cases h
    have hadd:=hI.add ⟨u,w,v2==1,l5,[]⟩ u 0 hw1 (show w≤128 by omega) (show l5.length≤1000 by omega) fun h=>absurd h (by decide)
    have hsg:=Cg (l:=l) (by omega) (e.map gY) u (ws.length:Int) u (w:Int) (v2==1) 0
    rw [show (ws.length:Int)=((ws.map aS).length:Int) by rw [List.length_map]] at hsg
    refine⟨rfl,U.H5 rfl (H4 hsg (U.H5 rfl (U.H5 (B2 (by show (ws.map aS).length+1≤J5;rw [List.length_map];simp only [J5];omega)) ?_)))⟩
    have nx:=ih (j+1) _ _ _ a5 (by omega) (by omega) hadd hm5
    rw [← DK,show (ws.length:Int)=((ws.map aS).length:Int) by rw [List.length_map]] at nx
    exact nx
def pD (p:F9×Nat×Bool):D:= .agg [.str p.1,.int .i64 (p.2.1:Int),.bool p.2.2,.Z 1 [],.Z 1 []]
def qD (p:F9×Nat×Bool):D:= .agg [.str p.1,.int .i64 (p.2.1:Int),.bool p.2.2,.int .i64 0]
def Vo (_:Int):Prop:=False
theorem Hn {ps:List (F9×Nat×Bool)}(hp:∀ p∈ps,1≤p.2.1∧p.2.1≤128)(hl:ps.length≤1000)(a0 a1:Int)(a5 a6 a7 a8 a10 a18 a22 a23 a24 a25 a26 a27 a28:List D)(a9 a17:F9)(a11 a13 a14 a15 a16:Int)(a12:Bool):U (fun n=>aF n a0 a1 (.Z 5 (ps.map pD)) ((ps.map pD).length:Int) (0:Int) (.Z 19 a5) (.Z 2 a6) (.Z 19 a7) (.Z 2 a8) (.str a9) (.Z 5 a10) a11 (.bool a12) a13 a14 a15 a16 (.str a17) (.Z 6 a18) (.Z 19 []) (.Z 2 []) (.Z 4 []) (.Z 10 a22) (.Z 2 a23) (.Z 5 a24) (.Z 10 a25) (.Z 2 a26) (.Z 5 a27) (.Z 10 a28)) fun z=>∃ (j':Int) (l:List Th) (e:eE),z=(false,[.int .i64 a0,.int .i64 a1,.Z 5 (ps.map pD),.int .i64 ((ps.map pD).length:Int),.int .i64 j',.Z 19 a5,.Z 2 a6,.Z 19 a7,.Z 2 a8,.str a9,.Z 5 a10,.int .i64 a11,.bool a12,.int .i64 a13,.int .i64 a14,.int .i64 a15,.int .i64 a16,.str a17,.Z 6 a18,.Z 19 (l.map aL),.Z 2 (e.map gY),.Z 4 (ps.map qD),.Z 10 a22,.Z 2 a23,.Z 5 a24,.Z 10 a25,.Z 2 a26,.Z 5 a27,.Z 10 a28])∧WI ps.length Vo l e 1000:=by
 have loop:∀ (q j:Nat) (l:List Th) (e:eE),ps.length-j=q→j≤ps.length→WI ps.length Vo l e j→
   U (fun n=>aF n a0 a1 (.Z 5 (ps.map pD)) ((ps.map pD).length:Int) (j:Int) (.Z 19 a5) (.Z 2 a6) (.Z 19 a7) (.Z 2 a8) (.str a9) (.Z 5 a10) a11 (.bool a12) a13 a14 a15 a16 (.str a17) (.Z 6 a18) (.Z 19 (l.map aL)) (.Z 2 (e.map gY)) (.Z 4 ((ps.take j).map qD)) (.Z 10 a22) (.Z 2 a23) (.Z 5 a24) (.Z 10 a25) (.Z 2 a26) (.Z 5 a27) (.Z 10 a28)) fun z=>∃ (j':Int) (l:List Th) (e:eE),z=(false,[.int .i64 a0,.int .i64 a1,.Z 5 (ps.map pD),.int .i64 ((ps.map pD).length:Int),.int .i64 j',.Z 19 a5,.Z 2 a6,.Z 19 a7,.Z 2 a8,.str a9,.Z 5 a10,.int .i64 a11,.bool a12,.int .i64 a13,.int .i64 a14,.int .i64 a15,.int .i64 a16,.str a17,.Z 6 a18,.Z 19 (l.map aL),.Z 2 (e.map gY),.Z 4 (ps.map qD),.Z 10 a22,.Z 2 a23,.Z 5 a24,.Z 10 a25,.Z 2 a26,.Z 5 a27,.Z 10 a28])∧WI ps.length Vo l e 1000:=by
  intro q
  induction q with
  |zero=>
   intro j l e hk hj hI
   rw [List.take_of_length_le (by omega)]
   exact U.eq (fun n=>sI n ..) (U.no (E6 (by rw [List.length_map];omega)) (U.ret ⟨_,l,e,rfl,hI.mono (B9 _) (fun _ h=>h) (by omega)⟩))
  |succ q ih=>
   intro j l e hk hj hI
   have hj2:j<ps.length:=by omega
   have hj3:j<(ps.map pD).length:=by rw [List.length_map];exact hj2
   have hw:IntKind.i64.wrap ((j:Int)+1)=((j+1:Nat):Int):=J9 (by omega)
   have hll:=hI.len
   have hel:=hI.el
   obtain⟨h1,h2⟩:=hp _ (C6 hj2)
   have hlen:((ps.take j).map qD).length=j:=by rw [List.length_map,D7];omega
   have e1:∀ x:D,(((ps.take j).map qD)++[x])[((j:Nat):Int).toNat]?.getD D.top=x:=fun x=>Pe hlen
   have e2:((ps.take j).map qD)++[qD ps[j]]=(ps.take (j+1)).map qD:=by rw [List.take_succ_eq_append_getElem hj2,List.map_append];rfl
   have hlen2:∀ x:D,j<(((ps.take j).map qD)++[x]).length:=fun x=>by rw [A7,hlen];exact Nat.lt_succ_self _
   refine U.eq (fun n=>sI n ..) (U.H5 (E4 (by rw [List.length_map];omega)) (U.H5 (J8 hj3) ?_))
   rw [W7 hj3,List.getElem_map,hw]
   refine U.H5 rfl (U.H5 (B2 (by rw [hlen];simp only [J5];omega)) (U.H5 (J8 (hlen2 _)) ?_))
   rw [e1]
   refine U.H5 rfl (H4 (Cg (by omega) (e.map gY) ps[j].1 (j:Int) ps[j].1 (ps[j].2.1:Int) ps[j].2.2 0) (U.H5 rfl ?_))
   have nx:=ih (j+1) _ _ (by omega) hj2 (hI.other (t:=Tt ps[j].1 (j:Int) ps[j].1 (ps[j].2.1:Int) ps[j].2.2 0) ⟨fun h=>absurd (show (2:Int)=1 from h) (by decide),fun _=>⟨?_,?_,?_,?_,fun h=>absurd (show (0:Int)<0 from h) (by decide)⟩,fun h=>absurd (show (2:Int)=3 from h) (by decide)⟩)
   ·rw [← e2] at nx
    exact nx
   ·show (0:Int)≤(j:Int)
    omega
   ·show (j:Int)<(ps.length:Int)
    omega
   ·show (1:Int)≤(ps[j].2.1:Int)
    omega
   ·show (ps[j].2.1:Int)≤128
    omega
 exact loop ps.length 0 [] [] rfl (C4 _) (WI.nil _ _)
structure Uh where
 nm:F9
 ps:List (F9×Nat×Bool)
 w:Nat
 sg:Bool
 k:Int
 a:Int
 b:Int
 c:Int
 t:F9
 xs:List D
def Vp (f:Uh):D:= .agg [.str f.nm,.Z 5 (f.ps.map pD),.int .i64 (f.w:Int),.bool f.sg,.int .i64 f.k,.int .i64 f.a,.int .i64 f.b,.int .i64 f.c,.str f.t,.Z 6 f.xs]
structure Rw (f:Uh):Prop where
 ps:∀ p∈f.ps,1≤p.2.1∧p.2.1≤128
 pl:f.ps.length≤1000
 w1:1≤f.w
 w2:f.w≤128
 ex:rS 4 (cC f.k f.a f.b f.c f.t f.xs)
theorem Ss {ns:Nat}{M:Int→Prop}{fs:List Uh}(hf:∀ f∈fs,Rw f)(hl:fs.length≤100)(a2 a3 a7 a8 a9 a10 a11:List D):∀ (q j:Nat) (l:List Th) (e:eE) (out:List D),fs.length-j=q→j≤fs.length→WI ns M l e (2000+j)→out.length=j→
  U (fun n=>bG n (fs.length:Int) (j:Int) (.Z 19 a2) (.Z 2 a3) (.Z 19 (l.map aL)) (.Z 2 (e.map gY)) (.Z 10 (fs.map Vp)) (.Z 2 a7) (.Z 5 a8) (.Z 10 a9) (.Z 2 a10) (.Z 5 a11) (.Z 10 out)) fun z=>∃ (j':Int) (l:List Th) (e:eE) (out:List D),z=(false,[.int .i64 (fs.length:Int),.int .i64 j',.Z 19 a2,.Z 2 a3,.Z 19 (l.map aL),.Z 2 (e.map gY),.Z 10 (fs.map Vp),.Z 2 a7,.Z 5 a8,.Z 10 a9,.Z 2 a10,.Z 5 a11,.Z 10 out])∧WI ns M l e 3000:=by
 intro q
 induction q with
 |zero=>
  intro j l e out hk hj hI ho
  exact U.eq (fun n=>sH n ..) (U.no (E6 (by omega)) (U.ret ⟨_,l,e,out,rfl,hI.mono (B9 _) (fun _ h=>h) (by omega)⟩))
 |succ q ih=>
  intro j l e out hk hj hI ho
  have hj2:j<fs.length:=by omega
  have hj3:j<(fs.map Vp).length:=by rw [List.length_map];exact hj2
  have hw:IntKind.i64.wrap ((j:Int)+1)=((j+1:Nat):Int):=J9 (by omega)
  have hll:=hI.len
  have hel:=hI.el
  have ok:=hf _ (C6 hj2)
  refine U.eq (fun n=>sH n ..) (U.H5 (E4 (by omega)) (U.H5 (J8 hj3) ?_))
  rw [W7 hj3,List.getElem_map]
  generalize fs[j]=f at ok ⊢
  refine U.H5 rfl (U.J2 (Hn ok.ps ok.pl (fs.length:Int) (j:Int) a2 a3 (l.map aL) (e.map gY) (f.ps.map pD) f.xs (fs.map Vp) a7 a8 a9 a10 a11 out f.nm f.t (f.w:Int) f.k f.a f.b f.c f.sg) (fun ds h=>by obtain⟨_,_,_,h,_⟩:=h;cases h) fun ds h=>?_)
  obtain⟨j',li,ei,h,hIi⟩:=h
  cases h
  have hres:=NQ (hIi.sc (by decide)) (d:=4) (B9 _) ok.ex (f.w:Int)
  refine U.H5 rfl (H4 (TU 4 _ (Cu ok.ex)) (U.H5 rfl (U.H3 hres ?_)))
  rintro _ _ ⟨t,q1,q2,q3,er,h,her,hok⟩;cases h
  have hg:Good f.ps.length Vo t∧L6 t≤20000:=by
   by_cases h0:er=0
   ·exact hok h0
   ·rw [her h0]
    exact⟨sR (ts:=[]) (by constructor<;>decide) (by decide) (by decide) trivial,by rw [Mt];omega⟩
  have ht:Ir (Ud f.nm (f.ps.map qD) (f.w:Int) f.sg ((enc t).at_ 0).i ((enc t).at_ 1).i ((enc t).at_ 2).i ((enc t).at_ 3).i ((enc t).at_ 4).i ((enc t).at_ 5).b ((enc t).at_ 6).i ((enc t).at_ 7).l ((enc t).at_ 8).l):=by
   refine⟨?_,?_,⟨t,?_,?_,hg.2⟩,fun y hy=>?_⟩
   ·show (1:Int)≤(f.w:Int)
    have:=ok.w1;omega
   ·show (f.w:Int)≤128
    have:=ok.w2;omega
   ·cases t;rfl
   ·show Good (f.ps.map qD).length _ t
    rw [List.length_map];exact hg.1
   ·obtain⟨p,_,rfl⟩:=List.mem_map.1 (show y∈f.ps.map qD from hy)
    exact⟨_,_,_,_,rfl⟩
  have hfun:=Pd (l:=l) (by omega) (e.map gY) f.nm (f.ps.map qD) (f.w:Int) f.sg ((enc t).at_ 0).i ((enc t).at_ 1).i ((enc t).at_ 2).i ((enc t).at_ 3).i ((enc t).at_ 4).i ((enc t).at_ 5).b ((enc t).at_ 6).i ((enc t).at_ 7).l ((enc t).at_ 8).l
  refine⟨rfl,U.H5 (by cases t;rfl) (H4 hfun (U.H5 rfl (U.H5 (B2 (by show out.length+1≤J5;rw [ho];simp only [J5];omega)) ?_)))⟩
  have nx:=fun x=>ih (j+1) _ _ (out++[x]) (by omega) hj2 (hI.other (t:=Ud f.nm (f.ps.map qD) (f.w:Int) f.sg ((enc t).at_ 0).i ((enc t).at_ 1).i ((enc t).at_ 2).i ((enc t).at_ 3).i ((enc t).at_ 4).i ((enc t).at_ 5).b ((enc t).at_ 6).i ((enc t).at_ 7).l ((enc t).at_ 8).l) ⟨fun h=>absurd (show (3:Int)=1 from h) (by decide),fun h=>absurd (show (3:Int)=2 from h) (by decide),fun _=>ht⟩) (by rw [A7,ho];rfl)
  rw [← hw] at nx
  exact nx _
def Uc (t:F9):D:=cC 2 0 0 0 t []
theorem Ez (d:Nat)(t:F9):rS (d+1) (Uc t):=⟨2,0,0,0,t,[],rfl,.inr (.inl ⟨rfl,trivial,rfl⟩),fun y hy=>by cases hy⟩
def fF (g:Bool):Uh:=⟨[102],[([112],6,true),([113],3,false)],7,g,4,0,0,0,[43],[Uc [112],cC 4 0 0 0 [60,60] [Uc [113],Uc [112]]]⟩
def fG:Uh:=⟨[103],[([112],9,false)],2,false,3,0,0,0,[126],[Uc [112]]⟩
theorem Nk (d:Nat){t:F9}(ht:t∈YH){x y:D}(hx:rS d x)(hy:rS d y):rS (d+1) (cC 4 0 0 0 t [x,y]):=⟨4,0,0,0,t,[x,y],rfl,.inr (.inr (.inr (.inl ⟨rfl,ht,rfl⟩))),UG hx hy⟩
theorem Vm (d:Nat){t:F9}(ht:t∈Vi){x:D}(hx:rS d x):rS (d+1) (cC 3 0 0 0 t [x]):=⟨3,0,0,0,t,[x],rfl,.inr (.inr (.inl ⟨rfl,ht,rfl⟩)),JZ hx⟩
theorem Up (g:Bool):Rw (fF g):=⟨fun p hp=>by simp [fF] at hp;rcases hp with rfl|rfl<;>decide,show 2≤1000 by decide,show 1≤7 by decide,show 7≤128 by decide,Nk 3 (t:=[43]) (by simp [YH]) (Ez 2 _) (Nk 2 (t:=[60,60]) (by simp [YH]) (Ez 1 _) (Ez 1 _))⟩
theorem Uq:Rw fG:=⟨fun p hp=>by simp [fG] at hp;subst hp;decide,show 1≤1000 by decide,show 1≤2 by decide,show 2≤128 by decide,Vm 3 (t:=[126]) (by simp [Vi]) (Ez 2 _)⟩
theorem VU (t:F9):U (fun n=>X8 n (.str t)) fun r=>r=(true,[Uc t]):=U.eq (fun n=>GN n ..) (U.ret rfl)
theorem Np {xs b:List D}(hx:∀ y∈xs,Iu y)(hb:Bytes b):U (fun n=>cA n (.agg [.Z 2 xs,.Z 1 b])) fun z=>∃ (nums fns:List D) (l:List Th) (e:eE) (ws:List WS),z=(true,[.agg [.Z 2 nums,.Z 5 (ws.map aS),.Z 10 fns],.agg [.Z 19 (l.map aL),.Z 2 (e.map gY)]])∧WI ws.length (Mw ws) l e 3000∧ws.length≤8∧∀ s∈ws,s.w≤1000∧s.bits.length≤1000:=by
 refine U.eq (fun n=>MQ n ..) (U.H3 (QZ hb) ?_)
 rintro _ _ ⟨b',h,hb',hl⟩;cases h
 refine⟨rfl,U.H5 rfl (U.H3 (Sp hx) ?_)⟩
 rintro _ _ ⟨lo,lr,h,hE⟩;cases h
 refine⟨rfl,U.H5 rfl (U.J2 (Vk hE (ns:=0) (M:=Mw []) [] [] [] [] [] b' [] [] 0) (fun ds h=>by obtain⟨_,_,_,h,_⟩:=h;cases h) fun ds h=>?_)⟩
 obtain⟨j',l,e,h,hI⟩:=h
 cases h
 refine U.H5 rfl (U.J2 (Qs [] [] [] [] [] (lr.map gY) [] 8 0 l e [] 0 rfl (C4 _) ⟨hI,B9 _,fun s h=>by cases h⟩ ⟨hb',hl,by decide,by omega⟩) (fun ds h=>by obtain⟨_,_,_,_,_,h,_⟩:=h;cases h) fun ds h=>?_)
 obtain⟨j2,l2,e2,ws,a2,h,hW,hm⟩:=h
 cases h
 refine U.H5 rfl (U.H3 (jA (k:=2) (by decide) (by decide) hm) ?_)
 rintro _ _ ⟨v,a3,h,_,_,_⟩;cases h
 refine⟨rfl,U.H5 rfl (H4 (VU [112]) (U.H5 rfl (H4 (VU [113]) (U.H5 rfl (H4 (VU [112]) (U.H5 rfl (H4 (VU [112]) (U.H5 rfl ?_))))))))⟩
 refine U.J2 (Ss (ns:=ws.length) (M:=Mw ws) (fs:=[fF (v==1),fG]) (fun f hf=>?_) (show 2≤100 by decide) [] [] [] [] [] (lr.map gY) (ws.map aS) 2 0 l2 e2 [] rfl (C4 _) (hW.wi.mono (B9 _) (fun _ h=>h) (by omega)) rfl) (fun ds h=>by obtain⟨_,_,_,_,h,_⟩:=h;cases h) fun ds h=>?_
 ·rcases B7.1 hf with rfl|hf
  ·exact Up _
  ·rw [C3.1 hf];exact Uq
 ·obtain⟨j4,l4,e4,out,h,hI4⟩:=h
  cases h
  exact U.H5 rfl (U.ret ⟨lr.map gY,out,l4,e4,ws,rfl,hI4,hW.len,hW.wd⟩)
end Go.Proofs.YthlhbocobgkdmaaGreat
