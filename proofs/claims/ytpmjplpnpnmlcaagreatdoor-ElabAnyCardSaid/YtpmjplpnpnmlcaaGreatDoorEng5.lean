import Derived.Test.YtpmjplpnpnmlcaaGreatDoorEng4
import Derived.IntWalk
set_option linter.all false
namespace Go.AE.Q
def bX (ρ:Nat→D)(n:Nat)(e:L)(v:Int):Prop:=∀ ρ',L4 n ρ ρ'→∀ ix,e.ev (nu ρ' ix)=v
def oU (ρ:Nat→D)(n:Nat)(f:Fm)(b:Bool):Prop:=∀ ρ',L4 n ρ ρ'→f.bv ρ'=b
theorem M9.H7 {ρ:Nat→D}{n:Nat}{x:A}{d:D}(h:M9 ρ n x d):bX ρ n x.H7 d.i:=fun ρ' ha ix=>by
 obtain⟨h1,h2⟩:=h ρ' ha
 rw [A.jB h2,h1]
theorem M9.len {ρ:Nat→D}{n:Nat}{x:A}{d:D}(h:M9 ρ n x d):bX ρ n x.len (d.l.length:Nat):=fun ρ' ha ix=>by
 obtain⟨h1,h2⟩:=h ρ' ha
 rw [A.V8 h2,h1]
theorem M9.sle {ρ:Nat→D}{n:Nat}{x:A}{d:D}(h:M9 ρ n x d):bX ρ n x.sle (d.s.length:Nat):=fun ρ' ha ix=>by
 obtain⟨h1,h2⟩:=h ρ' ha
 rw [A.YG h2,h1]
theorem M9.uR {ρ:Nat→D}{n:Nat}{x:A}{d:D}(h:M9 ρ n x d):bX ρ n x.uR (bR d:Nat):=fun ρ' ha ix=>by
 obtain⟨h1,h2⟩:=h ρ' ha
 rw [A.zU ix h2,h1]
theorem M9.bo {ρ:Nat→D}{n:Nat}{x:A}{d:D}(h:M9 ρ n x d):oU ρ n x.bo d.b:=fun ρ' ha=>by
 obtain⟨h1,h2⟩:=h ρ' ha
 rw [A.wT h2,h1]
theorem M9.n {ρ:Nat→D}{n:Nat}{e:L}{v:Int}(h:bX ρ n e v)(k:IntKind):M9 ρ n (.n k e) (.int k v):=fun ρ' ha=>⟨congrArg (D.int k) (h ρ' ha 0),fun ix=>(h ρ' ha ix).trans (h ρ' ha 0).symm⟩
theorem M9.b {ρ:Nat→D}{n:Nat}{f:Fm}{b:Bool}(h:oU ρ n f b):M9 ρ n (.b f) (.bool b):=fun ρ' ha=>⟨congrArg D.bool (h ρ' ha),trivial⟩
theorem bX.add {ρ:Nat→D}{n:Nat}{e f:L}{v w:Int}(h:bX ρ n e v)(g:bX ρ n f w):bX ρ n (e.add f) (v+w):=fun ρ' ha ix=>by rw [L.eU,h ρ' ha,g ρ' ha]
theorem bX.sub {ρ:Nat→D}{n:Nat}{e f:L}{v w:Int}(h:bX ρ n e v)(g:bX ρ n f w):bX ρ n (e.sub f) (v-w):=fun ρ' ha ix=>by rw [L.K0,h ρ' ha,g ρ' ha]
theorem bX.mul {ρ:Nat→D}{n:Nat}{e:L}{v:Int}(h:bX ρ n e v)(k:Int):bX ρ n (e.mul k) (k*v):=fun ρ' ha ix=>by rw [L.X8,h ρ' ha]
theorem bX.O8 {ρ:Nat→D}{n:Nat}{e:L}{v:Int}(h:bX ρ n e v)(k:Int):bX ρ n (e.O8 k) (v+k):=fun ρ' ha ix=>by rw [L.K3,h ρ' ha]
theorem bX.c {ρ:Nat→D}{n:Nat}{k:Int}:bX ρ n (.c k) k:=fun _ _ _=>rfl
theorem bX.ge {ρ:Nat→D}{n:Nat}{e:L}{v:Int}(h:bX ρ n e v):oU ρ n (.ge e) (decide (0≤v)):=fun ρ' ha=>by
 show decide (0≤e.ev (nu ρ' 0))=_
 rw [h ρ' ha]
theorem oU.an {ρ:Nat→D}{n:Nat}{x y:Fm}{a b:Bool}(h:oU ρ n x a)(g:oU ρ n y b):oU ρ n (.an x y) (a&&b):=fun ρ' ha=>by
 show (x.bv ρ'&&y.bv ρ')=_
 rw [h ρ' ha,g ρ' ha]
theorem oU.or {ρ:Nat→D}{n:Nat}{x y:Fm}{a b:Bool}(h:oU ρ n x a)(g:oU ρ n y b):oU ρ n (.or x y) (a||b):=fun ρ' ha=>by
 show (x.bv ρ'||y.bv ρ')=_
 rw [h ρ' ha,g ρ' ha]
theorem oU.neg {ρ:Nat→D}{n:Nat}{x:Fm}{a:Bool}(h:oU ρ n x a):oU ρ n x.neg (!a):=fun ρ' ha=>by rw [Fm.L6,h ρ' ha]
theorem bX.mono {ρ ρ1:Nat→D}{n m:Nat}{e:L}{v:Int}(h:bX ρ n e v)(ha:L4 n ρ ρ1)(hm:n≤m):bX ρ1 m e v:=fun ρ' h'=>h ρ' (ha.trans hm h')
theorem oU.mono {ρ ρ1:Nat→D}{n m:Nat}{e:Fm}{v:Bool}(h:oU ρ n e v)(ha:L4 n ρ ρ1)(hm:n≤m):oU ρ1 m e v:=fun ρ' h'=>h ρ' (ha.trans hm h')
noncomputable def kZ (fs F:List Fm) (K:List Fm→Bool):Bool:=List.rec (motive:=fun _=>List Fm→Bool) K (fun f _ ih F=>ih (f::F)) fs F
theorem iC {ρ:Nat→D}:∀ {fs F:List Fm} {K:List Fm→Bool},kZ fs F K=true→∃ F',K F'=true∧∀ x∈F',x∈fs∨x∈F
 |[],F,K,h=>⟨F,h,fun x hx=> .inr hx⟩
 |f::fs,F,K,h=>by
  obtain⟨F',h1,h2⟩:=iC (ρ:=ρ) (fs:=fs) (F:=f::F) h
  refine⟨F',h1,fun x hx=>?_⟩
  rcases h2 x hx with h|h
  ·exact .inl (C0 _ h)
  ·rcases B7.1 h with rfl|h
   ·exact .inl (B8 ..)
   ·exact .inr h
noncomputable def Fl (mk:Nat→A) (fs:Nat→List Fm) (ds:Nat→List Df) (st:St) (K:A→St→Bool):Bool:=St.casesOn (motive:=fun _=>Bool) st fun nx G F D C=>Y3 nx fun a=>kZ (fs a) F fun F=>K (mk a) (.mk (Nat.succ a) G F (oZ (ds a) D) C)
def R5 (tab:Nat→Pd)(ρ:Nat→D)(st:St)(d:D)(K:A→St→Nat→Bool):Prop:=∃ ρ1 L9 a ct1,L4 st.nx ρ ρ1∧st.nx≤L9.nx∧Sat tab ρ1 L9∧M9 ρ1 L9.nx a d∧K a L9 ct1=true
theorem R5.now {tab:Nat→Pd}{ρ:Nat→D}{st:St}{d:D}{K:A→St→Nat→Bool}(hS:Sat tab ρ st){a:A}(ha:M9 ρ st.nx a d){ct:Nat}(h:K a st ct=true):R5 tab ρ st d K:=⟨ρ,st,a,ct,L4.refl,B9 _,hS,ha,h⟩
theorem R5.bind {tab:Nat→Pd}{ρ:Nat→D}{st:St}{d d':D}{K K':A→St→Nat→Bool}(h:R5 tab ρ st d K)(k:∀ ρ1 L9 a ct1,L4 st.nx ρ ρ1→st.nx≤L9.nx→Sat tab ρ1 L9→M9 ρ1 L9.nx a d→K a L9 ct1=true→R5 tab ρ1 L9 d' K'):R5 tab ρ st d' K':=by
 obtain⟨ρ1,L9,a,ct1,h1,h2,h3,h4,h5⟩:=h
 obtain⟨ρ2,st2,b,ct2,g1,g2,g3,g4,g5⟩:=k ρ1 L9 a ct1 h1 h2 h3 h4 h5
 exact⟨ρ2,st2,b,ct2,h1.trans h2 g1,Nat.le_trans h2 g2,g3,g4,g5⟩
def Ef (ρ:Nat→D)(n:Nat)(d:D):Nat→D:=fun i=>if i=n then d else ρ i
theorem wA {ρ:Nat→D}{n:Nat}{d:D}:L4 n ρ (Ef ρ n d):=fun a ha=>if_neg (by omega)
theorem nX {tab:Nat→Pd}{ρ:Nat→D}{st:St}{mk:Nat→A}{fs:Nat→List Fm}{ds:Nat→List Df}{K:A→St→Nat→Bool}{ct:Nat}(h:Fl mk fs ds st (fun a st=>K a st ct)=true)(hS:Sat tab ρ st)(d d':D)
  (hd:∀ ρ',L4 st.nx ρ ρ'→ρ' st.nx=d→((mk st.nx).val ρ'=d'∧(mk st.nx).ok ρ')∧Hs ρ' (fs st.nx)∧∀ x∈ds st.nx,oT ρ' x):R5 tab ρ st d' K:=by
 cases st with
 |mk nx G F D_ C=>
  have h:Y3 nx (fun a=>kZ (fs a) F fun F=>K (mk a) (.mk (Nat.succ a) G F (oZ (ds a) D_) C) ct)=true:=h
  rw [N9] at h
  obtain⟨F',h,hF⟩:=iC (ρ:=ρ) h
  have key:∀ ρ',L4 (nx+1) (Ef ρ nx d) ρ'→L4 nx ρ ρ'∧ρ' nx=d:=fun ρ' ha=>⟨wA.trans (Nat.le_succ _) ha,(ha nx (Nat.lt_succ_self _)).trans (if_pos rfl)⟩
  refine⟨Ef ρ nx d,_,_,ct,wA,Nat.le_succ _,fun ρ' ha=>?_,fun ρ' ha=>?_,h⟩
  ·obtain⟨k1,k2⟩:=key ρ' ha
   have h0:=hS ρ' k1
   obtain⟨_,g2,g3⟩:=hd ρ' k1 k2
   refine⟨h0.G,fun x hx=>?_,fun x hx=>?_,h0.C⟩
   ·rcases hF x hx with hx|hx
    ·exact g2 x hx
    ·exact h0.F x hx
   ·have hx:x∈oZ (ds nx) D_:=hx
    rw [vF] at hx
    rcases D5.1 hx with hx|hx
    ·exact g3 x hx
    ·exact h0.D x hx
  ·obtain⟨k1,k2⟩:=key ρ' ha
   exact (hd ρ' k1 k2).1
abbrev W0:=St→Nat→(A→St→Nat→Bool)→Bool
noncomputable def P5:W0:=fun st ct K=>Fl (fun a=> .o a) (fun _=>[]) (fun _=>[]) st fun a st=>K a st ct
theorem Q7 {tab:Nat→Pd}{ρ:Nat→D}{st:St}{ct:Nat}{K:A→St→Nat→Bool}(h:P5 st ct K=true)(hS:Sat tab ρ st)(d:D):R5 tab ρ st d K:=
 nX h hS d d fun ρ' ha hn=>⟨⟨hn,trivial⟩,(fun x hx=>by cases hx),(fun x hx=>by cases hx)⟩
noncomputable def AJ (k:IntKind) (fs:L→List Fm):W0:=fun st ct K=>Fl (fun a=> .n k (lm (Nat.mul 8 a))) (fun a=>fs (lm (Nat.mul 8 a))) (fun _=>[]) st fun a st=>K a st ct
theorem R8 {tab:Nat→Pd}{ρ:Nat→D}{st:St}{ct:Nat}{K:A→St→Nat→Bool}{k:IntKind}{fs:L→List Fm}(h:AJ k fs st ct K=true)(hS:Sat tab ρ st)(v:Int)
  (hf:∀ ρ' (e:L),L4 st.nx ρ ρ'→e.ev (nu ρ' 0)=v→Hs ρ' (fs e)):R5 tab ρ st (.int k v) K:=
 nX h hS (.int k v) _ fun ρ' ha hn=>by
  have e:∀ ix,(lm (8*st.nx)).ev (nu ρ' ix)=v:=fun ix=>by rw [L5,AX,hn];rfl
  exact⟨⟨congrArg (D.int k) (e 0),fun ix=>(e ix).trans (e 0).symm⟩,hf ρ' _ ha (e 0),(fun x hx=>by cases hx)⟩
noncomputable def AY:W0:=fun st ct K=>Fl (fun a=> .b (.b a)) (fun _=>[]) (fun _=>[]) st fun a st=>K a st ct
theorem bJ {tab:Nat→Pd}{ρ:Nat→D}{st:St}{ct:Nat}{K:A→St→Nat→Bool}(h:AY st ct K=true)(hS:Sat tab ρ st)(b:Bool):R5 tab ρ st (.bool b) K:=
 nX h hS (.bool b) _ fun ρ' ha hn=>⟨⟨by show D.bool (ρ' _).b=_;rw [hn];rfl,trivial⟩,(fun x hx=>by cases hx),(fun x hx=>by cases hx)⟩
noncomputable def Nr (e:L):W0:=fun st ct K=>Fl (fun a=> .s a e) (fun _=>[]) (fun _=>[]) st fun a st=>K a st ct
theorem FY {tab:Nat→Pd}{ρ:Nat→D}{st:St}{ct:Nat}{K:A→St→Nat→Bool}{e:L}(h:Nr e st ct K=true)(hS:Sat tab ρ st)(s:G0)(he:bX ρ st.nx e (s.length:Nat)):R5 tab ρ st (.str s) K:=
 nX h hS (.str s) _ fun ρ' ha hn=>⟨⟨hn,⟨s,hn⟩,fun ix=>by rw [he ρ' ha ix,hn];rfl⟩,(fun x hx=>by cases hx),(fun x hx=>by cases hx)⟩
noncomputable def Qj (fs:L→List Fm):W0:=fun st ct K=>Fl (fun a=> .s a (lm (Nat.add (Nat.mul 8 a) 4))) (fun a=>fs (lm (Nat.add (Nat.mul 8 a) 4))) (fun _=>[]) st fun a st=>K a st ct
theorem Cz {tab:Nat→Pd}{ρ:Nat→D}{st:St}{ct:Nat}{K:A→St→Nat→Bool}{fs:L→List Fm}(h:Qj fs st ct K=true)(hS:Sat tab ρ st)(s:G0)
  (hf:∀ ρ' (e:L),L4 st.nx ρ ρ'→e.ev (nu ρ' 0)=((s.length:Nat):Int)→Hs ρ' (fs e)):R5 tab ρ st (.str s) K:=
 nX h hS (.str s) _ fun ρ' ha hn=>by
  have e:∀ ix,(lm (8*st.nx+4)).ev (nu ρ' ix)=(s.length:Nat):=fun ix=>by rw [L5,MM,hn];rfl
  exact⟨⟨hn,⟨s,hn⟩,fun ix=>by rw [hn];exact e ix⟩,hf ρ' _ ha (e 0),(fun x hx=>by cases hx)⟩
noncomputable def SZ (sz:Nat) (e:L) (fs:Nat→List Fm) (ds:Nat→List Df):W0:=fun st ct K=>Fl (fun a=> .l a sz e) fs ds st fun a st=>K a st ct
theorem jE {tab:Nat→Pd}{ρ:Nat→D}{st:St}{ct:Nat}{K:A→St→Nat→Bool}{sz:Nat}{e:L}{fs:Nat→List Fm}{ds:Nat→List Df}(h:SZ sz e fs ds st ct K=true)(hS:Sat tab ρ st)(xs:List D)(he:bX ρ st.nx e (xs.length:Nat))
  (hf:∀ ρ',L4 st.nx ρ ρ'→ρ' st.nx = .Z sz xs→Hs ρ' (fs st.nx)) (hd:∀ ρ',L4 st.nx ρ ρ'→ρ' st.nx = .Z sz xs→∀ x∈ds st.nx,oT ρ' x):R5 tab ρ st (.Z sz xs) K:=
 nX h hS (.Z sz xs) _ fun ρ' ha hn=>⟨⟨hn,⟨xs,hn⟩,fun ix=>by rw [he ρ' ha ix,hn];rfl⟩,hf ρ' ha hn,hd ρ' ha hn⟩
noncomputable def Cn (sz:Nat) (fs:Nat→L→List Fm) (ds:Nat→List Df):W0:=fun st ct K=>Fl (fun a=> .l a sz (lm (Nat.add (Nat.mul 8 a) 1))) (fun a=>fs a (lm (Nat.add (Nat.mul 8 a) 1))) ds st fun a st=>K a st ct
theorem FV {tab:Nat→Pd}{ρ:Nat→D}{st:St}{ct:Nat}{K:A→St→Nat→Bool}{sz:Nat}{fs:Nat→L→List Fm}{ds:Nat→List Df}(h:Cn sz fs ds st ct K=true)(hS:Sat tab ρ st)(xs:List D)
  (hf:∀ ρ' (e:L),L4 st.nx ρ ρ'→ρ' st.nx = .Z sz xs→e.ev (nu ρ' 0)=((xs.length:Nat):Int)→Hs ρ' (fs st.nx e)) (hd:∀ ρ',L4 st.nx ρ ρ'→ρ' st.nx = .Z sz xs→∀ x∈ds st.nx,oT ρ' x):R5 tab ρ st (.Z sz xs) K:=
 nX h hS (.Z sz xs) _ fun ρ' ha hn=>by
  have e:∀ ix,(lm (8*st.nx+1)).ev (nu ρ' ix)=(xs.length:Nat):=fun ix=>by rw [L5,gO,hn];rfl
  exact⟨⟨hn,⟨xs,hn⟩,fun ix=>by rw [hn];exact e ix⟩,hf ρ' _ ha hn (e 0),hd ρ' ha hn⟩
noncomputable def Fs (b:Nat) (ks:List K):A:=List.rec (motive:=fun _=>Nat→A) (fun _=> .gn) (fun k _ ih b=> .gc (T7 k b) (ih (Nat.succ b))) ks b
noncomputable def BF (σ:Nat→A) (fm:List Fm):List Fm:=mM (fun f=>f.sub σ) fm
noncomputable def leaves (ks:List K) (n b:Nat):Nat→A:=fun j=>H9 (Nat.blt j n) (T7 (L3 .u ks j) (Nat.add b j)) (.c .top)
noncomputable def IS (cx:Cx) (p:Nat) (ps:List L) (st:St) (K:A→St→Bool):Bool:=H9 (U8 FP ps) (St.casesOn (motive:=fun _=>Bool) st fun nx G F D C=>Pd.casesOn (motive:=fun _=>Bool) (cx.tab p)
 (fun np kk fm=>Y3 nx fun a=>kZ (BF (oN np ps fun _=>T7 kk a) fm) F fun F=>K (T7 kk a) (.mk (Nat.succ a) (.mk a 1 0 [] (oN np ps fun _=>T7 kk a) [kk]::G) F D C))
 (fun np ks fm=>Y3 nx fun b=>Y3 (P7 ks) fun n=>kZ (BF (oN np ps (leaves ks n b)) fm) F fun F=>Y3 (Nat.add b n) fun m=>K (Fs b ks) (.mk m (.mk b n (Nat.succ p) ps (oN np ps (leaves ks n b)) ks::G) F D C))) false
theorem WI {hp:Hp}{ρ ρ':Nat→D}:∀ {ks:List K} {b:Nat},(∀ j,j<ks.length→HK hp ρ' (ks[j]?.getD .u) (ρ (b+j)))→(Fs b ks).val ρ = .agg ((List.range ks.length).map fun j=>ρ (b+j))∧(Fs b ks).ok ρ∧(Fs b ks).fW=true
 |[],b,h=>⟨rfl,trivial,rfl⟩
 |k::ks,b,h=>by
  obtain⟨e1,e2⟩:=fG (h 0 (by simp))
  obtain⟨f1,f2,f3⟩:=WI (ks:=ks) (b:=b+1) (hp:=hp) (ρ:=ρ) (ρ':=ρ') fun j hj=>by
   have:=h (j+1) (by simpa using hj)
   rw [show b+1+j=b+(j+1) by omega]
   simpa using this
  refine⟨?_,⟨e2,f2,f3⟩,rfl⟩
  show D.agg ((T7 k b).val ρ::((Fs (b+1) ks).val ρ).cells)=_
  have e1:(T7 k b).val ρ=ρ b:=e1
  rw [e1,f1,A0,List.range_succ_eq_map,List.map_cons,List.map_map]
  refine congrArg (fun l=>D.agg (ρ b::l)) (List.map_congr_left fun j _=>?_)
  show ρ (b+1+j)=ρ (b+(j+1))
  rw [show b+1+j=b+(j+1) by omega]
theorem Hd {cs:List D}{n:Nat}(h:cs.length=n):D.agg ((List.range n).map fun j=>(D.agg cs).at_ j)=D.agg cs:=by
 refine congrArg D.agg (List.ext_getElem (by simp [h]) fun i h1 h2=>?_)
 simp [D.at_,D.cells,C2 h2]
theorem vW {ρ:Nat→D}{σ:Nat→A}(hσ:mK ρ σ){fm:List Fm}(h:Hs (wv ρ σ) fm):Hs ρ (BF σ fm):=fun x hx=>by
 rw [BF,gJ] at hx
 obtain⟨y,hy,rfl⟩:=List.mem_map.1 hx
 rw [Fm.cJ hσ];exact h y hy
def ext (ρ:Nat→D)(n:Nat)(leaf:Nat→D):Nat→D:=fun i=>if i<n then ρ i else leaf (i-n)
theorem vL {ρ:Nat→D}{n:Nat}{leaf:Nat→D}:L4 n ρ (ext ρ n leaf):=fun a ha=>if_pos ha
theorem UX {ρ ρ':Nat→D}{n m:Nat}{leaf:Nat→D}(h:L4 (n+m) (ext ρ n leaf) ρ'){j:Nat}(hj:j<m):ρ' (n+j)=leaf j:=by
 rw [h (n+j) (by omega),ext,if_neg (by omega),show n+j-n=j by omega]
theorem VN {cx:Cx}{ρ:Nat→D}{p:Nat}{ps:List L}{st:St}{ct:Nat}{K:A→St→Nat→Bool}(h:IS cx p ps st (fun a st=>K a st ct)=true)(hS:Sat cx.tab ρ st)(d:D)(hd:∀ ρ',L4 st.nx ρ ρ'→HP cx.tab p (jC ρ' ps) d):R5 cx.tab ρ st d K:=by
 obtain⟨h3,h⟩:=I3 h
 cases st with
 |mk nx G F D_ C=>
  have hd:∀ ρ',L4 nx ρ ρ'→TH (HP cx.tab) (cx.tab p) (jC ρ' ps) d:=fun ρ' ha=>eB.1 (hd ρ' ha)
  have hd0:=fun ρ' ha=>eB.2 (hd ρ' ha)
  cases ht:cx.tab p with
  |sc np kk fm=>
   rw [ht] at h
   simp only [ht] at hd
   have h:Y3 nx (fun a=>kZ (BF (oN np ps fun _=>T7 kk a) fm) F fun F=>K (T7 kk a) (.mk (Nat.succ a) (.mk a 1 0 [] (oN np ps fun _=>T7 kk a) [kk]::G) F D_ C) ct)=true:=h
   rw [N9] at h
   obtain⟨F',h,hF⟩:=iC (ρ:=ρ) h
   have key:∀ ρ',L4 (nx+1) (Ef ρ nx d) ρ'→L4 nx ρ ρ'∧ρ' nx=d:=fun ρ' ha=>⟨wA.trans (Nat.le_succ _) ha,(ha nx (Nat.lt_succ_self _)).trans (if_pos rfl)⟩
   have main:∀ ρ',L4 (nx+1) (Ef ρ nx d) ρ'→((T7 kk nx).val ρ'=d∧(T7 kk nx).ok ρ')∧mK ρ' (oN np ps fun _=>T7 kk nx)∧HK (HP cx.tab) (wv ρ' (oN np ps fun _=>T7 kk nx)) kk d∧Hs (wv ρ' (oN np ps fun _=>T7 kk nx)) fm:=by
    intro ρ' ha
    obtain⟨k1,k2⟩:=key ρ' ha
    obtain⟨g1,g2⟩:=hd ρ' k1
    have e1:=fG (ρ:=ρ') (a:=nx) (k2.symm▸g1)
    rw [k2] at e1
    have hσ:mK ρ' (oN np ps fun _=>T7 kk nx):=zS h3 fun _=>e1.2
    refine⟨e1,hσ,?_⟩
    rw [zT]
    have e2:(fun _:Nat=>(T7 kk nx).val ρ')=fun _=>d:=funext fun _=>e1.1
    rw [e2];exact⟨g1,g2⟩
   refine⟨Ef ρ nx d,_,_,ct,wA,Nat.le_succ _,fun ρ' ha=>?_,?_,h⟩
   rotate_left
   ·exact fun ρ' ha=>(main ρ' ha).1
   obtain⟨k1,k2⟩:=key ρ' ha
   have h0:=hS ρ' k1
   obtain⟨e1,hσ,g1,g2⟩:=main ρ' ha
   refine⟨fun x hx=>?_,fun x hx=>?_,h0.D,h0.C⟩
   ·rcases B7.1 hx with rfl|hx
    ·refine⟨hσ,rfl,fun j hj=>?_,fun h=>absurd rfl h⟩
     obtain rfl:j=0:=by omega
     show HK _ _ kk (ρ' nx)
     rw [k2];exact g1
    ·exact h0.G x hx
   ·rcases hF x hx with hx|hx
    ·exact vW hσ g2 x hx
    ·exact h0.F x hx
  |st np ks fm=>
   rw [ht] at h
   simp only [ht] at hd
   have h:Y3 nx (fun b=>Y3 (P7 ks) fun n=>kZ (BF (oN np ps (leaves ks n b)) fm) F fun F=>Y3 (Nat.add b n) fun m=>K (Fs b ks) (.mk m (.mk b n (Nat.succ p) ps (oN np ps (leaves ks n b)) ks::G) F D_ C) ct)=true:=h
   rw [N9,N9,P8] at h
   obtain⟨F',h,hF⟩:=iC (ρ:=ρ) h
   rw [N9] at h
   have key:∀ ρ',L4 (nx+ks.length) (ext ρ nx d.at_) ρ'→L4 nx ρ ρ'∧∀ j,j<ks.length→ρ' (nx+j)=d.at_ j:=fun ρ' ha=>⟨vL.trans (Nat.le_add_right ..) ha,fun j hj=>UX ha hj⟩
   have main:∀ ρ',L4 (nx+ks.length) (ext ρ nx d.at_) ρ'→((Fs nx ks).val ρ'=d∧(Fs nx ks).ok ρ')∧mK ρ' (oN np ps (leaves ks ks.length nx))∧(∀ j,j<ks.length→HK (HP cx.tab) (wv ρ' (oN np ps (leaves ks ks.length nx))) (ks[j]?.getD .u) (ρ' (nx+j)))∧Hs (wv ρ' (oN np ps (leaves ks ks.length nx))) fm∧D.agg ((List.range ks.length).map fun j=>ρ' (nx+j))=d:=by
    intro ρ' ha
    obtain⟨k1,k2⟩:=key ρ' ha
    obtain⟨⟨cs,e,e'⟩,g1,g2⟩:=hd ρ' k1
    have g1':∀ j,j<ks.length→HK (HP cx.tab) (pw np (jC ρ' ps) fun j=>d.at_ j) (ks[j]?.getD .u) (ρ' (nx+j)):=fun j hj=>by rw [k2 j hj];exact g1 j hj
    obtain⟨f1,f2,_⟩:=WI g1'
    have e3:D.agg ((List.range ks.length).map fun j=>ρ' (nx+j))=d:=by
     rw [List.map_congr_left fun j hj=>k2 j (List.mem_range.1 hj),e]
     exact Hd e'
    have hl:∀ j,(leaves ks ks.length nx j).val ρ'=d.at_ j∧(leaves ks ks.length nx j).ok ρ':=by
     intro j
     unfold leaves
     by_cases hj:j<ks.length
     ·have h1:Nat.blt j ks.length=true:=B2 hj
      rw [h1,fI]
      have:=fG (g1' j hj)
      rw [k2 j hj] at this
      exact this
     ·have h1:Nat.blt j ks.length=false:=by cases hb:Nat.blt j ks.length with|false=>rfl|true=>exact absurd (B3 hb) hj
      rw [h1]
      refine⟨?_,aG⟩
      show D.top=d.at_ j
      rw [e,D.at_,D.cells,List.getElem?_eq_none (by omega)];rfl
    have hσ:mK ρ' (oN np ps (leaves ks ks.length nx)):=zS h3 fun j=>(hl j).2
    refine⟨⟨f1.trans e3,f2⟩,hσ,?_⟩
    rw [zT]
    have e2:(fun j=>(leaves ks ks.length nx j).val ρ')=fun j=>d.at_ j:=funext fun j=>(hl j).1
    rw [e2];exact⟨g1',g2,e3⟩
   refine⟨ext ρ nx d.at_,_,_,ct,vL,Nat.le_add_right ..,fun ρ' ha=>?_,?_,h⟩
   rotate_left
   ·exact fun ρ' ha=>(main ρ' ha).1
   obtain⟨k1,k2⟩:=key ρ' ha
   have h0:=hS ρ' k1
   obtain⟨e1,hσ,g1,g2,e3⟩:=main ρ' ha
   refine⟨fun x hx=>?_,fun x hx=>?_,h0.D,h0.C⟩
   ·rcases B7.1 hx with rfl|hx
    ·refine⟨hσ,rfl,g1,fun _=>⟨h3,?_⟩⟩
     rw [e3];exact hd0 ρ' k1
    ·exact h0.G x hx
   ·rcases hF x hx with hx|hx
    ·exact vW hσ g2 x hx
    ·exact h0.F x hx
end Go.AE.Q
namespace Go.AE.Q
noncomputable def RO (k:IntKind):Int:=IntKind.casesOn (motive:=fun _=>Int) k (.negSucc 127) (.negSucc 32767) (.negSucc 2147483647) (.negSucc 9223372036854775807) (.ofNat 0) (.ofNat 0) (.ofNat 0) (.ofNat 0)
noncomputable def RN (k:IntKind):Int:=IntKind.casesOn (motive:=fun _=>Int) k (.ofNat 127) (.ofNat 32767) (.ofNat 2147483647) (.ofNat 9223372036854775807) (.ofNat 255) (.ofNat 65535) (.ofNat 4294967295) (.ofNat 18446744073709551615)
theorem eI (k:IntKind)(x:Int):RO k≤k.wrap x∧k.wrap x≤RN k:=by
 cases k
 ·show -128≤_∧_≤(127:Int)
  simp only [IntKind.wrap,IntKind.bits,IntKind.signed];simp;split<;>omega
 ·show -32768≤_∧_≤(32767:Int)
  simp only [IntKind.wrap,IntKind.bits,IntKind.signed];simp;split<;>omega
 ·show -2147483648≤_∧_≤(2147483647:Int)
  rw [IntKind.wrap_i32];omega
 ·show -9223372036854775808≤_∧_≤(9223372036854775807:Int)
  rw [IntKind.wrap_i64];omega
 ·show 0≤_∧_≤(255:Int)
  rw [IntKind.wrap_u8];omega
 ·show 0≤_∧_≤(65535:Int)
  simp [IntKind.wrap,IntKind.bits,IntKind.signed];omega
 ·show 0≤_∧_≤(4294967295:Int)
  rw [IntKind.wrap_u32];omega
 ·show 0≤_∧_≤(18446744073709551615:Int)
  simp [IntKind.wrap,IntKind.bits,IntKind.signed];omega
theorem rG {k:IntKind}{x:Int}(h1:RO k≤x)(h2:x≤RN k):k.wrap x=x:=by
 cases k
 ·exact IntWalk.i8_in x ⟨h1,h2⟩
 ·exact IntWalk.i16_in x ⟨h1,h2⟩
 ·exact IntWalk.i32_in x ⟨h1,h2⟩
 ·exact IntWalk.i64_in x ⟨h1,h2⟩
 ·exact IntWalk.u8_in x ⟨h1,h2⟩
 ·exact IntWalk.u16_in x ⟨h1,h2⟩
 ·exact IntWalk.u32_in x ⟨h1,h2⟩
 ·exact IntWalk.u64_in x ⟨h1,h2⟩
theorem Ip (k:IntKind):RO k≤0:=by cases k<;>decide
noncomputable def TB (k:IntKind) (e:L):List Fm:=[.ge (e.O8 (Int.neg (RO k))),.ge ((e.mul (-1)).O8 (RN k))]
theorem gQ {ρ:Nat→D}{k:IntKind}{e:L}:Hs ρ (TB k e)↔RO k≤e.ev (nu ρ 0)∧e.ev (nu ρ 0)≤RN k:=by
 have h1:(e.O8 (Int.neg (RO k))).ev (nu ρ 0)=e.ev (nu ρ 0) + -(RO k):=L.K3 ..
 have h2:((e.mul (-1)).O8 (RN k)).ev (nu ρ 0) = -1*e.ev (nu ρ 0)+RN k:=by rw [L.K3,L.X8]
 constructor
 ·intro h
  have g1:=Fm.I7.1 (h _ (B8 ..))
  have g2:=Fm.I7.1 (h _ (C0 _ (B8 ..)))
  rw [h1] at g1;rw [h2] at g2
  omega
 ·rintro ⟨g1,g2⟩ x hx
  simp only [TB,B7,List.not_mem_nil,or_false] at hx
  rcases hx with rfl|rfl
  ·refine Fm.I7.2 ?_
   rw [h1];omega
  ·refine Fm.I7.2 ?_
   rw [h2];omega
noncomputable def Vg (k:IntKind) (e:L):Fm:= .an (.ge (e.O8 (Int.neg (RO k)))) (.ge ((e.mul (-1)).O8 (RN k)))
theorem XU {ρ:Nat→D}{k:IntKind}{e:L}(h:(Vg k e).bv ρ=true):RO k≤e.ev (nu ρ 0)∧e.ev (nu ρ 0)≤RN k:=by
 obtain⟨g1,g2⟩:=Fm.T3.1 h
 exact gQ.1 fun x hx=>by
  simp only [TB,B7,List.not_mem_nil,or_false] at hx
  rcases hx with rfl|rfl
  ·exact g1
  ·exact g2
noncomputable def Xq (st:St):List Fm:=St.casesOn (motive:=fun _=>List Fm) st fun _ _ F _ _=>F
theorem YL {tab:Nat→Pd}{ρ:Nat→D}{st:St}(h:Sat tab ρ st):Hs ρ (Xq st):=by
 cases st with
 |mk nx G F D_ C=>exact h.self.F
noncomputable def oS (st:St) (g:Fm) (ct:Nat) (k:Nat→Bool):Bool:=pf 40 (Xq st) g ct k
theorem Q4 {tab:Nat→Pd}{ρ:Nat→D}{st:St}{g:Fm}{ct:Nat}{k:Nat→Bool}(h:oS st g ct k=true)(hS:Sat tab ρ st):g.bv ρ=true∧∃ ct,k ct=true:=⟨JS 40 (YL hS) h,JR 40 h⟩
noncomputable def alt (ct:Nat) (f g:Nat→Bool):Bool:=tok ct fun t ct=>H9 (Nat.beq t 0) (f ct) (g ct)
theorem fZ {ct:Nat}{f g:Nat→Bool}(h:alt ct f g=true):(∃ ct,f ct=true)∨∃ ct,g ct=true:=by
 rw [alt,cK] at h
 cases hb:Nat.beq (ct % 32) 0 with
 |true=>rw [hb] at h;exact .inl ⟨_,h⟩
 |false=>rw [hb] at h;exact .inr ⟨_,h⟩
section
variable {tab:Nat→Pd} {ρ:Nat→D} {st:St} {ct:Nat} {K:A→St→Nat→Bool}
noncomputable def Fv (k:IntKind) (e:L):W0:=fun st ct K=>L.fr e fun e=>K (.n k e) st ct
theorem zA {k:IntKind}{e:L}(h:Fv k e st ct K=true)(hS:Sat tab ρ st){v:Int}(he:bX ρ st.nx e v):R5 tab ρ st (.int k v) K:=by
 have h:L.fr e (fun e=>K (.n k e) st ct)=true:=h
 rw [L.kO] at h
 exact R5.now hS (M9.n he k) h
noncomputable def Kq (k:IntKind) (e:L):W0:=fun st ct K=>alt ct (fun ct=>oS st (Vg k e) ct fun ct=>Fv k e st ct K) (fun ct=>AJ k (fun r=> .or (Vg k e).neg (.an (.ge (e.sub r)) (.ge (r.sub e)))::TB k r) st ct K)
theorem zC {k:IntKind}{e:L}(h:Kq k e st ct K=true)(hS:Sat tab ρ st){v:Int}(he:bX ρ st.nx e v):R5 tab ρ st (.int k (k.wrap v)) K:=by
 rcases fZ h with ⟨ct,h⟩|⟨ct,h⟩
 ·obtain⟨h1,ct,h⟩:=Q4 h hS
  have h2:=XU h1
  rw [he ρ L4.refl] at h2
  rw [rG h2.1 h2.2]
  exact zA h hS he
 ·refine R8 h hS _ fun ρ' e' ha hv=>Hs.cons ?_ (gQ.2 (hv▸eI k v))
  by_cases hr:RO k≤v∧v≤RN k
  ·refine Fm.T4.2 (.inr (Fm.T3.2 ⟨Fm.I7.2 ?_,Fm.I7.2 ?_⟩))
   ·rw [L.K0,he ρ' ha,hv,rG hr.1 hr.2];omega
   ·rw [L.K0,he ρ' ha,hv,rG hr.1 hr.2];omega
  ·refine Fm.T4.2 (.inl ?_)
   rw [Fm.L6]
   cases hb:(Vg k e).bv ρ' with
   |false=>rfl
   |true=>
    have:=XU hb
    rw [he ρ' ha] at this
    exact absurd this hr
noncomputable def Od (e:L) (k:Int→Bool):Bool:=L.casesOn (motive:=fun _=>Bool) e (fun c=>H9 (RJ (Int.sub c 1)) (k c) false) (fun _ _ _=>false)
theorem ZW {e:L}{k:Int→Bool}{n:Nat}{v:Int}(h:Od e k=true)(he:bX ρ n e v):1≤v∧k v=true:=by
 cases e with
 |c c=>
  obtain⟨h1,h2⟩:=I3 h
  have h1:(0:Int)≤c-1:=OX h1
  obtain rfl:c=v:=he ρ L4.refl 0
  exact⟨by omega,h2⟩
 |m _ _ _=>cases h
noncomputable def Fx (k:IntKind) (x y:L):W0:=fun st ct K=>alt ct (fun ct=>Od y fun c=>oS st (.an (.ge x) (.ge ((x.mul (-1)).O8 (RN k)))) ct fun ct=>AJ k (fun q=>[.ge (x.sub (q.mul c)),.ge (((q.mul c).sub x).O8 (Int.sub c 1)),.ge q]) st ct K) (fun ct=>AJ k (TB k) st ct K)
theorem WS {k:IntKind}{x y:L}(h:Fx k x y st ct K=true)(hS:Sat tab ρ st){v w:Int}(hx:bX ρ st.nx x v)(hy:bX ρ st.nx y w):R5 tab ρ st (.int k (k.wrap (v.tdiv w))) K:=by
 rcases fZ h with ⟨ct,h⟩|⟨ct,h⟩
 ·obtain⟨h1,h⟩:=ZW h hy
  obtain⟨h2,ct,h⟩:=Q4 h hS
  obtain⟨h2,h3⟩:=Fm.T3.1 h2
  have h2:=Fm.I7.1 h2
  have h3:=Fm.I7.1 h3
  rw [L.K3,L.X8] at h3
  rw [hx ρ L4.refl] at h2 h3
  have h4:0≤v / w∧v / w≤v:=IntWalk.tdiv_le v w h2 h1
  have e1:k.wrap (v.tdiv w)=v / w:=by
   have:=Ip k
   rw [Int.tdiv_eq_ediv_of_nonneg h2];exact rG (by omega) (by omega)
  rw [e1]
  refine R8 h hS _ fun ρ' e ha hv z hz=>?_
  have hd:=Int.mul_ediv_add_emod v w
  have hm:=Int.emod_nonneg v (show w≠0 by omega)
  have hl:=Int.emod_lt_of_pos v (show 0<w by omega)
  simp only [B7,List.not_mem_nil,or_false] at hz
  rcases hz with rfl|rfl|rfl
  ·refine Fm.I7.2 ?_
   rw [L.K0,L.X8,hx ρ' ha,hv];omega
  ·refine Fm.I7.2 ?_
   have e2:Int.sub w 1=w-1:=rfl
   rw [L.K3,L.K0,L.X8,hx ρ' ha,hv,e2];omega
  ·exact Fm.I7.2 (by rw [hv];omega)
 ·exact R8 h hS _ fun ρ' e' ha hv=>gQ.2 (hv▸eI k _)
noncomputable def Fy (k:IntKind) (x y:L):W0:=fun st ct K=>alt ct (fun ct=>oS st (.an (.ge x) (.ge (y.O8 (-1)))) ct fun ct=>AJ k (fun r=>[.ge r,.ge ((y.sub r).O8 (-1)),.ge (x.sub r)]) st ct K) (fun ct=>AJ k (fun _=>[]) st ct K)
theorem WT {k:IntKind}{x y:L}(h:Fy k x y st ct K=true)(hS:Sat tab ρ st){v w:Int}(hx:bX ρ st.nx x v)(hy:bX ρ st.nx y w):R5 tab ρ st (.int k (v.tmod w)) K:=by
 rcases fZ h with ⟨ct,h⟩|⟨ct,h⟩
 ·obtain⟨h2,ct,h⟩:=Q4 h hS
  obtain⟨h2,h3⟩:=Fm.T3.1 h2
  have h2:=Fm.I7.1 h2
  have h3:=Fm.I7.1 h3
  rw [L.K3,hy ρ L4.refl] at h3
  rw [hx ρ L4.refl] at h2
  rw [Int.tmod_eq_emod_of_nonneg h2]
  refine R8 h hS _ fun ρ' e ha hv z hz=>?_
  have hm:=Int.emod_nonneg v (show w≠0 by omega)
  have hl:=Int.emod_lt_of_pos v (show 0<w by omega)
  have hd:=Int.mul_ediv_add_emod v w
  have hq:=Int.mul_nonneg (show 0≤w by omega) (Int.ediv_nonneg h2 (show 0≤w by omega))
  simp only [B7,List.not_mem_nil,or_false] at hz
  rcases hz with rfl|rfl|rfl
  ·exact Fm.I7.2 (by rw [hv];omega)
  ·refine Fm.I7.2 ?_
   rw [L.K3,L.K0,hy ρ' ha,hv];omega
  ·refine Fm.I7.2 ?_
   rw [L.K0,hx ρ' ha,hv];omega
 ·exact R8 h hS _ fun _ _ _ _ x hx=>by cases hx
noncomputable def Fz (k:IntKind) (x:L):W0:=fun st ct K=>alt ct (fun ct=>oS st (.ge x) ct fun ct=>AJ k (fun r=>[.ge r,.ge (x.sub r)]) st ct K) (fun ct=>AJ k (fun _=>[]) st ct K)
theorem WV {k:IntKind}{x:L}(h:Fz k x st ct K=true)(hS:Sat tab ρ st){v:Int}(hx:bX ρ st.nx x v)(n:Nat):R5 tab ρ st (.int k (v.fdiv (2 ^ n))) K:=by
 rcases fZ h with ⟨ct,h⟩|⟨ct,h⟩
 ·obtain⟨h2,ct,h⟩:=Q4 h hS
  have h2:=Fm.I7.1 h2
  rw [hx ρ L4.refl] at h2
  refine R8 h hS _ fun ρ' e ha hv z hz=>?_
  have hp:(0:Int)<2 ^ n:=Int.pow_pos (by decide)
  rw [Int.fdiv_eq_ediv_of_nonneg v (by omega)] at hv
  have h4:=IntWalk.tdiv_le v (2 ^ n) h2 (by omega)
  simp only [B7,List.not_mem_nil,or_false] at hz
  rcases hz with rfl|rfl
  ·exact Fm.I7.2 (by rw [hv];omega)
  ·refine Fm.I7.2 ?_
   rw [L.K0,hx ρ' ha,hv];omega
 ·exact R8 h hS _ fun _ _ _ _ x hx=>by cases hx
noncomputable def Fw (k:IntKind) (x y:L):W0:=fun st ct K=>L.casesOn (motive:=fun _=>Bool) x (fun c=>Kq k (y.mul c) st ct K) (fun _ _ _=>L.casesOn (motive:=fun _=>Bool) y (fun c=>Kq k (x.mul c) st ct K) (fun _ _ _=>AJ k (TB k) st ct K))
theorem WR {k:IntKind}{x y:L}(h:Fw k x y st ct K=true)(hS:Sat tab ρ st){v w:Int}(hx:bX ρ st.nx x v)(hy:bX ρ st.nx y w):R5 tab ρ st (.int k (k.wrap (v*w))) K:=by
 cases x with
 |c c=>
  obtain rfl:c=v:=hx ρ L4.refl 0
  exact zC h hS (hy.mul c)
 |m a b r=>
  cases y with
  |c c=>
   obtain rfl:c=w:=hy ρ L4.refl 0
   rw [Int.mul_comm]
   exact zC h hS (hx.mul c)
  |m _ _ _=>exact R8 h hS _ fun ρ' e' ha hv=>gQ.2 (hv▸eI k _)
noncomputable def SX (x y:L):Fm:= .ge (y.sub x)
noncomputable def Nn (x y:L):Fm:= .ge ((y.sub x).O8 (-1))
noncomputable def Ak (x y:L):Fm:= .an (.ge (y.sub x)) (.ge (x.sub y))
theorem rZ {n:Nat}{x y:L}{v w:Int}(hx:bX ρ n x v)(hy:bX ρ n y w):oU ρ n (SX x y) (decide (v≤w)):=fun ρ' ha=>by
 rw [SX,(hy.sub hx).ge ρ' ha]
 by_cases h:v≤w
 ·rw [E6 h,E6 (by omega)]
 ·rw [E8 h,E8 (by omega)]
theorem LQ {n:Nat}{x y:L}{v w:Int}(hx:bX ρ n x v)(hy:bX ρ n y w):oU ρ n (Nn x y) (decide (v<w)):=fun ρ' ha=>by
 rw [Nn,((hy.sub hx).O8 _).ge ρ' ha]
 by_cases h:v<w
 ·rw [E6 h,E6 (by omega)]
 ·rw [E8 h,E8 (by omega)]
theorem EW {n:Nat}{x y:L}{v w:Int}(hx:bX ρ n x v)(hy:bX ρ n y w):oU ρ n (Ak x y) (v==w):=fun ρ' ha=>by
 rw [Ak,((hy.sub hx).ge.an (hx.sub hy).ge) ρ' ha]
 by_cases h:v=w
 ·subst h
  rw [E6 (by omega),F3];rfl
 ·rw [beq_false_of_ne h]
  by_cases h2:v≤w
  ·rw [E6 (by omega),E8 (by omega)];rfl
  ·rw [E8 (by omega)];rfl
noncomputable def mE (f:Fm):W0:=fun st ct K=>K (.b f) st ct
theorem Q6 {f:Fm}(h:mE f st ct K=true)(hS:Sat tab ρ st){b:Bool}(hf:oU ρ st.nx f b):R5 tab ρ st (.bool b) K:=R5.now hS (M9.b hf) h
noncomputable def Wk (op:BinOp) (k:IntKind) (a b:A):W0:=fun st ct K=>BinOp.casesOn (motive:=fun _=>Bool) op
 (Kq k (a.H7.add b.H7) st ct K) (Kq k (a.H7.sub b.H7) st ct K) (Fw k a.H7 b.H7 st ct K) (Fx k a.H7 b.H7 st ct K) (Fy k a.H7 b.H7 st ct K)
 (AJ k (TB k) st ct K) (AJ k (TB k) st ct K) (AJ k (TB k) st ct K) (AJ k (TB k) st ct K) (Fz k a.H7 st ct K) (AJ k (TB k) st ct K)
 (mE (Ak a.H7 b.H7) st ct K) (mE (Ak a.H7 b.H7).neg st ct K) (mE (Nn a.H7 b.H7) st ct K) (mE (SX a.H7 b.H7) st ct K) (mE (Nn b.H7 a.H7) st ct K) (mE (SX b.H7 a.H7) st ct K)
theorem Jz {op:BinOp}{k:IntKind}{a b:A}{x y:D}(h:Wk op k a b st ct K=true)(hS:Sat tab ρ st)(ha:M9 ρ st.nx a x)(hb:M9 ρ st.nx b y):R5 tab ρ st (iE op k x y) K:=by
 cases op with
 |add=>exact zC h hS (ha.H7.add hb.H7)
 |sub=>exact zC h hS (ha.H7.sub hb.H7)
 |mul=>exact WR h hS ha.H7 hb.H7
 |quo=>exact WS h hS ha.H7 hb.H7
 |rem=>exact WT h hS ha.H7 hb.H7
 |and=>exact R8 h hS _ fun ρ' e' ha hv=>gQ.2 (hv▸eI k _)
 |or=>exact R8 h hS _ fun ρ' e' ha hv=>gQ.2 (hv▸eI k _)
 |xor=>exact R8 h hS _ fun ρ' e' ha hv=>gQ.2 (hv▸eI k _)
 |shl=>exact R8 h hS _ fun ρ' e' ha hv=>gQ.2 (hv▸eI k _)
 |shr=>exact WV h hS ha.H7 _
 |andNot=>exact R8 h hS _ fun ρ' e' ha hv=>gQ.2 (hv▸eI k _)
 |eql=>exact Q6 h hS (EW ha.H7 hb.H7)
 |neq=>exact Q6 h hS (EW ha.H7 hb.H7).neg
 |lss=>exact Q6 h hS (LQ ha.H7 hb.H7)
 |leq=>exact Q6 h hS (rZ ha.H7 hb.H7)
 |gtr=>exact Q6 h hS (LQ hb.H7 ha.H7)
 |geq=>exact Q6 h hS (rZ hb.H7 ha.H7)
noncomputable def Ke (k:IntKind) (a b:A):W0:=AJ k fun m=>[.ge (m.sub a.H7),.ge (m.sub b.H7),.or (.ge (a.H7.sub m)) (.ge (b.H7.sub m))]
theorem Cr {k:IntKind}{a b:A}{x y:D}(h:Ke k a b st ct K=true)(hS:Sat tab ρ st)(ha:M9 ρ st.nx a x)(hb:M9 ρ st.nx b y):R5 tab ρ st (.int k (max x.i y.i)) K:=
 R8 h hS _ fun ρ' e h' hv z hz=>by
  have e1:=ha.H7 ρ' h' 0
  have e2:=hb.H7 ρ' h' 0
  simp only [B7,List.not_mem_nil,or_false] at hz
  rcases hz with rfl|rfl|rfl
  ·exact Fm.I7.2 (by rw [L.K0,hv,e1];omega)
  ·exact Fm.I7.2 (by rw [L.K0,hv,e2];omega)
  ·refine Fm.T4.2 ?_
   rcases Int.le_total x.i y.i with h|h
   ·exact .inr (Fm.I7.2 (by rw [L.K0,hv,e2];omega))
   ·exact .inl (Fm.I7.2 (by rw [L.K0,hv,e1];omega))
noncomputable def Kd (k:IntKind) (a b:A):W0:=AJ k fun m=>[.ge (a.H7.sub m),.ge (b.H7.sub m),.or (.ge (m.sub a.H7)) (.ge (m.sub b.H7))]
theorem Cq {k:IntKind}{a b:A}{x y:D}(h:Kd k a b st ct K=true)(hS:Sat tab ρ st)(ha:M9 ρ st.nx a x)(hb:M9 ρ st.nx b y):R5 tab ρ st (.int k (min x.i y.i)) K:=
 R8 h hS _ fun ρ' e h' hv z hz=>by
  have e1:=ha.H7 ρ' h' 0
  have e2:=hb.H7 ρ' h' 0
  simp only [B7,List.not_mem_nil,or_false] at hz
  rcases hz with rfl|rfl|rfl
  ·exact Fm.I7.2 (by rw [L.K0,hv,e1];omega)
  ·exact Fm.I7.2 (by rw [L.K0,hv,e2];omega)
  ·refine Fm.T4.2 ?_
   rcases Int.le_total x.i y.i with h|h
   ·exact .inl (Fm.I7.2 (by rw [L.K0,hv,e1];omega))
   ·exact .inr (Fm.I7.2 (by rw [L.K0,hv,e2];omega))
noncomputable def Md (x:A) (k:G0→Bool) (f:Bool):Bool:=A.casesOn (motive:=fun _=>Bool) x (fun _ _=>f) (fun _=>f) (fun _ _=>f) (fun _ _ _=>f) (fun _=>f) f (fun _ _=>f) (fun d=>H9 (kS d) (k (EO d)) f)
theorem YM {x:A}{d:D}{n:Nat}{k:G0→Bool}{f:Bool}(h:Md x k f=true)(hx:M9 ρ n x d):k d.s=true∨f=true:=by
 cases x with
 |c d'=>
  obtain rfl:d'=d:=(hx ρ L4.refl).1
  have h:H9 (kS d') (k (EO d')) f=true:=h
  cases hb:kS d' with
  |true=>rw [hb,xG] at h;exact .inl h
  |false=>rw [hb] at h;exact .inr h
 |_=>exact .inr h
noncomputable def WU (neg:Bool) (a b:A):W0:=fun st ct K=>Md b (fun s=>mE (H9 neg (a.sq s).neg (a.sq s)) st ct K) (Md a (fun s=>mE (H9 neg (b.sq s).neg (b.sq s)) st ct K) (AY st ct K))
theorem M9.sq {n:Nat}{a:A}{x:D}(h:M9 ρ n a x)(s:G0)(neg:Bool):oU ρ n (H9 neg (a.sq s).neg (a.sq s)) (H9 neg (!(x.s==s)) (x.s==s)):=fun ρ' ha=>by
 obtain⟨h1,h2⟩:=h ρ' ha
 cases neg with
 |true=>
  show (a.sq s).neg.bv ρ'=!_
  rw [Fm.L6,A.QK h2,h1]
 |false=>
  show (a.sq s).bv ρ'=_
  rw [A.QK h2,h1];rfl
theorem JK {neg:Bool}{a b:A}{x y:D}(h:WU neg a b st ct K=true)(hS:Sat tab ρ st)(ha:M9 ρ st.nx a x)(hb:M9 ρ st.nx b y):R5 tab ρ st (.bool (H9 neg (!(x.s==y.s)) (x.s==y.s))) K:=by
 rcases YM h hb with h|h
 ·exact Q6 h hS (ha.sq _ neg)
 ·rcases YM h ha with h|h
  ·have e:(y.s==x.s)=(x.s==y.s):=Bool.beq_comm ..
   rw [← e]
   exact Q6 h hS (hb.sq _ neg)
  ·exact bJ h hS _
noncomputable def Kj (op:BinOp) (a b:A):W0:=fun st ct K=>BinOp.casesOn (motive:=fun _=>Bool) op
 (Nr (a.sle.add b.sle) st ct K) (P5 st ct K) (P5 st ct K) (P5 st ct K) (P5 st ct K) (P5 st ct K) (P5 st ct K) (P5 st ct K) (P5 st ct K) (P5 st ct K) (P5 st ct K)
 (WU false a b st ct K) (WU true a b st ct K) (AY st ct K) (AY st ct K) (AY st ct K) (AY st ct K)
theorem Cw {op:BinOp}{a b:A}{x y:D}(h:Kj op a b st ct K=true)(hS:Sat tab ρ st)(ha:M9 ρ st.nx a x)(hb:M9 ρ st.nx b y):R5 tab ρ st (sE op x y) K:=by
 cases op with
 |add=>exact FY h hS _ (by rw [A7];exact ha.sle.add hb.sle)
 |eql=>exact JK (neg:=false) h hS ha hb
 |neq=>exact JK (neg:=true) h hS ha hb
 |lss=>exact bJ h hS _
 |leq=>exact bJ h hS _
 |gtr=>exact bJ h hS _
 |geq=>exact bJ h hS _
 |_=>exact Q7 h hS _
noncomputable def Jq (op:BinOp) (a b:A):W0:=fun st ct K=>BinOp.casesOn (motive:=fun _=>Bool) op
 (P5 st ct K) (P5 st ct K) (P5 st ct K) (P5 st ct K) (P5 st ct K) (P5 st ct K) (P5 st ct K) (P5 st ct K) (P5 st ct K) (P5 st ct K) (P5 st ct K)
 (mE (.or (.an a.bo b.bo) (.an a.bo.neg b.bo.neg)) st ct K) (mE (Fm.or (.an a.bo b.bo) (.an a.bo.neg b.bo.neg)).neg st ct K) (P5 st ct K) (P5 st ct K) (P5 st ct K) (P5 st ct K)
theorem Cb {op:BinOp}{a b:A}{x y:D}(h:Jq op a b st ct K=true)(hS:Sat tab ρ st)(ha:M9 ρ st.nx a x)(hb:M9 ρ st.nx b y):R5 tab ρ st (bE op x y) K:=by
 have hf:oU ρ st.nx (.or (.an a.bo b.bo) (.an a.bo.neg b.bo.neg)) (x.b==y.b):=fun ρ' h'=>by
  rw [((ha.bo.an hb.bo).or (ha.bo.neg.an hb.bo.neg)) ρ' h']
  cases x.b<;>cases y.b<;>rfl
 cases op with
 |eql=>exact Q6 h hS hf
 |neq=>exact Q6 h hS hf.neg
 |_=>exact Q7 h hS _
noncomputable def Kr (op:BinOp):W0:=fun st ct K=>BinOp.casesOn (motive:=fun _=>Bool) op
 (P5 st ct K) (P5 st ct K) (P5 st ct K) (P5 st ct K) (P5 st ct K) (P5 st ct K) (P5 st ct K) (P5 st ct K) (P5 st ct K) (P5 st ct K) (P5 st ct K)
 (AY st ct K) (AY st ct K) (P5 st ct K) (P5 st ct K) (P5 st ct K) (P5 st ct K)
theorem Dg {op:BinOp}{x y:D}(h:Kr op st ct K=true)(hS:Sat tab ρ st):R5 tab ρ st (wE op x y) K:=by
 cases op with
 |eql=>exact bJ h hS _
 |neq=>exact bJ h hS _
 |_=>exact Q7 h hS _
end
end Go.AE.Q
namespace Go.AE.Q
theorem jP (a b:List D):bP (a++b)=bP a+bP b:=by
 induction a with
 |nil=>simp [bP]
 |cons x a ih=>simp only [List.cons_append,bP,ih];omega
theorem YP (l:List D)(n:Nat):bP (l.drop n)≤bP l:=by
 have h:=jP (l.take n) (l.drop n)
 rw [List.take_append_drop] at h;omega
theorem KC (l:List D)(n:Nat):bP (l.take n)≤bP l:=by
 have h:=jP (l.take n) (l.drop n)
 rw [List.take_append_drop] at h;omega
theorem KA (d:D):bP d.l+1≤bR d:=by
 cases d<;>simp [D.l,bR,bP]
theorem vY (d:D):1≤bR d:=by cases d<;>simp [bR]
theorem Eb (l:List D):2*l.length≤bP l:=by
 induction l with
 |nil=>simp [bP]
 |cons x l ih=>
  have:=vY x
  simp only [bP,A0];omega
theorem YQ {l:List D}{z:D}(h:z∈l):bR z+2*l.length≤bP l+1:=by
 induction l with
 |nil=>cases h
 |cons x l ih=>
  rcases B7.1 h with rfl|h
  ·have:=Eb l
   simp only [bP,A0];omega
  ·have:=ih h
   have:=vY x
   simp only [bP,A0];omega
theorem fU {ρ:Nat→D}{f:Fm}(h:f.bv ρ=true):Hs ρ [f]:=fun x hx=>by rw [C3.1 hx];exact h
theorem SY {ρ:Nat→D}:Hs ρ []:=fun x hx=>by cases hx
section
variable {tab:Nat→Pd} {ρ:Nat→D} {st:St} {ct:Nat} {K:A→St→Nat→Bool}
theorem R0 {ρ':Nat→D}{e:L}{v:Int}(he:e.ev (nu ρ' 0)=v)(h:0≤v):(Fm.ge e).bv ρ'=true:=Fm.I7.2 (he▸h)
theorem d1 {ρ':Nat→D}{f:Df}(h:oT ρ' f):∀ x∈[f],oT ρ' x:=fun x hx=>by rw [C3.1 hx];exact h
theorem o1 {ρ':Nat→D}{x:A}(h:x.ok ρ'):∀ y∈[x],y.ok ρ':=fun y hy=>by rw [C3.1 hy];exact h
theorem o2 {ρ':Nat→D}{x y:A}(h:x.ok ρ')(h':y.ok ρ'):∀ z∈[x,y],z.ok ρ':=fun z hz=>by
 simp only [B7,List.not_mem_nil,or_false] at hz
 rcases hz with rfl|rfl<;>assumption
theorem o0 {ρ':Nat→D}:∀ y∈([]:List A),y.ok ρ':=fun y hy=>by cases hy
noncomputable def Jo (sz:Nat) (a b:A):W0:=SZ sz (a.len.add b.len) (fun t=>[.ge (((a.uR.add b.uR).O8 (-1)).sub (lm (Nat.add (Nat.mul 8 t) 2)))]) fun t=>[.ms t [a,b] []]
theorem Bz {sz:Nat}{a b:A}{x y:D}(h:Jo sz a b st ct K=true)(hS:Sat tab ρ st)(ha:M9 ρ st.nx a x)(hb:M9 ρ st.nx b y):R5 tab ρ st (.Z sz (x.l++y.l)) K:=
 jE h hS _ (by rw [A7];exact ha.len.add hb.len) (fun ρ' h' hn=>fU (R0 (v:=((bR x:Nat):Int)+(bR y:Nat) + -1-((bP (x.l++y.l)+1:Nat):Int)) (by
  rw [L.K0,L.K3,L.eU,ha.uR ρ' h',hb.uR ρ' h']
  refine congrArg (_-·) (L5.trans (JI.trans ?_))
  rw [hn,bR]) (by
  have h1:=KA x
  have h2:=KA y
  rw [jP];omega))) fun ρ' h' hn=>by
  obtain⟨a1,a2⟩:=ha ρ' h'
  obtain⟨b1,b2⟩:=hb ρ' h'
  refine d1 ⟨o2 a2 b2,o0,fun z hz=> .inl ?_⟩
  rw [hn] at hz
  rcases D5.1 hz with hz|hz
  ·exact⟨a,B8 ..,by rw [a1];exact hz⟩
  ·exact⟨b,C0 _ (B8 ..),by rw [b1];exact hz⟩
noncomputable def Kl (sz:Nat) (a i b:A):W0:=fun st ct K=>alt ct (fun ct=>oS st (.ge i.H7) ct fun ct=>SZ sz a.len (fun _=>[]) (fun t=>[.ms t [a] [b],.sp t a i.H7 b]) st ct K) fun ct=>SZ sz a.len (fun _=>[]) (fun t=>[.ms t [a] [b]]) st ct K
theorem Da {sz:Nat}{a i b:A}{x j y:D}(h:Kl sz a i b st ct K=true)(hS:Sat tab ρ st)(ha:M9 ρ st.nx a x)(hi:M9 ρ st.nx i j)(hb:M9 ρ st.nx b y):R5 tab ρ st (.Z sz (x.l.set j.i.toNat y)) K:=by
 have hm:∀ ρ',L4 st.nx ρ ρ'→ρ' st.nx = .Z sz (x.l.set j.i.toNat y)→oT ρ' (.ms st.nx [a] [b]):=fun ρ' h' hn=>by
  obtain⟨a1,a2⟩:=ha ρ' h'
  obtain⟨b1,b2⟩:=hb ρ' h'
  refine⟨o1 a2,o1 b2,fun z hz=>?_⟩
  rw [hn] at hz
  rcases List.mem_or_eq_of_mem_set hz with hz|rfl
  ·exact .inl ⟨a,B8 ..,by rw [a1];exact hz⟩
  ·exact .inr ⟨b,B8 ..,b1.symm⟩
 have hl:bX ρ st.nx a.len ((x.l.set j.i.toNat y).length:Nat):=by rw [List.length_set];exact ha.len
 rcases fZ h with ⟨ct,h⟩|⟨ct,h⟩
 ·obtain⟨h1,ct,h⟩:=Q4 h hS
  have h1:=Fm.I7.1 h1
  rw [hi.H7 ρ L4.refl] at h1
  refine jE h hS _ hl (fun _ _ _=>SY) fun ρ' h' hn z hz=>?_
  simp only [B7,List.not_mem_nil,or_false] at hz
  rcases hz with rfl|rfl
  ·exact hm ρ' h' hn
  ·obtain⟨a1,a2⟩:=ha ρ' h'
   obtain⟨b1,b2⟩:=hb ρ' h'
   refine⟨a2,b2,?_,?_⟩
   ·rw [hi.H7 ρ' h'];exact h1
   ·rw [hn,hi.H7 ρ' h',a1,b1];rfl
 ·exact jE h hS _ hl (fun _ _ _=>SY) fun ρ' h' hn=>d1 (hm ρ' h' hn)
noncomputable def Ki (sz:Nat) (n a:A):W0:=fun st ct K=>alt ct (fun ct=>oS st (.ge n.H7) ct fun ct=>SZ sz n.H7 (fun t=>[.ge ((lm (Nat.add (Nat.mul 8 t) 1)).sub n.H7),.ge (n.H7.sub (lm (Nat.add (Nat.mul 8 t) 1)))]) (fun t=>[.ms t [] [a]]) st ct K) fun ct=>Cn sz (fun _ _=>[]) (fun t=>[.ms t [] [a]]) st ct K
theorem Cv {sz:Nat}{n a:A}{m x:D}(h:Ki sz n a st ct K=true)(hS:Sat tab ρ st)(hn:M9 ρ st.nx n m)(ha:M9 ρ st.nx a x):R5 tab ρ st (.Z sz (List.replicate m.i.toNat x)) K:=by
 have hm:∀ ρ',L4 st.nx ρ ρ'→ρ' st.nx = .Z sz (List.replicate m.i.toNat x)→∀ f∈[Df.ms st.nx [] [a]],oT ρ' f:=fun ρ' h' hn=>by
  obtain⟨a1,a2⟩:=ha ρ' h'
  refine d1 ⟨o0,o1 a2,fun z hz=> .inr ⟨a,B8 ..,?_⟩⟩
  rw [hn] at hz
  rw [a1];exact List.eq_of_mem_replicate hz
 rcases fZ h with ⟨ct,h⟩|⟨ct,h⟩
 ·obtain⟨h1,ct,h⟩:=Q4 h hS
  have h1:=Fm.I7.1 h1
  rw [hn.H7 ρ L4.refl] at h1
  refine jE h hS _ ?_ (fun ρ' h' hx=>?_) hm
  ·intro ρ' h' ix
   rw [hn.H7 ρ' h',List.length_replicate];omega
  ·have e1:nu ρ' 0 (Nat.add (Nat.mul 8 st.nx) 1)=((ρ' st.nx).l.length:Nat):=gO
   have e2:(ρ' st.nx).l.length=m.i.toNat:=by rw [hx];show (List.replicate m.i.toNat x).length=_;rw [List.length_replicate]
   refine Hs.cons (Fm.I7.2 ?_) (Hs.cons (Fm.I7.2 ?_) SY)
   ·rw [L.K0,L5,e1,e2,hn.H7 ρ' h'];omega
   ·rw [L.K0,L5,e1,e2,hn.H7 ρ' h'];omega
 ·exact FV h hS _ (fun _ _ _ _ _=>SY) hm
noncomputable def qW (sz:Nat) (a:A) (g:Fm) (e:L):W0:=fun st ct K=>alt ct (fun ct=>oS st g ct fun ct=>SZ sz e (fun t=>[.ge (a.uR.sub (lm (Nat.add (Nat.mul 8 t) 2)))]) (fun t=>[.ms t [a] []]) st ct K) fun ct=>Cn sz (fun t e=>[.ge (a.len.sub e),.ge (a.uR.sub (lm (Nat.add (Nat.mul 8 t) 2)))]) (fun t=>[.ms t [a] []]) st ct K
theorem zB {sz:Nat}{a:A}{g:Fm}{e:L}{x:D}{xs:List D}(h:qW sz a g e st ct K=true)(hS:Sat tab ρ st)(ha:M9 ρ st.nx a x)(h1:∀ z∈xs,z∈x.l)(h2:xs.length≤x.l.length)(h3:bP xs≤bP x.l)(he:g.bv ρ=true→bX ρ st.nx e (xs.length:Nat)):R5 tab ρ st (.Z sz xs) K:=by
 have hm:∀ ρ',L4 st.nx ρ ρ'→ρ' st.nx = .Z sz xs→∀ f∈[Df.ms st.nx [a] []],oT ρ' f:=fun ρ' h' hn=>by
  obtain⟨a1,a2⟩:=ha ρ' h'
  refine d1 ⟨o1 a2,o0,fun z hz=> .inl ⟨a,B8 ..,?_⟩⟩
  rw [hn] at hz
  rw [a1];exact h1 z hz
 have hz:∀ ρ',L4 st.nx ρ ρ'→ρ' st.nx = .Z sz xs→(Fm.ge (a.uR.sub (lm (8*st.nx+2)))).bv ρ'=true:=fun ρ' h' hn=>by
  refine R0 (v:=(bR x:Nat)-((bP xs+1:Nat):Int)) ?_ ?_
  ·rw [L.K0,ha.uR ρ' h',L5,JI,hn,bR]
  ·have:=KA x
   omega
 rcases fZ h with ⟨ct,h⟩|⟨ct,h⟩
 ·obtain⟨h4,ct,h⟩:=Q4 h hS
  exact jE h hS _ (he h4) (fun ρ' h' hn=>fU (hz ρ' h' hn)) hm
 ·refine FV h hS _ (fun ρ' e h' hn hv y hy=>?_) hm
  simp only [B7,List.not_mem_nil,or_false] at hy
  rcases hy with rfl|rfl
  ·exact R0 (v:=(x.l.length:Nat)-(xs.length:Nat)) (by rw [L.K0,ha.len ρ' h',hv]) (by omega)
  ·exact hz ρ' h' hn
noncomputable def Jx (sz:Nat) (a lo hi:A):W0:=qW sz a (.an (.ge lo.H7) (.an (.ge (hi.H7.sub lo.H7)) (.ge (a.len.sub hi.H7)))) (hi.H7.sub lo.H7)
theorem Ck {sz:Nat}{a lo hi:A}{x l u:D}(h:Jx sz a lo hi st ct K=true)(hS:Sat tab ρ st)(ha:M9 ρ st.nx a x)(hl:M9 ρ st.nx lo l)(hu:M9 ρ st.nx hi u):R5 tab ρ st (.Z sz ((x.l.drop l.i.toNat).take (u.i.toNat-l.i.toNat))) K:=by
 refine zB h hS ha (fun z hz=>List.mem_of_mem_drop (List.mem_of_mem_take hz)) (by rw [D9,F8];omega) (Nat.le_trans (KC ..) (YP ..)) fun hg ρ' h' ix=>?_
 obtain⟨g1,g2⟩:=Fm.T3.1 hg
 obtain⟨g2,g3⟩:=Fm.T3.1 g2
 have g1:=Fm.I7.1 g1
 have g2:=Fm.I7.1 g2
 have g3:=Fm.I7.1 g3
 rw [L.K0] at g2 g3
 rw [hl.H7 ρ L4.refl] at g1 g2
 rw [hu.H7 ρ L4.refl] at g2 g3
 rw [ha.len ρ L4.refl] at g3
 rw [L.K0,hl.H7 ρ' h',hu.H7 ρ' h',D9,F8];omega
noncomputable def Kn (sz:Nat) (a hi:A):W0:=qW sz a (.an (.ge hi.H7) (.ge (a.len.sub hi.H7))) hi.H7
theorem Db {sz:Nat}{a hi:A}{x u:D}(h:Kn sz a hi st ct K=true)(hS:Sat tab ρ st)(ha:M9 ρ st.nx a x)(hu:M9 ρ st.nx hi u):R5 tab ρ st (.Z sz (x.l.take u.i.toNat)) K:=by
 refine zB h hS ha (fun z hz=>List.mem_of_mem_take hz) (by rw [D9];omega) (KC ..) fun hg ρ' h' ix=>?_
 obtain⟨g1,g3⟩:=Fm.T3.1 hg
 have g1:=Fm.I7.1 g1
 have g3:=Fm.I7.1 g3
 rw [L.K0] at g3
 rw [hu.H7 ρ L4.refl] at g1 g3
 rw [ha.len ρ L4.refl] at g3
 rw [hu.H7 ρ' h',D9];omega
noncomputable def Ju (sz:Nat) (a b:A):W0:=SZ sz a.len (fun _=>[]) fun t=>[.ms t [a,b] []]
theorem Ch {sz:Nat}{a b:A}{x y:D}(h:Ju sz a b st ct K=true)(hS:Sat tab ρ st)(ha:M9 ρ st.nx a x)(hb:M9 ρ st.nx b y):R5 tab ρ st (.Z sz (y.l.take x.l.length++x.l.drop y.l.length)) K:=
 jE h hS _ (by
  have e:(y.l.take x.l.length++x.l.drop y.l.length).length=x.l.length:=by rw [A7,D9,F8];omega
  rw [e];exact ha.len) (fun _ _ _=>SY) fun ρ' h' hn=>by
  obtain⟨a1,a2⟩:=ha ρ' h'
  obtain⟨b1,b2⟩:=hb ρ' h'
  refine d1 ⟨o2 a2 b2,o0,fun z hz=> .inl ?_⟩
  rw [hn] at hz
  rcases D5.1 hz with hz|hz
  ·exact⟨b,C0 _ (B8 ..),by rw [b1];exact List.mem_of_mem_take hz⟩
  ·exact⟨a,B8 ..,by rw [a1];exact List.mem_of_mem_drop hz⟩
noncomputable def Js (sz:Nat) (a lo n b:A):W0:=fun st ct K=>alt ct (fun ct=>oS st (.an (.ge lo.H7) (.an (.ge n.H7) (.ge ((a.len.sub lo.H7).sub n.H7)))) ct fun ct=>SZ sz a.len (fun _=>[]) (fun t=>[.ms t [a] [b]]) st ct K) fun ct=>Cn sz (fun _ _=>[]) (fun t=>[.ms t [a] [b]]) st ct K
theorem Cd {sz:Nat}{a lo n b:A}{x l m y:D}(h:Js sz a lo n b st ct K=true)(hS:Sat tab ρ st)(ha:M9 ρ st.nx a x)(hl:M9 ρ st.nx lo l)(hn:M9 ρ st.nx n m)(hb:M9 ρ st.nx b y):R5 tab ρ st (.Z sz (x.l.take l.i.toNat++List.replicate m.i.toNat y++x.l.drop (l.i.toNat+m.i.toNat))) K:=by
 have hm:∀ ρ',L4 st.nx ρ ρ'→ρ' st.nx = .Z sz (x.l.take l.i.toNat++List.replicate m.i.toNat y++x.l.drop (l.i.toNat+m.i.toNat))→∀ f∈[Df.ms st.nx [a] [b]],oT ρ' f:=fun ρ' h' hn=>by
  obtain⟨a1,a2⟩:=ha ρ' h'
  obtain⟨b1,b2⟩:=hb ρ' h'
  refine d1 ⟨o1 a2,o1 b2,fun z hz=>?_⟩
  rw [hn] at hz
  rcases D5.1 hz with hz|hz
  ·rcases D5.1 hz with hz|hz
   ·exact .inl ⟨a,B8 ..,by rw [a1];exact List.mem_of_mem_take hz⟩
   ·exact .inr ⟨b,B8 ..,by rw [b1];exact List.eq_of_mem_replicate hz⟩
  ·exact .inl ⟨a,B8 ..,by rw [a1];exact List.mem_of_mem_drop hz⟩
 rcases fZ h with ⟨ct,h⟩|⟨ct,h⟩
 ·obtain⟨hg,ct,h⟩:=Q4 h hS
  obtain⟨g1,g2⟩:=Fm.T3.1 hg
  obtain⟨g2,g3⟩:=Fm.T3.1 g2
  have g1:=Fm.I7.1 g1
  have g2:=Fm.I7.1 g2
  have g3:=Fm.I7.1 g3
  rw [L.K0,L.K0] at g3
  rw [hl.H7 ρ L4.refl] at g1 g3
  rw [hn.H7 ρ L4.refl] at g2 g3
  rw [ha.len ρ L4.refl] at g3
  refine jE h hS _ ?_ (fun _ _ _=>SY) hm
  intro ρ' h' ix
  rw [ha.len ρ' h',A7,A7,D9,F8,List.length_replicate];omega
 ·exact FV h hS _ (fun _ _ _ _ _=>SY) hm
noncomputable def Jt (sz:Nat) (a b:A):W0:=SZ sz (b.len.O8 1) (fun t=>[.ge (((a.uR.add b.uR).O8 1).sub (lm (Nat.add (Nat.mul 8 t) 2)))]) fun t=>[.ms t [b] [a]]
theorem Cg {sz:Nat}{a b:A}{x y:D}(h:Jt sz a b st ct K=true)(hS:Sat tab ρ st)(ha:M9 ρ st.nx a x)(hb:M9 ρ st.nx b y):R5 tab ρ st (.Z sz (x::y.l)) K:=
 jE h hS _ (by
  have e:(((x::y.l).length:Nat):Int)=(y.l.length:Nat)+1:=by simp
  rw [e];exact hb.len.O8 1) (fun ρ' h' hn=>fU (R0 (v:=((bR x:Nat):Int)+(bR y:Nat)+1-((bP (x::y.l)+1:Nat):Int)) (by
  rw [L.K0,L.K3,L.eU,ha.uR ρ' h',hb.uR ρ' h']
  refine congrArg (_-·) (L5.trans (JI.trans ?_))
  rw [hn,bR]) (by
  have h2:=KA y
  simp only [bP];omega))) fun ρ' h' hn=>by
  obtain⟨a1,a2⟩:=ha ρ' h'
  obtain⟨b1,b2⟩:=hb ρ' h'
  refine d1 ⟨o1 b2,o1 a2,fun z hz=>?_⟩
  rw [hn] at hz
  rcases B7.1 hz with rfl|hz
  ·exact .inr ⟨a,B8 ..,a1.symm⟩
  ·exact .inl ⟨b,B8 ..,by rw [b1];exact hz⟩
noncomputable def Jw (a lo hi:A):W0:=fun st ct K=>alt ct (fun ct=>oS st (.an (.ge lo.H7) (.an (.ge (hi.H7.sub lo.H7)) (.ge (a.sle.sub hi.H7)))) ct fun ct=>Nr (hi.H7.sub lo.H7) st ct K) fun ct=>Qj (fun e=>[.ge (a.sle.sub e)]) st ct K
theorem Cj {a lo hi:A}{x l u:D}(h:Jw a lo hi st ct K=true)(hS:Sat tab ρ st)(ha:M9 ρ st.nx a x)(hl:M9 ρ st.nx lo l)(hu:M9 ρ st.nx hi u):R5 tab ρ st (.str ((x.s.drop l.i.toNat).take (u.i.toNat-l.i.toNat))) K:=by
 rcases fZ h with ⟨ct,h⟩|⟨ct,h⟩
 ·obtain⟨hg,ct,h⟩:=Q4 h hS
  obtain⟨g1,g2⟩:=Fm.T3.1 hg
  obtain⟨g2,g3⟩:=Fm.T3.1 g2
  have g1:=Fm.I7.1 g1
  have g2:=Fm.I7.1 g2
  have g3:=Fm.I7.1 g3
  rw [L.K0] at g2 g3
  rw [hl.H7 ρ L4.refl] at g1 g2
  rw [hu.H7 ρ L4.refl] at g2 g3
  rw [ha.sle ρ L4.refl] at g3
  refine FY h hS _ fun ρ' h' ix=>?_
  rw [L.K0,hl.H7 ρ' h',hu.H7 ρ' h',D9,F8];omega
 ·refine Cz h hS _ fun ρ' e h' hv=>fU ?_
  exact R0 (v:=(x.s.length:Nat)-((((x.s.drop l.i.toNat).take (u.i.toNat-l.i.toNat)).length:Nat):Int)) (by rw [L.K0,ha.sle ρ' h',hv]) (by rw [D9,F8];omega)
noncomputable def Kf (a b:A):W0:=fun st ct K=>alt ct (fun ct=>oS st (.an (.ge a.H7) (.ge b.H7)) ct fun ct=>Fv .i64 (a.H7.add b.H7) st ct K) fun ct=>AJ .i64 (fun e=>[.ge e]) st ct K
theorem Cs {a b:A}{x y:D}(h:Kf a b st ct K=true)(hS:Sat tab ρ st)(ha:M9 ρ st.nx a x)(hb:M9 ρ st.nx b y):R5 tab ρ st (.int .i64 (x.i.toNat+y.i.toNat:Nat)) K:=by
 rcases fZ h with ⟨ct,h⟩|⟨ct,h⟩
 ·obtain⟨hg,ct,h⟩:=Q4 h hS
  obtain⟨g1,g2⟩:=Fm.T3.1 hg
  have g1:=Fm.I7.1 g1
  have g2:=Fm.I7.1 g2
  rw [ha.H7 ρ L4.refl] at g1
  rw [hb.H7 ρ L4.refl] at g2
  have e:((x.i.toNat+y.i.toNat:Nat):Int)=x.i+y.i:=by omega
  rw [e];exact zA h hS (ha.H7.add hb.H7)
 ·exact R8 h hS _ fun ρ' e h' hv=>fU (Fm.I7.2 (by rw [hv];omega))
noncomputable def Kg (a b:A):W0:=fun st ct K=>alt ct (fun ct=>oS st (.an (.ge b.H7) (.ge (a.H7.sub b.H7))) ct fun ct=>Fv .i64 (a.H7.sub b.H7) st ct K) fun ct=>AJ .i64 (fun e=>[.ge e]) st ct K
theorem Ct {a b:A}{x y:D}(h:Kg a b st ct K=true)(hS:Sat tab ρ st)(ha:M9 ρ st.nx a x)(hb:M9 ρ st.nx b y):R5 tab ρ st (.int .i64 (x.i.toNat-y.i.toNat:Nat)) K:=by
 rcases fZ h with ⟨ct,h⟩|⟨ct,h⟩
 ·obtain⟨hg,ct,h⟩:=Q4 h hS
  obtain⟨g1,g2⟩:=Fm.T3.1 hg
  have g1:=Fm.I7.1 g1
  have g2:=Fm.I7.1 g2
  rw [L.K0,ha.H7 ρ L4.refl,hb.H7 ρ L4.refl] at g2
  rw [hb.H7 ρ L4.refl] at g1
  have e:((x.i.toNat-y.i.toNat:Nat):Int)=x.i-y.i:=by omega
  rw [e];exact zA h hS (ha.H7.sub hb.H7)
 ·exact R8 h hS _ fun ρ' e h' hv=>fU (Fm.I7.2 (by rw [hv];omega))
noncomputable def Km (x:L) (f:Fm):W0:=fun st ct K=>alt ct (fun ct=>oS st (.ge x) ct fun ct=>mE f st ct K) fun ct=>AY st ct K
theorem MO {x:L}{f:Fm}(h:Km x f st ct K=true)(hS:Sat tab ρ st){v:Int}(hx:bX ρ st.nx x v){b:Bool}(hf:0≤v→oU ρ st.nx f b):R5 tab ρ st (.bool b) K:=by
 rcases fZ h with ⟨ct,h⟩|⟨ct,h⟩
 ·obtain⟨g1,ct,h⟩:=Q4 h hS
  have g1:=Fm.I7.1 g1
  rw [hx ρ L4.refl] at g1
  exact Q6 h hS (hf g1)
 ·exact bJ h hS _
theorem ZT (v:Int)(n:Nat)(h:0≤v):Nat.blt v.toNat n=decide (v<(n:Int)):=by
 by_cases hh:v<n
 ·rw [E6 hh];exact B2 (by omega)
 ·rw [E8 hh]
  cases hb:Nat.blt v.toNat n with
  |false=>rfl
  |true=>have hb:Nat.ble (v.toNat+1) n=true:=hb;have:=B3 hb;omega
theorem OC (v:Int)(n:Nat)(h:0≤v):Nat.ble v.toNat n=decide (v≤(n:Int)):=by
 by_cases hh:v≤n
 ·rw [E6 hh];exact B2 (by omega)
 ·rw [E8 hh]
  cases hb:Nat.ble v.toNat n with
  |false=>rfl
  |true=>have:=B3 hb;omega
theorem ZQ (v:Int)(n:Nat)(h:0≤v):Nat.beq v.toNat n=(v==(n:Int)):=by
 by_cases hh:v=n
 ·subst hh;rw [F3];exact Nat.beq_refl n
 ·rw [beq_false_of_ne hh]
  cases hb:Nat.beq v.toNat n with
  |false=>rfl
  |true=>have:=P3 hb;omega
theorem ZS (a b:Nat):Nat.ble a b=decide ((a:Int)≤b):=by
 have:=OC (a:Int) b (by omega)
 simpa using this
noncomputable def Jv (a b:A):W0:=fun st ct K=>H9 (a.lP b) (mE .t st ct K) (AY st ct K)
theorem Ci {a b:A}{x y:D}(h:Jv a b st ct K=true)(hS:Sat tab ρ st)(ha:M9 ρ st.nx a x)(hb:M9 ρ st.nx b y):R5 tab ρ st (.bool (D.eq x y)) K:=by
 have h:H9 (a.lP b) (mE .t st ct K) (AY st ct K)=true:=h
 cases he:a.lP b with
 |true=>
  rw [he] at h
  have e:=A.LM (ρ:=ρ) he
  rw [(ha ρ L4.refl).1,(hb ρ L4.refl).1] at e
  subst e
  rw [D.vI]
  exact Q6 h hS fun _ _=>rfl
 |false=>rw [he] at h;exact bJ h hS _
noncomputable def Xu (t:Y2) (x:A):Bool:=Y2.casesOn (motive:=fun _=>Bool) t true
 (A.casesOn (motive:=fun _=>Bool) x (fun _ _=>false) (fun _=>true) (fun _ _=>false) (fun _ _ _=>false) (fun _=>false) false (fun _ _=>false) (fun _=>false))
 (fun k=>A.casesOn (motive:=fun _=>Bool) x (fun k' _=>Fp k k') (fun _=>false) (fun _ _=>false) (fun _ _ _=>false) (fun _=>false) false (fun _ _=>false) (fun _=>false))
 (A.casesOn (motive:=fun _=>Bool) x (fun _ _=>false) (fun _=>false) (fun _ _=>true) (fun _ _ _=>false) (fun _=>false) false (fun _ _=>false) (fun d=>kS d))
 (fun sz=>A.casesOn (motive:=fun _=>Bool) x (fun _ _=>false) (fun _=>false) (fun _ _=>false) (fun _ sz' _=>Nat.beq sz sz') (fun _=>false) false (fun _ _=>false) (fun d=>kL sz d))
theorem YZ {t:Y2}{x:A}(h:Xu t x=true)(hx:x.ok ρ):vB t (x.val ρ)=true:=by
 cases t with
 |any=>rfl
 |bool=>cases x with|b f=>rfl|_=>cases h
 |int k=>
  cases x with
  |n k' e=>
   have h:Fp k k'=true:=h
   rw [sI] at h;exact h
  |_=>cases h
 |str=>
  cases x with
  |s a e=>obtain⟨⟨t,e1⟩,_⟩:=hx;show vB .str (ρ a)=true;rw [e1];rfl
  |c d=>obtain⟨s,rfl⟩:=LY h;rfl
  |_=>cases h
 |Z sz=>
  cases x with
  |l a sz' e=>obtain⟨⟨t,e1⟩,_⟩:=hx;show vB (.Z sz) (ρ a)=true;rw [e1];exact h
  |c d=>obtain⟨xs,rfl⟩:=yO h;exact Nat.beq_refl sz
  |_=>cases h
noncomputable def Tl (x:A):List Y2→Bool:=A.rec (motive:=fun _=>List Y2→Bool) (fun _ _ _=>false) (fun _ _=>false) (fun _ _ _=>false) (fun _ _ _ _=>false) (fun _ _=>false) (fun ts=>List.casesOn (motive:=fun _=>Bool) ts true (fun _ _=>false)) (fun x _ _ ihr ts=>List.casesOn (motive:=fun _=>Bool) ts false (fun t r=>H9 (Xu t x) (ihr r) false)) (fun _ _=>false) x
theorem QP:∀ {x:A} {ts:List Y2},Tl x ts=true→x.ok ρ→∃ cs,x.val ρ = .agg cs∧kW ts cs=true
 | .gn,[],h,hx=>⟨[],rfl,rfl⟩
 | .gn,_::_,h,hx=>by cases h
 | .gc x r,[],h,hx=>by cases h
 | .gc x r,t::ts,h,hx=>by
  obtain⟨h1,h2⟩:=I3 h
  obtain⟨cs,e,h3⟩:=QP (x:=r) h2 hx.2.1
  refine⟨x.val ρ::cs,?_,?_⟩
  ·show D.agg (x.val ρ::(r.val ρ).cells)=_
   rw [e];rfl
  ·show (vB t (x.val ρ)&&kW ts cs)=true
   rw [YZ h1 hx.1,h3];rfl
 | .n ..,ts,h,hx=>by cases h
 | .b ..,ts,h,hx=>by cases h
 | .s ..,ts,h,hx=>by cases h
 | .l ..,ts,h,hx=>by cases h
 | .o ..,ts,h,hx=>by cases h
 | .c ..,ts,h,hx=>by cases h
noncomputable def Gr (t:Ty) (x:A):Bool:=Ty.casesOn (motive:=fun _=>Bool) t (fun t=>Xu t x) (fun ts=>Tl x ts) (fun _ _=>false)
theorem NQ {t:Ty}{x:A}(h:Gr t x=true)(hx:x.ok ρ):WO t (x.val ρ)=true:=by
 cases t with
 |leaf t=>exact YZ h hx
 |agg ts=>
  obtain⟨cs,e,h3⟩:=QP (x:=x) h hx
  rw [e];exact h3
 |ifc _ _=>cases h
noncomputable def Kh (t:Ty) (a:A):W0:=fun st ct K=>H9 (Gr t a) (mE .t st ct K) (AY st ct K)
theorem Cu {t:Ty}{a:A}{x:D}(h:Kh t a st ct K=true)(hS:Sat tab ρ st)(ha:M9 ρ st.nx a x):R5 tab ρ st (.bool (eG t x)) K:=by
 have h:H9 (Gr t a) (mE .t st ct K) (AY st ct K)=true:=h
 cases he:Gr t a with
 |true=>
  rw [he] at h
  have e:=jA (NQ he (ha ρ L4.refl).2)
  rw [(ha ρ L4.refl).1] at e
  rw [e]
  exact Q6 h hS fun _ _=>rfl
 |false=>rw [he] at h;exact bJ h hS _
noncomputable def Jn (a:A):W0:=fun st ct K=>H9 a.fW (mE .t st ct K) (AY st ct K)
theorem By {a:A}{x:D}(h:Jn a st ct K=true)(hS:Sat tab ρ st)(ha:M9 ρ st.nx a x):R5 tab ρ st (.bool (jW x)) K:=by
 have h:H9 a.fW (mE .t st ct K) (AY st ct K)=true:=h
 cases he:a.fW with
 |true=>
  rw [he] at h
  obtain⟨cs,e⟩:=lT (ρ:=ρ) he
  rw [(ha ρ L4.refl).1] at e
  subst e
  exact Q6 h hS fun _ _=>rfl
 |false=>rw [he] at h;exact bJ h hS _
theorem M9.nil {n:Nat}{a:A}{x:D}(h:M9 ρ n a x):oU ρ n a.nil (O9 x):=fun ρ' ha=>by
 obtain⟨h1,h2⟩:=h ρ' ha
 rw [A.yV h2,h1]
noncomputable def Jp (a:A) (j:Nat):W0:=fun st ct K=>A.casesOn (motive:=fun _=>Bool) a (fun _ _=>H9 (Nat.beq j 0) (K a st ct) (P5 st ct K)) (fun _=>H9 (Nat.beq j 0) (K a st ct) (P5 st ct K)) (fun _ _=>H9 (Nat.beq j 0) (K a st ct) (P5 st ct K)) (fun _ _ _=>H9 (Nat.beq j 0) (K a st ct) (P5 st ct K)) (fun _=>P5 st ct K) (K (a.dZ j) st ct) (fun _ _=>K (a.dZ j) st ct) (fun _=>P5 st ct K)
theorem Ca {a:A}{j:Nat}{x:D}(h:Jp a j st ct K=true)(hS:Sat tab ρ st)(ha:M9 ρ st.nx a x):R5 tab ρ st (x.at_ j) K:=by
 have one:jW x=false→H9 (Nat.beq j 0) (K a st ct) (P5 st ct K)=true→R5 tab ρ st (x.at_ j) K:=by
  intro hx g
  cases hb:Nat.beq j 0 with
  |true=>
   rw [hb] at g
   have e:=P3 hb
   rw [e,NZ hx]
   exact R5.now hS ha g
  |false=>rw [hb] at g;exact Q7 g hS _
 have e0:=(ha ρ L4.refl).1
 have e1:=(ha ρ L4.refl).2
 have chain:a.fW=true→M9 ρ st.nx (a.dZ j) (x.at_ j):=fun hc ρ' h'=>by
  obtain⟨a1,a2⟩:=ha ρ' h'
  exact⟨by rw [A.V4 j a2 hc,a1],A.aA j a2⟩
 cases a with
 |n k e=>exact one (by rw [← e0];rfl) h
 |b f=>exact one (by rw [← e0];rfl) h
 |s t e=>exact one (by obtain⟨⟨t',e2⟩,_⟩:=e1;rw [← e0];show jW (ρ t)=false;rw [e2];rfl) h
 |l t sz e=>exact one (by obtain⟨⟨t',e2⟩,_⟩:=e1;rw [← e0];show jW (ρ t)=false;rw [e2];rfl) h
 |o t=>exact Q7 h hS _
 |gn=>exact R5.now hS (chain rfl) h
 |gc y r=>exact R5.now hS (chain rfl) h
 |c d=>exact Q7 h hS _
noncomputable def A.Nj (n:Nat):A→A:=Nat.rec (motive:=fun _=>A→A) (fun x=>x) (fun _ ih x=>A.casesOn (motive:=fun _=>A) x (fun _ _=> .gn) (fun _=> .gn) (fun _ _=> .gn) (fun _ _ _=> .gn) (fun _=> .gn) .gn (fun _ r=>ih r) (fun _=> .gn)) n
noncomputable def A.Nv (n:Nat):A→A:=Nat.rec (motive:=fun _=>A→A) (fun _=> .gn) (fun _ ih x=>A.casesOn (motive:=fun _=>A) x (fun _ _=> .gn) (fun _=> .gn) (fun _ _=> .gn) (fun _ _ _=> .gn) (fun _=> .gn) .gn (fun y r=> .gc y (ih r)) (fun _=> .gn)) n
theorem A.UJ:∀ (j:Nat) {x:A},x.ok ρ→x.fW=true→(A.Nj j x).ok ρ∧(A.Nj j x).fW=true∧((A.Nj j x).val ρ).cells=(x.val ρ).cells.drop j
 |0,x,h,hc=>⟨h,hc,rfl⟩
 |j+1,.gn,h,hc=>⟨trivial,rfl,by show []=([]:List D).drop _;simp⟩
 |j+1,.gc y r,h,hc=>by
  obtain⟨h1,h2,h3⟩:=A.UJ j h.2.1 h.2.2
  exact⟨h1,h2,by show ((A.Nj j r).val ρ).cells=_;rw [h3];rfl⟩
theorem A.YU:∀ (j:Nat) {x:A},x.ok ρ→x.fW=true→(A.Nv j x).ok ρ∧(A.Nv j x).fW=true∧((A.Nv j x).val ρ).cells=(x.val ρ).cells.take j
 |0,x,h,hc=>⟨trivial,rfl,by show []=_;simp⟩
 |j+1,.gn,h,hc=>⟨trivial,rfl,by show []=([]:List D).take _;simp⟩
 |j+1,.gc y r,h,hc=>by
  obtain⟨h1,h2,h3⟩:=A.YU j h.2.1 h.2.2
  exact⟨⟨h.1,h1,h2⟩,rfl,by show y.val ρ::((A.Nv j r).val ρ).cells=_;rw [h3];rfl⟩
theorem rS {x:A}(hc:x.fW=true){cs:List D}(h:(x.val ρ).cells=cs):x.val ρ = .agg cs:=by
 obtain⟨ds,e⟩:=lT (ρ:=ρ) hc
 rw [e] at h ⊢
 exact congrArg D.agg h
noncomputable def Kk (a:A) (off n:Nat):W0:=fun st ct K=>H9 a.fW (K (A.Nv n (A.Nj off a)) st ct) (P5 st ct K)
theorem Cy {a:A}{off n:Nat}{x:D}(h:Kk a off n st ct K=true)(hS:Sat tab ρ st)(ha:M9 ρ st.nx a x):R5 tab ρ st (GX x off n true) K:=by
 have h:H9 a.fW (K (A.Nv n (A.Nj off a)) st ct) (P5 st ct K)=true:=h
 cases hc:a.fW with
 |true=>
  rw [hc] at h
  refine R5.now hS (fun ρ' h'=>?_) h
  obtain⟨a1,a2⟩:=ha ρ' h'
  obtain⟨g1,g2,g3⟩:=A.UJ (ρ:=ρ') off a2 hc
  obtain⟨f1,f2,f3⟩:=A.YU (ρ:=ρ') n g1 g2
  refine⟨?_,f1⟩
  rw [g3,a1] at f3
  exact rS f2 f3
 |false=>rw [hc] at h;exact Q7 h hS _
noncomputable def A.app (x y:A):A:=A.rec (motive:=fun _=>A) (fun _ _=> .gn) (fun _=> .gn) (fun _ _=> .gn) (fun _ _ _=> .gn) (fun _=> .gn) y (fun x _ _ ih=> .gc x ih) (fun _=> .gn) x
theorem A.TR {y:A}(hy:y.ok ρ)(hc:y.fW=true):∀ {x:A},x.ok ρ→x.fW=true→(x.app y).ok ρ∧(x.app y).fW=true∧((x.app y).val ρ).cells=(x.val ρ).cells++(y.val ρ).cells
 | .gn,h,h'=>⟨hy,hc,rfl⟩
 | .gc x r,h,h'=>by
  obtain⟨h1,h2,h3⟩:=A.TR hy hc (x:=r) h.2.1 h.2.2
  exact⟨⟨h.1,h1,h2⟩,rfl,by show x.val ρ::((r.app y).val ρ).cells=_;rw [h3];rfl⟩
noncomputable def Jl (a b:A):W0:=fun st ct K=>H9 a.fW (H9 b.fW (K (a.app b) st ct) (P5 st ct K)) (P5 st ct K)
theorem Bw {a b:A}{x y:D}(h:Jl a b st ct K=true)(hS:Sat tab ρ st)(ha:M9 ρ st.nx a x)(hb:M9 ρ st.nx b y):R5 tab ρ st (.agg (x.cells++y.cells)) K:=by
 have h:H9 a.fW (H9 b.fW (K (a.app b) st ct) (P5 st ct K)) (P5 st ct K)=true:=h
 cases hc:a.fW with
 |false=>rw [hc] at h;exact Q7 h hS _
 |true=>
  rw [hc] at h
  have h:H9 b.fW (K (a.app b) st ct) (P5 st ct K)=true:=h
  cases hd:b.fW with
  |false=>rw [hd] at h;exact Q7 h hS _
  |true=>
   rw [hd] at h
   refine R5.now hS (fun ρ' h'=>?_) h
   obtain⟨a1,a2⟩:=ha ρ' h'
   obtain⟨b1,b2⟩:=hb ρ' h'
   obtain⟨f1,f2,f3⟩:=A.TR b2 hd a2 hc
   rw [a1,b1] at f3
   exact⟨rS f2 f3,f1⟩
noncomputable def A.L9 (y:A) (j:Nat):A→A:=Nat.rec (motive:=fun _=>A→A) (fun x=>A.casesOn (motive:=fun _=>A) x (fun _ _=> .gn) (fun _=> .gn) (fun _ _=> .gn) (fun _ _ _=> .gn) (fun _=> .gn) .gn (fun _ r=> .gc y r) (fun _=> .gn)) (fun _ ih x=>A.casesOn (motive:=fun _=>A) x (fun _ _=> .gn) (fun _=> .gn) (fun _ _=> .gn) (fun _ _ _=> .gn) (fun _=> .gn) .gn (fun z r=> .gc z (ih r)) (fun _=> .gn)) j
theorem A.YK {y:A}(hy:y.ok ρ):∀ (j:Nat) {x:A},x.ok ρ→x.fW=true→(A.L9 y j x).ok ρ∧(A.L9 y j x).fW=true∧((A.L9 y j x).val ρ).cells=(x.val ρ).cells.set j (y.val ρ)
 |0,.gn,h,hc=>⟨trivial,rfl,rfl⟩
 |0,.gc z r,h,hc=>⟨⟨hy,h.2.1,h.2.2⟩,rfl,rfl⟩
 |j+1,.gn,h,hc=>⟨trivial,rfl,rfl⟩
 |j+1,.gc z r,h,hc=>by
  obtain⟨h1,h2,h3⟩:=A.YK hy j h.2.1 h.2.2
  exact⟨⟨h.1,h1,h2⟩,rfl,by show z.val ρ::((A.L9 y j r).val ρ).cells=_;rw [h3];rfl⟩
noncomputable def A.one (x:A):Bool:=A.casesOn (motive:=fun _=>Bool) x (fun _ _=>true) (fun _=>true) (fun _ _=>true) (fun _ _ _=>true) (fun _=>false) false (fun _ _=>false) (fun _=>true)
theorem A.Jj {x:A}(h:x.one=true)(hx:x.ok ρ):(x.val ρ).cells=[x.val ρ]:=by
 cases x with
 |n k e=>rfl
 |b f=>rfl
 |s a e=>obtain⟨⟨t,e1⟩,_⟩:=hx;show (ρ a).cells=[ρ a];rw [e1];rfl
 |l a sz e=>obtain⟨⟨t,e1⟩,_⟩:=hx;show (ρ a).cells=[ρ a];rw [e1];rfl
 |c d=>
  have h2:jW d=false:=hx.2
  show d.cells=[d]
  cases d<;>first|rfl|cases h2
 |_=>cases h
noncomputable def Kp (a:A) (off:Nat) (b:A):W0:=fun st ct K=>H9 a.fW (H9 b.one (K (A.L9 b off a) st ct) (P5 st ct K)) (P5 st ct K)
theorem De {a b:A}{off:Nat}{x y:D}(h:Kp a off b st ct K=true)(hS:Sat tab ρ st)(ha:M9 ρ st.nx a x)(hb:M9 ρ st.nx b y):R5 tab ρ st (KI x off y) K:=by
 have h:H9 a.fW (H9 b.one (K (A.L9 b off a) st ct) (P5 st ct K)) (P5 st ct K)=true:=h
 cases hc:a.fW with
 |false=>rw [hc] at h;exact Q7 h hS _
 |true=>
  rw [hc] at h
  have h:H9 b.one (K (A.L9 b off a) st ct) (P5 st ct K)=true:=h
  cases hd:b.one with
  |false=>rw [hd] at h;exact Q7 h hS _
  |true=>
   rw [hd] at h
   refine R5.now hS (fun ρ' h'=>?_) h
   obtain⟨a1,a2⟩:=ha ρ' h'
   obtain⟨b1,b2⟩:=hb ρ' h'
   obtain⟨f1,f2,f3⟩:=A.YK b2 off a2 hc
   rw [a1,b1] at f3
   refine⟨?_,f1⟩
   have e:y.cells=[y]:=by rw [← b1];exact A.Jj hd b2
   have:=rS f2 f3
   rw [this,KI,e];rfl
noncomputable def Jm (a b:A):W0:=fun st ct K=>H9 b.fW (K (.gc a b) st ct) (P5 st ct K)
theorem Bx {a b:A}{x y:D}(h:Jm a b st ct K=true)(hS:Sat tab ρ st)(ha:M9 ρ st.nx a x)(hb:M9 ρ st.nx b y):R5 tab ρ st (.agg (x::y.cells)) K:=by
 have h:H9 b.fW (K (.gc a b) st ct) (P5 st ct K)=true:=h
 cases hd:b.fW with
 |false=>rw [hd] at h;exact Q7 h hS _
 |true=>
  rw [hd] at h
  refine R5.now hS (fun ρ' h'=>?_) h
  obtain⟨a1,a2⟩:=ha ρ' h'
  obtain⟨b1,b2⟩:=hb ρ' h'
  exact⟨by show D.agg (a.val ρ'::(b.val ρ').cells)=_;rw [a1,b1],a2,b2,hd⟩
end
end Go.AE.Q
namespace Go.AE.Q
noncomputable def DF (st:St):List Sg:=St.casesOn (motive:=fun _=>List Sg) st fun _ G _ _ _=>G
noncomputable def Tf (st:St):List Ce:=St.casesOn (motive:=fun _=>List Ce) st fun _ _ _ _ C=>C
noncomputable def UP (cx:Cx) (st:St):KN:=St.casesOn (motive:=fun _=>KN) st fun _ G F D C=>UO cx G F D C 8
noncomputable def Hi (cx:Cx) (st:St):KN:=St.casesOn (motive:=fun _=>KN) st fun _ G F D C=>Hh cx G F (UO cx G F D C 8)
noncomputable def Wg (cx:Cx) (st:St) (x:A) (y:K) (ct:Nat) (k:Nat→Bool):Bool:=St.casesOn (motive:=fun _=>Bool) st fun _ G F D C=>Ir cx G F (UO cx G F D C 8) x y ct k
section
variable {cx:Cx} {ρ:Nat→D} {st:St} {ct:Nat} {K:A→St→Nat→Bool}
theorem YD (hS:Sat cx.tab ρ st):∀ x∈DF st,AM cx.tab ρ x:=by cases st;exact hS.self.G
theorem OM (hR:rL cx)(hS:Sat cx.tab ρ st){x:A}{p:Nat}{ps:List L}{k:Nat→Bool}(h:UP cx st x p ps ct k=true)(hx:x.ok ρ):EL (HP cx.tab) ρ (x.val ρ).l p ps∧∃ ct,k ct=true:=by
 cases st with
 |mk nx G F D_ C=>
  have h0:=hS.self
  exact⟨LK hR ⟨h0.G,h0.F,h0.D,h0.C⟩ 8 h hx,BU 8 h⟩
theorem Aa (hR:rL cx)(hS:Sat cx.tab ρ st){x:A}{p:Nat}{ps:List L}{k:Nat→Bool}(h:Hi cx st x p ps ct k=true)(hx:x.ok ρ):HP cx.tab p (jC ρ ps) (x.val ρ)∧∃ ct,k ct=true:=by
 cases st with
 |mk nx G F D_ C=>
  have h0:=hS.self
  exact⟨LI hR ⟨h0.G,h0.F,h0.D,h0.C⟩ (BU 8) (LK hR ⟨h0.G,h0.F,h0.D,h0.C⟩ 8) h hx,OF (BU 8) h⟩
theorem Iq (hR:rL cx)(hS:Sat cx.tab ρ st){x:A}{y:Q.K}{k:Nat→Bool}(h:Wg cx st x y ct k=true)(hx:x.ok ρ):HK (HP cx.tab) ρ y (x.val ρ)∧∃ ct,k ct=true:=by
 cases st with
 |mk nx G F D_ C=>
  have h0:=hS.self
  exact⟨LZ hR ⟨h0.G,h0.F,h0.D,h0.C⟩ (LK hR ⟨h0.G,h0.F,h0.D,h0.C⟩ 8) h hx,IT (e:=UO cx G F D_ C 8) (BU 8) h⟩
theorem Ha (hS:Sat cx.tab ρ st){i:L}{es:List L}{k:List L→Bool}(h:KR (DF st) (Tf st) i es k=true):∃ es',(∀ ρ',L4 st.nx ρ ρ'→∀ ix,(es'.map fun e=>e.ev (nu ρ' ix))=es.map fun e=>e.ev (nu ρ' (i.ev (nu ρ' 0)).toNat))∧k es'=true:=by
 cases st with
 |mk nx G F D_ C=>exact DT (tab:=cx.tab) (W:=fun r=>L4 nx ρ r) (fun r w=>(hS r w).G) (fun r w=>(hS r w).C) h
noncomputable def OA (x:A) (k:Nat→Bool):Bool:=A.casesOn (motive:=fun _=>Bool) x (fun _ _=>false) (fun _=>false) (fun _ _=>false) (fun a _ _=>k a) (fun a=>k a) false (fun _ _=>false) (fun _=>false)
theorem wO {x:A}{k:Nat→Bool}(h:OA x k=true):∃ a,(∀ ρ,x.val ρ=ρ a)∧k a=true:=by
 cases x with
 |l a sz e=>exact⟨a,fun _=>rfl,h⟩
 |o a=>exact⟨a,fun _=>rfl,h⟩
 |_=>cases h
noncomputable def Uw (cx:Cx) (a i:A):W0:=fun st ct K=>tok ct fun t ct=>L3 (fun _=>false) [
 (fun _=>P5 st ct K),
 (fun _=>OA a fun b=>gC (Tf st) b i.H7 fun y=>K y st ct),
 (fun _=>OA a fun b=>oS st (.an (.ge i.H7) (.ge ((a.len.sub i.H7).O8 (-1)))) ct fun ct=>J8 8 ct fun c ct=>Q.K.casesOn (motive:=fun _=>Bool) (kindOf (DF st) c) (fun _=>false) false false
  (fun _ p ps=>UP cx st a p ps ct fun ct=>KR (DF st) (Tf st) i.H7 ps fun ps=>IS cx p ps st fun y st=>St.casesOn (motive:=fun _=>Bool) st fun nx G F D C=>K y (.mk nx G (.ge ((lm (Nat.add (Nat.mul 8 b) 2)).sub (y.uR.add (a.len.mul 2)))::F) D (.mk b i.H7 y::C)) ct)
  (fun _ p ps=>UP cx st a p ps ct fun ct=>KR (DF st) (Tf st) i.H7 ps fun ps=>IS cx p ps st fun y st=>St.casesOn (motive:=fun _=>Bool) st fun nx G F D C=>K y (.mk nx G (.ge ((lm (Nat.add (Nat.mul 8 b) 2)).sub (y.uR.add (a.len.mul 2)))::F) D (.mk b i.H7 y::C)) ct)
  false),
 (fun _=>OA a fun b=>oS st (.an (.ge i.H7) (.ge ((a.len.sub i.H7).O8 (-1)))) ct fun ct=>J8 8 ct fun p ct=>UP cx st a p [] ct fun ct=>IS cx p [] st fun y st=>St.casesOn (motive:=fun _=>Bool) st fun nx G F D C=>K y (.mk nx G (.ge ((lm (Nat.add (Nat.mul 8 b) 2)).sub (y.uR.add (a.len.mul 2)))::F) D (.mk b i.H7 y::C)) ct)] t ()
theorem JJ (hR:rL cx){a i:A}{x j:D}(hS:Sat cx.tab ρ st)(ha:M9 ρ st.nx a x)(hi:M9 ρ st.nx i j){b:Nat}(hb:∀ ρ,a.val ρ=ρ b)(g1:0≤j.i)(g2:0≤((x.l.length:Nat):Int)-j.i + -1):∀ p ps,(UP cx st a p ps ct fun ct=>KR (DF st) (Tf st) i.H7 ps fun ps=>IS cx p ps st fun y st=>St.casesOn (motive:=fun _=>Bool) st fun nx G F D C=>K y (.mk nx G (.ge ((lm (Nat.add (Nat.mul 8 b) 2)).sub (y.uR.add (a.len.mul 2)))::F) D (.mk b i.H7 y::C)) ct)=true→R5 cx.tab ρ st (x.l[j.i.toNat]?.getD .top) K:=by
 intro p ps h
 have hel:∀ ρ',L4 st.nx ρ ρ'→EL (HP cx.tab) ρ' x.l p ps:=fun ρ' h'=>by
  have hS':Sat cx.tab ρ' st:=fun r hr=>hS r (h'.trans (B9 _) hr)
  have:=(OM hR hS' h (ha ρ' h').2).1
  rw [(ha ρ' h').1] at this;exact this
 obtain⟨ct,h⟩:=(OM hR hS h (ha ρ L4.refl).2).2
 obtain⟨ps',h2,h⟩:=Ha hS h
 have hlt:j.i.toNat<x.l.length:=by omega
 have hd:∀ ρ',L4 st.nx ρ ρ'→HP cx.tab p (jC ρ' ps') (x.l[j.i.toNat]?.getD .top):=fun ρ' h'=>by
  have e1:jC ρ' ps'=ps.map fun e=>e.ev (nu ρ' j.i.toNat):=by rw [← hi.H7 ρ' h' 0];exact h2 ρ' h' 0
  rw [e1];exact hel ρ' h' _ hlt
 refine (VN (K:=fun y st ct=>St.casesOn (motive:=fun _=>Bool) st fun nx G F D C=>K y (.mk nx G (.ge ((lm (Nat.add (Nat.mul 8 b) 2)).sub (y.uR.add (a.len.mul 2)))::F) D (.mk b i.H7 y::C)) ct) h hS _ hd).bind fun ρ1 L9 y ct1 a1 a2 a3 a4 a5=>?_
 have hz:x.l[j.i.toNat]?.getD .top∈x.l:=by
  rw [C2 hlt];exact C6 hlt
 cases L9 with
 |mk nx G F D_ C=>
  refine⟨ρ1,.mk nx G (.ge ((lm (Nat.add (Nat.mul 8 b) 2)).sub (y.uR.add (a.len.mul 2)))::F) D_ (.mk b i.H7 y::C),y,ct1,L4.refl,B9 _,fun ρ' h'=>?_,a4,a5⟩
  have h0:=a3 ρ' h'
  have hag:L4 st.nx ρ ρ':=a1.trans a2 h'
  refine⟨h0.G,Hs.cons (R0 (v:=(bR x:Nat)-((bR (x.l[j.i.toNat]?.getD .top):Nat)+2*((x.l.length:Nat):Int))) ?_ ?_) h0.F,h0.D,fun z hz=>?_⟩
  ·have e1:(lm (Nat.add (Nat.mul 8 b) 2)).ev (nu ρ' 0)=(bR x:Nat):=by
    refine L5.trans (JI.trans ?_)
    rw [← hb ρ',(ha ρ' hag).1]
   rw [L.K0,L.eU,L.X8,a4.uR ρ' h',ha.len ρ' hag,e1]
  ·have h5:=KA x
   have h6:=YQ hz
   omega
  ·rcases B7.1 hz with rfl|hz
   ·refine⟨(a4 ρ' h').2,?_,?_⟩
    ·rw [hi.H7 ρ' hag];exact g1
    ·rw [(a4 ρ' h').1,hi.H7 ρ' hag,← hb ρ',(ha ρ' hag).1]
   ·exact h0.C z hz
theorem Jy (hR:rL cx){a i:A}{x j:D}(h:Uw cx a i st ct K=true)(hS:Sat cx.tab ρ st)(ha:M9 ρ st.nx a x)(hi:M9 ρ st.nx i j):R5 cx.tab ρ st (x.l[j.i.toNat]?.getD .top) K:=by
 unfold Uw at h
 rw [cK] at h
 by_cases ht:ct % 32<4
 ·generalize ct % 32=t at h ht
  match t,ht with
  |0,_=>
   simp only [I8,I9] at h
   exact Q7 h hS _
  |1,_=>
   simp only [I8,I9] at h
   obtain⟨b,hb,h⟩:=wO h
   cases st with
   |mk nx G F D_ C=>
    obtain⟨y,h1,h⟩:=xQ (W:=fun r=>L4 nx ρ r) (fun r w=>(hS r w).C) h
    refine R5.now hS (fun ρ' h'=>?_) h
    obtain⟨g1,g2,g3⟩:=h1 ρ' h'
    refine⟨?_,g1⟩
    rw [g3,hi.H7 ρ' h',← hb ρ',(ha ρ' h').1]
  |2,_=>
   simp only [I8,I9] at h
   obtain⟨b,hb,h⟩:=wO h
   obtain⟨hg,ct,h⟩:=Q4 h hS
   obtain⟨g1,g2⟩:=Fm.T3.1 hg
   have g1:=Fm.I7.1 g1
   have g2:=Fm.I7.1 g2
   rw [L.K3,L.K0,ha.len ρ L4.refl,hi.H7 ρ L4.refl] at g2
   rw [hi.H7 ρ L4.refl] at g1
   obtain⟨c,ct,h⟩:=I0 h
   have main:=JJ (K:=K) (ct:=ct) hR hS ha hi hb g1 g2
   generalize kindOf (DF st) c=kk at h
   cases kk with
   |l sz p ps=>exact main p ps h
   |r sz p ps=>exact main p ps h
   |_=>cases h
  |3,_=>
   simp only [I8,I9] at h
   obtain⟨b,hb,h⟩:=wO h
   obtain⟨hg,ct,h⟩:=Q4 h hS
   obtain⟨g1,g2⟩:=Fm.T3.1 hg
   have g1:=Fm.I7.1 g1
   have g2:=Fm.I7.1 g2
   rw [L.K3,L.K0,ha.len ρ L4.refl,hi.H7 ρ L4.refl] at g2
   rw [hi.H7 ρ L4.refl] at g1
   obtain⟨p,ct,h⟩:=I0 h
   exact JJ (K:=K) (ct:=ct) hR hS ha hi hb g1 g2 p [] h
 ·rw [Y8 (by simp only [A0,A8];omega)] at h
  cases h
noncomputable def Kb (sz:Nat) (a:A):W0:=fun st ct K=>A.casesOn (motive:=fun _=>Bool) a (fun _ _=>P5 st ct K) (fun _=>P5 st ct K) (fun _ _=>P5 st ct K)
 (fun b sz' _=>H9 (Nat.beq sz' sz) (K a st ct) (qW sz a .t a.len st ct K))
 (fun b=>alt ct (fun ct=>oS st (.nn b) ct fun ct=>Q.K.casesOn (motive:=fun _=>Bool) (kindOf (DF st) b) (fun _=>false) false false (fun sz' _ _=>H9 (Nat.beq sz' sz) (K (.l b sz (lm (Nat.add (Nat.mul 8 b) 1))) st ct) false) (fun sz' _ _=>H9 (Nat.beq sz' sz) (K (.l b sz (lm (Nat.add (Nat.mul 8 b) 1))) st ct) false) false) fun ct=>qW sz a .t a.len st ct K)
 (P5 st ct K) (fun _ _=>P5 st ct K)
 (fun d=>H9 (kL sz d) (K a st ct) (qW sz a .t a.len st ct K))
theorem Co {sz:Nat}{a:A}{x:D}(h:Kb sz a st ct K=true)(hS:Sat cx.tab ρ st)(ha:M9 ρ st.nx a x):R5 cx.tab ρ st (.Z sz x.l) K:=by
 have sub:∀ {ct},qW sz a .t a.len st ct K=true→R5 cx.tab ρ st (.Z sz x.l) K:=fun h=>zB h hS ha (fun _ hz=>hz) (B9 _) (B9 _) fun _=>ha.len
 cases a with
 |l b sz' e=>
  have h:H9 (Nat.beq sz' sz) (K (.l b sz' e) st ct) (qW sz (.l b sz' e) .t (A.l b sz' e).len st ct K)=true:=h
  cases hb:Nat.beq sz' sz with
  |true=>
   rw [hb] at h
   have e1:=P3 hb
   obtain⟨⟨xs,e2⟩,_⟩:=(ha ρ L4.refl).2
   have e3:ρ b=x:=(ha ρ L4.refl).1
   have e4:D.Z sz x.l=x:=by rw [← e3,e2,← e1];rfl
   rw [e4]
   exact R5.now hS ha h
  |false=>rw [hb] at h;exact sub h
 |o b=>
  rcases fZ (show alt ct _ _=true from h) with ⟨ct,h⟩|⟨ct,h⟩
  ·obtain⟨hg,ct,h⟩:=Q4 h hS
   have hk:=aP (a:=b) (YD hS)
   have e3:∀ ρ',L4 st.nx ρ ρ'→ρ' b=x:=fun ρ' h'=>(ha ρ' h').1
   have hg:(!O9 (ρ b))=true:=hg
   have go:∀ {sz':Nat} {xs:List D},ρ b = .Z sz' xs→H9 (Nat.beq sz' sz) (K (.l b sz (lm (Nat.add (Nat.mul 8 b) 1))) st ct) false=true→R5 cx.tab ρ st (.Z sz x.l) K:=by
    intro sz' xs e h
    obtain⟨h1,h⟩:=I3 h
    have e1:=P3 h1
    have e4:x = .Z sz xs:=by rw [← e3 ρ L4.refl,e,e1]
    subst e4
    refine R5.now hS (fun ρ' h'=>?_) h
    have e5:=e3 ρ' h'
    exact⟨e5,⟨xs,e5⟩,fun ix=>L5.trans (gO.trans rfl)⟩
   generalize kindOf (DF st) b=kk at h hk
   cases kk with
   |l sz' p ps=>
    obtain⟨xs,e,_⟩:=hk
    exact go e h
   |r sz' p ps=>
    rcases hk with ⟨u,v,e⟩|⟨xs,e,_⟩
    ·rw [e] at hg;cases hg
    ·exact go e h
   |_=>cases h
  ·exact sub h
 |c d=>
  have h:H9 (kL sz d) (K (.c d) st ct) (qW sz (.c d) .t (A.c d).len st ct K)=true:=h
  cases hb:kL sz d with
  |true=>
   rw [hb] at h
   obtain⟨xs,e1⟩:=yO hb
   have e3:d=x:=(ha ρ L4.refl).1
   have e4:D.Z sz x.l=x:=by rw [← e3,e1];rfl
   rw [e4]
   exact R5.now hS ha h
  |false=>rw [hb] at h;exact sub h
 |_=>exact Q7 h hS _
end
end Go.AE.Q
namespace Go.AE.Q
noncomputable def nO (d:D):Bool:=D.casesOn (motive_1:=fun _=>Bool) d true (fun _=>true) (fun _ _=>true) (fun _=>true) (fun _ xs=>List.casesOn (motive:=fun _=>Bool) xs true (fun _ _=>false)) (fun _ _=>true) true (fun _=>false) (fun _=>true) true true true true true (fun _ _=>true) (fun _ _ _=>true)
noncomputable def cA (d:D):A:=D.casesOn (motive_1:=fun _=>A) d (.c d) (fun b=> .b (H9 b .t .f)) (fun k n=> .n k (.c n)) (fun _=> .c d) (fun _ _=> .c d) (fun _ _=> .c d) (.c d) (fun _=> .c d) (fun _=> .c d) (.c d) (.c d) (.c d) (.c d) (.c d) (fun _ _=> .c d) (fun _ _ _=> .c d)
theorem UD {ρ:Nat→D}{d:D}(h:nO d=true):(cA d).val ρ=d∧(cA d).ok ρ:=by
 cases d with
 |bool b=>exact⟨congrArg D.bool EJ,trivial⟩
 |int k n=>exact⟨rfl,fun _=>rfl⟩
 |Z sz xs=>cases xs with|nil=>exact⟨rfl,rfl,rfl⟩|cons _ _=>cases h
 |agg cs=>cases h
 |_=>exact⟨rfl,rfl,rfl⟩
noncomputable def Ep (cs:List D):A:=List.rec (motive:=fun _=>A) .gn (fun d _ ih=> .gc (cA d) ih) cs
theorem wW {ρ:Nat→D}:∀ {cs:List D},U8 nO cs=true→(Ep cs).val ρ = .agg cs∧(Ep cs).ok ρ∧(Ep cs).fW=true
 |[],h=>⟨rfl,trivial,rfl⟩
 |d::cs,h=>by
  obtain⟨h1,h2⟩:=I3 h
  obtain⟨e1,e2⟩:=UD (ρ:=ρ) h1
  obtain⟨f1,f2,f3⟩:=wW (ρ:=ρ) (cs:=cs) h2
  refine⟨?_,⟨e2,f2,f3⟩,rfl⟩
  show D.agg ((cA d).val ρ::((Ep cs).val ρ).cells)=_
  rw [e1,f1];rfl
noncomputable def RA (d:D):Bool:=H9 (nO d) true (D.casesOn (motive_1:=fun _=>Bool) d false (fun _=>false) (fun _ _=>false) (fun _=>false) (fun _ _=>false) (fun _ _=>false) false (fun cs=>U8 nO cs) (fun _=>false) false false false false false (fun _ _=>false) (fun _ _ _=>false))
noncomputable def Hg (d:D):A:=H9 (nO d) (cA d) (D.casesOn (motive_1:=fun _=>A) d (.c d) (fun _=> .c d) (fun _ _=> .c d) (fun _=> .c d) (fun _ _=> .c d) (fun _ _=> .c d) (.c d) (fun cs=>Ep cs) (fun _=> .c d) (.c d) (.c d) (.c d) (.c d) (.c d) (fun _ _=> .c d) (fun _ _ _=> .c d))
theorem UC {ρ:Nat→D}{d:D}(h:RA d=true):(Hg d).val ρ=d∧(Hg d).ok ρ:=by
 unfold RA at h
 unfold Hg
 cases hc:nO d with
 |true=>exact UD hc
 |false=>
  rw [hc] at h
  cases d with
  |agg cs=>exact⟨(wW h).1,(wW h).2.1⟩
  |_=>cases h
noncomputable def Zf (t:Nat) (xs:List D):Nat→List Fm:=List.rec (motive:=fun _=>Nat→List Fm) (fun _=>[]) (fun x _ ih j=> .p (.mk 13 [.a t] [.c (Int.ofNat j),.c (pZ x)])::ih (Nat.succ j)) xs
theorem VK {ρ:Nat→D}{t sz:Nat}{ys:List D}(h:ρ t = .Z sz ys):∀ (xs:List D) (j:Nat),(∀ i,xs[i]? = ys[j+i]?)→Hs ρ (Zf t xs j)
 |[],j,hx=>fun f hf=>by cases hf
 |x::xs,j,hx=>by
  refine Hs.cons (Lt.rP.2 ?_) (VK h xs (j+1) fun i=>?_)
  ·show (((ρ t).l[(Int.ofNat j).toNat]?.getD .top)).i=pZ x
   have:=hx 0
   rw [h,OJ]
   show ((ys[j]?).getD .top).i=x.i
   rw [show ys[j]? = some x from this.symm];rfl
  ·rw [show j+1+i=j+(i+1) by omega,← hx (i+1)];rfl
noncomputable def Py (t:Nat) (xs:List D):List Fm:=H9 (Nat.ble (P7 xs) 4) (Zf t xs 0) []
theorem Ij {ρ:Nat→D}{t sz:Nat}{xs:List D}(h:ρ t = .Z sz xs):Hs ρ (Py t xs):=by
 unfold Py
 cases Nat.ble (P7 xs) 4 with
 |true=>exact VK h xs 0 fun i=>by rw [C5]
 |false=>exact SY
noncomputable def CU (d:D):W0:=fun st ct K=>H9 (nO d) (K (cA d) st ct) (D.casesOn (motive_1:=fun _=>Bool) d (P5 st ct K) (fun _=>P5 st ct K) (fun _ _=>P5 st ct K) (fun _=>P5 st ct K) (fun sz xs=>H9 (U8 RA xs) (SZ sz (.c (Int.ofNat (P7 xs))) (fun t=>Py t xs) (fun t=>[.ms t [] (mM Hg xs)]) st ct K) (P5 st ct K)) (fun _ _=>P5 st ct K) (P5 st ct K) (fun cs=>H9 (U8 nO cs) (K (Ep cs) st ct) (P5 st ct K)) (fun _=>P5 st ct K) (P5 st ct K) (P5 st ct K) (P5 st ct K) (P5 st ct K) (P5 st ct K) (fun _ _=>P5 st ct K) (fun _ _ _=>P5 st ct K))
section
variable {tab:Nat→Pd} {ρ:Nat→D} {st:St} {ct:Nat} {K:A→St→Nat→Bool}
theorem Ka {d:D}(h:CU d st ct K=true)(hS:Sat tab ρ st):R5 tab ρ st d K:=by
 cases hc:nO d with
 |true=>
  have h:H9 (nO d) (K (cA d) st ct) _=true:=h
  rw [hc] at h
  exact R5.now hS (fun ρ' _=>UD hc) h
 |false=>
  cases d with
  |Z sz xs=>
   have h:H9 (nO (.Z sz xs)) (K (cA (.Z sz xs)) st ct) (H9 (U8 RA xs) (SZ sz (.c (Int.ofNat (P7 xs))) (fun t=>Py t xs) (fun t=>[.ms t [] (mM Hg xs)]) st ct K) (P5 st ct K))=true:=h
   rw [hc] at h
   have h:H9 (U8 RA xs) (SZ sz (.c (Int.ofNat (P7 xs))) (fun t=>Py t xs) (fun t=>[.ms t [] (mM Hg xs)]) st ct K) (P5 st ct K)=true:=h
   cases ha:U8 RA xs with
   |false=>rw [ha] at h;exact Q7 h hS _
   |true=>
    rw [ha] at h
    refine jE h hS _ (fun ρ' h' ix=>?_) (fun _ _ hn=>Ij hn) fun ρ' h' hn=>d1 ⟨o0,fun y hy=>?_,fun z hz=> .inr ?_⟩
    ·show ((P7 xs:Nat):Int)=_
     rw [P8]
    ·rw [gJ] at hy
     obtain⟨w,hw,rfl⟩:=List.mem_map.1 hy
     exact (UC (fY ha w hw)).2
    ·rw [hn] at hz
     have hz:z∈xs:=hz
     rw [gJ]
     exact⟨Hg z,List.mem_map_of_mem hz,(UC (fY ha z hz)).1.symm⟩
  |agg cs=>
   have h:H9 (nO (.agg cs)) (K (cA (.agg cs)) st ct) (H9 (U8 nO cs) (K (Ep cs) st ct) (P5 st ct K))=true:=h
   rw [hc] at h
   have h:H9 (U8 nO cs) (K (Ep cs) st ct) (P5 st ct K)=true:=h
   cases ha:U8 nO cs with
   |false=>rw [ha] at h;exact Q7 h hS _
   |true=>
    rw [ha] at h
    exact R5.now hS (fun ρ' _=>⟨(wW ha).1,(wW ha).2.1⟩) h
  |_=>cases hc
end
theorem yG (c:UInt8):∀ (s:G0) (j:Nat),-1≤Z9 c s j∧Z9 c s j≤(j:Int)+s.length-1∨Z9 c s j = -1
 |[],j=> .inr rfl
 |x::s,j=>by
  unfold Z9
  cases x==c with
  |true=>
   refine .inl ?_
   simp only [cond_true,A0];omega
  |false=>
   have:=yG c s (j+1)
   simp only [cond_false,A0]
   omega
noncomputable def u1 (f:W0) (g:A→W0):W0:=fun st ct K=>f st ct fun a st ct=>g a st ct K
noncomputable def u2 (f f':W0) (g:A→A→W0):W0:=fun st ct K=>f st ct fun a st ct=>f' st ct fun b st ct=>g a b st ct K
noncomputable def u3 (f f' f'':W0) (g:A→A→A→W0):W0:=fun st ct K=>f st ct fun a st ct=>f' st ct fun b st ct=>f'' st ct fun c st ct=>g a b c st ct K
noncomputable def u4 (f f' f'' f3:W0) (g:A→A→A→A→W0):W0:=fun st ct K=>f st ct fun a st ct=>f' st ct fun b st ct=>f'' st ct fun c st ct=>f3 st ct fun d st ct=>g a b c d st ct K
noncomputable def Vi:Int:= .ofNat 18446744073709551616
noncomputable def Kc (a b:A):W0:=AJ .i64 fun m=>[.ge (b.len.sub m),.ge (a.len.sub m),.or (.ge (m.sub b.len)) (.ge (m.sub a.len))]
noncomputable def MN (k:IntKind):W0:=AJ k (TB k)
noncomputable def Ks (a:A):W0:=AJ .i64 fun e=>[.ge (e.O8 1),.or (.ge ((a.sle.sub e).O8 (-1))) (.ge ((e.mul (-1)).O8 (-1)))]
noncomputable def Jk (a b c:A):W0:=AJ .u64 fun q=>[.ge (((a.H7.add b.H7).add c.H7).sub (q.mul Vi)),.ge (((q.mul Vi).sub ((a.H7.add b.H7).add c.H7)).O8 (.ofNat 18446744073709551615))]
section
variable {tab:Nat→Pd} {ρ:Nat→D} {st:St} {ct:Nat} {K:A→St→Nat→Bool}
theorem FW {k:IntKind}(h:MN k st ct K=true)(hS:Sat tab ρ st){v:Int}(hv:RO k≤v∧v≤RN k):R5 tab ρ st (.int k v) K:=R8 h hS v fun ρ' e ha he=>gQ.2 (by rw [he];exact hv)
theorem Cp {a b:A}{x y:D}(h:Kc a b st ct K=true)(hS:Sat tab ρ st)(ha:M9 ρ st.nx a x)(hb:M9 ρ st.nx b y):R5 tab ρ st (.int .i64 (min y.l.length x.l.length:Nat)) K:=
 R8 h hS _ fun ρ' e h' hv z hz=>by
  have e1:=ha.len ρ' h' 0
  have e2:=hb.len ρ' h' 0
  simp only [B7,List.not_mem_nil,or_false] at hz
  rcases hz with rfl|rfl|rfl
  ·exact Fm.I7.2 (by rw [L.K0,hv,e2];omega)
  ·exact Fm.I7.2 (by rw [L.K0,hv,e1];omega)
  ·refine Fm.T4.2 ?_
   rcases Nat.le_total y.l.length x.l.length with h|h
   ·exact .inl (Fm.I7.2 (by rw [L.K0,hv,e2];omega))
   ·exact .inr (Fm.I7.2 (by rw [L.K0,hv,e1];omega))
theorem Dh {a:A}{x:D}(h:Ks a st ct K=true)(hS:Sat tab ρ st)(ha:M9 ρ st.nx a x)(c:UInt8):R5 tab ρ st (.int .i64 (Z9 c x.s 0)) K:=
 R8 h hS _ fun ρ' e h' hv z hz=>by
  have e1:=ha.sle ρ' h' 0
  have hr:=yG c x.s 0
  simp only [B7,List.not_mem_nil,or_false] at hz
  rcases hz with rfl|rfl
  ·exact Fm.I7.2 (by rw [L.K3,hv];omega)
  ·refine Fm.T4.2 ?_
   rcases hr with hr|hr
   ·exact .inl (Fm.I7.2 (by rw [L.K3,L.K0,hv,e1];omega))
   ·exact .inr (Fm.I7.2 (by rw [L.K3,L.X8,hv];omega))
theorem Bv {a b c:A}{x y w:D}(h:Jk a b c st ct K=true)(hS:Sat tab ρ st)(ha:M9 ρ st.nx a x)(hb:M9 ρ st.nx b y)(hc:M9 ρ st.nx c w):R5 tab ρ st (.int .u64 ((x.i+y.i+w.i) / 18446744073709551616)) K:=
 R8 h hS _ fun ρ' e h' hv z hz=>by
  have e1:=((bX.add (bX.add ha.H7 hb.H7) hc.H7)) ρ' h' 0
  have e3:Vi=18446744073709551616:=rfl
  simp only [B7,List.not_mem_nil,or_false] at hz
  rcases hz with rfl|rfl
  ·exact Fm.I7.2 (by rw [L.K0,L.X8,hv,e1,e3];omega)
  ·refine Fm.I7.2 ?_
   rw [L.K3,L.K0,L.X8,hv,e1,e3]
   show (0:Int)≤_+18446744073709551615
   omega
end
noncomputable def Jr (a:A):W0:=Nr a.len
theorem Cc {tab:Nat→Pd}{ρ:Nat→D}{st:St}{ct:Nat}{K:A→St→Nat→Bool}{a:A}{x:D}(h:Jr a st ct K=true)(hS:Sat tab ρ st)(ha:M9 ρ st.nx a x):R5 tab ρ st (.str (x.l.map toByte)) K:=FY h hS _ (by rw [List.length_map];exact ha.len)
noncomputable def O4 (cx:Cx) (V:Nat→A) (e:E):W0:=E.rec (motive:=fun _=>W0)
 (fun i st ct K=>K (V i) st ct) CU (fun _ j x=>u1 x fun a=>Jp a j) (fun _ off n x=>u1 x fun a=>Kk a off n) (fun _ off _ x y=>u2 x y fun a b=>Kp a off b)
 (fun op k _ _ x y=>u2 x y fun a b=>Wk op k a b) (fun k _ x=>u1 x fun a=>Kq k a.H7) (fun k _ x=>u1 x fun _=>MN k)
 (fun k _ _ x y=>u2 x y fun a b=>Ke k a b) (fun k _ _ x y=>u2 x y fun a b=>Kd k a b)
 (fun op _ _ x y=>u2 x y fun a b=>Kj op a b) (fun op _ _ x y=>u2 x y fun a b=>Jq op a b) (fun _ x=>u1 x fun a=>mE a.bo.neg) (fun _ _ x y=>u2 x y fun a b=>mE (.an a.bo b.bo)) (fun op _ _ x y=>u2 x y fun _ _=>Kr op)
 (fun _ x=>u1 x fun a=>Fv .i64 a.len) (fun _ x=>u1 x fun a=>Fv .i64 a.sle) (fun _ x=>u1 x fun a=>mE (.ge (a.len.mul (-1))))
 (fun _ _ x y=>u2 x y fun a b=>mE (SX (a.len.add b.len) (.c (.ofNat 68719476736)))) (fun _ _ x y=>u2 x y fun a b=>mE (SX (a.sle.add b.sle) (.c (.ofNat 4611686018427387904))))
 (fun sz _ _ x y=>u2 x y fun a b=>Jo sz a b) (fun sz _ _ _ x i y=>u3 x i y fun a b c=>Kl sz a b c) (fun sz _ _ n x=>u2 n x fun a b=>Ki sz a b)
 (fun sz _ _ _ x lo hi=>u3 x lo hi fun a b c=>Jx sz a b c) (fun sz _ _ x hi=>u2 x hi fun a b=>Kn sz a b)
 (fun sz _ _ x y=>u2 x y fun a b=>Ju sz a b) (fun _ _ x y=>u2 x y fun a b=>Kc a b)
 (fun sz _ _ _ _ x lo n y=>u4 x lo n y fun a b c d=>Js sz a b c d)
 (fun sz _ _ x y=>u2 x y fun a b=>Jt sz a b) (fun _ _ _ x lo hi=>u3 x lo hi fun a b c=>Jw a b c)
 (fun _ _ x i=>u2 x i fun a b=>Uw cx a b) (fun _ _ x i=>u2 x i fun _ _=>MN .u8)
 (fun _ _ x y=>u2 x y fun a b=>Jm a b) (fun _ _ x y=>u2 x y fun a b=>Jl a b)
 (fun _ _ x y=>u2 x y fun a b=>Kf a b) (fun _ _ x y=>u2 x y fun a b=>Kg a b) (fun _ m x=>u1 x fun a=>Km a.H7 (Ak a.H7 (.c (.ofNat m))))
 (fun _ _ x=>u1 x fun _=>P5) (fun _ x=>u1 x fun _=>P5) (fun _ _ _ x=>u1 x fun _=>P5)
 (fun _ x=>u1 x fun a=>Jr a) (fun _ x=>u1 x fun _=>P5) (fun _ x=>u1 x fun _=>AY) (fun _ x=>u1 x fun _=>AY) (fun _ x=>u1 x fun _=>Nr (.c 1))
 (fun _ x=>u1 x fun a=>mE a.nil) (fun _ x=>u1 x fun a=>Jn a) (fun t _ x=>u1 x fun a=>Kh t a)
 (fun _ _ x y=>u2 x y fun a _=>Ks a)
 (fun sz _ x=>u1 x fun a=>Kb sz a) (fun _ _ x y=>u2 x y fun a b=>Km a.H7 (Nn a.H7 b.len)) (fun _ x=>u1 x fun a=>mE (Ak a.H7 (.c 0)))
 (fun _ _ x y=>u2 x y fun a b=>mE (SX (a.len.add b.sle) (.c (.ofNat 68719476736)))) (fun _ _ x y=>u2 x y fun a b=>Km a.H7 (SX a.H7 b.len))
 (fun _ _ _ x y z=>u3 x y z fun _ _ _=>MN .u64)
 (fun _ _ _ x y z=>u3 x y z fun a b c=>Jk a b c)
 (fun _ _ _ z x y=>u3 z x y fun _ _ _=>P5) (fun _ _ x y=>u2 x y fun _ _=>AY) (fun _ _ _ x y z=>u3 x y z fun _ _ _=>P5) (fun _ _ x y=>u2 x y fun a b=>Jv a b)
 e
def QU (ρ:Nat→D)(n:Nat)(V:Nat→A)(Vd:Nat→D):Prop:=∀ i,M9 ρ n (V i) (Vd i)
theorem QU.mono {ρ ρ1:Nat→D}{n m:Nat}{V:Nat→A}{Vd:Nat→D}(h:QU ρ n V Vd)(ha:L4 n ρ ρ1)(hm:n≤m):QU ρ1 m V Vd:=fun i=>(h i).mono ha hm
def Sd (tab:Nat→Pd)(V:Nat→A)(Vd:Nat→D)(f:W0)(d:D):Prop:=∀ (ρ:Nat→D) (st:St) (ct:Nat) (K:A→St→Nat→Bool),f st ct K=true→Sat tab ρ st→QU ρ st.nx V Vd→R5 tab ρ st d K
section
variable {tab:Nat→Pd} {V:Nat→A} {Vd:Nat→D}
theorem Z3 {f:W0}{g:A→W0}{x d:D}(hf:Sd tab V Vd f x)(hg:∀ {ρ st ct K a},g a st ct K=true→Sat tab ρ st→M9 ρ st.nx a x→R5 tab ρ st d K):Sd tab V Vd (u1 f g) d:=by
 intro ρ st ct K h hS hV
 exact (hf _ _ _ (fun a st ct=>g a st ct K) h hS hV).bind fun ρ1 L9 a ct1 a1 a2 a3 a4 a5=>hg a5 a3 a4
theorem S5 {f f':W0}{g:A→A→W0}{x y d:D}(hf:Sd tab V Vd f x)(hf':Sd tab V Vd f' y)(hg:∀ {ρ st ct K a b},g a b st ct K=true→Sat tab ρ st→M9 ρ st.nx a x→M9 ρ st.nx b y→R5 tab ρ st d K):Sd tab V Vd (u2 f f' g) d:=by
 intro ρ st ct K h hS hV
 exact (hf _ _ _ (fun a st ct=>f' st ct fun b st ct=>g a b st ct K) h hS hV).bind fun ρ1 L9 a ct1 a1 a2 a3 a4 a5=>
  (hf' _ _ _ (fun b st ct=>g a b st ct K) a5 a3 (hV.mono a1 a2)).bind fun ρ2 st2 b ct2 b1 b2 b3 b4 b5=>hg b5 b3 (a4.mono b1 b2) b4
theorem AD {f f' f'':W0}{g:A→A→A→W0}{x y z d:D}(hf:Sd tab V Vd f x)(hf':Sd tab V Vd f' y)(hf'':Sd tab V Vd f'' z)(hg:∀ {ρ st ct K a b c},g a b c st ct K=true→Sat tab ρ st→M9 ρ st.nx a x→M9 ρ st.nx b y→M9 ρ st.nx c z→R5 tab ρ st d K):Sd tab V Vd (u3 f f' f'' g) d:=by
 intro ρ st ct K h hS hV
 exact (hf _ _ _ (fun a st ct=>f' st ct fun b st ct=>f'' st ct fun c st ct=>g a b c st ct K) h hS hV).bind fun ρ1 L9 a ct1 a1 a2 a3 a4 a5=>
  (hf' _ _ _ (fun b st ct=>f'' st ct fun c st ct=>g a b c st ct K) a5 a3 (hV.mono a1 a2)).bind fun ρ2 st2 b ct2 b1 b2 b3 b4 b5=>
  (hf'' _ _ _ (fun c st ct=>g a b c st ct K) b5 b3 ((hV.mono a1 a2).mono b1 b2)).bind fun ρ3 st3 c ct3 c1 c2 c3 c4 c5=>hg c5 c3 ((a4.mono b1 b2).mono c1 c2) (b4.mono c1 c2) c4
theorem Tm {f f' f'' f3:W0}{g:A→A→A→A→W0}{x y z w d:D}(hf:Sd tab V Vd f x)(hf':Sd tab V Vd f' y)(hf'':Sd tab V Vd f'' z)(hf3:Sd tab V Vd f3 w)(hg:∀ {ρ st ct K a b c e},g a b c e st ct K=true→Sat tab ρ st→M9 ρ st.nx a x→M9 ρ st.nx b y→M9 ρ st.nx c z→M9 ρ st.nx e w→R5 tab ρ st d K):Sd tab V Vd (u4 f f' f'' f3 g) d:=by
 intro ρ st ct K h hS hV
 exact (hf _ _ _ (fun a st ct=>f' st ct fun b st ct=>f'' st ct fun c st ct=>f3 st ct fun e st ct=>g a b c e st ct K) h hS hV).bind fun ρ1 L9 a ct1 a1 a2 a3 a4 a5=>
  (hf' _ _ _ (fun b st ct=>f'' st ct fun c st ct=>f3 st ct fun e st ct=>g a b c e st ct K) a5 a3 (hV.mono a1 a2)).bind fun ρ2 st2 b ct2 b1 b2 b3 b4 b5=>
  (hf'' _ _ _ (fun c st ct=>f3 st ct fun e st ct=>g a b c e st ct K) b5 b3 ((hV.mono a1 a2).mono b1 b2)).bind fun ρ3 st3 c ct3 c1 c2 c3 c4 c5=>
  (hf3 _ _ _ (fun e st ct=>g a b c e st ct K) c5 c3 (((hV.mono a1 a2).mono b1 b2).mono c1 c2)).bind fun ρ4 st4 e ct4 e1 e2 e3 e4 e5=>hg e5 e3 (((a4.mono b1 b2).mono c1 c2).mono e1 e2) ((b4.mono c1 c2).mono e1 e2) (c4.mono e1 e2) e4
end
theorem oU.eq {ρ:Nat→D}{n:Nat}{f:Fm}{a b:Bool}(h:oU ρ n f a)(e:a=b):oU ρ n f b:=e▸h
theorem Tn (x:UInt8):RO .u8≤((x.toNat:Nat):Int)∧((x.toNat:Nat):Int)≤RN .u8:=by
 have:=x.toNat_lt
 show (0:Int)≤_∧_≤(255:Int)
 omega
theorem Iy (x:Int):RO .u64≤x % 18446744073709551616∧x % 18446744073709551616≤RN .u64:=by
 show (0:Int)≤_∧_≤(18446744073709551615:Int)
 omega
theorem Aj (x:Int):(x==0)=decide (x=0):=by
 by_cases h0:x=0
 ·rw [h0];rfl
 ·rw [beq_false_of_ne h0,E8 h0]
theorem Ag (l:List D):decide (0≤-1*((l.length:Nat):Int))=l.isEmpty:=by
 cases l with
 |nil=>rfl
 |cons x l=>
  refine E8 ?_
  simp only [A0];omega
theorem QB (a b:Nat):decide ((a:Int)+b≤68719476736)=Nat.ble (a+b) M4:=by
 rw [ZS]
 refine decide_eq_decide.2 ?_
 show _↔((a+b:Nat):Int)≤((68719476736:Nat):Int)
 omega
theorem Dy (a b:Nat):decide ((a:Int)+b≤4611686018427387904)=decide (a+b≤sL):=by
 refine decide_eq_decide.2 ?_
 show _↔_≤4611686018427387904
 omega
theorem cF {ρ:Nat→D}{n:Nat}{k:Int}:bX ρ n (.c k) k:=fun _ _ _=>rfl
theorem H6 {cx:Cx}(hR:rL cx){V:Nat→A}{Vd:Nat→D}:∀ e:E,Sd cx.tab V Vd (O4 cx V e) (e.den Vd)
 | .v i=>fun ρ st ct K h hS hV=>R5.now hS (hV i) h
 | .k x=>fun ρ st ct K h hS hV=>Ka h hS
 | .a x j=>Z3 (f:=O4 cx V x) (g:=fun a=>Jp a j) (H6 hR x) fun h hS ha=>Ca h hS ha
 | .sub x off n=>Z3 (f:=O4 cx V x) (g:=fun a=>Kk a off n) (H6 hR x) fun h hS ha=>Cy h hS ha
 | .Ef x off y=>S5 (Vd:=Vd) (x:=x.den Vd) (y:=y.den Vd) (d:=KI (x.den Vd) off (y.den Vd)) (f:=O4 cx V x) (f':=O4 cx V y) (g:=fun a b=>Kp a off b) (H6 hR x) (H6 hR y) fun h hS ha hb=>De h hS ha hb
 | .i op k x y=>S5 (f:=O4 cx V x) (f':=O4 cx V y) (g:=fun a b=>Wk op k a b) (H6 hR x) (H6 hR y) fun h hS ha hb=>Jz h hS ha hb
 | .cv k x=>Z3 (f:=O4 cx V x) (g:=fun a=>Kq k a.H7) (H6 hR x) fun h hS ha=>zC h hS ha.H7
 | .cm k x=>Z3 (f:=O4 cx V x) (g:=fun _=>MN k) (H6 hR x) fun h hS ha=>FW h hS (eI k _)
 | .mx k x y=>S5 (f:=O4 cx V x) (f':=O4 cx V y) (g:=fun a b=>Ke k a b) (H6 hR x) (H6 hR y) fun h hS ha hb=>Cr h hS ha hb
 | .mn k x y=>S5 (f:=O4 cx V x) (f':=O4 cx V y) (g:=fun a b=>Kd k a b) (H6 hR x) (H6 hR y) fun h hS ha hb=>Cq h hS ha hb
 | .s op x y=>S5 (f:=O4 cx V x) (f':=O4 cx V y) (g:=fun a b=>Kj op a b) (H6 hR x) (H6 hR y) fun h hS ha hb=>Cw h hS ha hb
 | .b op x y=>S5 (f:=O4 cx V x) (f':=O4 cx V y) (g:=fun a b=>Jq op a b) (H6 hR x) (H6 hR y) fun h hS ha hb=>Cb h hS ha hb
 | .n x=>Z3 (f:=O4 cx V x) (g:=fun a=>mE a.bo.neg) (H6 hR x) fun h hS ha=>Q6 h hS ha.bo.neg
 | .q x y=>S5 (f:=O4 cx V x) (f':=O4 cx V y) (g:=fun a b=>mE (.an a.bo b.bo)) (H6 hR x) (H6 hR y) fun h hS ha hb=>Q6 h hS (ha.bo.an hb.bo)
 | .w op x y=>S5 (f:=O4 cx V x) (f':=O4 cx V y) (g:=fun _ _=>Kr op) (H6 hR x) (H6 hR y) fun h hS ha hb=>Dg h hS
 | .l x=>Z3 (f:=O4 cx V x) (g:=fun a=>Fv .i64 a.len) (H6 hR x) fun h hS ha=>zA h hS ha.len
 | .sl x=>Z3 (f:=O4 cx V x) (g:=fun a=>Fv .i64 a.sle) (H6 hR x) fun h hS ha=>zA h hS ha.sle
 | .em x=>Z3 (f:=O4 cx V x) (g:=fun a=>mE (.ge (a.len.mul (-1)))) (H6 hR x) fun h hS ha=>Q6 h hS ((ha.len.mul (-1)).ge.eq (Ag _))
 | .rm x y=>S5 (f:=O4 cx V x) (f':=O4 cx V y) (g:=fun a b=>mE (SX (a.len.add b.len) (.c (.ofNat 68719476736)))) (H6 hR x) (H6 hR y) fun h hS ha hb=>Q6 h hS ((rZ (ha.len.add hb.len) (cF (k:=68719476736))).eq (QB _ _))
 | .rs x y=>S5 (f:=O4 cx V x) (f':=O4 cx V y) (g:=fun a b=>mE (SX (a.sle.add b.sle) (.c (.ofNat 4611686018427387904)))) (H6 hR x) (H6 hR y) fun h hS ha hb=>Q6 h hS ((rZ (ha.sle.add hb.sle) (cF (k:=4611686018427387904))).eq (Dy _ _))
 | .ap sz x y=>S5 (f:=O4 cx V x) (f':=O4 cx V y) (g:=fun a b=>Jo sz a b) (H6 hR x) (H6 hR y) fun h hS ha hb=>Bz h hS ha hb
 | .st sz x i y=>AD (f:=O4 cx V x) (f':=O4 cx V i) (f'':=O4 cx V y) (g:=fun a b c=>Kl sz a b c) (H6 hR x) (H6 hR i) (H6 hR y) fun h hS ha hb hc=>Da h hS ha hb hc
 | .rp sz n x=>S5 (f:=O4 cx V n) (f':=O4 cx V x) (g:=fun a b=>Ki sz a b) (H6 hR n) (H6 hR x) fun h hS ha hb=>Cv h hS ha hb
 | .dt sz x lo hi=>AD (f:=O4 cx V x) (f':=O4 cx V lo) (f'':=O4 cx V hi) (g:=fun a b c=>Jx sz a b c) (H6 hR x) (H6 hR lo) (H6 hR hi) fun h hS ha hb hc=>Ck h hS ha hb hc
 | .tk sz x hi=>S5 (f:=O4 cx V x) (f':=O4 cx V hi) (g:=fun a b=>Kn sz a b) (H6 hR x) (H6 hR hi) fun h hS ha hb=>Db h hS ha hb
 | .cp sz x y=>S5 (f:=O4 cx V x) (f':=O4 cx V y) (g:=fun a b=>Ju sz a b) (H6 hR x) (H6 hR y) fun h hS ha hb=>Ch h hS ha hb
 | .ml x y=>S5 (f:=O4 cx V x) (f':=O4 cx V y) (g:=fun a b=>Kc a b) (H6 hR x) (H6 hR y) fun h hS ha hb=>Cp h hS ha hb
 | .cl sz x lo n y=>Tm (f:=O4 cx V x) (f':=O4 cx V lo) (f'':=O4 cx V n) (f3:=O4 cx V y) (g:=fun a b c d=>Js sz a b c d) (H6 hR x) (H6 hR lo) (H6 hR n) (H6 hR y) fun h hS ha hb hc hd=>Cd h hS ha hb hc hd
 | .c sz x y=>S5 (f:=O4 cx V x) (f':=O4 cx V y) (g:=fun a b=>Jt sz a b) (H6 hR x) (H6 hR y) fun h hS ha hb=>Cg h hS ha hb
 | .ds x lo hi=>AD (f:=O4 cx V x) (f':=O4 cx V lo) (f'':=O4 cx V hi) (g:=fun a b c=>Jw a b c) (H6 hR x) (H6 hR lo) (H6 hR hi) fun h hS ha hb hc=>Cj h hS ha hb hc
 | .g x i=>S5 (f:=O4 cx V x) (f':=O4 cx V i) (g:=fun a b=>Uw cx a b) (H6 hR x) (H6 hR i) fun h hS ha hb=>Jy hR h hS ha hb
 | .sb x i=>S5 (f:=O4 cx V x) (f':=O4 cx V i) (g:=fun _ _=>MN .u8) (H6 hR x) (H6 hR i) fun h hS ha hb=>FW h hS (Tn _)
 | .ac x y=>S5 (f:=O4 cx V x) (f':=O4 cx V y) (g:=fun a b=>Jm a b) (H6 hR x) (H6 hR y) fun h hS ha hb=>Bx h hS ha hb
 | .aa x y=>S5 (f:=O4 cx V x) (f':=O4 cx V y) (g:=fun a b=>Jl a b) (H6 hR x) (H6 hR y) fun h hS ha hb=>Bw h hS ha hb
 | .na x y=>S5 (f:=O4 cx V x) (f':=O4 cx V y) (g:=fun a b=>Kf a b) (H6 hR x) (H6 hR y) fun h hS ha hb=>Cs h hS ha hb
 | .ns x y=>S5 (f:=O4 cx V x) (f':=O4 cx V y) (g:=fun a b=>Kg a b) (H6 hR x) (H6 hR y) fun h hS ha hb=>Ct h hS ha hb
 | .nb x m=>Z3 (f:=O4 cx V x) (g:=fun a=>Km a.H7 (Ak a.H7 (.c (.ofNat m)))) (H6 hR x) fun h hS ha=>MO h hS ha.H7 fun h0=>(EW ha.H7 cF).eq (ZQ _ _ h0).symm
 | .fc t x=>Z3 (f:=O4 cx V x) (g:=fun _=>P5) (H6 hR x) fun h hS ha=>Q7 h hS _
 | .fd x=>Z3 (f:=O4 cx V x) (g:=fun _=>P5) (H6 hR x) fun h hS ha=>Q7 h hS _
 | .me t nm x=>Z3 (f:=O4 cx V x) (g:=fun _=>P5) (H6 hR x) fun h hS ha=>Q7 h hS _
 | .by_ x=>Z3 (f:=O4 cx V x) (g:=fun a=>Jr a) (H6 hR x) fun h hS ha=>Cc h hS ha
 | .bd x=>Z3 (f:=O4 cx V x) (g:=fun _=>P5) (H6 hR x) fun h hS ha=>Q7 h hS _
 | .ob x=>Z3 (f:=O4 cx V x) (g:=fun _=>AY) (H6 hR x) fun h hS ha=>bJ h hS _
 | .al x=>Z3 (f:=O4 cx V x) (g:=fun _=>AY) (H6 hR x) fun h hS ha=>bJ h hS _
 | .ch x=>Z3 (f:=O4 cx V x) (g:=fun _=>Nr (.c 1)) (H6 hR x) fun h hS ha=>FY h hS [UInt8.ofNat (x.den Vd).i.toNat] cF
 | .nl x=>Z3 (f:=O4 cx V x) (g:=fun a=>mE a.nil) (H6 hR x) fun h hS ha=>Q6 h hS ha.nil
 | .ag x=>Z3 (f:=O4 cx V x) (g:=fun a=>Jn a) (H6 hR x) fun h hS ha=>By h hS ha
 | .ok t x=>Z3 (f:=O4 cx V x) (g:=fun a=>Kh t a) (H6 hR x) fun h hS ha=>Cu h hS ha
 | .xi x y=>S5 (f:=O4 cx V x) (f':=O4 cx V y) (g:=fun a _=>Ks a) (H6 hR x) (H6 hR y) fun h hS ha hb=>Dh h hS ha _
 | .ls sz x=>Z3 (f:=O4 cx V x) (g:=fun a=>Kb sz a) (H6 hR x) fun h hS ha=>Co h hS ha
 | .nt x y=>S5 (f:=O4 cx V x) (f':=O4 cx V y) (g:=fun a b=>Km a.H7 (Nn a.H7 b.len)) (H6 hR x) (H6 hR y) fun h hS ha hb=>MO h hS ha.H7 fun h0=>(LQ ha.H7 hb.len).eq (ZT _ _ h0).symm
 | .ez x=>Z3 (f:=O4 cx V x) (g:=fun a=>mE (Ak a.H7 (.c 0))) (H6 hR x) fun h hS ha=>Q6 h hS ((EW ha.H7 (cF (k:=0))).eq (Aj _))
 | .rb x y=>S5 (f:=O4 cx V x) (f':=O4 cx V y) (g:=fun a b=>mE (SX (a.len.add b.sle) (.c (.ofNat 68719476736)))) (H6 hR x) (H6 hR y) fun h hS ha hb=>Q6 h hS ((rZ (ha.len.add hb.sle) (cF (k:=68719476736))).eq (QB _ _))
 | .nz x y=>S5 (f:=O4 cx V x) (f':=O4 cx V y) (g:=fun a b=>Km a.H7 (SX a.H7 b.len)) (H6 hR x) (H6 hR y) fun h hS ha hb=>MO h hS ha.H7 fun h0=>(rZ ha.H7 hb.len).eq (OC _ _ h0).symm
 | .a6 x y z=>AD (f:=O4 cx V x) (f':=O4 cx V y) (f'':=O4 cx V z) (g:=fun _ _ _=>MN .u64) (H6 hR x) (H6 hR y) (H6 hR z) fun h hS ha hb hc=>FW h hS (Iy _)
 | .a7 x y z=>AD (f:=O4 cx V x) (f':=O4 cx V y) (f'':=O4 cx V z) (g:=fun a b c=>Jk a b c) (H6 hR x) (H6 hR y) (H6 hR z) fun h hS ha hb hc=>Bv h hS ha hb hc
 | .mg z x y=>AD (f:=O4 cx V z) (f':=O4 cx V x) (f'':=O4 cx V y) (g:=fun _ _ _=>P5) (H6 hR z) (H6 hR x) (H6 hR y) fun h hS ha hb hc=>Q7 h hS _
 | .mh x y=>S5 (f:=O4 cx V x) (f':=O4 cx V y) (g:=fun _ _=>AY) (H6 hR x) (H6 hR y) fun h hS ha hb=>bJ h hS _
 | .mp x y z=>AD (f:=O4 cx V x) (f':=O4 cx V y) (f'':=O4 cx V z) (g:=fun _ _ _=>P5) (H6 hR x) (H6 hR y) (H6 hR z) fun h hS ha hb hc=>Q7 h hS _
 | .eq x y=>S5 (f:=O4 cx V x) (f':=O4 cx V y) (g:=fun a b=>Jv a b) (H6 hR x) (H6 hR y) fun h hS ha hb=>Ci h hS ha hb
end Go.AE.Q
namespace Go.AE.Q
inductive TL where
 |k (kk:K)
 |e (a:Nat)
inductive Cl where
 |mk (n p:Nat) (ps:List L)
inductive Tp where
 |mk (sh:List Nat) (tl:List TL) (cl:List Cl) (fm:List Fm)
def eP:List Nat→List D→List D→Prop
 |[],[],ls=>ls=[]
 |0::sh,x::xs,ls=>∃ r,ls=x::r∧eP sh xs r
 |(m+1)::sh,x::xs,ls=>∃ cs r,x = .agg cs∧cs.length=m∧ls=cs++r∧eP sh xs r
 |_,_,_=>False
def HN (hp:Hp)(ρ:Nat→D):List TL→Nat→List D→Prop
 |[],_,[]=>True
 | .k kk::r,n,x::xs=>ρ n=x∧HK hp ρ kk x∧HN hp ρ r (n+1) xs
 | .e a::r,n,x::xs=>x=ρ a∧HN hp ρ r n xs
 |_,_,_=>False
noncomputable def Hj (tab:Nat→Pd) (p:Nat):Nat:=Pd.casesOn (motive:=fun _=>Nat) (tab p) (fun _ _ _=>0) (fun _ ks _=>P7 ks)
def Gt (tab:Nat→Pd)(ρ:Nat→D):Cl→Prop
 | .mk n p ps=>HP tab p (jC ρ ps) (.agg ((List.range (Hj tab p)).map fun j=>ρ (n+j)))
def AN (tab:Nat→Pd)(ρ:Nat→D)(n:Nat):Tp→List D→Prop
 | .mk sh tl cl fm,xs=>∃ ls,eP sh xs ls∧HN (HP tab) ρ tl n ls∧(∀ c∈cl,Gt tab ρ c)∧Hs ρ fm
noncomputable def oR (tl:List TL):List K:=List.rec (motive:=fun _=>List K) [] (fun x _ ih=>TL.casesOn (motive:=fun _=>List K) x (fun kk=>kk::ih) (fun _=>ih)) tl
def SW (n:Nat)(ρ:Nat→D):Prop:=∀ i,n≤i→ρ i = .top
def wF (ρ:Nat→D)(nx:Nat)(σ:Nat→A)(δ:Nat→D):Prop:=∀ i,M9 ρ nx (σ i) (δ i)
theorem wF.ok {ρ:Nat→D}{nx:Nat}{σ:Nat→A}{δ:Nat→D}(h:wF ρ nx σ δ){ρ':Nat→D}(ha:L4 nx ρ ρ'):mK ρ' σ:=fun i=>(h i ρ' ha).2
theorem wF.wv {ρ:Nat→D}{nx:Nat}{σ:Nat→A}{δ:Nat→D}(h:wF ρ nx σ δ){ρ':Nat→D}(ha:L4 nx ρ ρ'):wv ρ' σ=δ:=funext fun i=>(h i ρ' ha).1
theorem wF.mono {ρ ρ1:Nat→D}{n m:Nat}{σ:Nat→A}{δ:Nat→D}(h:wF ρ n σ δ)(ha:L4 n ρ ρ1)(hm:n≤m):wF ρ1 m σ δ:=fun i=>(h i).mono ha hm
noncomputable def EH (x:A):Nat→(List A→Bool)→Bool:=A.rec (motive:=fun _=>Nat→(List A→Bool)→Bool) (fun _ _ _ _=>false) (fun _ _ _=>false) (fun _ _ _ _=>false) (fun _ _ _ _ _=>false) (fun _ _ _=>false) (fun m k=>H9 (Nat.beq m 0) (k []) false) (fun x _ _ ihr m k=>Nat.rec (motive:=fun _=>Bool) false (fun m _=>ihr m fun r=>k (x::r)) m) (fun _ _ _=>false) x
noncomputable def IK (sh:List Nat):List A→(List A→Bool)→Bool:=List.rec (motive:=fun _=>List A→(List A→Bool)→Bool) (fun xs k=>List.casesOn (motive:=fun _=>Bool) xs (k []) (fun _ _=>false))
 (fun s _ ih xs k=>List.casesOn (motive:=fun _=>Bool) xs false fun x xs=>Nat.rec (motive:=fun _=>Bool) (ih xs fun r=>k (x::r)) (fun m _=>EH x m fun cs=>ih xs fun r=>k (oZ cs r)) s) sh
def S6 (ρ:Nat→D)(n:Nat):List A→List D→Prop
 |[],[]=>True
 |x::xs,d::ds=>M9 ρ n x d∧S6 ρ n xs ds
 |_,_=>False
theorem S6.mono {ρ ρ1:Nat→D}{n m:Nat}(ha:L4 n ρ ρ1)(hm:n≤m):∀ {xs:List A} {ds:List D},S6 ρ n xs ds→S6 ρ1 m xs ds
 |[],[],_=>trivial
 |x::xs,d::ds,h=>⟨h.1.mono ha hm,S6.mono ha hm h.2⟩
 |[],_::_,h=>h.elim
 |_::_,[],h=>h.elim
theorem S6.app {ρ:Nat→D}{n:Nat}:∀ {xs ys:List A} {ds es:List D},S6 ρ n xs ds→S6 ρ n ys es→S6 ρ n (oZ xs ys) (ds++es)
 |[],ys,[],es,_,h=>h
 |x::xs,ys,d::ds,es,h,h'=>⟨h.1,S6.app h.2 h'⟩
 |[],_,_::_,_,h,_=>h.elim
 |_::_,_,[],_,h,_=>h.elim
theorem BQ {ρ:Nat→D}{n:Nat}:∀ {x:A} {m:Nat} {k:List A→Bool} {d:D},EH x m k=true→M9 ρ n x d→∃ xs cs,d = .agg cs∧cs.length=m∧S6 ρ n xs cs∧k xs=true
 | .gn,m,k,d,h,hx=>by
  obtain⟨h1,h⟩:=I3 h
  exact⟨[],[],(hx ρ L4.refl).1.symm,(P3 h1).symm,trivial,h⟩
 | .gc x r,0,k,d,h,hx=>by cases h
 | .gc x r,m+1,k,d,h,hx=>by
  have h:EH r m (fun r=>k (x::r))=true:=h
  have e0:=(hx ρ L4.refl).1
  have h0:=(hx ρ L4.refl).2
  obtain⟨cs,ec⟩:=lT (ρ:=ρ) h0.2.2
  have ed:d = .agg (x.val ρ::cs):=by
   rw [← e0]
   show D.agg (x.val ρ::(r.val ρ).cells)=_
   rw [ec];rfl
  have hr:M9 ρ n r (.agg cs):=fun ρ' ha=>by
   obtain⟨g1,g2⟩:=hx ρ' ha
   obtain⟨cs',ec'⟩:=lT (ρ:=ρ') g2.2.2
   have g1:D.agg (x.val ρ'::(r.val ρ').cells)=d:=g1
   rw [ec',ed] at g1
   injection g1 with g1
   injection g1 with _ g1
   have g1:cs'=cs:=g1
   exact⟨by rw [ec',g1],g2.2.1⟩
  have hx':M9 ρ n x (x.val ρ):=fun ρ' ha=>by
   obtain⟨g1,g2⟩:=hx ρ' ha
   have g1:D.agg (x.val ρ'::(r.val ρ').cells)=d:=g1
   rw [ed] at g1
   injection g1 with g1
   injection g1 with g1 _
   exact⟨g1,g2.1⟩
  obtain⟨xs,cs',e1,e2,h1,h⟩:=BQ (x:=r) h hr
  injection e1 with e1
  subst e1
  exact⟨x::xs,_,ed,by simp [e2],⟨hx',h1⟩,h⟩
 | .n ..,m,k,d,h,hx=>by cases h
 | .b ..,m,k,d,h,hx=>by cases h
 | .s ..,m,k,d,h,hx=>by cases h
 | .l ..,m,k,d,h,hx=>by cases h
 | .o ..,m,k,d,h,hx=>by cases h
 | .c ..,m,k,d,h,hx=>by cases h
theorem xV {ρ:Nat→D}{n:Nat}:∀ {sh:List Nat} {xs:List A} {k:List A→Bool} {ds:List D},IK sh xs k=true→S6 ρ n xs ds→∃ ys ls,eP sh ds ls∧S6 ρ n ys ls∧k ys=true
 |[],[],k,[],h,hx=>⟨[],[],rfl,trivial,h⟩
 |[],[],k,_::_,h,hx=>hx.elim
 |[],_::_,k,ds,h,hx=>by cases h
 |s::sh,[],k,ds,h,hx=>by cases h
 |s::sh,x::xs,k,[],h,hx=>hx.elim
 |0::sh,x::xs,k,d::ds,h,hx=>by
  have h:IK sh xs (fun r=>k (x::r))=true:=h
  obtain⟨ys,ls,h1,h2,h⟩:=xV (sh:=sh) h hx.2
  exact⟨x::ys,d::ls,⟨ls,rfl,h1⟩,⟨hx.1,h2⟩,h⟩
 |(m+1)::sh,x::xs,k,d::ds,h,hx=>by
  have h:EH x m (fun cs=>IK sh xs fun r=>k (oZ cs r))=true:=h
  obtain⟨zs,cs,e1,e2,h3,h⟩:=BQ h hx.1
  obtain⟨ys,ls,h1,h2,h⟩:=xV (sh:=sh) h hx.2
  exact⟨oZ zs ys,cs++ls,⟨cs,ls,e1,e2,rfl,h1⟩,h3.app h2,h⟩
noncomputable def RX (tl:List TL):List A→List A:=List.rec (motive:=fun _=>List A→List A) (fun _=>[]) (fun t _ ih xs=>List.casesOn (motive:=fun _=>List A) xs [] fun x xs=>TL.casesOn (motive:=fun _=>List A) t (fun _=>x::ih xs) (fun _=>ih xs)) tl
noncomputable def aR (σ:Nat→A) (n:Nat) (ls:List A):Nat→A:=fun i=>H9 (Nat.blt i n) (σ i) (L3 (.c .top) ls (Nat.sub i n))
noncomputable def Oe (cx:Cx) (st:St) (σ:Nat→A) (tl:List TL):List A→Nat→(Nat→Bool)→Bool:=List.rec (motive:=fun _=>List A→Nat→(Nat→Bool)→Bool) (fun xs ct k=>List.casesOn (motive:=fun _=>Bool) xs (k ct) (fun _ _=>false))
 (fun t _ ih xs ct k=>List.casesOn (motive:=fun _=>Bool) xs false fun x xs=>TL.casesOn (motive:=fun _=>Bool) t (fun kk=>Wg cx st x (kk.sub σ) ct fun ct=>ih xs ct k)
  (fun a=>alt ct (fun ct=>H9 (x.lP (σ a)) (ih xs ct k) false) fun ct=>A.casesOn (motive:=fun _=>Bool) x (fun k1 e1=>A.casesOn (motive:=fun _=>Bool) (σ a) (fun k2 e2=>H9 (Fp k1 k2) (oS st (Ak e1 e2) ct fun ct=>ih xs ct k) false) (fun _=>false) (fun _ _=>false) (fun _ _ _=>false) (fun _=>false) false (fun _ _=>false) (fun _=>false)) (fun f1=>A.casesOn (motive:=fun _=>Bool) (σ a) (fun _ _=>false) (fun f2=>oS st (.or (.an f1 f2) (.an f1.neg f2.neg)) ct fun ct=>ih xs ct k) (fun _ _=>false) (fun _ _ _=>false) (fun _=>false) false (fun _ _=>false) (fun _=>false)) (fun _ _=>false) (fun _ _ _=>false) (fun _=>false) false (fun _ _=>false) (fun _=>false))) tl
noncomputable def wY (σ:Nat→A) (n m:Nat):A:=Nat.rec (motive:=fun _=>Nat→A) (fun _=> .gn) (fun _ ih n=> .gc (σ n) (ih (Nat.succ n))) m n
noncomputable def fP (σ:Nat→A) (ps:List L):List L:=mM (fun e=>e.jN σ) ps
noncomputable def Um (cx:Cx) (st:St) (σ:Nat→A) (cl:List Cl):Nat→(Nat→Bool)→Bool:=List.rec (motive:=fun _=>Nat→(Nat→Bool)→Bool) (fun ct k=>k ct) (fun c _ ih ct k=>Cl.casesOn (motive:=fun _=>Bool) c fun n p ps=>Hi cx st (wY σ n (Hj cx.tab p)) p (fP σ ps) ct fun ct=>ih ct k) cl
noncomputable def Rd (st:St) (σ:Nat→A) (fm:List Fm) (ct:Nat) (k:Nat→Bool):Bool:=Dr (Xq st) σ fm ct k
noncomputable def Np (cx:Cx) (st:St) (t:Tp) (n:Nat) (σ:Nat→A) (xs:List A) (ct:Nat) (k:(Nat→A)→Nat→Nat→Bool):Bool:=Tp.casesOn (motive:=fun _=>Bool) t fun sh tl cl fm=>IK sh xs fun ls=>xY (RX tl ls) fun nl=>Y3 (Nat.add n (P7 nl)) fun m=>Oe cx st (aR σ n nl) tl ls ct fun ct=>Um cx st (aR σ n nl) cl ct fun ct=>Rd st (aR σ n nl) fm ct fun ct=>k (aR σ n nl) m ct
section
variable {cx:Cx} {ρ:Nat→D} {st:St} (hR:rL cx) (hS:Sat cx.tab ρ st)
theorem yU:∀ {tl:List TL} {xs:List A} {ds:List D} {ρ δ:Nat→D} {n m:Nat} {hp:Hp},S6 ρ n xs ds→HN hp δ tl m ds→(RX tl xs).length=(oR tl).length
 |[],xs,ds,ρ,δ,n,m,hp,h,h'=>rfl
 | .k kk::tl,x::xs,d::ds,ρ,δ,n,m,hp,h,h'=>congrArg (·+1) (yU (tl:=tl) h.2 h'.2.2)
 | .e a::tl,x::xs,d::ds,ρ,δ,n,m,hp,h,h'=>yU (tl:=tl) h.2 h'.2
 |_::tl,[],_::_,ρ,δ,n,m,hp,h,h'=>h.elim
 |_::tl,_::_,[],ρ,δ,n,m,hp,h,h'=>h.elim
 | .k _::tl,[],[],ρ,δ,n,m,hp,h,h'=>h'.elim
 | .e _::tl,[],[],ρ,δ,n,m,hp,h,h'=>h'.elim
def AU:List TL→List D→List D
 | .k _::tl,x::xs=>x::AU tl xs
 | .e _::tl,_::xs=>AU tl xs
 |_,_=>[]
theorem FO {ρ:Nat→D}{n:Nat}:∀ {tl:List TL} {xs:List A} {ds:List D},S6 ρ n xs ds→S6 ρ n (RX tl xs) (AU tl ds)
 |[],xs,ds,h=>by cases ds<;>trivial
 | .k kk::tl,x::xs,d::ds,h=>⟨h.1,FO (tl:=tl) h.2⟩
 | .e a::tl,x::xs,d::ds,h=>FO (tl:=tl) h.2
 | .k _::tl,[],[],h=>trivial
 | .e _::tl,[],[],h=>trivial
 |_::tl,[],_::_,h=>h.elim
 |_::tl,_::_,[],h=>h.elim
def uO (δ:Nat→D)(n:Nat)(ls:List D):Nat→D:=fun i=>if i<n then δ i else ls[i-n]?.getD .top
theorem CS {ρ:Nat→D}{n:Nat}:∀ {xs:List A} {ds:List D} (j:Nat),S6 ρ n xs ds→M9 ρ n (L3 (.c .top) xs j) (ds[j]?.getD .top)
 |[],[],j,h=>fun ρ' _=>by
  cases j<;>exact⟨rfl,aG⟩
 |x::xs,d::ds,0,h=>h.1
 |x::xs,d::ds,j+1,h=>by
  show M9 ρ n (L3 (.c .top) xs j) ((d::ds)[j+1]?.getD .top)
  rw [List.getElem?_cons_succ];exact CS j h.2
 |[],_::_,_,h=>h.elim
 |_::_,[],_,h=>h.elim
theorem zJ {ρ:Nat→D}{nx:Nat}{σ:Nat→A}{δ:Nat→D}{n:Nat}{ls:List A}{ds:List D}(h:wF ρ nx σ δ)(h':S6 ρ nx ls ds):wF ρ nx (aR σ n ls) (uO δ n ds):=fun i=>by
 unfold aR uO
 by_cases hi:i<n
 ·have h1:Nat.blt i n=true:=B2 hi
  rw [h1,if_pos hi];exact h i
 ·have h1:Nat.blt i n=false:=by cases hb:Nat.blt i n with|false=>rfl|true=>exact absurd (B3 hb) hi
  rw [h1,if_neg hi];exact CS _ h'
include hR hS
theorem LG {nx:Nat}(hnx:nx=st.nx){σ:Nat→A}{δ:Nat→D}(hσ:wF ρ nx σ δ):∀ {tl:List TL} {xs:List A} {ds:List D} {n:Nat} {ct:Nat} {k:Nat→Bool},Oe cx st σ tl xs ct k=true→S6 ρ nx xs ds→(∀ j,j<(AU tl ds).length→δ (n+j)=(AU tl ds)[j]?.getD .top)→HN (HP cx.tab) δ tl n ds∧∃ ct,k ct=true
 |[],[],[],n,ct,k,h,hx,hn=>⟨trivial,_,h⟩
 |[],[],_::_,n,ct,k,h,hx,hn=>hx.elim
 |[],_::_,_,n,ct,k,h,hx,hn=>by cases h
 |_::_,[],_,n,ct,k,h,hx,hn=>by cases h
 |_::_,_::_,[],n,ct,k,h,hx,hn=>hx.elim
 | .k kk::tl,x::xs,d::ds,n,ct,k,h,hx,hn=>by
  have h:Wg cx st x (kk.sub σ) ct (fun ct=>Oe cx st σ tl xs ct k)=true:=h
  subst hnx
  obtain⟨h1,ct,h⟩:=Iq hR hS h (hx.1 ρ L4.refl).2
  rw [kD (hσ.ok L4.refl),hσ.wv L4.refl,(hx.1 ρ L4.refl).1] at h1
  obtain⟨h2,h3⟩:=LG rfl hσ (tl:=tl) (n:=n+1) h hx.2 fun j hj=>by
   have:=hn (j+1) (by simpa [AU] using hj)
   rw [show n+1+j=n+(j+1) by omega,this];simp [AU]
  have:=hn 0 (by simp [AU])
  exact⟨⟨by simpa [AU] using this,h1,h2⟩,h3⟩
 | .e a::tl,x::xs,d::ds,n,ct,k,h,hx,hn=>by
  subst hnx
  have go:∀ {ct},x.val ρ=(σ a).val ρ→Oe cx st σ tl xs ct k=true→HN (HP cx.tab) δ (.e a::tl) n (d::ds)∧∃ ct,k ct=true:=by
   intro ct e h
   obtain⟨h2,h3⟩:=LG rfl hσ (tl:=tl) (n:=n) h hx.2 hn
   refine⟨⟨?_,h2⟩,h3⟩
   rw [← (hx.1 ρ L4.refl).1,e,(hσ a ρ L4.refl).1]
  rcases fZ (show alt ct _ _=true from h) with ⟨ct,h⟩|⟨ct,h⟩
  ·obtain⟨h1,h⟩:=I3 h
   exact go (A.LM h1) h
  ·cases x with
   |n k1 e1=>
    generalize hy:σ a=y at h
    cases y with
    |n k2 e2=>
     obtain⟨h1,h⟩:=I3 h
     obtain⟨h2,ct,h⟩:=Q4 h hS
     obtain⟨h2,h3⟩:=Fm.T3.1 h2
     have h2:=Fm.I7.1 h2
     have h3:=Fm.I7.1 h3
     rw [L.K0] at h2 h3
     rw [sI] at h1
     refine go ?_ h
     rw [hy]
     show D.int k1 _=D.int k2 _
     rw [E7 h1]
     exact congrArg (D.int k2) (by omega)
    |_=>cases h
   |b f1=>
    generalize hy:σ a=y at h
    cases y with
    |b f2=>
     obtain⟨h2,ct,h⟩:=Q4 h hS
     refine go ?_ h
     rw [hy]
     show D.bool _=D.bool _
     refine congrArg D.bool ?_
     rcases Fm.T4.1 h2 with h2|h2
     ·obtain⟨h2,h3⟩:=Fm.T3.1 h2
      rw [h2,h3]
     ·obtain⟨h2,h3⟩:=Fm.T3.1 h2
      rw [Fm.L6] at h2 h3
      cases hf1:f1.bv ρ<;>cases hf2:f2.bv ρ<;>simp_all
    |_=>cases h
   |_=>cases h
omit hR hS in
theorem BR {nx:Nat}{σ:Nat→A}{δ:Nat→D}(hσ:wF ρ nx σ δ):∀ (m n:Nat),M9 ρ nx (wY σ n m) (.agg ((List.range m).map fun j=>δ (n+j)))∧(wY σ n m).fW=true
 |0,n=>⟨fun _ _=>⟨rfl,trivial⟩,rfl⟩
 |m+1,n=>by
  obtain⟨h1,h2⟩:=BR hσ m (n+1)
  refine⟨fun ρ' ha=>?_,rfl⟩
  obtain⟨e1,e2⟩:=h1 ρ' ha
  obtain⟨f1,f2⟩:=hσ n ρ' ha
  refine⟨?_,f2,e2,h2⟩
  show D.agg ((σ n).val ρ'::((wY σ (n+1) m).val ρ').cells)=_
  rw [f1,e1,List.range_succ_eq_map,List.map_cons,List.map_map]
  refine congrArg (fun l=>D.agg (δ n::l)) (List.map_congr_left fun j _=>?_)
  show δ (n+1+j)=δ (n+(j+1))
  rw [show n+1+j=n+(j+1) by omega]
omit hR hS in
theorem yY {σ:Nat→A}{δ:Nat→D}{ρ':Nat→D}(hσ:mK ρ' σ)(hw:wv ρ' σ=δ)(ps:List L):jC ρ' (fP σ ps)=jC δ ps:=by
 unfold jC fP
 rw [gJ,List.map_map]
 exact List.map_congr_left fun e _=>by
  show (e.jN σ).ev _=_
  rw [L.jO hσ,hw]
theorem UF {nx:Nat}(hnx:nx=st.nx){σ:Nat→A}{δ:Nat→D}(hσ:wF ρ nx σ δ):∀ {cl:List Cl} {ct:Nat} {k:Nat→Bool},Um cx st σ cl ct k=true→(∀ c∈cl,Gt cx.tab δ c)∧∃ ct,k ct=true
 |[],ct,k,h=>⟨fun c hc=>(by cases hc),_,h⟩
 | .mk n p ps::cl,ct,k,h=>by
  subst hnx
  have h:Hi cx st (wY σ n (Hj cx.tab p)) p (fP σ ps) ct (fun ct=>Um cx st σ cl ct k)=true:=h
  obtain⟨c1,c2⟩:=BR hσ (Hj cx.tab p) n
  obtain⟨h1,ct,h⟩:=Aa hR hS h (c1 ρ L4.refl).2
  rw [(c1 ρ L4.refl).1,yY (hσ.ok L4.refl) (hσ.wv L4.refl)] at h1
  obtain⟨h2,h3⟩:=UF rfl hσ (cl:=cl) h
  refine⟨fun c hc=>?_,h3⟩
  rcases B7.1 hc with rfl|hc
  ·exact h1
  ·exact h2 c hc
theorem MH {t:Tp}{n:Nat}{σ:Nat→A}{δ:Nat→D}(hσ:wF ρ st.nx σ δ){xs:List A}{ds:List D}(hx:S6 ρ st.nx xs ds){ct:Nat}{k:(Nat→A)→Nat→Nat→Bool}(h:Np cx st t n σ xs ct k=true):∃ σ' δ' m ct,wF ρ st.nx σ' δ'∧L4 n δ δ'∧SW m δ'∧AN cx.tab δ' n t ds∧k σ' m ct=true∧n≤m∧(∀ sh tl cl fm,t = .mk sh tl cl fm→m=n+(oR tl).length):=by
 cases t with
 |mk sh tl cl fm=>
  have h:IK sh xs (fun ls=>xY (RX tl ls) fun nl=>Y3 (Nat.add n (P7 nl)) fun m=>Oe cx st (aR σ n nl) tl ls ct fun ct=>Um cx st (aR σ n nl) cl ct fun ct=>Rd st (aR σ n nl) fm ct fun ct=>k (aR σ n nl) m ct)=true:=h
  obtain⟨ys,ls,h1,h2,h⟩:=xV h hx
  rw [qF,N9,P8] at h
  have hnl:=FO (tl:=tl) h2
  have hσ':=zJ (n:=n) hσ hnl
  obtain⟨h3,ct,h⟩:=LG hR hS rfl hσ' (n:=n) h h2 fun j hj=>by
   rw [uO,if_neg (by omega),show n+j-n=j by omega]
  obtain⟨h4,ct,h⟩:=UF hR hS rfl hσ' h
  have h5:=sW (YL hS) (hσ'.ok L4.refl) h
  rw [hσ'.wv L4.refl] at h5
  obtain⟨ct,h⟩:=PS h
  have hlen:=yU h2 h3
  have hd:(AU tl ls).length=(RX tl ys).length:=by
   have:∀ {az:List A} {ds:List D},S6 ρ st.nx az ds→ds.length=az.length:=by
    intro az
    induction az with
    |nil=>intro ds h;cases ds with|nil=>rfl|cons _ _=>exact h.elim
    |cons a az ih=>intro ds h;cases ds with|nil=>exact h.elim|cons d ds=>simp [ih h.2]
   exact this hnl
  refine⟨_,_,_,ct,hσ',fun i hi=>if_pos hi,fun i hi=>?_,⟨ls,h1,h3,h4,h5⟩,h,Nat.le_add_right ..,fun sh' tl' cl' fm' e=>?_⟩
  ·have hi:n+(RX tl ys).length≤i:=hi
   rw [uO,if_neg (by omega),List.getElem?_eq_none (by omega)];rfl
  ·injection e with _ e _ _
   subst e
   show n+_=_
   rw [hlen]
end
end Go.AE.Q
namespace Go.AE.Q
noncomputable def Ut (σ:Nat→A) (tl:List TL):Nat→List A:=List.rec (motive:=fun _=>Nat→List A) (fun _=>[]) (fun t _ ih b=>TL.casesOn (motive:=fun _=>List A) t (fun kk=>T7 kk b::ih (Nat.succ b)) (fun a=>σ a::ih b)) tl
noncomputable def ZY (m:Nat):List A→(A→List A→Bool)→Bool:=Nat.rec (motive:=fun _=>List A→(A→List A→Bool)→Bool) (fun ls k=>k .gn ls) (fun _ ih ls k=>List.casesOn (motive:=fun _=>Bool) ls false fun x ls=>ih ls fun r ls=>k (.gc x r) ls) m
noncomputable def KH (sh:List Nat):List A→(List A→Bool)→Bool:=List.rec (motive:=fun _=>List A→(List A→Bool)→Bool) (fun ls k=>List.casesOn (motive:=fun _=>Bool) ls (k []) (fun _ _=>false))
 (fun s _ ih ls k=>Nat.rec (motive:=fun _=>Bool) (List.casesOn (motive:=fun _=>Bool) ls false fun x ls=>ih ls fun r=>k (x::r)) (fun m _=>ZY m ls fun c ls=>ih ls fun r=>k (c::r)) s) sh
noncomputable def mN (σ:Nat→A) (n:Nat) (ks:List K) (m b:Nat):Nat→A:=fun i=>H9 (Nat.blt i n) (σ i) (leaves ks m b (Nat.sub i n))
noncomputable def GW (σ:Nat→A) (n m:Nat):Nat→A:=fun j=>H9 (Nat.blt j m) (σ (Nat.add n j)) (.c .top)
noncomputable def Un (cx:Cx) (σ:Nat→A) (n0 m b:Nat) (cl:List Cl):List Sg→List Fm→(List Sg→List Fm→Bool)→Bool:=List.rec (motive:=fun _=>List Sg→List Fm→(List Sg→List Fm→Bool)→Bool) (fun G F k=>k G F)
 (fun c _ ih G F k=>Cl.casesOn (motive:=fun _=>Bool) c fun n p ps=>Pd.casesOn (motive:=fun _=>Bool) (cx.tab p) (fun _ _ _=>false) fun np ks fm=>Y3 (P7 ks) fun q=>H9 (Nat.ble n0 n) (H9 (Nat.ble (Nat.add n q) (Nat.add n0 m)) (H9 (U8 FP (fP σ ps)) (Y3 (Nat.add b (Nat.sub n n0)) fun a=>kZ (BF (oN np (fP σ ps) (GW σ n q)) fm) F fun F=>ih (.mk a q (Nat.succ p) (fP σ ps) (oN np (fP σ ps) (GW σ n q)) ks::G) F k) false) false) false) cl
noncomputable def SA (cx:Cx) (st:St) (t:Tp) (n:Nat) (σ:Nat→A) (k:List A→(Nat→A)→Nat→St→Bool):Bool:=Tp.casesOn (motive:=fun _=>Bool) t fun sh tl cl fm=>St.casesOn (motive:=fun _=>Bool) st fun nx G F D C=>Y3 nx fun b=>xY (oR tl) fun ks=>Y3 (P7 ks) fun m=>KH sh (Ut (mN σ n ks m b) tl b) fun xs=>
 Un cx (mN σ n ks m b) n m b cl (.mk b m 0 [] (mN σ n ks m b) ks::G) F fun G F=>kZ (BF (mN σ n ks m b) fm) F fun F=>Y3 (Nat.add n m) fun n'=>Y3 (Nat.add b m) fun b'=>k xs (mN σ n ks m b) n' (.mk b' G F D C)
theorem MA {hp:Hp}{δ:Nat→D}:∀ {tl:List TL} {n:Nat} {ls:List D},HN hp δ tl n ls→∀ j,j<(oR tl).length→HK hp δ ((oR tl)[j]?.getD .u) (δ (n+j))
 |[],n,ls,h,j,hj=>by simp [oR] at hj
 | .k kk::tl,n,x::ls,h,0,hj=>by
  show HK hp δ kk (δ n)
  rw [h.1];exact h.2.1
 | .k kk::tl,n,x::ls,h,j+1,hj=>by
  have:=MA h.2.2 j (by simpa [oR] using hj)
  rw [show n+(j+1)=n+1+j by omega]
  show HK hp δ ((kk::oR tl)[j+1]?.getD .u) _
  rw [List.getElem?_cons_succ];exact this
 | .e a::tl,n,x::ls,h,j,hj=>MA (tl:=tl) h.2 j hj
 | .k _::_,n,[],h,j,hj=>h.elim
 | .e _::_,n,[],h,j,hj=>h.elim
theorem ME {hp:Hp}{ρ1:Nat→D}{nx:Nat}{σ:Nat→A}{δ:Nat→D}(hσ:wF ρ1 nx σ δ){b0 n0:Nat}{ks:List K}:∀ {tl:List TL} {n b:Nat} {ls:List D},HN hp δ tl n ls→(∀ j,j<(oR tl).length→σ (n+j)=T7 ((oR tl)[j]?.getD .u) (b+j))→S6 ρ1 nx (Ut σ tl b) ls
 |[],n,b,[],h,hk=>trivial
 |[],n,b,_::_,h,hk=>h.elim
 | .k kk::tl,n,b,x::ls,h,hk=>by
  refine⟨?_,ME (ks:=ks) (b0:=b0) (n0:=n0) hσ (tl:=tl) (n:=n+1) (b:=b+1) h.2.2 fun j hj=>?_⟩
  ·have e:=hk 0 (by simp [oR])
   have e:σ n=T7 kk b:=e
   rw [← e,← h.1];exact hσ n
  ·have:=hk (j+1) (by simpa [oR] using hj)
   rw [show n+1+j=n+(j+1) by omega,show b+1+j=b+(j+1) by omega,this]
   show T7 ((kk::oR tl)[j+1]?.getD .u) _=_
   rw [List.getElem?_cons_succ]
 | .e a::tl,n,b,x::ls,h,hk=>by
  refine⟨?_,ME (ks:=ks) (b0:=b0) (n0:=n0) hσ (tl:=tl) h.2 hk⟩
  rw [h.1];exact hσ a
 | .k _::_,n,b,[],h,hk=>h.elim
 | .e _::_,n,b,[],h,hk=>h.elim
theorem OE {ρ:Nat→D}{n:Nat}:∀ {m:Nat} {ls:List A} {cs r:List D} {k:A→List A→Bool},ZY m ls k=true→S6 ρ n ls (cs++r)→cs.length=m→∃ x ls',M9 ρ n x (.agg cs)∧x.fW=true∧S6 ρ n ls' r∧k x ls'=true
 |0,ls,[],r,k,h,hx,hc=>⟨.gn,ls,fun _ _=>⟨rfl,trivial⟩,rfl,hx,h⟩
 |m+1,[],_::_,r,k,h,hx,hc=>by cases h
 |m+1,x::ls,c::cs,r,k,h,hx,hc=>by
  have h:ZY m ls (fun r ls=>k (.gc x r) ls)=true:=h
  obtain⟨y,ls',h1,h2,h3,h⟩:=OE h hx.2 (by simpa using hc)
  refine⟨.gc x y,ls',fun ρ' ha=>?_,rfl,h3,h⟩
  obtain⟨e1,e2⟩:=hx.1 ρ' ha
  obtain⟨f1,f2⟩:=h1 ρ' ha
  refine⟨?_,e2,f2,h2⟩
  show D.agg (x.val ρ'::(y.val ρ').cells)=_
  rw [e1,f1];rfl
 |0,ls,_::_,r,k,h,hx,hc=>by simp at hc
 |m+1,ls,[],r,k,h,hx,hc=>by simp at hc
theorem AF {ρ:Nat→D}{n:Nat}:∀ {sh:List Nat} {ls:List A} {xs ds:List D} {k:List A→Bool},KH sh ls k=true→eP sh xs ds→S6 ρ n ls ds→∃ ys,S6 ρ n ys xs∧k ys=true
 |[],ls,[],ds,k,h,hf,hx=>by
  cases ls with
  |nil=>exact⟨[],trivial,h⟩
  |cons _ _=>cases h
 |[],ls,_::_,ds,k,h,hf,hx=>hf.elim
 |0::sh,ls,[],ds,k,h,hf,hx=>hf.elim
 |(m+1)::sh,ls,[],ds,k,h,hf,hx=>hf.elim
 |0::sh,[],x::xs,ds,k,h,hf,hx=>by cases h
 |0::sh,y::ls,x::xs,ds,k,h,hf,hx=>by
  obtain⟨r,rfl,hf⟩:=hf
  have h:KH sh ls (fun r=>k (y::r))=true:=h
  obtain⟨ys,h1,h⟩:=AF h hf hx.2
  exact⟨y::ys,⟨hx.1,h1⟩,h⟩
 |(m+1)::sh,ls,x::xs,ds,k,h,hf,hx=>by
  obtain⟨cs,r,rfl,hm,rfl,hf⟩:=hf
  have h:ZY m ls (fun c ls=>KH sh ls fun r=>k (c::r))=true:=h
  obtain⟨y,ls',h1,_,h3,h⟩:=OE h hx hm
  obtain⟨ys,h2,h⟩:=AF h hf h3
  exact⟨y::ys,⟨h1,h2⟩,h⟩
theorem Gy {tab:Nat→Pd}{p np:Nat}{ks:List K}{fm:List Fm}(ht:tab p = .st np ks fm){pars:List Int}{cs:List D}(hc:cs.length=ks.length)(h:HP tab p pars (.agg cs)):(∀ j,j<ks.length→HK (HP tab) (pw np pars fun j=>cs[j]?.getD .top) (ks[j]?.getD .u) (cs[j]?.getD .top))∧Hs (pw np pars fun j=>cs[j]?.getD .top) fm:=by
 have h:=eB.1 h
 rw [ht] at h
 exact⟨h.2.1,h.2.2⟩
section
variable {cx:Cx}
theorem UG {W:(Nat→D)→Prop}{σ:Nat→A}{δ:Nat→D}(hσ:∀ ρ,W ρ→mK ρ σ∧wv ρ σ=δ){n0 m b:Nat}(hb:∀ ρ,W ρ→∀ j,j<m→ρ (b+j)=δ (n0+j)):∀ {cl:List Cl} {G:List Sg} {F:List Fm} {k:List Sg→List Fm→Bool},Un cx σ n0 m b cl G F k=true→(∀ c∈cl,Gt cx.tab δ c)→(∀ ρ,W ρ→(∀ x∈G,AM cx.tab ρ x)∧Hs ρ F)→∃ G' F',(∀ ρ,W ρ→(∀ x∈G',AM cx.tab ρ x)∧Hs ρ F')∧k G' F'=true
 |[],G,F,k,h,hc,hg=>⟨G,F,hg,h⟩
 | .mk n p ps::cl,G,F,k,h,hc,hg=>by
  have hcl:=hc _ (B8 ..)
  have h:Pd.casesOn (motive:=fun _=>Bool) (cx.tab p) (fun _ _ _=>false) (fun np ks fm=>Y3 (P7 ks) fun q=>H9 (Nat.ble n0 n) (H9 (Nat.ble (Nat.add n q) (Nat.add n0 m)) (H9 (U8 FP (fP σ ps)) (Y3 (Nat.add b (Nat.sub n n0)) fun a=>kZ (BF (oN np (fP σ ps) (GW σ n q)) fm) F fun F=>Un cx σ n0 m b cl (.mk a q (Nat.succ p) (fP σ ps) (oN np (fP σ ps) (GW σ n q)) ks::G) F k) false) false) false)=true:=h
  cases ht:cx.tab p with
  |sc _ _ _=>rw [ht] at h;cases h
  |st np ks fm=>
   rw [ht] at h
   simp only [N9,P8] at h
   obtain⟨h1,h⟩:=I3 h
   obtain⟨h2,h⟩:=I3 h
   obtain⟨h3,h⟩:=I3 h
   have h1:n0≤n:=B3 h1
   have h2:n+ks.length≤n0+m:=B3 h2
   obtain⟨F',h,hF⟩:=iC (ρ:=δ) h
   have hcnt:Hj cx.tab p=ks.length:=by unfold Hj;rw [ht];exact P8 ks
   have hcl:HP cx.tab p (jC δ ps) (.agg ((List.range (Hj cx.tab p)).map fun j=>δ (n+j))):=hcl
   rw [hcnt] at hcl
   have hcs:((List.range ks.length).map fun j=>δ (n+j)).length=ks.length:=by simp
   have hat:∀ j,j<ks.length→((List.range ks.length).map fun j=>δ (n+j))[j]?.getD .top=δ (n+j):=fun j hj=>by
    rw [List.getElem?_map,List.getElem?_range hj];rfl
   obtain⟨g1,g2⟩:=Gy ht hcs hcl
   have main:∀ ρ,W ρ→mK ρ (oN np (fP σ ps) (GW σ n ks.length))∧wv ρ (oN np (fP σ ps) (GW σ n ks.length))=pw np (jC δ ps) (fun j=>((List.range ks.length).map fun j=>δ (n+j))[j]?.getD .top):=by
    intro ρ w
    obtain⟨w1,w2⟩:=hσ ρ w
    have hl:∀ j,(GW σ n ks.length j).ok ρ∧(GW σ n ks.length j).val ρ=((List.range ks.length).map fun j=>δ (n+j))[j]?.getD .top:=by
     intro j
     unfold GW
     by_cases hj:j<ks.length
     ·have hb1:Nat.blt j ks.length=true:=B2 hj
      rw [hb1,hat j hj]
      exact⟨w1 _,congrFun w2 (n+j)⟩
     ·have hb1:Nat.blt j ks.length=false:=by cases hb:Nat.blt j ks.length with|false=>rfl|true=>exact absurd (B3 hb) hj
      rw [hb1,List.getElem?_eq_none (by simpa using hj)]
      exact⟨aG,rfl⟩
    refine⟨zS h3 fun j=>(hl j).1,?_⟩
    rw [zT,yY w1 w2]
    exact congrArg _ (funext fun j=>(hl j).2)
   refine UG hσ hb (cl:=cl) h (fun c hc'=>hc c (C0 _ hc')) fun ρ w=>?_
   obtain⟨m1,m2⟩:=main ρ w
   obtain⟨w1,w2⟩:=hσ ρ w
   have hbj:∀ j,j<ks.length→ρ (b+(n-n0)+j)=δ (n+j):=fun j hj=>by
    have:=hb ρ w (n-n0+j) (by omega)
    rw [show b+(n-n0)+j=b+(n-n0+j) by omega,this,show n0+(n-n0+j)=n+j by omega]
   constructor
   ·intro x hx
    rcases B7.1 hx with rfl|hx
    ·refine⟨m1,rfl,fun j hj=>?_,fun _=>⟨h3,?_⟩⟩
     ·have:=g1 j hj
      rw [hat j hj] at this
      show HK _ _ _ (ρ (b+(n-n0)+j))
      rw [hbj j hj,m2];exact this
     ·show HP cx.tab p (jC ρ (fP σ ps)) (.agg ((List.range ks.length).map fun j=>ρ (b+(n-n0)+j)))
      rw [yY w1 w2,List.map_congr_left fun j hj=>hbj j (List.mem_range.1 hj)]
      exact hcl
    ·exact (hg ρ w).1 x hx
   ·intro x hx
    rcases hF x hx with hx|hx
    ·exact vW m1 (by rw [m2];exact g2) x hx
    ·exact (hg ρ w).2 x hx
theorem sS {ρ:Nat→D}{st:St}(hS:Sat cx.tab ρ st){t:Tp}{n:Nat}{σ:Nat→A}{δ δ':Nat→D}(hσ:wF ρ st.nx σ δ)(hag:L4 n δ δ'){N:Nat}(hN:∀ sh tl cl fm,t = .mk sh tl cl fm→N=n+(oR tl).length)(htop:SW N δ'){xs:List D}(ht:AN cx.tab δ' n t xs){k:List A→(Nat→A)→Nat→St→Bool}(h:SA cx st t n σ k=true) :
  ∃ ρ1 L9 ys σ',L4 st.nx ρ ρ1∧st.nx≤L9.nx∧Sat cx.tab ρ1 L9∧wF ρ1 L9.nx σ' δ'∧S6 ρ1 L9.nx ys xs∧k ys σ' N L9=true:=by
 cases t with
 |mk sh tl cl fm=>
  cases st with
  |mk nx G F D_ C=>
   have h:Y3 nx (fun b=>xY (oR tl) fun ks=>Y3 (P7 ks) fun m=>KH sh (Ut (mN σ n ks m b) tl b) fun xs=>
    Un cx (mN σ n ks m b) n m b cl (.mk b m 0 [] (mN σ n ks m b) ks::G) F fun G F=>kZ (BF (mN σ n ks m b) fm) F fun F=>Y3 (Nat.add n m) fun n'=>Y3 (Nat.add b m) fun b'=>k xs (mN σ n ks m b) n' (.mk b' G F D_ C))=true:=h
   rw [N9,qF,N9,P8] at h
   have hN:=hN sh tl cl fm rfl
   obtain⟨ls,t1,t2,t3,t4⟩:=ht
   have hkk:=MA t2
   generalize hm:(oR tl).length=m at *
   have key:∀ ρ',L4 (nx+m) (ext ρ nx fun j=>δ' (n+j)) ρ'→L4 nx ρ ρ'∧∀ j,j<m→ρ' (nx+j)=δ' (n+j):=fun ρ' ha=>⟨vL.trans (Nat.le_add_right ..) ha,fun j hj=>UX (leaf:=fun j=>δ' (n+j)) ha hj⟩
   have hleaf:∀ ρ',L4 (nx+m) (ext ρ nx fun j=>δ' (n+j)) ρ'→∀ j,j<m→(T7 ((oR tl)[j]?.getD .u) (nx+j)).val ρ'=δ' (n+j)∧(T7 ((oR tl)[j]?.getD .u) (nx+j)).ok ρ':=by
    intro ρ' ha j hj
    have:=fG (ρ:=ρ') (a:=nx+j) (k:=(oR tl)[j]?.getD .u) (by rw [(key ρ' ha).2 j hj];exact hkk j hj)
    rw [(key ρ' ha).2 j hj] at this
    exact this
   have hs':wF (ext ρ nx fun j=>δ' (n+j)) (nx+m) (mN σ n (oR tl) m nx) δ':=by
    intro i ρ' ha
    unfold mN
    by_cases hi:i<n
    ·have h1:Nat.blt i n=true:=B2 hi
     rw [h1,hag i hi]
     exact hσ i ρ' (key ρ' ha).1
    ·have h1:Nat.blt i n=false:=by cases hb:Nat.blt i n with|false=>rfl|true=>exact absurd (B3 hb) hi
     rw [h1]
     show (leaves (oR tl) m nx (i-n)).val ρ'=_∧(leaves (oR tl) m nx (i-n)).ok ρ'
     unfold leaves
     by_cases hj:i-n<m
     ·have h2:Nat.blt (i-n) m=true:=B2 hj
      rw [h2,fI]
      have:=hleaf ρ' ha (i-n) hj
      rw [show n+(i-n)=i by omega] at this
      exact this
     ·have h2:Nat.blt (i-n) m=false:=by cases hb:Nat.blt (i-n) m with|false=>rfl|true=>exact absurd (B3 hb) hj
      rw [h2,htop i (by omega)]
      exact⟨rfl,aG⟩
   have hls:S6 (ext ρ nx fun j=>δ' (n+j)) (nx+m) (Ut (mN σ n (oR tl) m nx) tl nx) ls:=by
    refine ME (b0:=0) (n0:=0) (ks:=[]) hs' t2 fun j hj=>?_
    rw [hm] at hj
    unfold mN leaves
    have h1:Nat.blt (n+j) n=false:=by cases hb:Nat.blt (n+j) n with|false=>rfl|true=>exact absurd (B3 hb) (by omega)
    have h2:Nat.blt j m=true:=B2 hj
    have h3:Nat.sub (n+j) n=j:=by show n+j-n=j;omega
    rw [h1,h3,h2,fI];rfl
   obtain⟨ys,hys,h⟩:=AF h t1 hls
   have hW:∀ ρ',L4 (nx+m) (ext ρ nx fun j=>δ' (n+j)) ρ'→mK ρ' (mN σ n (oR tl) m nx)∧wv ρ' (mN σ n (oR tl) m nx)=δ':=fun ρ' ha=>⟨hs'.ok ha,hs'.wv ha⟩
   obtain⟨G',F',hGF,h⟩:=UG (cx:=cx) (W:=fun ρ'=>L4 (nx+m) (ext ρ nx fun j=>δ' (n+j)) ρ') hW (fun ρ' ha=>(key ρ' ha).2) h t3 fun ρ' ha=>by
    have h0:=hS ρ' (key ρ' ha).1
    refine⟨fun x hx=>?_,h0.F⟩
    rcases B7.1 hx with rfl|hx
    ·refine⟨(hW ρ' ha).1,hm.symm,fun j hj=>?_,fun h=>absurd rfl h⟩
     rw [(hW ρ' ha).2,(key ρ' ha).2 j hj]
     exact hkk j hj
    ·exact h0.G x hx
   obtain⟨F'',h,hF⟩:=iC (ρ:=δ) h
   rw [N9,N9] at h
   have e:Nat.add n m=N:=hN.symm
   rw [e] at h
   refine⟨ext ρ nx fun j=>δ' (n+j),_,ys,_,vL,?_,?_,?_,?_,h⟩
   ·exact Nat.le_add_right ..
   ·intro ρ' ha
    obtain⟨k1,k2⟩:=hGF ρ' ha
    have h0:=hS ρ' (key ρ' ha).1
    refine⟨k1,fun x hx=>?_,h0.D,h0.C⟩
    rcases hF x hx with hx|hx
    ·exact vW (hW ρ' ha).1 (by rw [(hW ρ' ha).2];exact t4) x hx
    ·exact k2 x hx
   ·exact hs'
   ·exact hys
end
end Go.AE.Q
namespace Go.AE.Q
noncomputable def oQ {α:Type} (l:List α) (i:Nat) (K:α→Bool):Bool:=List.rec (motive:=fun _=>Nat→Bool) (fun _=>false) (fun x _ ih i=>Nat.rec (motive:=fun _=>Bool) (K x) (fun i _=>ih i) i) l i
theorem M8 {α:Type}{K:α→Bool}:∀ {l:List α} {i:Nat},oQ l i K=true→∃ x∈l,K x=true
 |[],i,h=>by cases h
 |x::l,0,h=>⟨x,B8 ..,h⟩
 |x::l,i+1,h=>by
  obtain⟨y,h1,h2⟩:=M8 (l:=l) h
  exact⟨y,C0 _ h1,h2⟩
noncomputable def im (a b:Fm):Fm:= .or a.neg b
theorem J1 {ρ:Nat→D}{a b:Fm}:(im a b).bv ρ=true↔(a.bv ρ=true→b.bv ρ=true):=by
 unfold im
 rw [Fm.T4,Fm.L6]
 cases a.bv ρ<;>simp
noncomputable def aU (x y:L):Fm:= .an (.ge (x.sub y)) (.ge (y.sub x))
theorem N8 {ρ:Nat→D}{x y:L}:(aU x y).bv ρ=true↔x.ev (nu ρ 0)=y.ev (nu ρ 0):=by
 unfold aU
 rw [Fm.T3,Fm.I7,Fm.I7,L.K0,L.K0]
 omega
noncomputable def gN (x y:L):Fm:= .ge (y.sub x)
theorem K6 {ρ:Nat→D}{x y:L}:(gN x y).bv ρ=true↔x.ev (nu ρ 0)≤y.ev (nu ρ 0):=by
 unfold gN
 rw [Fm.I7,L.K0]
 omega
theorem mO {ρ:Nat→D}{x:Lt}:(Fm.p x).bv ρ=true↔x.holds ρ:=Lt.rP
theorem U9 {ρ:Nat→D}{x y:Fm}:(Fm.an x y).bv ρ=true↔x.bv ρ=true∧y.bv ρ=true:=Fm.T3
theorem fL {ρ:Nat→D}{x y:Fm}:(Fm.or x y).bv ρ=true↔x.bv ρ=true∨y.bv ρ=true:=Fm.T4
noncomputable def Uy (a b:Rf):Fm:= .p (.mk 0 [a,b] [])
noncomputable def MX (a b:Rf) (k n:L):Fm:= .p (.mk 1 [a,b] [k,n])
noncomputable def Ld (a b:Rf) (f p:L):Fm:= .p (.mk 2 [a,b] [f,p])
noncomputable def Qy (b:Rf) (d:L):Fm:= .p (.mk 3 [b] [d])
noncomputable def Qz (a b:Rf) (lo hi:L):Fm:= .p (.mk 4 [a,b] [lo,hi])
noncomputable def ZH (a b:Rf):Fm:= .p (.mk 5 [a,b] [])
noncomputable def Rz (a b:Rf):Fm:= .p (.mk 6 [a,b] [])
noncomputable def Lk (a b:Rf) (n:L):Fm:= .p (.mk 7 [a,b] [n])
noncomputable def Vb (a:Rf) (n:L):Fm:= .p (.mk 8 [a] [n])
noncomputable def Wu (a:Rf) (i n:L):Fm:= .p (.mk 10 [a] [i,n])
noncomputable def Vc (a:Rf) (i n:L):Fm:= .p (.mk 11 [a] [i,n])
noncomputable def Li (a:Rf) (i:L):Fm:= .p (.mk 12 [a] [i])
noncomputable def Zq (a:Rf) (i n:L):Fm:= .p (.mk 13 [a] [i,n])
noncomputable def TA (a b:Rf):Fm:= .p (.mk 9 [a,b] [])
noncomputable def Lj (a b:Rf) (i:L):Fm:= .p (.mk 14 [a,b] [i])
section
variable {ρ:Nat→D} {a b:Rf} {x y:L}
theorem MW:(Uy a b).bv ρ=true↔GD (a.val ρ).l (b.val ρ).l:=mO
theorem bM:(MX a b x y).bv ρ=true↔X1 (a.val ρ).l (b.val ρ).s (x.ev (nu ρ 0)) (y.ev (nu ρ 0)):=mO
theorem cG:(Ld a b x y).bv ρ=true↔FK (a.val ρ).l (b.val ρ).s=x.ev (nu ρ 0)∧FA (a.val ρ).l (b.val ρ).s=y.ev (nu ρ 0):=mO
theorem cH:(Qy b x).bv ρ=true↔FD (b.val ρ).s=x.ev (nu ρ 0):=mO
theorem cI:(Qz a b x y).bv ρ=true↔x.ev (nu ρ 0)≤FK (a.val ρ).l (b.val ρ).s∧FK (a.val ρ).l (b.val ρ).s≤y.ev (nu ρ 0):=mO
theorem jF:(ZH a b).bv ρ=true↔z1 (a.val ρ).l (b.val ρ).l:=mO
theorem GM:(Rz a b).bv ρ=true↔z2 (a.val ρ).l (b.val ρ).l:=mO
theorem sZ:(Lk a b x).bv ρ=true↔r1 (a.val ρ).l (b.val ρ).l (x.ev (nu ρ 0)):=mO
theorem MY:(Vb a x).bv ρ=true↔e1 (a.val ρ).l (x.ev (nu ρ 0)):=mO
theorem XL:(Wu a x y).bv ρ=true↔e2 (a.val ρ).l (x.ev (nu ρ 0)) (y.ev (nu ρ 0)):=mO
theorem XM:(Vc a x y).bv ρ=true↔e3 (a.val ρ).l (x.ev (nu ρ 0)) (y.ev (nu ρ 0)):=mO
theorem sX:(Li a x).bv ρ=true↔nl (a.val ρ).l (x.ev (nu ρ 0)):=mO
theorem Lf:(Zq a x y).bv ρ=true↔ig (a.val ρ).l (x.ev (nu ρ 0)) (y.ev (nu ρ 0)):=mO
theorem fO:(TA a b).bv ρ=true↔r9 (a.val ρ).l (b.val ρ).l:=mO
theorem GL:(Lj a b x).bv ρ=true↔q2 (a.val ρ).l (b.val ρ).l (x.ev (nu ρ 0)):=mO
end
def Gx (th:List D)(x:D):Prop:=X1 th (x.at_ 4).s (x.at_ 0).i ((x.at_ 5).l.length:Nat)∧(3≤(x.at_ 0).i→(x.at_ 0).i≤5→GD th (x.at_ 5).l)
theorem Nw {th:List D}{x:D}:Gx th x↔∀ n,X1 th (x.at_ 4).s (x.at_ 0).i ((x.at_ 5).l.length:Nat)∧(3≤(x.at_ 0).i→(x.at_ 0).i≤5→Vx n th (x.at_ 5).l):=⟨fun h n=>⟨h.1,fun h1 h2=>h.2 h1 h2 n⟩,fun h=>⟨(h 0).1,fun h1 h2 n=>(h n).2 h1 h2⟩⟩
theorem TF {th l:List D}:GD th l↔∀ x∈l,Gx th x:=by
 constructor
 ·intro h x hx
  exact Nw.2 fun n=>h (n+1) x hx
 ·intro h n
  cases n with
  |zero=>trivial
  |succ n=>exact fun x hx=>Nw.1 (h x hx) n
noncomputable def gF (th:Rf) (y:A):Fm:= .an (MX th (y.dZ 4).rf (y.dZ 0).H7 (y.dZ 5).len) (im (.an (gN (.c 3) (y.dZ 0).H7) (gN (y.dZ 0).H7 (.c 5))) (Uy th (y.dZ 5).rf))
theorem Fo {ρ:Nat→D}{th:Rf}{y:A}(hy:y.ok ρ)(hc:y.fW=true):(gF th y).bv ρ=true↔Gx (th.val ρ).l (y.val ρ):=by
 unfold gF Gx
 rw [U9,bM,J1,U9,K6,K6,MW,A.Ss (A.aA 4 hy),A.GP (A.aA 5 hy),A.jB (A.aA 0 hy),A.V8 (A.aA 5 hy),A.V4 4 hy hc,A.V4 0 hy hc,A.V4 5 hy hc,L.dY,L.dY,and_imp]
noncomputable def Ml (n:Nat):L→Nat→(L→Nat→Bool)→Bool:=Nat.rec (motive:=fun _=>L→Nat→(L→Nat→Bool)→Bool) (fun acc ct K=>K acc ct) (fun _ ih acc ct K=>J8 8 ct fun i ct=>HB ct fun k ct=>L.fr (acc.ins i k) fun acc=>ih acc ct K) n
noncomputable def fR (ct:Nat) (K:L→Nat→Bool):Bool:=HB ct fun c ct=>J8 8 ct fun n ct=>Ml n (.c c) ct K
theorem YW {ct:Nat}{K:Int→Nat→Bool}(h:HB ct K=true):∃ v ct',K v ct'=true:=by
 obtain⟨v,c,e⟩:=HC ct K
 exact⟨v,c,e▸h⟩
theorem YX:∀ {n:Nat} {acc:L} {ct:Nat} {K:L→Nat→Bool},Ml n acc ct K=true→∃ e ct',K e ct'=true
 |0,acc,ct,K,h=>⟨_,_,h⟩
 |n+1,acc,ct,K,h=>by
  have h:J8 8 ct (fun i ct=>HB ct fun k ct=>L.fr (acc.ins i k) fun acc=>Ml n acc ct K)=true:=h
  obtain⟨i,c1,h⟩:=I0 h
  obtain⟨k,c2,h⟩:=YW h
  rw [L.kO] at h
  exact YX h
theorem T9 {ct:Nat}{K:L→Nat→Bool}(h:fR ct K=true):∃ e ct',K e ct'=true:=by
 obtain⟨c,c1,h⟩:=YW h
 obtain⟨n,c2,h⟩:=I0 h
 exact YX h
section
variable {cx:Cx} {st:St}
def Gv (cx:Cx)(st:St)(K:Fm→Nat→Bool):Prop:=∃ f ct,(∀ ρ,KU cx.tab ρ st→f.bv ρ=true)∧K f ct=true
abbrev nE:=St→Nat→(Fm→Nat→Bool)→Bool
noncomputable def w0:nE:=fun st ct K=>J8 8 ct fun a ct=>J8 8 ct fun c ct=>oQ st.C c fun ce=>Ce.casesOn (motive:=fun _=>Bool) ce fun l i y=>H9 y.fW (K (im (Uy (.a a) (.a l)) (im (gN (i.O8 1) (lm (Nat.add (Nat.mul 8 l) 1))) (gF (.a a) y))) ct) false
theorem gV {ρ:Nat→D}{a:Nat}{i:L}{x:A}(h:TD ρ (.mk a i x)):∃ k:Nat,i.ev (nu ρ 0)=k∧x.val ρ=(ρ a).l[k]?.getD .top:=by
 refine⟨(i.ev (nu ρ 0)).toNat,?_,h.2.2⟩
 have:=h.2.1
 omega
theorem To {ct:Nat}{K:Fm→Nat→Bool}(h:w0 st ct K=true):Gv cx st K:=by
 unfold w0 at h
 obtain⟨a,c1,h⟩:=I0 h
 obtain⟨c,c2,h⟩:=I0 h
 obtain⟨⟨l,i,y⟩,hm,h⟩:=M8 h
 obtain⟨hc,h⟩:=I3 h
 refine⟨_,_,fun ρ hS=>?_,h⟩
 have hce:=hS.C _ hm
 obtain⟨k,e1,v1⟩:=gV hce
 have el:nu ρ 0 (Nat.add (Nat.mul 8 l) 1)=((ρ l).l.length:Nat):=gO
 rw [J1,MW,J1,K6,L.K3,L5,el,e1,Fo hce.1 hc,v1]
 intro hg hl
 have hl:k<(ρ l).l.length:=by omega
 rw [C2 hl]
 exact TF.1 hg _ (C6 hl)
noncomputable def ZR (C:List Ce) (th:Rf) (l:Nat) (m:Nat):Nat→Nat→(Fm→Nat→Bool)→Bool:=Nat.rec (motive:=fun _=>Nat→Nat→(Fm→Nat→Bool)→Bool) (fun _ ct K=>K (Uy th (.a l)) ct) (fun _ ih j ct K=>J8 8 ct fun c ct=>oQ C c fun ce=>Ce.casesOn (motive:=fun _=>Bool) ce fun l' i y=>H9 (Nat.beq l l') (H9 (i.lP (.c (Int.ofNat j))) (H9 y.fW (ih (Nat.succ j) ct fun f ct=>K (im (gF th y) f) ct) false) false) false) m
noncomputable def w1:nE:=fun st ct K=>J8 8 ct fun a ct=>J8 8 ct fun l ct=>J8 8 ct fun n ct=>ZR st.C (.a a) l n 0 ct fun f ct=>K (im (aU (lm (Nat.add (Nat.mul 8 l) 1)) (.c (Int.ofNat n))) f) ct
theorem TZ {th:Rf}{l n:Nat}:∀ {m j ct:Nat} {K:Fm→Nat→Bool},ZR st.C th l m j ct K=true→j+m=n→∃ f ct',(∀ ρ,KU cx.tab ρ st→(ρ l).l.length=n→(∀ i,i<j→Gx (th.val ρ).l ((ρ l).l[i]?.getD .top))→f.bv ρ=true)∧K f ct'=true
 |0,j,ct,K,h,hj=>by
  refine⟨_,_,fun ρ hS hl hi=>?_,h⟩
  rw [MW]
  refine TF.2 fun x hx=>?_
  obtain⟨i,hi',e⟩:=List.getElem_of_mem hx
  have hi':i<(ρ l).l.length:=hi'
  have:=hi i (by omega)
  rw [C2 hi'] at this
  have e:(ρ l).l[i]=x:=e
  rw [e] at this
  exact this
 |m+1,j,ct,K,h,hj=>by
  have h:J8 8 ct (fun c ct=>oQ st.C c fun ce=>Ce.casesOn (motive:=fun _=>Bool) ce fun l' i y=>H9 (Nat.beq l l') (H9 (i.lP (.c (Int.ofNat j))) (H9 y.fW (ZR st.C th l m (j+1) ct fun f ct=>K (im (gF th y) f) ct) false) false) false)=true:=h
  obtain⟨c,c1,h⟩:=I0 h
  obtain⟨⟨l',i,y⟩,hm,h⟩:=M8 h
  obtain⟨g1,h⟩:=I3 h
  obtain⟨g2,h⟩:=I3 h
  obtain⟨g3,h⟩:=I3 h
  obtain⟨f,ct',hf,hK⟩:=TZ (n:=n) h (by omega)
  obtain rfl:=P3 g1
  obtain rfl:=L.T6 g2
  refine⟨_,_,fun ρ hS hl hi=>?_,hK⟩
  have hce:=hS.C _ hm
  rw [J1,Fo hce.1 g3]
  intro hg
  refine hf ρ hS hl fun i hij=>?_
  by_cases hlt:i<j
  ·exact hi i hlt
  ·obtain rfl:i=j:=by omega
   rw [hce.2.2] at hg
   exact hg
theorem Tq {ct:Nat}{K:Fm→Nat→Bool}(h:w1 st ct K=true):Gv cx st K:=by
 unfold w1 at h
 obtain⟨a,c1,h⟩:=I0 h
 obtain⟨l,c2,h⟩:=I0 h
 obtain⟨n,c3,h⟩:=I0 h
 obtain⟨f,ct',hf,h⟩:=TZ (cx:=cx) (n:=n) h (by omega)
 refine⟨_,_,fun ρ hS=>?_,h⟩
 rw [J1,N8]
 intro he
 refine hf ρ hS ?_ fun i hi=>absurd hi (by omega)
 have e1:(lm (Nat.add (Nat.mul 8 l) 1)).ev (nu ρ 0)=((ρ l).l.length:Nat):=L5.trans gO
 rw [e1,L.dY] at he
 have e2:Int.ofNat n=(n:Int):=rfl
 omega
noncomputable def fM (e:L):Fm:= .or (gN e (.c 0)) (gN (.c 10) e)
noncomputable def xF (v:Nat) (a t:Rf) (e1 e2 e3 e4 e5:L):Fm:=L3 .t [
 im (Ld a t e1 e2) (im (.an (im (aU e3 (.c 2)) (.an (gN (.c 1) e1) (gN e1 (.c 2)))) (.an (im (aU e3 (.c 8)) (aU e1 (.c 2))) (.an (im (aU e3 (.c 9)) (aU e1 (.c 2))) (fM e3).neg))) (MX a t e3 e4)),
 im (Ld a t e1 e2) (im (MX a t e3 e4) (.an (im (aU e3 (.c 2)) (.an (gN (.c 1) e1) (gN e1 (.c 2)))) (.an (im (aU e3 (.c 8)) (aU e1 (.c 2))) (im (aU e3 (.c 9)) (aU e1 (.c 2)))))),
 im (Qy t e1) (im (.an (fM e3) (.an (aU e1 (.c 1)) (aU e4 (.c 1)))) (MX a t e3 e4)),
 im (Qy t e1) (im (MX a t e3 e4) (im (.an (fM e3) (aU e1 (.c 1))) (aU e4 (.c 1)))),
 im (Ld a t e1 e2) (im (Qy t e5) (im (.an (fM e3) (.an (aU e5 (.c 0)) (.an (aU e1 (.c 3)) (aU e2 e4)))) (MX a t e3 e4))),
 im (Ld a t e1 e2) (im (Qy t e5) (im (MX a t e3 e4) (im (.an (fM e3) (aU e5 (.c 0))) (.an (aU e1 (.c 3)) (aU e2 e4))))),
 im (.an (aU e3 (.c 2)).neg (.an (aU e3 (.c 8)).neg (.an (aU e3 (.c 9)).neg (fM e3).neg))) (MX a t e3 e4),
 im (Ld a t e1 e2) (im (.an (gN e3 e1) (gN e1 e4)) (Qz a t e3 e4)),
 im (Qz a t e1 e2) (im (.an (im (aU e3 (.c 2)) (.an (gN (.c 1) e1) (gN e2 (.c 2)))) (.an (im (.or (aU e3 (.c 8)) (aU e3 (.c 9))) (.an (aU e1 (.c 2)) (aU e2 (.c 2)))) (fM e3).neg)) (MX a t e3 e4)),
 im (MX a t e3 e4) (im (.or (aU e3 (.c 8)) (aU e3 (.c 9))) (Qz a t (.c 2) (.c 2))),
 im (MX a t e1 e2) (im (.an (.or (aU e1 e3) (.an (fM e1) (fM e3))) (aU e2 e4)) (MX a t e3 e4)),
 im (Qz a t e3 e4) (im (Ld a t e1 e2) (.an (gN e3 e1) (gN e1 e4))),
 im (MX a t e1 e2) (im (aU e2 e4) (im (fM e3) (.or (aU (.c 1) e1) (.or (aU (.c 2) e1) (.or (aU (.c 3) e1) (.or (aU (.c 4) e1) (.or (aU (.c 5) e1) (.or (aU (.c 6) e1) (.or (aU (.c 7) e1) (.or (aU (.c 8) e1) (.or (aU (.c 9) e1) (MX a t e3 e4))))))))))))] v
theorem L6 {ρ:Nat→D}{x:Fm}:x.neg.bv ρ=true↔¬ x.bv ρ=true:=by
 rw [Fm.L6];cases x.bv ρ<;>simp
theorem Ua {ρ:Nat→D}(v:Nat)(a t:Rf)(e1 e2 e3 e4 e5:L):(xF v a t e1 e2 e3 e4 e5).bv ρ=true:=by
 by_cases hv:v<13
 ·unfold xF
  match v,hv with
  |0,_=>
   simp only [I8,I9,J1,U9,fL,L6,cG,bM,cH,cI,N8,K6,L.dY,X1,fM]
   omega
  |1,_=>
   simp only [I8,I9,J1,U9,fL,L6,cG,bM,cH,cI,N8,K6,L.dY,X1,fM]
   omega
  |2,_=>
   simp only [I8,I9,J1,U9,fL,L6,cG,bM,cH,cI,N8,K6,L.dY,X1,fM]
   omega
  |3,_=>
   simp only [I8,I9,J1,U9,fL,L6,cG,bM,cH,cI,N8,K6,L.dY,X1,fM]
   omega
  |4,_=>
   simp only [I8,I9,J1,U9,fL,L6,cG,bM,cH,cI,N8,K6,L.dY,X1,fM]
   omega
  |5,_=>
   simp only [I8,I9,J1,U9,fL,L6,cG,bM,cH,cI,N8,K6,L.dY,X1,fM]
   omega
  |6,_=>
   simp only [I8,I9,J1,U9,fL,L6,cG,bM,cH,cI,N8,K6,L.dY,X1,fM]
   omega
  |7,_=>
   simp only [I8,I9,J1,U9,fL,L6,cG,bM,cH,cI,N8,K6,L.dY,X1,fM]
   omega
  |8,_=>
   simp only [I8,I9,J1,U9,fL,L6,cG,bM,cH,cI,N8,K6,L.dY,X1,fM]
   omega
  |9,_=>
   simp only [I8,I9,J1,U9,fL,L6,cG,bM,cH,cI,N8,K6,L.dY,X1,fM]
   omega
  |10,_=>
   simp only [I8,I9,J1,U9,fL,L6,cG,bM,cH,cI,N8,K6,L.dY,X1,fM]
   omega
  |12,_=>
   simp only [I8,I9,J1,U9,fL,L6,cG,bM,cH,cI,N8,K6,L.dY,X1,fM]
   omega
  |11,_=>
   simp only [I8,I9,J1,U9,fL,L6,cG,bM,cH,cI,N8,K6,L.dY,X1,fM]
   omega
 ·unfold xF
  rw [Y8 (by simp only [A0,A8];omega)];rfl
noncomputable def w2:nE:=fun st ct K=>J8 8 ct fun v ct=>J8 8 ct fun a ct=>J8 8 ct fun t ct=>fR ct fun e1 ct=>fR ct fun e2 ct=>fR ct fun e3 ct=>fR ct fun e4 ct=>fR ct fun e5 ct=>K (xF v (.a a) (.a t) e1 e2 e3 e4 e5) ct
theorem Tr {ct:Nat}{K:Fm→Nat→Bool}(h:w2 st ct K=true):Gv cx st K:=by
 unfold w2 at h
 obtain⟨v,c1,h⟩:=I0 h
 obtain⟨a,c2,h⟩:=I0 h
 obtain⟨t,c3,h⟩:=I0 h
 obtain⟨e1,c4,h⟩:=T9 h
 obtain⟨e2,c5,h⟩:=T9 h
 obtain⟨e3,c6,h⟩:=T9 h
 obtain⟨e4,c7,h⟩:=T9 h
 obtain⟨e5,c8,h⟩:=T9 h
 exact⟨_,_,fun ρ _=>Ua v _ _ e1 e2 e3 e4 e5,h⟩
noncomputable def w3:nE:=fun st ct K=>J8 8 ct fun c ct=>J8 8 ct fun d ct=>oQ st.C c fun ce=>Ce.casesOn (motive:=fun _=>Bool) ce fun u i x=>oQ st.C d fun cd=>Ce.casesOn (motive:=fun _=>Bool) cd fun S j y=>H9 y.fW (K (im (ZH (.a S) (.a u)) (im (aU i j) (.or (gN x.len (y.dZ 1).H7) (gN x.len (.c 0))))) ct) false
theorem Ts {ct:Nat}{K:Fm→Nat→Bool}(h:w3 st ct K=true):Gv cx st K:=by
 unfold w3 at h
 obtain⟨c,c1,h⟩:=I0 h
 obtain⟨d,c2,h⟩:=I0 h
 obtain⟨⟨u,i,x⟩,hm,h⟩:=M8 h
 obtain⟨⟨S,j,y⟩,hn,h⟩:=M8 h
 obtain⟨hc,hK⟩:=I3 h
 refine⟨_,_,fun ρ hS=>?_,hK⟩
 have h1:=hS.C _ hm
 have h2:=hS.C _ hn
 obtain⟨k1,e1,v1⟩:=gV h1
 obtain⟨k2,e2,v2⟩:=gV h2
 rw [J1,jF,J1,N8,fL,K6,K6,A.V8 h1.1,A.jB (A.aA 1 h2.1),A.V4 1 h2.1 hc,L.dY,v1,v2,e1,e2]
 intro hz he
 obtain rfl:k1=k2:=by omega
 have:=hz k1
 have g:(Rf.val ρ (.a u))=ρ u:=rfl
 have g':(Rf.val ρ (.a S))=ρ S:=rfl
 rw [g,g'] at this
 omega
noncomputable def w4:nE:=fun st ct K=>J8 8 ct fun d ct=>J8 8 ct fun c ct=>oQ st.D d fun de=>Df.casesOn (motive:=fun _=>Bool) de (fun _ _ _=>false) fun a x i y=>oQ st.C c fun ce=>Ce.casesOn (motive:=fun _=>Bool) ce fun S j w=>H9 w.fW (K (im (ZH (.a S) x.rf) (im (aU i j) (im (.or (gN y.len (w.dZ 1).H7) (gN y.len (.c 0))) (ZH (.a S) (.a a))))) ct) false
theorem rE {l:List D}{k i:Nat}{y:D}:(l.set k y)[i]?.getD .top=if k=i∧i<l.length then y else l[i]?.getD .top:=by
 rw [List.getElem?_set]
 by_cases h:k=i
 ·subst h
  by_cases hl:k<l.length
  ·simp [hl]
  ·simp [hl]
 ·simp [h]
theorem Tt {ct:Nat}{K:Fm→Nat→Bool}(h:w4 st ct K=true):Gv cx st K:=by
 unfold w4 at h
 obtain⟨d,c1,h⟩:=I0 h
 obtain⟨c,c2,h⟩:=I0 h
 obtain⟨de,hm,h⟩:=M8 h
 cases de with
 |ms a ls es=>cases h
 |sp a x i y=>
  obtain⟨⟨S,j,w⟩,hn,h⟩:=M8 h
  obtain⟨hc,hK⟩:=I3 h
  refine⟨_,_,fun ρ hS=>?_,hK⟩
  obtain⟨h1,h2,h3,h4⟩:=hS.D _ hm
  have h5:=hS.C _ hn
  obtain⟨k2,e2,v2⟩:=gV h5
  rw [J1,jF,J1,N8,J1,fL,K6,K6,A.V8 h2,A.jB (A.aA 1 h5.1),A.V4 1 h5.1 hc,L.dY,v2,e2,jF,A.GP h1]
  intro hz he hy m
  show (((((ρ a).l[m]?.getD .top).l.length:Nat)):Int)≤_
  rw [h4,rE]
  split
  ·rename_i hk
   obtain⟨hk,_⟩:=hk
   have:k2=m:=by omega
   subst this
   show _≤max 0 ((((ρ S).l[k2]?.getD .top).at_ 1).i)
   omega
  ·exact hz m
noncomputable def w5:nE:=fun st ct K=>J8 8 ct fun S ct=>J8 8 ct fun d ct=>oQ st.D d fun de=>Df.casesOn (motive:=fun _=>Bool) de (fun a ls es=>List.casesOn (motive:=fun _=>Bool) ls (List.casesOn (motive:=fun _=>Bool) es false fun y r=>List.casesOn (motive:=fun _=>Bool) r (K (im (gN y.len (.c 0)) (ZH (.a S) (.a a))) ct) (fun _ _=>false)) (fun _ _=>false)) (fun _ _ _ _=>false)
theorem Tu {ct:Nat}{K:Fm→Nat→Bool}(h:w5 st ct K=true):Gv cx st K:=by
 unfold w5 at h
 obtain⟨S,c1,h⟩:=I0 h
 obtain⟨d,c2,h⟩:=I0 h
 obtain⟨de,hm,h⟩:=M8 h
 cases de with
 |sp a x i y=>cases h
 |ms a ls es=>
  cases ls with
  |cons _ _=>cases h
  |nil=>
   cases es with
   |nil=>cases h
   |cons y r=>
    cases r with
    |cons _ _=>cases h
    |nil=>
     refine⟨_,_,fun ρ hS=>?_,h⟩
     obtain⟨_,h2,h3⟩:=hS.D _ hm
     rw [J1,K6,A.V8 (h2 y (B8 ..)),L.dY,jF]
     intro hy m
     show (((((ρ a).l[m]?.getD .top).l.length:Nat)):Int)≤_
     cases hg:(ρ a).l[m]? with
     |none=>
      show ((([]:List D).length:Nat):Int)≤_
      simp only [A8];omega
     |some z=>
      rcases h3 z (List.mem_of_getElem? hg) with ⟨_,hx,_⟩|⟨x,hx,e⟩
      ·cases hx
      ·obtain rfl:x=y:=by simpa using hx
       show ((z.l.length:Nat):Int)≤_
       rw [e];omega
noncomputable def w6:nE:=fun st ct K=>J8 8 ct fun S ct=>J8 8 ct fun c ct=>oQ st.C c fun ce=>Ce.casesOn (motive:=fun _=>Bool) ce fun w _ x=>K (im (Rz (.a S) (.a w)) (ZH (.a S) x.rf)) ct
theorem Tv {ct:Nat}{K:Fm→Nat→Bool}(h:w6 st ct K=true):Gv cx st K:=by
 unfold w6 at h
 obtain⟨S,c1,h⟩:=I0 h
 obtain⟨c,c2,h⟩:=I0 h
 obtain⟨⟨w,i,x⟩,hm,h⟩:=M8 h
 refine⟨_,_,fun ρ hS=>?_,h⟩
 have h1:=hS.C _ hm
 obtain⟨k1,e1,v1⟩:=gV h1
 rw [J1,GM,jF,A.GP h1.1,v1]
 exact fun hz=>hz k1
noncomputable def Ny (f:A→Fm) (l:List A) (g:Fm):Fm:=List.rec (motive:=fun _=>Fm) g (fun x _ ih=>im (f x) ih) l
theorem KY {ρ:Nat→D}{f:A→Fm}{g:Fm}:∀ {l:List A},(Ny f l g).bv ρ=true↔((∀ x∈l,(f x).bv ρ=true)→g.bv ρ=true)
 |[]=>by simp [Ny]
 |x::l=>by
  show (im (f x) (Ny f l g)).bv ρ=true↔_
  rw [J1,KY (l:=l)]
  simp only [List.forall_mem_cons,and_imp]
noncomputable def w7:nE:=fun st ct K=>J8 8 ct fun S ct=>J8 8 ct fun d ct=>oQ st.D d fun de=>Df.casesOn (motive:=fun _=>Bool) de (fun a ls es=>K (Ny (fun x=>Rz (.a S) x.rf) ls (Ny (fun x=>ZH (.a S) x.rf) es (Rz (.a S) (.a a)))) ct) (fun _ _ _ _=>false)
theorem ZB {S:List D}:z1 S []:=fun m=>by
 show ((([]:List D).length:Nat):Int)≤_
 simp only [A8];omega
theorem Tw {ct:Nat}{K:Fm→Nat→Bool}(h:w7 st ct K=true):Gv cx st K:=by
 unfold w7 at h
 obtain⟨S,c1,h⟩:=I0 h
 obtain⟨d,c2,h⟩:=I0 h
 obtain⟨de,hm,h⟩:=M8 h
 cases de with
 |sp a x i y=>cases h
 |ms a ls es=>
  refine⟨_,_,fun ρ hS=>?_,h⟩
  obtain⟨h1,h2,h3⟩:=hS.D _ hm
  rw [KY,KY,GM]
  intro g1 g2 m
  show z1 _ ((ρ a).l[m]?.getD .top).l
  cases hg:(ρ a).l[m]? with
  |none=>exact ZB
  |some z=>
   rcases h3 z (List.mem_of_getElem? hg) with ⟨x,hx,hz⟩|⟨x,hx,e⟩
   ·have:=g1 x hx
    rw [GM,A.GP (h1 x hx)] at this
    obtain⟨i,hi,e⟩:=List.getElem_of_mem hz
    have:=this i
    rw [C2 hi,e] at this
    exact this
   ·have:=g2 x hx
    rw [jF,A.GP (h2 x hx),← e] at this
    exact this
noncomputable def w8:nE:=fun st ct K=>J8 8 ct fun S ct=>J8 8 ct fun u ct=>J8 8 ct fun v ct=>J8 8 ct fun w ct=>K (.an (Rz (.a S) (.s [])) (.an (TA (.a u) (.a u)) (.an (im (TA (.a u) (.a v)) (TA (.a v) (.a u))) (.an (im (TA (.a u) (.a v)) (im (TA (.a v) (.a w)) (TA (.a u) (.a w)))) (.an (Lk (.a u) (.a v) (.c 0)) (.an (.ge (lm (Nat.add (Nat.mul 8 u) 7))) (gN (lm (Nat.add (Nat.mul 8 u) 7)) (lm (Nat.add (Nat.mul 8 u) 1))))))))) ct
theorem Tx {ct:Nat}{K:Fm→Nat→Bool}(h:w8 st ct K=true):Gv cx st K:=by
 unfold w8 at h
 obtain⟨S,c1,h⟩:=I0 h
 obtain⟨u,c2,h⟩:=I0 h
 obtain⟨v,c3,h⟩:=I0 h
 obtain⟨w,c4,h⟩:=I0 h
 refine⟨_,_,fun ρ hS=>?_,h⟩
 rw [U9,U9,U9,U9,U9,U9,GM,fO,J1,fO,fO,J1,fO,J1,fO,fO,sZ,Fm.I7,K6,L5,L5]
 have e7:nu ρ 0 (Nat.add (Nat.mul 8 u) 7)=rI (ρ u).l:=Nq
 have e1:nu ρ 0 (Nat.add (Nat.mul 8 u) 1)=((ρ u).l.length:Nat):=gO
 rw [e7,e1]
 refine⟨fun j=>ZB,fun i=>rfl,fun h i=>(h i).symm,fun h1 h2 i=>(h1 i).trans (h2 i),fun i hi=>?_,Int.natCast_nonneg _,?_⟩
 ·rw [L.dY] at hi
  exact absurd hi (by omega)
 ·have:rI (ρ u).l≤(ρ u).l.length:=List.countP_le_length
  omega
noncomputable def w9:nE:=fun st ct K=>J8 8 ct fun c ct=>J8 8 ct fun d ct=>oQ st.C c fun ce=>Ce.casesOn (motive:=fun _=>Bool) ce fun u i x=>oQ st.C d fun cd=>Ce.casesOn (motive:=fun _=>Bool) cd fun v j y=>K (im (TA (.a u) (.a v)) (im (aU i j) (aU x.len y.len))) ct
theorem Tz {ct:Nat}{K:Fm→Nat→Bool}(h:w9 st ct K=true):Gv cx st K:=by
 unfold w9 at h
 obtain⟨c,c1,h⟩:=I0 h
 obtain⟨d,c2,h⟩:=I0 h
 obtain⟨⟨u,i,x⟩,hm,h⟩:=M8 h
 obtain⟨⟨v,j,y⟩,hn,h⟩:=M8 h
 refine⟨_,_,fun ρ hS=>?_,h⟩
 have h1:=hS.C _ hm
 have h2:=hS.C _ hn
 obtain⟨k1,e1,v1⟩:=gV h1
 obtain⟨k2,e2,v2⟩:=gV h2
 rw [J1,fO,J1,N8,N8,A.V8 h1.1,A.V8 h2.1,v1,v2,e1,e2]
 intro hz he
 obtain rfl:k1=k2:=by omega
 have:=hz k1
 have g:(Rf.val ρ (.a u))=ρ u:=rfl
 have g':(Rf.val ρ (.a v))=ρ v:=rfl
 rw [g,g'] at this
 omega
noncomputable def Xv:nE:=fun st ct K=>J8 8 ct fun d ct=>J8 8 ct fun c ct=>oQ st.D d fun de=>Df.casesOn (motive:=fun _=>Bool) de (fun _ _ _=>false) fun a x i y=>oQ st.C c fun ce=>Ce.casesOn (motive:=fun _=>Bool) ce fun v j w=>K (im (aU i j) (im (aU y.len w.len) (.an (im (TA x.rf (.a v)) (TA (.a a) (.a v))) (im (Lk x.rf (.a v) i) (im (gN (i.O8 1) x.len) (Lk (.a a) (.a v) (i.O8 1))))))) ct
theorem Mm {ct:Nat}{K:Fm→Nat→Bool}(h:Xv st ct K=true):Gv cx st K:=by
 unfold Xv at h
 obtain⟨d,c1,h⟩:=I0 h
 obtain⟨c,c2,h⟩:=I0 h
 obtain⟨de,hm,h⟩:=M8 h
 cases de with
 |ms a ls es=>cases h
 |sp a x i y=>
  obtain⟨⟨v,j,w⟩,hn,h⟩:=M8 h
  refine⟨_,_,fun ρ hS=>?_,h⟩
  obtain⟨h1,h2,h3,h4⟩:=hS.D _ hm
  have h5:=hS.C _ hn
  obtain⟨k2,e2,v2⟩:=gV h5
  rw [J1,N8,J1,N8,U9,J1,fO,fO,J1,sZ,J1,K6,sZ,A.V8 h2,A.V8 h5.1,A.V8 h1,L.K3,A.GP h1,v2,e2]
  intro he hy
  have hk:(i.ev (nu ρ 0)).toNat=k2:=by omega
  rw [hk] at h4
  have ga:(Rf.val ρ (.a a)).l=(x.val ρ).l.set k2 (y.val ρ):=h4
  have gv:(Rf.val ρ (.a v))=ρ v:=rfl
  rw [ga,gv]
  constructor
  ·intro hz m
   rw [rE]
   split
   ·rename_i hh
    obtain⟨rfl,_⟩:=hh
    omega
   ·exact hz m
  ·intro hz hl m hm'
   rw [rE]
   split
   ·rename_i hh
    obtain⟨rfl,_⟩:=hh
    omega
   ·rename_i hh
    refine hz m ?_
    have:¬ k2=m:=fun e=>hh ⟨e,by omega⟩
    omega
noncomputable def Xw:nE:=fun st ct K=>J8 8 ct fun u ct=>J8 8 ct fun v ct=>fR ct fun n ct=>K (im (Lk (.a u) (.a v) n) (im (gN (lm (Nat.add (Nat.mul 8 u) 1)) n) (im (gN (lm (Nat.add (Nat.mul 8 v) 1)) n) (TA (.a u) (.a v))))) ct
theorem Mn {ct:Nat}{K:Fm→Nat→Bool}(h:Xw st ct K=true):Gv cx st K:=by
 unfold Xw at h
 obtain⟨u,c1,h⟩:=I0 h
 obtain⟨v,c2,h⟩:=I0 h
 obtain⟨n,c3,h⟩:=T9 h
 refine⟨_,_,fun ρ hS=>?_,h⟩
 rw [J1,sZ,J1,K6,J1,K6,fO,L5,L5]
 have e1:nu ρ 0 (Nat.add (Nat.mul 8 u) 1)=((ρ u).l.length:Nat):=gO
 have e2:nu ρ 0 (Nat.add (Nat.mul 8 v) 1)=((ρ v).l.length:Nat):=gO
 rw [e1,e2]
 intro hz h1 h2 m
 by_cases hm:(m:Int)<n.ev (nu ρ 0)
 ·exact hz m hm
 ·show (((ρ u).l[m]?.getD .top).l.length)=((ρ v).l[m]?.getD .top).l.length
  rw [List.getElem?_eq_none (by omega),List.getElem?_eq_none (by omega)]
noncomputable def Xx:nE:=fun st ct K=>J8 8 ct fun d ct=>J8 8 ct fun c ct=>oQ st.D d fun de=>Df.casesOn (motive:=fun _=>Bool) de (fun _ _ _=>false) fun a x i y=>oQ st.C c fun ce=>Ce.casesOn (motive:=fun _=>Bool) ce fun v j w=>A.casesOn (motive:=fun _=>Bool) x (fun _ _=>false) (fun _=>false) (fun _ _=>false) (fun b _ _=>H9 (Nat.beq b v) (K (im y.bo (.an (gN (lm (Nat.add (Nat.mul 8 a) 7)) (lm (Nat.add (Nat.mul 8 v) 7))) (im (aU i j) (im (gN (i.O8 1) (lm (Nat.add (Nat.mul 8 v) 1))) (im w.bo.neg (gN ((lm (Nat.add (Nat.mul 8 a) 7)).O8 1) (lm (Nat.add (Nat.mul 8 v) 7)))))))) ct) false) (fun _=>false) false (fun _ _=>false) (fun _=>false)
theorem LR:∀ {l:List D} {k:Nat} {y:D},y.b=true→rI (l.set k y)≤rI l∧(k<l.length→(l[k]?.getD .top).b=false→rI (l.set k y)+1≤rI l)
 |[],k,y,hy=>⟨by simp [rI],fun h=>by simp at h⟩
 |x::l,0,y,hy=>by
  have e1:rI ((x::l).set 0 y)=rI l:=by simp [rI,List.countP_cons,hy]
  have e2:rI (x::l)=rI l+if x.b then 0 else 1:=by
   unfold rI;rw [List.countP_cons];cases x.b<;>rfl
  rw [e1,e2]
  refine⟨by omega,fun _ hb=>?_⟩
  have hb:x.b=false:=hb
  rw [hb];exact B9 _
 |x::l,k+1,y,hy=>by
  obtain⟨h1,h2⟩:=LR (l:=l) (k:=k) hy
  have e1:rI ((x::l).set (k+1) y)=rI (l.set k y)+if x.b then 0 else 1:=by
   show rI (x::l.set k y)=_
   unfold rI;rw [List.countP_cons];cases x.b<;>rfl
  have e2:rI (x::l)=rI l+if x.b then 0 else 1:=by
   unfold rI;rw [List.countP_cons];cases x.b<;>rfl
  rw [e1,e2]
  refine⟨by omega,fun hl hb=>?_⟩
  have:=h2 (by simpa using hl) (by simpa using hb)
  omega
theorem Mo {ct:Nat}{K:Fm→Nat→Bool}(h:Xx st ct K=true):Gv cx st K:=by
 unfold Xx at h
 obtain⟨d,c1,h⟩:=I0 h
 obtain⟨c,c2,h⟩:=I0 h
 obtain⟨de,hm,h⟩:=M8 h
 cases de with
 |ms a ls es=>cases h
 |sp a x i y=>
  obtain⟨⟨v,j,w⟩,hn,h⟩:=M8 h
  cases x with
  |l b sz e=>
   obtain⟨hb,hK⟩:=I3 h
   obtain rfl:=P3 hb
   refine⟨_,_,fun ρ hS=>?_,hK⟩
   obtain⟨h1,h2,h3,h4⟩:=hS.D _ hm
   have h5:=hS.C _ hn
   obtain⟨k2,e2,v2⟩:=gV h5
   rw [J1,U9,J1,N8,J1,K6,K6,J1,L6,K6,L.K3,L.K3,L5,L5,L5,A.wT h2,A.wT h5.1,v2,e2]
   have ea:nu ρ 0 (Nat.add (Nat.mul 8 a) 7)=rI (ρ a).l:=Nq
   have ev:nu ρ 0 (Nat.add (Nat.mul 8 b) 7)=rI (ρ b).l:=Nq
   have el:nu ρ 0 (Nat.add (Nat.mul 8 b) 1)=((ρ b).l.length:Nat):=gO
   have hx:(A.val ρ (.l b sz e))=ρ b:=rfl
   rw [ea,ev,el,h4,hx]
   intro hy
   obtain⟨g1,g2⟩:=LR (l:=(ρ b).l) (k:=(i.ev (nu ρ 0)).toNat) hy
   refine⟨by omega,fun he hl hw=>?_⟩
   have hk:(i.ev (nu ρ 0)).toNat=k2:=by omega
   rw [hk] at g2 ⊢
   have:=g2 (by omega) (by simpa using hw)
   omega
  |_=>cases h
noncomputable def Xy:nE:=fun st ct K=>J8 8 ct fun c ct=>oQ st.C c fun ce=>Ce.casesOn (motive:=fun _=>Bool) ce fun u j x=>K (.an (im (Vb (.a u) j) x.bo.neg) (im x.bo.neg (Vb (.a u) j))) ct
theorem Mp {ct:Nat}{K:Fm→Nat→Bool}(h:Xy st ct K=true):Gv cx st K:=by
 unfold Xy at h
 obtain⟨c,c1,h⟩:=I0 h
 obtain⟨⟨u,j,x⟩,hm,h⟩:=M8 h
 refine⟨_,_,fun ρ hS=>?_,h⟩
 have h1:=hS.C _ hm
 rw [U9,J1,MY,L6,J1,L6,MY,A.wT h1.1,h1.2.2]
 show (e1 (ρ u).l _→_)∧(_→e1 (ρ u).l _)
 unfold e1
 constructor
 ·intro h;rw [h];decide
 ·intro h;simpa using h
noncomputable def Xz:nE:=fun st ct K=>J8 8 ct fun c ct=>fR ct fun n ct=>oQ st.C c fun ce=>Ce.casesOn (motive:=fun _=>Bool) ce fun S j y=>H9 y.fW (K (im (gN (y.dZ 1).H7 n) (Wu (.a S) j n)) ct) false
theorem Mq {ct:Nat}{K:Fm→Nat→Bool}(h:Xz st ct K=true):Gv cx st K:=by
 unfold Xz at h
 obtain⟨c,c1,h⟩:=I0 h
 obtain⟨n,c2,h⟩:=T9 h
 obtain⟨⟨S,j,y⟩,hm,h⟩:=M8 h
 obtain⟨hc,hK⟩:=I3 h
 refine⟨_,_,fun ρ hS=>?_,hK⟩
 have h1:=hS.C _ hm
 rw [J1,K6,XL,A.jB (A.aA 1 h1.1),A.V4 1 h1.1 hc,h1.2.2]
 exact fun h=>h
noncomputable def Ya:nE:=fun st ct K=>J8 8 ct fun S ct=>J8 8 ct fun c ct=>fR ct fun n ct=>oQ st.C c fun ce=>Ce.casesOn (motive:=fun _=>Bool) ce fun u i x=>K (im (ZH (.a S) (.a u)) (im (Wu (.a S) i n) (im (gN (.c 0) n) (gN x.len n)))) ct
theorem Mr {ct:Nat}{K:Fm→Nat→Bool}(h:Ya st ct K=true):Gv cx st K:=by
 unfold Ya at h
 obtain⟨S,c1,h⟩:=I0 h
 obtain⟨c,c2,h⟩:=I0 h
 obtain⟨n,c3,h⟩:=T9 h
 obtain⟨⟨u,i,x⟩,hm,h⟩:=M8 h
 refine⟨_,_,fun ρ hS=>?_,h⟩
 have h1:=hS.C _ hm
 rw [J1,jF,J1,XL,J1,K6,K6,L.dY,A.V8 h1.1,h1.2.2]
 intro hz he hn
 have:=hz (i.ev (nu ρ 0)).toNat
 have g:(Rf.val ρ (.a u))=ρ u:=rfl
 have g':(Rf.val ρ (.a S))=ρ S:=rfl
 rw [g,g'] at this
 unfold e2 at he
 rw [g'] at he
 omega
noncomputable def Yb:nE:=fun st ct K=>J8 8 ct fun c ct=>fR ct fun n ct=>oQ st.C c fun ce=>Ce.casesOn (motive:=fun _=>Bool) ce fun u j x=>K (.an (im (Vc (.a u) j n) (aU x.len n)) (im (aU x.len n) (Vc (.a u) j n))) ct
theorem Ms {ct:Nat}{K:Fm→Nat→Bool}(h:Yb st ct K=true):Gv cx st K:=by
 unfold Yb at h
 obtain⟨c,c1,h⟩:=I0 h
 obtain⟨n,c2,h⟩:=T9 h
 obtain⟨⟨u,j,x⟩,hm,h⟩:=M8 h
 refine⟨_,_,fun ρ hS=>?_,h⟩
 have h1:=hS.C _ hm
 rw [U9,J1,J1,N8,XM,A.V8 h1.1,h1.2.2]
 exact⟨fun h=>h,fun h=>h⟩
noncomputable def Yc:nE:=fun st ct K=>J8 8 ct fun d ct=>fR ct fun n ct=>oQ st.D d fun de=>Df.casesOn (motive:=fun _=>Bool) de (fun _ _ _=>false) fun a x i y=>K (im (gN (i.O8 1) x.len) (im (aU y.len n) (Vc (.a a) i n))) ct
theorem Mt {ct:Nat}{K:Fm→Nat→Bool}(h:Yc st ct K=true):Gv cx st K:=by
 unfold Yc at h
 obtain⟨d,c1,h⟩:=I0 h
 obtain⟨n,c2,h⟩:=T9 h
 obtain⟨de,hm,h⟩:=M8 h
 cases de with
 |ms a ls es=>cases h
 |sp a x i y=>
  refine⟨_,_,fun ρ hS=>?_,h⟩
  obtain⟨h1,h2,h3,h4⟩:=hS.D _ hm
  rw [J1,K6,J1,N8,XM,A.V8 h2,A.V8 h1,L.K3]
  intro hl he
  show (((((ρ a).l[(i.ev (nu ρ 0)).toNat]?.getD .top).l.length:Nat)):Int)=_
  rw [h4,rE,if_pos ⟨rfl,by omega⟩]
  exact he
noncomputable def YY (n:Nat):List Rf→Nat→(List Rf→Nat→Bool)→Bool:=Nat.rec (motive:=fun _=>List Rf→Nat→(List Rf→Nat→Bool)→Bool) (fun acc ct K=>K acc ct) (fun _ ih acc ct K=>J8 8 ct fun i ct=>ih (.a i::acc) ct K) n
noncomputable def YV (n:Nat):List L→List L→Nat→(List L→List L→Nat→Bool)→Bool:=Nat.rec (motive:=fun _=>List L→List L→Nat→(List L→List L→Nat→Bool)→Bool) (fun x y ct K=>K x y ct) (fun _ ih x y ct K=>fR ct fun e ct=>fR ct fun e' ct=>ih (e::x) (e'::y) ct K) n
noncomputable def Wb (x:List L):List L→Fm→Fm:=List.rec (motive:=fun _=>List L→Fm→Fm) (fun y g=>List.casesOn (motive:=fun _=>Fm) y g (fun _ _=> .t)) (fun e _ ih y g=>List.casesOn (motive:=fun _=>Fm) y .t fun e' r=>im (aU e e') (ih r g)) x
theorem VM {ρ:Nat→D}{g:Fm}:∀ {x y:List L},(x.map (fun e=>e.ev (nu ρ 0))=y.map (fun e=>e.ev (nu ρ 0))→g.bv ρ=true)→(Wb x y g).bv ρ=true
 |[],[],h=>h rfl
 |[],_::_,h=>rfl
 |_::_,[],h=>rfl
 |e::x,e'::y,h=>by
  show (im (aU e e') (Wb x y g)).bv ρ=true
  rw [J1,N8]
  intro he
  refine VM fun hh=>h ?_
  rw [List.map_cons,List.map_cons,he,hh]
theorem QO:∀ {n:Nat} {acc:List Rf} {ct:Nat} {K:List Rf→Nat→Bool},YY n acc ct K=true→∃ l ct',K l ct'=true
 |0,acc,ct,K,h=>⟨_,_,h⟩
 |n+1,acc,ct,K,h=>by
  obtain⟨i,c1,h⟩:=I0 (show J8 8 ct (fun i ct=>YY n (.a i::acc) ct K)=true from h)
  exact QO h
theorem QN:∀ {n:Nat} {x y:List L} {ct:Nat} {K:List L→List L→Nat→Bool},YV n x y ct K=true→∃ a b ct',K a b ct'=true
 |0,x,y,ct,K,h=>⟨_,_,_,h⟩
 |n+1,x,y,ct,K,h=>by
  obtain⟨e,c1,h⟩:=T9 (show fR ct (fun e ct=>fR ct fun e' ct=>YV n (e::x) (e'::y) ct K)=true from h)
  obtain⟨e',c2,h⟩:=T9 h
  exact QN h
noncomputable def Yd:nE:=fun st ct K=>J8 8 ct fun q ct=>J8 8 ct fun n ct=>YY n [] ct fun rs ct=>J8 8 ct fun m ct=>YV m [] [] ct fun x y ct=>K (im (.p (.mk q rs x)) (Wb x y (.p (.mk q rs y)))) ct
theorem Mu {ct:Nat}{K:Fm→Nat→Bool}(h:Yd st ct K=true):Gv cx st K:=by
 unfold Yd at h
 obtain⟨q,c1,h⟩:=I0 h
 obtain⟨n,c2,h⟩:=I0 h
 obtain⟨rs,c3,h⟩:=QO h
 obtain⟨m,c4,h⟩:=I0 h
 obtain⟨x,y,c5,h⟩:=QN h
 refine⟨_,_,fun ρ hS=>?_,h⟩
 rw [J1]
 intro hx
 refine VM fun hh=>?_
 rw [mO] at hx ⊢
 show PR _ _ _ _
 have hx:PR q (rs.map fun r=>(r.val ρ).l) (rs.map fun r=>(r.val ρ).s) (x.map fun e=>e.ev (nu ρ 0)):=hx
 rw [hh] at hx
 exact hx
noncomputable def Ye:nE:=fun st ct K=>J8 8 ct fun d ct=>oQ st.D d fun de=>Df.casesOn (motive:=fun _=>Bool) de (fun a ls es=>List.casesOn (motive:=fun _=>Bool) ls (List.casesOn (motive:=fun _=>Bool) es false fun y r=>List.casesOn (motive:=fun _=>Bool) r (K (im y.nil (Li (.a a) (.c 0))) ct) (fun _ _=>false)) (fun _ _=>false)) (fun _ _ _ _=>false)
theorem Mv {ct:Nat}{K:Fm→Nat→Bool}(h:Ye st ct K=true):Gv cx st K:=by
 unfold Ye at h
 obtain⟨d,c2,h⟩:=I0 h
 obtain⟨de,hm,h⟩:=M8 h
 cases de with
 |sp a x i y=>cases h
 |ms a ls es=>
  cases ls with
  |cons _ _=>cases h
  |nil=>
   cases es with
   |nil=>cases h
   |cons y r=>
    cases r with
    |cons _ _=>cases h
    |nil=>
     refine⟨_,_,fun ρ hS=>?_,h⟩
     obtain⟨_,h2,h3⟩:=hS.D _ hm
     rw [J1,A.yV (h2 y (B8 ..)),sX]
     intro hy m _ hl
     have hl:m<(ρ a).l.length:=hl
     show O9 ((ρ a).l[m]?.getD .top)=true
     rw [C2 hl]
     rcases h3 _ (C6 hl) with ⟨_,hx,_⟩|⟨x,hx,e⟩
     ·cases hx
     ·obtain rfl:x=y:=by simpa using hx
      rw [e];exact hy
noncomputable def Yf:nE:=fun st ct K=>J8 8 ct fun c ct=>fR ct fun k ct=>oQ st.C c fun ce=>Ce.casesOn (motive:=fun _=>Bool) ce fun u j x=>K (im (Li (.a u) k) (im (gN k j) (im (gN (j.O8 1) (lm (Nat.add (Nat.mul 8 u) 1))) x.nil))) ct
theorem Mw {ct:Nat}{K:Fm→Nat→Bool}(h:Yf st ct K=true):Gv cx st K:=by
 unfold Yf at h
 obtain⟨c,c1,h⟩:=I0 h
 obtain⟨k,c2,h⟩:=T9 h
 obtain⟨⟨u,j,x⟩,hm,h⟩:=M8 h
 refine⟨_,_,fun ρ hS=>?_,h⟩
 have h1:=hS.C _ hm
 obtain⟨k1,e1,v1⟩:=gV h1
 have e2:nu ρ 0 (Nat.add (Nat.mul 8 u) 1)=((ρ u).l.length:Nat):=gO
 rw [J1,sX,J1,K6,J1,K6,L.K3,L5,e2,e1,A.yV h1.1,v1]
 intro hn hk hl
 exact hn k1 hk (by show k1<(ρ u).l.length;omega)
noncomputable def Yg:nE:=fun st ct K=>J8 8 ct fun d ct=>fR ct fun k ct=>fR ct fun k' ct=>oQ st.D d fun de=>Df.casesOn (motive:=fun _=>Bool) de (fun _ _ _=>false) fun a x i y=>K (im (Li x.rf k) (im (gN k k') (im (gN (i.O8 1) k') (Li (.a a) k')))) ct
theorem Mx {ct:Nat}{K:Fm→Nat→Bool}(h:Yg st ct K=true):Gv cx st K:=by
 unfold Yg at h
 obtain⟨d,c1,h⟩:=I0 h
 obtain⟨k,c2,h⟩:=T9 h
 obtain⟨k',c3,h⟩:=T9 h
 obtain⟨de,hm,h⟩:=M8 h
 cases de with
 |ms a ls es=>cases h
 |sp a x i y=>
  refine⟨_,_,fun ρ hS=>?_,h⟩
  obtain⟨h1,h2,h3,h4⟩:=hS.D _ hm
  rw [J1,sX,J1,K6,J1,K6,L.K3,sX,A.GP h1]
  intro hn hk hi m hm' hl
  have ga:(Rf.val ρ (.a a)).l=(x.val ρ).l.set (i.ev (nu ρ 0)).toNat (y.val ρ):=h4
  rw [ga] at hl ⊢
  rw [List.length_set] at hl
  rw [rE,if_neg (by omega)]
  exact hn m (by omega) hl
noncomputable def Yh:nE:=fun st ct K=>J8 8 ct fun u ct=>fR ct fun k ct=>fR ct fun k' ct=>K (im (Li (.a u) k) (im (gN k k') (Li (.a u) k'))) ct
theorem My {ct:Nat}{K:Fm→Nat→Bool}(h:Yh st ct K=true):Gv cx st K:=by
 unfold Yh at h
 obtain⟨u,c1,h⟩:=I0 h
 obtain⟨k,c2,h⟩:=T9 h
 obtain⟨k',c3,h⟩:=T9 h
 refine⟨_,_,fun ρ hS=>?_,h⟩
 rw [J1,sX,J1,K6,sX]
 exact fun hn hk m hm hl=>hn m (by omega) hl
noncomputable def Yi:nE:=fun st ct K=>J8 8 ct fun S ct=>J8 8 ct fun u ct=>J8 8 ct fun v ct=>K (im (TA (.a u) (.a v)) (im (ZH (.a S) (.a v)) (ZH (.a S) (.a u)))) ct
theorem Mz {ct:Nat}{K:Fm→Nat→Bool}(h:Yi st ct K=true):Gv cx st K:=by
 unfold Yi at h
 obtain⟨S,c1,h⟩:=I0 h
 obtain⟨u,c2,h⟩:=I0 h
 obtain⟨v,c3,h⟩:=I0 h
 refine⟨_,_,fun ρ hS=>?_,h⟩
 rw [J1,fO,J1,jF,jF]
 intro h1 h2 i
 have:=h1 i
 rw [h1 i]
 exact h2 i
noncomputable def Yj:nE:=fun st ct K=>J8 8 ct fun d ct=>oQ st.D d fun de=>Df.casesOn (motive:=fun _=>Bool) de (fun _ _ _=>false) fun a x i y=>K (im (Vb x.rf i) (im y.bo (im (gN (i.O8 1) x.len) (gN ((lm (Nat.add (Nat.mul 8 a) 7)).O8 1) x.fc)))) ct
theorem Na {ct:Nat}{K:Fm→Nat→Bool}(h:Yj st ct K=true):Gv cx st K:=by
 unfold Yj at h
 obtain⟨d,c1,h⟩:=I0 h
 obtain⟨de,hm,h⟩:=M8 h
 cases de with
 |ms a ls es=>cases h
 |sp a x i y=>
  refine⟨_,_,fun ρ hS=>?_,h⟩
  obtain⟨h1,h2,h3,h4⟩:=hS.D _ hm
  have ea:nu ρ 0 (Nat.add (Nat.mul 8 a) 7)=rI (ρ a).l:=Nq
  rw [J1,MY,J1,A.wT h2,J1,K6,K6,L.K3,L.K3,L5,ea,A.V8 h1,A.Fj h1,A.GP h1,h4]
  intro he hy hl
  obtain⟨_,g2⟩:=LR (l:=(x.val ρ).l) (k:=(i.ev (nu ρ 0)).toNat) hy
  have:=g2 (by omega) he
  omega
noncomputable def Yk:nE:=fun st ct K=>J8 8 ct fun c ct=>J8 8 ct fun d ct=>oQ st.C c fun ce=>Ce.casesOn (motive:=fun _=>Bool) ce fun u i x=>oQ st.C d fun cd=>Ce.casesOn (motive:=fun _=>Bool) cd fun v j y=>K (im (Lk (.a u) (.a v) i) (im (aU i j) (im (aU x.len y.len) (Lk (.a u) (.a v) (i.O8 1))))) ct
theorem Nb {ct:Nat}{K:Fm→Nat→Bool}(h:Yk st ct K=true):Gv cx st K:=by
 unfold Yk at h
 obtain⟨c,c1,h⟩:=I0 h
 obtain⟨d,c2,h⟩:=I0 h
 obtain⟨⟨u,i,x⟩,hm,h⟩:=M8 h
 obtain⟨⟨v,j,y⟩,hn,h⟩:=M8 h
 refine⟨_,_,fun ρ hS=>?_,h⟩
 have h1:=hS.C _ hm
 have h2:=hS.C _ hn
 obtain⟨k1,e1,v1⟩:=gV h1
 obtain⟨k2,e2,v2⟩:=gV h2
 rw [J1,sZ,J1,N8,J1,N8,sZ,A.V8 h1.1,A.V8 h2.1,v1,v2,L.K3,e1,e2]
 intro hz he hl m hm'
 obtain rfl:k1=k2:=by omega
 by_cases hk:m=k1
 ·subst hk
  show ((ρ u).l[m]?.getD .top).l.length=((ρ v).l[m]?.getD .top).l.length
  omega
 ·exact hz m (by omega)
noncomputable def Yl:nE:=fun st ct K=>J8 8 ct fun c ct=>fR ct fun k ct=>fR ct fun n ct=>oQ st.C c fun ce=>Ce.casesOn (motive:=fun _=>Bool) ce fun u i x=>K (im (Zq (.a u) k n) (im (aU i k) (aU x.H7 n))) ct
theorem Nc {ct:Nat}{K:Fm→Nat→Bool}(h:Yl st ct K=true):Gv cx st K:=by
 unfold Yl at h
 obtain⟨c,c1,h⟩:=I0 h
 obtain⟨k,c2,h⟩:=T9 h
 obtain⟨n,c3,h⟩:=T9 h
 obtain⟨⟨u,i,x⟩,hm,h⟩:=M8 h
 refine⟨_,_,fun ρ hS=>?_,h⟩
 have h1:=hS.C _ hm
 rw [J1,Lf,J1,N8,N8,A.jB h1.1,h1.2.2]
 intro hg he
 rw [he];exact hg
noncomputable def Ym:nE:=fun _ ct K=>J8 8 ct fun u ct=>K (Lj (.a u) (.s []) (.c 0)) ct
theorem Nd {ct:Nat}{K:Fm→Nat→Bool}(h:Ym st ct K=true):Gv cx st K:=by
 unfold Ym at h
 obtain⟨u,c1,h⟩:=I0 h
 refine⟨_,_,fun ρ hS=>?_,h⟩
 rw [GL,L.dY]
 exact⟨Int.le_refl 0,by show bP []≤_;simp [bP]⟩
noncomputable def Il (k:K):Bool:=K.casesOn (motive:=fun _=>Bool) k (fun _=>false) false false (fun _ _ _=>true) (fun _ _ _=>false) false
theorem OW {ρ:Nat→D}{a:Nat}(hS:KU cx.tab ρ st)(h:Il (kindOf (DF st) a)=true):∃ sz xs,ρ a = .Z sz xs:=by
 have hk:HK (HP cx.tab) ρ (kindOf (DF st) a) (ρ a):=by cases st with|mk nx G F D_ C=>exact aP hS.G
 generalize kindOf (DF st) a=k at h hk
 cases k with
 |l sz p ps=>obtain⟨xs,e,_⟩:=hk;exact⟨sz,xs,e⟩
 |_=>cases h
theorem Gp (d:D):bP d.l+1≤bR d:=by cases d<;>simp [D.l,bR,bP]
theorem DJ:∀ (u:List D) (k:Nat),bP (u.take k)≤bP u
 |[],k=>by simp
 |x::u,0=>by simp [bP]
 |x::u,k+1=>by simp only [List.take_succ_cons,bP];have:=DJ u k;omega
theorem DI:∀ (u:List D) (k:Nat),k<u.length→bP (u.take (k+1))=bP (u.take k)+bR (u[k]?.getD .top)+1
 |[],k,h=>by simp at h
 |x::u,0,h=>by simp [bP]
 |x::u,k+1,h=>by
  have:=DI u k (by simpa using h)
  simp only [List.take_succ_cons,bP,List.getElem?_cons_succ] at this ⊢
  omega
noncomputable def Yn:nE:=fun st ct K=>J8 8 ct fun c ct=>J8 8 ct fun v ct=>J8 8 ct fun w ct=>H9 (Il (kindOf (DF st) v)) (oQ st.C c fun ce=>Ce.casesOn (motive:=fun _=>Bool) ce fun u i x=>K (im (Lj (.a u) (.a v) i) (im (gN (i.O8 1) (lm (Nat.add (Nat.mul 8 u) 1))) (im (gN (lm (Nat.add (Nat.mul 8 w) 2)) ((lm (Nat.add (Nat.mul 8 v) 2)).add ((x.uR.mul 2).O8 2))) (Lj (.a u) (.a w) (i.O8 1))))) ct) false
theorem Nf {ct:Nat}{K:Fm→Nat→Bool}(h:Yn st ct K=true):Gv cx st K:=by
 unfold Yn at h
 obtain⟨c,c1,h⟩:=I0 h
 obtain⟨v,c2,h⟩:=I0 h
 obtain⟨w,c3,h⟩:=I0 h
 obtain⟨hl,h⟩:=I3 h
 obtain⟨⟨u,i,x⟩,hm,h⟩:=M8 h
 refine⟨_,_,fun ρ hS=>?_,h⟩
 have h1:=hS.C _ hm
 obtain⟨sz,xs,ev⟩:=OW hS hl
 obtain⟨k,ek,vk⟩:=gV h1
 have e1:nu ρ 0 (Nat.add (Nat.mul 8 u) 1)=((ρ u).l.length:Nat):=gO
 have e2:nu ρ 0 (Nat.add (Nat.mul 8 w) 2)=bR (ρ w):=JI
 have e3:nu ρ 0 (Nat.add (Nat.mul 8 v) 2)=bR (ρ v):=JI
 rw [J1,GL,J1,K6,J1,K6,GL,L.K3,L5,L5,L.eU,L5,L.K3,L.X8,A.zU 0 h1.1,e1,e2,e3,ek,vk]
 intro hq hk hw
 have g:(Rf.val ρ (.a u))=ρ u:=rfl
 have g':(Rf.val ρ (.a v))=ρ v:=rfl
 have g2:(Rf.val ρ (.a w))=ρ w:=rfl
 rw [g,g'] at hq
 rw [g,g2]
 obtain⟨q0,q1⟩:=hq
 refine⟨by omega,?_⟩
 have f1:=DI (ρ u).l k (by omega)
 have f2:=Gp (ρ w)
 have f3:bR (ρ v)=bP (ρ v).l+1:=by rw [ev];simp [bR,D.l]
 have t1:((k:Int)+1).toNat=k+1:=by omega
 have t2:(k:Int).toNat=k:=by omega
 rw [t2] at q1
 rw [t1,f1]
 omega
noncomputable def Yo:nE:=fun st ct K=>J8 8 ct fun u ct=>J8 8 ct fun w ct=>fR ct fun i ct=>H9 (Il (kindOf (DF st) w)) (K (im (Lj (.a u) (.a w) i) (gN (lm (Nat.add (Nat.mul 8 w) 2)) (((lm (Nat.add (Nat.mul 8 u) 2)).mul 2).O8 (-1)))) ct) false
theorem Ng {ct:Nat}{K:Fm→Nat→Bool}(h:Yo st ct K=true):Gv cx st K:=by
 unfold Yo at h
 obtain⟨u,c1,h⟩:=I0 h
 obtain⟨w,c2,h⟩:=I0 h
 obtain⟨i,c3,h⟩:=T9 h
 obtain⟨hl,h⟩:=I3 h
 refine⟨_,_,fun ρ hS=>?_,h⟩
 obtain⟨sz,xs,ew⟩:=OW hS hl
 have e2:nu ρ 0 (Nat.add (Nat.mul 8 w) 2)=bR (ρ w):=JI
 have e3:nu ρ 0 (Nat.add (Nat.mul 8 u) 2)=bR (ρ u):=JI
 rw [J1,GL,K6,L5,L.K3,L.X8,L5,e2,e3]
 intro hq
 have g:(Rf.val ρ (.a u))=ρ u:=rfl
 have g2:(Rf.val ρ (.a w))=ρ w:=rfl
 rw [g,g2] at hq
 obtain⟨_,q1⟩:=hq
 have f1:=DJ (ρ u).l (i.ev (nu ρ 0)).toNat
 have f2:=Gp (ρ u)
 have f3:bR (ρ w)=bP (ρ w).l+1:=by rw [ew];simp [bR,D.l]
 omega
noncomputable def VW:List nE:=[w0,w1,w2,w3,w4,w5,w6,w7,w8,w9,Xv,Xw,Xx,Xy,Xz,Ya,Yb,Yc,Yd,Ye,Yf,Yg,Yh,Yi,Yj,Yk,Yl,Ym,Yn,Yo]
theorem Iw {t ct:Nat}{K:Fm→Nat→Bool}(h:L3 (fun _ _ _=>false) VW t st ct K=true):Gv cx st K:=by
 by_cases ht:t<30
 ·unfold VW at h
  match t,ht with
  |0,_=>exact To h
  |1,_=>exact Tq h
  |2,_=>exact Tr h
  |3,_=>exact Ts h
  |4,_=>exact Tt h
  |5,_=>exact Tu h
  |6,_=>exact Tv h
  |7,_=>exact Tw h
  |8,_=>exact Tx h
  |9,_=>exact Tz h
  |10,_=>exact Mm h
  |11,_=>exact Mn h
  |12,_=>exact Mo h
  |13,_=>exact Mp h
  |14,_=>exact Mq h
  |15,_=>exact Mr h
  |16,_=>exact Ms h
  |17,_=>exact Mt h
  |18,_=>exact Mu h
  |19,_=>exact Mv h
  |20,_=>exact Mw h
  |21,_=>exact Mx h
  |22,_=>exact My h
  |23,_=>exact Mz h
  |24,_=>exact Na h
  |25,_=>exact Nb h
  |26,_=>exact Nc h
  |27,_=>exact Nd h
  |28,_=>exact Nf h
  |29,_=>exact Ng h
 ·rw [Y8 (by simp only [VW,A0,A8];omega)] at h
  cases h
noncomputable def Iv (n:Nat):St→Nat→(St→Nat→Bool)→Bool:=Nat.rec (motive:=fun _=>St→Nat→(St→Nat→Bool)→Bool) (fun _ _ _=>false) (fun _ ih st ct k=>tok ct fun t ct=>Nat.rec (motive:=fun _=>Bool) (k st ct) (fun t _=>L3 (fun _ _ _=>false) VW t st ct fun f ct=>ih (St.casesOn (motive:=fun _=>St) st fun nx G F D C=> .mk nx G (f::F) D C) ct k) t) n
noncomputable def Iu:St→Nat→(St→Nat→Bool)→Bool:=Iv 400
theorem Sat.fact {tab:Nat→Pd}{ρ:Nat→D}{nx:Nat}{G:List Sg}{F:List Fm}{D_:List Df}{C:List Ce}{f:Fm}(h:Sat tab ρ (.mk nx G F D_ C))(hf:∀ ρ,KU tab ρ (.mk nx G F D_ C)→f.bv ρ=true):Sat tab ρ (.mk nx G (f::F) D_ C):=fun ρ' ha=>by
 have h':=h ρ' ha
 exact⟨h'.G,Hs.cons (hf ρ' h') h'.F,h'.D,h'.C⟩
theorem PA {ρ:Nat→D}:∀ {n:Nat} {st:St} {ct:Nat} {k:St→Nat→Bool},Iv n st ct k=true→Sat cx.tab ρ st→∃ st' ct',st'.nx=st.nx∧Sat cx.tab ρ st'∧k st' ct'=true
 |0,st,ct,k,h,hS=>by cases h
 |n+1,st,ct,k,h,hS=>by
  have h:tok ct (fun t ct=>Nat.rec (motive:=fun _=>Bool) (k st ct) (fun t _=>L3 (fun _ _ _=>false) VW t st ct fun f ct=>Iv n (St.casesOn (motive:=fun _=>St) st fun nx G F D C=> .mk nx G (f::F) D C) ct k) t)=true:=h
  rw [cK] at h
  generalize ct % 32=t at h
  cases t with
  |zero=>exact⟨st,_,rfl,hS,h⟩
  |succ t=>
   obtain⟨f,ct',hf,h⟩:=Iw (cx:=cx) h
   cases st with
   |mk nx G F D_ C=>
    obtain⟨st',c2,e1,e2,h⟩:=PA (n:=n) h (hS.fact hf)
    exact⟨st',c2,e1,e2,h⟩
theorem OZ {ρ:Nat→D}{st:St}{ct:Nat}{k:St→Nat→Bool}(h:Iu st ct k=true)(hS:Sat cx.tab ρ st):∃ st' ct',st'.nx=st.nx∧Sat cx.tab ρ st'∧k st' ct'=true:=PA h hS
end
end Go.AE.Q
namespace Go.AE.Q
inductive fX where
 |mk (ng:Nat) (ar re:Tp) (er:List Tp) (b:Bool) (lv:Nat) (me:L)
noncomputable def nK (t:Tp):Nat:=Tp.casesOn (motive:=fun _=>Nat) t fun _ tl _ _=>P7 (oR tl)
structure Ox where
 con:Nat→fX
 ho:Nat→List Ty
 b:Bool
 re:Tp
 er:List Tp
 n0:Nat
 σ0:Nat→A
 lv:Nat
 me:L
noncomputable def Uo (a b:Bool):Bool:=H9 a b (H9 b false true)
theorem Ht {a b:Bool}(h:Uo a b=true):a=b:=by cases a<;>cases b<;>first|rfl|cases h
theorem Hu {a b:Bool}(h:Uo a b=false):a=!b:=by cases a<;>cases b<;>first|rfl|cases h
noncomputable def zO (cx:Cx) (ox:Ox) (b:Bool) (xs:List A) (st:St) (ct:Nat):Bool:=H9 (Uo b ox.b) (Np cx st ox.re ox.n0 ox.σ0 xs ct fun _ _ _=>true) (H9 b (List.casesOn (motive:=fun _=>Bool) ox.er false fun t _=>Np cx st t ox.n0 ox.σ0 xs ct fun _ _ _=>true) false)
noncomputable def Dv (V:Nat→A) (n:Nat):Nat→List A→List A:=Nat.rec (motive:=fun _=>Nat→List A→List A) (fun _ r=>r) (fun _ ih i r=>V i::ih (Nat.succ i) r) n
noncomputable def Ul (cx:Cx) (V:Nat→A) (es:List Ar):St→Nat→(List A→St→Nat→Bool)→Bool:=List.rec (motive:=fun _=>St→Nat→(List A→St→Nat→Bool)→Bool) (fun st ct K=>K [] st ct)
 (fun a _ ih st ct K=>Ar.casesOn (motive:=fun _=>Bool) a (fun e=>O4 cx V e st ct fun x st ct=>ih st ct fun r st ct=>K (x::r) st ct) (fun i n=>ih st ct fun r st ct=>K (Dv V n i r) st ct)) es
noncomputable def Ah (cx:Cx) (V:Nat→A) (e:E):St→Nat→(A→St→Nat→Bool)→Bool:=fun st ct K=>O4 cx V e st ct fun a st ct=>Iu st ct fun st ct=>K a st ct
noncomputable def TS (cx:Cx) (V:Nat→A) (es:List Ar):St→Nat→(List A→St→Nat→Bool)→Bool:=fun st ct K=>Ul cx V es st ct fun a st ct=>Iu st ct fun st ct=>K a st ct
noncomputable def Gf (nx n:Nat):Nat→L→(L→Nat→Bool)→Bool:=Nat.rec (motive:=fun _=>Nat→L→(L→Nat→Bool)→Bool) (fun ct e K=>K e ct) (fun _ ih ct e K=>J8 8 ct fun i ct=>HB ct fun c ct=>H9 (Nat.beq (Nat.mod i 8) 3) false (H9 (Nat.blt (Nat.div i 8) nx) (L.fr (e.ins i c) fun e=>ih ct e K) false)) n
noncomputable def Xj (nx ct:Nat) (K:L→Nat→Bool):Bool:=HB ct fun c ct=>J8 8 ct fun n ct=>Gf nx n ct (.c c) K
noncomputable def Dt (nx n:Nat):Nat→(List A→Nat→Bool)→Bool:=Nat.rec (motive:=fun _=>Nat→(List A→Nat→Bool)→Bool) (fun ct K=>K [] ct) (fun _ ih ct K=>Xj nx ct fun e ct=>ih ct fun r ct=>K (.n .i64 e::r) ct) n
noncomputable def Zu (st:St):Nat:=St.casesOn (motive:=fun _=>Nat) st fun nx _ _ _ _=>nx
noncomputable def tV (cx:Cx) (ox:Ox) (ng:Nat) (ar:Tp) (lv:Nat) (me:L) (xs:List A) (st:St) (ct:Nat) (K:(Nat→A)→Nat→Nat→Bool):Bool:=Dt (Zu st) ng ct fun gs ct=>Np cx st ar ng (aR (fun _=> .c .top) 0 gs) xs ct fun σ n ct=>H9 (Nat.blt lv ox.lv) (K σ n ct) (H9 (Nat.beq lv ox.lv) (oS st (.an (.ge (ox.me.O8 (-1))) (.ge ((ox.me.sub (me.jN σ)).O8 (-1)))) ct fun ct=>K σ n ct) false)
noncomputable def SP (hs:List Ty):List A→Bool:=List.rec (motive:=fun _=>List A→Bool) (fun xs=>List.casesOn (motive:=fun _=>Bool) xs true (fun _ _=>false)) (fun t _ ih xs=>List.casesOn (motive:=fun _=>Bool) xs false (fun x xs=>H9 (Gr t x) (ih xs) false)) hs
noncomputable def Re (k:K):Bool:=K.casesOn (motive:=fun _=>Bool) k (fun _=>true) true true (fun _ _ _=>false) (fun _ _ _=>false) false
noncomputable def Nt (t:Pd):Bool:=Pd.casesOn (motive:=fun _=>Bool) t (fun _ k _=>Re k) (fun _ ks _=>U8 Re ks)
noncomputable def Vf (cx:Cx) (st:St) (x:A):Bool:=A.casesOn (motive:=fun _=>Bool) x (fun _ _=>true) (fun _=>true) (fun _ _=>true) (fun a _ _=>K.casesOn (motive:=fun _=>Bool) (kindOf (DF st) a) (fun _=>true) true true (fun _ p _=>Nt (cx.tab p)) (fun _ p _=>Nt (cx.tab p)) false) (fun _=>false) true (fun _ _=>true) (fun _=>true)
noncomputable def zI (V:Nat→A) (m:Nat) (x:A):Nat→A:=fun i=>H9 (Nat.blt i m) (V i) x
noncomputable def tC (f:Fm) (st:St):St:=St.casesOn (motive:=fun _=>St) st fun nx G F D C=> .mk nx G (f::F) D C
noncomputable def lF (ct:Nat) (K:Nat→Nat→Bool):Bool:=J8 8 ct fun n ct=>Y3 (Nat.pow 32 n) fun q=>Y3 (Nat.mod ct q) fun a=>Y3 (Nat.div ct q) fun b=>K a b
noncomputable def Ko (ty:Ty) (a:A):W0:=fun st ct K=>A.casesOn (motive:=fun _=>Bool) a (fun _ _=>K a st ct) (fun _=>K a st ct) (fun _ _=>K a st ct) (fun _ _ _=>K a st ct)
 (fun b=>Q.K.casesOn (motive:=fun _=>Bool) (kindOf (DF st) b) (fun _=>K a st ct) (K a st ct) (K a st ct) (fun _ _ _=>K a st ct) (fun sz _ _=>oS st (.nn b) ct fun ct=>K (.l b sz (lm (Nat.add (Nat.mul 8 b) 1))) st ct) (K a st ct))
 (K a st ct) (fun _ _=>K a st ct) (fun _=>K a st ct)
abbrev JT:=List A→St→Nat→Bool
noncomputable def aL (cx:Cx) (ox:Ox) (t:T):List JT→Nat→(Nat→A)→St→Nat→Bool:=T.rec (motive:=fun _=>List JT→Nat→(Nat→A)→St→Nat→Bool)
 (fun _ _ _ st ct=>oS st .f ct fun _=>true)
 (fun b es _ _ V st ct=>TS cx V es st ct fun xs st ct=>zO cx ox b xs st ct)
 (fun c _ _ ihx ihy J m V st ct=>Ah cx V c st ct fun a st ct=>tok ct fun t ct=>H9 (Nat.beq t 0) (lF ct fun c1 c2=>H9 (ihx J m V (tC a.bo st) c1) (ihy J m V (tC a.bo.neg st) c2) false) (H9 (Nat.beq t 1) (oS st a.bo ct fun ct=>ihx J m V st ct) (oS st a.bo.neg ct fun ct=>ihy J m V st ct)))
 (fun c _ ihx J m V st ct=>Ah cx V c st ct fun a st ct=>oS st a.bo ct fun ct=>ihx J m V st ct)
 (fun ty e _ ihx J m V st ct=>H9 (V9 ty) (Ah cx V e st ct fun a st ct=>Ko ty a st ct fun a st ct=>H9 (Gr ty a) (ihx J (Nat.succ m) (zI V m a) st ct) false) false)
 (fun e _ ihx J m V st ct=>Ah cx V e st ct fun a st ct=>ihx J (Nat.succ m) (zI V m a) st ct)
 (fun p f es _ ihx J m V st ct=>TS cx V es st ct fun xs st ct=>fX.casesOn (motive:=fun _=>Bool) (ox.con f) fun ng ar re _ b lv me=>H9 b (tV cx ox ng ar lv me xs st ct fun σ n ct=>SA cx st re n σ fun ys _ _ st=>H9 (SP (ox.ho f) ys) (H9 (H9 p (U8 (Vf cx st) ys) true) (Y3 (Nat.add m (P7 ys)) fun m'=>ihx J m' (aR V m ys) st ct) false) false) false)
 (fun f es _ ihx J m V st ct=>TS cx V es st ct fun xs st ct=>fX.casesOn (motive:=fun _=>Bool) (ox.con f) fun ng ar re er b lv me=>H9 b false (tV cx ox ng ar lv me xs st ct fun σ n ct=>lF ct fun c1 c2=>H9 (List.casesOn (motive:=fun _=>Bool) er true fun t _=>SA cx st t n σ fun ys _ _ st=>zO cx ox true ys st c1)
  (SA cx st re n σ fun ys _ _ st=>H9 (SP (ox.ho f) ys) (Y3 (Nat.add m (P7 ys)) fun m'=>ihx J m' (aR V m ys) st c2) false) false))
 (fun f es _ _ V st ct=>TS cx V es st ct fun xs st ct=>fX.casesOn (motive:=fun _=>Bool) (ox.con f) fun ng ar re er b lv me=>tV cx ox ng ar lv me xs st ct fun σ n ct=>lF ct fun c1 c2=>H9 (H9 b true (List.casesOn (motive:=fun _=>Bool) er true fun t _=>SA cx st t n σ fun ys _ _ st=>zO cx ox true ys st c1)) (SA cx st re n σ fun ys _ _ st=>zO cx ox b ys st c2) false)
 (fun _ _ _ _ _ _ _ _ _=>false)
 (fun _ _ ihb ihx J m V st ct=>ihx ((fun xs st ct=>Y3 (Nat.add m (P7 xs)) fun m'=>ihb J m' (aR V m xs) st ct)::J) m V st ct)
 (fun i es J _ V st ct=>TS cx V es st ct fun xs st ct=>L3 (fun _ _ _=>false) J i xs st ct)
 t
def DV (tab:Nat→Pd)(δ:Nat→D)(n:Nat)(b:Bool)(re:Tp)(er:List Tp)(z:Bool×List D):Prop:=(z.1=b∧∃ δ',L4 n δ δ'∧SW (n+nK re) δ'∧AN tab δ' n re z.2)∨(b=false∧z.1=true∧∃ t δ',er.head? = some t∧L4 n δ δ'∧SW (n+nK t) δ'∧AN tab δ' n t z.2)
def Gh (n:Nat)(δ:Nat→D):Prop:=∀ i,i<n→δ i = .int .i64 (δ i).i
def Good (tab:Nat→Pd)(R:Nat→Nat→List D→Out)(f:Nat):fX→Prop
 | .mk ng ar re er b _ _=>∀ δ xs,SW (ng+nK ar) δ→Gh ng δ→AN tab δ ng ar xs→U (fun n=>R n f xs) (DV tab δ (ng+nK ar) b re er)
def oV (tab:Nat→Pd)(R:Nat→Nat→List D→Out)(lv0:Nat)(m0:Int)(f:Nat):fX→Prop
 | .mk ng ar re er b lv me=>∀ δ xs,(lv<lv0∨lv=lv0∧1≤m0∧me.ev (nu δ 0)+1≤m0)→SW (ng+nK ar) δ→Gh ng δ→AN tab δ ng ar xs→U (fun n=>R n f xs) (DV tab δ (ng+nK ar) b re er)
section
variable {cx:Cx} {ox:Ox} (hR:rL cx)
theorem WL {t:Tp}{N n:Nat}(h:∀ sh tl cl fm,t = .mk sh tl cl fm→N=n+(oR tl).length):N=n+nK t:=by
 cases t with
 |mk sh tl cl fm=>rw [h sh tl cl fm rfl];show _=n+P7 (oR tl);rw [P8]
theorem CQ {t:Tp}{N n:Nat}(h:N=n+nK t):∀ sh tl cl fm,t = .mk sh tl cl fm→N=n+(oR tl).length:=by
 rintro sh tl cl fm rfl
 rw [h];show n+P7 (oR tl)=_;rw [P8]
include hR
theorem vU {ρ:Nat→D}{st:St}(hS:Sat cx.tab ρ st){δ:Nat→D}(hσ:wF ρ st.nx ox.σ0 δ){b:Bool}{xs:List A}{ds:List D}{ct:Nat}(hx:S6 ρ st.nx xs ds)(h:zO cx ox b xs st ct=true):DV cx.tab δ ox.n0 ox.b ox.re ox.er (b,ds):=by
 unfold zO at h
 cases hb:Uo b ox.b with
 |true=>
  rw [hb] at h
  have h:Np cx st ox.re ox.n0 ox.σ0 xs ct (fun _ _ _=>true)=true:=h
  obtain⟨σ',δ',m,ct,_,h1,h2,h3,_,_,h4⟩:=MH hR hS hσ hx h
  rw [WL h4] at h2
  exact .inl ⟨Ht hb,δ',h1,h2,h3⟩
 |false=>
  rw [hb] at h
  obtain⟨hb1,h⟩:=I3 (show H9 b _ false=true from h)
  have hb2:=Hu hb
  cases her:ox.er with
  |nil=>rw [her] at h;cases h
  |cons t r=>
   rw [her] at h
   have h:Np cx st t ox.n0 ox.σ0 xs ct (fun _ _ _=>true)=true:=h
   obtain⟨σ',δ',m,ct,_,h1,h2,h3,_,_,h4⟩:=MH hR hS hσ hx h
   rw [WL h4] at h2
   refine .inr ⟨?_,hb1,t,δ',by rfl,h1,h2,h3⟩
   rw [hb1] at hb2
   cases hq:ox.b with
   |true=>rw [hq] at hb2;cases hb2
   |false=>rfl
omit hR in
theorem QC {ρ:Nat→D}{nx:Nat}{V:Nat→A}{Vd:Nat→D}(hV:QU ρ nx V Vd):∀ (n i:Nat) {r:List A} {ds:List D},S6 ρ nx r ds→S6 ρ nx (Dv V n i r) (Sv Vd i n++ds)
 |0,i,r,ds,h=>h
 |n+1,i,r,ds,h=>⟨hV i,QC hV n (i+1) h⟩
theorem KZ {V:Nat→A}{Vd:Nat→D}:∀ {es:List Ar} {ρ:Nat→D} {st:St} {ct:Nat} {K:List A→St→Nat→Bool},Ul cx V es st ct K=true→Sat cx.tab ρ st→QU ρ st.nx V Vd→∃ ρ1 L9 xs ct1,L4 st.nx ρ ρ1∧st.nx≤L9.nx∧Sat cx.tab ρ1 L9∧S6 ρ1 L9.nx xs (pC Vd es)∧K xs L9 ct1=true
 |[],ρ,st,ct,K,h,hS,hV=>⟨ρ,st,[],ct,L4.refl,B9 _,hS,trivial,h⟩
 | .e x::es,ρ,st,ct,K,h,hS,hV=>by
  have h:O4 cx V x st ct (fun x st ct=>Ul cx V es st ct fun r st ct=>K (x::r) st ct)=true:=h
  obtain⟨ρ1,L9,a,ct1,a1,a2,a3,a4,a5⟩:=H6 hR (Vd:=Vd) x ρ st ct _ h hS hV
  obtain⟨ρ2,st2,xs,ct2,b1,b2,b3,b4,b5⟩:=KZ (es:=es) a5 a3 (hV.mono a1 a2)
  exact⟨ρ2,st2,a::xs,ct2,a1.trans a2 b1,Nat.le_trans a2 b2,b3,⟨a4.mono b1 b2,b4⟩,b5⟩
 | .r i n::es,ρ,st,ct,K,h,hS,hV=>by
  have h:Ul cx V es st ct (fun r st ct=>K (Dv V n i r) st ct)=true:=h
  obtain⟨ρ2,st2,xs,ct2,b1,b2,b3,b4,b5⟩:=KZ (es:=es) h hS hV
  exact⟨ρ2,st2,Dv V n i xs,ct2,b1,b2,b3,QC (hV.mono b1 b2) n i b4,b5⟩
theorem ES {V:Nat→A}{Vd:Nat→D}(e:E)(ρ:Nat→D)(st:St)(ct:Nat)(K:A→St→Nat→Bool)(h:Ah cx V e st ct K=true)(hS:Sat cx.tab ρ st)(hV:QU ρ st.nx V Vd):∃ ρ1 L9 a ct1,L4 st.nx ρ ρ1∧st.nx≤L9.nx∧Sat cx.tab ρ1 L9∧M9 ρ1 L9.nx a (e.den Vd)∧K a L9 ct1=true:=by
 obtain⟨ρ1,L9,a,ct1,a1,a2,a3,a4,h⟩:=H6 hR (Vd:=Vd) e ρ st ct _ h hS hV
 obtain⟨st2,ct2,e1,a3,h⟩:=OZ h a3
 exact⟨ρ1,st2,a,ct2,a1,e1▸a2,a3,e1▸a4,h⟩
theorem wN {V:Nat→A}{Vd:Nat→D}{es:List Ar}{ρ:Nat→D}{st:St}{ct:Nat}{K:List A→St→Nat→Bool}(h:TS cx V es st ct K=true)(hS:Sat cx.tab ρ st)(hV:QU ρ st.nx V Vd):∃ ρ1 L9 xs ct1,L4 st.nx ρ ρ1∧st.nx≤L9.nx∧Sat cx.tab ρ1 L9∧S6 ρ1 L9.nx xs (pC Vd es)∧K xs L9 ct1=true:=by
 obtain⟨ρ1,L9,a,ct1,a1,a2,a3,a4,h⟩:=KZ hR (Vd:=Vd) (es:=es) h hS hV
 obtain⟨st2,ct2,e1,a3,h⟩:=OZ h a3
 exact⟨ρ1,st2,a,ct2,a1,e1▸a2,a3,e1▸a4,h⟩
omit hR in
theorem XS {ρ:Nat→D}{nx:Nat}:∀ {n ct:Nat} {e:L} {K:L→Nat→Bool} {v:Int},Gf nx n ct e K=true→bX ρ nx e v→∃ e' ct v',bX ρ nx e' v'∧K e' ct=true
 |0,ct,e,K,v,h,he=>⟨e,ct,v,he,h⟩
 |n+1,ct,e,K,v,h,he=>by
  have h:J8 8 ct (fun i ct=>HB ct fun c ct=>H9 (Nat.beq (Nat.mod i 8) 3) false (H9 (Nat.blt (Nat.div i 8) nx) (L.fr (e.ins i c) fun e=>Gf nx n ct e K) false))=true:=h
  obtain⟨i,c1,h⟩:=I0 h
  obtain⟨c,c2,e1⟩:=HC c1 fun c ct=>H9 (Nat.beq (Nat.mod i 8) 3) false (H9 (Nat.blt (Nat.div i 8) nx) (L.fr (e.ins i c) fun e=>Gf nx n ct e K) false)
  rw [e1] at h
  cases hb:Nat.beq (Nat.mod i 8) 3 with
  |true=>rw [hb] at h;cases h
  |false=>
   rw [hb] at h
   obtain⟨h1,h⟩:=I3 (show H9 (Nat.blt (Nat.div i 8) nx) _ false=true from h)
   rw [L.kO] at h
   have h3:¬ i % 8=3:=fun e=>by
    have:Nat.beq (Nat.mod i 8) 3=true:=by show Nat.beq (i % 8) 3=true;rw [e];rfl
    rw [this] at hb;cases hb
   have h1:i / 8<nx:=B3 h1
   refine XS (v:=c*nu ρ 0 i+v) h fun ρ' ha ix=>?_
   rw [L.nY,he ρ' ha]
   have:nu ρ' ix i=nu ρ 0 i:=by rw [nu,nu,if_neg h3,if_neg h3,ha _ h1]
   rw [this]
omit hR in
theorem PZ {ρ:Nat→D}{nx:Nat}:∀ {n ct:Nat} {K:List A→Nat→Bool},Dt nx n ct K=true→∃ gs ds ct,S6 ρ nx gs ds∧ds.length=n∧(∀ d∈ds,d = .int .i64 d.i)∧K gs ct=true
 |0,ct,K,h=>⟨[],[],ct,trivial,rfl,fun d hd=>(by cases hd),h⟩
 |n+1,ct,K,h=>by
  have h:Xj nx ct (fun e ct=>Dt nx n ct fun r ct=>K (.n .i64 e::r) ct)=true:=h
  unfold Xj at h
  obtain⟨c,c1,e1⟩:=HC ct fun c ct=>J8 8 ct fun m ct=>Gf nx m ct (.c c) fun e ct=>Dt nx n ct fun r ct=>K (.n .i64 e::r) ct
  rw [e1] at h
  obtain⟨m,c2,h⟩:=I0 h
  obtain⟨e,ct,v,he,h⟩:=XS (ρ:=ρ) (v:=c) h (fun _ _ _=>rfl)
  obtain⟨gs,ds,ct,h1,h2,h3,h⟩:=PZ (n:=n) h
  refine⟨.n .i64 e::gs,.int .i64 v::ds,ct,⟨M9.n he .i64,h1⟩,by simp [h2],fun d hd=>?_,h⟩
  rcases B7.1 hd with rfl|hd
  ·rfl
  ·exact h3 d hd
theorem wX {ρ:Nat→D}{st:St}(hS:Sat cx.tab ρ st){m0:Int}(hm0:bX ρ st.nx ox.me m0){R:Nat→Nat→List D→Out}{f ng:Nat}{ar re:Tp}{er:List Tp}{b:Bool}{lv:Nat}{me:L}(hG:oV cx.tab R ox.lv m0 f (.mk ng ar re er b lv me)){xs:List A}{ds:List D}{ct:Nat}{K:(Nat→A)→Nat→Nat→Bool}(hx:S6 ρ st.nx xs ds)(h:tV cx ox ng ar lv me xs st ct K=true) :
  ∃ σ δ n ct,wF ρ st.nx σ δ∧U (fun n=>R n f ds) (DV cx.tab δ n b re er)∧K σ n ct=true:=by
 unfold tV at h
 have hnx:Zu st=st.nx:=by cases st;rfl
 rw [hnx] at h
 obtain⟨gs,gd,ct,hg1,hg2,hg3,h⟩:=PZ (ρ:=ρ) h
 have hσ1:wF ρ st.nx (fun _=> .c .top) (fun _=> .top):=fun i ρ' _=>⟨rfl,aG⟩
 have hσ0:=zJ (n:=0) hσ1 hg1
 obtain⟨σ,δ,n,ct,h1,h2,h3,h4,h,_,h5⟩:=MH hR hS hσ0 hx h
 have hn:n=ng+nK ar:=WL h5
 have hgh:Gh ng δ:=fun i hi=>by
  rw [h2 i hi]
  show uO _ 0 gd i = .int .i64 (uO _ 0 gd i).i
  rw [uO,if_neg (Nat.not_lt_zero _),Nat.sub_zero]
  have hi':i<gd.length:=by omega
  rw [C2 hi']
  exact hg3 _ (C6 hi')
 cases hl:Nat.blt lv ox.lv with
 |true=>
  rw [hl] at h
  have hl:lv<ox.lv:=B3 hl
  exact⟨σ,δ,n,ct,h1,hn▸hG δ ds (.inl hl) (hn▸h3) hgh h4,h⟩
 |false=>
  rw [hl] at h
  obtain⟨he,h⟩:=I3 (show H9 (Nat.beq lv ox.lv) _ false=true from h)
  obtain⟨h6,ct,h⟩:=Q4 h hS
  obtain⟨g1,g2⟩:=Fm.T3.1 h6
  have g1:=Fm.I7.1 g1
  have g2:=Fm.I7.1 g2
  rw [L.K3,hm0 ρ L4.refl] at g1
  rw [L.K3,L.K0,hm0 ρ L4.refl,L.jO (h1.ok L4.refl),h1.wv L4.refl] at g2
  exact⟨σ,δ,n,ct,h1,hn▸hG δ ds (.inr ⟨P3 he,by omega,by omega⟩) (hn▸h3) hgh h4,h⟩
omit hR in
theorem vZ {ρ:Nat→D}{nx:Nat}:∀ {hs:List Ty} {xs:List A} {ds:List D},SP hs xs=true→S6 ρ nx xs ds→K4 hs ds=true
 |[],[],[],h,hx=>rfl
 |[],[],_::_,h,hx=>hx.elim
 |[],_::_,_,h,hx=>by cases h
 |_::_,[],_,h,hx=>by cases h
 |_::_,_::_,[],h,hx=>hx.elim
 |t::hs,x::xs,d::ds,h,hx=>by
  obtain⟨h1,h2⟩:=I3 h
  have e1:=NQ h1 (hx.1 ρ L4.refl).2
  rw [(hx.1 ρ L4.refl).1] at e1
  show (WO t d&&K4 hs ds)=true
  rw [e1,vZ h2 hx.2];rfl
def aE1:D→Bool
 | .bool _=>true
 | .int _ _=>true
 | .str _=>true
 |_=>false
def aD1:D→Bool
 | .Z _ xs=>xs.all zG
 |_=>true
omit hR in
theorem XN {hp:Hp}{ρ:Nat→D}{k:K}{d:D}(h:Re k=true)(hk:HK hp ρ k d):aE1 d=true:=by
 cases k with
 |i k=>obtain⟨n,rfl⟩:=hk;rfl
 |b=>obtain⟨n,rfl⟩:=hk;rfl
 |s=>obtain⟨n,rfl⟩:=hk;rfl
 |_=>cases h
omit hR in
theorem Lh {p:Nat}{pars:List Int}{d:D}(h:Nt (cx.tab p)=true)(hd:HP cx.tab p pars d):zG d=true:=by
 have hd:=eB.1 hd
 cases ht:cx.tab p with
 |sc np k fm=>
  rw [ht] at h hd
  have:=XN h hd.1
  cases d<;>first|rfl|cases this
 |st np ks fm=>
  rw [ht] at h hd
  obtain⟨⟨cs,rfl,hc⟩,h2,_⟩:=hd
  have h:U8 Re ks=true:=h
  show cs.all _=true
  refine B6.2 fun x hx=>?_
  obtain⟨j,hj,rfl⟩:=List.getElem_of_mem hx
  have h3:=h2 j (by omega)
  have hk:Re (ks[j]?.getD .u)=true:=by
   rw [C2 (by omega)]
   exact fY h _ (C6 _)
  have e:(D.agg cs).at_ j=cs[j]:=by simp [D.at_,D.cells,C2 hj]
  rw [e] at h3
  have:=XN hk h3
  generalize cs[j]=z at this
  cases z<;>first|rfl|cases this
omit hR in
theorem Lg {ρ:Nat→D}{st:St}(hS:Sat cx.tab ρ st){x:A}{d:D}(hx:M9 ρ st.nx x d)(h:Vf cx st x=true):aD1 d=true:=by
 have e0:=(hx ρ L4.refl).1
 have e1:=(hx ρ L4.refl).2
 cases x with
 |l a sz e=>
  have hk:=aP (a:=a) (YD hS)
  have h:K.casesOn (motive:=fun _=>Bool) (kindOf (DF st) a) (fun _=>true) true true (fun _ p _=>Nt (cx.tab p)) (fun _ p _=>Nt (cx.tab p)) false=true:=h
  have e0:ρ a=d:=e0
  rw [e0] at hk
  have el:∀ {xs p ps},Nt (cx.tab p)=true→EL (HP cx.tab) ρ xs p ps→xs.all zG=true:=fun {xs p ps} hp he=>B6.2 fun z hz=>by
   obtain⟨j,hj,rfl⟩:=List.getElem_of_mem hz
   have:=he j hj
   rw [C2 hj] at this
   exact Lh hp this
  generalize kindOf (DF st) a=kk at h hk
  cases kk with
  |i k=>obtain⟨n,rfl⟩:=hk;rfl
  |b=>obtain⟨n,rfl⟩:=hk;rfl
  |s=>obtain⟨n,rfl⟩:=hk;rfl
  |l sz p ps=>
   obtain⟨xs,rfl,he⟩:=hk
   exact el h he
  |r sz p ps=>
   rcases hk with ⟨u,v,rfl⟩|⟨xs,rfl,he⟩
   ·rfl
   ·exact el h he
  |u=>cases h
 |o a=>cases h
 |n k e=>rw [← e0];rfl
 |b f=>rw [← e0];rfl
 |s a e=>
  obtain⟨⟨t,e2⟩,_⟩:=e1
  have e0:ρ a=d:=e0
  rw [← e0,e2];rfl
 |gn=>rw [← e0];rfl
 |gc y r=>rw [← e0];rfl
 |c d'=>
  have e0:d'=d:=e0
  subst e0
  have e1:d'.l=[]:=e1.1
  cases d' with
  |Z sz xs=>
   have e1:xs=[]:=e1
   subst e1;rfl
  |_=>rfl
omit hR in
theorem PU {ρ:Nat→D}{st:St}(hS:Sat cx.tab ρ st){s:Sk}:∀ {xs:List A} {ds:List D},S6 ρ st.nx xs ds→U8 (Vf cx st) xs=true→U5 s ds=true
 |[],[],_,_=>rfl
 |[],_::_,h,_=>h.elim
 |_::_,[],h,_=>h.elim
 |x::xs,d::ds,h,h'=>by
  obtain⟨h1,h2⟩:=I3 h'
  have e1:=Lg hS h.1 h1
  have e2:=PU hS (s:=s) h.2 h2
  show (_&&U5 s ds)=true
  rw [e2,Bool.and_true]
  cases d<;>first|rfl|exact e1
omit hR in
theorem S6.len {ρ:Nat→D}{nx:Nat}:∀ {xs:List A} {ds:List D},S6 ρ nx xs ds→xs.length=ds.length
 |[],[],_=>rfl
 |[],_::_,h=>h.elim
 |_::_,[],h=>h.elim
 |x::xs,d::ds,h=>congrArg (·+1) (S6.len h.2)
omit hR in
theorem iY:∀ {hs:List Ty} {ds:List D},K4 hs ds=true→hs.length=ds.length
 |[],[],_=>rfl
 |[],_::_,h=>by cases h
 |_::_,[],h=>by cases h
 |t::hs,d::ds,h=>by
  simp only [K4,A9] at h
  exact congrArg (·+1) (iY h.2)
omit hR in
theorem vT {ρ:Nat→D}{nx:Nat}{V:Nat→A}{Vd:Nat→D}(hV:QU ρ nx V Vd){m:Nat}{ys:List A}{ds:List D}(hy:S6 ρ nx ys ds):QU ρ nx (aR V m ys) (iD Vd m ds):=fun i=>by
 have:=zJ (σ:=V) (δ:=Vd) (n:=m) hV hy i
 unfold uO at this
 unfold iD
 by_cases hi:i<m
 ·have h1:Nat.blt i m=true:=B2 hi
  rw [if_pos hi] at this
  rw [h1];exact this
 ·have h1:Nat.blt i m=false:=by cases hb:Nat.blt i m with|false=>rfl|true=>exact absurd (B3 hb) hi
  rw [if_neg hi] at this
  rw [h1]
  show M9 ρ nx _ (Y ds (i-m))
  rw [PK];exact this
omit hR in
theorem PW {ρ:Nat→D}{nx:Nat}{V:Nat→A}{Vd:Nat→D}(hV:QU ρ nx V Vd){m:Nat}{y:A}{d:D}(hy:M9 ρ nx y d):QU ρ nx (zI V m y) (push Vd m d):=fun i=>by
 unfold zI push
 cases Nat.blt i m with
 |true=>exact hV i
 |false=>exact hy
omit hR in
theorem CZ {ρ:Nat→D}{st:St}(hS:Sat cx.tab ρ st){f:Fm}(hf:oU ρ st.nx f true):Sat cx.tab ρ (tC f st)∧(tC f st).nx=st.nx:=by
 cases st with
 |mk nx G F D_ C=>
  refine⟨fun ρ' ha=>?_,rfl⟩
  have h0:=hS ρ' ha
  exact⟨h0.G,Hs.cons (hf ρ' ha) h0.F,h0.D,h0.C⟩
omit hR in
theorem zX {ct:Nat}{K:Nat→Nat→Bool}(h:lF ct K=true):∃ a b,K a b=true:=by
 unfold lF at h
 obtain⟨n,c,h⟩:=I0 h
 rw [N9,N9,N9] at h
 exact⟨_,_,h⟩
omit hR in
theorem Dd {ty:Ty}{a:A}{x:D}{ρ:Nat→D}{st:St}{ct:Nat}{K:A→St→Nat→Bool}(h:Ko ty a st ct K=true)(hS:Sat cx.tab ρ st)(ha:M9 ρ st.nx a x):R5 cx.tab ρ st x K:=by
 cases a with
 |o b=>
  have hk:=aP (a:=b) (YD hS)
  have e3:∀ ρ',L4 st.nx ρ ρ'→ρ' b=x:=fun ρ' h'=>(ha ρ' h').1
  have h:Q.K.casesOn (motive:=fun _=>Bool) (kindOf (DF st) b) (fun _=>K (.o b) st ct) (K (.o b) st ct) (K (.o b) st ct) (fun _ _ _=>K (.o b) st ct) (fun sz _ _=>oS st (.nn b) ct fun ct=>K (.l b sz (lm (Nat.add (Nat.mul 8 b) 1))) st ct) (K (.o b) st ct)=true:=h
  generalize kindOf (DF st) b=kk at h hk
  cases kk with
  |r sz p ps=>
   obtain⟨hg,ct,h⟩:=Q4 h hS
   have hg:(!O9 (ρ b))=true:=hg
   rcases hk with ⟨u,v,e⟩|⟨xs,e,_⟩
   ·rw [e] at hg;cases hg
   ·have e4:x = .Z sz xs:=by rw [← e3 ρ L4.refl,e]
    subst e4
    refine R5.now hS (fun ρ' h'=>?_) h
    have e5:=e3 ρ' h'
    exact⟨e5,⟨xs,e5⟩,fun ix=>L5.trans gO⟩
  |_=>exact R5.now hS ha h
 |_=>exact R5.now hS ha h
end
end Go.AE.Q
namespace Go.AE.Q
section
variable {sg:Nat→AE.Sg} {R:Nat→Nat→List D→Out} {cx:Cx} {ox:Ox}
noncomputable abbrev Dn (sg:Nat→AE.Sg) (R:Nat→Nat→List D→Out) (p:T) (J:Nat→List (List D→Out)) (m:Nat) (V:Nat→D):Nat→Out:=fun n=>p.den sg (R n) (J n) m V
def Uj (cx:Cx)(Q:Bool×List D→Prop)(ρ:Nat→D)(n:Nat)(J:List JT)(Jd:Nat→List (List D→Out)):Prop:=∀ i ρ' st' xs ds ct,L4 n ρ ρ'→n≤st'.nx→Sat cx.tab ρ' st'→S6 ρ' st'.nx xs ds→L3 (fun _ _ _=>false) J i xs st' ct=true→U (fun n=>yM (Jd n) i ds) Q
theorem Uj.mono {Q:Bool×List D→Prop}{ρ ρ1:Nat→D}{n m:Nat}{J:List JT}{Jd:Nat→List (List D→Out)}(h:Uj cx Q ρ n J Jd)(ha:L4 n ρ ρ1)(hm:n≤m):Uj cx Q ρ1 m J Jd:=fun i ρ' st' xs ds ct h' hn=>h i ρ' st' xs ds ct (ha.trans hm h') (Nat.le_trans hm hn)
theorem dX (hR:rL cx)(hho:∀ f,ox.ho f=I5 (sg f).ro){δ0:Nat→D}{m0:Int}(hG:∀ f,oV cx.tab R ox.lv m0 f (ox.con f)){Q:Bool×List D→Prop}(hQ:∀ z,DV cx.tab δ0 ox.n0 ox.b ox.re ox.er z→Q z) :
  ∀ (t:T) (J:List JT) (Jd:Nat→List (List D→Out)) (m:Nat) (V:Nat→A) (Vd:Nat→D) (ρ:Nat→D) (st:St) (ct:Nat),aL cx ox t J m V st ct=true→Sat cx.tab ρ st→QU ρ st.nx V Vd→wF ρ st.nx ox.σ0 δ0→bX ρ st.nx ox.me m0→Uj cx Q ρ st.nx J Jd→U (Dn sg R t Jd m Vd) Q
 | .no,J,Jd,m,V,Vd,ρ,st,ct,h,hS,hV,hσ,hm,hJ=>by
  have:=(Q4 (g:= .f) h hS).1
  cases this
 | .ret b es,J,Jd,m,V,Vd,ρ,st,ct,h,hS,hV,hσ,hm,hJ=>by
  have h:TS cx V es st ct (fun xs st ct=>zO cx ox b xs st ct)=true:=h
  obtain⟨ρ1,L9,xs,ct1,a1,a2,a3,a4,h⟩:=wN hR (Vd:=Vd) h hS hV
  exact U.ret (hQ _ (vU hR a3 (hσ.mono a1 a2) a4 h))
 | .i c x y,J,Jd,m,V,Vd,ρ,st,ct,h,hS,hV,hσ,hm,hJ=>by
  have h:Ah cx V c st ct (fun a st ct=>tok ct fun t ct=>H9 (Nat.beq t 0) (lF ct fun c1 c2=>H9 (aL cx ox x J m V (tC a.bo st) c1) (aL cx ox y J m V (tC a.bo.neg st) c2) false) (H9 (Nat.beq t 1) (oS st a.bo ct fun ct=>aL cx ox x J m V st ct) (oS st a.bo.neg ct fun ct=>aL cx ox y J m V st ct)))=true:=h
  obtain⟨ρ1,L9,a,ct1,a1,a2,a3,a4,h⟩:=ES hR (Vd:=Vd) c ρ st ct _ h hS hV
  simp only [cK] at h
  have ev:(c.den Vd).b=a.bo.bv ρ1:=(a4.bo ρ1 L4.refl).symm
  cases h0:Nat.beq (ct1 % 32) 0 with
  |true=>
   rw [h0] at h
   obtain⟨c1,c2,h⟩:=zX h
   obtain⟨hx,hy⟩:=I3 h
   refine U.Xt (fun hc=>?_) (fun hc=>?_)
   ·obtain⟨s1,s2⟩:=CZ a3 (f:=a.bo) (fun ρ' h'=>by rw [a4.bo ρ' h',hc])
    refine dX hR hho hG hQ x J Jd m V Vd ρ1 _ c1 hx s1 ?_ ?_ ?_ ?_<;>rw [s2]
    ·exact hV.mono a1 a2
    ·exact hσ.mono a1 a2
    ·exact hm.mono a1 a2
    ·exact hJ.mono a1 a2
   ·obtain⟨s1,s2⟩:=CZ a3 (f:=a.bo.neg) (fun ρ' h'=>by rw [Fm.L6,a4.bo ρ' h',hc];rfl)
    refine dX hR hho hG hQ y J Jd m V Vd ρ1 _ c2 hy s1 ?_ ?_ ?_ ?_<;>rw [s2]
    ·exact hV.mono a1 a2
    ·exact hσ.mono a1 a2
    ·exact hm.mono a1 a2
    ·exact hJ.mono a1 a2
  |false=>
   rw [h0] at h
   have h:H9 (Nat.beq (ct1 % 32) 1) (oS L9 a.bo (ct1 / 32) fun ct=>aL cx ox x J m V L9 ct) (oS L9 a.bo.neg (ct1 / 32) fun ct=>aL cx ox y J m V L9 ct)=true:=h
   cases h1:Nat.beq (ct1 % 32) 1 with
   |true=>
    rw [h1] at h
    obtain⟨g1,ct2,h⟩:=Q4 h a3
    exact U.ZJ (ev.trans g1) (dX hR hho hG hQ x J Jd m V Vd ρ1 _ _ h a3 (hV.mono a1 a2) (hσ.mono a1 a2) (hm.mono a1 a2) (hJ.mono a1 a2))
   |false=>
    rw [h1] at h
    obtain⟨g1,ct2,h⟩:=Q4 h a3
    rw [Fm.L6] at g1
    refine U.no (ev.trans ?_) (dX hR hho hG hQ y J Jd m V Vd ρ1 _ _ h a3 (hV.mono a1 a2) (hσ.mono a1 a2) (hm.mono a1 a2) (hJ.mono a1 a2))
    cases hb:a.bo.bv ρ1 with
    |false=>rfl
    |true=>rw [hb] at g1;cases g1
 | .g c x,J,Jd,m,V,Vd,ρ,st,ct,h,hS,hV,hσ,hm,hJ=>by
  have h:Ah cx V c st ct (fun a st ct=>oS st a.bo ct fun ct=>aL cx ox x J m V st ct)=true:=h
  obtain⟨ρ1,L9,a,ct1,a1,a2,a3,a4,h⟩:=ES hR (Vd:=Vd) c ρ st ct _ h hS hV
  obtain⟨g1,ct2,h⟩:=Q4 h a3
  have ev:(c.den Vd).b=a.bo.bv ρ1:=(a4.bo ρ1 L4.refl).symm
  exact U.ZJ (ev.trans g1) (dX hR hho hG hQ x J Jd m V Vd ρ1 _ _ h a3 (hV.mono a1 a2) (hσ.mono a1 a2) (hm.mono a1 a2) (hJ.mono a1 a2))
 | .t ty e x,J,Jd,m,V,Vd,ρ,st,ct,h,hS,hV,hσ,hm,hJ=>by
  obtain⟨h1,h⟩:=I3 (show H9 (V9 ty) (Ah cx V e st ct fun a st ct=>Ko ty a st ct fun a st ct=>H9 (Gr ty a) (aL cx ox x J (Nat.succ m) (zI V m a) st ct) false) false=true from h)
  obtain⟨ρ1,L9,a,ct1,a1,a2,a3,a4,h⟩:=ES hR (Vd:=Vd) e ρ st ct _ h hS hV
  obtain⟨ρ2,st2,a',ct2,b1,b2,b3,b4,h⟩:=Dd (K:=fun a st ct=>H9 (Gr ty a) (aL cx ox x J (Nat.succ m) (zI V m a) st ct) false) h a3 a4
  obtain⟨h2,h⟩:=I3 h
  have hn:=NQ h2 (b4 ρ2 L4.refl).2
  rw [(b4 ρ2 L4.refl).1] at hn
  have c1:=a1.trans a2 b1
  have c2:=Nat.le_trans a2 b2
  refine U.ZJ (x:=fun n=>x.den sg (R n) (Jd n) (m+1) (push Vd m (L0 ty (e.den Vd)))) (by rw [h1,jA hn];rfl) ?_
  rw [vQ hn]
  exact dX hR hho hG hQ x J Jd (m+1) _ _ ρ2 _ _ h b3 (PW (hV.mono c1 c2) b4) (hσ.mono c1 c2) (hm.mono c1 c2) (hJ.mono c1 c2)
 | .l e x,J,Jd,m,V,Vd,ρ,st,ct,h,hS,hV,hσ,hm,hJ=>by
  have h:Ah cx V e st ct (fun a st ct=>aL cx ox x J (Nat.succ m) (zI V m a) st ct)=true:=h
  obtain⟨ρ1,L9,a,ct1,a1,a2,a3,a4,h⟩:=ES hR (Vd:=Vd) e ρ st ct _ h hS hV
  exact dX hR hho hG hQ x J Jd (m+1) _ _ ρ1 _ _ h a3 (PW (hV.mono a1 a2) a4) (hσ.mono a1 a2) (hm.mono a1 a2) (hJ.mono a1 a2)
 | .c p f es x,J,Jd,m,V,Vd,ρ,st,ct,h,hS,hV,hσ,hm,hJ=>by
  have h:TS cx V es st ct (fun xs st ct=>fX.casesOn (motive:=fun _=>Bool) (ox.con f) fun ng ar re _ b lv me=>H9 b (tV cx ox ng ar lv me xs st ct fun σ n ct=>SA cx st re n σ fun ys _ _ st=>H9 (SP (ox.ho f) ys) (H9 (H9 p (U8 (Vf cx st) ys) true) (Y3 (Nat.add m (P7 ys)) fun m'=>aL cx ox x J m' (aR V m ys) st ct) false) false) false)=true:=h
  obtain⟨ρ1,L9,xs,ct1,a1,a2,a3,a4,h⟩:=wN hR (Vd:=Vd) h hS hV
  have hGf:=hG f
  generalize ox.con f=cf at h hGf
  cases cf with
  |mk ng ar re er b lv me=>
   obtain⟨hb,h⟩:=I3 h
   subst hb
   obtain⟨σ,δ,n,ct2,b1,b3,h⟩:=wX hR a3 (hm.mono a1 a2) hGf a4 h
   refine U.bT (k:=fun r n=>bif (bif p then AE.aL (sg f).ro r&&U5 (sg f).ro r else AE.aL (sg f).ro r) then x.den sg (R n) (Jd n) (m+(I5 (sg f).ro).length) (S3 Vd m (I5 (sg f).ro) r) else none) b3 fun b r hr=>?_
   rcases hr with ⟨hb,δ',d1,d2,d3⟩|⟨hb,_⟩
   ·have hb:b=true:=hb
    refine⟨hb,?_⟩
    obtain⟨ρ2,st2,ys,σ',e1,e2,e3,e4,e5,h⟩:=sS a3 b1 d1 (CQ rfl) d2 d3 h
    obtain⟨h1,h⟩:=I3 h
    obtain⟨h2,h⟩:=I3 h
    rw [N9] at h
    have hn:=vZ h1 e5
    rw [hho] at hn
    have hlen:Nat.add m (P7 ys)=m+(I5 (sg f).ro).length:=by
     show m+P7 ys=_
     rw [P8,e5.len,iY hn]
    rw [hlen] at h
    have c1:=a1.trans a2 e1
    have c2:=Nat.le_trans a2 e2
    have main:=dX hR hho hG hQ x J Jd _ _ _ ρ2 _ _ h e3 (vT (hV.mono c1 c2) e5) (hσ.mono c1 c2) (hm.mono c1 c2) (hJ.mono c1 c2)
    refine U.ZJ ?_ ?_
    ·cases p with
     |true=>
      show (AE.aL _ _&&U5 _ _)=true
      rw [iN hn,PU e3 e5 h2];rfl
     |false=>exact iN hn
    ·rw [← mI hn,qZ];exact main
   ·cases hb
 | .o f es x,J,Jd,m,V,Vd,ρ,st,ct,h,hS,hV,hσ,hm,hJ=>by
  have h:TS cx V es st ct (fun xs st ct=>fX.casesOn (motive:=fun _=>Bool) (ox.con f) fun ng ar re er b lv me=>H9 b false (tV cx ox ng ar lv me xs st ct fun σ n ct=>lF ct fun c1 c2=>H9 (List.casesOn (motive:=fun _=>Bool) er true fun t _=>SA cx st t n σ fun ys _ _ st=>zO cx ox true ys st c1)
   (SA cx st re n σ fun ys _ _ st=>H9 (SP (ox.ho f) ys) (Y3 (Nat.add m (P7 ys)) fun m'=>aL cx ox x J m' (aR V m ys) st c2) false) false))=true:=h
  obtain⟨ρ1,L9,xs,ct1,a1,a2,a3,a4,h⟩:=wN hR (Vd:=Vd) h hS hV
  have hGf:=hG f
  generalize ox.con f=cf at h hGf
  cases cf with
  |mk ng ar re er b lv me=>
   cases b with
   |true=>cases h
   |false=>
    obtain⟨σ,δ,n,ct2,b1,b3,h⟩:=wX hR a3 (hm.mono a1 a2) hGf a4 h
    obtain⟨c1,c2,h⟩:=zX h
    obtain⟨hearly,h⟩:=I3 h
    refine U.cX (k:=fun r n=>bif AE.aL (sg f).ro r then x.den sg (R n) (Jd n) (m+(I5 (sg f).ro).length) (S3 Vd m (I5 (sg f).ro) r) else none) b3 (fun r hr=>?_) fun r hr=>?_
    ·rcases hr with ⟨hb,_⟩|⟨_,_,t,δ',ht,d1,d2,d3⟩
     ·cases hb
     ·cases er with
      |nil=>cases ht
      |cons t' er=>
       obtain rfl:t'=t:=by simpa using ht
       obtain⟨ρ2,st2,ys,σ',e1,e2,e3,e4,e5,h⟩:=sS a3 b1 d1 (CQ rfl) d2 d3 hearly
       exact hQ _ (vU hR e3 (hσ.mono (a1.trans a2 e1) (Nat.le_trans a2 e2)) e5 h)
    ·rcases hr with ⟨hb,δ',d1,d2,d3⟩|⟨_,hb,_⟩
     ·obtain⟨ρ2,st2,ys,σ',e1,e2,e3,e4,e5,h⟩:=sS a3 b1 d1 (CQ rfl) d2 d3 h
      obtain⟨h1,h⟩:=I3 h
      rw [N9] at h
      have hn:=vZ h1 e5
      rw [hho] at hn
      have hlen:Nat.add m (P7 ys)=m+(I5 (sg f).ro).length:=by
       show m+P7 ys=_
       rw [P8,e5.len,iY hn]
      rw [hlen] at h
      have c1:=a1.trans a2 e1
      have c2:=Nat.le_trans a2 e2
      have main:=dX hR hho hG hQ x J Jd _ _ _ ρ2 _ _ h e3 (vT (hV.mono c1 c2) e5) (hσ.mono c1 c2) (hm.mono c1 c2) (hJ.mono c1 c2)
      refine U.ZJ (iN hn) ?_
      rw [← mI hn,qZ];exact main
     ·cases hb
 | .tl f es,J,Jd,m,V,Vd,ρ,st,ct,h,hS,hV,hσ,hm,hJ=>by
  have h:TS cx V es st ct (fun xs st ct=>fX.casesOn (motive:=fun _=>Bool) (ox.con f) fun ng ar re er b lv me=>tV cx ox ng ar lv me xs st ct fun σ n ct=>lF ct fun c1 c2=>H9 (H9 b true (List.casesOn (motive:=fun _=>Bool) er true fun t _=>SA cx st t n σ fun ys _ _ st=>zO cx ox true ys st c1)) (SA cx st re n σ fun ys _ _ st=>zO cx ox b ys st c2) false)=true:=h
  obtain⟨ρ1,L9,xs,ct1,a1,a2,a3,a4,h⟩:=wN hR (Vd:=Vd) h hS hV
  have hGf:=hG f
  generalize ox.con f=cf at h hGf
  cases cf with
  |mk ng ar re er b lv me=>
   obtain⟨σ,δ,n,ct2,b1,b3,h⟩:=wX hR a3 (hm.mono a1 a2) hGf a4 h
   obtain⟨c1,c2,h⟩:=zX h
   obtain⟨hearly,h⟩:=I3 h
   refine U.mono b3 fun z hz=>?_
   obtain⟨zb,zr⟩:=z
   rcases hz with ⟨hb,δ',d1,d2,d3⟩|⟨hb0,hb,t,δ',ht,d1,d2,d3⟩
   ·have hb:zb=b:=hb
    subst hb
    obtain⟨ρ2,st2,ys,σ',e1,e2,e3,e4,e5,h⟩:=sS a3 b1 d1 (CQ rfl) d2 d3 h
    exact hQ _ (vU hR e3 (hσ.mono (a1.trans a2 e1) (Nat.le_trans a2 e2)) e5 h)
   ·have hb:zb=true:=hb
    subst hb
    subst hb0
    cases er with
    |nil=>cases ht
    |cons t' er=>
     obtain rfl:t'=t:=by simpa using ht
     have hearly:SA cx L9 t' n σ (fun ys _ _ st=>zO cx ox true ys st c1)=true:=hearly
     obtain⟨ρ2,st2,ys,σ',e1,e2,e3,e4,e5,h⟩:=sS a3 b1 d1 (CQ rfl) d2 d3 hearly
     exact hQ _ (vU hR e3 (hσ.mono (a1.trans a2 e1) (Nat.le_trans a2 e2)) e5 h)
 | .ag x y,J,Jd,m,V,Vd,ρ,st,ct,h,hS,hV,hσ,hm,hJ=>by cases h
 | .j b x,J,Jd,m,V,Vd,ρ,st,ct,h,hS,hV,hσ,hm,hJ=>by
  have h:aL cx ox x ((fun xs st ct=>Y3 (Nat.add m (P7 xs)) fun m'=>aL cx ox b J m' (aR V m xs) st ct)::J) m V st ct=true:=h
  refine dX hR hho hG hQ x _ (fun n=>(fun xs=>b.den sg (R n) (Jd n) (m+xs.length) (iD Vd m xs))::Jd n) m V Vd ρ st ct h hS hV hσ hm ?_
  intro i ρ' st' xs ds ct ha hn hS' hx h
  cases i with
  |zero=>
   have h:Y3 (Nat.add m (P7 xs)) (fun m'=>aL cx ox b J m' (aR V m xs) st' ct)=true:=h
   rw [N9] at h
   have hlen:Nat.add m (P7 xs)=m+ds.length:=by
    show m+P7 xs=_
    rw [P8,hx.len]
   rw [hlen] at h
   exact dX hR hho hG hQ b J Jd _ _ _ ρ' st' ct h hS' (vT (hV.mono ha hn) hx) (hσ.mono ha hn) (hm.mono ha hn) (hJ.mono ha hn)
  |succ i=>exact hJ i ρ' st' xs ds ct ha hn hS' hx h
 | .jp i es,J,Jd,m,V,Vd,ρ,st,ct,h,hS,hV,hσ,hm,hJ=>by
  have h:TS cx V es st ct (fun xs st ct=>L3 (fun _ _ _=>false) J i xs st ct)=true:=h
  obtain⟨ρ1,L9,xs,ct1,a1,a2,a3,a4,h⟩:=wN hR (Vd:=Vd) h hS hV
  exact hJ i ρ1 L9 xs _ ct1 a1 a2 a3 a4 h
noncomputable def EI (cx:Cx) (con:Nat→fX) (ho hs:Nat→List Ty) (p:T) (f:Nat) (ct:Nat):Bool:=fX.casesOn (motive:=fun _=>Bool) (con f) fun ng ar re er b lv me=>SA cx (.mk ng [] [] [] []) ar ng (fun i=>H9 (Nat.blt i ng) (.n .i64 (lm (Nat.mul 8 i))) (.c .top)) fun xs σ n st=>H9 (SP (hs f) xs) (H9 (FP me) (L.fr (me.jN σ) fun me=>Y3 (P7 xs) fun m=>aL cx ⟨con,ho,b,re,er,n,σ,lv,me⟩ p [] m (aR (fun _=> .c .top) 0 xs) st ct) false) false
theorem ZX {con:Nat→fX}{ho hs:Nat→List Ty}(hR:rL cx)(hho:∀ f,ho f=I5 (sg f).ro){f:Nat}(hhs:hs f=(sg f).hs){p:T}{ct:Nat}(hstep:∀ n xs,K4 (sg f).hs xs=true→R (n+1) f xs=p.den sg (R n) [] (sg f).hs.length fun i=>Y xs i)(h:EI cx con ho hs p f ct=true) :
  ∀ {ng:Nat} {ar re:Tp} {er:List Tp} {b:Bool} {lv:Nat} {me:L},con f = .mk ng ar re er b lv me→∀ δ xs,(∀ g,oV cx.tab R lv (me.ev (nu δ 0)) g (con g))→SW (ng+nK ar) δ→Gh ng δ→AN cx.tab δ ng ar xs→U (fun n=>R n f xs) (DV cx.tab δ (ng+nK ar) b re er):=by
 intro ng ar re er b lv me hf δ xs hG htop hgh hT
 unfold EI at h
 rw [hf] at h
 have hS0:Sat cx.tab (fun i=>if i<ng then δ i else .top) (.mk ng [] [] [] []):=fun ρ' _=>⟨fun x hx=>(by cases hx),SY,fun x hx=>(by cases hx),fun x hx=>(by cases hx)⟩
 have hσ0:wF (fun i=>if i<ng then δ i else .top) ng (fun i=>H9 (Nat.blt i ng) (.n .i64 (lm (Nat.mul 8 i))) (.c .top)) (fun i=>if i<ng then δ i else .top):=by
  intro i ρ' ha
  show A.val ρ' (H9 (Nat.blt i ng) (.n .i64 (lm (Nat.mul 8 i))) (.c .top))=(if i<ng then δ i else .top)∧A.ok ρ' (H9 (Nat.blt i ng) (.n .i64 (lm (Nat.mul 8 i))) (.c .top))
  by_cases hi:i<ng
  ·have h1:Nat.blt i ng=true:=B2 hi
   rw [h1,if_pos hi]
   have e:ρ' i=δ i:=(ha i hi).trans (if_pos hi)
   have e2:∀ ix,(lm (8*i)).ev (nu ρ' ix)=(δ i).i:=fun ix=>by rw [L5,AX,e]
   refine⟨?_,fun ix=>(e2 ix).trans (e2 0).symm⟩
   show D.int .i64 ((lm (8*i)).ev (nu ρ' 0))=δ i
   rw [e2];exact (hgh i hi).symm
  ·have h1:Nat.blt i ng=false:=by cases hb:Nat.blt i ng with|false=>rfl|true=>exact absurd (B3 hb) hi
   rw [h1,if_neg hi];exact⟨rfl,aG⟩
 obtain⟨ρ1,L9,ys,σ,e1,e2,e3,e4,e5,h⟩:=sS hS0 hσ0 (δ':=δ) (n:=ng) (fun a ha=>(if_pos ha).symm) (CQ rfl) htop hT h
 obtain⟨h1,h⟩:=I3 h
 obtain⟨h3,h⟩:=I3 h
 rw [L.kO,N9,P8] at h
 have hn:=vZ h1 e5
 rw [hhs] at hn
 have hm:bX ρ1 L9.nx (me.jN σ) (me.ev (nu δ 0)):=by
  intro ρ' ha ix
  rw [L.jO (e4.ok ha),e4.wv ha]
  exact lZ h3 ix
 refine U.eq (u:=Dn sg R p (fun _=>[]) (sg f).hs.length fun i=>Y xs i) (fun n=>hstep n xs hn) ?_
 have hlen:ys.length=(sg f).hs.length:=by rw [e5.len,iY hn]
 rw [hlen] at h
 refine dX (ox:=⟨con,ho,b,re,er,ng+nK ar,σ,lv,me.jN σ⟩) (m0:=me.ev (nu δ 0)) (δ0:=δ) hR hho hG (fun z hz=>hz) p [] (fun _=>[]) _ _ _ ρ1 L9 ct h e3 (fun i=>?_) e4 hm ?_
 ·have:=vT (V:=fun _=> .c .top) (Vd:=fun _=> .top) (m:=0) (fun i ρ' _=>⟨rfl,aG⟩) e5 i
  exact this
 ·intro i ρ' st' xs ds ct _ _ _ _ h
  cases i<;>cases h
theorem TQ {con:Nat→fX}(hall:∀ f,Good cx.tab R f (con f)∨∀ {ng:Nat} {ar re:Tp} {er:List Tp} {b:Bool} {lv:Nat} {me:L},con f = .mk ng ar re er b lv me→∀ δ xs,(∀ g,oV cx.tab R lv (me.ev (nu δ 0)) g (con g))→SW (ng+nK ar) δ→Gh ng δ→AN cx.tab δ ng ar xs→U (fun n=>R n f xs) (DV cx.tab δ (ng+nK ar) b re er)):∀ f,Good cx.tab R f (con f):=by
 have key:∀ (l:Nat) (m:Nat) f,∀ {ng:Nat} {ar re:Tp} {er:List Tp} {b:Bool} {lv:Nat} {me:L},con f = .mk ng ar re er b lv me→lv=l→∀ δ xs,(me.ev (nu δ 0)).toNat=m→SW (ng+nK ar) δ→Gh ng δ→AN cx.tab δ ng ar xs→U (fun n=>R n f xs) (DV cx.tab δ (ng+nK ar) b re er):=by
  intro l
  induction l using Nat.strongRecOn with
  |ind l ihl=>
   intro m
   induction m using Nat.strongRecOn with
   |ind m ihm=>
    intro f ng ar re er b lv me hf hl δ xs hm htop hgh hT
    rcases hall f with h|h
    ·rw [hf] at h
     exact h δ xs htop hgh hT
    ·refine h hf δ xs (fun g=>?_) htop hgh hT
     cases hg:con g with
     |mk ng' ar' re' er' b' lv' me'=>
      intro δ' xs' hlt htop' hgh' hT'
      rcases hlt with hlt|⟨h1,h2,h3⟩
      ·exact ihl lv' (by omega) _ g hg rfl δ' xs' rfl htop' hgh' hT'
      ·exact ihm _ (by omega) g hg (h1.trans hl) δ' xs' rfl htop' hgh' hT'
 intro f
 cases hf:con f with
 |mk ng ar re er b lv me=>exact fun δ xs htop hgh hT=>key lv _ f hf rfl δ xs rfl htop hgh hT
end
end Go.AE.Q
namespace Go.AE.Q
def rD (pars pars':List Int)(leaf:Nat→D):Nat→D:=fun i=>if i % 3=0 then .int .i64 (pars[i / 3]?.getD 0) else if i % 3=1 then .int .i64 (pars'[i / 3]?.getD 0) else leaf (i / 3)
noncomputable def sN (b:Nat) (i:Nat):A:= .n .i64 (lm (Nat.mul 8 (Nat.add (Nat.mul 3 i) b)))
noncomputable def sC (i:Nat):A:=H9 (Nat.beq (Nat.mod i 2) 0) (sN 0 (Nat.div i 2)) (sN 1 (Nat.div i 2))
noncomputable def sP (np b:Nat) (leaf:Nat→A):Nat→A:=fun i=>H9 (Nat.blt i np) (sN b i) (leaf (Nat.sub i np))
section
variable {pars pars':List Int} {lf:Nat→D}
theorem YA (i:Nat):rD pars pars' lf (3*i) = .int .i64 (pars[i]?.getD 0):=by
 have h1:3*i % 3=0:=by omega
 have h2:3*i / 3=i:=by omega
 rw [rD,if_pos h1,h2]
theorem YB (i:Nat):rD pars pars' lf (3*i+1) = .int .i64 (pars'[i]?.getD 0):=by
 have h1:(3*i+1) % 3=1:=by omega
 have h2:(3*i+1) / 3=i:=by omega
 rw [rD,if_neg (by omega),if_pos h1,h2]
theorem Gi (i:Nat):rD pars pars' lf (3*i+2)=lf i:=by
 have h2:(3*i+2) / 3=i:=by omega
 rw [rD,if_neg (by omega),if_neg (by omega),h2]
theorem NI (i b:Nat)(ρ:Nat→D):(sN b i).val ρ = .int .i64 (ρ (3*i+b)).i:=by
 show D.int .i64 ((lm (8*(3*i+b))).ev (nu ρ 0))=_
 rw [L5,AX]
theorem YC (i b:Nat)(ρ:Nat→D):(sN b i).ok ρ:=fun ix=>L5.trans (AX.trans (AX.symm.trans L5.symm))
theorem Gl:wv (rD pars pars' lf) sC=Ve pars pars':=by
 funext i
 show (H9 (Nat.beq (Nat.mod i 2) 0) (sN 0 (Nat.div i 2)) (sN 1 (Nat.div i 2))).val _=D.int .i64 _
 have e1:Nat.mod i 2=i % 2:=rfl
 have e2:Nat.div i 2=i / 2:=rfl
 rw [e1,e2]
 by_cases h:i % 2=0
 ·rw [h,if_pos rfl]
  show (sN 0 (i / 2)).val _=_
  rw [NI,Nat.add_zero,YA];rfl
 ·have hb:Nat.beq (i % 2) 0=false:=by cases hb:Nat.beq (i % 2) 0 with|false=>rfl|true=>exact absurd (P3 hb) h
  rw [hb,if_neg h]
  show (sN 1 (i / 2)).val _=_
  rw [NI,YB];rfl
theorem Gj (ρ:Nat→D):mK ρ sC:=fun i=>by
 show (H9 (Nat.beq (Nat.mod i 2) 0) (sN 0 (Nat.div i 2)) (sN 1 (Nat.div i 2))).ok ρ
 cases Nat.beq (Nat.mod i 2) 0 with
 |true=>exact YC _ _ _
 |false=>exact YC _ _ _
theorem QF {np b:Nat}{leaf:Nat→A}{ρ:Nat→D}(h:∀ j,(leaf j).ok ρ):mK ρ (sP np b leaf):=fun i=>by
 show (H9 (Nat.blt i np) (sN b i) (leaf (Nat.sub i np))).ok ρ
 cases Nat.blt i np with
 |true=>exact YC _ _ _
 |false=>exact h _
theorem QG {np b:Nat}{leaf:Nat→A}{ps:List Int}(hb:∀ i,(rD pars pars' lf (3*i+b)).i=ps[i]?.getD 0)(h:∀ j,(leaf j).val (rD pars pars' lf)=lf j):wv (rD pars pars' lf) (sP np b leaf)=pw np ps lf:=by
 funext i
 show (H9 (Nat.blt i np) (sN b i) (leaf (Nat.sub i np))).val _=if i<np then _ else _
 by_cases hi:i<np
 ·have h1:Nat.blt i np=true:=B2 hi
  rw [h1,if_pos hi]
  show (sN b i).val _=_
  rw [NI,hb]
 ·have h1:Nat.blt i np=false:=by cases hc:Nat.blt i np with|false=>rfl|true=>exact absurd (B3 hc) hi
  rw [h1,if_neg hi]
  exact h _
end
noncomputable def Us (rl:Nat→Rl) (F:List Fm) (a b:K) (ct:Nat) (k:Nat→Bool):Bool:=K.casesOn (motive:=fun _=>Bool) b
 (fun kk=>K.casesOn (motive:=fun _=>Bool) a (fun kk'=>H9 (Fp kk' kk) (k ct) false) false false (fun _ _ _=>false) (fun _ _ _=>false) false)
 (K.casesOn (motive:=fun _=>Bool) a (fun _=>false) (k ct) false (fun _ _ _=>false) (fun _ _ _=>false) false)
 (K.casesOn (motive:=fun _=>Bool) a (fun _=>false) false (k ct) (fun _ _ _=>false) (fun _ _ _=>false) false)
 (fun sz q qs=>K.casesOn (motive:=fun _=>Bool) a (fun _=>false) false false (fun sz' p ps=>H9 (Nat.beq sz' sz) (HI rl F p ps q qs ct k) false) (fun _ _ _=>false) false)
 (fun sz q qs=>K.casesOn (motive:=fun _=>Bool) a (fun _=>false) false false (fun _ _ _=>false) (fun sz' p ps=>H9 (Nat.beq sz' sz) (HI rl F p ps q qs ct k) false) false)
 (k ct)
theorem VU {hp:Hp}{rl:Nat→Rl}{ρ:Nat→D}{F:List Fm}(hR:∀ r,KT hp (rl r))(hF:Hs ρ F){a b:K}{ct:Nat}{k:Nat→Bool}(h:Us rl F a b ct k=true):(∀ d,HK hp ρ a d→HK hp ρ b d)∧∃ ct,k ct=true:=by
 cases b with
 |u=>exact⟨fun _ _=>trivial,_,h⟩
 |i kk=>
  cases a with
  |i kk'=>
   obtain⟨h1,h⟩:=I3 h
   rw [sI] at h1
   exact⟨fun d hd=>(E7 h1)▸hd,_,h⟩
  |_=>cases h
 |b=>cases a with|b=>exact⟨fun _ hd=>hd,_,h⟩|_=>cases h
 |s=>cases a with|s=>exact⟨fun _ hd=>hd,_,h⟩|_=>cases h
 |l sz q qs=>
  cases a with
  |l sz' p ps=>
   obtain⟨h1,h⟩:=I3 h
   refine⟨fun d hd=>?_,IC h⟩
   obtain⟨xs,rfl,hx⟩:=hd
   exact⟨xs,by rw [P3 h1],nT hR hF h hx⟩
  |_=>cases h
 |r sz q qs=>
  cases a with
  |r sz' p ps=>
   obtain⟨h1,h⟩:=I3 h
   refine⟨fun d hd=>?_,IC h⟩
   rcases hd with hd|⟨xs,rfl,hx⟩
   ·exact .inl hd
   ·exact .inr ⟨xs,by rw [P3 h1],nT hR hF h hx⟩
  |_=>cases h
noncomputable def It (rl:Nat→Rl) (F:List Fm) (σ τ:Nat→A) (ks:List K):List K→Nat→(Nat→Bool)→Bool:=List.rec (motive:=fun _=>List K→Nat→(Nat→Bool)→Bool) (fun ks' ct k=>List.casesOn (motive:=fun _=>Bool) ks' (k ct) (fun _ _=>false)) (fun a _ ih ks' ct k=>List.casesOn (motive:=fun _=>Bool) ks' false fun b r=>Us rl F (a.sub σ) (b.sub τ) ct fun ct=>ih r ct k) ks
theorem OY {hp:Hp}{rl:Nat→Rl}{ρ:Nat→D}{F:List Fm}(hR:∀ r,KT hp (rl r))(hF:Hs ρ F){σ τ:Nat→A}(hσ:mK ρ σ)(hτ:mK ρ τ):∀ {ks ks':List K} {ct:Nat} {k:Nat→Bool},It rl F σ τ ks ks' ct k=true→(ks.length=ks'.length∧∀ j d,j<ks.length→HK hp (wv ρ σ) (ks[j]?.getD .u) d→HK hp (wv ρ τ) (ks'[j]?.getD .u) d)∧∃ ct,k ct=true
 |[],[],ct,k,h=>⟨⟨rfl,fun j d hj=>by simp at hj⟩,_,h⟩
 |[],_::_,_,_,h=>by cases h
 |_::_,[],_,_,h=>by cases h
 |a::ks,b::ks',ct,k,h=>by
  obtain⟨h1,ct,h⟩:=VU hR hF (show Us rl F (a.sub σ) (b.sub τ) ct (fun ct=>It rl F σ τ ks ks' ct k)=true from h)
  obtain⟨⟨h2,h3⟩,h⟩:=OY hR hF hσ hτ h
  refine⟨⟨by simp [h2],fun j d hj hd=>?_⟩,h⟩
  cases j with
  |zero=>exact (kD hτ).1 (h1 d ((kD hσ).2 hd))
  |succ j=>
   rw [List.getElem?_cons_succ] at hd ⊢
   exact h3 j d (by simpa using hj) hd
noncomputable def zY (σ:Nat→A) (fm r:List Fm):List Fm:=List.rec (motive:=fun _=>List Fm) r (fun f _ ih=>f.sub σ::ih) fm
theorem zZ {ρ:Nat→D}{σ:Nat→A}(hσ:mK ρ σ){r:List Fm}(hr:Hs ρ r):∀ {fm:List Fm},Hs (wv ρ σ) fm→Hs ρ (zY σ fm r)
 |[],_=>hr
 |f::fm,h=>Hs.cons (by rw [Fm.cJ hσ];exact h f (B8 ..)) (zZ hσ hr fun x hx=>h x (C0 _ hx))
noncomputable def vP (ks:List K) (j:Nat):A:=T7 (L3 .u ks j) (Nat.add (Nat.mul 3 j) 2)
noncomputable def DB (tab:Nat→Pd) (rl:Nat→Rl) (r:Rl) (ct:Nat):Bool:=Rl.casesOn (motive:=fun _=>Bool) r fun p q cond=>Pd.casesOn (motive:=fun _=>Bool) (tab p)
 (fun np a fm=>Pd.casesOn (motive:=fun _=>Bool) (tab q) (fun np' b fm'=>Us rl (zY (sP np 0 fun _=>vP [a] 0) fm [cond.sub sC]) (a.sub (sP np 0 fun _=>vP [a] 0)) (b.sub (sP np' 1 fun _=>vP [a] 0)) ct fun ct=>Dr (zY (sP np 0 fun _=>vP [a] 0) fm [cond.sub sC]) (sP np' 1 fun _=>vP [a] 0) fm' ct fun _=>true) (fun _ _ _=>false))
 (fun np ks fm=>Pd.casesOn (motive:=fun _=>Bool) (tab q) (fun _ _ _=>false) (fun np' ks' fm'=>It rl (zY (sP np 0 (vP ks)) fm [cond.sub sC]) (sP np 0 (vP ks)) (sP np' 1 (vP ks)) ks ks' ct fun ct=>Dr (zY (sP np 0 (vP ks)) fm [cond.sub sC]) (sP np' 1 (vP ks)) fm' ct fun _=>true))
theorem XW {tab:Nat→Pd}{rl:Nat→Rl}{p q:Nat}{cond:Fm}{ct:Nat}(h:DB tab rl (.mk p q cond) ct=true){hp:Hp}(hR:∀ r,KT hp (rl r))(pars pars':List Int)(d:D)(hc:cond.bv (Ve pars pars')=true)(hp0:TH hp (tab p) pars d):TH hp (tab q) pars' d:=by
 unfold DB at h
 simp only [] at h
 cases htp:tab p with
 |sc np a fm=>
  rw [htp] at h hp0
  cases htq:tab q with
  |st _ _ _=>rw [htq] at h;cases h
  |sc np' b fm'=>
   rw [htq] at h
   obtain⟨g1,g2⟩:=hp0
   have e2:rD pars pars' (fun _=>d) (3*0+2)=d:=Gi (lf:=fun _=>d) 0
   have hl:(vP [a] 0).val (rD pars pars' fun _=>d)=rD pars pars' (fun _=>d) (3*0+2)∧(vP [a] 0).ok (rD pars pars' fun _=>d):=by
    have g1':HK hp (pw np pars fun _=>d) a (rD pars pars' (fun _=>d) (3*0+2)):=by rw [e2];exact g1
    exact fG g1'
   have hσ:mK (rD pars pars' fun _=>d) (sP np 0 fun _=>vP [a] 0):=QF fun _=>hl.2
   have hτ:mK (rD pars pars' fun _=>d) (sP np' 1 fun _=>vP [a] 0):=QF fun _=>hl.2
   have wσ:wv (rD pars pars' fun _=>d) (sP np 0 fun _=>vP [a] 0)=pw np pars fun _=>d:=QG (fun i=>by rw [Nat.add_zero,YA];rfl) fun j=>hl.1.trans e2
   have wτ:wv (rD pars pars' fun _=>d) (sP np' 1 fun _=>vP [a] 0)=pw np' pars' fun _=>d:=QG (fun i=>by rw [YB];rfl) fun j=>hl.1.trans e2
   have hF:Hs (rD pars pars' fun _=>d) (zY (sP np 0 fun _=>vP [a] 0) fm [cond.sub sC]):=zZ hσ (Hs.cons (by rw [Fm.cJ (Gj _),Gl];exact hc) SY) (by rw [wσ];exact g2)
   obtain⟨h1,ct,h⟩:=VU hR hF h
   have h2:=sW hF hτ h
   rw [wτ] at h2
   refine⟨?_,h2⟩
   have:=(kD hτ).1 (h1 d ((kD hσ).2 (by rw [wσ];exact g1)))
   rw [wτ] at this
   exact this
 |st np ks fm=>
  rw [htp] at h hp0
  cases htq:tab q with
  |sc _ _ _=>rw [htq] at h;cases h
  |st np' ks' fm'=>
   rw [htq] at h
   obtain⟨⟨cs,ed,hcs⟩,g1,g2⟩:=hp0
   have hl:∀ j,(vP ks j).val (rD pars pars' d.at_)=d.at_ j∧(vP ks j).ok (rD pars pars' d.at_):=fun j=>by
    have e2:rD pars pars' d.at_ (3*j+2)=d.at_ j:=Gi j
    have:HK hp (pw np pars fun j=>d.at_ j) (L3 .u ks j) (rD pars pars' d.at_ (3*j+2)):=by
     rw [e2,fI]
     by_cases hj:j<ks.length
     ·exact g1 j hj
     ·rw [List.getElem?_eq_none (by omega)];trivial
    have:=fG this
    exact⟨this.1.trans e2,this.2⟩
   have hσ:mK (rD pars pars' d.at_) (sP np 0 (vP ks)):=QF fun j=>(hl j).2
   have hτ:mK (rD pars pars' d.at_) (sP np' 1 (vP ks)):=QF fun j=>(hl j).2
   have wσ:wv (rD pars pars' d.at_) (sP np 0 (vP ks))=pw np pars d.at_:=QG (fun i=>by rw [Nat.add_zero,YA];rfl) fun j=>(hl j).1
   have wτ:wv (rD pars pars' d.at_) (sP np' 1 (vP ks))=pw np' pars' d.at_:=QG (fun i=>by rw [YB];rfl) fun j=>(hl j).1
   have hF:Hs (rD pars pars' d.at_) (zY (sP np 0 (vP ks)) fm [cond.sub sC]):=zZ hσ (Hs.cons (by rw [Fm.cJ (Gj _),Gl];exact hc) SY) (by rw [wσ];exact g2)
   obtain⟨⟨h1,h1'⟩,ct,h⟩:=OY hR hF hσ hτ h
   have h2:=sW hF hτ h
   rw [wτ] at h2
   refine⟨⟨cs,ed,by rw [hcs,h1]⟩,fun j hj=>?_,h2⟩
   have:=h1' j (d.at_ j) (by omega) (by rw [wσ];exact g1 j (by omega))
   rw [wτ] at this
   exact this
theorem XX {tab:Nat→Pd}{rl:Nat→Rl}(h0:tab 0 = .sc 0 .u [])(h:∀ r,(∃ ct,DB tab rl (rl r) ct=true)∨rl r = .mk 0 0 .f):rL ⟨tab,rl⟩:=by
 have key:∀ n r,KT (Gw tab n) (rl r):=by
  intro n
  induction n with
  |zero=>
   intro r
   cases hr:rl r with
   |mk p q cond=>exact fun _ _ _ _ _=>trivial
  |succ n ih=>
   intro r
   rcases h r with ⟨ct,hc⟩|hc
   ·cases hr:rl r with
    |mk p q cond=>
     rw [hr] at hc
     exact fun pars pars' d h1 h2=>XW hc ih pars pars' d h1 h2
   ·rw [hc]
    intro _ _ _ hf
    cases hf
 refine⟨fun r=>?_,fun pars d n=>?_⟩
 ·have:=fun n=>key n r
  show KT (HP tab) (rl r)
  cases hr:rl r with
  |mk p q cond=>
   intro pars pars' d hc hd n
   have:=this n
   rw [hr] at this
   exact this pars pars' d hc (hd n)
 ·cases n with
  |zero=>trivial
  |succ n=>
   show TH (Gw tab n) (tab 0) pars d
   rw [h0]
   exact⟨trivial,SY⟩
end Go.AE.Q
