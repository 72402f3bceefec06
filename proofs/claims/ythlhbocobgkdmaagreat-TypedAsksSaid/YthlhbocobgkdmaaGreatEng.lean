import Derived.Test.YthlhbocobgkdmaaGreatEng2
import Derived.LoopN
import Derived.Orders
import Derived.Laws.Externs
import Derived.WideKeyArgs
import Derived.ProofKit
import Derived.OpenShut
import Derived.JoinedCond
import Derived.DataShut
import Derived.Below
import Derived.ChangeSame
import Derived.Lib.Split
import Derived.Sort.Walk0
import Derived.Sort.EncStr
import Derived.Sort.Grow
import Derived.Lib.SlicesCompact
import Derived.Lib.IndexMore
import Derived.Lib.Join
import Derived.Lib.SplitLaws
import Derived.IntWalk
set_option linter.all false
namespace Go.AE
section
variable {c:oA} {rec:Task→Out} {P:Program} {st st':St} {nid:Nat} {v:V}
def Own (nid:Nat)(st st':St):Prop:=∀ x,¬ (nid≤x∧x<nid+32)→st'.h x=st.h x
theorem Own.refl (nid:Nat)(st:St):Own nid st st:=fun _ _=>rfl
theorem Own.dG {o:Nat}{ob:Option Ob}(h:Own nid st st')(ho:nid≤o∧o<nid+32):Own nid st (st'.dG o ob):=fun x hx=>by
 have hne:x≠o:=fun e=>hx (by rw [e];exact ho)
 rw [Q8,if_neg hne];exact h x hx
theorem NH {t:TypeId}{o:Nat}(ho:nid≤o∧o<nid+32){v v':V}(h:BV P t o v st (fun v s=>some (v,s))=some (v',st')):Own nid st st':=by
 unfold BV at h
 split at h
 ·split at h
  ·obtain⟨_,h⟩:=H8 h
   cases h
   exact (Own.refl nid st).dG ho
  ·cases h
 ·cases h;exact Own.refl nid st
theorem wL {α β:Type}{x:Option α}{k:α→Option β}{y:β}(h:x.bind k=some y):∃ a,x=some a∧k a=some y:=by
 cases x with
 |none=>cases h
 |some a=>exact⟨a,rfl,h⟩
theorem Gt {t:TypeId}{p:V}(h:IP P t p st (fun v s=>some (v,s))=some (v,st')):st'=st:=by
 unfold IP typed at h
 simp only [yX] at h
 replace h:=(K1 h).2
 split at h
 ·split at h
  ·cases hb:P4 P t with
   |true=>rw [hb] at h;obtain⟨_,h⟩:=H8 h;cases h;rfl
   |false=>
    rw [hb] at h
    simp only [cond_false] at h
    split at h
    ·cases h;rfl
    ·cases h
  ·cases h
 ·rename_i sz xs i off
  cases hb:(Nat.beq off 0&&Nat.beq (L6 P t) sz) with
  |true=>rw [hb] at h;obtain⟨_,h⟩:=H8 h;cases h;rfl
  |false=>rw [hb] at h;simp only [cond_false] at h;obtain⟨_,h⟩:=H8 h;obtain⟨_,h⟩:=H8 h;obtain⟨_,h⟩:=H8 h;cases h;rfl
 ·rename_i o sz i off
  split at h
  ·obtain⟨_,h⟩:=H8 h
   cases hb:(Nat.beq off 0&&Nat.beq (L6 P t) sz) with
   |true=>rw [hb] at h;obtain⟨_,h⟩:=H8 h;cases h;rfl
   |false=>rw [hb] at h;simp only [cond_false] at h;obtain⟨_,h⟩:=H8 h;obtain⟨_,h⟩:=H8 h;obtain⟨_,h⟩:=H8 h;cases h;rfl
  ·cases h
 ·cases h
theorem Gp {op:BinOp}{k:IntKind}{a b:Int}(h:(II op k a b fun z=>some (V.d z,st))=some (v,st')):st'=st:=by
 rw [QV (K:=fun v s=>some (v,s))] at h
 obtain⟨p,h1,h2⟩:=wL h
 cases h2
 cases op<;>simp only [II] at h1<;>first|(cases h1;done)|(cases h1;rfl)|(obtain⟨_,h1⟩:=K1 h1;cases h1;rfl)
theorem Ia {op:BinOp}{a b:F9}(h:(JA op a b fun z=>some (V.d z,st))=some (v,st')):st'=st:=by
 cases op<;>simp only [JA] at h<;>first|(cases h;done)|(cases h;rfl)|(obtain⟨_,h⟩:=H8 h;cases h;rfl)
theorem Af {op:BinOp}{t:TypeId}{x y:D}(h:(wK P op t x y fun z=>some (V.d z,st))=some (v,st')):st'=st:=by
 unfold wK at h
 split at h
 ·split at h
  ·replace h:=(K1 h).2;cases h;rfl
  ·replace h:=(K1 h).2;cases h;rfl
  ·exact Gp (H8 h).2
 ·exact Ia h
 ·split at h
  ·split at h<;>first|(cases h;done)|(cases h;rfl)
  ·cases h
 ·replace h:=(H8 h).2
  split at h<;>first|(cases h;done)|(cases h;rfl)
 ·rename_i sz xs e1 e2
  replace h:=(H8 h).2
  cases he:xs.isEmpty with
  |true=>simp only [he,cond_true] at h;split at h<;>first|(cases h;done)|(cases h;rfl)
  |false=>simp only [he,cond_false] at h;split at h<;>first|(cases h;done)|(cases h;rfl)
 ·replace h:=(H8 h).2
  split at h<;>first|(cases h;done)|(cases h;rfl)
 ·cases h
theorem Ie {op:UnOp}{x:D}(h:(JD op x fun z=>some (V.d z,st))=some (v,st')):st'=st:=by
 unfold JD at h
 split at h<;>first|(cases h;done)|(cases h;rfl)
theorem Ky {t:TypeId}{x:V}(h:(XR P t st x fun n=>some (V.d (.int .i64 n),st))=some (v,st')):st'=st:=by
 unfold XR at h
 split at h
 ·split at h<;>first|(cases h;done)|(cases h;rfl)
 ·split at h<;>first|(cases h;done)|(cases h;rfl)
 ·split at h
  ·split at h<;>first|(cases h;done)|(cases h;rfl)
  ·cases h;rfl
  ·cases h
 ·cases h
theorem XV {t:TypeId}{x i:V}{ok:Bool}(h:sJ P t x i ok st (fun v s=>some (v,s))=some (v,st')):st'=st:=by
 unfold sJ at h
 split at h
 ·split at h
  ·replace h:=(H8 h).2
   unfold typed at h
   replace h:=(H8 h).2
   cases ok<;>(cases h;rfl)
  ·cases h
 ·cases h
theorem MJ {t:TypeId}{x i:V}(h:jO P t x i st (fun v s=>some (v,s))=some (v,st')):st'=st:=by
 unfold jO at h
 replace h:=(K1 h).2
 split at h
 ·split at h
  ·replace h:=(H8 h).2;cases h;rfl
  ·split at h
   ·replace h:=(H8 h).2;cases h;rfl
   ·cases h
  ·split at h
   ·replace h:=(H8 h).2;cases h;rfl
   ·cases h
  ·cases h
 ·cases h
theorem TJ {t:TypeId}{x:Operand}{vx i:V}(h:oW c t x vx i st (fun v s=>some (v,s))=some (v,st')):st'=st:=by
 unfold oW at h
 split at h
 ·split at h
  ·replace h:=(H8 h).2;cases h;rfl
  ·cases h
 ·split at h
  ·unfold JU at h
   split at h
   ·replace h:=(H8 h).2;cases h;rfl
   ·cases h
  ·exact MJ h
theorem Ci {t:TypeId}{x:V}{lo hi mx:Option V}(h:yD P t x lo hi mx st (fun v s=>some (v,s))=some (v,st')):st'=st:=by
 unfold yD at h
 split at h
 ·cases h
 ·replace h:=(K1 h).2
  split at h
  ·split at h
   ·replace h:=(H8 h).2;cases h;rfl
   ·cases h
  ·split at h
   ·replace h:=(H8 h).2;cases h;rfl
   ·cases h
  ·split at h
   ·replace h:=(K1 h).2
    split at h
    ·replace h:=(H8 h).2;cases h;rfl
    ·cases h
   ·cases h
  ·cases h
theorem WQ {c:oA}{t:Nat}{cs:List V}{v:V}(h:KQ c t nid cs st (fun v s=>some (v,s))=some (v,st')):Own nid st st':=by
 unfold KQ at h
 split at h
 ·rename_i cs' h' hb
  cases h
  refine Own.dG (st':={ st with h:=h' }) ?_ ⟨B9 _,by omega⟩
  unfold KP at hb
  split at hb
  ·cases hb;exact Own.refl nid st
  ·split at hb
   ·replace hb:=(H8 hb).2
    cases hb
    intro x hx
    have hn:Nat.beq x (nid+1)=false:=by
     rw [← Bool.not_eq_true]
     intro hc
     have:=B0 hc
     exact hx (by omega)
    show (bif Nat.beq x (nid+1) then _ else _)=_
    rw [hn];rfl
   ·cases hb
 ·cases h
theorem Dy {o:Oper}(hro:MN o.op=true)(h:Im c rec o nid st (fun v s=>some (v,s))=some (v,st')):Own nid st st':=by
 have same:st'=st→Own nid st st':=fun e=>by rw [e];exact Own.refl nid st
 unfold Im at h
 simp only [yX] at h
 split at h
 ·cases h;exact Own.refl nid _
 ·split at h
  ·rename_i ho _ _ _ _
   cases hs:eJ c.P o.type with
   |true=>rw [hs] at h;exact NH ⟨B9 _,by omega⟩ h
   |false=>rw [hs] at h;cases h;exact Own.refl nid _
  ·cases h;exact Own.refl nid _
 ·split at h
  ·rename_i b _
   cases b<;>(cases h;exact Own.refl nid _)
  ·cases h
 ·rename_i t ho
  split at h
  ·rename_i z hz
   replace h:=(H8 h).2
   cases hs:eJ c.P t with
   |true=>
    rw [hs] at h
    simp only [cond_true] at h
    rw [mT] at h
    obtain⟨⟨v1,s1⟩,h1,h2⟩:=wL h
    cases h2
    exact (NH (nid:=nid) ⟨by omega,by omega⟩ h1).dG ⟨B9 _,by omega⟩
   |false=>rw [hs] at h;exact WQ h
  ·cases h
 ·rename_i t x ho
  replace h:=(K1 h).2
  cases hs:eJ c.P t with
  |true=>
   rw [hs] at h
   simp only [cond_true] at h
   rw [mT] at h
   obtain⟨⟨v1,s1⟩,h1,h2⟩:=wL h
   cases h2
   exact (NH (nid:=nid) ⟨by omega,by omega⟩ h1).dG ⟨B9 _,by omega⟩
  |false=>rw [hs] at h;replace h:=(H8 h).2;exact WQ h
 ·split at h
  ·replace h:=(K1 h).2
   split at h
   ·cases h;exact Own.refl nid _
   ·cases h
  ·cases h
 ·rename_i ho;rw [ho] at hro;cases hro
 ·exact same (Gt h)
 ·rename_i ho;rw [ho] at hro;cases hro
 ·split at h<;>first|(cases h;done)|(cases h;exact Own.refl nid _)|(replace h:=(H8 h).2;cases h;exact Own.refl nid _)
 ·split at h
  ·exact same (Af h)
  ·cases h
 ·split at h
  ·exact same (Ie h)
  ·cases h
 ·split at h
  ·cases h;exact Own.refl nid _
  ·replace h:=(H8 h).2;cases h;exact Own.refl nid _
  ·cases h;exact Own.refl nid _
  ·split at h
   ·split at h
    ·replace h:=(H8 h).2;cases h;exact Own.refl nid _
    ·cases h
   ·cases h
  ·cases h
 ·split at h
  ·replace h:=(H8 h).2
   split at h
   ·cases h;exact Own.refl nid _
   ·cases h
  ·cases h
 ·rename_i f first captured ho
  cases hb:(captured.isEmpty&&first.isEmpty) with
  |true=>rw [hb] at h;cases h;exact Own.refl nid _
  |false=>rw [hb] at h;replace h:=(H8 h).2;cases h;exact Own.refl nid _
 ·split at h
  ·replace h:=(H8 h).2
   split at h<;>first|(cases h;done)|(cases h;exact Own.refl nid _)
  ·cases h
 ·split at h
  ·rename_i off ft _
   replace h:=(K1 h).2
   split at h
   ·replace h:=(H8 h).2
    cases hag:P4 c.P ft with
    |true=>rw [hag] at h;cases h;exact Own.refl nid _
    |false=>
     rw [hag] at h
     simp only [cond_false] at h
     split at h<;>first|(cases h;done)|(cases h;exact Own.refl nid _)
   ·replace h:=(H8 h).2
    cases hag:P4 c.P ft with
    |true=>rw [hag] at h;cases h;exact Own.refl nid _
    |false=>
     rw [hag] at h
     simp only [cond_false] at h
     split at h<;>first|(cases h;done)|(cases h;exact Own.refl nid _)
   ·cases h
  ·cases h
 ·exact same (TJ h)
 ·split at h
  ·replace h:=(H8 h).2;cases h;exact Own.refl nid _
  ·cases h
 ·unfold MV at h
  split at h
  ·split at h
   ·replace h:=(H8 h).2
    replace h:=(H8 h).2
    cases h
    exact (Own.refl nid st).dG ⟨B9 _,by omega⟩
   ·cases h
  ·cases h
 ·split at h
  ·unfold uN at h
   split at h
   ·replace h:=(H8 h).2
    cases h
    exact (Own.refl nid st).dG ⟨B9 _,by omega⟩
   ·cases h
  ·cases h
 ·exact same (XV h)
 ·rename_i ho;rw [ho] at hro;cases hro
 ·rename_i ho;rw [ho] at hro;cases hro
 ·rename_i ho;rw [ho] at hro;cases hro
 ·rename_i ho;rw [ho] at hro;cases hro
 ·rename_i ho;rw [ho] at hro;cases hro
 ·rename_i t x lo hi mx ho
  rw [ho] at hro
  have hb:(c.trn t&&lo.isNone&&hi.isSome)=false:=by
   simp only [MN] at hro
   cases lo<;>cases hi<;>simp_all
  rw [hb] at h
  exact same (Ci h)
 ·rename_i ho;rw [ho] at hro;cases hro
 ·split at h
  ·replace h:=(H8 h).2;cases h;exact Own.refl nid _
  ·cases h
 ·rename_i q' ho
  rw [ho] at hro
  simp only [MN] at hro
  split at h
  ·rename_i f hc;rw [hc] at hro;cases hro
  ·rename_i b hc
   rw [hc] at hro
   unfold qN at h
   split at h
   ·split at h
    ·exact same (Ky h)
    ·cases h
   ·cases hro
   ·cases hro
   ·cases hro
   ·replace h:=(H8 h).2;cases h;exact Own.refl nid _
   ·replace h:=(H8 h).2;cases h;exact Own.refl nid _
   ·cases h
  ·rename_i x nm hc
   rw [hc] at hro
   cases hro
 ·cases h
end
end Go.AE
namespace Go.AE
section
variable {Rs Vl:Type} (m0:Rs→Vl) (wr:Nat→Rs→Bool) (e:Nat→Rs→Vl)
def kQ (L:Nat→Bool):Nat→Rs→Vl
 |0=>m0
 |i+1=>fun x=>bif L i&&wr i x then e i x else kQ L i x
theorem oT {L L':Nat→Bool}{x:Rs}:∀ n,(∀ i,i<n→L i=L' i∨wr i x=false)→kQ m0 wr e L n x=kQ m0 wr e L' n x
 |0,_=>rfl
 |n+1,h=>by
  have ih:=oT (L:=L) (L':=L') n fun i hi=>h i (by omega)
  simp only [kQ]
  rcases h n (by omega) with k|k
  ·rw [k,ih]
  ·rw [k,Bool.and_false,Bool.and_false,ih]
theorem QR {L:Nat→Bool}{x:Rs}{j:Nat}:∀ n,j≤n→(∀ i,j≤i→i<n→L i=false∨wr i x=false)→kQ m0 wr e L n x=kQ m0 wr e L j x
 |0,hj,_=>by have:j=0:=by omega
             subst this;rfl
 |n+1,hj,h=>by
  by_cases hn:j=n+1
  ·subst hn;rfl
  ·simp only [kQ]
   have ih:=QR (L:=L) (x:=x) (j:=j) n (by omega) fun i h1 h2=>h i h1 (by omega)
   rcases h n (by omega) (by omega) with k|k
   ·rw [k,Bool.false_and,cond_false,ih]
   ·rw [k,Bool.and_false,cond_false,ih]
theorem LX {L:Nat→Bool}{x:Rs}{j n:Nat}(hj:j<n)(hL:L j=false)(hb:∀ i,i<j→L i=true∨wr i x=false)(ha:∀ i,j<i→i<n→L i=false∨wr i x=false) :
  kQ m0 wr e L n x=kQ m0 wr e (fun _=>true) j x:=by
 rw [QR m0 wr e (j:=j) n (by omega) fun i h1 h2=>by
  rcases Nat.eq_or_lt_of_le h1 with k|k
  ·subst k;exact .inl hL
  ·exact ha i k h2]
 exact oT m0 wr e j fun i hi=>hb i hi
theorem FY {L:Nat→Bool}{x:Rs}{j:Nat}:∀ n,j<n→(∀ i,j<i→i<n→L i=false∨wr j x=false∨wr i x=false)→
  kQ m0 wr e (fun i=>bif Nat.beq i j then true else L i) n x=bif wr j x then e j x else kQ m0 wr e L n x
 |0,hj,_=>by omega
 |n+1,hj,h=>by
  by_cases hn:j=n
  ·subst hn
   simp only [kQ]
   have e1:Nat.beq j j=true:=Nat.beq_refl j
   rw [e1,cond_true,Bool.true_and]
   cases hw:wr j x with
   |true=>rfl
   |false=>
    rw [Bool.and_false,cond_false,cond_false,cond_false]
    refine oT m0 wr e j fun i hi=> .inl ?_
    have:Nat.beq i j=false:=by
     cases k:Nat.beq i j with
     |true=>have:=B0 k;omega
     |false=>rfl
    rw [this];rfl
  ·have ih:=FY (L:=L) (x:=x) (j:=j) n (by omega) fun i h1 h2=>h i h1 (by omega)
   simp only [kQ]
   have e1:Nat.beq n j=false:=by
    cases k:Nat.beq n j with
    |true=>have:=B0 k;omega
    |false=>rfl
   rw [e1,cond_false,ih]
   rcases h n (by omega) (by omega) with k|k|k
   ·rw [k,Bool.false_and,cond_false,cond_false]
   ·rw [k,cond_false,cond_false]
   ·rw [k,Bool.and_false,cond_false,cond_false]
end
end Go.AE
namespace Go.AE
open Go.RowKit
structure FX where
 c:oA
 fn:Func
 u:Nat→Option Obj
 H9:Sk
 pre:List (Nat×Nat)
 g0:G
 w0:World
def Ov (g0:G)(df:List (Nat×List (Nat×Nat))):List Deferred:=df.map fun d=>⟨.fn (.func d.1) #[],(d.2.map fun l=>Value.pointer (some ⟨g0.blk l.1,l.2,none⟩)).toArray⟩
def SE (pre:List (Nat×Nat))(g0 g:G):Prop:=∀ l o,O4 pre l=some o→g.blk l=g0.blk l∧g.hdr l=g0.hdr l
structure CN (X:FX) (p:Nat→Prop) (g:G) (st:St) (a:Act) (w:World):Prop where
 at_:At X.u p g st a w
 size:X.fn.ntmps≤a.tmps.size
 def_:a.defers=Ov X.g0 st.m.df∧∀ d∈st.m.df,∀ l∈d.2,O4 X.pre l.1=some l.1
 ext:Ext X.g0 X.w0 g w
 keep:SE X.pre X.g0 g
 pre:∀ l o,O4 X.pre l=some o→p l
section
variable {X:FX} {p q:Nat→Prop} {g g':G} {st st':St} {a a':Act} {w w':World} {rec:Task→Out} {r:Bool×List D} {Q:Exit→Act→World→Prop}
theorem SE.agree (h:SE X.pre X.g0 g)(ha:L8 p g g')(hp:∀ l o,O4 X.pre l=some o→p l):SE X.pre X.g0 g':=fun l o hl=>by
 rw [ha.blk l (hp l o hl),ha.hdr l (hp l o hl)];exact h l o hl
theorem Ek (st:St)(d:Nat)(v:V)(t:Nat):(st.set d v).t t=if t=d then v else st.t t:=by
 simp only [St.set]
 by_cases e:t=d
 ·rw [if_pos e,beq_iff.2 e];rfl
 ·rw [if_neg e,beq_false e];rfl
theorem yB {st:St}{d:Nat}{v:V}(h:st.t d=v):st.set d v=st:=by
 have:(st.set d v).t=st.t:=by
  funext t
  rw [Ek]
  split
  ·rename_i e;rw [e,h]
  ·rfl
 show (⟨(st.set d v).t,st.h,st.m⟩:St)=st
 rw [this]
theorem Ki {tm:Array Value}{d:Nat}{v:Value}(hd:d<tm.size)(t:Nat):(tm.setIfInBounds d v).getD t undef=if t=d then v else tm.getD t undef:=by
 by_cases e:t=d
 ·subst e
  rw [if_pos rfl]
  simp [D2,hd]
 ·rw [if_neg e]
  simp [D2,Array.getElem?_setIfInBounds,Ne.symm e]
theorem CN.put (N:CN X p g st a w){dst:Option Tmp}(hd:(match dst with|some d=>Nat.blt d X.fn.ntmps|none=>true)=true){vv:V}{st1:St}{v:Value}(hpq:∀ x,p x→q x)(S:P3 X.u q g' st1.h w')(ha:L8 p g g')(he:Ext g w g' w')
  (hv:VV g' vv v) (hu:vv.T0 q) (ht:st1.t=st.t) (hm:st1.m=st.m):CN X q g' (st1.put dst vv) (a.put dst v) w':=by
 have hb:∀ t,VV g' (st.t t) (a.tmps.getD t undef):=fun t=>(N.at_.tm t).agree ha (N.at_.nm t)
 have hb2:∀ t,(st.t t).T0 q:=fun t=>(N.at_.nm t).mono hpq
 cases dst with
 |none=>
  refine⟨⟨S,fun t=>?_,fun t=>?_⟩,N.size,(by show a.defers=Ov X.g0 st1.m.df∧∀ d∈st1.m.df,∀ l∈d.2,O4 X.pre l.1=some l.1;rw [hm];exact N.def_),N.ext.trans he,N.keep.agree ha N.pre,fun l o h=>hpq _ (N.pre l o h)⟩
  ·show VV g' (st1.t t) _
   rw [ht];exact hb t
  ·show (st1.t t).T0 q
   rw [ht];exact hb2 t
 |some d=>
  have hd:Nat.ble (d+1) X.fn.ntmps=true:=hd
  have hd:=B3 hd
  have hlt:d<a.tmps.size:=Nat.lt_of_lt_of_le hd N.size
  refine⟨⟨S,fun t=>?_,fun t=>?_⟩,?_,(by show a.defers=Ov X.g0 st1.m.df∧∀ d∈st1.m.df,∀ l∈d.2,O4 X.pre l.1=some l.1;rw [hm];exact N.def_),N.ext.trans he,N.keep.agree ha N.pre,fun l o h=>hpq _ (N.pre l o h)⟩
  ·show VV g' ((st1.set d vv).t t) ((a.tmps.setIfInBounds d v).getD t undef)
   rw [Ek,Ki hlt,ht]
   split
   ·exact hv
   ·exact hb t
  ·show ((st1.set d vv).t t).T0 q
   rw [Ek,ht]
   split
   ·exact hu
   ·exact hb2 t
  ·show X.fn.ntmps≤(a.tmps.setIfInBounds d v).size
   simpa using N.size
theorem OL {ops:Array Oper}{j d:Nat}{b:Bool}(hd:(ops[j]?).bind (·.dst)=some d)(hv:a.tmps.getD d undef = .bool b):yielded ops a.tmps j=some b:=by
 unfold yielded
 rw [hd]
 simp only [Option.bind_some]
 rw [D2] at hv
 cases e:a.tmps[d]? with
 |none=>rw [e] at hv;simp [undef] at hv
 |some x=>rw [e] at hv;simp at hv;subst hv;rfl
theorem JE {ops:Array Oper}{j d:Nat}(hd:(ops[j]?).bind (·.dst)=some d)(hv:a.tmps.getD d undef=undef):yielded ops a.tmps j=none:=by
 unfold yielded
 rw [hd]
 simp only [Option.bind_some]
 rw [D2] at hv
 cases e:a.tmps[d]? with
 |none=>rfl
 |some x=>rw [e] at hv;simp at hv;subst hv;rfl
theorem RA {S:At X.u p g st a w}(hk:SE X.pre X.g0 g):∀ {xs:List V} {vals:List Value} {zs:List (Nat×Nat)},F2 (VV g) xs vals→labels X.pre xs=some zs→
  vals=(zs.map fun l=>Value.pointer (some ⟨X.g0.blk l.1,l.2,none⟩))∧∀ l∈zs,O4 X.pre l.1=some l.1
 |[],_,zs,h,e=>by
  cases h
  simp only [labels,B1] at e
  subst e
  exact⟨rfl,fun l hl=>by cases hl⟩
 |x::xs,_,zs,h,e=>by
  cases h with
  |cons h1 h2=>
   cases x<;>simp only [labels] at e<;>try (cases e;done)
   split at e
   ·rename_i o off _ _ o' zs' e1 e2
    obtain⟨hb,e⟩:=H8 e
    cases e
    have ho:o=o':=beq_iff.1 hb
    subst ho
    obtain⟨r1,r2⟩:=RA (S:=S) hk h2 e2
    have h1:=FG h1
    rw [(hk _ _ e1).1] at h1
    refine⟨by rw [h1,r1];rfl,fun l hl=>?_⟩
    rcases B7.1 hl with rfl|hl
    ·exact e1
    ·exact r2 l hl
   ·cases e
theorem Ap {o:Oper}{d:Nat×List (Nat×Nat)}(N:CN X p g st a w)(h:SZ X.pre st o=some d) :
  (execOp a.eval o).run X.c.P w = .ok (.defer ⟨.fn (.func d.1) #[],(d.2.map fun l=>Value.pointer (some ⟨X.g0.blk l.1,l.2,none⟩)).toArray⟩) w∧o.guard=none∧o.dst=none∧∀ l∈d.2,O4 X.pre l.1=some l.1:=by
 unfold SZ at h
 split at h
 ·rename_i q' ho
  split at h
  ·rename_i f hc hg hdst
   split at h
   ·rename_i gid he
    split at h
    ·rename_i zs hl
     cases h
     have hv:=N.at_.ev f
     rw [he] at hv
     have hv:a.eval f = .func (.func gid) #[] #[]:=hv
     obtain⟨r1,r2⟩:=RA (S:=N.at_) N.keep (Dk N.at_ q'.args.toList) hl
     refine⟨?_,hg,hdst,r2⟩
     simp only [execOp,ho,resolve,hc,hv,Deferred.ofValue]
     have e:q'.args.map a.eval=(zs.map fun l=>Value.pointer (some ⟨X.g0.blk l.1,l.2,none⟩)).toArray:=by
      apply Array.ext'
      simpa using r1
     simp [e]
    ·cases h
   ·cases h
  ·cases h
 ·cases h
theorem nW (hn:fP X.c)(hg0:X.c.FD X.g0.h)(hrec:tB X.c rec){ops:Array Oper}{V3:Nat}:∀ (os:List Oper) (i:Nat) {st:St} {a:Act} {w:World} {g:G} {K:St→Out},EJ X.c rec X.fn.ntmps X.pre ops.toList V3 i os st K=some r→
  CN X (·<V3+32*i) g st a w→st.n=V3→
  (∀ st' a' w' g',K st'=some r→CN X (·<V3+32*(i+os.length)) g' st' a' w'→st'.n=V3→Q .normal a' w')→wpList X.c.P ops Q os a w
 |[],i,st,a,w,g,K,h,N,hst,hK=>hK st a w g h (by simpa using N) hst
 |o::os,i,st,a,w,g,K,h,N,hst,hK=>by
  have hfr:iY (fun x=>x<V3+32*i) (fun x=>x<V3+32*(i+1)) (V3+32*i):=fun k hk=>⟨by omega,by omega⟩
  have hpq:∀ x,x<V3+32*i→x<V3+32*(i+1):=fun x hx=>by omega
  have hK':∀ st' a' w' g',K st'=some r→CN X (·<V3+32*((i+1)+os.length)) g' st' a' w'→st'.n=V3→Q .normal a' w':=by
   intro st' a' w' g' h1 h2
   refine hK st' a' w' g' h1 ?_
   rw [show i+(o::os).length=i+1+os.length from by simp;omega]
   exact h2
  have on:Region.wanted o (yielded ops a.tmps)=true→(bif (match o.dst with|some d=>Nat.blt d X.fn.ntmps|none=>true) then Im X.c rec o (V3+32*i) st fun v st'=>EJ X.c rec X.fn.ntmps X.pre ops.toList V3 (i+1) os (st'.put o.dst v) K else none)=some r→
    wpList X.c.P ops Q (o::os) a w:=by
   intro hw h
   obtain⟨hd,h⟩:=H8 h
   obtain⟨vv,st1,hk,hop⟩:=YK hn (hn.2.2.1 _ _ N.ext.h hg0) hrec N.at_ hpq hfr h
   refine wpList_step fun KK hKK=>?_
   rw [if_pos hw]
   refine hop.wp fun v w' ⟨g',s1,s2,s3,s4,s5,s6,s7⟩=>hKK _ _ ?_
   refine nW hn hg0 hrec os (i+1) hk (N.put hd hpq s1 s2 s3 s4 s5 s6 s7) ?_ hK'
   cases o.dst<;>(show st1.m.k=V3;rw [s7];exact hst)
  have off:Region.wanted o (yielded ops a.tmps)=false→(bif (match o.dst with|some d=>Nat.blt d X.fn.ntmps|none=>true) then EJ X.c rec X.fn.ntmps X.pre ops.toList V3 (i+1) os (st.put o.dst (.d .und)) K else none)=some r→wpList X.c.P ops Q (o::os) a w:=by
   intro hw h
   obtain⟨hd,h⟩:=H8 h
   refine wpList_step fun KK hKK=>?_
   rw [if_neg (by rw [hw];simp)]
   refine hKK _ _ ?_
   refine nW hn hg0 hrec os (i+1) h (N.put (vv:= .d .und) hd hpq (N.at_.hp.more hpq) (L8.refl _ g) (Ext.refl g w) rfl trivial rfl rfl) ?_ hK'
   cases o.dst<;>exact hst
  simp only [EJ] at h
  split at h
  ·rename_i d hd
   obtain⟨hop,hg,hdst,hlab⟩:=Ap N hd
   refine wpList_step fun KK hKK=>?_
   rw [if_pos (by simp [Region.wanted,hg])]
   unfold Oper.wp
   rw [hop,Oper.upon_defer,hdst]
   refine hKK _ _ ?_
   refine nW hn hg0 hrec os (i+1) h (st:={ st with m:=⟨st.m.k,d::st.m.df⟩ }) ⟨⟨N.at_.hp.more hpq,N.at_.tm,fun t=>(N.at_.nm t).mono hpq⟩,N.size,⟨?_,?_⟩,N.ext,N.keep,fun l o h=>hpq _ (N.pre l o h)⟩ hst hK'
   ·show _::a.defers=_::Ov X.g0 st.m.df
    rw [N.def_.1]
   ·intro d' hd' l hl
    rcases B7.1 hd' with rfl|hd'
    ·exact hlab l hl
    ·exact N.def_.2 d' hd' l hl
  split at h
  ·rename_i q' t mo ns d m hnx
   obtain⟨hd,h⟩:=H8 h
   simp only [A9] at hd
   obtain⟨hd,hb⟩:=hd
   obtain⟨hg,hdst,hrun⟩:=Ha (P:=X.c.P) N.at_ hpq hnx hb
   refine wpList_step fun KK hKK=>?_
   rw [if_pos (by simp [Region.wanted,hg])]
   rcases hrun with ⟨hl,hr,hs⟩|⟨j,hj,k,v,w',hr,hs,he⟩
   ·rw [hl] at h
    have h:EJ X.c rec X.fn.ntmps X.pre ops.toList V3 (i+1) os ((st.dG q' (some (.it t mo (YO ns)))).set d (.tup [.d (.bool false)])) K=some r:=h
    unfold Oper.wp
    rw [hr]
    show KK (a.put o.dst _) _
    rw [hdst]
    refine hKK _ _ ?_
    exact nW hn hg0 hrec os (i+1) h (N.put (dst:=some d) hd (vv:= .tup [.d (.bool false)]) (v:= .tuple #[.bool false]) (st1:=st.dG q' (some (.it t mo (YO ns)))) hpq hs (L8.refl _ g) (Ext.refl g w) ⟨_,rfl,.cons rfl .nil⟩ (fun x hx=>by
     rcases B7.1 hx with rfl|hx
     ·trivial
     ·cases hx) rfl rfl) hst hK'
   ·have h:EJ X.c rec X.fn.ntmps X.pre ops.toList V3 (i+1) os ((st.dG q' (some (.it t mo (YY ns j)))).set d (.tup [.d (.bool true),.top,.top])) K=some r:=by
     rcases Bu h with ⟨e,_⟩|h
     ·rw [e] at hj;cases hj
     ·exact h j hj
    unfold Oper.wp
    rw [hr]
    show KK (a.put o.dst _) _
    rw [hdst]
    refine hKK _ _ ?_
    exact nW hn hg0 hrec os (i+1) h (N.put (dst:=some d) hd (vv:= .tup [.d (.bool true),.top,.top]) (v:= .tuple #[.bool true,k,v]) (st1:=st.dG q' (some (.it t mo (YY ns j)))) hpq hs (L8.refl _ g) he ⟨_,rfl,.cons rfl (.cons (trivial:VD _ .top _) (.cons (trivial:VD _ .top _) .nil))⟩ (fun x hx=>by
     simp only [B7,List.not_mem_nil,or_false] at hx
     rcases hx with rfl|rfl|rfl<;>trivial) rfl rfl) hst hK'
  split at h
  ·rename_i hg
   exact on (by simp [Region.wanted,hg]) h
  ·rename_i j want hg
   split at h
   ·cases h
   ·rename_i d hd
    rw [D0] at hd
    have htm:=N.at_.tm d
    split at h
    ·rename_i he
     rw [he] at htm
     exact off (by simp [Region.wanted,hg,JE hd htm]) h
    ·rename_i b he
     rw [he] at htm
     have hy:=OL hd (CS htm)
     cases b with
     |true=>
      simp only [cond_true] at h
      rw [yB he] at h
      cases want with
      |true=>exact on (by simp [Region.wanted,hg,hy]) h
      |false=>exact off (by simp [Region.wanted,hg,hy]) h
     |false=>
      simp only [cond_false] at h
      rw [yB he] at h
      cases want with
      |true=>exact off (by simp [Region.wanted,hg,hy]) h
      |false=>exact on (by simp [Region.wanted,hg,hy]) h
    ·cases h
theorem NN:∀ {new:List (Nat×Ob)} {h:Nat→Option Ob} {x:Nat},(∀ e∈new,e.1≠x)→nX h new x=h x
 |[],_,_,_=>rfl
 |(o,ob)::r,h,x,hx=>by
  simp only [nX]
  rw [beq_false (fun e=>hx (o,ob) (by simp) e.symm),cond_false]
  exact NN fun e he=>hx e (by simp [he])
theorem xY {o:Nat}{ob:Ob}:∀ {new:List (Nat×Ob)} {h:Nat→Option Ob} (x:Nat),(∀ e∈new,e.1≠o)→nX (fun x=>bif Nat.beq x o then some ob else h x) new x=(bif Nat.beq x o then some ob else nX h new x)
 |[],_,_,_=>rfl
 |(o',ob')::r,h,x,hx=>by
  simp only [nX]
  have ih:=xY (ob:=ob) (new:=r) (h:=h) x (fun e he=>hx e (by simp [he]))
  rw [ih]
  by_cases e:x=o'
  ·subst e
   rw [beq_iff.2 rfl,beq_false (hx (x,ob') (by simp))]
   rfl
  ·rw [beq_false e];rfl
theorem PQ {u:Nat→Option Obj}:∀ {cs:List V} {m:Nat} {g:G} {h:Nat→Option Ob} {vals:List Value},P3 u (·<m) g h w→F2 (VA g) cs vals→(∀ c∈cs,c.V7 (·<m))→
  ∃ g',L8 (·<m) g g'∧g'.h=g.h∧g'.blk=g.blk∧F2 (VA g') (K4 cs m).1 vals∧(∀ c∈(K4 cs m).1,c.V7 (·<(K4 cs m).2.2))∧m≤(K4 cs m).2.2∧
   (∀ e∈(K4 cs m).2.1,m≤e.1)∧P3 u (·<(K4 cs m).2.2) g' (nX h (K4 cs m).2.1) w:=by
 intro cs
 induction cs with
 |nil=>
  intro m g h vals S hF hu
  cases hF
  have e0:K4 [] m=([],[],m):=rfl
  rw [e0]
  exact⟨g,L8.refl _ g,rfl,rfl,.nil,(fun c hc=>nomatch hc),B9 _,(fun e he=>nomatch he),S⟩
 |cons c cs ih=>
  intro m g h vals S hF hu
  cases hF with
  |@cons _ v _ vals h1 h2=>
   have plain:K4 (c::cs) m=(c::(K4 cs m).1,(K4 cs m).2.1,(K4 cs m).2.2)→∃ g',L8 (·<m) g g'∧g'.h=g.h∧g'.blk=g.blk∧F2 (VA g') (K4 (c::cs) m).1 (v::vals)∧
     (∀ x∈(K4 (c::cs) m).1,x.V7 (·<(K4 (c::cs) m).2.2))∧m≤(K4 (c::cs) m).2.2∧(∀ e∈(K4 (c::cs) m).2.1,m≤e.1)∧P3 u (·<(K4 (c::cs) m).2.2) g' (nX h (K4 (c::cs) m).2.1) w:=by
    intro e
    rw [e]
    obtain⟨g',a1,a2,a3,a4,a5,a6,a7,a8⟩:=ih S h2 (fun x hx=>hu x (by simp [hx]))
    refine⟨g',a1,a2,a3,.cons (VA.agree a1 (hu c (by simp)) h1) a4,fun x hx=>?_,a6,a7,a8⟩
    rcases B7.1 hx with rfl|hx
    ·exact (hu _ (by simp)).mono fun o (ho:o<m)=>Nat.lt_of_lt_of_le ho a6
    ·exact a5 x hx
   by_cases hn:∃ e sz,c = .d (.nils (e+1) (sz+1))
   ·obtain⟨e,sz,rfl⟩:=hn
    have e1:K4 (.d (.nils (e+1) (sz+1))::cs) m=(.row m::(K4 cs (m+1)).1,(m,.row (e+1) (sz+1) [] false)::(K4 cs (m+1)).2.1,(K4 cs (m+1)).2.2):=rfl
    rw [e1]
    have h1:v = .slice none 0 0:=h1
    subst h1
    have hm1:∀ x,x<m→x<m+1:=fun x hx=>by omega
    obtain⟨g1,b1,b2,b3,b4,b5⟩:=gB (h':=fun x=>bif Nat.beq x m then some (.row (e+1) (sz+1) [] false) else h x) S hm1 (Nat.lt_irrefl m) (Nat.lt_succ_self m) (e:=e+1) (sz:=sz+1) (xs:=[]) (v:= .slice none 0 0) (us:=[]) (row:=none) (qV w none) (World.ownsRow_nil w 0 (e+1) (sz+1)) (Nat.succ_pos sz) rfl
     (fun b hb=>by cases hb) (fun b hb=>by cases hb) (fun o' x hx hne=>by rw [beq_false hne] at hx;exact⟨hx,fun _ _ e=>by cases e⟩) (by rw [beq_iff.2 rfl];rfl)
    obtain⟨g2,a1,a2,a3,a4,a5,a6,a7,a8⟩:=ih (m:=m+1) b5 (F2.mono h2 fun y hy z hz=>VA.agree b1 (hu y (by simp [hy])) hz) (fun y hy=>(hu y (by simp [hy])).mono hm1)
    have ha:L8 (·<m) g g2:=⟨fun b x k=>a1.h b x (b1.h b x k),fun o ho=>(a1.blk o (hm1 o ho)).trans (b1.blk o ho),fun o ho=>(a1.hdr o (hm1 o ho)).trans (b1.hdr o ho)⟩
    refine⟨g2,ha,a2.trans b2,a3.trans b3,.cons ⟨by rw [a1.hdr m (Nat.lt_succ_self m),b4],rfl⟩ a4,fun x hx=>?_,Nat.le_trans (Nat.le_succ m) a6,fun x hx=>?_,?_⟩
    ·rcases B7.1 hx with rfl|hx
     ·exact Nat.lt_of_lt_of_le (Nat.lt_succ_self m) a6
     ·exact a5 x hx
    ·rcases B7.1 hx with rfl|hx
     ·exact B9 _
     ·have:=a7 x hx;omega
    ·have e2:nX h ((m,.row (e+1) (sz+1) [] false)::(K4 cs (m+1)).2.1)=nX (fun x=>bif Nat.beq x m then some (.row (e+1) (sz+1) [] false) else h x) (K4 cs (m+1)).2.1:=by
      funext x
      rw [xY x fun y hy=>by have:=a7 y hy;omega]
      rfl
     rw [e2]
     exact a8
   ·refine plain ?_
    match c,hn with
    | .d (.nils (e+1) (sz+1)),hn=>exact absurd ⟨e,sz,rfl⟩ hn
    | .d (.nils 0 _),_=>rfl
    | .d (.nils (_+1) 0),_=>rfl
    | .d .top,_ | .d (.bool _),_ | .d (.int _ _),_ | .d (.str _),_ | .d (.Z _ _),_ | .d .und,_ | .d (.agg _),_ | .d (.fn _),_ | .d .nilp,_ | .d .nilf,_ | .d .nilm,_ | .d .nili,_ | .d .ub,_ | .d (.iface _ _),_ | .d (.meth ..),_=>rfl
    | .ptr ..,_ | .el ..,_ | .rp ..,_ | .row _,_ | .sub ..,_ | .agg _,_ | .fn ..,_ | .tup _,_ | .mp _,_ | .bp ..,_=>rfl
theorem sZ {ty o f:Nat}:∀ {cs:List V} {n:Nat},V.bp ty o f∈(K4 cs n).1→V.bp ty o f∈cs
 |[],n,h=>by cases h
 |c::r,n,h=>by
  by_cases hc:∃ e sz,c = .d (.nils (e+1) (sz+1))
  ·obtain⟨e,sz,rfl⟩:=hc
   simp only [K4] at h
   rcases B7.1 h with h|h
   ·cases h
   ·exact C0 _ (sZ h)
  ·have e:(K4 (c::r) n).1=c::(K4 r n).1:=by
    match c,hc with
    | .d (.nils 0 _),_=>rfl
    | .d (.nils (_+1) 0),_=>rfl
    | .d (.nils (e+1) (sz+1)),hc=>exact absurd ⟨e,sz,rfl⟩ hc
    | .d .top,_ | .d (.bool _),_ | .d (.int _ _),_ | .d (.str _),_ | .d (.Z _ _),_ | .d .und,_ | .d (.agg _),_ | .d (.fn _),_ | .d .nilp,_ | .d .nilf,_ | .d .nilm,_ | .d .nili,_ | .d .ub,_ | .d (.iface _ _),_ | .d (.meth ..),_=>rfl
    | .ptr ..,_ | .el ..,_ | .rp ..,_ | .row _,_ | .sub ..,_ | .agg _,_ | .fn ..,_ | .tup _,_ | .mp _,_ | .bp ..,_=>rfl
   rw [e] at h
   rcases B7.1 h with h|h
   ·rw [h];exact B8 ..
   ·exact C0 _ (sZ h)
theorem yL:∀ (os:List Nat) {st:St} {g:G},P3 X.u (·<st.n) g st.h w→∃ g',L8 (·<st.n) g g'∧g'.h=g.h∧st.n≤(iP os st).n∧P3 X.u (·<(iP os st).n) g' (iP os st).h w∧(iP os st).t=st.t
 |[],st,g,S=>⟨g,L8.refl _ g,rfl,B9 _,S,rfl⟩
 |o::os,st,g,S=>by
  simp only [iP]
  split
  ·rename_i c cs ho
   obtain⟨cc,ee,k1,k2,k3,k4⟩:=S.ob _ _ ho
   obtain⟨g1,a1,a2,a3,a4,a5,a6,a7,a8⟩:=PQ S k2 (S.use _ _ ho).2
   have hon:o<st.n:=(S.use _ _ ho).1
   have hnew:∀ e∈(K4 (c::cs) st.n).2.1,e.1≠o:=fun e he=>by have:=a7 e he;omega
   have hb1:w.heap[g1.blk o]? = some (.cells cc ee (0,0)):=by rw [a3];exact k1
   have hset:=setRow_self w (g1.blk o) cc ee (0,0) hb1
   have S2:=vK (h':=nX (fun x=>bif Nat.beq x o then some (.var (K4 (c::cs) st.n).1) else st.h x) (K4 (c::cs) st.n).2.1) (c':=cc) a8 (by rw [NN hnew];exact ho) hb1 a4 k3 a5 (fun t o' f hm=>k4 t o' f (sZ hm)) (fun x=>by
    rw [xY x hnew]
    by_cases e:x=o
    ·rw [if_pos e,beq_iff.2 e];rfl
    ·rw [if_neg e,beq_false e];rfl)
   rw [hset] at S2
   obtain⟨g2,b1,b2,b3,b4,b5⟩:=yL os (st:={ st with h:=nX (fun x=>bif Nat.beq x o then some (.var (K4 (c::cs) st.n).1) else st.h x) (K4 (c::cs) st.n).2.1,m:=⟨(K4 (c::cs) st.n).2.2,st.m.df⟩ }) S2
   have hle:∀ x,x<st.n→x<(K4 (c::cs) st.n).2.2:=fun x hx=>Nat.lt_of_lt_of_le hx a6
   exact⟨g2,⟨fun b x k=>b1.h b x (a1.h b x k),fun x hx=>(b1.blk x (hle x hx)).trans (a1.blk x hx),fun x hx=>(b1.hdr x (hle x hx)).trans (a1.hdr x hx)⟩,b2.trans a2,Nat.le_trans a6 b3,b4,b5⟩
  ·exact yL os S
theorem yK:∀ (os:List Nat) (st:St),(iP os st).m.df=st.m.df
 |[],_=>rfl
 |o::os,st=>by
  simp only [iP]
  split
  ·rw [yK os]
  ·exact yK os st
theorem ZQ (N:CN X (·<st.n) g st a w)(pre keep:List Nat):∃ g',CN X (·<(RZ st pre keep).n) g' (RZ st pre keep) a w:=by
 obtain⟨g',a1,a2,a3,a4,a5⟩:=yL (X:=X) (reach st.h 3 (nF pre (keep.flatMap fun t=>wV st.h (st.t t)))) N.at_.hp
 have hle:∀ x,x<st.n→x<(RZ st pre keep).n:=fun x hx=>Nat.lt_of_lt_of_le hx a3
 have hdf:(RZ st pre keep).m.df=st.m.df:=yK _ st
 refine⟨g',⟨a4,fun t=>?_,fun t=>?_⟩,N.size,(by rw [hdf];exact N.def_),N.ext.trans ⟨a1.h,rfl,rfl,rfl,B9 _⟩,N.keep.agree a1 N.pre,fun l o h=>hle _ (N.pre l o h)⟩
 ·show VV g' ((iP _ st).t t) _
  rw [a5]
  exact (N.at_.tm t).agree a1 (N.at_.nm t)
 ·show ((iP _ st).t t).T0 _
  rw [a5]
  exact (N.at_.nm t).mono hle
theorem wY (N:CN X (·<st.n) g st a w)(hid:∀ l o,O4 X.pre l=some o→o=l){sk:Sk}{cf:Cf}(hc:SS sk X.pre st=some cf) :
  ∃ g',CN X (·<sk.objs.length) g' ((M4 E0 sk cf.ds).later st.m.df) a w:=by
 have hone:rT X.pre:=fun l l' o h h'=>by rw [← hid l o h,← hid l' o h']
 obtain⟨gF,M⟩:=BE (tm:=fun t=>a.tmps.getD t undef) hc N.at_.hp N.at_.tm N.at_.nm hone
 refine⟨tA g gF cf.ren,⟨M.Tq N.at_.hp,M.tm,M.nm⟩,N.size,N.def_,N.ext.trans ⟨M.a.h,rfl,rfl,rfl,B9 _⟩,fun l o h=>?_,fun l o h=>(M.lt l o (M.pre l o h)).2⟩
 have h1:=M.pre l o h
 have h2:=hid l o h
 subst h2
 obtain⟨k1,k2⟩:=N.keep o o h
 exact⟨by simp only [tA,h1,Option.getD_some];exact k1,by simp only [tA,h1,Option.getD_some];exact k2⟩
theorem JW {sk:Sk}{ds:List D}{df:List (Nat×List (Nat×Nat))}(N:CN X (·<sk.objs.length) g ((M4 E0 sk ds).later df) a w)(hc:I7 sk ds=true):CN X (·<((cI sk ds).later df).n) g ((cI sk ds).later df) a w:=by
 obtain⟨h1,h2⟩:=Dl (tm:=fun t=>a.tmps.getD t undef) hc N.at_.hp (fun t=>⟨N.at_.tm t,N.at_.nm t⟩)
 exact⟨⟨h1,fun t=>(h2 t).1,fun t=>(h2 t).2⟩,N.size,N.def_,N.ext,N.keep,N.pre⟩
end
end Go.AE
namespace Go.AE
open Go.RowKit
theorem kS {x:Nat}{xs:List Nat}:rD x xs=true↔x∈xs:=by
 unfold rD
 rw [List.any_eq_true]
 exact⟨fun ⟨y,h1,h2⟩=>by rw [beq_iff.1 h2];exact h1,fun h=>⟨x,h,beq_iff.2 rfl⟩⟩
theorem uM {x:Nat}{xs:List Nat}:rD x xs=false↔x∉xs:=by
 rw [← kS];simp
theorem qH {nid x:Nat}:IH nid x=true↔nid≤x∧x<nid+32:=by
 unfold IH
 rw [A9]
 constructor
 ·rintro ⟨h1,h2⟩
  have h2:Nat.ble (x+1) (nid+32)=true:=h2
  exact⟨B3 h1,B3 h2⟩
 ·rintro ⟨h1,h2⟩
  exact⟨B2 h1,(B2 h2:Nat.ble (x+1) (nid+32)=true)⟩
theorem BQ:∀ {ys xs:List Nat} {x:Nat},x∈nF xs ys→x∈xs∨x∈ys
 |[],_,_,h=> .inl h
 |o::os,xs,x,h=>by
  simp only [nF] at h
  rcases BQ h with h|h
  ·cases hb:xs.any (Nat.beq o) with
   |true=>rw [hb] at h;exact .inl h
   |false=>
    rw [hb] at h
    simp only [cond_false] at h
    rcases D3.1 h with h|h
    ·exact .inl h
    ·simp at h;subst h;exact .inr (by simp)
  ·exact .inr (by simp [h])
theorem GP {ancs:List (List Nat)}:∀ {es:List Edge} {j:Nat},j∈tE ancs es→∃ e∈es,gL e=true∧(j=e.on∨j∈(ancs[e.on]?).getD [])
 |[],_,h=>by cases h
 |e::es,j,h=>by
  simp only [tE] at h
  cases hb:gL e with
  |false=>
   rw [hb] at h
   obtain⟨e',h1,h2⟩:=GP (es:=es) h
   exact⟨e',by simp [h1],h2⟩
  |true=>
   rw [hb] at h
   simp only [cond_true] at h
   rcases BQ h with h|h
   ·rcases BQ h with h|h
    ·simp at h;exact⟨e,by simp,hb,.inl h⟩
    ·exact⟨e,by simp,hb,.inr h⟩
   ·obtain⟨e',h1,h2⟩:=GP (es:=es) h
    exact⟨e',by simp [h1],h2⟩
theorem PY (e:Edge):Region.binds .any e=gL e:=by
 unfold Region.binds gL
 cases e.ground<;>rfl
theorem BF {i:Nat}:∀ {es:List Edge} {e:Edge},sB i es=true→e∈es→gL e=true→e.on<i
 |[],_,_,h,_=>by cases h
 |e::es,e',h,hm,hb=>by
  simp only [sB,A9] at h
  rcases B7.1 hm with rfl|hm
  ·have h1:=h.1
   rw [hb] at h1
   have h1:Nat.blt e'.on i=true:=by simpa only [Bool.not_true,Bool.false_or] using h1
   have h1:Nat.ble (e'.on+1) i=true:=h1
   exact B3 h1
  ·exact BF h.2 hm hb
theorem HR {V3:Nat}{VW:List Nat}{b:sO}:∀ {fs:List sO} {j0:Nat},oJ V3 VW b j0 fs=true→∀ k a,fs[k]? = some a→j0+k∈VW∨KY (V3+32*(j0+k)) a b=false
 |[],_,_,k,a,h=>by simp at h
 |f::fs,j0,h,k,a,hk=>by
  simp only [oJ,A9] at h
  cases k with
  |zero=>
   simp only [List.getElem?_cons_zero,B1] at hk
   subst hk
   have h1:=h.1
   rw [Bool.or_eq_true] at h1
   rcases h1 with h1|h1
   ·exact .inl (kS.1 h1)
   ·exact .inr (by simpa using h1)
  |succ k=>
   have:=HR h.2 k a (by simpa using hk)
   rw [show j0+1+k=j0+(k+1) by omega] at this
   exact this
section
variable {c:oA} {rec:Task→Out} {nt V3:Nat} {all:List Oper}
structure Rf (c:oA) (rec:Task→Out) (all:List Oper) (V3 i:Nat) (o:Oper) (st:St) (on:Bool) (v:V) (st':St) (ft:sO):Prop where
 t:st'.t=(st.put o.dst v).t
 n:st'.m=st.m
 dst:ft.dst=o.dst
 guard:∀ j want,o.guard=some (j,want)→∃ d,(all[j]?).bind (·.dst)=some d∧d∈ft.temps∧((st.t d = .d .und∧on=false)∨∃ b,st.t d = .d (.bool b)∧on=(b==want))
 free:o.guard=none→on=true
 H5:on=true→∃ st1,(∀ t∈cU o.op.operands.toList,t∈ft.temps)∧ft.writes=(bif MN o.op then [] else ft.objs)∧(∀ x∈ft.objs,x<V3+32*i)∧
  Im c rec o (V3+32*i) (pE (cU o.op.operands.toList) ft.objs st) (fun v s=>some (v,s))=some (v,st1)∧st'.h=QY ft.objs (V3+32*i) st.h st1.h
 no:on=false→v = .d .und∧st'.h=st.h
structure Cx (c:oA) (rec:Task→Out) (nt:Nat) (all:List Oper) (V3 i:Nat) (o:Oper) (s:Nat→St) (v:Nat→V) (ft:Nat→sO) (an:Nat→List Nat) (on:Nat→Bool):Prop where
 okd:(match o.dst with|some d=>Nat.blt d nt|none=>true)=true
 edges:∀ e∈o.after.toList,gL e=true→e.on<i
 VW:∀ j∈an i,∃ e∈o.after.toList,gL e=true∧(j=e.on∨j∈an e.on)
 apart:∀ j,j<i→j∈an i∨KY (V3+32*j) (ft j) (ft i)=false
 step:Rf c rec all V3 i o (s i) (on i) (v i) (s (i+1)) (ft i)
def Tl {α:Type}(f:Nat→α)(i:Nat)(x:α):Nat→α:=fun k=>if k=i then x else f k
theorem EM {α:Type}(f:Nat→α)(i:Nat)(x:α):Tl f i x i=x:=by simp [Tl]
theorem GZ {α:Type}(f:Nat→α){i k:Nat}(x:α)(h:k≠i):Tl f i x k=f k:=by simp [Tl,h]
theorem LN {r:Bool×List D}{K:St→Out}:∀ (os:List Oper) (i:Nat) (fs:List sO) (ancs:List (List Nat)) (st:St),fs.length=i→ancs.length=i→DJ c rec nt all V3 i os fs ancs st K=some r→
  ∃ (s:Nat→St) (v:Nat→V) (ft:Nat→sO) (an:Nat→List Nat) (on:Nat→Bool),s i=st∧(∀ j,j<i→fs[j]? = some (ft j))∧(∀ j,j<i→ancs[j]? = some (an j))∧
   (∀ k o,os[k]? = some o→Cx c rec nt all V3 (i+k) o s v ft an on)∧K (s (i+os.length))=some r
 |[],i,fs,ancs,st,hf,ha,h=>by
  refine⟨fun _=>st,fun _=> .top,fun j=>(fs[j]?).getD ⟨[],none,[],[]⟩,fun j=>(ancs[j]?).getD [],fun _=>true,rfl,fun j hj=>?_,fun j hj=>?_,fun k o hk=>by simp at hk,h⟩
  ·show fs[j]? = some ((fs[j]?).getD _)
   rw [C2 (by omega)];rfl
  ·show ancs[j]? = some ((ancs[j]?).getD _)
   rw [C2 (by omega)];rfl
 |o::os,i,fs,ancs,st,hf,ha,h=>by
  have go:∀ (onb:Bool) (v0:V) (st':St) (f0:sO),(match o.dst with|some d=>Nat.blt d nt|none=>true)=true→sB i o.after.toList=true→oJ V3 (tE ancs o.after.toList) f0 0 fs=true→
    Rf c rec all V3 i o st onb v0 st' f0→DJ c rec nt all V3 (i+1) os (fs++[f0]) (ancs++[tE ancs o.after.toList]) st' K=some r→
    ∃ (s:Nat→St) (v:Nat→V) (ft:Nat→sO) (an:Nat→List Nat) (on:Nat→Bool),s i=st∧(∀ j,j<i→fs[j]? = some (ft j))∧(∀ j,j<i→ancs[j]? = some (an j))∧
   (∀ k o',(o::os)[k]? = some o'→Cx c rec nt all V3 (i+k) o' s v ft an on)∧K (s (i+(o::os).length))=some r:=by
   intro onb v0 st' f0 h1 h2 h3 h4 h5
   obtain⟨s,v,ft,an,on,e1,e2,e3,e4,e5⟩:=LN os (i+1) (fs++[f0]) (ancs++[tE ancs o.after.toList]) st' (by simp [hf]) (by simp [ha]) h5
   have ef:ft i=f0:=by
    have:=e2 i (by omega)
    rw [F3 (by omega),hf] at this
    simpa using this.symm
   have ea:an i=tE ancs o.after.toList:=by
    have:=e3 i (by omega)
    rw [F3 (by omega),ha] at this
    simpa using this.symm
   have e2':∀ j,j<i→fs[j]? = some (ft j):=fun j hj=>by
    have:=e2 j (by omega)
    rwa [List.getElem?_append_left (by omega)] at this
   have e3':∀ j,j<i→ancs[j]? = some (an j):=fun j hj=>by
    have:=e3 j (by omega)
    rwa [List.getElem?_append_left (by omega)] at this
   refine⟨Tl s i st,Tl v i v0,ft,an,Tl on i onb,EM _ _ _,e2',e3',fun k o' hk=>?_,?_⟩
   ·cases k with
    |zero=>
     simp only [List.getElem?_cons_zero,B1] at hk
     subst hk
     refine⟨h1,fun e he hb=>BF h2 he hb,fun j hj=>?_,fun j hj=>?_,?_⟩
     ·rw [Nat.add_zero,ea] at hj
      obtain⟨e,k1,k2,k3⟩:=GP hj
      refine⟨e,k1,k2,k3.imp id fun k3=>?_⟩
      have hlt:=BF h2 k1 k2
      rw [e3' e.on hlt] at k3
      exact k3
     ·rw [Nat.add_zero] at hj ⊢
      have:=HR h3 j (ft j) (e2' j hj)
      rw [C5] at this
      rw [ea,ef];exact this
     ·rw [Nat.add_zero,EM,EM,EM,GZ _ _ (by omega),e1,ef];exact h4
    |succ k=>
     have:=e4 k o' (by simpa using hk)
     rw [show i+1+k=i+(k+1) by omega] at this
     refine⟨this.okd,this.edges,this.VW,this.apart,?_⟩
     rw [GZ _ _ (by omega),GZ _ _ (by omega),GZ _ _ (by omega),GZ _ _ (by omega)]
     exact this.step
   ·rw [show i+(o::os).length=i+1+os.length by simp;omega,GZ _ _ (by omega)]
    exact e5
  have fin:∀ (G:List Nat) (onb:Bool),(∀ j want,o.guard=some (j,want)→∃ d,(all[j]?).bind (·.dst)=some d∧d∈G∧((st.t d = .d .und∧onb=false)∨∃ b,st.t d = .d (.bool b)∧onb=(b==want)))→(o.guard=none→onb=true)→
    (onb=true→(bif (match o.dst with|some d=>Nat.blt d nt|none=>true)&&sB i o.after.toList&&oJ V3 (tE ancs o.after.toList) ⟨cU o.op.operands.toList++G,o.dst,given st o,bif MN o.op then [] else given st o⟩ 0 fs&&(given st o).all (fun x=>Nat.blt x (V3+32*i)) then
     Im c rec o (V3+32*i) (pE (cU o.op.operands.toList) (given st o) st) fun v st'=>DJ c rec nt all V3 (i+1) os (fs++[⟨cU o.op.operands.toList++G,o.dst,given st o,bif MN o.op then [] else given st o⟩]) (ancs++[tE ancs o.after.toList]) { st.put o.dst v with h:=QY (given st o) (V3+32*i) st.h st'.h } K
     else none)=some r)→
    (onb=false→(bif (match o.dst with|some d=>Nat.blt d nt|none=>true)&&sB i o.after.toList&&oJ V3 (tE ancs o.after.toList) ⟨G,o.dst,[],[]⟩ 0 fs then DJ c rec nt all V3 (i+1) os (fs++[⟨G,o.dst,[],[]⟩]) (ancs++[tE ancs o.after.toList]) (st.put o.dst (.d .und)) K else none)=some r)→
    ∃ (s:Nat→St) (v:Nat→V) (ft:Nat→sO) (an:Nat→List Nat) (on:Nat→Bool),s i=st∧(∀ j,j<i→fs[j]? = some (ft j))∧(∀ j,j<i→ancs[j]? = some (an j))∧
   (∀ k o',(o::os)[k]? = some o'→Cx c rec nt all V3 (i+k) o' s v ft an on)∧K (s (i+(o::os).length))=some r:=by
   intro G onb hg hfree hon hoff
   cases onb with
   |true=>
    obtain⟨hc,h⟩:=H8 (hon rfl)
    simp only [A9] at hc
    obtain⟨⟨⟨h1,h2⟩,h3⟩,h4⟩:=hc
    rw [Qc] at h
    obtain⟨⟨v0,st1⟩,k1,k2⟩:=wL h
    refine go true v0 { st.put o.dst v0 with h:=QY (given st o) (V3+32*i) st.h st1.h } ⟨cU o.op.operands.toList++G,o.dst,given st o,bif MN o.op then [] else given st o⟩ h1 h2 h3 ⟨rfl,?_,rfl,fun j want hj=>?_,fun _=>rfl,fun _=>⟨st1,fun t ht=>?_,rfl,fun x hx=>?_,k1,rfl⟩,fun hb=>by cases hb⟩ k2
    ·cases o.dst<;>rfl
    ·obtain⟨d,a1,a2,a3⟩:=hg j want hj
     exact⟨d,a1,by simp [a2],a3⟩
    ·simp [ht]
    ·have:=B6.1 h4 x hx
     have:Nat.ble (x+1) (V3+32*i)=true:=this
     exact B3 this
   |false=>
    obtain⟨hc,h⟩:=H8 (hoff rfl)
    simp only [A9] at hc
    obtain⟨⟨h1,h2⟩,h3⟩:=hc
    refine go false (.d .und) _ _ h1 h2 h3 ⟨rfl,?_,rfl,hg,fun hn=>(by cases hfree hn),fun hb=>(by cases hb),fun _=>⟨rfl,?_⟩⟩ h
    ·cases o.dst<;>rfl
    ·cases o.dst<;>rfl
  simp only [DJ] at h
  split at h
  ·rename_i hg
   exact fin [] true (fun j want hj=>by rw [hg] at hj;cases hj) (fun _=>rfl) (fun _=>h) (fun hb=>by cases hb)
  ·rename_i j want hg
   split at h
   ·cases h
   ·rename_i d hd
    have hd':(all[j]?).bind (·.dst)=some d:=hd
    simp only [hd'] at h
    split at h
    ·rename_i he
     exact fin [d] false (fun j' want' hj=>by rw [hg] at hj;cases hj;exact⟨d,hd',by simp,.inl ⟨he,rfl⟩⟩) (fun hn=>by rw [hg] at hn;cases hn) (fun hb=>by cases hb) (fun _=>h)
    ·rename_i b he
     have hgd:∀ onb,onb=(b==want)→∀ j' want',o.guard=some (j',want')→∃ d,(all[j']?).bind (·.dst)=some d∧d∈[d]∧((st.t d = .d .und∧onb=false)∨∃ b,st.t d = .d (.bool b)∧onb=(b==want')):=by
      intro onb ho j' want' hj
      rw [hg] at hj;cases hj
      exact⟨d,hd',by simp,.inr ⟨b,he,ho⟩⟩
     have hgd':∀ onb,onb=(b==want)→∀ j' want',o.guard=some (j',want')→∃ d',(all[j']?).bind (·.dst)=some d'∧d'∈[d]∧((st.t d' = .d .und∧onb=false)∨∃ b,st.t d' = .d (.bool b)∧onb=(b==want')):=by
      intro onb ho j' want' hj
      rw [hg] at hj;cases hj
      exact⟨d,hd',by simp,.inr ⟨b,he,ho⟩⟩
     have hnn:∀ onb:Bool,o.guard=none→onb=true:=fun _ hn=>by rw [hg] at hn;cases hn
     cases b with
     |true=>
      simp only [cond_true] at h
      rw [yB he] at h
      cases want with
      |true=>simp only [cond_true] at h;exact fin [d] true (hgd' true rfl) (hnn _) (fun _=>h) (fun hb=>by cases hb)
      |false=>simp only [cond_false] at h;exact fin [d] false (hgd' false rfl) (hnn _) (fun hb=>by cases hb) (fun _=>h)
     |false=>
      simp only [cond_false] at h
      rw [yB he] at h
      cases want with
      |true=>simp only [cond_true] at h;exact fin [d] false (hgd' false rfl) (hnn _) (fun hb=>by cases hb) (fun _=>h)
      |false=>simp only [cond_false] at h;exact fin [d] true (hgd' true rfl) (hnn _) (fun _=>h) (fun hb=>by cases hb)
    ·cases h
end
end Go.AE
namespace Go.AE
open Go.RowKit
section
variable {X:FX} {rec:Task→Out} {ops:Array Oper} {V3:Nat} {s:Nat→St} {v:Nat→V} {ft:Nat→sO} {an:Nat→List Nat} {on:Nat→Bool} {L:Nat→Bool} {Q:Exit→Act→World→Prop}
def Ua (ft:Nat→sO)(i t:Nat):Bool:=match (ft i).dst with|some d=>Nat.beq t d|none=>false
def Cv (V3:Nat)(ft:Nat→sO)(on:Nat→Bool)(i x:Nat):Bool:=on i&&(rD x (ft i).writes||IH (V3+32*i) x)
def ST (V3:Nat)(s:Nat→St)(v:Nat→V)(ft:Nat→sO)(on:Nat→Bool)(n:Nat)(L:Nat→Bool):St:=
 ⟨kQ (s 0).t (Ua ft) (fun i _=>v i) L n,kQ (s 0).h (Cv V3 ft on) (fun i x=>(s (i+1)).h x) L n,(s 0).m⟩
structure SB (X:FX) (rec:Task→Out) (ops:Array Oper) (V3:Nat) (s:Nat→St) (v:Nat→V) (ft:Nat→sO) (an:Nat→List Nat) (on:Nat→Bool):Prop where
 n:(s 0).n=V3
 good:∀ i o,ops[i]? = some o→Cx X.c rec X.fn.ntmps ops.toList V3 i o s v ft an on
theorem Rm (st:St)(d:Option Tmp)(x:V):(st.put d x).m=st.m:=by cases d<;>rfl
theorem Ef (st:St)(d:Option Tmp)(x:V)(t:Nat):(st.put d x).t t=if d=some t then x else st.t t:=by
 cases d with
 |none=>simp [St.put]
 |some d=>
  show (st.set d x).t t=_
  rw [Ek]
  by_cases e:t=d
  ·subst e;simp
  ·rw [if_neg e,if_neg (by intro h;cases h;exact e rfl)]
theorem SB.text (A:SB X rec ops V3 s v ft an on):∀ i,i≤ops.size→(s i).m=(s 0).m∧(∀ t,(s i).t t=kQ (s 0).t (Ua ft) (fun i _=>v i) (fun _=>true) i t)∧
  (∀ x,(s i).h x=kQ (s 0).h (Cv V3 ft on) (fun i x=>(s (i+1)).h x) (fun _=>true) i x)
 |0,_=>⟨rfl,fun _=>rfl,fun _=>rfl⟩
 |i+1,hi=>by
  obtain⟨h0,h1,h2⟩:=A.text i (by omega)
  have G:=A.good i ops[i] (C8 (by omega))
  have S:=G.step
  refine⟨S.n.trans h0,fun t=>?_,fun x=>?_⟩
  ·rw [S.t,Ef]
   simp only [kQ,Bool.true_and,Ua,S.dst]
   cases hd:ops[i].dst with
   |none=>simp only [cond_false];rw [← h1 t];simp
   |some d=>
    by_cases e:t=d
    ·subst e;rw [if_pos rfl];simp only [];rw [beq_iff.2 rfl,cond_true]
    ·simp only [];rw [beq_false e,cond_false,← h1 t]
     rw [if_neg (by intro h;cases h;exact e rfl)]
  ·simp only [kQ,Bool.true_and]
   cases hw:Cv V3 ft on i x with
   |true=>rfl
   |false=>
    rw [cond_false,← h2 x]
    cases ho:on i with
    |false=>rw [(S.no ho).2]
    |true=>
     obtain⟨st1,k1,k2,k3,k4,k5⟩:=S.H5 ho
     unfold Cv at hw
     rw [ho,Bool.true_and,Bool.or_eq_false_iff] at hw
     rw [k5]
     unfold QY
     rw [hw.2,Bool.or_false]
     cases hF:rD x (ft i).objs with
     |false=>rfl
     |true=>
      rw [cond_true]
      cases hro:MN ops[i].op with
      |false=>rw [k2,hro,cond_false] at hw;rw [hw.1] at hF;cases hF
      |true=>
       have:=Dy hro k4 x (by rw [← qH];rw [hw.2];simp)
       rw [this]
       simp [pE,hF]
def Down (ops:Array Oper)(L:Nat→Bool):Prop:=∀ i o,ops[i]? = some o→L i=true→∀ e∈o.after.toList,gL e=true→L e.on=true
theorem SB.VW (A:SB X rec ops V3 s v ft an on)(hd:Down ops L):∀ m i,i<m→i<ops.size→L i=true→∀ j∈an i,L j=true
 |0,i,h,_,_,_,_=>by omega
 |m+1,i,h,hi,hL,j,hj=>by
  have G:=A.good i ops[i] (C8 hi)
  obtain⟨e,h1,h2,h3⟩:=G.VW j hj
  have hlt:=G.edges e h1 h2
  have hLe:=hd i ops[i] (C8 hi) hL e h1 h2
  rcases h3 with rfl|h3
  ·exact hLe
  ·exact A.VW hd m e.on (by omega) (by omega) hLe j h3
theorem zD {nid:Nat}{a b:sO}(h:KY nid a b=false) :
  (∀ d,a.dst=some d→d∉b.temps)∧(∀ d,b.dst=some d→d∉a.temps)∧(∀ d,a.dst=some d→b.dst≠some d)∧(∀ x∈a.writes,x∉b.objs)∧(∀ x∈b.writes,x∉a.objs)∧(∀ x∈b.objs,IH nid x=false):=by
 unfold KY at h
 simp only [Bool.or_eq_false_iff] at h
 obtain⟨⟨⟨⟨⟨h1,h2⟩,h3⟩,h4⟩,h5⟩,h6⟩:=h
 have m:∀ {xs ys:List Nat},meets xs ys=false→∀ x∈xs,x∉ys:=by
  intro xs ys h x hx
  unfold meets at h
  have:=List.any_eq_false.1 h x hx
  rw [kS] at this
  exact this
 refine⟨fun d hd=>?_,fun d hd=>?_,fun d hd hd'=>?_,m h4,m h5,fun x hx=>?_⟩
 ·unfold UT at h1;rw [hd] at h1;exact uM.1 h1
 ·unfold UT at h2;rw [hd] at h2;exact uM.1 h2
 ·rw [hd,hd'] at h3
  simp only [] at h3
  rw [beq_iff.2 rfl] at h3;cases h3
 ·have:=List.any_eq_false.1 h6 x hx
  simpa using this
def pD (V3 n:Nat)(L:Nat→Bool)(x:Nat):Prop:=x<V3∨∃ j,j<n∧L j=true∧V3+32*j≤x∧x<V3+32*j+32
theorem SB.step (A:SB X rec ops V3 s v ft an on)(hn:fP X.c)(hg0:X.c.FD X.g0.h)(hrec:tB X.c rec)(hd:Down ops L){i:Nat}{o:Oper}(ho:ops[i]? = some o)(hL:L i=false)(hready:∀ e∈o.after.toList,gL e=true→L e.on=true)
  {g:G} {a:Act} {w:World} (N:CN X (pD V3 ops.size L) g (ST V3 s v ft on ops.size L) a w) {K:Act→World→Prop}
  (hK:∀ g' a' w',CN X (pD V3 ops.size fun k=>bif Nat.beq k i then true else L k) g' (ST V3 s v ft on ops.size fun k=>bif Nat.beq k i then true else L k) a' w'→K a' w') :
  if Region.wanted o (yielded ops a.tmps)=true then o.wp X.c.P a w K Q else K (a.put o.dst undef) w:=by
 have hi:i<ops.size:=by
  rcases Array.getElem?_eq_some_iff.1 ho with ⟨h,_⟩;exact h
 have G:=A.good i o ho
 have S:=G.step
 have hanc:∀ j∈an i,L j=true:=fun j hj=>by
  obtain⟨e,h1,h2,h3⟩:=G.VW j hj
  have hLe:=hready e h1 h2
  rcases h3 with rfl|h3
  ·exact hLe
  ·have hlt:=G.edges e h1 h2
   exact A.VW hd (e.on+1) e.on (by omega) (by omega) hLe j h3
 have bef:∀ j,j<i→L j=true∨KY (V3+32*j) (ft j) (ft i)=false:=fun j hj=>(G.apart j hj).imp (hanc j) id
 have aft:∀ k,i<k→k<ops.size→L k=false∨KY (V3+32*i) (ft i) (ft k)=false:=fun k h1 h2=>by
  cases hk:L k with
  |false=>exact .inl rfl
  |true=>
   right
   have Gk:=A.good k ops[k] (C8 h2)
   rcases Gk.apart i h1 with h|h
   ·have:=A.VW hd (k+1) k (by omega) h2 hk i h
    rw [hL] at this;cases this
   ·exact h
 obtain⟨tx1,tx2,tx3⟩:=A.text i (by omega)
 have objlt:∀ k,k<ops.size→on k=true→∀ x∈(ft k).objs,x<V3+32*k:=fun k hk hon=>by
  obtain⟨st1,_,_,h,_⟩:=(A.good k ops[k] (C8 hk)).step.H5 hon
  exact h
 have wrobj:∀ k,k<ops.size→on k=true→∀ x∈(ft k).writes,x∈(ft k).objs:=fun k hk hon x hx=>by
  obtain⟨st1,_,h,_⟩:=(A.good k ops[k] (C8 hk)).step.H5 hon
  rw [h] at hx
  cases hro:MN ops[k].op with
  |true=>rw [hro] at hx;cases hx
  |false=>rw [hro] at hx;exact hx
 have rdT:∀ t∈(ft i).temps,(ST V3 s v ft on ops.size L).t t=(s i).t t:=fun t ht=>by
  rw [tx2 t]
  refine LX _ _ _ hi hL (fun j hj=>?_) (fun k h1 h2=>?_)
  ·refine (bef j hj).imp id fun h=>?_
   unfold Ua
   split
   ·rename_i d hdj
    exact beq_false fun e=>(zD h).1 d hdj (by rw [← e];exact ht)
   ·rfl
  ·refine (aft k h1 h2).imp id fun h=>?_
   unfold Ua
   split
   ·rename_i d hdk
    exact beq_false fun e=>(zD h).2.1 d hdk (by rw [← e];exact ht)
   ·rfl
 have addT:∀ t,(ST V3 s v ft on ops.size fun k=>bif Nat.beq k i then true else L k).t t=((ST V3 s v ft on ops.size L).put o.dst (v i)).t t:=fun t=>by
  rw [Ef]
  refine (FY _ _ _ ops.size hi fun k h1 h2=>?_).trans ?_
  ·refine (aft k h1 h2).imp id fun h=>?_
   have h3:=(zD h).2.2.1
   unfold Ua
   cases hdi:(ft i).dst with
   |none=>exact .inl rfl
   |some d=>
    cases hdk:(ft k).dst with
    |none=>exact .inr rfl
    |some d'=>
     simp only []
     by_cases e:t=d
     ·right
      refine beq_false fun e'=>h3 d hdi ?_
      rw [hdk,← e',e]
     ·exact .inl (beq_false e)
  ·unfold Ua
   rw [S.dst]
   cases hdo:o.dst with
   |none=>simp only [cond_false];rw [if_neg (by simp)];rfl
   |some d=>
    by_cases e:t=d
    ·subst e;rw [if_pos rfl];simp only [];rw [beq_iff.2 rfl,cond_true]
    ·simp only [];rw [beq_false e,cond_false,if_neg (by intro h;cases h;exact e rfl)];rfl
 have addH:∀ x,(ST V3 s v ft on ops.size fun k=>bif Nat.beq k i then true else L k).h x=bif Cv V3 ft on i x then (s (i+1)).h x else (ST V3 s v ft on ops.size L).h x:=fun x=>by
  refine FY _ _ _ ops.size hi fun k h1 h2=>?_
  refine (aft k h1 h2).imp id fun h=>?_
  obtain⟨_,_,_,c4,c5,c6⟩:=zD h
  cases hwi:Cv V3 ft on i x with
  |false=>exact .inl rfl
  |true=>
   right
   cases hwk:Cv V3 ft on k x with
   |false=>rfl
   |true=>
    exfalso
    unfold Cv at hwi hwk
    rw [A9,Bool.or_eq_true] at hwi hwk
    obtain⟨oi,wi⟩:=hwi
    obtain⟨ok,wk⟩:=hwk
    rcases wi with wi|wi
    ·have wi:=kS.1 wi
     rcases wk with wk|wk
     ·exact c4 x wi (wrobj k h2 ok x (kS.1 wk))
     ·have:=objlt i hi oi x (wrobj i hi oi x wi)
      have:=qH.1 wk
      omega
    ·rcases wk with wk|wk
     ·have:=c6 x (wrobj k h2 ok x (kS.1 wk))
      rw [wi] at this;cases this
     ·have:=qH.1 wi
      have:=qH.1 wk
      omega
 have rdH:on i=true→∀ x∈(ft i).objs,(ST V3 s v ft on ops.size L).h x=(s i).h x:=fun hon x hx=>by
  rw [tx3 x]
  refine LX _ _ _ hi hL (fun j hj=>?_) (fun k h1 h2=>?_)
  ·refine (bef j hj).imp id fun h=>?_
   obtain⟨_,_,_,c4,c5,c6⟩:=zD h
   unfold Cv
   cases hoj:on j with
   |false=>rfl
   |true=>
    rw [Bool.true_and,Bool.or_eq_false_iff]
    exact⟨uM.2 fun hw=>c4 x hw hx,c6 x hx⟩
  ·refine (aft k h1 h2).imp id fun h=>?_
   obtain⟨_,_,_,c4,c5,c6⟩:=zD h
   unfold Cv
   cases hok:on k with
   |false=>rfl
   |true=>
    rw [Bool.true_and,Bool.or_eq_false_iff]
    refine⟨uM.2 fun hw=>c5 x hw hx,?_⟩
    have:=objlt i hi hon x hx
    cases hin:IH (V3+32*k) x with
    |false=>rfl
    |true=>have:=qH.1 hin;omega
 have hpq:∀ x,pD V3 ops.size L x→pD V3 ops.size (fun k=>bif Nat.beq k i then true else L k) x:=fun x hx=>by
  rcases hx with hx|⟨j,h1,h2,h3⟩
  ·exact .inl hx
  ·refine .inr ⟨j,h1,?_,h3⟩
   show (bif Nat.beq j i then true else L j)=true
   rw [h2];cases Nat.beq j i<;>rfl
 have hfr:iY (pD V3 ops.size L) (pD V3 ops.size fun k=>bif Nat.beq k i then true else L k) (V3+32*i):=fun k hk=>by
  constructor
  ·rintro (h|⟨j,h1,h2,h3,h4⟩)
   ·omega
   ·have:j=i:=by omega
    subst this
    rw [hL] at h2;cases h2
  ·refine .inr ⟨i,hi,?_,by omega,by omega⟩
   show (bif Nat.beq i i then true else L i)=true
   rw [beq_iff.2 rfl];rfl
 have hw:Region.wanted o (yielded ops a.tmps)=on i:=by
  cases hg:o.guard with
  |none=>simp [Region.wanted,hg,S.free hg]
  |some jw=>
   obtain⟨j,want⟩:=jw
   obtain⟨d,h1,h2,h3⟩:=S.guard j want hg
   rw [D0] at h1
   have htm:=N.at_.tm d
   rw [rdT d h2] at htm
   rcases h3 with ⟨h3,h4⟩|⟨b,h3,h4⟩
   ·rw [h3] at htm
    simp [Region.wanted,hg,JE h1 htm,h4]
   ·rw [h3] at htm
    simp [Region.wanted,hg,OL h1 (CS htm),h4]
 rw [hw]
 cases hon:on i with
 |false=>
  rw [if_neg (by simp)]
  obtain⟨hv,hh⟩:=S.no hon
  refine hK g _ _ ?_
  have N1:=N.put (vv:=v i) (st1:=ST V3 s v ft on ops.size L) (v:=undef) G.okd hpq (N.at_.hp.more hpq) (L8.refl _ g) (Ext.refl g w) (by rw [hv];exact (rfl:undef=undef)) (by rw [hv];trivial) rfl rfl
  have e:(ST V3 s v ft on ops.size fun k=>bif Nat.beq k i then true else L k).h=((ST V3 s v ft on ops.size L).put o.dst (v i)).h:=by
   funext x
   rw [addH x]
   have:Cv V3 ft on i x=false:=by unfold Cv;rw [hon];rfl
   rw [this,cond_false]
   cases o.dst<;>rfl
  refine⟨⟨?_,fun t=>?_,fun t=>?_⟩,N1.size,(by have k:=N1.def_;simp only [Rm] at k;exact k),N1.ext,N1.keep,N1.pre⟩
  ·rw [e];exact N1.at_.hp
  ·rw [addT t];exact N1.at_.tm t
  ·rw [addT t];exact N1.at_.nm t
 |true=>
  rw [if_pos rfl]
  obtain⟨st1,k1,k2,k3,k4,k5⟩:=S.H5 hon
  have er:pE (cU o.op.operands.toList) (ft i).objs (s i)=pE (cU o.op.operands.toList) (ft i).objs (ST V3 s v ft on ops.size L):=by
   have e1:(fun t=>bif rD t (cU o.op.operands.toList) then (s i).t t else V.top)=fun t=>bif rD t (cU o.op.operands.toList) then (ST V3 s v ft on ops.size L).t t else V.top:=by
    funext t
    cases ht:rD t (cU o.op.operands.toList) with
    |false=>rfl
    |true=>simp only [cond_true];rw [rdT t (k1 t (kS.1 ht))]
   have e2:(fun x=>bif rD x (ft i).objs then (s i).h x else none)=fun x=>bif rD x (ft i).objs then (ST V3 s v ft on ops.size L).h x else none:=by
    funext x
    cases hx:rD x (ft i).objs with
    |false=>rfl
    |true=>simp only [cond_true];rw [rdH hon x (kS.1 hx)]
   unfold pE
   rw [e1,e2,tx1];rfl
  rw [er] at k4
  have hold:=N.at_.hp
  have S0:P3 X.u (pD V3 ops.size L) g (pE (cU o.op.operands.toList) (ft i).objs (ST V3 s v ft on ops.size L)).h w:=hold.Rj fun x ob hx=>by
   simp only [pE] at hx
   cases hm:rD x (ft i).objs with
   |false=>rw [hm] at hx;cases hx
   |true=>rw [hm] at hx;exact hx
  have P:Pass X.u (pD V3 ops.size L) (pD V3 ops.size L) g g (ST V3 s v ft on ops.size L).h (pE (cU o.op.operands.toList) (ft i).objs (ST V3 s v ft on ops.size L)).h w (fun l o=>l=o):=
   ⟨hold,S0,fun _ _ h=>h,fun l x0 hl=>⟨l,x0,rfl,by
    simp only [pE] at hl
    cases hm:rD l (ft i).objs with
    |false=>rw [hm] at hl;cases hl
    |true=>rw [hm] at hl;exact hl,fun _ h=>h⟩⟩
  have At0:At (vT g (pE (cU o.op.operands.toList) (ft i).objs (ST V3 s v ft on ops.size L)).h w) (pD V3 ops.size L) g (pE (cU o.op.operands.toList) (ft i).objs (ST V3 s v ft on ops.size L)) a w:=by
   refine⟨P.Tq,fun t=>?_,fun t=>?_⟩
   ·simp only [pE]
    cases rD t (cU o.op.operands.toList) with
    |true=>exact N.at_.tm t
    |false=>exact (trivial:VD g.h .top _)
   ·simp only [pE]
    cases rD t (cU o.op.operands.toList) with
    |true=>exact N.at_.nm t
    |false=>trivial
  obtain⟨vv,st1',hkk,hop⟩:=YK hn (hn.2.2.1 _ _ N.ext.h hg0) hrec At0 hpq hfr k4
  cases hkk
  refine hop.wp fun val w' ⟨g',s1,s2,s3,s4,s5,s6,s7⟩=>hK g' _ _ ?_
  have hH:P3 X.u (pD V3 ops.size fun k=>bif Nat.beq k i then true else L k) g' (ST V3 s v ft on ops.size fun k=>bif Nat.beq k i then true else L k).h w':=by
   refine P.back (f:=fun l=>l) s1 s2.h s2 (fun _ _ h=>h) hpq fun x ob hx=>?_
   have right:st1.h x=some ob→(∃ l ob1,st1.h l=some ob1∧x=l∧OB g' x ob w'∧(∀ b,jY g' x ob=some b→jY g' l ob1=some b)∧pD V3 ops.size (fun k=>bif Nat.beq k i then true else L k) x∧ob.T0 (pD V3 ops.size fun k=>bif Nat.beq k i then true else L k)):=fun h1=>
    ⟨x,ob,h1,rfl,s1.ob _ _ h1,fun _ h=>h,(s1.use _ _ h1).1,(s1.use _ _ h1).2⟩
   rw [addH x] at hx
   cases hwi:Cv V3 ft on i x with
   |true=>
    rw [hwi,cond_true,k5] at hx
    refine .inr (right ?_)
    unfold QY at hx
    have:(rD x (ft i).objs||IH (V3+32*i) x)=true:=by
     unfold Cv at hwi
     rw [A9,Bool.or_eq_true] at hwi
     rw [Bool.or_eq_true]
     exact hwi.2.imp (fun h=>kS.2 (wrobj i hi hon x (kS.1 h))) id
    rw [this] at hx;exact hx
   |false=>
    rw [hwi,cond_false] at hx
    unfold Cv at hwi
    rw [hon,Bool.true_and,Bool.or_eq_false_iff] at hwi
    cases hF:rD x (ft i).objs with
    |false=>
     refine .inl ⟨hx,fun l x0 hl e=>?_,fun b hb=> .inl (hold.sep _ _ _ hx hb).1⟩
     subst e
     simp only [pE,hF] at hl;cases hl
    |true=>
     refine .inr (right ?_)
     cases hro:MN o.op with
     |false=>rw [k2,hro,cond_false] at hwi;rw [hwi.1] at hF;cases hF
     |true=>
      have:=Dy hro k4 x (by rw [← qH];rw [hwi.2];simp)
      rw [this]
      simp only [pE,hF,cond_true];exact hx
  have N1:=N.put (st1:={ ST V3 s v ft on ops.size L with h:=(ST V3 s v ft on ops.size fun k=>bif Nat.beq k i then true else L k).h }) G.okd hpq hH s2 s3 s4 s5 rfl rfl
  refine⟨⟨?_,fun t=>?_,fun t=>?_⟩,N1.size,(by have k:=N1.def_;simp only [Rm] at k;exact k),N1.ext,N1.keep,N1.pre⟩
  ·exact hH
  ·rw [addT t]
   have:=N1.at_.tm t
   rw [Ef] at this ⊢;exact this
  ·rw [addT t]
   have:=N1.at_.nm t
   rw [Ef] at this ⊢;exact this
theorem BH {Rs Vl:Type}(m0:Rs→Vl)(wr:Nat→Rs→Bool)(e:Nat→Rs→Vl):∀ (n:Nat) (x:Rs),kQ m0 wr e (fun _=>false) n x=m0 x
 |0,_=>rfl
 |n+1,x=>by simp only [kQ,Bool.false_and,cond_false];exact BH m0 wr e n x
def LD (listed:Array Bool)(i:Nat):Bool:=listed.getD i false
theorem ZW {listed:Array Bool}{i:Nat}(hi:i<listed.size):LD (listed.setIfInBounds i true)=fun k=>bif Nat.beq k i then true else LD listed k:=by
 funext k
 unfold LD
 by_cases e:k=i
 ·subst e;rw [beq_iff.2 rfl];simp [D2,hi]
 ·rw [beq_false e];simp [D2,Array.getElem?_setIfInBounds,Ne.symm e]
theorem SB.any (A:SB X rec ops V3 s v ft an on)(hn:fP X.c)(hg0:X.c.FD X.g0.h)(hrec:tB X.c rec)
  (hQ:∀ g a w,CN X (pD V3 ops.size fun _=>true) g (s ops.size) a w→Q .normal a w) :
  ∀ (fuel:Nat) (listed:Array Bool) (g:G) (a:Act) (w:World),listed.size=ops.size→(List.range ops.size).countP (fun i=>!LD listed i)≤fuel→Down ops (LD listed)→
   CN X (pD V3 ops.size (LD listed)) g (ST V3 s v ft on ops.size (LD listed)) a w→wpAny X.c.P .any ops Q fuel listed a w:=by
 have fin:∀ (listed:Array Bool) (g:G) (a:Act) (w:World),listed.size=ops.size→Region.ready .any ops listed=[]→CN X (pD V3 ops.size (LD listed)) g (ST V3 s v ft on ops.size (LD listed)) a w→Q .normal a w:=by
  intro listed g a w hsz hr N
  have hall:∀ m i,i<m→i<ops.size→LD listed i=true:=by
   intro m
   induction m with
   |zero=>intro i h;omega
   |succ m ih=>
    intro i h1 h2
    cases hL:LD listed i with
    |true=>rfl
    |false=>
     exfalso
     have:i∈Region.ready .any ops listed:=by
      unfold Region.ready
      rw [List.mem_filter]
      refine⟨by simpa using h2,?_⟩
      have hl:listed.getD i true=false:=by
       unfold LD at hL
       rw [D2,C8 (by omega)] at hL ⊢
       exact hL
      rw [hl,C8 h2]
      simp only [Bool.not_false,Bool.true_and,Option.map_some,Option.getD_some]
      rw [← Array.all_toList,B6]
      intro e he
      rw [PY]
      cases hb:gL e with
      |false=>rfl
      |true=>
       have hlt:=(A.good i ops[i] (C8 h2)).edges e he hb
       have:=ih e.on (by omega) (by omega)
       unfold LD at this
       simp [this]
     rw [hr] at this;cases this
  have eT:∀ t,(ST V3 s v ft on ops.size (LD listed)).t t=(s ops.size).t t:=fun t=>by
   rw [(A.text ops.size (B9 _)).2.1 t]
   exact oT _ _ _ _ fun i hi=> .inl (hall (i+1) i (by omega) hi)
  have eH:(ST V3 s v ft on ops.size (LD listed)).h=(s ops.size).h:=funext fun x=>by
   rw [(A.text ops.size (B9 _)).2.2 x]
   exact oT _ _ _ _ fun i hi=> .inl (hall (i+1) i (by omega) hi)
  have hpq:∀ x,pD V3 ops.size (LD listed) x→pD V3 ops.size (fun _=>true) x:=fun x hx=>hx.imp id fun ⟨j,h1,_,h3⟩=>⟨j,h1,rfl,h3⟩
  refine hQ g a w ⟨⟨?_,fun t=>?_,fun t=>?_⟩,N.size,(by rw [(A.text ops.size (B9 _)).1];exact N.def_),N.ext,N.keep,fun l o h=>hpq _ (N.pre l o h)⟩
  ·rw [← eH];exact N.at_.hp.more hpq
  ·rw [← eT t];exact N.at_.tm t
  ·rw [← eT t];exact (N.at_.nm t).mono hpq
 intro fuel
 induction fuel with
 |zero=>
  intro listed g a w hsz hc hd N
  have hr:Region.ready .any ops listed=[]:=by
   rw [List.eq_nil_iff_forall_not_mem]
   intro i hi
   unfold Region.ready at hi
   rw [List.mem_filter] at hi
   have h0:=List.countP_eq_zero.1 (Nat.le_zero.1 hc) i hi.1
   have hi2:=hi.2
   rw [A9] at hi2
   have hlt:i<listed.size:=by rw [hsz];simpa using hi.1
   unfold LD at h0
   rw [D2,C8 hlt] at h0 hi2
   simp at h0 hi2
   rw [h0] at hi2;simp at hi2
  exact⟨hr,fin listed g a w hsz hr N⟩
 |succ fuel ih=>
  intro listed g a w hsz hc hd N
  refine⟨fun hr=>fin listed g a w hsz hr N,fun i hi=>?_⟩
  unfold Region.ready at hi
  rw [List.mem_filter] at hi
  obtain⟨hi1,hi2⟩:=hi
  have hlt:i<ops.size:=by simpa using hi1
  rw [A9] at hi2
  have hL:LD listed i=false:=by
   have:=hi2.1
   unfold LD
   rw [D2,C8 (by omega)] at this ⊢
   simpa using this
  have ho:ops[i]? = some ops[i]:=C8 hlt
  have hready:∀ e∈ops[i].after.toList,gL e=true→LD listed e.on=true:=by
   have h2:=hi2.2
   rw [ho] at h2
   simp only [Option.map_some,Option.getD_some] at h2
   rw [← Array.all_toList,B6] at h2
   intro e he hb
   have:=h2 e he
   rw [PY,hb] at this
   simpa [LD] using this
  have key:=A.step hn hg0 hrec (Q:=Q) (K:=wpAny X.c.P .any ops Q fuel (listed.setIfInBounds i true)) hd ho hL hready N fun g' a' w' N'=>by
   rw [← ZW (by omega)] at N'
   refine ih _ g' a' w' (by simpa using hsz) ?_ (fun k o hk hLk e he hb=>?_) N'
   ·rw [ZW (by omega)]
    have hcnt:∀ (l:List Nat),i∈l→l.Nodup→l.countP (fun k=>!(bif Nat.beq k i then true else LD listed k))+1=l.countP (fun k=>!LD listed k):=by
     intro l
     induction l with
     |nil=>intro h;cases h
     |cons x xs ihl=>
      intro hm hnd
      rw [List.nodup_cons] at hnd
      by_cases e:x=i
      ·subst e
       rw [List.countP_cons,List.countP_cons,beq_iff.2 rfl,hL]
       have:xs.countP (fun k=>!(bif Nat.beq k x then true else LD listed k))=xs.countP (fun k=>!LD listed k):=by
        refine List.countP_congr fun k hk=>?_
        have:k≠x:=fun e=>hnd.1 (by rw [← e];exact hk)
        rw [beq_false this];rfl
       rw [this];simp
      ·have:=ihl ((B7.1 hm).resolve_left (Ne.symm e)) hnd.2
       rw [List.countP_cons,List.countP_cons,beq_false e,cond_false]
       omega
    have:=hcnt (List.range ops.size) hi1 List.nodup_range
    show (List.range ops.size).countP (fun k=>!(bif Nat.beq k i then true else LD listed k))≤fuel
    omega
   ·rw [ZW (by omega)] at hLk ⊢
    have hdone:LD listed e.on=true:=by
     by_cases ek:k=i
     ·subst ek
      rw [ho] at hk;cases hk
      exact hready e he hb
     ·simp only [beq_false ek,cond_false] at hLk
      exact hd k o hk hLk e he hb
    show (bif Nat.beq e.on i then true else LD listed e.on)=true
    rw [hdone];cases Nat.beq e.on i<;>rfl
  unfold wpOp
  rw [ho]
  simp only []
  split
  ·rename_i hw;rw [if_pos hw] at key;exact .inl key
  ·rename_i hw;rw [if_neg hw] at key;exact key
theorem XC {id:Nat}(hn:fP X.c)(hg0:X.c.FD X.g0.h)(hrec:tB X.c rec)(hm:X.c.P.follows .mixedOrders=true){st:St}{g:G}{a:Act}{w:World}{K:St→Out}{r:Bool×List D}(N:CN X (·<st.n) g st a w)(h:DJ X.c rec X.fn.ntmps ops.toList st.n 0 ops.toList [] [] st K=some r)
  (hK:∀ st' a' w' g',K st'=some r→CN X (·<st.n+32*ops.size) g' st' a' w'→st'.n=st.n→Q .normal a' w'):(Code.region id ops true).wp X.c.P Q a w:=by
 obtain⟨s,v,ft,an,on,e1,_,_,e4,e5⟩:=LN ops.toList 0 [] [] st rfl rfl h
 have A:SB X rec ops st.n s v ft an on:=⟨by rw [e1],fun i o ho=>by
  have:=e4 i o (by rw [D0];exact ho)
  rw [C5] at this;exact this⟩
 have hsz:0+ops.toList.length=ops.size:=by simp
 rw [hsz] at e5
 refine wp_region_any hm ?_
 have hL0:LD (Array.replicate ops.size false)=fun _=>false:=by
  funext i
  unfold LD
  rw [D2,Array.getElem?_replicate]
  split<;>rfl
 refine A.any hn hg0 hrec (fun g' a' w' N'=>?_) ops.size _ g a _ (by simp) (Nat.le_trans List.countP_le_length (by simp)) (fun i o _ hLi=>by rw [hL0] at hLi;cases hLi) ?_
 ·refine hK (s ops.size) a' w' g' e5 ?_ (by have:=(A.text ops.size (B9 _)).1;rw [e1] at this;exact congrArg Mk.k this)
  have hpq:∀ x,pD st.n ops.size (fun _=>true) x→x<st.n+32*ops.size:=fun x hx=>by
   rcases hx with hx|⟨j,h1,_,h3,h4⟩<;>omega
  exact⟨⟨N'.at_.hp.more hpq,N'.at_.tm,fun t=>(N'.at_.nm t).mono hpq⟩,N'.size,N'.def_,N'.ext,N'.keep,fun l o h=>hpq _ (N'.pre l o h)⟩
 ·rw [hL0]
  have eT:(ST st.n s v ft on ops.size fun _=>false).t=st.t:=funext fun t=>by rw [← e1];exact BH _ _ _ _ t
  have eH:(ST st.n s v ft on ops.size fun _=>false).h=st.h:=funext fun x=>by rw [← e1];exact BH _ _ _ _ x
  have hpq:∀ x,x<st.n→pD st.n ops.size (fun _=>false) x:=fun x hx=> .inl hx
  refine⟨⟨?_,fun t=>?_,fun t=>?_⟩,N.size,(by show a.defers=Ov X.g0 (s 0).m.df∧∀ d∈(s 0).m.df,∀ l∈d.2,O4 X.pre l.1=some l.1;rw [e1];exact N.def_),⟨N.ext.h,N.ext.os,N.ext.tape,N.ext.output,N.ext.size⟩,N.keep,fun l o h=>hpq _ (N.pre l o h)⟩
  ·rw [eH];exact (N.at_.hp.more hpq).same rfl
  ·rw [eT];exact N.at_.tm t
  ·rw [eT];exact (N.at_.nm t).mono hpq
end
end Go.AE
namespace Go.AE
open Go.RowKit
def Nx (X:FX)(out:List D)(v:Value)(w:World):Prop:=
 ∃ g' tm',P3 X.u (·<X.H9.objs.length) g' (M4 E0 X.H9 out).h w∧
  (∀ t,VV g' ((M4 E0 X.H9 out).t t) (tm' t)∧((M4 E0 X.H9 out).t t).T0 (·<X.H9.objs.length))∧Ext X.g0 X.w0 g' w∧SE X.pre X.g0 g'∧v=uT X.H9.slots tm'
def Fin (X:FX)(out:List D)(a:Act)(w:World):Prop:=Leaves X.c.P X.fn a.tmps (fun e w'=>∃ v,e = .returned v∧Nx X out v w') a.defers .returning w
def Ix (m:Nat)(c:oA)(f:Nat)(H9:Sk)(pre:List (Nat×Nat))(df:List (Nat×List (Nat×Nat)))(once:Bool)(id:Nat)(body:Code)(sk:Sk)(ds:List D)(b:Bool)(out:List D):Prop:=
 ∀ (X:FX),X.c=c→c.FD X.g0.h→c.P.funcs[f]? = some X.fn→X.H9=H9→X.pre=pre→(∀ l o,O4 pre l=some o→o=l)→∀ (a:Act) (w:World) (g:G),CN X (·<sk.objs.length) g ((M4 E0 sk ds).later df) a w→
  ∀ Q:Exit→Act→World→Prop,(b=false→∀ a' w' g',CN X (·<sk.objs.length) g' ((M4 E0 sk out).later df) a' w'→Q .normal a' w')→(b=true→∀ a' w',Fin X out a' w'→Q .ret a' w')→
   if once=true then body.wp c.P Q a w else Code.rounds c.P body (Exit.inBlock id Q) m a w
def Sb (m:Nat)(c:oA)(rec:Task→Out):Prop:=∀ f H9 pre df once id body sk ds b out,rec (.loop f H9 pre df once id body sk ds)=some (b,out)→Ix m c f H9 pre df once id body sk ds b out
theorem kR {P:Program}{fn:Func}{tmps:Array Value}{R:Ending→World→Prop}:∀ (ds:List Deferred) (u:FrameMode) (w:World) (fr:Frame)
  (cs:List Frame),fr.mode=u→fr.defers=ds→fr.tmps=tmps→P.funcs[fr.fn]? = some fn→fr.kind = .deferred→Leaves P fn tmps R ds u w→
  ∃ e w' fr',R e w'∧Comes P (lone fr cs w) (lone fr' cs w') e∧fr'.kind = .deferred∧fr'.going P w' e
 |[],u,w,fr,cs,hu,hd,ht,hf,hk,h=>by
  cases u with
  |run=>exact h.elim
  |returning=>
   obtain⟨v,hr,hR⟩:=h
   exact⟨.returned v,w,fr,hR,Steps.refl P _,hk,hu,hd,fn,hf,ht▸hr⟩
  |panicking chain=>exact⟨.panicked chain,w,fr,h,Steps.refl P _,hk,hu,hd,fn,hf⟩
 |d::ds,u,w,fr,cs,hu,hd,ht,hf,hk,h=>by
  obtain⟨hrun,fv,cap,f,args,htar,hinv,hcall⟩:=h
  have h1:=step_defer (cs:=cs) (hu▸hrun) hd htar hinv
  obtain⟨e,u',w',frX,hR,hsteps,hkX,hgo⟩:=hcall { fr with defers:=ds } cs hu
  cases e with
  |returned v=>
   have h2:=step_going_returned (c:={ { fr with defers:=ds } with mode:=u' }) (cs:=cs) hkX hgo
   obtain⟨e',w'',fr',hR',hs',hk',hl'⟩:=kR ds (settle u') w' { { { fr with defers:=ds } with mode:=u' } with mode:=settle u' } cs rfl rfl ht hf hk hR
   exact⟨e',w'',fr',hR',Comes.of_steps (.head h1 (Steps.trans hsteps (.one h2))) hs',hk',hl'⟩
  |panicked chain=>
   have h2:=step_going_panicked (c:={ { fr with defers:=ds } with mode:=u' }) (cs:=cs) hgo
   obtain⟨e',w'',fr',hR',hs',hk',hl'⟩:=kR ds (raised u' chain) w' { { { fr with defers:=ds } with mode:=u' } with mode:=raised u' chain } cs rfl rfl ht hf hk hR
   exact⟨e',w'',fr',hR',Comes.of_steps (.head h1 (Steps.trans hsteps (.one h2))) hs',hk',hl'⟩
  |outgrown=>exact⟨.outgrown,w',fr,hR,Outgrown.of_steps (.one h1) hsteps,hk,trivial⟩
theorem zS {P:Program}{f:FuncId}{fn:Func}{c:Code}{args:Array Value}{u:FrameMode}{w:World}{R:Ending→World→Prop}
  (hu:u = .returning) (hf:P.funcs[f]? = some fn) (hb:fn.body=some c)
  (h:c.wp P (bodyPostD P fn R) { tmps:=args++Array.replicate (fn.ntmps-args.size) undef,defers:=[] } w) :
  CallsD P f args u w fun e u' w'=>u'=u∧R e w':=by
 intro c₀ cs hu
 let b:Frame:={ (default:Frame) with fn:=f,kind:= .deferred }
 have henter:Frame.enter P f args .deferred =
   b.at { tmps:=args++Array.replicate (fn.ntmps-args.size) undef,defers:=[] } [.code c]:=by
  simp [Frame.enter,Frame.at,hf,hb,b]
 have hc:({ c₀ with mode:=u }:Frame)=c₀:=by subst hu;rfl
 obtain⟨e,a',w',hq,harr⟩:=h b [] (c₀::cs)
 rw [← henter] at harr
 cases e with
 |normal=>
  obtain⟨e',w'',fr',hR,hs,hk,hl⟩:=kR a'.defers .returning w' { b.at a' [] with mode:= .returning } (c₀::cs) rfl rfl rfl hf rfl hq
  exact⟨e',u,w'',fr',⟨rfl,hR⟩,(by rw [hc];exact Comes.of_steps (Steps.trans harr (.one step_end)) hs),hk,hl⟩
 |ret=>
  obtain⟨todo,hs₀⟩:=harr
  obtain⟨e',w'',fr',hR,hs,hk,hl⟩:=kR a'.defers .returning w' { b.at a' todo with mode:= .returning } (c₀::cs) rfl rfl rfl hf rfl hq
  exact⟨e',u,w'',fr',⟨rfl,hR⟩,(by rw [hc];exact Comes.of_steps hs₀ hs),hk,hl⟩
 |panic chain=>
  obtain⟨todo,hs₀⟩:=harr
  obtain⟨e',w'',fr',hR,hs,hk,hl⟩:=kR a'.defers (.panicking chain) w' { b.at a' todo with mode:= .panicking chain } (c₀::cs) rfl rfl rfl hf rfl hq
  exact⟨e',u,w'',fr',⟨rfl,hR⟩,(by rw [hc];exact Comes.of_steps hs₀ hs),hk,hl⟩
 |exit id=>exact hq.elim
 |goto l=>exact hq.elim
 |outgrown=>exact⟨.outgrown,u,w',b,⟨rfl,hq⟩,harr.resolve_left (by simp [b]),rfl,trivial⟩
theorem RO:∀ {a b:List (Nat×Nat)},VK a b=true→a=b
 |[],[],_=>rfl
 |[],_::_,h=>by cases h
 |_::_,[],h=>by cases h
 |(x,y)::r,(x',y')::q,h=>by
  simp only [VK,A9] at h
  rw [B0 h.1.1,B0 h.1.2,RO h.2]
theorem zJ:∀ {a b:List (Nat×List (Nat×Nat))},NU a b=true→a=b
 |[],[],_=>rfl
 |[],_::_,h=>by cases h
 |_::_,[],h=>by cases h
 |(x,y)::r,(x',y')::q,h=>by
  simp only [NU,A9] at h
  rw [B0 h.1.1,RO h.1.2,zJ h.2]
def Vh:Ex→Exit
 | .normal=> .normal
 | .ret=> .ret
 | .exit id=> .exit id
section
variable {X:FX} {rec:Task→Out} {r:Bool×List D} {f:Nat}
theorem KO {x:Out}{k:List D→Out}(h:J2 x k=some r):(∃ ds,x=some (true,ds)∧r=(true,ds))∨∃ ds,x=some (false,ds)∧k ds=some r:=by
 unfold J2 at h
 split at h
 ·rename_i ds;cases h;exact .inl ⟨ds,rfl,rfl⟩
 ·rename_i ds;exact .inr ⟨ds,rfl,h⟩
 ·cases h
theorem uQ {p:Nat→Prop}{g:G}{st:St}{a:Act}{w:World}(N:CN X p g st a w){x:Operand}{b:Bool}(h:K2 st x = .d (.bool b)):refine st x b=st:=by
 cases x with
 |tmp t=>exact yB h
 |const _=>rfl
 |global _=>rfl
 |func _=>rfl
theorem fE (hn:fP X.c)(hg0:X.c.FD X.g0.h)(hrec:tB X.c rec){m:Nat}(hrecL:Sb m X.c rec)(hid:∀ l o,O4 X.pre l=some o→o=l)(hf:X.c.P.funcs[f]? = some X.fn) :
  ∀ (code:Code) {st:St} {a:Act} {w:World} {g:G} {K:Ex→St→Out} {Q:Exit→Act→World→Prop},exec X.c rec f X.fn.ntmps X.H9 X.pre code st K=some r→CN X (·<st.n) g st a w→
   (∀ e st' a' w' g',K e st'=some r→CN X (·<st'.n) g' st' a' w'→Q (Vh e) a' w')→(∀ out,r=(true,out)→∀ a' w',Fin X out a' w'→Q .ret a' w')→code.wp X.c.P Q a w
 | .skip,st,a,w,g,K,Q,h,N,hK,hR=>wp_skip (hK .normal st a w g h N)
 | .exit id,st,a,w,g,K,Q,h,N,hK,hR=>wp_exit (hK (.exit id) st a w g h N)
 | .ret,st,a,w,g,K,Q,h,N,hK,hR=>wp_ret (hK .ret st a w g h N)
 | .region id ops draw,st,a,w,g,K,Q,h,N,hK,hR=>by
  simp only [exec] at h
  cases draw with
  |true=>
   simp only [cond_true] at h
   obtain⟨hm,h⟩:=H8 h
   refine XC hn hg0 hrec hm N h fun st' a' w' g' h1 h2 h3=>hK .normal _ a' w' g' h1 ?_
   exact⟨⟨h2.at_.hp,h2.at_.tm,h2.at_.nm⟩,h2.size,h2.def_,h2.ext,h2.keep,h2.pre⟩
  |false=>
   simp only [cond_false] at h
   refine wp_region_list (nW hn hg0 hrec ops.toList 0 h (by simpa using N) rfl fun st' a' w' g' h1 h2 h3=>hK .normal _ a' w' g' h1 ?_)
   have e:st.n+32*(0+ops.toList.length)=st.n+32*ops.size:=by simp
   rw [e] at h2
   exact⟨⟨h2.at_.hp,h2.at_.tm,h2.at_.nm⟩,h2.size,h2.def_,h2.ext,h2.keep,h2.pre⟩
 | .seq x y,st,a,w,g,K,Q,h,N,hK,hR=>by
  simp only [exec] at h
  refine wp_seq (fE hn hg0 hrec hrecL hid hf x h N (fun e st' a' w' g' h1 h2=>?_) (fun out ho a' w' hfin=>hR out ho a' w' hfin))
  cases e with
  |normal=>exact fE hn hg0 hrec hrecL hid hf y h1 h2 hK hR
  |ret=>exact hK .ret st' a' w' g' h1 h2
  |exit id=>exact hK (.exit id) st' a' w' g' h1 h2
 | .cond x y z,st,a,w,g,K,Q,h,N,hK,hR=>by
  simp only [exec] at h
  split at h
  ·rename_i t ts hcut
   obtain⟨g1,N1⟩:=ZQ N (X.pre.map (·.1)) (t::ts)
   split at h
   ·rename_i cf hcf
    obtain⟨g2,N2⟩:=wY N1 hid hcf
    rcases KO h with ⟨ds,h1,h2⟩|⟨ds,h1,h2⟩
    ·have:=hrecL _ _ _ _ _ _ _ _ _ _ _ h1 X rfl hg0 hf rfl rfl hid a w g2 N2 Q (fun hb=>by cases hb) (fun _ a' w' hfin=>hR ds h2 a' w' hfin)
     simpa using this
    ·obtain⟨hchk,h2⟩:=H8 h2
     have:=hrecL _ _ _ _ _ _ _ _ _ _ _ h1 X rfl hg0 hf rfl rfl hid a w g2 N2 Q (fun _ a' w' g' N3=>hK .normal _ a' w' g' h2 (JW N3 hchk)) (fun hb=>by cases hb)
     simpa using this
   ·cases h
  ·split at h
   ·rename_i b hb
    have hv:=N.at_.ev x
    rw [hb] at hv
    have hv:=CS hv
    cases b with
    |true=>
     simp only [cond_true] at h
     rw [uQ N hb] at h
     exact wp_cond_true hv (fE hn hg0 hrec hrecL hid hf y h N hK hR)
    |false=>
     simp only [cond_false] at h
     rw [uQ N hb] at h
     exact wp_cond_false hv (fE hn hg0 hrec hrecL hid hf z h N hK hR)
   ·rename_i hb
    have hv:=N.at_.ev x
    rw [hb] at hv
    obtain⟨b,hv⟩:=hv
    obtain⟨h1,h2⟩:=KN h
    cases b with
    |true=>exact wp_cond_true hv (fE hn hg0 hrec hrecL hid hf y h1 N hK hR)
    |false=>exact wp_cond_false hv (fE hn hg0 hrec hrecL hid hf z h2 N hK hR)
   ·cases h
 | .block id b,st,a,w,g,K,Q,h,N,hK,hR=>by
  by_cases hb:∃ body,b = .loop body
  ·obtain⟨body,rfl⟩:=hb
   simp only [exec] at h
   obtain⟨g1,N1⟩:=ZQ N (X.pre.map (·.1)) ((X.c.keep f id).filter fun t=>!X.c.nowid f t)
   split at h
   ·rename_i cf hcf
    obtain⟨g2,N2⟩:=wY N1 hid hcf
    have fin:Code.rounds X.c.P body (Exit.inBlock id Q) m a w→(Code.block id (.loop body)).wp X.c.P Q a w:=fun hn=>wp_block (wp_loop_rounds m hn)
    rcases KO h with ⟨ds,h1,h2⟩|⟨ds,h1,h2⟩
    ·have:=hrecL _ _ _ _ _ _ _ _ _ _ _ h1 X rfl hg0 hf rfl rfl hid a w g2 N2 Q (fun hb=>by cases hb) (fun _ a' w' hfin=>hR ds h2 a' w' hfin)
     exact fin (by simpa using this)
    ·obtain⟨hchk,h2⟩:=H8 h2
     have:=hrecL _ _ _ _ _ _ _ _ _ _ _ h1 X rfl hg0 hf rfl rfl hid a w g2 N2 Q (fun _ a' w' g' N3=>hK .normal _ a' w' g' h2 (JW N3 hchk)) (fun hb=>by cases hb)
     exact fin (by simpa using this)
   ·cases h
  ·have h':exec X.c rec f X.fn.ntmps X.H9 X.pre b st (fun e st'=>match e with | .exit j=>bif Nat.beq j id then K .normal st' else K (.exit j) st'|e=>K e st')=some r:=by
    cases b<;>first|exact h|exact absurd ⟨_,rfl⟩ hb
   refine wp_block (fE hn hg0 hrec hrecL hid hf b h' N (fun e st' a' w' g' h1 h2=>?_) (fun out ho a' w' hfin=>hR out ho a' w' hfin))
   cases e with
   |normal=>exact hK .normal st' a' w' g' h1 h2
   |ret=>exact hK .ret st' a' w' g' h1 h2
   |exit j=>
    simp only [] at h1
    show Exit.inBlock id Q (.exit j) a' w'
    by_cases hj:j=id
    ·subst hj
     rw [beq_iff.2 rfl] at h1
     simp only [Exit.inBlock,if_true]
     exact hK .normal st' a' w' g' h1 h2
    ·rw [beq_false hj] at h1
     simp only [Exit.inBlock,hj,if_false]
     exact hK (.exit j) st' a' w' g' h1 h2
 | .loop _,st,a,w,g,K,Q,h,N,hK,hR=>by simp [exec] at h
 | .scope _,st,a,w,g,K,Q,h,N,hK,hR=>by simp [exec] at h
 | .label _,st,a,w,g,K,Q,h,N,hK,hR=>by simp [exec] at h
 | .goto _,st,a,w,g,K,Q,h,N,hK,hR=>by simp [exec] at h
 | .refuse _,st,a,w,g,K,Q,h,N,hK,hR=>by simp [exec] at h
 | .rangeFunc ..,st,a,w,g,K,Q,h,N,hK,hR=>by simp [exec] at h
theorem yA {p:Nat→Prop}{g:G}{st:St}{a:Act}{w:World}{P:Program}{u:Nat→Option Obj}(S:At u p g st a w):∀ {rs:List ResultVar},tR P st rs=true→
  ∃ vals,(rs.mapM fun rv=>(match rv with | .tmp t=>pure (a.tmps.getD t undef) | .cell b t=>do loadVar t (← asAddr (a.tmps.getD b undef)):Sem Value)).run P w = .ok vals w∧F2 (VV g) (fX P st rs) vals∧∀ x∈fX P st rs,x.T0 p
 |[],_=>⟨[],by simp,.nil,fun x hx=>nomatch hx⟩
 | .tmp t::rs,h=>by
  obtain⟨vals,h1,h2,h3⟩:=yA S (rs:=rs) h
  refine⟨a.tmps.getD t undef::vals,?_,.cons (S.tm t) h2,fun x hx=>?_⟩
  ·rw [List.mapM_cons]
   simp only [Sem.run_bind,Sem.run_pure,Result.andThen_ok,h1]
  ·simp only [fX] at hx
   rcases B7.1 hx with rfl|hx
   ·exact S.nm t
   ·exact h3 x hx
 | .cell b t::rs,h=>by
  simp only [tR,A9] at h
  obtain⟨vals,h1,h2,h3⟩:=yA S (rs:=rs) h.2
  have h0:=h.1
  split at h0
  ·rename_i o off he
   split at h0
   ·rename_i cs ho
    have hv:=S.tm b
    rw [he] at hv
    have hv:=FG hv
    obtain⟨c,e,hb,hF,hone⟩:=S.hp.ob _ _ ho
    simp only [A9] at h0
    obtain⟨htok,h0⟩:=h0
    obtain⟨d,info,hd,hinfo,hg,hs⟩:=gS htok
    have hcell:jT w ⟨g.blk o,0,none⟩ c.toList:=fun j v hj=>by
     rw [K9,C5,cell_of_row w _ j c e (0,0) hb]
     simpa using hj
    have fin:∀ v vv,fX P st (.cell b t::rs)=vv::fX P st rs→(loadVar t ⟨g.blk o,off,none⟩).run P w = .ok v w→VV g vv v→vv.T0 p→
      ∃ vals,((ResultVar.cell b t::rs).mapM fun rv=>(match rv with | .tmp t=>pure (a.tmps.getD t undef) | .cell b t=>do loadVar t (← asAddr (a.tmps.getD b undef)):Sem Value)).run P w = .ok vals w∧F2 (VV g) (fX P st (.cell b t::rs)) vals∧
       ∀ x∈fX P st (.cell b t::rs),x.T0 p:=by
     intro v vv e1 e2 e3 e4
     rw [e1]
     refine⟨v::vals,?_,.cons e3 h2,fun x hx=>?_⟩
     ·have hA:(asAddr (a.tmps.getD b undef)).run P w = .ok ⟨g.blk o,off,none⟩ w:=by rw [hv];simp [asAddr]
      rw [List.mapM_cons]
      simp only [Sem.run_bind,hA,Sem.run_pure,Result.andThen_ok,e2,h1]
     ·rcases B7.1 hx with rfl|hx
      ·exact e4
      ·exact h3 x hx
    cases hag:P4 P t with
    |true=>
     rw [hag] at h0 hg
     have hle:off+L6 P t≤cs.length:=B3 h0
     have hlen:=hF.length
     refine fin _ (gN ((cs.drop off).take (L6 P t))) (by simp only [fX,he,ho,hag,cond_true]) (lB hd hinfo hg.symm (us:=(c.toList.drop off).take (L6 P t)) (by simp at hlen ⊢;omega) ?_) (eF (tN ((hF.drop off).take _))) (cM (nV fun y hy=>?_))
     ·have:=(hcell.sub (w:=w) off).take (L6 P t)
      rwa [K9,C5] at this
     ·exact (S.hp.use _ _ ho).2 y (List.mem_of_mem_drop (List.mem_of_mem_take hy))
    |false=>
     rw [hag] at h0 hg
     have hlt:Nat.ble (off+1) cs.length=true:=h0
     have hlt:=B3 hlt
     obtain⟨v,hv2,hvv⟩:=hF.get off _ (C2 hlt)
     have:=hcell off v hv2
     rw [K9,C5] at this
     refine fin v cs[off] ?_ (lC hd hg.symm this) (eF hvv) (cM ((S.hp.use _ _ ho).2 _ (C6 hlt)))
     simp only [fX,he,ho,hag,cond_false]
     rw [C2 hlt];rfl
   ·cases h0
  ·cases h0
theorem LB:∀ {sl:List (Nat×SV)} {i:Nat} {pre vals:List Value},SU i sl=true→pre.length=i→sl.length=vals.length→(sl.map fun x=>(pre++vals).getD x.1 undef)=vals
 |[],i,pre,vals,_,_,hl=>by
  have:vals=[]:=D1 hl.symm
  subst this;rfl
 |(j,s)::sl,i,pre,[],_,_,hl=>by simp at hl
 |(j,s)::sl,i,pre,v::vals,hc,hp,hl=>by
  simp only [SU,A9] at hc
  have hj:i=j:=beq_iff.1 hc.1
  subst hj
  have ih:=LB (sl:=sl) (i:=i+1) (pre:=pre++[v]) (vals:=vals) hc.2 (by simp [hp]) (by simpa using hl)
  simp only [C1,List.singleton_append] at ih
  simp only [List.map_cons,ih]
  congr 1
  subst hp
  simp
theorem TH {p:Nat→Prop}{st:St}{a:Act}{w:World}{g:G}{b:Bool}{out:List D}(hid:∀ l o,O4 X.pre l=some o→o=l)(hat:At X.u p g st a w)(hext:Ext X.g0 X.w0 g w)(hkeep:SE X.pre X.g0 g)(h:finish X.c.P X.fn.results.toList X.H9 X.pre st=some (b,out)) :
  ∃ v,(results X.fn a.tmps).run X.c.P w = .ok v w∧Nx X out v w:=by
 unfold finish at h
 obtain⟨hc,h⟩:=H8 h
 simp only [A9] at hc
 obtain⟨⟨hok,hcon⟩,hlen⟩:=hc
 have hlen:X.H9.slots.length=X.fn.results.toList.length:=beq_iff.1 hlen
 obtain⟨vals,h1,h2,h3⟩:=yA hat hok
 split at h
 ·rename_i cf hcf
  cases h
  have hone:rT X.pre:=fun l l' o h h'=>by rw [← hid l o h,← hid l' o h']
  obtain⟨gF,M⟩:=BE (tm:=fun t=>vals.getD t undef) hcf hat.hp (UI h2) (GU h3) hone
  have hrl:(fX X.c.P st X.fn.results.toList).length=X.fn.results.toList.length:=by
   generalize X.fn.results.toList=rs
   induction rs with
   |nil=>rfl
   |cons x rs ih=>cases x<;>simp [fX,ih]
  have hvl:X.H9.slots.length=vals.length:=by rw [hlen,← hrl,h2.length]
  refine⟨uT X.H9.slots fun t=>vals.getD t undef,?_,tA g gF cf.ren,fun t=>vals.getD t undef,M.Tq hat.hp,fun t=>⟨M.tm t,M.nm t⟩,hext.trans ⟨M.a.h,rfl,rfl,rfl,B9 _⟩,fun l o hl=>?_,rfl⟩
  ·have hm:=LB (pre:=[]) hcon rfl hvl
   simp only [List.nil_append] at hm
   unfold uT
   rw [hm]
   unfold results
   have e:(X.fn.results.mapM fun rv=>(match rv with | .tmp t=>pure (a.tmps.getD t undef) | .cell b t=>do loadVar t (← asAddr (a.tmps.getD b undef)):Sem Value)).run X.c.P w = .ok vals.toArray w:=by
    rw [Array.mapM_eq_mapM_toList,map_eq_pure_bind]
    simp only [Sem.run_bind,h1,Result.andThen_ok,Sem.run_pure]
   simp only [Sem.run_bind]
   refine (congrArg (fun z:Result (Array Value)=>z.andThen fun (a:Array Value) w'=>Sem.run X.c.P (pure (if h:a.size=1 then a[0] else .tuple a)) w') e).trans ?_
   simp only [Result.andThen_ok,Sem.run_pure]
   congr 1
   match vals with
   |[]=>rfl
   |[v]=>rfl
   |v::v'::vs=>simp
  ·have k1:=M.pre l o hl
   have k2:=hid l o hl
   subst k2
   obtain⟨k3,k4⟩:=hkeep o o hl
   exact⟨by simp only [tA,k1,Option.getD_some];exact k3,by simp only [tA,k1,Option.getD_some];exact k4⟩
 ·cases h
theorem XJ {st:St}{b:Bool}{out:List D}(h:finish X.c.P X.fn.results.toList X.H9 X.pre st=some (b,out)):b=true:=by
 unfold finish at h
 obtain⟨_,h⟩:=H8 h
 split at h
 ·cases h;rfl
 ·cases h
theorem DM:∀ {df:List (Nat×List (Nat×Nat))} {st:St} {b:Bool} {out:List D},pS X.c rec X.fn.results.toList X.H9 X.pre df st=some (b,out)→b=true
 |[],st,b,out,h=>XJ h
 |(f,zs)::r,st,b,out,h=>by
  simp only [pS] at h
  rw [uB] at h
  obtain⟨⟨v,st'⟩,_,h⟩:=wL h
  exact DM h
theorem Ee {g:G}(hkeep:SE X.pre X.g0 g):∀ {zs:List (Nat×Nat)},(∀ l∈zs,O4 X.pre l.1=some l.1)→F2 (VV g) (zs.map fun x=>V.ptr x.1 x.2) (zs.map fun l=>Value.pointer (some ⟨X.g0.blk l.1,l.2,none⟩))
 |[],_=> .nil
 |x::zs,h=>by
  refine .cons ?_ (Ee hkeep fun l hl=>h l (by simp [hl]))
  show Value.pointer _ = .pointer (some ⟨g.blk x.1,x.2,none⟩)
  rw [(hkeep _ _ (h x (by simp))).1]
theorem OU (hn:fP X.c)(hg0:X.c.FD X.g0.h)(hrec:tB X.c rec)(hid:∀ l o,O4 X.pre l=some o→o=l){b:Bool}{out:List D}:∀ (df:List (Nat×List (Nat×Nat))) (st:St) (a:Act) (w:World) (g:G),pS X.c rec X.fn.results.toList X.H9 X.pre df st=some (b,out)→
  At X.u (·<st.n) g st a w→Ext X.g0 X.w0 g w→SE X.pre X.g0 g→(∀ l o,O4 X.pre l=some o→l<st.n)→(∀ d∈df,∀ l∈d.2,O4 X.pre l.1=some l.1)→
  Leaves X.c.P X.fn a.tmps (fun e w'=>∃ v,e = .returned v∧Nx X out v w') (Ov X.g0 df) .returning w:=by
 intro df
 induction df with
 |nil=>
  intro st a w g h hat hext hkeep hpre hlab
  obtain⟨v,h1,h2⟩:=TH hid hat hext hkeep h
  exact⟨v,h1,v,rfl,h2⟩
 |cons d r ih=>
  obtain⟨fid,zs⟩:=d
  intro st a w g h hat hext hkeep hpre hlab
  simp only [pS] at h
  have hl0:=hlab (fid,zs) (by simp)
  have hF:=Ee (g:=g) hkeep hl0
  have hu:∀ x∈(zs.map fun x=>V.ptr x.1 x.2),x.T0 (·<st.n):=by
   intro x hx
   obtain⟨y,hy,rfl⟩:=List.mem_map.1 hx
   exact hpre _ _ (hl0 y hy)
  obtain⟨fn,hfn,hb,vv,st1,hk,hc⟩:=IE (CL:=Rb X.c.P) (q:=(·<st.n+32)) (fun f a w R R' h hr=>CallsD.mono h fun e u' w' k=>⟨k.1,hr _ _ k.2⟩) (no:=true) hn.2.2.1 (hn.2.2.1 _ _ hext.h hg0) (fun sk ds out h hno=>(hrec _ _ _ _ h).2 (hno rfl)) hat.hp (fun x hx=>(Nat.lt_add_right 32 hx:x<st.n+32)) (fun k hk=>⟨Nat.not_lt.2 (Nat.le_add_right _ _),(Nat.add_lt_add_left hk _:st.n+k<st.n+32)⟩) hF hu h
  have e0:Ov X.g0 ((fid,zs)::r)={ target:= .fn (.func fid) #[],args:=(zs.map fun l=>Value.pointer (some ⟨X.g0.blk l.1,l.2,none⟩)).toArray }::Ov X.g0 r:=rfl
  rw [e0]
  generalize (zs.map fun l=>Value.pointer (some ⟨X.g0.blk l.1,l.2,none⟩)).toArray=vals at hc
  generalize Ov X.g0 r=ds0 at ih
  refine leaves_cons (f:=fid) (args:=vals) (u:= .returning) (by simp) ?_ (CallsD.mono hc ?_)
  ·have hname:=hn.1 fid fn hfn
   have hname:fn.name≠"runtime.NumGoroutine":=by simpa using hname
   have hbn:fn.body≠none:=by intro h;rw [h] at hb;cases hb
   simp [invoke,callFunc,hfn,hname,hbn]
  ·rintro e u' w' ⟨rfl,v,rfl,g',s1,s2,s3,s4,s5,s6,s7⟩
   show Leaves _ _ _ _ _ .returning w'
   refine ih { st1 with m:=⟨st.n+32,st1.m.df⟩ } a w' g' hk ⟨s1,fun t=>?_,fun t=>?_⟩ (hext.trans s3) (hkeep.agree s2 hpre) (fun l o hl=>Nat.lt_of_lt_of_le (hpre l o hl) (by show st.n≤st.n+32;omega)) (fun d hd=>hlab d (by simp [hd]))
   ·show VV g' (st1.t t) _
    rw [s6]
    exact (hat.tm t).agree s2 (hat.nm t)
   ·show (st1.t t).T0 _
    rw [s6]
    exact (hat.nm t).mono (fun x hx=>by show x<st.n+32;omega)
theorem JX (hn:fP X.c)(hg0:X.c.FD X.g0.h)(hrec:tB X.c rec)(hid:∀ l o,O4 X.pre l=some o→o=l){b:Bool}{out:List D}{st:St}{a:Act}{w:World}{g:G}(h:pS X.c rec X.fn.results.toList X.H9 X.pre st.m.df st=some (b,out))(N:CN X (·<st.n) g st a w):b=true∧Fin X out a w:=by
 refine⟨DM h,?_⟩
 unfold Fin
 rw [N.def_.1]
 exact OU hn hg0 hrec hid _ _ _ _ _ h N.at_ N.ext N.keep N.pre N.def_.2
theorem TF (hn:fP X.c)(hg0:X.c.FD X.g0.h)(hrec:tB X.c rec){m:Nat}(hrecL:Sb m X.c rec)(hid:∀ l o,O4 X.pre l=some o→o=l)(hf:X.c.P.funcs[f]? = some X.fn){code:Code}{st:St}{a:Act}{w:World}{g:G}{K:Ex→St→Out}{Q:Exit→Act→World→Prop}
  (h:Av X.c rec f X.fn.ntmps X.H9 X.pre code st K=some r) (N:CN X (·<st.n) g st a w)
  (hK:∀ e st' a' w' g',K e st'=some r→CN X (·<st'.n) g' st' a' w'→Q (Vh e) a' w') (hR:∀ out,r=(true,out)→∀ a' w',Fin X out a' w'→Q .ret a' w'):code.wp X.c.P Q a w:=by
 unfold Av at h
 split at h
 ·rename_i x y z
  split at h
  ·rename_i b hb
   have hv:=N.at_.ev x
   rw [hb] at hv
   have hv:=CS hv
   cases b with
   |true=>
    simp only [cond_true] at h
    rw [uQ N hb] at h
    exact wp_cond_true hv (fE hn hg0 hrec hrecL hid hf y h N hK hR)
   |false=>
    simp only [cond_false] at h
    rw [uQ N hb] at h
    exact wp_cond_false hv (fE hn hg0 hrec hrecL hid hf z h N hK hR)
  ·cases h
 ·cases h
theorem Ax (args:Array Value)(n t:Nat):(args++Array.replicate n undef).getD t undef=args.getD t undef:=by
 simp only [D2,Array.getElem?_append]
 split
 ·rfl
 ·rename_i hlt
  rw [Array.getElem?_eq_none (by omega:args.size≤t),Array.getElem?_replicate]
  split<;>rfl
theorem HE {c:oA}(hn:fP c)(horc:∀ f sk ds r,c.CK f sk ds=some r→fO c f sk ds r):∀ n,tB c (run c n)∧Sb n c (run c n)
 |0=>⟨fun f sk ds out h=>by simp [run] at h,fun f H9 pre df once id body sk ds b out h=>by simp [run] at h⟩
 |n+1=>by
  obtain⟨ih1,ih2⟩:=HE hn horc n
  refine⟨fun f sk ds out h=>?_,fun f H9 pre df once id body sk ds b out h=>?_⟩
  ·simp only [run] at h
   split at h
   ·rename_i r hr
    cases h
    exact⟨horc f sk ds _ hr,fun hno=>by rw [hno] at hr;cases hr⟩
   ·split at h
    ·rename_i fn hfn
     split at h
     ·rename_i body hbody
      obtain⟨hchk,h⟩:=H8 h
      have main:∀ (u:Nat→Option Obj) (g:G),c.FD g.h→∀ (args:Array Value) (w:World),args.size=sk.slots.length→P3 u (·<sk.objs.length) g (M4 E0 sk ds).h w→
        (∀ t,VV g ((M4 E0 sk ds).t t) (args.getD t undef)∧((M4 E0 sk ds).t t).T0 (·<sk.objs.length))→
        body.wp c.P (bodyPostD c.P fn fun e w'=>∃ v,e = .returned v∧Nx ⟨c,fn,u,cF c.P (c.dres f) fn.resultTypes.toList sk,aG 0 sk.objs,g,w⟩ out v w') { tmps:=args++Array.replicate (fn.ntmps-args.size) undef,defers:=[] } w:=by
       intro u g hg0 args w hsize S T
       let X:FX:=⟨c,fn,u,cF c.P (c.dres f) fn.resultTypes.toList sk,aG 0 sk.objs,g,w⟩
       have hid:∀ l o,O4 X.pre l=some o→o=l:=fun l o hl=>(lT.1 hl).1
       have N0:CN X (·<sk.objs.length) g ((M4 E0 sk ds).later []) { tmps:=args++Array.replicate (fn.ntmps-args.size) undef,defers:=[] } w:=by
        refine⟨⟨S,fun t=>?_,fun t=>(T t).2⟩,?_,⟨rfl,fun d hd=>by cases hd⟩,Ext.refl g w,fun l o _=>⟨rfl,rfl⟩,fun l o hl=>?_⟩
        ·show VV g _ ((args++Array.replicate (fn.ntmps-args.size) undef).getD t undef)
         rw [Ax];exact (T t).1
        ·show fn.ntmps≤(args++Array.replicate (fn.ntmps-args.size) undef).size
         simp;omega
        ·obtain⟨_,k,s,h1,h2,_⟩:=lT.1 hl
         have:=(List.getElem?_eq_some_iff.1 h2).1
         omega
       refine fE (X:=X) hn hg0 ih1 ih2 hid hfn body h (JW N0 hchk) (fun e st' a' w' g' h1 h2=>?_) (fun out' ho a' w' hfin=>?_)
       ·cases e with
        |ret=>exact (JX hn hg0 ih1 hid h1 h2).2
        |normal=>exact (JX hn hg0 ih1 hid h1 h2).2
        |exit j=>cases h1
       ·cases ho
        exact hfin
      refine⟨fun fn' hfn' u g hg0 args w hsize S T=>?_,fun _ fn' hfn' u g hg0 args w hsize S T=>?_⟩
      ·rw [hfn] at hfn'
       cases hfn'
       exact calls_of_wp_defers hfn hbody (main u g hg0 args w hsize S T)
      ·rw [hfn] at hfn'
       cases hfn'
       exact zS rfl hfn hbody (main u g hg0 args w hsize S T)
     ·cases h
    ·cases h
  ·simp only [run] at h
   split at h
   ·rename_i fn hfn
    obtain⟨hchk,h⟩:=H8 h
    intro X hX hg0 hXf hXo hXp hid a w g N Q hQ hQr
    subst hX
    rw [hfn] at hXf
    simp only [B1] at hXf
    subst hXf
    subst hXo
    subst hXp
    have N1:=JW N hchk
    cases once with
    |true=>
     simp only [cond_true] at h
     simp only [if_true]
     refine TF hn hg0 ih1 ih2 hid hfn h N1 (fun e st' a' w' g' h1 h2=>?_) (fun out' ho a' w' hfin=>?_)
     ·cases e with
      |ret=>
       obtain⟨hb,hfin⟩:=JX hn hg0 ih1 hid h1 h2
       exact hQr hb a' w' hfin
      |normal=>
       simp only [] at h1
       replace h1:=K1 h1
       obtain⟨hdf,h1⟩:=h1
       rw [Bool.not_eq_false'] at hdf
       have hdf:=zJ hdf
       subst hdf
       split at h1
       ·rename_i cf hcf
        simp only [cond_true,B1,C7] at h1
        obtain⟨h1,h3⟩:=h1
        obtain⟨g2,N2⟩:=wY h2 hid hcf
        rw [h3] at N2
        exact hQ h1.symm a' w' g2 N2
       ·cases h1
      |exit j=>simp at h1
     ·cases ho
      exact hQr rfl a' w' hfin
    |false=>
     simp only [cond_false] at h
     simp only [D6,if_false,rounds_succ]
     refine fE hn hg0 ih1 ih2 hid hfn body h N1 (fun e st' a' w' g' h1 h2=>?_) (fun out' ho a' w' hfin=>?_)
     ·cases e with
      |ret=>
       obtain⟨hb,hfin⟩:=JX hn hg0 ih1 hid h1 h2
       exact hQr hb a' w' hfin
      |normal=>
       simp only [] at h1
       replace h1:=K1 h1
       obtain⟨hdf,h1⟩:=h1
       rw [Bool.not_eq_false'] at hdf
       have hdf:=zJ hdf
       subst hdf
       split at h1
       ·rename_i cf hcf
        obtain⟨g2,N2⟩:=wY h2 hid hcf
        have:=ih2 _ _ _ _ _ _ _ _ _ _ _ h1 X rfl hg0 hfn rfl rfl hid a' w' g2 N2 Q hQ hQr
        simp only [D6,if_false] at this
        exact this
       ·cases h1
      |exit j=>
       replace h1:=H8 h1
       obtain⟨hj,h1⟩:=h1
       simp only [Bool.not_false,Bool.and_true,A9] at hj
       have hdf:=zJ hj.2
       subst hdf
       have hj:j=id:=beq_iff.1 hj.1
       subst hj
       split at h1
       ·rename_i cf hcf
        cases h1
        obtain⟨g2,N2⟩:=wY h2 hid hcf
        show Exit.inBlock j Q (.exit j) a' w'
        simp only [Exit.inBlock,if_true]
        exact hQ rfl a' w' g2 N2
       ·cases h1
     ·cases ho
      exact hQr rfl a' w' hfin
   ·cases h
end
end Go.AE
namespace Go.AE
open Go.RowKit
def LR:List D→Option (Bool×List D)
 |[.int .u64 x,.int .u64 y,.int .u64 c]=>some (decide (0≤x)&&decide (0≤y)&&decide (0≤c)&&decide (c≤1),[.int .u64 ((x+y+c) % 18446744073709551616),.int .u64 ((x+y+c) / 18446744073709551616)])
 |_=>none
def oE (c:UInt8):F9→Nat→Int
 |[],_=>-1
 |x::xs,j=>bif x==c then (j:Int) else oE c xs (j+1)
def uC:List D→Option (Bool×List D)
 |[.str s,.int .u8 c]=>some (true,[.int .i64 (oE c.toNat.toUInt8 s 0)])
 |_=>none
def KF (gv:Nat)(h:Nat→Option Obj):Prop:=∃ m:Int,kH h ⟨gv,0,none⟩=some (.int .i64 m)
def ZV (c:oA)(f:Nat)(x:List D→Option (Bool×List D)):Prop:=∀ (ds r:List D),x ds=some (true,r)→∀ (g:G) (vals:Array Value) (w:World),F2 (VV g) (ds.map V.d) vals.toList→
 ∃ v,(callFunc f vals).run c.P w = .ok (.value v) w∧VV g (UN (r.map V.d)) v
def LS:List (Nat×(List D→Option (Bool×List D)))→Nat→List D→Option (Bool×List D)
 |[],_,_=>none
 |(a,x)::r,f,ds=>bif Nat.beq f a then x ds else LS r f ds
theorem IF {c:oA}:∀ (l:List (Nat×(List D→Option (Bool×List D)))),(∀ p∈l,ZV c p.1 p.2)→(∀ f ds,c.ext f ds=LS l f ds)→Cw c:=by
 intro l hl he f ds r h
 rw [he] at h
 clear he
 induction l with
 |nil=>cases h
 |cons p l ih=>
  obtain⟨a,x⟩:=p
  simp only [LS] at h
  by_cases e:f=a
  ·subst e
   rw [beq_iff.2 rfl,cond_true] at h
   exact hl (f,x) (by simp) ds r h
  ·rw [beq_false e,cond_false] at h
   exact ih (fun p hp=>hl p (by simp [hp])) h
theorem Gf {c:oA}{f:Nat}{fn:Func}(hf:c.P.funcs[f]? = some fn)(hname:(fn.name=="runtime.NumGoroutine")=false)(hb:fn.body.isNone=true)(hn:Extern.findNext fn=none)(he:Extern.find fn=some add64Entry):ZV c f LR:=by
 intro ds r h g vals w hF
 unfold LR at h
 split at h
 ·rename_i x y z
  cases h1:(decide (0≤x)&&decide (0≤y)&&decide (0≤z)&&decide (z≤1)) with
  |false=>rw [h1] at h;cases h
  |true=>
   rw [h1] at h
   simp only [A9,decide_eq_true_eq] at h1
   cases h
   have hv:vals=#[.int .u64 x,.int .u64 y,.int .u64 z]:=by
    obtain⟨l,hv⟩:∃ l,vals.toList=l:=⟨_,rfl⟩
    rw [hv] at hF
    cases hF with
    |@cons _ v1 _ _ a1 hF=>cases hF with
     |@cons _ v2 _ _ a2 hF=>cases hF with
      |@cons _ v3 _ _ a3 hF=>cases hF with
       |nil=>
        apply Array.ext'
        rw [hv]
        have b1:v1 = .int .u64 x:=a1
        have b2:v2 = .int .u64 y:=a2
        have b3:v3 = .int .u64 z:=a3
        rw [b1,b2,b3]
   subst hv
   refine⟨.tuple #[.int .u64 ((x+y+z) % 18446744073709551616),.int .u64 ((x+y+z) / 18446744073709551616)],?_,?_⟩
   ·rw [run_callFunc_extern hf hname hb hn he,run_add64 x y z h1.1.1.1 h1.1.1.2 h1.1.2 h1.2]
    rfl
   ·exact⟨_,rfl,.cons rfl (.cons rfl .nil)⟩
 ·cases h
theorem TP (c:UInt8)(s:F9)(b:ByteArray)(hb:b.data.toList=s):firstIdx b c=oE c s 0:=by
 have key:∀ (l:F9) (j:Nat),(∀ k,k<l.length→b[j+k]! = l[k]!)→oE c l j=match (List.range' j l.length).find? (fun i=>b[i]! == c) with|some i=>(i:Int)|none=>-1:=by
  intro l
  induction l with
  |nil=>intro j _;rfl
  |cons x xs ih=>
   intro j hk
   simp only [oE,A0,List.range'_succ,List.find?_cons]
   have h0:=hk 0 (by simp)
   simp at h0
   rw [h0]
   cases x==c with
   |true=>rfl
   |false=>
    simp only [cond_false]
    rw [ih (j+1) fun k hkl=>by
     have:=hk (k+1) (by simpa using hkl)
     rw [show j+(k+1)=j+1+k by omega] at this
     rw [this];simp]
 have hsz:b.size=s.length:=by rw [← hb];simp
 unfold firstIdx
 rw [key s 0 fun k hk=>by
  rw [C5]
  subst hb
  have hk':k<b.size:=by rw [hsz];exact hk
  rw [getElem!_pos b k hk',getElem!_pos b.data.toList k hk]
  simp [ByteArray.getElem_eq_getElem_data],hsz,List.range_eq_range']
 cases List.find? (fun i=>b[i]! == c) (List.range' 0 s.length)<;>rfl
theorem OT {c:oA}{f:Nat}{fn:Func}(hf:c.P.funcs[f]? = some fn)(hname:(fn.name=="runtime.NumGoroutine")=false)(hb:fn.body.isNone=true)(hn:Extern.findNext fn=none)(he:Extern.find fn=some Extern.BytealgIndexByte.indexByte):ZV c f uC:=by
 intro ds r h g vals w hF
 unfold uC at h
 split at h
 ·rename_i s n
  cases h
  have hv:∃ b:ByteArray,b.data.toList=s∧vals=#[.string b,.int .u8 n]:=by
   obtain⟨l,hv⟩:∃ l,vals.toList=l:=⟨_,rfl⟩
   rw [hv] at hF
   cases hF with
   |@cons _ v1 _ _ a1 hF=>cases hF with
    |@cons _ v2 _ _ a2 hF=>cases hF with
     |nil=>
      obtain⟨b,b1,b2⟩:=(show VD g.h (.str s) v1 from a1)
      have b3:v2 = .int .u8 n:=a2
      refine⟨b,b2,?_⟩
      apply Array.ext'
      rw [hv,b1,b3]
  obtain⟨b,hs,rfl⟩:=hv
  refine⟨.int .i64 (firstIdx b n.toNat.toUInt8),?_,?_⟩
  ·rw [run_callFunc_extern hf hname hb hn he,run_indexByte_string]
   rfl
  ·show Value.int .i64 _=_
   rw [TP _ s b hs]
 ·cases h
end Go.AE
namespace Go.AE
open Go.ChangeShapes Go.WideShapes Go.ChangeAt Go.RowKit
def snap (W:World):Nat→Option Obj:=fun b=>W.heap[b]?
mutual
def CW:D→Nat
 | .str s=>s.length+1
 | .Z _ xs=>gU xs+1
 | .agg cs=>gU cs
 |_=>1
def gU:List D→Nat
 |[]=>0
 |x::xs=>CW x+gU xs
end
structure ZX {H:Type} (m:DataW H→Nat) (ma:List (DataW H)→Nat):Prop where
 one:∀ d,1≤m d
 str:∀ b,b.length+1≤m (.lit (.string b))
 slice:∀ e s,ma e+1≤m (.slice e s)
 agg:∀ p,ma p≤m (.agg p)
 nil:ma []=0
 cons:∀ d r,ma (d::r)=m d+ma r
def Dq (P:Program)(total:Nat):Nat→List Field→Bool
 |off,[]=>Nat.beq off total
 |off,f::fs=>Nat.beq f.offset off&&Dq P total (off+P.cellsOf f.type) fs
def gP (P:Program):Nat→TypeId→Bool
 |0,_=>false
 |n+1,t=>match P.underlying t with
  |some .bool=>true
  |some (.int _)=>true
  |some .string=>true
  |some (.slice e)=>gP P n e&&CD P e
  |some (.struct fs)=>Dq P (P.cellsOf t) 0 fs.toList&&fs.toList.all fun f=>gP P n f.type
  |some (.array k e)=>Nat.beq (P.cellsOf t) (k*P.cellsOf e)&&gP P n e
  |_=>false
def wF (P:Program):Nat→TypeId→List D→Prop
 |0,_,_=>False
 |n+1,t,xs=>match P.underlying t with
  |some .bool=>∃ b,xs=[.bool b]
  |some (.int k)=>∃ i,xs=[.int k i]∧(Lit.int k i).wf=true
  |some .string=>∃ s,xs=[.str s]
  |some (.slice e)=>∃ ys,xs=[.Z (L6 P e) ys]∧∀ y∈ys,if P4 P e=true then ∃ cs,y = .agg cs∧wF P n e cs else wF P n e [y]
  |some (.struct fs)=>∃ parts:List (List D),xs=parts.flatten∧F2 (fun f p=>wF P n f.type p) fs.toList parts
  |some (.array k e)=>∃ parts:List (List D),xs=parts.flatten∧parts.length=k∧∀ p∈parts,wF P n e p
  |_=>False
def SA (P:Program)(n:Nat)(t:TypeId)(x:D):Prop:=if P4 P t=true then ∃ cs,x = .agg cs∧wF P n t cs else wF P n t [x]
theorem ZC (P:Program)(t:TypeId):L6 P t=P.cellsOf t:=by
 unfold L6 Program.cellsOf
 cases P.info? t<;>rfl
theorem CY (xs ys:List D):gU (xs++ys)=gU xs+gU ys:=by
 induction xs with
 |nil=>simp [gU]
 |cons x xs ih=>simp only [List.cons_append,gU,ih];omega
theorem KI {h:Nat→Option Obj}{xs ys:List D}{us vs:List Value}(h1:vW h xs us)(h2:vW h ys vs):vW h (xs++ys) (us++vs):=
 (jG h _ _).2 (((jG h _ _).1 h1).append ((jG h _ _).1 h2))
section
variable {H:Type} {enc:TypeId×Value→H} {P:Program} {W:World} {base:Nat} {sp:Nat→Bool} {held:Bool} {m:DataW H→Nat} {ma:List (DataW H)→Nat}
def Leaves (P:Program)(W:World)(n:Nat)(t:TypeId)(cs:List Value)(b:Nat):Prop:=
 ∃ xs,vW (snap W) xs cs∧wF P n t xs∧gU xs≤b∧∀ u∈cs,u.oneCell'=true
theorem mQ {α β:Type}{f:α→Option β}{x:α}{l:List α}{r:List β}(h:(x::l).mapM f=some r):∃ y ys,f x=some y∧l.mapM f=some ys∧r=y::ys:=by
 rw [List.mapM_cons] at h
 cases hx:f x with
 |none=>rw [hx] at h;cases h
 |some y=>
  rw [hx] at h
  cases hl:l.mapM f with
  |none=>rw [hl] at h;cases h
  |some ys=>rw [hl] at h;cases h;exact⟨y,ys,rfl,rfl,rfl⟩
theorem AK (M:ZX m ma){n fuel:Nat}(ih:∀ t cs d ps,DataW.trod enc P W base sp held fuel t cs=some (d,ps)→gP P n t=true→Leaves P W n t cs (m d)){cs:List Value}{total:Nat}(hlen:cs.length=total) :
  ∀ (fs:List Field) (off:Nat) (ys:List (DataW H×List MemPlace)),Dq P total off fs=true→(fs.all fun f=>gP P n f.type)=true→
   (fs.mapM fun f=>DataW.trod enc P W base sp held fuel f.type ((cs.drop f.offset).take (P.cellsOf f.type)))=some ys→
   ∃ parts:List (List D),F2 (fun f p=>wF P n f.type p) fs parts∧vW (snap W) parts.flatten (cs.drop off)∧gU parts.flatten≤ma (ys.map (·.1))∧∀ u∈cs.drop off,u.oneCell'=true
 |[],off,ys,hl,_,h=>by
  have:off=total:=beq_iff.1 hl
  subst this
  have e:cs.drop off=[]:=D4 (by omega)
  cases h
  rw [e]
  exact⟨[],.nil,rfl,by simp [gU],fun u hu=>by cases hu⟩
 |f::fs,off,ys,hl,hp,h=>by
  simp only [Dq,A9] at hl
  simp only [List.all_cons,A9] at hp
  have ho:f.offset=off:=beq_iff.1 hl.1
  obtain⟨y,ys',h1,h2,rfl⟩:=mQ h
  obtain⟨d,ps⟩:=y
  obtain⟨xs,k1,k2,k3,k4⟩:=ih _ _ _ _ h1 hp.1
  obtain⟨parts,j1,j2,j3,j4⟩:=AK M ih hlen fs (off+P.cellsOf f.type) ys' hl.2 hp.2 h2
  rw [ho] at k1 k4
  have e:cs.drop off=(cs.drop off).take (P.cellsOf f.type)++cs.drop (off+P.cellsOf f.type):=by
   rw [← List.drop_drop,List.take_append_drop]
  refine⟨xs::parts,.cons k2 j1,?_,?_,fun u hu=>?_⟩
  ·rw [e,List.flatten_cons];exact KI k1 j2
  ·rw [List.flatten_cons,CY,List.map_cons,M.cons];exact Nat.add_le_add k3 j3
  ·rw [e] at hu
   rcases D3.1 hu with hu|hu
   ·exact k4 u hu
   ·exact j4 u hu
theorem CV (M:ZX m ma){n fuel:Nat}(ih:∀ t cs d ps,DataW.trod enc P W base sp held fuel t cs=some (d,ps)→gP P n t=true→Leaves P W n t cs (m d)){cs:List Value}{e:TypeId}(he:gP P n e=true) :
  ∀ (k s:Nat) (ys:List (DataW H×List MemPlace)),cs.length=(s+k)*P.cellsOf e→
   ((List.range' s k).mapM fun i=>DataW.trod enc P W base sp held fuel e ((cs.drop (i*P.cellsOf e)).take (P.cellsOf e)))=some ys→
   ∃ parts:List (List D),parts.length=k∧(∀ p∈parts,wF P n e p)∧vW (snap W) parts.flatten (cs.drop (s*P.cellsOf e))∧gU parts.flatten≤ma (ys.map (·.1))∧∀ u∈cs.drop (s*P.cellsOf e),u.oneCell'=true
 |0,s,ys,hl,h=>by
  have e:cs.drop (s*P.cellsOf e)=[]:=D4 (by rw [hl];simp)
  cases h
  rw [e]
  refine⟨[],rfl,fun p hp=>(by cases hp),rfl,by simp [gU],fun u hu=>(by cases hu)⟩
 |k+1,s,ys,hl,h=>by
  rw [List.range'_succ] at h
  obtain⟨y,ys',h1,h2,rfl⟩:=mQ h
  obtain⟨d,ps⟩:=y
  obtain⟨xs,k1,k2,k3,k4⟩:=ih _ _ _ _ h1 he
  obtain⟨parts,j1,j2,j3,j4,j5⟩:=CV M ih he k (s+1) ys' (by rw [hl];congr 1;omega) h2
  have e:cs.drop (s*P.cellsOf e)=(cs.drop (s*P.cellsOf e)).take (P.cellsOf e)++cs.drop ((s+1)*P.cellsOf e):=by
   rw [Nat.succ_mul,← List.drop_drop,List.take_append_drop]
  refine⟨xs::parts,by simp [j1],fun p hp=>?_,?_,?_,fun u hu=>?_⟩
  ·rcases B7.1 hp with rfl|hp
   ·exact k2
   ·exact j2 p hp
  ·rw [e,List.flatten_cons];exact KI k1 j3
  ·rw [List.flatten_cons,CY,List.map_cons,M.cons];exact Nat.add_le_add k3 j4
  ·rw [e] at hu
   rcases D3.1 hu with hu|hu
   ·exact k4 u hu
   ·exact j5 u hu
theorem XZ {α β:Type}{f:α→Option β}:∀ {l:List α} {r:List β},l.mapM f=some r→∀ (j:Nat) (y:β),r[j]? = some y→∃ x,l[j]? = some x∧f x=some y
 |[],r,h,j,y,hj=>by cases h;simp at hj
 |x::l,r,h,j,y,hj=>by
  obtain⟨y0,ys,h1,h2,rfl⟩:=mQ h
  cases j with
  |zero=>simp at hj;subst hj;exact⟨x,rfl,h1⟩
  |succ j=>simpa using XZ h2 j y (by simpa using hj)
theorem RI {n:Nat}{t:TypeId}{cs:List Value}{b:Nat}(h:Leaves P W n t cs b):∃ (x:D) (v:Value),VD (snap W) x v∧SA P n t x∧CW x≤b∧v.cells.toList=cs:=by
 obtain⟨xs,h1,h2,h3,h4⟩:=h
 unfold SA
 cases n with
 |zero=>exact h2.elim
 |succ n=>
  cases hg:P4 P t with
  |true=>
   refine⟨.agg xs,.agg cs.toArray,⟨cs.toArray,rfl,by simpa using h1⟩,by rw [if_pos rfl];exact⟨xs,rfl,h2⟩,by simpa [CW] using h3,by simp [Value.cells]⟩
  |false=>
   have one:∀ x,xs=[x]→∃ (x:D) (v:Value),VD (snap W) x v∧(if false=true then ∃ cs,x = .agg cs∧wF P (n+1) t cs else wF P (n+1) t [x])∧CW x≤b∧v.cells.toList=cs:=by
    intro x hx
    subst hx
    obtain⟨u,r,rfl,k1,k2⟩:=h1
    have k2:r=[]:=k2
    subst k2
    refine⟨x,u,k1,by rw [if_neg (by simp)];exact h2,?_,?_⟩
    ·simpa [gU] using h3
    ·rw [yR (h4 u (by simp))]
   have h2':=h2
   simp only [wF] at h2'
   split at h2'
   ·obtain⟨b,rfl⟩:=h2';exact one _ rfl
   ·obtain⟨b,rfl,_⟩:=h2';exact one _ rfl
   ·obtain⟨b,rfl⟩:=h2';exact one _ rfl
   ·obtain⟨b,rfl,_⟩:=h2';exact one _ rfl
   ·rename_i e;simp [P4,e,dY] at hg
   ·rename_i e;simp [P4,e,dY] at hg
   ·exact h2'.elim
theorem EX (M:ZX m ma){n fuel:Nat}(ih:∀ t cs d ps,DataW.trod enc P W base sp held fuel t cs=some (d,ps)→gP P n t=true→Leaves P W n t cs (m d)){a:Addr}{e:TypeId}(he:gP P n e=true) :
  ∀ (k s:Nat) (ys:List (DataW H×List MemPlace)),
   ((List.range' s k).mapM fun i=>(W.cells? base (a.add (i*P.cellsOf e)) (P.cellsOf e)).bind (DataW.trod enc P W base sp held fuel e))=some ys→
   ∃ xs:List D,xs.length=k∧Aa (snap W) (P.cellsOf e) xs (a.add (s*P.cellsOf e))∧(∀ x∈xs,SA P n e x)∧gU xs≤ma (ys.map (·.1))
 |0,s,ys,h=>by cases h;exact⟨[],rfl,trivial,fun x hx=>(by cases hx),by simp [gU]⟩
 |k+1,s,ys,h=>by
  rw [List.range'_succ] at h
  obtain⟨y,ys',h1,h2,rfl⟩:=mQ h
  obtain⟨d,ps⟩:=y
  obtain⟨xs,j1,j2,j3,j4⟩:=EX M ih he k (s+1) ys' h2
  cases hc:W.cells? base (a.add (s*P.cellsOf e)) (P.cellsOf e) with
  |none=>rw [hc] at h1;cases h1
  |some cs=>
   rw [hc] at h1
   have hL:=ih _ _ _ _ h1 he
   have h4:∀ u∈cs,u.oneCell'=true:=hL.choose_spec.2.2.2
   obtain⟨x,v,k1,k2,k3,k4⟩:=RI hL
   unfold World.cells? at hc
   split at hc
   ·have hlen:cs.length=P.cellsOf e:=by
     have:=Go.mapM_some_length hc
     simpa using this
    refine⟨x::xs,by simp [j1],⟨⟨v,?_,fun j u hj=>?_,?_,k1⟩,?_⟩,fun y hy=>?_,?_⟩
    ·rw [← E2,k4,hlen]
    ·rw [← D0,k4] at hj
     obtain⟨i,hi,hcell⟩:=XZ hc j u hj
     have:i=j:=by
      have hlt:j<P.cellsOf e:=by
       rcases Nat.lt_or_ge j (P.cellsOf e) with h|h
       ·exact h
       ·rw [List.getElem?_eq_none (by simpa using h)] at hi;cases hi
      rw [List.getElem?_range hlt] at hi
      cases hi;rfl
     subst this
     exact hcell
    ·rw [k4];exact h4
    ·rw [cN]
     rw [show (s+1)*P.cellsOf e=s*P.cellsOf e+P.cellsOf e from Nat.succ_mul _ _] at j2
     exact j2
    ·rcases B7.1 hy with rfl|hy
     ·exact k2
     ·exact j3 y hy
    ·simp only [gU,List.map_cons,M.cons];exact Nat.add_le_add k3 j4
   ·cases hc
theorem JC (M:ZX m ma):∀ (fuel n:Nat) (t:TypeId) (cs:List Value) (d:DataW H) (ps:List MemPlace),DataW.trod enc P W base sp held fuel t cs=some (d,ps)→gP P n t=true→Leaves P W n t cs (m d)
 |0,n,t,cs,d,ps,h,hp=>by simp [DataW.trod] at h
 |fuel+1,0,t,cs,d,ps,h,hp=>by simp [gP] at hp
 |fuel+1,n+1,t,cs,d,ps,h,hp=>by
  have ih:=fun t cs d ps=>JC M fuel n t cs d ps
  unfold Leaves
  simp only [gP] at hp
  split at hp
  ·rename_i hu
   obtain⟨b,rfl,hz⟩:=DataW.trod_bool hu h
   refine⟨[.bool b],⟨_,_,rfl,rfl,rfl⟩,by simp only [wF,hu];exact⟨b,rfl⟩,by simpa [gU,CW] using M.one d,fun u hu=>by simp at hu;subst hu;rfl⟩
  ·rename_i k hu
   obtain⟨i,rfl,hz,hw⟩:=DataW.trod_int hu h
   exact⟨[.int _ _],⟨_,_,rfl,rfl,rfl⟩,by simp only [wF,hu];exact⟨_,rfl,hw⟩,by simpa [gU,CW] using M.one d,fun u hu=>by simp at hu;subst hu;rfl⟩
  ·rename_i hu
   obtain⟨s,rfl,hz,hw⟩:=DataW.trod_string hu h
   cases hz
   exact⟨[.str _],⟨_,_,rfl,⟨_,rfl,rfl⟩,rfl⟩,by simp only [wF,hu];exact⟨_,rfl⟩,by simp only [gU,CW];exact M.str _,fun u hu=>by simp at hu;subst hu;rfl⟩
  ·rename_i e hu
   simp only [A9] at hp
   rcases DataW.trod_slice hu h with ⟨rfl,hz⟩|⟨a,len,cap,elems,rest,n',hf,rfl,hz,hb,hl,hc,hel,hget,_,_⟩
   ·cases hz
    refine⟨[.Z (L6 P e) []],⟨_,_,rfl,⟨none,0,rfl,B9 _,by unfold maxLen;omega,.inl rfl⟩,rfl⟩,by simp only [wF,hu];exact⟨[],rfl,fun y hy=>(by cases hy)⟩,by simpa [gU,CW] using M.one _,fun u hu=>by simp at hu;subst hu;rfl⟩
   ·cases hz
    cases hf
    have hm:(List.range len).mapM (fun i=>(W.cells? base (a.add (i*P.cellsOf e)) (P.cellsOf e)).bind (DataW.trod enc P W base sp held fuel e))=some elems:=
     mapM_some_of_get _ _ (by simp [hel]) fun i x hi=>by
      obtain⟨hlt,hx⟩:=List.getElem?_eq_some_iff.1 hi
      simp at hlt hx
      subst hx
      exact hget i hlt
    rw [List.range_eq_range'] at hm
    obtain⟨xs,k1,k2,k3,k4⟩:=EX M ih hp.1 len 0 elems hm
    rw [Nat.zero_mul] at k2
    have ha0:a.add 0=a:=by simp [Addr.add]
    rw [ha0] at k2
    refine⟨[.Z (L6 P e) xs],⟨_,_,rfl,⟨some a,cap,by rw [k1],by omega,hc,.inr ⟨a,rfl,by rw [ZC];exact k2⟩⟩,rfl⟩,?_,?_,fun u hu=>by simp at hu;subst hu;rfl⟩
    ·simp only [wF,hu];exact⟨xs,rfl,k3⟩
    ·have:=M.slice (elems.map (·.1)) (rest.map (·.1))
     simp only [gU,CW]
     omega
  ·rename_i fs hu
   simp only [A9] at hp
   obtain⟨ys,n',hf,hz,hlen,hsz,hget⟩:=DataW.trod_struct hu h
   cases hf
   cases hz
   have hm:(fs.toList.mapM fun f=>DataW.trod enc P W base sp held fuel f.type ((cs.drop f.offset).take (P.cellsOf f.type)))=some ys:=
    mapM_some_of_get _ _ (by simp [hsz]) fun i x hi=>hget i x (by simpa using hi)
   obtain⟨parts,j1,j2,j3,j4⟩:=AK M ih hlen fs.toList 0 ys hp.1 hp.2 hm
   rw [List.drop_zero] at j2 j4
   exact⟨parts.flatten,j2,by simp only [wF,hu];exact⟨parts,rfl,j1⟩,Nat.le_trans j3 (M.agg _),j4⟩
  ·rename_i k e hu
   simp only [A9] at hp
   obtain⟨ys,n',hf,hz,hlen,hsz,hget⟩:=DataW.trod_array hu h
   cases hf
   cases hz
   have hm:((List.range k).mapM fun i=>DataW.trod enc P W base sp held fuel e ((cs.drop (i*P.cellsOf e)).take (P.cellsOf e)))=some ys:=
    mapM_some_of_get _ _ (by simp [hsz]) fun i x hi=>by
     obtain⟨hlt,hx⟩:=List.getElem?_eq_some_iff.1 hi
     simp at hlt hx
     subst hx
     exact hget i hlt
   rw [List.range_eq_range'] at hm
   have hsz:P.cellsOf t=k*P.cellsOf e:=beq_iff.1 hp.1
   obtain⟨parts,j1,j2,j3,j4,j5⟩:=CV M ih hp.2 k 0 ys (by rw [hlen,hsz];simp) hm
   rw [Nat.zero_mul,List.drop_zero] at j3 j5
   exact⟨parts.flatten,j3,by simp only [wF,hu];exact⟨parts,rfl,j1,j2⟩,Nat.le_trans j4 (M.agg _),j5⟩
  ·cases hp
end
end Go.AE
namespace Go.AE
open Go.ChangeShapes Go.WideShapes Go.ChangeAt Go.RowKit Go.WideElems
def qY (P:Program):Nat→List TypeId→List (Nat×SV)
 |_,[]=>[]
 |i,t::ts=>(i,.d (zW P t))::qY P (i+1) ts
def IL (P:Program)(ts:List TypeId):Sk:=⟨qY P 0 ts,[]⟩
def MR (P:Program)(t:TypeId):Bool:=gP P 8 t&&P.readableRec t&&decide (t<P.types.size)
section
variable {H:Type} {enc:TypeId×Value→H} {P:Program} {W W':World} {base:Nat} {m:DataW H→Nat} {ma:List (DataW H)→Nat}
theorem Ak {r:Reach}{t:TypeId}{v:Value}(hg:P4 P t=false)(hp:gP P 8 t=true)(hv:Value.okWide P W r base t v):v.cells=#[v]:=by
 unfold Value.okWide at hv
 unfold P4 at hg
 simp only [gP] at hp
 cases v with
 |agg cs=>
  split at hp<;>rename_i hu<;>first|(rw [hu] at hg;simp [dY] at hg;done)|(simp [hu,Cell.okWide,Cell.ok] at hv;done)|(cases hp;done)
 |_=>rfl
theorem TZ {h:Nat→Option Obj}{n:Nat}{t:TypeId}{x:D}{v:Value}(hg:P4 P t=false)(j2:SA P n t x)(j1:VD h x v)(cs:Array Value):v≠ .agg cs:=by
 rintro rfl
 unfold SA at j2
 rw [hg,if_neg (by simp)] at j2
 cases n with
 |zero=>exact j2
 |succ n=>
  simp only [wF] at j2
  split at j2
  ·obtain⟨b,e⟩:=j2;cases e;cases j1
  ·obtain⟨b,e,_⟩:=j2;cases e;cases j1
  ·obtain⟨b,e⟩:=j2;cases e;obtain⟨_,e,_⟩:=j1;cases e
  ·obtain⟨b,e,_⟩:=j2;cases e;obtain⟨_,_,e,_⟩:=j1;cases e
  ·rename_i e;simp [P4,e,dY] at hg
  ·rename_i e;simp [P4,e,dY] at hg
  ·exact j2
theorem HS (M:ZX m ma){r:Reach}{sp:Nat→Bool}{held:Bool}:∀ {ts:List TypeId} {vs:List Value} {ds:List (DataW H)} {ps:List MemPlace},DataW.TrodAll enc P W base sp held ts vs ds ps→(ts.all (MR P))=true→
  (∀ (j:Nat) (t:TypeId) (v:Value),ts[j]? = some t→vs[j]? = some v→∃ r b,Value.okWide P W r b t v)→∃ xs,F2 (VD (snap W)) xs vs∧F2 (SA P 8) ts xs∧gU xs≤ma ds
 |[],[],[],_,_,_,_=>⟨[],.nil,.nil,by simp [gU]⟩
 |t::ts,v::vs,d::ds,ps,⟨p,q,h1,h2,_⟩,hp,hv=>by
  simp only [List.all_cons,A9] at hp
  obtain⟨xs,k1,k2,k3⟩:=HS M (r:=r) h2 hp.2 fun j t v ht hv'=>hv (j+1) t v (by simpa using ht) (by simpa using hv')
  obtain⟨fuel,h1⟩:=h1
  have hpl:gP P 8 t=true:=by
   have:=hp.1
   simp only [MR,A9] at this
   exact this.1.1
  have hL:=JC M _ 8 _ _ _ _ h1 hpl
  obtain⟨x,v',j1,j2,j3,j4⟩:=RI hL
  obtain⟨r',b',hok⟩:=hv 0 t v rfl rfl
  have hvv:v'=v:=by
   cases hg:P4 P t with
   |true=>
    have:∃ cs,v = .agg cs:=by
     unfold Value.okWide at hok
     unfold P4 at hg
     split at hg
     ·rename_i d hu
      rw [hu] at hok
      cases d<;>simp [dY] at hg<;>(obtain⟨cs,h,_⟩:=hok;exact⟨cs,h⟩)
     ·cases hg
    obtain⟨cs,rfl⟩:=this
    unfold SA at j2
    rw [hg,if_pos rfl] at j2
    obtain⟨ys,rfl,_⟩:=j2
    obtain⟨us,rfl,_⟩:=j1
    congr 1
    apply Array.ext'
    exact j4
   |false=>
    have h5:=Ak hg hpl hok
    rw [h5] at j4
    have h6:∀ u∈v.cells.toList,u.oneCell'=true:=hL.choose_spec.2.2.2
    have h7:v.oneCell'=true:=h6 v (by rw [h5];simp)
    cases v' with
    |agg cs=>
     exact absurd rfl (TZ hg j2 j1 cs)
    |_=>exact (List.cons.inj j4).1
  subst hvv
  refine⟨x::xs,.cons j1 k1,.cons j2 k2,?_⟩
  simp only [gU]
  rw [M.cons]
  exact Nat.add_le_add j3 k3
 |[],_::_,_,_,h,_,_=>h.elim
 |[],[],_::_,_,h,_,_=>h.elim
 |_::_,[],_,_,h,_,_=>h.elim
 |_::_,_::_,[],_,h,_,_=>h.elim
theorem AU (hl:laidOutB P=true){sp:Nat→Bool}:∀ {ts:List TypeId} {vs:List Value} {ds:List (DataW H)} {ps:List MemPlace},DataW.TrodAll enc P W 0 (fun _=>true) true ts vs ds ps→(ts.all (MR P))=true→
  (∀ p∈ps,W.sameAt W' p)→(∀ p∈ps,sp p.block=true)→DataW.TrodAll enc P W' 0 sp true ts vs ds ps
 |[],[],[],_,h,_,_,_=>h
 |t::ts,v::vs,d::ds,ps,⟨p,q,h1,h2,e⟩,hp,hs,hsp=>by
  simp only [List.all_cons,A9] at hp
  have h0:=hp.1
  simp only [MR,A9,decide_eq_true_eq] at h0
  refine⟨p,q,Trod_stays hl h0.1.2 h0.2 h1 (fun x hx=>hs x (by rw [e];simp [hx])) (fun x hx=>hsp x (by rw [e];simp [hx])),AU hl h2 hp.2 (fun x hx=>hs x (by rw [e];simp [hx])) (fun x hx=>hsp x (by rw [e];simp [hx])),e⟩
 |[],_::_,_,_,h,_,_,_=>h.elim
 |[],[],_::_,_,h,_,_,_=>h.elim
 |_::_,[],_,_,h,_,_,_=>h.elim
 |_::_,_::_,[],_,h,_,_,_=>h.elim
theorem Bv {f:Func}{s:ChangeSpec}{apart fresh handsOn again:Bool}{args:Array Value}{v:Value}{ds gs:List (DataW H)}{before pa pv:List MemPlace}
  (hW:DataW.Whole enc P f.params.toList s.vars apart W args.toList ds gs before)
  (hres:∀ (b:Nat) (sp:Nat→Bool) (hd:Bool),DataW.TrodAll enc P W' b sp hd f.resultTypes.toList (v.resultList f.resultTypes.size) (s.fn H (ds++gs)).results [])
  (hargs:∀ sp:Nat→Bool,(∀ p∈before,sp p.block=true)→DataW.TrodAll enc P W' 0 sp true f.params.toList args.toList (s.fn H (ds++gs)).args pa)
  (hvars:∀ sp:Nat→Bool,(∀ p∈before,sp p.block=true)→DataW.TrodVars enc P W' sp s.vars (s.fn H (ds++gs)).vars pv)
  (hps:before=pa++pv) (hb:Below W.heap.size W W')
  (hok:∀ (j:Nat) (t:TypeId) (r:Value),f.resultTypes[j]? = some t→(v.resultList f.resultTypes.size)[j]? = some r→Value.okWide P W' .any 0 t r) :
  s.post enc P f apart fresh handsOn again W args v W':=by
 have hlt:∀ p∈before,p.block<W.heap.size:=fun p hp=>hW.lt p hp
 have hold:∀ p∈before,(fun b=>decide (b<W.heap.size)) p.block=true:=fun p hp=>by simpa using hlt p hp
 refine⟨ds,gs,before,[],pa,pv,hW,hres _ _ _,hargs _ hold,hvars _ hold,World.keptBut_mono (fun p hp=>⟨hp,?_⟩) (hb.frame (·∈before)),fun _=>?_⟩
 ·rw [hps,D3] at hp
  exact Or.inr hp
 ·obtain⟨_,_,_,_,_,hz,hn⟩:=hW
  refine⟨hok,_,_,([]++pa)++pv,⟨[]++pa,pv,trodAll_append (hargs _ (fun _ _=>rfl)) (hres _ _ _),hvars _ (fun _ _=>rfl),rfl,?_,?_⟩,?_⟩
  ·intro b off hp
   have hin:MemPlace.cell b off∈before:=by rw [hps];simpa using hp
   rw [hb.frozen (hlt _ hin)]
   exact hz b off hin
  ·intro ha
   have:=hn ha
   rw [hps] at this
   simpa using this
  ·intro p hp _
   rw [hps]
   simpa using hp
theorem DW:∀ (ts:List TypeId) (i:Nat),(qY P i ts).length=ts.length
 |[],_=>rfl
 |t::ts,i=>by simp [qY,DW ts (i+1)]
theorem DV {g:G}{q:Nat→Prop}:∀ {ts:List TypeId} {i j:Nat} {xs pre:List D} {vs prev:List Value},F2 (VD g.h) xs vs→ts.length=xs.length→pre.length=j→prev.length=i→
  ∀ t,VV g ((V9 E0 (pre++xs) (qY P i ts) j).1 t) ((prev++vs).getD t undef)∧((V9 E0 (pre++xs) (qY P i ts) j).1 t).T0 q
 |[],i,j,xs,pre,vs,prev,_,_,_,_,t=>⟨trivial,trivial⟩
 |ty::ts,i,j,[],pre,vs,prev,_,hl,_,_,t=>by simp at hl
 |ty::ts,i,j,x::xs,pre,_,prev,.cons (b:=v) (bs:=vs) h1 h2,hl,hp,hq,t=>by
  have ih:=DV (q:=q) (ts:=ts) (i:=i+1) (j:=j+1) (pre:=pre++[x]) (prev:=prev++[v]) h2 (by simpa using hl) (by simp [hp]) (by simp [hq]) t
  simp only [C1,List.singleton_append] at ih
  simp only [qY,V9,gI,aM]
  have hn:Y (pre++x::xs) j=x:=by rw [← hp];exact NB pre x xs
  by_cases e:t=i
  ·subst e
   rw [beq_iff.2 rfl,cond_true,hn]
   refine⟨?_,trivial⟩
   have:(prev++v::vs).getD t undef=v:=by
    rw [← hq];simp
   rw [this]
   exact h1
  ·rw [beq_false e,cond_false]
   exact ih
theorem Gr {c:oA}(hn:fP c)(horc:∀ f sk ds r,c.CK f sk ds=some r→fO c f sk ds r){f:Nat}{fn:Func}(hf:c.P.funcs[f]? = some fn){tb:TypeId}(hres:fn.resultTypes=#[tb])(hb:c.P.underlying tb=some .bool)
  (hd:c.dres f 0=0) (hgok:c.FD (snap W)) (hl:laidOutB c.P=true) (hpl:fn.params.toList.all (MR c.P)=true) {B:Nat}
  (hrun:∀ xs,F2 (SA c.P 8) fn.params.toList xs→gU xs≤B→∃ n,run c n (.call f (IL c.P fn.params.toList) xs)=some (true,[.bool true]))
  (M:ZX m ma) {args:Array Value} {ds gs:List (DataW H)} {before:List MemPlace} {s:ChangeSpec} {apart fresh handsOn again:Bool}
  (hval:∀ (j:Nat) t v,fn.params[j]? = some t→args[j]? = some v→Value.okWide c.P W .any base t v) (hvars:s.vars=[]) (hW:DataW.Whole enc c.P fn.params.toList s.vars apart W args.toList ds gs before) (hB:ma (ds++gs)≤B)
  (hs:gs=[]→s.fn H (ds++gs)={ results:=[.lit (.bool true)],args:=ds }) :
  Calls c.P f args W fun e W'=>∃ v,e = .returned v∧s.post enc c.P fn apart fresh handsOn again W args v W':=by
 have hW0:=hW
 obtain⟨p,q,hA,hV,hpq,hz,hnd⟩:=hW
 rw [hvars] at hV
 obtain⟨rfl,rfl⟩:=trodVars_none hV
 have hs:=hs rfl
 simp only [D5] at hs hB hpq
 subst hpq
 obtain⟨xs,k1,k2,k3⟩:=HS M (r:= .any) hA hpl fun j t v ht hv=>⟨.any,base,hval j t v (by simpa using ht) (by simpa using hv)⟩
 obtain⟨n,hrun⟩:=hrun xs k2 (Nat.le_trans k3 hB)
 have hspec:=((HE hn horc n).1 f _ _ _ hrun).1 fn hf (fun _=>none) ⟨snap W,fun _=>0,fun _=>undef⟩ hgok args W
 have hlen:fn.params.toList.length=xs.length:=k2.length
 have hlen2:xs.length=args.toList.length:=k1.length
 have hinj:(M4 E0 (IL c.P fn.params.toList) xs).h=fun _=>none:=rfl
 refine (hspec ?_ ?_ ?_).mono ?_
 ·simp only [IL,DW]
  rw [hlen,hlen2];simp
 ·refine⟨fun b x h=>h,fun b x h=>(by cases h),fun o x h=>?_,fun o x b h=>?_,fun o o' x x' b h=>?_,fun o x h=>?_,fun b=> .inr rfl⟩
  all_goals (rw [hinj] at h;cases h)
 ·intro t
  have:=DV (P:=c.P) (g:=⟨snap W,fun _=>0,fun _=>undef⟩) (q:=(·<(IL c.P fn.params.toList).objs.length)) (ts:=fn.params.toList) (i:=0) (j:=0) (pre:=[]) (prev:=[]) k1 hlen rfl rfl t
  simp only [List.nil_append] at this
  have e:args.getD t undef=args.toList.getD t undef:=by simp [D2,List.getD_eq_getElem?_getD]
  rw [e]
  exact this
 ·rintro e W' ⟨v,he,g',tm',h1,h2,h3,h4,h5⟩
  refine⟨v,he,?_⟩
  have hbel:Below W.heap.size W W':=by
   refine⟨h3.os,h3.tape,h3.output,h3.size,fun k hk=>?_⟩
   have hk':W.heap[k]? = some W.heap[k]:=C8 hk
   rw [h1.frz k _ (h3.h k _ hk'),hk']
  have hel:iK c.P tb=none:=by simp [iK,hb]
  have hosk:(cF c.P (c.dres f) fn.resultTypes.toList (IL c.P fn.params.toList))=⟨[(0,.d (.leaf .bool))],[]⟩:=by
   have:zW c.P tb = .leaf .bool:=by simp [zW,P4,hb,dY,eX]
   simp only [hres,cF,GY,hd,hel,IL,xT,this]
   rfl
  rw [hosk] at h5 h2
  have hv:v = .bool true:=by
   rw [h5]
   have:=(h2 0).1
   exact this
  subst hv
  have htrod:∀ sp:Nat→Bool,(∀ x∈before,sp x.block=true)→DataW.TrodAll enc c.P W' 0 sp true fn.params.toList args.toList ds before:=fun sp hsp=>
   AU hl hA hpl (fun x hx=>?_) hsp
  ·refine Bv (pa:=before) (pv:=[]) hW0 (fun b sp hd=>?_) (fun sp hsp=>?_) (fun sp hsp=>?_) (by simp) hbel ?_
   ·rw [hres]
    simp only [D5]
    rw [hs]
    exact trodAll_mk1 (shut_bool hb _)
   ·simp only [D5]
    rw [hs]
    exact htrod sp hsp
   ·simp only [D5]
    rw [hs,hvars]
    exact rfl
   ·exact ok_one hres rfl (okWide_bool_mk hb _)
  ·have hlt:=hW0.lt x hx
   cases x with
   |cell b off=>
    have:=hbel.block b hlt
    simp only [World.sameAt,World.cell?,this]
   |map b=>exact hbel.block b hlt
end
section
variable {P:Program} {n:Nat} {t e:TypeId} {x:D} {xs:List D}
theorem IJ (h:P.underlying t=some .bool∨(∃ k,P.underlying t=some (.int k))∨P.underlying t=some .string∨∃ e,P.underlying t=some (.slice e)):P4 P t=false:=by
 rcases h with h|⟨k,h⟩|h|⟨e,h⟩<;>simp [P4,h,dY]
theorem ZS (hg:P4 P t=false)(h:SA P n t x):wF P n t [x]:=by
 unfold SA at h
 rwa [hg,if_neg (by simp)] at h
theorem Fc {k:IntKind}(ht:P.underlying t=some (.int k))(h:SA P (n+1) t x):∃ i,x = .int k i∧(Lit.int k i).wf=true:=by
 have:=ZS (IJ (.inr (.inl ⟨k,ht⟩))) h
 simp only [wF,ht] at this
 obtain⟨b,e,hw⟩:=this
 cases e;exact⟨b,rfl,hw⟩
theorem Il (ht:P.underlying t=some (.slice e))(h:SA P (n+1) t x):∃ ys,x = .Z (L6 P e) ys∧∀ y∈ys,SA P n e y:=by
 have:=ZS (IJ (.inr (.inr (.inr ⟨e,ht⟩)))) h
 simp only [wF,ht] at this
 obtain⟨ys,e,hw⟩:=this
 cases e;exact⟨ys,rfl,hw⟩
theorem OK {fs:Array Field}(ht:P.underlying t=some (.struct fs))(h:SA P (n+1) t x):∃ parts:List (List D),x = .agg parts.flatten∧F2 (fun f p=>wF P n f.type p) fs.toList parts:=by
 unfold SA at h
 rw [if_pos (by simp [P4,ht,dY])] at h
 obtain⟨cs,rfl,h⟩:=h
 simp only [wF,ht] at h
 obtain⟨parts,rfl,h⟩:=h
 exact⟨parts,rfl,h⟩
theorem wf_u8 {i:Int}(h:(Lit.int .u8 i).wf=true):0≤i∧i≤255:=by
 simpa [Lit.wf,IntKind.min,IntKind.max,IntKind.signed,IntKind.bits] using h
end
end Go.AE
namespace Go.AE
def U (t:Nat→Out)(P:Bool×List D→Prop):Prop:=∃ r,P r∧∃ N,∀ n,N≤n→t n=some r
theorem U.mono {t:Nat→Out}{P Q:Bool×List D→Prop}(h:U t P)(hp:∀ r,P r→Q r):U t Q:=
 ⟨h.choose,hp _ h.choose_spec.1,h.choose_spec.2⟩
theorem U.ret {P:Bool×List D→Prop}{b:Bool}{ds:List D}(h:P (b,ds)):U (fun _=>some (b,ds)) P:=⟨_,h,0,fun _ _=>rfl⟩
theorem U.eq {t u:Nat→Out}{P:Bool×List D→Prop}(he:∀ n,t (n+1)=u n)(h:U u P):U t P:=by
 obtain⟨r,h1,N,h2⟩:=h
 refine⟨r,h1,N+1,fun n hn=>?_⟩
 obtain⟨k,rfl⟩:∃ k,n=k+1:=⟨n-1,by omega⟩
 rw [he];exact h2 k (by omega)
theorem U.H3 {t:Nat→Out}{k:List D→Nat→Out}{P Q:Bool×List D→Prop}(h:U t Q)(hq:∀ b ds,Q (b,ds)→b=true∧U (k ds) P):U (fun n=>AE.H3 (t n) fun ds=>k ds n) P:=by
 obtain⟨⟨b,ds⟩,h1,N,h2⟩:=h
 obtain⟨rfl,r,h3,M,h4⟩:=hq b ds h1
 refine⟨r,h3,N+M,fun n hn=>?_⟩
 simp only [h2 n (by omega),AE.H3]
 exact h4 n (by omega)
theorem U.J2 {t:Nat→Out}{k:List D→Nat→Out}{P Q:Bool×List D→Prop}(h:U t Q)(hr:∀ ds,Q (true,ds)→P (true,ds))(hq:∀ ds,Q (false,ds)→U (k ds) P):U (fun n=>AE.J2 (t n) fun ds=>k ds n) P:=by
 obtain⟨⟨b,ds⟩,h1,N,h2⟩:=h
 cases b with
 |true=>exact⟨(true,ds),hr _ h1,N,fun n hn=>by simp only [h2 n hn,AE.J2]⟩
 |false=>
  obtain⟨r,h3,M,h4⟩:=hq ds h1
  refine⟨r,h3,N+M,fun n hn=>?_⟩
  simp only [h2 n (by omega),AE.J2]
  exact h4 n (by omega)
theorem U.P7 {c:Bool}{x y:Nat→Out}{P:Bool×List D→Prop}(ht:c=true→U x P)(hf:c=false→U y P):U (fun n=>bif c then x n else y n) P:=by
 cases c with
 |true=>exact ht rfl
 |false=>exact hf rfl
theorem U.H5 {c:Bool}{x y:Nat→Out}{P:Bool×List D→Prop}(hc:c=true)(h:U x P):U (fun n=>bif c then x n else y n) P:=by subst hc;exact h
theorem U.no {c:Bool}{x y:Nat→Out}{P:Bool×List D→Prop}(hc:c=false)(h:U y P):U (fun n=>bif c then x n else y n) P:=by subst hc;exact h
theorem U.run {t:Nat→Out}{P:Bool×List D→Prop}(h:U t P):∃ r,P r∧∃ n,t n=some r:=by
 obtain⟨r,h1,N,h2⟩:=h
 exact⟨r,h1,N,h2 N (B9 _)⟩
mutual
theorem D.TC:∀ x:D,D.eq x x=true
 | .top=>rfl
 | .bool _=>by simp [D.eq]
 | .int _ _=>by simp [D.eq]
 | .str _=>by simp [D.eq]
 | .Z _ xs=>by simp [D.eq,D.xC xs]
 | .nils _ _=>by simp [D.eq]
 | .und=>rfl
 | .agg xs=>by simp [D.eq,D.xC xs]
 | .fn _=>by simp [D.eq]
 | .nilp=>rfl
 | .nilf=>rfl
 | .nilm=>rfl
 | .nili=>rfl
 | .ub=>rfl
 | .iface _ x=>by simp [D.eq,D.TC x]
 | .meth _ _ x=>by simp [D.eq,D.TC x]
theorem D.xC:∀ xs:List D,D.eqs xs xs=true
 |[]=>rfl
 |x::xs=>by simp [D.eqs,D.TC x,D.xC xs]
end
theorem U.agree {t u:Nat→Out}{r:Bool×List D}{P:Bool×List D→Prop}(h:U t fun x=>x=r)(h':U u fun x=>x=r)(hP:P r):U (fun n=>AE.agree (t n) (u n)) P:=by
 obtain⟨_,rfl,N,h2⟩:=h
 obtain⟨_,rfl,N',h2'⟩:=h'
 refine⟨_,hP,N+N',fun n hn=>?_⟩
 simp only [h2 n (by omega),h2' n (by omega),AE.agree,D.xC,E8,Bool.and_self,cond_true]
theorem KM {r:Bool×List D}:∀ {l:List Out},l≠[]→(∀ x∈l,x=some r)→BC l=some r
 |[],h,_=>absurd rfl h
 |[x],_,h=>h x (B8 ..)
 |x::y::l,_,h=>by
  show AE.agree x (BC (y::l))=some r
  rw [KM (l:=y::l) (by simp) (fun z hz=>h z (C0 _ hz)),h x (B8 ..)]
  simp only [AE.agree,D.xC,E8,Bool.and_self,cond_true]
theorem U.pick {l:List Nat}{a:Nat→Out}{f:Nat→Nat→Out}{P:Bool×List D→Prop}(r:Bool×List D)(ha:l=[]→U a P)(hf:∀ j∈l,U (fun n=>f n j) fun x=>x=r)(hP:l≠[]→P r):U (fun n=>Ed l (a n) (f n)) P:=by
 cases l with
 |nil=>exact ha rfl
 |cons i is=>
  have all:∀ l:List Nat,(∀ j∈l,U (fun n=>f n j) fun x=>x=r)→∃ N,∀ n,N≤n→∀ j∈l,f n j=some r:=by
   intro l
   induction l with
   |nil=>exact fun _=>⟨0,fun n _ j hj=>absurd hj (List.not_mem_nil)⟩
   |cons k ks ih=>
    intro h
    obtain⟨N,h1⟩:=ih fun j hj=>h j (C0 _ hj)
    obtain⟨_,rfl,N',h2⟩:=h k (B8 ..)
    refine⟨N+N',fun n hn j hj=>?_⟩
    rcases B7.1 hj with rfl|hj
    ·exact h2 n (by omega)
    ·exact h1 n (by omega) j hj
  obtain⟨N,hN⟩:=all (i::is) hf
  refine⟨r,hP (by simp),N,fun n hn=>?_⟩
  show BC ((i::is).map (f n))=some r
  refine KM (by simp) fun x hx=>?_
  obtain⟨j,hj,rfl⟩:=List.mem_map.1 hx
  exact hN n hn j hj
theorem U.same {t:Nat→Out}{P Q:Bool×List D→Prop}(h:U t P)(h':U t Q):U t fun r=>P r∧Q r:=by
 obtain⟨r,h1,N,h2⟩:=h
 obtain⟨r',h1',N',h2'⟩:=h'
 have:r=r':=by
  have a:=h2 (N+N') (by omega)
  have b:=h2' (N+N') (by omega)
  rw [a] at b;exact Option.some.inj b
 subst this
 exact⟨r,⟨h1,h1'⟩,N,h2⟩
end Go.AE
namespace Go.AE
def NF:List (Nat×(Sk→List D→Option (List D)))→Nat→Sk→List D→Option (List D)
 |[],_,_,_=>none
 |(a,x)::r,f,sk,ds=>bif Nat.beq f a then x sk ds else NF r f sk ds
def Ba (x:Int):List Int→List Int
 |[]=>[x]
 |y::r=>bif decide (y<x) then y::Ba x r else x::y::r
def dJ:List Int→List Int
 |[]=>[]
 |x::r=>Ba x (dJ r)
def uI:List D→Option (List Int)
 |[]=>some []
 | .int .i64 n::r=>match uI r with|some l=>some (n::l)|none=>none
 |_=>none
def EL:Sk→List D→Option (List D)
 |⟨[(0,.row 0)],[.row _ 1 1]⟩,[.Z 1 xs]=>match uI xs with|some l=>bif Nat.ble l.length J5 then some [.Z 1 ((dJ l).map (D.int .i64))] else none|none=>none
 |_,_=>none
def U5:List Int→List Int
 |[]=>[]
 |x::r=>match r with
  |[]=>[x]
  |y::_=>bif x==y then U5 r else x::U5 r
def sL (e0:Nat):Sk→List D→Option (List D)
 |⟨[(0,.row 0)],[.row e 1 2]⟩,[.Z 1 xs]=>match uI xs with|some l=>bif Nat.beq e e0 then some [.Z 1 ((U5 l).map (D.int .i64))] else none|none=>none
 |_,_=>none
def cH (sub:F9):F9→Nat→Int
 |[],j=>bif sub.isEmpty then (j:Int) else -1
 |b::l,j=>bif sub.isPrefixOf (b::l) then (j:Int) else cH sub l (j+1)
def kI (s t:F9):F9×F9×Bool:=match cH t s 0 with
 | .ofNat i=>(s.take i,s.drop (i+t.length),true)
 | .negSucc _=>(s,[],false)
def UU:Sk→List D→Option (List D)
 |⟨[(0,.d (.leaf .str)),(1,.d (.leaf .str))],[]⟩,[.str s,.str t]=>bif Nat.ble s.length 4294967280 then some [.str (kI s t).1,.str (kI s t).2.1,.bool (kI s t).2.2] else none
 |_,_=>none
def Ao:Nat→Nat→F9→F9
 |0,_,acc=>acc
 |k+1,u,acc=>bif Nat.ble u 9 then UInt8.ofNat (48+u)::acc else Ao k (u / 10) (UInt8.ofNat (48+u % 10)::acc)
def Ku (n:Int):F9:=match n with
 | .ofNat u=>Ao 20 u []
 | .negSucc u=>45::Ao 20 (u+1) []
end Go.AE
namespace Go.AE
open Go.RowKit Go.Sort Go.Proofs
section
variable {c:oA} {f:Nat}
def Iy (c:oA)(f:Nat)(x:Sk→List D→Option (List D)):Prop:=∀ sk ds r,x sk ds=some r→fO c f sk ds r
theorem IU {c:oA}:∀ (l:List (Nat×(Sk→List D→Option (List D)))),(∀ p∈l,Iy c p.1 p.2)→∀ f sk ds r,NF l f sk ds=some r→fO c f sk ds r
 |[],_,_,_,_,_,h=>by cases h
 |(a,x)::l,hl,f,sk,ds,r,h=>by
  simp only [NF] at h
  by_cases e:f=a
  ·subst e
   rw [beq_iff.2 rfl,cond_true] at h
   exact hl (f,x) (by simp) sk ds r h
  ·rw [beq_false e,cond_false] at h
   exact IU l (fun p hp=>hl p (by simp [hp])) f sk ds r h
end
end Go.AE
namespace Go.AE
open Go.RowKit Go.Sort Go.Proofs
theorem Oz {h:Nat→Option Obj}{n:Int}{v:Value}(hv:VD h (.int .i64 n) v):v=Value.int .i64 n:=hv
theorem Oy (h:Nat→Option Obj)(n:Int):VD h (.int .i64 n) (Value.int .i64 n):=rfl
theorem QF (n:Int):(Value.int .i64 n).cells=#[Value.int .i64 n]:=rfl
theorem BJ {h:Nat→Option Obj}:∀ {xs:List D} {l:List Int} {us:List Value},uI xs=some l→mY h 1 xs us→us=l.map (Value.int .i64)∧xs=l.map (D.int .i64)
 |[],l,us,h1,h2=>by
  cases h1
  exact⟨h2,rfl⟩
 |x::xs,l,us,h1,h2=>by
  unfold uI at h1
  split at h1
  ·cases ‹_=[]›
  ·rename_i n r he
   cases he
   split at h1
   ·rename_i l' hl'
    cases h1
    obtain⟨v,r,rfl,_,_,hv,hr⟩:=h2
    obtain⟨e1,e2⟩:=BJ hl' hr
    have hv:=Oz hv
    subst hv
    exact⟨by simp [e1,QF],by simp [e2]⟩
   ·cases h1
  ·cases h1
theorem KG (h:Nat→Option Obj):∀ l:List Int,mY h 1 (l.map (D.int .i64)) (l.map (Value.int .i64))
 |[]=>rfl
 |s::l=>⟨Value.int .i64 s,l.map (Value.int .i64),rfl,rfl,fun u hu=>(by simp [QF] at hu;subst hu;rfl),Oy h s,KG h l⟩
theorem xW (d:Array Int)(c:Array Value):(putCells (Value.int .i64) 0 d c).size=c.size:=by simp [putCells]
theorem xX (l:List Int)(c:Array Value)(h:l.length≤c.size):(putCells (Value.int .i64) 0 l.toArray c).toList.take l.length=l.map (Value.int .i64):=by
 apply List.ext_getElem?
 intro k
 simp only [putCells,List.getElem?_take,D0,Array.getElem?_mapIdx,List.getElem?_map]
 split
 ·rename_i hk
  have hc:k<c.size:=by omega
  rw [C8 hc,C2 hk]
  simp [hk]
 ·rename_i hk
  rw [List.getElem?_eq_none (by omega)];rfl
theorem ER {w:World}{b:Nat}{cur:Array Value}{e:TypeId}(d:Array Int)(n:Nat)(os:Array Obj)(hb:w.heap[b]? = some (.cells cur e (0,0))) :
  (grow (putRow (Value.int .i64) (Sort.ahead w n) b 0 d) os).heap[b]? = some (.cells (putCells (Value.int .i64) 0 d cur) e (0,0))∧∀ k,k<w.heap.size→k≠b→(grow (putRow (Value.int .i64) (Sort.ahead w n) b 0 d) os).heap[k]? = w.heap[k]?:=by
 have hlt:=iZ hb
 constructor
 ·show ((w.heap.modify b (onCells _))++os)[b]? = _
  rw [Array.getElem?_append_left (by simpa using hlt),Array.getElem?_modify,if_pos rfl,hb]
  rfl
 ·intro k hk hne
  show ((w.heap.modify b (onCells _))++os)[k]? = _
  rw [Array.getElem?_append_left (by simpa using hk),Array.getElem?_modify,if_neg (Ne.symm hne)]
theorem GI (x:Int):∀ l,(Ba x l).Perm (x::l)
 |[]=> .refl _
 |y::r=>by
  simp only [Ba]
  cases decide (y<x) with
  |true=>exact ((GI x r).cons y).trans (List.Perm.swap x y r)
  |false=>exact .refl _
theorem nZ:∀ l,(dJ l).Perm l
 |[]=> .refl _
 |x::r=>(GI x (dJ r)).trans ((nZ r).cons x)
theorem QU {x:Int}:∀ {l:List Int},l.Pairwise (fun a b=>a≤b)→(Ba x l).Pairwise (fun a b=>a≤b)
 |[],_=>by simp [Ba]
 |y::r,h=>by
  rw [List.pairwise_cons] at h
  simp only [Ba]
  by_cases hb:y<x
  ·rw [E4 hb,cond_true,List.pairwise_cons]
   refine⟨fun z hz=>?_,QU h.2⟩
   rcases B7.1 ((GI x r).mem_iff.1 hz) with rfl|hz
   ·omega
   ·exact h.1 z hz
  ·rw [E6 hb,cond_false,List.pairwise_cons]
   refine⟨fun z hz=>?_,List.pairwise_cons.2 h⟩
   rcases B7.1 hz with rfl|hz
   ·omega
   ·have:=h.1 z hz;omega
theorem CC:∀ l,(dJ l).Pairwise (fun a b=>a≤b)
 |[]=> .nil
 |_::r=>QU (CC r)
theorem YX (l:List Int):l.mergeSort (fun x y=>decide (x≤y))=dJ l:=by
 refine List.Perm.eq_of_pairwise (le:=fun a b=>a≤b) (fun a b _ _ h1 h2=>Int.le_antisymm h1 h2) ?_ (CC l) ((List.mergeSort_perm l _).trans (nZ l).symm)
 have:=List.pairwise_mergeSort (le:=fun (x y:Int)=>decide (x≤y)) (fun a b c h1 h2=>by simp only [decide_eq_true_eq] at *;omega) (fun a b=>by simp only [Bool.or_eq_true,decide_eq_true_eq];omega) l
 exact this.imp fun h=>E5 h
theorem nL (y z:Int)(l:List Int):U5 (y::z::l)=if y=z then U5 (z::l) else y::U5 (z::l):=by
 by_cases e:y=z
 ·subst e;rw [if_pos rfl];conv=>lhs;unfold U5
  simp
 ·have:(y==z)=false:=by simpa using e
  rw [if_neg e];conv=>lhs;unfold U5
  simp [this]
theorem KZ (x:Int):∀ l:List Int,U5 (l++[x])=U5 l++if l.getLast? = some x then [] else [x]
 |[]=>by simp [U5]
 |[y]=>by
  rw [List.singleton_append,nL]
  by_cases e:y=x
  ·subst e;simp [U5]
  ·simp [U5,e]
 |y::z::l=>by
  have ih:=KZ x (z::l)
  have e:(y::z::l)++[x]=y::z::(l++[x]):=rfl
  have e':(z::l)++[x]=z::(l++[x]):=rfl
  rw [e,nL,nL,← e',ih,List.getLast?_cons_cons]
  split<;>rfl
theorem WX (zs:List Int):Lib.compact zs=U5 zs:=by
 have key:∀ m,m≤zs.length→Lib.compactUpTo zs.toArray m=U5 (zs.take m):=by
  intro m
  induction m with
  |zero=>intro _;rfl
  |succ m ih=>
   intro hm
   have hlt:m<zs.length:=by omega
   rw [Lib.compactUpTo_succ,ih (by omega),List.take_succ_eq_append_getElem hlt,KZ]
   congr 1
   have e1:zs.toArray[m]! = zs[m]:=by rw [getElem!_pos zs.toArray m (by simpa using hlt)];simp
   rw [e1]
   unfold Lib.keeps
   cases m with
   |zero=>simp
   |succ k=>
    have e2:zs.toArray[k+1-1]! = zs[k]:=by rw [getElem!_pos zs.toArray (k+1-1) (by simp;omega)];simp
    have e3:(zs.take (k+1)).getLast? = some zs[k]:=by
     rw [List.take_succ_eq_append_getElem (by omega),List.getLast?_append];simp
    rw [e1,e2,e3]
    by_cases h:zs[k+1]=zs[k]
    ·simp [h]
    ·have h':zs[k]≠zs[k+1]:=fun e=>h e.symm
     simp [h,h']
 have:=key zs.length (B9 _)
 rw [List.take_length] at this
 exact this
theorem QH:∀ l:List Int,(U5 l).length≤l.length
 |[]=>by simp [U5]
 |[y]=>by simp [U5]
 |y::z::l=>by
  have:=QH (z::l)
  rw [nL]
  split
  ·simp only [A0] at this ⊢;omega
  ·simp only [A0] at this ⊢;omega
section
variable {c:oA} {f:Nat}
theorem PC
  (h1:∀ (blk off cap:Nat) (ss:List Int) (w:World),Holds (Value.int .i64) w blk off ss.toArray→blk<w.heap.size→ss.length<4611686018427387904→
   Calls c.P f #[.slice (some ⟨blk,off,none⟩) ss.length cap] w fun e w'=>e = .returned (.tuple #[])∧∃ n os,w'=grow (putRow (Value.int .i64) (Sort.ahead w n) blk off (ss.mergeSort fun x y=>decide (x≤y)).toArray) os)
  (h0:∀ (p:Option Addr) (cap:Nat) (w:World),Calls c.P f #[.slice p 0 cap] w fun e w'=>e = .returned (.tuple #[])∧w'=w) (hr:∀ fn,c.P.funcs[f]? = some fn→fn.resultTypes=#[]) :
  ∀ sk ds r,EL sk ds=some r→fO c f sk ds r:=by
 intro sk ds r h fn hf u g _ args w hsz S ht
 unfold EL at h
 split at h
 ·rename_i e xs
  split at h
  ·rename_i l hl
   replace h:=H8 h
   obtain⟨hmax,h⟩:=h
   have hmax:l.length≤68719476736:=B3 hmax
   cases h
   have hres:=hr fn hf
   obtain⟨us,_,hown,hF⟩:=S.ob 0 (.row e 1 xs false) rfl
   obtain⟨eu,ex⟩:=BJ hl hF
   have hlen:xs.length=l.length:=by rw [ex];simp
   have ha:args=#[g.hdr 0]:=by
    have h2:=(ht 0).1
    have h3:args.getD 0 undef=g.hdr 0:=h2.1
    have h4:args.size=1:=hsz
    apply Array.ext
    ·simpa using h4
    ·intro i hi1 hi2
     have:i=0:=by omega
     subst this
     rw [D2,C8 hi1] at h3
     simpa using h3
   have hosk:cF c.P (c.dres f) fn.resultTypes.toList ⟨[(0,.row 0)],[.row e 1 1]⟩=⟨[],[.row e 1 1]⟩:=by rw [hres];rfl
   have fin:∀ w',(∀ k,k<w.heap.size→some k≠(g.hdr 0).ownBlock→w'.heap[k]? = w.heap[k]?)→w'.os=w.os→w'.tape=w.tape→w'.output=w.output→w.heap.size≤w'.heap.size→
     w'.ownsRow 0 e 1 (g.hdr 0) l.length ((dJ l).map (Value.int .i64))→
     ∃ v,Ending.returned (.tuple #[]) = .returned v∧∃ g' tm',P3 u (·<(cF c.P (c.dres f) fn.resultTypes.toList ⟨[(0,.row 0)],[.row e 1 1]⟩).objs.length) g' (M4 E0 (cF c.P (c.dres f) fn.resultTypes.toList ⟨[(0,.row 0)],[.row e 1 1]⟩) [.Z 1 ((dJ l).map (D.int .i64))]).h w'∧
      (∀ t,VV g' ((M4 E0 (cF c.P (c.dres f) fn.resultTypes.toList ⟨[(0,.row 0)],[.row e 1 1]⟩) [.Z 1 ((dJ l).map (D.int .i64))]).t t) (tm' t)∧((M4 E0 (cF c.P (c.dres f) fn.resultTypes.toList ⟨[(0,.row 0)],[.row e 1 1]⟩) [.Z 1 ((dJ l).map (D.int .i64))]).t t).T0 (·<(cF c.P (c.dres f) fn.resultTypes.toList ⟨[(0,.row 0)],[.row e 1 1]⟩).objs.length))∧
      Ext g w g' w'∧(∀ l' o,O4 (aG 0 [.row e 1 1]) l'=some o→g'.blk l'=g.blk l'∧g'.hdr l'=g.hdr l')∧v=uT (cF c.P (c.dres f) fn.resultTypes.toList ⟨[(0,.row 0)],[.row e 1 1]⟩).slots tm':=by
    intro w' k1 k2 k3 k4 k5 k6
    rw [hosk]
    have hs:(dJ l).length=l.length:=(nZ l).length_eq
    have hn:∀ b,(g.hdr 0).ownBlock=some b→g.h b=none∧u b=none:=fun b hb=>S.sep 0 (.row e 1 xs false) b rfl hb
    have hkeep:∀ k x,(g.h k=some x∨u k=some x)→w.heap[k]? = some x→w'.heap[k]? = some x:=fun k x hx hk=>by
     rw [k1 k (iZ hk) ?_];exact hk
     intro e'
     obtain⟨a1,a2⟩:=hn k e'.symm
     rcases hx with hx|hx
     ·rw [a1] at hx;cases hx
     ·rw [a2] at hx;cases hx
    have only:∀ o x,(M4 E0 ⟨[],[.row e 1 1]⟩ [.Z 1 ((dJ l).map (D.int .i64))]).h o=some x→o=0∧x = .row e 1 ((dJ l).map (D.int .i64)) false:=by
     intro o x hx
     cases o with
     |zero=>cases hx;exact⟨rfl,rfl⟩
     |succ o=>cases hx
    refine⟨.tuple #[],rfl,g,fun _=>undef,⟨fun b x hx=>hkeep b x (.inl hx) (S.frz b x hx),fun b x hx=>hkeep b x (.inr hx) (S.unt b x hx),fun o x hx=>?_,fun o x b hx hb=>?_,fun o o' x x' b hx hx' _ _=>?_,fun o x hx=>?_,S.dj⟩,fun t=>⟨trivial,trivial⟩,⟨fun _ _ h=>h,k2,k3,k4,k5⟩,fun _ _ _=>⟨rfl,rfl⟩,rfl⟩
    ·obtain⟨rfl,rfl⟩:=only o x hx
     refine⟨(dJ l).map (Value.int .i64),Nat.one_pos,?_,KG _ _⟩
     have e1:((dJ l).map (D.int .i64)).length=l.length:=by simp [hs]
     rw [e1];exact k6
    ·obtain⟨rfl,rfl⟩:=only o x hx
     exact hn b hb
    ·rw [(only o x hx).1,(only o' x' hx').1]
    ·obtain⟨rfl,rfl⟩:=only o x hx
     exact⟨Nat.one_pos,trivial⟩
   rw [ha]
   rcases S4 hown with ⟨k1,k2,k3⟩|⟨b,cap,cur,k1,k2,k3,k4,k5,k6,k7⟩
   ·have hl0:l=[]:=D1 (by rw [← hlen];exact k2)
    subst hl0
    rw [k1]
    refine (h0 none 0 w).mono ?_
    rintro e' w' ⟨rfl,rfl⟩
    refine fin w' (fun _ _ _=>rfl) rfl rfl rfl (B9 _) ?_
    rw [k1]
    exact World.ownsRow_nil w' 0 e 1
   ·rw [k1,hlen]
    rw [hlen] at k3 k6 k7
    rw [Nat.mul_one] at k5 k6 k7
    have hH:Holds (Value.int .i64) w b 0 l.toArray:=by
     intro j hj
     have hj:j<l.length:=by simpa using hj
     constructor
     ·rw [C5,cell_of_row w b j cur e (0,0) k2]
      have:(cur.toList.take l.length)[j]? = (us)[j]?:=by rw [k6]
      rw [List.getElem?_take,if_pos hj,D0,eu,List.getElem?_map,C2 hj] at this
      rw [this]
      simp [hj]
     ·simp [World.frozen?,k2]
    refine (h1 b 0 cap l w hH (iZ k2) (by omega)).mono ?_
    rintro e' w' ⟨rfl,n,os,rfl⟩
    rw [YX]
    have hs:(dJ l).length=l.length:=(nZ l).length_eq
    obtain⟨j1,j2⟩:=ER (dJ l).toArray n os k2
    refine fin _ (fun k hk hne=>j2 k hk (fun e'=>hne (by rw [e',k1];rfl))) rfl rfl rfl ?_ ?_
    ·show w.heap.size≤((w.heap.modify b _)++os).size
     simp
    ·rw [k1]
     refine⟨by simp [hs],.inr ⟨b,cap,_,by rw [hlen],C4 _,j1,k3,k4,by rw [xW,k5,Nat.mul_one],?_⟩⟩
     rw [Nat.mul_one,← hs]
     exact xX (dJ l) cur (by rw [hs,k5];exact k3)
  ·cases h
 ·cases h
theorem GX {e0:TypeId}
  (h1:∀ (blk off cap:Nat) (zs:List Int) (w:World),Holds (Value.int .i64) w blk off zs.toArray→zs.length≤9223372036854775807→zs.length≤cap→
   Calls c.P f #[.slice (some ⟨blk,off,none⟩) zs.length cap] w fun e w'=>e = .returned (.slice (some ⟨blk,off,none⟩) (Lib.compact zs).length cap)∧
    ∃ q,w'=putRow (Value.int .i64) (Sort.ahead w q) blk off (Lib.compact zs++List.replicate (zs.length-(Lib.compact zs).length) 0).toArray)
  (h0:∀ (p:Option Addr) (cap:Nat) (w:World),Calls c.P f #[.slice p 0 cap] w fun e w'=>e = .returned (.slice p 0 cap)∧w'=w)
  (hr:∀ fn,c.P.funcs[f]? = some fn→∃ t,fn.resultTypes=#[t]∧iK c.P t=some e0) (hs:L6 c.P e0=1) (hd:c.dres f 0=0) :
  ∀ sk ds r,sL e0 sk ds=some r→fO c f sk ds r:=by
 intro sk ds r h fn hf u g _ args w hsz S ht
 unfold sL at h
 split at h
 ·rename_i e xs
  split at h
  ·rename_i l hl
   replace h:=H8 h
   obtain⟨hb,h⟩:=h
   have hb:e=e0:=beq_iff.1 hb
   cases h
   subst hb
   obtain⟨t,hres,hel⟩:=hr fn hf
   obtain⟨us,_,hown,hF⟩:=S.ob 0 (.row e 1 xs false) rfl
   obtain⟨eu,ex⟩:=BJ hl hF
   have hlen:xs.length=l.length:=by rw [ex];simp
   have ha:args=#[g.hdr 0]:=by
    have h2:=(ht 0).1
    have h3:args.getD 0 undef=g.hdr 0:=h2.1
    have h4:args.size=1:=hsz
    apply Array.ext
    ·simpa using h4
    ·intro i hi1 hi2
     have:i=0:=by omega
     subst this
     rw [D2,C8 hi1] at h3
     simpa using h3
   have hosk:cF c.P (c.dres f) fn.resultTypes.toList ⟨[(0,.row 0)],[.row e 1 2]⟩=⟨[(0,.row 1)],[.gone,.row e 1 0]⟩:=by
    simp only [hres,cF,GY,hd,hel]
    show (⟨[(0,.row 1)],[.gone,.row e (L6 c.P e) 0]⟩:Sk)=_
    rw [hs]
   have fin:∀ w' nv,(∀ k,k<w.heap.size→some k≠(g.hdr 0).ownBlock→w'.heap[k]? = w.heap[k]?)→w'.os=w.os→w'.tape=w.tape→w'.output=w.output→w.heap.size≤w'.heap.size→
     w'.ownsRow 0 e 1 nv (U5 l).length ((U5 l).map (Value.int .i64))→nv.ownBlock=(g.hdr 0).ownBlock→nv.oneCell'=true→
     ∃ v,Ending.returned nv = .returned v∧∃ g' tm',P3 u (·<(cF c.P (c.dres f) fn.resultTypes.toList ⟨[(0,.row 0)],[.row e 1 2]⟩).objs.length) g' (M4 E0 (cF c.P (c.dres f) fn.resultTypes.toList ⟨[(0,.row 0)],[.row e 1 2]⟩) [.Z 1 ((U5 l).map (D.int .i64))]).h w'∧
      (∀ t,VV g' ((M4 E0 (cF c.P (c.dres f) fn.resultTypes.toList ⟨[(0,.row 0)],[.row e 1 2]⟩) [.Z 1 ((U5 l).map (D.int .i64))]).t t) (tm' t)∧((M4 E0 (cF c.P (c.dres f) fn.resultTypes.toList ⟨[(0,.row 0)],[.row e 1 2]⟩) [.Z 1 ((U5 l).map (D.int .i64))]).t t).T0 (·<(cF c.P (c.dres f) fn.resultTypes.toList ⟨[(0,.row 0)],[.row e 1 2]⟩).objs.length))∧
      Ext g w g' w'∧(∀ l' o,O4 (aG 0 [.row e 1 2]) l'=some o→g'.blk l'=g.blk l'∧g'.hdr l'=g.hdr l')∧v=uT (cF c.P (c.dres f) fn.resultTypes.toList ⟨[(0,.row 0)],[.row e 1 2]⟩).slots tm':=by
    intro w' nv k1 k2 k3 k4 k5 k6 k7 k8
    rw [hosk]
    have hn:∀ b,(g.hdr 0).ownBlock=some b→g.h b=none∧u b=none:=fun b hb=>S.sep 0 (.row e 1 xs false) b rfl hb
    have hkeep:∀ k x,(g.h k=some x∨u k=some x)→w.heap[k]? = some x→w'.heap[k]? = some x:=fun k x hx hk=>by
     rw [k1 k (iZ hk) ?_];exact hk
     intro e'
     obtain⟨a1,a2⟩:=hn k e'.symm
     rcases hx with hx|hx
     ·rw [a1] at hx;cases hx
     ·rw [a2] at hx;cases hx
    have only:∀ o x,(M4 E0 ⟨[(0,.row 1)],[.gone,.row e 1 0]⟩ [.Z 1 ((U5 l).map (D.int .i64))]).h o=some x→o=1∧x = .row e 1 ((U5 l).map (D.int .i64)) false:=by
     intro o x hx
     match o,hx with
     |0,hx=>cases hx
     |1,hx=>cases hx;exact⟨rfl,rfl⟩
     |(o+2),hx=>cases hx
    refine⟨nv,rfl,⟨g.h,g.blk,fun x=>if x=1 then nv else g.hdr x⟩,fun _=>nv,⟨fun b x hx=>hkeep b x (.inl hx) (S.frz b x hx),fun b x hx=>hkeep b x (.inr hx) (S.unt b x hx),fun o x hx=>?_,fun o x b hx hb=>?_,fun o o' x x' b hx hx' _ _=>?_,fun o x hx=>?_,S.dj⟩,fun t=>?_,⟨fun _ _ h=>h,k2,k3,k4,k5⟩,fun l' o hlo=>(by cases hlo),rfl⟩
    ·obtain⟨rfl,rfl⟩:=only o x hx
     refine⟨(U5 l).map (Value.int .i64),Nat.one_pos,?_,KG _ _⟩
     have e1:((U5 l).map (D.int .i64)).length=(U5 l).length:=by simp
     rw [e1];exact k6
    ·obtain⟨rfl,rfl⟩:=only o x hx
     have hb:nv.ownBlock=some b:=hb
     rw [k7] at hb
     exact hn b hb
    ·rw [(only o x hx).1,(only o' x' hx').1]
    ·obtain⟨rfl,rfl⟩:=only o x hx
     exact⟨(by decide:1<2),trivial⟩
    ·cases t with
     |zero=>exact⟨⟨rfl,k8⟩,(by decide:1<2)⟩
     |succ t=>exact⟨trivial,trivial⟩
   rw [ha]
   have hlc:=QH l
   rcases S4 hown with ⟨k1,k2,k3⟩|⟨b,cap,cur,k1,k2,k3,k4,k5,k6,k7⟩
   ·have hl0:l=[]:=D1 (by rw [← hlen];exact k2)
    subst hl0
    rw [k1]
    refine (h0 none 0 w).mono ?_
    rintro e' w' ⟨rfl,rfl⟩
    refine fin w' _ (fun _ _ _=>rfl) rfl rfl rfl (B9 _) ?_ (by rw [k1]) rfl
    exact World.ownsRow_nil w' 0 e 1
   ·rw [k1,hlen]
    rw [hlen] at k3 k6 k7
    rw [Nat.mul_one] at k5 k6 k7
    have hH:Holds (Value.int .i64) w b 0 l.toArray:=by
     intro j hj
     have hj:j<l.length:=by simpa using hj
     constructor
     ·rw [C5,cell_of_row w b j cur e (0,0) k2]
      have:(cur.toList.take l.length)[j]? = (us)[j]?:=by rw [k6]
      rw [List.getElem?_take,if_pos hj,D0,eu,List.getElem?_map,C2 hj] at this
      rw [this]
      simp [hj]
     ·simp [World.frozen?,k2]
    refine (h1 b 0 cap l w hH (by simp only [maxLen] at k4;omega) k3).mono ?_
    rintro e' w' ⟨rfl,n,rfl⟩
    rw [WX]
    obtain⟨j1,j2⟩:=ER (U5 l++List.replicate (l.length-(U5 l).length) 0).toArray n #[] k2
    rw [grow_empty] at j1 j2
    have hlen2:(U5 l++List.replicate (l.length-(U5 l).length) 0).length=l.length:=by simp;omega
    refine fin _ _ (fun k hk hne=>j2 k hk (fun e'=>hne (by rw [e',k1];rfl))) rfl rfl rfl ?_ ?_ (by rw [k1];rfl) rfl
    ·show w.heap.size≤(w.heap.modify b _).size
     simp
    ·refine⟨by simp,.inr ⟨b,cap,_,rfl,C4 _,j1,by omega,k4,by rw [xW,k5,Nat.mul_one],?_⟩⟩
     have:=xX (U5 l++List.replicate (l.length-(U5 l).length) 0) cur (by rw [hlen2,k5];exact k3)
     rw [hlen2] at this
     have e9:∀ zs:List Value,zs.take (U5 l).length=(zs.take l.length).take (U5 l).length:=fun zs=>by rw [List.take_take,Nat.min_eq_left hlc]
     rw [Nat.mul_one,e9,this]
     simp
  ·cases h
 ·cases h
end
end Go.AE
namespace Go.AE
open Go.RowKit
section
variable {c:oA} {f:Nat}
theorem Hs {sk:Sk}{ds out:List D}{slots:List (Nat×SV)}(ho:sk.objs=[])(hosk:∀ fn,c.P.funcs[f]? = some fn→cF c.P (c.dres f) fn.resultTypes.toList sk=⟨slots,[]⟩)
  (h:∀ (g:G) (args:Array Value) (w:World),c.FD g.h→(∀ b x,g.h b=some x→w.heap[b]? = some x)→(∀ t,VV g ((M4 E0 sk ds).t t) (args.getD t undef))→args.size=sk.slots.length→
   Calls c.P f args w fun e w'=>∃ v,e = .returned v∧Below w.heap.size w w'∧∃ tm',v=uT slots tm'∧∀ t,VV g ((M4 E0 ⟨slots,[]⟩ out).t t) (tm' t)∧((M4 E0 ⟨slots,[]⟩ out).t t).T0 (·<0)):fO c f sk ds out:=by
 intro fn hf u g hg args w hsz S ht
 rw [hosk fn hf]
 refine (h g args w hg S.frz (fun t=>(ht t).1) hsz).mono ?_
 rintro e w' ⟨v,he,hb,tm',hv,htm⟩
 have hnone:∀ o x,(M4 E0 ⟨slots,[]⟩ out).h o=some x→False:=fun o x hx=>by cases hx
 refine⟨v,he,g,tm',⟨fun b x hx=>?_,fun b x hx=>?_,fun o x hx=>(hnone o x hx).elim,fun o x b hx=>(hnone o x hx).elim,fun o o' x x' b hx=>(hnone o x hx).elim,fun o x hx=>(hnone o x hx).elim,S.dj⟩,htm,⟨fun _ _ h=>h,hb.os,hb.tape,hb.output,hb.size⟩,fun l o hl=>?_,hv⟩
 ·have:=S.frz b x hx
  rw [hb.block b (iZ this)];exact this
 ·have:=S.unt b x hx
  rw [hb.block b (iZ this)];exact this
 ·rw [ho] at hl;cases hl
theorem Es {h:Nat→Option Obj}{s:F9}{v:Value}(hv:VD h (.str s) v):∃ b:ByteArray,v = .string b∧b.data.toList=s:=hv
theorem Je {a b:Value}{args:Array Value}(h0:args.getD 0 undef=a)(h1:args.getD 1 undef=b)(hs:args.size=2):args=#[a,b]:=by
 apply Array.ext
 ·simpa using hs
 ·intro i hi1 hi2
  have:i=0∨i=1:=by omega
  rcases this with rfl|rfl
  ·rw [D2,C8 hi1] at h0;simpa using h0
  ·rw [D2,C8 hi1] at h1;simpa using h1
theorem QT (sub:F9):∀ (s:F9) (j:Nat),cH sub s j=if Lib.index s sub = -1 then -1 else (j:Int)+Lib.index s sub
 |[],j=>by
  unfold cH Lib.index
  cases sub.isEmpty<;>simp
 |b::l,j=>by
  have ih:=QT sub l (j+1)
  have hge:=Lib.index_ge l sub
  unfold cH Lib.index
  cases hp:sub.isPrefixOf (b::l) with
  |true=>simp
  |false=>
   simp only [cond_false,ih]
   by_cases h:Lib.index l sub = -1
   ·simp [h]
   ·have h2:¬ Lib.index l sub+1 = -1:=by omega
    simp [h,h2];omega
theorem TQ (s sub:F9):cH sub s 0=Lib.index s sub:=by
 rw [QT]
 split
 ·rename_i h;rw [h]
 ·simp
theorem FP (s t:F9):kI s t=Lib.cut s t:=by
 unfold kI Lib.cut
 rw [TQ]
 cases Lib.index s t with
 |ofNat i=>simp
 |negSucc i=>simp
theorem XP {gv:Nat}{h h':Nat→Option Obj}(hh:∀ b x,h b=some x→h' b=some x)(k:KF gv h):KF gv h':=by
 obtain⟨m,e⟩:=k
 exact⟨m,IA hh e⟩
theorem XO {gv:Nat}{h:Nat→Option Obj}{w:World}(hf:∀ b x,h b=some x→w.heap[b]? = some x)(k:KF gv h):∃ m:Int,w.cell? ⟨gv,0,none⟩=some (.int .i64 m):=by
 obtain⟨m,e⟩:=k
 exact⟨m,qP hf e⟩
theorem Nc {g:G}{s t:F9}{args:Array Value}(ht:∀ i,VV g ((M4 E0 ⟨[(0,.d (.leaf .str)),(1,.d (.leaf .str))],[]⟩ [.str s,.str t]).t i) (args.getD i undef))(hs:args.size=2) :
  ∃ a b:ByteArray,args=#[.string a,.string b]∧a.data.toList=s∧b.data.toList=t:=by
 obtain⟨a,h1,h2⟩:=Es (show VD g.h (.str s) _ from ht 0)
 obtain⟨b,h3,h4⟩:=Es (show VD g.h (.str t) _ from ht 1)
 exact⟨a,b,Je h1 h3 hs,h2,h4⟩
theorem YM {gv:Nat}(hgok:∀ h,c.FD h→KF gv h)
  (h1:∀ (s sep:ByteArray) (m:Int) (w:World),s.size<4294967281→w.cell? ⟨gv,0,none⟩=some (.int .i64 m)→Calls c.P f #[.string s,.string sep] w fun e w'=>
   e = .returned (.tuple #[.string ⟨(Lib.cut s.data.toList sep.data.toList).1.toArray⟩,.string ⟨(Lib.cut s.data.toList sep.data.toList).2.1.toArray⟩,.bool (Lib.cut s.data.toList sep.data.toList).2.2])∧∃ n,w'=w.drewN n)
  (hr:∀ fn,c.P.funcs[f]? = some fn→cF c.P (c.dres f) fn.resultTypes.toList ⟨[(0,.d (.leaf .str)),(1,.d (.leaf .str))],[]⟩=⟨[(0,.d (.leaf .str)),(1,.d (.leaf .str)),(2,.d (.leaf .bool))],[]⟩):Iy c f UU:=by
 intro sk ds r h
 unfold UU at h
 split at h
 ·rename_i s t
  replace h:=H8 h
  obtain⟨hl,h⟩:=h
  have hl:s.length≤4294967280:=B3 hl
  cases h
  refine Hs rfl hr fun g args w hg hfr ht hs=>?_
  obtain⟨a,b,rfl,ha,hb⟩:=Nc ht hs
  obtain⟨m,hm⟩:=XO hfr (hgok _ hg)
  have hsz:a.size<4294967281:=by
   have:a.size=s.length:=by rw [← ha];simp
   omega
  refine (h1 a b m w hsz hm).mono ?_
  rintro e w' ⟨rfl,n,rfl⟩
  rw [ha,hb]
  refine⟨_,rfl,⟨rfl,rfl,rfl,B9 _,fun _ _=>rfl⟩,fun i=>match i with|0=> .string ⟨(Lib.cut s t).1.toArray⟩|1=> .string ⟨(Lib.cut s t).2.1.toArray⟩|2=> .bool (Lib.cut s t).2.2|_=>undef,rfl,fun i=>?_⟩
  match i with
  |0=>exact⟨⟨_,rfl,by rw [FP]⟩,trivial⟩
  |1=>exact⟨⟨_,rfl,by rw [FP]⟩,trivial⟩
  |2=>
   refine⟨?_,trivial⟩
   show Value.bool _=Value.bool _
   rw [FP]
  |(i+3)=>exact⟨trivial,trivial⟩
 ·cases h
end
end Go.AE
namespace Go.AE
theorem N8 {x:Int}(h1 : -9223372036854775808≤x)(h2:x≤9223372036854775807):IntKind.i64.wrap x=x:=IntWalk.i64_in x ⟨h1,h2⟩
theorem Ay {P:D→Prop}{xs:List D}(h:∀ x∈xs,P x){v:Int}(h0:0≤v)(h1:v<xs.length):P (xs[v.toNat]?.getD D.top):=by
 have:v.toNat<xs.length:=by omega
 rw [C2 this]
 exact h _ (C6 this)
def Bytes (b:List D):Prop:=∀ y∈b,∃ i:Int,y = .int .u8 i∧0≤i∧i≤255
theorem N7 {a b:Bool}(ha:a=true)(hb:b=true):(a&&b)=true:=by rw [ha,hb];rfl
theorem J9 {j:Nat}(h:j<4611686018427387904):IntKind.i64.wrap ((j:Int)+1)=((j+1:Nat):Int):=by
 rw [N8 (by omega) (by omega)];omega
theorem W7 {xs:List D}{j:Nat}(h:j<xs.length):xs[((j:Nat):Int).toNat]?.getD D.top=xs[j]:=by
 rw [E1,C2 h];rfl
theorem drop_cons {α:Type}{xs:List α}{j:Nat}(h:j<xs.length):xs.drop j=xs[j]::xs.drop (j+1):=List.drop_eq_getElem_cons h
theorem J8 {j m:Nat}(h:j<m):(decide ((0:Int)≤(j:Int))&&decide ((j:Int)<(m:Int)))=true:=N7 (E4 (by omega)) (E4 (by omega))
end Go.AE
