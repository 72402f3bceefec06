import Derived.Test.YtpmjplpnpnmlcaaGreatDoorEng3
import Derived.Lib.Split
import Derived.Sort.Walk0
import Derived.Sort.EncStr
import Derived.Sort.Grow
import Derived.Lib.SlicesCompact
import Derived.Lib.IndexMore
import Derived.Lib.Join
import Derived.Lib.SplitLaws
import Derived.Below
import Derived.Lib.ItoaNum
import Derived.Lib.LaidTab
import Derived.IntWalk
import Derived.Deep.Upon
set_option linter.all false
namespace Go.AE
def U (t:Nat→Out)(P:Bool×List D→Prop):Prop:=∃ r,P r∧∃ N,∀ n,N≤n→t n=some r
theorem U.mono {t:Nat→Out}{P Q:Bool×List D→Prop}(h:U t P)(hp:∀ r,P r→Q r):U t Q:=
 ⟨h.choose,hp _ h.choose_spec.1,h.choose_spec.2⟩
theorem U.ret {P:Bool×List D→Prop}{b:Bool}{ds:List D}(h:P (b,ds)):U (fun _=>some (b,ds)) P:=⟨_,h,0,fun _ _=>rfl⟩
theorem U.eq {t u:Nat→Out}{P:Bool×List D→Prop}(he:∀ n,t (n+1)=u n)(h:U u P):U t P:=by
 obtain⟨r,h1,N,h2⟩:=h
 refine⟨r,h1,N+1,fun n hn=>?_⟩
 obtain⟨k,rfl⟩:∃ k,n=k+1:=⟨n-1,by omega⟩
 rw [he];exact h2 k (by omega)
theorem U.bT {t:Nat→Out}{k:List D→Nat→Out}{P Q:Bool×List D→Prop}(h:U t Q)(hq:∀ b ds,Q (b,ds)→b=true∧U (k ds) P):U (fun n=>AE.bT (t n) fun ds=>k ds n) P:=by
 obtain⟨⟨b,ds⟩,h1,N,h2⟩:=h
 obtain⟨rfl,r,h3,M,h4⟩:=hq b ds h1
 refine⟨r,h3,N+M,fun n hn=>?_⟩
 simp only [h2 n (by omega),AE.bT]
 exact h4 n (by omega)
theorem U.cX {t:Nat→Out}{k:List D→Nat→Out}{P Q:Bool×List D→Prop}(h:U t Q)(hr:∀ ds,Q (true,ds)→P (true,ds))(hq:∀ ds,Q (false,ds)→U (k ds) P):U (fun n=>AE.cX (t n) fun ds=>k ds n) P:=by
 obtain⟨⟨b,ds⟩,h1,N,h2⟩:=h
 cases b with
 |true=>exact⟨(true,ds),hr _ h1,N,fun n hn=>by simp only [h2 n hn,AE.cX]⟩
 |false=>
  obtain⟨r,h3,M,h4⟩:=hq ds h1
  refine⟨r,h3,N+M,fun n hn=>?_⟩
  simp only [h2 n (by omega),AE.cX]
  exact h4 n (by omega)
theorem U.Xt {c:Bool}{x y:Nat→Out}{P:Bool×List D→Prop}(ht:c=true→U x P)(hf:c=false→U y P):U (fun n=>bif c then x n else y n) P:=by
 cases c with
 |true=>exact ht rfl
 |false=>exact hf rfl
theorem U.ZJ {c:Bool}{x y:Nat→Out}{P:Bool×List D→Prop}(hc:c=true)(h:U x P):U (fun n=>bif c then x n else y n) P:=by subst hc;exact h
theorem U.no {c:Bool}{x y:Nat→Out}{P:Bool×List D→Prop}(hc:c=false)(h:U y P):U (fun n=>bif c then x n else y n) P:=by subst hc;exact h
theorem U.run {t:Nat→Out}{P:Bool×List D→Prop}(h:U t P):∃ r,P r∧∃ n,t n=some r:=by
 obtain⟨r,h1,N,h2⟩:=h
 exact⟨r,h1,N,h2 N (B9 _)⟩
mutual
theorem D.vI:∀ x:D,D.eq x x=true
 | .top=>rfl
 | .bool _=>by simp [D.eq]
 | .int _ _=>by simp [D.eq]
 | .str _=>by simp [D.eq]
 | .Z _ xs=>by simp [D.eq,D.hO xs]
 | .nils _ _=>by simp [D.eq]
 | .und=>rfl
 | .agg xs=>by simp [D.eq,D.hO xs]
 | .fn _=>by simp [D.eq]
 | .nilp=>rfl
 | .nilf=>rfl
 | .nilm=>rfl
 | .nili=>rfl
 | .ub=>rfl
 | .iface _ x=>by simp [D.eq,D.vI x]
 | .meth _ _ x=>by simp [D.eq,D.vI x]
theorem D.hO:∀ xs:List D,D.eqs xs xs=true
 |[]=>rfl
 |x::xs=>by simp [D.eqs,D.vI x,D.hO xs]
end
theorem U.agree {t u:Nat→Out}{r:Bool×List D}{P:Bool×List D→Prop}(h:U t fun x=>x=r)(h':U u fun x=>x=r)(hP:P r):U (fun n=>AE.agree (t n) (u n)) P:=by
 obtain⟨_,rfl,N,h2⟩:=h
 obtain⟨_,rfl,N',h2'⟩:=h'
 refine⟨_,hP,N+N',fun n hn=>?_⟩
 simp only [h2 n (by omega),h2' n (by omega),AE.agree,D.hO,F3,Bool.and_self,cond_true]
theorem wK {r:Bool×List D}:∀ {l:List Out},l≠[]→(∀ x∈l,x=some r)→nL l=some r
 |[],h,_=>absurd rfl h
 |[x],_,h=>h x (B8 ..)
 |x::y::l,_,h=>by
  show AE.agree x (nL (y::l))=some r
  rw [wK (l:=y::l) (by simp) (fun z hz=>h z (C0 _ hz)),h x (B8 ..)]
  simp only [AE.agree,D.hO,F3,Bool.and_self,cond_true]
theorem U.pick {l:List Nat}{a:Nat→Out}{f:Nat→Nat→Out}{P:Bool×List D→Prop}(r:Bool×List D)(ha:l=[]→U a P)(hf:∀ j∈l,U (fun n=>f n j) fun x=>x=r)(hP:l≠[]→P r):U (fun n=>PT l (a n) (f n)) P:=by
 cases l with
 |nil=>exact ha rfl
 |cons i is=>
  have all:∀ l:List Nat,(∀ j∈l,U (fun n=>f n j) fun x=>x=r)→∃ N,∀ n,N≤n→∀ j∈l,f n j=some r:=by
   intro l
   induction l with
   |nil=>exact fun _=>⟨0,fun n _ j hj=>absurd hj (List.not_mem_nil)⟩
   |cons k ks ih=>
    intro h
    obtain⟨N,h1⟩:=ih fun j hj=>h j (C0 _ hj)
    obtain⟨_,rfl,N',h2⟩:=h k (B8 ..)
    refine⟨N+N',fun n hn j hj=>?_⟩
    rcases B7.1 hj with rfl|hj
    ·exact h2 n (by omega)
    ·exact h1 n (by omega) j hj
  obtain⟨N,hN⟩:=all (i::is) hf
  refine⟨r,hP (by simp),N,fun n hn=>?_⟩
  show nL ((i::is).map (f n))=some r
  refine wK (by simp) fun x hx=>?_
  obtain⟨j,hj,rfl⟩:=List.mem_map.1 hx
  exact hN n hn j hj
theorem U.same {t:Nat→Out}{P Q:Bool×List D→Prop}(h:U t P)(h':U t Q):U t fun r=>P r∧Q r:=by
 obtain⟨r,h1,N,h2⟩:=h
 obtain⟨r',h1',N',h2'⟩:=h'
 have:r=r':=by
  have a:=h2 (N+N') (by omega)
  have b:=h2' (N+N') (by omega)
  rw [a] at b;exact Option.some.inj b
 subst this
 exact⟨r,⟨h1,h1'⟩,N,h2⟩
end Go.AE
namespace Go.AE
def GJ:List (Nat×(Sk→List D→Option (List D)))→Nat→Sk→List D→Option (List D)
 |[],_,_,_=>none
 |(a,x)::r,f,sk,ds=>bif Nat.beq f a then x sk ds else GJ r f sk ds
def gM (sub:G0):G0→Nat→Int
 |[],j=>bif sub.isEmpty then (j:Int) else -1
 |b::l,j=>bif sub.isPrefixOf (b::l) then (j:Int) else gM sub l (j+1)
def aQ:Sk→List D→Option (List D)
 |⟨[(0,.d (.leaf .str)),(1,.d (.leaf .str))],[]⟩,[.str s,.str t]=>bif Nat.ble s.length 4294967280 then some [.bool (decide (0≤gM t s 0))] else none
 |_,_=>none
def Z4 (s t:G0):G0×G0×Bool:=match gM t s 0 with
 | .ofNat i=>(s.take i,s.drop (i+t.length),true)
 | .negSucc _=>(s,[],false)
def sU:Sk→List D→Option (List D)
 |⟨[(0,.d (.leaf .str)),(1,.d (.leaf .str))],[]⟩,[.str s,.str t]=>bif Nat.ble s.length 4294967280 then some [.str (Z4 s t).1,.str (Z4 s t).2.1,.bool (Z4 s t).2.2] else none
 |_,_=>none
def xH:Nat→Nat→G0→G0
 |0,_,acc=>acc
 |k+1,u,acc=>bif Nat.ble u 9 then UInt8.ofNat (48+u)::acc else xH k (u / 10) (UInt8.ofNat (48+u % 10)::acc)
def hU (n:Int):G0:=match n with
 | .ofNat u=>xH 20 u []
 | .negSucc u=>45::xH 20 (u+1) []
def mF:Sk→List D→Option (List D)
 |⟨[(0,.d (.leaf (.int .i64)))],[]⟩,[.int .i64 n]=>bif decide (-9223372036854775808≤n)&&decide (n≤9223372036854775807) then some [.str (hU n)] else none
 |_,_=>none
end Go.AE
namespace Go.AE
open Go.RowKit Go.Sort Go.Proofs
section
variable {c:Z6} {f:Nat}
def DU (c:Z6)(f:Nat)(x:Sk→List D→Option (List D)):Prop:=∀ sk ds r,x sk ds=some r→cU c f sk ds r
theorem uN {c:Z6}:∀ (l:List (Nat×(Sk→List D→Option (List D)))),(∀ p∈l,DU c p.1 p.2)→∀ f sk ds r,GJ l f sk ds=some r→cU c f sk ds r
 |[],_,_,_,_,_,h=>by cases h
 |(a,x)::l,hl,f,sk,ds,r,h=>by
  simp only [GJ] at h
  by_cases e:f=a
  ·subst e
   rw [beq_iff.2 rfl,cond_true] at h
   exact hl (f,x) (by simp) sk ds r h
  ·rw [beq_false e,cond_false] at h
   exact uN l (fun p hp=>hl p (by simp [hp])) f sk ds r h
end
end Go.AE
namespace Go.AE
open Go.RowKit
section
variable {c:Z6} {f:Nat}
theorem tA {sk:Sk}{ds out:List D}{slots:List (Nat×SV)}(ho:sk.objs=[])(hosk:∀ fn,c.P.funcs[f]? = some fn→V5 c.P (c.dres f) fn.resultTypes.toList sk=⟨slots,[]⟩)
  (h:∀ (g:G) (args:Array Value) (w:World),c.qH g.h→(∀ b x,g.h b=some x→w.heap[b]? = some x)→(∀ t,VV g ((J6 E0 sk ds).t t) (args.getD t undef))→args.size=sk.slots.length→
   Calls c.P f args w fun e w'=>∃ v,e = .returned v∧Below w.heap.size w w'∧∃ tm',v=oK slots tm'∧∀ t,VV g ((J6 E0 ⟨slots,[]⟩ out).t t) (tm' t)∧((J6 E0 ⟨slots,[]⟩ out).t t).K5 (·<0)):cU c f sk ds out:=by
 intro fn hf u g hg args w hsz S ht
 rw [hosk fn hf]
 refine (h g args w hg S.frz (fun t=>(ht t).1) hsz).mono ?_
 rintro e w' ⟨v,he,hb,tm',hv,htm⟩
 have hnone:∀ o x,(J6 E0 ⟨slots,[]⟩ out).h o=some x→False:=fun o x hx=>by cases hx
 refine⟨v,he,g,tm',⟨fun b x hx=>?_,fun b x hx=>?_,fun o x hx=>(hnone o x hx).elim,fun o x b hx=>(hnone o x hx).elim,fun o o' x x' b hx=>(hnone o x hx).elim,fun o x hx=>(hnone o x hx).elim,S.dj⟩,htm,⟨fun _ _ h=>h,hb.os,hb.tape,hb.output,hb.size⟩,fun l o hl=>?_,hv⟩
 ·have:=S.frz b x hx
  rw [hb.block b (Z8 this)];exact this
 ·have:=S.unt b x hx
  rw [hb.block b (Z8 this)];exact this
 ·rw [ho] at hl;cases hl
theorem QL {h:Nat→Option Obj}{s:G0}{v:Value}(hv:VD h (.str s) v):∃ b:ByteArray,v = .string b∧b.data.toList=s:=hv
theorem TU {a b:Value}{args:Array Value}(h0:args.getD 0 undef=a)(h1:args.getD 1 undef=b)(hs:args.size=2):args=#[a,b]:=by
 apply Array.ext
 ·simpa using hs
 ·intro i hi1 hi2
  have:i=0∨i=1:=by omega
  rcases this with rfl|rfl
  ·rw [D4,C8 hi1] at h0;simpa using h0
  ·rw [D4,C8 hi1] at h1;simpa using h1
theorem CE (sub:G0):∀ (s:G0) (j:Nat),gM sub s j=if Lib.index s sub = -1 then -1 else (j:Int)+Lib.index s sub
 |[],j=>by
  unfold gM Lib.index
  cases sub.isEmpty<;>simp
 |b::l,j=>by
  have ih:=CE sub l (j+1)
  have hge:=Lib.index_ge l sub
  unfold gM Lib.index
  cases hp:sub.isPrefixOf (b::l) with
  |true=>simp
  |false=>
   simp only [cond_false,ih]
   by_cases h:Lib.index l sub = -1
   ·simp [h]
   ·have h2:¬ Lib.index l sub+1 = -1:=by omega
    simp [h,h2];omega
theorem qJ (s sub:G0):gM sub s 0=Lib.index s sub:=by
 rw [CE]
 split
 ·rename_i h;rw [h]
 ·simp
theorem rV (s t:G0):Z4 s t=Lib.cut s t:=by
 unfold Z4 Lib.cut
 rw [qJ]
 cases Lib.index s t with
 |ofNat i=>simp
 |negSucc i=>simp
theorem IP {gv:Nat}{h h':Nat→Option Obj}(hh:∀ b x,h b=some x→h' b=some x)(k:rM gv h):rM gv h':=by
 obtain⟨m,e⟩:=k
 exact⟨m,tW hh e⟩
theorem uB {gv:Nat}{h:Nat→Option Obj}{w:World}(hf:∀ b x,h b=some x→w.heap[b]? = some x)(k:rM gv h):∃ m:Int,w.cell? ⟨gv,0,none⟩=some (.int .i64 m):=by
 obtain⟨m,e⟩:=k
 exact⟨m,eY hf e⟩
theorem KE {g:G}{s t:G0}{args:Array Value}(ht:∀ i,VV g ((J6 E0 ⟨[(0,.d (.leaf .str)),(1,.d (.leaf .str))],[]⟩ [.str s,.str t]).t i) (args.getD i undef))(hs:args.size=2) :
  ∃ a b:ByteArray,args=#[.string a,.string b]∧a.data.toList=s∧b.data.toList=t:=by
 obtain⟨a,h1,h2⟩:=QL (show VD g.h (.str s) _ from ht 0)
 obtain⟨b,h3,h4⟩:=QL (show VD g.h (.str t) _ from ht 1)
 exact⟨a,b,TU h1 h3 hs,h2,h4⟩
theorem sT {gv:Nat}(hgok:∀ h,c.qH h→rM gv h)
  (h1:∀ (s sub:ByteArray) (m:Int) (w:World),s.size<4294967281→w.cell? ⟨gv,0,none⟩=some (.int .i64 m)→Calls c.P f #[.string s,.string sub] w fun e w'=>e = .returned (.bool (Lib.contains s.data.toList sub.data.toList))∧w'=w)
  (hr:∀ fn,c.P.funcs[f]? = some fn→V5 c.P (c.dres f) fn.resultTypes.toList ⟨[(0,.d (.leaf .str)),(1,.d (.leaf .str))],[]⟩=⟨[(0,.d (.leaf .bool))],[]⟩):DU c f aQ:=by
 intro sk ds r h
 unfold aQ at h
 split at h
 ·rename_i s t
  replace h:=H3 h
  obtain⟨hl,h⟩:=h
  have hl:s.length≤4294967280:=B3 hl
  cases h
  refine tA rfl hr fun g args w hg hfr ht hs=>?_
  obtain⟨a,b,rfl,ha,hb⟩:=KE ht hs
  obtain⟨m,hm⟩:=uB hfr (hgok _ hg)
  have hsz:a.size<4294967281:=by
   have:a.size=s.length:=by rw [← ha];simp
   omega
  refine (h1 a b m w hsz hm).mono ?_
  rintro e w' ⟨rfl,rfl⟩
  refine⟨_,rfl,Below.refl _ _,fun _=> .bool (Lib.contains a.data.toList b.data.toList),rfl,fun i=>?_⟩
  cases i with
  |zero=>
   refine⟨?_,trivial⟩
   show Value.bool _=Value.bool _
   rw [ha,hb,qJ];rfl
  |succ i=>exact⟨trivial,trivial⟩
 ·cases h
theorem JO {gv:Nat}(hgok:∀ h,c.qH h→rM gv h)
  (h1:∀ (s sep:ByteArray) (m:Int) (w:World),s.size<4294967281→w.cell? ⟨gv,0,none⟩=some (.int .i64 m)→Calls c.P f #[.string s,.string sep] w fun e w'=>
   e = .returned (.tuple #[.string ⟨(Lib.cut s.data.toList sep.data.toList).1.toArray⟩,.string ⟨(Lib.cut s.data.toList sep.data.toList).2.1.toArray⟩,.bool (Lib.cut s.data.toList sep.data.toList).2.2])∧∃ n,w'=w.drewN n)
  (hr:∀ fn,c.P.funcs[f]? = some fn→V5 c.P (c.dres f) fn.resultTypes.toList ⟨[(0,.d (.leaf .str)),(1,.d (.leaf .str))],[]⟩=⟨[(0,.d (.leaf .str)),(1,.d (.leaf .str)),(2,.d (.leaf .bool))],[]⟩):DU c f sU:=by
 intro sk ds r h
 unfold sU at h
 split at h
 ·rename_i s t
  replace h:=H3 h
  obtain⟨hl,h⟩:=h
  have hl:s.length≤4294967280:=B3 hl
  cases h
  refine tA rfl hr fun g args w hg hfr ht hs=>?_
  obtain⟨a,b,rfl,ha,hb⟩:=KE ht hs
  obtain⟨m,hm⟩:=uB hfr (hgok _ hg)
  have hsz:a.size<4294967281:=by
   have:a.size=s.length:=by rw [← ha];simp
   omega
  refine (h1 a b m w hsz hm).mono ?_
  rintro e w' ⟨rfl,n,rfl⟩
  rw [ha,hb]
  refine⟨_,rfl,⟨rfl,rfl,rfl,B9 _,fun _ _=>rfl⟩,fun i=>match i with|0=> .string ⟨(Lib.cut s t).1.toArray⟩|1=> .string ⟨(Lib.cut s t).2.1.toArray⟩|2=> .bool (Lib.cut s t).2.2|_=>undef,rfl,fun i=>?_⟩
  match i with
  |0=>exact⟨⟨_,rfl,by rw [rV]⟩,trivial⟩
  |1=>exact⟨⟨_,rfl,by rw [rV]⟩,trivial⟩
  |2=>
   refine⟨?_,trivial⟩
   show Value.bool _=Value.bool _
   rw [rV]
  |(i+3)=>exact⟨trivial,trivial⟩
 ·cases h
end
end Go.AE
namespace Go.AE
def eN (e0 z:Nat):Sk→List D→Option (List D)
 |⟨[(0,.row 0),(1,.d (.leaf (.int .i64))),(2,.d (.leaf (.int .i64)))],[.row e s 2]⟩,[.int .i64 i,.int .i64 j,.Z s' xs]=>
  bif Nat.beq e e0&&(Nat.beq s z&&(Nat.beq s' z&&(decide (0≤i)&&(decide (j=i+1)&&decide (j≤(xs.length:Nat)))))) then some [.Z z (xs.take i.toNat++xs.drop j.toNat)] else none
 |_,_=>none
open Go.RowKit
theorem OK:∀ (k u:Nat) (acc:G0),u<10 ^ (k+1)→xH (k+1) u acc=Lib.decDigits u++acc:=by
 intro k
 induction k with
 |zero=>
  intro u acc h
  have h:u<10:=by simpa using h
  unfold xH
  rw [Lib.decDigits,dif_pos h,B2 (by omega)];rfl
 |succ k ih=>
  intro u acc h
  unfold xH
  rw [Lib.decDigits]
  by_cases h10:u<10
  ·rw [dif_pos h10,B2 (by omega)];rfl
  ·have hb:Nat.ble u 9=false:=by
    cases hx:Nat.ble u 9 with
    |false=>rfl
    |true=>have:=B3 hx;omega
   have h2:u / 10<10 ^ (k+1):=by
    rw [Nat.pow_succ] at h
    omega
   rw [dif_neg h10,hb,cond_false,ih (u / 10) _ h2,C1]
   rfl
theorem VR {n:Int}(h0 : -9223372036854775808≤n)(h1:n≤9223372036854775807):hU n=Lib.itoa n:=by
 cases n with
 |ofNat u=>
  have h1:(u:Int)≤9223372036854775807:=h1
  unfold Lib.itoa
  rw [if_neg (by simp)]
  show xH 20 u []=Lib.decDigits u
  rw [OK 19 u [] (by omega),D7]
 |negSucc u=>
  have h0:u<9223372036854775808:=by
   have:=h0
   omega
  unfold Lib.itoa
  rw [if_pos (Int.negSucc_lt_zero u)]
  show 45::xH 20 (u+1) []=45::Lib.decDigits (u+1)
  rw [OK 19 (u+1) [] (by omega),D7]
def QT (gv:Nat)(k:IntKind)(zs:List Int)(h:Nat→Option Obj):Prop:=∃ t f,h gv=some (.cells (zs.map fun z=>Value.int k z).toArray t f)
theorem SO {gv:Nat}{k:IntKind}{zs:List Int}{h h':Nat→Option Obj}(hh:∀ b x,h b=some x→h' b=some x)(x:QT gv k zs h):QT gv k zs h':=by
 obtain⟨t,f,e⟩:=x
 exact⟨t,f,hh _ _ e⟩
theorem Ed {P:Program}{w:World}{name:String}{gv:Nat}{k:IntKind}{zs:List Int}(hg:P.globalNamed name=some gv)(h:Lib.TabIs P w name k zs):QT gv k zs (snap w):=by
 unfold Lib.TabIs World.var? at h
 rw [hg] at h
 simp only [Option.bind_some] at h
 split at h
 ·rename_i cs t f hb
  cases h
  exact⟨t,f,hb⟩
 ·cases h
theorem YR {P:Program}{w:World}{name:String}{gv:Nat}{k:IntKind}{zs:List Int}{h:Nat→Option Obj}(hg:P.globalNamed name=some gv)(hf:∀ b x,h b=some x→w.heap[b]? = some x)(x:QT gv k zs h):Lib.TabIs P w name k zs:=by
 obtain⟨t,f,e⟩:=x
 unfold Lib.TabIs World.var?
 rw [hg]
 simp only [Option.bind_some,hf _ _ e]
theorem LA (w:World)(k:Nat)(os:Array Obj):Below w.heap.size w (Sort.grow (w.drewN k) os):=
 ⟨rfl,rfl,rfl,by show w.heap.size≤(w.heap++os).size;simp,fun i hi=>by
  show (w.heap++os)[i]? = w.heap[i]?
  rw [Array.getElem?_append_left hi]⟩
section
variable {c:Z6} {f:Nat}
theorem Bh {g:G}{n:Int}{args:Array Value}(ht:∀ i,VV g ((J6 E0 ⟨[(0,.d (.leaf (.int .i64)))],[]⟩ [.int .i64 n]).t i) (args.getD i undef))(hs:args.size=1):args=#[.int .i64 n]:=by
 have h0:args.getD 0 undef = .int .i64 n:=(show VD g.h (.int .i64 n) _ from ht 0)
 apply Array.ext
 ·simpa using hs
 ·intro i hi1 hi2
  have:i=0:=by omega
  subst this
  rw [D4,C8 hi1] at h0;simpa using h0
theorem GH {name:String}{gv:Nat}(hg:c.P.globalNamed name=some gv)(hgok:∀ h,c.qH h→QT gv .u64 Lib.pow10Tab h)
  (h1:∀ (n:Int),-9223372036854775808≤n→n≤9223372036854775807→∀ (w:World),Lib.TabIs c.P w name .u64 Lib.pow10Tab→Calls c.P f #[.int .i64 n] w fun e w'=>e = .returned (.string ⟨(Lib.itoa n).toArray⟩)∧∃ k os,w'=Sort.grow (w.drewN k) os)
  (hr:∀ fn,c.P.funcs[f]? = some fn→V5 c.P (c.dres f) fn.resultTypes.toList ⟨[(0,.d (.leaf (.int .i64)))],[]⟩=⟨[(0,.d (.leaf .str))],[]⟩):DU c f mF:=by
 intro sk ds r h
 unfold mF at h
 split at h
 ·rename_i n
  replace h:=H3 h
  obtain⟨hl,h⟩:=h
  simp only [A9,decide_eq_true_eq] at hl
  cases h
  refine tA rfl hr fun g args w hgk hfr ht hs=>?_
  have:=Bh ht hs
  subst this
  refine (h1 n hl.1 hl.2 w (YR hg hfr (hgok _ hgk))).mono ?_
  rintro e w' ⟨rfl,k,os,rfl⟩
  refine⟨_,rfl,LA w k os,fun _=> .string ⟨(Lib.itoa n).toArray⟩,rfl,fun i=>?_⟩
  cases i with
  |zero=>
   refine⟨?_,trivial⟩
   show ∃ b:ByteArray,Value.string _ = .string b∧b.data.toList=hU n
   exact⟨_,rfl,(VR hl.1 hl.2).symm⟩
  |succ i=>exact⟨trivial,trivial⟩
 ·cases h
end
end Go.AE
namespace Go.AE
def Bytes (b:List D):Prop:=∀ y∈b,∃ i:Int,y = .int .u8 i∧0≤i∧i≤255
end Go.AE
namespace Go.AE
open Go.RowKit Go.Sort Go.Proofs
theorem lC (b:Nat):∀ (vs:List Value) (o:Nat) (w:World) (c:Array Value) (e:TypeId) (fr:Nat×Nat),w.heap[b]? = some (.cells c e fr)→∃ c',(w.setCells b o vs).heap[b]? = some (.cells c' e fr)∧c'.size=c.size
 |[],_,_,c,_,_,h=>⟨c,h,rfl⟩
 |v::r,o,w,c,e,fr,h=>by
  obtain⟨c',h1,h2⟩:=lC b r (o+1) (w.setCell ⟨b,o,none⟩ v) (c.setIfInBounds o v) e fr (by
   show (w.heap.modify b _)[b]? = _
   rw [Array.getElem?_modify,if_pos rfl,h];rfl)
  exact⟨c',h1,by rw [h2];simp⟩
theorem gK (b:Nat):∀ (vs:List Value) (o:Nat) (w:World),(w.setCells b o vs).heap.size=w.heap.size∧(w.setCells b o vs).tape=w.tape
 |[],_,_=>⟨rfl,rfl⟩
 |v::r,o,w=>by
  obtain⟨h1,h2⟩:=gK b r (o+1) (w.setCell ⟨b,o,none⟩ v)
  refine⟨h1.trans ?_,h2⟩
  show (w.heap.modify b _).size=_
  simp
section
variable {c:Z6} {f:Nat}
theorem zD {e0 z:Nat}{zs:List Value}(hz:zs.length=z)(hz0:0<z)
  (h1:∀ (blk cap n i:Nat) (us:List Value) (w:World),us.length=n*z→(∀ u∈us,u.oneCell'=true)→(∀ k u,us[k]? = some u→w.cell? ⟨blk,0+k,none⟩=some u)→(∀ k,k<n*z→w.frozen? ⟨blk,0+k,none⟩=false)→i<n→n≤cap→cap≤9223372036854775807→
   Calls c.P f #[.slice (some ⟨blk,0,none⟩) n cap,.int .i64 i,.int .i64 ((i+1:Nat):Int)] w fun e w'=>e = .returned (.slice (some ⟨blk,0,none⟩) (n-1) cap)∧w'=(w.drew.setCells blk (0+i*z) (us.drop ((i+1)*z))).setCells blk (0+(n-1)*z) zs)
  (hr:∀ fn,c.P.funcs[f]? = some fn→∃ t,fn.resultTypes=#[t]∧kA c.P t = .leaf (.Z z)∧(Bq c.P t=none∨True)) (hd:(c.dres f).o 1=none∧(c.dres f).m 0=1) :
  ∀ sk ds r,eN e0 z sk ds=some r→cU c f sk ds r:=by
 intro sk ds r h fn hf u g _ args w hsz S ht
 unfold eN at h
 split at h
 ·rename_i e s i j s' xs
  replace h:=H3 h
  obtain⟨hb,h⟩:=h
  simp only [A9,decide_eq_true_eq] at hb
  obtain⟨hb1,hb2,hb3,hb4,hb5,hb6⟩:=hb
  obtain rfl:s=z:=beq_iff.1 hb2
  obtain rfl:s'=s:=beq_iff.1 hb3
  cases h
  obtain⟨k,rfl⟩:∃ k:Nat,i=k:=⟨i.toNat,by omega⟩
  subst hb5
  obtain⟨t,hres,hel,_⟩:=hr fn hf
  obtain⟨us,_,hown,hF⟩:=S.ob 0 (.row e s' xs false) rfl
  have ha:args=#[g.hdr 0,.int .i64 k,.int .i64 ((k+1:Nat):Int)]:=by
   have a0:args.getD 0 undef=g.hdr 0:=(ht 0).1.1
   have a1:args.getD 1 undef = .int .i64 k:=(ht 1).1
   have a2:args.getD 2 undef = .int .i64 ((k+1:Nat):Int):=(ht 2).1
   have h4:args.size=3:=hsz
   apply Array.ext
   ·simpa using h4
   ·intro i hi1 hi2
    rw [D4] at a0 a1 a2
    rw [C8 (by omega)] at a0 a1 a2
    match i,hi1 with
    |0,_=>simpa using a0
    |1,_=>simpa using a1
    |2,_=>simpa using a2
  have hosk:V5 c.P (c.dres f) fn.resultTypes.toList ⟨[(0,.row 0),(1,.d (.leaf (.int .i64))),(2,.d (.leaf (.int .i64)))],[.row e s' 2]⟩=⟨[(0,.d (.leaf (.Z s')))],[.gone]⟩:=by
   simp only [hres,V5,A0,A8,C5,hd.1,oG,hd.2]
   show (⟨(match (match O6 c.P t with|some e=>none|none=>none:Option Nat) with|some e=>_|none=>_:List (Nat×SV)×List eQ).1,_⟩:Sk)=_
   rw [← hel]
   cases O6 c.P t<;>rfl
  rw [hosk]
  have hk:k+1≤xs.length:=by omega
  have hn:∀ b,(g.hdr 0).ownBlock=some b→g.h b=none∧u b=none:=fun b hb=>S.sep 0 (.row e s' xs false) b rfl hb
  rcases J0 hown with ⟨_,k2,_⟩|⟨b,cap,cur,k1,k2,k3,k4,k5,k6,k7⟩
  ·omega
  ·obtain⟨n1,n2⟩:=hn b (by rw [k1];rfl)
   rw [ha,k1]
   have hcell:∀ m,w.cell? ⟨b,m,none⟩=cur[m]?:=fun m=>cell_of_row w b m cur e (0,0) k2
   have hus:∀ m v,us[m]? = some v→cur[m]? = some v:=fun m v hm=>by
    rw [← k6,List.getElem?_take] at hm
    split at hm
    ·simpa using hm
    ·cases hm
   have hcs:xs.length*s'≤cur.size:=by rw [k5];exact Nat.mul_le_mul_right _ k3
   refine (h1 b cap xs.length k us w k7 (lJ hF) (fun m v hm=>by rw [C5,hcell];exact hus m v hm) (fun m _=>by simp [World.frozen?,k2]) (by omega) k3 (by simp only [maxLen] at k4;omega)).mono ?_
   rintro e' w' ⟨rfl,rfl⟩
   generalize hw1:w.drew.setCells b (0+k*s') (us.drop ((k+1)*s'))=w1
   have hkey:w1.os=w.os∧w1.output=w.output∧(w1.heap.size=w.heap.size∧w1.tape=w.tape)∧∀ i,i<w.heap.size→i≠b→w1.heap[i]? = w.heap[i]?:=by
    rw [← hw1]
    exact⟨World.os_setCells _ _ _ _,World.output_setCells _ _ _ _,gK _ _ _ _,fun i hi hne=>World.heap_setCells_other w.drew b _ _ hi hne⟩
   obtain⟨c1,d1,d2⟩:=lC b (us.drop ((k+1)*s')) (0+k*s') w.drew cur e (0,0) k2
   rw [hw1] at d1
   obtain⟨c2,d3,d4⟩:=lC b zs (0+(xs.length-1)*s') w1 c1 e (0,0) d1
   have hm:(k+1)*s'=k*s'+s':=by rw [Nat.add_mul,Nat.one_mul]
   have hm1:(xs.length-1)*s'+s'=xs.length*s':=by
    obtain⟨l,hl⟩:∃ l,xs.length=l+1:=⟨xs.length-1,by omega⟩
    rw [hl,Nat.add_sub_cancel,Nat.add_mul,Nat.one_mul]
   have hkl:k*s'+s'≤xs.length*s':=by rw [← hm];exact Nat.mul_le_mul_right _ hk
   have hl1:(us.drop ((k+1)*s')).length=(xs.length-1)*s'-k*s':=by
    rw [F8,k7,hm];omega
   have hc2:∀ m,m<(xs.length-1)*s'→c2[m]? = (us.take (k*s')++us.drop ((k+1)*s'))[m]?:=by
    intro m hmm
    rw [← cell_of_row _ b m c2 e (0,0) d3,World.cell?_setCells_out b _ _ _ _ (fun _ _=> .inl (by show m<_;omega)),← hw1]
    have hlt:(us.take (k*s')).length=k*s':=by rw [D9,k7];omega
    by_cases hmk:m<k*s'
    ·rw [World.cell?_setCells_out b _ _ _ _ (fun _ _=> .inl (by show m<_;omega)),List.getElem?_append_left (by omega),List.getElem?_take,if_pos hmk]
     have:m<us.length:=by rw [k7];omega
     rw [C2 this]
     exact (hcell m).trans (hus m _ (C2 this))
    ·obtain⟨q,rfl⟩:∃ q,m=k*s'+q:=⟨m-k*s',by omega⟩
     have hq:q<(us.drop ((k+1)*s')).length:=by rw [hl1];omega
     have:=World.cell?_setCells_in b (us.drop ((k+1)*s')) (0+k*s') w.drew (fun j hj=>by
      show (w.cell? _).isSome=true
      rw [hcell,C8 (by rw [hl1] at hj;omega)];rfl) q hq
     rw [C5] at this ⊢
     rw [this,F5 (by omega),hlt,Nat.add_sub_cancel_left,C2 hq]
   have hw2:∀ i,i<w.heap.size→i≠b→(w1.setCells b (0+(xs.length-1)*s') zs).heap[i]? = w.heap[i]?:=fun i hi hne=>(World.heap_setCells_other w1 b _ _ (by rw [hkey.2.2.1.1];exact hi) hne).trans (hkey.2.2.2 i hi hne)
   have hkeep:∀ i x,(g.h i=some x∨u i=some x)→w.heap[i]? = some x→(w1.setCells b (0+(xs.length-1)*s') zs).heap[i]? = some x:=fun i x hx hi=>by
    rw [hw2 i (Z8 hi) ?_];exact hi
    rintro rfl
    rcases hx with hx|hx
    ·rw [n1] at hx;cases hx
    ·rw [n2] at hx;cases hx
   obtain⟨F,hF0,hF1⟩:∃ F:Nat→Option Obj,F b=(w1.setCells b (0+(xs.length-1)*s') zs).heap[b]?∧∀ x,x≠b→F x=g.h x:=⟨fun x=>if x=b then (w1.setCells b (0+(xs.length-1)*s') zs).heap[b]? else g.h x,if_pos rfl,fun x h=>if_neg h⟩
   have hlen:(xs.take k++xs.drop (k+1)).length=xs.length-1:=by simp;omega
   have hvd:VD F (.Z s' (xs.take k++xs.drop (k+1))) (.slice (some ⟨b,0,none⟩) (xs.length-1) cap):=by
    refine⟨some ⟨b,0,none⟩,cap,by rw [hlen],by rw [hlen];omega,k4,.inr ⟨_,rfl,?_⟩⟩
    refine aJ (h:=g.h) (fun x y hxy=>?_) (bY (cV k hF) (eR (k+1) hF)) fun j v hj=>?_
    ·rw [hF1 x (fun e=>by rw [e,n1] at hxy;cases hxy)];exact hxy
    ·rw [H8,C5]
     simp only [dW,hF0,d3]
     have hj':j<(xs.length-1)*s':=by
      have:=(List.getElem?_eq_some_iff.1 hj).1
      rw [A7,hl1,D9,k7] at this
      omega
     simpa using (hc2 j hj').trans hj
   refine⟨_,rfl,⟨F,g.blk,g.hdr,g.ihdr⟩,fun _=> .slice (some ⟨b,0,none⟩) (xs.length-1) cap,⟨fun x y hx=>?_,fun x y hx=>hkeep x y (.inr hx) (S.unt x y hx),fun o x hx=>?_,fun o x b hx hb=>?_,fun o o' x x' b hx hx' _ _=>?_,fun o x hx=>?_,fun x=>?_⟩,fun t=>?_,⟨fun x y hx=>?_,?_,?_,?_,?_⟩,fun l' o hlo=>(by cases hlo),rfl⟩
   ·by_cases e:x=b
    ·subst e
     have hx:F x=some y:=hx
     rwa [hF0] at hx
    ·have hx:F x=some y:=hx
     rw [hF1 x e] at hx
     exact hkeep x y (.inl hx) (S.frz x y hx)
   ·match o,hx with
    |0,hx=>cases hx
    |(o+1),hx=>cases hx
   ·match o,hx with
    |0,hx=>cases hx
    |(o+1),hx=>cases hx
   ·match o,hx with
    |0,hx=>cases hx
    |(o+1),hx=>cases hx
   ·match o,hx with
    |0,hx=>cases hx
    |(o+1),hx=>cases hx
   ·by_cases e:x=b
    ·subst e;exact .inr n2
    ·rcases S.dj x with h|h
     ·exact .inl ((hF1 x e).trans h)
     ·exact .inr h
   ·cases t with
    |zero=>exact⟨hvd,trivial⟩
    |succ t=>exact⟨trivial,trivial⟩
   ·show F x=some y
    rw [hF1 x (fun e=>by rw [e,n1] at hx;cases hx)];exact hx
   ·exact (World.os_setCells _ _ _ _).trans hkey.1
   ·exact (gK _ _ _ _).2.trans hkey.2.2.1.2
   ·exact (World.output_setCells _ _ _ _).trans hkey.2.1
   ·rw [(gK _ _ _ _).1,hkey.2.2.1.1];exact B9 _
 ·cases h
end
end Go.AE
namespace Go.AE
inductive E where
 |v (i:Nat)
 |k (x:D)
 |a (x:E) (j:Nat)
 |sub (x:E) (off n:Nat)
 |Ef (x:E) (off:Nat) (y:E)
 |i (op:BinOp) (k:IntKind) (x y:E)
 |cv (k:IntKind) (x:E)
 |cm (k:IntKind) (x:E)
 |mx (k:IntKind) (x y:E)
 |mn (k:IntKind) (x y:E)
 |s (op:BinOp) (x y:E)
 |b (op:BinOp) (x y:E)
 |n (x:E)
 |q (x y:E)
 |w (op:BinOp) (x y:E)
 |l (x:E)
 |sl (x:E)
 |em (x:E)
 |rm (x y:E)
 |rs (x y:E)
 |ap (sz:Nat) (x y:E)
 |st (sz:Nat) (x i y:E)
 |rp (sz:Nat) (n x:E)
 |dt (sz:Nat) (x lo hi:E)
 |tk (sz:Nat) (x hi:E)
 |cp (sz:Nat) (x y:E)
 |ml (x y:E)
 |cl (sz:Nat) (x lo n y:E)
 |c (sz:Nat) (x y:E)
 |ds (x lo hi:E)
 |g (x i:E)
 |sb (x i:E)
 |ac (x y:E)
 |aa (x y:E)
 |na (x y:E)
 |ns (x y:E)
 |nb (x:E) (m:Nat)
 |fc (t:Nat) (x:E)
 |fd (x:E)
 |me (t:Nat) (nm:String) (x:E)
 |by_ (x:E)
 |bd (x:E)
 |ob (x:E)
 |al (x:E)
 |ch (x:E)
 |nl (x:E)
 |ag (x:E)
 |ok (t:Ty) (x:E)
 |xi (x y:E)
 |ls (sz:Nat) (x:E)
 |nt (x y:E)
 |ez (x:E)
 |rb (x y:E)
 |nz (x y:E)
 |a6 (x y z:E)
 |a7 (x y z:E)
 |mg (z x y:E)
 |mh (x y:E)
 |mp (x y z:E)
 |eq (x y:E)
def iE (op:BinOp)(k:IntKind)(x y:D):D:=match op with
 | .add=> .int k (k.wrap (x.i+y.i))
 | .sub=> .int k (k.wrap (x.i-y.i))
 | .mul=> .int k (k.wrap (x.i*y.i))
 | .quo=> .int k (k.wrap (x.i.tdiv y.i))
 | .rem=> .int k (x.i.tmod y.i)
 | .and=> .int k (k.wrap (BitVec.ofInt k.bits x.i &&& BitVec.ofInt k.bits y.i).toNat)
 | .or=> .int k (k.wrap (BitVec.ofInt k.bits x.i ||| BitVec.ofInt k.bits y.i).toNat)
 | .xor=> .int k (k.wrap (BitVec.ofInt k.bits x.i ^^^ BitVec.ofInt k.bits y.i).toNat)
 | .andNot=> .int k (k.wrap (BitVec.ofInt k.bits x.i &&& ~~~BitVec.ofInt k.bits y.i).toNat)
 | .shl=> .int k (k.wrap (x.i*2 ^ (min y.i.toNat k.bits)))
 | .shr=> .int k (x.i.fdiv (2 ^ (min y.i.toNat k.bits)))
 | .eql=> .bool (x.i==y.i)
 | .neq=> .bool (x.i !=y.i)
 | .lss=> .bool (decide (x.i<y.i))
 | .leq=> .bool (decide (x.i≤y.i))
 | .gtr=> .bool (decide (x.i>y.i))
 | .geq=> .bool (decide (x.i≥y.i))
def sE (op:BinOp)(x y:D):D:=match op with
 | .add=> .str (x.s++y.s)
 | .eql=> .bool (x.s==y.s)
 | .neq=> .bool (!(x.s==y.s))
 | .lss=> .bool (Op.bytesLess x.s y.s)
 | .leq=> .bool (Op.bytesLess x.s y.s||x.s==y.s)
 | .gtr=> .bool (!(Op.bytesLess x.s y.s||x.s==y.s))
 | .geq=> .bool (!(Op.bytesLess x.s y.s))
 |_=> .top
def bE (op:BinOp)(x y:D):D:=match op with
 | .eql=> .bool (x.b==y.b)
 | .neq=> .bool (!(x.b==y.b))
 |_=> .top
def wE (op:BinOp)(x y:D):D:=match op with
 | .eql=> .bool (M5 x.cells y.cells)
 | .neq=> .bool (!(M5 x.cells y.cells))
 |_=> .top
noncomputable def E.den (V:Nat→D) (e:E):D:=E.rec (motive:=fun _=>D)
 (fun i=>V i) (fun x=>x) (fun _ j x=>x.at_ j) (fun _ off n x=>GX x off n true) (fun _ off _ x y=>KI x off y)
 (fun op k _ _ x y=>iE op k x y) (fun k _ x=> .int k (k.wrap x.i))
 (fun k _ x=> .int k (k.wrap (BitVec.ofInt k.bits (if k.signed then -1 else k.max) ^^^ BitVec.ofInt k.bits x.i).toNat))
 (fun k _ _ x y=> .int k (max x.i y.i)) (fun k _ _ x y=> .int k (min x.i y.i))
 (fun op _ _ x y=>sE op x y) (fun op _ _ x y=>bE op x y) (fun _ x=> .bool (!x.b)) (fun _ _ x y=> .bool (x.b&&y.b)) (fun op _ _ x y=>wE op x y)
 (fun _ x=> .int .i64 (x.l.length:Nat)) (fun _ x=> .int .i64 (x.s.length:Nat)) (fun _ x=> .bool x.l.isEmpty)
 (fun _ _ x y=> .bool (Nat.ble (x.l.length+y.l.length) M4)) (fun _ _ x y=> .bool (decide (x.s.length+y.s.length≤sL)))
 (fun sz _ _ x y=> .Z sz (x.l++y.l)) (fun sz _ _ _ x i y=> .Z sz (x.l.set i.i.toNat y)) (fun sz _ _ n x=> .Z sz (List.replicate n.i.toNat x))
 (fun sz _ _ _ x lo hi=> .Z sz ((x.l.drop lo.i.toNat).take (hi.i.toNat-lo.i.toNat))) (fun sz _ _ x hi=> .Z sz (x.l.take hi.i.toNat))
 (fun sz _ _ x y=> .Z sz (y.l.take x.l.length++x.l.drop y.l.length)) (fun _ _ x y=> .int .i64 (min y.l.length x.l.length:Nat))
 (fun sz _ _ _ _ x lo n y=> .Z sz (x.l.take lo.i.toNat++List.replicate n.i.toNat y++x.l.drop (lo.i.toNat+n.i.toNat)))
 (fun sz _ _ x y=> .Z sz (x::y.l)) (fun _ _ _ x lo hi=> .str ((x.s.drop lo.i.toNat).take (hi.i.toNat-lo.i.toNat)))
 (fun _ _ x i=>x.l[i.i.toNat]?.getD .top) (fun _ _ x i=> .int .u8 (x.s[i.i.toNat]?.getD 0).toNat)
 (fun _ _ x y=> .agg (x::y.cells)) (fun _ _ x y=> .agg (x.cells++y.cells))
 (fun _ _ x y=> .int .i64 (x.i.toNat+y.i.toNat:Nat)) (fun _ _ x y=> .int .i64 (x.i.toNat-y.i.toNat:Nat)) (fun _ m x=> .bool (Nat.beq x.i.toNat m))
 (fun t _ x=> .iface t x) (fun _ x=>x.Uq) (fun t nm _ x=> .meth t nm x)
 (fun _ x=> .str (x.l.map toByte)) (fun _ x=> .Z 1 (Eo x.s)) (fun _ x=> .bool (mC x.l)) (fun _ x=> .bool (eV x.l)) (fun _ x=> .str [UInt8.ofNat x.i.toNat])
 (fun _ x=> .bool (O9 x)) (fun _ x=> .bool (jW x)) (fun t _ x=> .bool (eG t x))
 (fun _ _ x y=> .int .i64 (Z9 y.i.toNat.toUInt8 x.s 0)) (fun sz _ x=> .Z sz x.l) (fun _ _ x y=> .bool (Nat.blt x.i.toNat y.l.length)) (fun _ x=> .bool (decide (x.i=0)))
 (fun _ _ x y=> .bool (Nat.ble (x.l.length+y.s.length) M4)) (fun _ _ x y=> .bool (Nat.ble x.i.toNat y.l.length))
 (fun _ _ _ x y z=> .int .u64 ((x.i+y.i+z.i) % 18446744073709551616)) (fun _ _ _ x y z=> .int .u64 ((x.i+y.i+z.i) / 18446744073709551616))
 (fun _ _ _ z x y=>getM z x y.l) (fun _ _ x y=> .bool (LW x y.l)) (fun _ _ _ x y z=> .Z 2 (zL x y z.l)) (fun _ _ x y=> .bool (D.eq x y))
 e
inductive Ar where
 |e (x:E)
 |r (i n:Nat)
inductive T where
 |no
 |ret (b:Bool) (es:List Ar)
 |i (c:E) (x y:T)
 |g (c:E) (x:T)
 |t (ty:Ty) (e:E) (x:T)
 |l (e:E) (x:T)
 |c (p:Bool) (f:Nat) (es:List Ar) (x:T)
 |o (f:Nat) (es:List Ar) (x:T)
 |tl (f:Nat) (es:List Ar)
 |ag (x y:T)
 |j (b x:T)
 |jp (k:Nat) (es:List Ar)
structure Sg where
 tk:List D→Task
 hs:List Ty
 ro:Sk
def Sv (V:Nat→D):Nat→Nat→List D
 |_,0=>[]
 |i,n+1=>V i::Sv V (i+1) n
noncomputable def pC (V:Nat→D):List Ar→List D
 |[]=>[]
 |a::r=>match a with | .e x=>x.den V::pC V r | .r i n=>Sv V i n++pC V r
def Tk:List Ty→Nat→Ty
 |[],_=> .leaf .any
 |h::_,0=>h
 |_::r,n+1=>Tk r n
def fB (hs:List Ty)(r:List D)(j:Nat):D:=L0 (Tk hs j) (Y r j)
def Ai:List Ty→List D→Nat→List D
 |[],_,_=>[]
 |h::hs,r,j=>L0 h (Y r j)::Ai hs r (j+1)
def LP (hs:List Ty)(r:List D):List D:=Ai hs r 0
def Zv:SV→List Ty
 | .d t=>[t]
 |_=>[]
def Ea:List SV→List Ty
 |[]=>[]
 |s::r=>Zv s++Ea r
def Mf:SV→List Ty
 | .d t=>[t]
 | .fn _ cs=>Ea cs
 | .agg cs=>Ea cs
 |_=>[]
def Mg:List SV→List Ty
 |[]=>[]
 |s::r=>Mf s++Mg r
def YH:List (Nat×SV)→List Ty
 |[]=>[]
 |(_,s)::r=>Mf s++YH r
def Fu:List eQ→List Ty
 |[]=>[]
 | .var cs::r=>Mg cs++Fu r
 | .row _ sz _::r=> .leaf (.Z sz)::Fu r
 | .mp _::r=> .leaf (.Z 2)::Fu r
 | .nst ..::r=> .leaf (.Z 1)::Fu r
 | .it ..::r=> .leaf (.Z 0)::Fu r
 | .gone::r=>Fu r
def I5 (sk:Sk):List Ty:=YH sk.slots++Fu sk.objs
def lS (f:Nat)(par:Sg)(pre:List (Nat×Nat))(df:List (Nat×List (Nat×Nat)))(once:Bool)(id:Nat)(body:Code)(slots:List (Nat×SV))(objs:List eQ):Sg:=
 ⟨fun ds=> .loop f par.ro pre df once id body ⟨slots,objs⟩ ds,I5 ⟨slots,objs⟩,⟨slots,objs⟩⟩
def cS (f:Nat)(slots:List (Nat×SV))(objs:List eQ)(res:List (Nat×SV))(rows:List eQ):Sg:=
 ⟨fun ds=> .call f ⟨slots,objs⟩ ds,I5 ⟨slots,objs⟩,⟨res,fN objs++rows⟩⟩
def push (V:Nat→D)(n:Nat)(x:D):Nat→D:=fun i=>bif Nat.blt i n then V i else x
def S3 (V:Nat→D)(n:Nat)(hs:List Ty)(r:List D):Nat→D:=fun i=>bif Nat.blt i n then V i else fB hs r (i-n)
def iD (V:Nat→D)(n:Nat)(r:List D):Nat→D:=fun i=>bif Nat.blt i n then V i else Y r (i-n)
def yM:List (List D→Out)→Nat→List D→Out
 |[],_,_=>none
 |f::_,0,xs=>f xs
 |_::r,k+1,xs=>yM r k xs
noncomputable def T.den (sg:Nat→Sg) (rec:Nat→List D→Out) (x:T):List (List D→Out)→Nat→(Nat→D)→Out:=T.rec (motive:=fun _=>List (List D→Out)→Nat→(Nat→D)→Out)
 (fun _ _ _=>none)
 (fun b es _ _ V=>some (b,pC V es))
 (fun c _ _ x y J n V=>bif (c.den V).b then x J n V else y J n V)
 (fun c _ x J n V=>bif (c.den V).b then x J n V else none)
 (fun ty e _ x J n V=>bif V9 ty&&eG ty (e.den V) then x J (n+1) (push V n (L0 ty (e.den V))) else none)
 (fun e _ x J n V=>x J (n+1) (push V n (e.den V)))
 (fun p f es _ x J n V=>AE.bT (rec f (pC V es)) fun r=>bif (bif p then aL (sg f).ro r&&U5 (sg f).ro r else aL (sg f).ro r) then x J (n+(I5 (sg f).ro).length) (S3 V n (I5 (sg f).ro) r) else none)
 (fun f es _ x J n V=>AE.cX (rec f (pC V es)) fun r=>bif aL (sg f).ro r then x J (n+(I5 (sg f).ro).length) (S3 V n (I5 (sg f).ro) r) else none)
 (fun f es _ _ V=>rec f (pC V es))
 (fun _ _ x y J n V=>AE.agree (x J n V) (y J n V))
 (fun _ _ b x J n V=>x ((fun xs=>b J (n+xs.length) (iD V n xs))::J) n V)
 (fun k es J _ V=>yM J k (pC V es))
 x
instance (n:Nat):OfNat E n:=⟨.v n⟩
instance (n:Nat):OfNat Ar n:=⟨.e (.v n)⟩
def Zq (n:Int):E:= .k (.int .i64 n)
def tt:E:= .k (.bool true)
def ff:E:= .k (.bool false)
def e0:E:= .k (.agg [])
def Ac:List E→E→E
 |[],r=>r
 |x::xs,r=> .ac x (Ac xs r)
def Ls (sz:Nat):List E→E
 |[]=> .k (.Z sz [])
 |x::xs=> .c sz x (Ls sz xs)
def dm (n:Nat):D:= .Z 1 (List.replicate n .top)
def dF (x y:E):E:= .i .add .i64 x y
def IQ (x y:E):E:= .i .eql .i64 x y
def CD (x y:E):E:= .i .neq .i64 x y
def bW (x y:E):E:= .i .lss .i64 x y
def bV (x y:E):E:= .i .leq .i64 x y
def Px (x y:E):E:= .i .gtr .i64 x y
def Pw (x y:E):E:= .i .geq .i64 x y
def Sz (x y:E):E:= .s .eql x y
def cn (f:Nat)(es:List Ar)(x:T):T:= .c false f es x
def cp (f:Nat)(es:List Ar)(x:T):T:= .c true f es x
def rt (es:List Ar):T:= .ret true es
def tI:Ty:= .leaf (.int .i64)
def tB:Ty:= .leaf .bool
def tS:Ty:= .leaf .str
def tL (n:Nat):Ty:= .leaf (.Z n)
def dI:SV:= .d tI
def dB:SV:= .d tB
def dS:SV:= .d tS
def dL (n:Nat):SV:= .d (tL n)
def Zt:Nat→List SV→List (Nat×SV)
 |_,[]=>[]
 |i,s::r=>(i,s)::Zt (i+1) r
def sl (l:List SV):List (Nat×SV):=Zt 0 l
def jY (C:Z6)(sg:Nat→Sg)(f:Nat)(p:T):Prop:=∀ n ds,run C (n+1) ((sg f).tk (LP (sg f).hs ds))=p.den sg (fun g xs=>run C n ((sg g).tk xs)) [] (sg f).hs.length (fB (sg f).hs ds)
end Go.AE
namespace Go.AE
theorem wP {r r':Out}{k k':List D→Out}{x:Bool×List D}(h1:∀ y,r=some y→r'=some y)(h2:∀ ds,k ds=some x→k' ds=some x)(h:bT r k=some x):bT r' k'=some x:=by
 unfold bT at h
 split at h
 ·rw [h1 _ rfl];exact h2 _ h
 ·cases h
theorem wQ {r r':Out}{k k':List D→Out}{x:Bool×List D}(h1:∀ y,r=some y→r'=some y)(h2:∀ ds,k ds=some x→k' ds=some x)(h:cX r k=some x):cX r' k'=some x:=by
 unfold cX at h
 split at h
 ·rw [h1 _ rfl];exact h
 ·rw [h1 _ rfl];exact h2 _ h
 ·cases h
theorem wL {a b a' b':Out}{x:Bool×List D}(h1:∀ y,a=some y→a'=some y)(h2:∀ y,b=some y→b'=some y)(h:agree a b=some x):agree a' b'=some x:=by
 unfold agree at h
 split at h
 ·rw [h1 _ rfl,h2 _ rfl];exact h
 ·cases h
theorem yN {J J':List (List D→Out)}{x:Bool×List D}{xs:List D}(hl:J.length=J'.length)(hJ:∀ (k:Nat) (f f':List D→Out),J[k]? = some f→J'[k]? = some f'→∀ ys x,f ys=some x→f' ys=some x):∀ {k:Nat},yM J k xs=some x→yM J' k xs=some x:=by
 induction J generalizing J' with
 |nil=>intro k h;cases k<;>cases h
 |cons f J ih=>
  intro k h
  cases J' with
  |nil=>cases hl
  |cons f' J'=>
   cases k with
   |zero=>exact hJ 0 f f' rfl rfl _ _ h
   |succ k=>exact @ih J' (by simpa using hl) (fun k g g' h1 h2=>hJ (k+1) g g' (by simpa using h1) (by simpa using h2)) k h
theorem cW {c:Bool}{a b a' b':Out}{x:Bool×List D}(h1:a=some x→a'=some x)(h2:b=some x→b'=some x)(h:(bif c then a else b)=some x):(bif c then a' else b')=some x:=by
 cases c with
 |true=>exact h1 h
 |false=>exact h2 h
theorem T5 {sg:Nat→Sg}{rec rec':Nat→List D→Out}(hr:∀ f xs y,rec f xs=some y→rec' f xs=some y):∀ (t:T) (J J':List (List D→Out)) (n:Nat) (V:Nat→D) (x:Bool×List D),
  J.length=J'.length→(∀ (k:Nat) (f f':List D→Out),J[k]? = some f→J'[k]? = some f'→∀ ys x,f ys=some x→f' ys=some x)→t.den sg rec J n V=some x→t.den sg rec' J' n V=some x
 | .no,J,J',n,V,x,_,_,h=>h
 | .ret b es,J,J',n,V,x,_,_,h=>h
 | .i cc a b,J,J',n,V,x,hl,hJ,h=>cW (T5 hr a J J' n V x hl hJ) (T5 hr b J J' n V x hl hJ) h
 | .g cc a,J,J',n,V,x,hl,hJ,h=>cW (T5 hr a J J' n V x hl hJ) (fun h=>h) h
 | .t ty e a,J,J',n,V,x,hl,hJ,h=>cW (T5 hr a J J' _ _ x hl hJ) (fun h=>h) h
 | .l e a,J,J',n,V,x,hl,hJ,h=>T5 hr a J J' _ _ x hl hJ h
 | .c p f es a,J,J',n,V,x,hl,hJ,h=>wP (hr f _) (fun _=>cW (T5 hr a J J' _ _ x hl hJ) (fun h=>h)) h
 | .o f es a,J,J',n,V,x,hl,hJ,h=>wQ (hr f _) (fun _=>cW (T5 hr a J J' _ _ x hl hJ) (fun h=>h)) h
 | .tl f es,J,J',n,V,x,hl,hJ,h=>hr f _ _ h
 | .ag a b,J,J',n,V,x,hl,hJ,h=>wL (fun y=>T5 hr a J J' n V y hl hJ) (fun y=>T5 hr b J J' n V y hl hJ) h
 | .j b a,J,J',n,V,x,hl,hJ,h=>T5 hr a _ _ n V x (by simp [hl]) (fun k f f' h1 h2=>by
   cases k with
   |zero=>
    simp only [List.getElem?_cons_zero,B1] at h1 h2
    subst h1;subst h2
    exact fun ys y=>T5 hr b J J' _ _ y hl hJ
   |succ k=>exact hJ k f f' (by simpa using h1) (by simpa using h2)) h
 | .jp k es,J,J',n,V,x,hl,hJ,h=>yN hl hJ h
def vB:Y2→D→Bool
 | .any,_=>true
 | .bool,.bool _=>true
 | .int k,.int k' _=>decide (k=k')
 | .str,.str _=>true
 | .Z sz,.Z sz' _=>Nat.beq sz sz'
 |_,_=>false
def kW:List Y2→List D→Bool
 |[],[]=>true
 |t::ts,c::cs=>vB t c&&kW ts cs
 |_,_=>false
def WO:Ty→D→Bool
 | .leaf t,x=>vB t x
 | .agg ts,.agg cs=>kW ts cs
 | .ifc t ts,.iface t' (.agg cs)=>Nat.beq t t'&&kW ts cs
 |_,_=>false
def K4:List Ty→List D→Bool
 |[],[]=>true
 |h::hs,x::xs=>WO h x&&K4 hs xs
 |_,_=>false
theorem JH {t:Y2}{x:D}(h:vB t x=true):qD t x=x:=by
 unfold vB at h
 split at h
 ·rfl
 ·rfl
 ·rw [E7 h];rfl
 ·rfl
 ·rw [B0 h];rfl
 ·cases h
theorem sQ:∀ {ts:List Y2} {pre cs:List D},kW ts cs=true→aM ts (.agg (pre++cs)) pre.length=cs
 |[],pre,[],_=>rfl
 |[],pre,_::_,h=>by cases h
 |t::ts,pre,[],h=>by cases h
 |t::ts,pre,c::cs,h=>by
  simp only [kW,A9] at h
  have e:(D.agg (pre++c::cs)).at_ pre.length=c:=by
   simp [D.at_,D.cells]
  have:=sQ (ts:=ts) (pre:=pre++[c]) (cs:=cs) h.2
  simp only [C1,List.singleton_append,A7,C9] at this
  simp only [aM]
  rw [e,JH h.1,this]
theorem vQ {t:Ty}{x:D}(h:WO t x=true):L0 t x=x:=by
 unfold WO at h
 split at h
 ·exact JH h
 ·have:=sQ (pre:=[]) h
  simp only [List.nil_append,A8] at this
  simp only [L0,this]
 ·rw [A9] at h
  have:=sQ (pre:=[]) h.2
  simp only [List.nil_append,A8] at this
  simp only [L0,D.Uq,this,B0 h.1]
 ·cases h
theorem PJ:∀ {pre:List D} {x:D} {xs:List D},Y (pre++x::xs) pre.length=x
 |[],_,_=>rfl
 |_::pre,x,xs=>PJ (pre:=pre)
theorem oE:∀ {hs:List Ty} {pre xs:List D},K4 hs xs=true→Ai hs (pre++xs) pre.length=xs
 |[],pre,[],_=>rfl
 |[],_,_::_,h=>by cases h
 |_::_,_,[],h=>by cases h
 |t::hs,pre,x::xs,h=>by
  simp only [K4,A9] at h
  have:=oE (hs:=hs) (pre:=pre++[x]) (xs:=xs) h.2
  simp only [C1,List.singleton_append,A7,C9] at this
  simp only [Ai]
  rw [PJ,vQ h.1,this]
inductive Bd where
 |n
 |p (t:T)
 |o (g:List D→Option (List D))
def SU (C:Z6)(sg:Nat→Sg)(f:Nat):Bd→Prop
 | .n=>True
 | .p t=>jY C sg f t
 | .o g=>∀ xs r,g xs=some r→∀ n,run C (n+1) ((sg f).tk xs)=some (true,r)
noncomputable def ZE (sg:Nat→Sg) (bd:Nat→Bd):Nat→Nat→List D→Out:=Nat.rec (fun _ _=>none)
 (fun _ ih f xs=>match bd f with
  | .n=>none
  | .p t=>bif K4 (sg f).hs xs then t.den sg ih [] (sg f).hs.length (fB (sg f).hs xs) else none
  | .o g=>match g xs with|some r=>some (true,r)|none=>none)
theorem OR {C:Z6}{sg:Nat→Sg}{bd:Nat→Bd}(h:∀ f,SU C sg f (bd f)):∀ n f xs r,ZE sg bd n f xs=some r→run C n ((sg f).tk xs)=some r
 |0,f,xs,r,e=>by cases e
 |n+1,f,xs,r,e=>by
  have hf:=h f
  have e:(match bd f with
   | .n=>none
   | .p t=>bif K4 (sg f).hs xs then t.den sg (ZE sg bd n) [] (sg f).hs.length (fB (sg f).hs xs) else none
   | .o g=>match g xs with|some r=>some (true,r)|none=>none)=some r:=e
  cases hb:bd f with
  |n=>rw [hb] at e;cases e
  |p t=>
   rw [hb] at e hf
   simp only [] at e
   cases hn:K4 (sg f).hs xs with
   |false=>rw [hn] at e;cases e
   |true=>
    rw [hn,cond_true] at e
    have hx:LP (sg f).hs xs=xs:=oE (pre:=[]) hn
    have:=hf n xs
    rw [hx] at this
    rw [this]
    exact T5 (fun g ys y=>OR h n g ys y) t [] [] _ _ r rfl (fun k f f' h=>by simp at h) e
  |o g=>
   rw [hb] at e hf
   simp only [] at e
   split at e
   ·rename_i r' hr
    cases e
    exact hf _ _ hr n
   ·cases e
def dZ:List (List Bd)→Nat→List Bd
 |[],_=>[]
 |x::_,0=>x
 |_::r,n+1=>dZ r n
end Go.AE
namespace Go.AE
noncomputable def H9 {α:Type} (b:Bool) (x y:α):α:=@Bool.rec (fun _=>α) y x b
theorem U4 {α:Type}{b:Bool}{x y:α}:H9 b x y=cond b x y:=by cases b<;>rfl
noncomputable def pZ (x:D):Int:=D.casesOn (motive_1:=fun _=>Int) x 0 (fun _=>0) (fun _ n=>n) (fun _=>0) (fun _ _=>0) (fun _ _=>0) 0 (fun _=>0) (fun _=>0) 0 0 0 0 0 (fun _ _=>0) (fun _ _ _=>0)
noncomputable def ZD (x:D):List D:=D.casesOn (motive_1:=fun _=>List D) x [] (fun _=>[]) (fun _ _=>[]) (fun _=>[]) (fun _ l=>l) (fun _ _=>[]) [] (fun _=>[]) (fun _=>[]) [] [] [] [] [] (fun _ _=>[]) (fun _ _ _=>[])
noncomputable def EO (x:D):G0:=D.casesOn (motive_1:=fun _=>G0) x [] (fun _=>[]) (fun _ _=>[]) (fun s=>s) (fun _ _=>[]) (fun _ _=>[]) [] (fun _=>[]) (fun _=>[]) [] [] [] [] [] (fun _ _=>[]) (fun _ _ _=>[])
noncomputable def ZC (x:D):Bool:=D.casesOn (motive_1:=fun _=>Bool) x false (fun b=>b) (fun _ _=>false) (fun _=>false) (fun _ _=>false) (fun _ _=>false) false (fun _=>false) (fun _=>false) false false false false false (fun _ _=>false) (fun _ _ _=>false)
theorem OJ (x:D):pZ x=x.i:=by cases x<;>rfl
theorem Om (x:D):ZD x=x.l:=by cases x<;>rfl
theorem xG (x:D):EO x=x.s:=by cases x<;>rfl
theorem OI (x:D):ZC x=x.b:=by cases x<;>rfl
noncomputable def L3 {α:Type} (d:α) (l:List α):Nat→α:=List.rec (motive:=fun _=>Nat→α) (fun _=>d) (fun x _ ih k=>Nat.rec (motive:=fun _=>α) x (fun k _=>ih k) k) l
theorem vR:∀ (l:List D) (k:Nat),L3 .top l k=Y l k
 |[],k=>by cases k<;>rfl
 |x::l,0=>rfl
 |x::l,k+1=>vR l k
theorem PK:∀ (l:List D) (k:Nat),Y l k=l[k]?.getD .top
 |[],k=>by cases k<;>rfl
 |x::l,0=>rfl
 |x::l,k+1=>by
  show Y l k=_
  simpa using PK l k
noncomputable def P7 {α:Type} (l:List α):Nat:=List.rec (motive:=fun _=>Nat) 0 (fun _ _ n=>Nat.succ n) l
theorem P8 {α:Type}:∀ l:List α,P7 l=l.length
 |[]=>rfl
 |_::l=>congrArg Nat.succ (P8 l)
noncomputable def BV:G0→G0→Bool:=fun l=>List.rec (motive:=fun _=>G0→Bool) (fun m=>List.casesOn (motive:=fun _=>Bool) m true (fun _ _=>false))
 (fun x _ ih m=>List.casesOn (motive:=fun _=>Bool) m false (fun y r=>H9 (Nat.beq x.toNat y.toNat) (ih r) false)) l
theorem iP:∀ l m:G0,BV l m=(l==m)
 |[],[]=>rfl
 |[],_::_=>rfl
 |_::_,[]=>rfl
 |x::l,y::m=>by
  show H9 (Nat.beq x.toNat y.toNat) (BV l m) false=((x::l)==(y::m))
  rw [U4,iP l m,List.cons_beq_cons]
  by_cases e:x=y
  ·subst e;rw [beq_iff.2 rfl,F3];cases (l==m)<;>rfl
  ·have h1:Nat.beq x.toNat y.toNat=false:=beq_false fun h=>e (UInt8.toNat_inj.1 h)
   have h2:(x==y)=false:=by simpa using e
   rw [h1,h2];rfl
noncomputable def Wa (op:BinOp) (k:IntKind) (x y:D):D:=BinOp.casesOn (motive:=fun _=>D) op
 (.int k (k.wrap (pZ x+pZ y))) (.int k (k.wrap (pZ x-pZ y))) (.int k (k.wrap (pZ x*pZ y))) (iE .quo k x y) (iE .rem k x y) (iE .and k x y) (iE .or k x y) (iE .xor k x y)
 (iE .shl k x y) (iE .shr k x y) (iE .andNot k x y)
 (.bool (pZ x==pZ y)) (.bool (pZ x !=pZ y)) (.bool (decide (pZ x<pZ y))) (.bool (decide (pZ x≤pZ y))) (.bool (decide (pZ x>pZ y))) (.bool (decide (pZ x≥pZ y)))
theorem Ii (op:BinOp)(k:IntKind)(x y:D):Wa op k x y=iE op k x y:=by cases op<;>simp only [Wa,iE,OJ]
noncomputable def Xn (op:BinOp) (x y:D):D:=BinOp.casesOn (motive:=fun _=>D) op
 (.str (EO x++EO y)) (sE .sub x y) (sE .mul x y) (sE .quo x y) (sE .rem x y) (sE .and x y) (sE .or x y) (sE .xor x y)
 (sE .shl x y) (sE .shr x y) (sE .andNot x y)
 (.bool (BV (EO x) (EO y))) (sE .neq x y) (sE .lss x y) (sE .leq x y) (sE .gtr x y) (sE .geq x y)
theorem Ly (op:BinOp)(x y:D):Xn op x y=sE op x y:=by cases op<;>simp only [Xn,sE,xG,iP]
noncomputable def nP (x:D):List D:=D.casesOn (motive_1:=fun _=>List D) x [x] (fun _=>[x]) (fun _ _=>[x]) (fun _=>[x]) (fun _ _=>[x]) (fun _ _=>[x]) [x] (fun cs=>cs) (fun _=>[x]) [x] [x] [x] [x] [x] (fun _ _=>[x]) (fun _ _ _=>[x])
theorem RC (x:D):nP x=x.cells:=by cases x<;>rfl
noncomputable def oZ {α:Type} (l m:List α):List α:=List.rec (motive:=fun _=>List α) m (fun x _ ih=>x::ih) l
theorem vF {α:Type}:∀ l m:List α,oZ l m=l++m
 |[],_=>rfl
 |x::l,m=>congrArg (x::·) (vF l m)
noncomputable def E.ev (V:Nat→D) (e:E):D:=E.rec (motive:=fun _=>D)
 (fun i=>V i) (fun x=>x) (fun _ j x=>L3 .top (nP x) j) (fun _ off n x=>GX x off n true) (fun _ off _ x y=>KI x off y)
 (fun op k _ _ x y=>Wa op k x y) (fun k _ x=> .int k (k.wrap (pZ x)))
 (fun k _ x=> .int k (k.wrap (BitVec.ofInt k.bits (if k.signed then -1 else k.max) ^^^ BitVec.ofInt k.bits x.i).toNat))
 (fun k _ _ x y=> .int k (max (pZ x) (pZ y))) (fun k _ _ x y=> .int k (min (pZ x) (pZ y)))
 (fun op _ _ x y=>Xn op x y) (fun op _ _ x y=>bE op x y) (fun _ x=> .bool (H9 (ZC x) false true)) (fun _ _ x y=> .bool (H9 (ZC x) (ZC y) false)) (fun op _ _ x y=>wE op x y)
 (fun _ x=> .int .i64 (P7 (ZD x):Nat)) (fun _ x=> .int .i64 (P7 (EO x):Nat)) (fun _ x=> .bool x.l.isEmpty)
 (fun _ _ x y=> .bool (Nat.ble (P7 (ZD x)+P7 (ZD y)) M4)) (fun _ _ x y=> .bool (decide (P7 (EO x)+P7 (EO y)≤sL)))
 (fun sz _ _ x y=> .Z sz (oZ (ZD x) (ZD y))) (fun sz _ _ _ x i y=> .Z sz (x.l.set i.i.toNat y)) (fun sz _ _ n x=> .Z sz (List.replicate n.i.toNat x))
 (fun sz _ _ _ x lo hi=> .Z sz ((x.l.drop lo.i.toNat).take (hi.i.toNat-lo.i.toNat))) (fun sz _ _ x hi=> .Z sz (x.l.take hi.i.toNat))
 (fun sz _ _ x y=> .Z sz (y.l.take x.l.length++x.l.drop y.l.length)) (fun _ _ x y=> .int .i64 (min y.l.length x.l.length:Nat))
 (fun sz _ _ _ _ x lo n y=> .Z sz (x.l.take lo.i.toNat++List.replicate n.i.toNat y++x.l.drop (lo.i.toNat+n.i.toNat)))
 (fun sz _ _ x y=> .Z sz (x::ZD y)) (fun _ _ _ x lo hi=> .str ((x.s.drop lo.i.toNat).take (hi.i.toNat-lo.i.toNat)))
 (fun _ _ x i=>L3 .top (ZD x) (pZ i).toNat) (fun _ _ x i=> .int .u8 (L3 0 (EO x) (pZ i).toNat).toNat)
 (fun _ _ x y=> .agg (x::nP y)) (fun _ _ x y=> .agg (oZ (nP x) (nP y)))
 (fun _ _ x y=> .int .i64 (x.i.toNat+y.i.toNat:Nat)) (fun _ _ x y=> .int .i64 (x.i.toNat-y.i.toNat:Nat)) (fun _ m x=> .bool (Nat.beq x.i.toNat m))
 (fun t _ x=> .iface t x) (fun _ x=>x.Uq) (fun t nm _ x=> .meth t nm x)
 (fun _ x=> .str (x.l.map toByte)) (fun _ x=> .Z 1 (Eo x.s)) (fun _ x=> .bool (mC x.l)) (fun _ x=> .bool (eV x.l)) (fun _ x=> .str [UInt8.ofNat x.i.toNat])
 (fun _ x=> .bool (O9 x)) (fun _ x=> .bool (jW x)) (fun t _ x=> .bool (eG t x))
 (fun _ _ x y=> .int .i64 (Z9 y.i.toNat.toUInt8 x.s 0)) (fun sz _ x=> .Z sz (ZD x)) (fun _ _ x y=> .bool (Nat.blt x.i.toNat y.l.length)) (fun _ x=> .bool (decide (x.i=0)))
 (fun _ _ x y=> .bool (Nat.ble (x.l.length+y.s.length) M4)) (fun _ _ x y=> .bool (Nat.ble x.i.toNat y.l.length))
 (fun _ _ _ x y z=> .int .u64 ((x.i+y.i+z.i) % 18446744073709551616)) (fun _ _ _ x y z=> .int .u64 ((x.i+y.i+z.i) / 18446744073709551616))
 (fun _ _ _ z x y=>getM z x y.l) (fun _ _ x y=> .bool (LW x y.l)) (fun _ _ _ x y z=> .Z 2 (zL x y z.l)) (fun _ _ x y=> .bool (D.eq x y))
 e
theorem fI {α:Type}(d:α):∀ (l:List α) (k:Nat),L3 d l k=l[k]?.getD d
 |[],k=>by cases k<;>rfl
 |x::l,0=>rfl
 |x::l,k+1=>by
  show L3 d l k=_
  simpa using fI d l k
theorem Ab {b:Bool}:H9 b false true=!b:=by cases b<;>rfl
theorem vH {b c:Bool}:H9 b c false=(b&&c):=by cases b<;>rfl
theorem E.BX (V:Nat→D)(e:E):e.ev V=e.den V:=by
 simp only [E.ev,E.den,Ii,Ly,OJ,Om,xG,OI,RC,P8,vF,fI,Ab,vH,D.at_]
noncomputable def Fp (a b:IntKind):Bool:=IntKind.casesOn (motive:=fun _=>Bool) a
 (IntKind.casesOn (motive:=fun _=>Bool) b true false false false false false false false) (IntKind.casesOn (motive:=fun _=>Bool) b false true false false false false false false)
 (IntKind.casesOn (motive:=fun _=>Bool) b false false true false false false false false) (IntKind.casesOn (motive:=fun _=>Bool) b false false false true false false false false)
 (IntKind.casesOn (motive:=fun _=>Bool) b false false false false true false false false) (IntKind.casesOn (motive:=fun _=>Bool) b false false false false false true false false)
 (IntKind.casesOn (motive:=fun _=>Bool) b false false false false false false true false) (IntKind.casesOn (motive:=fun _=>Bool) b false false false false false false false true)
theorem sI (a b:IntKind):Fp a b=decide (a=b):=by cases a<;>cases b<;>rfl
noncomputable def kI (k:IntKind) (x:D):Bool:=D.casesOn (motive_1:=fun _=>Bool) x false (fun _=>false) (fun k' _=>Fp k k') (fun _=>false) (fun _ _=>false) (fun _ _=>false) false (fun _=>false) (fun _=>false) false false false false false (fun _ _=>false) (fun _ _ _=>false)
noncomputable def kB (x:D):Bool:=D.casesOn (motive_1:=fun _=>Bool) x false (fun _=>true) (fun _ _=>false) (fun _=>false) (fun _ _=>false) (fun _ _=>false) false (fun _=>false) (fun _=>false) false false false false false (fun _ _=>false) (fun _ _ _=>false)
noncomputable def kS (x:D):Bool:=D.casesOn (motive_1:=fun _=>Bool) x false (fun _=>false) (fun _ _=>false) (fun _=>true) (fun _ _=>false) (fun _ _=>false) false (fun _=>false) (fun _=>false) false false false false false (fun _ _=>false) (fun _ _ _=>false)
noncomputable def kL (n:Nat) (x:D):Bool:=D.casesOn (motive_1:=fun _=>Bool) x false (fun _=>false) (fun _ _=>false) (fun _=>false) (fun m _=>Nat.beq n m) (fun _ _=>false) false (fun _=>false) (fun _=>false) false false false false false (fun _ _=>false) (fun _ _ _=>false)
noncomputable def Uv (t:Y2) (x:D):Bool:=Y2.casesOn (motive:=fun _=>Bool) t true (kB x) (fun k=>kI k x) (kS x) (fun n=>kL n x)
theorem WM (t:Y2)(x:D):Uv t x=vB t x:=by
 cases t<;>cases x<;>first|rfl|exact sI _ _
noncomputable def Bp (ts:List Y2):List D→Bool:=List.rec (motive:=fun _=>List D→Bool) (fun cs=>List.casesOn (motive:=fun _=>Bool) cs true (fun _ _=>false))
 (fun t _ ih cs=>List.casesOn (motive:=fun _=>Bool) cs false (fun c r=>H9 (Uv t c) (ih r) false)) ts
theorem PI:∀ (ts:List Y2) (cs:List D),Bp ts cs=kW ts cs
 |[],[]=>rfl
 |[],_::_=>rfl
 |_::_,[]=>rfl
 |t::ts,c::cs=>by
  show H9 (Uv t c) (Bp ts cs) false=(vB t c&&kW ts cs)
  rw [vH,WM,PI ts cs]
noncomputable def nF (t:Ty) (x:D):Bool:=Ty.casesOn (motive:=fun _=>Bool) t (fun l=>Uv l x) (fun ts=>H9 (jW x) (Bp ts (nP x)) false) (fun a ts=>WO (.ifc a ts) x)
theorem Ft (t:Ty)(x:D):nF t x=WO t x:=by
 cases t with
 |leaf l=>exact WM l x
 |agg ts=>
  show H9 (jW x) (Bp ts (nP x)) false=_
  rw [vH]
  cases x<;>first|rfl|exact PI _ _
 |ifc a ts=>rfl
noncomputable def nA (hs:List Ty):List D→Bool:=List.rec (motive:=fun _=>List D→Bool) (fun cs=>List.casesOn (motive:=fun _=>Bool) cs true (fun _ _=>false))
 (fun t _ ih cs=>List.casesOn (motive:=fun _=>Bool) cs false (fun c r=>H9 (nF t c) (ih r) false)) hs
theorem PH:∀ (hs:List Ty) (cs:List D),nA hs cs=K4 hs cs
 |[],[]=>rfl
 |[],_::_=>rfl
 |_::_,[]=>rfl
 |t::ts,c::cs=>by
  show H9 (nF t c) (nA ts cs) false=(WO t c&&K4 ts cs)
  rw [vH,Ft,PH ts cs]
theorem jA {t:Ty}{x:D}(h:WO t x=true):eG t x=true:=by
 have hl:∀ {t:Y2} {x:D},vB t x=true→M0 t x=true:=by
  intro t x h
  cases t<;>cases x<;>first|rfl|exact h|(simp [vB] at h)
 have hls:∀ {ts:List Y2} {cs:List D},kW ts cs=true→K1 ts cs=true:=by
  intro ts
  induction ts with
  |nil=>intro cs h;cases cs<;>first|rfl|cases h
  |cons t ts ih=>
   intro cs h
   cases cs with
   |nil=>cases h
   |cons c cs=>
    simp only [kW,A9] at h
    simp only [K1,hl h.1,ih h.2,Bool.and_self]
 unfold WO at h
 split at h
 ·exact hl h
 ·exact hls h
 ·rw [A9] at h
  simp only [eG,h.1,hls h.2,Bool.and_self]
 ·cases h
theorem V6:∀ {a b:List Ty} {r:List D},K4 (a++b) r=true→∃ r1 r2,r=r1++r2∧K4 a r1=true∧K4 b r2=true
 |[],b,r,h=>⟨[],r,rfl,rfl,h⟩
 |t::a,b,[],h=>by cases h
 |t::a,b,x::r,h=>by
  simp only [List.cons_append,K4,A9] at h
  obtain⟨r1,r2,e,h1,h2⟩:=V6 h.2
  exact⟨x::r1,r2,by rw [e];rfl,by simp only [K4,h.1,h1,Bool.and_self],h2⟩
theorem mB {t:Ty}{r:List D}(h:K4 [t] r=true):∃ x,r=[x]∧WO t x=true:=by
 cases r with
 |nil=>cases h
 |cons x r=>
  simp only [K4,A9] at h
  cases r with
  |nil=>exact⟨x,rfl,h.1⟩
  |cons _ _=>cases h.2
theorem iZ {r:List D}(h:K4 [] r=true):r=[]:=by cases r<;>first|rfl|cases h
theorem HY {s:SV}{r r2:List D}(h:K4 (Zv s) r=true):U3 s (r++r2)=(true,r2):=by
 cases s with
 |d t=>
  obtain⟨x,rfl,hx⟩:=mB h
  simp only [U3,List.singleton_append,jA hx]
 |_=>rw [iZ h];rfl
theorem kG:∀ {ss:List SV} {r r2:List D},K4 (Ea ss) r=true→W3 ss (r++r2)=(true,r2)
 |[],r,r2,h=>by rw [iZ h];rfl
 |s::ss,r,r2,h=>by
  obtain⟨a,b,rfl,h1,h2⟩:=V6 h
  simp only [W3,C1,HY h1,kG h2,Bool.and_self]
theorem HZ {s:SV}{r r2:List D}(h:K4 (Mf s) r=true):uZ s (r++r2)=(true,r2):=by
 cases s with
 |d t=>
  obtain⟨x,rfl,hx⟩:=mB h
  simp only [uZ,U3,List.singleton_append,jA hx]
 |fn f cs=>exact kG h
 |agg cs=>exact kG h
 |_=>rw [iZ h];rfl
theorem pO:∀ {ss:List SV} {r r2:List D},K4 (Mg ss) r=true→aX ss (r++r2)=(true,r2)
 |[],r,r2,h=>by rw [iZ h];rfl
 |s::ss,r,r2,h=>by
  obtain⟨a,b,rfl,h1,h2⟩:=V6 h
  simp only [aX,C1,HZ h1,pO h2,Bool.and_self]
theorem pQ:∀ {ss:List (Nat×SV)} {r r2:List D},K4 (YH ss) r=true→cY ss (r++r2)=(true,r2)
 |[],r,r2,h=>by rw [iZ h];rfl
 |(i,s)::ss,r,r2,h=>by
  obtain⟨a,b,rfl,h1,h2⟩:=V6 h
  simp only [cY,C1,HZ h1,pQ h2,Bool.and_self]
theorem aD:∀ {os:List eQ} {r:List D},K4 (Fu os) r=true→P6 os r=true
 |[],r,h=>by rw [iZ h];rfl
 | .gone::os,r,h=>by simp only [P6];exact aD (os:=os) h
 | .var cs::os,r,h=>by
  obtain⟨a,b,rfl,h1,h2⟩:=V6 h
  simp only [P6,pO h1,aD h2,Bool.and_self]
 | .row _ sz _::os,r,h=>by
  obtain⟨a,b,rfl,h1,h2⟩:=V6 (a:=[.leaf (.Z sz)]) h
  obtain⟨x,rfl,hx⟩:=mB h1
  simp only [P6,List.singleton_append,aD h2,Bool.and_true]
  exact jA hx
 | .mp _::os,r,h=>by
  obtain⟨a,b,rfl,h1,h2⟩:=V6 (a:=[.leaf (.Z 2)]) h
  obtain⟨x,rfl,hx⟩:=mB h1
  simp only [P6,List.singleton_append,aD h2,Bool.and_true]
  exact jA hx
 | .nst ..::os,r,h=>by
  obtain⟨a,b,rfl,h1,h2⟩:=V6 (a:=[.leaf (.Z 1)]) h
  obtain⟨x,rfl,hx⟩:=mB h1
  simp only [P6,List.singleton_append,aD h2,Bool.and_true]
  exact jA hx
 | .it ..::os,r,h=>by
  obtain⟨a,b,rfl,h1,h2⟩:=V6 (a:=[.leaf (.Z 0)]) h
  obtain⟨x,rfl,hx⟩:=mB h1
  simp only [P6,List.singleton_append,aD h2,Bool.and_true]
  exact jA hx
theorem iN {sk:Sk}{r:List D}(h:K4 (I5 sk) r=true):aL sk r=true:=by
 obtain⟨a,b,rfl,h1,h2⟩:=V6 h
 simp only [aL,pQ h1,aD h2,Bool.and_self]
theorem mA:∀ {hs:List Ty} {r:List D},K4 hs r=true→∀ j,fB hs r j=Y r j
 |[],r,h,j=>by rw [iZ h];cases j<;>rfl
 |t::hs,[],h,j=>by cases h
 |t::hs,x::r,h,0=>by
  simp only [K4,A9] at h
  exact vQ h.1
 |t::hs,x::r,h,j+1=>by
  simp only [K4,A9] at h
  exact mA h.2 j
noncomputable def Dw (V:Nat→D) (i n:Nat):List D:=Nat.rec (motive:=fun _=>Nat→List D) (fun _=>[]) (fun _ ih i=>V i::ih (Nat.succ i)) n i
theorem QD (V:Nat→D):∀ (n i:Nat),Dw V i n=Sv V i n
 |0,_=>rfl
 |n+1,i=>congrArg (V i::·) (QD V n (i+1))
noncomputable def Uk (V:Nat→D) (es:List Ar):List D:=List.rec (motive:=fun _=>List D) [] (fun a _ ih=>Ar.casesOn (motive:=fun _=>List D) a (fun x=>x.ev V::ih) (fun i n=>oZ (Dw V i n) ih)) es
theorem nM (V:Nat→D):∀ es:List Ar,Uk V es=pC V es
 |[]=>rfl
 | .e x::es=>by
  show x.ev V::Uk V es=x.den V::pC V es
  rw [E.BX,nM V es]
 | .r i n::es=>by
  show oZ (Dw V i n) (Uk V es)=Sv V i n++pC V es
  rw [vF,QD,nM V es]
noncomputable def jS (V:Nat→D) (n:Nat) (r:List D):Nat→D:=fun i=>H9 (Nat.ble n i) (L3 .top r (Nat.sub i n)) (V i)
theorem mI {V:Nat→D}{n:Nat}{hs:List Ty}{r:List D}(h:K4 hs r=true):jS V n r=S3 V n hs r:=by
 funext i
 unfold jS S3
 rw [U4,vR]
 by_cases hi:i<n
 ·have h1:Nat.ble n i=false:=by cases hb:Nat.ble n i with|false=>rfl|true=>have:=B3 hb;omega
  have h2:Nat.blt i n=true:=B2 hi
  rw [h1,h2];rfl
 ·have h1:Nat.ble n i=true:=B2 (by omega)
  have h2:Nat.blt i n=false:=by cases hb:Nat.blt i n with|false=>rfl|true=>have hb:Nat.ble (i+1) n=true:=hb;have:=B3 hb;omega
  rw [h1,h2,cond_true,cond_false,mA h];rfl
theorem qZ {V:Nat→D}{n:Nat}{r:List D}:jS V n r=iD V n r:=by
 funext i
 unfold jS iD
 rw [U4,vR]
 by_cases hi:i<n
 ·have h1:Nat.ble n i=false:=by cases hb:Nat.ble n i with|false=>rfl|true=>have:=B3 hb;omega
  have h2:Nat.blt i n=true:=B2 hi
  rw [h1,h2];rfl
 ·have h1:Nat.ble n i=true:=B2 (by omega)
  have h2:Nat.blt i n=false:=by cases hb:Nat.blt i n with|false=>rfl|true=>have hb:Nat.ble (i+1) n=true:=hb;have:=B3 hb;omega
  rw [h1,h2];rfl
noncomputable def CY (V:Nat→D) (n:Nat) (x:D):Nat→D:=fun i=>H9 (Nat.ble n i) x (V i)
theorem JV {V:Nat→D}{n:Nat}{x:D}:CY V n x=push V n x:=by
 funext i
 unfold CY push
 rw [U4]
 by_cases hi:i<n
 ·have h1:Nat.ble n i=false:=by cases hb:Nat.ble n i with|false=>rfl|true=>have:=B3 hb;omega
  have h2:Nat.blt i n=true:=B2 hi
  rw [h1,h2];rfl
 ·have h1:Nat.ble n i=true:=B2 (by omega)
  have h2:Nat.blt i n=false:=by cases hb:Nat.blt i n with|false=>rfl|true=>have hb:Nat.ble (i+1) n=true:=hb;have:=B3 hb;omega
  rw [h1,h2];rfl
noncomputable def bC (r:Out) (k:List D→Out):Out:=Option.rec (motive:=fun _=>Out) none (fun p=>Prod.rec (motive:=fun _=>Out) (fun b ds=>H9 b (k ds) none) p) r
theorem Nz (r:Out)(k:List D→Out):bC r k=bT r k:=by
 rcases r with _|⟨b,ds⟩
 ·rfl
 ·cases b<;>rfl
noncomputable def bL (r:Out) (k:List D→Out):Out:=Option.rec (motive:=fun _=>Out) none (fun p=>Prod.rec (motive:=fun _=>Out) (fun b ds=>H9 b (some (true,ds)) (k ds)) p) r
theorem Oa (r:Out)(k:List D→Out):bL r k=cX r k:=by
 rcases r with _|⟨b,ds⟩
 ·rfl
 ·cases b<;>rfl
noncomputable def xY {α R:Type} (l:List α):(List α→R)→R:=List.rec (motive:=fun _=>(List α→R)→R) (fun K=>K []) (fun x _ ih K=>ih fun r=>K (x::r)) l
theorem qF {α R:Type}:∀ (l:List α) (K:List α→R),xY l K=K l
 |[],_=>rfl
 |x::l,K=>qF l fun r=>K (x::r)
noncomputable def Ib {R:Type} (x:D) (K:D→R):R:=D.casesOn (motive_1:=fun _=>R) x (K .top) (fun b=>H9 b (K (.bool true)) (K (.bool false))) (fun k n=>K (.int k n)) (fun s=>K (.str s)) (fun sz l=>K (.Z sz l)) (fun a b=>K (.nils a b)) (K .und) (fun cs=>K (.agg cs)) (fun f=>K (.fn f)) (K .nilp) (K .nilf) (K .nilm) (K .nili) (K .ub) (fun t x=>K (.iface t x)) (fun t n x=>K (.meth t n x))
theorem Aq {R:Type}(x:D)(K:D→R):Ib x K=K x:=by
 cases x<;>first|rfl|(rename_i b;cases b<;>rfl)
noncomputable def As {R:Type} (l:List D):(List D→R)→R:=List.rec (motive:=fun _=>(List D→R)→R) (fun K=>K []) (fun x _ ih K=>Ib x fun d=>ih fun r=>K (d::r)) l
theorem EZ {R:Type}:∀ (l:List D) (K:List D→R),As l K=K l
 |[],_=>rfl
 |x::l,K=>by
  show Ib x (fun d=>As l fun r=>K (d::r))=_
  rw [Aq,EZ]
noncomputable def Pb {R:Type} (x:D) (K:D→R):R:=D.casesOn (motive_1:=fun _=>R) x (K .top) (fun b=>H9 b (K (.bool true)) (K (.bool false))) (fun k n=>K (.int k n)) (fun s=>K (.str s)) (fun sz l=>K (.Z sz l)) (fun a b=>K (.nils a b)) (K .und) (fun cs=>As cs fun cs=>K (.agg cs)) (fun f=>K (.fn f)) (K .nilp) (K .nilf) (K .nilm) (K .nili) (K .ub) (fun t x=>K (.iface t x)) (fun t n x=>K (.meth t n x))
theorem VH {R:Type}(x:D)(K:D→R):Pb x K=K x:=by
 cases x<;>first|rfl|exact EZ _ _|(rename_i b;cases b<;>rfl)
noncomputable def Pa {R:Type} (x:D) (K:D→R):R:=D.casesOn (motive_1:=fun _=>R) x (K .top) (fun b=>H9 b (K (.bool true)) (K (.bool false))) (fun k n=>K (.int k n)) (fun s=>xY s fun s=>K (.str s)) (fun sz l=>xY l fun l=>K (.Z sz l)) (fun a b=>K (.nils a b)) (K .und) (fun cs=>As cs fun cs=>K (.agg cs)) (fun f=>K (.fn f)) (K .nilp) (K .nilf) (K .nilm) (K .nili) (K .ub) (fun t x=>K (.iface t x)) (fun t n x=>K (.meth t n x))
theorem VE {R:Type}(x:D)(K:D→R):Pa x K=K x:=by
 cases x<;>first|rfl|exact qF _ _|exact EZ _ _|(rename_i b;cases b<;>rfl)
noncomputable def Dx {R:Type} (V:Nat→D) (i n:Nat):(List D→R)→R:=Nat.rec (motive:=fun _=>Nat→(List D→R)→R) (fun _ K=>K []) (fun _ ih i K=>Pb (V i) fun d=>ih (Nat.succ i) fun r=>K (d::r)) n i
theorem QE {R:Type}(V:Nat→D):∀ (n i:Nat) (K:List D→R),Dx V i n K=K (Dw V i n)
 |0,_,_=>rfl
 |n+1,i,K=>by
  show Pb (V i) (fun d=>Dx V (i+1) n fun r=>K (d::r))=_
  rw [VH,QE V n];rfl
noncomputable def QX {R:Type} (V:Nat→D) (es:List Ar):(List D→R)→R:=List.rec (motive:=fun _=>(List D→R)→R) (fun K=>K []) (fun a _ ih K=>Ar.casesOn (motive:=fun _=>R) a (fun x=>Pb (x.ev V) fun d=>ih fun r=>K (d::r)) (fun i n=>Dx V i n fun l=>ih fun r=>K (oZ l r))) es
theorem nN {R:Type}(V:Nat→D):∀ (es:List Ar) (K:List D→R),QX V es K=K (Uk V es)
 |[],_=>rfl
 | .e x::es,K=>by
  show Pb (x.ev V) (fun d=>QX V es fun r=>K (d::r))=_
  rw [VH,nN V es];rfl
 | .r i n::es,K=>by
  show Dx V i n (fun l=>QX V es fun r=>K (oZ l r))=_
  rw [QE,nN V es];rfl
noncomputable def T.ev (ho:Nat→List Ty) (hn:Nat→Nat) (sg:Nat→Sg) (rec:Nat→List D→Out) (x:T):List (List D→Out)→Nat→(Nat→D)→Out:=T.rec (motive:=fun _=>List (List D→Out)→Nat→(Nat→D)→Out)
 (fun _ _ _=>none)
 (fun b es _ _ V=>QX V es fun ds=>some (b,ds))
 (fun c _ _ x y J n V=>H9 (ZC (c.ev V)) (x J n V) (y J n V))
 (fun c _ x J n V=>H9 (ZC (c.ev V)) (x J n V) none)
 (fun ty e _ x J n V=>Pa (e.ev V) fun d=>H9 (V9 ty) (H9 (nF ty d) (x J (Nat.succ n) (CY V n d)) none) none)
 (fun e _ x J n V=>Pa (e.ev V) fun d=>x J (Nat.succ n) (CY V n d))
 (fun p f es _ x J n V=>bC (QX V es (rec f)) fun r=>H9 (nA (ho f) r) (H9 p (H9 (U5 (sg f).ro r) (x J (Nat.add n (hn f)) (jS V n r)) none) (x J (Nat.add n (hn f)) (jS V n r))) none)
 (fun f es _ x J n V=>bL (QX V es (rec f)) fun r=>H9 (nA (ho f) r) (x J (Nat.add n (hn f)) (jS V n r)) none)
 (fun f es _ _ V=>QX V es (rec f))
 (fun _ _ x y J n V=>AE.agree (x J n V) (y J n V))
 (fun _ _ b x J n V=>x ((fun xs=>b J (Nat.add n (P7 xs)) (jS V n xs))::J) n V)
 (fun k es J _ V=>QX V es (yM J k))
 x
theorem gW {c:Bool}{a:Out}{x:Bool×List D}(h:H9 c a none=some x):c=true∧a=some x:=by
 cases c with
 |true=>exact⟨rfl,h⟩
 |false=>cases h
theorem cB {ho:Nat→List Ty}{hn:Nat→Nat}{sg:Nat→Sg}(hho:∀ f,ho f=I5 (sg f).ro)(hhn:∀ f,hn f=(I5 (sg f).ro).length){rec rec':Nat→List D→Out}(hr:∀ f xs y,rec f xs=some y→rec' f xs=some y):∀ (t:T) (J J':List (List D→Out)) (n:Nat) (V:Nat→D) (x:Bool×List D),
  J.length=J'.length→(∀ (k:Nat) (f f':List D→Out),J[k]? = some f→J'[k]? = some f'→∀ ys x,f ys=some x→f' ys=some x)→t.ev ho hn sg rec J n V=some x→t.den sg rec' J' n V=some x
 | .no,J,J',n,V,x,_,_,h=>h
 | .ret b es,J,J',n,V,x,_,_,h=>by
  have h:QX V es (fun ds=>some (b,ds))=some x:=h
  rw [nN,nM] at h;exact h
 | .i cc a b,J,J',n,V,x,hl,hJ,h=>by
  have h:H9 (ZC (cc.ev V)) (a.ev ho hn sg rec J n V) (b.ev ho hn sg rec J n V)=some x:=h
  rw [OI,E.BX,U4] at h
  exact cW (cB hho hhn hr a J J' n V x hl hJ) (cB hho hhn hr b J J' n V x hl hJ) h
 | .g cc a,J,J',n,V,x,hl,hJ,h=>by
  have h:H9 (ZC (cc.ev V)) (a.ev ho hn sg rec J n V) none=some x:=h
  rw [OI,E.BX,U4] at h
  exact cW (cB hho hhn hr a J J' n V x hl hJ) (fun h=>h) h
 | .t ty e a,J,J',n,V,x,hl,hJ,h=>by
  have h:Pa (e.ev V) (fun d=>H9 (V9 ty) (H9 (nF ty d) (a.ev ho hn sg rec J (n+1) (CY V n d)) none) none)=some x:=h
  rw [VE] at h
  obtain⟨h1,h⟩:=gW h
  obtain⟨h2,h⟩:=gW h
  rw [Ft,E.BX] at h2
  rw [JV,E.BX] at h
  show (bif V9 ty&&eG ty (e.den V) then a.den sg rec' J' (n+1) (push V n (L0 ty (e.den V))) else none)=some x
  rw [h1,jA h2,vQ h2]
  exact cB hho hhn hr a J J' _ _ x hl hJ h
 | .l e a,J,J',n,V,x,hl,hJ,h=>by
  have h:Pa (e.ev V) (fun d=>a.ev ho hn sg rec J (n+1) (CY V n d))=some x:=h
  rw [VE,JV,E.BX] at h
  exact cB hho hhn hr a J J' _ _ x hl hJ h
 | .c p f es a,J,J',n,V,x,hl,hJ,h=>by
  have h:bC (QX V es (rec f)) (fun r=>H9 (nA (ho f) r) (H9 p (H9 (U5 (sg f).ro r) (a.ev ho hn sg rec J (n+hn f) (jS V n r)) none) (a.ev ho hn sg rec J (n+hn f) (jS V n r))) none)=some x:=h
  rw [Nz,nN,nM] at h
  refine wP (hr f _) (fun r h=>?_) h
  obtain⟨h1,h⟩:=gW h
  rw [PH,hho] at h1
  rw [mI h1,hhn] at h
  show (bif (bif p then aL (sg f).ro r&&U5 (sg f).ro r else aL (sg f).ro r) then a.den sg rec' J' (n+(I5 (sg f).ro).length) (S3 V n (I5 (sg f).ro) r) else none)=some x
  rw [iN h1]
  cases p with
  |true=>
   have h:H9 (U5 (sg f).ro r) (a.ev ho hn sg rec J (n+(I5 (sg f).ro).length) (S3 V n (I5 (sg f).ro) r)) none=some x:=h
   obtain⟨h2,h⟩:=gW h
   rw [h2]
   exact cB hho hhn hr a J J' _ _ x hl hJ h
  |false=>exact cB hho hhn hr a J J' _ _ x hl hJ h
 | .o f es a,J,J',n,V,x,hl,hJ,h=>by
  have h:bL (QX V es (rec f)) (fun r=>H9 (nA (ho f) r) (a.ev ho hn sg rec J (n+hn f) (jS V n r)) none)=some x:=h
  rw [Oa,nN,nM] at h
  refine wQ (hr f _) (fun r h=>?_) h
  obtain⟨h1,h⟩:=gW h
  rw [PH,hho] at h1
  rw [mI h1,hhn] at h
  show (bif aL (sg f).ro r then a.den sg rec' J' (n+(I5 (sg f).ro).length) (S3 V n (I5 (sg f).ro) r) else none)=some x
  rw [iN h1]
  exact cB hho hhn hr a J J' _ _ x hl hJ h
 | .tl f es,J,J',n,V,x,hl,hJ,h=>by
  have h:QX V es (rec f)=some x:=h
  rw [nN,nM] at h
  exact hr f _ _ h
 | .ag a b,J,J',n,V,x,hl,hJ,h=>wL (fun y=>cB hho hhn hr a J J' n V y hl hJ) (fun y=>cB hho hhn hr b J J' n V y hl hJ) h
 | .j b a,J,J',n,V,x,hl,hJ,h=>cB hho hhn hr a ((fun xs=>b.ev ho hn sg rec J (n+P7 xs) (jS V n xs))::J) ((fun xs=>b.den sg rec' J' (n+xs.length) (iD V n xs))::J') n V x (by simp [hl]) (fun k f f' h1 h2=>by
   cases k with
   |zero=>
    simp only [List.getElem?_cons_zero,B1] at h1 h2
    subst h1;subst h2
    intro ys y hy
    simp only [P8,qZ] at hy
    exact cB hho hhn hr b J J' _ _ y hl hJ hy
   |succ k=>exact hJ k f f' (by simpa using h1) (by simpa using h2)) h
 | .jp k es,J,J',n,V,x,hl,hJ,h=>by
  have h:QX V es (yM J k)=some x:=h
  rw [nN,nM] at h
  exact yN hl hJ h
noncomputable def Vw (hi ho:Nat→List Ty) (hm hn:Nat→Nat) (sg:Nat→Sg) (bd:Nat→Bd):Nat→Nat→List D→Out:=Nat.rec (fun _ _=>none)
 (fun _ ih f xs=>Bd.casesOn (motive:=fun _=>Out) (bd f) none (fun t=>H9 (nA (hi f) xs) (t.ev ho hn sg ih [] (hm f) (fun i=>L3 .top xs i)) none) (fun g=>Option.rec (motive:=fun _=>Out) none (fun r=>some (true,r)) (g xs)))
theorem OS {hi ho:Nat→List Ty}{hm hn:Nat→Nat}{sg:Nat→Sg}{bd:Nat→Bd}(hhi:∀ f,hi f=(sg f).hs)(hho:∀ f,ho f=I5 (sg f).ro)(hhm:∀ f,hm f=(sg f).hs.length)(hhn:∀ f,hn f=(I5 (sg f).ro).length):∀ n f xs r,Vw hi ho hm hn sg bd n f xs=some r→ZE sg bd n f xs=some r
 |0,f,xs,r,e=>by cases e
 |n+1,f,xs,r,e=>by
  have e:Bd.casesOn (motive:=fun _=>Out) (bd f) none (fun t=>H9 (nA (hi f) xs) (t.ev ho hn sg (Vw hi ho hm hn sg bd n) [] (hm f) (fun i=>L3 .top xs i)) none) (fun g=>Option.rec (motive:=fun _=>Out) none (fun r=>some (true,r)) (g xs))=some r:=e
  show (match bd f with
   | .n=>none
   | .p t=>bif K4 (sg f).hs xs then t.den sg (ZE sg bd n) [] (sg f).hs.length (fB (sg f).hs xs) else none
   | .o g=>match g xs with|some r=>some (true,r)|none=>none)=some r
  cases hb:bd f with
  |n=>rw [hb] at e;cases e
  |p t=>
   rw [hb] at e
   obtain⟨h1,e⟩:=gW e
   rw [PH,hhi] at h1
   have hV:(fun i=>L3 .top xs i)=fB (sg f).hs xs:=by
    funext i
    rw [vR,mA h1]
   rw [hV,hhm] at e
   simp only [h1,cond_true]
   exact cB hho hhn (fun g ys y=>OS hhi hho hhm hhn n g ys y) t [] [] _ _ r rfl (fun k f f' h=>by simp at h) e
  |o g=>
   rw [hb] at e
   simp only []
   cases hg:g xs with
   |none=>simp only [hg] at e;cases e
   |some r'=>simp only [hg] at e;exact e
end Go.AE
namespace Go.AE.Q
mutual
def bR:D→Nat
 | .agg cs=>bP cs+1
 | .Z _ xs=>bP xs+1
 | .str s=>s.length+1
 |_=>1
def bP:List D→Nat
 |[]=>0
 |x::l=>bR x+bP l+1
end
noncomputable def Y3 {R:Type} (n:Nat) (K:Nat→R):R:=Nat.rec (motive:=fun _=>R) (K 0) (fun m _=>K (Nat.succ m)) n
theorem N9 {R:Type}(n:Nat)(K:Nat→R):Y3 n K=K n:=by cases n<;>rfl
noncomputable def Up {R:Type} (i:Int) (K:Int→R):R:=Int.rec (motive:=fun _=>R) (fun n=>Y3 n fun n=>K (Int.ofNat n)) (fun n=>Y3 n fun n=>K (Int.negSucc n)) i
theorem VC {R:Type}(i:Int)(K:Int→R):Up i K=K i:=by
 cases i with
 |ofNat n=>exact N9 n fun n=>K (Int.ofNat n)
 |negSucc n=>exact N9 n fun n=>K (Int.negSucc n)
noncomputable def Qc (k:Int):Bool:=Int.rec (motive:=fun _=>Bool) (fun n=>Nat.beq n 0) (fun _=>false) k
theorem VQ {k:Int}(h:Qc k=true):k=0:=by
 cases k with
 |ofNat n=>
  obtain rfl:n=0:=B0 h
  rfl
 |negSucc n=>cases h
noncomputable def RJ (k:Int):Bool:=Int.rec (motive:=fun _=>Bool) (fun _=>true) (fun _=>false) k
theorem OX {k:Int}(h:RJ k=true):0≤k:=by
 cases k with
 |ofNat n=>exact Int.natCast_nonneg n
 |negSucc n=>cases h
theorem I3 {c x:Bool}(h:H9 c x false=true):c=true∧x=true:=by
 cases c with
 |true=>exact⟨rfl,h⟩
 |false=>cases h
theorem P3 {a b:Nat}(h:Nat.beq a b=true):a=b:=B0 h
noncomputable def Vt (a b:Int):Bool:=Qc (Int.sub a b)
theorem UR {a b:Int}(h:Vt a b=true):a=b:=by
 have:=VQ h
 have e:Int.sub a b=a-b:=rfl
 omega
inductive L where
 |c (k:Int)
 |m (a:Nat) (k:Int) (r:L)
noncomputable def L.ev (ν:Nat→Int) (x:L):Int:=L.rec (motive:=fun _=>Int) (fun k=>k) (fun a k _ ih=>k*ν a+ih) x
noncomputable def L.ins (a:Nat) (k:Int) (x:L):L:=L.rec (motive:=fun _=>L) (fun c=> .m a k (.c c)) (fun b j r ih=>H9 (Nat.beq a b) (H9 (Qc (Int.add k j)) r (.m a (Int.add k j) r)) (H9 (Nat.ble a b) (.m a k (.m b j r)) (.m b j ih))) x
noncomputable def L.O8 (k:Int) (x:L):L:=L.rec (motive:=fun _=>L) (fun c=> .c (Int.add c k)) (fun b j _ ih=> .m b j ih) x
noncomputable def L.add (x y:L):L:=L.rec (motive:=fun _=>L) (fun k=>y.O8 k) (fun a k _ ih=>ih.ins a k) x
noncomputable def L.mul (k:Int) (x:L):L:=L.rec (motive:=fun _=>L) (fun c=> .c (Int.mul k c)) (fun b j _ ih=> .m b (Int.mul k j) ih) x
noncomputable def L.fr {R:Type} (x:L):(L→R)→R:=L.rec (motive:=fun _=>(L→R)→R) (fun k K=>Up k fun k=>K (.c k)) (fun a k _ ih K=>Y3 a fun a=>Up k fun k=>ih fun r=>K (.m a k r)) x
noncomputable def L.sub (x y:L):L:=x.add (y.mul (-1))
noncomputable def L.lP (x:L):L→Bool:=L.rec (motive:=fun _=>L→Bool) (fun k y=>L.rec (motive:=fun _=>Bool) (fun j=>Vt k j) (fun _ _ _ _=>false) y) (fun a k _ ih y=>L.rec (motive:=fun _=>Bool) (fun _=>false) (fun b j r _=>H9 (Nat.beq a b) (H9 (Vt k j) (ih r) false) false) y) x
theorem L.dY {ν:Nat→Int}{k:Int}:(L.c k).ev ν=k:=rfl
theorem L.Vu {ν:Nat→Int}{a:Nat}{k:Int}{r:L}:(L.m a k r).ev ν=k*ν a+r.ev ν:=rfl
theorem L.nY (ν:Nat→Int)(a:Nat)(k:Int):∀ x:L,(x.ins a k).ev ν=k*ν a+x.ev ν
 | .c _=>rfl
 | .m b j r=>by
  show (H9 (Nat.beq a b) (H9 (Qc (k+j)) r (.m a (k+j) r)) (H9 (Nat.ble a b) (.m a k (.m b j r)) (.m b j (r.ins a k)))).ev ν=_
  rw [U4,U4,U4,L.Vu]
  cases hb:Nat.beq a b with
  |true=>
   obtain rfl:=P3 hb
   cases hz:Qc (k+j) with
   |true=>
    have:=VQ hz
    obtain rfl:j = -k:=by omega
    show r.ev ν=_
    rw [Int.neg_mul];omega
   |false=>
    show (k+j)*ν a+r.ev ν=_
    rw [Int.add_mul];omega
  |false=>
   cases Nat.ble a b with
   |true=>rfl
   |false=>
    show j*ν b+(r.ins a k).ev ν=_
    rw [L.nY ν a k r];omega
theorem L.K3 (ν:Nat→Int)(k:Int):∀ x:L,(x.O8 k).ev ν=x.ev ν+k
 | .c _=>rfl
 | .m b j r=>by
  show j*ν b+(r.O8 k).ev ν=j*ν b+r.ev ν+k
  rw [L.K3 ν k r];omega
theorem L.eU (ν:Nat→Int)(y:L):∀ x:L,(x.add y).ev ν=x.ev ν+y.ev ν
 | .c k=>by
  show (y.O8 k).ev ν=k+y.ev ν
  rw [L.K3];omega
 | .m a k r=>by
  show ((r.add y).ins a k).ev ν=k*ν a+r.ev ν+y.ev ν
  rw [L.nY,L.eU ν y r];omega
theorem L.X8 (ν:Nat→Int)(k:Int):∀ x:L,(x.mul k).ev ν=k*x.ev ν
 | .c _=>rfl
 | .m b j r=>by
  show (k*j)*ν b+(r.mul k).ev ν=k*(j*ν b+r.ev ν)
  rw [L.X8 ν k r,Int.mul_add,Int.mul_assoc]
theorem L.kO {R:Type}:∀ (x:L) (K:L→R),x.fr K=K x
 | .c k,K=>VC k fun k=>K (.c k)
 | .m a k r,K=>by
  show Y3 a (fun a=>Up k fun k=>r.fr fun r=>K (.m a k r))=_
  rw [N9,VC,L.kO r]
theorem L.K0 (ν:Nat→Int)(x y:L):(x.sub y).ev ν=x.ev ν-y.ev ν:=by
 rw [L.sub,L.eU,L.X8];omega
theorem L.T6:∀ {x y:L},x.lP y=true→x=y
 | .c k,.c j,h=>congrArg _ (UR h)
 | .c _,.m _ _ _,h=>by cases h
 | .m _ _ _,.c _,h=>by cases h
 | .m a k x,.m b j y,h=>by
  obtain⟨h1,h⟩:=I3 h
  obtain⟨h2,h⟩:=I3 h
  rw [P3 h1,UR h2,L.T6 h]
def rI (l:List D):Nat:=l.countP fun x=>!x.b
def Je:D→Int
 | .int _ i=>i
 | .str s=>s.length
 | .Z _ l=>l.length
 |_=>0
def Ja (d:D)(s:Nat):Int:=match s with
 |0=>d.i
 |1=>d.l.length
 |2=>bR d
 |4=>d.s.length
 |7=>rI d.l
 |_=>0
def Nl (d:D)(j:Nat)(ix:Nat):Int:=Je ((d.l[ix]?.getD .top).at_ j)
def nu (ρ:Nat→D)(ix:Nat)(i:Nat):Int:=if i % 8=3 then Nl (ρ (i / 256)) (i / 8 % 32) ix else Ja (ρ (i / 8)) (i % 8)
theorem AX {ρ:Nat→D}{ix a:Nat}:nu ρ ix (8*a)=(ρ a).i:=by
 have h1:8*a % 8=0:=by omega
 have h2:8*a / 8=a:=by omega
 simp [nu,h1,h2,Ja]
theorem gO {ρ:Nat→D}{ix a:Nat}:nu ρ ix (8*a+1)=(ρ a).l.length:=by
 have h1:(8*a+1) % 8=1:=by omega
 have h2:(8*a+1) / 8=a:=by omega
 simp [nu,h1,h2,Ja]
theorem JI {ρ:Nat→D}{ix a:Nat}:nu ρ ix (8*a+2)=bR (ρ a):=by
 have h1:(8*a+2) % 8=2:=by omega
 have h2:(8*a+2) / 8=a:=by omega
 simp [nu,h1,h2,Ja]
theorem MM {ρ:Nat→D}{ix a:Nat}:nu ρ ix (8*a+4)=(ρ a).s.length:=by
 have h1:(8*a+4) % 8=4:=by omega
 have h2:(8*a+4) / 8=a:=by omega
 simp [nu,h1,h2,Ja]
theorem Nq {ρ:Nat→D}{ix a:Nat}:nu ρ ix (8*a+7)=rI (ρ a).l:=by
 have h1:(8*a+7) % 8=7:=by omega
 have h2:(8*a+7) / 8=a:=by omega
 simp [nu,h1,h2,Ja]
theorem Qi {ρ:Nat→D}{ix i:Nat}(h:i % 8=1∨i % 8=2∨i % 8=4):0≤nu ρ ix i:=by
 rcases h with h|h|h<;>simp [nu,h,Ja]
inductive Rf where
 |a (i:Nat)
 |s (t:G0)
inductive Lt where
 |mk (q:Nat) (az:List Rf) (es:List L)
noncomputable def mM {α β:Type} (f:α→β) (l:List α):List β:=List.rec (motive:=fun _=>List β) [] (fun x _ ih=>f x::ih) l
theorem gJ {α β:Type}(f:α→β):∀ l:List α,mM f l=l.map f
 |[]=>rfl
 |x::l=>congrArg (f x::·) (gJ f l)
def nD (l:List (List D))(j:Nat):List D:=l[j]?.getD []
def nS (l:List G0)(j:Nat):G0:=l[j]?.getD []
def nI (l:List Int)(j:Nat):Int:=l[j]?.getD 0
def Oy (th:List D)(t:G0):D:=(th.find? fun x=>(x.at_ 0).s==t).getD .top
def FK (th:List D)(t:G0):Int:=((Oy th t).at_ 1).i
def FA (th:List D)(t:G0):Int:=(((Oy th t).at_ 7).l.length:Nat)
def FD (t:G0):Int:=if t.head? = some 36 then 1 else 0
def X1 (th:List D)(t:G0)(k n:Int):Prop:=(k=2→1≤FK th t∧FK th t≤2)∧(k=8→FK th t=2)∧(k=9→FK th t=2)∧(k<1∨9<k→(FD t=1∧n=1)∨(FD t=0∧FK th t=3∧FA th t=n))
def Vx:Nat→List D→List D→Prop
 |0,_,_=>True
 |n+1,th,l=>∀ x∈l,X1 th (x.at_ 4).s (x.at_ 0).i ((x.at_ 5).l.length:Nat)∧(3≤(x.at_ 0).i→(x.at_ 0).i≤5→Vx n th (x.at_ 5).l)
def GD (th l:List D):Prop:=∀ n,Vx n th l
def z1 (S u:List D):Prop:=∀ i:Nat,(((u[i]?.getD .top).l.length:Nat):Int)≤max 0 ((S[i]?.getD .top).at_ 1).i
def z2 (S w:List D):Prop:=∀ j:Nat,z1 S (w[j]?.getD .top).l
def r1 (u v:List D)(n:Int):Prop:=∀ i:Nat,(i:Int)<n→(u[i]?.getD .top).l.length=(v[i]?.getD .top).l.length
def r9 (u v:List D):Prop:=∀ i:Nat,(u[i]?.getD .top).l.length=(v[i]?.getD .top).l.length
def e1 (u:List D)(i:Int):Prop:=(u[i.toNat]?.getD .top).b=false
def e2 (S:List D)(i n:Int):Prop:=((S[i.toNat]?.getD .top).at_ 1).i≤n
def e3 (u:List D)(i n:Int):Prop:=(((u[i.toNat]?.getD .top).l.length:Nat):Int)=n
def nl (u:List D)(k:Int):Prop:=∀ j:Nat,k≤j→j<u.length→O9 (u[j]?.getD .top)=true
def ig (u:List D)(i n:Int):Prop:=(u[i.toNat]?.getD .top).i=n
def q2 (u v:List D)(i:Int):Prop:=0≤i∧bP v≤2*bP (u.take i.toNat)
def PR (q:Nat)(ds:List (List D))(ts:List G0)(is:List Int):Prop:=match q with
 |0=>GD (nD ds 0) (nD ds 1)
 |1=>X1 (nD ds 0) (nS ts 1) (nI is 0) (nI is 1)
 |2=>FK (nD ds 0) (nS ts 1)=nI is 0∧FA (nD ds 0) (nS ts 1)=nI is 1
 |3=>FD (nS ts 0)=nI is 0
 |4=>nI is 0≤FK (nD ds 0) (nS ts 1)∧FK (nD ds 0) (nS ts 1)≤nI is 1
 |5=>z1 (nD ds 0) (nD ds 1)
 |6=>z2 (nD ds 0) (nD ds 1)
 |7=>r1 (nD ds 0) (nD ds 1) (nI is 0)
 |8=>e1 (nD ds 0) (nI is 0)
 |9=>r9 (nD ds 0) (nD ds 1)
 |10=>e2 (nD ds 0) (nI is 0) (nI is 1)
 |11=>e3 (nD ds 0) (nI is 0) (nI is 1)
 |12=>nl (nD ds 0) (nI is 0)
 |13=>ig (nD ds 0) (nI is 0) (nI is 1)
 |14=>q2 (nD ds 0) (nD ds 1) (nI is 0)
 |_=>True
def Rf.val (ρ:Nat→D):Rf→D
 | .a i=>ρ i
 | .s t=> .str t
def Lt.holds (ρ:Nat→D):Lt→Prop
 | .mk q az es=>PR q (az.map fun r=>(r.val ρ).l) (az.map fun r=>(r.val ρ).s) (es.map fun e=>e.ev (nu ρ 0))
noncomputable def Lt.bv (ρ:Nat→D) (x:Lt):Bool:=@decide (x.holds ρ) (Classical.propDecidable _)
theorem Lt.rP {ρ:Nat→D}{x:Lt}:x.bv ρ=true↔x.holds ρ:=by
 unfold Lt.bv
 exact @decide_eq_true_iff _ (Classical.propDecidable _)
noncomputable def Rf.lP (x y:Rf):Bool:=Rf.casesOn (motive:=fun _=>Bool) x (fun i=>Rf.casesOn (motive:=fun _=>Bool) y (fun j=>Nat.beq i j) (fun _=>false)) (fun s=>Rf.casesOn (motive:=fun _=>Bool) y (fun _=>false) (fun t=>BV s t))
theorem Rf.T6 {x y:Rf}(h:x.lP y=true):x=y:=by
 cases x with
 |a i=>cases y with|a j=>rw [P3 h]|s t=>cases h
 |s s=>
  cases y with
  |a j=>cases h
  |s t=>
   have h:BV s t=true:=h
   rw [iP] at h
   rw [eq_of_beq h]
noncomputable def UQ {α:Type} (f:α→α→Bool) (xs:List α):List α→Bool:=List.rec (motive:=fun _=>List α→Bool) (fun ys=>List.casesOn (motive:=fun _=>Bool) ys true (fun _ _=>false)) (fun x _ ih ys=>List.casesOn (motive:=fun _=>Bool) ys false (fun y r=>H9 (f x y) (ih r) false)) xs
theorem xL {α:Type}{f:α→α→Bool}(hf:∀ {x y},f x y=true→x=y):∀ {xs ys:List α},UQ f xs ys=true→xs=ys
 |[],[],_=>rfl
 |[],_::_,h=>by cases h
 |_::_,[],h=>by cases h
 |x::xs,y::ys,h=>by
  obtain⟨h1,h2⟩:=I3 h
  rw [hf h1,xL hf h2]
noncomputable def Lt.lP (x y:Lt):Bool:=Lt.casesOn (motive:=fun _=>Bool) x fun q az es=>Lt.casesOn (motive:=fun _=>Bool) y fun q' az' es'=>H9 (Nat.beq q q') (H9 (UQ Rf.lP az az') (UQ L.lP es es') false) false
theorem Lt.T6 {x y:Lt}(h:x.lP y=true):x=y:=by
 obtain⟨q,az,es⟩:=x
 obtain⟨q',az',es'⟩:=y
 obtain⟨h1,h⟩:=I3 h
 obtain⟨h2,h3⟩:=I3 h
 rw [P3 h1,xL Rf.T6 h2,xL L.T6 h3]
inductive Fm where
 |t
 |f
 |ge (e:L)
 |b (a:Nat)
 |nb (a:Nat)
 |q (a:Nat) (s:G0)
 |nq (a:Nat) (s:G0)
 |n (a:Nat)
 |nn (a:Nat)
 |an (x y:Fm)
 |or (x y:Fm)
 |p (x:Lt)
 |np (x:Lt)
noncomputable def Fm.bv (ρ:Nat→D) (x:Fm):Bool:=Fm.rec (motive:=fun _=>Bool) true false (fun e=>decide (0≤e.ev (nu ρ 0))) (fun a=>(ρ a).b) (fun a=>!(ρ a).b) (fun a s=>(ρ a).s==s) (fun a s=>!((ρ a).s==s)) (fun a=>O9 (ρ a)) (fun a=>!O9 (ρ a)) (fun _ _ x y=>x&&y) (fun _ _ x y=>x||y) (fun x=>x.bv ρ) (fun x=>!x.bv ρ) x
noncomputable def Fm.neg (x:Fm):Fm:=Fm.rec (motive:=fun _=>Fm) .f .t (fun e=> .ge ((L.c (-1)).sub e)) (fun a=> .nb a) (fun a=> .b a) (fun a s=> .nq a s) (fun a s=> .q a s) (fun a=> .nn a) (fun a=> .n a) (fun _ _ x y=> .or x y) (fun _ _ x y=> .an x y) (fun x=> .np x) (fun x=> .p x) x
theorem Fm.L6 (ρ:Nat→D):∀ x:Fm,x.neg.bv ρ=!x.bv ρ
 | .t=>rfl
 | .f=>rfl
 | .ge e=>by
  show decide (0≤((L.c (-1)).sub e).ev (nu ρ 0))=!decide (0≤e.ev (nu ρ 0))
  rw [L.K0,L.dY]
  by_cases h:0≤e.ev (nu ρ 0)
  ·rw [E6 h,E8 (by omega)];rfl
  ·rw [E8 h,E6 (by omega)];rfl
 | .b _=>rfl
 | .nb _=>by show _=!!_;rw [Bool.not_not];rfl
 | .q _ _=>rfl
 | .nq _ _=>by show _=!!_;rw [Bool.not_not];rfl
 | .n _=>rfl
 | .nn _=>by show _=!!_;rw [Bool.not_not];rfl
 | .an x y=>by
  show (x.neg.bv ρ||y.neg.bv ρ)=!(x.bv ρ&&y.bv ρ)
  rw [Fm.L6 ρ x,Fm.L6 ρ y,Bool.not_and]
 | .or x y=>by
  show (x.neg.bv ρ&&y.neg.bv ρ)=!(x.bv ρ||y.bv ρ)
  rw [Fm.L6 ρ x,Fm.L6 ρ y,Bool.not_or]
 | .p _=>rfl
 | .np _=>by show _=!!_;rw [Bool.not_not];rfl
theorem Fm.I7 {ρ:Nat→D}{e:L}:(Fm.ge e).bv ρ=true↔0≤e.ev (nu ρ 0):=⟨fun h=>E7 h,fun h=>E6 h⟩
theorem Fm.T3 {ρ:Nat→D}{x y:Fm}:(Fm.an x y).bv ρ=true↔x.bv ρ=true∧y.bv ρ=true:=by
 show (x.bv ρ&&y.bv ρ)=true↔_
 rw [A9]
theorem Fm.T4 {ρ:Nat→D}{x y:Fm}:(Fm.or x y).bv ρ=true↔x.bv ρ=true∨y.bv ρ=true:=by
 show (x.bv ρ||y.bv ρ)=true↔_
 rw [Bool.or_eq_true]
noncomputable def Fm.lP (x:Fm):Fm→Bool:=Fm.rec (motive:=fun _=>Fm→Bool)
 (fun y=>Fm.casesOn (motive:=fun _=>Bool) y true false (fun _=>false) (fun _=>false) (fun _=>false) (fun _ _=>false) (fun _ _=>false) (fun _=>false) (fun _=>false) (fun _ _=>false) (fun _ _=>false) (fun _=>false) (fun _=>false))
 (fun y=>Fm.casesOn (motive:=fun _=>Bool) y false true (fun _=>false) (fun _=>false) (fun _=>false) (fun _ _=>false) (fun _ _=>false) (fun _=>false) (fun _=>false) (fun _ _=>false) (fun _ _=>false) (fun _=>false) (fun _=>false))
 (fun e y=>Fm.casesOn (motive:=fun _=>Bool) y false false (fun e'=>e.lP e') (fun _=>false) (fun _=>false) (fun _ _=>false) (fun _ _=>false) (fun _=>false) (fun _=>false) (fun _ _=>false) (fun _ _=>false) (fun _=>false) (fun _=>false))
 (fun a y=>Fm.casesOn (motive:=fun _=>Bool) y false false (fun _=>false) (fun a'=>Nat.beq a a') (fun _=>false) (fun _ _=>false) (fun _ _=>false) (fun _=>false) (fun _=>false) (fun _ _=>false) (fun _ _=>false) (fun _=>false) (fun _=>false))
 (fun a y=>Fm.casesOn (motive:=fun _=>Bool) y false false (fun _=>false) (fun _=>false) (fun a'=>Nat.beq a a') (fun _ _=>false) (fun _ _=>false) (fun _=>false) (fun _=>false) (fun _ _=>false) (fun _ _=>false) (fun _=>false) (fun _=>false))
 (fun a s y=>Fm.casesOn (motive:=fun _=>Bool) y false false (fun _=>false) (fun _=>false) (fun _=>false) (fun a' s'=>H9 (Nat.beq a a') (BV s s') false) (fun _ _=>false) (fun _=>false) (fun _=>false) (fun _ _=>false) (fun _ _=>false) (fun _=>false) (fun _=>false))
 (fun a s y=>Fm.casesOn (motive:=fun _=>Bool) y false false (fun _=>false) (fun _=>false) (fun _=>false) (fun _ _=>false) (fun a' s'=>H9 (Nat.beq a a') (BV s s') false) (fun _=>false) (fun _=>false) (fun _ _=>false) (fun _ _=>false) (fun _=>false) (fun _=>false))
 (fun a y=>Fm.casesOn (motive:=fun _=>Bool) y false false (fun _=>false) (fun _=>false) (fun _=>false) (fun _ _=>false) (fun _ _=>false) (fun a'=>Nat.beq a a') (fun _=>false) (fun _ _=>false) (fun _ _=>false) (fun _=>false) (fun _=>false))
 (fun a y=>Fm.casesOn (motive:=fun _=>Bool) y false false (fun _=>false) (fun _=>false) (fun _=>false) (fun _ _=>false) (fun _ _=>false) (fun _=>false) (fun a'=>Nat.beq a a') (fun _ _=>false) (fun _ _=>false) (fun _=>false) (fun _=>false))
 (fun _ _ ih1 ih2 y=>Fm.casesOn (motive:=fun _=>Bool) y false false (fun _=>false) (fun _=>false) (fun _=>false) (fun _ _=>false) (fun _ _=>false) (fun _=>false) (fun _=>false) (fun a b=>H9 (ih1 a) (ih2 b) false) (fun _ _=>false) (fun _=>false) (fun _=>false))
 (fun _ _ ih1 ih2 y=>Fm.casesOn (motive:=fun _=>Bool) y false false (fun _=>false) (fun _=>false) (fun _=>false) (fun _ _=>false) (fun _ _=>false) (fun _=>false) (fun _=>false) (fun _ _=>false) (fun a b=>H9 (ih1 a) (ih2 b) false) (fun _=>false) (fun _=>false))
 (fun x y=>Fm.casesOn (motive:=fun _=>Bool) y false false (fun _=>false) (fun _=>false) (fun _=>false) (fun _ _=>false) (fun _ _=>false) (fun _=>false) (fun _=>false) (fun _ _=>false) (fun _ _=>false) (fun y'=>x.lP y') (fun _=>false))
 (fun x y=>Fm.casesOn (motive:=fun _=>Bool) y false false (fun _=>false) (fun _=>false) (fun _=>false) (fun _ _=>false) (fun _ _=>false) (fun _=>false) (fun _=>false) (fun _ _=>false) (fun _ _=>false) (fun _=>false) (fun y'=>x.lP y'))
 x
theorem Fm.T6:∀ {x y:Fm},x.lP y=true→x=y
 | .t,y,h=>by cases y<;>first|rfl|cases h
 | .f,y,h=>by cases y<;>first|rfl|cases h
 | .ge e,y,h=>by cases y with|ge e'=>rw [L.T6 h]|_=>cases h
 | .b a,y,h=>by cases y with|b a'=>rw [P3 h]|_=>cases h
 | .nb a,y,h=>by cases y with|nb a'=>rw [P3 h]|_=>cases h
 | .q a s,y,h=>by
  cases y with
  |q a' s'=>
   obtain⟨h1,h2⟩:=I3 h
   rw [iP] at h2
   rw [P3 h1,eq_of_beq h2]
  |_=>cases h
 | .nq a s,y,h=>by
  cases y with
  |nq a' s'=>
   obtain⟨h1,h2⟩:=I3 h
   rw [iP] at h2
   rw [P3 h1,eq_of_beq h2]
  |_=>cases h
 | .n a,y,h=>by cases y with|n a'=>rw [P3 h]|_=>cases h
 | .nn a,y,h=>by cases y with|nn a'=>rw [P3 h]|_=>cases h
 | .an x1 x2,y,h=>by
  cases y with
  |an y1 y2=>
   obtain⟨h1,h2⟩:=I3 h
   rw [Fm.T6 h1,Fm.T6 h2]
  |_=>cases h
 | .or x1 x2,y,h=>by
  cases y with
  |or y1 y2=>
   obtain⟨h1,h2⟩:=I3 h
   rw [Fm.T6 h1,Fm.T6 h2]
  |_=>cases h
 | .p x,y,h=>by cases y with|p y'=>rw [Lt.T6 h]|_=>cases h
 | .np x,y,h=>by cases y with|np y'=>rw [Lt.T6 h]|_=>cases h
noncomputable def tok {R:Type} (ct:Nat) (K:Nat→Nat→R):R:=Y3 (Nat.mod ct 32) fun t=>Y3 (Nat.div ct 32) fun r=>K t r
theorem cK {R:Type}(ct:Nat)(K:Nat→Nat→R):tok ct K=K (ct % 32) (ct / 32):=by
 rw [tok,N9,N9];rfl
noncomputable def J8 {R:Type} (fuel:Nat):Nat→(Nat→Nat→R)→R:=Nat.rec (motive:=fun _=>Nat→(Nat→Nat→R)→R) (fun ct K=>K 0 ct) (fun _ ih ct K=>tok ct fun t ct=>H9 (Nat.ble 16 t) (ih ct fun v ct=>Y3 (Nat.add (Nat.sub t 16) (Nat.mul 16 v)) fun v=>K v ct) (K t ct)) fuel
theorem cP {R:Type}:∀ (n ct:Nat) (K:Nat→Nat→R),∃ v ct',J8 n ct K=K v ct'
 |0,ct,K=>⟨_,_,rfl⟩
 |n+1,ct,K=>by
  show ∃ v ct',tok ct (fun t ct=>H9 (Nat.ble 16 t) (J8 n ct fun v ct=>Y3 (Nat.add (Nat.sub t 16) (Nat.mul 16 v)) fun v=>K v ct) (K t ct))=K v ct'
  rw [cK,U4]
  cases Nat.ble 16 (ct % 32) with
  |false=>exact⟨_,_,rfl⟩
  |true=>
   obtain⟨v,ct',e⟩:=cP n (ct / 32) fun v ct'=>Y3 (Nat.add (Nat.sub (ct % 32) 16) (Nat.mul 16 v)) fun v=>K v ct'
   exact⟨_,_,by rw [cond_true,e,N9]⟩
noncomputable def HB {R:Type} (ct:Nat) (K:Int→Nat→R):R:=J8 20 ct fun v ct=>H9 (Nat.beq (Nat.mod v 2) 0) (K (Int.ofNat (Nat.div v 2)) ct) (K (Int.negSucc (Nat.div v 2)) ct)
theorem HC {R:Type}(ct:Nat)(K:Int→Nat→R):∃ v ct',HB ct K=K v ct':=by
 obtain⟨v,ct',e⟩:=cP 20 ct fun v ct=>H9 (Nat.beq (Nat.mod v 2) 0) (K (Int.ofNat (Nat.div v 2)) ct) (K (Int.negSucc (Nat.div v 2)) ct)
 rw [HB,e,U4]
 cases Nat.beq (Nat.mod v 2) 0<;>exact⟨_,_,rfl⟩
noncomputable def RG (x:Fm):L:=Fm.casesOn (motive:=fun _=>L) x (.c 0) (.c (-1)) (fun e=>e) (fun _=> .c 0) (fun _=> .c 0) (fun _ _=> .c 0) (fun _ _=> .c 0) (fun _=> .c 0) (fun _=> .c 0) (fun _ _=> .c 0) (fun _ _=> .c 0) (fun _=> .c 0) (fun _=> .c 0)
theorem Au {ρ:Nat→D}{x:Fm}(h:x.bv ρ=true):0≤(RG x).ev (nu ρ 0):=by
 cases x with
 |ge e=>exact Fm.I7.1 h
 |f=>cases h
 |_=>exact Int.le_refl 0
noncomputable def GY (F:List Fm) (n:Nat):Nat→L→(L→Nat→Bool)→Bool:=Nat.rec (motive:=fun _=>Nat→L→(L→Nat→Bool)→Bool) (fun ct acc K=>K acc ct) (fun _ ih ct acc K=>J8 8 ct fun i ct=>J8 20 ct fun k ct=>L.fr (((RG (L3 .t F i)).mul (Int.ofNat k)).add acc) fun acc=>ih ct acc K) n
noncomputable def Nu (acc:L) (i k:Nat):L:=((acc.ins (Nat.sub i 3) (Int.ofNat k)).ins (Nat.sub i 4) (Int.mul (-2) (Int.ofNat k))).O8 (Int.neg (Int.ofNat k))
theorem KB:∀ l:List D,2*l.length≤bP l
 |[]=>B9 0
 |x::l=>by
  have h:=KB l
  have:1≤bR x:=by cases x<;>simp [bR]
  show 2*(l.length+1)≤bR x+bP l+1
  omega
theorem YO (d:D):2*d.l.length+1≤bR d:=by
 cases d with
 |Z _ l=>
  have:=KB l
  show 2*l.length+1≤bP l+1
  omega
 |_=>simp [bR,D.l]
theorem Ll {ρ:Nat→D}{acc:L}{i k:Nat}(h5:i % 8=5)(h:0≤acc.ev (nu ρ 0)):0≤(Nu acc i k).ev (nu ρ 0):=by
 have e1:i-3=8*(i / 8)+2:=by omega
 have e2:i-4=8*(i / 8)+1:=by omega
 have hs:=YO (ρ (i / 8))
 show 0≤(((acc.ins (i-3) (k:Int)).ins (i-4) (-2*(k:Int))).O8 (-(k:Int))).ev (nu ρ 0)
 rw [L.K3,L.nY,L.nY,e1,e2,gO,JI]
 have:=Int.mul_nonneg (Int.natCast_nonneg k) (show (0:Int)≤(bR (ρ (i / 8)):Int)-2*((ρ (i / 8)).l.length:Int)-1 by omega)
 rw [Int.mul_sub,Int.mul_sub,Int.mul_left_comm,Int.mul_one] at this
 rw [Int.neg_mul,Int.neg_mul,Int.mul_assoc]
 omega
noncomputable def fQ (n:Nat):Nat→L→(L→Nat→Bool)→Bool:=Nat.rec (motive:=fun _=>Nat→L→(L→Nat→Bool)→Bool) (fun ct acc K=>K acc ct) (fun _ ih ct acc K=>J8 8 ct fun i ct=>J8 20 ct fun k ct=>H9 (Nat.beq (Nat.mod i 8) 1) (L.fr (acc.ins i (Int.ofNat k)) fun acc=>ih ct acc K) (H9 (Nat.beq (Nat.mod i 8) 2) (L.fr (acc.ins i (Int.ofNat k)) fun acc=>ih ct acc K) (H9 (Nat.beq (Nat.mod i 8) 4) (L.fr (acc.ins i (Int.ofNat k)) fun acc=>ih ct acc K) (H9 (Nat.beq (Nat.mod i 8) 5) (L.fr (Nu acc i k) fun acc=>ih ct acc K) false)))) n
theorem iA {α:Type}{d:α}{P:α→Prop}(hd:P d):∀ {l:List α},(∀ x∈l,P x)→∀ i,P (L3 d l i)
 |[],_,_=>hd
 |x::l,h,0=>h x (B8 ..)
 |x::l,h,i+1=>iA hd (fun y hy=>h y (C0 _ hy)) i
def Hs (ρ:Nat→D)(F:List Fm):Prop:=∀ x∈F,x.bv ρ=true
theorem Hs.at {ρ:Nat→D}{F:List Fm}(h:Hs ρ F)(i:Nat):(L3 .t F i).bv ρ=true:=iA (P:=fun x:Fm=>x.bv ρ=true) rfl h i
theorem Hs.cons {ρ:Nat→D}{F:List Fm}{x:Fm}(hx:x.bv ρ=true)(h:Hs ρ F):Hs ρ (x::F):=fun y hy=>by
 rcases B7.1 hy with rfl|hy
 ·exact hx
 ·exact h y hy
theorem QM {ρ:Nat→D}{F:List Fm}(hF:Hs ρ F):∀ (n ct:Nat) (acc:L) (K:L→Nat→Bool),GY F n ct acc K=true→0≤acc.ev (nu ρ 0)→∃ acc' ct',0≤acc'.ev (nu ρ 0)∧K acc' ct'=true
 |0,ct,acc,K,h,h0=>⟨acc,ct,h0,h⟩
 |n+1,ct,acc,K,h,h0=>by
  have h:J8 8 ct (fun i ct=>J8 20 ct fun k ct=>L.fr (((RG (L3 .t F i)).mul (Int.ofNat k)).add acc) fun acc=>GY F n ct acc K)=true:=h
  obtain⟨i,c1,e⟩:=cP 8 ct fun i ct=>J8 20 ct fun k ct=>L.fr (((RG (L3 .t F i)).mul (Int.ofNat k)).add acc) fun acc=>GY F n ct acc K
  rw [e] at h
  obtain⟨k,c2,e⟩:=cP 20 c1 fun k ct=>L.fr (((RG (L3 .t F i)).mul (Int.ofNat k)).add acc) fun acc=>GY F n ct acc K
  rw [e,L.kO] at h
  refine QM hF n _ _ K h ?_
  rw [L.eU,L.X8]
  have:=Int.mul_nonneg (Int.natCast_nonneg k) (Au (hF.at i))
  exact Int.add_nonneg this h0
theorem GZ {ρ:Nat→D}:∀ (n ct:Nat) (acc:L) (K:L→Nat→Bool),fQ n ct acc K=true→0≤acc.ev (nu ρ 0)→∃ acc' ct',0≤acc'.ev (nu ρ 0)∧K acc' ct'=true
 |0,ct,acc,K,h,h0=>⟨acc,ct,h0,h⟩
 |n+1,ct,acc,K,h,h0=>by
  have h:J8 8 ct (fun i ct=>J8 20 ct fun k ct=>H9 (Nat.beq (Nat.mod i 8) 1) (L.fr (acc.ins i (Int.ofNat k)) fun acc=>fQ n ct acc K) (H9 (Nat.beq (Nat.mod i 8) 2) (L.fr (acc.ins i (Int.ofNat k)) fun acc=>fQ n ct acc K) (H9 (Nat.beq (Nat.mod i 8) 4) (L.fr (acc.ins i (Int.ofNat k)) fun acc=>fQ n ct acc K) (H9 (Nat.beq (Nat.mod i 8) 5) (L.fr (Nu acc i k) fun acc=>fQ n ct acc K) false))))=true:=h
  obtain⟨i,c1,e⟩:=cP 8 ct fun i ct=>J8 20 ct fun k ct=>H9 (Nat.beq (Nat.mod i 8) 1) (L.fr (acc.ins i (Int.ofNat k)) fun acc=>fQ n ct acc K) (H9 (Nat.beq (Nat.mod i 8) 2) (L.fr (acc.ins i (Int.ofNat k)) fun acc=>fQ n ct acc K) (H9 (Nat.beq (Nat.mod i 8) 4) (L.fr (acc.ins i (Int.ofNat k)) fun acc=>fQ n ct acc K) (H9 (Nat.beq (Nat.mod i 8) 5) (L.fr (Nu acc i k) fun acc=>fQ n ct acc K) false)))
  rw [e] at h
  obtain⟨k,c2,e⟩:=cP 20 c1 fun k ct=>H9 (Nat.beq (Nat.mod i 8) 1) (L.fr (acc.ins i (Int.ofNat k)) fun acc=>fQ n ct acc K) (H9 (Nat.beq (Nat.mod i 8) 2) (L.fr (acc.ins i (Int.ofNat k)) fun acc=>fQ n ct acc K) (H9 (Nat.beq (Nat.mod i 8) 4) (L.fr (acc.ins i (Int.ofNat k)) fun acc=>fQ n ct acc K) (H9 (Nat.beq (Nat.mod i 8) 5) (L.fr (Nu acc i k) fun acc=>fQ n ct acc K) false)))
  rw [e,L.kO,L.kO,U4,U4,U4,U4] at h
  have go:∀ (hm:i % 8=1∨i % 8=2∨i % 8=4),fQ n c2 (acc.ins i (Int.ofNat k)) K=true→∃ acc' ct',0≤acc'.ev (nu ρ 0)∧K acc' ct'=true:=by
   intro hm h
   refine GZ n _ _ K h ?_
   rw [L.nY]
   exact Int.add_nonneg (Int.mul_nonneg (Int.natCast_nonneg k) (Qi hm)) h0
  cases h1:Nat.beq (Nat.mod i 8) 1 with
  |true=>rw [h1] at h;exact go (.inl (P3 h1)) h
  |false=>
   rw [h1] at h
   cases h2:Nat.beq (Nat.mod i 8) 2 with
   |true=>rw [h2] at h;exact go (.inr (.inl (P3 h2))) h
   |false=>
    rw [h2] at h
    cases h4:Nat.beq (Nat.mod i 8) 4 with
    |true=>rw [h4] at h;exact go (.inr (.inr (P3 h4))) h
    |false=>
     rw [h4] at h
     cases h5:Nat.beq (Nat.mod i 8) 5 with
     |true=>rw [h5] at h;exact GZ n _ _ K h (Ll (P3 h5) h0)
     |false=>rw [h5] at h;cases h
noncomputable def RR (F:List Fm) (e:L) (ct:Nat) (k:Nat→Bool):Bool:=J8 20 ct fun d ct=>J8 8 ct fun n ct=>GY F n ct (.c 0) fun acc ct=>J8 8 ct fun n ct=>fQ n ct acc fun acc ct=>L.casesOn (motive:=fun _=>Bool) ((e.mul (Int.ofNat (Nat.succ d))).sub acc) (fun c=>H9 (RJ (Int.add c (Int.ofNat d))) (k ct) false) (fun _ _ _=>false)
theorem PD {ρ:Nat→D}{F:List Fm}(hF:Hs ρ F){e:L}{ct:Nat}{k:Nat→Bool}(h:RR F e ct k=true):0≤e.ev (nu ρ 0)∧∃ ct',k ct'=true:=by
 unfold RR at h
 obtain⟨d,c1,e1⟩:=cP 20 ct fun d ct=>J8 8 ct fun n ct=>GY F n ct (.c 0) fun acc ct=>J8 8 ct fun n ct=>fQ n ct acc fun acc ct=>L.casesOn (motive:=fun _=>Bool) ((e.mul (Int.ofNat (Nat.succ d))).sub acc) (fun c=>H9 (RJ (Int.add c (Int.ofNat d))) (k ct) false) (fun _ _ _=>false)
 rw [e1] at h
 obtain⟨n,c2,e1⟩:=cP 8 c1 fun n ct=>GY F n ct (.c 0) fun acc ct=>J8 8 ct fun n ct=>fQ n ct acc fun acc ct=>L.casesOn (motive:=fun _=>Bool) ((e.mul (Int.ofNat (Nat.succ d))).sub acc) (fun c=>H9 (RJ (Int.add c (Int.ofNat d))) (k ct) false) (fun _ _ _=>false)
 rw [e1] at h
 obtain⟨acc,c3,h0,h⟩:=QM hF _ _ _ _ h (Int.le_refl 0)
 obtain⟨n,c4,e1⟩:=cP 8 c3 fun n ct=>fQ n ct acc fun acc ct=>L.casesOn (motive:=fun _=>Bool) ((e.mul (Int.ofNat (Nat.succ d))).sub acc) (fun c=>H9 (RJ (Int.add c (Int.ofNat d))) (k ct) false) (fun _ _ _=>false)
 rw [e1] at h
 obtain⟨acc,c5,h0,h⟩:=GZ _ _ _ _ h h0
 have hs:=L.K0 (nu ρ 0) (e.mul (Int.ofNat (Nat.succ d))) acc
 rw [L.X8] at hs
 generalize (e.mul (Int.ofNat (Nat.succ d))).sub acc=x at h hs
 cases x with
 |m _ _ _=>cases h
 |c c=>
  obtain⟨h1,h⟩:=I3 h
  have h1:=OX h1
  refine⟨?_,_,h⟩
  rw [L.dY] at hs
  have e2:Int.ofNat (Nat.succ d)=(d:Int)+1:=rfl
  have e3:Int.add c (Int.ofNat d)=c+d:=rfl
  rw [e2] at hs
  rw [e3] at h1
  generalize e.ev (nu ρ 0)=x at hs ⊢
  refine Int.not_lt.1 fun hx=>?_
  have h2:((d:Int)+1)*x≤((d:Int)+1)*(-1):=Int.mul_le_mul_of_nonneg_left (by omega) (by omega)
  omega
noncomputable def contra (x y:Fm):Bool:=H9 (x.lP y.neg) true (Fm.casesOn (motive:=fun _=>Bool) x false false (fun _=>false) (fun _=>false) (fun _=>false) (fun a s=>Fm.casesOn (motive:=fun _=>Bool) y false false (fun _=>false) (fun _=>false) (fun _=>false) (fun a' s'=>H9 (Nat.beq a a') (H9 (BV s s') false true) false) (fun _ _=>false) (fun _=>false) (fun _=>false) (fun _ _=>false) (fun _ _=>false) (fun _=>false) (fun _=>false)) (fun _ _=>false) (fun _=>false) (fun _=>false) (fun _ _=>false) (fun _ _=>false) (fun _=>false) (fun _=>false))
theorem RD {ρ:Nat→D}{x y:Fm}(hx:x.bv ρ=true)(hy:y.bv ρ=true)(h:contra x y=true):False:=by
 unfold contra at h
 cases he:x.lP y.neg with
 |true=>
  rw [Fm.T6 he,Fm.L6,hy] at hx
  cases hx
 |false=>
  rw [he] at h
  have h:Fm.casesOn (motive:=fun _=>Bool) x false false (fun _=>false) (fun _=>false) (fun _=>false) (fun a s=>Fm.casesOn (motive:=fun _=>Bool) y false false (fun _=>false) (fun _=>false) (fun _=>false) (fun a' s'=>H9 (Nat.beq a a') (H9 (BV s s') false true) false) (fun _ _=>false) (fun _=>false) (fun _=>false) (fun _ _=>false) (fun _ _=>false) (fun _=>false) (fun _=>false)) (fun _ _=>false) (fun _=>false) (fun _=>false) (fun _ _=>false) (fun _ _=>false) (fun _=>false) (fun _=>false)=true:=h
  cases x with
  |q a s=>
   cases y with
   |q a' s'=>
    obtain⟨h1,h⟩:=I3 h
    obtain rfl:=P3 h1
    have e1:(ρ a).s=s:=eq_of_beq hx
    have e2:(ρ a).s=s':=eq_of_beq hy
    have:BV s s'=true:=by rw [iP,← e1,← e2,F3]
    have h:H9 (Nat.beq a a) (H9 (BV s s') false true) false=true:=h
    rw [this] at h
    exact absurd (I3 h).2 (by decide)
   |_=>cases h
  |_=>cases h
noncomputable def Qe (x:Fm):Fm:=Fm.casesOn (motive:=fun _=>Fm) x .t .t (fun _=> .t) (fun _=> .t) (fun _=> .t) (fun a s=> .an (.ge (.m (Nat.add (Nat.mul 8 a) 4) 1 (.c (Int.neg (Int.ofNat (P7 s)))))) (.ge (.m (Nat.add (Nat.mul 8 a) 4) (-1) (.c (Int.ofNat (P7 s)))))) (fun a s=>List.casesOn (motive:=fun _=>Fm) s (.ge (.m (Nat.add (Nat.mul 8 a) 4) 1 (.c (-1)))) (fun _ _=> .t)) (fun _=> .t) (fun _=> .t) (fun _ _=> .t) (fun _ _=> .t) (fun _=> .t) (fun _=> .t)
theorem Bk {ρ:Nat→D}{x:Fm}(h:x.bv ρ=true):(Qe x).bv ρ=true:=by
 cases x with
 |q a s=>
  have e:(ρ a).s=s:=eq_of_beq h
  refine Fm.T3.2 ⟨Fm.I7.2 ?_,Fm.I7.2 ?_⟩
  ·show 0≤1*nu ρ 0 (8*a+4) + -(((P7 s:Nat)):Int)
   rw [MM,e,P8];omega
  ·show 0≤-1*nu ρ 0 (8*a+4)+((P7 s:Nat):Int)
   rw [MM,e,P8];omega
 |nq a s=>
  cases s with
  |nil=>
   refine Fm.I7.2 ?_
   show 0≤1*nu ρ 0 (8*a+4) + -1
   rw [MM]
   have h:(!((ρ a).s==[]))=true:=h
   cases hs:(ρ a).s with
   |nil=>rw [hs] at h;cases h
   |cons _ _=>simp only [A0];omega
  |cons _ _=>rfl
 |_=>rfl
noncomputable def Rc (ih:List Fm→Fm→Nat→(Nat→Bool)→Bool) (F:List Fm) (g:Fm) (ct:Nat) (k:Nat→Bool):Bool:=(tok ct fun t ct=>L3 (fun _=>false) [
  (fun _=>Fm.casesOn (motive:=fun _=>Bool) g false (RR F (.c (-1)) ct k) (fun e=>RR F e ct k) (fun _=>false) (fun _=>false) (fun _ _=>false) (fun _ _=>false) (fun _=>false) (fun _=>false) (fun _ _=>false) (fun _ _=>false) (fun _=>false) (fun _=>false)),
  (fun _=>J8 8 ct fun i ct=>H9 ((L3 .t F i).lP g) (k ct) false),
  (fun _=>Fm.casesOn (motive:=fun _=>Bool) g false false (fun _=>false) (fun _=>false) (fun _=>false) (fun _ _=>false) (fun _ _=>false) (fun _=>false) (fun _=>false) (fun _ _=>false) (fun x _=>ih F x ct k) (fun _=>false) (fun _=>false)),
  (fun _=>Fm.casesOn (motive:=fun _=>Bool) g false false (fun _=>false) (fun _=>false) (fun _=>false) (fun _ _=>false) (fun _ _=>false) (fun _=>false) (fun _=>false) (fun _ _=>false) (fun _ y=>ih F y ct k) (fun _=>false) (fun _=>false)),
  (fun _=>Fm.casesOn (motive:=fun _=>Bool) g false false (fun _=>false) (fun _=>false) (fun _=>false) (fun _ _=>false) (fun _ _=>false) (fun _=>false) (fun _=>false) (fun _ _=>false) (fun x y=>ih (x.neg::F) y ct k) (fun _=>false) (fun _=>false)),
  (fun _=>Fm.casesOn (motive:=fun _=>Bool) g false false (fun _=>false) (fun _=>false) (fun _=>false) (fun _ _=>false) (fun _ _=>false) (fun _=>false) (fun _=>false) (fun x y=>ih F x ct fun ct=>ih F y ct k) (fun _ _=>false) (fun _=>false) (fun _=>false)),
  (fun _=>J8 8 ct fun i ct=>Fm.casesOn (motive:=fun _=>Bool) (L3 .t F i) false false (fun _=>false) (fun _=>false) (fun _=>false) (fun _ _=>false) (fun _ _=>false) (fun _=>false) (fun _=>false) (fun _ _=>false) (fun x y=>ih F x.neg ct fun ct=>ih (y::F) g ct k) (fun _=>false) (fun _=>false)),
  (fun _=>J8 8 ct fun i ct=>Fm.casesOn (motive:=fun _=>Bool) (L3 .t F i) false false (fun _=>false) (fun _=>false) (fun _=>false) (fun _ _=>false) (fun _ _=>false) (fun _=>false) (fun _=>false) (fun _ _=>false) (fun x y=>ih (x::F) g ct fun ct=>ih (y::F) g ct k) (fun _=>false) (fun _=>false)),
  (fun _=>J8 8 ct fun i ct=>Fm.casesOn (motive:=fun _=>Bool) (L3 .t F i) false false (fun _=>false) (fun _=>false) (fun _=>false) (fun _ _=>false) (fun _ _=>false) (fun _=>false) (fun _=>false) (fun x y=>ih (x::y::F) g ct k) (fun _ _=>false) (fun _=>false) (fun _=>false)),
  (fun _=>ih F .f ct k),
  (fun _=>J8 8 ct fun i ct=>J8 8 ct fun j ct=>H9 (contra (L3 .t F i) (L3 .t F j)) (k ct) false),
  (fun _=>Fm.casesOn (motive:=fun _=>Bool) g (k ct) false (fun _=>false) (fun _=>false) (fun _=>false) (fun _ _=>false) (fun _ _=>false) (fun _=>false) (fun _=>false) (fun _ _=>false) (fun _ _=>false) (fun _=>false) (fun _=>false)),
  (fun _=>J8 8 ct fun i ct=>ih (Qe (L3 .t F i)::F) g ct k)] t ())
noncomputable def pf (fuel:Nat):List Fm→Fm→Nat→(Nat→Bool)→Bool:=Nat.rec (motive:=fun _=>List Fm→Fm→Nat→(Nat→Bool)→Bool) (fun _ _ _ _=>false) (fun _ ih=>Rc ih) fuel
theorem I9 {α:Type}{d x:α}{l:List α}:L3 d (x::l) 0=x:=rfl
theorem I8 {α:Type}{d x:α}{l:List α}{i:Nat}:L3 d (x::l) (i+1)=L3 d l i:=rfl
theorem I0 {n ct:Nat}{K:Nat→Nat→Bool}(h:J8 n ct K=true):∃ v ct',K v ct'=true:=by
 obtain⟨v,ct',e⟩:=cP n ct K
 exact⟨v,ct',e▸h⟩
theorem Y8 {α:Type}{d:α}:∀ {l:List α} {i:Nat},l.length≤i→L3 d l i=d
 |[],_,_=>rfl
 |_::l,0,h=>by simp at h
 |_::l,i+1,h=>Y8 (l:=l) (by simpa using h)
theorem YN {F:List Fm}:∀ {n ct:Nat} {acc:L} {K:L→Nat→Bool},GY F n ct acc K=true→∃ acc' ct',K acc' ct'=true
 |0,ct,acc,K,h=>⟨acc,ct,h⟩
 |n+1,ct,acc,K,h=>by
  have h:J8 8 ct (fun i ct=>J8 20 ct fun k ct=>L.fr (((RG (L3 .t F i)).mul (Int.ofNat k)).add acc) fun acc=>GY F n ct acc K)=true:=h
  obtain⟨i,c1,h⟩:=I0 h
  obtain⟨k,c2,h⟩:=I0 h
  rw [L.kO] at h
  exact YN h
theorem AA:∀ {n ct:Nat} {acc:L} {K:L→Nat→Bool},fQ n ct acc K=true→∃ acc' ct',K acc' ct'=true
 |0,ct,acc,K,h=>⟨acc,ct,h⟩
 |n+1,ct,acc,K,h=>by
  have h:J8 8 ct (fun i ct=>J8 20 ct fun k ct=>H9 (Nat.beq (Nat.mod i 8) 1) (L.fr (acc.ins i (Int.ofNat k)) fun acc=>fQ n ct acc K) (H9 (Nat.beq (Nat.mod i 8) 2) (L.fr (acc.ins i (Int.ofNat k)) fun acc=>fQ n ct acc K) (H9 (Nat.beq (Nat.mod i 8) 4) (L.fr (acc.ins i (Int.ofNat k)) fun acc=>fQ n ct acc K) (H9 (Nat.beq (Nat.mod i 8) 5) (L.fr (Nu acc i k) fun acc=>fQ n ct acc K) false))))=true:=h
  obtain⟨i,c1,h⟩:=I0 h
  obtain⟨k,c2,h⟩:=I0 h
  rw [L.kO,L.kO,U4,U4,U4,U4] at h
  cases h1:Nat.beq (Nat.mod i 8) 1 with
  |true=>rw [h1] at h;exact AA h
  |false=>
   rw [h1] at h
   cases h2:Nat.beq (Nat.mod i 8) 2 with
   |true=>rw [h2] at h;exact AA h
   |false=>
    rw [h2] at h
    cases h4:Nat.beq (Nat.mod i 8) 4 with
    |true=>rw [h4] at h;exact AA h
    |false=>
     rw [h4] at h
     cases h5:Nat.beq (Nat.mod i 8) 5 with
     |true=>rw [h5] at h;exact AA h
     |false=>rw [h5] at h;cases h
theorem Ix {F:List Fm}{e:L}{ct:Nat}{k:Nat→Bool}(h:RR F e ct k=true):∃ ct',k ct'=true:=by
 unfold RR at h
 obtain⟨d,c1,h⟩:=I0 h
 obtain⟨n,c2,h⟩:=I0 h
 obtain⟨acc,c3,h⟩:=YN h
 obtain⟨n,c4,h⟩:=I0 h
 obtain⟨acc,c5,h⟩:=AA h
 generalize (e.mul (Int.ofNat (Nat.succ d))).sub acc=x at h
 cases x with
 |m _ _ _=>cases h
 |c c=>exact⟨_,(I3 h).2⟩
theorem JR:∀ (n:Nat) {F:List Fm} {g:Fm} {ct:Nat} {k:Nat→Bool},pf n F g ct k=true→∃ ct',k ct'=true
 |0,F,g,ct,k,h=>by cases h
 |n+1,F,g,ct,k,h=>by
  have h:Rc (pf n) F g ct k=true:=h
  have ih:=@JR n
  generalize pf n=r at h ih
  unfold Rc at h
  rw [cK] at h
  generalize ct / 32=c at h
  by_cases ht:ct % 32<13
  ·generalize ct % 32=t at h ht
   match t,ht with
   |0,_=>
    simp only [I8,I9] at h
    cases g<;>first|exact Ix h|cases h
   |1,_=>
    simp only [I8,I9] at h
    obtain⟨i,c1,h⟩:=I0 h
    exact⟨_,(I3 h).2⟩
   |2,_=>
    simp only [I8,I9] at h
    cases g<;>first|exact ih h|cases h
   |3,_=>
    simp only [I8,I9] at h
    cases g<;>first|exact ih h|cases h
   |4,_=>
    simp only [I8,I9] at h
    cases g<;>first|exact ih h|cases h
   |5,_=>
    simp only [I8,I9] at h
    cases g with
    |an x y=>
     obtain⟨_,h⟩:=ih h
     exact ih h
    |_=>cases h
   |6,_=>
    simp only [I8,I9] at h
    obtain⟨i,c1,h⟩:=I0 h
    generalize L3 Fm.t F i=x at h
    cases x with
    |or x y=>
     obtain⟨_,h⟩:=ih h
     exact ih h
    |_=>cases h
   |7,_=>
    simp only [I8,I9] at h
    obtain⟨i,c1,h⟩:=I0 h
    generalize L3 Fm.t F i=x at h
    cases x with
    |or x y=>
     obtain⟨_,h⟩:=ih h
     exact ih h
    |_=>cases h
   |8,_=>
    simp only [I8,I9] at h
    obtain⟨i,c1,h⟩:=I0 h
    generalize L3 Fm.t F i=x at h
    cases x with
    |an x y=>exact ih h
    |_=>cases h
   |9,_=>
    simp only [I8,I9] at h
    exact ih h
   |10,_=>
    simp only [I8,I9] at h
    obtain⟨i,c1,h⟩:=I0 h
    obtain⟨j,c2,h⟩:=I0 h
    exact⟨_,(I3 h).2⟩
   |11,_=>
    simp only [I8,I9] at h
    cases g with
    |t=>exact⟨_,h⟩
    |_=>cases h
   |12,_=>
    simp only [I8,I9] at h
    obtain⟨i,c1,h⟩:=I0 h
    exact ih h
  ·rw [Y8 (by simp only [A0,A8];omega)] at h
   cases h
theorem JS {ρ:Nat→D}:∀ (n:Nat) {F:List Fm} {g:Fm} {ct:Nat} {k:Nat→Bool},Hs ρ F→pf n F g ct k=true→g.bv ρ=true
 |0,F,g,ct,k,hF,h=>by cases h
 |n+1,F,g,ct,k,hF,h=>by
  have h:Rc (pf n) F g ct k=true:=h
  have ih:=@JS ρ n
  have ik:=@JR n
  generalize pf n=r at h ih ik
  unfold Rc at h
  rw [cK] at h
  generalize ct / 32=c at h
  by_cases ht:ct % 32<13
  ·generalize ct % 32=t at h ht
   match t,ht with
   |0,_=>
    simp only [I8,I9] at h
    cases g with
    |f=>exact absurd (PD hF h).1 (show ¬ (0:Int)≤-1 by decide)
    |ge e=>exact Fm.I7.2 (PD hF h).1
    |_=>cases h
   |1,_=>
    simp only [I8,I9] at h
    obtain⟨i,c1,h⟩:=I0 h
    exact Fm.T6 (I3 h).1▸hF.at i
   |2,_=>
    simp only [I8,I9] at h
    cases g with
    |or x y=>exact Fm.T4.2 (.inl (ih hF h))
    |_=>cases h
   |3,_=>
    simp only [I8,I9] at h
    cases g with
    |or x y=>exact Fm.T4.2 (.inr (ih hF h))
    |_=>cases h
   |4,_=>
    simp only [I8,I9] at h
    cases g with
    |or x y=>
     cases hx:x.bv ρ with
     |true=>exact Fm.T4.2 (.inl hx)
     |false=>exact Fm.T4.2 (.inr (ih (hF.cons (by rw [Fm.L6,hx];rfl)) h))
    |_=>cases h
   |5,_=>
    simp only [I8,I9] at h
    cases g with
    |an x y=>
     obtain⟨_,h2⟩:=ik h
     exact Fm.T3.2 ⟨ih hF h,ih hF h2⟩
    |_=>cases h
   |6,_=>
    simp only [I8,I9] at h
    obtain⟨i,c1,h⟩:=I0 h
    have hi:=hF.at i
    generalize L3 Fm.t F i=x at h hi
    cases x with
    |or x y=>
     obtain⟨_,h2⟩:=ik h
     have h1:=ih hF h
     rw [Fm.L6] at h1
     rcases Fm.T4.1 hi with hi|hi
     ·rw [hi] at h1;cases h1
     ·exact ih (hF.cons hi) h2
    |_=>cases h
   |7,_=>
    simp only [I8,I9] at h
    obtain⟨i,c1,h⟩:=I0 h
    have hi:=hF.at i
    generalize L3 Fm.t F i=x at h hi
    cases x with
    |or x y=>
     obtain⟨_,h2⟩:=ik h
     rcases Fm.T4.1 hi with hi|hi
     ·exact ih (hF.cons hi) h
     ·exact ih (hF.cons hi) h2
    |_=>cases h
   |8,_=>
    simp only [I8,I9] at h
    obtain⟨i,c1,h⟩:=I0 h
    have hi:=hF.at i
    generalize L3 Fm.t F i=x at h hi
    cases x with
    |an x y=>
     obtain⟨h1,h2⟩:=Fm.T3.1 hi
     exact ih ((hF.cons h2).cons h1) h
    |_=>cases h
   |9,_=>
    simp only [I8,I9] at h
    have:=ih hF h
    cases this
   |10,_=>
    simp only [I8,I9] at h
    obtain⟨i,c1,h⟩:=I0 h
    obtain⟨j,c2,h⟩:=I0 h
    exact (RD (hF.at i) (hF.at j) (I3 h).1).elim
   |11,_=>
    simp only [I8,I9] at h
    cases g with
    |t=>rfl
    |_=>cases h
   |12,_=>
    simp only [I8,I9] at h
    obtain⟨i,c1,h⟩:=I0 h
    exact ih (hF.cons (Bk (hF.at i))) h
  ·rw [Y8 (by simp only [A0,A8];omega)] at h
   cases h
end Go.AE.Q
namespace Go.AE.Q
inductive A where
 |n (k:IntKind) (e:L)
 |b (f:Fm)
 |s (a:Nat) (e:L)
 |l (a sz:Nat) (e:L)
 |o (a:Nat)
 |gn
 |gc (x r:A)
 |c (d:D)
noncomputable def A.val (ρ:Nat→D) (x:A):D:=A.rec (motive:=fun _=>D) (fun k e=> .int k (e.ev (nu ρ 0))) (fun f=> .bool (f.bv ρ)) (fun a _=>ρ a) (fun a _ _=>ρ a) (fun a=>ρ a) (.agg []) (fun _ _ x r=> .agg (x::r.cells)) (fun d=>d) x
noncomputable def A.fW (x:A):Bool:=A.casesOn (motive:=fun _=>Bool) x (fun _ _=>false) (fun _=>false) (fun _ _=>false) (fun _ _ _=>false) (fun _=>false) true (fun _ _=>true) (fun _=>false)
def L.Fix (ρ:Nat→D)(e:L):Prop:=∀ ix,e.ev (nu ρ ix)=e.ev (nu ρ 0)
noncomputable def A.ok (ρ:Nat→D) (x:A):Prop:=A.rec (motive:=fun _=>Prop) (fun _ e=>e.Fix ρ) (fun _=>True) (fun a e=>(∃ t,ρ a = .str t)∧∀ ix,e.ev (nu ρ ix)=(ρ a).s.length) (fun a sz e=>(∃ xs,ρ a = .Z sz xs)∧∀ ix,e.ev (nu ρ ix)=(ρ a).l.length) (fun _=>True) True (fun _ r ihx ihr=>ihx∧ihr∧r.fW=true) (fun d=>d.l=[]∧jW d=false) x
noncomputable def lm (i:Nat):L:= .m i 1 (.c 0)
theorem L5 {ν:Nat→Int}{i:Nat}:(lm i).ev ν=ν i:=by show 1*ν i+0=_;omega
noncomputable def A.H7 (x:A):L:=A.casesOn (motive:=fun _=>L) x (fun _ e=>e) (fun _=> .c 0) (fun _ _=> .c 0) (fun _ _ _=> .c 0) (fun a=>lm (Nat.mul 8 a)) (.c 0) (fun _ _=> .c 0) (fun d=> .c (pZ d))
noncomputable def A.len (x:A):L:=A.casesOn (motive:=fun _=>L) x (fun _ _=> .c 0) (fun _=> .c 0) (fun _ _=> .c 0) (fun _ _ e=>e) (fun a=>lm (Nat.add (Nat.mul 8 a) 1)) (.c 0) (fun _ _=> .c 0) (fun _=> .c 0)
noncomputable def A.sle (x:A):L:=A.casesOn (motive:=fun _=>L) x (fun _ _=> .c 0) (fun _=> .c 0) (fun _ e=>e) (fun _ _ _=> .c 0) (fun a=>lm (Nat.add (Nat.mul 8 a) 4)) (.c 0) (fun _ _=> .c 0) (fun d=> .c (Int.ofNat (P7 (EO d))))
noncomputable def A.uR (x:A):L:=A.rec (motive:=fun _=>L) (fun _ _=> .c 1) (fun _=> .c 1) (fun _ e=>e.O8 1) (fun a _ _=>lm (Nat.add (Nat.mul 8 a) 2)) (fun a=>lm (Nat.add (Nat.mul 8 a) 2)) (.c 1) (fun _ _ x r=>(x.add r).O8 1) (fun d=> .c (Int.ofNat (Nat.succ (P7 (EO d))))) x
noncomputable def A.el (x:A) (j:Nat):L:=A.casesOn (motive:=fun _=>L) x (fun _ _=> .c 0) (fun _=> .c 0) (fun _ _=> .c 0) (fun a _ _=>lm (Nat.add (Nat.mul 8 (Nat.add (Nat.mul 32 a) j)) 3)) (fun a=>lm (Nat.add (Nat.mul 8 (Nat.add (Nat.mul 32 a) j)) 3)) (.c 0) (fun _ _=> .c 0) (fun _=> .c 0)
noncomputable def A.bo (x:A):Fm:=A.casesOn (motive:=fun _=>Fm) x (fun _ _=> .f) (fun f=>f) (fun _ _=> .f) (fun _ _ _=> .f) (fun a=> .b a) .f (fun _ _=> .f) (fun d=>H9 (ZC d) .t .f)
noncomputable def A.sq (x:A) (s:G0):Fm:=A.casesOn (motive:=fun _=>Fm) x (fun _ _=>H9 (BV [] s) .t .f) (fun _=>H9 (BV [] s) .t .f) (fun a e=>List.casesOn (motive:=fun _=>Fm) s (.ge ((L.c 0).sub e)) (fun _ _=> .q a s)) (fun _ _ _=>H9 (BV [] s) .t .f) (fun a=> .q a s) (H9 (BV [] s) .t .f) (fun _ _=>H9 (BV [] s) .t .f) (fun d=>H9 (BV (EO d) s) .t .f)
noncomputable def A.nil (x:A):Fm:=A.casesOn (motive:=fun _=>Fm) x (fun _ _=> .f) (fun _=> .f) (fun _ _=> .f) (fun _ _ _=> .f) (fun a=> .n a) .f (fun _ _=> .f) (fun d=>H9 (O9 d) .t .f)
theorem A.jB {ρ:Nat→D}{x:A}(h:x.ok ρ)(ix:Nat):x.H7.ev (nu ρ ix)=(x.val ρ).i:=by
 cases x with
 |n k e=>exact h ix
 |b f=>rfl
 |s a e=>
  obtain⟨⟨t,e1⟩,_⟩:=h
  show (0:Int)=(ρ a).i
  rw [e1];rfl
 |l a sz e=>
  obtain⟨⟨t,e1⟩,_⟩:=h
  show (0:Int)=(ρ a).i
  rw [e1];rfl
 |o a=>exact L5.trans AX
 |gn=>rfl
 |gc x r=>rfl
 |c d=>exact OJ d
theorem A.V8 {ρ:Nat→D}{x:A}(h:x.ok ρ)(ix:Nat):x.len.ev (nu ρ ix)=((x.val ρ).l.length:Nat):=by
 cases x with
 |s a e=>
  obtain⟨⟨t,e1⟩,_⟩:=h
  show (0:Int)=((ρ a).l.length:Nat)
  rw [e1];rfl
 |l a sz e=>exact h.2 ix
 |o a=>exact L5.trans gO
 |c d=>
  show (0:Int)=(d.l.length:Nat)
  rw [h.1];rfl
 |_=>rfl
theorem A.YG {ρ:Nat→D}{x:A}(h:x.ok ρ)(ix:Nat):x.sle.ev (nu ρ ix)=((x.val ρ).s.length:Nat):=by
 cases x with
 |s a e=>exact h.2 ix
 |l a sz e=>
  obtain⟨⟨t,e1⟩,_⟩:=h
  show (0:Int)=((ρ a).s.length:Nat)
  rw [e1];rfl
 |o a=>exact L5.trans MM
 |c d=>
  show ((P7 (EO d):Nat):Int)=(d.s.length:Nat)
  rw [P8,xG]
 |_=>rfl
theorem lT {ρ:Nat→D}{x:A}(h:x.fW=true):∃ cs,x.val ρ = .agg cs:=by
 cases x with
 |gn=>exact⟨_,rfl⟩
 |gc x r=>exact⟨_,rfl⟩
 |_=>cases h
theorem Th {d:D}(h1:d.l=[])(h2:jW d=false):bR d=d.s.length+1:=by
 cases d with
 |Z sz xs=>
  have h1:xs=[]:=h1
  subst h1;simp [bR,bP,D.s]
 |agg cs=>cases h2
 |str s=>simp [bR,D.s]
 |_=>simp [bR,D.s]
theorem A.zU {ρ:Nat→D}(ix:Nat):∀ {x:A},x.ok ρ→x.uR.ev (nu ρ ix)=(bR (x.val ρ):Nat)
 | .n k e,h=>by show (1:Int)=_;simp [A.val,bR]
 | .b f,h=>by show (1:Int)=_;simp [A.val,bR]
 | .s a e,h=>by
  obtain⟨⟨t,e1⟩,h2⟩:=h
  show (e.O8 1).ev _=(bR (ρ a):Nat)
  rw [L.K3,h2,e1];simp [bR,D.s]
 | .l a sz e,h=>L5.trans JI
 | .o a,h=>L5.trans JI
 | .gn,h=>by show (1:Int)=_;simp [A.val,bR,bP]
 | .gc x r,⟨h1,h2,h3⟩=>by
  show ((x.uR.add r.uR).O8 1).ev _=(bR (.agg (x.val ρ::(r.val ρ).cells)):Nat)
  rw [L.K3,L.eU,A.zU ix h1,A.zU ix h2]
  obtain⟨cs,e⟩:=lT (ρ:=ρ) h3
  rw [e];simp [bR,bP,D.cells];omega
 | .c d,h=>by
  show ((Nat.succ (P7 (EO d)):Nat):Int)=(bR d:Nat)
  rw [P8,xG,Th h.1 h.2]
theorem He (j:Nat):Je (D.top.at_ j)=0:=by
 cases j with
 |zero=>rfl
 |succ j=>rfl
theorem lN {d:D}{j ix:Nat}(h:d.l=[]):Nl d j ix=0:=by
 unfold Nl
 rw [h];exact He j
theorem Zi {ρ:Nat→D}{ix a j:Nat}(hj:j<32):nu ρ ix (8*(32*a+j)+3)=Nl (ρ a) j ix:=by
 have h1:(8*(32*a+j)+3) % 8=3:=by omega
 have h2:(8*(32*a+j)+3) / 256=a:=by omega
 have h3:(8*(32*a+j)+3) / 8 % 32=j:=by omega
 rw [nu,if_pos h1,h2,h3]
theorem A.Ou {ρ:Nat→D}{x:A}(h:x.ok ρ)(ix:Nat){j:Nat}(hj:j<32):(x.el j).ev (nu ρ ix)=Nl (x.val ρ) j ix:=by
 cases x with
 |s a e=>
  obtain⟨⟨t,e1⟩,_⟩:=h
  exact (lN (d:=ρ a) (by rw [e1];rfl)).symm
 |l a sz e=>exact L5.trans (Zi hj)
 |o a=>exact L5.trans (Zi hj)
 |c d=>exact (lN h.1).symm
 |n k e=>exact (lN rfl).symm
 |b f=>exact (lN rfl).symm
 |gn=>exact (lN rfl).symm
 |gc x r=>exact (lN rfl).symm
theorem A.wT {ρ:Nat→D}{x:A}(h:x.ok ρ):x.bo.bv ρ=(x.val ρ).b:=by
 cases x with
 |s a e=>
  obtain⟨⟨t,e1⟩,_⟩:=h
  show false=(ρ a).b
  rw [e1];rfl
 |l a sz e=>
  obtain⟨⟨t,e1⟩,_⟩:=h
  show false=(ρ a).b
  rw [e1];rfl
 |c d=>
  show (H9 (ZC d) Fm.t Fm.f).bv ρ=d.b
  rw [OI];cases d.b<;>rfl
 |_=>rfl
theorem EJ {ρ:Nat→D}{c:Bool}:(H9 c Fm.t Fm.f).bv ρ=c:=by cases c<;>rfl
theorem A.QK {ρ:Nat→D}{x:A}(h:x.ok ρ)(s:G0):(x.sq s).bv ρ=((x.val ρ).s==s):=by
 have h0:∀ d:D,d.s=[]→(H9 (BV [] s) Fm.t Fm.f).bv ρ=(d.s==s):=fun d hd=>by rw [EJ,iP,hd]
 cases x with
 |s a e=>
  cases s with
  |cons _ _=>rfl
  |nil=>
   show decide (0≤((L.c 0).sub e).ev (nu ρ 0))=((ρ a).s==[])
   rw [L.K0,L.dY,h.2 0]
   cases hs:(ρ a).s with
   |nil=>rfl
   |cons b r=>exact E8 (by simp only [A0];omega)
 |o a=>rfl
 |l a sz e=>
  obtain⟨⟨t,e1⟩,_⟩:=h
  exact h0 (ρ a) (by rw [e1];rfl)
 |c d=>
  show (H9 (BV (EO d) s) Fm.t Fm.f).bv ρ=(d.s==s)
  rw [EJ,iP,xG]
 |n k e=>exact h0 _ rfl
 |b f=>exact h0 _ rfl
 |gn=>exact h0 _ rfl
 |gc x r=>exact h0 _ rfl
theorem A.yV {ρ:Nat→D}{x:A}(h:x.ok ρ):x.nil.bv ρ=O9 (x.val ρ):=by
 cases x with
 |s a e=>
  obtain⟨⟨t,e1⟩,_⟩:=h
  show false=O9 (ρ a)
  rw [e1];rfl
 |l a sz e=>
  obtain⟨⟨t,e1⟩,_⟩:=h
  show false=O9 (ρ a)
  rw [e1];rfl
 |c d=>exact EJ
 |_=>rfl
noncomputable def A.fc (x:A):L:=A.casesOn (motive:=fun _=>L) x (fun _ _=> .c 0) (fun _=> .c 0) (fun _ _=> .c 0) (fun a _ _=>lm (Nat.add (Nat.mul 8 a) 7)) (fun a=>lm (Nat.add (Nat.mul 8 a) 7)) (.c 0) (fun _ _=> .c 0) (fun _=> .c 0)
theorem A.Fj {ρ:Nat→D}{x:A}(h:x.ok ρ)(ix:Nat):x.fc.ev (nu ρ ix)=rI (x.val ρ).l:=by
 cases x with
 |s a e=>
  obtain⟨⟨t,e1⟩,_⟩:=h
  show (0:Int)=(rI (ρ a).l:Nat)
  rw [e1];rfl
 |l a sz e=>exact L5.trans Nq
 |o a=>exact L5.trans Nq
 |c d=>
  show (0:Int)=(rI d.l:Nat)
  rw [h.1];rfl
 |_=>rfl
noncomputable def A.rf (x:A):Rf:=A.casesOn (motive:=fun _=>Rf) x (fun _ _=> .s []) (fun _=> .s []) (fun a _=> .a a) (fun a _ _=> .a a) (fun a=> .a a) (.s []) (fun _ _=> .s []) (fun d=> .s (EO d))
theorem A.GP {ρ:Nat→D}{x:A}(h:x.ok ρ):(x.rf.val ρ).l=(x.val ρ).l:=by
 cases x with
 |c d=>exact h.1.symm
 |_=>rfl
theorem A.Ss {ρ:Nat→D}{x:A}(h:x.ok ρ):(x.rf.val ρ).s=(x.val ρ).s:=by
 cases x with
 |c d=>exact xG d
 |_=>rfl
noncomputable def Rf.sub (σ:Nat→A) (r:Rf):Rf:=Rf.casesOn (motive:=fun _=>Rf) r (fun i=>(σ i).rf) (fun t=> .s t)
noncomputable def mo (σ:Nat→A) (i:Nat):L:=L3 (.c 0) [(σ (Nat.div i 8)).H7,(σ (Nat.div i 8)).len,(σ (Nat.div i 8)).uR,(σ (Nat.div i 256)).el (Nat.mod (Nat.div i 8) 32),(σ (Nat.div i 8)).sle,.c 0,.c 0,(σ (Nat.div i 8)).fc] (Nat.mod i 8)
noncomputable def L.jN (σ:Nat→A) (e:L):L:=L.rec (motive:=fun _=>L) (fun k=> .c k) (fun i k _ ih=>((mo σ i).mul k).add ih) e
noncomputable def Lt.sub (σ:Nat→A) (x:Lt):Lt:=Lt.casesOn (motive:=fun _=>Lt) x fun q az es=> .mk q (mM (Rf.sub σ) az) (mM (fun e=>e.jN σ) es)
noncomputable def Fm.sub (σ:Nat→A) (x:Fm):Fm:=Fm.rec (motive:=fun _=>Fm) .t .f (fun e=> .ge (e.jN σ)) (fun a=>(σ a).bo) (fun a=>(σ a).bo.neg) (fun a s=>(σ a).sq s) (fun a s=>((σ a).sq s).neg) (fun a=>(σ a).nil) (fun a=>(σ a).nil.neg) (fun _ _ x y=> .an x y) (fun _ _ x y=> .or x y) (fun x=> .p (x.sub σ)) (fun x=> .np (x.sub σ)) x
noncomputable def wv (ρ:Nat→D) (σ:Nat→A):Nat→D:=fun a=>(σ a).val ρ
def mK (ρ:Nat→D)(σ:Nat→A):Prop:=∀ a,(σ a).ok ρ
theorem Qf {ρ:Nat→D}{σ:Nat→A}(h:mK ρ σ)(ix i:Nat):(mo σ i).ev (nu ρ ix)=nu (wv ρ σ) ix i:=by
 unfold mo
 have e1:Nat.div i 8=i / 8:=rfl
 have e2:Nat.div i 256=i / 256:=rfl
 have e3:Nat.mod (Nat.div i 8) 32=i / 8 % 32:=rfl
 have e4:Nat.mod i 8=i % 8:=rfl
 rw [e3,e4,e1,e2]
 have hl:i % 8<8:=Nat.mod_lt _ (by decide)
 by_cases h3:i % 8=3
 ·rw [h3,nu,if_pos h3]
  exact A.Ou (h _) ix (Nat.mod_lt _ (by decide))
 ·rw [nu,if_neg h3]
  generalize i % 8=t at *
  match t,hl with
  |0,_=>exact A.jB (h _) ix
  |1,_=>exact A.V8 (h _) ix
  |2,_=>exact A.zU ix (h _)
  |3,_=>exact absurd rfl h3
  |4,_=>exact A.YG (h _) ix
  |5,_=>rfl
  |6,_=>rfl
  |7,_=>exact A.Fj (h _) ix
theorem L.jO {ρ:Nat→D}{σ:Nat→A}(h:mK ρ σ)(ix:Nat):∀ e:L,(e.jN σ).ev (nu ρ ix)=e.ev (nu (wv ρ σ) ix)
 | .c k=>rfl
 | .m i k r=>by
  show (((mo σ i).mul k).add (r.jN σ)).ev _=k*nu (wv ρ σ) ix i+r.ev _
  rw [L.eU,L.X8,Qf h,L.jO h ix r]
theorem Lt.cJ {ρ:Nat→D}{σ:Nat→A}(h:mK ρ σ)(x:Lt):(x.sub σ).bv ρ=x.bv (wv ρ σ):=by
 obtain⟨q,az,es⟩:=x
 have e1:(az.map (Rf.sub σ)).map (fun r=>(r.val ρ).l)=az.map fun r=>(r.val (wv ρ σ)).l:=by
  rw [List.map_map]
  refine List.map_congr_left fun r _=>?_
  cases r with
  |a i=>exact A.GP (h i)
  |s t=>rfl
 have e2:(az.map (Rf.sub σ)).map (fun r=>(r.val ρ).s)=az.map fun r=>(r.val (wv ρ σ)).s:=by
  rw [List.map_map]
  refine List.map_congr_left fun r _=>?_
  cases r with
  |a i=>exact A.Ss (h i)
  |s t=>rfl
 have e3:(es.map fun e=>e.jN σ).map (fun e=>e.ev (nu ρ 0))=es.map fun e=>e.ev (nu (wv ρ σ) 0):=by
  rw [List.map_map]
  exact List.map_congr_left fun e _=>L.jO h 0 e
 have:(Lt.mk q (mM (Rf.sub σ) az) (mM (fun e=>e.jN σ) es)).holds ρ=(Lt.mk q az es).holds (wv ρ σ):=by
  rw [gJ,gJ]
  show PR q _ _ _=PR q _ _ _
  rw [e1,e2,e3]
 rw [Bool.eq_iff_iff,Lt.rP,Lt.rP]
 exact iff_of_eq this
theorem Fm.cJ {ρ:Nat→D}{σ:Nat→A}(h:mK ρ σ):∀ x:Fm,(x.sub σ).bv ρ=x.bv (wv ρ σ)
 | .t=>rfl
 | .f=>rfl
 | .ge e=>by
  show decide (0≤(e.jN σ).ev (nu ρ 0))=decide (0≤e.ev (nu (wv ρ σ) 0))
  rw [L.jO h]
 | .b a=>A.wT (h a)
 | .nb a=>by show (σ a).bo.neg.bv ρ=!_;rw [Fm.L6,A.wT (h a)];rfl
 | .q a s=>A.QK (h a) s
 | .nq a s=>by show ((σ a).sq s).neg.bv ρ=!_;rw [Fm.L6,A.QK (h a) s];rfl
 | .n a=>A.yV (h a)
 | .nn a=>by show (σ a).nil.neg.bv ρ=!_;rw [Fm.L6,A.yV (h a)];rfl
 | .an x y=>by
  show ((x.sub σ).bv ρ&&(y.sub σ).bv ρ)=_
  rw [Fm.cJ h x,Fm.cJ h y];rfl
 | .or x y=>by
  show ((x.sub σ).bv ρ||(y.sub σ).bv ρ)=_
  rw [Fm.cJ h x,Fm.cJ h y];rfl
 | .p x=>Lt.cJ h x
 | .np x=>by show (!(x.sub σ).bv ρ)=_;rw [Lt.cJ h x];rfl
inductive K where
 |i (k:IntKind)
 |b
 |s
 |l (sz p:Nat) (ps:List L)
 |r (sz p:Nat) (ps:List L)
 |u
abbrev Hp:=Nat→List Int→D→Prop
def EL (hp:Hp)(ρ:Nat→D)(xs:List D)(p:Nat)(ps:List L):Prop:=∀ j,j<xs.length→hp p (ps.map fun e=>e.ev (nu ρ j)) (xs[j]?.getD .top)
def HK (hp:Hp)(ρ:Nat→D)(k:K)(d:D):Prop:=match k with
 | .i k=>∃ n,d = .int k n
 | .b=>∃ x,d = .bool x
 | .s=>∃ x,d = .str x
 | .l sz p ps=>∃ xs,d = .Z sz xs∧EL hp ρ xs p ps
 | .r sz p ps=>(∃ a b,d = .nils a b)∨∃ xs,d = .Z sz xs∧EL hp ρ xs p ps
 | .u=>True
noncomputable def K.sub (σ:Nat→A) (k:K):K:=K.casesOn (motive:=fun _=>K) k (fun k=> .i k) .b .s (fun sz p ps=> .l sz p (mM (fun e=>e.jN σ) ps)) (fun sz p ps=> .r sz p (mM (fun e=>e.jN σ) ps)) .u
theorem TE {hp:Hp}{ρ:Nat→D}{σ:Nat→A}(h:mK ρ σ){xs:List D}{p:Nat}{ps:List L}:EL hp ρ xs p (mM (fun e=>e.jN σ) ps)↔EL hp (wv ρ σ) xs p ps:=by
 have e:∀ j,((mM (fun e=>e.jN σ) ps).map fun e=>e.ev (nu ρ j))=ps.map fun e=>e.ev (nu (wv ρ σ) j):=by
  intro j
  rw [gJ,List.map_map]
  exact List.map_congr_left fun e _=>L.jO h j e
 constructor<;>intro hh j hj
 ·rw [← e];exact hh j hj
 ·rw [e];exact hh j hj
theorem kD {hp:Hp}{ρ:Nat→D}{σ:Nat→A}(h:mK ρ σ){k:K}{d:D}:HK hp ρ (k.sub σ) d↔HK hp (wv ρ σ) k d:=by
 cases k with
 |l sz p ps=>
  show (∃ xs,d = .Z sz xs∧EL hp ρ xs p (mM (fun e=>e.jN σ) ps))↔∃ xs,d = .Z sz xs∧EL hp (wv ρ σ) xs p ps
  simp only [TE h]
 |r sz p ps=>
  show ((∃ a b,d = .nils a b)∨∃ xs,d = .Z sz xs∧EL hp ρ xs p (mM (fun e=>e.jN σ) ps))↔((∃ a b,d = .nils a b)∨∃ xs,d = .Z sz xs∧EL hp (wv ρ σ) xs p ps)
  simp only [TE h]
 |_=>exact Iff.rfl
inductive Pd where
 |sc (np:Nat) (k:K) (fm:List Fm)
 |st (np:Nat) (ks:List K) (fm:List Fm)
def pw (np:Nat)(pars:List Int)(leaf:Nat→D):Nat→D:=fun j=>if j<np then .int .i64 (pars[j]?.getD 0) else leaf (j-np)
def TH (hp:Hp)(t:Pd)(pars:List Int)(d:D):Prop:=match t with
 | .sc np k fm=>HK hp (pw np pars fun _=>d) k d∧Hs (pw np pars fun _=>d) fm
 | .st np ks fm=>(∃ cs,d = .agg cs∧cs.length=ks.length)∧(∀ j,j<ks.length→HK hp (pw np pars fun j=>d.at_ j) (ks[j]?.getD .u) (d.at_ j))∧Hs (pw np pars fun j=>d.at_ j) fm
def Gw (tab:Nat→Pd):Nat→Hp
 |0=>fun _ _ _=>True
 |n+1=>fun p pars d=>TH (Gw tab n) (tab p) pars d
def HP (tab:Nat→Pd):Hp:=fun p pars d=>∀ n,Gw tab n p pars d
theorem DO {tab:Nat→Pd}{ρ:Nat→D}{xs:List D}{p:Nat}{ps:List L}:EL (HP tab) ρ xs p ps↔∀ n,EL (Gw tab n) ρ xs p ps:=⟨fun h n j hj=>h j hj n,fun h j hj n=>h n j hj⟩
theorem DP {tab:Nat→Pd}{ρ:Nat→D}{k:K}{d:D}:HK (HP tab) ρ k d↔∀ n,HK (Gw tab n) ρ k d:=by
 cases k with
 |l sz p ps=>
  constructor
  ·rintro ⟨xs,rfl,h⟩ n
   exact⟨xs,rfl,DO.1 h n⟩
  ·intro h
   obtain⟨xs,rfl,_⟩:=h 0
   refine⟨xs,rfl,DO.2 fun n=>?_⟩
   obtain⟨ys,e,hy⟩:=h n
   cases e;exact hy
 |r sz p ps=>
  constructor
  ·rintro (⟨a,b,rfl⟩|⟨xs,rfl,h⟩) n
   ·exact .inl ⟨a,b,rfl⟩
   ·exact .inr ⟨xs,rfl,DO.1 h n⟩
  ·intro h
   rcases h 0 with h0|⟨xs,rfl,_⟩
   ·exact .inl h0
   ·refine .inr ⟨xs,rfl,DO.2 fun n=>?_⟩
    rcases h n with ⟨a,b,e⟩|⟨ys,e,hy⟩
    ·cases e
    ·cases e;exact hy
 |_=>exact⟨fun h _=>h,fun h=>h 0⟩
theorem eB {tab:Nat→Pd}{p:Nat}{pars:List Int}{d:D}:HP tab p pars d↔TH (HP tab) (tab p) pars d:=by
 have key:TH (HP tab) (tab p) pars d↔∀ n,TH (Gw tab n) (tab p) pars d:=by
  cases tab p with
  |sc np k fm=>
   constructor
   ·rintro ⟨h1,h2⟩ n
    exact⟨DP.1 h1 n,h2⟩
   ·intro h
    exact⟨DP.2 fun n=>(h n).1,(h 0).2⟩
  |st np ks fm=>
   constructor
   ·rintro ⟨h1,h2,h3⟩ n
    exact⟨h1,fun j hj=>DP.1 (h2 j hj) n,h3⟩
   ·intro h
    exact⟨(h 0).1,fun j hj=>DP.2 fun n=>(h n).2.1 j hj,(h 0).2.2⟩
 rw [key]
 constructor
 ·intro h n
  exact h (n+1)
 ·intro h n
  cases n with
  |zero=>trivial
  |succ n=>exact h n
inductive Rl where
 |mk (p q:Nat) (cond:Fm)
def pi (pars:List Int):Nat→D:=fun j=> .int .i64 (pars[j]?.getD 0)
def Ve (pars pars':List Int):Nat→D:=fun j=> .int .i64 (if j % 2=0 then pars[j / 2]?.getD 0 else pars'[j / 2]?.getD 0)
def KT (hp:Hp)(r:Rl):Prop:=match r with
 | .mk p q cond=>∀ pars pars' d,cond.bv (Ve pars pars')=true→hp p pars d→hp q pars' d
noncomputable def FP (e:L):Bool:=L.rec (motive:=fun _=>Bool) (fun _=>true) (fun i _ _ ih=>H9 (Nat.beq (Nat.mod i 8) 3) false ih) e
theorem lZ {ρ:Nat→D}:∀ {e:L},FP e=true→e.Fix ρ
 | .c k,_=>fun _=>rfl
 | .m i k r,h=>fun ix=>by
  have h:H9 (Nat.beq (Nat.mod i 8) 3) false (FP r)=true:=h
  cases hb:Nat.beq (Nat.mod i 8) 3 with
  |true=>rw [hb] at h;cases h
  |false=>
   rw [hb] at h
   show k*nu ρ ix i+r.ev _=k*nu ρ 0 i+r.ev _
   have h3:¬ i % 8=3:=fun e=>by
    have:Nat.beq (Nat.mod i 8) 3=true:=by show Nat.beq (i % 8) 3=true;rw [e];rfl
    rw [this] at hb;cases hb
   rw [lZ (e:=r) h ix,nu,nu,if_neg h3,if_neg h3]
noncomputable def U8 {α:Type} (f:α→Bool) (l:List α):Bool:=List.rec (motive:=fun _=>Bool) true (fun x _ ih=>H9 (f x) ih false) l
theorem fY {α:Type}{f:α→Bool}:∀ {l:List α},U8 f l=true→∀ x∈l,f x=true
 |[],_,x,hx=>by cases hx
 |y::l,h,x,hx=>by
  obtain⟨h1,h2⟩:=I3 h
  rcases B7.1 hx with rfl|hx
  ·exact h1
  ·exact fY h2 x hx
noncomputable def Ow (xs:List L):List L→Bool:=List.rec (motive:=fun _=>List L→Bool) (fun ys=>List.casesOn (motive:=fun _=>Bool) ys true (fun _ _=>false)) (fun x _ ih ys=>List.casesOn (motive:=fun _=>Bool) ys false (fun y r=>H9 (x.lP y) (ih r) false)) xs
theorem ON:∀ {xs ys:List L},Ow xs ys=true→xs=ys
 |[],[],_=>rfl
 |[],_::_,h=>by cases h
 |_::_,[],h=>by cases h
 |x::xs,y::ys,h=>by
  obtain⟨h1,h2⟩:=I3 h
  rw [L.T6 h1,ON h2]
noncomputable def UT (F:List Fm) (xs:List L):List L→Nat→(Nat→Bool)→Bool:=List.rec (motive:=fun _=>List L→Nat→(Nat→Bool)→Bool) (fun ys ct k=>List.casesOn (motive:=fun _=>Bool) ys (k ct) (fun _ _=>false)) (fun x _ ih ys ct k=>List.casesOn (motive:=fun _=>Bool) ys false (fun y r=>pf 40 F (.an (.ge (x.sub y)) (.ge (y.sub x))) ct fun ct=>ih r ct k)) xs
theorem UU {F:List Fm}:∀ {xs ys:List L} {ct:Nat} {k:Nat→Bool},UT F xs ys ct k=true→∃ ct,k ct=true
 |[],[],ct,k,h=>⟨ct,h⟩
 |[],_::_,_,_,h=>by cases h
 |_::_,[],_,_,h=>by cases h
 |x::xs,y::ys,ct,k,h=>by
  have h:pf 40 F (.an (.ge (x.sub y)) (.ge (y.sub x))) ct (fun ct=>UT F xs ys ct k)=true:=h
  obtain⟨_,h⟩:=JR 40 h
  exact UU (xs:=xs) h
theorem OO {ρ:Nat→D}{F:List Fm}(hF:Hs ρ F):∀ {xs ys:List L} {ct:Nat} {k:Nat→Bool},UT F xs ys ct k=true→xs.map (fun e=>e.ev (nu ρ 0))=ys.map fun e=>e.ev (nu ρ 0)
 |[],[],ct,k,h=>rfl
 |[],_::_,_,_,h=>by cases h
 |_::_,[],_,_,h=>by cases h
 |x::xs,y::ys,ct,k,h=>by
  have h:pf 40 F (.an (.ge (x.sub y)) (.ge (y.sub x))) ct (fun ct=>UT F xs ys ct k)=true:=h
  obtain⟨h1,h2⟩:=Fm.T3.1 (JS 40 hF h)
  have h1:=Fm.I7.1 h1
  have h2:=Fm.I7.1 h2
  rw [L.K0] at h1 h2
  obtain⟨_,h⟩:=JR 40 h
  have h3:=OO hF (xs:=xs) h
  simp only [List.map_cons,h3,List.cons.injEq,and_true]
  omega
noncomputable def Uu (ps:List L):Nat→A:=fun i=> .n .i64 (L3 (.c 0) ps i)
theorem lX {ρ:Nat→D}{ps:List L}(h:U8 FP ps=true)(j:Nat):(ps.map fun e=>e.ev (nu ρ j))=ps.map fun e=>e.ev (nu ρ 0):=List.map_congr_left fun e he=>lZ (fY h e he) j
theorem Qg {ρ:Nat→D}{ps:List L}(h:U8 FP ps=true):mK ρ (Uu ps):=fun i=>by
 show (L3 (.c 0) ps i).Fix ρ
 exact iA (P:=fun e:L=>e.Fix ρ) (fun _=>rfl) (fun e he=>lZ (fY h e he)) i
theorem qV {ρ:Nat→D}(j:Nat):∀ (ps:List L) (i:Nat),(L3 (.c 0) ps i).ev (nu ρ j)=(ps.map fun e=>e.ev (nu ρ j))[i]?.getD 0
 |[],i=>by cases i<;>rfl
 |x::ps,0=>rfl
 |x::ps,i+1=>by
  show (L3 (.c 0) ps i).ev (nu ρ j)=_
  rw [qV j ps i];simp
theorem Qh {ρ:Nat→D}{ps:List L}:wv ρ (Uu ps)=pi (ps.map fun e=>e.ev (nu ρ 0)):=by
 funext i
 show D.int .i64 _=D.int .i64 _
 rw [qV 0]
noncomputable def Wi (ps qs:List L):Nat→A:=fun i=> .n .i64 (H9 (Nat.beq (Nat.mod i 2) 0) (L3 (.c 0) ps (Nat.div i 2)) (L3 (.c 0) qs (Nat.div i 2)))
theorem Jb {ρ:Nat→D}{ps qs:List L}(h:U8 FP ps=true)(h':U8 FP qs=true):mK ρ (Wi ps qs):=fun i=>by
 show (H9 (Nat.beq (Nat.mod i 2) 0) (L3 (.c 0) ps (Nat.div i 2)) (L3 (.c 0) qs (Nat.div i 2))).Fix ρ
 cases Nat.beq (Nat.mod i 2) 0 with
 |true=>exact iA (P:=fun e:L=>e.Fix ρ) (fun _=>rfl) (fun e he=>lZ (fY h e he)) _
 |false=>exact iA (P:=fun e:L=>e.Fix ρ) (fun _=>rfl) (fun e he=>lZ (fY h' e he)) _
theorem Jc {ρ:Nat→D}{ps qs:List L}:wv ρ (Wi ps qs)=Ve (ps.map fun e=>e.ev (nu ρ 0)) (qs.map fun e=>e.ev (nu ρ 0)):=by
 funext i
 show D.int .i64 ((H9 (Nat.beq (Nat.mod i 2) 0) (L3 (.c 0) ps (Nat.div i 2)) (L3 (.c 0) qs (Nat.div i 2))).ev (nu ρ 0))=D.int .i64 _
 have e1:Nat.mod i 2=i % 2:=rfl
 have e2:Nat.div i 2=i / 2:=rfl
 rw [e1,e2]
 by_cases h:i % 2=0
 ·rw [h,if_pos rfl];exact congrArg _ (qV 0 _ _)
 ·have hb:Nat.beq (i % 2) 0=false:=by cases hb:Nat.beq (i % 2) 0 with|false=>rfl|true=>exact absurd (P3 hb) h
  rw [hb,if_neg h];exact congrArg _ (qV 0 _ _)
noncomputable def HI (rl:Nat→Rl) (F:List Fm) (p:Nat) (ps:List L) (q:Nat) (qs:List L) (ct:Nat) (k:Nat→Bool):Bool:=tok ct fun t ct=>L3 (fun _=>false) [
 (fun _=>H9 (Nat.beq p q) (H9 (Ow ps qs) (k ct) false) false),
 (fun _=>H9 (Nat.beq p q) (H9 (U8 FP ps) (H9 (U8 FP qs) (UT F ps qs ct k) false) false) false),
 (fun _=>J8 4 ct fun r ct=>Rl.casesOn (motive:=fun _=>Bool) (rl r) fun p' q' cond=>H9 (Nat.beq p p') (H9 (Nat.beq q q') (H9 (U8 FP ps) (H9 (U8 FP qs) (pf 40 F (cond.sub (Wi ps qs)) ct k) false) false) false) false)] t ()
theorem IC {rl:Nat→Rl}{F:List Fm}{p q:Nat}{ps qs:List L}{ct:Nat}{k:Nat→Bool}(h:HI rl F p ps q qs ct k=true):∃ ct,k ct=true:=by
 unfold HI at h
 rw [cK] at h
 by_cases ht:ct % 32<3
 ·generalize ct % 32=t at h ht
  match t,ht with
  |0,_=>
   simp only [I8,I9] at h
   exact⟨_,(I3 (I3 h).2).2⟩
  |1,_=>
   simp only [I8,I9] at h
   exact UU (I3 (I3 (I3 h).2).2).2
  |2,_=>
   simp only [I8,I9] at h
   obtain⟨r,c1,h⟩:=I0 h
   cases hr:rl r with
   |mk p' q' cond=>
    rw [hr] at h
    exact JR 40 (I3 (I3 (I3 (I3 h).2).2).2).2
 ·rw [Y8 (by simp only [A0,A8];omega)] at h
  cases h
theorem nT {hp:Hp}{rl:Nat→Rl}{ρ:Nat→D}{F:List Fm}(hR:∀ r,KT hp (rl r))(hF:Hs ρ F){p q:Nat}{ps qs:List L}{ct:Nat}{k:Nat→Bool}(h:HI rl F p ps q qs ct k=true){xs:List D}(hx:EL hp ρ xs p ps):EL hp ρ xs q qs:=by
 unfold HI at h
 rw [cK] at h
 by_cases ht:ct % 32<3
 ·generalize ct % 32=t at h ht
  match t,ht with
  |0,_=>
   simp only [I8,I9] at h
   obtain⟨h1,h⟩:=I3 h
   rw [← P3 h1,← ON (I3 h).1];exact hx
  |1,_=>
   simp only [I8,I9] at h
   obtain⟨h1,h⟩:=I3 h
   obtain⟨h2,h⟩:=I3 h
   obtain⟨h3,h⟩:=I3 h
   have e:=OO hF h
   intro j hj
   have:=hx j hj
   rw [lX h2,e] at this
   rw [← P3 h1,lX h3];exact this
  |2,_=>
   simp only [I8,I9] at h
   obtain⟨r,c1,h⟩:=I0 h
   cases hr:rl r with
   |mk p' q' cond=>
    rw [hr] at h
    obtain⟨h1,h⟩:=I3 h
    obtain⟨h2,h⟩:=I3 h
    obtain⟨h3,h⟩:=I3 h
    obtain⟨h4,h⟩:=I3 h
    have hc:=JS 40 hF h
    rw [Fm.cJ (Jb h3 h4),Jc] at hc
    have hr':=hR r
    rw [hr] at hr'
    intro j hj
    have:=hx j hj
    rw [lX h3,P3 h1] at this
    rw [P3 h2,lX h4]
    exact hr' _ _ _ hc this
 ·rw [Y8 (by simp only [A0,A8];omega)] at h
  cases h
end Go.AE.Q
namespace Go.AE.Q
inductive Sg where
 |mk (b n p:Nat) (pp:List L) (σ:Nat→A) (ks:List K)
inductive Df where
 |ms (a:Nat) (ls es:List A)
 |sp (a:Nat) (x:A) (i:L) (y:A)
inductive Ce where
 |mk (a:Nat) (i:L) (x:A)
inductive St where
 |mk (nx:Nat) (G:List Sg) (F:List Fm) (D:List Df) (C:List Ce)
def St.nx:St→Nat | .mk n ..=>n
def St.G:St→List Sg | .mk _ g ..=>g
def St.F:St→List Fm | .mk _ _ f ..=>f
def St.D:St→List Df | .mk _ _ _ d _=>d
def St.C:St→List Ce | .mk _ _ _ _ c=>c
structure Cx where
 tab:Nat→Pd
 rl:Nat→Rl
noncomputable def jC (ρ:Nat→D) (ps:List L):List Int:=ps.map fun e=>e.ev (nu ρ 0)
def AM (tab:Nat→Pd)(ρ:Nat→D):Sg→Prop
 | .mk b n p pp σ ks=>mK ρ σ∧n=ks.length∧(∀ j,j<n→HK (HP tab) (wv ρ σ) (ks[j]?.getD .u) (ρ (b+j)))∧(p≠0→U8 FP pp=true∧HP tab (p-1) (jC ρ pp) (.agg ((List.range n).map fun j=>ρ (b+j))))
def oT (ρ:Nat→D):Df→Prop
 | .ms a ls es=>(∀ x∈ls,x.ok ρ)∧(∀ x∈es,x.ok ρ)∧∀ z∈(ρ a).l,(∃ x∈ls,z∈(x.val ρ).l)∨∃ x∈es,z=x.val ρ
 | .sp a x i y=>x.ok ρ∧y.ok ρ∧0≤i.ev (nu ρ 0)∧(ρ a).l=(x.val ρ).l.set (i.ev (nu ρ 0)).toNat (y.val ρ)
def TD (ρ:Nat→D):Ce→Prop
 | .mk a i x=>x.ok ρ∧0≤i.ev (nu ρ 0)∧x.val ρ=(ρ a).l[(i.ev (nu ρ 0)).toNat]?.getD .top
structure KU (tab:Nat→Pd) (ρ:Nat→D) (st:St):Prop where
 G:∀ x∈st.G,AM tab ρ x
 F:Hs ρ st.F
 D:∀ x∈st.D,oT ρ x
 C:∀ x∈st.C,TD ρ x
def L4 (n:Nat)(ρ ρ':Nat→D):Prop:=∀ a,a<n→ρ' a=ρ a
theorem L4.refl {n:Nat}{ρ:Nat→D}:L4 n ρ ρ:=fun _ _=>rfl
theorem L4.trans {n m:Nat}{ρ ρ' ρ'':Nat→D}(h:L4 n ρ ρ')(hm:n≤m)(h':L4 m ρ' ρ''):L4 n ρ ρ'':=fun a ha=>(h' a (by omega)).trans (h a ha)
def Sat (tab:Nat→Pd)(ρ:Nat→D)(st:St):Prop:=∀ ρ',L4 st.nx ρ ρ'→KU tab ρ' st
def M9 (ρ:Nat→D)(n:Nat)(x:A)(d:D):Prop:=∀ ρ',L4 n ρ ρ'→x.val ρ'=d∧x.ok ρ'
theorem M9.mono {ρ ρ1:Nat→D}{n m:Nat}{x:A}{d:D}(h:M9 ρ n x d)(ha:L4 n ρ ρ1)(hm:n≤m):M9 ρ1 m x d:=fun ρ' h'=>h ρ' (ha.trans hm h')
theorem Sat.self {tab:Nat→Pd}{ρ:Nat→D}{st:St}(h:Sat tab ρ st):KU tab ρ st:=h ρ L4.refl
noncomputable def kindOf (G:List Sg) (a:Nat):K:=List.rec (motive:=fun _=>K) .u (fun x _ ih=>Sg.casesOn (motive:=fun _=>K) x fun b n p pp σ ks=>H9 (Nat.ble b a) (H9 (Nat.blt a (Nat.add b n)) ((L3 .u ks (Nat.sub a b)).sub σ) ih) ih) G
theorem aP {tab:Nat→Pd}{ρ:Nat→D}{a:Nat}:∀ {G:List Sg},(∀ x∈G,AM tab ρ x)→HK (HP tab) ρ (kindOf G a) (ρ a)
 |[],h=>trivial
 | .mk b n p pp σ ks::G,h=>by
  have ih:=aP (a:=a) (G:=G) fun x hx=>h x (C0 _ hx)
  show HK (HP tab) ρ (H9 (Nat.ble b a) (H9 (Nat.blt a (Nat.add b n)) ((L3 .u ks (Nat.sub a b)).sub σ) (kindOf G a)) (kindOf G a)) (ρ a)
  cases h1:Nat.ble b a with
  |false=>exact ih
  |true=>
   cases h2:Nat.blt a (Nat.add b n) with
   |false=>exact ih
   |true=>
    obtain⟨hσ,hn,hk,_⟩:=h _ (B8 ..)
    have g1:b≤a:=B3 h1
    have g2:a+1≤b+n:=B3 h2
    have:=hk (a-b) (by omega)
    rw [show b+(a-b)=a by omega] at this
    show HK (HP tab) ρ ((L3 .u ks (a-b)).sub σ) (ρ a)
    rw [fI]
    exact (kD hσ).2 this
noncomputable def T7 (k:K) (a:Nat):A:=K.casesOn (motive:=fun _=>A) k (fun k=> .n k (lm (Nat.mul 8 a))) (.b (.b a)) (.s a (lm (Nat.add (Nat.mul 8 a) 4))) (fun sz _ _=> .l a sz (lm (Nat.add (Nat.mul 8 a) 1))) (fun _ _ _=> .o a) (.o a)
theorem fG {hp:Hp}{ρ ρ':Nat→D}{k:K}{a:Nat}(h:HK hp ρ' k (ρ a)):(T7 k a).val ρ=ρ a∧(T7 k a).ok ρ:=by
 cases k with
 |i k=>
  obtain⟨n,e⟩:=h
  refine⟨?_,fun ix=>L5.trans (AX.trans (AX.symm.trans L5.symm))⟩
  show D.int k ((lm (8*a)).ev (nu ρ 0))=ρ a
  rw [L5,AX,e];rfl
 |b=>
  obtain⟨x,e⟩:=h
  refine⟨?_,trivial⟩
  show D.bool (ρ a).b=ρ a
  rw [e];rfl
 |s=>
  obtain⟨x,e⟩:=h
  exact⟨rfl,⟨x,e⟩,fun ix=>L5.trans MM⟩
 |l sz p ps=>
  obtain⟨x,e,_⟩:=h
  exact⟨rfl,⟨x,e⟩,fun ix=>L5.trans gO⟩
 |r sz p ps=>exact⟨rfl,trivial⟩
 |u=>exact⟨rfl,trivial⟩
noncomputable def A.lP (x y:A):Bool:=A.casesOn (motive:=fun _=>Bool) x
 (fun k e=>A.casesOn (motive:=fun _=>Bool) y (fun k' e'=>H9 (Fp k k') (e.lP e') false) (fun _=>false) (fun _ _=>false) (fun _ _ _=>false) (fun _=>false) false (fun _ _=>false) (fun _=>false))
 (fun f=>A.casesOn (motive:=fun _=>Bool) y (fun _ _=>false) (fun f'=>f.lP f') (fun _ _=>false) (fun _ _ _=>false) (fun _=>false) false (fun _ _=>false) (fun _=>false))
 (fun a _=>A.casesOn (motive:=fun _=>Bool) y (fun _ _=>false) (fun _=>false) (fun a' _=>Nat.beq a a') (fun _ _ _=>false) (fun _=>false) false (fun _ _=>false) (fun _=>false))
 (fun a _ _=>A.casesOn (motive:=fun _=>Bool) y (fun _ _=>false) (fun _=>false) (fun _ _=>false) (fun a' _ _=>Nat.beq a a') (fun a'=>Nat.beq a a') false (fun _ _=>false) (fun _=>false))
 (fun a=>A.casesOn (motive:=fun _=>Bool) y (fun _ _=>false) (fun _=>false) (fun _ _=>false) (fun a' _ _=>Nat.beq a a') (fun a'=>Nat.beq a a') false (fun _ _=>false) (fun _=>false))
 false (fun _ _=>false)
 (fun d=>A.casesOn (motive:=fun _=>Bool) y (fun _ _=>false) (fun _=>false) (fun _ _=>false) (fun _ _ _=>false) (fun _=>false) false (fun _ _=>false) (fun d'=>D.casesOn (motive_1:=fun _=>Bool) d false (fun _=>false) (fun _ _=>false) (fun s=>H9 (kS d') (BV s (EO d')) false) (fun sz xs=>H9 (kL sz d') (List.casesOn (motive:=fun _=>Bool) xs (List.casesOn (motive:=fun _=>Bool) (ZD d') true (fun _ _=>false)) (fun _ _=>false)) false) (fun _ _=>false) false (fun _=>false) (fun _=>false) false false false false false (fun _ _=>false) (fun _ _ _=>false)))
theorem LY {d:D}(h:kS d=true):∃ s,d = .str s:=by cases d<;>first|exact⟨_,rfl⟩|cases h
theorem yO {sz:Nat}{d:D}(h:kL sz d=true):∃ xs,d = .Z sz xs:=by
 cases d with
 |Z sz' xs=>
  have h:Nat.beq sz sz'=true:=h
  rw [P3 h];exact⟨_,rfl⟩
 |_=>cases h
theorem A.LM {ρ:Nat→D}{x y:A}(h:x.lP y=true):x.val ρ=y.val ρ:=by
 cases x with
 |n k e=>
  cases y with
  |n k' e'=>
   obtain⟨h1,h2⟩:=I3 h
   rw [sI] at h1
   rw [E7 h1,L.T6 h2]
  |_=>cases h
 |b f=>cases y with|b f'=>rw [Fm.T6 h]|_=>cases h
 |s a e=>cases y with|s a' e'=>exact congrArg ρ (P3 h)|_=>cases h
 |l a sz e=>cases y with|l a' sz' e'=>exact congrArg ρ (P3 h)|o a'=>exact congrArg ρ (P3 h)|_=>cases h
 |o a=>cases y with|l a' sz' e'=>exact congrArg ρ (P3 h)|o a'=>exact congrArg ρ (P3 h)|_=>cases h
 |c d=>
  cases y with
  |c d'=>
   cases d with
   |str s=>
    obtain⟨h1,h2⟩:=I3 h
    obtain⟨s',rfl⟩:=LY h1
    rw [iP] at h2
    show D.str s=D.str s'
    rw [eq_of_beq h2];rfl
   |Z sz xs=>
    obtain⟨h1,h2⟩:=I3 h
    obtain⟨xs',rfl⟩:=yO h1
    cases xs with
    |nil=>cases xs' with|nil=>rfl|cons _ _=>cases h2
    |cons _ _=>cases h2
   |_=>cases h
  |_=>cases h
 |gn=>cases h
 |gc x r=>cases h
noncomputable def A.dZ (x:A):Nat→A:=A.rec (motive:=fun _=>Nat→A) (fun _ _ _=> .c .top) (fun _ _=> .c .top) (fun _ _ _=> .c .top) (fun _ _ _ _=> .c .top) (fun _ _=> .c .top) (fun _=> .c .top) (fun x _ _ ihr j=>Nat.rec (motive:=fun _=>A) x (fun j _=>ihr j) j) (fun _ _=> .c .top) x
theorem aG {ρ:Nat→D}:(A.c .top).ok ρ:=⟨rfl,rfl⟩
theorem A.aA {ρ:Nat→D}:∀ {x:A} (j:Nat),x.ok ρ→(x.dZ j).ok ρ
 | .gc x r,0,h=>h.1
 | .gc x r,j+1,h=>A.aA (x:=r) j h.2.1
 | .gn,j,h=>aG
 | .n ..,j,h=>aG
 | .b ..,j,h=>aG
 | .s ..,j,h=>aG
 | .l ..,j,h=>aG
 | .o ..,j,h=>aG
 | .c ..,j,h=>aG
theorem A.V4 {ρ:Nat→D}:∀ {x:A} (j:Nat),x.ok ρ→x.fW=true→(x.dZ j).val ρ=(x.val ρ).at_ j
 | .gn,j,h,hc=>by show D.top=(D.agg []).at_ j;simp [D.at_,D.cells]
 | .gc x r,0,h,hc=>by show x.val ρ=(D.agg (x.val ρ::(r.val ρ).cells)).at_ 0;simp [D.at_,D.cells]
 | .gc x r,j+1,h,hc=>by
  show (r.dZ j).val ρ=(D.agg (x.val ρ::(r.val ρ).cells)).at_ (j+1)
  rw [A.V4 (x:=r) j h.2.1 h.2.2]
  obtain⟨cs,e⟩:=lT (ρ:=ρ) h.2.2
  simp [D.at_,D.cells,e]
noncomputable def UE (x:A):Nat→List K→Bool:=A.rec (motive:=fun _=>Nat→List K→Bool) (fun _ _ _ _=>false) (fun _ _ _=>false) (fun _ _ _ _=>false) (fun _ _ _ _ _=>false) (fun _ _ _=>false) (fun _ ks=>List.casesOn (motive:=fun _=>Bool) ks true (fun _ _=>false)) (fun x _ _ ihr b ks=>List.casesOn (motive:=fun _=>Bool) ks false (fun k r=>H9 (x.lP (T7 k b)) (ihr (Nat.succ b) r) false)) (fun _ _ _=>false) x
theorem OD {hp:Hp}{ρ ρ':Nat→D}:∀ {x:A} {b:Nat} {ks:List K},UE x b ks=true→(∀ j,j<ks.length→HK hp ρ' (ks[j]?.getD .u) (ρ (b+j)))→x.val ρ = .agg ((List.range ks.length).map fun j=>ρ (b+j))
 | .gn,b,[],h,hk=>rfl
 | .gn,b,_::_,h,hk=>by cases h
 | .gc x r,b,[],h,hk=>by cases h
 | .gc x r,b,k::ks,h,hk=>by
  obtain⟨h1,h2⟩:=I3 h
  have e1:=(A.LM (ρ:=ρ) h1).trans (fG (hk 0 (by simp))).1
  have e2:=OD (x:=r) (b:=b+1) (ks:=ks) (hp:=hp) (ρ':=ρ') h2 fun j hj=>by
   have:=hk (j+1) (by simpa using hj)
   rw [show b+1+j=b+(j+1) by omega]
   simpa using this
  show D.agg (x.val ρ::(r.val ρ).cells)=_
  rw [e1,e2,A0,List.range_succ_eq_map,List.map_cons,List.map_map]
  refine congrArg (fun l=>D.agg (ρ b::l)) (List.map_congr_left fun j _=>?_)
  show ρ (b+1+j)=ρ (b+(j+1))
  rw [show b+1+j=b+(j+1) by omega]
 | .n ..,b,ks,h,hk=>by cases h
 | .b ..,b,ks,h,hk=>by cases h
 | .s ..,b,ks,h,hk=>by cases h
 | .l ..,b,ks,h,hk=>by cases h
 | .o ..,b,ks,h,hk=>by cases h
 | .c ..,b,ks,h,hk=>by cases h
noncomputable def Jf (G:List Sg) (x:A) (k:L→Bool):Bool:=A.casesOn (motive:=fun _=>Bool) x (fun _ e=>k e) (fun _=>k (.c 0)) (fun _ e=>k e) (fun _ _ e=>k e) (fun a=>K.casesOn (motive:=fun _=>Bool) (kindOf G a) (fun _=>false) false false (fun _ _ _=>k (lm (Nat.add (Nat.mul 8 a) 1))) (fun _ _ _=>k (lm (Nat.add (Nat.mul 8 a) 1))) false) (k (.c 0)) (fun _ _=>k (.c 0)) (fun _=>false)
theorem Jg {tab:Nat→Pd}{W:(Nat→D)→Prop}{G:List Sg}(hG:∀ ρ,W ρ→∀ x∈G,AM tab ρ x){x:A}(hx:∀ ρ,W ρ→x.ok ρ){k:L→Bool}(h:Jf G x k=true):∃ e,(∀ ρ,W ρ→∀ ix,e.ev (nu ρ ix)=Je (x.val ρ))∧k e=true:=by
 cases x with
 |n kk e=>
  refine⟨e,fun ρ w ix=>?_,h⟩
  exact hx ρ w ix
 |b f=>exact⟨_,fun _ _ _=>rfl,h⟩
 |s a e=>
  refine⟨e,fun ρ w ix=>?_,h⟩
  obtain⟨⟨t,e1⟩,h2⟩:=hx ρ w
  show _=Je (ρ a)
  rw [h2,e1];rfl
 |l a sz e=>
  refine⟨e,fun ρ w ix=>?_,h⟩
  obtain⟨⟨t,e1⟩,h2⟩:=hx ρ w
  show _=Je (ρ a)
  rw [h2,e1];rfl
 |o a=>
  have hk:=fun ρ w=>aP (a:=a) (hG ρ w)
  have h:K.casesOn (motive:=fun _=>Bool) (kindOf G a) (fun _=>false) false false (fun _ _ _=>k (lm (Nat.add (Nat.mul 8 a) 1))) (fun _ _ _=>k (lm (Nat.add (Nat.mul 8 a) 1))) false=true:=h
  generalize kindOf G a=kk at h hk
  cases kk with
  |l sz p ps=>
   refine⟨_,fun ρ w ix=>?_,h⟩
   obtain⟨xs,e,_⟩:=hk ρ w
   refine L5.trans (gO.trans ?_)
   show _=Je (ρ a)
   rw [e];rfl
  |r sz p ps=>
   refine⟨_,fun ρ w ix=>?_,h⟩
   refine L5.trans (gO.trans ?_)
   show _=Je (ρ a)
   rcases hk ρ w with ⟨x,y,e⟩|⟨xs,e,_⟩<;>rw [e]<;>rfl
  |_=>cases h
 |gn=>exact⟨_,fun _ _ _=>rfl,h⟩
 |gc x r=>exact⟨_,fun _ _ _=>rfl,h⟩
 |c d=>cases h
noncomputable def gC (C:List Ce) (a:Nat) (i:L) (k:A→Bool):Bool:=List.rec (motive:=fun _=>Bool) false (fun x _ ih=>Ce.casesOn (motive:=fun _=>Bool) x fun b j x=>H9 (Nat.beq a b) (H9 (i.lP j) (k x) ih) ih) C
theorem xQ {W:(Nat→D)→Prop}{a:Nat}{i:L}{k:A→Bool}:∀ {C:List Ce},(∀ ρ,W ρ→∀ x∈C,TD ρ x)→gC C a i k=true→∃ x,(∀ ρ,W ρ→x.ok ρ∧0≤i.ev (nu ρ 0)∧x.val ρ=(ρ a).l[(i.ev (nu ρ 0)).toNat]?.getD .top)∧k x=true
 |[],_,h=>by cases h
 | .mk b j x::C,hC,h=>by
  have ih:=fun h=>xQ (a:=a) (i:=i) (k:=k) (C:=C) (fun ρ w x hx=>hC ρ w x (C0 _ hx)) h
  have h:H9 (Nat.beq a b) (H9 (i.lP j) (k x) (gC C a i k)) (gC C a i k)=true:=h
  cases h1:Nat.beq a b with
  |false=>rw [h1] at h;exact ih h
  |true=>
   rw [h1] at h
   have h:H9 (i.lP j) (k x) (gC C a i k)=true:=h
   cases h2:i.lP j with
   |false=>rw [h2] at h;exact ih h
   |true=>
    rw [h2] at h
    rw [P3 h1,L.T6 h2]
    exact⟨x,fun ρ w=>hC ρ w _ (B8 ..),h⟩
noncomputable def A.ML (x:A) (j:Nat) (k:A→Bool):Bool:=A.casesOn (motive:=fun _=>Bool) x (fun _ _=>H9 (Nat.beq j 0) (k x) false) (fun _=>H9 (Nat.beq j 0) (k x) false) (fun _ _=>H9 (Nat.beq j 0) (k x) false) (fun _ _ _=>H9 (Nat.beq j 0) (k x) false) (fun _=>false) (k (x.dZ j)) (fun _ _=>k (x.dZ j)) (fun _=>H9 (Nat.beq j 0) (k x) false)
theorem NZ {d:D}(h:jW d=false):d.at_ 0=d:=by cases d<;>first|rfl|cases h
theorem A.Bu {W:(Nat→D)→Prop}{x:A}(hx:∀ ρ,W ρ→x.ok ρ){j:Nat}{k:A→Bool}(h:x.ML j k=true):∃ y,(∀ ρ,W ρ→y.ok ρ∧y.val ρ=(x.val ρ).at_ j)∧k y=true:=by
 have one:(∀ ρ,W ρ→jW (x.val ρ)=false)→H9 (Nat.beq j 0) (k x) false=true→∃ y,(∀ ρ,W ρ→y.ok ρ∧y.val ρ=(x.val ρ).at_ j)∧k y=true:=by
  intro ha h
  obtain⟨h1,h⟩:=I3 h
  have e:=P3 h1
  exact⟨x,fun ρ w=>⟨hx ρ w,by rw [e];exact (NZ (ha ρ w)).symm⟩,h⟩
 cases x with
 |n kk e=>exact one (fun _ _=>rfl) h
 |b f=>exact one (fun _ _=>rfl) h
 |s a e=>exact one (fun ρ w=>by obtain⟨⟨t,e1⟩,_⟩:=hx ρ w;show jW (ρ a)=false;rw [e1];rfl) h
 |l a sz e=>exact one (fun ρ w=>by obtain⟨⟨t,e1⟩,_⟩:=hx ρ w;show jW (ρ a)=false;rw [e1];rfl) h
 |o a=>cases h
 |gn=>exact⟨_,fun ρ w=>⟨A.aA j (hx ρ w),A.V4 j (hx ρ w) rfl⟩,h⟩
 |gc x r=>exact⟨_,fun ρ w=>⟨A.aA j (hx ρ w),A.V4 j (hx ρ w) rfl⟩,h⟩
 |c d=>exact one (fun ρ w=>(hx ρ w).2) h
noncomputable def ZM (G:List Sg) (C:List Ce) (i:L) (e:L):(L→Bool)→Bool:=L.rec (motive:=fun _=>(L→Bool)→Bool) (fun c k=>k (.c c)) (fun id c _ ih k=>H9 (Nat.beq (Nat.mod id 8) 3) (gC C (Nat.div id 256) i fun x=>x.ML (Nat.mod (Nat.div id 8) 32) fun y=>Jf G y fun e=>ih fun r=>k ((e.mul c).add r)) (ih fun r=>k (r.ins id c))) e
theorem KQ {tab:Nat→Pd}{W:(Nat→D)→Prop}{G:List Sg}{C:List Ce}(hG:∀ ρ,W ρ→∀ x∈G,AM tab ρ x)(hC:∀ ρ,W ρ→∀ x∈C,TD ρ x){i:L}:∀ {e:L} {k:L→Bool},ZM G C i e k=true→∃ e',(∀ ρ,W ρ→∀ ix,e'.ev (nu ρ ix)=e.ev (nu ρ (i.ev (nu ρ 0)).toNat))∧k e'=true
 | .c c,k,h=>⟨_,fun _ _ _=>rfl,h⟩
 | .m id c r,k,h=>by
  have h:H9 (Nat.beq (Nat.mod id 8) 3) (gC C (Nat.div id 256) i fun x=>x.ML (Nat.mod (Nat.div id 8) 32) fun y=>Jf G y fun e=>ZM G C i r fun r=>k ((e.mul c).add r)) (ZM G C i r fun r=>k (r.ins id c))=true:=h
  cases hb:Nat.beq (Nat.mod id 8) 3 with
  |true=>
   rw [hb] at h
   have h:(gC C (Nat.div id 256) i fun x=>x.ML (Nat.mod (Nat.div id 8) 32) fun y=>Jf G y fun e=>ZM G C i r fun r=>k ((e.mul c).add r))=true:=h
   obtain⟨x,h1,h⟩:=xQ hC h
   obtain⟨y,h4,h⟩:=A.Bu (fun ρ w=>(h1 ρ w).1) h
   obtain⟨e,h6,h⟩:=Jg hG (fun ρ w=>(h4 ρ w).1) h
   obtain⟨e',h7,h⟩:=KQ hG hC h
   refine⟨_,fun ρ w ix=>?_,h⟩
   have hm:id % 8=3:=P3 hb
   show _=c*nu ρ _ id+r.ev _
   rw [L.eU,L.X8,h6 ρ w,h7 ρ w,nu,if_pos hm,Nl,(h4 ρ w).2,(h1 ρ w).2.2];rfl
  |false=>
   rw [hb] at h
   obtain⟨e',h7,h⟩:=KQ hG hC (e:=r) h
   refine⟨_,fun ρ w ix=>?_,h⟩
   have hm:¬ id % 8=3:=fun e=>by
    have:Nat.beq (Nat.mod id 8) 3=true:=by show Nat.beq (id % 8) 3=true;rw [e];rfl
    rw [this] at hb;cases hb
   show _=c*nu ρ _ id+r.ev _
   rw [L.nY,h7 ρ w,nu,nu,if_neg hm,if_neg hm]
noncomputable def KR (G:List Sg) (C:List Ce) (i:L) (es:List L):(List L→Bool)→Bool:=List.rec (motive:=fun _=>(List L→Bool)→Bool) (fun k=>k []) (fun e _ ih k=>ZM G C i e fun e=>ih fun r=>k (e::r)) es
theorem DT {tab:Nat→Pd}{W:(Nat→D)→Prop}{G:List Sg}{C:List Ce}(hG:∀ ρ,W ρ→∀ x∈G,AM tab ρ x)(hC:∀ ρ,W ρ→∀ x∈C,TD ρ x){i:L}:∀ {es:List L} {k:List L→Bool},KR G C i es k=true→∃ es',(∀ ρ,W ρ→∀ ix,(es'.map fun e=>e.ev (nu ρ ix))=es.map fun e=>e.ev (nu ρ (i.ev (nu ρ 0)).toNat))∧k es'=true
 |[],k,h=>⟨[],fun _ _ _=>rfl,h⟩
 |e::es,k,h=>by
  obtain⟨e',h1,h⟩:=KQ hG hC (e:=e) h
  obtain⟨es',h2,h⟩:=DT hG hC (es:=es) h
  exact⟨_,fun ρ w ix=>by rw [List.map_cons,List.map_cons,h1 ρ w,h2 ρ w],h⟩
end Go.AE.Q
namespace Go.AE.Q
noncomputable def Dr (F:List Fm) (σ:Nat→A) (fm:List Fm):Nat→(Nat→Bool)→Bool:=List.rec (motive:=fun _=>Nat→(Nat→Bool)→Bool) (fun ct k=>k ct) (fun f _ ih ct k=>pf 40 F (f.sub σ) ct fun ct=>ih ct k) fm
theorem PS {F:List Fm}{σ:Nat→A}:∀ {fm:List Fm} {ct:Nat} {k:Nat→Bool},Dr F σ fm ct k=true→∃ ct,k ct=true
 |[],ct,k,h=>⟨ct,h⟩
 |f::fm,ct,k,h=>by
  have h:pf 40 F (f.sub σ) ct (fun ct=>Dr F σ fm ct k)=true:=h
  obtain⟨_,h⟩:=JR 40 h
  exact PS (fm:=fm) h
theorem sW {ρ:Nat→D}{F:List Fm}(hF:Hs ρ F){σ:Nat→A}(hσ:mK ρ σ):∀ {fm:List Fm} {ct:Nat} {k:Nat→Bool},Dr F σ fm ct k=true→Hs (wv ρ σ) fm
 |[],ct,k,h=>fun x hx=>by cases hx
 |f::fm,ct,k,h=>by
  have h:pf 40 F (f.sub σ) ct (fun ct=>Dr F σ fm ct k)=true:=h
  have h1:=JS 40 hF h
  rw [Fm.cJ hσ] at h1
  obtain⟨_,h⟩:=JR 40 h
  exact (sW hF hσ h).cons h1
noncomputable def oN (np:Nat) (ps:List L) (leaf:Nat→A):Nat→A:=fun i=>H9 (Nat.blt i np) (Uu ps i) (leaf (Nat.sub i np))
theorem zS {ρ:Nat→D}{np:Nat}{ps:List L}{leaf:Nat→A}(h:U8 FP ps=true)(hl:∀ j,(leaf j).ok ρ):mK ρ (oN np ps leaf):=fun i=>by
 unfold oN
 cases Nat.blt i np with
 |true=>exact Qg h i
 |false=>exact hl _
theorem zT {ρ:Nat→D}{np:Nat}{ps:List L}{leaf:Nat→A}:wv ρ (oN np ps leaf)=pw np (jC ρ ps) fun j=>(leaf j).val ρ:=by
 funext i
 show (H9 (Nat.blt i np) (Uu ps i) (leaf (Nat.sub i np))).val ρ=if i<np then _ else _
 by_cases h:i<np
 ·have h1:Nat.blt i np=true:=by show Nat.ble (i+1) np=true;exact B2 h
  rw [h1,if_pos h]
  exact congrFun Qh i
 ·have h1:Nat.blt i np=false:=by cases hb:Nat.blt i np with|false=>rfl|true=>exact absurd (B3 hb) h
  rw [h1,if_neg h];rfl
section
variable (cx:Cx) (G:List Sg) (F:List Fm) (D_:List Df) (C:List Ce)
abbrev KN:=A→Nat→List L→Nat→(Nat→Bool)→Bool
noncomputable def Ir (e:KN) (x:A) (y:K) (ct:Nat) (k:Nat→Bool):Bool:=K.casesOn (motive:=fun _=>Bool) y
 (fun kk=>A.casesOn (motive:=fun _=>Bool) x (fun k' _=>H9 (Fp k' kk) (k ct) false) (fun _=>false) (fun _ _=>false) (fun _ _ _=>false) (fun _=>false) false (fun _ _=>false) (fun _=>false))
 (A.casesOn (motive:=fun _=>Bool) x (fun _ _=>false) (fun _=>k ct) (fun _ _=>false) (fun _ _ _=>false) (fun _=>false) false (fun _ _=>false) (fun _=>false))
 (A.casesOn (motive:=fun _=>Bool) x (fun _ _=>false) (fun _=>false) (fun _ _=>k ct) (fun _ _ _=>false) (fun _=>false) false (fun _ _=>false) (fun d=>H9 (kS d) (k ct) false))
 (fun sz p ps=>A.casesOn (motive:=fun _=>Bool) x (fun _ _=>false) (fun _=>false) (fun _ _=>false) (fun _ sz' _=>H9 (Nat.beq sz' sz) (H9 (Nat.beq p 0) (k ct) (e x p ps ct k)) false) (fun _=>false) false (fun _ _=>false) (fun d=>H9 (kL sz d) (k ct) false))
 (fun sz p ps=>A.casesOn (motive:=fun _=>Bool) x (fun _ _=>false) (fun _=>false) (fun _ _=>false) (fun _ sz' _=>H9 (Nat.beq sz' sz) (H9 (Nat.beq p 0) (k ct) (e x p ps ct k)) false) (fun a=>K.casesOn (motive:=fun _=>Bool) (kindOf G a) (fun _=>false) false false (fun sz' p0 ps0=>H9 (Nat.beq sz' sz) (HI cx.rl F p0 ps0 p ps ct k) false) (fun sz' p0 ps0=>H9 (Nat.beq sz' sz) (HI cx.rl F p0 ps0 p ps ct k) false) false) false (fun _ _=>false) (fun d=>H9 (O9 d) (k ct) (H9 (kL sz d) (k ct) false)))
 (k ct)
noncomputable def No (e:KN) (σ:Nat→A) (x:A):List K→Nat→(Nat→Bool)→Bool:=A.rec (motive:=fun _=>List K→Nat→(Nat→Bool)→Bool) (fun _ _ _ _ _=>false) (fun _ _ _ _=>false) (fun _ _ _ _ _=>false) (fun _ _ _ _ _ _=>false) (fun _ _ _ _=>false) (fun ks ct k=>List.casesOn (motive:=fun _=>Bool) ks (k ct) (fun _ _=>false)) (fun x _ _ ihr ks ct k=>List.casesOn (motive:=fun _=>Bool) ks false (fun kk kr=>Ir cx G F e x (kk.sub σ) ct fun ct=>ihr kr ct k)) (fun _ _ _ _=>false) x
noncomputable def Hh (e:KN) (x:A) (p:Nat) (ps:List L) (ct:Nat) (k:Nat→Bool):Bool:=Pd.casesOn (motive:=fun _=>Bool) (cx.tab p)
 (fun np kk fm=>H9 (U8 FP ps) (Ir cx G F e x (kk.sub (oN np ps fun _=>x)) ct fun ct=>Dr F (oN np ps fun _=>x) fm ct k) false)
 (fun np ks fm=>tok ct fun t ct=>L3 (fun _=>false) [
  (fun _=>J8 6 ct fun g ct=>Sg.casesOn (motive:=fun _=>Bool) (L3 (.mk 0 0 0 [] (fun _=> .c .top) []) G g) fun b n p0 pp σ ks'=>H9 (Nat.beq p0 0) false (H9 (UE x b ks') (HI cx.rl F (Nat.sub p0 1) pp p ps ct k) false)),
  (fun _=>H9 (U8 FP ps) (No cx G F e (oN np ps x.dZ) x ks ct fun ct=>Dr F (oN np ps x.dZ) fm ct k) false)] t ())
noncomputable def QV (f:A→Nat→(Nat→Bool)→Bool) (l:List A):Nat→(Nat→Bool)→Bool:=List.rec (motive:=fun _=>Nat→(Nat→Bool)→Bool) (fun ct k=>k ct) (fun x _ ih ct k=>f x ct fun ct=>ih ct k) l
noncomputable def xR (a:Nat) (k:List A→List A→Bool):Bool:=List.rec (motive:=fun _=>Bool) false (fun x _ ih=>Df.casesOn (motive:=fun _=>Bool) x (fun b ls es=>H9 (Nat.beq a b) (k ls es) ih) (fun _ _ _ _=>ih)) D_
noncomputable def xT (a:Nat) (k:A→L→A→Bool):Bool:=List.rec (motive:=fun _=>Bool) false (fun x _ ih=>Df.casesOn (motive:=fun _=>Bool) x (fun _ _ _=>ih) (fun b x i y=>H9 (Nat.beq a b) (k x i y) ih)) D_
noncomputable def Nk (e:KN) (a:Nat) (p:Nat) (ps:List L) (ct:Nat) (k:Nat→Bool):Bool:=tok ct fun t ct=>L3 (fun _=>false) [
 (fun _=>K.casesOn (motive:=fun _=>Bool) (kindOf G a) (fun _=>false) false false (fun _ p0 ps0=>HI cx.rl F p0 ps0 p ps ct k) (fun _ p0 ps0=>HI cx.rl F p0 ps0 p ps ct k) false),
 (fun _=>H9 (U8 FP ps) (xR D_ a fun ls es=>QV (fun x=>e x p ps) ls ct fun ct=>QV (fun x=>Hh cx G F e x p ps) es ct k) false),
 (fun _=>xT D_ a fun x i y=>e x p ps ct fun ct=>KR G C i ps fun ps=>Hh cx G F e y p ps ct k)] t ()
noncomputable def Hr (e:KN):KN:=fun x p ps ct k=>A.casesOn (motive:=fun _=>Bool) x (fun _ _=>k ct) (fun _=>k ct) (fun _ _=>k ct) (fun a _ _=>Nk cx G F D_ C e a p ps ct k) (fun a=>Nk cx G F D_ C e a p ps ct k) (k ct) (fun _ _=>k ct) (fun _=>k ct)
noncomputable def UO (n:Nat):KN:=Nat.rec (motive:=fun _=>KN) (fun _ _ _ _ _=>false) (fun _ ih=>Hr cx G F D_ C ih) n
end
structure rL (cx:Cx):Prop where
 r:∀ r,KT (HP cx.tab) (cx.rl r)
 z:∀ pars d,HP cx.tab 0 pars d
theorem Ux {c:Bool}{k:Bool}{e:Bool}(h:H9 c k e=true):(c=true∧k=true)∨e=true:=by
 cases c with
 |true=>exact .inl ⟨rfl,h⟩
 |false=>exact .inr h
def Ni (e:KN):Prop:=∀ {x p ps ct k},e x p ps ct k=true→∃ ct,k ct=true
def Yv (cx:Cx)(ρ:Nat→D)(e:KN):Prop:=∀ {x p ps ct k},e x p ps ct k=true→x.ok ρ→EL (HP cx.tab) ρ (x.val ρ).l p ps
section
variable {cx:Cx} {G:List Sg} {F:List Fm} {D_:List Df} {C:List Ce} {e:KN}
theorem IT (he:Ni e){x:A}{y:K}{ct:Nat}{k:Nat→Bool}(h:Ir cx G F e x y ct k=true):∃ ct,k ct=true:=by
 cases y with
 |u=>exact⟨_,h⟩
 |i kk=>cases x<;>first|exact⟨_,(I3 h).2⟩|cases h
 |b=>cases x<;>first|exact⟨_,h⟩|cases h
 |s=>cases x<;>first|exact⟨_,(I3 h).2⟩|exact⟨_,h⟩|cases h
 |l sz p ps=>
  cases x with
  |l a sz' e'=>
   rcases Ux (I3 h).2 with ⟨_,h⟩|h
   ·exact⟨_,h⟩
   ·exact he h
  |c d=>exact⟨_,(I3 h).2⟩
  |_=>cases h
 |r sz p ps=>
  cases x with
  |l a sz' e'=>
   rcases Ux (I3 h).2 with ⟨_,h⟩|h
   ·exact⟨_,h⟩
   ·exact he h
  |o a=>
   have h:K.casesOn (motive:=fun _=>Bool) (kindOf G a) (fun _=>false) false false (fun sz' p0 ps0=>H9 (Nat.beq sz' sz) (HI cx.rl F p0 ps0 p ps ct k) false) (fun sz' p0 ps0=>H9 (Nat.beq sz' sz) (HI cx.rl F p0 ps0 p ps ct k) false) false=true:=h
   generalize kindOf G a=kk at h
   cases kk<;>first|exact IC (I3 h).2|cases h
  |c d=>
   have h:H9 (O9 d) (k ct) (H9 (kL sz d) (k ct) false)=true:=h
   cases hn:O9 d with
   |true=>rw [hn] at h;exact⟨_,h⟩
   |false=>rw [hn] at h;exact⟨_,(I3 h).2⟩
  |_=>cases h
theorem VS (he:Ni e){σ:Nat→A}:∀ {x:A} {ks:List K} {ct:Nat} {k:Nat→Bool},No cx G F e σ x ks ct k=true→∃ ct,k ct=true
 | .gn,[],ct,k,h=>⟨_,h⟩
 | .gn,_::_,ct,k,h=>by cases h
 | .gc x r,[],ct,k,h=>by cases h
 | .gc x r,kk::kr,ct,k,h=>by
  have h:Ir cx G F e x (kk.sub σ) ct (fun ct=>No cx G F e σ r kr ct k)=true:=h
  obtain⟨_,h⟩:=IT he h
  exact VS he (x:=r) h
 | .n ..,_,ct,k,h=>by cases h
 | .b ..,_,ct,k,h=>by cases h
 | .s ..,_,ct,k,h=>by cases h
 | .l ..,_,ct,k,h=>by cases h
 | .o ..,_,ct,k,h=>by cases h
 | .c ..,_,ct,k,h=>by cases h
theorem Qd {σ:Nat→A}{x:A}{ks:List K}{ct:Nat}{k:Nat→Bool}(h:No cx G F e σ x ks ct k=true):x.fW=true:=by
 cases x<;>first|rfl|cases h
theorem OF (he:Ni e){x:A}{p:Nat}{ps:List L}{ct:Nat}{k:Nat→Bool}(h:Hh cx G F e x p ps ct k=true):∃ ct,k ct=true:=by
 unfold Hh at h
 cases ht:cx.tab p with
 |sc np kk fm=>
  rw [ht] at h
  obtain⟨_,h⟩:=IT he (I3 h).2
  exact PS h
 |st np ks fm=>
  rw [ht] at h
  simp only [] at h
  rw [cK] at h
  by_cases ht:ct % 32<2
  ·generalize ct % 32=t at h ht
   match t,ht with
   |0,_=>
    simp only [I8,I9] at h
    obtain⟨g,c1,h⟩:=I0 h
    generalize L3 (Sg.mk 0 0 0 [] (fun _=> .c .top) []) G g=sg at h
    cases sg with
    |mk b n p0 pp σ ks'=>
     have h:H9 (Nat.beq p0 0) false (H9 (UE x b ks') (HI cx.rl F (Nat.sub p0 1) pp p ps c1 k) false)=true:=h
     cases hb:Nat.beq p0 0 with
     |true=>rw [hb] at h;cases h
     |false=>rw [hb] at h;exact IC (I3 h).2
   |1,_=>
    simp only [I8,I9] at h
    obtain⟨_,h⟩:=VS he (I3 h).2
    exact PS h
  ·rw [Y8 (by simp only [A0,A8];omega)] at h
   cases h
theorem DY {f:A→Nat→(Nat→Bool)→Bool}(hf:∀ {x ct k},f x ct k=true→∃ ct,k ct=true):∀ {l:List A} {ct:Nat} {k:Nat→Bool},QV f l ct k=true→∃ ct,k ct=true
 |[],ct,k,h=>⟨_,h⟩
 |x::l,ct,k,h=>by
  have h:f x ct (fun ct=>QV f l ct k)=true:=h
  obtain⟨_,h⟩:=hf h
  exact DY hf (l:=l) h
theorem DZ {f:A→Nat→(Nat→Bool)→Bool}{P:A→Prop}(hk:∀ {x ct k},f x ct k=true→∃ ct,k ct=true):∀ {l:List A} {ct:Nat} {k:Nat→Bool},(∀ {x ct k},x∈l→f x ct k=true→P x)→QV f l ct k=true→∀ x∈l,P x
 |[],ct,k,hf,h,x,hx=>by cases hx
 |y::l,ct,k,hf,h,x,hx=>by
  have h:f y ct (fun ct=>QV f l ct k)=true:=h
  rcases B7.1 hx with rfl|hx
  ·exact hf (B8 ..) h
  ·obtain⟨_,h⟩:=hk h
   exact DZ hk (l:=l) (fun hx h=>hf (C0 _ hx) h) h x hx
theorem sA {ρ:Nat→D}{a:Nat}{k:List A→List A→Bool}:∀ {l:List Df},(∀ x∈l,oT ρ x)→xR l a k=true→∃ ls es,oT ρ (.ms a ls es)∧k ls es=true
 |[],_,h=>by cases h
 | .ms b ls es::l,hl,h=>by
  have ih:=fun h=>sA (a:=a) (k:=k) (l:=l) (fun x hx=>hl x (C0 _ hx)) h
  have h:H9 (Nat.beq a b) (k ls es) (xR l a k)=true:=h
  cases hb:Nat.beq a b with
  |true=>rw [hb] at h;exact⟨ls,es,P3 hb▸hl _ (B8 ..),h⟩
  |false=>rw [hb] at h;exact ih h
 | .sp b x i y::l,hl,h=>sA (a:=a) (k:=k) (l:=l) (fun x hx=>hl x (C0 _ hx)) h
theorem xS {a:Nat}{k:List A→List A→Bool}:∀ {l:List Df},xR l a k=true→∃ ls es,k ls es=true
 |[],h=>by cases h
 | .ms b ls es::l,h=>by
  have h:H9 (Nat.beq a b) (k ls es) (xR l a k)=true:=h
  cases hb:Nat.beq a b with
  |true=>rw [hb] at h;exact⟨ls,es,h⟩
  |false=>rw [hb] at h;exact xS (l:=l) h
 | .sp b x i y::l,h=>xS (l:=l) h
theorem sB {ρ:Nat→D}{a:Nat}{k:A→L→A→Bool}:∀ {l:List Df},(∀ x∈l,oT ρ x)→xT l a k=true→∃ x i y,oT ρ (.sp a x i y)∧k x i y=true
 |[],_,h=>by cases h
 | .sp b x i y::l,hl,h=>by
  have ih:=fun h=>sB (a:=a) (k:=k) (l:=l) (fun x hx=>hl x (C0 _ hx)) h
  have h:H9 (Nat.beq a b) (k x i y) (xT l a k)=true:=h
  cases hb:Nat.beq a b with
  |true=>rw [hb] at h;exact⟨x,i,y,P3 hb▸hl _ (B8 ..),h⟩
  |false=>rw [hb] at h;exact ih h
 | .ms b ls es::l,hl,h=>sB (a:=a) (k:=k) (l:=l) (fun x hx=>hl x (C0 _ hx)) h
theorem xU {a:Nat}{k:A→L→A→Bool}:∀ {l:List Df},xT l a k=true→∃ x i y,k x i y=true
 |[],h=>by cases h
 | .sp b x i y::l,h=>by
  have h:H9 (Nat.beq a b) (k x i y) (xT l a k)=true:=h
  cases hb:Nat.beq a b with
  |true=>rw [hb] at h;exact⟨x,i,y,h⟩
  |false=>rw [hb] at h;exact xU (l:=l) h
 | .ms b ls es::l,h=>xU (l:=l) h
theorem Nx {i:L}:∀ {e:L} {k:L→Bool},ZM G C i e k=true→∃ e',k e'=true:=by
 have hC:∀ {C:List Ce} {a:Nat} {i:L} {k:A→Bool},gC C a i k=true→∃ x,k x=true:=by
  intro C a i k
  induction C with
  |nil=>intro h;cases h
  |cons x C ih=>
   intro h
   cases x with
   |mk b j x=>
    have h:H9 (Nat.beq a b) (H9 (i.lP j) (k x) (gC C a i k)) (gC C a i k)=true:=h
    cases h1:Nat.beq a b with
    |false=>rw [h1] at h;exact ih h
    |true=>
     rw [h1] at h
     have h:H9 (i.lP j) (k x) (gC C a i k)=true:=h
     cases h2:i.lP j with
     |false=>rw [h2] at h;exact ih h
     |true=>rw [h2] at h;exact⟨_,h⟩
 have hD:∀ {x:A} {j:Nat} {k:A→Bool},x.ML j k=true→∃ y,k y=true:=by
  intro x j k h
  cases x<;>first|exact⟨_,(I3 h).2⟩|exact⟨_,h⟩|cases h
 have hN:∀ {x:A} {k:L→Bool},Jf G x k=true→∃ e,k e=true:=by
  intro x k h
  cases x with
  |o a=>
   have h:K.casesOn (motive:=fun _=>Bool) (kindOf G a) (fun _=>false) false false (fun _ _ _=>k (lm (Nat.add (Nat.mul 8 a) 1))) (fun _ _ _=>k (lm (Nat.add (Nat.mul 8 a) 1))) false=true:=h
   generalize kindOf G a=kk at h
   cases kk<;>first|exact⟨_,h⟩|cases h
  |c d=>cases h
  |_=>exact⟨_,h⟩
 intro e
 induction e with
 |c c=>intro k h;exact⟨_,h⟩
 |m id c r ih=>
  intro k h
  have h:H9 (Nat.beq (Nat.mod id 8) 3) (gC C (Nat.div id 256) i fun x=>x.ML (Nat.mod (Nat.div id 8) 32) fun y=>Jf G y fun e=>ZM G C i r fun r=>k ((e.mul c).add r)) (ZM G C i r fun r=>k (r.ins id c))=true:=h
  cases hb:Nat.beq (Nat.mod id 8) 3 with
  |true=>
   rw [hb] at h
   have h:(gC C (Nat.div id 256) i fun x=>x.ML (Nat.mod (Nat.div id 8) 32) fun y=>Jf G y fun e=>ZM G C i r fun r=>k ((e.mul c).add r))=true:=h
   obtain⟨_,h⟩:=hC h
   obtain⟨_,h⟩:=hD h
   obtain⟨_,h⟩:=hN h
   obtain⟨_,h⟩:=ih h
   exact⟨_,h⟩
  |false=>
   rw [hb] at h
   obtain⟨_,h⟩:=ih h
   exact⟨_,h⟩
theorem TI {i:L}:∀ {es:List L} {k:List L→Bool},KR G C i es k=true→∃ es',k es'=true
 |[],k,h=>⟨[],h⟩
 |e::es,k,h=>by
  obtain⟨e',h⟩:=Nx (e:=e) h
  obtain⟨es',h⟩:=TI (es:=es) h
  exact⟨_,h⟩
theorem Ov (he:Ni e){a p:Nat}{ps:List L}{ct:Nat}{k:Nat→Bool}(h:Nk cx G F D_ C e a p ps ct k=true):∃ ct,k ct=true:=by
 unfold Nk at h
 rw [cK] at h
 by_cases ht:ct % 32<3
 ·generalize ct % 32=t at h ht
  match t,ht with
  |0,_=>
   simp only [I8,I9] at h
   generalize kindOf G a=kk at h
   cases kk<;>first|exact IC h|cases h
  |1,_=>
   simp only [I8,I9] at h
   obtain⟨ls,es,h⟩:=xS (I3 h).2
   obtain⟨_,h⟩:=DY (fun h=>he h) h
   exact DY (fun h=>OF he h) h
  |2,_=>
   simp only [I8,I9] at h
   obtain⟨x,i,y,h⟩:=xU h
   obtain⟨_,h⟩:=he h
   obtain⟨_,h⟩:=TI h
   exact OF he h
 ·rw [Y8 (by simp only [A0,A8];omega)] at h
  cases h
theorem BU (n:Nat):Ni (UO cx G F D_ C n):=by
 induction n with
 |zero=>intro x p ps ct k h;cases h
 |succ n ih=>
  intro x p ps ct k h
  have h:Hr cx G F D_ C (UO cx G F D_ C n) x p ps ct k=true:=h
  cases x<;>first|exact Ov (e:=UO cx G F D_ C n) ih h|exact⟨_,h⟩
variable {ρ:Nat→D} (hR:rL cx) (hS:KU cx.tab ρ (.mk 0 G F D_ C)) (hk:Ni e) (he:Yv cx ρ e)
include hR hS he
theorem LZ {x:A}{y:K}{ct:Nat}{k:Nat→Bool}(h:Ir cx G F e x y ct k=true)(hx:x.ok ρ):HK (HP cx.tab) ρ y (x.val ρ):=by
 cases y with
 |u=>trivial
 |i kk=>
  cases x with
  |n k' e'=>
   have h1:=(I3 h).1
   rw [sI] at h1
   exact⟨_,congrArg (fun k=>D.int k _) (E7 h1)⟩
  |_=>cases h
 |b=>cases x with|b f=>exact⟨_,rfl⟩|_=>cases h
 |s=>
  cases x with
  |s a e'=>exact hx.1
  |c d=>exact LY (I3 h).1
  |_=>cases h
 |l sz p ps=>
  cases x with
  |l a sz' e'=>
   obtain⟨h1,h⟩:=I3 h
   obtain⟨xs,e1⟩:=hx.1
   have h2:EL (HP cx.tab) ρ (ρ a).l p ps:=by
    rcases Ux h with ⟨h0,_⟩|h
    ·rw [P3 h0];exact fun j hj=>hR.z _ _
    ·exact he h hx
   rw [e1] at h2
   exact⟨xs,by rw [← P3 h1];exact e1,h2⟩
  |c d=>
   obtain⟨xs,e1⟩:=yO (I3 h).1
   have h0:=hx.1
   subst e1
   have h0:xs=[]:=h0
   subst h0
   exact⟨[],rfl,fun j hj=>by simp at hj⟩
  |_=>cases h
 |r sz p ps=>
  cases x with
  |l a sz' e'=>
   obtain⟨h1,h⟩:=I3 h
   obtain⟨xs,e1⟩:=hx.1
   have h2:EL (HP cx.tab) ρ (ρ a).l p ps:=by
    rcases Ux h with ⟨h0,_⟩|h
    ·rw [P3 h0];exact fun j hj=>hR.z _ _
    ·exact he h hx
   rw [e1] at h2
   exact .inr ⟨xs,by rw [← P3 h1];exact e1,h2⟩
  |o a=>
   have hkk:=aP (a:=a) hS.G
   have h:K.casesOn (motive:=fun _=>Bool) (kindOf G a) (fun _=>false) false false (fun sz' p0 ps0=>H9 (Nat.beq sz' sz) (HI cx.rl F p0 ps0 p ps ct k) false) (fun sz' p0 ps0=>H9 (Nat.beq sz' sz) (HI cx.rl F p0 ps0 p ps ct k) false) false=true:=h
   have hkk:HK (HP cx.tab) ρ (kindOf G a) (ρ a):=hkk
   generalize kindOf G a=kk at h hkk
   show HK (HP cx.tab) ρ (.r sz p ps) (ρ a)
   cases kk with
   |l sz' p0 ps0=>
    obtain⟨h1,h⟩:=I3 h
    obtain⟨xs,e1,h2⟩:=hkk
    exact .inr ⟨xs,by rw [← P3 h1];exact e1,nT hR.r hS.F h h2⟩
   |r sz' p0 ps0=>
    obtain⟨h1,h⟩:=I3 h
    rcases hkk with hkk|⟨xs,e1,h2⟩
    ·exact .inl hkk
    ·exact .inr ⟨xs,by rw [← P3 h1];exact e1,nT hR.r hS.F h h2⟩
   |_=>cases h
  |c d=>
   have h:H9 (O9 d) (k ct) (H9 (kL sz d) (k ct) false)=true:=h
   cases hn:O9 d with
   |true=>
    cases d with
    |nils a b=>exact .inl ⟨a,b,rfl⟩
    |_=>cases hn
   |false=>
    rw [hn] at h
    obtain⟨xs,e1⟩:=yO (I3 h).1
    have h0:=hx.1
    subst e1
    have h0:xs=[]:=h0
    subst h0
    exact .inr ⟨[],rfl,fun j hj=>by simp at hj⟩
  |_=>cases h
include hk
theorem VT {σ:Nat→A}(hσ:mK ρ σ):∀ {x:A} {ks:List K} {ct:Nat} {k:Nat→Bool},No cx G F e σ x ks ct k=true→x.ok ρ→(∃ cs,x.val ρ = .agg cs∧cs.length=ks.length)∧∀ j,j<ks.length→HK (HP cx.tab) (wv ρ σ) (ks[j]?.getD .u) ((x.dZ j).val ρ)
 | .gn,[],ct,k,h,hx=>⟨⟨[],rfl,rfl⟩,fun j hj=>by simp at hj⟩
 | .gn,_::_,ct,k,h,hx=>by cases h
 | .gc x r,[],ct,k,h,hx=>by cases h
 | .gc x r,kk::kr,ct,k,h,hx=>by
  have h:Ir cx G F e x (kk.sub σ) ct (fun ct=>No cx G F e σ r kr ct k)=true:=h
  have h1:=(kD hσ).1 (LZ hR hS he h hx.1)
  obtain⟨_,h⟩:=IT hk h
  obtain⟨⟨cs,e1,e2⟩,h2⟩:=VT hσ (x:=r) h hx.2.1
  refine⟨⟨x.val ρ::cs,?_,by simp [e2]⟩,fun j hj=>?_⟩
  ·show D.agg (x.val ρ::(r.val ρ).cells)=_
   rw [e1];rfl
  ·cases j with
   |zero=>exact h1
   |succ j=>
    show HK _ _ ((kk::kr)[j+1]?.getD .u) ((r.dZ j).val ρ)
    rw [List.getElem?_cons_succ]
    exact h2 j (by simpa using hj)
 | .n ..,_,ct,k,h,hx=>by cases h
 | .b ..,_,ct,k,h,hx=>by cases h
 | .s ..,_,ct,k,h,hx=>by cases h
 | .l ..,_,ct,k,h,hx=>by cases h
 | .o ..,_,ct,k,h,hx=>by cases h
 | .c ..,_,ct,k,h,hx=>by cases h
theorem LI {x:A}{p:Nat}{ps:List L}{ct:Nat}{k:Nat→Bool}(h:Hh cx G F e x p ps ct k=true)(hx:x.ok ρ):HP cx.tab p (jC ρ ps) (x.val ρ):=by
 unfold Hh at h
 cases ht:cx.tab p with
 |sc np kk fm=>
  rw [ht] at h
  obtain⟨h3,h⟩:=I3 h
  have hσ:mK ρ (oN np ps fun _=>x):=zS h3 fun _=>hx
  have h1:=(kD hσ).1 (LZ hR hS he h hx)
  obtain⟨_,h⟩:=IT hk h
  have h2:=sW hS.F hσ h
  rw [zT] at h1 h2
  refine eB.2 ?_
  rw [ht];exact⟨h1,h2⟩
 |st np ks fm=>
  rw [ht] at h
  simp only [] at h
  rw [cK] at h
  by_cases ht':ct % 32<2
  ·generalize ct % 32=t at h ht'
   match t,ht' with
   |0,_=>
    simp only [I8,I9] at h
    obtain⟨g,c1,h⟩:=I0 h
    have hg:=iA (d:=Sg.mk 0 0 0 [] (fun _=> .c .top) []) (P:=AM cx.tab ρ) ⟨fun _=>aG,rfl,fun j hj=>by simp at hj,fun h=>absurd rfl h⟩ hS.G g
    have hg:AM cx.tab ρ (L3 (Sg.mk 0 0 0 [] (fun _=> .c .top) []) G g):=hg
    generalize L3 (Sg.mk 0 0 0 [] (fun _=> .c .top) []) G g=sg at h hg
    cases sg with
    |mk b n p0 pp σ ks'=>
     have h:H9 (Nat.beq p0 0) false (H9 (UE x b ks') (HI cx.rl F (Nat.sub p0 1) pp p ps c1 k) false)=true:=h
     obtain⟨hσ,hn,hks,hp⟩:=hg
     cases hb:Nat.beq p0 0 with
     |true=>rw [hb] at h;cases h
     |false=>
      rw [hb] at h
      have h:H9 (UE x b ks') (HI cx.rl F (Nat.sub p0 1) pp p ps c1 k) false=true:=h
      obtain⟨h1,h6⟩:=I3 h
      have hne:p0≠0:=fun e=>by subst e;cases hb
      obtain⟨h3,h4⟩:=hp hne
      subst hn
      have e1:=OD (ρ:=ρ) h1 hks
      have h5:EL (HP cx.tab) ρ [x.val ρ] (p0-1) pp:=fun j hj=>by
       obtain rfl:j=0:=by simpa using hj
       show HP cx.tab (p0-1) (jC ρ pp) (x.val ρ)
       rw [e1];exact h4
      exact nT hR.r hS.F h6 h5 0 (by simp)
   |1,_=>
    simp only [I8,I9] at h
    obtain⟨h3,h⟩:=I3 h
    have hσ:mK ρ (oN np ps x.dZ):=zS h3 fun j=>A.aA j hx
    have hkd:=h
    obtain⟨⟨cs,e1,e2⟩,h1⟩:=VT hR hS hk he hσ h hx
    obtain⟨_,h⟩:=VS hk h
    have h2:=sW hS.F hσ h
    have hc:=Qd hkd
    rw [zT] at h1 h2
    have e3:(fun j=>(x.dZ j).val ρ)=fun j=>(x.val ρ).at_ j:=funext fun j=>A.V4 j hx hc
    rw [e3] at h1 h2
    refine eB.2 ?_
    rw [ht]
    refine⟨⟨cs,e1,e2⟩,fun j hj=>?_,h2⟩
    have:=h1 j hj
    rw [A.V4 j hx hc] at this
    exact this
  ·rw [Y8 (by simp only [A0,A8];omega)] at h
   cases h
theorem UM {a p:Nat}{ps:List L}{ct:Nat}{k:Nat→Bool}(h:Nk cx G F D_ C e a p ps ct k=true):EL (HP cx.tab) ρ (ρ a).l p ps:=by
 unfold Nk at h
 rw [cK] at h
 by_cases ht:ct % 32<3
 ·generalize ct % 32=t at h ht
  match t,ht with
  |0,_=>
   simp only [I8,I9] at h
   have hkk:HK (HP cx.tab) ρ (kindOf G a) (ρ a):=aP (a:=a) hS.G
   generalize kindOf G a=kk at h hkk
   cases kk with
   |l sz' p0 ps0=>
    obtain⟨xs,e1,h2⟩:=hkk
    rw [e1];exact nT hR.r hS.F h h2
   |r sz' p0 ps0=>
    rcases hkk with ⟨u,v,e1⟩|⟨xs,e1,h2⟩
    ·rw [e1];exact fun j hj=>by simp [D.l] at hj
    ·rw [e1];exact nT hR.r hS.F h h2
   |_=>cases h
  |1,_=>
   simp only [I8,I9] at h
   obtain⟨h3,h⟩:=I3 h
   obtain⟨ls,es,⟨hl1,hl2,hm⟩,h⟩:=sA hS.D h
   have h1:=DZ (P:=fun x=>EL (HP cx.tab) ρ (x.val ρ).l p ps) (fun h=>hk h) (fun hx h=>he h (hl1 _ hx)) h
   obtain⟨_,h⟩:=DY (fun h=>hk h) h
   have h2:=DZ (P:=fun x=>HP cx.tab p (jC ρ ps) (x.val ρ)) (fun h=>OF hk h) (fun hx h=>LI hR hS hk he h (hl2 _ hx)) h
   intro j hj
   rw [lX h3]
   have hz:((ρ a).l[j]?.getD .top)∈(ρ a).l:=by
    rw [C2 hj];exact C6 hj
   generalize (ρ a).l[j]?.getD .top=z at hz
   rcases hm z hz with ⟨x,hx,hz⟩|⟨x,hx,rfl⟩
   ·obtain⟨i,hi,rfl⟩:=List.getElem_of_mem hz
    have:=h1 x hx i hi
    rw [lX h3,C2 hi] at this
    exact this
   ·exact h2 x hx
  |2,_=>
   simp only [I8,I9] at h
   obtain⟨x,i,y,⟨hx,hy,hi,hm⟩,h⟩:=sB hS.D h
   have h1:=he h hx
   obtain⟨_,h⟩:=hk h
   obtain⟨ps',h2,h⟩:=DT (tab:=cx.tab) (W:=fun r=>r=ρ) (fun _ w=>w▸hS.G) (fun _ w=>w▸hS.C) h
   have h3:=LI hR hS hk he h hy
   intro j hj
   rw [hm] at hj ⊢
   rw [List.length_set] at hj
   by_cases hij:(i.ev (nu ρ 0)).toNat=j
   ·subst hij
    rw [List.getElem?_set_self hj]
    have e1:jC ρ ps'=ps.map fun e=>e.ev (nu ρ (i.ev (nu ρ 0)).toNat):=h2 ρ rfl 0
    rw [e1] at h3
    exact h3
   ·rw [List.getElem?_set_ne hij]
    exact h1 j hj
 ·rw [Y8 (by simp only [A0,A8];omega)] at h
  cases h
omit hk he in
theorem LK (n:Nat):Yv cx ρ (UO cx G F D_ C n):=by
 induction n with
 |zero=>intro x p ps ct k h;cases h
 |succ n ih=>
  intro x p ps ct k h hx
  have h:Hr cx G F D_ C (UO cx G F D_ C n) x p ps ct k=true:=h
  cases x with
  |l a sz e=>exact UM (e:=UO cx G F D_ C n) hR hS (BU n) ih h
  |o a=>exact UM (e:=UO cx G F D_ C n) hR hS (BU n) ih h
  |n kk e=>exact fun j hj=>by simp [A.val,D.l] at hj
  |b f=>exact fun j hj=>by simp [A.val,D.l] at hj
  |s a e=>
   obtain⟨⟨t,e1⟩,_⟩:=hx
   exact fun j hj=>by simp [A.val,e1,D.l] at hj
  |gn=>exact fun j hj=>by simp [A.val,D.l] at hj
  |gc x r=>exact fun j hj=>by simp [A.val,D.l] at hj
  |c d=>
   intro j hj
   have:d.l=[]:=hx.1
   simp [A.val,this] at hj
end
end Go.AE.Q
