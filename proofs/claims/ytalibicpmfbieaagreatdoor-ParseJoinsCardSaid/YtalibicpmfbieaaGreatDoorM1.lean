import Derived.Test.YtalibicpmfbieaaGreatDoorAe1
import Derived.Test.YtalibicpmfbieaaGreatDoorAe2
import Derived.Test.YtalibicpmfbieaaGreatDoorAe3
import Derived.Test.YtalibicpmfbieaaGreatDoorEng
namespace Go.Proofs.YtalibicpmfbieaaGreatDoor
open Go.AE
set_option linter.all false
def Mk (b:List D)(a:Int):Prop:=Bytes b∧b.length≤300∧0≤a∧a≤b.length
def cN:List G1:=[[97],[98],[99],[100],[120,49],[95,121],[113],[114]]
def ZV:List G1:=[[48],[49],[50],[55],[52,39,98,49,48,49,48],[56,39,104,102,102],[51,39,115,100,50],[49,95,48]]
def Oj:List G1:=[[45],[126],[33],[38],[124],[94],[126,38],[126,124],[126,94]]
def Rc:List G1:=[[43],[45],[42],[47],[37],[38],[124],[94],[126,94],[60,60],[62,62],[60,60,60],[62,62,62],[60],[60,61],[62],[62,61],[61,61],[33,61],[38,38],[124,124]]
def JZ:List G1:=[[102],[103],[36,115,105,103,110,101,100],[36,117,110,115,105,103,110,101,100]]
theorem PZ {T:List G1}{v:Int}(h0:0≤v)(h1:v<T.length):∃ s,s∈T∧(T.map D.str)[v.toNat]?.getD D.top = .str s:=by
 have:=Ca (P:=fun y=>∃ s,s∈T∧y=D.str s) (xs:=T.map D.str) (fun x hx=>by obtain⟨s,hs,rfl⟩:=List.mem_map.1 hx;exact⟨s,hs,rfl⟩) h0 (by simpa using h1)
 exact this
def E (k:Int)(t:G1)(ar:List D):D:= .agg [.int .i64 k,.int .i64 0,.int .i64 0,.int .i64 0,.str t,.Z 6 ar]
def FF (k:Int)(t:G1)(m:Nat):Prop:=
 (k=1∧t∈ZV∧m=0)∨(k=2∧t∈cN∧m=0)∨(k=3∧t∈Oj∧m=1)∨(k=4∧t∈Rc∧m=2)∨(k=5∧t=[]∧m=3)∨(k=6∧t=[]∧1≤m∧m≤3)∨
 (k=7∧t=[]∧2≤m∧m≤3)∨(k=8∧t∈cN∧m=1)∨(k=9∧t∈cN∧m=2)∨(k=10∧t∈JZ∧1≤m∧m≤2)
def fD:Nat→D→Prop
 |0,_=>False
 |n+1,x=>∃ k t ar,x=E k t ar∧FF k t ar.length∧∀ a∈ar,fD n a
theorem Vv:U (fun n=>gD n) fun r=>r=(true,[.Z 1 (Rc.map D.str)]):=
 U.eq (fun n=>WQ n) (U.ret rfl)
def yW (ws:List D):Prop:=∀ y∈ws,∃ i:Int,y = .int .u64 i∧0≤i∧i<18446744073709551616
def XQ (w:Int)(ws:List D):Prop:=1≤w∧w≤128∧(ws.length:Int)=(w+63) / 64∧yW ws
theorem yW.set {ws:List D}(h:yW ws){i:Nat}{x:Int}(hx:0≤x)(hx2:x<18446744073709551616):yW (ws.set i (.int .u64 x)):=fun y hy=>by
 rcases List.mem_or_eq_of_mem_set hy with hy|rfl
 ·exact h y hy
 ·exact⟨x,rfl,hx,hx2⟩
theorem yW.append {a b:List D}(ha:yW a)(hb:yW b):yW (a++b):=fun y hy=>by
 rcases D3.1 hy with hy|hy
 ·exact ha y hy
 ·exact hb y hy
theorem tI (x:Int):0≤IntKind.u64.wrap x:=by rw [IntKind.wrap_u64];omega
theorem QC (x:Int):IntKind.u64.wrap x<18446744073709551616:=by rw [IntKind.wrap_u64];omega
theorem Kz {w:Int}(h1:0≤w)(h2:w≤1000):U (fun n=>sI n w) fun r=>r=(true,[.int .i64 ((w+63) / 64)]):=by
 refine U.eq (fun n=>YG n w) (U.ret ?_)
 have e1:IntKind.i64.wrap (w+64)=w+64:=Q3 (by omega) (by omega)
 have e2:IntKind.i64.wrap (w+64-1)=w+63:=by rw [Q3 (by omega) (by omega)];omega
 have e3:(w+63).tdiv 64=(w+63) / 64:=Int.tdiv_eq_ediv_of_nonneg (by omega)
 rw [e1,e2,e3,Q3 (by omega) (by omega)]
theorem MY {w:Int}(h1:1≤w)(h2:w≤128):U (fun n=>lG n w) fun r=>∃ ws,r=(true,[.int .i64 w,.Z 1 ws])∧XQ w ws:=by
 refine U.eq (fun n=>YF n w) ?_
 refine U.H6 (Kz (by omega) (by omega)) ?_
 intro b ds h;cases h;refine⟨rfl,U.I0 rfl ?_⟩
 refine U.I0 (K3 (K3 (E6 (show (0:Int)≤(w+63) / 64 by omega)) (E6 (Int.le_refl _))) (E6 (show (w+63) / 64≤(L7:Int) by simp only [L7];omega))) (U.ret ⟨_,rfl,h1,h2,?_,?_⟩)
 ·simp [Y,D.i];omega
 ·intro y hy
  obtain⟨_,rfl⟩:=List.mem_replicate.1 hy
  exact⟨0,rfl,Int.le_refl _,by omega⟩
theorem Bv {w:Int}{ws:List D}(h:XQ w ws):U (fun n=>gG n w (.Z 1 ws)) fun r=>∃ ws',r=(true,[.int .i64 w,.Z 1 ws'])∧XQ w ws':=by
 obtain⟨h1,h2,h3,h4⟩:=h
 refine U.eq (fun n=>QQ n w ws) ?_
 have hl:1≤ws.length:=by omega
 have e1:IntKind.i64.wrap ((ws.length:Int)-1)=((ws.length-1:Nat):Int):=by rw [Q3 (by omega) (by omega)];omega
 have hr:(decide ((0:Int)≤((ws.length-1:Nat):Int))&&decide (((ws.length-1:Nat):Int)<(ws.length:Int)))=true:=K3 (E6 (by omega)) (E6 (by omega))
 have e2:w.tmod 64=w % 64:=Int.tmod_eq_emod_of_nonneg (by omega)
 rw [e1]
 refine U.N9 (fun _=>?_) (fun _=>U.ret ⟨ws,rfl,h1,h2,h3,h4⟩)
 refine U.I0 hr ?_
 obtain⟨i,hi,hi0,hi1⟩:=Ca (P:=fun y=>∃ i:Int,y = .int .u64 i∧0≤i∧i<18446744073709551616) h4 (v:=((ws.length-1:Nat):Int)) (by omega) (by omega)
 rw [hi]
 refine U.I0 rfl (U.no (E8 (by rw [e2];omega)) (U.I0 hr (U.ret ⟨_,rfl,h1,h2,by rw [List.length_set];exact h3,h4.set (tI _) (QC _)⟩)))
theorem VP {w:Int}(h1:1≤w)(h2:w≤128){us:List D}(hu:yW us)(hl:us.length≤1):U (fun n=>pM n w (.Z 1 us)) fun r=>∃ ws,r=(true,[.agg [.int .i64 w,.Z 1 ws],.int .i64 0])∧XQ w ws:=by
 refine U.eq (fun n=>Gx n w us) ?_
 refine U.H6 (Q:=fun r=>r=(true,[.bool true])) (U.eq (fun n=>Bq n w) (U.I0 (E6 (by omega)) (U.ret (by rw [E6 h2])))) ?_
 intro b ds h;cases h;refine⟨rfl,U.I0 rfl (U.no rfl ?_)⟩
 refine U.H6 (MY h1 h2) ?_
 rintro _ _ ⟨ws,h,hv1,hv2,hv3,hv4⟩;cases h;refine⟨rfl,U.I0 rfl ?_⟩
 refine U.H6 (Bv (w:=w) (ws:=us.take ws.length++ws.drop us.length) ⟨h1,h2,?_,?_⟩) ?_
 ·rw [← hv3];simp;omega
 ·exact yW.append (fun y hy=>hu y (List.mem_of_mem_take hy)) (fun y hy=>hv4 y (List.mem_of_mem_drop hy))
 ·rintro _ _ ⟨ws',h,hv⟩;cases h;exact⟨rfl,U.I0 rfl (U.ret ⟨ws',rfl,hv⟩)⟩
theorem Mm (a b:Int):U (fun n=>fH n (.int .u64 a) (.int .u64 b)) fun r=>∃ h l,r=(true,[.int .u64 h,.int .u64 l])∧0≤h∧h<18446744073709551616∧0≤l∧l<18446744073709551616:=
 U.eq (fun n=>EN n a b) (U.ret ⟨_,_,rfl,tI _,QC _,tI _,QC _⟩)
theorem Rq {w:Int}{a b:List D}(ha:XQ w a)(hb:XQ w b){k:Int}(hk0:0≤k)(hk1:k≤1) :
  U (fun n=>oF n (.agg [.int .i64 w,.Z 1 a]) (.agg [.int .i64 w,.Z 1 b]) (.int .u64 k)) fun r=>∃ ws,r=(true,[.int .i64 w,.Z 1 ws])∧XQ w ws:=by
 obtain⟨h1,h2,ha3,ha4⟩:=ha
 obtain⟨_,_,hb3,hb4⟩:=hb
 refine U.eq (fun n=>Bs n w a w b k) ?_
 refine U.H6 (MY h1 h2) ?_
 rintro _ _ ⟨ws,h,_,_,hv3,hv4⟩;cases h;refine⟨rfl,U.I0 rfl ?_⟩
 have loop:∀ (m j:Nat) (k:Int) (out:List D),out.length-j=m→j≤out.length→(out.length:Int)=(w+63) / 64→0≤k→k≤1→yW out→
   U (fun n=>jW n (.int .u64 k) (out.length:Int) (j:Int) w (.Z 1 a) w (.Z 1 b) (0:Int) w (.Z 1 []) (.Z 1 out)) fun r=>
    ∃ k' j' out',r=(false,[.int .u64 k',.int .i64 (out.length:Int),.int .i64 j',.int .i64 w,.Z 1 a,.int .i64 w,.Z 1 b,.int .i64 0,.int .i64 w,.Z 1 [],.Z 1 out'])∧out'.length=out.length∧yW out':=by
  intro m
  induction m with
  |zero=>
   intro j k out hm hj hl hk0 hk1 ho
   exact U.eq (fun n=>CV n _ _ _ _ _ _ _ _ _ _ _) (U.no (E8 (by omega)) (U.ret ⟨_,_,out,rfl,rfl,ho⟩))
  |succ m ih=>
   intro j k out hm hj hl hk0 hk1 ho
   have hja:j<a.length:=by omega
   have hjb:j<b.length:=by omega
   have hjo:j<out.length:=by omega
   refine U.eq (fun n=>CV n _ _ _ _ _ _ _ _ _ _ _) (U.I0 (E6 (by omega)) (U.I0 (O5 hja) ?_))
   obtain⟨x,hx,hx0,hx1⟩:=ha4 a[j] (C6 hja)
   obtain⟨y,hy,hy0,hy1⟩:=hb4 b[j] (C6 hjb)
   rw [bN hja,bN hjb,hx,hy]
   refine U.I0 rfl (U.I0 (O5 hjb) (U.I0 rfl (U.I0 (K3 (K3 (K3 (E6 hx0) (E6 hy0)) (E6 hk0)) (E6 hk1)) (U.I0 (O5 hjo) ?_))))
   simp only [D.i]
   rw [P0 (by omega),E1]
   have hl2:(out.set j (.int .u64 ((x+y+k) % 18446744073709551616))).length=out.length:=List.length_set
   have:=ih (j+1) ((x+y+k) / 18446744073709551616) (out.set j (.int .u64 ((x+y+k) % 18446744073709551616))) (by omega) (by omega) (by rw [hl2];exact hl) (by omega) (by omega) (ho.set (by omega) (by omega))
   rw [hl2] at this
   exact this
 refine U.L3 (loop ws.length 0 k ws rfl (C4 _) hv3 hk0 hk1 hv4) (fun ds h=>by obtain⟨_,_,_,h,_⟩:=h;cases h) fun ds h=>?_
 obtain⟨k',j',out',h,hl,ho⟩:=h
 cases h
 refine U.I0 rfl ?_
 refine U.H6 (Bv (w:=w) (ws:=out') ⟨h1,h2,by rw [hl];exact hv3,ho⟩) ?_
 rintro _ _ ⟨ws',h,hv⟩;cases h;exact⟨rfl,U.I0 rfl (U.ret ⟨ws',rfl,hv⟩)⟩
theorem Of {w:Int}{a b:List D}(ha:XQ w a)(hb:XQ w b) :
  U (fun n=>oH n (.agg [.int .i64 w,.Z 1 a]) (.agg [.int .i64 w,.Z 1 b])) fun r=>∃ ws,r=(true,[.agg [.int .i64 w,.Z 1 ws]])∧XQ w ws:=by
 obtain⟨h1,h2,ha3,ha4⟩:=ha
 obtain⟨_,_,hb3,hb4⟩:=hb
 have hal:a.length≤2:=by omega
 refine U.eq (fun n=>YH n w a w b) ?_
 refine U.H6 (MY h1 h2) ?_
 rintro _ _ ⟨ws,h,_,_,hv3,hv4⟩;cases h;refine⟨rfl,U.I0 rfl ?_⟩
 have inner:∀ (m i j:Nat) (k:Int) (out:List D),out.length-(i+j)=m→i<a.length→(out.length:Int)=(w+63) / 64→j≤1000→0≤k→k<18446744073709551616→yW out→
   U (fun n=>hU n (i:Int) (.int .u64 k) (j:Int) (a.length:Int) (i:Int) w (.Z 1 a) w (.Z 1 b) (0:Int) w (.Z 1 []) (.Z 1 out)) fun r=>
    ∃ k' j' out',r=(false,[.int .i64 (i:Int),.int .u64 k',.int .i64 j',.int .i64 (a.length:Int),.int .i64 (i:Int),.int .i64 w,.Z 1 a,.int .i64 w,.Z 1 b,.int .i64 0,.int .i64 w,.Z 1 [],.Z 1 out'])∧out'.length=out.length∧yW out':=by
  intro m
  induction m with
  |zero=>
   intro i j k out hm hi hl hj hk0 hk1 ho
   ·have e1:IntKind.i64.wrap ((i:Int)+(j:Int))=((i+j:Nat):Int):=by rw [Q3 (by omega) (by omega)];omega
    refine U.eq (fun n=>zL n _ _ _ _ _ _ _ _ _ _ _ _ _) ?_
    rw [e1]
    exact U.no (E8 (by omega)) (U.ret ⟨_,_,out,rfl,rfl,ho⟩)
  |succ m ih=>
   intro i j k out hm hi hl hj hk0 hk1 ho
   have e1:IntKind.i64.wrap ((i:Int)+(j:Int))=((i+j:Nat):Int):=by rw [Q3 (by omega) (by omega)];omega
   have hjb:j<b.length:=by omega
   have hjo:i+j<out.length:=by omega
   refine U.eq (fun n=>zL n _ _ _ _ _ _ _ _ _ _ _ _ _) ?_
   rw [e1]
   refine U.I0 (E6 (by omega)) (U.I0 (O5 hi) ?_)
   obtain⟨x,hx,hx0,hx1⟩:=ha4 a[i] (C6 hi)
   obtain⟨y,hy,hy0,hy1⟩:=hb4 b[j] (C6 hjb)
   obtain⟨z,hz,hz0,hz1⟩:=ho out[i+j] (C6 hjo)
   rw [bN hi,bN hjb,bN hjo,hx,hy,hz]
   refine U.I0 rfl (U.I0 (O5 hjb) (U.I0 rfl ?_))
   refine U.H6 (Mm _ _) ?_
   rintro _ _ ⟨hh,ll,h,p1,p2,p3,p4⟩;cases h;refine⟨rfl,U.I0 rfl ?_⟩
   simp only [Y,D.i]
   refine U.I0 (K3 (K3 (K3 (E6 p3) (E6 hk0)) (E6 (Int.le_refl _))) (E6 (by decide))) (U.I0 (O5 hjo) (U.I0 rfl (U.I0 (K3 (K3 (K3 (E6 hz0) (E6 (by omega))) (E6 (Int.le_refl _))) (E6 (by decide))) (U.I0 (O5 hjo) ?_))))
   rw [P0 (by omega),E1]
   have hl2:(out.set (i+j) (.int .u64 ((z+(ll+k+0) % 18446744073709551616+0) % 18446744073709551616))).length=out.length:=List.length_set
   have:=ih i (j+1) (IntKind.u64.wrap (IntKind.u64.wrap (hh+(ll+k+0) / 18446744073709551616)+(z+(ll+k+0) % 18446744073709551616+0) / 18446744073709551616)) (out.set (i+j) (.int .u64 ((z+(ll+k+0) % 18446744073709551616+0) % 18446744073709551616))) (by omega) hi (by rw [hl2];exact hl) (by omega) (tI _) (QC _) (ho.set (by omega) (by omega))
   rw [hl2] at this
   exact this
 have outer:∀ (m i:Nat) (out:List D),a.length-i=m→i≤a.length→(out.length:Int)=(w+63) / 64→yW out→
   U (fun n=>hM n (a.length:Int) (i:Int) w (.Z 1 a) w (.Z 1 b) (0:Int) w (.Z 1 []) (.Z 1 out)) fun r=>
    ∃ j' out',r=(false,[.int .i64 (a.length:Int),.int .i64 j',.int .i64 w,.Z 1 a,.int .i64 w,.Z 1 b,.int .i64 0,.int .i64 w,.Z 1 [],.Z 1 out'])∧out'.length=out.length∧yW out':=by
  intro m
  induction m with
  |zero=>
   intro i out hm hi hl ho
   exact U.eq (fun n=>zK n _ _ _ _ _ _ _ _ _ _) (U.no (E8 (by omega)) (U.ret ⟨_,out,rfl,rfl,ho⟩))
  |succ m ih=>
   intro i out hm hi hl ho
   refine U.eq (fun n=>zK n _ _ _ _ _ _ _ _ _ _) (U.I0 (E6 (by omega)) ?_)
   refine U.L3 (inner _ i 0 0 out rfl (by omega) hl (by omega) (Int.le_refl _) (by omega) ho) (fun ds h=>by obtain⟨_,_,_,h,_⟩:=h;cases h) fun ds h=>?_
   obtain⟨k',j',out',h,hl',ho'⟩:=h
   cases h
   refine U.I0 rfl ?_
   simp only [Y,D.i,D.l]
   rw [P0 (by omega)]
   refine (ih (i+1) out' (by omega) (by omega) (by rw [hl'];exact hl) ho').mono ?_
   rintro r ⟨j',o2,h,h3,h4⟩
   exact⟨j',o2,h,by rw [h3,hl'],h4⟩
 refine U.L3 (outer _ 0 ws rfl (C4 _) hv3 hv4) (fun ds h=>by obtain⟨_,_,h,_⟩:=h;cases h) fun ds h=>?_
 obtain⟨j',out',h,hl,ho⟩:=h
 cases h
 refine U.I0 rfl ?_
 refine U.H6 (Bv (w:=w) (ws:=out') ⟨h1,h2,by rw [hl];exact hv3,ho⟩) ?_
 rintro _ _ ⟨ws',h,hv⟩;cases h;exact⟨rfl,U.I0 rfl (U.ret ⟨ws',rfl,hv⟩)⟩
theorem Kl {op w:Int}(hop:op=0∨op=2){a b:List D}(ha:XQ w a)(hb:XQ w b) :
  U (fun n=>vT n op (.agg [.int .i64 w,.Z 1 a]) (.agg [.int .i64 w,.Z 1 b])) fun r=>∃ ws,r=(true,[.agg [.int .i64 w,.Z 1 ws],.int .i64 0])∧XQ w ws:=by
 have hw:=ha.1
 refine U.eq (fun n=>Gw n op w a w b) ?_
 refine U.no (E8 (by omega)) (U.no (E8 (by omega)) (U.no (by simp) (U.no (by simp;omega) ?_)))
 rcases hop with rfl|rfl
 ·refine U.I0 rfl ?_
  refine U.H6 (Rq ha hb (Int.le_refl _) (by omega)) ?_
  rintro _ _ ⟨ws',h,hv⟩;cases h;exact⟨rfl,U.I0 rfl (U.ret ⟨ws',rfl,hv⟩)⟩
 ·refine U.no rfl (U.no rfl (U.I0 rfl ?_))
  refine U.H6 (Of ha hb) ?_
  rintro _ _ ⟨ws',h,hv⟩;cases h;exact⟨rfl,U.I0 rfl (U.ret ⟨ws',rfl,hv⟩)⟩
theorem KG (c:UInt8):∀ (s:G1) (j:Nat),gT c s j=-1∨((j:Int)≤gT c s j∧gT c s j<(j:Int)+s.length)
 |[],_=> .inl rfl
 |x::s,j=>by
  unfold gT
  cases x==c with
  |true=>exact .inr ⟨Int.le_refl _,by simp;omega⟩
  |false=>
   rcases KG c s (j+1) with h|⟨h1,h2⟩
   ·exact .inl h
   ·refine .inr ⟨?_,?_⟩<;>simp only [cond_false,A0]<;>omega
theorem rV (s:G1)(x:Int):U (fun n=>Q2 n (.str s) (.int .u8 x)) fun r=>r=(true,[.int .i64 (gT x.toNat.toUInt8 s 0)]):=by
 refine U.eq (fun n=>BJ n s x) ?_
 refine U.H6 (Q:=fun r=>r=(true,[.int .i64 (gT x.toNat.toUInt8 s 0)])) (U.eq (fun n=>nZ n s x) (U.ret rfl)) ?_
 intro b ds h;cases h;exact⟨rfl,U.I0 rfl (U.ret rfl)⟩
theorem Yc (c:UInt8):gT c [48,49,50,51,52,53,54,55,56,57,97,98,99,100,101,102] 0≤16:=by
 rcases KG c [48,49,50,51,52,53,54,55,56,57,97,98,99,100,101,102] 0 with h|⟨_,h⟩
 ·omega
 ·simp only [A0,A8] at h;omega
theorem On (x:Int):U (fun n=>pR n (.int .u8 x)) fun r=>∃ v,r=(true,[.int .i64 v])∧0≤v∧v≤16:=by
 refine U.eq (fun n=>VM n x) (U.N9 (fun _=>U.N9 (fun _=>?_) (fun _=>?_)) (fun _=>?_))
 all_goals
  refine U.H6 (rV _ _) ?_
  rintro b ds h;cases h
  refine⟨rfl,U.I0 rfl (U.N9 (fun h=>U.ret ⟨_,rfl,E7 h,?_⟩) (fun _=>U.ret ⟨16,rfl,by omega,by omega⟩))⟩
  exact Yc _
def XH (ds:List D):Prop:=∀ y∈ds,∃ i:Int,y = .int .i64 i∧0≤i∧i≤16
theorem XH.snoc {ds:List D}(h:XH ds){v:Int}(h0:0≤v)(h1:v≤16):XH (ds++[.int .i64 v]):=fun y hy=>by
 rcases D3.1 hy with hy|hy
 ·exact h y hy
 ·exact⟨v,C3.1 hy,h0,h1⟩
theorem BV {s:G1}(hs:s.length≤1048576)(b:Int):U (fun n=>cZ n (.str s) b) fun r=>∃ e ds,r=(true,[.int .i64 e,.Z 1 ds])∧XH ds∧ds.length≤s.length:=by
 refine U.eq (fun n=>DL n s b) (U.N9 (fun _=>U.ret ⟨6,[],rfl,fun y hy=>by simp at hy,by simp⟩) fun _=>?_)
 have loop:∀ (m j:Nat) (acc:List D),s.length-j=m→j≤s.length→acc.length≤j→XH acc→
   U (fun n=>bX n (.str s) b (s.length:Int) (j:Int) (.Z 1 acc)) fun r=>
    r=(true,[.int .i64 5,.Z 1 []])∨∃ j' acc',r=(false,[.str s,.int .i64 b,.int .i64 (s.length:Int),.int .i64 j',.Z 1 acc'])∧XH acc'∧acc'.length≤s.length:=by
  intro m
  induction m with
  |zero=>
   intro j acc hm hj hl ha
   exact U.eq (fun n=>uY n _ _ _ _ _) (U.no (E8 (by omega)) (U.ret (.inr ⟨_,acc,rfl,ha,by omega⟩)))
  |succ m ih=>
   intro j acc hm hj hl ha
   have hj2:j<s.length:=by omega
   have hw:IntKind.i64.wrap ((j:Int)+1)=((j+1:Nat):Int):=P0 (by omega)
   refine U.eq (fun n=>uY n _ _ _ _ _) (U.I0 (E6 (by omega)) (U.I0 (O5 hj2) ?_))
   refine U.H6 (On _) ?_
   rintro _ _ ⟨v,h,h0,h1⟩;cases h;refine⟨rfl,U.I0 rfl (U.I0 (O5 hj2) ?_)⟩
   simp only [Y,D.i,hw]
   have tail:=ih (j+1) (acc++[.int .i64 v]) (by omega) (by omega) (by simp;omega) (ha.snoc h0 h1)
   have hb:Nat.ble (acc.length+1) L7=true:=B2 (by simp only [L7];omega)
   refine U.N9 (fun _=>U.N9 (fun _=>?_) fun _=>?_) fun _=>?_
   ·exact ih (j+1) acc (by omega) (by omega) (by omega) ha
   ·exact U.N9 (fun _=>U.I0 hb tail) fun _=>U.ret (.inl rfl)
   ·exact U.N9 (fun _=>U.I0 hb tail) fun _=>U.ret (.inl rfl)
 refine U.L3 (loop s.length 0 [] rfl (C4 _) (B9 _) (fun y hy=>by simp at hy)) (fun ds h=>?_) fun ds h=>?_
 ·rcases h with h|⟨_,_,h,_⟩
  ·cases h;exact⟨5,[],rfl,fun y hy=>by simp at hy,by simp⟩
  ·cases h
 ·rcases h with h|⟨j',acc',h,h1,h2⟩
  ·cases h
  ·cases h;exact U.I0 rfl (U.ret ⟨0,acc',rfl,h1,h2⟩)
theorem Ap {ds:List D}(hd:XH ds)(hl:ds.length≤1048576){lim:Int}(h0:0≤lim)(h1:lim≤2147483648):U (fun n=>gV n (.Z 1 ds) lim) fun r=>∃ v,r=(true,[.int .i64 v])∧0≤v∧v≤lim:=by
 refine U.eq (fun n=>VK n ds lim) ?_
 have loop:∀ (m j:Nat) (v:Int),ds.length-j=m→j≤ds.length→0≤v→v≤lim→
   U (fun n=>fR n lim v (.Z 1 ds) (ds.length:Int) (j:Int)) fun r=>
    ∃ v' j',r=(false,[.int .i64 lim,.int .i64 v',.Z 1 ds,.int .i64 (ds.length:Int),.int .i64 j'])∧0≤v'∧v'≤lim:=by
  intro m
  induction m with
  |zero=>
   intro j v hm hj hv0 hv1
   exact U.eq (fun n=>yA n _ _ _ _ _) (U.no (E8 (by omega)) (U.ret ⟨v,_,rfl,hv0,hv1⟩))
  |succ m ih=>
   intro j v hm hj hv0 hv1
   have hj2:j<ds.length:=by omega
   have hw:IntKind.i64.wrap ((j:Int)+1)=((j+1:Nat):Int):=P0 (by omega)
   refine U.eq (fun n=>yA n _ _ _ _ _) (U.I0 (E6 (by omega)) (U.I0 (O5 hj2) ?_))
   obtain⟨x,hx,hx0,hx1⟩:=hd ds[j] (C6 hj2)
   rw [bN hj2,hx,hw]
   refine U.I0 rfl ?_
   simp only [D.i]
   rw [Q3 (x:=10*v) (by omega) (by omega),Q3 (x:=10*v+x) (by omega) (by omega)]
   exact ih (j+1) (min (10*v+x) lim) (by omega) (by omega) (by omega) (by omega)
 refine U.L3 (loop ds.length 0 0 rfl (C4 _) (Int.le_refl _) h0) (fun ds h=>by obtain⟨_,_,h,_⟩:=h;cases h) fun ds h=>?_
 obtain⟨v',j',h,p0,p1⟩:=h
 cases h
 exact U.I0 rfl (U.ret ⟨v',rfl,p0,p1⟩)
def Lit (r:Bool×List D):Prop:=∃ w ws b1 b2 e,r=(true,[.agg [.int .i64 w,.Z 1 ws,.bool b1,.bool b2],.int .i64 e])∧(e=0→XQ w ws)
theorem QD (x:Int):yW [.int .u64 (IntKind.u64.wrap x)]:=fun y hy=>⟨_,C3.1 hy,tI _,QC _⟩
theorem Yr (v:Int):U (fun n=>EM n v) Lit:=by
 refine U.eq (fun n=>Hp n v) (U.N9 (fun _=>U.ret ⟨0,[],false,false,3,rfl,fun h=>by cases h⟩) fun _=>U.N9 (fun _=>U.ret ⟨0,[],false,false,3,rfl,fun h=>by cases h⟩) fun _=>?_)
 refine U.H6 (VP (w:=32) (by omega) (by omega) (QD v) (B9 _)) ?_
 rintro _ _ ⟨ws,h,hv⟩;cases h
 exact⟨rfl,U.I0 rfl (U.ret ⟨_,ws,true,false,0,rfl,fun _=>hv⟩)⟩
theorem Nl {s:G1}(hs:s.length≤1048576):U (fun n=>pQ n (.str s)) Lit:=by
 refine U.eq (fun n=>HF n s) ?_
 refine U.H6 (BV hs 10) ?_
 rintro _ _ ⟨e,ds,h,hd,hl⟩;cases h;refine⟨rfl,U.I0 rfl (U.N9 (fun he=>U.ret ⟨0,[],false,false,e,rfl,fun h=>?_⟩) fun _=>?_)⟩
 ·subst h;cases he
 refine U.H6 (Ap hd (by omega) (by omega) (Int.le_refl _)) ?_
 rintro _ _ ⟨v,h,_,_⟩;cases h;refine⟨rfl,U.I0 rfl ?_⟩
 refine U.H6 (Yr _) ?_
 rintro _ _ ⟨w,ws,b1,b2,e,h,hv⟩;cases h
 exact⟨rfl,U.I0 rfl (U.ret ⟨w,ws,b1,b2,e,rfl,hv⟩)⟩
theorem Po (x:Int):U (fun n=>jD n (.int .u8 x)) fun r=>∃ v,r=(true,[.int .i64 v])∧0≤v∧v≤16:=by
 refine U.eq (fun n=>ZE n x) ?_
 refine U.N9 (fun _=>U.ret ⟨2,rfl,by omega,by omega⟩) fun _=>U.N9 (fun _=>U.ret ⟨8,rfl,by omega,by omega⟩) fun _=>U.N9 (fun _=>U.ret ⟨10,rfl,by omega,by omega⟩) fun _=>U.N9 (fun _=>U.ret ⟨16,rfl,by omega,by omega⟩) fun _=>U.ret ⟨0,rfl,by omega,by omega⟩
theorem OZ {s:G1}(h:(s==[])=false):0<s.length:=by
 cases s with
 |nil=>cases h
 |cons x s=>simp
def Sl (s:G1)(r:Bool×List D):Prop:=∃ s' b g e,r=(true,[.str s',.int .i64 b,.bool g,.int .i64 e])∧s'.length≤s.length∧0≤b∧b≤16
theorem UQ {s:G1}:((s.drop 1).take ((s.length:Int).toNat-1)).length≤s.length:=by simp
theorem HT {s:G1}(h:0<s.length):(true&&decide ((1:Int)≤(s.length:Int))&&decide ((s.length:Int)≤(s.length:Int)))=true:=K3 (K3 rfl (E6 (by omega))) (E6 (Int.le_refl _))
theorem XW (s:G1):U (fun n=>mE n (.str s)) (Sl s):=by
 refine U.eq (fun n=>VJ n s) ?_
 have tail:∀ (t:G1) (g:Bool),t.length≤s.length→U (fun n=>bif (t==([]:G1)) then (some (true,[(.str ([]:G1)),(0:Int),(.bool false),(6:Int)])) else (bif (true&&decide ((0:Int)<(t.length:Int))) then (AE.H6 (jD n (.int .u8 ((t[0]?.getD 0).toNat:Int))) fun r1=>bif J3 jD.I6 r1 then (bif ((Y r1 0).i==(0:Int)) then (some (true,[(.str ([]:G1)),(0:Int),(.bool false),(5:Int)])) else (bif (true&&decide ((1:Int)≤(t.length:Int))&&decide ((t.length:Int)≤(t.length:Int))) then (some (true,[(.str ((t.drop 1).take ((t.length:Int).toNat-1))),(.int .i64 (Y r1 0).i),(.bool g),(0:Int)])) else none)) else none) else none)) (Sl s):=by
  intro t g ht
  refine U.N9 (fun _=>U.ret ⟨[],0,false,6,rfl,by simp,by omega,by omega⟩) fun h=>?_
  have:=OZ h
  refine U.I0 (K3 rfl (E6 (by omega))) (U.H6 (Po _) ?_)
  rintro _ _ ⟨v,h,h0,h1⟩;cases h;refine⟨rfl,U.I0 rfl (U.N9 (fun _=>U.ret ⟨[],0,false,5,rfl,by simp,by omega,by omega⟩) fun _=>?_)⟩
  exact U.I0 (HT this) (U.ret ⟨_,v,g,0,rfl,Nat.le_trans UQ ht,h0,h1⟩)
 refine U.N9 (fun h=>?_) fun _=>tail s false (B9 _)
 have hl:0<s.length:=OZ (by simpa using h)
 refine U.I0 (K3 rfl (E6 (by omega))) (U.N9 (fun _=>U.I0 (HT hl) (tail _ _ UQ)) fun _=>tail s _ (B9 _))
theorem Bu (s t:G1):(lI s t).1.length≤s.length∧(lI s t).2.1.length≤s.length:=by
 unfold lI
 split<;>simp<;>omega
theorem TP {s:G1}(hs:s.length≤1048576)(t:G1):U (fun n=>strings_Cut n (.str s) (.str t)) fun r=>r=(true,[.str (lI s t).1,.str (lI s t).2.1,.bool (lI s t).2.2]):=by
 refine U.eq (u:=fun _=>some (true,[D.str (lI s t).1,.str (lI s t).2.1,.bool (lI s t).2.2])) (fun n=>LX n _ _ _ ?_) (U.ret rfl)
 show (bif Nat.ble s.length 4294967280 then some [D.str (lI s t).1,.str (lI s t).2.1,.bool (lI s t).2.2] else none)=_
 rw [B2 (by omega)];rfl
theorem Ed {ds:List D}(hd:XH ds)(hl:ds.length≤1048576)(b:Int){w:Int}(h1:1≤w)(h2:w≤128):U (fun n=>mU n (.Z 1 ds) b w) fun r=>∃ ws,r=(true,[.agg [.int .i64 w,.Z 1 ws]])∧XQ w ws:=by
 refine U.eq (fun n=>ZF n ds b w) ?_
 refine U.H6 (VP h1 h2 (us:=[]) (fun y hy=>by simp at hy) (by simp)) ?_
 rintro _ _ ⟨vs,h,hv⟩;cases h;refine⟨rfl,U.I0 rfl ?_⟩
 refine U.H6 (VP h1 h2 (QD b) (B9 _)) ?_
 rintro _ _ ⟨bs,h,hb⟩;cases h;refine⟨rfl,U.I0 rfl ?_⟩
 have loop:∀ (m j:Nat) (x:Int) (ws:List D),ds.length-j=m→j≤ds.length→XQ w ws→
   U (fun n=>iF n w (.Z 1 ds) (ds.length:Int) (j:Int) x w (.Z 1 ws) w (.Z 1 bs) (.Z 1 [])) fun r=>
    ∃ j' ws',r=(false,[.int .i64 w,.Z 1 ds,.int .i64 (ds.length:Int),.int .i64 j',.int .i64 x,.int .i64 w,.Z 1 ws',.int .i64 w,.Z 1 bs,.Z 1 []])∧XQ w ws':=by
  intro m
  induction m with
  |zero=>
   intro j x ws hm hj hv
   exact U.eq (fun n=>AL n _ _ _ _ _ _ _ _ _ _) (U.no (E8 (by omega)) (U.ret ⟨_,ws,rfl,hv⟩))
  |succ m ih=>
   intro j x ws hm hj hv
   have hj2:j<ds.length:=by omega
   have hw:IntKind.i64.wrap ((j:Int)+1)=((j+1:Nat):Int):=P0 (by omega)
   refine U.eq (fun n=>AL n _ _ _ _ _ _ _ _ _ _) (U.I0 (E6 (by omega)) (U.I0 (O5 hj2) ?_))
   obtain⟨y,hy,hy0,hy1⟩:=hd ds[j] (C6 hj2)
   rw [bN hj2,hy,hw]
   refine U.I0 rfl ?_
   refine U.H6 (Kl (.inr rfl) hv hb) ?_
   rintro _ _ ⟨v1,h,hv1⟩;cases h;refine⟨rfl,U.I0 rfl ?_⟩
   refine U.H6 (VP h1 h2 (QD _) (B9 _)) ?_
   rintro _ _ ⟨v2,h,hv2⟩;cases h;refine⟨rfl,U.I0 rfl ?_⟩
   refine U.H6 (Kl (.inl rfl) hv1 hv2) ?_
   rintro _ _ ⟨v3,h,hv3⟩;cases h;refine⟨rfl,U.I0 rfl ?_⟩
   exact ih (j+1) x v3 (by omega) (by omega) hv3
 refine U.L3 (loop ds.length 0 0 vs rfl (C4 _) hv) (fun ds h=>by obtain⟨_,_,h,_⟩:=h;cases h) fun ds h=>?_
 obtain⟨j',ws',h,hv'⟩:=h
 cases h
 exact U.I0 rfl (U.ret ⟨ws',rfl,hv'⟩)
theorem Ae {s:G1}(hs:s.length≤1048576):U (fun n=>dZ n (.str s)) Lit:=by
 refine U.eq (fun n=>HE n s) ?_
 refine U.H6 (TP hs _) ?_
 obtain⟨c1,c2⟩:=Bu s [39]
 intro _ _ h;cases h;refine⟨rfl,U.I0 rfl ?_⟩
 simp only [Y,D.s,D.b,List.getD_cons_zero,List.getD_cons_succ]
 refine U.N9 (fun _=>?_) fun _=>U.N9 (fun _=>?_) fun _=>?_
 ·refine U.H6 (Nl hs) ?_
  rintro _ _ ⟨w,ws,b1,b2,e,h,hv⟩;cases h
  exact⟨rfl,U.I0 rfl (U.ret ⟨w,ws,b1,b2,e,rfl,hv⟩)⟩
 ·refine U.H6 (BV (Nat.le_trans c1 hs) 10) ?_
  rintro _ _ ⟨e,ds,h,hd,hl⟩;cases h;refine⟨rfl,U.I0 rfl (U.N9 (fun he=>U.ret ⟨0,[],false,false,e,rfl,fun h=>?_⟩) fun _=>?_)⟩
  ·subst h;cases he
  refine U.H6 (Ap hd (by omega) (lim:=129) (by omega) (by omega)) ?_
  rintro _ _ ⟨v,h,v0,v1⟩;cases h;refine⟨rfl,U.I0 rfl ?_⟩
  refine U.H6 (XW _) ?_
  rintro _ _ ⟨t,b,g,e,h,ht,b0,b1⟩;cases h;refine⟨rfl,U.I0 rfl (U.N9 (fun he=>U.ret ⟨0,[],false,false,e,rfl,fun h=>?_⟩) fun _=>?_)⟩
  ·subst h;cases he
  refine U.H6 (BV (s:=t) (by omega) b) ?_
  rintro _ _ ⟨e,us,h,hd,hl⟩;cases h;refine⟨rfl,U.I0 rfl (U.N9 (fun he=>U.ret ⟨0,[],false,false,e,rfl,fun h=>?_⟩) fun _=>?_)⟩
  ·subst h;cases he
  refine U.N9 (fun _=>U.ret ⟨0,[],false,false,2,rfl,fun h=>by cases h⟩) fun w0=>U.N9 (fun _=>U.ret ⟨0,[],false,false,2,rfl,fun h=>by cases h⟩) fun w1=>?_
  have w0:=E9 w0
  have w1:=E9 w1
  simp only [Y,D.i,List.getD_cons_zero,List.getD_cons_succ] at w0 w1
  refine U.H6 (Ed hd (by omega) b (w:=v) (by omega) (by omega)) ?_
  rintro _ _ ⟨ws,h,hv⟩;cases h
  exact⟨rfl,U.I0 rfl (U.ret ⟨v,ws,_,_,0,rfl,fun _=>hv⟩)⟩
 ·refine U.H6 (XW _) ?_
  rintro _ _ ⟨t,b,g,e,h,ht,b0,b1⟩;cases h;refine⟨rfl,U.I0 rfl (U.N9 (fun he=>U.ret ⟨0,[],false,false,e,rfl,fun h=>?_⟩) fun _=>?_)⟩
  ·subst h;cases he
  refine U.H6 (BV (s:=t) (by omega) b) ?_
  rintro _ _ ⟨e,us,h,hd,hl⟩;cases h;refine⟨rfl,U.I0 rfl (U.N9 (fun he=>U.ret ⟨0,[],false,false,e,rfl,fun h=>?_⟩) fun _=>?_)⟩
  ·subst h;cases he
  refine U.H6 (Ed hd (by omega) b (w:=32) (by omega) (by omega)) ?_
  rintro _ _ ⟨ws,h,hv⟩;cases h
  exact⟨rfl,U.I0 rfl (U.ret ⟨32,ws,_,_,0,rfl,fun _=>hv⟩)⟩
theorem Xx {t:Nat→Out}{P:Bool×List D→Prop}(h:U t P):∃ r,P r∧U t (fun x=>x=r):=by
 obtain⟨r,h1,h2⟩:=h
 exact⟨r,h1,r,rfl,h2⟩
theorem jK {s:G1}(hs:s.length≤4294967280)(t:G1):U (fun n=>strings_Contains n (.str s) (.str t)) fun r=>r=(true,[.bool (decide (0≤bV t s 0))]):=by
 refine U.eq (u:=fun _=>some (true,[D.bool (decide (0≤bV t s 0))])) (fun n=>BI n _ _ _ ?_) (U.ret rfl)
 show (bif Nat.ble s.length 4294967280 then some [D.bool (decide (0≤bV t s 0))] else none)=_
 rw [B2 (by omega)];rfl
def Xm (r:Bool×List D):Prop:=∃ b,r=(true,[.bool b])
theorem JD (x:Int):U (fun n=>fG n (.int .u8 x)) Xm:=by
 refine U.eq (fun n=>DF n x) (U.N9 (fun _=>U.N9 (fun _=>U.ret ⟨_,rfl⟩) fun _=>?_) fun _=>?_)
 all_goals exact U.N9 (fun _=>U.N9 (fun _=>U.ret ⟨_,rfl⟩) fun _=>U.ret ⟨_,rfl⟩) fun _=>U.ret ⟨_,rfl⟩
theorem GG (x:Int):U (fun n=>fA n (.int .u8 x)) Xm:=
 U.eq (fun n=>HD n x) (U.N9 (fun _=>U.ret ⟨_,rfl⟩) fun _=>U.ret ⟨_,rfl⟩)
theorem Oq (x:Int):U (fun n=>lP n (.int .u8 x)) Xm:=by
 refine U.eq (fun n=>DK n x) (U.H6 (JD _) ?_)
 rintro _ _ ⟨b,h⟩;cases h;refine⟨rfl,U.I0 rfl (U.N9 (fun _=>U.ret ⟨_,rfl⟩) fun _=>U.H6 (GG _) ?_)⟩
 rintro _ _ ⟨b,h⟩;cases h;exact⟨rfl,U.I0 rfl (U.ret ⟨_,rfl⟩)⟩
theorem Co (x:Int):U (fun n=>iC n (.int .u8 x)) Xm:=by
 refine U.eq (fun n=>xX n x) (U.H6 (GG _) ?_)
 rintro _ _ ⟨b,h⟩;cases h;exact⟨rfl,U.I0 rfl (U.N9 (fun _=>U.ret ⟨_,rfl⟩) fun _=>U.ret ⟨_,rfl⟩)⟩
theorem Cp (x:Int):U (fun n=>iD n (.int .u8 x)) Xm:=by
 refine U.eq (fun n=>xY n x) (U.H6 (GG _) ?_)
 rintro _ _ ⟨b,h⟩;cases h;refine⟨rfl,U.I0 rfl (U.N9 (fun _=>U.ret ⟨_,rfl⟩) fun _=>U.H6 (JD _) ?_)⟩
 rintro _ _ ⟨b,h⟩;cases h;exact⟨rfl,U.I0 rfl (U.ret ⟨_,rfl⟩)⟩
def Gj (m:Nat)(r:Bool×List D):Prop:=∃ k:Nat,r=(true,[.int .i64 (k:Int)])∧k≤m
theorem Io {s:G1}(hs:s.length≤1048576):U (fun n=>cH n (.str s)) (Gj s.length):=by
 refine U.eq (fun n=>DH n s) ?_
 have loop:∀ (m j:Nat),s.length-j=m→j≤s.length→
   U (fun n=>cP n (.str s) (j:Int)) fun r=>∃ j':Nat,r=(false,[.str s,.int .i64 (j':Int)])∧j'≤s.length:=by
  intro m
  induction m with
  |zero=>intro j hm hj;exact U.eq (fun n=>mB n _ _) (U.no (E8 (by omega)) (U.ret ⟨j,rfl,hj⟩))
  |succ m ih=>
   intro j hm hj
   have hj2:j<s.length:=by omega
   have hw:IntKind.i64.wrap ((j:Int)+1)=((j+1:Nat):Int):=P0 (by omega)
   refine U.eq (fun n=>mB n _ _) (U.I0 (E6 (by omega)) (U.I0 (O5 hj2) (U.H6 (Oq _) ?_)))
   rintro _ _ ⟨b,h⟩;cases h;refine⟨rfl,U.I0 rfl (U.N9 (fun _=>?_) fun _=>U.ret ⟨j,rfl,hj⟩)⟩
   rw [hw];exact ih (j+1) (by omega) hj2
 refine U.L3 (loop s.length 0 rfl (C4 _)) (fun ds h=>by obtain⟨_,h,_⟩:=h;cases h) fun ds h=>?_
 obtain⟨j',h,hj⟩:=h
 cases h
 exact U.I0 rfl (U.ret ⟨j',rfl,hj⟩)
theorem Iq {s:G1}(hs:s.length≤1048576):U (fun n=>jZ n (.str s)) (Gj s.length):=by
 refine U.eq (fun n=>DI n s) ?_
 have loop:∀ (m j:Nat),s.length-j=m→j≤s.length→
   U (fun n=>cQ n (.str s) (j:Int)) fun r=>∃ j':Nat,r=(false,[.str s,.int .i64 (j':Int)])∧j'≤s.length:=by
  intro m
  induction m with
  |zero=>intro j hm hj;exact U.eq (fun n=>mC n _ _) (U.no (E8 (by omega)) (U.ret ⟨j,rfl,hj⟩))
  |succ m ih=>
   intro j hm hj
   have hj2:j<s.length:=by omega
   have hw:IntKind.i64.wrap ((j:Int)+1)=((j+1:Nat):Int):=P0 (by omega)
   refine U.eq (fun n=>mC n _ _) (U.I0 (E6 (by omega)) (U.I0 (O5 hj2) (U.H6 (Co _) ?_)))
   rintro _ _ ⟨b,h⟩;cases h;refine⟨rfl,U.I0 rfl (U.N9 (fun _=>?_) fun _=>U.ret ⟨j,rfl,hj⟩)⟩
   rw [hw];exact ih (j+1) (by omega) hj2
 refine U.L3 (loop s.length 0 rfl (C4 _)) (fun ds h=>by obtain⟨_,h,_⟩:=h;cases h) fun ds h=>?_
 obtain⟨j',h,hj⟩:=h
 cases h
 exact U.I0 rfl (U.ret ⟨j',rfl,hj⟩)
theorem Is {s:G1}(hs:s.length≤1048576):U (fun n=>kA n (.str s)) (Gj s.length):=by
 refine U.eq (fun n=>DJ n s) ?_
 have loop:∀ (m j:Nat),s.length-j=m→j≤s.length→
   U (fun n=>cR n (.str s) (j:Int)) fun r=>∃ j':Nat,r=(false,[.str s,.int .i64 (j':Int)])∧j'≤s.length:=by
  intro m
  induction m with
  |zero=>intro j hm hj;exact U.eq (fun n=>mD n _ _) (U.no (E8 (by omega)) (U.ret ⟨j,rfl,hj⟩))
  |succ m ih=>
   intro j hm hj
   have hj2:j<s.length:=by omega
   have hw:IntKind.i64.wrap ((j:Int)+1)=((j+1:Nat):Int):=P0 (by omega)
   refine U.eq (fun n=>mD n _ _) (U.I0 (E6 (by omega)) (U.I0 (O5 hj2) (U.H6 (Cp _) ?_)))
   rintro _ _ ⟨b,h⟩;cases h;refine⟨rfl,U.I0 rfl (U.N9 (fun _=>?_) fun _=>U.ret ⟨j,rfl,hj⟩)⟩
   rw [hw];exact ih (j+1) (by omega) hj2
 refine U.L3 (loop s.length 0 rfl (C4 _)) (fun ds h=>by obtain⟨_,h,_⟩:=h;cases h) fun ds h=>?_
 obtain⟨j',h,hj⟩:=h
 cases h
 exact U.I0 rfl (U.ret ⟨j',rfl,hj⟩)
theorem NP (s:G1)(k:Nat):(s.drop k).take (s.length-k)=s.drop k:=List.take_of_length_le (by simp)
theorem Ia {s:G1}(hs:s.length≤1048576):U (fun n=>cX n (.str s)) (Gj s.length):=by
 refine U.eq (fun n=>DG n s) (U.H6 (Iq hs) ?_)
 rintro _ _ ⟨k,h,hk⟩;cases h
 have hw:IntKind.i64.wrap ((k:Int)+1)=((k+1:Nat):Int):=P0 (by omega)
 refine⟨rfl,U.I0 rfl (U.N9 (fun hl=>?_) fun _=>U.ret ⟨k,rfl,hk⟩)⟩
 have hl:k<s.length:=by have:=E7 hl;simp only [Y,D.i,List.getD_cons_zero] at this;omega
 refine U.I0 (O5 hl) (U.N9 (fun _=>?_) fun _=>U.ret ⟨k,rfl,hk⟩)
 simp only [Y,D.i,List.getD_cons_zero,hw,E1,NP]
 refine U.I0 (K3 (K3 (E6 (by omega)) (E6 (by omega))) (E6 (Int.le_refl _))) (U.H6 (Is (by simp;omega)) ?_)
 rintro _ _ ⟨j,h,hj⟩;cases h
 simp only [F9] at hj
 refine⟨rfl,U.I0 rfl (U.ret ⟨k+(1+j),?_,by omega⟩)⟩
 simp only [Y,D.i,List.getD_cons_zero]
 rw [Q3 (x:=1+(j:Int)) (by omega) (by omega),Q3 (by omega) (by omega)]
 rfl
theorem Ry {s:G1}(hs:s.length≤1048576)(h0:0<s.length):U (fun n=>oO n (.str s)) (Gj s.length):=by
 refine U.eq (fun n=>KP n s) ?_
 have loop:∀ (j:Nat),j≤s.length→U (fun n=>eX n (.str s) (j:Int)) fun r=>Gj s.length r∨∃ j',r=(false,[.str s,.int .i64 j']):=by
  intro j
  induction j with
  |zero=>intro hj;exact U.eq (fun n=>lO n _ _) (U.no rfl (U.ret (.inr ⟨_,rfl⟩)))
  |succ j ih=>
   intro hj
   have hw:IntKind.i64.wrap (((j+1:Nat):Int)-1)=(j:Int):=by rw [Q3 (by omega) (by omega)];omega
   have hc:(true&&decide ((0:Int)≤((j+1:Nat):Int))&&decide (((j+1:Nat):Int)≤(s.length:Int)))=true:=K3 (K3 rfl (E6 (by omega))) (E6 (by omega))
   refine U.eq (fun n=>lO n _ _) (U.N9 (fun _=>?_) fun _=>U.ret (.inr ⟨_,rfl⟩))
   refine U.I0 hc (U.H6 (jK (by simp;omega) _) ?_)
   intro _ _ h;cases h;refine⟨rfl,U.I0 rfl (U.N9 (fun _=>?_) fun _=>?_)⟩
   ·refine U.I0 hc (U.I0 (E6 (by simp [W0];omega)) (U.I0 (E6 (by simp [W0];omega)) (U.H6 (jK (by simp) _) ?_)))
    intro _ _ h;cases h;refine⟨rfl,U.I0 rfl (U.N9 (fun _=>U.ret (.inl ⟨j+1,rfl,hj⟩)) fun _=>?_)⟩
    rw [hw];exact ih (by omega)
   ·rw [hw];exact ih (by omega)
 have hm:min (3:Int) (s.length:Int)=((min 3 s.length:Nat):Int):=by omega
 rw [hm]
 refine U.L3 (loop (min 3 s.length) (by omega)) (fun ds h=>?_) fun ds h=>?_
 ·rcases h with h|⟨_,h⟩
  ·exact h
  ·cases h
 ·rcases h with ⟨_,h,_⟩|⟨_,h⟩
  ·cases h
  ·cases h
   refine U.I0 rfl (U.I0 (K3 rfl (E6 (by show (0:Int)<(s.length:Int);omega))) (U.H6 (rV _ _) ?_))
   intro _ _ h;cases h
   exact⟨rfl,U.I0 rfl (U.N9 (fun _=>U.ret ⟨1,rfl,by omega⟩) fun _=>U.ret ⟨0,rfl,by omega⟩)⟩
theorem Ik:U (fun n=>dZ n (.str [])) fun r=>r=(true,[.agg [.int .i64 0,.Z 1 [],.bool false,.bool false],.int .i64 6]):=by
 refine U.eq (fun n=>HE n []) (U.H6 (TP (by simp) _) ?_)
 intro _ _ h;cases h
 refine⟨rfl,U.I0 rfl (U.I0 rfl (U.H6 (Q:=fun r=>r=(true,[.agg [.int .i64 0,.Z 1 [],.bool false,.bool false],.int .i64 6])) (U.eq (fun n=>HF n []) (U.H6 (Q:=fun r=>r=(true,[.int .i64 6,.Z 1 []])) (U.eq (fun n=>DL n [] 10) (U.I0 rfl (U.ret rfl))) ?_)) ?_))⟩
 ·intro _ _ h;cases h;exact⟨rfl,U.I0 rfl (U.I0 rfl (U.ret rfl))⟩
 ·intro _ _ h;cases h;exact⟨rfl,U.I0 rfl (U.ret rfl)⟩
def Word (s:G1)(r:Bool×List D):Prop:=∃ (k:Int) (n:Nat) (e:Int),r=(true,[.int .i64 k,.int .i64 (n:Int),.int .i64 e])∧n≤s.length∧(e=0→1≤n)
theorem Se {s:G1}(hs:s.length≤1048576)(h0:0<s.length):U (fun n=>gN n (.str s)) (Word s):=by
 have e7:∀ e:Int,e≠0→Word s (true,[.int .i64 0,.int .i64 0,.int .i64 e]):=fun e he=>⟨0,0,e,rfl,C4 _,fun h=>absurd h he⟩
 refine U.eq (fun n=>tT n s) (U.I0 (K3 rfl (E6 (by omega))) (U.H6 (JD _) ?_))
 have name:U (fun n=>bif (true&&decide ((1:Int)≤(s.length:Int))&&decide ((s.length:Int)≤(s.length:Int))) then (AE.H6 (cH n (.str ((s.drop 1).take ((s.length:Int).toNat-1)))) fun r2=>bif J3 cH.I6 r2 then (bif (decide ((IntKind.i64.wrap ((1:Int)+(Y r2 0).i))>(40:Int))) then (some (true,[(0:Int),(0:Int),(9:Int)])) else (bif (true&&decide ((0:Int)≤(IntKind.i64.wrap ((1:Int)+(Y r2 0).i)))&&decide ((IntKind.i64.wrap ((1:Int)+(Y r2 0).i))≤(s.length:Int))) then (bif (((s.drop 0).take ((IntKind.i64.wrap ((1:Int)+(Y r2 0).i)).toNat-0))==([36]:G1)) then (some (true,[(0:Int),(0:Int),(9:Int)])) else (some (true,[(1:Int),(.int .i64 (IntKind.i64.wrap ((1:Int)+(Y r2 0).i))),(0:Int)]))) else none)) else none) else none) (Word s):=by
  refine U.I0 (HT h0) (U.H6 (Io (Nat.le_trans UQ hs)) ?_)
  rintro _ _ ⟨k,h,hk⟩;cases h
  simp only [D7,F9,E1] at hk
  have hw:IntKind.i64.wrap ((1:Int)+(k:Int))=((1+k:Nat):Int):=by rw [Q3 (by omega) (by omega)];omega
  simp only [Y,D.i,List.getD_cons_zero,hw]
  refine⟨trivial,U.I0 rfl (U.N9 (fun _=>U.ret (e7 9 (by decide))) fun _=>U.I0 (K3 (K3 rfl (E6 (by omega))) (E6 (by omega))) (U.N9 (fun _=>U.ret (e7 9 (by decide))) fun _=>U.ret ⟨1,1+k,0,rfl,by omega,fun _=>by omega⟩))⟩
 have num:U (fun n=>AE.H6 (cX n (.str s)) fun r3=>bif J3 cX.I6 r3 then (bif (true&&decide ((0:Int)≤(Y r3 0).i)&&decide ((Y r3 0).i≤(s.length:Int))) then (AE.H6 (dZ n (.str ((s.drop 0).take ((Y r3 0).i.toNat-0)))) fun r4=>bif J3 dZ.I6 r4 then (bif ((Y r4 1).i !=(0:Int)) then (some (true,[(0:Int),(0:Int),(7:Int)])) else (some (true,[(2:Int),(.int .i64 (Y r3 0).i),(0:Int)]))) else none) else none) else none) (Word s):=by
  refine U.H6 (Ia hs) ?_
  rintro _ _ ⟨k,h,hk⟩;cases h
  simp only [Y,D.i,List.getD_cons_zero,E1]
  refine⟨trivial,U.I0 rfl (U.I0 (K3 (K3 rfl (E6 (by omega))) (E6 (by omega))) ?_)⟩
  by_cases hz:k=0
  ·subst hz
   refine U.H6 Ik ?_
   intro _ _ h;cases h
   exact⟨rfl,U.I0 rfl (U.I0 rfl (U.ret (e7 7 (by decide))))⟩
  ·refine U.H6 (Ae (by simp;omega)) ?_
   rintro _ _ ⟨w,ws,b1,b2,e,h,hv⟩;cases h
   exact⟨rfl,U.I0 rfl (U.N9 (fun _=>U.ret (e7 7 (by decide))) fun _=>U.ret ⟨2,k,0,rfl,hk,fun _=>by omega⟩)⟩
 rintro _ _ ⟨b,h⟩;cases h
 refine⟨rfl,U.I0 rfl (U.N9 (fun _=>name) fun _=>U.N9 (fun _=>name) fun _=>U.H6 (GG _) ?_)⟩
 rintro _ _ ⟨b,h⟩;cases h
 refine⟨rfl,U.I0 rfl (U.N9 (fun _=>num) fun _=>U.N9 (fun _=>num) fun _=>U.H6 (Ry hs h0) ?_)⟩
 rintro _ _ ⟨k,h,hk⟩;cases h
 simp only [Y,D.i,List.getD_cons_zero]
 refine⟨trivial,U.I0 rfl (U.N9 (fun _=>U.ret (e7 7 (by decide))) fun hz=>U.ret ⟨3,k,0,rfl,hk,fun _=>?_⟩)⟩
 cases k with
 |zero=>cases hz
 |succ k=>omega
section
theorem O6 {t u:Nat→Out}{P:Bool×List D→Prop}(he:∀ n,t n=u n)(h:U u P):U t P:=by
 have:t=u:=funext he
 rw [this];exact h
def tk (k:Int)(t:G1)(a b c:Int):D:= .agg [.int .i64 k,.str t,.int .i64 a,.int .i64 b,.int .i64 c]
def Nr:G1:=[32,109,111,100,117,108,101,32,101,110,100,109,111,100,117,108,101,32,112,97,114,97,109,101,116,101,114,32,108,111,99,97,108,112,97,114,97,109,32,105,110,112,117,116,32,111,117,116,112,117,116,32,114,101,103,32,119,105,114,101,32,115,105,103,110,101,100,32,105,110,116,101,103,101,114,32,103,101,110,118,97,114,32,103,101,110,101,114,97,116,101,32,101,110,100,103,101,110,101,114,97,116,101,32,97,115,115,105,103,110,32,97,108,119,97,121,115,32,112,111,115,101,100,103,101,32,102,117,110,99,116,105,111,110,32,101,110,100,102,117,110,99,116,105,111,110,32,102,111,114,32,105,102,32,101,108,115,101,32,98,101,103,105,110,32,101,110,100,32,99,97,115,101,32,101,110,100,99,97,115,101,32,100,101,102,97,117,108,116,32,97,115,115,101,114,116,32]
def WZ:G1:=[32,45,32,126,32,33,32,38,32,124,32,94,32,126,38,32,126,124,32,126,94,32,94,126,32,43,32]
def Cj:List G1:=[[32,124,124,32],[32,38,38,32],[32,124,32],[32,94,32,126,94,32,94,126,32],[32,38,32],[32,61,61,32,33,61,32],[32,60,32,60,61,32,62,32,62,61,32],[32,60,60,32,62,62,32,60,60,60,32,62,62,62,32],[32,43,32,45,32],[32,42,32,47,32,37,32]]
def AR:List G1:=[[124,124],[38,38],[124],[94],[126,94],[38],[61,61],[33,61],[60],[60,61],[62],[62,61],[60,60],[62,62],[60,60,60],[62,62,62],[43],[45],[42],[47],[37]]
def LQ (o:G1):Nat:=bif o==[124,124] then 0 else bif o==[38,38] then 1 else bif o==[124] then 2 else bif o==[94] then 3 else bif o==[126,94] then 3 else bif o==[38] then 4 else bif o==[61,61] then 5 else bif o==[33,61] then 5 else bif o==[60] then 6 else bif o==[60,61] then 6 else bif o==[62] then 6 else bif o==[62,61] then 6 else bif o==[60,60] then 7 else bif o==[62,62] then 7 else bif o==[60,60,60] then 7 else bif o==[62,62,62] then 7 else bif o==[43] then 8 else bif o==[45] then 8 else bif o==[42] then 9 else bif o==[47] then 9 else bif o==[37] then 9 else 9
theorem Vg:(AR.all fun o=>decide (LQ o≤9))=true:=by kernel_rfl
theorem Ve {o:G1}(ho:o∈AR):LQ o≤9:=E7 (B6.1 Vg o ho)
theorem Me:(AR.all fun o=>(List.range 10).all fun j=>decide (0≤bV (([32]++o)++[32]) (Cj[j]?.getD []) 0)==(LQ o==j))=true:=by kernel_rfl
theorem Tc {o:G1}(ho:o∈AR){j:Nat}(hj:j<10):decide (0≤bV (([32]++o)++[32]) (Cj[j]?.getD []) 0)=(LQ o==j):=
 eq_of_beq (B6.1 (B6.1 Me o ho) j (List.mem_range.2 hj))
theorem Nf:(AR.all fun o=>decide (o.length≤3))=true:=by kernel_rfl
theorem WB {o:G1}(ho:o∈AR):o.length≤3:=E7 (B6.1 Nf o ho)
theorem Rw:decide (Nr.length≤4294967280)=true:=by kernel_rfl
theorem Rx:Nr.length≤4294967280:=E7 Rw
def qQ (t:G1):Bool:=decide (t.length≤100)&&decide (0<t.length)&&!((t[0]?.getD 0).toNat==36)&&!decide (0≤bV (([32]++t)++[32]) Nr 0)
section
variable {l:List D} {i:Nat} {d c p0 p1 p2:Int} {k:Int} {t:G1} {a b e:Int}
theorem HG (h:l[i]? = some (tk k t a b e)):i<l.length:=by
 by_cases hl:i<l.length
 ·exact hl
 ·rw [List.getElem?_eq_none (by omega)] at h;cases h
theorem S5 (h:l[i]? = some (tk k t a b e)):U (fun n=>J9 n (.Z 5 l) (i:Int) d c p0 p1 p2 (0:Int)) fun r=>r=(true,[tk k t a b e,.Z 5 l,.int .i64 (i:Int),.int .i64 d,.int .i64 c,.int .i64 p0,.int .i64 p1,.int .i64 p2,.int .i64 0]):=by
 have hi:=HG h
 have hg:l[((i:Nat):Int).toNat]?.getD D.top=tk k t a b e:=by
  rw [show ((i:Nat):Int).toNat=i from rfl,h];rfl
 refine U.eq (fun n=>CR n l i d c p0 p1 p2 0) (U.no rfl (O6 (fun n=>mJ.eq_1 n _ _ _ _ _ _ _ _ _) (U.no (E8 (by omega)) (U.I0 (O5 hi) ?_))))
 rw [hg]
 exact U.I0 rfl (U.ret rfl)
theorem gM (w:G1)(h:l[i]? = some (tk k t a b e)):U (fun n=>L9 n (.str w) (.Z 5 l) (i:Int) d c p0 p1 p2 (0:Int)) fun r=>r=(true,[.bool (t==w&&k !=2),.Z 5 l,.int .i64 (i:Int),.int .i64 d,.int .i64 c,.int .i64 p0,.int .i64 p1,.int .i64 p2,.int .i64 0]):=by
 refine U.eq (fun n=>EV n w l i d c p0 p1 p2 0) (U.H6 (S5 h) ?_)
 intro _ ds h0;cases h0
 refine⟨rfl,U.I0 rfl (U.N9 (fun h1=>?_) fun h1=>?_)⟩
 ·have h1:(t==w)=true:=h1
  refine U.H6 (S5 h) ?_
  intro _ ds h0;cases h0
  exact⟨rfl,U.I0 rfl (U.ret (by rw [h1];rfl))⟩
 ·have h1:(t==w)=false:=h1
  exact U.ret (by rw [h1];rfl)
theorem N6 {w:G1}(hl:l.length≤1000000)(h:l[i]? = some (tk k t a b e))(hw:(t==w&&k !=2)=true):U (fun n=>H8 n (.str w) (.Z 5 l) (i:Int) d c p0 p1 p2 (0:Int)) fun r=>r=(true,[.bool true,.Z 5 l,.int .i64 ((i+1:Nat):Int),.int .i64 d,.int .i64 c,.int .i64 p0,.int .i64 p1,.int .i64 p2,.int .i64 0]):=by
 have hi:=HG h
 refine U.eq (fun n=>qZ n w l i d c p0 p1 p2 0) (U.H6 (gM w h) ?_)
 intro _ ds h0;cases h0
 refine⟨rfl,U.I0 rfl (U.no (by show (!(t==w&&k !=2))=false;rw [hw];rfl) (U.ret ?_))⟩
 rw [← P0 (by omega)];rfl
theorem J7 {w:G1}(h:l[i]? = some (tk k t a b e))(hw:(t==w&&k !=2)=false):U (fun n=>H8 n (.str w) (.Z 5 l) (i:Int) d c p0 p1 p2 (0:Int)) fun r=>r=(true,[.bool false,.Z 5 l,.int .i64 (i:Int),.int .i64 d,.int .i64 c,.int .i64 p0,.int .i64 p1,.int .i64 p2,.int .i64 0]):=by
 refine U.eq (fun n=>qZ n w l i d c p0 p1 p2 0) (U.H6 (gM w h) ?_)
 intro _ ds h0;cases h0
 exact⟨rfl,U.I0 rfl (U.I0 (by show (!(t==w&&k !=2))=true;rw [hw];rfl) (U.ret rfl))⟩
def FM (l:List D)(i:Nat)(ws:List G1):Prop:=∀ (j:Nat) (h:j<ws.length),∃ k a b e,l[i+j]? = some (tk k ws[j] a b e)∧(k !=2)=true
theorem O7 (hl:l.length≤1000000)(ws:List G1)(hw:ws.length≤1000)(h:FM l i ws):U (fun n=>H9 n (.Z 1 (ws.map D.str)) (.Z 5 l) (i:Int) d c p0 p1 p2 (0:Int)) fun r=>r=(true,[.Z 5 l,.int .i64 ((i+ws.length:Nat):Int),.int .i64 d,.int .i64 c,.int .i64 p0,.int .i64 p1,.int .i64 p2,.int .i64 0]):=by
 refine U.eq (fun n=>BA n _ l i d c p0 p1 p2 0) ?_
 have loop:∀ (m j:Nat),ws.length-j=m→j≤ws.length→U (fun n=>Y1 n (.Z 1 (ws.map D.str)) ((ws.map D.str).length:Int) (j:Int) (.Z 5 l) ((i+j:Nat):Int) d c p0 p1 p2 (0:Int))
   fun r=>r=(false,[.Z 1 (ws.map D.str),.int .i64 ((ws.map D.str).length:Int),.int .i64 (ws.length:Int),.Z 5 l,.int .i64 ((i+ws.length:Nat):Int),.int .i64 d,.int .i64 c,.int .i64 p0,.int .i64 p1,.int .i64 p2,.int .i64 0]):=by
  intro m
  induction m with
  |zero=>
   intro j hm hj
   have:j=ws.length:=by omega
   subst this
   exact U.eq (fun n=>nV n _ _ _ _ _ _ _ _ _ _ _) (U.no (E8 (by rw [List.length_map];omega)) (U.ret rfl))
  |succ m ih=>
   intro j hm hj
   have hlt:j<ws.length:=by omega
   obtain⟨k,a,b,e,h1,h2⟩:=h j hlt
   have hg:(ws.map D.str)[((j:Nat):Int).toNat]?.getD D.top = .str ws[j]:=by
    rw [show ((j:Nat):Int).toNat=j from rfl,List.getElem?_map,C2 hlt];rfl
   refine U.eq (fun n=>nV n _ _ _ _ _ _ _ _ _ _ _) (U.I0 (E6 (by rw [List.length_map];omega)) (U.I0 (O5 (by rw [List.length_map];exact hlt)) ?_))
   rw [hg]
   refine U.I0 rfl (U.H6 (N6 hl h1 (by rw [h2];show (ws[j]==ws[j]&&true)=true;rw [F3];rfl)) ?_)
   intro _ ds h0;cases h0
   refine⟨rfl,U.I0 rfl (U.no rfl ?_)⟩
   have K:=ih (j+1) (by omega) (by omega)
   rw [← P0 (by omega)] at K
   exact K
 refine U.L3 (loop ws.length 0 rfl (C4 _)) (fun ds h=>by cases h) fun ds h=>?_
 cases h
 exact U.I0 rfl (U.ret rfl)
theorem Hk (h:l[i]? = some (tk 1 t a b e))(hg:qQ t=true):U (fun n=>bT n (.Z 5 l) (i:Int) d c p0 p1 p2 (0:Int)) fun r=>r=(true,[.bool true,.Z 5 l,.int .i64 (i:Int),.int .i64 d,.int .i64 c,.int .i64 p0,.int .i64 p1,.int .i64 p2,.int .i64 0]):=by
 simp only [qQ,A9,decide_eq_true_eq,D8,F4] at hg
 obtain⟨⟨⟨g1,g2⟩,g3⟩,g4⟩:=hg
 refine U.eq (fun n=>wY n l i d c p0 p1 p2 0) (U.H6 (S5 h) ?_)
 intro _ ds h0;cases h0
 refine⟨rfl,U.I0 rfl (U.I0 rfl (U.I0 (K3 rfl (E6 (by show (0:Int)<(t.length:Int);omega))) (U.I0 ?_ (U.I0 (E6 (by show 1+t.length≤W0;simp only [W0];omega)) (U.I0 (E6 (by show ([32]++t).length+1≤W0;simp only [W0,A7,C9];omega)) (U.H6 (jK (s:=Nr) Rx (([32]++t)++[32])) ?_))))))⟩
 ·show ((((t[0]?.getD 0).toNat:Int)) !=36)=true
  simp only [bne_iff_ne,ne_eq]
  omega
 ·intro _ ds h0;cases h0
  refine⟨rfl,U.I0 rfl (U.ret ?_)⟩
  show (true,[D.bool (!decide (0≤bV (([32]++t)++[32]) Nr 0)),_,_,_,_,_,_,_,_])=_
  rw [g4];rfl
theorem kB (hl:l.length≤1000000)(h:l[i]? = some (tk 1 t a b e))(hg:qQ t=true):U (fun n=>K9 n (.Z 5 l) (i:Int) d c p0 p1 p2 (0:Int)) fun r=>r=(true,[.str t,.Z 5 l,.int .i64 ((i+1:Nat):Int),.int .i64 d,.int .i64 c,.int .i64 p0,.int .i64 p1,.int .i64 p2,.int .i64 0]):=by
 have hi:=HG h
 refine U.eq (fun n=>AZ n l i d c p0 p1 p2 0) (U.H6 (Hk h hg) ?_)
 intro _ ds h0;cases h0
 refine⟨rfl,U.I0 rfl (U.no rfl (U.H6 (S5 h) ?_))⟩
 intro _ ds h0;cases h0
 refine⟨rfl,U.I0 rfl (U.ret ?_)⟩
 rw [← P0 (by omega)];rfl
end
end
abbrev Tk:=Int×G1
def QM (ws:List Tk):List D:=ws.map fun p=>D.str p.2
theorem WX (u:List Tk):(QM u).length=u.length:=List.length_map ..
def QL (x:D):Bool:=(x.at_ 0).i==3||((x.at_ 0).i==4||(x.at_ 0).i==5)
def aW (w:D→List Tk)(x:D):List Tk:=bif QL x then [(3,[40])]++(w x++[(3,[41])]) else w x
def lW (w:D→List Tk):List D→List Tk
 |[]=>[]
 |[x]=>w x
 |x::y::r=>w x++((3,[44])::lW w (y::r))
def kW (w:D→List Tk)(k:Int)(t:G1)(ar:List D):List Tk:=
 bif k==3 then [(3,t)]++aW w (ar[0]?.getD .top)
 else bif k==4 then aW w (ar[0]?.getD .top)++([(3,t)]++aW w (ar[1]?.getD .top))
 else bif k==5 then aW w (ar[0]?.getD .top)++([(3,[63])]++(aW w (ar[1]?.getD .top)++([(3,[58])]++aW w (ar[2]?.getD .top))))
 else bif k==6 then [(3,[123])]++(lW w ar++[(3,[125])])
 else bif k==7 then [(3,[123])]++(w (ar[0]?.getD .top)++([(3,[123])]++(lW w (ar.drop 1)++[(3,[125]),(3,[125])])))
 else bif k==8 then [(1,t),(3,[91])]++(w (ar[0]?.getD .top)++[(3,[93])])
 else bif k==9 then [(1,t),(3,[91])]++(w (ar[0]?.getD .top)++([(3,[58])]++(w (ar[1]?.getD .top)++[(3,[93])])))
 else bif k==10 then [(1,t),(3,[40])]++(lW w ar++[(3,[41])])
 else bif k==1 then [(2,t)] else [(1,t)]
def wE:Nat→D→List Tk
 |0,_=>[]
 |n+1,x=>kW (wE n) (x.at_ 0).i (x.at_ 4).s (x.at_ 5).l
theorem HZ (n:Nat)(k:Int)(t:G1)(ar:List D):wE (n+1) (E k t ar)=kW (wE n) k t ar:=rfl
theorem Ud {w:D→List Tk}{x:D}{A:Nat}(h:(w x).length≤A):(aW w x).length≤A+2:=by
 unfold aW
 cases QL x<;>simp<;>omega
theorem TM {k:Int}{t:G1}{m:Nat}(h:FF k t m):m≤3:=by
 rcases h with h|h|h|h|h|h|h|h|h|h<;>omega
theorem Gc {d:Nat}{x:D}(h:fD d x):J6 I5 x=x∧Q5 I5 x=true:=by
 cases d with
 |zero=>exact h.elim
 |succ d=>obtain⟨k,t,xs,rfl,_⟩:=h;exact⟨rfl,rfl⟩
theorem Wa:∀ (d:Nat) (x:D),fD d x→U (fun n=>bW n x) fun r=>r=(true,[x]):=by
 intro d
 induction d with
 |zero=>intro x h;exact h.elim
 |succ d ih=>
  rintro x ⟨k,t,xs,rfl,hs,ha⟩
  have hl:=TM hs
  refine U.eq (fun n=>JC n k 0 0 0 t xs) ?_
  have loop:∀ (m j:Nat),xs.length-j=m→j≤xs.length→U (fun n=>aA n (.Z 6 xs) (xs.length:Int) (j:Int) (.Z 6 (xs.take j))) fun r=>
    r=(false,[.Z 6 xs,.int .i64 (xs.length:Int),.int .i64 (xs.length:Int),.Z 6 xs]):=by
   intro m
   induction m with
   |zero=>
    intro j hm hj
    have:j=xs.length:=by omega
    subst this
    refine U.eq (fun n=>iA n xs _ _ _) (U.no (E8 (by omega)) (U.ret ?_))
    simp
   |succ m ihm=>
    intro j hm hj
    have hlt:j<xs.length:=by omega
    refine U.eq (fun n=>iA n xs _ _ _) (U.I0 (E6 (by omega)) (U.I0 (O5 hlt) ?_))
    have hw:=ha xs[j] (C6 hlt)
    obtain⟨e1,e2⟩:=Gc hw
    rw [bN hlt,e1,e2]
    refine U.I0 rfl ?_
    refine U.H6 (ih xs[j] hw) ?_
    intro b ds h;cases h;refine⟨rfl,?_⟩
    refine U.I0 (show J3 bW.I6 [xs[j]]=true by have:=e2;simp only [J3,bW.I6,qJ,LO,kS,pO] at this ⊢;simp [show Q5 I5 xs[j]=true from e2]) ?_
    refine U.I0 (B2 (by simp [L7];omega)) ?_
    rw [P0 (by omega)]
    have e3:xs.take j++[J6 I5 (Y [xs[j]] 0)]=xs.take (j+1):=by
     rw [show Y [xs[j]] 0=xs[j] from rfl,e1,List.take_succ_eq_append_getElem hlt]
    rw [e3]
    exact ihm (j+1) (by omega) (by omega)
  refine U.H6 (Q:=fun r=>r=(true,[.Z 6 xs])) (U.eq (fun n=>tP n xs) ?_) ?_
  ·refine U.L3 (loop xs.length 0 rfl (C4 _)) (fun ds h=>by cases h) fun ds h=>?_
   cases h
   exact U.I0 rfl (U.ret rfl)
  ·intro b ds h;cases h;exact⟨rfl,U.I0 rfl (U.ret rfl)⟩
section
theorem Aw:∀ {n:Nat} {x:D},fD n x→fD (n+1) x
 |0,_,h=>h.elim
 |n+1,_,⟨k,t,ar,h1,h2,h3⟩=>⟨k,t,ar,h1,h2,fun a ha=>Aw (h3 a ha)⟩
theorem fZ:∀ {m n:Nat} {x:D},n≤m→fD n x→fD m x
 |0,n,x,hm,h=>by
  have:n=0:=by omega
  subst this;exact h
 |m+1,n,x,hm,h=>by
  by_cases e:n=m+1
  ·subst e;exact h
  ·exact Aw (fZ (by omega) h)
def isLeft (x:D):Prop:=∃ k t ar,x=E k t ar∧t∈cN∧((k=2∧ar.length=0)∨(k=8∧ar.length=1)∨(k=9∧ar.length=2))∧∀ a∈ar,fD 2 a
theorem uV {x:D}(h:isLeft x):fD 3 x:=by
 obtain⟨k,t,ar,rfl,ht,hk,ha⟩:=h
 refine⟨k,t,ar,rfl,?_,ha⟩
 rcases hk with ⟨rfl,h⟩|⟨rfl,h⟩|⟨rfl,h⟩
 ·exact .inr (.inl ⟨rfl,ht,h⟩)
 ·exact .inr (.inr (.inr (.inr (.inr (.inr (.inr (.inl ⟨rfl,ht,h⟩)))))))
 ·exact .inr (.inr (.inr (.inr (.inr (.inr (.inr (.inr (.inl ⟨rfl,ht,h⟩))))))))
def S (k:Int)(t:G1)(es bs zs:List D):D:= .agg [.int .i64 k,.str t,.Z 6 es,.Z 5 bs,.Z 6 zs]
def arm (es:List D)(s:D):D:= .agg (.Z 6 es::s.cells)
def tX:D:=S 8 [] [] [] []
def nT:Nat→D→Bool
 |n+1,.agg [.int _ k,_,_,.Z _ bs,_]=>bif k==4 then (match bs with|[_,.agg (.int _ k'::r)]=>k'==8||nT n (.agg (.int .i64 k'::r))|_=>false) else bif k==6 then (match bs with|[b]=>nT n b|_=>false) else false
 |_,_=>false
def Nu (n:Nat)(k:Int)(t:G1)(es bs zs:List D):Prop:=
 (k=1∧t=[]∧es=[]∧bs.length≤3∧zs=[])∨((k=2∨k=3)∧t=[]∧(∃ l e,es=[l,e]∧isLeft l)∧bs=[]∧zs=[])∨
 (k=4∧t=[]∧es.length=1∧(∃ b c,bs=[b,c]∧(c=tX∨nT n b=false))∧zs=[])∨(k=5∧t=[]∧es.length=1∧bs=[]∧1≤zs.length∧zs.length≤4)∨
 (k=6∧t=[105]∧es.length=3∧bs.length=1∧zs=[])∨(k=7∧(t=[]∨t=[112,49])∧es.length=1∧bs=[]∧zs=[])∨(k=8∧t=[]∧es=[]∧bs=[]∧zs=[])
def sE:Nat→D→Prop
 |0,_=>False
 |n+1,x=>∃ k t es bs zs,x=S k t es bs zs∧(∀ e∈es,fD 4 e)∧(∀ b∈bs,sE n b)∧(∀ a∈zs,∃ es' s,a=arm es' s∧es'.length≤2∧(∀ e∈es',fD 4 e)∧sE n s)∧Nu n k t es bs zs
theorem QF (n:Nat):sE (n+1) tX:=⟨8,[],[],[],[],rfl,fun _ h=>(by cases h),fun _ h=>(by cases h),fun _ h=>(by cases h),.inr (.inr (.inr (.inr (.inr (.inr ⟨rfl,rfl,rfl,rfl,rfl⟩)))))⟩
theorem Sd {n:Nat}{x:D}(h:sE n x):J6 T8 x=x∧Q5 T8 x=true:=by
 cases n with
 |zero=>exact h.elim
 |succ n=>obtain⟨k,t,es,bs,zs,rfl,_⟩:=h;exact⟨rfl,rfl⟩
theorem Rj:∀ (n:Nat) (x:D),sE n x→U (fun m=>gQ m x) fun r=>r=(true,[.bool (nT n x)]):=by
 intro n
 induction n with
 |zero=>intro x h;exact h.elim
 |succ n ih=>
  rintro x ⟨k,t,es,bs,zs,rfl,_,hb,_,hsh⟩
  refine U.eq (fun m=>RL m k t es bs zs) ?_
  rcases hsh with ⟨rfl,_⟩|⟨rfl|rfl,_⟩|⟨rfl,rfl,h1,⟨b,c,rfl,_⟩,rfl⟩|⟨rfl,_⟩|⟨rfl,rfl,h1,h2,rfl⟩|⟨rfl,_⟩|⟨rfl,_⟩
  ·exact U.no rfl (U.no rfl (U.ret rfl))
  ·exact U.no rfl (U.no rfl (U.ret rfl))
  ·exact U.no rfl (U.no rfl (U.ret rfl))
  ·have hc:=hb c (by simp)
   have ih:=ih c hc
   cases n with
   |zero=>exact hc.elim
   |succ n=>
    obtain⟨k',t',es',bs',zs',rfl,_⟩:=hc
    refine U.I0 rfl (U.I0 rfl (U.I0 rfl (U.I0 rfl (U.N9 (fun h8=>?_) fun h8=>?_))))
    ·have h8:(k'==8)=true:=h8
     refine U.ret ?_
     show _=(true,[D.bool (k'==8||nT (n+1) (S k' t' es' bs' zs'))])
     rw [h8];rfl
    ·have h8:(k'==8)=false:=h8
     refine U.I0 rfl (U.I0 rfl (U.H6 ih ?_))
     intro _ ds h;cases h
     refine⟨rfl,U.I0 rfl (U.ret ?_)⟩
     show _=(true,[D.bool (k'==8||nT (n+1) (S k' t' es' bs' zs'))])
     rw [h8];rfl
  ·exact U.no rfl (U.no rfl (U.ret rfl))
  ·obtain⟨b,rfl⟩:∃ b,bs=[b]:=by
    match bs,h2 with
    |[b],_=>exact⟨b,rfl⟩
   have hb:=hb b (by simp)
   obtain⟨e1,e2⟩:=Sd hb
   refine U.no rfl (U.I0 rfl (U.I0 rfl ?_))
   have e3:([b][0]?.getD D.top)=b:=rfl
   rw [e3,e1,e2]
   refine U.I0 rfl (U.H6 (ih b hb) ?_)
   intro _ ds h;cases h
   exact⟨rfl,U.I0 rfl (U.ret rfl)⟩
  ·exact U.no rfl (U.no rfl (U.ret rfl))
  ·exact U.no rfl (U.no rfl (U.ret rfl))
section
variable {d:Nat} {deep:Int} {b:List D} {a v:Int}
def Xb (d:Nat)(x:D):Prop:=∃ es' s,x=arm es' s∧es'.length≤2∧(∀ e∈es',fD 4 e)∧sE d s
end
end
def sL (w:D→List Tk):List D→Nat
 |[]=>0
 |x::xs=>(w x).length+sL w xs
theorem oZ (w:D→List Tk)(x:D):∀ xs:List D,sL w (xs++[x])=sL w xs+(w x).length
 |[]=>by simp [sL]
 |y::xs=>by simp only [List.cons_append,sL,oZ w x xs];omega
theorem xK (w:D→List Tk):∀ xs:List D,(xs.flatMap w).length=sL w xs
 |[]=>rfl
 |y::xs=>by rw [D9,A7,xK w xs];rfl
theorem Ai (w:D→List Tk):∀ xs:List D,(lW w xs).length+1≤sL w xs+xs.length+1
 |[]=>by simp [lW]
 |[x]=>by simp [lW,sL]
 |x::y::r=>by
  have:=Ai w (y::r)
  simp only [lW,sL,A7,A0] at this ⊢;omega
theorem xL (w:D→List Tk):∀ xs:List D,1≤xs.length→(lW w xs).length+1≤sL w xs+xs.length
 |[],h=>by simp at h
 |[x],_=>by simp [lW,sL]
 |x::y::r,_=>by
  have:=xL w (y::r) (by simp)
  simp only [lW,sL,A7,A0] at this ⊢;omega
theorem tA {n:Nat}{k:Int}{t:G1}(hk:k=1∨k=2):(wE (n+1) (E k t [])).length=1:=by
 rcases hk with rfl|rfl<;>rfl
theorem RW (w:D→List Tk)(x:D):(aW w x).length≤(w x).length+2:=Ud (B9 _)
theorem QX {w:D→List Tk}{k:Int}{t:G1}{ar:List D}(hk:3≤k)(h:FF k t ar.length):(kW w k t ar).length+ar.length≤sL w ar+14:=by
 rcases h with ⟨rfl,_,hm⟩|⟨rfl,_,hm⟩|⟨rfl,_,hm⟩|⟨rfl,_,hm⟩|⟨rfl,_,hm⟩|⟨rfl,_,hm,hm2⟩|⟨rfl,_,hm,hm2⟩|⟨rfl,_,hm⟩|⟨rfl,_,hm⟩|⟨rfl,_,hm,hm2⟩
 ·exact absurd hk (by decide)
 ·exact absurd hk (by decide)
 ·match ar,hm with
  |[a],_=>
   have h1:=RW w a
   show ([(3,t)]++aW w a).length+_≤_
   simp only [sL,G0];omega
 ·match ar,hm with
  |[a,b],_=>
   have h1:=RW w a
   have h2:=RW w b
   show (aW w a++([(3,t)]++aW w b)).length+_≤_
   simp only [sL,G0];omega
 ·match ar,hm with
  |[a,b,c],_=>
   have h1:=RW w a
   have h2:=RW w b
   have h3:=RW w c
   show (aW w a++([(3,[63])]++(aW w b++([(3,[58])]++aW w c)))).length+_≤_
   simp only [sL,G0];omega
 ·have h1:=xL w ar hm
  show ([(3,[123])]++(lW w ar++[(3,[125])])).length+_≤_
  simp only [G0];omega
 ·match ar,hm,hm2 with
  |a::r,hm,hm2=>
   simp only [A0] at hm hm2
   have h1:=xL w r (by omega)
   show ([(3,[123])]++(w a++([(3,[123])]++(lW w r++[(3,[125]),(3,[125])])))).length+_≤_
   simp only [sL,G0];omega
 ·match ar,hm with
  |[a],_=>
   show ([(1,t),(3,[91])]++(w a++[(3,[93])])).length+_≤_
   simp only [sL,G0];omega
 ·match ar,hm with
  |[a,b],_=>
   show ([(1,t),(3,[91])]++(w a++([(3,[58])]++(w b++[(3,[93])])))).length+_≤_
   simp only [sL,G0];omega
 ·have h1:=xL w ar hm
  show ([(1,t),(3,[40])]++(lW w ar++[(3,[41])])).length+_≤_
  simp only [G0];omega
theorem O9 {k:Int}(hk:0<k)(hk2:k≤1000){b:List D}{a:Int}(hm:Mk b a):U (fun n=>J4 n k (.Z 1 b) a) fun r=>∃ v a',r=(true,[.int .i64 v,.Z 1 b,.int .i64 a'])∧0≤v∧v<k∧Mk b a'∧a≤a'∧(v=0∨a+1≤a'):=by
 obtain⟨hb,hl,h0,h1⟩:=hm
 refine U.eq (fun n=>RH n k b a) ?_
 refine U.N9 (fun _=>U.ret ⟨0,a,rfl,Int.le_refl _,hk,⟨hb,hl,h0,h1⟩,Int.le_refl _,.inl rfl⟩) fun hc=>?_
 have hc:¬ a≥(b.length:Int):=E9 hc
 have e1:IntKind.i64.wrap (a+1)=a+1:=Q3 (by omega) (by omega)
 have e2:IntKind.i64.wrap (a+1-1)=a:=by rw [Q3 (by omega) (by omega)];omega
 obtain⟨i,hi,hi0,hi1⟩:=Ca (P:=fun y=>∃ i:Int,y = .int .u8 i∧0≤i∧i≤255) hb (v:=a) h0 (by omega)
 simp only [e1,e2,hi]
 refine U.I0 (by simp;omega) ?_
 refine U.I0 rfl ?_
 refine U.no (E8 (by omega)) ?_
 have e3:(IntKind.i64.wrap (D.int IntKind.u8 i).i)=i:=Q3 (show -9223372036854775808≤i by omega) (show i≤9223372036854775807 by omega)
 simp only [e3]
 have e4:0≤i.tmod k:=Int.tmod_nonneg k hi0
 have e5:i.tmod k<k:=Int.tmod_lt_of_pos i hk
 have e6:IntKind.i64.wrap (i.tmod k)=i.tmod k:=Q3 (by omega) (by omega)
 exact U.ret ⟨_,_,rfl,e4,e5,⟨hb,hl,by omega,by omega⟩,by omega,.inr (by omega)⟩
theorem jH {b:List D}{a:Int}(hm:Mk b a):U (fun n=>R7 n (.Z 1 b) a) fun r=>∃ s a',r=(true,[.str s,.Z 1 b,.int .i64 a'])∧s∈cN∧Mk b a'∧a≤a':=by
 refine U.eq (fun n=>RJ n b a) ?_
 (refine U.H6 (O9 (by decide) (by decide) (by assumption)) ?_;rintro _ _ ⟨v,a,h,hv0,hv1,hm,hq1,hq2⟩;cases h;(try simp only [Y,D.i] at hq1 hq2);refine⟨rfl,?_⟩)
 refine U.I0 rfl ?_
 refine U.I0 (K3 (E6 hv0) (E6 hv1)) ?_
 obtain⟨s,h1,hs⟩:=PZ (T:=cN) hv0 hv1
 refine U.I0 (by exact congrArg (fun x=>L6 (.leaf .str)&&Q5 (.leaf .str) x) hs) ?_
 refine U.ret ⟨s,a,?_,h1,hm,by omega⟩
 exact congrArg (fun x:D=>(true,[D.str x.s,.Z 1 b,.int .i64 a])) hs
theorem QI {b:List D}{a:Int}(hm:Mk b a):U (fun n=>kD n (.Z 1 b) a) fun r=>∃ s a',r=(true,[.str s,.Z 1 b,.int .i64 a'])∧s∈ZV∧Mk b a'∧a≤a':=by
 refine U.eq (fun n=>LU n b a) ?_
 (refine U.H6 (O9 (by decide) (by decide) (by assumption)) ?_;rintro _ _ ⟨v,a,h,hv0,hv1,hm,hq1,hq2⟩;cases h;(try simp only [Y,D.i] at hq1 hq2);refine⟨rfl,?_⟩)
 refine U.I0 rfl ?_
 refine U.I0 (K3 (E6 hv0) (E6 hv1)) ?_
 obtain⟨s,h1,hs⟩:=PZ (T:=ZV) hv0 hv1
 refine U.I0 (by exact congrArg (fun x=>L6 (.leaf .str)&&Q5 (.leaf .str) x) hs) ?_
 refine U.ret ⟨s,a,?_,h1,hm,by omega⟩
 exact congrArg (fun x:D=>(true,[D.str x.s,.Z 1 b,.int .i64 a])) hs
theorem eV {d:Nat}{deep:Int}(hE:∀ b a,Mk b a→U (fun n=>P9 n deep (.Z 1 b) a) fun r=>∃ x a',r=(true,[x,.Z 1 b,.int .i64 a'])∧fD d x∧Mk b a'∧a≤a'∧((wE d x).length:Int)≤13*(a'-a)+1)
  {c:Int} (hc:0≤c) (hc2:c≤100) {b:List D} {a:Int} (hm:Mk b a):U (fun n=>J0 n deep c (.Z 1 b) a) fun r=>∃ xs a',r=(true,[.Z 1 b,.int .i64 a',.Z 6 xs])∧xs.length=c.toNat∧(∀ x∈xs,fD d x)∧Mk b a'∧a≤a'∧(sL (wE d) xs:Int)≤13*(a'-a)+c:=by
 have loop:∀ (a0:Int) (k:Nat) (i:Int) (a:Int) (xs:List D),c-i=k→0≤i→xs.length=i.toNat→(∀ x∈xs,fD d x)→Mk b a→a0≤a→(sL (wE d) xs:Int)≤13*(a-a0)+i→
   U (fun n=>aI n deep c i (.Z 1 b) a (.Z 6 xs)) fun r=>∃ ys a',r=(false,[.int .i64 deep,.int .i64 c,.int .i64 c,.Z 1 b,.int .i64 a',.Z 6 ys])∧ys.length=c.toNat∧(∀ x∈ys,fD d x)∧Mk b a'∧a0≤a'∧(sL (wE d) ys:Int)≤13*(a'-a0)+c:=by
  intro a0 k
  induction k with
  |zero=>
   intro i a xs hk h0 hl hx hm ha hs
   refine U.eq (fun n=>pH n deep c i b a xs) ?_
   refine U.no (E8 (by omega)) ?_
   have:i=c:=by omega
   subst this
   exact U.ret ⟨xs,a,rfl,hl,hx,hm,ha,hs⟩
  |succ k ih=>
   intro i a xs hk h0 hl hx hm ha hs
   refine U.eq (fun n=>pH n deep c i b a xs) ?_
   refine U.I0 (E6 (by omega)) ?_
   refine U.H6 (hE b a hm) ?_
   rintro _ _ ⟨x,a',h,hwx,hm',ha',hs'⟩;cases h;refine⟨rfl,?_⟩
   obtain⟨dd,rfl⟩:∃ dd,d=dd+1:=by cases d with|zero=>exact hwx.elim|succ dd=>exact⟨dd,rfl⟩
   have hwx':=hwx
   obtain⟨k0,t,ar,rfl,hsh,har⟩:=hwx
   refine U.I0 rfl ?_
   refine U.I0 (B2 (by unfold L7;omega)) ?_
   have e1:IntKind.i64.wrap (i+1)=i+1:=Q3 (by omega) (by omega)
   rw [e1]
   exact ih (i+1) a' (xs++[E k0 t ar]) (by omega) (by omega) (by simp;omega) (fun y hy=>by
    rcases D3.1 hy with hy|hy
    ·exact hx y hy
    ·simp at hy;subst hy;exact hwx') hm' (by omega) (by rw [oZ];omega)
 refine U.eq (fun n=>EY n deep c b a) ?_
 refine U.L3 (loop a c.toNat 0 a [] (by omega) (by omega) rfl (fun x hx=>by cases hx) hm (Int.le_refl _) (by simp [sL])) ?_ ?_
 ·rintro ds ⟨ys,a',h,_⟩;cases h
 ·rintro ds ⟨ys,a',h,h1,h2,h3,h4,h5⟩;cases h
  refine U.I0 rfl ?_
  exact U.ret ⟨ys,a',rfl,h1,h2,h3,h4,h5⟩
theorem IA:∀ (d:Nat) (deep:Int),-1000≤deep→deep≤d+1→d≤100→∀ (b:List D) (a:Int),Mk b a→
  U (fun n=>P9 n deep (.Z 1 b) a) fun r=>∃ x a',r=(true,[x,.Z 1 b,.int .i64 a'])∧fD (d+1) x∧Mk b a'∧a≤a'∧((wE (d+1) x).length:Int)≤13*(a'-a)+1:=by
 intro d
 induction d with
 |zero=>
  intro deep hd0 hd hd2 b a0 hm
  refine U.eq (fun n=>uB n deep b a0) ?_
  (refine U.H6 (O9 (by decide) (by decide) (by assumption)) ?_;rintro _ _ ⟨v,a,h,hv0,hv1,hm,hq1,hq2⟩;cases h;(try simp only [Y,D.i] at hq1 hq2);refine⟨rfl,?_⟩)
  refine U.I0 rfl ?_
  refine U.L3 (Q:=fun r=>∃ k:Int,r=(false,[.int .i64 deep,.int .i64 k,.bool true,.Z 1 b,.int .i64 a,.int .i64 0,.int .i64 0,.int .i64 0,.int .i64 0,.str [],.Z 6 []])∧(k=0∨k=1∨k=2)) (U.eq (fun n=>pG n _ _ _ _ _ _ _ _ _ _ _) (U.I0 (E6 (by simpa using hd)) (U.ret ⟨_,rfl,?_⟩))) ?_ ?_
  ·have e1:0≤v.tmod 3:=Int.tmod_nonneg 3 hv0
   have e2:v.tmod 3<3:=Int.tmod_lt_of_pos v (by decide)
   show v.tmod 3=0∨v.tmod 3=1∨v.tmod 3=2
   omega
  ·rintro ds ⟨k,h,_⟩;cases h
  ·rintro ds ⟨k,h,hk⟩;cases h
   refine U.I0 rfl ?_
   rcases hk with rfl|rfl|rfl
   ·refine U.I0 rfl ?_
    refine U.H6 (jH (by assumption)) ?_
    rintro _ _ ⟨s,a,h,hs1,hm,hq1⟩;cases h;(try simp only [Y,D.i] at hq1);refine⟨rfl,?_⟩
    refine U.I0 rfl ?_
    exact U.ret ⟨E 2 s [],a,rfl,⟨2,s,[],rfl,.inr (.inl ⟨rfl,hs1,rfl⟩),fun x hx=>by cases hx⟩,hm,by omega,by rw [tA (by decide)];omega⟩
   ·refine U.no rfl ?_
    refine U.I0 rfl ?_
    refine U.H6 (jH (by assumption)) ?_
    rintro _ _ ⟨s,a,h,hs1,hm,hq1⟩;cases h;(try simp only [Y,D.i] at hq1);refine⟨rfl,?_⟩
    refine U.I0 rfl ?_
    exact U.ret ⟨E 2 s [],a,rfl,⟨2,s,[],rfl,.inr (.inl ⟨rfl,hs1,rfl⟩),fun x hx=>by cases hx⟩,hm,by omega,by rw [tA (by decide)];omega⟩
   ·refine U.no rfl ?_
    refine U.no rfl ?_
    refine U.I0 rfl ?_
    refine U.H6 (QI (by assumption)) ?_
    rintro _ _ ⟨s,a,h,hs1,hm,hq1⟩;cases h;(try simp only [Y,D.i] at hq1);refine⟨rfl,?_⟩
    refine U.I0 rfl ?_
    exact U.ret ⟨E 1 s [],a,rfl,⟨1,s,[],rfl,.inl ⟨rfl,hs1,rfl⟩,fun x hx=>by cases hx⟩,hm,by omega,by rw [tA (by decide)];omega⟩
 |succ d ih=>
  intro deep hd0 hd hd2 b a0 hm
  have hd:deep≤(d:Int)+1+1:=by simpa using hd
  have e1:IntKind.i64.wrap (deep-1)=deep-1:=Q3 (by omega) (by omega)
  have hE:-999≤deep→∀ b a,Mk b a→U (fun n=>P9 n (IntKind.i64.wrap (deep-1):Int) (.Z 1 b) a) fun r=>∃ x a',r=(true,[x,.Z 1 b,.int .i64 a'])∧fD (d+1) x∧Mk b a'∧a≤a'∧((wE (d+1) x).length:Int)≤13*(a'-a)+1:=by
   intro h
   rw [e1]
   exact ih (deep-1) (by omega) (by omega) (by omega)
  refine U.eq (fun n=>uB n deep b a0) ?_
  (refine U.H6 (O9 (by decide) (by decide) (by assumption)) ?_;rintro _ _ ⟨v,a,h,hv0,hv1,hm,hq1,hq2⟩;cases h;(try simp only [Y,D.i] at hq1 hq2);refine⟨rfl,?_⟩)
  refine U.I0 rfl ?_
  refine U.L3 (Q:=fun r=>∃ k:Int,r=(false,[.int .i64 deep,.int .i64 k,.bool (decide (deep≤1)),.Z 1 b,.int .i64 a,.int .i64 0,.int .i64 0,.int .i64 0,.int .i64 0,.str [],.Z 6 []])∧0≤k∧k≤11∧(2<k→2≤deep)∧(k≠0→v≠0)) (U.eq (fun n=>pG n _ _ _ _ _ _ _ _ _ _ _) (U.N9 (fun hc=>U.ret ⟨v.tmod 3,by rw [hc];rfl,?_⟩) (fun hc=>U.ret ⟨v,by rw [hc];rfl,hv0,by omega,fun _=>?_,fun h=>h⟩))) ?_ ?_
  ·have e1:0≤v.tmod 3:=Int.tmod_nonneg 3 hv0
   have e2:v.tmod 3<3:=Int.tmod_lt_of_pos v (by decide)
   refine⟨e1,by omega,fun h=>(by omega),fun h h'=>h (by rw [h'];rfl)⟩
  ·have:=E9 hc;omega
  ·rintro ds ⟨k,h,_⟩;cases h
  ·rintro ds ⟨k,h,hk0,hk1,hk2,hk3⟩;cases h
   refine U.I0 rfl ?_
   refine U.N9 (fun hk=>?_) (fun hn0=>?_)
   ·refine U.H6 (jH (by assumption)) ?_
    rintro _ _ ⟨s,a,h,hs1,hm,hq1⟩;cases h;(try simp only [Y,D.i] at hq1);refine⟨rfl,?_⟩
    refine U.I0 rfl ?_
    exact U.ret ⟨E 2 s [],a,rfl,⟨2,s,[],rfl,.inr (.inl ⟨rfl,hs1,rfl⟩),fun x hx=>by cases hx⟩,hm,by omega,by rw [tA (by decide)];omega⟩
   refine U.N9 (fun hk=>?_) (fun hn1=>?_)
   ·refine U.H6 (jH (by assumption)) ?_
    rintro _ _ ⟨s,a,h,hs1,hm,hq1⟩;cases h;(try simp only [Y,D.i] at hq1);refine⟨rfl,?_⟩
    refine U.I0 rfl ?_
    exact U.ret ⟨E 2 s [],a,rfl,⟨2,s,[],rfl,.inr (.inl ⟨rfl,hs1,rfl⟩),fun x hx=>by cases hx⟩,hm,by omega,by rw [tA (by decide)];omega⟩
   refine U.N9 (fun hk=>?_) (fun hn2=>?_)
   ·refine U.H6 (QI (by assumption)) ?_
    rintro _ _ ⟨s,a,h,hs1,hm,hq1⟩;cases h;(try simp only [Y,D.i] at hq1);refine⟨rfl,?_⟩
    refine U.I0 rfl ?_
    exact U.ret ⟨E 1 s [],a,rfl,⟨1,s,[],rfl,.inl ⟨rfl,hs1,rfl⟩,fun x hx=>by cases hx⟩,hm,by omega,by rw [tA (by decide)];omega⟩
   have n0:k≠0:=by simpa [Y,D.i] using hn0
   have n1:k≠1:=by simpa [Y,D.i] using hn1
   have n2:k≠2:=by simpa [Y,D.i] using hn2
   have nv:=hk3 n0
   have hE:=hE (by have:=hk2 (by omega);omega)
   have hbin:∀ {b:List D} {a:Int},Mk b a→a0+1≤a→U (fun n=>AE.H6 (gD n) fun r3=>bif J3 gD.I6 r3 then (AE.H6 (J4 n (21:Int) (.Z 1 b) a) fun r4=>bif J3 J4.I6 r4 then (bif (decide ((0:Int)≤(Y r4 0).i)&&decide ((Y r4 0).i<((Y r3 0).l.length:Int))) then (bif L6 (.leaf .str)&&Q5 (.leaf .str) ((Y r3 0).l[(Y r4 0).i.toNat]?.getD D.top) then (AE.H6 (J0 n (.int .i64 (IntKind.i64.wrap (deep-(1:Int)))) (2:Int) (.Z 1 (Y r4 1).l) (.int .i64 (Y r4 2).i)) fun r5=>bif J3 J0.I6 r5 then (some (true,[(.agg [(4:Int),(0:Int),(0:Int),(0:Int),(.str ((Y r3 0).l[(Y r4 0).i.toNat]?.getD D.top).s),(.Z 6 (Y r5 2).l)]),(.Z 1 (Y r5 0).l),(.int .i64 (Y r5 1).i)])) else none) else none) else none) else none) else none)
     fun r=>∃ x a',r=(true,[x,.Z 1 b,.int .i64 a'])∧fD (d+1+1) x∧Mk b a'∧a0≤a'∧((wE (d+1+1) x).length:Int)≤13*(a'-a0)+1:=by
    intro b a hm hac
    refine U.H6 Vv ?_
    rintro _ _ h;cases h;refine⟨rfl,?_⟩
    refine U.I0 rfl ?_
    (refine U.H6 (O9 (by decide) (by decide) (by assumption)) ?_;rintro _ _ ⟨v,a,h,hv0,hv1,hm,hq1,hq2⟩;cases h;(try simp only [Y,D.i] at hq1 hq2);refine⟨rfl,?_⟩)
    refine U.I0 rfl ?_
    (refine U.I0 (K3 (E6 hv0) (E6 hv1)) ?_;obtain⟨s,hs1,hs⟩:=PZ (T:=Rc) hv0 hv1;refine U.I0 (by exact congrArg (fun x=>L6 (.leaf .str)&&Q5 (.leaf .str) x) hs) ?_)
    (refine U.H6 (eV hE (c:=2) (by decide) (by decide) (by assumption)) ?_;rintro _ _ ⟨xs,a,h,hl,hx,hm,hq1,hq2⟩;cases h;(try simp only [Y,D.i] at hq1 hq2);refine⟨rfl,?_⟩)
    refine U.I0 rfl ?_
    refine U.ret ⟨E 4 s xs,a,?_,⟨4,s,xs,rfl,.inr (.inr (.inr (.inl ⟨rfl,hs1,hl⟩))),hx⟩,hm,by omega,by have:=QX (w:=wE (d+1)) (k:=4) (t:=s) (ar:=xs) (by decide) (.inr (.inr (.inr (.inl ⟨rfl,hs1,hl⟩))));rw [HZ];omega⟩
    exact congrArg (fun x:D=>(true,[D.agg [.int .i64 4,.int .i64 0,.int .i64 0,.int .i64 0,.str x.s,.Z 6 xs],.Z 1 b,.int .i64 a])) hs
   refine U.N9 (fun hk=>?_) (fun hn=>?_)
   ·(refine U.H6 (O9 (by decide) (by decide) (by assumption)) ?_;rintro _ _ ⟨v,a,h,hv0,hv1,hm,hq1,hq2⟩;cases h;(try simp only [Y,D.i] at hq1 hq2);refine⟨rfl,?_⟩)
    refine U.I0 rfl ?_
    (refine U.I0 (K3 (E6 hv0) (E6 hv1)) ?_;obtain⟨s,hs1,hs⟩:=PZ (T:=Oj) hv0 hv1;refine U.I0 (by exact congrArg (fun x=>L6 (.leaf .str)&&Q5 (.leaf .str) x) hs) ?_)
    (refine U.H6 (eV hE (c:=1) (by decide) (by decide) (by assumption)) ?_;rintro _ _ ⟨xs,a,h,hl,hx,hm,hq1,hq2⟩;cases h;(try simp only [Y,D.i] at hq1 hq2);refine⟨rfl,?_⟩)
    refine U.I0 rfl ?_
    refine U.ret ⟨E 3 s xs,a,?_,⟨3,s,xs,rfl,.inr (.inr (.inl ⟨rfl,hs1,hl⟩)),hx⟩,hm,by omega,by have:=QX (w:=wE (d+1)) (k:=3) (t:=s) (ar:=xs) (by decide) (.inr (.inr (.inl ⟨rfl,hs1,hl⟩)));rw [HZ];omega⟩
    exact congrArg (fun x:D=>(true,[D.agg [.int .i64 3,.int .i64 0,.int .i64 0,.int .i64 0,.str x.s,.Z 6 xs],.Z 1 b,.int .i64 a])) hs
   refine U.N9 (fun hk=>hbin (a:=a) (by assumption) (by omega)) (fun hn=>?_)
   refine U.N9 (fun hk=>hbin (a:=a) (by assumption) (by omega)) (fun hn=>?_)
   refine U.N9 (fun hk=>hbin (a:=a) (by assumption) (by omega)) (fun hn=>?_)
   refine U.N9 (fun hk=>?_) (fun hn=>?_)
   ·(refine U.H6 (eV hE (c:=3) (by decide) (by decide) (by assumption)) ?_;rintro _ _ ⟨xs,a,h,hl,hx,hm,hq1,hq2⟩;cases h;(try simp only [Y,D.i] at hq1 hq2);refine⟨rfl,?_⟩)
    refine U.I0 rfl ?_
    exact U.ret ⟨E 5 [] xs,a,rfl,⟨5,[],xs,rfl,.inr (.inr (.inr (.inr (.inl ⟨rfl,rfl,hl⟩)))),hx⟩,hm,by omega,by have:=QX (w:=wE (d+1)) (k:=5) (t:=[]) (ar:=xs) (by decide) (.inr (.inr (.inr (.inr (.inl ⟨rfl,rfl,hl⟩)))));rw [HZ];omega⟩
   refine U.N9 (fun hk=>?_) (fun hn=>?_)
   ·(refine U.H6 (O9 (by decide) (by decide) (by assumption)) ?_;rintro _ _ ⟨v,a,h,hv0,hv1,hm,hq1,hq2⟩;cases h;(try simp only [Y,D.i] at hq1 hq2);refine⟨rfl,?_⟩)
    refine U.I0 rfl ?_
    have e2:IntKind.i64.wrap (1+v)=1+v:=Q3 (by omega) (by omega)
    refine U.H6 (eV hE (c:=IntKind.i64.wrap (1+v)) (by rw [e2];omega) (by rw [e2];omega) (by assumption)) ?_
    rintro _ _ ⟨xs,a,h,hl,hx,hm,hq1,hq2⟩;cases h;(try simp only [Y,D.i] at hq1 hq2);refine⟨rfl,?_⟩
    refine U.I0 rfl ?_
    rw [e2] at hl
    exact U.ret ⟨E 6 [] xs,a,rfl,⟨6,[],xs,rfl,.inr (.inr (.inr (.inr (.inr (.inl ⟨rfl,rfl,by omega,by omega⟩))))),hx⟩,hm,by omega,by have:=QX (w:=wE (d+1)) (k:=6) (t:=[]) (ar:=xs) (by decide) (.inr (.inr (.inr (.inr (.inr (.inl ⟨rfl,rfl,by omega,by omega⟩))))));rw [HZ];omega⟩
   refine U.N9 (fun hk=>?_) (fun hn=>?_)
   ·(refine U.H6 (O9 (by decide) (by decide) (by assumption)) ?_;rintro _ _ ⟨v,a,h,hv0,hv1,hm,hq1,hq2⟩;cases h;(try simp only [Y,D.i] at hq1 hq2);refine⟨rfl,?_⟩)
    refine U.I0 rfl ?_
    have e2:IntKind.i64.wrap (2+v)=2+v:=Q3 (by omega) (by omega)
    refine U.H6 (eV hE (c:=IntKind.i64.wrap (2+v)) (by rw [e2];omega) (by rw [e2];omega) (by assumption)) ?_
    rintro _ _ ⟨xs,a,h,hl,hx,hm,hq1,hq2⟩;cases h;(try simp only [Y,D.i] at hq1 hq2);refine⟨rfl,?_⟩
    refine U.I0 rfl ?_
    rw [e2] at hl
    exact U.ret ⟨E 7 [] xs,a,rfl,⟨7,[],xs,rfl,.inr (.inr (.inr (.inr (.inr (.inr (.inl ⟨rfl,rfl,by omega,by omega⟩)))))),hx⟩,hm,by omega,by have:=QX (w:=wE (d+1)) (k:=7) (t:=[]) (ar:=xs) (by decide) (.inr (.inr (.inr (.inr (.inr (.inr (.inl ⟨rfl,rfl,by omega,by omega⟩)))))));rw [HZ];omega⟩
   refine U.N9 (fun hk=>?_) (fun hn=>?_)
   ·(refine U.H6 (O9 (by decide) (by decide) (by assumption)) ?_;rintro _ _ ⟨v,a,h,hv0,hv1,hm,hq1,hq2⟩;cases h;(try simp only [Y,D.i] at hq1 hq2);refine⟨rfl,?_⟩)
    refine U.I0 rfl ?_
    have hv:v=0∨v=1:=by omega
    rcases hv with rfl|rfl
    ·refine U.I0 rfl ?_
     refine U.I0 rfl ?_
     refine U.H6 (jH (by assumption)) ?_
     rintro _ _ ⟨s,a,h,hs1,hm,hq1⟩;cases h;(try simp only [Y,D.i] at hq1);refine⟨rfl,?_⟩
     refine U.I0 rfl ?_
     refine U.H6 (eV hE (c:=IntKind.i64.wrap (1+0)) (by decide) (by decide) (by assumption)) ?_
     rintro _ _ ⟨xs,a,h,hl,hx,hm,hq1,hq2⟩;cases h;(try simp only [Y,D.i] at hq1 hq2);refine⟨rfl,?_⟩
     refine U.I0 rfl ?_
     exact U.ret ⟨E 8 s xs,a,rfl,⟨8,s,xs,rfl,.inr (.inr (.inr (.inr (.inr (.inr (.inr (.inl ⟨rfl,hs1,hl⟩))))))),hx⟩,hm,by omega,by have:=QX (w:=wE (d+1)) (k:=8) (t:=s) (ar:=xs) (by decide) (.inr (.inr (.inr (.inr (.inr (.inr (.inr (.inl ⟨rfl,hs1,hl⟩))))))));rw [HZ];omega⟩
    ·refine U.I0 rfl ?_
     refine U.I0 rfl ?_
     refine U.H6 (jH (by assumption)) ?_
     rintro _ _ ⟨s,a,h,hs1,hm,hq1⟩;cases h;(try simp only [Y,D.i] at hq1);refine⟨rfl,?_⟩
     refine U.I0 rfl ?_
     refine U.H6 (eV hE (c:=IntKind.i64.wrap (1+1)) (by decide) (by decide) (by assumption)) ?_
     rintro _ _ ⟨xs,a,h,hl,hx,hm,hq1,hq2⟩;cases h;(try simp only [Y,D.i] at hq1 hq2);refine⟨rfl,?_⟩
     refine U.I0 rfl ?_
     exact U.ret ⟨E 9 s xs,a,rfl,⟨9,s,xs,rfl,.inr (.inr (.inr (.inr (.inr (.inr (.inr (.inr (.inl ⟨rfl,hs1,hl⟩)))))))),hx⟩,hm,by omega,by have:=QX (w:=wE (d+1)) (k:=9) (t:=s) (ar:=xs) (by decide) (.inr (.inr (.inr (.inr (.inr (.inr (.inr (.inr (.inl ⟨rfl,hs1,hl⟩)))))))));rw [HZ];omega⟩
   ·(refine U.H6 (O9 (by decide) (by decide) (by assumption)) ?_;rintro _ _ ⟨v,a,h,hv0,hv1,hm,hq1,hq2⟩;cases h;(try simp only [Y,D.i] at hq1 hq2);refine⟨rfl,?_⟩)
    refine U.I0 rfl ?_
    (refine U.I0 (K3 (E6 hv0) (E6 hv1)) ?_;obtain⟨s,hs1,hs⟩:=PZ (T:=JZ) hv0 hv1;refine U.I0 (by exact congrArg (fun x=>L6 (.leaf .str)&&Q5 (.leaf .str) x) hs) ?_)
    refine U.H6 (O9 (by decide) (by decide) (by assumption)) ?_
    rintro _ _ ⟨v2,a,h,hv20,hv21,hm,hq1,hq2⟩;cases h;(try simp only [Y,D.i] at hq1 hq2);refine⟨rfl,?_⟩
    refine U.I0 rfl ?_
    have e2:IntKind.i64.wrap (1+v2)=1+v2:=Q3 (by omega) (by omega)
    refine U.H6 (eV hE (c:=IntKind.i64.wrap (1+v2)) (by rw [e2];omega) (by rw [e2];omega) (by assumption)) ?_
    rintro _ _ ⟨xs,a,h,hl,hx,hm,hq1,hq2⟩;cases h;(try simp only [Y,D.i] at hq1 hq2);refine⟨rfl,?_⟩
    refine U.I0 rfl ?_
    rw [e2] at hl
    refine U.ret ⟨E 10 s xs,a,?_,⟨10,s,xs,rfl,.inr (.inr (.inr (.inr (.inr (.inr (.inr (.inr (.inr ⟨rfl,hs1,by omega,by omega⟩)))))))),hx⟩,hm,by omega,by have:=QX (w:=wE (d+1)) (k:=10) (t:=s) (ar:=xs) (by decide) (.inr (.inr (.inr (.inr (.inr (.inr (.inr (.inr (.inr ⟨rfl,hs1,by omega,by omega⟩)))))))));rw [HZ];omega⟩
    exact congrArg (fun x:D=>(true,[D.agg [.int .i64 10,.int .i64 0,.int .i64 0,.int .i64 0,.str x.s,.Z 6 xs],.Z 1 b,.int .i64 a])) hs
theorem Qj {w v:D→List Tk}{k:Int}{t:G1}{ar:List D}(hs:FF k t ar.length)(h:∀ x∈ar,w x=v x):kW w k t ar=kW v k t ar:=by
 have hl:∀ xs:List D,(∀ x∈xs,w x=v x)→lW w xs=lW v xs:=by
  intro xs
  induction xs with
  |nil=>intro _;rfl
  |cons x r ih=>
   intro h
   cases r with
   |nil=>exact h x (B8 ..)
   |cons y r=>
    show w x++((3,[44])::lW w (y::r))=v x++((3,[44])::lW v (y::r))
    rw [h x (B8 ..),ih fun z hz=>h z (C0 _ hz)]
 have ha:∀ x,w x=v x→aW w x=aW v x:=fun x h=>by unfold aW;rw [h]
 rcases hs with ⟨rfl,_,hm⟩|⟨rfl,_,hm⟩|⟨rfl,_,hm⟩|⟨rfl,_,hm⟩|⟨rfl,_,hm⟩|⟨rfl,_,hm,hm2⟩|⟨rfl,_,hm,hm2⟩|⟨rfl,_,hm⟩|⟨rfl,_,hm⟩|⟨rfl,_,hm,hm2⟩
 ·rfl
 ·rfl
 ·match ar,hm,h with
  |[a],_,h=>
   show [(3,t)]++aW w a=[(3,t)]++aW v a
   rw [ha a (h a (by simp))]
 ·match ar,hm,h with
  |[a,b],_,h=>
   show aW w a++([(3,t)]++aW w b)=aW v a++([(3,t)]++aW v b)
   rw [ha a (h a (by simp)),ha b (h b (by simp))]
 ·match ar,hm,h with
  |[a,b,c],_,h=>
   show aW w a++([(3,[63])]++(aW w b++([(3,[58])]++aW w c)))=aW v a++([(3,[63])]++(aW v b++([(3,[58])]++aW v c)))
   rw [ha a (h a (by simp)),ha b (h b (by simp)),ha c (h c (by simp))]
 ·show [(3,[123])]++(lW w ar++[(3,[125])])=[(3,[123])]++(lW v ar++[(3,[125])])
  rw [hl ar h]
 ·match ar,hm,h with
  |a::r,_,h=>
   show [(3,[123])]++(w a++([(3,[123])]++(lW w r++[(3,[125]),(3,[125])])))=[(3,[123])]++(v a++([(3,[123])]++(lW v r++[(3,[125]),(3,[125])])))
   rw [h a (B8 ..),hl r fun z hz=>h z (C0 _ hz)]
 ·match ar,hm,h with
  |[a],_,h=>
   show [(1,t),(3,[91])]++(w a++[(3,[93])])=[(1,t),(3,[91])]++(v a++[(3,[93])])
   rw [h a (by simp)]
 ·match ar,hm,h with
  |[a,b],_,h=>
   show [(1,t),(3,[91])]++(w a++([(3,[58])]++(w b++[(3,[93])])))=[(1,t),(3,[91])]++(v a++([(3,[58])]++(v b++[(3,[93])])))
   rw [h a (by simp),h b (by simp)]
 ·show [(1,t),(3,[40])]++(lW w ar++[(3,[41])])=[(1,t),(3,[40])]++(lW v ar++[(3,[41])])
  rw [hl ar h]
theorem Gb:∀ {n:Nat} {x:D},fD n x→wE (n+1) x=wE n x
 |0,_,h=>h.elim
 |n+1,_,⟨k,t,ar,e,h2,h3⟩=>by
  subst e
  show kW (wE (n+1)) k t ar=kW (wE n) k t ar
  exact Qj h2 fun x hx=>Gb (h3 x hx)
theorem QE:∀ {m n:Nat} {x:D},n≤m→fD n x→wE m x=wE n x
 |0,n,x,hm,h=>by
  have:n=0:=by omega
  subst this;rfl
 |m+1,n,x,hm,h=>by
  by_cases e:n=m+1
  ·subst e;rfl
  ·rw [Gb (fZ (by omega) h)];exact QE (by omega) h
theorem MO {w v:D→List Tk}:∀ {xs:List D},(∀ x∈xs,w x=v x)→sL w xs=sL v xs
 |[],_=>rfl
 |x::xs,h=>by simp only [sL];rw [h x (B8 ..),MO fun z hz=>h z (C0 _ hz)]
theorem TT (d:Nat)(hd:d≤3){b:List D}{a:Int}(hm:Mk b a):U (fun n=>P9 n ((d+1:Nat):Int) (.Z 1 b) a) fun r=>∃ x a',r=(true,[x,.Z 1 b,.int .i64 a'])∧fD (d+1) x∧Mk b a'∧a≤a'∧((wE 4 x).length:Int)≤13*(a'-a)+1:=
 (IA d _ (by omega) (by omega) (by omega) b a hm).mono fun _ ⟨x,a',h1,h2,h3,h4,h5⟩=>⟨x,a',h1,h2,h3,h4,by rw [QE (by omega) h2];exact h5⟩
theorem cK (d:Nat)(hd:d≤3){c:Int}(hc:0≤c)(hc2:c≤100){b:List D}{a:Int}(hm:Mk b a):U (fun n=>J0 n ((d+1:Nat):Int) c (.Z 1 b) a) fun r=>∃ xs a',r=(true,[.Z 1 b,.int .i64 a',.Z 6 xs])∧xs.length=c.toNat∧(∀ x∈xs,fD (d+1) x)∧Mk b a'∧a≤a'∧(sL (wE 4) xs:Int)≤13*(a'-a)+c:=
 (eV (fun b a hm=>IA d _ (by omega) (by omega) (by omega) b a hm) hc hc2 hm).mono fun _ ⟨xs,a',h1,h2,h3,h4,h5,h6⟩=>⟨xs,a',h1,h2,h3,h4,h5,by rw [MO fun x hx=>QE (by omega) (h3 x hx)];exact h6⟩
def I (k:Int)(nm ty:G1)(sg:Bool)(es fs bs its els ps qs:List D):D:=
 .agg [.int .i64 k,.str nm,.str ty,.bool sg,.Z 6 es,.Z 6 fs,.Z 5 bs,.Z 11 its,.Z 11 els,.Z 2 ps,.Z 2 qs]
def aA4 (x:D):Prop:=∃ nm es,x = .agg [.str nm,.Z 6 es]∧es.length≤1∧∀ e∈es,fD 4 e
def aB6 (es fs bs its els ps qs:List D):Prop:=es.length≤4∧fs.length≤1∧bs.length≤1∧its.length≤2∧els.length≤1∧ps.length≤2∧qs.length≤2
theorem L8 {P:D→Prop}:∀ x∈([]:List D),P x:=fun _ h=>by cases h
theorem rK {P:D→Prop}{y:D}(h:P y):∀ x∈[y],P x:=fun _ hx=>by rw [C3.1 hx];exact h
theorem HU {P:D→Prop}{l:List D}{y:D}(hl:∀ x∈l,P x)(h:P y):∀ x∈l++[y],P x:=fun x hx=>by
 rcases D3.1 hx with hx|hx
 ·exact hl x hx
 ·rw [C3.1 hx];exact h
def M (nm:G1)(ps qs its:List D):D:= .agg [.str nm,.Z 11 ps,.Z 11 qs,.Z 11 its]
section
def LH:G1:=[119,105,114,101]
def lC:G1:=[114,101,103]
def iS:G1:=[105,110,116,101,103,101,114]
def QK:G1:=[105,110,112,117,116]
def nL:G1:=[111,117,116,112,117,116]
def bY:G1:=[111,117,116,112,117,116,32,114,101,103]
def oP:G1:=[108,111,99,97,108,112,97,114,97,109]
def rL:G1:=[112,97,114,97,109,101,116,101,114]
def vZ:G1:=[99,108,107]
def uN:G1:=[115,117,98]
abbrev NT:=List (G1×Nat×Bool)
def vN:NT:=[(LH,2,false)]
def JN:NT:=[(lC,4,true),(iS,0,false)]
def nA:NT:=[(QK,2,false),(nL,2,false),(bY,2,true)]
def CO:NT:=[(QK,2,false),(lC,2,false),(iS,0,false)]
def xN (T:NT)(x:D):Prop:=∃ nm ty q f sg es fs,x=I 1 nm ty sg es fs [] [] [] [] []∧nm∈cN∧(ty,q,f)∈T∧(ty=iS→sg=true)∧es.length≤q∧(es.length=0∨es.length=2∨es.length=4)∧(fs=[]∨(f=true∧fs.length=1∧es.length≤2))∧(∀ e∈es,fD 4 e)∧∀ e∈fs,fD 4 e
def xC (x:D):Prop:=∃ nm es,x = .agg [.str nm,.Z 6 es]∧nm∈cN∧es.length≤1∧∀ e∈es,fD 4 e
def gB (t:G1)(its:List D):D:=I 11 t [] false [] [] [] its [] [] []
def xI:Nat→D→Prop
 |0,_=>False
 |n+1,x=>(xN vN x∨xN JN x)∨(∃ nm e,x=I 2 nm oP false [e] [] [] [] [] [] []∧nm∈cN∧fD 4 e)∨(∃ nm,x=I 3 nm [] false [] [] [] [] [] [] []∧nm∈cN)∨
  (∃ l e,x=I 4 [] [] false [l,e] [] [] [] [] [] []∧isLeft l∧fD 4 e)∨(∃ s,x=I 5 [] [] false [] [] [s] [] [] [] []∧sE 4 s)∨(∃ s,x=I 6 vZ [] false [] [] [s] [] [] [] []∧sE 4 s)∨
  (∃ sg es its s,x=I 7 [102] [] sg es [] [s] its [] [] []∧(es.length=0∨es.length=2)∧(∀ e∈es,fD 4 e)∧1≤its.length∧its.length≤2∧(∀ i∈its,xN CO i)∧sE 4 s)∨
  (∃ k ps qs,x=I 8 [117,48+k] uN false [] [] [] [] [] ps qs∧k.toNat≤8∧ps.length≤2∧qs.length≤2∧(∀ c∈ps,xC c)∧∀ c∈qs,xC c)∨
  (∃ es its,x=I 9 [105] [] false es [] [] [gB [103] its] [] [] []∧es.length=3∧(∀ e∈es,fD 4 e)∧its.length≤2∧∀ i∈its,xI n i)∨
  (∃ e its els,x=I 10 [] [] false [e] [] [] [gB [116] its] els [] []∧fD 4 e∧its.length≤2∧(∀ i∈its,xI n i)∧(els=[]∨∃ ys,els=[gB [101] ys]∧ys.length≤2∧∀ i∈ys,xI n i))
theorem uE {T:NT}{x:D}(h:xN T x):∃ nm ty sg es fs,x=I 1 nm ty sg es fs [] [] [] [] []:=by
 obtain⟨nm,ty,q,f,sg,es,fs,h0,_⟩:=h
 exact⟨nm,ty,sg,es,fs,h0⟩
theorem Sh {n:Nat}{x:D}(h:xI n x):∃ k nm ty sg es fs bs its els ps qs,x=I k nm ty sg es fs bs its els ps qs:=by
 cases n with
 |zero=>exact h.elim
 |succ n=>
  rcases h with (⟨nm,ty,q,f,sg,es,fs,rfl,_⟩|⟨nm,ty,q,f,sg,es,fs,rfl,_⟩)|⟨nm,e,rfl,_⟩|⟨nm,rfl,_⟩|⟨l,e,rfl,_⟩|⟨s,rfl,_⟩|⟨s,rfl,_⟩|⟨sg,es,its,s,rfl,_⟩|⟨k,ps,qs,rfl,_⟩|⟨es,its,rfl,_⟩|⟨e,its,els,rfl,_⟩
  all_goals exact⟨_,_,_,_,_,_,_,_,_,_,_,rfl⟩
theorem Gf {v:Int}(h0:0≤v)(h1:v≤9):U (fun n=>kN n v) fun r=>r=(true,[.str [48+UInt8.ofNat v.toNat]]):=by
 have e:∀ k:Nat,k<10→(List.map toByte ([(.int .u8 (IntKind.u8.wrap (IntKind.i64.wrap ((48:Int)+(k:Int)))))]:List D))++[]=[48+UInt8.ofNat k]:=by decide +kernel
 refine U.eq (fun n=>WO n v) ?_
 refine U.L3 (Q:=fun r=>r=(false,[.int .i64 v,.str []])) (U.eq (fun n=>LS n v []) (U.no (E8 (by omega)) (U.ret rfl))) (fun ds h=>by cases h) fun ds h=>?_
 cases h
 obtain⟨k,rfl⟩:∃ k:Nat,v=(k:Int):=⟨v.toNat,by omega⟩
 refine U.I0 rfl (U.I0 (E6 (by show 1+0≤W0;simp only [W0];omega)) (U.ret ?_))
 show (true,[D.str _])=_
 rw [show ((k:Nat):Int).toNat=k from rfl,← e k (by omega)]
 rfl
section
variable {b:List D} {a:Int}
def Ym (T:NT)(c:Int)(ty:G1):Bool:=T.any fun p=>(p.1==ty&&(bif ty==iS then p.2.1==0 else decide ((p.2.1:Int)=2*c)))&&(!(decide (c=2)&&(ty==lC||ty==bY))||p.2.2)
end
end
def xP (x:D):Prop:=∃ nm e,x=I 2 nm rL false [e] [] [] [] [] [] []∧nm∈cN∧fD 4 e
def xM (k:Nat)(x:D):Prop:=∃ ps qs its,x=M [109,48+UInt8.ofNat k] ps qs its∧ps.length≤2∧qs.length≤3∧its.length≤5∧(∀ p∈ps,xP p)∧(∀ q∈qs,xN nA q)∧∀ i∈its,xI 4 i
def Bb (ms:List D):Prop:=∀ (k:Nat) (h:k<ms.length),xM k ms[k]
theorem Ou {ms:List D}{x:D}(h:Bb ms)(hx:xM ms.length x):Bb (ms++[x]):=fun k hk=>by
 by_cases e:k<ms.length
 ·rw [F6 e];exact h k e
 ·have:k=ms.length:=by rw [A7,C9] at hk;omega
  subst this
  simpa using hx
theorem Si:Bb []:=fun k h=>by cases h
def V9:G1:=[98,101,103,105,110]
def fF:G1:=[101,110,100]
def uI:G1:=[105,102]
def dR:G1:=[101,108,115,101]
def pB:G1:=[99,97,115,101]
def dW:G1:=[101,110,100,99,97,115,101]
def wA:G1:=[100,101,102,97,117,108,116]
def yF:G1:=[102,111,114]
def pK:G1:=[97,115,115,101,114,116]
def pW (e:D):List Tk:=[(3,[40])]++(wE 4 e++[(3,[41])])
def x0 (l:List D):D:=l[0]?.getD .top
def x1 (l:List D):D:=l[1]?.getD .top
def x2 (l:List D):D:=l[2]?.getD .top
def bR (t:G1)(es:List D):List Tk:=
 [(1,yF),(3,[40]),(1,t),(3,[61])]++(wE 4 (x0 es)++([(3,[59])]++(wE 4 (x1 es)++([(3,[59]),(1,t),(3,[61])]++(wE 4 (x2 es)++[(3,[41])])))))
def CF (a:D):D:= .agg (a.cells.drop 1)
def iM (w:D→List Tk)(a:D):List Tk:=(bif (a.at_ 0).l.isEmpty then [(1,wA)] else [])++(lW (wE 4) (a.at_ 0).l++([(3,[58])]++w (CF a)))
def sW (w:D→List Tk)(k:Int)(t:G1)(es bs zs:List D):List Tk:=
 bif k==1 then [(1,V9)]++(bs.flatMap w++[(1,fF)])
 else bif k==2 then wE 4 (x0 es)++([(3,[61])]++(wE 4 (x1 es)++[(3,[59])]))
 else bif k==3 then wE 4 (x0 es)++([(3,[60,61])]++(wE 4 (x1 es)++[(3,[59])]))
 else bif k==4 then [(1,uI)]++(pW (x0 es)++(w (x0 bs)++(bif ((x1 bs).at_ 0).i==8 then [] else [(1,dR)]++w (x1 bs))))
 else bif k==5 then [(1,pB)]++(pW (x0 es)++(zs.flatMap (iM w)++[(1,dW)]))
 else bif k==6 then bR t es++w (x0 bs)
 else bif k==7 then (bif t.isEmpty then [] else [(1,t),(3,[58])])++([(1,pK)]++(pW (x0 es)++[(3,[59])]))
 else [(3,[59])]
def wS:Nat→D→List Tk
 |0,_=>[]
 |n+1,x=>sW (wS n) (x.at_ 0).i (x.at_ 1).s (x.at_ 2).l (x.at_ 3).l (x.at_ 4).l
theorem Zq (n:Nat)(k:Int)(t:G1)(es bs zs:List D):wS (n+1) (S k t es bs zs)=sW (wS n) k t es bs zs:=rfl
theorem Dd {es:List D}{s:D}{n:Nat}(h:sE n s):CF (arm es s)=s:=by
 cases n with
 |zero=>exact h.elim
 |succ n=>obtain⟨k,t,fs,bs,zs,rfl,_⟩:=h;rfl
theorem Xq (es:List D)(s:D):((arm es s).at_ 0).l=es:=rfl
def mL:G1:=[115,105,103,110,101,100]
def GO:G1:=[103,101,110,118,97,114]
def qG:G1:=[97,115,115,105,103,110]
def lU:G1:=[97,108,119,97,121,115]
def CT:G1:=[112,111,115,101,100,103,101]
def yG:G1:=[102,117,110,99,116,105,111,110]
def mG:G1:=[101,110,100,102,117,110,99,116,105,111,110]
def qV:G1:=[109,111,100,117,108,101]
def mH:G1:=[101,110,100,109,111,100,117,108,101]
def pA (es:List D):List Tk:=match es with
 |[]=>[]
 |[x]=>[(3,[91])]++(wE 4 x++[(3,[93])])
 |x::y::_=>[(3,[91])]++(wE 4 x++([(3,[58])]++(wE 4 y++[(3,[93])])))
def nW (nm ty:G1)(sg:Bool)(es fs:List D):List Tk:=
 (bif ty==bY then [(1,nL),(1,lC)] else [(1,ty)])++((bif sg&&!(ty==iS) then [(1,mL)] else [])++(pA (es.take 2)++([(1,nm)]++(pA (es.drop 2)++(bif fs.isEmpty then [] else [(3,[61])]++wE 4 (x0 fs))))))
def cW (c:D):List Tk:=[(3,[46]),(1,(c.at_ 0).s),(3,[40])]++(lW (wE 4) (c.at_ 1).l++[(3,[41])])
def oI (xs:List D):List Tk:=[(3,[40])]++(lW cW xs++[(3,[41])])
def vO (w:D→List Tk)(g:D):List Tk:=[(1,V9),(3,[58]),(1,(g.at_ 1).s)]++((g.at_ 7).l.flatMap w++[(1,fF)])
def EP (q:D):List Tk:=nW (q.at_ 1).s (q.at_ 2).s (q.at_ 3).b (q.at_ 4).l (q.at_ 5).l++[(3,[59])]
def iW (w:D→List Tk)(k:Int)(nm ty:G1)(sg:Bool)(es fs bs its els ps qs:List D):List Tk:=
 bif k==1 then nW nm ty sg es fs++[(3,[59])]
 else bif k==2 then [(1,ty),(1,nm),(3,[61])]++(wE 4 (x0 es)++[(3,[59])])
 else bif k==3 then [(1,GO),(1,nm),(3,[59])]
 else bif k==4 then [(1,qG)]++(wE 4 (x0 es)++([(3,[61])]++(wE 4 (x1 es)++[(3,[59])])))
 else bif k==5 then [(1,lU),(3,[64]),(3,[42])]++wS 4 (x0 bs)
 else bif k==6 then [(1,lU),(3,[64]),(3,[40]),(1,CT),(1,nm),(3,[41])]++wS 4 (x0 bs)
 else bif k==7 then [(1,yG)]++((bif sg then [(1,mL)] else [])++(pA es++([(1,nm),(3,[59])]++(its.flatMap EP++(wS 4 (x0 bs)++[(1,mG)])))))
 else bif k==8 then [(1,ty)]++((bif ps.isEmpty then [] else [(3,[35])]++oI ps)++([(1,nm)]++(oI qs++[(3,[59])])))
 else bif k==9 then bR nm es++its.flatMap (vO w)
 else [(1,uI)]++(pW (x0 es)++(its.flatMap (vO w)++(bif els.isEmpty then [] else [(1,dR)]++els.flatMap (vO w))))
def wI:Nat→D→List Tk
 |0,_=>[]
 |n+1,x=>iW (wI n) (x.at_ 0).i (x.at_ 1).s (x.at_ 2).s (x.at_ 3).b (x.at_ 4).l (x.at_ 5).l (x.at_ 6).l (x.at_ 7).l (x.at_ 8).l (x.at_ 9).l (x.at_ 10).l
def rJ (p:D):List Tk:=[(1,(p.at_ 2).s),(1,(p.at_ 1).s),(3,[61])]++wE 4 (x0 (p.at_ 4).l)
def kC (q:D):List Tk:=nW (q.at_ 1).s (q.at_ 2).s (q.at_ 3).b (q.at_ 4).l (q.at_ 5).l
def mW (nm:G1)(ps qs its:List D):List Tk:=
 [(1,qV),(1,nm)]++((bif ps.isEmpty then [] else [(3,[35]),(3,[40])]++(lW rJ ps++[(3,[41])]))++([(3,[40])]++(lW kC qs++([(3,[41]),(3,[59])]++(its.flatMap (wI 4)++[(1,mH)])))))
def wM (x:D):List Tk:=mW (x.at_ 0).s (x.at_ 1).l (x.at_ 2).l (x.at_ 3).l
theorem VF (w:D→List Tk)(x:D):∀ l:List D,lW w (l++[x])=lW w l++((bif l.isEmpty then [] else [(3,[44])])++w x)
 |[]=>rfl
 |[y]=>by
  show w y++((3,[44])::w x)=w y++([(3,[44])]++w x)
  rfl
 |y::z::r=>by
  have ih:=VF w x (z::r)
  show w y++((3,[44])::lW w ((z::r)++[x]))=(w y++((3,[44])::lW w (z::r)))++([(3,[44])]++w x)
  rw [ih]
  simp
def sQ (q:D→Nat):List D→Nat
 |[]=>0
 |x::xs=>q x+sQ q xs
def aA2 (q:D→Nat)(k:Int)(bs zs:List D):Nat:=
 1+(bif k==4 then q (x0 bs)+(bif ((x1 bs).at_ 0).i==8 then 0 else q (x1 bs)) else sQ q bs+sQ (fun a=>q (CF a)) zs)
def qS:Nat→D→Nat
 |0,_=>0
 |n+1,x=>aA2 (qS n) (x.at_ 0).i (x.at_ 3).l (x.at_ 4).l
theorem aC4 (n:Nat)(k:Int)(t:G1)(es bs zs:List D):qS (n+1) (S k t es bs zs)=aA2 (qS n) k bs zs:=rfl
def aE4 (q:D→Nat)(k:Int)(bs its els:List D):Nat:=
 1+(bif k==7 then qS 4 (x0 bs) else sQ (qS 4) bs+sQ (fun g=>sQ q (g.at_ 7).l) its+sQ (fun g=>sQ q (g.at_ 7).l) els)
def qI:Nat→D→Nat
 |0,_=>0
 |n+1,x=>aE4 (qI n) (x.at_ 0).i (x.at_ 6).l (x.at_ 7).l (x.at_ 8).l
def du:List Tk:=[(3,[]),(3,[])]
def vS:Nat→D→List Tk
 |0,_=>[]
 |n+1,x=>du++sW (vS n) (x.at_ 0).i (x.at_ 1).s (x.at_ 2).l (x.at_ 3).l (x.at_ 4).l
def aE7 (w:D→List Tk)(k:Int)(nm ty:G1)(sg:Bool)(es fs bs its els ps qs:List D):List Tk:=
 bif k==1 then nW nm ty sg es fs++[(3,[59])]
 else bif k==2 then [(1,ty),(1,nm),(3,[61])]++(wE 4 (x0 es)++[(3,[59])])
 else bif k==3 then [(1,GO),(1,nm),(3,[59])]
 else bif k==4 then [(1,qG)]++(wE 4 (x0 es)++([(3,[61])]++(wE 4 (x1 es)++[(3,[59])])))
 else bif k==5 then [(1,lU),(3,[64]),(3,[42])]++vS 4 (x0 bs)
 else bif k==6 then [(1,lU),(3,[64]),(3,[40]),(1,CT),(1,nm),(3,[41])]++vS 4 (x0 bs)
 else bif k==7 then [(1,yG)]++((bif sg then [(1,mL)] else [])++(pA es++([(1,nm),(3,[59])]++(its.flatMap EP++(vS 4 (x0 bs)++[(1,mG)])))))
 else bif k==8 then [(1,ty)]++((bif ps.isEmpty then [] else [(3,[35])]++oI ps)++([(1,nm)]++(oI qs++[(3,[59])])))
 else bif k==9 then bR nm es++its.flatMap (vO w)
 else [(1,uI)]++(pW (x0 es)++(its.flatMap (vO w)++(bif els.isEmpty then [] else [(1,dR)]++els.flatMap (vO w))))
def vI:Nat→D→List Tk
 |0,_=>[]
 |n+1,x=>du++aE7 (vI n) (x.at_ 0).i (x.at_ 1).s (x.at_ 2).s (x.at_ 3).b (x.at_ 4).l (x.at_ 5).l (x.at_ 6).l (x.at_ 7).l (x.at_ 8).l (x.at_ 9).l (x.at_ 10).l
def vM (x:D):List Tk:=[(1,qV),(1,(x.at_ 0).s)]++((bif (x.at_ 1).l.isEmpty then [] else [(3,[35]),(3,[40])]++(lW rJ (x.at_ 1).l++[(3,[41])]))++([(3,[40])]++(lW kC (x.at_ 2).l++([(3,[41]),(3,[59])]++((x.at_ 3).l.flatMap (vI 4)++[(1,mH)])))))
end Go.Proofs.YtalibicpmfbieaaGreatDoor
