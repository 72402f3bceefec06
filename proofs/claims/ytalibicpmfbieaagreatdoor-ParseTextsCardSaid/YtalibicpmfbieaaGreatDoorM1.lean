import Derived.Test.YtalibicpmfbieaaGreatDoorAe1
import Derived.Test.YtalibicpmfbieaaGreatDoorAe2
import Derived.Test.YtalibicpmfbieaaGreatDoorAe3
import Derived.Test.YtalibicpmfbieaaGreatDoorEng
namespace Go.Proofs.YtalibicpmfbieaaGreatDoor
open Go.AE
set_option linter.unusedVariables false
set_option linter.unusedSimpArgs false
def Mk (b:List D)(a:Int):Prop:=Bytes b∧b.length≤300∧0≤a∧a≤b.length
def Z7:List Zt:=[[97],[98],[99],[100],[120,49],[95,121],[113],[114]]
def WO:List Zt:=[[48],[49],[50],[55],[52,39,98,49,48,49,48],[56,39,104,102,102],[51,39,115,100,50],[49,95,48]]
def Kn:List Zt:=[[45],[126],[33],[38],[124],[94],[126,38],[126,124],[126,94]]
def Nb:List Zt:=[[43],[45],[42],[47],[37],[38],[124],[94],[126,94],[60,60],[62,62],[60,60,60],[62,62,62],[60],[60,61],[62],[62,61],[61,61],[33,61],[38,38],[124,124]]
def GX:List Zt:=[[102],[103],[36,115,105,103,110,101,100],[36,117,110,115,105,103,110,101,100]]
theorem MM {T:List Zt}{v:Int}(h0:0≤v)(h1:v<T.length):∃ s,s∈T∧(T.map D.str)[v.toNat]?.getD D.top = .str s:=by
 have:=YR (P:=fun y=>∃ s,s∈T∧y=D.str s) (xs:=T.map D.str) (fun x hx=>by obtain⟨s,hs,rfl⟩:=List.mem_map.1 hx;exact⟨s,hs,rfl⟩) h0 (by simpa using h1)
 exact this
def E (k:Int)(t:Zt)(ar:List D):D:= .agg [.int .i64 k,.int .i64 0,.int .i64 0,.int .i64 0,.str t,.Z 6 ar]
def CB (k:Int)(t:Zt)(m:Nat):Prop:=
 (k=1∧t∈WO∧m=0)∨(k=2∧t∈Z7∧m=0)∨(k=3∧t∈Kn∧m=1)∨(k=4∧t∈Nb∧m=2)∨(k=5∧t=[]∧m=3)∨(k=6∧t=[]∧1≤m∧m≤3)∨
 (k=7∧t=[]∧2≤m∧m≤3)∨(k=8∧t∈Z7∧m=1)∨(k=9∧t∈Z7∧m=2)∨(k=10∧t∈GX∧1≤m∧m≤2)
def bS:Nat→D→Prop
 |0,_=>False
 |n+1,x=>∃ k t ar,x=E k t ar∧CB k t ar.length∧∀ a∈ar,bS n a
theorem Ru:U (fun n=>cY n) fun r=>r=(true,[.Z 1 (Nb.map D.str)]):=
 U.eq (fun n=>TG n) (U.ret rfl)
def vM (ws:List D):Prop:=∀ y∈ws,∃ i:Int,y = .int .u64 i∧0≤i∧i<18446744073709551616
def UH (w:Int)(ws:List D):Prop:=1≤w∧w≤128∧(ws.length:Int)=(w+63) / 64∧vM ws
theorem vM.set {ws:List D}(h:vM ws){i:Nat}{x:Int}(hx:0≤x)(hx2:x<18446744073709551616):vM (ws.set i (.int .u64 x)):=fun y hy=>by
 rcases List.mem_or_eq_of_mem_set hy with hy|rfl
 ·exact h y hy
 ·exact⟨x,rfl,hx,hx2⟩
theorem vM.append {a b:List D}(ha:vM a)(hb:vM b):vM (a++b):=fun y hy=>by
 rcases Yy.1 hy with hy|hy
 ·exact ha y hy
 ·exact hb y hy
theorem qK (x:Int):0≤IntKind.u64.wrap x:=by rw [IntKind.wrap_u64];omega
theorem MR (x:Int):IntKind.u64.wrap x<18446744073709551616:=by rw [IntKind.wrap_u64];omega
theorem Hp {w:Int}(h1:0≤w)(h2:w≤1000):U (fun n=>pL n w) fun r=>r=(true,[.int .i64 ((w+63) / 64)]):=by
 refine U.eq (fun n=>UY n w) (U.ret ?_)
 have e1:IntKind.i64.wrap (w+64)=w+64:=J0 (by omega) (by omega)
 have e2:IntKind.i64.wrap (w+64-1)=w+63:=by rw [J0 (by omega) (by omega)];omega
 have e3:(w+63).tdiv 64=(w+63) / 64:=Int.tdiv_eq_ediv_of_nonneg (by omega)
 rw [e1,e2,e3,J0 (by omega) (by omega)]
theorem JV {w:Int}(h1:1≤w)(h2:w≤128):U (fun n=>iK n w) fun r=>∃ ws,r=(true,[.int .i64 w,.Z 1 ws])∧UH w ws:=by
 refine U.eq (fun n=>UX n w) ?_
 refine U.A0 (Hp (by omega) (by omega)) ?_
 intro b ds h;cases h;refine⟨rfl,U.Xu rfl ?_⟩
 refine U.Xu (C6 (C6 (Zi (show (0:Int)≤(w+63) / 64 by omega)) (Zi (Int.le_refl _))) (Zi (show (w+63) / 64≤(D8:Int) by simp only [D8];omega))) (U.ret ⟨_,rfl,h1,h2,?_,?_⟩)
 ·simp [Y,D.i];omega
 ·intro y hy
  obtain⟨_,rfl⟩:=List.mem_replicate.1 hy
  exact⟨0,rfl,Int.le_refl _,by omega⟩
theorem YM {w:Int}{ws:List D}(h:UH w ws):U (fun n=>dA n w (.Z 1 ws)) fun r=>∃ ws',r=(true,[.int .i64 w,.Z 1 ws'])∧UH w ws':=by
 obtain⟨h1,h2,h3,h4⟩:=h
 refine U.eq (fun n=>NF n w ws) ?_
 have hl:1≤ws.length:=by omega
 have e1:IntKind.i64.wrap ((ws.length:Int)-1)=((ws.length-1:Nat):Int):=by rw [J0 (by omega) (by omega)];omega
 have hr:(decide ((0:Int)≤((ws.length-1:Nat):Int))&&decide (((ws.length-1:Nat):Int)<(ws.length:Int)))=true:=C6 (Zi (by omega)) (Zi (by omega))
 have e2:w.tmod 64=w % 64:=Int.tmod_eq_emod_of_nonneg (by omega)
 rw [e1]
 refine U.Xv (fun _=>?_) (fun _=>U.ret ⟨ws,rfl,h1,h2,h3,h4⟩)
 refine U.Xu hr ?_
 obtain⟨i,hi,hi0,hi1⟩:=YR (P:=fun y=>∃ i:Int,y = .int .u64 i∧0≤i∧i<18446744073709551616) h4 (v:=((ws.length-1:Nat):Int)) (by omega) (by omega)
 rw [hi]
 refine U.Xu rfl (U.no (Zk (by rw [e2];omega)) (U.Xu hr (U.ret ⟨_,rfl,h1,h2,by rw [List.length_set];exact h3,h4.set (qK _) (MR _)⟩)))
theorem SI {w:Int}(h1:1≤w)(h2:w≤128){us:List D}(hu:vM us)(hl:us.length≤1):U (fun n=>mO n w (.Z 1 us)) fun r=>∃ ws,r=(true,[.agg [.int .i64 w,.Z 1 ws],.int .i64 0])∧UH w ws:=by
 refine U.eq (fun n=>De n w us) ?_
 refine U.A0 (Q:=fun r=>r=(true,[.bool true])) (U.eq (fun n=>YH n w) (U.Xu (Zi (by omega)) (U.ret (by rw [Zi h2])))) ?_
 intro b ds h;cases h;refine⟨rfl,U.Xu rfl (U.no rfl ?_)⟩
 refine U.A0 (JV h1 h2) ?_
 rintro _ _ ⟨ws,h,hv1,hv2,hv3,hv4⟩;cases h;refine⟨rfl,U.Xu rfl ?_⟩
 refine U.A0 (YM (w:=w) (ws:=us.take ws.length++ws.drop us.length) ⟨h1,h2,?_,?_⟩) ?_
 ·rw [← hv3];simp;omega
 ·exact vM.append (fun y hy=>hu y (List.mem_of_mem_take hy)) (fun y hy=>hv4 y (List.mem_of_mem_drop hy))
 ·rintro _ _ ⟨ws',h,hv⟩;cases h;exact⟨rfl,U.Xu rfl (U.ret ⟨ws',rfl,hv⟩)⟩
theorem Jc (a b:Int):U (fun n=>cB n (.int .u64 a) (.int .u64 b)) fun r=>∃ h l,r=(true,[.int .u64 h,.int .u64 l])∧0≤h∧h<18446744073709551616∧0≤l∧l<18446744073709551616:=
 U.eq (fun n=>BL n a b) (U.ret ⟨_,_,rfl,qK _,MR _,qK _,MR _⟩)
theorem Nq {w:Int}{a b:List D}(ha:UH w a)(hb:UH w b){k:Int}(hk0:0≤k)(hk1:k≤1) :
  U (fun n=>lJ n (.agg [.int .i64 w,.Z 1 a]) (.agg [.int .i64 w,.Z 1 b]) (.int .u64 k)) fun r=>∃ ws,r=(true,[.int .i64 w,.Z 1 ws])∧UH w ws:=by
 obtain⟨h1,h2,ha3,ha4⟩:=ha
 obtain⟨_,_,hb3,hb4⟩:=hb
 refine U.eq (fun n=>YJ n w a w b k) ?_
 refine U.A0 (JV h1 h2) ?_
 rintro _ _ ⟨ws,h,_,_,hv3,hv4⟩;cases h;refine⟨rfl,U.Xu rfl ?_⟩
 have loop:∀ (m j:Nat) (k:Int) (out:List D),out.length-j=m→j≤out.length→(out.length:Int)=(w+63) / 64→0≤k→k≤1→vM out→
   U (fun n=>gC n (.int .u64 k) (out.length:Int) (j:Int) w (.Z 1 a) w (.Z 1 b) (0:Int) w (.Z 1 []) (.Z 1 out)) fun r=>
    ∃ k' j' out',r=(false,[.int .u64 k',.int .i64 (out.length:Int),.int .i64 j',.int .i64 w,.Z 1 a,.int .i64 w,.Z 1 b,.int .i64 0,.int .i64 w,.Z 1 [],.Z 1 out'])∧out'.length=out.length∧vM out':=by
  intro m
  induction m with
  |zero=>
   intro j k out hm hj hl hk0 hk1 ho
   exact U.eq (fun n=>zM n _ _ _ _ _ _ _ _ _ _ _) (U.no (Zk (by omega)) (U.ret ⟨_,_,out,rfl,rfl,ho⟩))
  |succ m ih=>
   intro j k out hm hj hl hk0 hk1 ho
   have hja:j<a.length:=by omega
   have hjb:j<b.length:=by omega
   have hjo:j<out.length:=by omega
   refine U.eq (fun n=>zM n _ _ _ _ _ _ _ _ _ _ _) (U.Xu (Zi (by omega)) (U.Xu (G9 hja) ?_))
   obtain⟨x,hx,hx0,hx1⟩:=ha4 a[j] (Yr hja)
   obtain⟨y,hy,hy0,hy1⟩:=hb4 b[j] (Yr hjb)
   rw [X7 hja,X7 hjb,hx,hy]
   refine U.Xu rfl (U.Xu (G9 hjb) (U.Xu rfl (U.Xu (C6 (C6 (C6 (Zi hx0) (Zi hy0)) (Zi hk0)) (Zi hk1)) (U.Xu (G9 hjo) ?_))))
   simp only [D.i]
   rw [H7 (by omega),Zf]
   have hl2:(out.set j (.int .u64 ((x+y+k) % 18446744073709551616))).length=out.length:=List.length_set
   have:=ih (j+1) ((x+y+k) / 18446744073709551616) (out.set j (.int .u64 ((x+y+k) % 18446744073709551616))) (by omega) (by omega) (by rw [hl2];exact hl) (by omega) (by omega) (ho.set (by omega) (by omega))
   rw [hl2] at this
   exact this
 refine U.D4 (loop ws.length 0 k ws rfl (Yo _) hv3 hk0 hk1 hv4) (fun ds h=>by obtain⟨_,_,_,h,_⟩:=h;cases h) fun ds h=>?_
 obtain⟨k',j',out',h,hl,ho⟩:=h
 cases h
 refine U.Xu rfl ?_
 refine U.A0 (YM (w:=w) (ws:=out') ⟨h1,h2,by rw [hl];exact hv3,ho⟩) ?_
 rintro _ _ ⟨ws',h,hv⟩;cases h;exact⟨rfl,U.Xu rfl (U.ret ⟨ws',rfl,hv⟩)⟩
theorem Kk {w:Int}{a b:List D}(ha:UH w a)(hb:UH w b) :
  U (fun n=>lL n (.agg [.int .i64 w,.Z 1 a]) (.agg [.int .i64 w,.Z 1 b])) fun r=>∃ ws,r=(true,[.agg [.int .i64 w,.Z 1 ws]])∧UH w ws:=by
 obtain⟨h1,h2,ha3,ha4⟩:=ha
 obtain⟨_,_,hb3,hb4⟩:=hb
 have hal:a.length≤2:=by omega
 refine U.eq (fun n=>UZ n w a w b) ?_
 refine U.A0 (JV h1 h2) ?_
 rintro _ _ ⟨ws,h,_,_,hv3,hv4⟩;cases h;refine⟨rfl,U.Xu rfl ?_⟩
 have inner:∀ (m i j:Nat) (k:Int) (out:List D),out.length-(i+j)=m→i<a.length→(out.length:Int)=(w+63) / 64→j≤1000→0≤k→k<18446744073709551616→vM out→
   U (fun n=>dY n (i:Int) (.int .u64 k) (j:Int) (a.length:Int) (i:Int) w (.Z 1 a) w (.Z 1 b) (0:Int) w (.Z 1 []) (.Z 1 out)) fun r=>
    ∃ k' j' out',r=(false,[.int .i64 (i:Int),.int .u64 k',.int .i64 j',.int .i64 (a.length:Int),.int .i64 (i:Int),.int .i64 w,.Z 1 a,.int .i64 w,.Z 1 b,.int .i64 0,.int .i64 w,.Z 1 [],.Z 1 out'])∧out'.length=out.length∧vM out':=by
  intro m
  induction m with
  |zero=>
   intro i j k out hm hi hl hj hk0 hk1 ho
   ·have e1:IntKind.i64.wrap ((i:Int)+(j:Int))=((i+j:Nat):Int):=by rw [J0 (by omega) (by omega)];omega
    refine U.eq (fun n=>wB n _ _ _ _ _ _ _ _ _ _ _ _ _) ?_
    rw [e1]
    exact U.no (Zk (by omega)) (U.ret ⟨_,_,out,rfl,rfl,ho⟩)
  |succ m ih=>
   intro i j k out hm hi hl hj hk0 hk1 ho
   have e1:IntKind.i64.wrap ((i:Int)+(j:Int))=((i+j:Nat):Int):=by rw [J0 (by omega) (by omega)];omega
   have hjb:j<b.length:=by omega
   have hjo:i+j<out.length:=by omega
   refine U.eq (fun n=>wB n _ _ _ _ _ _ _ _ _ _ _ _ _) ?_
   rw [e1]
   refine U.Xu (Zi (by omega)) (U.Xu (G9 hi) ?_)
   obtain⟨x,hx,hx0,hx1⟩:=ha4 a[i] (Yr hi)
   obtain⟨y,hy,hy0,hy1⟩:=hb4 b[j] (Yr hjb)
   obtain⟨z,hz,hz0,hz1⟩:=ho out[i+j] (Yr hjo)
   rw [X7 hi,X7 hjb,X7 hjo,hx,hy,hz]
   refine U.Xu rfl (U.Xu (G9 hjb) (U.Xu rfl ?_))
   refine U.A0 (Jc _ _) ?_
   rintro _ _ ⟨hh,ll,h,p1,p2,p3,p4⟩;cases h;refine⟨rfl,U.Xu rfl ?_⟩
   simp only [Y,D.i]
   refine U.Xu (C6 (C6 (C6 (Zi p3) (Zi hk0)) (Zi (Int.le_refl _))) (Zi (by decide))) (U.Xu (G9 hjo) (U.Xu rfl (U.Xu (C6 (C6 (C6 (Zi hz0) (Zi (by omega))) (Zi (Int.le_refl _))) (Zi (by decide))) (U.Xu (G9 hjo) ?_))))
   rw [H7 (by omega),Zf]
   have hl2:(out.set (i+j) (.int .u64 ((z+(ll+k+0) % 18446744073709551616+0) % 18446744073709551616))).length=out.length:=List.length_set
   have:=ih i (j+1) (IntKind.u64.wrap (IntKind.u64.wrap (hh+(ll+k+0) / 18446744073709551616)+(z+(ll+k+0) % 18446744073709551616+0) / 18446744073709551616)) (out.set (i+j) (.int .u64 ((z+(ll+k+0) % 18446744073709551616+0) % 18446744073709551616))) (by omega) hi (by rw [hl2];exact hl) (by omega) (qK _) (MR _) (ho.set (by omega) (by omega))
   rw [hl2] at this
   exact this
 have outer:∀ (m i:Nat) (out:List D),a.length-i=m→i≤a.length→(out.length:Int)=(w+63) / 64→vM out→
   U (fun n=>dX n (a.length:Int) (i:Int) w (.Z 1 a) w (.Z 1 b) (0:Int) w (.Z 1 []) (.Z 1 out)) fun r=>
    ∃ j' out',r=(false,[.int .i64 (a.length:Int),.int .i64 j',.int .i64 w,.Z 1 a,.int .i64 w,.Z 1 b,.int .i64 0,.int .i64 w,.Z 1 [],.Z 1 out'])∧out'.length=out.length∧vM out':=by
  intro m
  induction m with
  |zero=>
   intro i out hm hi hl ho
   exact U.eq (fun n=>wA n _ _ _ _ _ _ _ _ _ _) (U.no (Zk (by omega)) (U.ret ⟨_,out,rfl,rfl,ho⟩))
  |succ m ih=>
   intro i out hm hi hl ho
   refine U.eq (fun n=>wA n _ _ _ _ _ _ _ _ _ _) (U.Xu (Zi (by omega)) ?_)
   refine U.D4 (inner _ i 0 0 out rfl (by omega) hl (by omega) (Int.le_refl _) (by omega) ho) (fun ds h=>by obtain⟨_,_,_,h,_⟩:=h;cases h) fun ds h=>?_
   obtain⟨k',j',out',h,hl',ho'⟩:=h
   cases h
   refine U.Xu rfl ?_
   simp only [Y,D.i,D.l]
   rw [H7 (by omega)]
   refine (ih (i+1) out' (by omega) (by omega) (by rw [hl'];exact hl) ho').mono ?_
   rintro r ⟨j',o2,h,h3,h4⟩
   exact⟨j',o2,h,by rw [h3,hl'],h4⟩
 refine U.D4 (outer _ 0 ws rfl (Yo _) hv3 hv4) (fun ds h=>by obtain⟨_,_,h,_⟩:=h;cases h) fun ds h=>?_
 obtain⟨j',out',h,hl,ho⟩:=h
 cases h
 refine U.Xu rfl ?_
 refine U.A0 (YM (w:=w) (ws:=out') ⟨h1,h2,by rw [hl];exact hv3,ho⟩) ?_
 rintro _ _ ⟨ws',h,hv⟩;cases h;exact⟨rfl,U.Xu rfl (U.ret ⟨ws',rfl,hv⟩)⟩
theorem Ha {op w:Int}(hop:op=0∨op=2){a b:List D}(ha:UH w a)(hb:UH w b) :
  U (fun n=>sV n op (.agg [.int .i64 w,.Z 1 a]) (.agg [.int .i64 w,.Z 1 b])) fun r=>∃ ws,r=(true,[.agg [.int .i64 w,.Z 1 ws],.int .i64 0])∧UH w ws:=by
 have hw:=ha.1
 refine U.eq (fun n=>Dd n op w a w b) ?_
 refine U.no (Zk (by omega)) (U.no (Zk (by omega)) (U.no (by simp) (U.no (by simp;omega) ?_)))
 rcases hop with rfl|rfl
 ·refine U.Xu rfl ?_
  refine U.A0 (Nq ha hb (Int.le_refl _) (by omega)) ?_
  rintro _ _ ⟨ws',h,hv⟩;cases h;exact⟨rfl,U.Xu rfl (U.ret ⟨ws',rfl,hv⟩)⟩
 ·refine U.no rfl (U.no rfl (U.Xu rfl ?_))
  refine U.A0 (Kk ha hb) ?_
  rintro _ _ ⟨ws',h,hv⟩;cases h;exact⟨rfl,U.Xu rfl (U.ret ⟨ws',rfl,hv⟩)⟩
theorem HE (c:UInt8):∀ (s:Zt) (j:Nat),dP c s j=-1∨((j:Int)≤dP c s j∧dP c s j<(j:Int)+s.length)
 |[],_=> .inl rfl
 |x::s,j=>by
  unfold dP
  cases x==c with
  |true=>exact .inr ⟨Int.le_refl _,by simp;omega⟩
  |false=>
   rcases HE c s (j+1) with h|⟨h1,h2⟩
   ·exact .inl h
   ·refine .inr ⟨?_,?_⟩<;>simp only [cond_false,Xw]<;>omega
theorem oX (s:Zt)(x:Int):U (fun n=>I8 n (.str s) (.int .u8 x)) fun r=>r=(true,[.int .i64 (dP x.toNat.toUInt8 s 0)]):=by
 refine U.eq (fun n=>yC n s x) ?_
 refine U.A0 (Q:=fun r=>r=(true,[.int .i64 (dP x.toNat.toUInt8 s 0)])) (U.eq (fun n=>lC n s x) (U.ret rfl)) ?_
 intro b ds h;cases h;exact⟨rfl,U.Xu rfl (U.ret rfl)⟩
theorem Uf (c:UInt8):dP c [48,49,50,51,52,53,54,55,56,57,97,98,99,100,101,102] 0≤16:=by
 rcases HE c [48,49,50,51,52,53,54,55,56,57,97,98,99,100,101,102] 0 with h|⟨_,h⟩
 ·omega
 ·simp only [Xw,Xy] at h;omega
theorem Kp (x:Int):U (fun n=>mU n (.int .u8 x)) fun r=>∃ v,r=(true,[.int .i64 v])∧0≤v∧v≤16:=by
 refine U.eq (fun n=>SF n x) (U.Xv (fun _=>U.Xv (fun _=>?_) (fun _=>?_)) (fun _=>?_))
 all_goals
  refine U.A0 (oX _ _) ?_
  rintro b ds h;cases h
  refine⟨rfl,U.Xu rfl (U.Xv (fun h=>U.ret ⟨_,rfl,Zj h,?_⟩) (fun _=>U.ret ⟨16,rfl,by omega,by omega⟩))⟩
  exact Uf _
def TY (ds:List D):Prop:=∀ y∈ds,∃ i:Int,y = .int .i64 i∧0≤i∧i≤16
theorem TY.snoc {ds:List D}(h:TY ds){v:Int}(h0:0≤v)(h1:v≤16):TY (ds++[.int .i64 v]):=fun y hy=>by
 rcases Yy.1 hy with hy|hy
 ·exact h y hy
 ·exact⟨v,Yn.1 hy,h0,h1⟩
theorem yP {s:Zt}(hs:s.length≤1048576)(b:Int):U (fun n=>aK n (.str s) b) fun r=>∃ e ds,r=(true,[.int .i64 e,.Z 1 ds])∧TY ds∧ds.length≤s.length:=by
 refine U.eq (fun n=>AB n s b) (U.Xv (fun _=>U.ret ⟨6,[],rfl,fun y hy=>by simp at hy,by simp⟩) fun _=>?_)
 have loop:∀ (m j:Nat) (acc:List D),s.length-j=m→j≤s.length→acc.length≤j→TY acc→
   U (fun n=>Y1 n (.str s) b (s.length:Int) (j:Int) (.Z 1 acc)) fun r=>
    r=(true,[.int .i64 5,.Z 1 []])∨∃ j' acc',r=(false,[.str s,.int .i64 b,.int .i64 (s.length:Int),.int .i64 j',.Z 1 acc'])∧TY acc'∧acc'.length≤s.length:=by
  intro m
  induction m with
  |zero=>
   intro j acc hm hj hl ha
   exact U.eq (fun n=>sB n _ _ _ _ _) (U.no (Zk (by omega)) (U.ret (.inr ⟨_,acc,rfl,ha,by omega⟩)))
  |succ m ih=>
   intro j acc hm hj hl ha
   have hj2:j<s.length:=by omega
   have hw:IntKind.i64.wrap ((j:Int)+1)=((j+1:Nat):Int):=H7 (by omega)
   refine U.eq (fun n=>sB n _ _ _ _ _) (U.Xu (Zi (by omega)) (U.Xu (G9 hj2) ?_))
   refine U.A0 (Kp _) ?_
   rintro _ _ ⟨v,h,h0,h1⟩;cases h;refine⟨rfl,U.Xu rfl (U.Xu (G9 hj2) ?_)⟩
   simp only [Y,D.i,hw]
   have tail:=ih (j+1) (acc++[.int .i64 v]) (by omega) (by omega) (by simp;omega) (ha.snoc h0 h1)
   have hb:Nat.ble (acc.length+1) D8=true:=Yc (by simp only [D8];omega)
   refine U.Xv (fun _=>U.Xv (fun _=>?_) fun _=>?_) fun _=>?_
   ·exact ih (j+1) acc (by omega) (by omega) (by omega) ha
   ·exact U.Xv (fun _=>U.Xu hb tail) fun _=>U.ret (.inl rfl)
   ·exact U.Xv (fun _=>U.Xu hb tail) fun _=>U.ret (.inl rfl)
 refine U.D4 (loop s.length 0 [] rfl (Yo _) (Yj _) (fun y hy=>by simp at hy)) (fun ds h=>?_) fun ds h=>?_
 ·rcases h with h|⟨_,_,h,_⟩
  ·cases h;exact⟨5,[],rfl,fun y hy=>by simp at hy,by simp⟩
  ·cases h
 ·rcases h with h|⟨j',acc',h,h1,h2⟩
  ·cases h
  ·cases h;exact U.Xu rfl (U.ret ⟨0,acc',rfl,h1,h2⟩)
theorem XI {ds:List D}(hd:TY ds)(hl:ds.length≤1048576){lim:Int}(h0:0≤lim)(h1:lim≤2147483648):U (fun n=>dR n (.Z 1 ds) lim) fun r=>∃ v,r=(true,[.int .i64 v])∧0≤v∧v≤lim:=by
 refine U.eq (fun n=>SE n ds lim) ?_
 have loop:∀ (m j:Nat) (v:Int),ds.length-j=m→j≤ds.length→0≤v→v≤lim→
   U (fun n=>cL n lim v (.Z 1 ds) (ds.length:Int) (j:Int)) fun r=>
    ∃ v' j',r=(false,[.int .i64 lim,.int .i64 v',.Z 1 ds,.int .i64 (ds.length:Int),.int .i64 j'])∧0≤v'∧v'≤lim:=by
  intro m
  induction m with
  |zero=>
   intro j v hm hj hv0 hv1
   exact U.eq (fun n=>uS n _ _ _ _ _) (U.no (Zk (by omega)) (U.ret ⟨v,_,rfl,hv0,hv1⟩))
  |succ m ih=>
   intro j v hm hj hv0 hv1
   have hj2:j<ds.length:=by omega
   have hw:IntKind.i64.wrap ((j:Int)+1)=((j+1:Nat):Int):=H7 (by omega)
   refine U.eq (fun n=>uS n _ _ _ _ _) (U.Xu (Zi (by omega)) (U.Xu (G9 hj2) ?_))
   obtain⟨x,hx,hx0,hx1⟩:=hd ds[j] (Yr hj2)
   rw [X7 hj2,hx,hw]
   refine U.Xu rfl ?_
   simp only [D.i]
   rw [J0 (x:=10*v) (by omega) (by omega),J0 (x:=10*v+x) (by omega) (by omega)]
   exact ih (j+1) (min (10*v+x) lim) (by omega) (by omega) (by omega) (by omega)
 refine U.D4 (loop ds.length 0 0 rfl (Yo _) (Int.le_refl _) h0) (fun ds h=>by obtain⟨_,_,h,_⟩:=h;cases h) fun ds h=>?_
 obtain⟨v',j',h,p0,p1⟩:=h
 cases h
 exact U.Xu rfl (U.ret ⟨v',rfl,p0,p1⟩)
def Lit (r:Bool×List D):Prop:=∃ w ws b1 b2 e,r=(true,[.agg [.int .i64 w,.Z 1 ws,.bool b1,.bool b2],.int .i64 e])∧(e=0→UH w ws)
theorem MS (x:Int):vM [.int .u64 (IntKind.u64.wrap x)]:=fun y hy=>⟨_,Yn.1 hy,qK _,MR _⟩
theorem Us (v:Int):U (fun n=>BK n v) Lit:=by
 refine U.eq (fun n=>Dx n v) (U.Xv (fun _=>U.ret ⟨0,[],false,false,3,rfl,fun h=>by cases h⟩) fun _=>U.Xv (fun _=>U.ret ⟨0,[],false,false,3,rfl,fun h=>by cases h⟩) fun _=>?_)
 refine U.A0 (SI (w:=32) (by omega) (by omega) (MS v) (Yj _)) ?_
 rintro _ _ ⟨ws,h,hv⟩;cases h
 exact⟨rfl,U.Xu rfl (U.ret ⟨_,ws,true,false,0,rfl,fun _=>hv⟩)⟩
theorem Jt {s:Zt}(hs:s.length≤1048576):U (fun n=>mT n (.str s)) Lit:=by
 refine U.eq (fun n=>EA n s) ?_
 refine U.A0 (yP hs 10) ?_
 rintro _ _ ⟨e,ds,h,hd,hl⟩;cases h;refine⟨rfl,U.Xu rfl (U.Xv (fun he=>U.ret ⟨0,[],false,false,e,rfl,fun h=>?_⟩) fun _=>?_)⟩
 ·subst h;cases he
 refine U.A0 (XI hd (by omega) (by omega) (Int.le_refl _)) ?_
 rintro _ _ ⟨v,h,_,_⟩;cases h;refine⟨rfl,U.Xu rfl ?_⟩
 refine U.A0 (Us _) ?_
 rintro _ _ ⟨w,ws,b1,b2,e,h,hv⟩;cases h
 exact⟨rfl,U.Xu rfl (U.ret ⟨w,ws,b1,b2,e,rfl,hv⟩)⟩
theorem Ln (x:Int):U (fun n=>fH n (.int .u8 x)) fun r=>∃ v,r=(true,[.int .i64 v])∧0≤v∧v≤16:=by
 refine U.eq (fun n=>VZ n x) ?_
 refine U.Xv (fun _=>U.ret ⟨2,rfl,by omega,by omega⟩) fun _=>U.Xv (fun _=>U.ret ⟨8,rfl,by omega,by omega⟩) fun _=>U.Xv (fun _=>U.ret ⟨10,rfl,by omega,by omega⟩) fun _=>U.Xv (fun _=>U.ret ⟨16,rfl,by omega,by omega⟩) fun _=>U.ret ⟨0,rfl,by omega,by omega⟩
theorem LQ {s:Zt}(h:(s==[])=false):0<s.length:=by
 cases s with
 |nil=>cases h
 |cons x s=>simp
def Oj (s:Zt)(r:Bool×List D):Prop:=∃ s' b g e,r=(true,[.str s',.int .i64 b,.bool g,.int .i64 e])∧s'.length≤s.length∧0≤b∧b≤16
theorem RN {s:Zt}:((s.drop 1).take ((s.length:Int).toNat-1)).length≤s.length:=by simp
theorem EN {s:Zt}(h:0<s.length):(true&&decide ((1:Int)≤(s.length:Int))&&decide ((s.length:Int)≤(s.length:Int)))=true:=C6 (C6 rfl (Zi (by omega))) (Zi (Int.le_refl _))
theorem UN (s:Zt):U (fun n=>jK n (.str s)) (Oj s):=by
 refine U.eq (fun n=>SD n s) ?_
 have tail:∀ (t:Zt) (g:Bool),t.length≤s.length→U (fun n=>bif (t==([]:Zt)) then (some (true,[(.str ([]:Zt)),(0:Int),(.bool false),(6:Int)])) else (bif (true&&decide ((0:Int)<(t.length:Int))) then (AE.A0 (fH n (.int .u8 ((t[0]?.getD 0).toNat:Int))) fun r1=>bif B7 fH.B2 r1 then (bif ((Y r1 0).i==(0:Int)) then (some (true,[(.str ([]:Zt)),(0:Int),(.bool false),(5:Int)])) else (bif (true&&decide ((1:Int)≤(t.length:Int))&&decide ((t.length:Int)≤(t.length:Int))) then (some (true,[(.str ((t.drop 1).take ((t.length:Int).toNat-1))),(.int .i64 (Y r1 0).i),(.bool g),(0:Int)])) else none)) else none) else none)) (Oj s):=by
  intro t g ht
  refine U.Xv (fun _=>U.ret ⟨[],0,false,6,rfl,by simp,by omega,by omega⟩) fun h=>?_
  have:=LQ h
  refine U.Xu (C6 rfl (Zi (by omega))) (U.A0 (Ln _) ?_)
  rintro _ _ ⟨v,h,h0,h1⟩;cases h;refine⟨rfl,U.Xu rfl (U.Xv (fun _=>U.ret ⟨[],0,false,5,rfl,by simp,by omega,by omega⟩) fun _=>?_)⟩
  exact U.Xu (EN this) (U.ret ⟨_,v,g,0,rfl,Nat.le_trans RN ht,h0,h1⟩)
 refine U.Xv (fun h=>?_) fun _=>tail s false (Yj _)
 have hl:0<s.length:=LQ (by simpa using h)
 refine U.Xu (C6 rfl (Zi (by omega))) (U.Xv (fun _=>U.Xu (EN hl) (tail _ _ RN)) fun _=>tail s _ (Yj _))
theorem YL (s t:Zt):(iM s t).1.length≤s.length∧(iM s t).2.1.length≤s.length:=by
 unfold iM
 split<;>simp<;>omega
theorem QN {s:Zt}(hs:s.length≤1048576)(t:Zt):U (fun n=>strings_Cut n (.str s) (.str t)) fun r=>r=(true,[.str (iM s t).1,.str (iM s t).2.1,.bool (iM s t).2.2]):=by
 refine U.eq (u:=fun _=>some (true,[D.str (iM s t).1,.str (iM s t).2.1,.bool (iM s t).2.2])) (fun n=>IV n _ _ _ ?_) (U.ret rfl)
 show (bif Nat.ble s.length 4294967280 then some [D.str (iM s t).1,.str (iM s t).2.1,.bool (iM s t).2.2] else none)=_
 rw [Yc (by omega)];rfl
theorem Ap {ds:List D}(hd:TY ds)(hl:ds.length≤1048576)(b:Int){w:Int}(h1:1≤w)(h2:w≤128):U (fun n=>jX n (.Z 1 ds) b w) fun r=>∃ ws,r=(true,[.agg [.int .i64 w,.Z 1 ws]])∧UH w ws:=by
 refine U.eq (fun n=>WA n ds b w) ?_
 refine U.A0 (SI h1 h2 (us:=[]) (fun y hy=>by simp at hy) (by simp)) ?_
 rintro _ _ ⟨vs,h,hv⟩;cases h;refine⟨rfl,U.Xu rfl ?_⟩
 refine U.A0 (SI h1 h2 (MS b) (Yj _)) ?_
 rintro _ _ ⟨bs,h,hb⟩;cases h;refine⟨rfl,U.Xu rfl ?_⟩
 have loop:∀ (m j:Nat) (x:Int) (ws:List D),ds.length-j=m→j≤ds.length→UH w ws→
   U (fun n=>eG n w (.Z 1 ds) (ds.length:Int) (j:Int) x w (.Z 1 ws) w (.Z 1 bs) (.Z 1 [])) fun r=>
    ∃ j' ws',r=(false,[.int .i64 w,.Z 1 ds,.int .i64 (ds.length:Int),.int .i64 j',.int .i64 x,.int .i64 w,.Z 1 ws',.int .i64 w,.Z 1 bs,.Z 1 []])∧UH w ws':=by
  intro m
  induction m with
  |zero=>
   intro j x ws hm hj hv
   exact U.eq (fun n=>xD n _ _ _ _ _ _ _ _ _ _) (U.no (Zk (by omega)) (U.ret ⟨_,ws,rfl,hv⟩))
  |succ m ih=>
   intro j x ws hm hj hv
   have hj2:j<ds.length:=by omega
   have hw:IntKind.i64.wrap ((j:Int)+1)=((j+1:Nat):Int):=H7 (by omega)
   refine U.eq (fun n=>xD n _ _ _ _ _ _ _ _ _ _) (U.Xu (Zi (by omega)) (U.Xu (G9 hj2) ?_))
   obtain⟨y,hy,hy0,hy1⟩:=hd ds[j] (Yr hj2)
   rw [X7 hj2,hy,hw]
   refine U.Xu rfl ?_
   refine U.A0 (Ha (.inr rfl) hv hb) ?_
   rintro _ _ ⟨v1,h,hv1⟩;cases h;refine⟨rfl,U.Xu rfl ?_⟩
   refine U.A0 (SI h1 h2 (MS _) (Yj _)) ?_
   rintro _ _ ⟨v2,h,hv2⟩;cases h;refine⟨rfl,U.Xu rfl ?_⟩
   refine U.A0 (Ha (.inl rfl) hv1 hv2) ?_
   rintro _ _ ⟨v3,h,hv3⟩;cases h;refine⟨rfl,U.Xu rfl ?_⟩
   exact ih (j+1) x v3 (by omega) (by omega) hv3
 refine U.D4 (loop ds.length 0 0 vs rfl (Yo _) hv) (fun ds h=>by obtain⟨_,_,h,_⟩:=h;cases h) fun ds h=>?_
 obtain⟨j',ws',h,hv'⟩:=h
 cases h
 exact U.Xu rfl (U.ret ⟨ws',rfl,hv'⟩)
theorem WY {s:Zt}(hs:s.length≤1048576):U (fun n=>bC n (.str s)) Lit:=by
 refine U.eq (fun n=>DZ n s) ?_
 refine U.A0 (QN hs _) ?_
 obtain⟨c1,c2⟩:=YL s [39]
 intro _ _ h;cases h;refine⟨rfl,U.Xu rfl ?_⟩
 simp only [Y,D.s,D.b,List.getD_cons_zero,List.getD_cons_succ]
 refine U.Xv (fun _=>?_) fun _=>U.Xv (fun _=>?_) fun _=>?_
 ·refine U.A0 (Jt hs) ?_
  rintro _ _ ⟨w,ws,b1,b2,e,h,hv⟩;cases h
  exact⟨rfl,U.Xu rfl (U.ret ⟨w,ws,b1,b2,e,rfl,hv⟩)⟩
 ·refine U.A0 (yP (Nat.le_trans c1 hs) 10) ?_
  rintro _ _ ⟨e,ds,h,hd,hl⟩;cases h;refine⟨rfl,U.Xu rfl (U.Xv (fun he=>U.ret ⟨0,[],false,false,e,rfl,fun h=>?_⟩) fun _=>?_)⟩
  ·subst h;cases he
  refine U.A0 (XI hd (by omega) (lim:=129) (by omega) (by omega)) ?_
  rintro _ _ ⟨v,h,v0,v1⟩;cases h;refine⟨rfl,U.Xu rfl ?_⟩
  refine U.A0 (UN _) ?_
  rintro _ _ ⟨t,b,g,e,h,ht,b0,b1⟩;cases h;refine⟨rfl,U.Xu rfl (U.Xv (fun he=>U.ret ⟨0,[],false,false,e,rfl,fun h=>?_⟩) fun _=>?_)⟩
  ·subst h;cases he
  refine U.A0 (yP (s:=t) (by omega) b) ?_
  rintro _ _ ⟨e,us,h,hd,hl⟩;cases h;refine⟨rfl,U.Xu rfl (U.Xv (fun he=>U.ret ⟨0,[],false,false,e,rfl,fun h=>?_⟩) fun _=>?_)⟩
  ·subst h;cases he
  refine U.Xv (fun _=>U.ret ⟨0,[],false,false,2,rfl,fun h=>by cases h⟩) fun w0=>U.Xv (fun _=>U.ret ⟨0,[],false,false,2,rfl,fun h=>by cases h⟩) fun w1=>?_
  have w0:=Zl w0
  have w1:=Zl w1
  simp only [Y,D.i,List.getD_cons_zero,List.getD_cons_succ] at w0 w1
  refine U.A0 (Ap hd (by omega) b (w:=v) (by omega) (by omega)) ?_
  rintro _ _ ⟨ws,h,hv⟩;cases h
  exact⟨rfl,U.Xu rfl (U.ret ⟨v,ws,_,_,0,rfl,fun _=>hv⟩)⟩
 ·refine U.A0 (UN _) ?_
  rintro _ _ ⟨t,b,g,e,h,ht,b0,b1⟩;cases h;refine⟨rfl,U.Xu rfl (U.Xv (fun he=>U.ret ⟨0,[],false,false,e,rfl,fun h=>?_⟩) fun _=>?_)⟩
  ·subst h;cases he
  refine U.A0 (yP (s:=t) (by omega) b) ?_
  rintro _ _ ⟨e,us,h,hd,hl⟩;cases h;refine⟨rfl,U.Xu rfl (U.Xv (fun he=>U.ret ⟨0,[],false,false,e,rfl,fun h=>?_⟩) fun _=>?_)⟩
  ·subst h;cases he
  refine U.A0 (Ap hd (by omega) b (w:=32) (by omega) (by omega)) ?_
  rintro _ _ ⟨ws,h,hv⟩;cases h
  exact⟨rfl,U.Xu rfl (U.ret ⟨32,ws,_,_,0,rfl,fun _=>hv⟩)⟩
theorem Ua {t:Nat→Out}{P:Bool×List D→Prop}(h:U t P):∃ r,P r∧U t (fun x=>x=r):=by
 obtain⟨r,h1,h2⟩:=h
 exact⟨r,h1,r,rfl,h2⟩
theorem fN {s:Zt}(hs:s.length≤4294967280)(t:Zt):U (fun n=>strings_Contains n (.str s) (.str t)) fun r=>r=(true,[.bool (decide (0≤X9 t s 0))]):=by
 refine U.eq (u:=fun _=>some (true,[D.bool (decide (0≤X9 t s 0))])) (fun n=>yB n _ _ _ ?_) (U.ret rfl)
 show (bif Nat.ble s.length 4294967280 then some [D.bool (decide (0≤X9 t s 0))] else none)=_
 rw [Yc (by omega)];rfl
def Tq (r:Bool×List D):Prop:=∃ b,r=(true,[.bool b])
theorem FZ (x:Int):U (fun n=>cA n (.int .u8 x)) Tq:=by
 refine U.eq (fun n=>zU n x) (U.Xv (fun _=>U.Xv (fun _=>U.ret ⟨_,rfl⟩) fun _=>?_) fun _=>?_)
 all_goals exact U.Xv (fun _=>U.Xv (fun _=>U.ret ⟨_,rfl⟩) fun _=>U.ret ⟨_,rfl⟩) fun _=>U.ret ⟨_,rfl⟩
theorem DC (x:Int):U (fun n=>bV n (.int .u8 x)) Tq:=
 U.eq (fun n=>DY n x) (U.Xv (fun _=>U.ret ⟨_,rfl⟩) fun _=>U.ret ⟨_,rfl⟩)
theorem Ks (x:Int):U (fun n=>iV n (.int .u8 x)) Tq:=by
 refine U.eq (fun n=>zZ n x) (U.A0 (FZ _) ?_)
 rintro _ _ ⟨b,h⟩;cases h;refine⟨rfl,U.Xu rfl (U.Xv (fun _=>U.ret ⟨_,rfl⟩) fun _=>U.A0 (DC _) ?_)⟩
 rintro _ _ ⟨b,h⟩;cases h;exact⟨rfl,U.Xu rfl (U.ret ⟨_,rfl⟩)⟩
theorem ZD (x:Int):U (fun n=>eD n (.int .u8 x)) Tq:=by
 refine U.eq (fun n=>uP n x) (U.A0 (DC _) ?_)
 rintro _ _ ⟨b,h⟩;cases h;exact⟨rfl,U.Xu rfl (U.Xv (fun _=>U.ret ⟨_,rfl⟩) fun _=>U.ret ⟨_,rfl⟩)⟩
theorem ZE (x:Int):U (fun n=>eE n (.int .u8 x)) Tq:=by
 refine U.eq (fun n=>uQ n x) (U.A0 (DC _) ?_)
 rintro _ _ ⟨b,h⟩;cases h;refine⟨rfl,U.Xu rfl (U.Xv (fun _=>U.ret ⟨_,rfl⟩) fun _=>U.A0 (FZ _) ?_)⟩
 rintro _ _ ⟨b,h⟩;cases h;exact⟨rfl,U.Xu rfl (U.ret ⟨_,rfl⟩)⟩
def Cq (m:Nat)(r:Bool×List D):Prop:=∃ k:Nat,r=(true,[.int .i64 (k:Int)])∧k≤m
theorem Ep {s:Zt}(hs:s.length≤1048576):U (fun n=>Z1 n (.str s)) (Cq s.length):=by
 refine U.eq (fun n=>zW n s) ?_
 have loop:∀ (m j:Nat),s.length-j=m→j≤s.length→
   U (fun n=>aA n (.str s) (j:Int)) fun r=>∃ j':Nat,r=(false,[.str s,.int .i64 (j':Int)])∧j'≤s.length:=by
  intro m
  induction m with
  |zero=>intro j hm hj;exact U.eq (fun n=>jH n _ _) (U.no (Zk (by omega)) (U.ret ⟨j,rfl,hj⟩))
  |succ m ih=>
   intro j hm hj
   have hj2:j<s.length:=by omega
   have hw:IntKind.i64.wrap ((j:Int)+1)=((j+1:Nat):Int):=H7 (by omega)
   refine U.eq (fun n=>jH n _ _) (U.Xu (Zi (by omega)) (U.Xu (G9 hj2) (U.A0 (Ks _) ?_)))
   rintro _ _ ⟨b,h⟩;cases h;refine⟨rfl,U.Xu rfl (U.Xv (fun _=>?_) fun _=>U.ret ⟨j,rfl,hj⟩)⟩
   rw [hw];exact ih (j+1) (by omega) hj2
 refine U.D4 (loop s.length 0 rfl (Yo _)) (fun ds h=>by obtain⟨_,h,_⟩:=h;cases h) fun ds h=>?_
 obtain⟨j',h,hj⟩:=h
 cases h
 exact U.Xu rfl (U.ret ⟨j',rfl,hj⟩)
theorem Es {s:Zt}(hs:s.length≤1048576):U (fun n=>gE n (.str s)) (Cq s.length):=by
 refine U.eq (fun n=>zX n s) ?_
 have loop:∀ (m j:Nat),s.length-j=m→j≤s.length→
   U (fun n=>aB n (.str s) (j:Int)) fun r=>∃ j':Nat,r=(false,[.str s,.int .i64 (j':Int)])∧j'≤s.length:=by
  intro m
  induction m with
  |zero=>intro j hm hj;exact U.eq (fun n=>jI n _ _) (U.no (Zk (by omega)) (U.ret ⟨j,rfl,hj⟩))
  |succ m ih=>
   intro j hm hj
   have hj2:j<s.length:=by omega
   have hw:IntKind.i64.wrap ((j:Int)+1)=((j+1:Nat):Int):=H7 (by omega)
   refine U.eq (fun n=>jI n _ _) (U.Xu (Zi (by omega)) (U.Xu (G9 hj2) (U.A0 (ZD _) ?_)))
   rintro _ _ ⟨b,h⟩;cases h;refine⟨rfl,U.Xu rfl (U.Xv (fun _=>?_) fun _=>U.ret ⟨j,rfl,hj⟩)⟩
   rw [hw];exact ih (j+1) (by omega) hj2
 refine U.D4 (loop s.length 0 rfl (Yo _)) (fun ds h=>by obtain⟨_,h,_⟩:=h;cases h) fun ds h=>?_
 obtain⟨j',h,hj⟩:=h
 cases h
 exact U.Xu rfl (U.ret ⟨j',rfl,hj⟩)
theorem Eu {s:Zt}(hs:s.length≤1048576):U (fun n=>gG n (.str s)) (Cq s.length):=by
 refine U.eq (fun n=>zY n s) ?_
 have loop:∀ (m j:Nat),s.length-j=m→j≤s.length→
   U (fun n=>aC n (.str s) (j:Int)) fun r=>∃ j':Nat,r=(false,[.str s,.int .i64 (j':Int)])∧j'≤s.length:=by
  intro m
  induction m with
  |zero=>intro j hm hj;exact U.eq (fun n=>jJ n _ _) (U.no (Zk (by omega)) (U.ret ⟨j,rfl,hj⟩))
  |succ m ih=>
   intro j hm hj
   have hj2:j<s.length:=by omega
   have hw:IntKind.i64.wrap ((j:Int)+1)=((j+1:Nat):Int):=H7 (by omega)
   refine U.eq (fun n=>jJ n _ _) (U.Xu (Zi (by omega)) (U.Xu (G9 hj2) (U.A0 (ZE _) ?_)))
   rintro _ _ ⟨b,h⟩;cases h;refine⟨rfl,U.Xu rfl (U.Xv (fun _=>?_) fun _=>U.ret ⟨j,rfl,hj⟩)⟩
   rw [hw];exact ih (j+1) (by omega) hj2
 refine U.D4 (loop s.length 0 rfl (Yo _)) (fun ds h=>by obtain⟨_,h,_⟩:=h;cases h) fun ds h=>?_
 obtain⟨j',h,hj⟩:=h
 cases h
 exact U.Xu rfl (U.ret ⟨j',rfl,hj⟩)
theorem KM (s:Zt)(k:Nat):(s.drop k).take (s.length-k)=s.drop k:=List.take_of_length_le (by simp)
theorem Ee {s:Zt}(hs:s.length≤1048576):U (fun n=>aI n (.str s)) (Cq s.length):=by
 refine U.eq (fun n=>zV n s) (U.A0 (Es hs) ?_)
 rintro _ _ ⟨k,h,hk⟩;cases h
 have hw:IntKind.i64.wrap ((k:Int)+1)=((k+1:Nat):Int):=H7 (by omega)
 refine⟨rfl,U.Xu rfl (U.Xv (fun hl=>?_) fun _=>U.ret ⟨k,rfl,hk⟩)⟩
 have hl:k<s.length:=by have:=Zj hl;simp only [Y,D.i,List.getD_cons_zero] at this;omega
 refine U.Xu (G9 hl) (U.Xv (fun _=>?_) fun _=>U.ret ⟨k,rfl,hk⟩)
 simp only [Y,D.i,List.getD_cons_zero,hw,Zf,KM]
 refine U.Xu (C6 (C6 (Zi (by omega)) (Zi (by omega))) (Zi (Int.le_refl _))) (U.A0 (Eu (by simp;omega)) ?_)
 rintro _ _ ⟨j,h,hj⟩;cases h
 simp only [Zs] at hj
 refine⟨rfl,U.Xu rfl (U.ret ⟨k+(1+j),?_,by omega⟩)⟩
 simp only [Y,D.i,List.getD_cons_zero]
 rw [J0 (x:=1+(j:Int)) (by omega) (by omega),J0 (by omega) (by omega)]
 rfl
theorem Ny {s:Zt}(hs:s.length≤1048576)(h0:0<s.length):U (fun n=>lR n (.str s)) (Cq s.length):=by
 refine U.eq (fun n=>HM n s) ?_
 have loop:∀ (j:Nat),j≤s.length→U (fun n=>bR n (.str s) (j:Int)) fun r=>Cq s.length r∨∃ j',r=(false,[.str s,.int .i64 j']):=by
  intro j
  induction j with
  |zero=>intro hj;exact U.eq (fun n=>iU n _ _) (U.no rfl (U.ret (.inr ⟨_,rfl⟩)))
  |succ j ih=>
   intro hj
   have hw:IntKind.i64.wrap (((j+1:Nat):Int)-1)=(j:Int):=by rw [J0 (by omega) (by omega)];omega
   have hc:(true&&decide ((0:Int)≤((j+1:Nat):Int))&&decide (((j+1:Nat):Int)≤(s.length:Int)))=true:=C6 (C6 rfl (Zi (by omega))) (Zi (by omega))
   refine U.eq (fun n=>iU n _ _) (U.Xv (fun _=>?_) fun _=>U.ret (.inr ⟨_,rfl⟩))
   refine U.Xu hc (U.A0 (fN (by simp;omega) _) ?_)
   intro _ _ h;cases h;refine⟨rfl,U.Xu rfl (U.Xv (fun _=>?_) fun _=>?_)⟩
   ·refine U.Xu hc (U.Xu (Zi (by simp [S6];omega)) (U.Xu (Zi (by simp [S6];omega)) (U.A0 (fN (by simp) _) ?_)))
    intro _ _ h;cases h;refine⟨rfl,U.Xu rfl (U.Xv (fun _=>U.ret (.inl ⟨j+1,rfl,hj⟩)) fun _=>?_)⟩
    rw [hw];exact ih (by omega)
   ·rw [hw];exact ih (by omega)
 have hm:min (3:Int) (s.length:Int)=((min 3 s.length:Nat):Int):=by omega
 rw [hm]
 refine U.D4 (loop (min 3 s.length) (by omega)) (fun ds h=>?_) fun ds h=>?_
 ·rcases h with h|⟨_,h⟩
  ·exact h
  ·cases h
 ·rcases h with ⟨_,h,_⟩|⟨_,h⟩
  ·cases h
  ·cases h
   refine U.Xu rfl (U.Xu (C6 rfl (Zi (by show (0:Int)<(s.length:Int);omega))) (U.A0 (oX _ _) ?_))
   intro _ _ h;cases h
   exact⟨rfl,U.Xu rfl (U.Xv (fun _=>U.ret ⟨1,rfl,by omega⟩) fun _=>U.ret ⟨0,rfl,by omega⟩)⟩
theorem Em:U (fun n=>bC n (.str [])) fun r=>r=(true,[.agg [.int .i64 0,.Z 1 [],.bool false,.bool false],.int .i64 6]):=by
 refine U.eq (fun n=>DZ n []) (U.A0 (QN (by simp) _) ?_)
 intro _ _ h;cases h
 refine⟨rfl,U.Xu rfl (U.Xu rfl (U.A0 (Q:=fun r=>r=(true,[.agg [.int .i64 0,.Z 1 [],.bool false,.bool false],.int .i64 6])) (U.eq (fun n=>EA n []) (U.A0 (Q:=fun r=>r=(true,[.int .i64 6,.Z 1 []])) (U.eq (fun n=>AB n [] 10) (U.Xu rfl (U.ret rfl))) ?_)) ?_))⟩
 ·intro _ _ h;cases h;exact⟨rfl,U.Xu rfl (U.Xu rfl (U.ret rfl))⟩
 ·intro _ _ h;cases h;exact⟨rfl,U.Xu rfl (U.ret rfl)⟩
def Word (s:Zt)(r:Bool×List D):Prop:=∃ (k:Int) (n:Nat) (e:Int),r=(true,[.int .i64 k,.int .i64 (n:Int),.int .i64 e])∧n≤s.length∧(e=0→1≤n)
theorem Oe {s:Zt}(hs:s.length≤1048576)(h0:0<s.length):U (fun n=>dG n (.str s)) (Word s):=by
 have e7:∀ e:Int,e≠0→Word s (true,[.int .i64 0,.int .i64 0,.int .i64 e]):=fun e he=>⟨0,0,e,rfl,Yo _,fun h=>absurd h he⟩
 refine U.eq (fun n=>qZ n s) (U.Xu (C6 rfl (Zi (by omega))) (U.A0 (FZ _) ?_))
 have name:U (fun n=>bif (true&&decide ((1:Int)≤(s.length:Int))&&decide ((s.length:Int)≤(s.length:Int))) then (AE.A0 (Z1 n (.str ((s.drop 1).take ((s.length:Int).toNat-1)))) fun r2=>bif B7 Z1.B2 r2 then (bif (decide ((IntKind.i64.wrap ((1:Int)+(Y r2 0).i))>(40:Int))) then (some (true,[(0:Int),(0:Int),(9:Int)])) else (bif (true&&decide ((0:Int)≤(IntKind.i64.wrap ((1:Int)+(Y r2 0).i)))&&decide ((IntKind.i64.wrap ((1:Int)+(Y r2 0).i))≤(s.length:Int))) then (bif (((s.drop 0).take ((IntKind.i64.wrap ((1:Int)+(Y r2 0).i)).toNat-0))==([36]:Zt)) then (some (true,[(0:Int),(0:Int),(9:Int)])) else (some (true,[(1:Int),(.int .i64 (IntKind.i64.wrap ((1:Int)+(Y r2 0).i))),(0:Int)]))) else none)) else none) else none) (Word s):=by
  refine U.Xu (EN h0) (U.A0 (Ep (Nat.le_trans RN hs)) ?_)
  rintro _ _ ⟨k,h,hk⟩;cases h
  simp only [Zc,Zs,Zf] at hk
  have hw:IntKind.i64.wrap ((1:Int)+(k:Int))=((1+k:Nat):Int):=by rw [J0 (by omega) (by omega)];omega
  simp only [Y,D.i,List.getD_cons_zero,hw]
  refine⟨trivial,U.Xu rfl (U.Xv (fun _=>U.ret (e7 9 (by decide))) fun _=>U.Xu (C6 (C6 rfl (Zi (by omega))) (Zi (by omega))) (U.Xv (fun _=>U.ret (e7 9 (by decide))) fun _=>U.ret ⟨1,1+k,0,rfl,by omega,fun _=>by omega⟩))⟩
 have num:U (fun n=>AE.A0 (aI n (.str s)) fun r3=>bif B7 aI.B2 r3 then (bif (true&&decide ((0:Int)≤(Y r3 0).i)&&decide ((Y r3 0).i≤(s.length:Int))) then (AE.A0 (bC n (.str ((s.drop 0).take ((Y r3 0).i.toNat-0)))) fun r4=>bif B7 bC.B2 r4 then (bif ((Y r4 1).i !=(0:Int)) then (some (true,[(0:Int),(0:Int),(7:Int)])) else (some (true,[(2:Int),(.int .i64 (Y r3 0).i),(0:Int)]))) else none) else none) else none) (Word s):=by
  refine U.A0 (Ee hs) ?_
  rintro _ _ ⟨k,h,hk⟩;cases h
  simp only [Y,D.i,List.getD_cons_zero,Zf]
  refine⟨trivial,U.Xu rfl (U.Xu (C6 (C6 rfl (Zi (by omega))) (Zi (by omega))) ?_)⟩
  by_cases hz:k=0
  ·subst hz
   refine U.A0 Em ?_
   intro _ _ h;cases h
   exact⟨rfl,U.Xu rfl (U.Xu rfl (U.ret (e7 7 (by decide))))⟩
  ·refine U.A0 (WY (by simp;omega)) ?_
   rintro _ _ ⟨w,ws,b1,b2,e,h,hv⟩;cases h
   exact⟨rfl,U.Xu rfl (U.Xv (fun _=>U.ret (e7 7 (by decide))) fun _=>U.ret ⟨2,k,0,rfl,hk,fun _=>by omega⟩)⟩
 rintro _ _ ⟨b,h⟩;cases h
 refine⟨rfl,U.Xu rfl (U.Xv (fun _=>name) fun _=>U.Xv (fun _=>name) fun _=>U.A0 (DC _) ?_)⟩
 rintro _ _ ⟨b,h⟩;cases h
 refine⟨rfl,U.Xu rfl (U.Xv (fun _=>num) fun _=>U.Xv (fun _=>num) fun _=>U.A0 (Ny hs h0) ?_)⟩
 rintro _ _ ⟨k,h,hk⟩;cases h
 simp only [Y,D.i,List.getD_cons_zero]
 refine⟨trivial,U.Xu rfl (U.Xv (fun _=>U.ret (e7 7 (by decide))) fun hz=>U.ret ⟨3,k,0,rfl,hk,fun _=>?_⟩)⟩
 cases k with
 |zero=>cases hz
 |succ k=>omega
section
theorem G4 {t u:Nat→Out}{P:Bool×List D→Prop}(he:∀ n,t n=u n)(h:U u P):U t P:=by
 have:t=u:=funext he
 rw [this];exact h
def tk (k:Int)(t:Zt)(a b c:Int):D:= .agg [.int .i64 k,.str t,.int .i64 a,.int .i64 b,.int .i64 c]
def Jy:Zt:=[32,109,111,100,117,108,101,32,101,110,100,109,111,100,117,108,101,32,112,97,114,97,109,101,116,101,114,32,108,111,99,97,108,112,97,114,97,109,32,105,110,112,117,116,32,111,117,116,112,117,116,32,114,101,103,32,119,105,114,101,32,115,105,103,110,101,100,32,105,110,116,101,103,101,114,32,103,101,110,118,97,114,32,103,101,110,101,114,97,116,101,32,101,110,100,103,101,110,101,114,97,116,101,32,97,115,115,105,103,110,32,97,108,119,97,121,115,32,112,111,115,101,100,103,101,32,102,117,110,99,116,105,111,110,32,101,110,100,102,117,110,99,116,105,111,110,32,102,111,114,32,105,102,32,101,108,115,101,32,98,101,103,105,110,32,101,110,100,32,99,97,115,101,32,101,110,100,99,97,115,101,32,100,101,102,97,117,108,116,32,97,115,115,101,114,116,32]
def TP:Zt:=[32,45,32,126,32,33,32,38,32,124,32,94,32,126,38,32,126,124,32,126,94,32,94,126,32,43,32]
def YZ:List Zt:=[[32,124,124,32],[32,38,38,32],[32,124,32],[32,94,32,126,94,32,94,126,32],[32,38,32],[32,61,61,32,33,61,32],[32,60,32,60,61,32,62,32,62,61,32],[32,60,60,32,62,62,32,60,60,60,32,62,62,62,32],[32,43,32,45,32],[32,42,32,47,32,37,32]]
def xJ:List Zt:=[[124,124],[38,38],[124],[94],[126,94],[38],[61,61],[33,61],[60],[60,61],[62],[62,61],[60,60],[62,62],[60,60,60],[62,62,62],[43],[45],[42],[47],[37]]
def IP (o:Zt):Nat:=bif o==[124,124] then 0 else bif o==[38,38] then 1 else bif o==[124] then 2 else bif o==[94] then 3 else bif o==[126,94] then 3 else bif o==[38] then 4 else bif o==[61,61] then 5 else bif o==[33,61] then 5 else bif o==[60] then 6 else bif o==[60,61] then 6 else bif o==[62] then 6 else bif o==[62,61] then 6 else bif o==[60,60] then 7 else bif o==[62,62] then 7 else bif o==[60,60,60] then 7 else bif o==[62,62,62] then 7 else bif o==[43] then 8 else bif o==[45] then 8 else bif o==[42] then 9 else bif o==[47] then 9 else bif o==[37] then 9 else 9
theorem Rf:(xJ.all fun o=>decide (IP o≤9))=true:=by kernel_rfl
theorem Rd {o:Zt}(ho:o∈xJ):IP o≤9:=Zj (Yg.1 Rf o ho)
theorem Iv:(xJ.all fun o=>(List.range 10).all fun j=>decide (0≤X9 (([32]++o)++[32]) (YZ[j]?.getD []) 0)==(IP o==j))=true:=by kernel_rfl
theorem Pa {o:Zt}(ho:o∈xJ){j:Nat}(hj:j<10):decide (0≤X9 (([32]++o)++[32]) (YZ[j]?.getD []) 0)=(IP o==j):=
 eq_of_beq (Yg.1 (Yg.1 Iv o ho) j (List.mem_range.2 hj))
theorem Jn:(xJ.all fun o=>decide (o.length≤3))=true:=by kernel_rfl
theorem SR {o:Zt}(ho:o∈xJ):o.length≤3:=Zj (Yg.1 Jn o ho)
theorem Nv:decide (Jy.length≤4294967280)=true:=by kernel_rfl
theorem Nw:Jy.length≤4294967280:=Zj Nv
def oQ (t:Zt):Bool:=decide (t.length≤100)&&decide (0<t.length)&&!((t[0]?.getD 0).toNat==36)&&!decide (0≤X9 (([32]++t)++[32]) Jy 0)
section
variable {l:List D} {i:Nat} {d c p0 p1 p2:Int} {k:Int} {t:Zt} {a b e:Int}
theorem EB (h:l[i]? = some (tk k t a b e)):i<l.length:=by
 by_cases hl:i<l.length
 ·exact hl
 ·rw [List.getElem?_eq_none (by omega)] at h;cases h
theorem K8 (h:l[i]? = some (tk k t a b e)):U (fun n=>C3 n (.Z 5 l) (i:Int) d c p0 p1 p2 (0:Int)) fun r=>r=(true,[tk k t a b e,.Z 5 l,.int .i64 (i:Int),.int .i64 d,.int .i64 c,.int .i64 p0,.int .i64 p1,.int .i64 p2,.int .i64 0]):=by
 have hi:=EB h
 have hg:l[((i:Nat):Int).toNat]?.getD D.top=tk k t a b e:=by
  rw [show ((i:Nat):Int).toNat=i from rfl,h];rfl
 refine U.eq (fun n=>zJ n l i d c p0 p1 p2 0) (U.no rfl (G4 (fun n=>jN.eq_1 n _ _ _ _ _ _ _ _ _) (U.no (Zk (by omega)) (U.Xu (G9 hi) ?_))))
 rw [hg]
 exact U.Xu rfl (U.ret rfl)
theorem dF (w:Zt)(h:l[i]? = some (tk k t a b e)):U (fun n=>E1 n (.str w) (.Z 5 l) (i:Int) d c p0 p1 p2 (0:Int)) fun r=>r=(true,[.bool (t==w&&k !=2),.Z 5 l,.int .i64 (i:Int),.int .i64 d,.int .i64 c,.int .i64 p0,.int .i64 p1,.int .i64 p2,.int .i64 0]):=by
 refine U.eq (fun n=>BR n w l i d c p0 p1 p2 0) (U.A0 (K8 h) ?_)
 intro _ ds h0;cases h0
 refine⟨rfl,U.Xu rfl (U.Xv (fun h1=>?_) fun h1=>?_)⟩
 ·have h1:(t==w)=true:=h1
  refine U.A0 (K8 h) ?_
  intro _ ds h0;cases h0
  exact⟨rfl,U.Xu rfl (U.ret (by rw [h1];rfl))⟩
 ·have h1:(t==w)=false:=h1
  exact U.ret (by rw [h1];rfl)
theorem F8 {w:Zt}(hl:l.length≤1000000)(h:l[i]? = some (tk k t a b e))(hw:(t==w&&k !=2)=true):U (fun n=>A8 n (.str w) (.Z 5 l) (i:Int) d c p0 p1 p2 (0:Int)) fun r=>r=(true,[.bool true,.Z 5 l,.int .i64 ((i+1:Nat):Int),.int .i64 d,.int .i64 c,.int .i64 p0,.int .i64 p1,.int .i64 p2,.int .i64 0]):=by
 have hi:=EB h
 refine U.eq (fun n=>oC n w l i d c p0 p1 p2 0) (U.A0 (dF w h) ?_)
 intro _ ds h0;cases h0
 refine⟨rfl,U.Xu rfl (U.no (by show (!(t==w&&k !=2))=false;rw [hw];rfl) (U.ret ?_))⟩
 rw [← H7 (by omega)];rfl
theorem C1 {w:Zt}(h:l[i]? = some (tk k t a b e))(hw:(t==w&&k !=2)=false):U (fun n=>A8 n (.str w) (.Z 5 l) (i:Int) d c p0 p1 p2 (0:Int)) fun r=>r=(true,[.bool false,.Z 5 l,.int .i64 (i:Int),.int .i64 d,.int .i64 c,.int .i64 p0,.int .i64 p1,.int .i64 p2,.int .i64 0]):=by
 refine U.eq (fun n=>oC n w l i d c p0 p1 p2 0) (U.A0 (dF w h) ?_)
 intro _ ds h0;cases h0
 exact⟨rfl,U.Xu rfl (U.Xu (by show (!(t==w&&k !=2))=true;rw [hw];rfl) (U.ret rfl))⟩
def CI (l:List D)(i:Nat)(ws:List Zt):Prop:=∀ (j:Nat) (h:j<ws.length),∃ k a b e,l[i+j]? = some (tk k ws[j] a b e)∧(k !=2)=true
theorem G6 (hl:l.length≤1000000)(ws:List Zt)(hw:ws.length≤1000)(h:CI l i ws):U (fun n=>A9 n (.Z 1 (ws.map D.str)) (.Z 5 l) (i:Int) d c p0 p1 p2 (0:Int)) fun r=>r=(true,[.Z 5 l,.int .i64 ((i+ws.length:Nat):Int),.int .i64 d,.int .i64 c,.int .i64 p0,.int .i64 p1,.int .i64 p2,.int .i64 0]):=by
 refine U.eq (fun n=>xT n _ l i d c p0 p1 p2 0) ?_
 have loop:∀ (m j:Nat),ws.length-j=m→j≤ws.length→U (fun n=>Q3 n (.Z 1 (ws.map D.str)) ((ws.map D.str).length:Int) (j:Int) (.Z 5 l) ((i+j:Nat):Int) d c p0 p1 p2 (0:Int))
   fun r=>r=(false,[.Z 1 (ws.map D.str),.int .i64 ((ws.map D.str).length:Int),.int .i64 (ws.length:Int),.Z 5 l,.int .i64 ((i+ws.length:Nat):Int),.int .i64 d,.int .i64 c,.int .i64 p0,.int .i64 p1,.int .i64 p2,.int .i64 0]):=by
  intro m
  induction m with
  |zero=>
   intro j hm hj
   have:j=ws.length:=by omega
   subst this
   exact U.eq (fun n=>kZ n _ _ _ _ _ _ _ _ _ _ _) (U.no (Zk (by rw [List.length_map];omega)) (U.ret rfl))
  |succ m ih=>
   intro j hm hj
   have hlt:j<ws.length:=by omega
   obtain⟨k,a,b,e,h1,h2⟩:=h j hlt
   have hg:(ws.map D.str)[((j:Nat):Int).toNat]?.getD D.top = .str ws[j]:=by
    rw [show ((j:Nat):Int).toNat=j from rfl,List.getElem?_map,Ym hlt];rfl
   refine U.eq (fun n=>kZ n _ _ _ _ _ _ _ _ _ _ _) (U.Xu (Zi (by rw [List.length_map];omega)) (U.Xu (G9 (by rw [List.length_map];exact hlt)) ?_))
   rw [hg]
   refine U.Xu rfl (U.A0 (F8 hl h1 (by rw [h2];show (ws[j]==ws[j]&&true)=true;rw [Zm];rfl)) ?_)
   intro _ ds h0;cases h0
   refine⟨rfl,U.Xu rfl (U.no rfl ?_)⟩
   have K:=ih (j+1) (by omega) (by omega)
   rw [← H7 (by omega)] at K
   exact K
 refine U.D4 (loop ws.length 0 rfl (Yo _)) (fun ds h=>by cases h) fun ds h=>?_
 cases h
 exact U.Xu rfl (U.ret rfl)
theorem Ds (h:l[i]? = some (tk 1 t a b e))(hg:oQ t=true):U (fun n=>X6 n (.Z 5 l) (i:Int) d c p0 p1 p2 (0:Int)) fun r=>r=(true,[.bool true,.Z 5 l,.int .i64 (i:Int),.int .i64 d,.int .i64 c,.int .i64 p0,.int .i64 p1,.int .i64 p2,.int .i64 0]):=by
 simp only [oQ,Xz,decide_eq_true_eq,Zd,Zn] at hg
 obtain⟨⟨⟨g1,g2⟩,g3⟩,g4⟩:=hg
 refine U.eq (fun n=>tS n l i d c p0 p1 p2 0) (U.A0 (K8 h) ?_)
 intro _ ds h0;cases h0
 refine⟨rfl,U.Xu rfl (U.Xu rfl (U.Xu (C6 rfl (Zi (by show (0:Int)<(t.length:Int);omega))) (U.Xu ?_ (U.Xu (Zi (by show 1+t.length≤S6;simp only [S6];omega)) (U.Xu (Zi (by show ([32]++t).length+1≤S6;simp only [S6,Xx,Yu];omega)) (U.A0 (fN (s:=Jy) Nw (([32]++t)++[32])) ?_))))))⟩
 ·show ((((t[0]?.getD 0).toNat:Int)) !=36)=true
  simp only [bne_iff_ne,ne_eq]
  omega
 ·intro _ ds h0;cases h0
  refine⟨rfl,U.Xu rfl (U.ret ?_)⟩
  show (true,[D.bool (!decide (0≤X9 (([32]++t)++[32]) Jy 0)),_,_,_,_,_,_,_,_])=_
  rw [g4];rfl
theorem gJ (hl:l.length≤1000000)(h:l[i]? = some (tk 1 t a b e))(hg:oQ t=true):U (fun n=>D1 n (.Z 5 l) (i:Int) d c p0 p1 p2 (0:Int)) fun r=>r=(true,[.str t,.Z 5 l,.int .i64 ((i+1:Nat):Int),.int .i64 d,.int .i64 c,.int .i64 p0,.int .i64 p1,.int .i64 p2,.int .i64 0]):=by
 have hi:=EB h
 refine U.eq (fun n=>xS n l i d c p0 p1 p2 0) (U.A0 (Ds h hg) ?_)
 intro _ ds h0;cases h0
 refine⟨rfl,U.Xu rfl (U.no rfl (U.A0 (K8 h) ?_))⟩
 intro _ ds h0;cases h0
 refine⟨rfl,U.Xu rfl (U.ret ?_)⟩
 rw [← H7 (by omega)];rfl
end
end
abbrev Tk:=Int×Zt
def MQ (ws:List Tk):List D:=ws.map fun p=>D.str p.2
theorem TN (u:List Tk):(MQ u).length=u.length:=List.length_map ..
def NA (x:D):Bool:=(x.at_ 0).i==3||((x.at_ 0).i==4||(x.at_ 0).i==5)
def aW (w:D→List Tk)(x:D):List Tk:=bif NA x then [(3,[40])]++(w x++[(3,[41])]) else w x
def lW (w:D→List Tk):List D→List Tk
 |[]=>[]
 |[x]=>w x
 |x::y::r=>w x++((3,[44])::lW w (y::r))
def kW (w:D→List Tk)(k:Int)(t:Zt)(ar:List D):List Tk:=
 bif k==3 then [(3,t)]++aW w (ar[0]?.getD .top)
 else bif k==4 then aW w (ar[0]?.getD .top)++([(3,t)]++aW w (ar[1]?.getD .top))
 else bif k==5 then aW w (ar[0]?.getD .top)++([(3,[63])]++(aW w (ar[1]?.getD .top)++([(3,[58])]++aW w (ar[2]?.getD .top))))
 else bif k==6 then [(3,[123])]++(lW w ar++[(3,[125])])
 else bif k==7 then [(3,[123])]++(w (ar[0]?.getD .top)++([(3,[123])]++(lW w (ar.drop 1)++[(3,[125]),(3,[125])])))
 else bif k==8 then [(1,t),(3,[91])]++(w (ar[0]?.getD .top)++[(3,[93])])
 else bif k==9 then [(1,t),(3,[91])]++(w (ar[0]?.getD .top)++([(3,[58])]++(w (ar[1]?.getD .top)++[(3,[93])])))
 else bif k==10 then [(1,t),(3,[40])]++(lW w ar++[(3,[41])])
 else bif k==1 then [(2,t)] else [(1,t)]
def wE:Nat→D→List Tk
 |0,_=>[]
 |n+1,x=>kW (wE n) (x.at_ 0).i (x.at_ 4).s (x.at_ 5).l
theorem EU (n:Nat)(k:Int)(t:Zt)(ar:List D):wE (n+1) (E k t ar)=kW (wE n) k t ar:=rfl
theorem Qd {w:D→List Tk}{x:D}{A:Nat}(h:(w x).length≤A):(aW w x).length≤A+2:=by
 unfold aW
 cases NA x<;>simp<;>omega
theorem QK {k:Int}{t:Zt}{m:Nat}(h:CB k t m):m≤3:=by
 rcases h with h|h|h|h|h|h|h|h|h|h<;>omega
theorem Ci {d:Nat}{x:D}(h:bS d x):C0 B1 x=x∧J3 B1 x=true:=by
 cases d with
 |zero=>exact h.elim
 |succ d=>obtain⟨k,t,xs,rfl,_⟩:=h;exact⟨rfl,rfl⟩
theorem Rz:∀ (d:Nat) (x:D),bS d x→U (fun n=>Y0 n x) fun r=>r=(true,[x]):=by
 intro d
 induction d with
 |zero=>intro x h;exact h.elim
 |succ d ih=>
  rintro x ⟨k,t,xs,rfl,hs,ha⟩
  have hl:=QK hs
  refine U.eq (fun n=>FY n k 0 0 0 t xs) ?_
  have loop:∀ (m j:Nat),xs.length-j=m→j≤xs.length→U (fun n=>S9 n (.Z 6 xs) (xs.length:Int) (j:Int) (.Z 6 (xs.take j))) fun r=>
    r=(false,[.Z 6 xs,.int .i64 (xs.length:Int),.int .i64 (xs.length:Int),.Z 6 xs]):=by
   intro m
   induction m with
   |zero=>
    intro j hm hj
    have:j=xs.length:=by omega
    subst this
    refine U.eq (fun n=>dZ n xs _ _ _) (U.no (Zk (by omega)) (U.ret ?_))
    simp
   |succ m ihm=>
    intro j hm hj
    have hlt:j<xs.length:=by omega
    refine U.eq (fun n=>dZ n xs _ _ _) (U.Xu (Zi (by omega)) (U.Xu (G9 hlt) ?_))
    have hw:=ha xs[j] (Yr hlt)
    obtain⟨e1,e2⟩:=Ci hw
    rw [X7 hlt,e1,e2]
    refine U.Xu rfl ?_
    refine U.A0 (ih xs[j] hw) ?_
    intro b ds h;cases h;refine⟨rfl,?_⟩
    refine U.Xu (show B7 Y0.B2 [xs[j]]=true by have:=e2;simp only [B7,Y0.B2,nN,IL,gZ,mQ] at this ⊢;simp [show J3 B1 xs[j]=true from e2]) ?_
    refine U.Xu (Yc (by simp [D8];omega)) ?_
    rw [H7 (by omega)]
    have e3:xs.take j++[C0 B1 (Y [xs[j]] 0)]=xs.take (j+1):=by
     rw [show Y [xs[j]] 0=xs[j] from rfl,e1,List.take_succ_eq_append_getElem hlt]
    rw [e3]
    exact ihm (j+1) (by omega) (by omega)
  refine U.A0 (Q:=fun r=>r=(true,[.Z 6 xs])) (U.eq (fun n=>qV n xs) ?_) ?_
  ·refine U.D4 (loop xs.length 0 rfl (Yo _)) (fun ds h=>by cases h) fun ds h=>?_
   cases h
   exact U.Xu rfl (U.ret rfl)
  ·intro b ds h;cases h;exact⟨rfl,U.Xu rfl (U.ret rfl)⟩
section
theorem XO:∀ {n:Nat} {x:D},bS n x→bS (n+1) x
 |0,_,h=>h.elim
 |n+1,_,⟨k,t,ar,h1,h2,h3⟩=>⟨k,t,ar,h1,h2,fun a ha=>XO (h3 a ha)⟩
theorem cS:∀ {m n:Nat} {x:D},n≤m→bS n x→bS m x
 |0,n,x,hm,h=>by
  have:n=0:=by omega
  subst this;exact h
 |m+1,n,x,hm,h=>by
  by_cases e:n=m+1
  ·subst e;exact h
  ·exact XO (cS (by omega) h)
def isLeft (x:D):Prop:=∃ k t ar,x=E k t ar∧t∈Z7∧((k=2∧ar.length=0)∨(k=8∧ar.length=1)∨(k=9∧ar.length=2))∧∀ a∈ar,bS 2 a
theorem rZ {x:D}(h:isLeft x):bS 3 x:=by
 obtain⟨k,t,ar,rfl,ht,hk,ha⟩:=h
 refine⟨k,t,ar,rfl,?_,ha⟩
 rcases hk with ⟨rfl,h⟩|⟨rfl,h⟩|⟨rfl,h⟩
 ·exact .inr (.inl ⟨rfl,ht,h⟩)
 ·exact .inr (.inr (.inr (.inr (.inr (.inr (.inr (.inl ⟨rfl,ht,h⟩)))))))
 ·exact .inr (.inr (.inr (.inr (.inr (.inr (.inr (.inr (.inl ⟨rfl,ht,h⟩))))))))
def S (k:Int)(t:Zt)(es bs zs:List D):D:= .agg [.int .i64 k,.str t,.Z 6 es,.Z 5 bs,.Z 6 zs]
def arm (es:List D)(s:D):D:= .agg (.Z 6 es::s.cells)
def rC:D:=S 8 [] [] [] []
def kX:Nat→D→Bool
 |n+1,.agg [.int _ k,_,_,.Z _ bs,_]=>bif k==4 then (match bs with|[_,.agg (.int _ k'::r)]=>k'==8||kX n (.agg (.int .i64 k'::r))|_=>false) else bif k==6 then (match bs with|[b]=>kX n b|_=>false) else false
 |_,_=>false
def Ka (n:Nat)(k:Int)(t:Zt)(es bs zs:List D):Prop:=
 (k=1∧t=[]∧es=[]∧bs.length≤3∧zs=[])∨((k=2∨k=3)∧t=[]∧(∃ l e,es=[l,e]∧isLeft l)∧bs=[]∧zs=[])∨
 (k=4∧t=[]∧es.length=1∧(∃ b c,bs=[b,c]∧(c=rC∨kX n b=false))∧zs=[])∨(k=5∧t=[]∧es.length=1∧bs=[]∧1≤zs.length∧zs.length≤4)∨
 (k=6∧t=[105]∧es.length=3∧bs.length=1∧zs=[])∨(k=7∧(t=[]∨t=[112,49])∧es.length=1∧bs=[]∧zs=[])∨(k=8∧t=[]∧es=[]∧bs=[]∧zs=[])
def qL:Nat→D→Prop
 |0,_=>False
 |n+1,x=>∃ k t es bs zs,x=S k t es bs zs∧(∀ e∈es,bS 4 e)∧(∀ b∈bs,qL n b)∧(∀ a∈zs,∃ es' s,a=arm es' s∧es'.length≤2∧(∀ e∈es',bS 4 e)∧qL n s)∧Ka n k t es bs zs
theorem MU (n:Nat):qL (n+1) rC:=⟨8,[],[],[],[],rfl,fun _ h=>(by cases h),fun _ h=>(by cases h),fun _ h=>(by cases h),.inr (.inr (.inr (.inr (.inr (.inr ⟨rfl,rfl,rfl,rfl,rfl⟩)))))⟩
theorem Od {n:Nat}{x:D}(h:qL n x):C0 M1 x=x∧J3 M1 x=true:=by
 cases n with
 |zero=>exact h.elim
 |succ n=>obtain⟨k,t,es,bs,zs,rfl,_⟩:=h;exact⟨rfl,rfl⟩
theorem Nj:∀ (n:Nat) (x:D),qL n x→U (fun m=>dM m x) fun r=>r=(true,[.bool (kX n x)]):=by
 intro n
 induction n with
 |zero=>intro x h;exact h.elim
 |succ n ih=>
  rintro x ⟨k,t,es,bs,zs,rfl,_,hb,_,hsh⟩
  refine U.eq (fun m=>OD m k t es bs zs) ?_
  rcases hsh with ⟨rfl,_⟩|⟨rfl|rfl,_⟩|⟨rfl,rfl,h1,⟨b,c,rfl,_⟩,rfl⟩|⟨rfl,_⟩|⟨rfl,rfl,h1,h2,rfl⟩|⟨rfl,_⟩|⟨rfl,_⟩
  ·exact U.no rfl (U.no rfl (U.ret rfl))
  ·exact U.no rfl (U.no rfl (U.ret rfl))
  ·exact U.no rfl (U.no rfl (U.ret rfl))
  ·have hc:=hb c (by simp)
   have ih:=ih c hc
   cases n with
   |zero=>exact hc.elim
   |succ n=>
    obtain⟨k',t',es',bs',zs',rfl,_⟩:=hc
    refine U.Xu rfl (U.Xu rfl (U.Xu rfl (U.Xu rfl (U.Xv (fun h8=>?_) fun h8=>?_))))
    ·have h8:(k'==8)=true:=h8
     refine U.ret ?_
     show _=(true,[D.bool (k'==8||kX (n+1) (S k' t' es' bs' zs'))])
     rw [h8];rfl
    ·have h8:(k'==8)=false:=h8
     refine U.Xu rfl (U.Xu rfl (U.A0 ih ?_))
     intro _ ds h;cases h
     refine⟨rfl,U.Xu rfl (U.ret ?_)⟩
     show _=(true,[D.bool (k'==8||kX (n+1) (S k' t' es' bs' zs'))])
     rw [h8];rfl
  ·exact U.no rfl (U.no rfl (U.ret rfl))
  ·obtain⟨b,rfl⟩:∃ b,bs=[b]:=by
    match bs,h2 with
    |[b],_=>exact⟨b,rfl⟩
   have hb:=hb b (by simp)
   obtain⟨e1,e2⟩:=Od hb
   refine U.no rfl (U.Xu rfl (U.Xu rfl ?_))
   have e3:([b][0]?.getD D.top)=b:=rfl
   rw [e3,e1,e2]
   refine U.Xu rfl (U.A0 (ih b hb) ?_)
   intro _ ds h;cases h
   exact⟨rfl,U.Xu rfl (U.ret rfl)⟩
  ·exact U.no rfl (U.no rfl (U.ret rfl))
  ·exact U.no rfl (U.no rfl (U.ret rfl))
section
variable {d:Nat} {deep:Int} {b:List D} {a v:Int}
def Tc (d:Nat)(x:D):Prop:=∃ es' s,x=arm es' s∧es'.length≤2∧(∀ e∈es',bS 4 e)∧qL d s
end
end
def sL (w:D→List Tk):List D→Nat
 |[]=>0
 |x::xs=>(w x).length+sL w xs
theorem mC (w:D→List Tk)(x:D):∀ xs:List D,sL w (xs++[x])=sL w xs+(w x).length
 |[]=>by simp [sL]
 |y::xs=>by simp only [List.cons_append,sL,mC w x xs];omega
theorem uC (w:D→List Tk):∀ xs:List D,(xs.flatMap w).length=sL w xs
 |[]=>rfl
 |y::xs=>by rw [Ze,Xx,uC w xs];rfl
theorem XC (w:D→List Tk):∀ xs:List D,(lW w xs).length+1≤sL w xs+xs.length+1
 |[]=>by simp [lW]
 |[x]=>by simp [lW,sL]
 |x::y::r=>by
  have:=XC w (y::r)
  simp only [lW,sL,Xx,Xw] at this ⊢;omega
theorem uD (w:D→List Tk):∀ xs:List D,1≤xs.length→(lW w xs).length+1≤sL w xs+xs.length
 |[],h=>by simp at h
 |[x],_=>by simp [lW,sL]
 |x::y::r,_=>by
  have:=uD w (y::r) (by simp)
  simp only [lW,sL,Xx,Xw] at this ⊢;omega
theorem qA {n:Nat}{k:Int}{t:Zt}(hk:k=1∨k=2):(wE (n+1) (E k t [])).length=1:=by
 rcases hk with rfl|rfl<;>rfl
theorem OR (w:D→List Tk)(x:D):(aW w x).length≤(w x).length+2:=Qd (Yj _)
theorem NM {w:D→List Tk}{k:Int}{t:Zt}{ar:List D}(hk:3≤k)(h:CB k t ar.length):(kW w k t ar).length+ar.length≤sL w ar+14:=by
 rcases h with ⟨rfl,_,hm⟩|⟨rfl,_,hm⟩|⟨rfl,_,hm⟩|⟨rfl,_,hm⟩|⟨rfl,_,hm⟩|⟨rfl,_,hm,hm2⟩|⟨rfl,_,hm,hm2⟩|⟨rfl,_,hm⟩|⟨rfl,_,hm⟩|⟨rfl,_,hm,hm2⟩
 ·exact absurd hk (by decide)
 ·exact absurd hk (by decide)
 ·match ar,hm with
  |[a],_=>
   have h1:=OR w a
   show ([(3,t)]++aW w a).length+_≤_
   simp only [sL,Xx,Xw,Xy];omega
 ·match ar,hm with
  |[a,b],_=>
   have h1:=OR w a
   have h2:=OR w b
   show (aW w a++([(3,t)]++aW w b)).length+_≤_
   simp only [sL,Xx,Xw,Xy];omega
 ·match ar,hm with
  |[a,b,c],_=>
   have h1:=OR w a
   have h2:=OR w b
   have h3:=OR w c
   show (aW w a++([(3,[63])]++(aW w b++([(3,[58])]++aW w c)))).length+_≤_
   simp only [sL,Xx,Xw,Xy];omega
 ·have h1:=uD w ar hm
  show ([(3,[123])]++(lW w ar++[(3,[125])])).length+_≤_
  simp only [Xx,Xw,Xy];omega
 ·match ar,hm,hm2 with
  |a::r,hm,hm2=>
   simp only [Xw] at hm hm2
   have h1:=uD w r (by omega)
   show ([(3,[123])]++(w a++([(3,[123])]++(lW w r++[(3,[125]),(3,[125])])))).length+_≤_
   simp only [sL,Xx,Xw,Xy];omega
 ·match ar,hm with
  |[a],_=>
   show ([(1,t),(3,[91])]++(w a++[(3,[93])])).length+_≤_
   simp only [sL,Xx,Xw,Xy];omega
 ·match ar,hm with
  |[a,b],_=>
   show ([(1,t),(3,[91])]++(w a++([(3,[58])]++(w b++[(3,[93])])))).length+_≤_
   simp only [sL,Xx,Xw,Xy];omega
 ·have h1:=uD w ar hm
  show ([(1,t),(3,[40])]++(lW w ar++[(3,[41])])).length+_≤_
  simp only [Xx,Xw,Xy];omega
theorem G8 {k:Int}(hk:0<k)(hk2:k≤1000){b:List D}{a:Int}(hm:Mk b a):U (fun n=>B8 n k (.Z 1 b) a) fun r=>∃ v a',r=(true,[.int .i64 v,.Z 1 b,.int .i64 a'])∧0≤v∧v<k∧Mk b a'∧a≤a'∧(v=0∨a+1≤a'):=by
 obtain⟨hb,hl,h0,h1⟩:=hm
 refine U.eq (fun n=>NX n k b a) ?_
 refine U.Xv (fun _=>U.ret ⟨0,a,rfl,Int.le_refl _,hk,⟨hb,hl,h0,h1⟩,Int.le_refl _,.inl rfl⟩) fun hc=>?_
 have hc:¬ a≥(b.length:Int):=Zl hc
 have e1:IntKind.i64.wrap (a+1)=a+1:=J0 (by omega) (by omega)
 have e2:IntKind.i64.wrap (a+1-1)=a:=by rw [J0 (by omega) (by omega)];omega
 obtain⟨i,hi,hi0,hi1⟩:=YR (P:=fun y=>∃ i:Int,y = .int .u8 i∧0≤i∧i≤255) hb (v:=a) h0 (by omega)
 simp only [e1,e2,hi]
 refine U.Xu (by simp;omega) ?_
 refine U.Xu rfl ?_
 refine U.no (Zk (by omega)) ?_
 have e3:(IntKind.i64.wrap (D.int IntKind.u8 i).i)=i:=J0 (show -9223372036854775808≤i by omega) (show i≤9223372036854775807 by omega)
 simp only [e3]
 have e4:0≤i.tmod k:=Int.tmod_nonneg k hi0
 have e5:i.tmod k<k:=Int.tmod_lt_of_pos i hk
 have e6:IntKind.i64.wrap (i.tmod k)=i.tmod k:=J0 (by omega) (by omega)
 exact U.ret ⟨_,_,rfl,e4,e5,⟨hb,hl,by omega,by omega⟩,by omega,.inr (by omega)⟩
theorem fK {b:List D}{a:Int}(hm:Mk b a):U (fun n=>K3 n (.Z 1 b) a) fun r=>∃ s a',r=(true,[.str s,.Z 1 b,.int .i64 a'])∧s∈Z7∧Mk b a'∧a≤a':=by
 refine U.eq (fun n=>NZ n b a) ?_
 (refine U.A0 (G8 (by decide) (by decide) (by assumption)) ?_;rintro _ _ ⟨v,a,h,hv0,hv1,hm,hq1,hq2⟩;cases h;(try simp only [Y,D.i] at hq1 hq2);refine⟨rfl,?_⟩)
 refine U.Xu rfl ?_
 refine U.Xu (C6 (Zi hv0) (Zi hv1)) ?_
 obtain⟨s,h1,hs⟩:=MM (T:=Z7) hv0 hv1
 refine U.Xu (by exact congrArg (fun x=>D7 (.leaf .str)&&J3 (.leaf .str) x) hs) ?_
 refine U.ret ⟨s,a,?_,h1,hm,by omega⟩
 exact congrArg (fun x:D=>(true,[D.str x.s,.Z 1 b,.int .i64 a])) hs
theorem MX {b:List D}{a:Int}(hm:Mk b a):U (fun n=>gK n (.Z 1 b) a) fun r=>∃ s a',r=(true,[.str s,.Z 1 b,.int .i64 a'])∧s∈WO∧Mk b a'∧a≤a':=by
 refine U.eq (fun n=>IT n b a) ?_
 (refine U.A0 (G8 (by decide) (by decide) (by assumption)) ?_;rintro _ _ ⟨v,a,h,hv0,hv1,hm,hq1,hq2⟩;cases h;(try simp only [Y,D.i] at hq1 hq2);refine⟨rfl,?_⟩)
 refine U.Xu rfl ?_
 refine U.Xu (C6 (Zi hv0) (Zi hv1)) ?_
 obtain⟨s,h1,hs⟩:=MM (T:=WO) hv0 hv1
 refine U.Xu (by exact congrArg (fun x=>D7 (.leaf .str)&&J3 (.leaf .str) x) hs) ?_
 refine U.ret ⟨s,a,?_,h1,hm,by omega⟩
 exact congrArg (fun x:D=>(true,[D.str x.s,.Z 1 b,.int .i64 a])) hs
theorem bQ {d:Nat}{deep:Int}(hE:∀ b a,Mk b a→U (fun n=>I5 n deep (.Z 1 b) a) fun r=>∃ x a',r=(true,[x,.Z 1 b,.int .i64 a'])∧bS d x∧Mk b a'∧a≤a'∧((wE d x).length:Int)≤13*(a'-a)+1)
  {c:Int} (hc:0≤c) (hc2:c≤100) {b:List D} {a:Int} (hm:Mk b a):U (fun n=>B6 n deep c (.Z 1 b) a) fun r=>∃ xs a',r=(true,[.Z 1 b,.int .i64 a',.Z 6 xs])∧xs.length=c.toNat∧(∀ x∈xs,bS d x)∧Mk b a'∧a≤a'∧(sL (wE d) xs:Int)≤13*(a'-a)+c:=by
 have loop:∀ (a0:Int) (k:Nat) (i:Int) (a:Int) (xs:List D),c-i=k→0≤i→xs.length=i.toNat→(∀ x∈xs,bS d x)→Mk b a→a0≤a→(sL (wE d) xs:Int)≤13*(a-a0)+i→
   U (fun n=>T8 n deep c i (.Z 1 b) a (.Z 6 xs)) fun r=>∃ ys a',r=(false,[.int .i64 deep,.int .i64 c,.int .i64 c,.Z 1 b,.int .i64 a',.Z 6 ys])∧ys.length=c.toNat∧(∀ x∈ys,bS d x)∧Mk b a'∧a0≤a'∧(sL (wE d) ys:Int)≤13*(a'-a0)+c:=by
  intro a0 k
  induction k with
  |zero=>
   intro i a xs hk h0 hl hx hm ha hs
   refine U.eq (fun n=>mJ n deep c i b a xs) ?_
   refine U.no (Zk (by omega)) ?_
   have:i=c:=by omega
   subst this
   exact U.ret ⟨xs,a,rfl,hl,hx,hm,ha,hs⟩
  |succ k ih=>
   intro i a xs hk h0 hl hx hm ha hs
   refine U.eq (fun n=>mJ n deep c i b a xs) ?_
   refine U.Xu (Zi (by omega)) ?_
   refine U.A0 (hE b a hm) ?_
   rintro _ _ ⟨x,a',h,hwx,hm',ha',hs'⟩;cases h;refine⟨rfl,?_⟩
   obtain⟨dd,rfl⟩:∃ dd,d=dd+1:=by cases d with|zero=>exact hwx.elim|succ dd=>exact⟨dd,rfl⟩
   have hwx':=hwx
   obtain⟨k0,t,ar,rfl,hsh,har⟩:=hwx
   refine U.Xu rfl ?_
   refine U.Xu (Yc (by unfold D8;omega)) ?_
   have e1:IntKind.i64.wrap (i+1)=i+1:=J0 (by omega) (by omega)
   rw [e1]
   exact ih (i+1) a' (xs++[E k0 t ar]) (by omega) (by omega) (by simp;omega) (fun y hy=>by
    rcases Yy.1 hy with hy|hy
    ·exact hx y hy
    ·simp at hy;subst hy;exact hwx') hm' (by omega) (by rw [mC];omega)
 refine U.eq (fun n=>BV n deep c b a) ?_
 refine U.D4 (loop a c.toNat 0 a [] (by omega) (by omega) rfl (fun x hx=>by cases hx) hm (Int.le_refl _) (by simp [sL])) ?_ ?_
 ·rintro ds ⟨ys,a',h,_⟩;cases h
 ·rintro ds ⟨ys,a',h,h1,h2,h3,h4,h5⟩;cases h
  refine U.Xu rfl ?_
  exact U.ret ⟨ys,a',rfl,h1,h2,h3,h4,h5⟩
theorem EV:∀ (d:Nat) (deep:Int),-1000≤deep→deep≤d+1→d≤100→∀ (b:List D) (a:Int),Mk b a→
  U (fun n=>I5 n deep (.Z 1 b) a) fun r=>∃ x a',r=(true,[x,.Z 1 b,.int .i64 a'])∧bS (d+1) x∧Mk b a'∧a≤a'∧((wE (d+1) x).length:Int)≤13*(a'-a)+1:=by
 intro d
 induction d with
 |zero=>
  intro deep hd0 hd hd2 b a0 hm
  refine U.eq (fun n=>rG n deep b a0) ?_
  (refine U.A0 (G8 (by decide) (by decide) (by assumption)) ?_;rintro _ _ ⟨v,a,h,hv0,hv1,hm,hq1,hq2⟩;cases h;(try simp only [Y,D.i] at hq1 hq2);refine⟨rfl,?_⟩)
  refine U.Xu rfl ?_
  refine U.D4 (Q:=fun r=>∃ k:Int,r=(false,[.int .i64 deep,.int .i64 k,.bool true,.Z 1 b,.int .i64 a,.int .i64 0,.int .i64 0,.int .i64 0,.int .i64 0,.str [],.Z 6 []])∧(k=0∨k=1∨k=2)) (U.eq (fun n=>mI n _ _ _ _ _ _ _ _ _ _ _) (U.Xu (Zi (by simpa using hd)) (U.ret ⟨_,rfl,?_⟩))) ?_ ?_
  ·have e1:0≤v.tmod 3:=Int.tmod_nonneg 3 hv0
   have e2:v.tmod 3<3:=Int.tmod_lt_of_pos v (by decide)
   show v.tmod 3=0∨v.tmod 3=1∨v.tmod 3=2
   omega
  ·rintro ds ⟨k,h,_⟩;cases h
  ·rintro ds ⟨k,h,hk⟩;cases h
   refine U.Xu rfl ?_
   rcases hk with rfl|rfl|rfl
   ·refine U.Xu rfl ?_
    refine U.A0 (fK (by assumption)) ?_
    rintro _ _ ⟨s,a,h,hs1,hm,hq1⟩;cases h;(try simp only [Y,D.i] at hq1);refine⟨rfl,?_⟩
    refine U.Xu rfl ?_
    exact U.ret ⟨E 2 s [],a,rfl,⟨2,s,[],rfl,.inr (.inl ⟨rfl,hs1,rfl⟩),fun x hx=>by cases hx⟩,hm,by omega,by rw [qA (by decide)];omega⟩
   ·refine U.no rfl ?_
    refine U.Xu rfl ?_
    refine U.A0 (fK (by assumption)) ?_
    rintro _ _ ⟨s,a,h,hs1,hm,hq1⟩;cases h;(try simp only [Y,D.i] at hq1);refine⟨rfl,?_⟩
    refine U.Xu rfl ?_
    exact U.ret ⟨E 2 s [],a,rfl,⟨2,s,[],rfl,.inr (.inl ⟨rfl,hs1,rfl⟩),fun x hx=>by cases hx⟩,hm,by omega,by rw [qA (by decide)];omega⟩
   ·refine U.no rfl ?_
    refine U.no rfl ?_
    refine U.Xu rfl ?_
    refine U.A0 (MX (by assumption)) ?_
    rintro _ _ ⟨s,a,h,hs1,hm,hq1⟩;cases h;(try simp only [Y,D.i] at hq1);refine⟨rfl,?_⟩
    refine U.Xu rfl ?_
    exact U.ret ⟨E 1 s [],a,rfl,⟨1,s,[],rfl,.inl ⟨rfl,hs1,rfl⟩,fun x hx=>by cases hx⟩,hm,by omega,by rw [qA (by decide)];omega⟩
 |succ d ih=>
  intro deep hd0 hd hd2 b a0 hm
  have hd:deep≤(d:Int)+1+1:=by simpa using hd
  have e1:IntKind.i64.wrap (deep-1)=deep-1:=J0 (by omega) (by omega)
  have hE:-999≤deep→∀ b a,Mk b a→U (fun n=>I5 n (IntKind.i64.wrap (deep-1):Int) (.Z 1 b) a) fun r=>∃ x a',r=(true,[x,.Z 1 b,.int .i64 a'])∧bS (d+1) x∧Mk b a'∧a≤a'∧((wE (d+1) x).length:Int)≤13*(a'-a)+1:=by
   intro h
   rw [e1]
   exact ih (deep-1) (by omega) (by omega) (by omega)
  refine U.eq (fun n=>rG n deep b a0) ?_
  (refine U.A0 (G8 (by decide) (by decide) (by assumption)) ?_;rintro _ _ ⟨v,a,h,hv0,hv1,hm,hq1,hq2⟩;cases h;(try simp only [Y,D.i] at hq1 hq2);refine⟨rfl,?_⟩)
  refine U.Xu rfl ?_
  refine U.D4 (Q:=fun r=>∃ k:Int,r=(false,[.int .i64 deep,.int .i64 k,.bool (decide (deep≤1)),.Z 1 b,.int .i64 a,.int .i64 0,.int .i64 0,.int .i64 0,.int .i64 0,.str [],.Z 6 []])∧0≤k∧k≤11∧(2<k→2≤deep)∧(k≠0→v≠0)) (U.eq (fun n=>mI n _ _ _ _ _ _ _ _ _ _ _) (U.Xv (fun hc=>U.ret ⟨v.tmod 3,by rw [hc];rfl,?_⟩) (fun hc=>U.ret ⟨v,by rw [hc];rfl,hv0,by omega,fun _=>?_,fun h=>h⟩))) ?_ ?_
  ·have e1:0≤v.tmod 3:=Int.tmod_nonneg 3 hv0
   have e2:v.tmod 3<3:=Int.tmod_lt_of_pos v (by decide)
   refine⟨e1,by omega,fun h=>(by omega),fun h h'=>h (by rw [h'];rfl)⟩
  ·have:=Zl hc;omega
  ·rintro ds ⟨k,h,_⟩;cases h
  ·rintro ds ⟨k,h,hk0,hk1,hk2,hk3⟩;cases h
   refine U.Xu rfl ?_
   refine U.Xv (fun hk=>?_) (fun hn0=>?_)
   ·refine U.A0 (fK (by assumption)) ?_
    rintro _ _ ⟨s,a,h,hs1,hm,hq1⟩;cases h;(try simp only [Y,D.i] at hq1);refine⟨rfl,?_⟩
    refine U.Xu rfl ?_
    exact U.ret ⟨E 2 s [],a,rfl,⟨2,s,[],rfl,.inr (.inl ⟨rfl,hs1,rfl⟩),fun x hx=>by cases hx⟩,hm,by omega,by rw [qA (by decide)];omega⟩
   refine U.Xv (fun hk=>?_) (fun hn1=>?_)
   ·refine U.A0 (fK (by assumption)) ?_
    rintro _ _ ⟨s,a,h,hs1,hm,hq1⟩;cases h;(try simp only [Y,D.i] at hq1);refine⟨rfl,?_⟩
    refine U.Xu rfl ?_
    exact U.ret ⟨E 2 s [],a,rfl,⟨2,s,[],rfl,.inr (.inl ⟨rfl,hs1,rfl⟩),fun x hx=>by cases hx⟩,hm,by omega,by rw [qA (by decide)];omega⟩
   refine U.Xv (fun hk=>?_) (fun hn2=>?_)
   ·refine U.A0 (MX (by assumption)) ?_
    rintro _ _ ⟨s,a,h,hs1,hm,hq1⟩;cases h;(try simp only [Y,D.i] at hq1);refine⟨rfl,?_⟩
    refine U.Xu rfl ?_
    exact U.ret ⟨E 1 s [],a,rfl,⟨1,s,[],rfl,.inl ⟨rfl,hs1,rfl⟩,fun x hx=>by cases hx⟩,hm,by omega,by rw [qA (by decide)];omega⟩
   have n0:k≠0:=by simpa [Y,D.i] using hn0
   have n1:k≠1:=by simpa [Y,D.i] using hn1
   have n2:k≠2:=by simpa [Y,D.i] using hn2
   have nv:=hk3 n0
   have hE:=hE (by have:=hk2 (by omega);omega)
   have hbin:∀ {b:List D} {a:Int},Mk b a→a0+1≤a→U (fun n=>AE.A0 (cY n) fun r3=>bif B7 cY.B2 r3 then (AE.A0 (B8 n (21:Int) (.Z 1 b) a) fun r4=>bif B7 B8.B2 r4 then (bif (decide ((0:Int)≤(Y r4 0).i)&&decide ((Y r4 0).i<((Y r3 0).l.length:Int))) then (bif D7 (.leaf .str)&&J3 (.leaf .str) ((Y r3 0).l[(Y r4 0).i.toNat]?.getD D.top) then (AE.A0 (B6 n (.int .i64 (IntKind.i64.wrap (deep-(1:Int)))) (2:Int) (.Z 1 (Y r4 1).l) (.int .i64 (Y r4 2).i)) fun r5=>bif B7 B6.B2 r5 then (some (true,[(.agg [(4:Int),(0:Int),(0:Int),(0:Int),(.str ((Y r3 0).l[(Y r4 0).i.toNat]?.getD D.top).s),(.Z 6 (Y r5 2).l)]),(.Z 1 (Y r5 0).l),(.int .i64 (Y r5 1).i)])) else none) else none) else none) else none) else none)
     fun r=>∃ x a',r=(true,[x,.Z 1 b,.int .i64 a'])∧bS (d+1+1) x∧Mk b a'∧a0≤a'∧((wE (d+1+1) x).length:Int)≤13*(a'-a0)+1:=by
    intro b a hm hac
    refine U.A0 Ru ?_
    rintro _ _ h;cases h;refine⟨rfl,?_⟩
    refine U.Xu rfl ?_
    (refine U.A0 (G8 (by decide) (by decide) (by assumption)) ?_;rintro _ _ ⟨v,a,h,hv0,hv1,hm,hq1,hq2⟩;cases h;(try simp only [Y,D.i] at hq1 hq2);refine⟨rfl,?_⟩)
    refine U.Xu rfl ?_
    (refine U.Xu (C6 (Zi hv0) (Zi hv1)) ?_;obtain⟨s,hs1,hs⟩:=MM (T:=Nb) hv0 hv1;refine U.Xu (by exact congrArg (fun x=>D7 (.leaf .str)&&J3 (.leaf .str) x) hs) ?_)
    (refine U.A0 (bQ hE (c:=2) (by decide) (by decide) (by assumption)) ?_;rintro _ _ ⟨xs,a,h,hl,hx,hm,hq1,hq2⟩;cases h;(try simp only [Y,D.i] at hq1 hq2);refine⟨rfl,?_⟩)
    refine U.Xu rfl ?_
    refine U.ret ⟨E 4 s xs,a,?_,⟨4,s,xs,rfl,.inr (.inr (.inr (.inl ⟨rfl,hs1,hl⟩))),hx⟩,hm,by omega,by have:=NM (w:=wE (d+1)) (k:=4) (t:=s) (ar:=xs) (by decide) (.inr (.inr (.inr (.inl ⟨rfl,hs1,hl⟩))));rw [EU];omega⟩
    exact congrArg (fun x:D=>(true,[D.agg [.int .i64 4,.int .i64 0,.int .i64 0,.int .i64 0,.str x.s,.Z 6 xs],.Z 1 b,.int .i64 a])) hs
   refine U.Xv (fun hk=>?_) (fun hn=>?_)
   ·(refine U.A0 (G8 (by decide) (by decide) (by assumption)) ?_;rintro _ _ ⟨v,a,h,hv0,hv1,hm,hq1,hq2⟩;cases h;(try simp only [Y,D.i] at hq1 hq2);refine⟨rfl,?_⟩)
    refine U.Xu rfl ?_
    (refine U.Xu (C6 (Zi hv0) (Zi hv1)) ?_;obtain⟨s,hs1,hs⟩:=MM (T:=Kn) hv0 hv1;refine U.Xu (by exact congrArg (fun x=>D7 (.leaf .str)&&J3 (.leaf .str) x) hs) ?_)
    (refine U.A0 (bQ hE (c:=1) (by decide) (by decide) (by assumption)) ?_;rintro _ _ ⟨xs,a,h,hl,hx,hm,hq1,hq2⟩;cases h;(try simp only [Y,D.i] at hq1 hq2);refine⟨rfl,?_⟩)
    refine U.Xu rfl ?_
    refine U.ret ⟨E 3 s xs,a,?_,⟨3,s,xs,rfl,.inr (.inr (.inl ⟨rfl,hs1,hl⟩)),hx⟩,hm,by omega,by have:=NM (w:=wE (d+1)) (k:=3) (t:=s) (ar:=xs) (by decide) (.inr (.inr (.inl ⟨rfl,hs1,hl⟩)));rw [EU];omega⟩
    exact congrArg (fun x:D=>(true,[D.agg [.int .i64 3,.int .i64 0,.int .i64 0,.int .i64 0,.str x.s,.Z 6 xs],.Z 1 b,.int .i64 a])) hs
   refine U.Xv (fun hk=>hbin (a:=a) (by assumption) (by omega)) (fun hn=>?_)
   refine U.Xv (fun hk=>hbin (a:=a) (by assumption) (by omega)) (fun hn=>?_)
   refine U.Xv (fun hk=>hbin (a:=a) (by assumption) (by omega)) (fun hn=>?_)
   refine U.Xv (fun hk=>?_) (fun hn=>?_)
   ·(refine U.A0 (bQ hE (c:=3) (by decide) (by decide) (by assumption)) ?_;rintro _ _ ⟨xs,a,h,hl,hx,hm,hq1,hq2⟩;cases h;(try simp only [Y,D.i] at hq1 hq2);refine⟨rfl,?_⟩)
    refine U.Xu rfl ?_
    exact U.ret ⟨E 5 [] xs,a,rfl,⟨5,[],xs,rfl,.inr (.inr (.inr (.inr (.inl ⟨rfl,rfl,hl⟩)))),hx⟩,hm,by omega,by have:=NM (w:=wE (d+1)) (k:=5) (t:=[]) (ar:=xs) (by decide) (.inr (.inr (.inr (.inr (.inl ⟨rfl,rfl,hl⟩)))));rw [EU];omega⟩
   refine U.Xv (fun hk=>?_) (fun hn=>?_)
   ·(refine U.A0 (G8 (by decide) (by decide) (by assumption)) ?_;rintro _ _ ⟨v,a,h,hv0,hv1,hm,hq1,hq2⟩;cases h;(try simp only [Y,D.i] at hq1 hq2);refine⟨rfl,?_⟩)
    refine U.Xu rfl ?_
    have e2:IntKind.i64.wrap (1+v)=1+v:=J0 (by omega) (by omega)
    refine U.A0 (bQ hE (c:=IntKind.i64.wrap (1+v)) (by rw [e2];omega) (by rw [e2];omega) (by assumption)) ?_
    rintro _ _ ⟨xs,a,h,hl,hx,hm,hq1,hq2⟩;cases h;(try simp only [Y,D.i] at hq1 hq2);refine⟨rfl,?_⟩
    refine U.Xu rfl ?_
    rw [e2] at hl
    exact U.ret ⟨E 6 [] xs,a,rfl,⟨6,[],xs,rfl,.inr (.inr (.inr (.inr (.inr (.inl ⟨rfl,rfl,by omega,by omega⟩))))),hx⟩,hm,by omega,by have:=NM (w:=wE (d+1)) (k:=6) (t:=[]) (ar:=xs) (by decide) (.inr (.inr (.inr (.inr (.inr (.inl ⟨rfl,rfl,by omega,by omega⟩))))));rw [EU];omega⟩
   refine U.Xv (fun hk=>?_) (fun hn=>?_)
   ·(refine U.A0 (G8 (by decide) (by decide) (by assumption)) ?_;rintro _ _ ⟨v,a,h,hv0,hv1,hm,hq1,hq2⟩;cases h;(try simp only [Y,D.i] at hq1 hq2);refine⟨rfl,?_⟩)
    refine U.Xu rfl ?_
    have e2:IntKind.i64.wrap (2+v)=2+v:=J0 (by omega) (by omega)
    refine U.A0 (bQ hE (c:=IntKind.i64.wrap (2+v)) (by rw [e2];omega) (by rw [e2];omega) (by assumption)) ?_
    rintro _ _ ⟨xs,a,h,hl,hx,hm,hq1,hq2⟩;cases h;(try simp only [Y,D.i] at hq1 hq2);refine⟨rfl,?_⟩
    refine U.Xu rfl ?_
    rw [e2] at hl
    exact U.ret ⟨E 7 [] xs,a,rfl,⟨7,[],xs,rfl,.inr (.inr (.inr (.inr (.inr (.inr (.inl ⟨rfl,rfl,by omega,by omega⟩)))))),hx⟩,hm,by omega,by have:=NM (w:=wE (d+1)) (k:=7) (t:=[]) (ar:=xs) (by decide) (.inr (.inr (.inr (.inr (.inr (.inr (.inl ⟨rfl,rfl,by omega,by omega⟩)))))));rw [EU];omega⟩
   refine U.Xv (fun hk=>?_) (fun hn=>?_)
   ·(refine U.A0 (G8 (by decide) (by decide) (by assumption)) ?_;rintro _ _ ⟨v,a,h,hv0,hv1,hm,hq1,hq2⟩;cases h;(try simp only [Y,D.i] at hq1 hq2);refine⟨rfl,?_⟩)
    refine U.Xu rfl ?_
    have hv:v=0∨v=1:=by omega
    rcases hv with rfl|rfl
    ·refine U.Xu rfl ?_
     refine U.Xu rfl ?_
     refine U.A0 (fK (by assumption)) ?_
     rintro _ _ ⟨s,a,h,hs1,hm,hq1⟩;cases h;(try simp only [Y,D.i] at hq1);refine⟨rfl,?_⟩
     refine U.Xu rfl ?_
     refine U.A0 (bQ hE (c:=IntKind.i64.wrap (1+0)) (by decide) (by decide) (by assumption)) ?_
     rintro _ _ ⟨xs,a,h,hl,hx,hm,hq1,hq2⟩;cases h;(try simp only [Y,D.i] at hq1 hq2);refine⟨rfl,?_⟩
     refine U.Xu rfl ?_
     exact U.ret ⟨E 8 s xs,a,rfl,⟨8,s,xs,rfl,.inr (.inr (.inr (.inr (.inr (.inr (.inr (.inl ⟨rfl,hs1,hl⟩))))))),hx⟩,hm,by omega,by have:=NM (w:=wE (d+1)) (k:=8) (t:=s) (ar:=xs) (by decide) (.inr (.inr (.inr (.inr (.inr (.inr (.inr (.inl ⟨rfl,hs1,hl⟩))))))));rw [EU];omega⟩
    ·refine U.Xu rfl ?_
     refine U.Xu rfl ?_
     refine U.A0 (fK (by assumption)) ?_
     rintro _ _ ⟨s,a,h,hs1,hm,hq1⟩;cases h;(try simp only [Y,D.i] at hq1);refine⟨rfl,?_⟩
     refine U.Xu rfl ?_
     refine U.A0 (bQ hE (c:=IntKind.i64.wrap (1+1)) (by decide) (by decide) (by assumption)) ?_
     rintro _ _ ⟨xs,a,h,hl,hx,hm,hq1,hq2⟩;cases h;(try simp only [Y,D.i] at hq1 hq2);refine⟨rfl,?_⟩
     refine U.Xu rfl ?_
     exact U.ret ⟨E 9 s xs,a,rfl,⟨9,s,xs,rfl,.inr (.inr (.inr (.inr (.inr (.inr (.inr (.inr (.inl ⟨rfl,hs1,hl⟩)))))))),hx⟩,hm,by omega,by have:=NM (w:=wE (d+1)) (k:=9) (t:=s) (ar:=xs) (by decide) (.inr (.inr (.inr (.inr (.inr (.inr (.inr (.inr (.inl ⟨rfl,hs1,hl⟩)))))))));rw [EU];omega⟩
   ·(refine U.A0 (G8 (by decide) (by decide) (by assumption)) ?_;rintro _ _ ⟨v,a,h,hv0,hv1,hm,hq1,hq2⟩;cases h;(try simp only [Y,D.i] at hq1 hq2);refine⟨rfl,?_⟩)
    refine U.Xu rfl ?_
    (refine U.Xu (C6 (Zi hv0) (Zi hv1)) ?_;obtain⟨s,hs1,hs⟩:=MM (T:=GX) hv0 hv1;refine U.Xu (by exact congrArg (fun x=>D7 (.leaf .str)&&J3 (.leaf .str) x) hs) ?_)
    refine U.A0 (G8 (by decide) (by decide) (by assumption)) ?_
    rintro _ _ ⟨v2,a,h,hv20,hv21,hm,hq1,hq2⟩;cases h;(try simp only [Y,D.i] at hq1 hq2);refine⟨rfl,?_⟩
    refine U.Xu rfl ?_
    have e2:IntKind.i64.wrap (1+v2)=1+v2:=J0 (by omega) (by omega)
    refine U.A0 (bQ hE (c:=IntKind.i64.wrap (1+v2)) (by rw [e2];omega) (by rw [e2];omega) (by assumption)) ?_
    rintro _ _ ⟨xs,a,h,hl,hx,hm,hq1,hq2⟩;cases h;(try simp only [Y,D.i] at hq1 hq2);refine⟨rfl,?_⟩
    refine U.Xu rfl ?_
    rw [e2] at hl
    refine U.ret ⟨E 10 s xs,a,?_,⟨10,s,xs,rfl,.inr (.inr (.inr (.inr (.inr (.inr (.inr (.inr (.inr ⟨rfl,hs1,by omega,by omega⟩)))))))),hx⟩,hm,by omega,by have:=NM (w:=wE (d+1)) (k:=10) (t:=s) (ar:=xs) (by decide) (.inr (.inr (.inr (.inr (.inr (.inr (.inr (.inr (.inr ⟨rfl,hs1,by omega,by omega⟩)))))))));rw [EU];omega⟩
    exact congrArg (fun x:D=>(true,[D.agg [.int .i64 10,.int .i64 0,.int .i64 0,.int .i64 0,.str x.s,.Z 6 xs],.Z 1 b,.int .i64 a])) hs
theorem Mh {w v:D→List Tk}{k:Int}{t:Zt}{ar:List D}(hs:CB k t ar.length)(h:∀ x∈ar,w x=v x):kW w k t ar=kW v k t ar:=by
 have hl:∀ xs:List D,(∀ x∈xs,w x=v x)→lW w xs=lW v xs:=by
  intro xs
  induction xs with
  |nil=>intro _;rfl
  |cons x r ih=>
   intro h
   cases r with
   |nil=>exact h x (Yi ..)
   |cons y r=>
    show w x++((3,[44])::lW w (y::r))=v x++((3,[44])::lW v (y::r))
    rw [h x (Yi ..),ih fun z hz=>h z (Yk _ hz)]
 have ha:∀ x,w x=v x→aW w x=aW v x:=fun x h=>by unfold aW;rw [h]
 rcases hs with ⟨rfl,_,hm⟩|⟨rfl,_,hm⟩|⟨rfl,_,hm⟩|⟨rfl,_,hm⟩|⟨rfl,_,hm⟩|⟨rfl,_,hm,hm2⟩|⟨rfl,_,hm,hm2⟩|⟨rfl,_,hm⟩|⟨rfl,_,hm⟩|⟨rfl,_,hm,hm2⟩
 ·rfl
 ·rfl
 ·match ar,hm,h with
  |[a],_,h=>
   show [(3,t)]++aW w a=[(3,t)]++aW v a
   rw [ha a (h a (by simp))]
 ·match ar,hm,h with
  |[a,b],_,h=>
   show aW w a++([(3,t)]++aW w b)=aW v a++([(3,t)]++aW v b)
   rw [ha a (h a (by simp)),ha b (h b (by simp))]
 ·match ar,hm,h with
  |[a,b,c],_,h=>
   show aW w a++([(3,[63])]++(aW w b++([(3,[58])]++aW w c)))=aW v a++([(3,[63])]++(aW v b++([(3,[58])]++aW v c)))
   rw [ha a (h a (by simp)),ha b (h b (by simp)),ha c (h c (by simp))]
 ·show [(3,[123])]++(lW w ar++[(3,[125])])=[(3,[123])]++(lW v ar++[(3,[125])])
  rw [hl ar h]
 ·match ar,hm,h with
  |a::r,_,h=>
   show [(3,[123])]++(w a++([(3,[123])]++(lW w r++[(3,[125]),(3,[125])])))=[(3,[123])]++(v a++([(3,[123])]++(lW v r++[(3,[125]),(3,[125])])))
   rw [h a (Yi ..),hl r fun z hz=>h z (Yk _ hz)]
 ·match ar,hm,h with
  |[a],_,h=>
   show [(1,t),(3,[91])]++(w a++[(3,[93])])=[(1,t),(3,[91])]++(v a++[(3,[93])])
   rw [h a (by simp)]
 ·match ar,hm,h with
  |[a,b],_,h=>
   show [(1,t),(3,[91])]++(w a++([(3,[58])]++(w b++[(3,[93])])))=[(1,t),(3,[91])]++(v a++([(3,[58])]++(v b++[(3,[93])])))
   rw [h a (by simp),h b (by simp)]
 ·show [(1,t),(3,[40])]++(lW w ar++[(3,[41])])=[(1,t),(3,[40])]++(lW v ar++[(3,[41])])
  rw [hl ar h]
theorem Ch:∀ {n:Nat} {x:D},bS n x→wE (n+1) x=wE n x
 |0,_,h=>h.elim
 |n+1,_,⟨k,t,ar,e,h2,h3⟩=>by
  subst e
  show kW (wE (n+1)) k t ar=kW (wE n) k t ar
  exact Mh h2 fun x hx=>Ch (h3 x hx)
theorem MT:∀ {m n:Nat} {x:D},n≤m→bS n x→wE m x=wE n x
 |0,n,x,hm,h=>by
  have:n=0:=by omega
  subst this;rfl
 |m+1,n,x,hm,h=>by
  by_cases e:n=m+1
  ·subst e;rfl
  ·rw [Ch (cS (by omega) h)];exact MT (by omega) h
theorem JK {w v:D→List Tk}:∀ {xs:List D},(∀ x∈xs,w x=v x)→sL w xs=sL v xs
 |[],_=>rfl
 |x::xs,h=>by simp only [sL];rw [h x (Yi ..),JK fun z hz=>h z (Yk _ hz)]
theorem QR (d:Nat)(hd:d≤3){b:List D}{a:Int}(hm:Mk b a):U (fun n=>I5 n ((d+1:Nat):Int) (.Z 1 b) a) fun r=>∃ x a',r=(true,[x,.Z 1 b,.int .i64 a'])∧bS (d+1) x∧Mk b a'∧a≤a'∧((wE 4 x).length:Int)≤13*(a'-a)+1:=
 (EV d _ (by omega) (by omega) (by omega) b a hm).mono fun _ ⟨x,a',h1,h2,h3,h4,h5⟩=>⟨x,a',h1,h2,h3,h4,by rw [MT (by omega) h2];exact h5⟩
theorem Z4 (d:Nat)(hd:d≤3){c:Int}(hc:0≤c)(hc2:c≤100){b:List D}{a:Int}(hm:Mk b a):U (fun n=>B6 n ((d+1:Nat):Int) c (.Z 1 b) a) fun r=>∃ xs a',r=(true,[.Z 1 b,.int .i64 a',.Z 6 xs])∧xs.length=c.toNat∧(∀ x∈xs,bS (d+1) x)∧Mk b a'∧a≤a'∧(sL (wE 4) xs:Int)≤13*(a'-a)+c:=
 (bQ (fun b a hm=>EV d _ (by omega) (by omega) (by omega) b a hm) hc hc2 hm).mono fun _ ⟨xs,a',h1,h2,h3,h4,h5,h6⟩=>⟨xs,a',h1,h2,h3,h4,h5,by rw [JK fun x hx=>MT (by omega) (h3 x hx)];exact h6⟩
def I (k:Int)(nm ty:Zt)(sg:Bool)(es fs bs its els ps qs:List D):D:=
 .agg [.int .i64 k,.str nm,.str ty,.bool sg,.Z 6 es,.Z 6 fs,.Z 5 bs,.Z 11 its,.Z 11 els,.Z 2 ps,.Z 2 qs]
def Wa (x:D):Prop:=∃ nm es,x = .agg [.str nm,.Z 6 es]∧es.length≤1∧∀ e∈es,bS 4 e
def Wo (es fs bs its els ps qs:List D):Prop:=es.length≤4∧fs.length≤1∧bs.length≤1∧its.length≤2∧els.length≤1∧ps.length≤2∧qs.length≤2
theorem D9 {P:D→Prop}:∀ x∈([]:List D),P x:=fun _ h=>by cases h
theorem oL {P:D→Prop}{y:D}(h:P y):∀ x∈[y],P x:=fun _ hx=>by rw [Yn.1 hx];exact h
theorem EO {P:D→Prop}{l:List D}{y:D}(hl:∀ x∈l,P x)(h:P y):∀ x∈l++[y],P x:=fun x hx=>by
 rcases Yy.1 hx with hx|hx
 ·exact hl x hx
 ·rw [Yn.1 hx];exact h
def M (nm:Zt)(ps qs its:List D):D:= .agg [.str nm,.Z 11 ps,.Z 11 qs,.Z 11 its]
section
def ID:Zt:=[119,105,114,101]
def iF:Zt:=[114,101,103]
def eZ:Zt:=[105,110,116,101,103,101,114]
def MZ:Zt:=[105,110,112,117,116]
def kO:Zt:=[111,117,116,112,117,116]
def Y2:Zt:=[111,117,116,112,117,116,32,114,101,103]
def mF:Zt:=[108,111,99,97,108,112,97,114,97,109]
def oM:Zt:=[112,97,114,97,109,101,116,101,114]
def wF:Zt:=[99,108,107]
def sP:Zt:=[115,117,98]
abbrev NT:=List (Zt×Nat×Bool)
def sR:NT:=[(ID,2,false)]
def GL:NT:=[(iF,4,true),(eZ,0,false)]
def kC:NT:=[(MZ,2,false),(kO,2,false),(Y2,2,true)]
def zH:NT:=[(MZ,2,false),(iF,2,false),(eZ,0,false)]
def xN (T:NT)(x:D):Prop:=∃ nm ty q f sg es fs,x=I 1 nm ty sg es fs [] [] [] [] []∧nm∈Z7∧(ty,q,f)∈T∧(ty=eZ→sg=true)∧es.length≤q∧(es.length=0∨es.length=2∨es.length=4)∧(fs=[]∨(f=true∧fs.length=1∧es.length≤2))∧(∀ e∈es,bS 4 e)∧∀ e∈fs,bS 4 e
def xC (x:D):Prop:=∃ nm es,x = .agg [.str nm,.Z 6 es]∧nm∈Z7∧es.length≤1∧∀ e∈es,bS 4 e
def gB (t:Zt)(its:List D):D:=I 11 t [] false [] [] [] its [] [] []
def xI:Nat→D→Prop
 |0,_=>False
 |n+1,x=>(xN sR x∨xN GL x)∨(∃ nm e,x=I 2 nm mF false [e] [] [] [] [] [] []∧nm∈Z7∧bS 4 e)∨(∃ nm,x=I 3 nm [] false [] [] [] [] [] [] []∧nm∈Z7)∨
  (∃ l e,x=I 4 [] [] false [l,e] [] [] [] [] [] []∧isLeft l∧bS 4 e)∨(∃ s,x=I 5 [] [] false [] [] [s] [] [] [] []∧qL 4 s)∨(∃ s,x=I 6 wF [] false [] [] [s] [] [] [] []∧qL 4 s)∨
  (∃ sg es its s,x=I 7 [102] [] sg es [] [s] its [] [] []∧(es.length=0∨es.length=2)∧(∀ e∈es,bS 4 e)∧1≤its.length∧its.length≤2∧(∀ i∈its,xN zH i)∧qL 4 s)∨
  (∃ k ps qs,x=I 8 [117,48+k] sP false [] [] [] [] [] ps qs∧k.toNat≤8∧ps.length≤2∧qs.length≤2∧(∀ c∈ps,xC c)∧∀ c∈qs,xC c)∨
  (∃ es its,x=I 9 [105] [] false es [] [] [gB [103] its] [] [] []∧es.length=3∧(∀ e∈es,bS 4 e)∧its.length≤2∧∀ i∈its,xI n i)∨
  (∃ e its els,x=I 10 [] [] false [e] [] [] [gB [116] its] els [] []∧bS 4 e∧its.length≤2∧(∀ i∈its,xI n i)∧(els=[]∨∃ ys,els=[gB [101] ys]∧ys.length≤2∧∀ i∈ys,xI n i))
theorem rJ {T:NT}{x:D}(h:xN T x):∃ nm ty sg es fs,x=I 1 nm ty sg es fs [] [] [] [] []:=by
 obtain⟨nm,ty,q,f,sg,es,fs,h0,_⟩:=h
 exact⟨nm,ty,sg,es,fs,h0⟩
theorem Og {n:Nat}{x:D}(h:xI n x):∃ k nm ty sg es fs bs its els ps qs,x=I k nm ty sg es fs bs its els ps qs:=by
 cases n with
 |zero=>exact h.elim
 |succ n=>
  rcases h with (⟨nm,ty,q,f,sg,es,fs,rfl,_⟩|⟨nm,ty,q,f,sg,es,fs,rfl,_⟩)|⟨nm,e,rfl,_⟩|⟨nm,rfl,_⟩|⟨l,e,rfl,_⟩|⟨s,rfl,_⟩|⟨s,rfl,_⟩|⟨sg,es,its,s,rfl,_⟩|⟨k,ps,qs,rfl,_⟩|⟨es,its,rfl,_⟩|⟨e,its,els,rfl,_⟩
  all_goals exact⟨_,_,_,_,_,_,_,_,_,_,_,rfl⟩
theorem Ck {v:Int}(h0:0≤v)(h1:v≤9):U (fun n=>gU n v) fun r=>r=(true,[.str [48+UInt8.ofNat v.toNat]]):=by
 have e:∀ k:Nat,k<10→(List.map toByte ([(.int .u8 (IntKind.u8.wrap (IntKind.i64.wrap ((48:Int)+(k:Int)))))]:List D))++[]=[48+UInt8.ofNat k]:=by decide +kernel
 refine U.eq (fun n=>TF n v) ?_
 refine U.D4 (Q:=fun r=>r=(false,[.int .i64 v,.str []])) (U.eq (fun n=>IS n v []) (U.no (Zk (by omega)) (U.ret rfl))) (fun ds h=>by cases h) fun ds h=>?_
 cases h
 obtain⟨k,rfl⟩:∃ k:Nat,v=(k:Int):=⟨v.toNat,by omega⟩
 refine U.Xu rfl (U.Xu (Zi (by show 1+0≤S6;simp only [S6];omega)) (U.ret ?_))
 show (true,[D.str _])=_
 rw [show ((k:Nat):Int).toNat=k from rfl,← e k (by omega)]
 rfl
section
variable {b:List D} {a:Int}
def Uo (T:NT)(c:Int)(ty:Zt):Bool:=T.any fun p=>(p.1==ty&&(bif ty==eZ then p.2.1==0 else decide ((p.2.1:Int)=2*c)))&&(!(decide (c=2)&&(ty==iF||ty==Y2))||p.2.2)
end
end
def xP (x:D):Prop:=∃ nm e,x=I 2 nm oM false [e] [] [] [] [] [] []∧nm∈Z7∧bS 4 e
def xM (k:Nat)(x:D):Prop:=∃ ps qs its,x=M [109,48+UInt8.ofNat k] ps qs its∧ps.length≤2∧qs.length≤3∧its.length≤5∧(∀ p∈ps,xP p)∧(∀ q∈qs,xN kC q)∧∀ i∈its,xI 4 i
def Fw (ms:List D):Prop:=∀ (k:Nat) (h:k<ms.length),xM k ms[k]
theorem Ku {ms:List D}{x:D}(h:Fw ms)(hx:xM ms.length x):Fw (ms++[x]):=fun k hk=>by
 by_cases e:k<ms.length
 ·rw [Zp e];exact h k e
 ·have:k=ms.length:=by rw [Xx,Yu] at hk;omega
  subst this
  simpa using hx
theorem Oh:Fw []:=fun k h=>by cases h
def Q6:Zt:=[98,101,103,105,110]
def dD:Zt:=[101,110,100]
def vI:Zt:=[105,102]
def cT:Zt:=[101,108,115,101]
def oO:Zt:=[99,97,115,101]
def bZ:Zt:=[101,110,100,99,97,115,101]
def wJ:Zt:=[100,101,102,97,117,108,116]
def uZ:Zt:=[102,111,114]
def nK:Zt:=[97,115,115,101,114,116]
def pW (e:D):List Tk:=[(3,[40])]++(wE 4 e++[(3,[41])])
def x0 (l:List D):D:=l[0]?.getD .top
def x1 (l:List D):D:=l[1]?.getD .top
def x2 (l:List D):D:=l[2]?.getD .top
def Z9 (t:Zt)(es:List D):List Tk:=
 [(1,uZ),(3,[40]),(1,t),(3,[61])]++(wE 4 (x0 es)++([(3,[59])]++(wE 4 (x1 es)++([(3,[59]),(1,t),(3,[61])]++(wE 4 (x2 es)++[(3,[41])])))))
def EP (a:D):D:= .agg (a.cells.drop 1)
def fS (w:D→List Tk)(a:D):List Tk:=(bif (a.at_ 0).l.isEmpty then [(1,wJ)] else [])++(lW (wE 4) (a.at_ 0).l++([(3,[58])]++w (EP a)))
def sW (w:D→List Tk)(k:Int)(t:Zt)(es bs zs:List D):List Tk:=
 bif k==1 then [(1,Q6)]++(bs.flatMap w++[(1,dD)])
 else bif k==2 then wE 4 (x0 es)++([(3,[61])]++(wE 4 (x1 es)++[(3,[59])]))
 else bif k==3 then wE 4 (x0 es)++([(3,[60,61])]++(wE 4 (x1 es)++[(3,[59])]))
 else bif k==4 then [(1,vI)]++(pW (x0 es)++(w (x0 bs)++(bif ((x1 bs).at_ 0).i==8 then [] else [(1,cT)]++w (x1 bs))))
 else bif k==5 then [(1,oO)]++(pW (x0 es)++(zs.flatMap (fS w)++[(1,bZ)]))
 else bif k==6 then Z9 t es++w (x0 bs)
 else bif k==7 then (bif t.isEmpty then [] else [(1,t),(3,[58])])++([(1,nK)]++(pW (x0 es)++[(3,[59])]))
 else [(3,[59])]
def wS:Nat→D→List Tk
 |0,_=>[]
 |n+1,x=>sW (wS n) (x.at_ 0).i (x.at_ 1).s (x.at_ 2).l (x.at_ 3).l (x.at_ 4).l
theorem Vn (n:Nat)(k:Int)(t:Zt)(es bs zs:List D):wS (n+1) (S k t es bs zs)=sW (wS n) k t es bs zs:=rfl
theorem Ki {es:List D}{s:D}{n:Nat}(h:qL n s):EP (arm es s)=s:=by
 cases n with
 |zero=>exact h.elim
 |succ n=>obtain⟨k,t,fs,bs,zs,rfl,_⟩:=h;rfl
theorem Ts (es:List D)(s:D):((arm es s).at_ 0).l=es:=rfl
section
theorem XT {b:List D}{a0:Int}(hm:Mk b a0):U (fun n=>bE n (.Z 1 b) a0) fun r=>∃ x a',r=(true,[x,.Z 1 b,.int .i64 a'])∧isLeft x∧Mk b a'∧a0≤a'∧((wE 4 x).length:Int)≤13*(a'-a0)+1:=by
 refine U.eq (fun n=>NY n b a0) ?_
 (refine U.A0 (G8 (by decide) (by decide) (by assumption)) ?_;rintro _ _ ⟨v,a,h,hv0,hv1,hm,hq1,hq2⟩;cases h;(try simp only [Y,D.i] at hq1 hq2);refine⟨rfl,?_⟩)
 refine U.Xu rfl ?_
 refine U.Xu (C6 (Zi hv0) (Zi hv1)) ?_
 have hv:v=0∨v=1∨v=2:=by omega
 have fin:∀ (k:Int),(v=0∧k=2∨v=1∧k=8∨v=2∧k=9)→U (fun n=>AE.A0 (K3 n (.Z 1 b) a) fun r2=>bif B7 K3.B2 r2 then
   (AE.A0 (B6 n (2:Int) v (.Z 1 (Y r2 1).l) (.int .i64 (Y r2 2).i)) fun r3=>bif B7 B6.B2 r3 then
    (some (true,[(.agg [k,(0:Int),(0:Int),(0:Int),(.str (Y r2 0).s),(.Z 6 (Y r3 2).l)]),(.Z 1 (Y r3 0).l),(.int .i64 (Y r3 1).i)])) else none) else none)
   fun r=>∃ x a',r=(true,[x,.Z 1 b,.int .i64 a'])∧isLeft x∧Mk b a'∧a0≤a'∧((wE 4 x).length:Int)≤13*(a'-a0)+1:=by
  intro k hk
  refine U.A0 (fK hm) ?_
  rintro _ _ ⟨s,a,h,hs,hm,hq3⟩;cases h;(try simp only [Y,D.i] at hq3);refine⟨rfl,?_⟩
  refine U.Xu rfl ?_
  refine U.A0 (Z4 1 (by decide) (c:=v) hv0 (by omega) hm) ?_
  rintro _ _ ⟨xs,a,h,hl,hx,hm,hq4,hq5⟩;cases h;(try simp only [Y,D.i] at hq4 hq5);refine⟨rfl,?_⟩
  refine U.Xu rfl ?_
  refine U.ret ⟨E k s xs,a,rfl,⟨k,s,xs,rfl,hs,?_,hx⟩,hm,by omega,?_⟩
  rcases hk with ⟨e1,e2⟩|⟨e1,e2⟩|⟨e1,e2⟩
  ·exact .inl ⟨e2,by rw [hl,e1];rfl⟩
  ·exact .inr (.inl ⟨e2,by rw [hl,e1];rfl⟩)
  ·exact .inr (.inr ⟨e2,by rw [hl,e1];rfl⟩)
  ·rcases hk with ⟨e1,e2⟩|⟨e1,e2⟩|⟨e1,e2⟩
   ·subst e2
    have:xs=[]:=Zh.1 (by omega)
    subst this
    rw [qA (.inr rfl)];omega
   ·subst e2
    have:=NM (w:=wE 3) (k:=8) (t:=s) (ar:=xs) (by decide) (.inr (.inr (.inr (.inr (.inr (.inr (.inr (.inl ⟨rfl,hs,by omega⟩))))))))
    rw [EU,← JK (w:=wE 4) (v:=wE 3) fun x h=>(MT (by decide) (hx x h)).trans (MT (by decide) (hx x h)).symm] at *
    omega
   ·subst e2
    have:=NM (w:=wE 3) (k:=9) (t:=s) (ar:=xs) (by decide) (.inr (.inr (.inr (.inr (.inr (.inr (.inr (.inr (.inl ⟨rfl,hs,by omega⟩)))))))))
    rw [EU,← JK (w:=wE 4) (v:=wE 3) fun x h=>(MT (by decide) (hx x h)).trans (MT (by decide) (hx x h)).symm] at *
    omega
 rcases hv with rfl|rfl|rfl
 ·exact U.Xu rfl (fin 2 (.inl ⟨rfl,rfl⟩))
 ·exact U.Xu rfl (fin 8 (.inr (.inl ⟨rfl,rfl⟩)))
 ·exact U.Xu rfl (fin 9 (.inr (.inr ⟨rfl,rfl⟩)))
theorem Vo {n:Nat}{t:Zt}{es bs zs:List D}:(wS (n+1) (S 1 t es bs zs)).length=sL (wS n) bs+2:=by
 show ([(1,Q6)]++(bs.flatMap (wS n)++[(1,dD)]):List Tk).length=_
 simp only [Xx,Xw,Xy,uC];omega
theorem Vp {n:Nat}{k:Int}{t:Zt}{l e:D}{bs zs:List D}(hk:k=2∨k=3):(wS (n+1) (S k t [l,e] bs zs)).length=(wE 4 l).length+(wE 4 e).length+2:=by
 rcases hk with rfl|rfl
 ·show (wE 4 l++([(3,[61])]++(wE 4 e++[(3,[59])])):List Tk).length=_
  simp only [Xx,Xw,Xy];omega
 ·show (wE 4 l++([(3,[60,61])]++(wE 4 e++[(3,[59])])):List Tk).length=_
  simp only [Xx,Xw,Xy];omega
theorem Vq {n:Nat}{t:Zt}{es zs:List D}{b c:D}(hl:es.length=1):(wS (n+1) (S 4 t es [b,c] zs)).length≤sL (wE 4) es+(wS n b).length+(bif (c.at_ 0).i==8 then 0 else 1+(wS n c).length)+3:=by
 match es,hl with
 |[e],_=>
  show ([(1,vI)]++(pW e++(wS n b++(bif (c.at_ 0).i==8 then [] else [(1,cT)]++wS n c))):List Tk).length≤_
  cases (c.at_ 0).i==8<;>simp only [cond_true,cond_false,sL,pW,Xx,Xw,Xy]<;>omega
theorem Pp {n:Nat}{t:Zt}{es bs zs:List D}(hl:es.length=1):(wS (n+1) (S 5 t es bs zs)).length=sL (wE 4) es+sL (fS (wS n)) zs+4:=by
 match es,hl with
 |[e],_=>
  show ([(1,oO)]++(pW e++(zs.flatMap (fS (wS n))++[(1,bZ)])):List Tk).length=_
  simp only [sL,pW,uC,Xx,Xw,Xy];omega
theorem Bi {t:Zt}{es:List D}(hl:es.length=3):(Z9 t es).length=sL (wE 4) es+9:=by
 match es,hl with
 |[a,b,c],_=>
  show ([(1,uZ),(3,[40]),(1,t),(3,[61])]++(wE 4 a++([(3,[59])]++(wE 4 b++([(3,[59]),(1,t),(3,[61])]++(wE 4 c++[(3,[41])]))))):List Tk).length=_
  simp only [sL,Xx,Xw,Xy];omega
theorem Vr {n:Nat}{t:Zt}{es zs:List D}{b:D}(hl:es.length=3):(wS (n+1) (S 6 t es [b] zs)).length=sL (wE 4) es+(wS n b).length+9:=by
 show (Z9 t es++wS n b).length=_
 rw [Xx,Bi hl];omega
theorem Vs {n:Nat}{t:Zt}{es bs zs:List D}(hl:es.length=1):(wS (n+1) (S 7 t es bs zs)).length=sL (wE 4) es+(bif t.isEmpty then 0 else 2)+4:=by
 match es,hl with
 |[e],_=>
  show ((bif t.isEmpty then [] else [(1,t),(3,[58])])++([(1,nK)]++(pW e++[(3,[59])])):List Tk).length=_
  cases t.isEmpty<;>simp only [cond_true,cond_false,sL,pW,Xx,Xw,Xy]<;>omega
theorem Gv {w:D→List Tk}{es:List D}{k:Int}{t:Zt}{fs bs zs:List D}:(fS w (arm es (S k t fs bs zs))).length=(bif es.isEmpty then 1 else 0)+(lW (wE 4) es).length+1+(w (S k t fs bs zs)).length:=by
 show ((bif es.isEmpty then [(1,wJ)] else [])++(lW (wE 4) es++([(3,[58])]++w (S k t fs bs zs))):List Tk).length=_
 cases es.isEmpty<;>simp only [cond_true,cond_false,Xx,Xw,Xy]<;>omega
section
variable {d:Nat} {deep:Int} {b:List D} {a a0 v:Int}
def Cm (d:Nat)(deep:Int):Prop:=∀ b a,Mk b a→U (fun n=>F4 n (IntKind.i64.wrap (deep-1):Int) (.Z 1 b) a) (fun r=>∃ x a',r=(true,[x,.Z 1 b,.int .i64 a'])∧qL (d) x∧Mk b a'∧a≤a'∧((wS (d) x).length:Int)≤13*(a'-a)+4)
theorem Fl (hS:Cm d deep):∀ (c:Nat) (bs:List D) (a:Int),c≤3→bs.length+c≤3→(∀ x∈bs,qL d x)→Mk b a→
  U (fun n=>W1 n deep (c:Int) (.Z 1 b) a (0:Int) (.str []) (1:Int) (.str []) (.Z 6 []) (.Z 5 []) (.Z 6 []) (.Z 6 []) (.Z 5 bs) (.Z 6 []))
   fun r=>∃ (q:Int) (bs':List D) (a':Int),r=(false,[.int .i64 deep,.int .i64 q,.Z 1 b,.int .i64 a',.int .i64 0,.str [],.int .i64 1,.str [],.Z 6 [],.Z 5 [],.Z 6 [],.Z 6 [],.Z 5 bs',.Z 6 []])∧bs'.length≤3∧(∀ x∈bs',qL d x)∧Mk b a'∧a≤a'∧(sL (wS d) bs':Int)≤sL (wS d) bs+13*(a'-a)+4*c:=by
 intro c
 induction c with
 |zero=>
  intro bs a hc hl hb hm
  exact U.eq (fun n=>oE n _ _ _ _ _ _ _ _ _ _ _ _ _ _) (U.no rfl (U.ret ⟨_,bs,a,rfl,by omega,hb,hm,by omega,by omega⟩))
 |succ c ih=>
  intro bs a hc hl hb hm
  have hw:IntKind.i64.wrap (((c+1:Nat):Int)-1)=(c:Int):=by rw [J0 (by omega) (by omega)];omega
  refine U.eq (fun n=>oE n _ _ _ _ _ _ _ _ _ _ _ _ _ _) (U.Xu (Zi (by omega)) (U.A0 (hS b a hm) ?_))
  rintro _ _ ⟨x,a',h,hx,hm,hq1,hq2⟩
  cases h
  have hx0:=hx
  cases d with
  |zero=>exact hx.elim
  |succ d=>
   obtain⟨k,t,es,bs',zs,rfl,_⟩:=hx
   rw [hw]
   refine⟨rfl,U.Xu rfl (U.Xu (Yc (by simp only [D8];omega)) ((ih (bs++[S k t es bs' zs]) a' (by omega) (by simp;omega) (fun y hy=>?_) hm).mono fun r hr=>?_))⟩
   ·rcases Yy.1 hy with hy|hy
    ·exact hb y hy
    ·rw [Yn.1 hy];exact hx0
   obtain⟨q,bs2,a2,g1,g2,g3,g4,g5,g6⟩:=hr
   rw [mC] at g6
   exact⟨q,bs2,a2,g1,g2,g3,g4,by omega,by omega⟩
theorem Kw (hS:Cm d deep)(es:List D):∀ (c:Nat) (zs:List D) (a:Int),c≤3→zs.length+c≤3→(∀ x∈zs,Tc d x)→Mk b a→
  U (fun n=>W2 n deep (c:Int) (.Z 1 b) a (0:Int) (.str []) (5:Int) (.str []) (.Z 6 []) (.Z 5 []) (.Z 6 []) (.Z 6 es) (.Z 5 []) (.Z 6 zs))
   fun r=>∃ (q:Int) (zs':List D) (a':Int),r=(false,[.int .i64 deep,.int .i64 q,.Z 1 b,.int .i64 a',.int .i64 0,.str [],.int .i64 5,.str [],.Z 6 [],.Z 5 [],.Z 6 [],.Z 6 es,.Z 5 [],.Z 6 zs'])∧zs'.length=zs.length+c∧(∀ x∈zs',Tc d x)∧Mk b a'∧a≤a'∧(sL (fS (wS d)) zs':Int)≤sL (fS (wS d)) zs+13*(a'-a)+6*c:=by
 intro c
 induction c with
 |zero=>
  intro zs a hc hl hb hm
  exact U.eq (fun n=>oF n _ _ _ _ _ _ _ _ _ _ _ _ _ _) (U.no rfl (U.ret ⟨_,zs,a,rfl,rfl,hb,hm,by omega,by omega⟩))
 |succ c ih=>
  intro zs a hc hl hb hm
  have hw:IntKind.i64.wrap (((c+1:Nat):Int)-1)=(c:Int):=by rw [J0 (by omega) (by omega)];omega
  refine U.eq (fun n=>oF n _ _ _ _ _ _ _ _ _ _ _ _ _ _) (U.Xu (Zi (by omega)) ?_)
  rw [hw]
  (refine U.A0 (G8 (by decide) (by decide) (by assumption)) ?_;rintro _ _ ⟨v,a,h,hv0,hv1,hm,hq1,hq2⟩;cases h;(try simp only [Y,D.i] at hq1 hq2);refine⟨rfl,?_⟩)
  refine U.Xu rfl ?_
  have e2:IntKind.i64.wrap (1+v)=1+v:=J0 (by omega) (by omega)
  refine U.A0 (Z4 0 (by decide) (c:=IntKind.i64.wrap (1+v)) (by rw [e2];omega) (by rw [e2];omega) hm) ?_
  rintro _ _ ⟨xs,a,h,hl2,hxs,hm,hq3,hq4⟩;cases h;(try simp only [Y,D.i] at hq3 hq4);refine⟨rfl,?_⟩
  rw [e2] at hl2 hq4
  refine U.Xu rfl ?_
  refine U.A0 (hS b a hm) ?_
  rintro _ _ ⟨x,a',h,hx,hm,hq5,hq6⟩
  cases h
  have hx0:=hx
  cases d with
  |zero=>exact hx.elim
  |succ d=>
   obtain⟨k,t,es',bs',zs',rfl,_⟩:=hx
   refine⟨rfl,U.Xu rfl (U.Xu (Yc (by simp only [D8];omega)) ((ih (zs++[arm xs (S k t es' bs' zs')]) a' (by omega) (by simp;omega) (fun y hy=>?_) hm).mono fun r hr=>?_))⟩
   ·rcases Yy.1 hy with hy|hy
    ·exact hb y hy
    ·rw [Yn.1 hy]
     exact⟨xs,_,rfl,by omega,fun e he=>cS (by decide) (hxs e he),hx0⟩
   ·obtain⟨q,as2,a2,h1,h2,h3,h4,h5,h6⟩:=hr
    have hw1:=uD (wE 4) xs (by omega)
    have hne:xs.isEmpty=false:=by
     cases xs with
     |nil=>simp at hl2;omega
     |cons=>rfl
    rw [mC,Gv,hne] at h6
    simp only [cond_false] at h6
    exact⟨q,as2,a2,h1,by rw [h2];simp;omega,h3,h4,by omega,by omega⟩
theorem Cn (k:Int)(hk:k=2∨k=3)(hm:Mk b a)(ha:a0≤a) :
  U (fun n=>AE.A0 (bE n (.Z 1 b) a) fun r2=>bif B7 bE.B2 r2 then (AE.A0 (I5 n (3:Int) (.Z 1 (Y r2 1).l) (.int .i64 (Y r2 2).i)) fun r3=>bif B7 I5.B2 r3 then
   (some (true,[(.agg [.int .i64 k,(.str ([]:Zt)),(.Z 6 ([(C0 B1 (Y r2 0)),(C0 B1 (Y r3 0))]:List D)),(.Z 5 ([]:List D)),(.Z 6 ([]:List D))]),(.Z 1 (Y r3 1).l),.int .i64 (Y r3 2).i])) else none) else none) (fun r=>∃ x a',r=(true,[x,.Z 1 b,.int .i64 a'])∧qL (d+1) x∧Mk b a'∧a0≤a'∧((wS (d+1) x).length:Int)≤13*(a'-a0)+4):=by
 refine U.A0 (XT hm) ?_
 rintro _ _ ⟨l,a,h,hl,hm,hq1,hq2⟩;cases h;(try simp only [Y,D.i] at hq1 hq2)
 have hl0:=hl
 obtain⟨k1,t1,ar1,rfl,_⟩:=hl
 refine⟨rfl,U.Xu rfl (U.A0 (QR 2 (by decide) hm) ?_)⟩
 rintro _ _ ⟨e,a,h,he,hm,hq3,hq4⟩;cases h;(try simp only [Y,D.i] at hq3 hq4)
 have he0:=he
 obtain⟨k2,t2,ar2,rfl,_⟩:=he
 refine⟨rfl,U.Xu rfl (U.ret ⟨S k [] [E k1 t1 ar1,E k2 t2 ar2] [] [],a,rfl,⟨k,[],_,[],[],rfl,fun x hx=>?_,fun _ h=>(by cases h),fun _ h=>(by cases h),.inr (.inl ⟨hk,rfl,⟨_,_,rfl,hl0⟩,rfl,rfl⟩)⟩,hm,by omega,by rw [Vp hk];omega⟩)⟩
 rcases Yh.1 hx with rfl|hx
 ·exact cS (by decide) (rZ hl0)
 ·rw [Yn.1 hx];exact cS (by decide) he0
theorem uK (hS:2≤deep→Cm d deep)(hd:2≤deep→1≤d)(hm:Mk b a){k:Int}(h0:0≤k)(h1:k≤10)(h2:3<k→2≤deep)(ha:a0≤a)(ha1:k=0∨a0+1≤a) :
  U (fun n=>iB n k [.int .i64 v,.Z 1 b,.int .i64 a] deep) (fun r=>∃ x a',r=(true,[x,.Z 1 b,.int .i64 a'])∧qL (d+1) x∧Mk b a'∧a0≤a'∧((wS (d+1) x).length:Int)≤13*(a'-a0)+4):=by
 have setT:U (fun n=>L0 n true [.int .i64 v,.Z 1 b,.int .i64 a] k deep) (fun r=>∃ x a',r=(true,[x,.Z 1 b,.int .i64 a'])∧qL (d+1) x∧Mk b a'∧a0≤a'∧((wS (d+1) x).length:Int)≤13*(a'-a0)+4):=
  G4 (fun n=>L0.eq_1 n _ _ _ _) (U.Xu rfl (Cn 2 (.inl rfl) hm ha))
 have blockT:a0+1≤a→2≤deep→U (fun n=>W3 n true [.int .i64 v,.Z 1 b,.int .i64 a] deep k) (fun r=>∃ x a',r=(true,[x,.Z 1 b,.int .i64 a'])∧qL (d+1) x∧Mk b a'∧a0≤a'∧((wS (d+1) x).length:Int)≤13*(a'-a0)+4):=by
  intro hac h
  refine G4 (fun n=>W3.eq_1 n _ _ _ _) (U.Xu rfl ?_)
  refine U.A0 (G8 (k:=4) (by decide) (by decide) hm) ?_
  rintro _ _ ⟨v,a,h,hv0,hv1,hm,hq1,hq2⟩;cases h;(try simp only [Y,D.i] at hq1 hq2)
  obtain⟨c,rfl⟩:∃ c:Nat,v=(c:Int):=⟨v.toNat,by omega⟩
  refine⟨rfl,U.Xu rfl (U.D4 (Fl (hS (by assumption)) c [] a (by omega) (by simp;omega) (fun _ h=>by cases h) hm) (fun ds h=>by obtain⟨_,_,_,h,_⟩:=h;cases h) fun ds h=>?_)⟩
  obtain⟨q,bs,a,h,hl,hb,hm,hq3,hq4⟩:=h
  cases h
  exact U.Xu rfl (U.ret ⟨S 1 [] [] bs [],a,rfl,⟨1,[],[],bs,[],rfl,fun _ h=>(by cases h),hb,fun _ h=>(by cases h),.inl ⟨rfl,rfl,rfl,hl,rfl⟩⟩,hm,by omega,by rw [Vo];simp only [sL] at hq4;omega⟩)
 have vI:a0+1≤a→2≤deep→U (fun n=>aU n true [.int .i64 v,.Z 1 b,.int .i64 a] deep k) (fun r=>∃ x a',r=(true,[x,.Z 1 b,.int .i64 a'])∧qL (d+1) x∧Mk b a'∧a0≤a'∧((wS (d+1) x).length:Int)≤13*(a'-a0)+4):=by
  intro hac hdeep
  have hd1:=hd hdeep
  refine G4 (fun n=>aU.eq_1 n _ _ _ _) (U.Xu rfl ?_)
  refine U.A0 (Z4 1 (by decide) (c:=1) (by decide) (by decide) hm) ?_
  rintro _ _ ⟨xs,a,h,hl,hx,hm,hq1,hq2⟩;cases h;(try simp only [Y,D.i] at hq1 hq2)
  refine⟨rfl,U.Xu rfl (U.A0 (hS hdeep b a hm) ?_)⟩
  rintro _ _ ⟨s1,a,h,hs1,hm,hq3,hq4⟩;cases h;(try simp only [Y,D.i] at hq3 hq4)
  have hs10:=hs1
  obtain⟨d',rfl⟩:∃ d',d=d'+1:=⟨d-1,by omega⟩
  obtain⟨k1,t1,es1,bs1,as1,rfl,_⟩:=hs1
  refine⟨rfl,U.Xu rfl ?_⟩
  have fin:∀ (c:D) (a:Int),(c=rC∨kX (d'+1) (S k1 t1 es1 bs1 as1)=false)→qL (d'+1) c→Mk b a→a0≤a→((sL (wE 4) xs+(wS (d'+1) (S k1 t1 es1 bs1 as1)).length+(bif (c.at_ 0).i==8 then 0 else 1+(wS (d'+1) c).length)+3:Nat):Int)≤13*(a-a0)+4→∃ x a',(true,[S 4 [] xs [S k1 t1 es1 bs1 as1,c] [],D.Z 1 b,D.int .i64 a])=(true,[x,.Z 1 b,.int .i64 a'])∧qL (d'+1+1) x∧Mk b a'∧a0≤a'∧((wS (d'+1+1) x).length:Int)≤13*(a'-a0)+4:=by
   intro c a hc hw hm hy1 hy2
   have hy3:=Vq (n:=d'+1) (t:=[]) (es:=xs) (zs:=[]) (b:=S k1 t1 es1 bs1 as1) (c:=c) hl
   refine⟨_,a,rfl,⟨4,[],xs,[S k1 t1 es1 bs1 as1,c],[],rfl,fun e he=>cS (by decide) (hx e he),fun y hy=>?_,fun _ h=>(by cases h),.inr (.inr (.inl ⟨rfl,rfl,hl,⟨_,_,rfl,hc⟩,rfl⟩))⟩,hm,hy1,by omega⟩
   rcases Yh.1 hy with rfl|hy
   ·exact hs10
   ·rw [Yn.1 hy];exact hw
  refine U.A0 (G8 (k:=2) (by decide) (by decide) hm) ?_
  rintro _ _ ⟨v2,a,h,hv0,hv1,hm,hq5,hq6⟩;cases h;(try simp only [Y,D.i] at hq5 hq6)
  have nul:∀ w,(bif (rC.at_ 0).i==8 then 0 else 1+w:Nat)=0:=fun _=>rfl
  refine⟨rfl,U.Xu rfl (U.Xv (fun hv1=>?_) fun _=>U.ret (fin rC a (.inl rfl) (MU d') hm (by omega) (by rw [nul];omega)))⟩
  have hv1:v2=1:=by simpa [Y,D.i] using hv1
  refine U.A0 (Nj (d'+1) _ hs10) ?_
  intro _ ds h;cases h
  refine⟨rfl,U.Xu rfl (U.Xv (fun ho=>?_) fun _=>U.ret (fin rC a (.inl rfl) (MU d') hm (by omega) (by rw [nul];omega)))⟩
  have ho:(!(kX (d'+1) (S k1 t1 es1 bs1 as1)))=true:=ho
  refine U.A0 (hS hdeep b a hm) ?_
  rintro _ _ ⟨s2,a,h,hs2,hm,hq7,hq8⟩;cases h;(try simp only [Y,D.i] at hq7 hq8)
  have hs20:=hs2
  obtain⟨k2,t2,es2,bs2,as2,rfl,_⟩:=hs2
  refine⟨rfl,U.Xu rfl (U.ret (fin (S k2 t2 es2 bs2 as2) a (.inr (by simpa using ho)) hs20 hm (by omega) ?_))⟩
  have hb1:(bif (((S k2 t2 es2 bs2 as2).at_ 0).i==8) then 0 else 1+(wS (d'+1) (S k2 t2 es2 bs2 as2)).length:Nat)≤1+(wS (d'+1) (S k2 t2 es2 bs2 as2)).length:=by
   cases ((S k2 t2 es2 bs2 as2).at_ 0).i==8<;>simp
  omega
 have hm':=hm
 have hk:k=0∨k=1∨k=2∨k=3∨k=4∨k=5∨k=6∨k=7∨k=8∨k=9∨k=10:=by omega
 refine G4 (fun n=>iB.eq_1 n _ _ _) ?_
 rcases hk with rfl|rfl|rfl|rfl|rfl|rfl|rfl|rfl|rfl|rfl|rfl
 ·exact U.Xu rfl setT
 ·exact U.no rfl setT
 ·exact U.no rfl (G4 (fun n=>L0.eq_1 n _ _ _ _) (U.no rfl (U.Xu rfl (Cn 3 (.inr rfl) hm ha))))
 ·refine U.no rfl (G4 (fun n=>L0.eq_1 n _ _ _ _) (U.no rfl (U.no rfl (U.Xu rfl ?_))))
  refine U.A0 (G8 (k:=2) (by decide) (by decide) hm) ?_
  rintro _ _ ⟨w,a,h,hv0,hv1,hm,hq1,hq2⟩;cases h;(try simp only [Y,D.i] at hq1 hq2)
  have ha1:a0+1≤a:=by omega
  have fin:∀ t:Zt,(t=[]∨t=[112,49])→U (fun n=>AE.A0 (B6 n (3:Int) (1:Int) (.Z 1 b) a) fun r3=>bif B7 B6.B2 r3 then
    (some (true,[(.agg [.int .i64 7,(.str t),(.Z 6 (Y r3 2).l),(.Z 5 ([]:List D)),(.Z 6 ([]:List D))]),(.Z 1 (Y r3 0).l),.int .i64 (Y r3 1).i])) else none) (fun r=>∃ x a',r=(true,[x,.Z 1 b,.int .i64 a'])∧qL (d+1) x∧Mk b a'∧a0≤a'∧((wS (d+1) x).length:Int)≤13*(a'-a0)+4):=by
   intro t ht
   refine U.A0 (Z4 2 (by decide) (c:=1) (by decide) (by decide) hm) ?_
   rintro _ _ ⟨xs,a,h,hl,hx,hm,hq3,hq4⟩;cases h;(try simp only [Y,D.i] at hq3 hq4)
   have hb1:(bif t.isEmpty then 0 else 2:Nat)≤2:=by cases t.isEmpty<;>simp
   exact⟨rfl,U.Xu rfl (U.ret ⟨S 7 t xs [] [],a,rfl,⟨7,t,xs,[],[],rfl,fun e he=>cS (by decide) (hx e he),fun _ h=>(by cases h),fun _ h=>(by cases h),.inr (.inr (.inr (.inr (.inr (.inl ⟨rfl,ht,hl,rfl,rfl⟩)))))⟩,hm,by omega,by rw [Vs hl];omega⟩)⟩
  have hw:w=0∨w=1:=by omega
  rcases hw with rfl|rfl
  ·exact⟨rfl,U.Xu rfl (U.Xu rfl (U.Xu rfl (fin [] (.inl rfl))))⟩
  ·exact⟨rfl,U.Xu rfl (U.Xu rfl (U.Xu rfl (fin [112,49] (.inr rfl))))⟩
 ·exact U.no rfl (G4 (fun n=>L0.eq_1 n _ _ _ _) (U.no rfl (U.no rfl (U.no rfl (U.Xu rfl (blockT (by omega) (h2 (by decide))))))))
 ·exact U.no rfl (G4 (fun n=>L0.eq_1 n _ _ _ _) (U.no rfl (U.no rfl (U.no rfl (U.no rfl (blockT (by omega) (h2 (by decide))))))))
 ·exact U.no rfl (G4 (fun n=>L0.eq_1 n _ _ _ _) (U.no rfl (U.no rfl (U.no rfl (U.no rfl (G4 (fun n=>W3.eq_1 n _ _ _ _) (U.no rfl (U.Xu rfl (vI (by omega) (h2 (by decide)))))))))))
 ·exact U.no rfl (G4 (fun n=>L0.eq_1 n _ _ _ _) (U.no rfl (U.no rfl (U.no rfl (U.no rfl (G4 (fun n=>W3.eq_1 n _ _ _ _) (U.no rfl (U.no rfl (vI (by omega) (h2 (by decide)))))))))))
 ·refine U.no rfl (G4 (fun n=>L0.eq_1 n _ _ _ _) (U.no rfl (U.no rfl (U.no rfl (U.no rfl (G4 (fun n=>W3.eq_1 n _ _ _ _) (U.no rfl (U.no rfl (G4 (fun n=>aU.eq_1 n _ _ _ _) (U.no rfl (U.Xu rfl ?_)))))))))))
  have hdeep:=h2 (by decide)
  refine U.A0 (Z4 1 (by decide) (c:=1) (by decide) (by decide) hm) ?_
  rintro _ _ ⟨xs,a,h,hl,hx,hm,hq1,hq2⟩;cases h;(try simp only [Y,D.i] at hq1 hq2)
  refine⟨rfl,U.Xu rfl (U.A0 (G8 (k:=3) (by decide) (by decide) hm) ?_)⟩
  rintro _ _ ⟨w,a,h,hv0,hv1,hm,hq3,hq4⟩;cases h;(try simp only [Y,D.i] at hq3 hq4)
  obtain⟨c,rfl⟩:∃ c:Nat,w=(c:Int):=⟨w.toNat,by omega⟩
  have hw:IntKind.i64.wrap (1+(c:Int))=((c+1:Nat):Int):=by rw [J0 (by omega) (by omega)];omega
  have L:=Kw (hS hdeep) (b:=b) xs (c+1) [] a (by omega) (by simp;omega) (fun _ h=>by cases h) hm
  rw [← hw] at L
  refine⟨rfl,U.Xu rfl (U.D4 L (fun ds h=>by obtain⟨_,_,_,h,_⟩:=h;cases h) fun ds h=>?_)⟩
  obtain⟨q,zs,a,h,hla,hb,hm,hq5,hq6⟩:=h
  cases h
  simp only [sL] at hq6
  refine U.Xu rfl (U.A0 (G8 (k:=2) (by decide) (by decide) hm) ?_)
  rintro _ _ ⟨w,a,h,hv0,hv1,hm,hq7,hq8⟩;cases h;(try simp only [Y,D.i] at hq7 hq8)
  have la:zs.length=c+1:=by rw [hla];simp
  refine⟨rfl,U.Xu rfl (U.Xv (fun hv1=>?_) fun _=>U.ret ⟨S 5 [] xs [] zs,a,rfl,⟨5,[],xs,[],zs,rfl,fun e he=>cS (by decide) (hx e he),fun _ h=>(by cases h),hb,.inr (.inr (.inr (.inl ⟨rfl,rfl,hl,rfl,by omega,by omega⟩)))⟩,hm,by omega,by rw [Pp hl];omega⟩)⟩
  have hv1:w=1:=by simpa [Y,D.i] using hv1
  refine U.A0 (hS hdeep b a hm) ?_
  rintro _ _ ⟨s2,a,h,hs2,hm,hq9,hq10⟩;cases h;(try simp only [Y,D.i] at hq9 hq10)
  have hs20:=hs2
  have hd1:=hd hdeep
  obtain⟨d',rfl⟩:∃ d',d=d'+1:=⟨d-1,by omega⟩
  obtain⟨k2,t2,es2,bs2,as2,rfl,_⟩:=hs2
  refine⟨rfl,U.Xu rfl (U.Xu (Yc (by show zs.length+1≤D8;simp only [D8];omega)) (U.ret ⟨S 5 [] xs [] (zs++[arm [] (S k2 t2 es2 bs2 as2)]),a,rfl,⟨5,[],xs,[],_,rfl,fun e he=>cS (by decide) (hx e he),fun _ h=>(by cases h),fun y hy=>?_,.inr (.inr (.inr (.inl ⟨rfl,rfl,hl,rfl,by simp,by simp;omega⟩)))⟩,hm,by omega,?_⟩))⟩
  ·rcases Yy.1 hy with hy|hy
   ·exact hb y hy
   ·rw [Yn.1 hy]
    exact⟨[],_,rfl,by decide,fun _ h=>(by cases h),hs20⟩
  ·rw [Pp hl,mC,Gv]
   show ((_+(_+(1+0+1+_))+4:Nat):Int)≤_
   omega
 ·refine U.no rfl (G4 (fun n=>L0.eq_1 n _ _ _ _) (U.no rfl (U.no rfl (U.no rfl (U.no rfl (G4 (fun n=>W3.eq_1 n _ _ _ _) (U.no rfl (U.no rfl (G4 (fun n=>aU.eq_1 n _ _ _ _) (U.no rfl (U.no rfl (U.Xu rfl ?_))))))))))))
  have hdeep:=h2 (by decide)
  refine U.A0 (Z4 1 (by decide) (c:=3) (by decide) (by decide) hm) ?_
  rintro _ _ ⟨xs,a,h,hl,hx,hm,hq1,hq2⟩;cases h;(try simp only [Y,D.i] at hq1 hq2)
  refine⟨rfl,U.Xu rfl (U.A0 (hS hdeep b a hm) ?_)⟩
  rintro _ _ ⟨s2,a,h,hs2,hm,hq3,hq4⟩;cases h;(try simp only [Y,D.i] at hq3 hq4)
  have hs20:=hs2
  have hd1:=hd hdeep
  obtain⟨d',rfl⟩:∃ d',d=d'+1:=⟨d-1,by omega⟩
  obtain⟨k2,t2,es2,bs2,as2,rfl,_⟩:=hs2
  refine⟨rfl,U.Xu rfl (U.ret ⟨S 6 [105] xs [S k2 t2 es2 bs2 as2] [],a,rfl,⟨6,[105],xs,_,[],rfl,fun e he=>cS (by decide) (hx e he),fun y hy=>?_,fun _ h=>(by cases h),.inr (.inr (.inr (.inr (.inl ⟨rfl,rfl,hl,rfl,rfl⟩))))⟩,hm,by omega,by rw [Vr hl];omega⟩)⟩
  rw [Yn.1 hy];exact hs20
 ·refine U.no rfl (G4 (fun n=>L0.eq_1 n _ _ _ _) (U.no rfl (U.no rfl (U.no rfl (U.no rfl (G4 (fun n=>W3.eq_1 n _ _ _ _) (U.no rfl (U.no rfl (G4 (fun n=>aU.eq_1 n _ _ _ _) (U.no rfl (U.no rfl (U.no rfl ?_))))))))))))
  exact U.ret ⟨rC,a,rfl,MU d,hm,ha,by show ((1:Nat):Int)≤_;omega⟩
end
theorem uJ:∀ (d:Nat) (deep:Int),d≤10→-1000≤deep→deep≤(d:Int)+1→∀ b a,Mk b a→U (fun n=>F4 n deep (.Z 1 b) a) fun r=>∃ x a',r=(true,[x,.Z 1 b,.int .i64 a'])∧qL (d+1) x∧Mk b a'∧a≤a'∧((wS (d+1) x).length:Int)≤13*(a'-a)+4:=by
 intro d
 induction d with
 |zero=>
  intro deep hd h0 h1 b a hm
  refine U.eq (fun n=>rI n deep b a) ?_
  (refine U.A0 (G8 (by decide) (by decide) (by assumption)) ?_;rintro _ _ ⟨v,a,h,hv0,hv1,hm,hq1,hq2⟩;cases h;(try simp only [Y,D.i] at hq1 hq2);refine⟨rfl,?_⟩)
  refine U.Xu rfl (U.Xu (Zi (by omega)) ?_)
  have e1:0≤v.tmod 4:=Int.tmod_nonneg 4 hv0
  have e2:v.tmod 4<4:=Int.tmod_lt_of_pos v (by decide)
  exact uK (fun h=>by omega) (fun h=>by omega) hm e1 (by show v.tmod 4≤10;omega) (fun h=>by have h:3<v.tmod 4:=h;omega) hq1 (by rcases hq2 with rfl|h;exact .inl rfl;exact .inr h)
 |succ d ih=>
  intro deep hd h0 h1 b a hm
  have hS:2≤deep→Cm (d+1) deep:=by
   intro h b a hm
   rw [J0 (by omega) (by omega)]
   exact ih (deep-1) (by omega) (by omega) (by omega) b a hm
  refine U.eq (fun n=>rI n deep b a) ?_
  (refine U.A0 (G8 (by decide) (by decide) (by assumption)) ?_;rintro _ _ ⟨v,a,h,hv0,hv1,hm,hq1,hq2⟩;cases h;(try simp only [Y,D.i] at hq1 hq2);refine⟨rfl,?_⟩)
  refine U.Xu rfl (U.Xv (fun _=>?_) fun hc=>?_)
  ·have e1:0≤v.tmod 4:=Int.tmod_nonneg 4 hv0
   have e2:v.tmod 4<4:=Int.tmod_lt_of_pos v (by decide)
   exact uK hS (fun _=>by omega) hm e1 (by show v.tmod 4≤10;omega) (fun h=>by have h:3<v.tmod 4:=h;omega) hq1 (by rcases hq2 with rfl|h;exact .inl rfl;exact .inr h)
  ·have hc:=Zl hc
   exact uK hS (fun _=>by omega) hm hv0 (by show v≤10;omega) (fun _=>by omega) hq1 hq2
end
end Go.Proofs.YtalibicpmfbieaaGreatDoor
