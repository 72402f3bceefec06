import Derived.Test.YthlhbocobgkdmaaGreatM1
namespace Go.Proofs.YthlhbocobgkdmaaGreat
open Go.AE
set_option linter.all false
def OP (x:D):Prop:=∃ (k a b c:Int) (t:F9) (xs:List D),x=cC k a b c t xs
def Cr (t:F9)(a b:Int):Int:=bif t==[38,38] then (bif a==0 then 0 else ZG (b !=0)) else bif t==[124,124] then (bif a !=0 then 1 else ZG (b !=0)) else Vb t a b
def V3 (v:Int)(L:List D):List D:=[.int .i64 v,.Z 2 L,.int .i64 0,.int .i64 0,.int .i64 0,.int .i64 0]
def yE (v:Int)(L:List D)(p q r e:Int):List D:=[.int .i64 v,.Z 2 L,.int .i64 p,.int .i64 q,.int .i64 r,.int .i64 e]
theorem Ql {t:F9}(ht:t∈YH)(p0 p1 p2:Int){x y:D}(hx:OP x)(hy:OP y){L:List D}{a b:Int}(ha:wH a)(hb:wH b)
  (h1:U (fun n=>I2 n x (.Z 2 L) (0:Int) (0:Int) (0:Int) (0:Int)) fun r=>r=(true,V3 a L))
  (h2:U (fun n=>I2 n y (.Z 2 L) (0:Int) (0:Int) (0:Int) (0:Int)) fun r=>r=(true,V3 b L)) :
  U (fun n=>X6 n (cC 4 p0 p1 p2 t [x,y]) (.Z 2 L) (0:Int) (0:Int) (0:Int) (0:Int)) fun r=>r=(true,bif sT t b then yE 0 L p0 p1 p2 3 else V3 (Cr t a b) L):=by
 obtain⟨_,_,_,_,_,_,rfl⟩:=hx
 obtain⟨_,_,_,_,_,_,rfl⟩:=hy
 have hres:=fun xs ho=>Qk ht p0 p1 p2 xs L ha hb ho 0 0 0 0
 have hf:=xD p0 p1 p2 3 L 0 0 0
 refine U.eq (fun n=>eK n _ _ _ _ _ _ _ _ _ _ _) (U.H5 rfl (U.H5 rfl (H4 h1 (U.H5 rfl (U.no rfl ?_)))))
 simp only [YH,B7,List.not_mem_nil,or_false] at ht
 rcases ht with rfl|rfl|rfl|rfl|rfl|rfl|rfl|rfl|rfl|rfl|rfl|rfl|rfl|rfl|rfl|rfl|rfl|rfl|rfl|rfl|rfl
 rotate_left 3
 ·((repeat (first|refine U.no rfl ?_|refine U.H5 rfl ?_));refine H4 h2 ?_;(repeat (first|refine U.no rfl ?_|refine U.H5 rfl ?_)));(show U (fun n=>bif (b==0) then _ else _) _;cases hz:(b==0) with|true=>(have ho:sT [47] b=true:=hz;rw [ho];exact U.H5 rfl (H4 hf (U.H5 rfl (U.ret rfl))))|false=>(have ho:sT [47] b=false:=hz;rw [ho];exact U.no rfl (H4 (hres _ ho) (U.H5 rfl (U.ret rfl)))))
 ·((repeat (first|refine U.no rfl ?_|refine U.H5 rfl ?_));refine H4 h2 ?_;(repeat (first|refine U.no rfl ?_|refine U.H5 rfl ?_)));(show U (fun n=>bif (b==0) then _ else _) _;cases hz:(b==0) with|true=>(have ho:sT [37] b=true:=hz;rw [ho];exact U.H5 rfl (H4 hf (U.H5 rfl (U.ret rfl))))|false=>(have ho:sT [37] b=false:=hz;rw [ho];exact U.no rfl (H4 (hres _ ho) (U.H5 rfl (U.ret rfl)))))
 rotate_left 4
 ·((repeat (first|refine U.no rfl ?_|refine U.H5 rfl ?_));refine H4 h2 ?_;(repeat (first|refine U.no rfl ?_|refine U.H5 rfl ?_)));(show U (fun n=>bif (decide (b<0)) then _ else bif (decide (b>31)) then _ else _) _;cases h8:decide (b<0) with|true=>(have ho:sT [60,60] b=true:=(show (decide (b<0)||decide (b>31))=true by rw [h8];rfl);rw [ho];exact U.H5 rfl (H4 hf (U.H5 rfl (U.ret rfl))))|false=>(refine U.no rfl ?_;cases h9:decide (b>31) with|true=>(have ho:sT [60,60] b=true:=(show (decide (b<0)||decide (b>31))=true by rw [h8,h9];rfl);rw [ho];exact U.H5 rfl (H4 hf (U.H5 rfl (U.ret rfl))))|false=>(have ho:sT [60,60] b=false:=(show (decide (b<0)||decide (b>31))=false by rw [h8,h9];rfl);rw [ho];exact U.no rfl (H4 (hres _ ho) (U.H5 rfl (U.ret rfl))))))
 ·((repeat (first|refine U.no rfl ?_|refine U.H5 rfl ?_));refine H4 h2 ?_;(repeat (first|refine U.no rfl ?_|refine U.H5 rfl ?_)));(show U (fun n=>bif (decide (b<0)) then _ else bif (decide (b>31)) then _ else _) _;cases h8:decide (b<0) with|true=>(have ho:sT [62,62] b=true:=(show (decide (b<0)||decide (b>31))=true by rw [h8];rfl);rw [ho];exact U.H5 rfl (H4 hf (U.H5 rfl (U.ret rfl))))|false=>(refine U.no rfl ?_;cases h9:decide (b>31) with|true=>(have ho:sT [62,62] b=true:=(show (decide (b<0)||decide (b>31))=true by rw [h8,h9];rfl);rw [ho];exact U.H5 rfl (H4 hf (U.H5 rfl (U.ret rfl))))|false=>(have ho:sT [62,62] b=false:=(show (decide (b<0)||decide (b>31))=false by rw [h8,h9];rfl);rw [ho];exact U.no rfl (H4 (hres _ ho) (U.H5 rfl (U.ret rfl))))))
 ·((repeat (first|refine U.no rfl ?_|refine U.H5 rfl ?_));refine H4 h2 ?_;(repeat (first|refine U.no rfl ?_|refine U.H5 rfl ?_)));(show U (fun n=>bif (decide (b<0)) then _ else bif (decide (b>31)) then _ else _) _;cases h8:decide (b<0) with|true=>(have ho:sT [60,60,60] b=true:=(show (decide (b<0)||decide (b>31))=true by rw [h8];rfl);rw [ho];exact U.H5 rfl (H4 hf (U.H5 rfl (U.ret rfl))))|false=>(refine U.no rfl ?_;cases h9:decide (b>31) with|true=>(have ho:sT [60,60,60] b=true:=(show (decide (b<0)||decide (b>31))=true by rw [h8,h9];rfl);rw [ho];exact U.H5 rfl (H4 hf (U.H5 rfl (U.ret rfl))))|false=>(have ho:sT [60,60,60] b=false:=(show (decide (b<0)||decide (b>31))=false by rw [h8,h9];rfl);rw [ho];exact U.no rfl (H4 (hres _ ho) (U.H5 rfl (U.ret rfl))))))
 ·((repeat (first|refine U.no rfl ?_|refine U.H5 rfl ?_));refine H4 h2 ?_;(repeat (first|refine U.no rfl ?_|refine U.H5 rfl ?_)));(show U (fun n=>bif (decide (b<0)) then _ else bif (decide (b>31)) then _ else _) _;cases h8:decide (b<0) with|true=>(have ho:sT [62,62,62] b=true:=(show (decide (b<0)||decide (b>31))=true by rw [h8];rfl);rw [ho];exact U.H5 rfl (H4 hf (U.H5 rfl (U.ret rfl))))|false=>(refine U.no rfl ?_;cases h9:decide (b>31) with|true=>(have ho:sT [62,62,62] b=true:=(show (decide (b<0)||decide (b>31))=true by rw [h8,h9];rfl);rw [ho];exact U.H5 rfl (H4 hf (U.H5 rfl (U.ret rfl))))|false=>(have ho:sT [62,62,62] b=false:=(show (decide (b<0)||decide (b>31))=false by rw [h8,h9];rfl);rw [ho];exact U.no rfl (H4 (hres _ ho) (U.H5 rfl (U.ret rfl))))))
 rotate_left 6
 ·(repeat (first|refine U.no rfl ?_|refine U.H5 rfl ?_))
  show U (fun n=>bif (a==0) then _ else _) _
  cases hz:(a==0) with
  |true=>
   refine U.H5 rfl (U.ret ?_)
   show _=(true,V3 (bif (a==0) then 0 else ZG (b !=0)) L)
   rw [hz];rfl
  |false=>
   refine U.no rfl ?_
   ((repeat (first|refine U.no rfl ?_|refine U.H5 rfl ?_));refine H4 h2 ?_;(repeat (first|refine U.no rfl ?_|refine U.H5 rfl ?_)))
   refine H4 (hres _ rfl) (U.H5 rfl (U.ret ?_))
   show _=(true,V3 (bif (a==0) then 0 else ZG (b !=0)) L)
   rw [hz];rfl
 ·(repeat (first|refine U.no rfl ?_|refine U.H5 rfl ?_))
  show U (fun n=>bif (a !=0) then _ else _) _
  cases hz:(a !=0) with
  |true=>
   refine U.H5 rfl (U.ret ?_)
   show _=(true,V3 (bif (a !=0) then 1 else ZG (b !=0)) L)
   rw [hz];rfl
  |false=>
   refine U.no rfl ?_
   ((repeat (first|refine U.no rfl ?_|refine U.H5 rfl ?_));refine H4 h2 ?_;(repeat (first|refine U.no rfl ?_|refine U.H5 rfl ?_)))
   refine H4 (hres _ rfl) (U.H5 rfl (U.ret ?_))
   show _=(true,V3 (bif (a !=0) then 1 else ZG (b !=0)) L)
   rw [hz];rfl
 all_goals (((repeat (first|refine U.no rfl ?_|refine U.H5 rfl ?_));refine H4 h2 ?_;(repeat (first|refine U.no rfl ?_|refine U.H5 rfl ?_)));exact H4 (hres _ rfl) (U.H5 rfl (U.ret rfl)))
theorem GV {t:F9}{w n:Nat}{sg sz:Bool}(hp:rF t = .ok w n sg sz):1≤w∧w≤128∧n<2 ^ w:=by
 have:=Ho t
 rw [hp] at this
 exact⟨this.1,this.2.1,this.2.2.1⟩
theorem IK {v:Int}(hv:wH v)(a b c:Int)(L:List D):U (fun n=>M6 n v L 0 0 0 0 a b c) fun r=>r=(true,V3 v L):=by
 obtain⟨h1,h2⟩:=hv
 refine M1 (fun n=>M6.eq_1 n _ _ _ _ _ _ _ _ _) (U.H5 rfl (U.no (E6 (by omega)) ?_))
 rw [E6 (show ¬ v>2147483647 by omega)]
 exact M1 (fun n=>W4.eq_1 n _ _ _ _ _ _ _ _ _ _) (U.no rfl (U.ret rfl))
theorem Kv {v:Int}(hv:Nt v=false)(a b c:Int)(L:List D):U (fun n=>M6 n v L 0 0 0 0 a b c) fun r=>r=(true,yE 0 L a b c 3):=by
 have hf:=xD a b c 3 L 0 0 0
 refine M1 (fun n=>M6.eq_1 n _ _ _ _ _ _ _ _ _) (U.H5 rfl ?_)
 unfold Nt at hv
 cases h:decide (v < -2147483648) with
 |true=>exact U.H5 rfl (M1 (fun n=>W4.eq_1 n _ _ _ _ _ _ _ _ _ _) (U.H5 rfl (H4 hf (U.H5 rfl (U.ret rfl)))))
 |false=>
  have h:=E7 h
  rw [E4 (show -2147483648≤v by omega),Bool.true_and] at hv
  have hv:=E7 hv
  rw [E4 (show v>2147483647 by omega)]
  exact U.no rfl (M1 (fun n=>W4.eq_1 n _ _ _ _ _ _ _ _ _ _) (U.H5 rfl (H4 hf (U.H5 rfl (U.ret rfl)))))
theorem Qb (p0 p1 p2:Int){t:F9}(xs L:List D)(ht:t.length≤100000){w n:Nat}{sg sz:Bool}(hp:rF t = .ok w n sg sz){v:Int}(hi:Gn w n sg=(v,0))(hv:wH v) :
  U (fun n=>I2 n (cC 1 p0 p1 p2 t xs) (.Z 2 L) (0:Int) (0:Int) (0:Int) (0:Int)) fun r=>r=(true,V3 v L):=by
 obtain⟨h1,h2,h3⟩:=GV hp
 have hpa:=NK (s:=t) (by omega)
 rw [hp] at hpa
 have hin:=It h1 h2 h3 sg sz
 rw [hi] at hin
 have hn:U (fun n=>Y0 n (cC 1 p0 p1 p2 t xs) (.Z 2 L) (0:Int) (0:Int) (0:Int) (0:Int)) fun r=>r=(true,V3 v L):=by
  refine U.eq (fun n=>mL n _ _ _ _ _ _ _ _ _ _ _) (H4 hpa (U.H5 rfl (U.no rfl (M1 (fun n=>eQ.eq_1 n _ _ _ _ _ _ _ _ _ _) (U.no rfl (H4 hin (U.H5 rfl (U.no rfl (M1 (fun n=>eR.eq_1 n _ _ _ _ _ _ _ _ _ _) (U.no rfl (U.ret rfl)))))))))))
 exact U.eq (fun n=>J3 n _ _ _ _ _ _ _ _ _ _ _) (U.H5 rfl (H4 hn (U.H5 rfl (IK hv p0 p1 p2 L))))
theorem Ll (p0 p1 p2:Int){t:F9}(xs:List D){l:eE}(hl:l.length≤1048576){v:Int}(hf:EC t l=some v)(hv:wH v) :
  U (fun n=>I2 n (cC 2 p0 p1 p2 t xs) (.Z 2 (l.map gY)) (0:Int) (0:Int) (0:Int) (0:Int)) fun r=>r=(true,V3 v (l.map gY)):=by
 have h:=XQ hl t
 rw [hf] at h
 exact U.eq (fun n=>J3 n _ _ _ _ _ _ _ _ _ _ _) (U.no rfl (U.H5 rfl (H4 h (U.H5 rfl (U.no rfl (IK hv p0 p1 p2 (l.map gY)))))))
def Vr:Nat→D→Prop
 |0,_=>False
 |n+1,x=>∃ (k a b c:Int) (t:F9) (xs:List D),x=cC k a b c t xs∧xs.length≤100∧∀ y∈xs,Vr n y
theorem Tz:∀ {d:Nat} {x:D},Vr d x→(I5 H6&&K0 H6 x)=true∧H7 H6 x=x
 |d+1,x,h=>by
  obtain⟨k,a,b,c,t,xs,rfl,_⟩:=h
  exact⟨rfl,rfl⟩
def wW (a:Int):Int:=max (-2147483648) (min a 2147483647)
theorem Jr (a:Int):wH (wW a):=by unfold wH wW;omega
def Sg (p0 p1 p2:Int)(L:List D)(t:F9)(a b:Int):List D:=bif sT t b then yE 0 L p0 p1 p2 3 else bif Nt (Cr t a b) then V3 (Cr t a b) L else yE 0 L p0 p1 p2 3
theorem Py {t:F9}(ht:t∈YH)(p0 p1 p2:Int){x y:D}(hx:OP x)(hy:OP y){L:List D}{a b:Int}(ha:wH a)(hb:wH b)
  (h1:U (fun n=>I2 n x (.Z 2 L) (0:Int) (0:Int) (0:Int) (0:Int)) fun r=>r=(true,V3 a L))
  (h2:U (fun n=>I2 n y (.Z 2 L) (0:Int) (0:Int) (0:Int) (0:Int)) fun r=>r=(true,V3 b L)) :
  U (fun n=>I2 n (cC 4 p0 p1 p2 t [x,y]) (.Z 2 L) (0:Int) (0:Int) (0:Int) (0:Int)) fun r=>r=(true,Sg p0 p1 p2 L t a b):=by
 have h:=Ql ht p0 p1 p2 hx hy ha hb h1 h2
 unfold Sg
 refine U.eq (fun n=>J3 n _ _ _ _ _ _ _ _ _ _ _) (U.no rfl (U.no rfl (U.no rfl (U.H5 rfl ?_))))
 cases ho:sT t b with
 |true=>
  rw [ho] at h
  refine H4 h (U.H5 rfl ?_)
  exact M1 (fun n=>M6.eq_1 n _ _ _ _ _ _ _ _ _) (U.no rfl (M1 (fun n=>W4.eq_1 n _ _ _ _ _ _ _ _ _ _) (U.no rfl (U.ret rfl))))
 |false=>
  rw [ho] at h
  refine H4 h (U.H5 rfl ?_)
  cases hi:Nt (Cr t a b) with
  |true=>
   have q:wH (Cr t a b):=by
    unfold Nt at hi
    rw [A9] at hi
    exact⟨E5 hi.1,E5 hi.2⟩
   exact IK q p0 p1 p2 L
  |false=>exact Kv hi p0 p1 p2 L
inductive Rz
 |ok (v:Int)
 |bad (a b c e:Int)
def Rz.Good:Rz→Prop
 | .ok v=>wH v
 | .bad _ _ _ e=>e≠0
def Rz.own (L:List D):Rz→List D→Prop
 | .ok v,r=>r=V3 v L
 | .bad a b c e,r=>∃ n:Int,r=yE n L a b c e
def oH (x:D)(L:List D)(R:Rz):Prop:=R.Good∧
 U (fun n=>I2 n x (.Z 2 L) (0:Int) (0:Int) (0:Int) (0:Int)) (fun r=>∃ ds,r=(true,ds)∧R.own L ds)∧
 (∀ p q r e:Int,e≠0→U (fun n=>I2 n x (.Z 2 L) p q r e) fun z=>∃ n:Int,z=(true,yE n L p q r e))
theorem YE {x:Int}(h:x≠0):(x !=0)=true∧(x==0)=false:=by simp [h]
theorem pU (v:Int)(L:List D)(p q r:Int){e:Int}(he:e≠0)(a b c:Int):U (fun n=>M6 n v L p q r e a b c) fun z=>z=(true,yE v L p q r e):=
 M1 (fun n=>M6.eq_1 n _ _ _ _ _ _ _ _ _) (U.no (YE he).2 (M1 (fun n=>W4.eq_1 n _ _ _ _ _ _ _ _ _ _) (U.no rfl (U.ret rfl))))
theorem pQ {α:Sort _}{t:Nat→Out}{k:List D→Nat→Out}{f:α→List D}{P:Bool×List D→Prop}(h:U t fun r=>∃ a,r=(true,f a))(hk:∀ a,U (k (f a)) P):U (fun n=>AE.H3 (t n) fun ds=>k ds n) P:=by
 refine U.H3 h ?_
 rintro _ _ ⟨a,h⟩
 cases h
 exact⟨rfl,hk a⟩
theorem Pk (p0 p1 p2:Int){t:F9}(xs L:List D)(ht:t.length≤100000){w n:Nat}{sg sz:Bool}(hp:rF t = .ok w n sg sz){v:Int}(hi:Gn w n sg=(v,0))(hv:wH v):oH (cC 1 p0 p1 p2 t xs) L (.ok v):=by
 refine⟨hv,(Qb p0 p1 p2 xs L ht hp hi hv).mono fun r hr=>⟨_,hr,rfl⟩,fun p q r e he=>?_⟩
 obtain⟨h1,h2,h3⟩:=GV hp
 have hpa:=NK (s:=t) (by omega)
 rw [hp] at hpa
 have hin:=It h1 h2 h3 sg sz
 rw [hi] at hin
 have hn:U (fun n=>Y0 n (cC 1 p0 p1 p2 t xs) (.Z 2 L) p q r e) fun z=>z=(true,yE v L p q r e):=
  U.eq (fun n=>mL n _ _ _ _ _ _ _ _ _ _ _) (H4 hpa (U.H5 rfl (U.no rfl (M1 (fun n=>eQ.eq_1 n _ _ _ _ _ _ _ _ _ _) (U.no rfl (H4 hin (U.H5 rfl (U.no rfl (M1 (fun n=>eR.eq_1 n _ _ _ _ _ _ _ _ _ _) (U.no rfl (U.ret rfl)))))))))))
 exact U.eq (fun n=>J3 n _ _ _ _ _ _ _ _ _ _ _) (U.H5 rfl (H4 hn (U.H5 rfl ((pU v L p q r he p0 p1 p2).mono fun z hz=>⟨_,hz⟩))))
theorem Lz {k:Int}(hk:k≠1∧k≠2∧k≠3∧k≠4∧k≠5)(p0 p1 p2:Int)(t:F9)(xs L:List D):oH (cC k p0 p1 p2 t xs) L (.bad p0 p1 p2 12):=by
 have q:∀ m:Int,k≠m→(k==m)=false:=fun m h=>by simp [h]
 obtain⟨k1,k2,k3,k4,k5⟩:=hk
 refine⟨by show (12:Int)≠0;decide,?_,fun p q' r e he=>?_⟩
 ·exact U.eq (fun n=>J3 n _ _ _ _ _ _ _ _ _ _ _) (U.no (q _ k1) (U.no (q _ k2) (U.no (q _ k3) (U.no (q _ k4) (U.no (q _ k5) (H4 (xD p0 p1 p2 12 L 0 0 0) (U.H5 rfl (U.ret ⟨_,rfl,0,rfl⟩))))))))
 ·exact U.eq (fun n=>J3 n _ _ _ _ _ _ _ _ _ _ _) (U.no (q _ k1) (U.no (q _ k2) (U.no (q _ k3) (U.no (q _ k4) (U.no (q _ k5) (H4 (LU p0 p1 p2 12 L p q' r he) (U.H5 rfl (U.ret ⟨0,rfl⟩))))))))
theorem Ps (p0 p1 p2:Int)(t:F9)(xs:List D){lo:eE}(ho:lo.length≤1048576)(hr:∀ q∈lo,wH q.2):∃ R,oH (cC 2 p0 p1 p2 t xs) (lo.map gY) R:=by
 have hf:=XQ ho t
 cases hq:EC t lo with
 |some v=>
  rw [hq] at hf
  have hv:wH v:=by
   obtain⟨i,hi⟩:∃ i,uH t lo=some i:=by
    cases h:uH t lo with
    |none=>rw [GF h] at hq;cases hq
    |some i=>exact⟨i,rfl⟩
   obtain⟨h1,_,h3⟩:=yZ hi
   rw [hq] at h3
   cases h3
   exact hr _ (C6 h1)
  refine⟨.ok v,hv,?_,fun p q r e he=>?_⟩
  ·exact (Ll p0 p1 p2 xs ho hq hv).mono fun r hr=>⟨_,hr,rfl⟩
  ·exact U.eq (fun n=>J3 n _ _ _ _ _ _ _ _ _ _ _) (U.no rfl (U.H5 rfl (H4 hf (U.H5 rfl (U.no rfl ((pU v _ p q r he p0 p1 p2).mono fun z hz=>⟨_,hz⟩))))))
 |none=>
  rw [hq] at hf
  refine⟨.bad p0 p1 p2 9,by show (9:Int)≠0;decide,?_,fun p q r e he=>?_⟩
  ·exact U.eq (fun n=>J3 n _ _ _ _ _ _ _ _ _ _ _) (U.no rfl (U.H5 rfl (H4 hf (U.H5 rfl (U.H5 rfl (H4 (xD p0 p1 p2 9 _ 0 0 0) (U.H5 rfl (U.ret ⟨_,rfl,0,rfl⟩))))))))
  ·exact U.eq (fun n=>J3 n _ _ _ _ _ _ _ _ _ _ _) (U.no rfl (U.H5 rfl (H4 hf (U.H5 rfl (U.H5 rfl (H4 (LU p0 p1 p2 9 _ p q r he) (U.H5 rfl (U.ret ⟨0,rfl⟩))))))))
theorem EN {x:D}{L:List D}{a b c e:Int}(h:U (fun n=>I2 n x (.Z 2 L) (0:Int) (0:Int) (0:Int) (0:Int)) (fun r=>∃ ds,r=(true,ds)∧(Rz.bad a b c e).own L ds)) :
  U (fun n=>I2 n x (.Z 2 L) (0:Int) (0:Int) (0:Int) (0:Int)) (fun r=>∃ n:Int,r=(true,yE n L a b c e)):=
 h.mono fun r hr=>by
  obtain⟨ds,rfl,n,rfl⟩:=hr
  exact⟨n,rfl⟩
theorem NJ {x:D}{L:List D}{v:Int}(h:U (fun n=>I2 n x (.Z 2 L) (0:Int) (0:Int) (0:Int) (0:Int)) (fun r=>∃ ds,r=(true,ds)∧(Rz.ok v).own L ds)) :
  U (fun n=>I2 n x (.Z 2 L) (0:Int) (0:Int) (0:Int) (0:Int)) (fun r=>r=(true,V3 v L)):=
 h.mono fun r hr=>by
  obtain⟨ds,rfl,rfl⟩:=hr
  rfl
theorem Lm {t:F9}(ht:t=[45]∨t=[126]∨t=[33])(p0 p1 p2:Int){x:D}(hx:OP x){L:List D}{p q r e p' q' r' e':Int}
  (h:U (fun n=>I2 n x (.Z 2 L) p q r e) fun z=>∃ n:Int,z=(true,yE n L p' q' r' e')) :
  U (fun n=>R9 n (cC 3 p0 p1 p2 t [x]) (.Z 2 L) p q r e) fun z=>∃ n:Int,z=(true,yE n L p' q' r' e'):=by
 obtain⟨k,a,b,c,tt,xs,rfl⟩:=hx
 refine U.eq (fun n=>bV n _ _ _ _ _ _ _ _ _ _ _) ?_
 rcases ht with rfl|rfl|rfl
 ·exact U.H5 rfl (U.H5 rfl (U.H5 rfl (pQ (f:=fun n=>yE n L p' q' r' e') h fun n=>U.H5 rfl (U.ret ⟨_,rfl⟩))))
 ·exact U.no rfl (U.H5 rfl (U.H5 rfl (U.H5 rfl (pQ (f:=fun n=>yE n L p' q' r' e') h fun n=>U.H5 rfl (U.ret ⟨_,rfl⟩)))))
 ·exact U.no rfl (U.no rfl (U.H5 rfl (U.H5 rfl (U.H5 rfl (pQ (f:=fun n=>yE n L p' q' r' e') h fun n=>U.H5 rfl (H4 (GK _) (U.H5 rfl (U.ret ⟨_,rfl⟩))))))))
theorem Nd {t:F9}(ht:t=[45]∨t=[126]∨t=[33])(p0 p1 p2:Int){x:D}(hx:OP x){L:List D}{p q r e p' q' r' e':Int}(he:e'≠0)
  (h:U (fun n=>I2 n x (.Z 2 L) p q r e) fun z=>∃ n:Int,z=(true,yE n L p' q' r' e')) :
  U (fun n=>I2 n (cC 3 p0 p1 p2 t [x]) (.Z 2 L) p q r e) fun z=>∃ n:Int,z=(true,yE n L p' q' r' e'):=
 U.eq (fun n=>J3 n _ _ _ _ _ _ _ _ _ _ _) (U.no rfl (U.no rfl (U.H5 rfl (pQ (f:=fun n=>yE n L p' q' r' e') (Lm ht p0 p1 p2 hx h) fun n=>U.H5 rfl ((pU n L p' q' r' he p0 p1 p2).mono fun z hz=>⟨_,hz⟩)))))
theorem Nf (t:F9)(h1:(t==[45])=false)(h2:(t==[126])=false)(h3:(t==[33])=false)(p0 p1 p2:Int)(xs L:List D):oH (cC 3 p0 p1 p2 t xs) L (.bad p0 p1 p2 12):=by
 refine⟨by show (12:Int)≠0;decide,?_,fun p q r e he=>?_⟩
 ·have ho:U (fun n=>R9 n (cC 3 p0 p1 p2 t xs) (.Z 2 L) (0:Int) (0:Int) (0:Int) (0:Int)) fun z=>z=(true,yE 0 L p0 p1 p2 12):=
   U.eq (fun n=>bV n _ _ _ _ _ _ _ _ _ _ _) (U.no h1 (U.no h2 (U.no h3 (H4 (xD p0 p1 p2 12 L 0 0 0) (U.H5 rfl (U.ret rfl))))))
  exact U.eq (fun n=>J3 n _ _ _ _ _ _ _ _ _ _ _) (U.no rfl (U.no rfl (U.H5 rfl (H4 ho (U.H5 rfl ((pU 0 L p0 p1 p2 (show (12:Int)≠0 by decide) p0 p1 p2).mono fun z hz=>⟨_,hz,0,rfl⟩))))))
 ·have ho:U (fun n=>R9 n (cC 3 p0 p1 p2 t xs) (.Z 2 L) p q r e) fun z=>z=(true,yE 0 L p q r e):=
   U.eq (fun n=>bV n _ _ _ _ _ _ _ _ _ _ _) (U.no h1 (U.no h2 (U.no h3 (H4 (LU p0 p1 p2 12 L p q r he) (U.H5 rfl (U.ret rfl))))))
  exact U.eq (fun n=>J3 n _ _ _ _ _ _ _ _ _ _ _) (U.no rfl (U.no rfl (U.H5 rfl (H4 ho (U.H5 rfl ((pU 0 L p q r he p0 p1 p2).mono fun z hz=>⟨_,hz⟩))))))
theorem Vj (t:F9)(p0 p1 p2:Int){x:D}(hx:OP x){L:List D}{R:Rz}(h:oH x L R):∃ R',oH (cC 3 p0 p1 p2 t [x]) L R':=by
 obtain⟨hg,h0,hE⟩:=h
 have keep:(t=[45]∨t=[126]∨t=[33])→∀ p q r e:Int,e≠0→U (fun n=>I2 n (cC 3 p0 p1 p2 t [x]) (.Z 2 L) p q r e) fun z=>∃ n:Int,z=(true,yE n L p q r e):=
  fun ht p q r e he=>Nd ht p0 p1 p2 hx he (hE p q r e he)
 obtain⟨k,a,b,c,tt,xs,rfl⟩:=hx
 have hx:OP (cC k a b c tt xs):=⟨k,a,b,c,tt,xs,rfl⟩
 cases R with
 |bad a' b' c' e'=>
  have bad3:(t=[45]∨t=[126]∨t=[33])→oH (cC 3 p0 p1 p2 t [cC k a b c tt xs]) L (.bad a' b' c' e'):=by
   intro ht
   refine⟨hg,(Nd ht p0 p1 p2 hx hg (EN h0)).mono fun z hz=>?_,keep ht⟩
   obtain⟨n,hz⟩:=hz
   exact⟨_,hz,n,rfl⟩
  cases h1:t==[45] with
  |true=>exact⟨_,bad3 (.inl (eq_of_beq h1))⟩
  |false=>
   cases h2:t==[126] with
   |true=>exact⟨_,bad3 (.inr (.inl (eq_of_beq h2)))⟩
   |false=>
    cases h3:t==[33] with
    |true=>exact⟨_,bad3 (.inr (.inr (eq_of_beq h3)))⟩
    |false=>exact⟨_,Nf t h1 h2 h3 p0 p1 p2 _ L⟩
 |ok v=>
  have ho:=NJ h0
  obtain⟨v1,v2⟩:=hg
  cases h1:t==[45] with
  |true=>
   have ht:=eq_of_beq h1
   subst ht
   have hone:U (fun n=>R9 n (cC 3 p0 p1 p2 [45] [cC k a b c tt xs]) (.Z 2 L) (0:Int) (0:Int) (0:Int) (0:Int)) fun r=>r=(true,V3 (-v) L):=by
    refine U.eq (fun n=>bV n _ _ _ _ _ _ _ _ _ _ _) (U.H5 rfl (U.H5 rfl (U.H5 rfl (H4 ho (U.H5 rfl (U.ret ?_))))))
    show (true,V3 (IntKind.i64.wrap (0-v)) L)=_
    rw [N8 (by omega) (by omega),Int.zero_sub]
   cases hi:Nt (-v) with
   |true=>
    have q:wH (-v):=by
     unfold Nt at hi
     rw [A9] at hi
     exact⟨E5 hi.1,E5 hi.2⟩
    exact⟨.ok (-v),q,U.eq (fun n=>J3 n _ _ _ _ _ _ _ _ _ _ _) (U.no rfl (U.no rfl (U.H5 rfl (H4 hone (U.H5 rfl ((IK q p0 p1 p2 L).mono fun r hr=>⟨_,hr,rfl⟩)))))),keep (.inl rfl)⟩
   |false=>
    exact⟨.bad p0 p1 p2 3,by show (3:Int)≠0;decide,U.eq (fun n=>J3 n _ _ _ _ _ _ _ _ _ _ _) (U.no rfl (U.no rfl (U.H5 rfl (H4 hone (U.H5 rfl ((Kv hi p0 p1 p2 L).mono fun r hr=>⟨_,hr,0,rfl⟩)))))),keep (.inl rfl)⟩
  |false=>
   cases h2:t==[126] with
   |true=>
    have ht:=eq_of_beq h2
    subst ht
    have q:wH (-1-v):=⟨by omega,by omega⟩
    have hone:U (fun n=>R9 n (cC 3 p0 p1 p2 [126] [cC k a b c tt xs]) (.Z 2 L) (0:Int) (0:Int) (0:Int) (0:Int)) fun r=>r=(true,V3 (-1-v) L):=by
     have e:=Ma (a:=v) (by omega) (by omega)
     refine U.eq (fun n=>bV n _ _ _ _ _ _ _ _ _ _ _) (U.no rfl (U.H5 rfl (U.H5 rfl (U.H5 rfl (H4 ho (U.H5 rfl (U.ret ?_)))))))
     rw [← e];rfl
    exact⟨.ok (-1-v),q,U.eq (fun n=>J3 n _ _ _ _ _ _ _ _ _ _ _) (U.no rfl (U.no rfl (U.H5 rfl (H4 hone (U.H5 rfl ((IK q p0 p1 p2 L).mono fun r hr=>⟨_,hr,rfl⟩)))))),keep (.inr (.inl rfl))⟩
   |false=>
    cases h3:t==[33] with
    |true=>
     have ht:=eq_of_beq h3
     subst ht
     have q:wH (ZG (v==0)):=by cases v==0<;>exact⟨by decide,by decide⟩
     have hone:U (fun n=>R9 n (cC 3 p0 p1 p2 [33] [cC k a b c tt xs]) (.Z 2 L) (0:Int) (0:Int) (0:Int) (0:Int)) fun r=>r=(true,V3 (ZG (v==0)) L):=
      U.eq (fun n=>bV n _ _ _ _ _ _ _ _ _ _ _) (U.no rfl (U.no rfl (U.H5 rfl (U.H5 rfl (U.H5 rfl (H4 ho (U.H5 rfl (H4 (GK (v==0)) (U.H5 rfl (U.ret rfl))))))))))
     exact⟨.ok (ZG (v==0)),q,U.eq (fun n=>J3 n _ _ _ _ _ _ _ _ _ _ _) (U.no rfl (U.no rfl (U.H5 rfl (H4 hone (U.H5 rfl ((IK q p0 p1 p2 L).mono fun r hr=>⟨_,hr,rfl⟩)))))),keep (.inr (.inr rfl))⟩
    |false=>exact⟨_,Nf t h1 h2 h3 p0 p1 p2 _ L⟩
theorem Sv {v:Int}(h:Nt v=true):wH v:=by
 unfold Nt at h
 rw [A9] at h
 exact⟨E5 h.1,E5 h.2⟩
theorem ZH (t:F9)(p0 p1 p2:Int){x:D}(hx:OP x)(ys:List D){L:List D}{p q r e p' q' r' e':Int}(he:e'≠0)
  (h:U (fun n=>I2 n x (.Z 2 L) p q r e) fun z=>∃ n:Int,z=(true,yE n L p' q' r' e')) :
  U (fun n=>I2 n (cC 4 p0 p1 p2 t (x::ys)) (.Z 2 L) p q r e) fun z=>z=(true,yE 0 L p' q' r' e'):=by
 obtain⟨k,a,b,c,tt,xs,rfl⟩:=hx
 have hc:(true&&decide ((0:Int)<((cC k a b c tt xs::ys).length:Int)))=true:=N7 rfl (E4 (by simp only [A0];omega))
 have ht:U (fun n=>X6 n (cC 4 p0 p1 p2 t (cC k a b c tt xs::ys)) (.Z 2 L) p q r e) fun z=>z=(true,yE 0 L p' q' r' e'):=
  U.eq (fun n=>eK n _ _ _ _ _ _ _ _ _ _ _) (U.H5 hc (U.H5 rfl (pQ (f:=fun n=>yE n L p' q' r' e') h fun n=>U.H5 rfl (U.H5 (YE he).1 (U.ret rfl)))))
 exact U.eq (fun n=>J3 n _ _ _ _ _ _ _ _ _ _ _) (U.no rfl (U.no rfl (U.no rfl (U.H5 rfl (H4 ht (U.H5 rfl (pU 0 L p' q' r' he p0 p1 p2)))))))
theorem Sh {t:F9}(ht:t∈YH)(p0 p1 p2:Int){x y:D}(hx:OP x)(hy:OP y){L:List D}{R1 R2:Rz}(h1:oH x L R1)(h2:oH y L R2):∃ R',oH (cC 4 p0 p1 p2 t [x,y]) L R':=by
 obtain⟨g1,o1,k1⟩:=h1
 obtain⟨g2,o2,k2⟩:=h2
 have keep:∀ p q r e:Int,e≠0→U (fun n=>I2 n (cC 4 p0 p1 p2 t [x,y]) (.Z 2 L) p q r e) fun z=>∃ n:Int,z=(true,yE n L p q r e):=
  fun p q r e he=>(ZH t p0 p1 p2 hx [y] he (k1 p q r e he)).mono fun z hz=>⟨0,hz⟩
 cases R1 with
 |bad a b c e=>exact⟨.bad a b c e,g1,(ZH t p0 p1 p2 hx [y] g1 (EN o1)).mono fun z hz=>⟨_,hz,0,rfl⟩,keep⟩
 |ok a=>
  have oa:=NJ o1
  obtain⟨k,a',b',c',tt,xs,rfl⟩:=hx
  obtain⟨k',a2,b2,c2,tt2,xs2,rfl⟩:=hy
  have hx:OP (cC k a' b' c' tt xs):=⟨_,_,_,_,_,_,rfl⟩
  have hy:OP (cC k' a2 b2 c2 tt2 xs2):=⟨_,_,_,_,_,_,rfl⟩
  have short:∀ v:Int,wH v→U (fun n=>X6 n (cC 4 p0 p1 p2 t [cC k a' b' c' tt xs,cC k' a2 b2 c2 tt2 xs2]) (.Z 2 L) (0:Int) (0:Int) (0:Int) (0:Int)) (fun z=>z=(true,V3 v L))→
    ∃ R',oH (cC 4 p0 p1 p2 t [cC k a' b' c' tt xs,cC k' a2 b2 c2 tt2 xs2]) L R':=
   fun v hv hw=>⟨.ok v,hv,U.eq (fun n=>J3 n _ _ _ _ _ _ _ _ _ _ _) (U.no rfl (U.no rfl (U.no rfl (U.H5 rfl (H4 hw (U.H5 rfl ((IK hv p0 p1 p2 L).mono fun r hr=>⟨_,hr,rfl⟩))))))),keep⟩
  by_cases s1:t=[38,38]∧a=0
  ·obtain⟨rfl,rfl⟩:=s1
   refine short 0 ⟨by decide,by decide⟩ ?_
   refine U.eq (fun n=>eK n _ _ _ _ _ _ _ _ _ _ _) ?_
   (repeat (first|refine U.no rfl ?_|refine U.H5 rfl ?_))
   refine H4 oa ?_
   (repeat (first|refine U.no rfl ?_|refine U.H5 rfl ?_))
   exact U.ret rfl
  by_cases s2:t=[124,124]∧a≠0
  ·obtain⟨rfl,ha⟩:=s2
   have hb:(a !=0)=true:=by simp [ha]
   refine short 1 ⟨by decide,by decide⟩ ?_
   refine U.eq (fun n=>eK n _ _ _ _ _ _ _ _ _ _ _) ?_
   (repeat (first|refine U.no rfl ?_|refine U.H5 rfl ?_))
   refine H4 oa ?_
   (repeat (first|refine U.no rfl ?_|refine U.H5 rfl ?_))
   exact U.H5 hb (U.ret rfl)
  cases R2 with
  |bad p q r e=>
   have ob:=EN o2
   have hw:U (fun n=>X6 n (cC 4 p0 p1 p2 t [cC k a' b' c' tt xs,cC k' a2 b2 c2 tt2 xs2]) (.Z 2 L) (0:Int) (0:Int) (0:Int) (0:Int)) fun z=>z=(true,yE 0 L p q r e):=by
    have j1:U (fun n=>bW n [cC k a' b' c' tt xs,cC k' a2 b2 c2 tt2 xs2] (V3 a L) t p0 p1 p2 4) fun z=>z=(true,yE 0 L p q r e):=
     M1 (fun n=>bW.eq_1 n _ _ _ _ _ _ _) (U.H5 rfl (U.H5 rfl (pQ (f:=fun n=>yE n L p q r e) ob fun n=>U.H5 rfl (U.H5 (YE g2).1 (U.ret rfl)))))
    refine U.eq (fun n=>eK n _ _ _ _ _ _ _ _ _ _ _) (U.H5 rfl (U.H5 rfl (H4 oa (U.H5 rfl (U.no rfl ?_)))))
    cases e1:t==[38,38] with
    |true=>
     have ha:(a==0)=false:=by
      have q:=eq_of_beq e1
      simp only [q,true_and] at s1
      simpa using s1
     refine U.H5 rfl (U.no ha ?_)
     cases e2:t==[124,124] with
     |true=>rw [eq_of_beq e1] at e2;cases e2
     |false=>exact U.no rfl j1
    |false=>
     refine U.no rfl ?_
     cases e2:t==[124,124] with
     |true=>
      have ha:(a !=0)=false:=by
       have q:=eq_of_beq e2
       simp only [q,true_and] at s2
       simpa using s2
      exact U.H5 rfl (U.no ha j1)
     |false=>exact U.no rfl j1
   exact⟨.bad p q r e,g2,U.eq (fun n=>J3 n _ _ _ _ _ _ _ _ _ _ _) (U.no rfl (U.no rfl (U.no rfl (U.H5 rfl (H4 hw (U.H5 rfl ((pU 0 L p q r g2 p0 p1 p2).mono fun z hz=>⟨_,hz,0,rfl⟩))))))),keep⟩
  |ok b=>
   have ob:=NJ o2
   have ho:=Py ht p0 p1 p2 hx hy g1 g2 oa ob
   unfold Sg at ho
   cases hof:sT t b with
   |true=>
    rw [hof] at ho
    exact⟨.bad p0 p1 p2 3,by show (3:Int)≠0;decide,ho.mono fun z hz=>⟨_,hz,0,rfl⟩,keep⟩
   |false=>
    rw [hof] at ho
    cases hin:Nt (Cr t a b) with
    |true=>
     rw [hin] at ho
     exact⟨.ok (Cr t a b),Sv hin,ho.mono fun z hz=>⟨_,hz,rfl⟩,keep⟩
    |false=>
     rw [hin] at ho
     exact⟨.bad p0 p1 p2 3,by show (3:Int)≠0;decide,ho.mono fun z hz=>⟨_,hz,0,rfl⟩,keep⟩
theorem QI (t:F9)(p0 p1 p2:Int){x y z:D}(hx:OP x)(hy:OP y){L:List D}{p q r e p' q' r' e':Int}(he:e'≠0)
  (h:U (fun n=>I2 n x (.Z 2 L) p q r e) fun z=>∃ n:Int,z=(true,yE n L p' q' r' e'))
  (h2:U (fun n=>I2 n y (.Z 2 L) p' q' r' e') fun z=>∃ n:Int,z=(true,yE n L p' q' r' e')) :
  U (fun n=>I2 n (cC 5 p0 p1 p2 t [x,y,z]) (.Z 2 L) p q r e) fun z=>∃ n:Int,z=(true,yE n L p' q' r' e'):=by
 obtain⟨k,a,b,c,tt,xs,rfl⟩:=hx
 obtain⟨k2,a2,b2,c2,tt2,xs2,rfl⟩:=hy
 refine U.eq (fun n=>J3 n _ _ _ _ _ _ _ _ _ _ _) (U.no rfl (U.no rfl (U.no rfl (U.no rfl (U.H5 rfl (U.H5 rfl (U.H5 rfl (pQ (f:=fun n=>yE n L p' q' r' e') h fun n=>U.H5 rfl (U.P7 (fun _=>?_) fun _=>?_)))))))))
 ·exact U.H5 rfl (U.H5 rfl (pQ (f:=fun n=>yE n L p' q' r' e') h2 fun n=>U.H5 rfl (U.ret ⟨_,rfl⟩)))
 ·exact U.no (YE he).2 ((pU 0 L p' q' r' he p0 p1 p2).mono fun z hz=>⟨_,hz⟩)
def Jt (R1 R2 R3:Rz):Rz:=match R1 with
 | .bad a b c e=> .bad a b c e
 | .ok v=>bif v !=0 then R2 else R3
theorem Ot (t:F9)(p0 p1 p2:Int){x y z:D}(hx:OP x)(hy:OP y)(hz:OP z){L:List D}{R1 R2 R3:Rz}(h1:oH x L R1)(h2:oH y L R2)(h3:oH z L R3) :
  oH (cC 5 p0 p1 p2 t [x,y,z]) L (Jt R1 R2 R3):=by
 obtain⟨g1,o1,k1⟩:=h1
 obtain⟨g2,o2,k2⟩:=h2
 obtain⟨g3,o3,k3⟩:=h3
 have keep:∀ p q r e:Int,e≠0→U (fun n=>I2 n (cC 5 p0 p1 p2 t [x,y,z]) (.Z 2 L) p q r e) fun z=>∃ n:Int,z=(true,yE n L p q r e):=
  fun p q r e he=>QI t p0 p1 p2 hx hy he (k1 p q r e he) (k2 p q r e he)
 cases R1 with
 |bad a b c e=>
  refine⟨g1,(QI t p0 p1 p2 hx hy g1 (EN o1) (k2 a b c e g1)).mono fun z hz=>?_,keep⟩
  obtain⟨n,hz⟩:=hz
  exact⟨_,hz,n,rfl⟩
 |ok v=>
  have oa:=NJ o1
  obtain⟨k,a',b',c',tt,xs,rfl⟩:=hx
  obtain⟨ky,ay,by',cy,tty,xsy,rfl⟩:=hy
  obtain⟨kz,az,bz,cz,ttz,xsz,rfl⟩:=hz
  cases hv:v !=0 with
  |true=>
   rw [show Jt (.ok v) R2 R3=R2 by show (bif v !=0 then R2 else R3)=R2;rw [hv];rfl]
   refine⟨g2,?_,keep⟩
   refine U.eq (fun n=>J3 n _ _ _ _ _ _ _ _ _ _ _) (U.no rfl (U.no rfl (U.no rfl (U.no rfl (U.H5 rfl (U.H5 rfl (U.H5 rfl (H4 oa (U.H5 rfl (U.H5 hv (U.H5 rfl (U.H5 rfl ?_))))))))))))
   refine U.H3 o2 ?_
   rintro _ _ ⟨ds,h,hds⟩
   cases h
   refine⟨rfl,?_⟩
   cases R2 with
   |ok w=>
    cases (show _=V3 w L from hds)
    exact U.H5 rfl (U.ret ⟨_,rfl,rfl⟩)
   |bad a b c e=>
    obtain⟨n,hds⟩:=hds
    cases hds
    exact U.H5 rfl (U.ret ⟨_,rfl,n,rfl⟩)
  |false=>
   rw [show Jt (.ok v) R2 R3=R3 by show (bif v !=0 then R2 else R3)=R3;rw [hv];rfl]
   refine⟨g3,?_,keep⟩
   refine U.eq (fun n=>J3 n _ _ _ _ _ _ _ _ _ _ _) (U.no rfl (U.no rfl (U.no rfl (U.no rfl (U.H5 rfl (U.H5 rfl (U.H5 rfl (H4 oa (U.H5 rfl (U.no hv (U.H5 rfl (U.H5 rfl (U.H5 rfl ?_)))))))))))))
   refine U.H3 o3 ?_
   rintro _ _ ⟨ds,h,hds⟩
   cases h
   refine⟨rfl,?_⟩
   cases R3 with
   |ok w=>
    cases (show _=V3 w L from hds)
    exact U.H5 rfl ((IK g3 p0 p1 p2 L).mono fun r hr=>⟨_,hr,rfl⟩)
   |bad a b c e=>
    obtain⟨n,hds⟩:=hds
    cases hds
    exact U.H5 rfl ((pU n L a b c g3 p0 p1 p2).mono fun r hr=>⟨_,hr,n,rfl⟩)
def Mk (b:List D)(a:Int):Prop:=Bytes b∧b.length≤300∧0≤a∧a≤b.length
theorem jA {k:Int}(hk:0<k)(hk2:k≤1000){b:List D}{a:Int}(hm:Mk b a):U (fun n=>L5 n k (.Z 1 b) a) fun r=>∃ v a',r=(true,[.int .i64 v,.Z 1 b,.int .i64 a'])∧0≤v∧v<k∧Mk b a':=by
 obtain⟨hb,hl,h0,h1⟩:=hm
 refine U.eq (fun n=>PE n k b a) ?_
 refine U.P7 (fun _=>U.ret ⟨0,a,rfl,Int.le_refl _,hk,hb,hl,h0,h1⟩) fun hc=>?_
 have hc:¬ a≥(b.length:Int):=E7 hc
 have e1:IntKind.i64.wrap (a+1)=a+1:=N8 (by omega) (by omega)
 have e2:IntKind.i64.wrap (a+1-1)=a:=by rw [N8 (by omega) (by omega)];omega
 obtain⟨i,hi,hi0,hi1⟩:=Ay (P:=fun y=>∃ i:Int,y = .int .u8 i∧0≤i∧i≤255) hb (v:=a) h0 (by omega)
 simp only [e1,e2,hi]
 refine U.H5 (by simp;omega) ?_
 refine U.H5 rfl ?_
 refine U.no (E6 (by omega)) ?_
 have e3:(IntKind.i64.wrap (D.int IntKind.u8 i).i)=i:=N8 (show -9223372036854775808≤i by omega) (show i≤9223372036854775807 by omega)
 simp only [e3]
 have e4:0≤i.tmod k:=Int.tmod_nonneg k hi0
 have e5:i.tmod k<k:=Int.tmod_lt_of_pos i hk
 have e6:IntKind.i64.wrap (i.tmod k)=i.tmod k:=N8 (by omega) (by omega)
 exact U.ret ⟨_,_,rfl,e4,e5,hb,hl,by omega,by omega⟩
def Rk:List F9:=[[97],[98],[99],[100],[120,49],[95,121],[113],[114]]
def Hd:List F9:=[[48],[49],[50],[55],[52,39,98,49,48,49,48],[56,39,104,102,102],[51,39,115,100,50],[49,95,48]]
def Vi:List F9:=[[45],[126],[33],[38],[124],[94],[126,38],[126,124],[126,94]]
def QD:List F9:=[[102],[103],[36,115,105,103,110,101,100],[36,117,110,115,105,103,110,101,100]]
theorem OC {T:List F9}{v:Int}(h0:0≤v)(h1:v<T.length):∃ s,s∈T∧(T.map D.str)[v.toNat]?.getD D.top = .str s:=by
 have:=Ay (P:=fun y=>∃ s,s∈T∧y=D.str s) (xs:=T.map D.str) (fun x hx=>by obtain⟨s,hs,rfl⟩:=List.mem_map.1 hx;exact⟨s,hs,rfl⟩) h0 (by simpa using h1)
 exact this
def E (k:Int)(t:F9)(ar:List D):D:= .agg [.int .i64 k,.int .i64 0,.int .i64 0,.int .i64 0,.str t,.Z 6 ar]
def Ry (_:F9):Prop:=True
def rH (k:Int)(t:F9)(m:Nat):Prop:=
 (k=1∧t∈Hd∧m=0)∨(k=2∧Ry t∧m=0)∨(k=3∧t∈Vi∧m=1)∨(k=4∧t∈YH∧m=2)∨(k=5∧t=[]∧m=3)∨(k=6∧t=[]∧1≤m∧m≤3)∨
 (k=7∧t=[]∧2≤m∧m≤3)∨(k=8∧Ry t∧m=1)∨(k=9∧Ry t∧m=2)∨(k=10∧t∈QD∧1≤m∧m≤2)
def Ij:Nat→D→Prop
 |0,_=>False
 |n+1,x=>∃ k t ar,x=E k t ar∧rH k t ar.length∧∀ a∈ar,Ij n a
theorem UH {b:List D}{a:Int}(hm:Mk b a):U (fun n=>iC n (.Z 1 b) a) fun r=>∃ s a',r=(true,[.str s,.Z 1 b,.int .i64 a'])∧s∈Rk∧Mk b a':=by
 refine U.eq (fun n=>PF n b a) ?_
 (refine U.H3 (jA (by decide) (by decide) (by assumption)) ?_;rintro _ _ ⟨v,a,h,hv0,hv1,hm⟩;cases h;refine⟨rfl,?_⟩)
 refine U.H5 rfl ?_
 refine U.H5 (N7 (E4 hv0) (E4 hv1)) ?_
 obtain⟨s,h1,hs⟩:=OC (T:=Rk) hv0 hv1
 refine U.H5 (by exact congrArg (fun x=>I5 (.leaf .str)&&K0 (.leaf .str) x) hs) ?_
 refine U.ret ⟨s,a,?_,h1,hm⟩
 exact congrArg (fun x:D=>(true,[D.str x.s,.Z 1 b,.int .i64 a])) hs
theorem He {b:List D}{a:Int}(hm:Mk b a):U (fun n=>iE n (.Z 1 b) a) fun r=>∃ s a',r=(true,[.str s,.Z 1 b,.int .i64 a'])∧s∈Hd∧Mk b a':=by
 refine U.eq (fun n=>JI n b a) ?_
 (refine U.H3 (jA (by decide) (by decide) (by assumption)) ?_;rintro _ _ ⟨v,a,h,hv0,hv1,hm⟩;cases h;refine⟨rfl,?_⟩)
 refine U.H5 rfl ?_
 refine U.H5 (N7 (E4 hv0) (E4 hv1)) ?_
 obtain⟨s,h1,hs⟩:=OC (T:=Hd) hv0 hv1
 refine U.H5 (by exact congrArg (fun x=>I5 (.leaf .str)&&K0 (.leaf .str) x) hs) ?_
 refine U.ret ⟨s,a,?_,h1,hm⟩
 exact congrArg (fun x:D=>(true,[D.str x.s,.Z 1 b,.int .i64 a])) hs
theorem Tg:U (fun n=>nY n) fun r=>r=(true,[.Z 1 (YH.map D.str)]):=
 U.eq (fun n=>VF n) (U.ret rfl)
theorem fU {d:Nat}{deep:Int}(hE:∀ b a,Mk b a→U (fun n=>U8 n deep (.Z 1 b) a) fun r=>∃ x a',r=(true,[x,.Z 1 b,.int .i64 a'])∧Ij d x∧Mk b a')
  {c:Int} (hc:0≤c) (hc2:c≤100) {b:List D} {a:Int} (hm:Mk b a):U (fun n=>L4 n deep c (.Z 1 b) a) fun r=>∃ xs a',r=(true,[.Z 1 b,.int .i64 a',.Z 6 xs])∧xs.length=c.toNat∧(∀ x∈xs,Ij d x)∧Mk b a':=by
 have loop:∀ (k:Nat) (i:Int) (a:Int) (xs:List D),c-i=k→0≤i→xs.length=i.toNat→(∀ x∈xs,Ij d x)→Mk b a→
   U (fun n=>W8 n deep c i (.Z 1 b) a (.Z 6 xs)) fun r=>∃ ys a',r=(false,[.int .i64 deep,.int .i64 c,.int .i64 c,.Z 1 b,.int .i64 a',.Z 6 ys])∧ys.length=c.toNat∧(∀ x∈ys,Ij d x)∧Mk b a':=by
  intro k
  induction k with
  |zero=>
   intro i a xs hk h0 hl hx hm
   refine U.eq (fun n=>nD n deep c i b a xs) ?_
   refine U.no (E6 (by omega)) ?_
   have:i=c:=by omega
   subst this
   exact U.ret ⟨xs,a,rfl,hl,hx,hm⟩
  |succ k ih=>
   intro i a xs hk h0 hl hx hm
   refine U.eq (fun n=>nD n deep c i b a xs) ?_
   refine U.H5 (E4 (by omega)) ?_
   refine U.H3 (hE b a hm) ?_
   rintro _ _ ⟨x,a',h,hwx,hm'⟩;cases h;refine⟨rfl,?_⟩
   obtain⟨dd,rfl⟩:∃ dd,d=dd+1:=by cases d with|zero=>exact hwx.elim|succ dd=>exact⟨dd,rfl⟩
   have hwx':=hwx
   obtain⟨k0,t,ar,rfl,hsh,har⟩:=hwx
   refine U.H5 rfl ?_
   refine U.H5 (B2 (by unfold J5;omega)) ?_
   have e1:IntKind.i64.wrap (i+1)=i+1:=N8 (by omega) (by omega)
   rw [e1]
   exact ih (i+1) a' (xs++[E k0 t ar]) (by omega) (by omega) (by simp;omega) (fun y hy=>by
    rcases D3.1 hy with hy|hy
    ·exact hx y hy
    ·simp at hy;subst hy;exact hwx') hm'
 refine U.eq (fun n=>BW n deep c b a) ?_
 refine U.J2 (loop c.toNat 0 a [] (by omega) (by omega) rfl (fun x hx=>by cases hx) hm) ?_ ?_
 ·rintro ds ⟨ys,a',h,_⟩;cases h
 ·rintro ds ⟨ys,a',h,h1,h2,h3⟩;cases h
  refine U.H5 rfl ?_
  exact U.ret ⟨ys,a',rfl,h1,h2,h3⟩
theorem Sq {t x y:Nat→Out}{P:Bool×List D→Prop}(he:∀ n,t n=bif true then x n else y n)(h:U t P):U x P:=by
 obtain⟨r,h1,N,h2⟩:=h
 exact⟨r,h1,N,fun n hn=>by rw [← h2 n hn,he n];rfl⟩
theorem Dg {d:Nat}{deep:Int}(hE0:2≤deep→∀ b a,Mk b a→U (fun n=>U8 n (IntKind.i64.wrap (deep-1):Int) (.Z 1 b) a) fun r=>∃ x a',r=(true,[x,.Z 1 b,.int .i64 a'])∧Ij d x∧Mk b a')
  {b:List D} {a:Int} (hm:Mk b a) (v k:Int) (hk0:0≤k) (hk1:k≤11) (hk2:2<k→2≤deep) :
  U (fun n=>jB n k [.int .i64 v,.Z 1 b,.int .i64 a] deep) fun r=>∃ x a',r=(true,[x,.Z 1 b,.int .i64 a'])∧Ij (d+1) x∧Mk b a':=by
 have nam:U (fun n=>fW n true [.int .i64 v,.Z 1 b,.int .i64 a] k deep) fun r=>∃ x a',r=(true,[x,.Z 1 b,.int .i64 a'])∧Ij (d+1) x∧Mk b a':=by
  refine M1 (fun n=>fW.eq_1 n _ _ _ _) (U.H5 rfl ?_)
  refine U.H3 (UH (by assumption)) ?_
  rintro _ _ ⟨s,a,h,hs1,hm⟩;cases h;refine⟨rfl,?_⟩
  refine U.H5 rfl ?_
  exact U.ret ⟨E 2 s [],a,rfl,⟨2,s,[],rfl,.inr (.inl ⟨rfl,trivial,rfl⟩),fun x hx=>by cases hx⟩,hm⟩
 refine M1 (fun n=>jB.eq_1 n _ _ _) (U.P7 (fun hk=>nam) (fun hn0=>?_))
 cases hn1:(k==1) with
 |true=>exact nam
 |false=>
 refine M1 (fun n=>fW.eq_1 n _ _ _ _) (U.no rfl ?_)
 refine U.P7 (fun hk=>?_) (fun hn2=>?_)
 ·refine U.H3 (He (by assumption)) ?_
  rintro _ _ ⟨s,a,h,hs1,hm⟩;cases h;refine⟨rfl,?_⟩
  refine U.H5 rfl ?_
  exact U.ret ⟨E 1 s [],a,rfl,⟨1,s,[],rfl,.inl ⟨rfl,hs1,rfl⟩,fun x hx=>by cases hx⟩,hm⟩
 have n0:k≠0:=by simpa using hn0
 have n1:k≠1:=by simpa using hn1
 have n2:k≠2:=by simpa using hn2
 have hE:=hE0 (hk2 (by omega))
 have hbin:∀ {b:List D} {a:Int} (v k:Int),Mk b a→U (fun n=>bI n true [.int .i64 v,.Z 1 b,.int .i64 a] deep k)
   fun r=>∃ x a',r=(true,[x,.Z 1 b,.int .i64 a'])∧Ij (d+1) x∧Mk b a':=by
  intro b a v k hm
  refine M1 (fun n=>bI.eq_1 n _ _ _ _) (U.H5 rfl ?_)
  refine U.H3 Tg ?_
  rintro _ _ h;cases h;refine⟨rfl,?_⟩
  refine U.H5 rfl ?_
  (refine U.H3 (jA (by decide) (by decide) (by assumption)) ?_;rintro _ _ ⟨v,a,h,hv0,hv1,hm⟩;cases h;refine⟨rfl,?_⟩)
  refine U.H5 rfl ?_
  (refine U.H5 (N7 (E4 hv0) (E4 hv1)) ?_;obtain⟨s,hs1,hs⟩:=OC (T:=YH) hv0 hv1;refine U.H5 (by exact congrArg (fun x=>I5 (.leaf .str)&&K0 (.leaf .str) x) hs) ?_)
  (refine U.H3 (fU hE (c:=2) (by decide) (by decide) (by assumption)) ?_;rintro _ _ ⟨xs,a,h,hl,hx,hm⟩;cases h;refine⟨rfl,?_⟩)
  refine U.H5 rfl ?_
  refine U.ret ⟨E 4 s xs,a,?_,⟨4,s,xs,rfl,.inr (.inr (.inr (.inl ⟨rfl,hs1,hl⟩))),hx⟩,hm⟩
  exact congrArg (fun x:D=>(true,[D.agg [.int .i64 4,.int .i64 0,.int .i64 0,.int .i64 0,.str x.s,.Z 6 xs],.Z 1 b,.int .i64 a])) hs
 refine U.P7 (fun hk=>?_) (fun hn=>?_)
 ·(refine U.H3 (jA (by decide) (by decide) (by assumption)) ?_;rintro _ _ ⟨v,a,h,hv0,hv1,hm⟩;cases h;refine⟨rfl,?_⟩)
  refine U.H5 rfl ?_
  (refine U.H5 (N7 (E4 hv0) (E4 hv1)) ?_;obtain⟨s,hs1,hs⟩:=OC (T:=Vi) hv0 hv1;refine U.H5 (by exact congrArg (fun x=>I5 (.leaf .str)&&K0 (.leaf .str) x) hs) ?_)
  (refine U.H3 (fU hE (c:=1) (by decide) (by decide) (by assumption)) ?_;rintro _ _ ⟨xs,a,h,hl,hx,hm⟩;cases h;refine⟨rfl,?_⟩)
  refine U.H5 rfl ?_
  refine U.ret ⟨E 3 s xs,a,?_,⟨3,s,xs,rfl,.inr (.inr (.inl ⟨rfl,hs1,hl⟩)),hx⟩,hm⟩
  exact congrArg (fun x:D=>(true,[D.agg [.int .i64 3,.int .i64 0,.int .i64 0,.int .i64 0,.str x.s,.Z 6 xs],.Z 1 b,.int .i64 a])) hs
 refine U.P7 (fun hk=>hbin _ _ (by assumption)) (fun hn=>?_)
 refine U.P7 (fun hk=>hbin _ _ (by assumption)) (fun hn=>?_)
 refine M1 (fun n=>bI.eq_1 n _ _ _ _) (U.P7 (fun hk=>?_) (fun hn=>?_))
 ·have hb:=hbin v k (by assumption)
  exact Sq (fun n=>bI.eq_1 n _ _ _ _) hb
 refine U.P7 (fun hk=>?_) (fun hn=>?_)
 ·(refine U.H3 (fU hE (c:=3) (by decide) (by decide) (by assumption)) ?_;rintro _ _ ⟨xs,a,h,hl,hx,hm⟩;cases h;refine⟨rfl,?_⟩)
  refine U.H5 rfl ?_
  exact U.ret ⟨E 5 [] xs,a,rfl,⟨5,[],xs,rfl,.inr (.inr (.inr (.inr (.inl ⟨rfl,rfl,hl⟩)))),hx⟩,hm⟩
 refine U.P7 (fun hk=>?_) (fun hn=>?_)
 ·(refine U.H3 (jA (by decide) (by decide) (by assumption)) ?_;rintro _ _ ⟨v,a,h,hv0,hv1,hm⟩;cases h;refine⟨rfl,?_⟩)
  refine U.H5 rfl ?_
  have e2:IntKind.i64.wrap (1+v)=1+v:=N8 (by omega) (by omega)
  refine U.H3 (fU hE (c:=IntKind.i64.wrap (1+v)) (by rw [e2];omega) (by rw [e2];omega) (by assumption)) ?_
  rintro _ _ ⟨xs,a,h,hl,hx,hm⟩;cases h;refine⟨rfl,?_⟩
  refine U.H5 rfl ?_
  rw [e2] at hl
  exact U.ret ⟨E 6 [] xs,a,rfl,⟨6,[],xs,rfl,.inr (.inr (.inr (.inr (.inr (.inl ⟨rfl,rfl,by omega,by omega⟩))))),hx⟩,hm⟩
 refine U.P7 (fun hk=>?_) (fun hn=>?_)
 ·(refine U.H3 (jA (by decide) (by decide) (by assumption)) ?_;rintro _ _ ⟨v,a,h,hv0,hv1,hm⟩;cases h;refine⟨rfl,?_⟩)
  refine U.H5 rfl ?_
  have e2:IntKind.i64.wrap (2+v)=2+v:=N8 (by omega) (by omega)
  refine U.H3 (fU hE (c:=IntKind.i64.wrap (2+v)) (by rw [e2];omega) (by rw [e2];omega) (by assumption)) ?_
  rintro _ _ ⟨xs,a,h,hl,hx,hm⟩;cases h;refine⟨rfl,?_⟩
  refine U.H5 rfl ?_
  rw [e2] at hl
  exact U.ret ⟨E 7 [] xs,a,rfl,⟨7,[],xs,rfl,.inr (.inr (.inr (.inr (.inr (.inr (.inl ⟨rfl,rfl,by omega,by omega⟩)))))),hx⟩,hm⟩
 refine U.P7 (fun hk=>?_) (fun hn=>?_)
 ·(refine U.H3 (jA (by decide) (by decide) (by assumption)) ?_;rintro _ _ ⟨v,a,h,hv0,hv1,hm⟩;cases h;refine⟨rfl,?_⟩)
  refine U.H5 rfl ?_
  have hv:v=0∨v=1:=by omega
  rcases hv with rfl|rfl
  ·refine U.H5 rfl ?_
   refine U.H5 rfl ?_
   refine U.H3 (UH (by assumption)) ?_
   rintro _ _ ⟨s,a,h,hs1,hm⟩;cases h;refine⟨rfl,?_⟩
   refine U.H5 rfl ?_
   refine U.H3 (fU hE (c:=IntKind.i64.wrap (1+0)) (by decide) (by decide) (by assumption)) ?_
   rintro _ _ ⟨xs,a,h,hl,hx,hm⟩;cases h;refine⟨rfl,?_⟩
   refine U.H5 rfl ?_
   exact U.ret ⟨E 8 s xs,a,rfl,⟨8,s,xs,rfl,.inr (.inr (.inr (.inr (.inr (.inr (.inr (.inl ⟨rfl,trivial,hl⟩))))))),hx⟩,hm⟩
  ·refine U.H5 rfl ?_
   refine U.H5 rfl ?_
   refine U.H3 (UH (by assumption)) ?_
   rintro _ _ ⟨s,a,h,hs1,hm⟩;cases h;refine⟨rfl,?_⟩
   refine U.H5 rfl ?_
   refine U.H3 (fU hE (c:=IntKind.i64.wrap (1+1)) (by decide) (by decide) (by assumption)) ?_
   rintro _ _ ⟨xs,a,h,hl,hx,hm⟩;cases h;refine⟨rfl,?_⟩
   refine U.H5 rfl ?_
   exact U.ret ⟨E 9 s xs,a,rfl,⟨9,s,xs,rfl,.inr (.inr (.inr (.inr (.inr (.inr (.inr (.inr (.inl ⟨rfl,trivial,hl⟩)))))))),hx⟩,hm⟩
 ·(refine U.H3 (jA (by decide) (by decide) (by assumption)) ?_;rintro _ _ ⟨v,a,h,hv0,hv1,hm⟩;cases h;refine⟨rfl,?_⟩)
  refine U.H5 rfl ?_
  (refine U.H5 (N7 (E4 hv0) (E4 hv1)) ?_;obtain⟨s,hs1,hs⟩:=OC (T:=QD) hv0 hv1;refine U.H5 (by exact congrArg (fun x=>I5 (.leaf .str)&&K0 (.leaf .str) x) hs) ?_)
  refine U.H3 (jA (by decide) (by decide) (by assumption)) ?_
  rintro _ _ ⟨v2,a,h,hv20,hv21,hm⟩;cases h;refine⟨rfl,?_⟩
  refine U.H5 rfl ?_
  have e2:IntKind.i64.wrap (1+v2)=1+v2:=N8 (by omega) (by omega)
  refine U.H3 (fU hE (c:=IntKind.i64.wrap (1+v2)) (by rw [e2];omega) (by rw [e2];omega) (by assumption)) ?_
  rintro _ _ ⟨xs,a,h,hl,hx,hm⟩;cases h;refine⟨rfl,?_⟩
  refine U.H5 rfl ?_
  rw [e2] at hl
  refine U.ret ⟨E 10 s xs,a,?_,⟨10,s,xs,rfl,.inr (.inr (.inr (.inr (.inr (.inr (.inr (.inr (.inr ⟨rfl,hs1,by omega,by omega⟩)))))))),hx⟩,hm⟩
  exact congrArg (fun x:D=>(true,[D.agg [.int .i64 10,.int .i64 0,.int .i64 0,.int .i64 0,.str x.s,.Z 6 xs],.Z 1 b,.int .i64 a])) hs
theorem XX:∀ (d:Nat) (deep:Int),-1000≤deep→deep≤d+1→d≤100→∀ (b:List D) (a:Int),Mk b a→
  U (fun n=>U8 n deep (.Z 1 b) a) fun r=>∃ x a',r=(true,[x,.Z 1 b,.int .i64 a'])∧Ij (d+1) x∧Mk b a':=by
 have step:∀ (d:Nat) (deep:Int),-1000≤deep→(2≤deep→∀ b a,Mk b a→U (fun n=>U8 n (IntKind.i64.wrap (deep-1):Int) (.Z 1 b) a) fun r=>∃ x a',r=(true,[x,.Z 1 b,.int .i64 a'])∧Ij d x∧Mk b a')→∀ (b:List D) (a:Int),Mk b a→
   U (fun n=>U8 n deep (.Z 1 b) a) fun r=>∃ x a',r=(true,[x,.Z 1 b,.int .i64 a'])∧Ij (d+1) x∧Mk b a':=by
  intro d deep hd0 hE b a hm
  refine U.eq (fun n=>ES n deep b a) ?_
  (refine U.H3 (jA (by decide) (by decide) (by assumption)) ?_;rintro _ _ ⟨v,a,h,hv0,hv1,hm⟩;cases h;refine⟨rfl,?_⟩)
  refine U.H5 rfl ?_
  refine U.P7 (fun hc=>?_) fun hc=>?_
  ·have e1:0≤v.tmod 3:=Int.tmod_nonneg 3 hv0
   have e2:v.tmod 3<3:=Int.tmod_lt_of_pos v (by decide)
   exact Dg hE (by assumption) v (v.tmod 3) e1 (by omega) (fun h=>by omega)
  ·have hc:=E7 hc
   exact Dg hE (by assumption) v v hv0 (by omega) (fun _=>by omega)
 intro d
 induction d with
 |zero=>exact fun deep hd0 hd hd2 b a hm=>step 0 deep hd0 (fun h=>by omega) b a hm
 |succ d ih=>
  intro deep hd0 hd hd2 b a hm
  have e1:IntKind.i64.wrap (deep-1)=deep-1:=N8 (by omega) (by omega)
  refine step (d+1) deep hd0 (fun h=>?_) b a hm
  rw [e1]
  exact ih (deep-1) (by omega) (by omega) (by omega)
def rS:Nat→D→Prop
 |0,_=>False
 |n+1,x=>∃ (k a b c:Int) (t:F9) (xs:List D),x=cC k a b c t xs∧rH k t xs.length∧∀ y∈xs,rS n y
theorem Nj:∀ {d:Nat} {x:D},Ij d x→rS d x
 |d+1,x,h=>by
  obtain⟨k,t,xs,rfl,hs,hy⟩:=h
  exact⟨k,0,0,0,t,xs,rfl,hs,fun y hm=>Nj (hy y hm)⟩
theorem NW {k:Int}{t:F9}{m:Nat}(h:rH k t m):m≤3:=by
 unfold rH at h
 rcases h with ⟨_,_,h⟩|⟨_,_,h⟩|⟨_,_,h⟩|⟨_,_,h⟩|⟨_,_,h⟩|⟨_,_,_,h⟩|⟨_,_,_,h⟩|⟨_,_,h⟩|⟨_,_,h⟩|⟨_,_,_,h⟩<;>omega
theorem Cu:∀ {d:Nat} {x:D},rS d x→Vr d x
 |d+1,x,h=>by
  obtain⟨k,a,b,c,t,xs,rfl,hs,hy⟩:=h
  have:=NW hs
  exact⟨k,a,b,c,t,xs,rfl,by omega,fun y hm=>Cu (hy y hm)⟩
theorem P6 {d:Nat}{x:D}(h:rS d x):OP x:=by
 cases d with
 |zero=>exact h.elim
 |succ d=>obtain⟨k,a,b,c,t,xs,rfl,_⟩:=h;exact⟨k,a,b,c,t,xs,rfl⟩
theorem MM {x:D}(h:OP x):(I5 H6&&K0 H6 x)=true∧H7 H6 x=x:=by
 obtain⟨k,a,b,c,t,xs,rfl⟩:=h
 exact⟨rfl,rfl⟩
theorem TU:∀ (d:Nat) (x:D),Vr d x→U (fun n=>Z3 n x) fun r=>r=(true,[x])
 |d+1,x,h=>by
  obtain⟨k,a,b,c,t,xs,rfl,hl,hy⟩:=h
  have loop:∀ (m j:Nat),xs.length-j=m→j≤xs.length→
    U (fun n=>V5 n (.Z 6 xs) (xs.length:Int) (j:Int) (.Z 6 (xs.take j))) fun r=>∃ j':Int,r=(false,[.Z 6 xs,.int .i64 (xs.length:Int),.int .i64 j',.Z 6 xs]):=by
   intro m
   induction m with
   |zero=>
    intro j hm hj
    rw [List.take_of_length_le (by omega)]
    exact U.eq (fun n=>oY n _ _ _ _) (U.no (E6 (by omega)) (U.ret ⟨_,rfl⟩))
   |succ m ih=>
    intro j hm hj
    have hj2:j<xs.length:=by omega
    have hw:IntKind.i64.wrap ((j:Int)+1)=((j+1:Nat):Int):=J9 (by omega)
    have hyj:=hy xs[j] (C6 hj2)
    obtain⟨o1,o2⟩:=Tz hyj
    have ht:=TU d xs[j] hyj
    have nx:=ih (j+1) (by omega) hj2
    rw [List.take_succ_eq_append_getElem hj2] at nx
    refine U.eq (fun n=>oY n _ _ _ _) (U.H5 (E4 (by omega)) (U.H5 (J8 hj2) ?_))
    rw [W7 hj2,hw,o2]
    have hc:I7 Z3.H9 [xs[j]]=true:=by
     have q:=hyj
     obtain⟨d',rfl⟩:∃ d',d=d'+1:=by cases d with|zero=>exact q.elim|succ d'=>exact⟨d',rfl⟩
     obtain⟨k',a',b',c',t',xs',e,_⟩:=q
     rw [e];rfl
    refine U.H5 o1 (H4 ht (U.H5 hc (U.H5 (B2 (by rw [D7];simp only [J5];omega)) ?_)))
    show U (fun n=>V5 n _ _ _ (.Z 6 (xs.take j++[H7 H6 xs[j]]))) _
    rw [o2]
    exact nx
  have h0:=loop xs.length 0 rfl (C4 _)
  rw [List.take_zero] at h0
  have h1:U (fun n=>dF n (.Z 6 xs)) fun r=>r=(true,[.Z 6 xs]):=by
   refine U.eq (fun n=>DU n _) (U.J2 h0 (fun ds h=>by obtain⟨_,h⟩:=h;cases h) fun ds h=>?_)
   obtain⟨_,h⟩:=h
   cases h
   exact U.H5 rfl (U.ret rfl)
  exact U.eq (fun n=>GL n _ _ _ _ _ _) (H4 h1 (U.H5 rfl (U.ret rfl)))
theorem RL:∀ (d:Nat) (x:D) (m:Int),rS d x→U (fun n=>cQ n x m) fun r=>∃ (x':D) (m':Int),r=(true,[x',.int .i64 m'])∧rS d x'
 |d+1,x,m0,h=>by
  obtain⟨k,a,b,c,t,xs,rfl,hs,hy⟩:=h
  have hl3:=NW hs
  have loop:∀ (m j:Nat) (u:Int) (ys:List D),xs.length-j=m→j≤xs.length→ys.length=j→(∀ y∈ys,rS d y)→
    U (fun n=>aO n u (.Z 6 xs) (xs.length:Int) (j:Int) k (1:Int) (1:Int) m0 (.str t) (.Z 6 xs) (0:Int) (0:Int) (0:Int) (0:Int) (.str []) (.Z 6 ys) (.Z 6 [])) fun r=>∃ (u' j':Int) (ys':List D),r=(false,[.int .i64 u',.Z 6 xs,.int .i64 (xs.length:Int),.int .i64 j',.int .i64 k,.int .i64 1,.int .i64 1,.int .i64 m0,.str t,.Z 6 xs,.int .i64 0,.int .i64 0,.int .i64 0,.int .i64 0,.str [],.Z 6 ys',.Z 6 []])∧ys'.length=xs.length∧∀ y∈ys',rS d y:=by
   intro m
   induction m with
   |zero=>
    intro j u ys hm hj hl hw
    exact U.eq (fun n=>qX n _ _ _ _ _ _ _ _ _ _ _ _ _ _ _ _ _) (U.no (E6 (by omega)) (U.ret ⟨_,_,ys,rfl,by omega,hw⟩))
   |succ m ih=>
    intro j u ys hm hj hl hw
    have hj2:j<xs.length:=by omega
    have hww:IntKind.i64.wrap ((j:Int)+1)=((j+1:Nat):Int):=J9 (by omega)
    have hyj:=hy xs[j] (C6 hj2)
    obtain⟨o1,o2⟩:=MM (P6 hyj)
    refine U.eq (fun n=>qX n _ _ _ _ _ _ _ _ _ _ _ _ _ _ _ _ _) (U.H5 (E4 (by omega)) (U.H5 (J8 hj2) ?_))
    rw [W7 hj2,hww,o2]
    refine U.H5 o1 (U.H3 (RL d xs[j] u hyj) ?_)
    rintro _ _ ⟨x',m',h,hx'⟩
    cases h
    obtain⟨k',a',b',c',t',xs',rfl⟩:=P6 hx'
    refine⟨rfl,U.H5 rfl (U.H5 (B2 (by simp only [J5];omega)) ?_)⟩
    refine ih (j+1) m' (ys++[cC k' a' b' c' t' xs']) (by omega) hj2 (by rw [A7,hl];rfl) fun y hm=>?_
    rcases D3.1 hm with hm|hm
    ·exact hw y hm
    ·rw [C3.1 hm];exact hx'
  refine U.eq (fun n=>JH n _ _ _ _ _ _ _) (U.J2 (loop xs.length 0 (IntKind.i64.wrap (m0+1)) [] rfl (C4 _) rfl (fun y hy=>by simp at hy)) (fun ds h=>by obtain⟨_,_,_,h,_⟩:=h;cases h) fun ds h=>?_)
  obtain⟨u',j',ys',h,hl,hw⟩:=h
  cases h
  exact U.H5 rfl (U.ret ⟨cC k 1 1 m0 t ys',u',rfl,⟨_,_,_,_,_,_,rfl,by rw [hl];exact hs,hw⟩⟩)
theorem RG:∀ t∈Hd,∃ (w n:Nat) (sg sz:Bool) (v:Int),rF t = .ok w n sg sz∧Gn w n sg=(v,0)∧wH v∧t.length≤100:=by
 intro t ht
 simp only [Hd,B7,List.not_mem_nil,or_false] at ht
 rcases ht with rfl|rfl|rfl|rfl|rfl|rfl|rfl|rfl
 ·exact⟨32,0,true,false,0,rfl,rfl,⟨by decide,by decide⟩,by decide⟩
 ·exact⟨32,1,true,false,1,rfl,rfl,⟨by decide,by decide⟩,by decide⟩
 ·exact⟨32,2,true,false,2,rfl,rfl,⟨by decide,by decide⟩,by decide⟩
 ·exact⟨32,7,true,false,7,rfl,rfl,⟨by decide,by decide⟩,by decide⟩
 ·exact⟨4,10,false,true,10,rfl,rfl,⟨by decide,by decide⟩,by decide⟩
 ·exact⟨8,255,false,true,255,rfl,rfl,⟨by decide,by decide⟩,by decide⟩
 ·exact⟨3,2,true,true,2,rfl,rfl,⟨by decide,by decide⟩,by decide⟩
 ·exact⟨32,10,true,false,10,rfl,rfl,⟨by decide,by decide⟩,by decide⟩
theorem QN {lo:eE}(hz:lo.length≤1048576)(hr:∀ q∈lo,wH q.2):∀ (d:Nat) (x:D),rS d x→∃ R,oH x (lo.map gY) R
 |d+1,x,h=>by
  obtain⟨k,a,b,c,t,xs,rfl,hs,hy⟩:=h
  have sub:=fun y hm=>QN hz hr d y (hy y hm)
  have isE:=fun y hm=>P6 (hy y hm)
  unfold rH at hs
  rcases hs with ⟨rfl,ht,hl⟩|⟨rfl,ht,hl⟩|⟨rfl,ht,hl⟩|⟨rfl,ht,hl⟩|⟨rfl,ht,hl⟩|⟨rfl,_⟩|⟨rfl,_⟩|⟨rfl,_⟩|⟨rfl,_⟩|⟨rfl,_⟩
  ·obtain⟨w,n,sg,sz,v,q1,q2,q3,q4⟩:=RG t ht
   exact⟨_,Pk a b c xs _ (by omega) q1 q2 q3⟩
  ·exact Ps a b c t xs hz hr
  ·obtain⟨x,rfl⟩:∃ x,xs=[x]:=by
    match xs,hl with
    |[x],_=>exact⟨x,rfl⟩
   obtain⟨R,hR⟩:=sub x (by simp)
   exact Vj t a b c (isE x (by simp)) hR
  ·obtain⟨x,y,rfl⟩:∃ x y,xs=[x,y]:=by
    match xs,hl with
    |[x,y],_=>exact⟨x,y,rfl⟩
   obtain⟨R1,h1⟩:=sub x (by simp)
   obtain⟨R2,h2⟩:=sub y (by simp)
   exact Sh ht a b c (isE x (by simp)) (isE y (by simp)) h1 h2
  ·obtain⟨x,y,z,rfl⟩:∃ x y z,xs=[x,y,z]:=by
    match xs,hl with
    |[x,y,z],_=>exact⟨x,y,z,rfl⟩
   obtain⟨R1,h1⟩:=sub x (by simp)
   obtain⟨R2,h2⟩:=sub y (by simp)
   obtain⟨R3,h3⟩:=sub z (by simp)
   exact⟨_,Ot t a b c (isE x (by simp)) (isE y (by simp)) (isE z (by simp)) h1 h2 h3⟩
  all_goals exact⟨_,Lz ⟨by decide,by decide,by decide,by decide,by decide⟩ a b c t xs _⟩
structure KR where
 v:Int
 p:Int
 q:Int
 r:Int
 e:Int
def KR.out (k:KR):List D:=[.int .i64 k.v,Tn k.p k.q k.r,.int .i64 k.e]
theorem Kb {x:D}(hx:OP x){L:List D}{R:Rz}(h:oH x L R):∃ k:KR,U (fun n=>dZ n x (.agg [.Z 2 L])) fun r=>r=(true,k.out):=by
 obtain⟨g,o,_⟩:=h
 obtain⟨k,a,b,c,t,xs,rfl⟩:=hx
 cases R with
 |ok v=>exact⟨⟨v,0,0,0,0⟩,U.eq (fun n=>AO n _ _ _ _ _ _ _) (H4 (NJ o) (U.H5 rfl (U.no rfl (U.ret rfl))))⟩
 |bad a' b' c' e=>exact⟨⟨0,a',b',c',e⟩,U.eq (fun n=>AO n _ _ _ _ _ _ _) (pQ (f:=fun n=>yE n L a' b' c' e) (EN o) fun n=>U.H5 rfl (U.H5 (YE g).1 (U.ret rfl)))⟩
def Iu (y:D):Prop:=∃ (t:F9) (v:Int),y=gY (t,v)
theorem Li (l:eE):(l.map gY).all UZ=true:=B6.2 fun y hy=>by
 obtain⟨q,_,rfl⟩:=List.mem_map.1 hy
 rfl
structure Nw (l:eE):Prop where
 sz:l.length≤1000
 rng:∀ q∈l,wH q.2
theorem Sp {xs:List D}(hx:∀ y∈xs,Iu y):U (fun n=>lQ n (.Z 2 xs)) fun r=>∃ lo lr:eE,r=(true,[.agg [.Z 2 (lo.map gY)],.Z 2 (lr.map gY)])∧Nw lr:=by
 have stop:∀ (j:Nat) (lo lr:eE),lr.length≤12→(∀ q∈lr,wH q.2)→U (fun n=>iL n false (j:Int) xs (lo.map gY) (lr.map gY) []) fun r=>∃ (j':Int) (lo lr:eE),r=(false,[.Z 2 xs,.int .i64 j',.Z 2 (lr.map gY),.Z 2 [],.Z 2 (lo.map gY)])∧Nw lr:=
  fun j lo lr h h2=>M1 (fun n=>iL.eq_1 n _ _ _ _ _ _) (U.no rfl (U.ret ⟨_,lo,lr,rfl,by omega,h2⟩))
 have loop:∀ (m j:Nat) (lo lr:eE),12-j=m→j≤12→lo.length≤j→lr.length≤j→(∀ q∈lr,wH q.2)→
   U (fun n=>eS n (.Z 2 xs) (j:Int) (.Z 2 (lr.map gY)) (.Z 2 []) (.Z 2 (lo.map gY))) fun r=>∃ (j':Int) (lo lr:eE),r=(false,[.Z 2 xs,.int .i64 j',.Z 2 (lr.map gY),.Z 2 [],.Z 2 (lo.map gY)])∧Nw lr:=by
  intro m
  induction m with
  |zero=>
   intro j lo lr hm hj h1 h2 he
   have e:decide ((j:Int)<12)=false:=E6 (by omega)
   refine U.eq (fun n=>vQ n _ _ _ _ _) ?_
   rw [e]
   exact U.P7 (fun _=>stop j lo lr (by omega) he) fun _=>stop j lo lr (by omega) he
  |succ m ih=>
   intro j lo lr hm hj h1 h2 he
   have e:decide ((j:Int)<12)=true:=E4 (by omega)
   refine U.eq (fun n=>vQ n _ _ _ _ _) ?_
   rw [e]
   refine U.P7 (fun hjl=>?_) fun _=>stop j lo lr (by omega) he
   have hj2:j<xs.length:=by have:=E5 hjl;omega
   have hw:IntKind.i64.wrap ((j:Int)+1)=((j+1:Nat):Int):=J9 (by omega)
   obtain⟨t,v,hx2⟩:=hx xs[j] (C6 hj2)
   have hc:=Jr v
   have hwith:=VT (l:=lo) (by omega) t (wW v)
   have hwl:=zQ t (wW v) lo
   refine M1 (fun n=>iL.eq_1 n _ _ _ _ _ _) (U.H5 rfl (U.H5 (J8 hj2) ?_))
   rw [W7 hj2,hx2,hw]
   have nx:=ih (j+1) (nE t (wW v) lo) (lr++[(t,wW v)]) (by omega) (by omega) (by omega) (by rw [A7,C9];omega) (fun q hq=>by
    rcases D3.1 hq with hq|hq
    ·exact he q hq
    ·rw [C3.1 hq];exact hc)
   rw [List.map_append] at nx
   have hp:cS U7.H9 [.Z 2 ((nE t (wW v) lo).map gY)]=true:=by
    show (((nE t (wW v) lo).map gY).all UZ&&true)=true
    rw [Li];rfl
   exact U.H5 rfl (H4 hwith (U.H5 (N7 rfl hp) (U.H5 (B2 (by rw [List.length_map];simp only [J5];omega)) nx)))
 refine U.eq (fun n=>TX n _) (U.J2 (loop 12 0 [] [] rfl (C4 _) (C4 _) (C4 _) (fun q h=>by cases h)) (fun ds h=>by obtain⟨_,_,_,h,_⟩:=h;cases h) fun ds h=>?_)
 obtain⟨j',lo,lr,h,he⟩:=h
 cases h
 exact U.H5 rfl (U.ret ⟨lo,lr,rfl,he⟩)
theorem QZ {b:List D}(hb:Bytes b):U (fun n=>fS n (.Z 1 b)) fun r=>∃ b',r=(true,[.Z 1 b'])∧Bytes b'∧b'.length≤300:=by
 refine U.eq (fun n=>MP n b) (U.P7 (fun h=>?_) fun h=>?_)
 ·have h:=E5 h
  refine U.H5 (N7 rfl (E4 (by omega))) (U.ret ⟨_,rfl,fun y hy=>?_,by simp;omega⟩)
  exact hb y (List.mem_of_mem_drop (List.mem_of_mem_take hy))
 ·have h:=E7 h
  exact U.ret ⟨b,rfl,hb,by omega⟩
def gG (f:Nat→Bool)(k:Nat):Nat:=jE ((List.range k).map f)
theorem yW (f:Nat→Bool)(k:Nat):gG f (k+1)=gG f k+(f k).toNat*2 ^ k:=by
 unfold gG
 rw [List.range_succ,List.map_append]
 show jE (_++[f k])=_
 rw [qI]
 simp
theorem mJ (f:Nat→Bool)(k:Nat):gG f k<2 ^ k:=by
 have:=pY ((List.range k).map f)
 simpa [gG] using this
theorem XI (f:Nat→Bool)(k i:Nat):(gG f k).testBit i=(decide (i<k)&&f i):=by
 unfold gG
 rw [YG]
 by_cases h:i<k
 ·simp [h]
 ·simp [h]
theorem Kc {f:Nat→Bool}{k n:Nat}(hn:n<2 ^ k)(h:∀ i,i<k→n.testBit i=f i):gG f k=n:=by
 refine Nat.eq_of_testBit_eq fun i=>?_
 rw [XI]
 by_cases hi:i<k
 ·rw [E4 hi,Bool.true_and,h i hi]
 ·rw [E6 hi,Bool.false_and]
  exact (Nat.testBit_lt_two_pow (Nat.lt_of_lt_of_le hn (Nat.pow_le_pow_right (by omega) (by omega)))).symm
theorem QQ {f:Nat→Bool}{k:Nat}(h:∀ i,i<k→f i=false):gG f k=0:=Kc (Nat.two_pow_pos k) fun i hi=>by rw [h i hi];exact Nat.zero_testBit i
theorem FB {j:Nat}(h:j<4611686018427387904):IntKind.i64.wrap (j:Int)=(j:Int):=N8 (by omega) (by omega)
def Io (b a i:Nat):Bool:=decide (b≤i)&&a.testBit (i-b)
theorem Rr {w a b:Nat}(h1:1≤w)(h2:w≤128)(ha:a<2 ^ w)(hb:b≤1000):U (fun n=>wT n (vec w a) (b:Int)) fun r=>r=(true,[.int .i64 (w:Int),.Z 1 (I9 w (gG (Io b a) w))]):=by
 have loop:∀ (m i:Nat),w-i=m→i≤w→b≤i→U (fun n=>mH n (b:Int) (i:Int) (w:Int) (.Z 1 (I9 w a)) (0:Int) (w:Int) (.Z 1 []) (.Z 1 (I9 w (gG (Io b a) i)))) fun r=>∃ i':Int,r=(false,[.int .i64 (b:Int),.int .i64 i',.int .i64 (w:Int),.Z 1 (I9 w a),.int .i64 0,.int .i64 (w:Int),.Z 1 [],.Z 1 (I9 w (gG (Io b a) w))]):=by
  intro m
  induction m with
  |zero=>
   intro i hm hi hbi
   have:i=w:=by omega
   subst this
   exact U.eq (fun n=>wU n ..) (U.no (E6 (by omega)) (U.ret ⟨_,rfl⟩))
  |succ m ih=>
   intro i hm hi hbi
   refine U.eq (fun n=>wU n ..) (U.H5 (E4 (by omega)) ?_)
   rw [show ((i:Int)-(b:Int))=((i-b:Nat):Int) by omega,FB (by omega),J9 (by omega)]
   refine H4 (qL h2 ha) (U.H5 rfl (H4 (uY h2 (show i<w by omega) (mJ (Io b a) i) (a.testBit (i-b))) (U.H5 rfl ?_)))
   have nx:=ih (i+1) (by omega) (by omega) (by omega)
   rw [yW,show Io b a i=a.testBit (i-b) by unfold Io;rw [E4 hbi,Bool.true_and]] at nx
   exact nx
 refine U.eq (fun n=>Jm n ..) (H4 (Y8 h1 h2) (U.H5 rfl ?_))
 by_cases hw:b≤w
 ·have z:gG (Io b a) b=0:=QQ fun i hi=>by unfold Io;rw [E6 (by omega),Bool.false_and]
  have l:=loop (w-b) b rfl hw (B9 _)
  rw [z] at l
  refine U.J2 l (fun ds h=>by obtain⟨_,h⟩:=h;cases h) fun ds h=>?_
  obtain⟨_,h⟩:=h
  cases h
  exact U.H5 rfl (U.ret rfl)
 ·have z:gG (Io b a) w=0:=QQ fun i hi=>by unfold Io;rw [E6 (by omega),Bool.false_and]
  rw [z]
  refine fJ (U.eq (fun n=>wU n ..) (U.no (E6 (by omega)) (U.ret rfl))) (U.H5 rfl (U.ret rfl))
def LM (w b a:Nat)(s:Bool)(i:Nat):Bool:=bif decide (i+b<w) then a.testBit (i+b) else s
theorem Di {w a b:Nat}(h1:1≤w)(h2:w≤128)(ha:a<2 ^ w)(hb:b≤1000)(s:Bool):U (fun n=>oC n (vec w a) (b:Int) (.bool s)) fun r=>r=(true,[vec w (gG (LM w b a s) w)]):=by
 have loop:∀ (m i:Nat),w-i=m→i≤w→U (fun n=>fZ n (b:Int) (.bool s) (w:Int) (i:Int) (w:Int) (.Z 1 (I9 w a)) (0:Int) (w:Int) (.Z 1 []) (.Z 1 (I9 w (gG (LM w b a s) i)))) fun r=>∃ i':Int,r=(false,[.int .i64 (b:Int),.bool s,.int .i64 (w:Int),.int .i64 i',.int .i64 (w:Int),.Z 1 (I9 w a),.int .i64 0,.int .i64 (w:Int),.Z 1 [],.Z 1 (I9 w (gG (LM w b a s) w))]):=by
  intro m
  induction m with
  |zero=>
   intro i hm hi
   have:i=w:=by omega
   subst this
   exact U.eq (fun n=>AH n ..) (U.no (E6 (by omega)) (U.ret ⟨_,rfl⟩))
  |succ m ih=>
   intro i hm hi
   have nx:=ih (i+1) (by omega) (by omega)
   rw [yW] at nx
   refine U.eq (fun n=>AH n ..) (U.H5 (E4 (by omega)) ?_)
   rw [J9 (by omega),N8 (x:=(w:Int)-(b:Int)) (by omega) (by omega)]
   by_cases hc:i+b<w
   ·refine U.H5 (E4 (by omega)) ?_
    rw [show ((i:Int)+(b:Int))=((i+b:Nat):Int) by omega,FB (by omega)]
    refine H4 (qL h2 ha) (U.H5 rfl (H4 (uY h2 (show i<w by omega) (mJ _ i) (a.testBit (i+b))) (U.H5 rfl ?_)))
    rw [show LM w b a s i=a.testBit (i+b) by unfold LM;rw [E4 hc];rfl] at nx
    exact nx
   ·refine U.no (E6 (by omega)) (H4 (uY h2 (show i<w by omega) (mJ _ i) s) (U.H5 rfl ?_))
    rw [show LM w b a s i=s by unfold LM;rw [E6 hc];rfl] at nx
    exact nx
 refine U.eq (fun n=>Ai n ..) (H4 (Y8 h1 h2) (U.H5 rfl ?_))
 refine U.J2 (loop w 0 rfl (C4 _)) (fun ds h=>by obtain⟨_,h⟩:=h;cases h) fun ds h=>?_
 obtain⟨_,h⟩:=h
 cases h
 exact U.H5 rfl (U.ret rfl)
def Ou (lo a i:Nat):Bool:=a.testBit (lo+i)
theorem Mp {w a lo k:Nat}(h2:w≤128)(ha:a<2 ^ w)(h1:1≤k)(hk:lo+k≤w):U (fun n=>kL n (vec w a) (lo:Int) (k:Int)) fun r=>r=(true,[vec k (gG (Ou lo a) k),.int .i64 0]):=by
 have loop:∀ (m i:Nat),k-i=m→i≤k→U (fun n=>fQ n (lo:Int) (k:Int) (i:Int) (w:Int) (.Z 1 (I9 w a)) (0:Int) (k:Int) (.Z 1 []) (.Z 1 (I9 k (gG (Ou lo a) i)))) fun r=>∃ i':Int,r=(false,[.int .i64 (lo:Int),.int .i64 (k:Int),.int .i64 i',.int .i64 (w:Int),.Z 1 (I9 w a),.int .i64 0,.int .i64 (k:Int),.Z 1 [],.Z 1 (I9 k (gG (Ou lo a) k))]):=by
  intro m
  induction m with
  |zero=>
   intro i hm hi
   have:i=k:=by omega
   subst this
   exact U.eq (fun n=>wO n ..) (U.no (E6 (by omega)) (U.ret ⟨_,rfl⟩))
  |succ m ih=>
   intro i hm hi
   have nx:=ih (i+1) (by omega) (by omega)
   rw [yW] at nx
   refine U.eq (fun n=>wO n ..) (U.H5 (E4 (by omega)) ?_)
   rw [J9 (by omega),show ((lo:Int)+(i:Int))=((lo+i:Nat):Int) by omega,FB (by omega)]
   exact H4 (qL h2 ha) (U.H5 rfl (H4 (uY (by omega) (show i<k by omega) (mJ _ i) (a.testBit (lo+i))) (U.H5 rfl nx)))
 refine U.eq (fun n=>oO n ..) (U.no (E6 (by omega)) (U.no (E6 (by omega)) (U.no (E6 (by omega)) ?_)))
 rw [N8 (x:=(w:Int)-(k:Int)) (by omega) (by omega),E6 (show ¬ (lo:Int)>(w:Int)-(k:Int) by omega)]
 refine M1 (fun n=>jI.eq_1 n ..) (U.no rfl (H4 (Y8 h1 (by omega)) (U.H5 rfl ?_)))
 refine U.J2 (loop k 0 rfl (C4 _)) (fun ds h=>by obtain⟨_,h⟩:=h;cases h) fun ds h=>?_
 obtain⟨_,h⟩:=h
 cases h
 exact U.H5 rfl (U.ret rfl)
theorem fV {w a:Nat}(h1:1≤w)(h2:w≤128)(ha:a<2 ^ w):U (fun n=>L9 n (vec w a)) fun r=>r=(true,[.bool (a.testBit (w-1))]):=by
 refine U.eq (fun n=>KS n ..) ?_
 rw [show ((w:Int)-1)=((w-1:Nat):Int) by omega,FB (by omega)]
 exact H4 (qL h2 ha) (U.H5 rfl (U.ret rfl))
def TG (w a:Nat)(s:Bool)(i:Nat):Bool:=bif decide (i<w) then a.testBit i else s&&a.testBit (w-1)
theorem Sr {w a k:Nat}(h1:1≤w)(h2:w≤128)(ha:a<2 ^ w)(k1:1≤k)(k2:k≤128)(s:Bool):U (fun n=>sQ n (vec w a) (k:Int) (.bool s)) fun r=>r=(true,[vec k (gG (TG w a s) k),.int .i64 0]):=by
 have high:∀ i,w≤i→a.testBit i=false:=fun i hi=>Nat.testBit_lt_two_pow (Nat.lt_of_lt_of_le ha (Nat.pow_le_pow_right (by omega) hi))
 have loop:∀ (m i:Nat),k-i=m→i≤k→U (fun n=>fK n (.bool s) (k:Int) (i:Int) (w:Int) (.Z 1 (I9 w a)) (0:Int) (k:Int) (.Z 1 []) (.Z 1 (I9 k (gG (TG w a s) i)))) fun r=>∃ i':Int,r=(false,[.bool s,.int .i64 (k:Int),.int .i64 i',.int .i64 (w:Int),.Z 1 (I9 w a),.int .i64 0,.int .i64 (k:Int),.Z 1 [],.Z 1 (I9 k (gG (TG w a s) k))]):=by
  intro m
  induction m with
  |zero=>
   intro i hm hi
   have:i=k:=by omega
   subst this
   exact U.eq (fun n=>CZ n ..) (U.no (E6 (by omega)) (U.ret ⟨_,rfl⟩))
  |succ m ih=>
   intro i hm hi
   have nx:=ih (i+1) (by omega) (by omega)
   rw [yW] at nx
   have st:=fun b=>uY (w:=k) (v:=gG (TG w a s) i) k2 (show i<k by omega) (mJ _ i) b
   refine U.eq (fun n=>CZ n ..) (U.H5 (E4 (by omega)) ?_)
   rw [J9 (by omega)]
   refine H4 (qL h2 ha) (U.H5 rfl ?_)
   show U (fun n=>bif a.testBit i then _ else _) _
   by_cases hw:i<w
   ·rw [show TG w a s i=a.testBit i by unfold TG;rw [E4 hw];rfl] at nx
    cases hb:a.testBit i with
    |true=>rw [hb] at nx;exact U.H5 rfl (H4 (st true) (U.H5 rfl nx))
    |false=>rw [hb] at nx;exact U.no rfl (U.no (E6 (by omega)) (H4 (st false) (U.H5 rfl nx)))
   ·rw [show TG w a s i=(s&&a.testBit (w-1)) by unfold TG;rw [E6 hw];rfl] at nx
    rw [high i (by omega)]
    refine U.no rfl (U.H5 (E4 (by omega)) ?_)
    cases s with
    |true=>exact U.H5 rfl (H4 (fV h1 h2 ha) (U.H5 rfl (H4 (st (a.testBit (w-1))) (U.H5 rfl nx))))
    |false=>exact U.no rfl (H4 (st false) (U.H5 rfl nx))
 refine U.eq (fun n=>FJ n ..) (H4 (uG k1 k2) (U.H5 rfl (U.no rfl ?_)))
 rw [lA h1]
 refine M1 (fun n=>tG.eq_1 n ..) (U.no rfl (H4 (Y8 k1 k2) (U.H5 rfl ?_)))
 refine U.J2 (loop k 0 rfl (C4 _)) (fun ds h=>by obtain⟨_,h⟩:=h;cases h) fun ds h=>?_
 obtain⟨_,h⟩:=h
 cases h
 exact U.H5 rfl (U.ret rfl)
theorem kT (b:Bool):U (fun n=>fD n (.bool b)) fun r=>r=(true,[vec 1 b.toNat]):=by
 have h:=uY (w:=1) (v:=0) (j:=0) (by omega) (by omega) (by omega) b
 rw [C5,Nat.pow_zero,Nat.mul_one] at h
 exact U.eq (fun n=>WU n _) (H4 (Y8 (w:=1) (by omega) (by omega)) (U.H5 rfl (H4 h (U.H5 rfl (U.ret rfl)))))
theorem Pn {w a b:Nat}(h2:w≤64):U (fun n=>eO n (vec w a) (vec w b)) fun r=>r=(true,[.bool (decide (a<b))]):=by
 refine U.eq (fun n=>BD n ..) ?_
 rw [U3 h2,U3 h2]
 show U (fun n=>J2 (dW n (IntKind.i64.wrap (1-1):Int) (w:Int) (.Z 1 [wd a]) (w:Int) (.Z 1 [wd b])) _) _
 rw [show IntKind.i64.wrap (1-1)=0 from rfl]
 have step:U (fun n=>dW n (0:Int) (w:Int) (.Z 1 [wd a]) (w:Int) (.Z 1 [wd b])) fun r=>r=bif ((a:Int) !=(b:Int)) then (true,[.bool (decide ((a:Int)<(b:Int)))]) else (false,[.int .i64 (-1),.int .i64 (w:Int),.Z 1 [wd a],.int .i64 (w:Int),.Z 1 [wd b]]):=by
  refine U.eq (fun n=>gA n ..) (U.H5 rfl (U.H5 rfl (U.H5 rfl (U.H5 rfl (U.H5 rfl ?_)))))
  show U (fun n=>bif ((a:Int) !=(b:Int)) then _ else _) _
  cases hab:(a:Int) !=(b:Int) with
  |true=>exact U.H5 rfl (U.H5 rfl (U.H5 rfl (U.H5 rfl (U.H5 rfl (U.ret rfl)))))
  |false=>
   refine U.no rfl ?_
   rw [show IntKind.i64.wrap (0-1) = -1 from rfl]
   exact U.eq (fun n=>gA n ..) (U.no rfl (U.ret rfl))
 cases hab:(a:Int) !=(b:Int) with
 |true=>
  rw [hab] at step
  refine U.J2 step (fun ds h=>?_) fun ds h=>by cases h
  rw [h,SY];rfl
 |false=>
  rw [hab] at step
  refine fJ step (U.H5 rfl (U.ret ?_))
  have:(a:Int)=(b:Int):=by simpa using hab
  rw [E6 (by omega)]
theorem Se {w a:Nat}(h2:w≤64):U (fun n=>jJ n (vec w a)) fun r=>r=(true,[.bool (decide (a≠0))]):=by
 refine U.eq (fun n=>QB n ..) ?_
 rw [U3 h2]
 have h0:U (fun n=>P1 n (.Z 1 [wd a])) fun r=>r=(true,[.int .i64 (bif decide (a≠0) then 0 else -1)]):=by
  refine U.eq (fun n=>bK n ..) ?_
  have step:U (fun n=>K6 n (.Z 1 [wd a]) (1:Int) (0:Int)) fun r=>r=bif ((a:Int) !=0) then (true,[.int .i64 0]) else (false,[.Z 1 [wd a],.int .i64 1,.int .i64 1]):=by
   refine U.eq (fun n=>M9 n ..) (U.H5 rfl (U.H5 rfl (U.H5 rfl (H4 (U.eq (fun n=>HX n _) (U.ret rfl)) (U.H5 rfl ?_)))))
   show U (fun n=>bif ((a:Int) !=0) then _ else _) _
   cases hab:(a:Int) !=0 with
   |true=>exact U.H5 rfl (U.ret rfl)
   |false=>
    refine U.no rfl ?_
    rw [show IntKind.i64.wrap (0+1)=1 from rfl]
    exact U.eq (fun n=>M9 n ..) (U.no rfl (U.ret rfl))
  have e:((a:Int) !=0)=decide (a≠0):=by
   rw [Bool.eq_iff_iff];simp
  rw [e] at step
  cases hab:decide (a≠0) with
  |true=>
   rw [hab] at step
   exact U.J2 step (fun ds h=>h) fun ds h=>by cases h
  |false=>
   rw [hab] at step
   exact fJ step (U.H5 rfl (U.ret rfl))
 have h1:U (fun n=>P0 n (.Z 1 [wd a])) fun r=>r=(true,[.bool (decide (a≠0))]):=by
  refine U.eq (fun n=>gZ n ..) (H4 h0 (U.H5 rfl (U.ret ?_)))
  cases decide (a≠0)<;>rfl
 exact H4 h1 (U.H5 rfl (U.ret rfl))
theorem Ka {w a b:Nat}(h2:w≤64):U (fun n=>cD n (vec w a) (vec w b)) fun r=>r=(true,[.bool (decide (a=b))]):=by
 refine U.eq (fun n=>wM n ..) (U.H5 (E8 _) ?_)
 rw [U3 h2,U3 h2]
 have step:U (fun n=>M0 n (.Z 1 [wd a]) (.Z 1 [wd b]) (1:Int) (0:Int)) fun r=>r=bif ((a:Int) !=(b:Int)) then (true,[.bool false]) else (false,[.Z 1 [wd a],.Z 1 [wd b],.int .i64 1,.int .i64 1]):=by
  refine U.eq (fun n=>O1 n ..) (U.H5 rfl (U.H5 rfl (U.H5 rfl (U.H5 rfl (U.H5 rfl ?_)))))
  show U (fun n=>bif ((a:Int) !=(b:Int)) then _ else _) _
  cases hab:(a:Int) !=(b:Int) with
  |true=>exact U.H5 rfl (U.ret rfl)
  |false=>
   refine U.no rfl ?_
   rw [show IntKind.i64.wrap (0+1)=1 from rfl]
   exact U.eq (fun n=>O1 n ..) (U.no rfl (U.ret rfl))
 have e:((a:Int) !=(b:Int))=!decide (a=b):=by
  rw [Bool.eq_iff_iff];simp;omega
 rw [e] at step
 refine H4 (ds:=[.bool (decide (a=b))]) (U.eq (fun n=>bJ n ..) (U.no rfl ?_)) (U.H5 rfl (U.ret rfl))
 cases hab:decide (a=b) with
 |true=>
  rw [hab] at step
  exact fJ step (U.H5 rfl (U.ret rfl))
 |false=>
  rw [hab] at step
  exact U.J2 step (fun ds h=>h) fun ds h=>by cases h
def ZU (w:Nat)(f:Nat→Bool)(i:Nat)(out:List D):Prop:=out.length=w∧∀ k,k<i→out[k]? = some (.bool (f k))
theorem ZU.zero (w:Nat)(f:Nat→Bool)(x:D):ZU w f 0 (List.replicate w x):=⟨List.length_replicate ..,fun k h=>by omega⟩
theorem ZU.set {w i:Nat}{f:Nat→Bool}{out:List D}(h:ZU w f i out)(hi:i<w){b:Bool}(hb:b=f i):ZU w f (i+1) (out.set i (.bool b)):=by
 refine⟨by rw [List.length_set];exact h.1,fun k hk=>?_⟩
 rw [qA (by rw [h.1];exact hi)]
 by_cases e:i=k
 ·rw [if_pos e,hb,e]
 ·rw [if_neg e];exact h.2 k (by omega)
theorem ZU.all {w:Nat}{f:Nat→Bool}{out:List D}(h:ZU w f w out):out=jH w (gG f w):=by
 refine Fq h.1 fun i hi=>?_
 rw [h.2 i hi,XI,E4 hi,Bool.true_and]
theorem Bn {x y:Nat}(hx:x<J1)(hy:y<J1):(BitVec.ofInt (IntKind.u64).bits (x:Int) ||| BitVec.ofInt (IntKind.u64).bits (y:Int)).toNat=x ||| y:=by
 rw [BitVec.toNat_or,O9 hx,O9 hy]
theorem Ff {x y:Nat}(hx:x<J1)(hy:y<J1):(BitVec.ofInt (IntKind.u64).bits (x:Int) ^^^ BitVec.ofInt (IntKind.u64).bits (y:Int)).toNat=x ^^^ y:=by
 rw [BitVec.toNat_xor,O9 hx,O9 hy]
theorem WL {w a b:Nat}(h1:1≤w)(h2:w≤64)(ha:a<2 ^ w)(hb:b<2 ^ w):U (fun n=>hM n (vec w a) (vec w b)) fun r=>r=(true,[vec w (a &&& b)]):=by
 refine U.eq (fun n=>AG n ..) (H4 (Y8 h1 (by omega)) (U.H5 rfl ?_))
 have ha':=eB h2 ha
 have hb':=eB h2 hb
 have hlt:a &&& b<J1:=eB h2 (Nat.and_lt_two_pow _ hb)
 unfold vec
 simp only [U3 h2]
 have hk:U (fun n=>oK n (.int .u64 (a:Int)) (.int .u64 (b:Int))) fun r=>r=(true,[wd (a &&& b)]):=U.eq (fun n=>HU n ..) (U.ret (by rw [yN ha' hb',K3,Nat.mod_eq_of_lt hlt];rfl))
 exact fJ (U.eq (fun n=>gM n ..) (U.H5 rfl (U.H5 rfl (U.H5 rfl (U.H5 rfl (U.H5 rfl (H4 hk (U.H5 rfl (U.H5 rfl (U.eq (fun n=>gM n ..) (U.no rfl (U.ret rfl)))))))))))) (U.H5 rfl (U.ret rfl))
theorem WM {w a b:Nat}(h1:1≤w)(h2:w≤64)(ha:a<2 ^ w)(hb:b<2 ^ w):U (fun n=>eM n (vec w a) (vec w b)) fun r=>r=(true,[vec w (a ||| b)]):=by
 refine U.eq (fun n=>vN n ..) (H4 (Y8 h1 (by omega)) (U.H5 rfl ?_))
 have ha':=eB h2 ha
 have hb':=eB h2 hb
 have hlt:a ||| b<J1:=eB h2 (Nat.or_lt_two_pow ha hb)
 unfold vec
 simp only [U3 h2]
 have hk:U (fun n=>oL n (.int .u64 (a:Int)) (.int .u64 (b:Int))) fun r=>r=(true,[wd (a ||| b)]):=U.eq (fun n=>HV n ..) (U.ret (by rw [Bn ha' hb',K3,Nat.mod_eq_of_lt hlt];rfl))
 exact fJ (U.eq (fun n=>fA n ..) (U.H5 rfl (U.H5 rfl (U.H5 rfl (U.H5 rfl (U.H5 rfl (H4 hk (U.H5 rfl (U.H5 rfl (U.eq (fun n=>fA n ..) (U.no rfl (U.ret rfl)))))))))))) (U.H5 rfl (U.ret rfl))
theorem WN {w a b:Nat}(h1:1≤w)(h2:w≤64)(ha:a<2 ^ w)(hb:b<2 ^ w):U (fun n=>eN n (vec w a) (vec w b)) fun r=>r=(true,[vec w (a ^^^ b)]):=by
 refine U.eq (fun n=>vO n ..) (H4 (Y8 h1 (by omega)) (U.H5 rfl ?_))
 have ha':=eB h2 ha
 have hb':=eB h2 hb
 have hlt:a ^^^ b<J1:=eB h2 (Nat.xor_lt_two_pow ha hb)
 unfold vec
 simp only [U3 h2]
 have hk:U (fun n=>oM n (.int .u64 (a:Int)) (.int .u64 (b:Int))) fun r=>r=(true,[wd (a ^^^ b)]):=U.eq (fun n=>HW n ..) (U.ret (by rw [Ff ha' hb',K3,Nat.mod_eq_of_lt hlt];rfl))
 exact fJ (U.eq (fun n=>fB n ..) (U.H5 rfl (U.H5 rfl (U.H5 rfl (U.H5 rfl (U.H5 rfl (H4 hk (U.H5 rfl (U.H5 rfl (U.eq (fun n=>fB n ..) (U.no rfl (U.ret rfl)))))))))))) (U.H5 rfl (U.ret rfl))
def bl (w a:Nat):List Bool:=(List.range w).map a.testBit
theorem Om (w a:Nat):jH w a=(bl w a).map bD:=by
 unfold bl jH
 rw [List.map_map];rfl
def zv:D:= .agg [.int .i64 0,.Z 1 []]
def vz (p:Nat×Nat):D:=if p.1=0 then zv else vec p.1 p.2
def Wf (p:Nat×Nat):Prop:=p.1≤128∧p.2<2 ^ p.1
theorem Wf.zero:Wf (0,0):=⟨by decide,by decide⟩
theorem Wf.of {w a:Nat}(h2:w≤128)(ha:a<2 ^ w):Wf (w,a):=⟨h2,ha⟩
theorem gT {w a:Nat}(h1:1≤w):vz (w,a)=vec w a:=if_neg (by show ¬ w=0;omega)
theorem dN (p:Nat×Nat):(p.1=0∧vz p=zv)∨(1≤p.1∧vz p=vec p.1 p.2):=by
 by_cases h:p.1=0
 ·exact .inl ⟨h,if_pos h⟩
 ·exact .inr ⟨by omega,if_neg h⟩
theorem EA {w a b:Nat}(h2:w≤128):∃ c:Bool,U (fun n=>eO n (vec w a) (vec w b)) fun r=>r=(true,[.bool c]):=by
 by_cases h:w≤64
 ·exact⟨_,Pn h⟩
 ·have hw:64<w:=by omega
  have one:∀ x y u v:Nat,∃ r,U (fun n=>dW n (0:Int) (w:Int) (.Z 1 [wd x,wd u]) (w:Int) (.Z 1 [wd y,wd v])) (fun q=>q=r)∧((∃ c,r=(true,[.bool c]))∨r=(false,[.int .i64 (-1),.int .i64 (w:Int),.Z 1 [wd x,wd u],.int .i64 (w:Int),.Z 1 [wd y,wd v]])):=by
   intro x y u v
   cases hab:(x:Int) !=(y:Int) with
   |true=>
    refine⟨(true,[.bool (decide ((x:Int)<(y:Int)))]),?_,.inl ⟨_,rfl⟩⟩
    exact U.eq (fun n=>gA n ..) (U.H5 rfl (U.H5 rfl (U.H5 rfl (U.H5 rfl (U.H5 rfl (U.H5 hab (U.H5 rfl (U.H5 rfl (U.H5 rfl (U.H5 rfl (U.ret rfl)))))))))))
   |false=>
    refine⟨_,?_,.inr rfl⟩
    exact U.eq (fun n=>gA n ..) (U.H5 rfl (U.H5 rfl (U.H5 rfl (U.H5 rfl (U.H5 rfl (U.no hab (U.eq (fun n=>gA n ..) (U.no rfl (U.ret rfl)))))))))
  have two:∀ x y u v:Nat,∃ r,U (fun n=>dW n (1:Int) (w:Int) (.Z 1 [wd x,wd u]) (w:Int) (.Z 1 [wd y,wd v])) (fun q=>q=r)∧((∃ c,r=(true,[.bool c]))∨r=(false,[.int .i64 (-1),.int .i64 (w:Int),.Z 1 [wd x,wd u],.int .i64 (w:Int),.Z 1 [wd y,wd v]])):=by
   intro x y u v
   cases hab:(u:Int) !=(v:Int) with
   |true=>
    refine⟨(true,[.bool (decide ((u:Int)<(v:Int)))]),?_,.inl ⟨_,rfl⟩⟩
    exact U.eq (fun n=>gA n ..) (U.H5 rfl (U.H5 rfl (U.H5 rfl (U.H5 rfl (U.H5 rfl (U.H5 hab (U.H5 rfl (U.H5 rfl (U.H5 rfl (U.H5 rfl (U.ret rfl)))))))))))
   |false=>
    obtain⟨r,e,hr⟩:=one x y u v
    refine⟨r,?_,hr⟩
    exact U.eq (fun n=>gA n ..) (U.H5 rfl (U.H5 rfl (U.H5 rfl (U.H5 rfl (U.H5 rfl (U.no hab e))))))
  obtain⟨r,e,hr⟩:=two (a % J1) (b % J1) (a / J1) (b / J1)
  unfold vec
  simp only [V8 hw]
  rcases hr with ⟨c,rfl⟩|rfl
  ·exact⟨c,U.eq (fun n=>BD n ..) (U.J2 e (fun ds h=>by cases h;rfl) fun ds h=>by cases h)⟩
  ·exact⟨false,U.eq (fun n=>BD n ..) (fJ e (U.H5 rfl (U.ret rfl)))⟩
theorem JT {w a:Nat}(h2:w≤128):∃ c:Bool,U (fun n=>jJ n (vec w a)) fun r=>r=(true,[.bool c]):=by
 by_cases h:w≤64
 ·exact⟨_,Se h⟩
 ·have hw:64<w:=by omega
  have idx:∀ x u:Nat,∃ i:Int,U (fun n=>P1 n (.Z 1 [wd x,wd u])) fun r=>r=(true,[.int .i64 i]):=by
   intro x u
   have k1:∀ y:Nat,U (fun n=>qO n (.int .u64 (y:Int))) fun r=>r=(true,[.bool ((y:Int) !=0)]):=fun y=>U.eq (fun n=>HX n _) (U.ret rfl)
   cases hx:(x:Int) !=0 with
   |true=>
    have e:U (fun n=>K6 n (.Z 1 [wd x,wd u]) (2:Int) (0:Int)) fun r=>r=(true,[.int .i64 0]):=U.eq (fun n=>M9 n ..) (U.H5 rfl (U.H5 rfl (U.H5 rfl (H4 (k1 x) (U.H5 rfl (U.H5 hx (U.ret rfl)))))))
    refine⟨0,?_⟩
    exact U.eq (fun n=>bK n ..) (U.J2 e (fun ds h=>by cases h;rfl) fun ds h=>by cases h)
   |false=>
    cases hu:(u:Int) !=0 with
    |true=>
     have e:U (fun n=>K6 n (.Z 1 [wd x,wd u]) (2:Int) (0:Int)) fun r=>r=(true,[.int .i64 1]):=U.eq (fun n=>M9 n ..) (U.H5 rfl (U.H5 rfl (U.H5 rfl (H4 (k1 x) (U.H5 rfl (U.no hx (U.eq (fun n=>M9 n ..) (U.H5 rfl (U.H5 rfl (U.H5 rfl (H4 (k1 u) (U.H5 rfl (U.H5 hu (U.ret rfl))))))))))))))
     refine⟨1,?_⟩
     exact U.eq (fun n=>bK n ..) (U.J2 e (fun ds h=>by cases h;rfl) fun ds h=>by cases h)
    |false=>
     have e:U (fun n=>K6 n (.Z 1 [wd x,wd u]) (2:Int) (0:Int)) fun r=>r=(false,[.Z 1 [wd x,wd u],.int .i64 2,.int .i64 2]):=U.eq (fun n=>M9 n ..) (U.H5 rfl (U.H5 rfl (U.H5 rfl (H4 (k1 x) (U.H5 rfl (U.no hx (U.eq (fun n=>M9 n ..) (U.H5 rfl (U.H5 rfl (U.H5 rfl (H4 (k1 u) (U.H5 rfl (U.no hu (U.eq (fun n=>M9 n ..) (U.no rfl (U.ret rfl))))))))))))))))
     refine⟨-1,?_⟩
     exact U.eq (fun n=>bK n ..) (fJ e (U.H5 rfl (U.ret rfl)))
  obtain⟨i,e⟩:=idx (a % J1) (a / J1)
  have h1:U (fun n=>P0 n (.Z 1 [wd (a % J1),wd (a / J1)])) fun r=>r=(true,[.bool (decide (i≥0))]):=U.eq (fun n=>gZ n ..) (H4 e (U.H5 rfl (U.ret rfl)))
  unfold vec
  rw [V8 hw]
  refine⟨decide (i≥0),?_⟩
  exact U.eq (fun n=>QB n ..) (H4 h1 (U.H5 rfl (U.ret rfl)))
theorem Tv {lo hi:Nat}(h:lo<J1):(lo+J1*hi) % J1=lo:=by rw [Nat.add_mul_mod_self_left,Nat.mod_eq_of_lt h]
theorem Tu {lo hi:Nat}(h:lo<J1):(lo+J1*hi) / J1=hi:=by rw [Nat.add_mul_div_left _ _ (by decide),Nat.div_eq_of_lt h,C5]
theorem OE {w lo hi:Nat}(hw:64<w)(hl:lo<J1)(hh:hi<2 ^ (w-64)):lo+J1*hi<2 ^ w:=by
 rw [lS hw]
 calc lo+J1*hi<J1+J1*hi:=by omega
  _=J1*(hi+1):=by rw [Nat.mul_add,Nat.mul_one,Nat.add_comm]
  _≤J1*2 ^ (w-64):=Nat.mul_le_mul_left _ hh
theorem rQ {w lo hi:Nat}(hw:64<w)(h:lo<J1):I9 w (lo+J1*hi)=[wd lo,wd hi]:=by rw [V8 hw,Tv h,Tu h]
def YU (x r:Nat)(b:Bool):Int:=bif b then IntKind.u64.wrap ((BitVec.ofInt (IntKind.u64).bits (x:Int) ||| BitVec.ofInt (IntKind.u64).bits (IntKind.u64.wrap (1*2 ^ (min r (IntKind.u64).bits)))).toNat:Int) else IntKind.u64.wrap ((BitVec.ofInt (IntKind.u64).bits (x:Int) &&& ~~~BitVec.ofInt (IntKind.u64).bits (IntKind.u64.wrap (1*2 ^ (min r (IntKind.u64).bits)))).toNat:Int)
theorem VM {x r k:Nat}(hr:r<k)(hk:k≤64)(hx:x<2 ^ k)(b:Bool):∃ y:Nat,y<2 ^ k∧YU x r b=(y:Int):=by
 have hxm:=eB hk hx
 have hpm:=pC (r:=r) (by omega)
 unfold YU
 cases b with
 |true=>
  have hlt:x ||| 2 ^ r<2 ^ k:=Nat.or_lt_two_pow hx (Nat.pow_lt_pow_right (by omega) hr)
  refine⟨x ||| 2 ^ r,hlt,?_⟩
  show IntKind.u64.wrap _=_
  rw [zK (by omega),Bn hxm hpm,K3,Nat.mod_eq_of_lt (eB hk hlt)]
 |false=>
  have hle:(BitVec.ofInt (IntKind.u64).bits (x:Int) &&& ~~~BitVec.ofInt (IntKind.u64).bits (IntKind.u64.wrap (1*2 ^ (min r (IntKind.u64).bits)))).toNat≤x:=by
   rw [BitVec.toNat_and,O9 hxm]
   exact Nat.and_le_left
  refine⟨_,Nat.lt_of_le_of_lt hle hx,?_⟩
  show IntKind.u64.wrap _=_
  rw [K3,Nat.mod_eq_of_lt (by omega)]
theorem Ej {w v j:Nat}(h2:w≤128)(hj:j<w)(hv:v<2 ^ w)(b:Bool):∃ v':Nat,v'<2 ^ w∧U (fun n=>K5 n (w:Int) (j:Int) (.bool b) (.Z 1 (I9 w v))) fun r=>r=(true,[.Z 1 (I9 w v')]):=by
 have e1:IntKind.i64.wrap ((j:Int).tdiv 64)=((j / 64:Nat):Int):=by
  rw [Int.tdiv_eq_ediv_of_nonneg (by omega),N8 (by omega) (by omega)];omega
 have e2:(j:Int).tmod 64=((j % 64:Nat):Int):=by rw [Int.tmod_eq_emod_of_nonneg (by omega)];omega
 by_cases hw:w≤64
 ·have e3:j / 64=0:=by omega
  have e4:j % 64=j:=by omega
  obtain⟨y,hy,e⟩:=VM (x:=v) hj hw hv b
  refine⟨y,hy,U.eq (fun n=>iQ n _ _ _ _) ?_⟩
  rw [e1,e2,e3,e4,U3 hw,U3 hw]
  cases b with
  |true=>
   refine U.H5 rfl (U.H5 rfl (U.H5 rfl (U.no (E6 (by omega)) (U.H5 rfl (U.ret ?_)))))
   show (true,[D.Z 1 [.int .u64 (YU v j true)]])=_
   rw [e];rfl
  |false=>
   refine U.no rfl (U.H5 rfl (U.H5 rfl (U.no (E6 (by omega)) (U.H5 rfl (U.ret ?_)))))
   show (true,[D.Z 1 [.int .u64 (YU v j false)]])=_
   rw [e];rfl
 ·have hw:64<w:=by omega
  have hm:=gO v
  have hd:=div_lt hw hv
  by_cases h64:j<64
  ·have e3:j / 64=0:=by omega
   have e4:j % 64=j:=by omega
   obtain⟨y,hy,e⟩:=VM (x:=v % J1) h64 (B9 64) hm b
   refine⟨y+J1*(v / J1),OE hw hy hd,U.eq (fun n=>iQ n _ _ _ _) ?_⟩
   rw [e1,e2,e3,e4,rQ hw hy,V8 hw]
   cases b with
   |true=>
    refine U.H5 rfl (U.H5 rfl (U.H5 rfl (U.no (E6 (by omega)) (U.H5 rfl (U.ret ?_)))))
    show (true,[D.Z 1 [.int .u64 (YU (v % J1) j true),wd (v / J1)]])=_
    rw [e];rfl
   |false=>
    refine U.no rfl (U.H5 rfl (U.H5 rfl (U.no (E6 (by omega)) (U.H5 rfl (U.ret ?_)))))
    show (true,[D.Z 1 [.int .u64 (YU (v % J1) j false),wd (v / J1)]])=_
    rw [e];rfl
  ·have e3:j / 64=1:=by omega
   have e4:j % 64=j-64:=by omega
   obtain⟨y,hy,e⟩:=VM (x:=v / J1) (r:=j-64) (k:=w-64) (by omega) (by omega) hd b
   refine⟨v % J1+J1*y,OE hw hm hy,U.eq (fun n=>iQ n _ _ _ _) ?_⟩
   rw [e1,e2,e3,e4,rQ hw hm,V8 hw]
   cases b with
   |true=>
    refine U.H5 rfl (U.H5 rfl (U.H5 rfl (U.no (E6 (by omega)) (U.H5 rfl (U.ret ?_)))))
    show (true,[D.Z 1 [wd (v % J1),.int .u64 (YU (v / J1) (j-64) true)]])=_
    rw [e];rfl
   |false=>
    refine U.no rfl (U.H5 rfl (U.H5 rfl (U.no (E6 (by omega)) (U.H5 rfl (U.ret ?_)))))
    show (true,[D.Z 1 [wd (v % J1),.int .u64 (YU (v / J1) (j-64) false)]])=_
    rw [e];rfl
theorem Ft {w a b:Nat}(h1:1≤w)(h2:w≤128)(ha:a<2 ^ w)(hb:b<2 ^ w):∃ x:Nat,x<2 ^ w∧U (fun n=>hM n (vec w a) (vec w b)) fun r=>r=(true,[vec w x]):=by
 by_cases h:w≤64
 ·exact⟨_,Nat.and_lt_two_pow _ hb,WL h1 h ha hb⟩
 ·have hw:64<w:=by omega
  have k:∀ {x y:Nat},x<J1→y<J1→U (fun n=>oK n (.int .u64 (x:Int)) (.int .u64 (y:Int))) fun r=>r=(true,[wd (x &&& y)]):=fun {x y} hx hy=>U.eq (fun n=>HU n ..) (U.ret (by
   have hlt:x &&& y<J1:=eB (w:=64) (B9 _) (Nat.and_lt_two_pow _ hy)
   rw [yN hx hy,K3,Nat.mod_eq_of_lt hlt];rfl))
  have la:=gO a
  have lb:=gO b
  have da:=div_lt hw ha
  have db:=div_lt hw hb
  have lx:a % J1 &&& b % J1<J1:=eB (w:=64) (B9 _) (Nat.and_lt_two_pow _ lb)
  refine⟨(a % J1 &&& b % J1)+J1*(a / J1 &&& b / J1),OE hw lx (Nat.and_lt_two_pow _ db),U.eq (fun n=>AG n ..) (H4 (Y8 h1 h2) (U.H5 rfl ?_))⟩
  unfold vec
  rw [rQ hw lx]
  simp only [V8 hw]
  exact fJ (U.eq (fun n=>gM n ..) (U.H5 rfl (U.H5 rfl (U.H5 rfl (U.H5 rfl (U.H5 rfl (H4 (k la lb) (U.H5 rfl (U.H5 rfl (U.eq (fun n=>gM n ..) (U.H5 rfl (U.H5 rfl (U.H5 rfl (U.H5 rfl (U.H5 rfl (H4 (k (iJ hw h2 ha) (iJ hw h2 hb)) (U.H5 rfl (U.H5 rfl (U.eq (fun n=>gM n ..) (U.no rfl (U.ret rfl))))))))))))))))))))) (U.H5 rfl (U.ret rfl))
theorem Fu {w a b:Nat}(h1:1≤w)(h2:w≤128)(ha:a<2 ^ w)(hb:b<2 ^ w):∃ x:Nat,x<2 ^ w∧U (fun n=>eM n (vec w a) (vec w b)) fun r=>r=(true,[vec w x]):=by
 by_cases h:w≤64
 ·exact⟨_,Nat.or_lt_two_pow ha hb,WM h1 h ha hb⟩
 ·have hw:64<w:=by omega
  have k:∀ {x y:Nat},x<J1→y<J1→U (fun n=>oL n (.int .u64 (x:Int)) (.int .u64 (y:Int))) fun r=>r=(true,[wd (x ||| y)]):=fun {x y} hx hy=>U.eq (fun n=>HV n ..) (U.ret (by
   have hlt:x ||| y<J1:=eB (w:=64) (B9 _) (Nat.or_lt_two_pow hx hy)
   rw [Bn hx hy,K3,Nat.mod_eq_of_lt hlt];rfl))
  have la:=gO a
  have lb:=gO b
  have da:=div_lt hw ha
  have db:=div_lt hw hb
  have lx:a % J1 ||| b % J1<J1:=eB (w:=64) (B9 _) (Nat.or_lt_two_pow la lb)
  refine⟨(a % J1 ||| b % J1)+J1*(a / J1 ||| b / J1),OE hw lx (Nat.or_lt_two_pow da db),U.eq (fun n=>vN n ..) (H4 (Y8 h1 h2) (U.H5 rfl ?_))⟩
  unfold vec
  rw [rQ hw lx]
  simp only [V8 hw]
  exact fJ (U.eq (fun n=>fA n ..) (U.H5 rfl (U.H5 rfl (U.H5 rfl (U.H5 rfl (U.H5 rfl (H4 (k la lb) (U.H5 rfl (U.H5 rfl (U.eq (fun n=>fA n ..) (U.H5 rfl (U.H5 rfl (U.H5 rfl (U.H5 rfl (U.H5 rfl (H4 (k (iJ hw h2 ha) (iJ hw h2 hb)) (U.H5 rfl (U.H5 rfl (U.eq (fun n=>fA n ..) (U.no rfl (U.ret rfl))))))))))))))))))))) (U.H5 rfl (U.ret rfl))
theorem Fv {w a b:Nat}(h1:1≤w)(h2:w≤128)(ha:a<2 ^ w)(hb:b<2 ^ w):∃ x:Nat,x<2 ^ w∧U (fun n=>eN n (vec w a) (vec w b)) fun r=>r=(true,[vec w x]):=by
 by_cases h:w≤64
 ·exact⟨_,Nat.xor_lt_two_pow ha hb,WN h1 h ha hb⟩
 ·have hw:64<w:=by omega
  have k:∀ {x y:Nat},x<J1→y<J1→U (fun n=>oM n (.int .u64 (x:Int)) (.int .u64 (y:Int))) fun r=>r=(true,[wd (x ^^^ y)]):=fun {x y} hx hy=>U.eq (fun n=>HW n ..) (U.ret (by
   have hlt:x ^^^ y<J1:=eB (w:=64) (B9 _) (Nat.xor_lt_two_pow hx hy)
   rw [Ff hx hy,K3,Nat.mod_eq_of_lt hlt];rfl))
  have la:=gO a
  have lb:=gO b
  have da:=div_lt hw ha
  have db:=div_lt hw hb
  have lx:a % J1 ^^^ b % J1<J1:=eB (w:=64) (B9 _) (Nat.xor_lt_two_pow la lb)
  refine⟨(a % J1 ^^^ b % J1)+J1*(a / J1 ^^^ b / J1),OE hw lx (Nat.xor_lt_two_pow da db),U.eq (fun n=>vO n ..) (H4 (Y8 h1 h2) (U.H5 rfl ?_))⟩
  unfold vec
  rw [rQ hw lx]
  simp only [V8 hw]
  exact fJ (U.eq (fun n=>fB n ..) (U.H5 rfl (U.H5 rfl (U.H5 rfl (U.H5 rfl (U.H5 rfl (H4 (k la lb) (U.H5 rfl (U.H5 rfl (U.eq (fun n=>fB n ..) (U.H5 rfl (U.H5 rfl (U.H5 rfl (U.H5 rfl (U.H5 rfl (H4 (k (iJ hw h2 ha) (iJ hw h2 hb)) (U.H5 rfl (U.H5 rfl (U.eq (fun n=>fB n ..) (U.no rfl (U.ret rfl))))))))))))))))))))) (U.H5 rfl (U.ret rfl))
theorem LP {w a b:Nat}(h2:w≤128):∃ c:Bool,U (fun n=>cD n (vec w a) (vec w b)) (fun r=>r=(true,[.bool c]))∧(a=b→c=true):=by
 by_cases h:w≤64
 ·exact⟨_,Ka h,fun e=>E4 e⟩
 ·have hw:64<w:=by omega
  have two:∀ x y u v:Nat,∃ c:Bool,U (fun n=>U1 n (.Z 1 [wd x,wd u]) (.Z 1 [wd y,wd v])) (fun r=>r=(true,[.bool c]))∧(x=y→u=v→c=true):=by
   intro x y u v
   cases hx:(x:Int) !=(y:Int) with
   |true=>
    have e:U (fun n=>M0 n (.Z 1 [wd x,wd u]) (.Z 1 [wd y,wd v]) (2:Int) (0:Int)) fun r=>r=(true,[.bool false]):=U.eq (fun n=>O1 n ..) (U.H5 rfl (U.H5 rfl (U.H5 rfl (U.H5 rfl (U.H5 rfl (U.H5 hx (U.ret rfl)))))))
    refine⟨false,?_,fun e1 _=>by subst e1;simp at hx⟩
    exact U.eq (fun n=>bJ n ..) (U.no rfl (U.J2 e (fun ds h=>by cases h;rfl) fun ds h=>by cases h))
   |false=>
    cases hu:(u:Int) !=(v:Int) with
    |true=>
     have e:U (fun n=>M0 n (.Z 1 [wd x,wd u]) (.Z 1 [wd y,wd v]) (2:Int) (0:Int)) fun r=>r=(true,[.bool false]):=U.eq (fun n=>O1 n ..) (U.H5 rfl (U.H5 rfl (U.H5 rfl (U.H5 rfl (U.H5 rfl (U.no hx (U.eq (fun n=>O1 n ..) (U.H5 rfl (U.H5 rfl (U.H5 rfl (U.H5 rfl (U.H5 rfl (U.H5 hu (U.ret rfl))))))))))))))
     refine⟨false,?_,fun _ e1=>by subst e1;simp at hu⟩
     exact U.eq (fun n=>bJ n ..) (U.no rfl (U.J2 e (fun ds h=>by cases h;rfl) fun ds h=>by cases h))
    |false=>
     have e:U (fun n=>M0 n (.Z 1 [wd x,wd u]) (.Z 1 [wd y,wd v]) (2:Int) (0:Int)) fun r=>r=(false,[.Z 1 [wd x,wd u],.Z 1 [wd y,wd v],.int .i64 2,.int .i64 2]):=U.eq (fun n=>O1 n ..) (U.H5 rfl (U.H5 rfl (U.H5 rfl (U.H5 rfl (U.H5 rfl (U.no hx (U.eq (fun n=>O1 n ..) (U.H5 rfl (U.H5 rfl (U.H5 rfl (U.H5 rfl (U.H5 rfl (U.no hu (U.eq (fun n=>O1 n ..) (U.no rfl (U.ret rfl))))))))))))))))
     refine⟨true,?_,fun _ _=>rfl⟩
     exact U.eq (fun n=>bJ n ..) (U.no rfl (fJ e (U.H5 rfl (U.ret rfl))))
  obtain⟨c,e,hc⟩:=two (a % J1) (b % J1) (a / J1) (b / J1)
  unfold vec
  simp only [V8 hw]
  refine⟨c,?_,fun e1=>hc (by rw [e1]) (by rw [e1])⟩
  exact U.eq (fun n=>wM n ..) (U.H5 (E8 _) (H4 e (U.H5 rfl (U.ret rfl))))
theorem Au:U (fun n=>cD n zv zv) fun r=>r=(true,[.bool true]):=by
 have e:U (fun n=>U1 n (.Z 1 []) (.Z 1 [])) fun r=>r=(true,[.bool true]):=U.eq (fun n=>bJ n ..) (U.no rfl (fJ (U.eq (fun n=>O1 n ..) (U.no rfl (U.ret rfl))) (U.H5 rfl (U.ret rfl))))
 exact U.eq (fun n=>wM n ..) (U.H5 rfl (H4 e (U.H5 rfl (U.ret rfl))))
theorem As {p:Nat×Nat}(hp:Wf p):U (fun n=>cD n (vz p) (vz p)) fun r=>r=(true,[.bool true]):=by
 rcases dN p with ⟨_,e⟩|⟨_,e⟩
 ·rw [e];exact Au
 ·rw [e]
  obtain⟨c,h,hc⟩:=LP (a:=p.2) (b:=p.2) hp.1
  rw [hc rfl] at h
  exact h
theorem HI {w a b:Nat}(h1:1≤w)(h2:w≤128)(ha:a<2 ^ w)(hb:b<2 ^ w):∃ q r:Nat,q<2 ^ w∧r<2 ^ w∧U (fun n=>iG n (vec w a) (vec w b)) fun z=>z=(true,[vec w q,vec w r]):=by
 obtain⟨c,hc⟩:=JT (a:=b) h2
 have hp:=Nat.two_pow_pos w
 cases c with
 |false=>
  refine⟨2 ^ w-1-0,a,by omega,ha,U.eq (fun n=>HY n ..) (H4 hc (U.H5 rfl (U.H5 rfl (H4 (Y8 h1 h2) (U.H5 rfl (H4 (NA (a:=0) h1 h2 hp) (U.H5 ?_ (U.ret rfl))))))))⟩
  unfold I9;split<;>rfl
 |true=>
  have loop:∀ i,i≤w→∀ Q R:Nat,Q<2 ^ w→R<2 ^ w→∃ q r:Nat,q<2 ^ w∧r<2 ^ w∧U (fun n=>dC n (.int .i64 ((i:Int)-1)) (w:Int) (.Z 1 (I9 w a)) (w:Int) (.Z 1 (I9 w b)) (0:Int) (0:Int) (w:Int) (w:Int) (.Z 1 []) (.Z 1 []) (.Z 1 (I9 w Q)) (.Z 1 (I9 w R))) fun z=>
    ∃ i':Int,z=(false,[.int .i64 i',.int .i64 (w:Int),.Z 1 (I9 w a),.int .i64 (w:Int),.Z 1 (I9 w b),.int .i64 0,.int .i64 0,.int .i64 (w:Int),.int .i64 (w:Int),.Z 1 [],.Z 1 [],.Z 1 (I9 w q),.Z 1 (I9 w r)]):=by
   intro i
   induction i with
   |zero=>
    intro hi Q R hQ hR
    exact⟨Q,R,hQ,hR,U.eq (fun n=>wS n ..) (U.no (by decide) (U.ret ⟨_,rfl⟩))⟩
   |succ i ih=>
    intro hi Q R hQ hR
    have hi2:i<w:=hi
    have neg:=fV (w:=w) (a:=R) h1 h2 hR
    have up:=Rr (w:=w) (a:=R) (b:=1) h1 h2 hR (by omega)
    have hU:=mJ (Io 1 R) w
    generalize gG (Io 1 R) w=Uq at *
    obtain⟨X,hX,s0⟩:=Ej (v:=Uq) (j:=0) h2 h1 hU (a.testBit i)
    have head:∀ {P:Bool×List D→Prop},(U (fun n=>bif R.testBit (w-1) then dD n true (w:Int) (I9 w b) [.int .i64 (w:Int),.Z 1 (I9 w Uq)] [.Z 1 (I9 w X)] (w:Int) (i:Int) (I9 w Q) (w:Int) (I9 w a) 0 0 [] [] else H3 (eO n (vec w X) (vec w b)) fun r5=>bif I7 eO.H9 r5&&cS eO.H9 r5 then dD n (!(Y r5 0).b) (w:Int) (I9 w b) [.int .i64 (w:Int),.Z 1 (I9 w Uq)] [.Z 1 (I9 w X)] (w:Int) (i:Int) (I9 w Q) (w:Int) (I9 w a) 0 0 [] [] else none) P)→U (fun n=>dC n (.int .i64 (((i+1:Nat):Int)-1)) (w:Int) (.Z 1 (I9 w a)) (w:Int) (.Z 1 (I9 w b)) (0:Int) (0:Int) (w:Int) (w:Int) (.Z 1 []) (.Z 1 []) (.Z 1 (I9 w Q)) (.Z 1 (I9 w R))) P:=by
     intro P h
     rw [show (((i+1:Nat):Int)-1)=(i:Int) by omega]
     exact U.eq (fun n=>wS n ..) (U.H5 (E4 (by omega)) (H4 neg (U.H5 rfl (H4 up (U.H5 (by unfold I9;split<;>rfl) (H4 (qL h2 ha) (U.H5 rfl (H4 s0 (U.H5 rfl h)))))))))
    obtain⟨Q',hQ',s1⟩:=Ej (v:=Q) (j:=i) h2 hi2 hQ true
    have pl:=EP (w:=w) (a:=X) (b:=2 ^ w-1-b) (k:=1) h1 h2 hX (by omega) (by omega)
    have hP:(X+(2 ^ w-1-b)+1) % 2 ^ w<2 ^ w:=Nat.mod_lt _ hp
    obtain⟨q1,r1,hq1,hr1,e1⟩:=ih (by omega) Q' _ hQ' hP
    obtain⟨q0,r0,hq0,hr0,e0⟩:=ih (by omega) Q X hQ hX
    have H5:U (fun n=>dD n true (w:Int) (I9 w b) [.int .i64 (w:Int),.Z 1 (I9 w Uq)] [.Z 1 (I9 w X)] (w:Int) (i:Int) (I9 w Q) (w:Int) (I9 w a) 0 0 [] []) fun z=>∃ i':Int,z=(false,[.int .i64 i',.int .i64 (w:Int),.Z 1 (I9 w a),.int .i64 (w:Int),.Z 1 (I9 w b),.int .i64 0,.int .i64 0,.int .i64 (w:Int),.int .i64 (w:Int),.Z 1 [],.Z 1 [],.Z 1 (I9 w q1),.Z 1 (I9 w r1)]):=by
     refine M1 (fun n=>dD.eq_1 n ..) (U.H5 rfl (H4 (NA h1 h2 hb) (U.H5 rfl (H4 pl (U.H5 (by unfold I9;split<;>rfl) (H4 s1 (U.H5 rfl ?_)))))))
     rw [N8 (x:=(i:Int)-1) (by omega) (by omega)]
     exact e1
    have no:U (fun n=>dD n false (w:Int) (I9 w b) [.int .i64 (w:Int),.Z 1 (I9 w Uq)] [.Z 1 (I9 w X)] (w:Int) (i:Int) (I9 w Q) (w:Int) (I9 w a) 0 0 [] []) fun z=>∃ i':Int,z=(false,[.int .i64 i',.int .i64 (w:Int),.Z 1 (I9 w a),.int .i64 (w:Int),.Z 1 (I9 w b),.int .i64 0,.int .i64 0,.int .i64 (w:Int),.int .i64 (w:Int),.Z 1 [],.Z 1 [],.Z 1 (I9 w q0),.Z 1 (I9 w r0)]):=by
     refine M1 (fun n=>dD.eq_1 n ..) (U.no rfl ?_)
     rw [N8 (x:=(i:Int)-1) (by omega) (by omega)]
     exact e0
    cases hn:R.testBit (w-1) with
    |true=>
     refine⟨q1,r1,hq1,hr1,head ?_⟩
     rw [hn]
     exact H5
    |false=>
     obtain⟨l,hl⟩:=EA (a:=X) (b:=b) h2
     cases l with
     |true=>
      refine⟨q0,r0,hq0,hr0,head ?_⟩
      rw [hn]
      exact U.no rfl (H4 hl (U.H5 rfl no))
     |false=>
      refine⟨q1,r1,hq1,hr1,head ?_⟩
      rw [hn]
      exact U.no rfl (H4 hl (U.H5 rfl H5))
  obtain⟨q,r,hq,hr,l⟩:=loop w (B9 _) 0 0 hp hp
  refine⟨q,r,hq,hr,U.eq (fun n=>HY n ..) (H4 hc (U.H5 rfl (U.no rfl (H4 (Y8 h1 h2) (U.H5 rfl (H4 (Y8 h1 h2) (U.H5 rfl ?_)))))))⟩
  rw [N8 (by omega) (by omega)]
  refine U.J2 l (fun ds h=>by obtain⟨_,h⟩:=h;cases h) fun ds h=>?_
  obtain⟨_,h⟩:=h
  cases h
  exact U.H5 rfl (U.ret rfl)
section
section
variable {w a b:Nat} (h1:1≤w) (h2:w≤128) (ha:a<2 ^ w) (hb:b<2 ^ w)
include h1 h2 ha hb
theorem Ch:∃ q r:Nat,q<2 ^ w∧r<2 ^ w∧U (fun n=>nK n (vec w a) (vec w b)) fun z=>z=(true,[vec w q,vec w r]):=by
 have mag:∀ {x:Nat},x<2 ^ w→∃ y:Nat,y<2 ^ w∧U (fun n=>eP n (vec w x)) fun r=>r=(true,[vec w y]):=by
  intro x hx
  cases hn:x.testBit (w-1) with
  |true=>
   exact⟨_,Nat.mod_lt _ (Nat.two_pow_pos w),U.eq (fun n=>vP n ..) (H4 (fV h1 h2 hx) (U.H5 rfl (U.H5 hn (H4 (MX h1 h2 hx) (U.H5 rfl (U.ret rfl))))))⟩
  |false=>
   exact⟨x,hx,U.eq (fun n=>vP n ..) (H4 (fV h1 h2 hx) (U.H5 rfl (U.no hn (U.ret rfl))))⟩
 obtain⟨c,hc⟩:=JT (a:=b) h2
 obtain⟨q,r,hq,hr,hs⟩:=HI h1 h2 ha hb
 obtain⟨ma,hma,ea⟩:=mag ha
 obtain⟨mb,hmb,eb⟩:=mag hb
 obtain⟨q2,r2,hq2,hr2,hs2⟩:=HI h1 h2 hma hmb
 have na:=fV (w:=w) (a:=a) h1 h2 ha
 have nb:=fV (w:=w) (a:=b) h1 h2 hb
 have nq:=MX (w:=w) (a:=q2) h1 h2 hq2
 have nr:=MX (w:=w) (a:=r2) h1 h2 hr2
 have ml:∀ x:Nat,x % 2 ^ w<2 ^ w:=fun x=>Nat.mod_lt _ (Nat.two_pow_pos w)
 cases c with
 |false=>exact⟨q,r,hq,hr,U.eq (fun n=>mE n ..) (H4 hc (U.H5 rfl (U.H5 rfl (H4 hs (U.H5 rfl (U.ret rfl))))))⟩
 |true=>
  cases hd:!(a.testBit (w-1)==b.testBit (w-1)) with
  |true=>
   cases hn:a.testBit (w-1) with
   |true=>exact⟨_,_,ml _,ml _,U.eq (fun n=>mE n ..) (H4 hc (U.H5 rfl (U.no rfl (H4 ea (U.H5 rfl (H4 eb (U.H5 rfl (H4 hs2 (U.H5 rfl (H4 na (U.H5 rfl (H4 nb (U.H5 rfl (U.H5 hd (H4 nq (U.H5 rfl (H4 na (U.H5 rfl (U.H5 hn (H4 nr (U.H5 rfl (U.ret rfl))))))))))))))))))))))⟩
   |false=>exact⟨_,r2,ml _,hr2,U.eq (fun n=>mE n ..) (H4 hc (U.H5 rfl (U.no rfl (H4 ea (U.H5 rfl (H4 eb (U.H5 rfl (H4 hs2 (U.H5 rfl (H4 na (U.H5 rfl (H4 nb (U.H5 rfl (U.H5 hd (H4 nq (U.H5 rfl (H4 na (U.H5 rfl (U.no hn (U.ret rfl))))))))))))))))))))⟩
  |false=>
   cases hn:a.testBit (w-1) with
   |true=>exact⟨q2,_,hq2,ml _,U.eq (fun n=>mE n ..) (H4 hc (U.H5 rfl (U.no rfl (H4 ea (U.H5 rfl (H4 eb (U.H5 rfl (H4 hs2 (U.H5 rfl (H4 na (U.H5 rfl (H4 nb (U.H5 rfl (U.no hd (H4 na (U.H5 rfl (U.H5 hn (H4 nr (U.H5 rfl (U.ret rfl))))))))))))))))))))⟩
   |false=>exact⟨q2,r2,hq2,hr2,U.eq (fun n=>mE n ..) (H4 hc (U.H5 rfl (U.no rfl (H4 ea (U.H5 rfl (H4 eb (U.H5 rfl (H4 hs2 (U.H5 rfl (H4 na (U.H5 rfl (H4 nb (U.H5 rfl (U.no hd (H4 na (U.H5 rfl (U.no hn (U.ret rfl))))))))))))))))))⟩
theorem uA (op:Nat)(h:op=3∨op=4∨op=5∨op=6):∃ x:Nat,x<2 ^ w∧U (fun n=>nI n (op:Int) (vec w a) (vec w b)) fun r=>r=(true,[vec w x]):=by
 obtain⟨q,r,hq,hr,hs⟩:=HI h1 h2 ha hb
 obtain⟨q2,r2,hq2,hr2,sg⟩:=Ch h1 h2 ha hb
 rcases h with rfl|rfl|rfl|rfl
 ·exact⟨q,hq,U.eq (fun n=>pP n ..) (H4 hs (U.H5 rfl (U.no rfl (M1 (fun n=>jV.eq_1 n ..) (U.no rfl (U.H5 rfl (U.ret rfl)))))))⟩
 ·exact⟨r,hr,U.eq (fun n=>pP n ..) (H4 hs (U.H5 rfl (U.no rfl (M1 (fun n=>jV.eq_1 n ..) (U.no rfl (U.no rfl (U.no rfl (U.ret rfl))))))))⟩
 ·exact⟨q2,hq2,U.eq (fun n=>pP n ..) (H4 hs (U.H5 rfl (U.H5 rfl (M1 (fun n=>jV.eq_1 n ..) (U.H5 rfl (H4 sg (U.H5 rfl (U.no rfl (U.H5 rfl (U.ret rfl))))))))))⟩
 ·exact⟨r2,hr2,U.eq (fun n=>pP n ..) (H4 hs (U.H5 rfl (U.no rfl (M1 (fun n=>jV.eq_1 n ..) (U.H5 rfl (H4 sg (U.H5 rfl (U.no rfl (U.no rfl (U.ret rfl))))))))))⟩
theorem HH (op:Nat)(h:op=10∨op=11∨op=12):∃ x:Nat,x<2 ^ w∧U (fun n=>jK n (op:Int) (vec w a) (vec w b)) fun r=>r=(true,[vec w x]):=by
 have hm:min b w≤1000:=by omega
 have hn:=UJ (w:=w) (a:=b) (m:=w) h1 h2 hb (by omega)
 rcases h with rfl|rfl|rfl
 ·exact⟨_,mJ _ _,U.eq (fun n=>wR n ..) (H4 hn (U.H5 rfl (U.H5 rfl (H4 (Rr h1 h2 ha hm) (U.H5 rfl (U.ret rfl))))))⟩
 ·exact⟨_,mJ _ _,U.eq (fun n=>wR n ..) (H4 hn (U.H5 rfl (U.no rfl (U.H5 rfl (H4 (Di h1 h2 ha hm false) (U.H5 rfl (U.ret rfl)))))))⟩
 ·exact⟨_,mJ _ _,U.eq (fun n=>wR n ..) (H4 hn (U.H5 rfl (U.no rfl (U.no rfl (H4 (fV h1 h2 ha) (U.H5 rfl (H4 (Di h1 h2 ha hm (a.testBit (w-1))) (U.H5 rfl (U.ret rfl)))))))))⟩
theorem yC:∃ c:Bool,U (fun n=>cP n (vec w a) (vec w b)) fun r=>r=(true,[.bool c]):=by
 have na:=fV (w:=w) (a:=a) h1 h2 ha
 have nb:=fV (w:=w) (a:=b) h1 h2 hb
 obtain⟨l,hl⟩:=EA (a:=a) (b:=b) h2
 cases hd:!(a.testBit (w-1)==b.testBit (w-1)) with
 |true=>exact⟨_,U.eq (fun n=>tH n ..) (H4 na (U.H5 rfl (H4 nb (U.H5 rfl (U.H5 hd (H4 na (U.H5 rfl (U.ret rfl))))))))⟩
 |false=>exact⟨_,U.eq (fun n=>tH n ..) (H4 na (U.H5 rfl (H4 nb (U.H5 rfl (U.no hd (H4 hl (U.H5 rfl (U.ret rfl))))))))⟩
end
end
section
section
variable {w a b:Nat} (h1:1≤w) (h2:w≤128) (ha:a<2 ^ w) (hb:b<2 ^ w)
include h1 h2 ha hb
theorem lN (op:Nat)(h:op=13∨op=14∨op=15∨op=16∨op=17∨op=18):∃ c:Bool,U (fun n=>lE n (op:Int) (vec w a) (vec w b)) fun r=>r=(true,[.bool c]):=by
 obtain⟨ce,he,_⟩:=LP (a:=a) (b:=b) h2
 obtain⟨l1,e1⟩:=EA (a:=a) (b:=b) h2
 obtain⟨l2,e2⟩:=EA (a:=b) (b:=a) h2
 obtain⟨s1,f1⟩:=yC h1 h2 ha hb
 obtain⟨s2,f2⟩:=yC h1 h2 hb ha
 rcases h with rfl|rfl|rfl|rfl|rfl|rfl
 ·exact⟨ce,U.eq (fun n=>iR n ..) (U.H5 rfl (H4 he (U.H5 rfl (U.ret rfl))))⟩
 ·exact⟨!ce,U.eq (fun n=>iR n ..) (U.no rfl (U.H5 rfl (H4 he (U.H5 rfl (U.ret rfl)))))⟩
 ·exact⟨l1,U.eq (fun n=>iR n ..) (U.no rfl (U.no rfl (U.H5 rfl (H4 e1 (U.H5 rfl (U.ret rfl))))))⟩
 ·exact⟨!l2,U.eq (fun n=>iR n ..) (U.no rfl (U.no rfl (U.no rfl (U.H5 rfl (H4 e2 (U.H5 rfl (U.ret rfl)))))))⟩
 ·exact⟨s1,U.eq (fun n=>iR n ..) (U.no rfl (U.no rfl (U.no rfl (U.no rfl (U.H5 rfl (H4 f1 (U.H5 rfl (U.ret rfl))))))))⟩
 ·exact⟨!s2,U.eq (fun n=>iR n ..) (U.no rfl (U.no rfl (U.no rfl (U.no rfl (U.no rfl (H4 f2 (U.H5 rfl (U.ret rfl))))))))⟩
theorem Jj:∀ op:Nat,op<19→∃ s,Wf s∧U (fun n=>lD n (op:Int) (vec w a) (vec w b)) fun r=>r=(true,[vz s,.int .i64 0]):=by
 have hw0:=lA h1
 have out:∀ {x:Nat} {t:Nat→Out},x<2 ^ w→U t (fun r=>r=(true,[vec w x,.int .i64 0]))→∃ s,Wf s∧U t fun r=>r=(true,[vz s,.int .i64 0]):=fun {x t} hx h=>⟨(w,x),⟨h2,hx⟩,by rw [gT h1];exact h⟩
 have ml:∀ x:Nat,x % 2 ^ w<2 ^ w:=fun x=>Nat.mod_lt _ (Nat.two_pow_pos w)
 intro op hop
 match op,hop with
 |0,_=>exact out (ml _) (U.eq (fun n=>R8 n ..) (U.no (E6 (by omega)) (U.no (E6 (by omega)) (U.no (by simp) (U.no hw0 (U.H5 rfl (H4 (EP (k:=0) h1 h2 ha hb (by omega)) (U.H5 rfl (U.ret rfl)))))))))
 |1,_=>
  have nt:=NA (w:=w) (a:=b) h1 h2 hb
  have pl:=EP (w:=w) (a:=a) (b:=2 ^ w-1-b) (k:=1) h1 h2 ha (by omega) (by omega)
  refine out (ml _) (U.eq (fun n=>R8 n ..) (U.no (E6 (by omega)) (U.no (E6 (by omega)) (U.no (by simp) (U.no hw0 (U.no rfl (U.H5 rfl (H4 nt (U.H5 rfl (H4 pl (U.H5 ?_ (U.ret rfl))))))))))))
  unfold I9;split<;>rfl
 |2,_=>exact out (ml _) (U.eq (fun n=>R8 n ..) (U.no (E6 (by omega)) (U.no (E6 (by omega)) (U.no (by simp) (U.no hw0 (U.no rfl (U.no rfl (U.H5 rfl (H4 (ZF h1 h2 ha hb) (U.H5 rfl (U.ret rfl)))))))))))
 |3,_=>
  obtain⟨x,hx,e⟩:=uA h1 h2 ha hb 3 (by omega)
  exact out hx (U.eq (fun n=>R8 n ..) (U.no (E6 (by omega)) (U.no (E6 (by omega)) (U.no (by simp) (U.no hw0 (U.no rfl (U.no rfl (U.no rfl (U.H5 rfl (M1 (fun n=>Y6.eq_1 n ..) (U.H5 rfl (H4 e (U.H5 rfl (U.ret rfl))))))))))))))
 |4,_=>
  obtain⟨x,hx,e⟩:=uA h1 h2 ha hb 4 (by omega)
  exact out hx (U.eq (fun n=>R8 n ..) (U.no (E6 (by omega)) (U.no (E6 (by omega)) (U.no (by simp) (U.no hw0 (U.no rfl (U.no rfl (U.no rfl (U.no rfl (U.H5 rfl (M1 (fun n=>Y6.eq_1 n ..) (U.H5 rfl (H4 e (U.H5 rfl (U.ret rfl)))))))))))))))
 |5,_=>
  obtain⟨x,hx,e⟩:=uA h1 h2 ha hb 5 (by omega)
  exact out hx (U.eq (fun n=>R8 n ..) (U.no (E6 (by omega)) (U.no (E6 (by omega)) (U.no (by simp) (U.no hw0 (U.no rfl (U.no rfl (U.no rfl (U.no rfl (U.no rfl (U.H5 rfl (M1 (fun n=>Y6.eq_1 n ..) (U.H5 rfl (H4 e (U.H5 rfl (U.ret rfl))))))))))))))))
 |6,_=>
  obtain⟨x,hx,e⟩:=uA h1 h2 ha hb 6 (by omega)
  exact out hx (U.eq (fun n=>R8 n ..) (U.no (E6 (by omega)) (U.no (E6 (by omega)) (U.no (by simp) (U.no hw0 (U.no rfl (U.no rfl (U.no rfl (U.no rfl (U.no rfl (U.no rfl (M1 (fun n=>Y6.eq_1 n ..) (U.H5 rfl (H4 e (U.H5 rfl (U.ret rfl))))))))))))))))
 |7,_=>
  obtain⟨x,hx,e⟩:=Ft h1 h2 ha hb
  exact out hx (U.eq (fun n=>R8 n ..) (U.no (E6 (by omega)) (U.no (E6 (by omega)) (U.no (by simp) (U.no hw0 (U.no rfl (U.no rfl (U.no rfl (U.no rfl (U.no rfl (U.no rfl (M1 (fun n=>Y6.eq_1 n ..) (U.no rfl (U.H5 rfl (H4 e (U.H5 rfl (U.ret rfl)))))))))))))))))
 |8,_=>
  obtain⟨x,hx,e⟩:=Fu h1 h2 ha hb
  exact out hx (U.eq (fun n=>R8 n ..) (U.no (E6 (by omega)) (U.no (E6 (by omega)) (U.no (by simp) (U.no hw0 (U.no rfl (U.no rfl (U.no rfl (U.no rfl (U.no rfl (U.no rfl (M1 (fun n=>Y6.eq_1 n ..) (U.no rfl (U.no rfl (U.H5 rfl (H4 e (U.H5 rfl (U.ret rfl))))))))))))))))))
 |9,_=>
  obtain⟨x,hx,e⟩:=Fv h1 h2 ha hb
  exact out hx (U.eq (fun n=>R8 n ..) (U.no (E6 (by omega)) (U.no (E6 (by omega)) (U.no (by simp) (U.no hw0 (U.no rfl (U.no rfl (U.no rfl (U.no rfl (U.no rfl (U.no rfl (M1 (fun n=>Y6.eq_1 n ..) (U.no rfl (U.no rfl (U.no rfl (U.H5 rfl (H4 e (U.H5 rfl (U.ret rfl)))))))))))))))))))
 |10,_=>
  obtain⟨x,hx,e⟩:=HH h1 h2 ha hb 10 (by omega)
  exact out hx (U.eq (fun n=>R8 n ..) (U.no (E6 (by omega)) (U.no (E6 (by omega)) (U.no (by simp) (U.no hw0 (U.no rfl (U.no rfl (U.no rfl (U.no rfl (U.no rfl (U.no rfl (M1 (fun n=>Y6.eq_1 n ..) (U.no rfl (U.no rfl (U.no rfl (U.no rfl (U.H5 rfl (H4 e (U.H5 rfl (U.ret rfl))))))))))))))))))))
 |11,_=>
  obtain⟨x,hx,e⟩:=HH h1 h2 ha hb 11 (by omega)
  exact out hx (U.eq (fun n=>R8 n ..) (U.no (E6 (by omega)) (U.no (E6 (by omega)) (U.no (by simp) (U.no hw0 (U.no rfl (U.no rfl (U.no rfl (U.no rfl (U.no rfl (U.no rfl (M1 (fun n=>Y6.eq_1 n ..) (U.no rfl (U.no rfl (U.no rfl (U.no rfl (U.no rfl (U.H5 rfl (H4 e (U.H5 rfl (U.ret rfl)))))))))))))))))))))
 |12,_=>
  obtain⟨x,hx,e⟩:=HH h1 h2 ha hb 12 (by omega)
  exact out hx (U.eq (fun n=>R8 n ..) (U.no (E6 (by omega)) (U.no (E6 (by omega)) (U.no (by simp) (U.no hw0 (U.no rfl (U.no rfl (U.no rfl (U.no rfl (U.no rfl (U.no rfl (M1 (fun n=>Y6.eq_1 n ..) (U.no rfl (U.no rfl (U.no rfl (U.no rfl (U.no rfl (U.no rfl (U.H5 rfl (H4 e (U.H5 rfl (U.ret rfl))))))))))))))))))))))
 |13,_=>
  obtain⟨c,e⟩:=lN h1 h2 ha hb 13 (by omega)
  refine⟨(1,c.toNat),⟨(show 1≤128 by decide),Nat.lt_of_le_of_lt (Bool.toNat_le _) (show 1<2 ^ 1 by decide)⟩,?_⟩
  rw [gT (B9 1)]
  exact U.eq (fun n=>R8 n ..) (U.no (E6 (by omega)) (U.no (E6 (by omega)) (U.no (by simp) (U.no hw0 (U.no rfl (U.no rfl (U.no rfl (U.no rfl (U.no rfl (U.no rfl (M1 (fun n=>Y6.eq_1 n ..) (U.no rfl (U.no rfl (U.no rfl (U.no rfl (U.no rfl (U.no rfl (U.no rfl (H4 e (U.H5 rfl (H4 (kT c) (U.H5 rfl (U.ret rfl)))))))))))))))))))))))
 |14,_=>
  obtain⟨c,e⟩:=lN h1 h2 ha hb 14 (by omega)
  refine⟨(1,c.toNat),⟨(show 1≤128 by decide),Nat.lt_of_le_of_lt (Bool.toNat_le _) (show 1<2 ^ 1 by decide)⟩,?_⟩
  rw [gT (B9 1)]
  exact U.eq (fun n=>R8 n ..) (U.no (E6 (by omega)) (U.no (E6 (by omega)) (U.no (by simp) (U.no hw0 (U.no rfl (U.no rfl (U.no rfl (U.no rfl (U.no rfl (U.no rfl (M1 (fun n=>Y6.eq_1 n ..) (U.no rfl (U.no rfl (U.no rfl (U.no rfl (U.no rfl (U.no rfl (U.no rfl (H4 e (U.H5 rfl (H4 (kT c) (U.H5 rfl (U.ret rfl)))))))))))))))))))))))
 |15,_=>
  obtain⟨c,e⟩:=lN h1 h2 ha hb 15 (by omega)
  refine⟨(1,c.toNat),⟨(show 1≤128 by decide),Nat.lt_of_le_of_lt (Bool.toNat_le _) (show 1<2 ^ 1 by decide)⟩,?_⟩
  rw [gT (B9 1)]
  exact U.eq (fun n=>R8 n ..) (U.no (E6 (by omega)) (U.no (E6 (by omega)) (U.no (by simp) (U.no hw0 (U.no rfl (U.no rfl (U.no rfl (U.no rfl (U.no rfl (U.no rfl (M1 (fun n=>Y6.eq_1 n ..) (U.no rfl (U.no rfl (U.no rfl (U.no rfl (U.no rfl (U.no rfl (U.no rfl (H4 e (U.H5 rfl (H4 (kT c) (U.H5 rfl (U.ret rfl)))))))))))))))))))))))
 |16,_=>
  obtain⟨c,e⟩:=lN h1 h2 ha hb 16 (by omega)
  refine⟨(1,c.toNat),⟨(show 1≤128 by decide),Nat.lt_of_le_of_lt (Bool.toNat_le _) (show 1<2 ^ 1 by decide)⟩,?_⟩
  rw [gT (B9 1)]
  exact U.eq (fun n=>R8 n ..) (U.no (E6 (by omega)) (U.no (E6 (by omega)) (U.no (by simp) (U.no hw0 (U.no rfl (U.no rfl (U.no rfl (U.no rfl (U.no rfl (U.no rfl (M1 (fun n=>Y6.eq_1 n ..) (U.no rfl (U.no rfl (U.no rfl (U.no rfl (U.no rfl (U.no rfl (U.no rfl (H4 e (U.H5 rfl (H4 (kT c) (U.H5 rfl (U.ret rfl)))))))))))))))))))))))
 |17,_=>
  obtain⟨c,e⟩:=lN h1 h2 ha hb 17 (by omega)
  refine⟨(1,c.toNat),⟨(show 1≤128 by decide),Nat.lt_of_le_of_lt (Bool.toNat_le _) (show 1<2 ^ 1 by decide)⟩,?_⟩
  rw [gT (B9 1)]
  exact U.eq (fun n=>R8 n ..) (U.no (E6 (by omega)) (U.no (E6 (by omega)) (U.no (by simp) (U.no hw0 (U.no rfl (U.no rfl (U.no rfl (U.no rfl (U.no rfl (U.no rfl (M1 (fun n=>Y6.eq_1 n ..) (U.no rfl (U.no rfl (U.no rfl (U.no rfl (U.no rfl (U.no rfl (U.no rfl (H4 e (U.H5 rfl (H4 (kT c) (U.H5 rfl (U.ret rfl)))))))))))))))))))))))
 |18,_=>
  obtain⟨c,e⟩:=lN h1 h2 ha hb 18 (by omega)
  refine⟨(1,c.toNat),⟨(show 1≤128 by decide),Nat.lt_of_le_of_lt (Bool.toNat_le _) (show 1<2 ^ 1 by decide)⟩,?_⟩
  rw [gT (B9 1)]
  exact U.eq (fun n=>R8 n ..) (U.no (E6 (by omega)) (U.no (E6 (by omega)) (U.no (by simp) (U.no hw0 (U.no rfl (U.no rfl (U.no rfl (U.no rfl (U.no rfl (U.no rfl (M1 (fun n=>Y6.eq_1 n ..) (U.no rfl (U.no rfl (U.no rfl (U.no rfl (U.no rfl (U.no rfl (U.no rfl (H4 e (U.H5 rfl (H4 (kT c) (U.H5 rfl (U.ret rfl)))))))))))))))))))))))
 |n+19,h=>exact absurd h (by omega)
end
theorem Oh (op:Int){p q:Nat×Nat}(hp:Wf p)(hq:Wf q):∃ s,Wf s∧∃ e:Int,U (fun n=>lD n op (vz p) (vz q)) fun r=>r=(true,[vz s,.int .i64 e]):=by
 have Cs:∀ x:Nat×Nat,∃ ws,vz x = .agg [.int .i64 (x.1:Int),.Z 1 ws]:=fun x=>by
  rcases dN x with ⟨e1,e⟩|⟨_,e⟩
  ·exact⟨[],by rw [e,e1];rfl⟩
  ·exact⟨_,e⟩
 by_cases h0:op<0
 ·obtain⟨ws,e1⟩:=Cs p
  obtain⟨ws2,e2⟩:=Cs q
  exact⟨(0,0),Wf.zero,1,by rw [e1,e2];exact U.eq (fun n=>R8 n ..) (U.H5 (E4 h0) (U.ret rfl))⟩
 ·by_cases h18:op>18
  ·obtain⟨ws,e1⟩:=Cs p
   obtain⟨ws2,e2⟩:=Cs q
   exact⟨(0,0),Wf.zero,1,by rw [e1,e2];exact U.eq (fun n=>R8 n ..) (U.no (E6 h0) (U.H5 (E4 h18) (U.ret rfl)))⟩
  ·by_cases hw:p.1=q.1
   ·by_cases hz:p.1=0
    ·obtain⟨ws,e1⟩:=Cs p
     obtain⟨ws2,e2⟩:=Cs q
     exact⟨(0,0),Wf.zero,2,by rw [e1,e2];exact U.eq (fun n=>R8 n ..) (U.no (E6 h0) (U.no (E6 h18) (U.no (by rw [hw];simp) (U.H5 (by rw [hz];rfl) (U.ret rfl)))))⟩
    ·obtain⟨w,a⟩:=p
     obtain⟨w',b⟩:=q
     have hw:w=w':=hw
     subst hw
     have h1:1≤w:=by have:¬ w=0:=hz;omega
     obtain⟨s,hs,e⟩:=Jj h1 hp.1 hp.2 hq.2 op.toNat (by omega)
     rw [gT h1,gT h1]
     refine⟨s,hs,0,?_⟩
     rwa [show ((op.toNat:Nat):Int)=op by omega] at e
   ·obtain⟨ws,e1⟩:=Cs p
    obtain⟨ws2,e2⟩:=Cs q
    exact⟨(0,0),Wf.zero,2,by rw [e1,e2];exact U.eq (fun n=>R8 n ..) (U.no (E6 h0) (U.no (E6 h18) (U.H5 (by simp;omega) (U.ret rfl))))⟩
end
end Go.Proofs.YthlhbocobgkdmaaGreat
