import Derived.Test.YtpmjplpnpnmlcaaGreatDoorEng5
set_option linter.all false
namespace Go.AE.Dc
open Go.AE.Q
inductive SL where
 |n
 |c (l:List Char) (r:SL)
def sa {l:List Char}(s:String)(_:s=String.ofList l)(r:SL):SL:= .c l r
noncomputable def zV (s:SL):Nat→List Char:=SL.rec (motive:=fun _=>Nat→List Char) (fun _=>[]) (fun l _ ih k=>Nat.rec (motive:=fun _=>List Char) l (fun k _=>ih k) k) s
noncomputable def aA1 {R:Type} (c:Char) (K:Nat→R):R:=Y3 (Char.toNat c) fun n=>H9 (Nat.blt n 92) (Y3 (Nat.sub n 48) K) (H9 (Nat.blt n 96) (Y3 (Nat.sub n 49) K) (Y3 (Nat.sub n 50) K))
noncomputable def ex (D fuel:Nat):Nat→List Nat→List Nat:=Nat.rec (motive:=fun _=>Nat→List Nat→List Nat) (fun c r=>c::r) (fun _ ih c r=>Y3 (Nat.mod (Nat.shiftRight D (Nat.mul 22 c)) 4194304) fun e=>Y3 (Nat.div e 2048) fun a=>Y3 (Nat.mod e 2048) fun b=>H9 (Nat.beq a 0) (b::r) (Y3 (Nat.sub a 1) fun a=>ih a (ih b r))) fuel
noncomputable def Gq (D A:Nat) (l:List Char):Nat→List Nat:=List.rec (motive:=fun _=>Nat→List Nat) (fun _=>[]) (fun c _ ih p=>aA1 c fun t=>H9 (Nat.beq p 0) (H9 (Nat.blt t A) (ex D 64 t (ih 0)) (Y3 (Nat.add (Nat.sub t A) 1) fun p=>ih p)) (Y3 (Nat.add A (Nat.add (Nat.mul 73 (Nat.sub p 1)) t)) fun c=>ex D 64 c (ih 0))) l
inductive Zg where
 |c (f:Nat) (sl:List (Nat×SV)) (ob:List eQ) (re:List (Nat×SV)) (ro:List eQ)
 |l (f p:Nat) (pre:List (Nat×Nat)) (df:List (Nat×List (Nat×Nat))) (o:Bool) (id k:Nat) (sl:List (Nat×SV)) (ob:List eQ)
inductive Zz where
 |n
 |t (x:T)
 |c (x:fX)
 |p (x:List Pd)
 |r (x:List Rl)
 |g (x:Zg)
 |k (x:List (Nat×Nat×List Nat))
 |m (x:List (Nat×List (Nat×Nat×Nat)))
abbrev Ps (α:Type):=List Nat→(α→List Nat→Zz)→Zz
noncomputable def one:Ps Nat:=fun ts K=>List.casesOn (motive:=fun _=>Zz) ts .n fun t ts=>K t ts
noncomputable def more (k:Nat):Nat→Ps Nat:=Nat.rec (motive:=fun _=>Nat→Ps Nat) (fun v ts K=>K v ts) (fun _ ih v ts K=>one ts fun t ts=>Y3 (Nat.add t (Nat.mul 1000 v)) fun v=>ih v ts K) k
noncomputable def pN:Ps Nat:=fun ts K=>one ts fun t ts=>H9 (Nat.blt t 1000) (K t ts) (more (Nat.sub t 1000) 0 ts K)
noncomputable def pI:Ps Int:=fun ts K=>pN ts fun v ts=>Y3 (Nat.div v 2) fun h=>H9 (Nat.beq (Nat.mod v 2) 0) (K (Int.ofNat h) ts) (K (Int.negSucc h) ts)
noncomputable def rep {α:Type} (p:Ps α) (n:Nat):Ps (List α):=Nat.rec (motive:=fun _=>Ps (List α)) (fun ts K=>K [] ts) (fun _ ih ts K=>p ts fun x ts=>ih ts fun r ts=>K (x::r) ts) n
noncomputable def pL {α:Type} (p:Ps α):Ps (List α):=fun ts K=>pN ts fun n ts=>rep p n ts K
noncomputable def alt {α:Type} (o:Nat) (l:List (Ps α)):Ps α:=fun ts K=>one ts fun t ts=>Y3 (Nat.sub t o) fun t=>L3 (fun _ _=> .n) l t ts K
noncomputable def pU:Ps UInt8:=fun ts K=>pN ts fun n ts=>K (UInt8.ofNat n) ts
noncomputable def cZ {α:Type} (x:α):Ps α:=fun ts K=>K x ts
noncomputable def pB:Ps BinOp:=alt 1400 [cZ .add,cZ .sub,cZ .mul,cZ .quo,cZ .rem,cZ .and,cZ .or,cZ .xor,cZ .shl,cZ .shr,cZ .andNot,cZ .eql,cZ .neq,cZ .lss,cZ .leq,cZ .gtr,cZ .geq]
noncomputable def Ns:Ps IntKind:=alt 1420 [cZ .i8,cZ .i16,cZ .i32,cZ .i64,cZ .u8,cZ .u16,cZ .u32,cZ .u64]
noncomputable def Uz:Ps Y2:=alt 1430 [cZ .any,cZ .bool,fun ts K=>Ns ts fun k ts=>K (.int k) ts,cZ .str,fun ts K=>pN ts fun n ts=>K (.Z n) ts]
noncomputable def Wt:Ps Ty:=alt 1440 [fun ts K=>Uz ts fun t ts=>K (.leaf t) ts,fun ts K=>pL Uz ts fun l ts=>K (.agg l) ts,fun ts K=>pN ts fun n ts=>pL Uz ts fun l ts=>K (.ifc n l) ts]
noncomputable def pD (f:Nat):Ps D:=Nat.rec (motive:=fun _=>Ps D) (cZ .top) (fun _ d=>alt 1450 [cZ .top,cZ (.bool false),cZ (.bool true),fun ts K=>Ns ts fun k ts=>pI ts fun i ts=>K (.int k i) ts,fun ts K=>pL pU ts fun l ts=>K (.str l) ts,fun ts K=>pN ts fun n ts=>pL d ts fun l ts=>K (.Z n l) ts,fun ts K=>pN ts fun n ts=>pN ts fun m ts=>K (.nils n m) ts,cZ .und,fun ts K=>pL d ts fun l ts=>K (.agg l) ts,fun ts K=>pN ts fun n ts=>K (.fn n) ts,cZ .nilp,cZ .nilf,cZ .nilm,cZ .nili,cZ .ub]) f
noncomputable def Ho (f:BinOp→E→E→E) (e:Ps E):Ps E:=fun ts K=>pB ts fun x0 ts=>e ts fun x1 ts=>e ts fun x2 ts=>K (f x0 x1 x2) ts
noncomputable def Oq (f:BinOp→IntKind→E→E→E) (e:Ps E):Ps E:=fun ts K=>pB ts fun x0 ts=>Ns ts fun x1 ts=>e ts fun x2 ts=>e ts fun x3 ts=>K (f x0 x1 x2 x3) ts
noncomputable def eE (f:E→E) (e:Ps E):Ps E:=fun ts K=>e ts fun x0 ts=>K (f x0) ts
noncomputable def KM (f:E→E→E) (e:Ps E):Ps E:=fun ts K=>e ts fun x0 ts=>e ts fun x1 ts=>K (f x0 x1) ts
noncomputable def UK (f:E→E→E→E) (e:Ps E):Ps E:=fun ts K=>e ts fun x0 ts=>e ts fun x1 ts=>e ts fun x2 ts=>K (f x0 x1 x2) ts
noncomputable def Zb (f:E→Nat→E) (e:Ps E):Ps E:=fun ts K=>e ts fun x0 ts=>pN ts fun x1 ts=>K (f x0 x1) ts
noncomputable def Vr (f:E→Nat→E→E) (e:Ps E):Ps E:=fun ts K=>e ts fun x0 ts=>pN ts fun x1 ts=>e ts fun x2 ts=>K (f x0 x1 x2) ts
noncomputable def Vs (f:E→Nat→Nat→E) (e:Ps E):Ps E:=fun ts K=>e ts fun x0 ts=>pN ts fun x1 ts=>pN ts fun x2 ts=>K (f x0 x1 x2) ts
noncomputable def Zc (f:IntKind→E→E) (e:Ps E):Ps E:=fun ts K=>Ns ts fun x0 ts=>e ts fun x1 ts=>K (f x0 x1) ts
noncomputable def Ot (f:IntKind→E→E→E) (e:Ps E):Ps E:=fun ts K=>Ns ts fun x0 ts=>e ts fun x1 ts=>e ts fun x2 ts=>K (f x0 x1 x2) ts
noncomputable def Zd (f:Nat→E→E) (e:Ps E):Ps E:=fun ts K=>pN ts fun x0 ts=>e ts fun x1 ts=>K (f x0 x1) ts
noncomputable def UL (f:Nat→E→E→E) (e:Ps E):Ps E:=fun ts K=>pN ts fun x0 ts=>e ts fun x1 ts=>e ts fun x2 ts=>K (f x0 x1 x2) ts
noncomputable def Fh (f:Nat→E→E→E→E) (e:Ps E):Ps E:=fun ts K=>pN ts fun x0 ts=>e ts fun x1 ts=>e ts fun x2 ts=>e ts fun x3 ts=>K (f x0 x1 x2 x3) ts
noncomputable def Hq (f:Nat→E→E→E→E→E) (e:Ps E):Ps E:=fun ts K=>pN ts fun x0 ts=>e ts fun x1 ts=>e ts fun x2 ts=>e ts fun x3 ts=>e ts fun x4 ts=>K (f x0 x1 x2 x3 x4) ts
noncomputable def aA4 (f:Ty→E→E) (e:Ps E):Ps E:=fun ts K=>Wt ts fun x0 ts=>e ts fun x1 ts=>K (f x0 x1) ts
noncomputable def tE:List (Ps E→Ps E):=[fun _ ts K=>pN ts fun n ts=>K (.v n) ts,fun _ ts K=>pD 9 ts fun d ts=>K (.k d) ts,Zb .a,Vs .sub,Vr .Ef,Oq .i,Zc .cv,Zc .cm,Ot .mx,Ot .mn,Ho .s,Ho .b,eE .n,KM .q,Ho .w,eE .l,eE .sl,eE .em,KM .rm,KM .rs,UL .ap,Fh .st,UL .rp,Fh .dt,UL .tk,UL .cp,KM .ml,Hq .cl,UL .c,UK .ds,KM .g,KM .sb,KM .ac,KM .aa,KM .na,KM .ns,Zb .nb,Zd .fc,eE .fd,fun _ ts K=>K (.v 0) ts,eE .by_,eE .bd,eE .ob,eE .al,eE .ch,eE .nl,eE .ag,aA4 .ok,KM .xi,Zd .ls,KM .nt,eE .ez,KM .rb,KM .nz,UK .a6,UK .a7,UK .mg,KM .mh,UK .mp,KM .eq]
noncomputable def pE (f:Nat):Ps E:=Nat.rec (motive:=fun _=>Ps E) (cZ (.v 0)) (fun _ e ts K=>one ts fun t ts=>H9 (Nat.blt t 1024) (K (.v t) ts) (Y3 (Nat.sub t 1024) fun t=>L3 (fun _=>cZ (.v 0)) tE t e ts K)) f
noncomputable def pA:Ps Ar:=fun ts K=>one ts fun t r=>H9 (Nat.beq t 1023) (pN r fun i r=>pN r fun n r=>K (.r i n) r) (pE 200 ts fun e ts=>K (.e e) ts)
noncomputable def Lc:Ps (List Ar):=pL pA
noncomputable def tT:List (Ps T→Ps T):=[fun _=>cZ .no,fun _ ts K=>Lc ts fun a ts=>K (.ret true a) ts,fun _ ts K=>Lc ts fun a ts=>K (.ret false a) ts,
 fun t ts K=>pE 200 ts fun e ts=>t ts fun x ts=>t ts fun y ts=>K (.i e x y) ts,fun t ts K=>pE 200 ts fun e ts=>t ts fun x ts=>K (.g e x) ts,fun t ts K=>Wt ts fun y ts=>pE 200 ts fun e ts=>t ts fun x ts=>K (.t y e x) ts,
 fun t ts K=>pE 200 ts fun e ts=>t ts fun x ts=>K (.l e x) ts,fun t ts K=>pN ts fun f ts=>Lc ts fun a ts=>t ts fun x ts=>K (.c true f a x) ts,fun t ts K=>pN ts fun f ts=>Lc ts fun a ts=>t ts fun x ts=>K (.c false f a x) ts,
 fun t ts K=>pN ts fun f ts=>Lc ts fun a ts=>t ts fun x ts=>K (.o f a x) ts,fun _ ts K=>pN ts fun f ts=>Lc ts fun a ts=>K (.tl f a) ts,fun t ts K=>t ts fun x ts=>t ts fun y ts=>K (.ag x y) ts,
 fun t ts K=>t ts fun x ts=>t ts fun y ts=>K (.j x y) ts,fun _ ts K=>pN ts fun f ts=>Lc ts fun a ts=>K (.jp f a) ts]
noncomputable def pT (f:Nat):Ps T:=Nat.rec (motive:=fun _=>Ps T) (cZ .no) (fun _ t ts K=>one ts fun k ts=>Y3 (Nat.sub k 1100) fun k=>L3 (fun _=>cZ .no) tT k t ts K) f
noncomputable def pP {α β:Type} (p:Ps α) (q:Ps β):Ps (α×β):=fun ts K=>p ts fun x ts=>q ts fun y ts=>K (x,y) ts
noncomputable def aC4:Ps Bool:=fun ts K=>pN ts fun n ts=>H9 (Nat.beq n 1) (K true ts) (K false ts)
noncomputable def pV (f:Nat):Ps SV:=Nat.rec (motive:=fun _=>Ps SV) (cZ .x) (fun _ v=>alt 1540 [fun ts K=>Wt ts fun t ts=>K (.d t) ts,fun ts K=>pN ts fun o ts=>pN ts fun i ts=>K (.ptr o i) ts,fun ts K=>pN ts fun o ts=>K (.row o) ts,fun ts K=>pN ts fun o ts=>pL v ts fun l ts=>K (.fn o l) ts,fun ts K=>pL v ts fun l ts=>K (.agg l) ts,cZ .x,fun ts K=>pN ts fun o ts=>K (.mp o) ts,fun ts K=>pN ts fun t ts=>pN ts fun o ts=>pN ts fun i ts=>K (.bp t o i) ts]) f
noncomputable def Wq:Ps eQ:=alt 1550 [fun ts K=>pL (pV 9) ts fun l ts=>K (.var l) ts,fun ts K=>pN ts fun a ts=>pN ts fun b ts=>pN ts fun c ts=>K (.row a b c) ts,cZ .gone,fun ts K=>Uz ts fun t ts=>K (.mp t) ts,fun ts K=>pN ts fun a ts=>pN ts fun b ts=>K (.it a b) ts,fun ts K=>pN ts fun a ts=>pN ts fun b ts=>pN ts fun c ts=>pN ts fun d ts=>K (.nst a b c d) ts]
noncomputable def Wr:Ps (List (Nat×SV)):=pL (pP pN (pV 9))
noncomputable def aD0:Ps Zg:=alt 1560 [fun ts K=>pN ts fun f ts=>Wr ts fun sl ts=>pL Wq ts fun ob ts=>Wr ts fun re ts=>pL Wq ts fun ro ts=>K (.c f sl ob re ro) ts,
 fun ts K=>pN ts fun f ts=>pN ts fun p ts=>pL (pP pN pN) ts fun pre ts=>pL (pP pN (pL (pP pN pN))) ts fun df ts=>aC4 ts fun o ts=>pN ts fun id ts=>pN ts fun k ts=>Wr ts fun sl ts=>pL Wq ts fun ob ts=>K (.l f p pre df o id k sl ob) ts]
noncomputable def dT (D A:Nat) (l:List Char):T:=Zz.casesOn (motive:=fun _=>T) (pT 9999 (Gq D A l 0) fun x _=> .t x) .no (fun x=>x) (fun _=> .no) (fun _=> .no) (fun _=> .no) (fun _=> .no) (fun _=> .no) fun _=> .no
noncomputable def dG (D A:Nat) (l:List Char):Zg:=Zz.casesOn (motive:=fun _=>Zg) (aD0 (Gq D A l 0) fun x _=> .g x) (.c 0 [] [] [] []) (fun _=> .c 0 [] [] [] []) (fun _=> .c 0 [] [] [] []) (fun _=> .c 0 [] [] [] []) (fun _=> .c 0 [] [] [] []) (fun x=>x) (fun _=> .c 0 [] [] [] []) fun _=> .c 0 [] [] [] []
noncomputable def dK (D A:Nat) (l:List Char):List (Nat×Nat×List Nat):=Zz.casesOn (motive:=fun _=>List (Nat×Nat×List Nat)) (pL (pP pN (pP pN (pL pN))) (Gq D A l 0) fun x _=> .k x) [] (fun _=>[]) (fun _=>[]) (fun _=>[]) (fun _=>[]) (fun _=>[]) (fun x=>x) fun _=>[]
noncomputable def dM (D A:Nat) (l:List Char):List (Nat×List (Nat×Nat×Nat)):=Zz.casesOn (motive:=fun _=>List (Nat×List (Nat×Nat×Nat))) (pL (pP pN (pL (pP pN (pP pN pN)))) (Gq D A l 0) fun x _=> .m x) [] (fun _=>[]) (fun _=>[]) (fun _=>[]) (fun _=>[]) (fun _=>[]) (fun _=>[]) fun x=>x
noncomputable def aE2 (c:Z6) (d:Nat→Zg) (n:Nat):Nat→Sg:=Nat.rec (motive:=fun _=>Nat→Sg) (fun _=>⟨fun _=> .call 0 ⟨[],[]⟩ [],[],⟨[],[]⟩⟩) (fun _ ih f=>Zg.casesOn (motive:=fun _=>Sg) (d f) (fun f sl ob re ro=>cS f sl ob re ro) (fun f p pre df o id k sl ob=>lS f (ih p) pre df o id (H9 o (Hl c f k) (Hf c f k)) sl ob)) n
def QR (C:Z6)(sg:Nat→Sg)(pg:Nat→T):Nat→Nat→Prop
 |0,_=>True
 |n+1,f=>jY C sg f (pg f)∧QR C sg pg n (f+1)
theorem wD {C:Z6}{sg:Nat→Sg}{pg:Nat→T}{n f:Nat}(h:jY C sg f (pg f))(k:QR C sg pg n (f+1)):QR C sg pg (n+1) f:=⟨h,k⟩
theorem N7 {C:Z6}{sg:Nat→Sg}{pg:Nat→T}:∀ {n a f:Nat},QR C sg pg n a→a≤f→f<a+n→jY C sg f (pg f)
 |0,a,f,_,h1,h2=>by omega
 |n+1,a,f,h,h1,h2=>by
  by_cases e:f=a
  ·subst e;exact h.1
  ·exact N7 h.2 (by omega) (by omega)
abbrev Td:=List (Nat×Option (List D→Option (List D)))
noncomputable def bO (p:Option (List D→Option (List D))):Bd:=Option.casesOn (motive:=fun _=>Bd) p .n .o
noncomputable def Vk (N:Nat) (pg:Nat→T) (f:Nat):Td→Bd:=fun l=>List.rec (motive:=fun _=>Bd) (H9 (Nat.blt f N) (.p (pg f)) .n) (fun p _ ih=>H9 (Nat.beq f p.1) (bO p.2) ih) l
theorem TX {C:Z6}{sg:Nat→Sg}{pg:Nat→T}{N f:Nat}:∀ {l:Td},(∀ p∈l,SU C sg p.1 (bO p.2))→(f<N→(∀ p∈l,f≠p.1)→jY C sg f (pg f))→SU C sg f (Vk N pg f l)
 |[],_,h=>by
  show SU C sg f (H9 (Nat.blt f N) (.p (pg f)) .n)
  cases hb:Nat.blt f N with
  |true=>exact h (B3 hb) fun p hp=>by cases hp
  |false=>exact trivial
 |(k,g)::l,h1,h=>by
  show SU C sg f (H9 (Nat.beq f k) (bO g) (Vk N pg f l))
  cases hb:Nat.beq f k with
  |true=>rw [P3 hb];exact h1 _ (B8 ..)
  |false=>
   refine TX (fun p hp=>h1 p (C0 _ hp)) fun hn hl=>h hn fun p hp=>?_
   rcases B7.1 hp with rfl|hp
   ·intro e;rw [show f=k from e,Nat.beq_refl] at hb;cases hb
   ·exact hl p hp
theorem EE {C:Z6}{sg:Nat→AE.Sg}{f k:Nat}{sl:List (Nat×SV)}{ob:List eQ}{re:List (Nat×SV)}{ro:List eQ}{g:List D→Option (List D)}(hs:sg f=cS k sl ob re ro)(hg:∀ xs,C.orc k ⟨sl,ob⟩ xs=g xs):SU C sg f (.o g):=by
 intro xs r h n
 show run C (n+1) ((sg f).tk xs)=some (true,r)
 rw [hs]
 show (match C.orc k ⟨sl,ob⟩ xs with|some r=>some (true,r)|none=>_)=_
 rw [hg,h]
noncomputable def Va:Ps L:=fun ts K=>pI ts fun c ts=>pN ts fun n ts=>Nat.rec (motive:=fun _=>List Nat→(L→List Nat→Zz)→Zz) (fun ts K=>K (.c c) ts) (fun _ ih ts K=>pN ts fun a ts=>pI ts fun k ts=>ih ts fun r ts=>K (.m a k r) ts) n ts K
noncomputable def aC7:Ps Rf:=alt 1528 [fun ts K=>pN ts fun n ts=>K (.a n) ts,fun ts K=>pL pU ts fun l ts=>K (.s l) ts]
noncomputable def Zo:Ps Lt:=fun ts K=>pN ts fun n ts=>pL aC7 ts fun a ts=>pL Va ts fun e ts=>K (.mk n a e) ts
noncomputable def tF:List (Ps Fm→Ps Fm):=[fun _=>cZ .t,fun _=>cZ .f,fun _ ts K=>Va ts fun e ts=>K (.ge e) ts,fun _ ts K=>pN ts fun a ts=>K (.b a) ts,fun _ ts K=>pN ts fun a ts=>K (.nb a) ts,fun _ ts K=>pN ts fun a ts=>pL pU ts fun s ts=>K (.q a s) ts,fun _ ts K=>pN ts fun a ts=>pL pU ts fun s ts=>K (.nq a s) ts,fun _ ts K=>pN ts fun a ts=>K (.n a) ts,fun _ ts K=>pN ts fun a ts=>K (.nn a) ts,fun f ts K=>f ts fun x ts=>f ts fun y ts=>K (.an x y) ts,fun f ts K=>f ts fun x ts=>f ts fun y ts=>K (.or x y) ts,fun _ ts K=>Zo ts fun x ts=>K (.p x) ts,fun _ ts K=>Zo ts fun x ts=>K (.np x) ts]
noncomputable def pF (f:Nat):Ps Fm:=Nat.rec (motive:=fun _=>Ps Fm) (cZ .t) (fun _ f ts K=>one ts fun k ts=>Y3 (Nat.sub k 1500) fun k=>L3 (fun _=>cZ .t) tF k f ts K) f
noncomputable def Wo:Ps (List Fm):=pL (pF 99)
noncomputable def Wp:Ps (List L):=pL Va
noncomputable def pK:Ps K:=alt 1520 [fun ts K=>Ns ts fun k ts=>K (.i k) ts,cZ .b,cZ .s,cZ .u,fun ts K=>pN ts fun a ts=>pN ts fun b ts=>Wp ts fun l ts=>K (.l a b l) ts,fun ts K=>pN ts fun a ts=>pN ts fun b ts=>Wp ts fun l ts=>K (.r a b l) ts]
noncomputable def aC9:Ps TL:=fun ts K=>one ts fun t r=>H9 (Nat.beq t 1527) (pN r fun a r=>K (.e a) r) (pK ts fun k ts=>K (.k k) ts)
noncomputable def aC5:Ps Cl:=fun ts K=>pN ts fun a ts=>pN ts fun b ts=>Wp ts fun l ts=>K (.mk a b l) ts
noncomputable def Ws:Ps Tp:=fun ts K=>pL pN ts fun sh ts=>pL aC9 ts fun tl ts=>pL aC5 ts fun cl ts=>Wo ts fun fm ts=>K (.mk sh tl cl fm) ts
noncomputable def Wn:Ps fX:=fun ts K=>pN ts fun ng ts=>Ws ts fun ar ts=>Ws ts fun re ts=>pL Ws ts fun er ts=>pN ts fun b ts=>pN ts fun lv ts=>Va ts fun me ts=>K (.mk ng ar re er (Nat.beq b 1) lv me) ts
noncomputable def aC6:Ps Pd:=alt 1530 [fun ts K=>pN ts fun n ts=>pK ts fun k ts=>Wo ts fun f ts=>K (.sc n k f) ts,fun ts K=>pN ts fun n ts=>pL pK ts fun k ts=>Wo ts fun f ts=>K (.st n k f) ts]
noncomputable def aC8:Ps Rl:=fun ts K=>pN ts fun a ts=>pN ts fun b ts=>pF 99 ts fun f ts=>K (.mk a b f) ts
noncomputable def dC (D A:Nat) (l:List Char) (d:fX):fX:=Zz.casesOn (motive:=fun _=>fX) (Wn (Gq D A l 0) fun x _=> .c x) d (fun _=>d) (fun x=>x) (fun _=>d) (fun _=>d) (fun _=>d) (fun _=>d) fun _=>d
noncomputable def dP (D A:Nat) (l:List Char):List Pd:=Zz.casesOn (motive:=fun _=>List Pd) (pL aC6 (Gq D A l 0) fun x _=> .p x) [] (fun _=>[]) (fun _=>[]) (fun x=>x) (fun _=>[]) (fun _=>[]) (fun _=>[]) fun _=>[]
noncomputable def dR (D A:Nat) (l:List Char):List Rl:=Zz.casesOn (motive:=fun _=>List Rl) (pL aC8 (Gq D A l 0) fun x _=> .r x) [] (fun _=>[]) (fun _=>[]) (fun _=>[]) (fun x=>x) (fun _=>[]) (fun _=>[]) fun _=>[]
noncomputable def dN (D A:Nat) (l:List Char):Nat:=List.rec (motive:=fun _=>Nat→Nat) (fun n=>n) (fun t _ ih n=>Y3 (Nat.add t (Nat.mul 32 n)) fun n=>ih n) (Gq D A l 0) 0
end Go.AE.Dc
