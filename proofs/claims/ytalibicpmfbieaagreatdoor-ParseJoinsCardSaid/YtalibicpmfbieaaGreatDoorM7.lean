import Derived.Test.YtalibicpmfbieaaGreatDoorM6
namespace Go.Proofs.YtalibicpmfbieaaGreatDoor
open Go.AE
set_option linter.all false
theorem OJ {sub:G1}:∀ (s:G1) (j:Nat),0≤bV sub s j→∀ c∈sub,c∈s
 |[],j,h=>by
  unfold bV at h
  cases sub with
  |nil=>intro c hc;simp at hc
  |cons _ _=>simp at h
 |b::l,j,h=>by
  unfold bV at h
  cases hp:sub.isPrefixOf (b::l) with
  |true=>intro c hc;exact (List.isPrefixOf_iff_prefix.1 hp).subset hc
  |false=>
   rw [hp] at h
   intro c hc
   exact C0 _ (OJ l (j+1) h c hc)
def ZH:G1:=[32,60,60,60,32,62,62,62,32,60,60,32,62,62,32,60,61,32,62,61,32,61,61,32,33,61,32,38,38,32,124,124,32,126,38,32,126,124,32,126,94,32,94,126,32]
def gO (t:G1):Bool:=!decide (0≤bV [32] t 0)&&decide (0≤bV ([32]++t++[32]) ZH 0)
theorem XY:∀ (s:G1) (j:Nat),(32:UInt8)∈s→0≤bV [32] s j
 |[],_,h=>by simp at h
 |b::l,j,h=>by
  unfold bV
  cases hp:[(32:UInt8)].isPrefixOf (b::l) with
  |true=>exact Int.natCast_nonneg _
  |false=>
   rcases B7.1 h with rfl|h
   ·simp at hp
   ·exact XY l (j+1) h
theorem tU {t:G1}{b:UInt8}(hb:b∈t)(h:bI b=true):gO t=false:=by
 unfold gO
 rcases gZ h with rfl|rfl|rfl|rfl
 ·rw [E6 (XY t 0 hb)];rfl
 all_goals
  cases hd:decide (0≤bV ([32]++t++[32]) ZH 0) with
  |false=>simp
  |true=>
   have:=OJ ZH 0 (E7 hd) _ (B5 _ (B4 _ hb))
   simp [ZH] at this
def AQ (b:UInt8):Bool:=decide (gT b [43,45,42,47,37,38,124,94,126,33,60,62,63,58,61,40,41,91,93,123,125,59,44,46,35,64] 0≥0)
def aM (s:G1):Nat→Nat
 |0=>0
 |1=>0
 |j+2=>bif gO (s.take (j+2)) then j+2 else aM s (j+1)
def kH (s:G1):Nat:=match aM s (min 3 s.length) with
 |0=>bif AQ (s.headD 0) then 1 else 0
 |k+1=>k+1
theorem KZ {s:G1}(hs:s.length≤1048576):∀ (j:Nat),j≤s.length→U (fun n=>eX n (.str s) (j:Int)) fun r=>(aM s j≠0∧r=(true,[.int .i64 (aM s j:Int)]))∨(aM s j=0∧∃ j',r=(false,[.str s,.int .i64 j']))
 |0,_=>U.eq (fun n=>lO n _ _) (U.no rfl (U.ret (.inr ⟨rfl,_,rfl⟩)))
 |1,_=>U.eq (fun n=>lO n _ _) (U.no rfl (U.ret (.inr ⟨rfl,_,rfl⟩)))
 |j+2,hj=>by
  have ih:=KZ hs (j+1) (by omega)
  have hw:IntKind.i64.wrap (((j+2:Nat):Int)-1)=((j+1:Nat):Int):=by rw [Q3 (by omega) (by omega)];omega
  have hc:(true&&decide ((0:Int)≤((j+2:Nat):Int))&&decide (((j+2:Nat):Int)≤(s.length:Int)))=true:=K3 (K3 rfl (E6 (by omega))) (E6 (by omega))
  have ht:(s.drop 0).take (((j+2:Nat):Int).toNat-0)=s.take (j+2):=by rw [List.drop_zero,E1,Nat.sub_zero]
  have hl:(s.take (j+2)).length≤1048576:=by rw [D7];omega
  refine U.eq (fun n=>lO n _ _) (U.I0 (E6 (by omega)) ?_)
  rw [ht,hw]
  refine U.I0 hc (U.H6 (jK (by omega) _) ?_)
  intro _ _ h;cases h
  refine⟨rfl,U.I0 rfl ?_⟩
  unfold aM gO
  cases h1:decide (0≤bV [32] (s.take (j+2)) 0) with
  |true=>exact U.no rfl ih
  |false=>
   refine U.I0 rfl (U.I0 hc (U.I0 (E6 (by simp only [W0];omega)) (U.I0 (E6 (by simp [W0];omega)) (U.H6 (jK (by simp) _) ?_))))
   intro _ _ h;cases h
   refine⟨rfl,U.I0 rfl ?_⟩
   cases h2:decide (0≤bV ([32]++s.take (j+2)++[32]) ZH 0) with
   |true=>exact U.I0 h2 (U.ret (.inl ⟨by simp,rfl⟩))
   |false=>exact U.no h2 ih
theorem Rz {s:G1}(hs:s.length≤1048576)(h0:0<s.length):U (fun n=>oO n (.str s)) fun r=>r=(true,[.int .i64 (kH s:Int)]):=by
 refine U.eq (fun n=>KP n s) ?_
 have hm:min (3:Int) (s.length:Int)=((min 3 s.length:Nat):Int):=by omega
 rw [hm]
 unfold kH
 refine U.L3 (KZ hs (min 3 s.length) (by omega)) (fun ds h=>?_) fun ds h=>?_
 ·rcases h with ⟨h1,h2⟩|⟨_,_,h⟩
  ·cases hd:aM s (min 3 s.length) with
   |zero=>exact absurd hd h1
   |succ k=>rw [hd] at h2;exact h2
  ·cases h
 ·rcases h with ⟨_,h⟩|⟨h1,_,h⟩
  ·cases h
  ·cases h
   rw [h1]
   cases s with
   |nil=>simp at h0
   |cons b s=>
    refine U.I0 rfl (U.I0 (K3 rfl (E6 (by show (0:Int)<((b::s).length:Int);omega))) (U.H6 (rV _ _) ?_))
    show ∀ x ds,_=(true,[D.int .i64 (gT ((b.toNat:Int)).toNat.toUInt8 _ 0)])→_
    rw [byte_back]
    intro _ _ h;cases h
    refine⟨rfl,U.I0 rfl ?_⟩
    cases h2:AQ b with
    |true=>exact U.I0 h2 (U.ret (by simp [h2]))
    |false=>exact U.no h2 (U.ret (by simp [h2]))
theorem xO (s:G1):∀ j,aM s j≠1∧aM s j≤j
 |0=>⟨by simp [aM],by simp [aM]⟩
 |1=>⟨by simp [aM],by simp [aM]⟩
 |j+2=>by
  have ih:=xO s (j+1)
  unfold aM
  cases gO (s.take (j+2)) with
  |true=>exact⟨by simp,by simp⟩
  |false=>exact⟨ih.1,by have:=ih.2;show aM s (j+1)≤j+2;omega⟩
theorem TN {a:UInt8}{r0 r:G1}(h:kH (a::r0)=1)(hr:Pc r):kH (a::r)=1:=by
 have h1:AQ a=true:=by
  unfold kH at h
  have:=xO (a::r0) (min 3 (a::r0).length)
  cases hd:aM (a::r0) (min 3 (a::r0).length) with
  |zero=>
   rw [hd] at h
   cases ho:AQ a with
   |true=>rfl
   |false=>simp [ho] at h
  |succ k=>
   rw [hd] at h this
   have h:k+1=1:=h
   exact absurd h this.1
 have hd:aM (a::r) (min 3 (a::r).length)=0:=by
  cases r with
  |nil=>rfl
  |cons x r=>
   have hx:=hr x r rfl
   have e2:gO [a,x]=false:=tU (b:=x) (by simp) hx
   cases r with
   |nil=>
    show (bif gO [a,x] then 2 else 0)=0
    rw [e2];rfl
   |cons y r=>
    have e3:gO [a,x,y]=false:=tU (b:=x) (by simp) hx
    have:min 3 (a::x::y::r).length=3:=by simp only [A0];omega
    rw [this]
    show (bif gO [a,x,y] then 3 else (bif gO [a,x] then 2 else 0))=0
    rw [e3,e2];rfl
 unfold kH
 rw [hd]
 simp [h1]
theorem TO {a b:UInt8}{r0 r:G1}(h:kH (a::b::r0)=2)(hr:Pc r):kH (a::b::r)=2:=by
 have hl:gO [a,b]=true:=by
  cases ho:gO [a,b] with
  |true=>rfl
  |false=>
   exfalso
   unfold kH at h
   cases r0 with
   |nil=>
    have e:aM [a,b] (min 3 [a,b].length)=0:=by
     show (bif gO [a,b] then 2 else 0)=0
     rw [ho];rfl
    rw [e] at h
    have h:(bif AQ a then 1 else 0)=2:=h
    revert h;cases AQ a<;>decide
   |cons c r0=>
    have hm:min 3 (a::b::c::r0).length=3:=by simp only [A0];omega
    have e:aM (a::b::c::r0) 3=(bif gO [a,b,c] then 3 else (bif gO [a,b] then 2 else 0)):=rfl
    rw [hm,e,ho] at h
    cases h3:gO [a,b,c] with
    |true=>rw [h3] at h;exact absurd (show 3=2 from h) (by decide)
    |false=>
     rw [h3] at h
     have h:(bif AQ a then 1 else 0)=2:=h
     revert h;cases AQ a<;>decide
 unfold kH
 cases r with
 |nil=>
  have e:aM [a,b] (min 3 [a,b].length)=2:=by
   show (bif gO [a,b] then 2 else 0)=2
   rw [hl];rfl
  rw [e]
 |cons x r=>
  have hm:min 3 (a::b::x::r).length=3:=by simp only [A0];omega
  have e:aM (a::b::x::r) 3=(bif gO [a,b,x] then 3 else (bif gO [a,b] then 2 else 0)):=rfl
  rw [hm,e,hl,tU (t:=[a,b,x]) (b:=x) (by simp) (hr x r rfl)]
  rfl
theorem LA {a b c:UInt8}{r0 r:G1}(h:kH (a::b::c::r0)=3):kH (a::b::c::r)=3:=by
 have hm:∀ t:G1,min 3 (a::b::c::t).length=3:=fun t=>by simp only [A0];omega
 have e:∀ t:G1,aM (a::b::c::t) 3=(bif gO [a,b,c] then 3 else (bif gO [a,b] then 2 else 0)):=fun _=>rfl
 unfold kH at h ⊢
 rw [hm,e] at h ⊢
 exact h
def YU (c:UInt8):Bool:=bif LP c then true else ((c.toNat:Int)==36)
def Lt (c:UInt8):Bool:=bif IQ c then true else ((c.toNat:Int)==39)
def ZP (s:G1)(n:Nat):List D:=bif decide ((n:Int)>40) then [.int .i64 0,.int .i64 0,.int .i64 9] else (bif s.take n==[36] then [.int .i64 0,.int .i64 0,.int .i64 9] else [.int .i64 1,.int .i64 (n:Int),.int .i64 0])
theorem UN (c:UInt8)(t:G1):(true&&decide ((0:Int)<((c::t).length:Int)))=true:=K3 rfl (E6 (by simp only [A0];omega))
theorem TR {c:UInt8}{t:G1}(hs:(c::t).length≤1048576)(hc:YU c=true):U (fun n=>gN n (.str (c::t))) fun r=>r=(true,ZP (c::t) (1+Y2 p2 t)):=by
 have hle:=tH p2 t
 have htl:t.length≤1048576:=by simp only [A0] at hs;omega
 have hd:((c::t).drop 1).take (((c::t).length:Int).toNat-1)=t:=by
  show t.take _=t
  rw [List.take_of_length_le (by simp only [A0];omega)]
 have name:U (fun n=>bif (true&&decide ((1:Int)≤((c::t).length:Int))&&decide (((c::t).length:Int)≤((c::t).length:Int))) then (AE.H6 (cH n (.str (((c::t).drop 1).take (((c::t).length:Int).toNat-1)))) fun r2=>bif J3 cH.I6 r2 then (bif (decide ((IntKind.i64.wrap ((1:Int)+(Y r2 0).i))>(40:Int))) then (some (true,[(0:Int),(0:Int),(9:Int)])) else (bif (true&&decide ((0:Int)≤(IntKind.i64.wrap ((1:Int)+(Y r2 0).i)))&&decide ((IntKind.i64.wrap ((1:Int)+(Y r2 0).i))≤((c::t).length:Int))) then (bif ((((c::t).drop 0).take ((IntKind.i64.wrap ((1:Int)+(Y r2 0).i)).toNat-0))==([36]:G1)) then (some (true,[(0:Int),(0:Int),(9:Int)])) else (some (true,[(1:Int),(.int .i64 (IntKind.i64.wrap ((1:Int)+(Y r2 0).i))),(0:Int)]))) else none)) else none) else none) fun r=>r=(true,ZP (c::t) (1+Y2 p2 t)):=by
  rw [hd]
  refine U.I0 (HT (by simp)) (U.H6 (Ip htl) ?_)
  intro _ _ h;cases h
  have hw:IntKind.i64.wrap ((1:Int)+((Y2 p2 t:Nat):Int))=((1+Y2 p2 t:Nat):Int):=by rw [Q3 (by omega) (by omega)];omega
  simp only [Y,D.i,List.getD_cons_zero,hw,E1,List.drop_zero,Nat.sub_zero]
  refine⟨trivial,U.I0 rfl ?_⟩
  unfold ZP
  cases h1:decide (((1+Y2 p2 t:Nat):Int)>40) with
  |true=>exact U.I0 rfl (U.ret rfl)
  |false=>
   refine U.no rfl (U.I0 (K3 (K3 rfl (E6 (by omega))) (E6 (by simp only [A0];omega))) ?_)
   cases h2:(c::t).take (1+Y2 p2 t)==[36] with
   |true=>exact U.I0 rfl (U.ret rfl)
   |false=>exact U.no rfl (U.ret rfl)
 refine U.eq (fun n=>tT n (c::t)) (U.I0 (UN c t) (U.H6 (HC c) ?_))
 intro _ _ h;cases h
 refine⟨rfl,U.I0 rfl (U.N9 (fun _=>name) fun h1=>U.N9 (fun _=>name) fun h2=>?_)⟩
 exfalso
 have h1:LP c=false:=h1
 have h2:((c.toNat:Int)==36)=false:=h2
 unfold YU at hc
 rw [h1,h2] at hc
 cases hc
theorem Ay {c:UInt8}{t:G1}(hs:(c::t).length≤1048576)(hc:YU c=false)(hn:Lt c=true)(hle:wT (c::t)≤(c::t).length){x:D}{e:Int}(hp:U (fun n=>dZ n (.str ((c::t).take (wT (c::t))))) fun r=>r=(true,[x,.int .i64 e]))(hx:∃ w ws b1 b2,x = .agg [.int .i64 w,.Z 1 ws,.bool b1,.bool b2]) :
  U (fun n=>gN n (.str (c::t))) fun r=>r=(true,bif (e !=0) then [.int .i64 0,.int .i64 0,.int .i64 7] else [.int .i64 2,.int .i64 (wT (c::t):Int),.int .i64 0]):=by
 obtain⟨w,ws,b1,b2,rfl⟩:=hx
 have num:U (fun n=>AE.H6 (cX n (.str (c::t))) fun r3=>bif J3 cX.I6 r3 then (bif (true&&decide ((0:Int)≤(Y r3 0).i)&&decide ((Y r3 0).i≤((c::t).length:Int))) then (AE.H6 (dZ n (.str (((c::t).drop 0).take ((Y r3 0).i.toNat-0)))) fun r4=>bif J3 dZ.I6 r4 then (bif ((Y r4 1).i !=(0:Int)) then (some (true,[(0:Int),(0:Int),(7:Int)])) else (some (true,[(2:Int),(.int .i64 (Y r3 0).i),(0:Int)]))) else none) else none) else none) fun r=>r=(true,bif (e !=0) then [.int .i64 0,.int .i64 0,.int .i64 7] else [.int .i64 2,.int .i64 (wT (c::t):Int),.int .i64 0]):=by
  refine U.H6 (Ib hs) ?_
  generalize wT (c::t)=k at hp hle
  intro _ _ h;cases h
  simp only [Y,D.i,List.getD_cons_zero,E1,List.drop_zero,Nat.sub_zero]
  refine⟨trivial,U.I0 rfl (U.I0 (K3 (K3 rfl (E6 (by omega))) (E6 (by omega))) (U.H6 hp ?_))⟩
  intro _ _ h;cases h
  refine⟨rfl,U.I0 rfl ?_⟩
  cases he:e !=0 with
  |true=>exact U.I0 he (U.ret rfl)
  |false=>exact U.no he (U.ret rfl)
 unfold YU at hc
 have h1:LP c=false:=by cases h:LP c with|false=>rfl|true=>rw [h] at hc;cases hc
 have h2:((c.toNat:Int)==36)=false:=by rw [h1] at hc;exact hc
 refine U.eq (fun n=>tT n (c::t)) (U.I0 (UN c t) (U.H6 (HC c) ?_))
 intro _ _ h;cases h
 refine⟨rfl,U.I0 rfl (U.no h1 (U.no h2 (U.H6 (GF c) ?_)))⟩
 intro _ _ h;cases h
 refine⟨rfl,U.I0 rfl (U.N9 (fun _=>num) fun h3=>U.N9 (fun _=>num) fun h4=>?_)⟩
 exfalso
 have h3:IQ c=false:=h3
 have h4:((c.toNat:Int)==39)=false:=h4
 unfold Lt at hn
 rw [h3,h4] at hn
 cases hn
theorem TS {c:UInt8}{t:G1}(hs:(c::t).length≤1048576)(hc:YU c=false)(hn:Lt c=false) :
  U (fun n=>gN n (.str (c::t))) fun r=>r=(true,bif ((kH (c::t):Int)==0) then [.int .i64 0,.int .i64 0,.int .i64 7] else [.int .i64 3,.int .i64 (kH (c::t):Int),.int .i64 0]):=by
 unfold YU at hc
 have h1:LP c=false:=by cases h:LP c with|false=>rfl|true=>rw [h] at hc;cases hc
 have h2:((c.toNat:Int)==36)=false:=by rw [h1] at hc;exact hc
 unfold Lt at hn
 have h3:IQ c=false:=by cases h:IQ c with|false=>rfl|true=>rw [h] at hn;cases hn
 have h4:((c.toNat:Int)==39)=false:=by rw [h3] at hn;exact hn
 refine U.eq (fun n=>tT n (c::t)) (U.I0 (UN c t) (U.H6 (HC c) ?_))
 intro _ _ h;cases h
 refine⟨rfl,U.I0 rfl (U.no h1 (U.no h2 (U.H6 (GF c) ?_)))⟩
 intro _ _ h;cases h
 refine⟨rfl,U.I0 rfl (U.no h3 (U.no h4 (U.H6 (Rz hs (by simp)) ?_)))⟩
 intro _ _ h;cases h
 refine⟨rfl,U.I0 rfl ?_⟩
 cases h5:((kH (c::t):Int)==0) with
 |true=>exact U.I0 h5 (U.ret rfl)
 |false=>exact U.no h5 (U.ret rfl)
structure Wd (w:G1) (k:Int):Prop where
 ne:w≠[]
 nb:∀ b∈w,bI b=false
 go:∀ r,Pc r→(w++r).length≤1048576→U (fun n=>gN n (.str (w++r))) fun x=>x=(true,[.int .i64 k,.int .i64 (w.length:Int),.int .i64 0])
theorem TA {p:UInt8→Bool}(hp:∀ b,bI b=true→p b=false){b:UInt8}(h:p b=true):bI b=false:=by
 cases hb:bI b with
 |false=>rfl
 |true=>rw [hp b hb] at h;cases h
theorem xR (p:UInt8→Bool):∀ (t:G1),∀ b∈t.take (Y2 p t),p b=true
 |[]=>fun b hb=>by simp at hb
 |c::t=>by
  rw [fI]
  cases hc:p c with
  |false=>intro b hb;simp at hb
  |true=>
   intro b hb
   rcases B7.1 (show b∈c::t.take (Y2 p t) from hb) with rfl|hb
   ·exact hc
   ·exact xR p t b hb
theorem Kn (b:UInt8)(h:bI b=true):YU b=false:=by
 rcases gZ h with rfl|rfl|rfl|rfl<;>rfl
theorem Ps (b:UInt8)(h:bI b=true):((b.toNat:Int)==39)=false:=by
 rcases gZ h with rfl|rfl|rfl|rfl<;>rfl
theorem Gu (b:UInt8)(h:bI b=true):AQ b=false:=by
 rcases gZ h with rfl|rfl|rfl|rfl<;>rfl
theorem Fj (s:G1):wT s≤s.length:=by
 unfold wT
 have h1:=tH p3 s
 generalize Y2 p3 s=k at h1
 cases hd:s.drop k with
 |nil=>exact h1
 |cons b t=>
  have hl:t.length+1=s.length-k:=by have:=congrArg List.length hd;simpa using this.symm
  have h4:=tH p4 t
  cases hq:((b.toNat:Int)==39) with
  |false=>simp only [hq,cond_false];exact h1
  |true=>simp only [hq,cond_true];omega
theorem Qx (s:G1):∀ b∈s.take (wT s),bI b=false:=by
 have h0:∀ b∈s.take (Y2 p3 s),bI b=false:=fun b hb=>TA YA (xR p3 s b hb)
 unfold wT
 have h1:=tH p3 s
 generalize Y2 p3 s=k at h0 h1
 cases hd:s.drop k with
 |nil=>exact h0
 |cons b t=>
  cases hq:((b.toNat:Int)==39) with
  |false=>simp only [hq,cond_false];exact h0
  |true=>
   simp only [hq,cond_true]
   intro x hx
   rw [← List.take_append_drop k s,hd,List.take_append] at hx
   rcases D3.1 hx with hx|hx
   ·rw [List.take_of_length_le (by simp;omega)] at hx;exact h0 x hx
   ·rw [D7,Nat.min_eq_left h1,show k+(1+Y2 p4 t)-k=Y2 p4 t+1 by omega,List.take_succ_cons] at hx
    rcases B7.1 hx with rfl|hx
    ·exact TA (p:=fun b=>(b.toNat:Int)==39) Ps hq
    ·exact TA YB (xR p4 t x hx)
theorem U.agree {t:Nat→Out}{a b:Bool×List D}(h:U t fun r=>r=a)(h':U t fun r=>r=b):a=b:=by
 obtain⟨r,⟨h1,h2⟩,_⟩:=(h.same h').run
 exact h1.symm.trans h2
theorem Am {a:UInt8}{r0:G1}(h:kH (a::r0)=1):AQ a=true:=by
 have h:=TN (r:=[]) h (fun _ _ h=>by cases h)
 have e:kH [a]=(bif AQ a then 1 else 0):=rfl
 rw [e] at h
 cases ho:AQ a with
 |true=>rfl
 |false=>rw [ho] at h;cases h
theorem An {a b:UInt8}{r0:G1}(h:kH (a::b::r0)=2):gO [a,b]=true:=by
 have h:=TO (r:=[]) h (fun _ _ h=>by cases h)
 cases hl:gO [a,b] with
 |true=>rfl
 |false=>
  exfalso
  have e:aM [a,b] (min 3 [a,b].length)=0:=by
   show (bif gO [a,b] then 2 else 0)=0
   rw [hl];rfl
  unfold kH at h
  rw [e] at h
  have h:(bif AQ a then 1 else 0)=2:=h
  revert h;cases AQ a<;>decide
theorem RP {a b c:UInt8}{r0:G1}(h:kH (a::b::c::r0)=3):gO [a,b,c]=true:=by
 have h:=LA (r:=[]) h
 cases hl:gO [a,b,c] with
 |true=>rfl
 |false=>
  exfalso
  have e:aM [a,b,c] (min 3 [a,b,c].length)=(bif gO [a,b] then 2 else 0):=by
   show (bif gO [a,b,c] then 3 else (bif gO [a,b] then 2 else 0))=_
   rw [hl];rfl
  unfold kH at h
  rw [e] at h
  cases h2:gO [a,b] with
  |true=>rw [h2] at h;exact absurd (show 2=3 from h) (by decide)
  |false=>
   rw [h2] at h
   have h:(bif AQ a then 1 else 0)=3:=h
   revert h;cases AQ a<;>decide
theorem ZG {w:G1}(h:gO w=true):∀ b∈w,bI b=false:=fun b hb=>by
 cases hx:bI b with
 |false=>rfl
 |true=>rw [tU hb hx] at h;cases h
theorem Az {c:UInt8}{t:G1}(hs:(c::t).length≤1048576){k:Int}{m:Nat}(h:U (fun n=>gN n (.str (c::t))) fun r=>r=(true,[.int .i64 k,.int .i64 (m:Int),.int .i64 0])) :
  1≤m∧m≤(c::t).length∧Wd ((c::t).take m) k:=by
 have hm:1≤m∧m≤(c::t).length:=by
  obtain⟨r,⟨h1,k',m',e',h2,h3,h4⟩,_⟩:=(h.same (Se hs (by simp))).run
  rw [h1] at h2
  simp only [C7,List.cons.injEq,D.int.injEq,true_and,and_true,Int.natCast_inj] at h2
  obtain⟨_,rfl,rfl⟩:=h2
  exact⟨h4 rfl,h3⟩
 refine⟨hm.1,hm.2,?_⟩
 obtain⟨hm1,hm2⟩:=hm
 cases hc:YU c with
 |true=>
  have ha:=U.agree h (TR hs hc)
  unfold ZP at ha
  have hq:=xR p2 t
  have hql:=tH p2 t
  generalize Y2 p2 t=q at ha hq hql
  cases h1:decide (((1+q:Nat):Int)>40) with
  |true=>rw [h1] at ha;simp at ha
  |false=>
   rw [h1] at ha
   cases h2:(c::t).take (1+q)==[36] with
   |true=>rw [h2] at ha;simp at ha
   |false=>
    rw [h2] at ha
    simp only [cond_false,C7,List.cons.injEq,D.int.injEq,true_and,and_true,Int.natCast_inj] at ha
    obtain⟨rfl,rfl⟩:=ha
    have e:(c::t).take (1+q)=c::t.take q:=by rw [Nat.add_comm,List.take_succ_cons]
    rw [e] at h2 ⊢
    have hl:(t.take q).length=q:=by rw [D7];omega
    refine⟨by simp,fun b hb=>?_,fun r hr hb=>?_⟩
    ·rcases B7.1 hb with rfl|hb
     ·exact TA Kn hc
     ·exact TA XZ (hq b hb)
    ·refine (TR (c:=c) (t:=t.take q++r) hb hc).mono fun x hx=>?_
     rw [hx,sD hq,Lk XZ hr,hl]
     unfold ZP
     have e2:(c::(t.take q++r)).take (1+(q+0))=c::t.take q:=by
      rw [Nat.add_zero,Nat.add_comm,List.take_succ_cons,List.take_append_of_le_length (by omega),List.take_of_length_le (by omega)]
     rw [e2,h2,Nat.add_zero,h1]
     simp only [cond_false,A0,hl,Nat.add_comm]
 |false=>
  obtain⟨w,hw⟩:∃ w,(c::t).take m=c::w:=⟨t.take (m-1),by cases m with|zero=>omega|succ m=>rfl⟩
  have hwl:(c::w).length=m:=by rw [← hw,D7];omega
  have happ:(c::w)++(c::t).drop m=c::t:=by rw [← hw,List.take_append_drop]
  rw [hw]
  cases hn:Lt c with
  |true=>
   have hle:=Fj (c::t)
   obtain⟨r,hr,hp⟩:=Xx (Ae (s:=(c::t).take (wT (c::t))) (by rw [D7];omega))
   obtain⟨w',ws,b1,b2,e,rfl,_⟩:=hr
   have ha:=U.agree h (Ay hs hc hn hle hp ⟨w',ws,b1,b2,rfl⟩)
   cases he:e !=0 with
   |true=>rw [he] at ha;simp at ha
   |false=>
    rw [he] at ha
    simp only [cond_false,C7,List.cons.injEq,D.int.injEq,true_and,and_true,Int.natCast_inj] at ha
    obtain⟨rfl,hmn⟩:=ha
    rw [← hmn,hw] at hp
    refine⟨by simp,fun b hb=>Qx (c::t) b (by rw [← hmn,hw];exact hb),fun r hr hb=>?_⟩
    have hs2:wT (c::w++r)=(c::w).length:=ZU (r0:=(c::t).drop m) (by rw [happ,← hmn,hwl]) hr
    have hs2:wT (c::(w++r))=(c::w).length:=hs2
    have htk:(c::(w++r)).take (c::w).length=c::w:=List.take_left (l₁:=c::w)
    refine (Ay (c:=c) (t:=w++r) hb hc hn (Fj _) (by rw [hs2,htk];exact hp) ⟨w',ws,b1,b2,rfl⟩).mono fun x hx=>?_
    rw [hx,he,hs2];rfl
  |false=>
   have ha:=U.agree h (TS hs hc hn)
   cases he:((kH (c::t):Int)==0) with
   |true=>rw [he] at ha;simp at ha
   |false=>
    rw [he] at ha
    simp only [cond_false,C7,List.cons.injEq,D.int.injEq,true_and,and_true,Int.natCast_inj] at ha
    obtain⟨rfl,hmn⟩:=ha
    have h3:m≤3:=by
     have h1:=xO (c::t) (min 3 (c::t).length)
     rw [hmn]
     unfold kH
     cases hd:aM (c::t) (min 3 (c::t).length) with
     |zero=>cases AQ ((c::t).headD 0)<;>simp
     |succ k=>rw [hd] at h1;simp only;omega
    rw [← happ] at hmn
    generalize (c::t).drop m=r0 at hmn
    have key:(∀ b∈c::w,bI b=false)∧∀ r,Pc r→kH (c::(w++r))=m:=by
     cases w with
     |nil=>
      have:m=1:=hwl.symm
      subst this
      exact⟨fun b hb=>by rw [C3.1 hb];exact TA Gu (Am hmn.symm),fun r hr=>TN hmn.symm hr⟩
     |cons b w=>
      cases w with
      |nil=>
       have:m=2:=hwl.symm
       subst this
       exact⟨ZG (An hmn.symm),fun r hr=>TO hmn.symm hr⟩
      |cons d w=>
       cases w with
       |nil=>
        have:m=3:=hwl.symm
        subst this
        exact⟨ZG (RP hmn.symm),fun r hr=>LA hmn.symm⟩
       |cons _ _=>simp only [A0] at hwl;omega
    refine⟨by simp,key.1,fun r hr hb=>?_⟩
    refine (TS (c:=c) (t:=w++r) hb hc hn).mono fun x hx=>?_
    rw [hx,key.2 r hr,hwl]
    have:((m:Int)==0)=false:=by simp;omega
    rw [this];rfl
def Jb (k:Int)(w:G1)(a b c:Int):D:= .agg [.int .i64 k,.str w,.int .i64 a,.int .i64 b,.int .i64 c]
def RV (ts:List D):Prop:=∀ y∈ts,∃ (k:Int) (w:G1) (a b c:Int),y=Jb k w a b c∧Wd w k
theorem RV.append {a b:List D}(ha:RV a)(hb:RV b):RV (a++b):=fun y hy=>(D3.1 hy).elim (ha y) (hb y)
theorem RV.nil:RV []:=fun y hy=>by simp at hy
def XC (a b c e:Int)(all:List D):Bool×List D:=(true,[.agg [.int .i64 a,.int .i64 b,.int .i64 c],.int .i64 e,.Z 5 all])
inductive Jj:Int×Int→G1→List D→Prop
 |nil {p}:Jj p [] []
 |cons {p k bl w rest ts}:(∀ b∈bl,bI b=true)→Wd w k→Pc rest→Jj (mv (mv p bl) w) rest ts→Jj p (bl++(w++rest)) (Jb k w 1 (mv p bl).1 (mv p bl).2::ts)
theorem Ny {w rest:G1}{k:Int}(h:Wd w k):Y2 bI (w++rest)=0:=by
 cases w with
 |nil=>exact absurd rfl h.ne
 |cons b w=>rw [List.cons_append,fI,h.nb b (B8 ..)];rfl
def words (ts:List D):List G1:=ts.map fun y=>(y.at_ 1).s
end Go.Proofs.YtalibicpmfbieaaGreatDoor
