import Derived.Test.YtalibicpmfbieaaGreatDoorM6
import Derived.Test.YtalibicpmfbieaaGreatDoorM7
import Derived.Test.YtalibicpmfbieaaGreatDoorM8
import Derived.Test.YtalibicpmfbieaaGreatDoorPaW
namespace Go.Proofs.YtalibicpmfbieaaGreatDoor
open Go.AE
open IntKind (i64 u64)
set_option linter.all false
def TI:G1→G1→List G1
 |cur,[]=>bif cur.isEmpty then [] else [cur]
 |cur,c::r=>bif c==32||c==10 then (bif cur.isEmpty then [] else [cur])++TI [] r else TI (cur++[c]) r
def WW {P:Bool×List D→Prop}{s pre cur rest:G1}{acc:List D}(d:s=pre++cur++rest)(hl:s.length≤68000000000)(f:acc.length≤pre.length) (K:∀ a,a=acc++(bif cur.isEmpty then [] else [cur]:List G1).map D.str→U (fun n=>T3 n (.str s) (.int .i64 (i64.wrap (((pre++cur).length:Int)+1))) (.int .i64 (i64.wrap (((pre++cur).length:Int)+1))) (.Z 1 a)) P) :U (fun n=>bif decide (((pre++cur).length:Int)>(pre.length:Int)) then
   (bif decide (0≤(pre.length:Int))&&decide ((pre.length:Int)≤((pre++cur).length:Int))&&decide (((pre++cur).length:Int)≤(s.length:Int)) then (bif Nat.ble (acc.length+1) L9 then T3 n (.str s) (.int .i64 (i64.wrap (((pre++cur).length:Int)+1))) (.int .i64 (i64.wrap (((pre++cur).length:Int)+1))) (.Z 1 (acc++[.str ((s.drop (pre.length:Int).toNat).take (((pre++cur).length:Int).toNat-(pre.length:Int).toNat))])) else none) else none)
   else T3 n (.str s) (.int .i64 (i64.wrap (((pre++cur).length:Int)+1))) (.int .i64 (i64.wrap (((pre++cur).length:Int)+1))) (.Z 1 acc)) P:=by
 have e:s.length=pre.length+cur.length+rest.length:=by rw [d];simp only [A7]
 have b:(pre++cur).length=pre.length+cur.length:=A7;refine K0 (fun h=>?_) fun h=>?_
 ·have h:=E7 h;have c:cur.isEmpty=false:=by
   cases cur with
   |nil=>simp at h
   |cons=>rfl
  refine I4 (by rw [aX8,aX8,aX8];rfl) (I4 (B2 (by simp only [L9];omega)) (K _ ?_));rw [c];have:(s.drop (pre.length:Int).toNat).take (((pre++cur).length:Int).toNat-(pre.length:Int).toNat)=cur:=by rw [E1,E1,b,Nat.add_sub_cancel_left,d,C1,List.drop_left,List.take_left]
  rw [this];rfl
 ·have h:=E9 h;have c:cur=[]:=E5.1 (by omega);subst c;exact K _ (by simp)
def aH2 {s:G1}(hl:s.length≤68000000000):∀ (rest pre cur:G1) (acc:List D),s=pre++cur++rest→acc.length≤pre.length→U (fun n=>T3 n (.str s) (pre.length:Int) ((pre++cur).length:Int) (.Z 1 acc)) fun r=>∃ a b,r=(false,[.str s,iD a,iD b,.Z 1 (acc++(TI cur rest).map D.str)]):=by
 intro rest
 induction rest with
 |nil=>
  intro pre cur acc f j;have e1:s.length=(pre++cur).length:=by rw [f];simp
  refine I5 (fun n=>pU n ..) (I4 aX8 (N8 aY0 (WW f hl j fun d g=>?_)));rw [P4];exact I5 (fun n=>pU n ..) (N8 aY0 (H8 ⟨_,_,by rw [g];rfl⟩))
 |cons c r ih=>
  intro pre cur acc f j;have e1:s.length=(pre++cur).length+(r.length+1):=by rw [f];simp only [A7,A0]
  have o:(pre++cur).length=pre.length+cur.length:=A7;have p:(s[((pre++cur).length:Int).toNat]?.getD 0:UInt8)=c:=by rw [E1,f,F5 (B9 _),Nat.sub_self];rfl
  have sep:∀ d,d=acc++(bif cur.isEmpty then [] else [cur]:List G1).map D.str→(c==32||c==10)=true→U (fun n=>T3 n (.str s) (.int .i64 (i64.wrap (((pre++cur).length:Int)+1))) (.int .i64 (i64.wrap (((pre++cur).length:Int)+1))) (.Z 1 d)) fun l=>∃ a b,l=(false,[.str s,iD a,iD b,.Z 1 (acc++(TI cur (c::r)).map D.str)]):=by intro d g m;rw [P4];have:=ih (pre++cur++[c]) [] d (by rw [f];simp) (by (rw [g,A7,A7];have:((bif cur.isEmpty then [] else [cur]:List G1).map D.str).length≤1:=by cases cur.isEmpty<;>simp);simp only [A0,A8];omega);rw [D5,show ((pre++cur++[c]).length:Int)=(((pre++cur).length+1:Nat):Int) from by rw [A7];rfl] at this;refine this.mono fun _ ⟨a,b,h⟩=>⟨a,b,?_⟩;rw [h,g];show _=(false,[D.str s,iD a,iD b,.Z 1 (acc++(bif c==32||c==10 then (bif cur.isEmpty then [] else [cur])++TI [] r else TI (cur++[c]) r).map D.str)]);rw [m,cond_true,List.map_append,C1]
  have i:(decide (0≤((pre++cur).length:Int))&&decide (((pre++cur).length:Int)<(s.length:Int)))=true:=by rw [aX8,aX8];rfl
  refine I5 (fun n=>pU n ..) (I4 aX8 (I4 aX8 (I4 i ?_)));rw [p];refine K0 (fun h1=>I4 i (K0 (fun k=>?_) fun k=>?_)) fun h1=>?_
  ·have n1:(c==32)=false:=by
    refine F4.2 fun e=>?_;subst e;exact absurd h1 (by decide)
   (have n2:(c==10)=false:=by refine F4.2 fun e=>?_;subst e;exact absurd k (by decide));rw [P4];have:=ih pre (cur++[c]) acc (by rw [f];simp) j;rw [show ((pre++(cur++[c])).length:Int)=(((pre++cur).length+1:Nat):Int) from by rw [← C1,A7];rfl] at this;refine this.mono fun _ ⟨a,b,h⟩=>⟨a,b,?_⟩;rw [h];show _=(false,[D.str s,iD a,iD b,.Z 1 (acc++(bif c==32||c==10 then (bif cur.isEmpty then [] else [cur])++TI [] r else TI (cur++[c]) r).map D.str)]);rw [n1,n2];rfl
  ·(refine WW f hl j fun d g=>sep d g ?_;have k:((c.toNat:Int) !=10)=false:=k;have:c.toNat=10:=by simp at k;omega);have:c=10:=UInt8.toNat_inj.1 this;subst this;rfl
  ·(refine WW f hl j fun d g=>sep d g ?_;have h1:((c.toNat:Int) !=32)=false:=h1;have:c.toNat=32:=by simp at h1;omega);have:c=32:=UInt8.toNat_inj.1 this;subst this;rfl
def Df {s:G1}(hl:s.length≤68000000000):U (fun n=>lA n (.str s)) fun r=>r=(true,[.Z 1 ((TI [] s).map D.str)]):=by refine I5 (fun n=>QD n s) (L4 (aH2 hl s [] [] [] rfl (B9 _)) (fun ds h=>by obtain⟨_,_,h⟩:=h;cases h) fun ds h=>?_);obtain⟨a,b,h⟩:=h;cases h;exact J5 (H8 rfl)
def Tx {t:G1}(a:(t.all fun c=>!(c==32)&&!(c==10))=true):∀ (cur r:G1),TI cur (t++r)=TI (cur++t) r:=by
 induction t with
 |nil=>intro cur r;rw [D5];rfl
 |cons c t ih=>
  intro cur r;rw [List.all_cons,A9] at a;have n:(c==32||c==10)=false:=by have:=a.1;cases h1:c==32<;>cases h2:c==10<;>simp [h1,h2] at this ⊢
  show (bif c==32||c==10 then (bif cur.isEmpty then [] else [cur])++TI [] (t++r) else TI (cur++[c]) (t++r))=_;rw [n,cond_false,ih a.2,C1];rfl
def Jz {w:G1}(a:w≠[]){c:UInt8}(b:(c==32||c==10)=true)(t:G1):TI w (c::t)=[w]++TI [] t:=by
 show (bif c==32||c==10 then (bif w.isEmpty then [] else [w])++TI [] t else TI (w++[c]) t)=_;rw [b]
 cases w with
 |nil=>exact absurd rfl a
 |cons=>rfl
def Wd.aX0 {t:G1}{k:Int}(h:Wd t k):(t.all fun c=>!(c==32)&&!(c==10))=true:=B6.2 fun c b=>by
 have a:=h.nb c b;have h1:(c==32)=false:=F4.2 fun e=>by subst e;exact absurd a (by decide)
 have d:(c==10)=false:=F4.2 fun e=>by subst e;exact absurd a (by decide)
 rw [h1,d];rfl
def Tw:∀ (its:List Tk),gL its→TI [] (MT true its)=(nn its).map (·.2)∧∀ w:G1,w≠[]→TI w (MT false its)=[w]++(nn its).map (·.2)
 |[],_=>⟨rfl,fun w a=>by
  show (bif w.isEmpty then [] else [w])=[w]++[]
  cases w with
  |nil=>exact absurd rfl a
  |cons=>rfl⟩
 |p::r,h=>by
  obtain⟨i1,e⟩:=Tw r fun q f=>h q (C0 _ f);rcases h p (B8 ..) with rfl|hp
  ·refine⟨i1,fun w a=>?_⟩;show TI w (10::MT true r)=_;rw [Jz a rfl,i1];rfl
  ·(have b:=Jv hp;have c:=Gn hp;have d:nn (p::r)=p::nn r:=by unfold nn;rw [List.filter_cons,b];rfl);have e1:MT true (p::r)=p.2++MT false r:=by rw [MT,b];rfl
   (have g:MT false (p::r)=32::(p.2++MT false r):=by rw [MT,b];rfl);have K:TI [] (p.2++MT false r)=(p::nn r).map (·.2):=by rw [Tx c.aX0,List.nil_append,e _ c.ne];rfl
   refine⟨by rw [e1,d,K],fun w a=>?_⟩;rw [g,d,Jz a rfl,K]
def aM3 {ts:List D}(h:Uq ts):ts.all YJ=true:=B6.2 fun y d=>by obtain⟨k,t,a,b,c,rfl⟩:=h y d;rfl
def Vo {sk:Sk}{e:Int}{ts:List D}{xs:List D}(h:Uq ts):M4 sk [.agg xs,iD e,.Z 5 ts]=true:=by simp [M4,aM3 h]
def Vp {its:List Tk}:∀ (_:gL its) (f:Bool),(MT f its).length≤14*its.length:=by
 induction its with
 |nil=>intro _ f;exact C4 _
 |cons p r ih=>
  intro h f;have a:gL r:=fun q c=>h q (C0 _ c);rcases h p (B8 ..) with rfl|hp
  ·have:=ih a true;show (10::MT true r).length≤_;simp only [A0];omega
  ·(have b:=B6.1 RH p hp;simp only [A9] at b;have d:=B3 b.1;have:=ih a false;rw [show MT f (p::r)=(bif f then [] else [32])++(p.2++MT false r) from by rw [MT,Jv hp];rfl];have:(bif f then [] else [32]:G1).length≤1:=by cases f<;>simp);simp only [A7,A0];omega
def bw:List Tk→G1
 |[]=>[]
 |p::r=>p.2++(32::bw r)
def bk:Int→List Tk→List D
 |_,[]=>[]
 |c,p::r=>Gp p.1 p.2 1 1 c::bk (c+(p.2.length:Int)+1) r
def Rp (a c:Int):∀ w:G1,(∀ b∈w,cI b=false)→mv (a,c) w=(a,c+(w.length:Int))
 |[],_=>by show (a,c)=(a,c+0);rw [Int.add_zero]
 |b::w,h=>by
  have f:=h b (B8 ..);have e:((b.toNat:Int)==10)=false:=by
   cases d:((b.toNat:Int)==10) with
   |false=>rfl
   |true=>(have h1:b.toNat=10:=by have:=eq_of_beq d;omega);have:b=10:=UInt8.toNat_inj.1 h1;subst this;cases f
  have g:Fl (a,c) b=(a,c+1):=by unfold Fl;rw [e];rfl
  show mv (Fl (a,c) b) w=_;rw [g,Rp a (c+1) w fun x d=>h x (C0 _ d)];simp only [A0,C7,true_and];omega
def Oh:∀ (ws:List Tk) (_:∀ p∈ws,Wd p.2 p.1) (c:Int) (q:Int×Int) (bl:G1),(∀ b∈bl,cI b=true)→mv q bl=(1,c)→Xq q (bl++bw ws) (bk c ws)
 |[],_,c,q,bl,a,_=>by show Xq q (bl++[]) [];rw [D5];exact .nil a
 |p::r,h,c,q,bl,a,d=>by have f:=h p (B8 ..);have e:mv (1,c) p.2=(1,c+(p.2.length:Int)):=Rp 1 c _ f.nb;have I:=Oh r (fun x g=>h x (C0 _ g)) (c+(p.2.length:Int)+1) (1,c+(p.2.length:Int)) [32] (by decide) rfl;have A:=Xq.cons (p:=q) (bl:=bl) (w:=p.2) (k:=p.1) (rest:=32::bw r) (ts:=bk (c+(p.2.length:Int)+1) r) a f (fun b t h=>by injection h with h _;subst h;rfl) (by rw [d,e];exact I);rw [d] at A;exact A
def EB:∀ (ws:List Tk) (c:Int),Mt (bk c ws) ws
 |[],_=>trivial
 |p::r,c=>⟨⟨_,_,_,rfl⟩,EB r _⟩
def Hi:∀ (ws:List Tk) (c:Int) (j:Nat),bk c (ws.take j)=(bk c ws).take j
 |[],c,j=>by rw [List.take_nil];exact (List.take_nil).symm
 |p::r,c,0=>rfl
 |p::r,c,j+1=>congrArg (Gp p.1 p.2 1 1 c::·) (Hi r _ j)
def Em:∀ (ws:List Tk) (_:∀ p∈ws,p∈sS),(bw ws).length≤14*ws.length
 |[],_=>B9 _
 |p::r,h=>by have a:=B6.1 RH p (h p (B8 ..));simp only [A9] at a;have c:=B3 a.1;have:=Em r fun q b=>h q (C0 _ b);show (p.2++(32::bw r)).length≤_;simp only [A7,A0];omega
def Hl (p:Tk):∀ ws:List Tk,bw (ws++[p])=bw ws++(p.2++[32])
 |[]=>rfl
 |q::r=>by show q.2++(32::bw (r++[p]))=(q.2++(32::bw r))++(p.2++[32]);rw [Hl p r,C1];rfl
def Lc {ws:List Tk}{a:Int}(hl:ws.length≤12000)(c:∀ p∈ws,p∈sS):∀ (k j:Nat),ws.length-j=k→j≤ws.length→U (fun n=>bK n a (.str (bw (ws.take j))) (.Z 1 (ws.map fun p=>D.str p.2)) (ws.length:Int) (j:Int)) fun r=>r=(false,[iD a,.str (bw ws),.Z 1 (ws.map fun p=>D.str p.2),iD (ws.length:Int),iD (ws.length:Int)]):=by
 intro k
 induction k with
 |zero=>
  intro j e f;have:j=ws.length:=by omega
  subst this;rw [List.take_length];exact I5 (fun n=>qN n ..) (N8 aY0 (H8 rfl))
 |succ k ih=>
  intro j e f;have b:j<ws.length:=by omega
  have hm:j<(ws.map fun p=>D.str p.2).length:=by rw [List.length_map];exact b
  have g:ix (ws.map fun p=>D.str p.2) ((j:Nat):Int) = .str ws[j].2:=by rw [bS hm,List.getElem_map]
  have h1:=Em (ws.take j) fun p hp=>c p (List.mem_of_mem_take hp);have d:=B6.1 RH _ (c _ (C6 b));simp only [A9] at d;have h:=B3 d.1;rw [D7] at h1;refine I5 (fun n=>qN n ..) (I4 aX8 (I4 (P1 hm) ?_));rw [g];refine J5 (I4 (E6 (by show ws[j].2.length+1≤Z5;simp only [Z5];omega)) (I4 (E6 (by show (bw (ws.take j)).length+(ws[j].2++[32]).length≤Z5;simp only [Z5,A7,C9];omega)) ?_));rw [P4];have:=ih (j+1) (by omega) b;rw [List.take_succ_eq_append_getElem b,Hl] at this;exact this
def Vx {ws:List Tk}(h:ws≠[]):∃ (k:Int) (t:G1) (a b c:Int),K3 (bk 1 ws)=tk k t a b c∧(bk 1 ws)[(bk 1 ws).length-1]? = some (tk k t a b c):=by
 have hl:=JX (EB ws 1);have hp:=List.length_pos_iff.2 h;have d:(bk 1 ws).length-1<(bk 1 ws).length:=by omega
 obtain⟨k,t,a,b,c,e⟩:=NH (EB ws 1) _ (C6 d);have f:(bk 1 ws)[(bk 1 ws).length-1]? = some (tk k t a b c):=by rw [C2 d,e];rfl
 exact⟨k,t,a,b,c,by unfold K3;rw [f];rfl,f⟩
def Pp {ws:List Tk}(k:∀ p∈ws,p∈sS)(hl:ws.length≤12000){q:Nat}(m:q<ws.length) (l:U (fun n=>Q9 n (.Z 5 (bk 1 ws)) (0:Int) (0:Int) (0:Int) (0:Int) (0:Int) (0:Int) (0:Int)) fun r=>∃ (y:D) (d c:Int),r=(true,[y,.Z 5 (bk 1 ws),iD ((bk 1 ws).length:Int),iD d,iD c,iD 0,iD 0,iD 0,iD 0])) :U (fun n=>oV n (.str (bw (ws.take q)))) fun r=>r=(true,[.Z 7 [],.Z 5 (bk 1 (ws.take q)),.agg [iD (bif q==0 then 0 else ((K3 (bk 1 (ws.take q))).at_ 2).i),iD (bif q==0 then 0 else ((K3 (bk 1 (ws.take q))).at_ 3).i),iD (bif q==0 then 0 else ((K3 (bk 1 (ws.take q))).at_ 4).i)],iD (bif q==0 then 0 else 6)]):=by
 have a:∀ p∈ws.take q,p∈sS:=fun p hp=>k p (List.mem_of_mem_take hp);have e:=Em _ a;have j:=JX (EB (ws.take q) 1);have o:=JX (EB ws 1);rw [D7] at e j;have X:=Kn (s:=bw (ws.take q)) (ts:=bk 1 (ws.take q)) (by omega) (by omega) (by
  have:=Oh (ws.take q) (fun p hp=>Gn (a p hp)) 1 (1,1) [] (fun b e=>by cases e) rfl
  rwa [List.nil_append] at this)
 have f:=NH (EB (ws.take q) 1);refine I5 (fun n=>SL n _) (H6 X ?_);intro _ ds h;cases h;refine⟨rfl,I4 (L0 rfl (Vo f)) (L3 ?_)⟩
 cases hq0:(q==0) with
 |true=>
  have:q=0:=by simpa using hq0
  subst this;refine H6 Fp ?_;intro _ ds h;cases h;exact⟨rfl,J5 (H8 rfl)⟩
 |false=>
  have g:q≠0:=by simpa using hq0
  have C:Cx (bk 1 ws) (bk 1 (ws.take q)) (q:Int):=⟨NH (EB ws 1),by omega,⟨q,rfl,Hi ws 1 q⟩,by omega,by omega⟩;refine H6 (Lb C l) ?_;intro _ ds h;cases h;exact⟨rfl,J5 (H8 rfl)⟩
def Uf {b:List D}(g:Bytes b)(hl:b.length≤300):U (fun n=>oU n (.Z 1 b)) fun r=>∃ ms ys,r=(true,[.Z 7 ys])∧ms≠[]∧ms.length≤3∧Ul ms∧(ms.flatMap wM).length≤3963∧Rl OM ms ys:=by
 refine I5 (fun n=>SK n b) (H6 (Ug g hl) ?_);rintro _ _ ⟨ms,h,a,e,c,d⟩;cases h;refine⟨rfl,J5 (H6 (Ud (ms:=ms) (by omega) fun m hm=>?_) ?_)⟩
 ·obtain⟨k,f,rfl⟩:=List.getElem_of_mem hm;exact⟨_,by simp,c k f⟩
 rintro _ _ ⟨ys,h,i⟩;cases h;exact⟨rfl,J5 (H8 ⟨ms,ys,rfl,a,e,c,by rw [yA wM ms];exact d,i⟩)⟩
def Ni {b:List D}(a:Bytes b):U (fun n=>nC n (.Z 1 b)) fun r=>∃ b',r=(true,[.Z 1 b'])∧Bytes b'∧b'.length≤300:=by
 refine I5 (fun n=>QC n b) (K0 (fun h=>?_) fun h=>?_)
 ·have h:=E7 h;refine I4 (by rw [E6 (show (300:Int)≤(b.length:Int) by omega)];rfl) (H8 ⟨_,rfl,?_,?_⟩)
  ·intro x c;exact a x (List.mem_of_mem_drop (List.mem_of_mem_take c))
  ·rw [D7];exact Nat.min_le_left _ _
 ·have h:=E9 h;exact H8 ⟨b,rfl,a,by omega⟩
def Is:qL [109,48+UInt8.ofNat 0]=true:=by decide +kernel
def aN3:gw [109,48+UInt8.ofNat 0]:=by decide +kernel
def Rg:(1,[109,48+UInt8.ofNat 0])∈sS:=by decide +kernel
def aI5 {x:D}(h:Zh [109,48+UInt8.ofNat 0] x):∀ p∈wM x,p∈sS:=by
 obtain⟨h1,_,b⟩:=Zj Rg h;intro p hp;rw [← h1] at hp;obtain⟨hp,a⟩:=List.mem_filter.1 hp;rcases b p hp with rfl|h
 ·cases a
 ·exact h
def MO {b:List D}(B:Bytes b)(a:Int):U (fun n=>gT n (.Z 1 b) a) fun r=>r=(true,[.bool true]):=by
 refine I5 (fun n=>FB n b a) (M3 Ut (L3 (H6 (Ni B) ?_)));rintro _ _ ⟨b',h,A,hl⟩;cases h;refine⟨rfl,J5 (H6 (Uf A hl) ?_)⟩;rintro _ _ ⟨ms,ys,h,g,hn,P,S,K⟩;cases h;obtain⟨x,ms,rfl⟩:∃ x t,ms=x::t:=by cases ms with|nil=>exact absurd rfl g|cons x t=>exact⟨x,t,rfl⟩
 obtain⟨y,ys,rfl⟩:∃ y t,ys=y::t:=by cases ys with|nil=>exact absurd K.1 (by simp)|cons y t=>exact⟨y,t,rfl⟩
 have f:Zh [109,48+UInt8.ofNat 0] x:=P 0 (by simp);have F:OM x y:=K.2 0 (by simp) (by simp);have Q:(wM x).length≤3963:=by rw [D9,A7] at S;omega
 have hN:aV8 [[109,48+UInt8.ofNat 0]] [x]:=⟨rfl,fun k h _=>by
  have:k=0:=by simpa using h
  subst this;exact⟨f,aN3⟩⟩
 have hR:Rl OM [x] [y]:=⟨rfl,fun k h _=>by
  have:k=0:=by simpa using h
  subst this;exact F⟩
 obtain⟨O,l2,o⟩:=Zj Rg f;have J:=aI5 f;have L:[x].flatMap yM=yM x:=by simp
 have T:=Sl (nms:=[[109,48+UInt8.ofNat 0]]) (by simp) hN hR (by rw [L];omega);rw [L] at T;have eT:(PI (yM x) (true,[])).2=MT true (yM x):=by rw [Oa o true [] (fun h=>by cases h)];rfl
 have E:(MT true (yM x)).length≤68000000000:=by have:=Vp o true;omega
 have W:=Df (s:=MT true (yM x)) E;rw [(Tw _ o).1,O] at W;rw [eT] at T;have I:1≤(wM x).length:=by obtain⟨ps,qs,its,e,_⟩:=f;rw [e];show 1≤([(1,yU),(1,[109,48+UInt8.ofNat 0])]++_:List Tk).length;simp only [G0];omega
 have hL:=JX (EB (wM x) 1);have hq:qM x≤4000:=by
  have h:=aO4 (nms:=[[109,48+UInt8.ofNat 0]]) (ms:=[x]) ⟨rfl,fun k h _=>by (have:k=0:=by simpa using h);subst this;exact⟨f,Is⟩,fun j k hj z X=>by simp at hj z;omega⟩;have h1:sQ qM [x]=qM x+0:=rfl;have h2:[x].flatMap wM=wM x:=by simp
  rw [h2] at h;omega
 have M:=Lw (l:=bk 1 (wM x)) (by omega) Is f (i:=0) (by have:=Ym (EB (wM x) 1) [];exact this) 0 0 0 0 (by omega) (by omega);have M2:U (fun n=>Q9 n (.Z 5 (bk 1 (wM x))) (0:Int) (0:Int) (0:Int) (0:Int) (0:Int) (0:Int) (0:Int)) fun r=>∃ (y:D) (d c:Int),r=(true,[y,.Z 5 (bk 1 (wM x)),iD ((bk 1 (wM x)).length:Int),iD d,iD c,iD 0,iD 0,iD 0,iD 0]):=by refine M.mono fun r ⟨y,_,h⟩=>⟨y,0,0+(qM x:Int),?_⟩;rw [h,hL,C5]
 obtain⟨q,v,u⟩:∃ q:Nat,max 0 (min a (i64.wrap (((wM x).length:Int)-1)))=(q:Int)∧q<(wM x).length:=by rw [Q3];exact⟨(max 0 (min a (((wM x).length:Int)-1))).toNat,by omega,by omega⟩
 have R:=Pp J (by omega) u M2;have C:∀ p∈(wM x).take q,p∈sS:=fun p hp=>J p (List.mem_of_mem_take hp);have m:((wM x).take q).length=q:=by rw [D7];omega
 have Lp:=Lc (ws:=(wM x).take q) (a:=(q:Int)) (by omega) C _ 0 rfl (C4 _);have ew:∀ ws:List Tk,(ws.map (·.2)).map D.str=ws.map fun p=>D.str p.2:=fun ws=>by rw [List.map_map];rfl
 rw [ew] at W;refine⟨rfl,J5 (I4 (by show (true&&true&&decide (1≤(((y::ys).length:Nat):Int)))=true;rw [E6 (by rw [A0];omega)];rfl) (Ye T ?_))⟩;refine I4 (L0 rfl rfl) (M3 W ?_);have w:(((wM x).map fun p=>D.str p.2).length:Int)=((wM x).length:Int):=by rw [List.length_map]
 dsimp +instances only [Y,List.getElem?_cons_zero,Option.getD_some,mM,List.drop_zero,Nat.sub_zero];rw [w,v,E1,List.drop_zero,← List.map_take,List.length_map];refine I4 (by rw [E6 (show (0:Int)≤(q:Int) by omega),E6 (show (q:Int)≤((wM x).length:Int) by omega)];rfl) (L4 Lp (fun ds h=>by cases h) fun ds h=>?_);cases h;refine J5 (M3 R ?_);by_cases hq0:q=0
 ·subst hq0;exact J5 (J5 (H8 rfl))
 ·have B:(q==0)=false:=F4.2 hq0;rw [B];have g:(wM x).take q≠[]:=fun h=>by rw [h] at m;exact hq0 m.symm
  obtain⟨k,t,a1,H,G,e1,N⟩:=Vx g;have z:=JX (EB ((wM x).take q) 1);rw [e1];generalize bk 1 ((wM x).take q)=ts at e1 N z;have V:q-1<ts.length:=by omega
  have hg:ix ts (i64.wrap ((q:Int)-1))=tk k t a1 H G:=by rw [ix,Q3,show ((q:Int)-1).toNat=ts.length-1 from by omega,N];rfl
  refine N8 (F4.2 (by show (q:Int)≠0;omega)) (J5 (J5 (I4 (beq_iff_eq.2 (by show (ts.length:Int)=(q:Int);omega)) (I4 (by show (decide (0≤i64.wrap ((q:Int)-1))&&decide (i64.wrap ((q:Int)-1)<(ts.length:Int)))=true;rw [Q3,aX8,aX8];rfl) ?_))));show U (fun n=>bif NY (ix ts (i64.wrap ((q:Int)-1))) then _ else none) _;dsimp +instances only [Y,List.getElem?_cons_zero,List.getElem?_cons_succ,Option.getD_some,mM,nB];rw [hg];refine J5 (J5 (H8 ?_));show (true,[D.bool ((a1==a1)&&((H==H)&&((G==G)&&true)))])=_;rw [F3,F3,F3];rfl
end Go.Proofs.YtalibicpmfbieaaGreatDoor
