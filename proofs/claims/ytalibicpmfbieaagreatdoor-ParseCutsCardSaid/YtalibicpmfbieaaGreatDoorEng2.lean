import Derived.Test.YtalibicpmfbieaaGreatDoorEng1
import Derived.Laws.IdiomCopy
import Derived.Lib.AppendStr
import Derived.MapKept
import Derived.Defers
import Derived.LoopN
import Derived.Orders
set_option linter.all false
namespace Go.AE
open Go.RowKit
section
variable {u:Nat→Option Obj} {p q:Nat→Prop} {g:G} {st:St} {h h':Nat→Option Ob} {a:Act} {w w':World} {P:Program} {o:Oper} {R:Type} {K:V→St→Option R} {r:R}
def KJ {α:Type}:∀ (b pre c:List α) (k:Nat),setAt (pre++c) (pre.length+k) b=pre++setAt c k b
 |[],pre,c,k=>rfl
 |d::b,pre,c,k=>by simp only [setAt];rw [List.set_append_right _ _ (by omega),show pre.length+k-pre.length=k from by omega,Nat.add_assoc,KJ b]
def FQ {α:Type}:∀ (b c post:List α) (k:Nat),k+b.length≤c.length→setAt (c++post) k b=setAt c k b++post
 |[],c,post,k,_=>rfl
 |d::b,c,post,k,h=>by simp only [setAt];simp only [A0] at h;rw [List.set_append_left _ _ (by omega),FQ b _ _ _ (by simp;omega)]
def VH {α:Type}:∀ (b c:List α),c.length=b.length→setAt c 0 b=b:=by intro b c h;have:=setAt_eq0 b c [] h;simpa using this
where
 setAt_eq0 {α:Type}:∀ (b c pre:List α),c.length=b.length→setAt (pre++c) pre.length b=pre++b
 |[],c,pre,h=>by have:c=[]:=D1 h;subst this;rfl
 |d::b,c,pre,h=>by
  cases c with
  |nil=>simp at h
  |cons i c=>
   simp only [setAt]
   have e1:(pre++i::c).set pre.length d=(pre++[d])++c:=by simp
   rw [e1]
   have:=setAt_eq0 b c (pre++[d]) (by simpa using h)
   simp only [G0,C5] at this
   rw [this];simp
def FR {α:Type}:∀ (b c:List α) (k m:Nat),(setAt c k b).take m=setAt (c.take m) k b
 |[],c,k,m=>rfl
 |d::b,c,k,m=>by simp only [setAt];rw [FR b,List.take_set]
def RE {α:Type}:∀ (b c:List α) (k:Nat),k+b.length≤c.length→setAt c k b=c.take k++b++c.drop (k+b.length):=by
 intro b c k h;have h1:c=c.take k++((c.drop k).take b.length++c.drop (k+b.length)):=by rw [← List.drop_drop,List.take_append_drop,List.take_append_drop]
 have hl:(c.take k).length=k:=by simp;omega
 have e:=KJ b (c.take k) ((c.drop k).take b.length++c.drop (k+b.length)) 0;rw [← h1,hl,Nat.add_zero] at e;rw [e,FQ _ _ _ _ (by simp;omega),VH _ _ (by simp;omega),C1]
def TM {hh:Nat→Option Obj}{sz:Nat}:∀ {xs:List D} {us:List Value} {i:Nat},sO hh sz xs us→i<xs.length→∃ (pre:List Value) (v:Value) (post:List Value),us=pre++(v.cells.toList++post)∧pre.length=i*sz∧v.cells.size=sz∧(∀ y∈v.cells.toList,y.oneCell'=true)∧VD hh (xs[i]?.getD .top) v∧∀ (x':D) (b:Value),b.cells.size=sz→(∀ y∈b.cells.toList,y.oneCell'=true)→VD hh x' b→sO hh sz (xs.set i x') (pre++(b.cells.toList++post))
 |[],us,i,_,l=>by simp at l
 |x::xs,us,0,h,_=>by obtain⟨v,r,rfl,d,k,k4,j⟩:=h;exact⟨[],v,r,rfl,by simp,d,k,k4,fun x' b h1 h2 m=>⟨b,r,rfl,h1,h2,m,j⟩⟩
 |x::xs,us,i+1,h,l=>by obtain⟨v,r,rfl,d,k,k4,j⟩:=h;obtain⟨pre,n,post,rfl,e1,A,z,t,s⟩:=TM (i:=i) j (by simpa using l);refine⟨v.cells.toList++pre,n,post,by simp,by simp [d,e1,Nat.add_mul];omega,A,z,by simpa using t,fun x' b h1 h2 m=>?_⟩;exact⟨v,pre++(b.cells.toList++post),by simp,d,k,k4,s x' b h1 h2 m⟩
def xZ {t:TypeId}{info:TypeInfo}(i:P.info? t=some info){b off:Nat}{c:Array Value}{e:TypeId}{v:Value}(l:w.heap[b]? = some (.cells c e (0,0)))(k:v.cells.size=info.size) (j:off+v.cells.size≤c.size) (h1:∀ y∈v.cells.toList,y.oneCell'=true) :(storeVar t ⟨b,off,none⟩ v).run P w = .ok () (w.setRow b (setAt c.toList off v.cells.toList).toArray):=by have d:=run_storeCells_at P b off e v.cells.toList 0 c w l (by simpa using j) h1;simp only [Nat.add_zero] at d;rw [← RE _ _ _ (by simpa using j)] at d;simp only [storeVar,Sem.run_bind,lB i,Result.andThen_ok];simp [k,d]
def tZ {g':G}(d:U5 p g g')(b:Nat)(cs:Array Value):Ext g w g' (w.setRow b cs):=⟨d.h,rfl,rfl,rfl,by simp [World.setRow]⟩
def yF (S:aS u p g h w){no:Nat}{cs cs':List V}{c c':Array Value}{e:TypeId}(l:h no=some (.var cs))(d:w.heap[g.blk no]? = some (.cells c e (0,0))) (z:F2 (VA g) cs' c'.toList) (h1:∀ y∈c'.toList,y.oneCell'=true) (n:∀ v∈cs',v.bO p) (m:∀ t o' f,V.bp t o' f∈cs'→e=t) (hh:∀ x,h' x=if x=no then some (.var cs') else h x) :aS u p g h' (w.setRow (g.blk no) c'):=by
 refine S.update (U5.refl p g) rfl (some (g.blk no)) (fun k _ s=>setRow_other w _ k _ (fun e=>s (by rw [e]))) (fun b d=>?_) (fun _ h=>h) no ?_ ?_
 ·cases d;exact S.sep no _ _ l rfl
 ·intro o' x i j;rw [hh,if_neg j] at i;refine⟨i,fun b d e=>?_⟩;cases e;exact j (S.inj o' no _ _ _ i l d rfl)
 ·intro x i;rw [hh,if_pos rfl] at i;cases i;refine⟨⟨c',e,setRow_heap w _ c c' e (0,0) d,z,h1,m⟩,fun b d=>?_,(S.use _ _ l).1,n⟩;simp only [pC,B1] at d;exact .inl (by rw [d])
def RB (S:aS u p g h w){no e sz:Nat}{xs:List D}(t:h no=some (.row e sz xs false)){b:Nat}(d:(g.hdr no).ownBlock=some b) :∃ (cap:Nat) (cur:Array Value),0<sz∧g.hdr no = .slice (some ⟨b,0,none⟩) xs.length cap∧w.heap[b]? = some (.cells cur e (0,0))∧xs.length≤cap∧cap≤maxLen∧cur.size=cap*sz∧sO g.h sz xs (cur.toList.take (xs.length*sz)):=by
 obtain⟨us,i,h1,h2⟩:=S.ob _ _ t;rcases cP h1 with ⟨k,_,_⟩|⟨b',cap,cur,j,s,n,k4,m,l,_⟩
 ·rw [k] at d;simp [Value.ownBlock] at d
 ·rw [j] at d;simp only [Value.ownBlock,B1] at d;subst d;exact⟨cap,cur,i,j,s,n,k4,m,by rw [l];exact h2⟩
def RC (S:aS u p g h w){no e sz:Nat}{xs xs':List D}(s:h no=some (.row e sz xs false)){b:Nat}(t:(g.hdr no).ownBlock=some b){cur c':Array Value}(j:w.heap[b]? = some (.cells cur e (0,0))) (z:c'.size=cur.size) (i:xs'.length=xs.length) (B:sO g.h sz xs' (c'.toList.take (xs.length*sz))) (hh:∀ x,h' x=if x=no then some (.row e sz xs' false) else h x) :aS u p g h' (w.setRow b c'):=by
 obtain⟨cap,C,m,I,y,H,k4,E,L⟩:=RB S s t;rw [j] at y;simp only [B1,Obj.cells.injEq,and_true] at y;subst y;refine S.update (U5.refl p g) rfl (some b) (fun k _ J=>setRow_other w _ k _ (fun e=>J (by rw [e]))) (fun b' d=>?_) (fun _ h=>h) no ?_ ?_
 ·cases d;exact S.sep no _ _ s t
 ·intro o' x l n;rw [hh,if_neg n] at l;refine⟨l,fun b' d e=>?_⟩;cases e;exact n (S.inj o' no _ _ _ l s d t)
 ·intro x l;rw [hh,if_pos rfl] at l;cases l;have A:=lD B;refine⟨⟨_,m,⟨?_,.inr ⟨b,cap,c',by rw [i];exact I,C4 _,setRow_heap w b cur c' e (0,0) j,by rw [i];exact H,k4,by rw [z];exact E,?_⟩⟩,B⟩,fun b' d=>?_,(S.use _ _ s).1,trivial⟩
  ·exact A
  ·rw [i]
  ·simp only [pC] at d;rw [t] at d;exact .inl d.symm
def Sd (S:At u p g st a w)(L:∀ x,p x→q x){nid:Nat}(hfr:oD p q nid){t:TypeId}{x y:Operand}(ho:o.op = .store t x y) (h:KM P t (R0 st x) (R0 st y) nid st K=some r):Goal u p q g st a w P o K r:=by
 have s:=S.ev x;have N:=S.ev y;have huy:=S.eZ y;unfold KM at h;obtain⟨ht,h⟩:=N9 h;have ht:IV P t=true:=by simpa using ht
 obtain⟨d,info,hd,E,hg,hs⟩:=lX ht;have exec:∀ (ad:Addr) (w':World),a.eval x = .pointer (some ad)→(storeVar t ad (a.eval y)).run P w = .ok () w'→(execOp a.eval o).run P w = .ok .skip w':=by intro ad w' e1 e2;simp only [execOp,ho,Instr.storeAt,e1,Instr.sureAddr];simp [e2]
 split at h
 ·rename_i no off he;rw [he] at s;have s:=IZ s;split at h
  ·rename_i cs A;obtain⟨c,e,hb,hF,h1,hbp⟩:=S.hp.ob _ _ A;have hlen:=hF.length;simp only [E4] at hlen;have hpno:p no:=(S.hp.use _ _ A).1;have hne:no≠nid:=fun e=>hfr.zero.1 (e▸hpno)
   cases hag:X7 P t with
   |true=>rw [hag] at h;simp only [cond_true] at h;obtain⟨B,h⟩:=J6 h;simp only [A9] at B;obtain⟨⟨hok,T⟩,hle⟩:=B;have T:(R0 st y).cells.length=cA P t:=B0 T;have hle:off+(R0 st y).cells.length≤cs.length:=B3 hle;obtain⟨c1,c2,c3⟩:=rS hok N huy;have hl:=c1.length;simp only [E4] at hl;have n:=xZ (P:=P) (v:=a.eval y) E hb (by omega) (off:=off) (by omega) c2;have l:=yF (h':=(st.nM no (some (.var (setAt cs off (R0 st y).cells)))).h) (c':=(setAt c.toList off (a.eval y).cells.toList).toArray) S.hp A hb (by simpa using c1.setAt off hF) (by intro z j;rcases nZ _ _ _ _ (by simpa using j) with j|j;exact h1 z j;exact c2 z j) (by intro z j;rcases nZ _ _ _ _ j with j|j;exact (S.hp.use _ _ A).2 z j;exact c3 z j) (by intro t' o' f j;rcases nZ _ _ _ _ j with j|j;exact hbp _ _ _ j;exact absurd j (xQ hok)) (fun x=>bT _ _ _ _);exact Goal.skip h (exec _ _ s n) (l.more L) (U5.refl p g) (tZ (U5.refl p g) _ _) rfl rfl
   |false=>
    (rw [hag] at h;simp only [cond_false] at h;obtain⟨B,h⟩:=J6 h;simp only [A9] at B;obtain⟨⟨hc1,T⟩,hlt⟩:=B;have T:cA P t=1:=B0 T;have hlt:off<cs.length:=by have h1:Nat.ble (off+1) cs.length=true:=hlt;exact B3 h1);have hone:=JG hc1 N;have hcy:=CO hone;have n:=xZ (P:=P) (v:=a.eval y) E hb (by rw [hcy];simp;omega) (off:=off) (by rw [hcy];simp;omega) (by rw [hcy];simpa using hone);rw [hcy] at n;have main:∀ (g1:G) (C:V) (mJ:St),aS u q g1 mJ.h w→U5 p g g1→g1.h=g.h→g1.blk=g.blk→VA g1 C (a.eval y)→C.bO q→oH C=true→mJ.t=st.t→mJ.m=st.m→mJ.h no=st.h no→K .top (mJ.nM no (some (.var (setAt cs off [C]))))=some r→Goal u p q g st a w P o K r:=by
     (intro g1 C mJ s1 a1 a2 a3 a4 a5 a5c a6 a7 a8 h;have hcs1:mJ.h no=some (.var cs):=by rw [a8];exact A);have hF1:F2 (VA g1) cs c.toList:=hF.mono fun c B b hb=>VA.agree a1 ((S.hp.use _ _ A).2 c B) hb;have hb1:w.heap[g1.blk no]? = some (.cells c e (0,0)):=by rw [a3];exact hb
     have l:=yF (h':=(mJ.nM no (some (.var (setAt cs off [C])))).h) (c':=(setAt c.toList off [a.eval y]).toArray) s1 hcs1 hb1 (by simpa using (F2.cons a4 .nil).setAt off hF1) (by intro z j;rcases nZ _ _ _ _ (by simpa using j) with j|j;exact h1 z j;simp at j;subst j;exact hone) (by intro z j;rcases nZ _ _ _ _ j with j|j;exact ((S.hp.use _ _ A).2 z j).mono L;simp at j;subst j;exact a5) (by intro t' o' f j;rcases nZ _ _ _ _ j with j|j;exact hbp _ _ _ j;simp at j;rw [← j] at a5c;cases a5c) (fun x=>bT _ _ _ _);rw [a3] at l;exact Goal.skip h (exec _ _ s n) l a1 (tZ a1 _ _) a6 a7
    cases hn1:Nat.beq cs.length 1 with
    |true=>rw [hn1] at h;simp only [cond_true] at h;obtain⟨g1,C,mJ,k1,k2,k3,k4,k5,k6,k7,k8,k9,k10,_,k12,k13⟩:=YH S.hp L hfr.zero.1 hfr.zero.2 N huy h;obtain⟨k14,k15⟩:=k13 hc1;exact main g1 C mJ k2 k3 k4 k5 k15 k14 (k12 hc1) k8 k9 (k10 no hne) k1
    |false=>
     rw [hn1] at h;simp only [cond_false] at h;have hVA:VA g (R0 st y) (a.eval y)∧(R0 st y).bO p:=by
      match R0 st y,hc1,N,huy with
      | .d (.agg _),B,_,_=>simp [oH] at B
      | .agg _,B,_,_=>simp [oH] at B
      | .tup _,B,_,_=>simp [oH] at B
      | .d _,_,k,_=>exact⟨k,trivial⟩
      | .ptr ..,_,k,H=>exact⟨k,H⟩
      | .el ..,_,k,H=>exact⟨k,trivial⟩
      | .rp ..,_,k,H=>exact⟨k,H⟩
      | .row _,_,k,H=>exact⟨k,H⟩
      | .mp _,_,k,H=>exact⟨k,H⟩
      | .bp ..,B,_,_=>simp [oH] at B
      | .sub ..,_,k,H=>exact⟨k,H⟩
      | .fn _ [],_,k,H=>exact⟨k,H⟩
      | .fn _ (_::_),_,k,H=>exact⟨k,H⟩
     exact main g _ st (S.hp.more L) (U5.refl p g) rfl rfl hVA.1 (hVA.2.mono L) hc1 rfl rfl rfl h
  ·cases h
 ·rename_i no sz i off he;rw [he] at s;obtain⟨hi,b,hbk,s⟩:=s;split at h
  ·rename_i e sz' xs hrow;replace h:=J6 h;obtain⟨I,h⟩:=h;have I:sz=sz':=B0 I;subst I;rw [uR (S.hp.ob _ _ hrow)] at hi;split at h
   ·rename_i M fz hd';obtain⟨B,h⟩:=N9 h;rw [Bool.not_eq_false'] at B;simp only [A9,D8] at B;obtain⟨⟨hok,hdl⟩,hfz⟩:=B;have hdl:M.cells.length=cA P t:=B0 hdl;have hnot:no∉fz:=by
     intro hm;have:fz.any (Nat.beq no)=true:=List.any_eq_true.2 ⟨no,hm,Nat.beq_refl no⟩;rw [hfz] at this;cases this
    (obtain⟨g1,a1,b1,c1,s1⟩:=S.hp.freeze fz;have W:bJ st.h fz no=some (.row e sz xs false):=by rw [rY _ _ _ hnot];exact hrow);have k:=KN N huy hd' (fun o ho=>ho) a1 s1;obtain⟨d1,d2⟩:=NI hok k;rw [← c1] at hbk;obtain⟨cap,cur,I,k1,k2,k3,k4,k5,k6⟩:=RB s1 W hbk;obtain⟨pre,v,post,e1,e2,e3,e4,e5,e6⟩:=TM k6 hi;have hle:i*sz+sz≤xs.length*sz:=by rw [← Nat.succ_mul];exact Nat.mul_le_mul_right _ hi
    have hle2:xs.length*sz≤cap*sz:=Nat.mul_le_mul_right _ k3;have main:∀ (x':D),off+cA P t≤sz→sO g1.h sz (xs.set i x') (pre++(setAt v.cells.toList off (a.eval y).cells.toList++post))→K .top ((st.freeze fz).nM no (some (.row e sz (xs.set i x') false)))=some r→Goal u p q g st a w P o K r:=by intro x' J hf h;have n:=xZ (P:=P) (v:=a.eval y) E k2 (by omega) (off:=i*sz+off) (by omega) d1;have l:=RC (h':=((st.freeze fz).nM no (some (.row e sz (xs.set i x') false))).h) (xs':=xs.set i x') (c':=(setAt cur.toList (i*sz+off) (a.eval y).cells.toList).toArray) s1 W hbk k2 (by simp [tG]) (by simp) (by simp only [];rw [FR,e1,← e2,KJ,FQ _ _ _ _ (by simp;omega)];exact hf) (fun x=>bT _ _ _ _);exact Goal.skip h (exec _ _ s n) (l.more L) a1 (tZ a1 _ _) rfl rfl
    cases hwhole:(Nat.beq off 0&&Nat.beq (cA P t) sz) with
    |true=>rw [hwhole] at h;simp only [cond_true] at h;simp only [A9] at hwhole;have h0:off=0:=B0 hwhole.1;have hsz1:cA P t=sz:=B0 hwhole.2;refine main M (by omega) ?_ h;rw [h0,VH _ _ (by simp;omega)];exact e6 M (a.eval y) (by omega) d1 k
    |false=>
     rw [hwhole] at h;simp only [cond_false] at h;obtain⟨J,h⟩:=J6 h;have J:off+cA P t≤sz:=B3 J;obtain⟨O,h⟩:=J6 h;simp only [A9] at O;obtain⟨⟨O,hage⟩,_⟩:=O;rw [YX hage] at O;refine main (aI4 (xs[i]?.getD .top) off M) J ?_ h;generalize hx:xs[i]?.getD D.top=xi at *
     match xi,O,e5 with
     | .agg cs,_,e5=>(obtain⟨us,rfl,A⟩:=e5;have hyd:yW g1.h M.cells (a.eval y).cells.toList:=by (have hok':gO (.d M)=true:=by unfold gO Ys at *;cases M<;>first|(simpa [V.cells,D.cells,List.all_map] using hok));(obtain⟨q1,_,_⟩:=rS (p:=fun _=>True) hok' (show VV g1 (.d M) _ from k) trivial;have q2:(V.d M).cells=M.cells.map V.d:=by cases M<;>rfl);rw [q2] at q1;exact (mS _ _ _).2 ((F2.LS q1).mono fun _ _ _ h=>h));have hF:yW g1.h (setAt cs off M.cells) (setAt us.toList off (a.eval y).cells.toList):=(mS _ _ _).2 (((mS _ _ _).1 hyd).setAt off ((mS _ _ _).1 A));have:=e6 (aI4 (.agg cs) off M) (.agg (setAt us.toList off (a.eval y).cells.toList).toArray) (by simpa [Value.cells,tG] using e3) (by intro z j;rcases nZ _ _ _ _ (by simpa [Value.cells] using j) with j|j;exact e4 z j;exact d1 z j) ⟨_,rfl,by simpa [D.cells] using hF⟩;simpa [Value.cells] using this
   ·cases h
  ·cases h
 ·cases h
def GL {e:TypeId}(h:MZ P e=true):∃ i z,P.info? e=some i∧i.bytes≤2048∧0<i.size∧i.zero=some z∧z.cells.size=i.size:=by
 unfold MZ at h;split at h
 ·rename_i i j;simp only [A9] at h;obtain⟨⟨h1,h2⟩,b⟩:=h;split at b
  ·rename_i z d;refine⟨i,z,j,B3 h1,?_,d,B0 b⟩;have h2:Nat.ble 1 i.size=true:=h2;exact B3 h2
  ·cases b
 ·cases h
def MR {t ty e:TypeId}{i:TypeInfo}{sz:Nat}(k:P.underlying t=some (.slice e))(l:P.info? e=some i){v:Value}{n c:Nat}{xs:List Value}(d:w.ownsRow 0 e sz v n xs) :(Builtin.append_ #[t,t] ty #[v,.slice none 0 c]).run P w = .ok v w:=by
 rcases d.2 with ⟨rfl,rfl⟩|⟨b,cap,cur,rfl,_,_,j,_⟩
 ·simp [Builtin.append_,run_underlying k,sizeOf,typeInfo,l,Builtin.lenOf,Builtin.firstCells]
 ·simp [Builtin.append_,run_underlying k,sizeOf,typeInfo,l,Builtin.lenOf,Builtin.firstCells,j,storeCells]
def WC {t ty e:TypeId}{i:TypeInfo}{z:Value}(B:P.underlying t=some (.slice e))(E:P.info? e=some i)(M:i.zero=some z){v L:Value}{n m c:Nat}{xs news:List Value}{ad:Addr} (l:w.ownsRow 0 e i.size v n xs) (hl:news.length=m*i.size) (d:∀ j u,news[j]? = some u→w.cell? (ad.add j)=some u) (h1:∀ y∈news,y.oneCell'=true) (J:n+m≤maxLen) (k:(n+m)*i.bytes≤140737488355328) (s:(Builtin.append_ #[t,t] ty #[v,.slice (some ad) m c]).run P w = .ok L w'):∀ b,L.ownBlock=some b→some b=v.ownBlock∨w.heap.size≤b:=by
 have C:n+m≤9223372036854775807:=by simp only [maxLen] at J;omega
 intro b x;rcases l.2 with ⟨rfl,rfl⟩|⟨H,cap,cur,rfl,_,S,N,T,I,_⟩
 ·by_cases hm:m=0
  ·subst hm;have O:news=[]:=D1 (by simpa using hl);subst O;have:(Builtin.append_ #[t,t] ty #[.slice none 0 0,.slice (some ad) 0 c]).run P w = .ok (.slice none 0 0) w:=by
    simp [Builtin.append_,run_underlying B,sizeOf,typeInfo,E,Builtin.lenOf,Builtin.firstCells,loadCells,loadCellsFrom]
   rw [this] at s;cases s;cases x
  ·rw [run_append_nil (P:=P) w t ty e i z B E M ad m c news hl d (by omega) (by omega) (by have x:=k;simp only [C5] at x;omega)] at s;cases s;simp only [Value.ownBlock,B1] at x;exact .inr (by omega)
 ·by_cases hroom:n+m≤cap
  ·(have A:n*i.size+news.length≤cur.size:=by rw [hl,I,← Nat.add_mul];exact Nat.mul_le_mul_right _ hroom);rw [run_append_room (P:=P) w t ty e i B E H n cap cur S ad m c news hl d h1 hroom A] at s;cases s;exact .inl x.symm
  ·have holds:∀ j u,xs[j]? = some u→w.cell? ((⟨H,0,none⟩:Addr).add j)=some u:=l.cells (g:=H) rfl;rw [run_append_grow (P:=P) w t ty e i z B E M ⟨H,0,none⟩ n cap xs l.1 holds ad m c news hl d (by omega) (by omega) (growslice_fits (by omega) k)] at s;cases s;simp only [Value.ownBlock,B1] at x;exact .inr (by omega)
def TQ {t ty e:TypeId}{i:TypeInfo}{z:Value}(J:P.underlying t=some (.slice e))(L:P.info? e=some i)(S:i.zero=some z)(I:z.cells.size=i.size)(E:0<i.size)(M:i.bytes≤2048) {v x:Value} {xs ys:List D} {us:List Value} {C:Nat} (d:w.ownsRow 0 e i.size v xs.length us) (T:sO g.h i.size xs us) (hx:Nu w g.h C ys x) (hs:C=i.size∨ys=[]) (hm:xs.length+ys.length≤L9) :∃ s w' B,(Builtin.append_ #[t,t] ty #[v,x]).run P w = .ok s w'∧w'.ownsRow 0 e i.size s (xs++ys).length B∧sO g.h i.size (xs++ys) B∧w.grownBy w' v.ownBlock∧∀ b,s.ownBlock=some b→some b=v.ownBlock∨w.heap.size≤b:=by
 obtain⟨A,cap,l,rfl,h2,h3,m,n⟩:=hx;have m:sO g.h i.size ys l:=by
  rcases hs with rfl|rfl
  ·exact m
  ·exact m
 have H:xs.length+ys.length≤maxLen:=by simp only [L9] at hm;simp only [maxLen];omega
 have k:(xs.length+ys.length)*i.bytes≤140737488355328:=by
  have:=Nat.mul_le_mul hm M
  simp only [L9] at this;omega
 have N:(A=none∧ys=[])∨∃ ad,A=some ad∧∀ j y,l[j]? = some y→w.cell? (ad.add j)=some y:=by
  rcases n with rfl|n
  ·cases A with
   |none=>exact .inl ⟨rfl,rfl⟩
   |some ad=>exact .inr ⟨ad,rfl,fun j y hj=>by have m:l=[]:=m;subst m;simp at hj⟩
  ·exact .inr n
 clear n;rcases N with ⟨rfl,rfl⟩|⟨ad,rfl,n⟩
 ·refine⟨v,w,us,MR J L d,by simpa using d,by simpa using T,uB _ _,fun b hb=> .inl hb.symm⟩
 ·have hl:=lD m;obtain⟨s,w',O,k2,W,_⟩:=run_append_own (P:=P) w 0 t ty e i z i.size i.bytes J L S rfl rfl I E v xs.length us d ad ys.length cap l hl n (MU m) H k (C4 _);exact⟨s,w',us++l,O,by rw [A7];exact k2,EL T m,W,WC J L S d hl n (MU m) H k O⟩
def Md (S:At u p g st a w)(T:∀ x,p x→q x){nid:Nat}(l:oD p q nid){x y:Operand}{t:TypeId}{c:Call}(hop:o.op = .call c)(hcal:c.callee = .builtin .append)(I:c.args=#[x,y])(hts:c.argTypes=#[t,t]) (h:CH P t (R0 st x) (R0 st y) nid st K=some r):Goal u p q g st a w P o K r:=by
 have d:=S.ev x;have hvy:=S.ev y;have hux:=S.eZ x;have exec:∀ v w',(Builtin.append_ #[t,t] o.type #[a.eval x,a.eval y]).run P w = .ok v w'→(execOp a.eval o).run P w = .ok (.value v) w':=by intro v w' e;simp only [execOp,hop,resolve,hcal,I,hts];simp [invoke,builtin,e]
 unfold CH at h;split at h
 ·cases h
 ·rename_i e he;have ht:=tX he;simp only [] at h;split at h
  ·cases h
  ·(rename_i sz' ys hl;obtain⟨J,h⟩:=J6 h;simp only [A9,Bool.or_eq_true,List.isEmpty_iff] at J;obtain⟨hby,j⟩:=J;obtain⟨i,z,hi,hb1,s,hb3,hb4⟩:=GL hby);have k:cA P e=i.size:=by simp [cA,hi]
   have j:sz'=i.size∨ys=[]:=by
    rcases j with j|j
    ·exact .inl (by rw [← k];exact (B0 j).symm)
    ·exact .inr j
   have n:=xH S.hp hvy hl;split at h
   ·rename_i H;obtain⟨hm,h⟩:=J6 h;have hm:ys.length≤L9:=B3 hm;rw [H] at d;have d:a.eval x = .slice none 0 0:=d;obtain⟨L,w',C,k1,N,k3,k4,k5⟩:=TQ (ty:=o.type) (xs:=[]) ht hi hb3 hb4 s hb1 (World.ownsRow_nil w 0 e i.size) rfl n j (by simpa using hm);obtain⟨g',m1,m2,m3,m4,m5⟩:=kB (e:=e) (sz:=cA P e) (xs:=ys) (v:=L) (us:=C) (h':=(newRow st nid e (cA P e) ys).h) S.hp T l.zero.1 l.zero.2 k4 (by rw [k];exact N) (by rw [k];exact s) (by rw [k];exact k3) (fun b hb=>by cases hb) k5 (fun o' x A E=>by rw [newRow,bT,if_neg E] at A;exact⟨A,fun _ _ e=>by cases e⟩) (by rw [newRow,bT];simp);refine Goal.res h (exec L w' (by rw [d];exact k1)) m5 m1 (JM k4 m1) ⟨m4.symm,?_⟩ l.zero.2 rfl rfl;rcases cP N with ⟨rfl,_⟩|⟨_,_,_,rfl,_⟩<;>rfl
   ·rename_i ro H;split at h
    ·rename_i e' M xs m;replace h:=J6 h;obtain⟨J,h⟩:=h;simp only [A9] at J;have hee:e=e':=B0 J.1;have hss:cA P e=M:=B0 J.2;replace h:=J6 h;obtain⟨hmb,h⟩:=h;have hm:xs.length+ys.length≤L9:=B3 hmb;subst hee;subst hss;rw [H] at d;have d:a.eval x=g.hdr ro:=d.1;obtain⟨us,hpos,B,hf⟩:=S.hp.ob _ _ m;rw [k] at B hf;obtain⟨L,w',C,k1,N,k3,k4,k5⟩:=TQ (ty:=o.type) ht hi hb3 hb4 s hb1 B hf n j hm;have O:p ro:=(S.hp.use _ _ m).1;have hne0:ro≠nid:=fun e=>l.zero.1 (e▸O);obtain⟨g',m1,m2,m3,m4,m5⟩:=kB (e:=e) (sz:=cA P e) (xs:=xs++ys) (v:=L) (us:=C) (h':=(newRow (st.nM ro none) nid e (cA P e) (xs++ys)).h) S.hp T l.zero.1 l.zero.2 k4 (by rw [k];exact N) (by rw [k];exact s) (by rw [k];exact k3) (fun b hb=>S.hp.sep ro _ b m hb) k5 (fun o' x A E=>by
       rw [newRow,bT,if_neg E,bT] at A;split at A
       ·cases A
       ·rename_i W;exact⟨A,fun b hb e=>W (S.hp.inj o' ro _ _ b A m hb e.symm)⟩) (by rw [newRow,bT];simp)
     refine Goal.res h (exec L w' (by rw [d];exact k1)) m5 m1 (JM k4 m1) ⟨m4.symm,?_⟩ l.zero.2 rfl rfl;rcases cP N with ⟨rfl,_⟩|⟨_,_,_,rfl,_⟩<;>rfl
    ·cases h
   ·cases h
def TL (h:Nat→Option Obj):∀ s:G1,sO h 1 (s.map fun b=>D.int .u8 (b.toNat:Int)) (s.map fun b=>Value.int .u8 b.toNat)
 |[]=>rfl
 |b::s=>⟨.int .u8 b.toNat,_,rfl,rfl,by intro y d;simp [Value.cells] at d;subst d;rfl,rfl,TL h s⟩
def Hc {h:Nat→Option Obj}{sz:Nat}:∀ {xs ys:List D} {us b:List Value},sO h sz xs us→sO h sz ys b→sO h sz (xs++ys) (us++b)
 |[],ys,us,b,h1,h2=>by cases h1;exact h2
 |x::xs,ys,us,b,h1,h2=>by obtain⟨v,r,rfl,a1,a2,a3,a4⟩:=h1;exact⟨v,r++b,by rw [C1],a1,a2,a3,Hc a4 h2⟩
def JA {t l ty e:TypeId}{i:TypeInfo}(B:P.underlying t=some (.slice e))(A:P.underlying l=some .string)(C:P.info? e=some i){z:Value}(L:i.zero=some z)(x:i.size=1)(H:i.bytes≤2048){v J:Value}{n:Nat}{xs:List Value}{s:ByteArray} (d:w.ownsRow 0 e 1 v n xs) (I:n+s.size≤L9) (k:(Builtin.append_ #[t,l] ty #[v,.string s]).run P w = .ok J w'):∀ b,J.ownBlock=some b→some b=v.ownBlock∨w.heap.size≤b:=by
 have M:n+s.size≤68719476736:=I;have y:(n+s.size)*i.bytes≤140737488355328:=by have h1:(n+s.size)*i.bytes≤(n+s.size)*2048:=Nat.mul_le_mul_left _ H;omega
 intro b m;rcases d.2 with ⟨rfl,rfl⟩|⟨E,cap,cur,rfl,_,O,N,T,S,_⟩
 ·by_cases hm:s.size=0
  ·have:(Builtin.append_ #[t,l] ty #[.slice none 0 0,.string s]).run P w = .ok (.slice none 0 0) w:=by
    simp [Builtin.append_,run_underlying B,run_underlying A,sizeOf,typeInfo,C,Builtin.lenOf,hm,Builtin.firstCells]
   rw [this] at k;cases k;cases m
  ·rw [run_append_nil_string (P:=P) w t l ty e i z B A C L s (by omega) (by omega) (by have m:=y;simp only [C5] at m;omega)] at k;cases k;simp only [Value.ownBlock,B1] at m;exact .inr (by omega)
 ·by_cases hroom:n+s.size≤cap
  ·rw [Lib.run_append_room_string (P:=P) w t l ty e i B A C x E n cap cur O s hroom (by omega)] at k;cases k;exact .inl m.symm
  ·have holds:∀ j u,xs[j]? = some u→w.cell? ((⟨E,0,none⟩:Addr).add j)=some u:=d.cells (g:=E) rfl;rw [Lib.run_append_grow_string (P:=P) w t l ty e i z B A C L ⟨E,0,none⟩ n cap xs (by have:=d.1;rw [x];exact this) holds s (by omega) (by omega) (growslice_fits (by omega) y)] at k;cases k;simp only [Value.ownBlock,B1] at m;exact .inr (by omega)
def SC {e:TypeId}(h:OR P e=true):∃ i,P.info? e=some i∧i.size=1∧i.bytes=1∧i.zero=some (.int .u8 0):=by
 unfold OR at h;split at h
 ·rename_i i j;simp only [A9] at h;obtain⟨⟨h1,h2⟩,b⟩:=h;split at b
  ·(rename_i n d;have:n=0:=by simpa using b);subst this;exact⟨i,j,B0 h1,B0 h2,d⟩
  ·cases b
 ·cases h
def Fu (S:At u p g st a w)(hpq:∀ x,p x→q x){nid:Nat}(l:oD p q nid){x y:Operand}{t B:TypeId}{s:G1}{c:Call}(hop:o.op = .call c)(M:c.callee = .builtin .append)(A:c.args=#[x,y])(W:c.argTypes=#[t,B]) (hu:P.underlying B=some .string) (hy:R0 st y = .d (.str s)) (h:vR P t (R0 st x) s nid st K=some r):Goal u p q g st a w P o K r:=by
 have k:=S.ev x;have E:=S.ev y;rw [hy] at E;obtain⟨z,hsb,H⟩:=E;have exec:∀ v w',(Builtin.append_ #[t,B] o.type #[a.eval x,a.eval y]).run P w = .ok v w'→(execOp a.eval o).run P w = .ok (.value v) w':=by intro v w' e;simp only [execOp,hop,resolve,M,A,W];simp [invoke,builtin,e]
 unfold vR at h;split at h
 ·rename_i e ro he he2;have ht:=tX he;split at h
  ·(rename_i e' sz xs j;replace h:=J6 h;obtain⟨hc,h⟩:=h;simp only [A9] at hc;obtain⟨⟨⟨⟨c1,c2⟩,c3⟩,c4⟩,hby⟩:=hc;have hee:e=e':=B0 c1;have hss:sz=1:=B0 c2;have hse:cA P e=1:=B0 c3;have hm:xs.length+s.length≤L9:=B3 c4;have hm':xs.length+s.length≤68719476736:=hm;subst hee;subst hss;obtain⟨i,hi,I,hb1,N⟩:=SC hby);rw [he2] at k;have k:a.eval x=g.hdr ro:=k.1;obtain⟨us,hpos,m,hf⟩:=S.hp.ob _ _ j;have hsz:z.size=s.length:=by rw [← H,E4];rfl
   (have hsc:Lib.strCells z=s.map fun b=>Value.int .u8 b.toNat:=by rw [Lib.strCells,H]);obtain⟨n,w',T,O,k4⟩:∃ n w',(Builtin.append_ #[t,B] o.type #[g.hdr ro,.string z]).run P w = .ok n w'∧w'.ownsRow 0 e 1 n (xs.length+z.size) (us++Lib.strCells z)∧w.grownBy w' (g.hdr ro).ownBlock:=by obtain⟨n,w',T,O,k3,_⟩:=Lib.run_append_own_string (P:=P) w 0 t B o.type e i ht hu hi N I hb1 (g.hdr ro) xs.length us m z (by simp only [maxLen];omega) (by omega) (C4 _);exact⟨n,w',T,O,k3⟩
   have k5:=JA ht hu hi N I (by omega) m (by simp only [L9];omega) T;have J:p ro:=(S.hp.use _ _ j).1;have hne0:ro≠nid:=fun e=>l.zero.1 (e▸J);obtain⟨g',m1,m2,m3,m4,m5⟩:=kB (e:=e) (sz:=1) (xs:=xs++s.map fun b=>D.int .u8 (b.toNat:Int)) (v:=n) (us:=us++Lib.strCells z) (h':=(newRow (st.nM ro none) nid e 1 (xs++s.map fun b=>D.int .u8 (b.toNat:Int))).h) S.hp hpq l.zero.1 l.zero.2 k4 (by rw [A7,List.length_map,← hsz];exact O) (by omega) (by rw [hsc];exact Hc hf (TL _ s)) (fun b hb=>S.hp.sep ro _ b j hb) k5 (fun o' x C hne=>by
     rw [newRow,bT,if_neg hne,bT] at C;split at C
     ·cases C
     ·rename_i L;exact⟨C,fun b hb e=>L (S.hp.inj o' ro _ _ b C j hb e.symm)⟩) (by rw [newRow,bT];simp)
   refine Goal.res h (exec n w' (by rw [k,hsb];exact T)) m5 m1 (JM k4 m1) ⟨m4.symm,?_⟩ l.zero.2 rfl rfl;rcases cP O with ⟨rfl,_⟩|⟨_,_,_,rfl,_⟩<;>rfl
  ·cases h
 ·cases h
def Wq (S:At u p g st a w)(W:∀ x,p x→q x){nid:Nat}(C:oD p q nid){t:TypeId}{x y:Operand}(ho:o.op = .makeSlice t x y) (h:QM P t (R0 st x) (R0 st y) nid st K=some r):Goal u p q g st a w P o K r:=by
 have l:=S.ev x;have k:=S.ev y;unfold QM at h;split at h
 ·rename_i e n m he T hy;have ht:=tX he;rw [T] at l;rw [hy] at k;have l:=wQ l;have k:=wQ k;split at h
  ·(rename_i z hz;obtain⟨i,d,L,E,hV⟩:=FZ hz;obtain⟨hc,h⟩:=J6 h;simp only [A9] at hc;obtain⟨i2,z2,hi,hb1,O,N,j⟩:=GL hc.1;rw [hi] at L;cases L;rw [N] at E;cases E;obtain⟨M,h⟩:=J6 h;simp only [A9,decide_eq_true_eq] at M;obtain⟨⟨h0,h1⟩,h2⟩:=M;have A:cA P e=i.size:=by simp [cA,hi]);have J:m.toNat≤L9:=by omega
   have s:(i.bytes:Int)*m≤281474976710656:=by
    (have:i.bytes*m.toNat≤2048*L9:=Nat.mul_le_mul hb1 J;have h3:((i.bytes*m.toNat:Nat):Int)≤281474976710656:=by simp only [L9] at this;omega);rw [Int.natCast_mul] at h3
    rwa [Int.toNat_of_nonneg (by omega)] at h3
   have H:=run_make (P:=P) w t e i d ht hi N .i64 .i64 n m h0 h1 s (by simp only [L9] at h2;omega);obtain⟨d1,d2⟩:=NI hc.2 (hV g.h);have B:(madeCells d.cells (m.toNat*i.size)).toList=(List.replicate m.toNat d.cells.toList).flatten:=by
    have:=BM d.cells (by rw [j];exact O) m.toNat
    rwa [j] at this
   have hf:=vK j d1 (hV g.h) n.toNat;have I:(w.alloc (.cells (madeCells d.cells (m.toNat*i.size)) e)).ownsRow 0 e i.size (.slice (some ⟨w.heap.size,0,none⟩) n.toNat m.toNat) n.toNat (List.replicate n.toNat d.cells.toList).flatten:=by
    (refine⟨by simp [j],.inr ⟨_,_,_,rfl,C4 _,heap_alloc_new w _,by omega,by simp only [L9] at J;simp only [maxLen];omega,size_madeCells _ _,?_⟩⟩;rw [B];have e1:List.replicate m.toNat d.cells.toList=List.replicate n.toNat d.cells.toList++List.replicate (m.toNat-n.toNat) d.cells.toList:=by rw [List.replicate_append_replicate];congr 1;omega);rw [e1,List.flatten_append];have e2:(List.replicate n.toNat d.cells.toList).flatten.length=n.toNat*i.size:=by simp [j]
    rw [← e2];exact List.take_left
   obtain⟨g',m1,m2,m3,m4,m5⟩:=kB (e:=e) (sz:=cA P e) (xs:=List.replicate n.toNat z) (v:= .slice (some ⟨w.heap.size,0,none⟩) n.toNat m.toNat) (us:=(List.replicate n.toNat d.cells.toList).flatten) (h':=(newRow st nid e (cA P e) (List.replicate n.toNat z)).h) S.hp W C.zero.1 C.zero.2 (World.grownBy_alloc w _ none) (by rw [A,List.length_replicate];exact I) (by rw [A];exact O) (by rw [A];exact hf) (fun b hb=>by cases hb) (fun b hb=>by simp only [Value.ownBlock,B1] at hb;exact .inr (by omega)) (fun o' x T hne=>by rw [newRow,bT,if_neg hne] at T;exact⟨T,fun _ _ e=>by cases e⟩) (by rw [newRow,bT];simp);refine Goal.res h (v:= .slice (some ⟨w.heap.size,0,none⟩) n.toNat m.toNat) ?_ m5 m1 (tK m1) ⟨m4.symm,rfl⟩ C.zero.2 rfl rfl;simp only [execOp,ho,l,k];simp [H]
  ·cases h
 ·cases h
def Wo (S:At u p g st a w)(hpq:∀ x,p x→q x){x y:Operand}{ts:Array TypeId}{c:Call}(hop:o.op = .call c)(hcal:c.callee = .builtin .copy)(M:c.args=#[x,y])(hts:c.argTypes=ts) {t N:TypeId} {e:TypeId} (ht:ts=#[t,N]) (he:oI P t=some e) (hok:IV P e=true) (h:TW P (R0 st x) (R0 st y) st K=some r) (hsz:cA P e=1):Goal u p q g st a w P o K r:=by
 have s:=S.ev x;have hvy:=S.ev y;have hux:=S.eZ x;have J:=tX he;obtain⟨_,info,_,L,_,hsi⟩:=lX hok;have exec:∀ v w',(Builtin.copy_ #[t,N] o.type #[a.eval x,a.eval y]).run P w = .ok v w'→(execOp a.eval o).run P w = .ok (.value v) w':=by intro v w' e;simp only [execOp,hop,resolve,hcal,M,hts,ht];simp [invoke,builtin,e]
 unfold TW at h;split at h
 ·rename_i ro hx;rw [hx] at s hux;split at h
  ·rename_i e' sz xs sz' ys i hl;obtain⟨hc,h⟩:=J6 h;simp only [A9,Bool.or_eq_true,List.isEmpty_iff] at hc;obtain⟨⟨hc1,hc2⟩,_⟩:=hc;have n:sz=1:=B0 hc1;have s:a.eval x=g.hdr ro:=s.1;obtain⟨A,cap,d,E,h2,h3,O,h5⟩:=xH S.hp hvy hl;have O:sO g.h 1 ys d:=by
    rcases hc2 with k|rfl
    ·have:sz=sz':=B0 k;rw [n] at this;subst this;exact O
    ·exact O
   (have hl2:=lD O;have hlx:d.length=ys.length:=by omega);have l:(P.info? e).map (·.size)=some 1:=by simp [L];omega
   have hzero:min ys.length xs.length=0→(Builtin.copy_ #[t,N] o.type #[a.eval x,a.eval y]).run P w = .ok (goInt (min ys.length xs.length:Nat)) w→Goal u p q g st a w P o K r:=by
    intro hm hr;have hst:st.nM ro (some (.row e' sz (ys.take xs.length++xs.drop ys.length) false))=st:=by
     have hxy:ys.take xs.length++xs.drop ys.length=xs:=by
      rcases Nat.eq_zero_or_pos ys.length with h0|h0
      ·have:ys=[]:=D1 h0;subst this;simp
      ·have:xs=[]:=D1 (by omega);subst this;simp
     rw [hxy];have:(st.nM ro (some (.row e' sz xs false))).h=st.h:=by
      funext z;rw [bT];split
      ·rename_i k;subst k;exact i.symm
      ·rfl
     show (⟨st.t,(st.nM ro (some (.row e' sz xs false))).h,st.m⟩:St)=st;rw [this]
    rw [hst] at h;exact Goal.val S hpq h (exec _ _ hr) rfl trivial
   by_cases hm:min ys.length xs.length=0
   ·refine hzero hm ?_;rw [s,E,hm];rcases HG S.hp i with ⟨I,k2⟩|⟨b,C,I,_⟩
    ·rw [I];exact run_copy_none (P:=P) w t N o.type e none A 0 0 ys.length cap J l (by simp [Nat.min_def] )
    ·rw [I];exact run_copy_none (P:=P) w t N o.type e _ A xs.length C ys.length cap J l hm
   ·rcases h5 with rfl|⟨ad,rfl,h5⟩
    ·simp at hm
    ·rcases HG S.hp i with ⟨I,k2⟩|⟨b,C,I,k2,k3⟩
     ·rw [k2] at hm;simp at hm
     ·(have hbk:(g.hdr ro).ownBlock=some b:=by rw [I];rfl);obtain⟨cap2,cur,q1,q2,q3,q4,q5,q6,q7⟩:=RB S.hp i hbk;have hcl:(d.take xs.length).length=Nat.min ys.length xs.length:=by
       simp only [D7,hlx,Nat.min_def];split<;>split<;>omega
      (have hcur:cur.size=cap2:=by rw [q6,n];omega);have hle:(d.take xs.length).length≤xs.length:=by simp only [D7];omega
      have B:=run_copy_row (P:=P) w t N o.type e b 0 xs.length C ad ys.length cap cur e' (d.take xs.length) J l q3 hcl (fun j v hj=>by
       rw [List.getElem?_take] at hj;split at hj
       ·exact h5 j v hj
       ·cases hj) (by omega) (fun v hv=>MU O v (List.mem_of_mem_take hv))
      (rw [← E,← I,← s] at B;have W:(cur.toList.take 0++d.take xs.length++cur.toList.drop (0+(d.take xs.length).length))=setAt cur.toList 0 (d.take xs.length):=by rw [RE _ _ _ (by simp only [E4];omega)]);rw [W] at B;have hf':sO g.h sz (ys.take xs.length++xs.drop ys.length) ((setAt cur.toList 0 (d.take xs.length)).take (xs.length*sz)):=by
       rw [FR,n,Nat.mul_one];rw [n,Nat.mul_one] at q7;have hlq:=lD q7;rw [RE _ _ _ (by omega)];simp only [List.take_zero,List.nil_append,C5];have e1:=zM xs.length O;rw [Nat.mul_one] at e1;refine EL e1 ?_;have e2:=zK ys.length q7;rw [Nat.mul_one] at e2;rcases Nat.le_total ys.length xs.length with H|H
       ·(have:(d.take xs.length).length=ys.length:=by simp only [D7];omega);rw [this];exact e2
       ·(have:xs.drop ys.length=[]:=D4 H;rw [this];have:(d.take xs.length).length=xs.length:=by simp only [D7];omega);rw [this];show _=[];exact D4 (by omega)
      have T:=RC (h':=(st.nM ro (some (.row e' sz (ys.take xs.length++xs.drop ys.length) false))).h) (c':=(setAt cur.toList 0 (d.take xs.length)).toArray) S.hp i hbk q3 (by simp [tG]) (by simp;omega) (by simpa using hf') (fun x=>bT _ _ _ _);refine Goal.res h (v:=goInt (min ys.length xs.length:Nat)) (exec _ _ ?_) (T.more hpq) (U5.refl p g) (tZ (U5.refl p g) _ _) rfl trivial rfl rfl;rw [B,hcl]
  ·cases h
 ·cases h
end
end Go.AE
namespace Go.AE
open Go.RowKit
def F2.modify {α β:Type}{r:α→β→Prop}{x:α}{f:β→β}:∀ {zs:List α} {bs:List β} {j:Nat},F2 r zs bs→(∀ b,bs[j]? = some b→r x (f b))→F2 r (zs.set j x) (bs.modify j f)
 |[],_,j,h,_=>by cases h;cases j<;>exact .nil
 |a::zs,_,0,h,d=>by
  cases h with
  |cons h1 h2=>exact .cons (d _ rfl) h2
 |a::zs,_,j+1,h,d=>by
  cases h with
  |cons h1 h2=>exact .cons h1 (F2.modify h2 fun b i=>d b (by simpa using i))
section
variable {hh:Nat→Option Obj} {P:Program} {w:World}
def aC8 {l:tH}(n:LK l=true){a b:D}(k:eO l a=true)(j:eO l b=true){x y:Value}(i:VD hh a x)(d:VD hh b y):tY a b=true↔x=y:=by
 cases l<;>simp only [LK,D6] at n
 ·cases a<;>simp only [eO,D6] at k;cases b<;>simp only [eO,D6] at j;have i:x=_:=i;have d:y=_:=d;subst i d;simp [tY]
 ·cases a<;>simp only [eO,D6] at k;cases b<;>simp only [eO,D6] at j;have i:x=_:=i;have d:y=_:=d;subst i d;have k:=E7 k;have j:=E7 j;subst k j;simp [tY]
 ·cases a<;>simp only [eO,D6] at k;cases b<;>simp only [eO,D6] at j;obtain⟨s,rfl,rfl⟩:=i;obtain⟨m,rfl,rfl⟩:=d;simp only [tY,beq_iff_eq,Value.string.injEq];constructor
  ·intro e;cases s;cases m;congr 1;exact Array.ext' e
  ·intro e;subst e;rfl
def Ff {k:TypeId}(j:LK (kF P k)=true):∃ d,P.underlying k=some d∧∀ (a:D) (x:Value),eO (kF P k) a=true→VD hh a x→MapKept.IsKey d x:=by
 unfold kF at j ⊢;split at j<;>simp only [LK,D6] at j
 ·rename_i h;refine⟨_,h,fun a x i b=>?_⟩;try simp only [h] at i
  cases a<;>simp only [eO,D6] at i;have b:x=_:=b;subst b;trivial
 ·rename_i l h;refine⟨_,h,fun a x i b=>?_⟩;try simp only [h] at i
  cases a<;>simp only [eO,D6] at i;have b:x=_:=b;subst b;exact (E7 i).symm
 ·rename_i h;refine⟨_,h,fun a x i b=>?_⟩;try simp only [h] at i
  cases a<;>simp only [eO,D6] at i;obtain⟨s,rfl,_⟩:=b;trivial
def aJ7 (hh:Nat→Option Obj)(b:tH)(x:D)(m:MapEntry):Prop:=VD hh (x.at_ 0) m.key∧VD hh (x.at_ 1) m.val∧eO b (x.at_ 0)=true
def EY {k:TypeId}{d:TypeDesc}(C:LK (kF P k)=true)(B:∀ (a:D) (x:Value),eO (kF P k) a=true→VD hh a x→MapKept.IsKey d x){m:D}{key:Value}(n:eO (kF P k) m=true)(b:VD hh m key) :∀ (xs:List D) (es:List MapEntry) (i:Nat),F2 (aJ7 hh (kF P k)) xs es→(HB m xs=none∧Instr.findNow d key es i=some none)∨∃ j x e,HB m xs=some j∧Instr.findNow d key es i=some (some (i+j,e.val))∧xs[j]? = some x∧es[j]? = some e∧e.key=key∧aJ7 hh (kF P k) x e
 |[],_,i,h=>by cases h;exact .inl ⟨rfl,rfl⟩
 |x::xs,_,i,h=>by
  cases h with
  |@cons _ e _ es h1 h2=>
   obtain⟨r,z,l⟩:=MapKept.sameNow_of_keys (B m key n b) (B _ _ h1.2.2 h1.1);have E:=aC8 C n h1.2.2 b h1.1
   cases r with
   |true=>have e1:=l.1 rfl;exact .inr ⟨0,x,e,by simp only [HB,E.2 e1,cond_true],by simp [Instr.findNow,z],rfl,rfl,e1.symm,h1⟩
   |false=>
    (have A:key≠e.key:=fun q=>by have:=l.2 q;cases this);have s:tY m (x.at_ 0)=false:=by
     cases s:tY m (x.at_ 0) with
     |false=>rfl
     |true=>exact absurd (E.1 s) A
    rcases EY C B n b xs es (i+1) h2 with ⟨y,t⟩|⟨j,x',L,y,t,J,k4,I,H⟩
    ·exact .inl ⟨by simp only [HB,s,y,cond_false],by simp [Instr.findNow,z,t]⟩
    ·exact .inr ⟨j+1,x',L,by simp only [HB,s,y,cond_false],by simp [Instr.findNow,z,t];omega,by simpa using J,by simpa using k4,I,H⟩
def Mh {e:TypeId}{i:TypeInfo}{z:Value}(d:P.info? e=some i)(b:i.zero=some z):(zeroValue e).run P w = .ok z w:=by simp [zeroValue,typeInfo,d,b]
def found (z:Value):Option (Nat×Value)→Value
 |some (_,v)=>v
 |none=>z
def Gd {t k e:TypeId}{d:TypeDesc}(n:P.underlying t=some (.map k e))(s:P.underlying k=some d){key m z:Value}(b:MapKept.IsKey d key){es:Array MapEntry}(hm:(m = .map none∧es=#[])∨∃ r clock,m = .map (some r)∧w.heap[r]? = some (.map es clock)) {f:Option (Nat×Value)} (x:Instr.findNow d key es.toList 0=some f) (l:(zeroValue e).run P w = .ok z w) (ok:Bool) :(Instr.lookup t m key ok).run P w = .ok (if ok then .tuple #[found z f,.bool f.isSome] else found z f) w:=by
 have j:=MapKept.run_checkKey (w:=w) s b es.isEmpty 9999;have i:=MapKept.run_findKey (w:=w) s x;rcases hm with ⟨rfl,rfl⟩|⟨r,clock,rfl,y⟩
 ·simp [Instr.lookup,run_underlying n] at j i ⊢;simp only [j,i,Result.andThen_ok]
  cases f with
  |none=>simp [l,found]
  |some f=>simp [found]
 ·simp only [Instr.lookup,Sem.run_bind,run_underlying n,Result.andThen_ok,MapKept.run_getObj_map y,Sem.run_pure,j,i]
  cases f with
  |none=>simp [l,found]
  |some f=>simp [found]
def stays {d:TypeDesc}{key:Value}(b:MapKept.IsKey d key):(Instr.keyThatStays key key).run P w = .ok key w:=by
 have:Instr.sameBits 10000 key key=true:=by cases d<;>cases key<;>simp_all [MapKept.IsKey,Instr.sameBits,MapKept.bytes_beq]
 simp [Instr.keyThatStays,this]
def stored (es:List MapEntry)(clock:Nat)(key val:Value):Option (Nat×Value)→List MapEntry
 |some (i,_)=>es.modify i fun e=>{ e with key,val }
 |none=>es++[{ key,val,born:=clock }]
def TB {t k e:TypeId}{d:TypeDesc}(y:P.underlying t=some (.map k e))(A:P.underlying k=some d){key val:Value}(j:MapKept.IsKey d key){r clock:Nat}{es:Array MapEntry}(m:w.heap[r]? = some (.map es clock)) {f:Option (Nat×Value)} (E:Instr.findNow d key es.toList 0=some f) (s:∀ i v,f=some (i,v)→∃ x,es[i]? = some x∧x.key=key) :∃ l b,(Instr.mapUpdate t (.map (some r)) key val).run P w = .ok () { w with heap:=w.heap.setIfInBounds r (.map l b) }∧l.toList=stored es.toList clock key val f:=by
 have B:=MapKept.run_checkKey (w:=w) A j false 9999;have z:=MapKept.run_findKey (w:=w) A E
 cases f with
 |none=>refine⟨es.push { key,val,born:=clock },clock+1,?_,by simp [stored]⟩;simp [Instr.mapUpdate,run_underlying y,MapKept.run_getObj_map m,B,z,MapKept.run_setObj_map _ m]
 |some f=>
  obtain⟨i,v⟩:=f;obtain⟨x,C,n⟩:=s i v rfl;refine⟨es.modify i fun e=>{ e with key,val },clock,?_,by simp [stored]⟩;have e1:((es[i]?).map (·.key)).getD key=key:=by rw [C];simpa using n
  simp only [Instr.mapUpdate,Sem.run_bind,run_underlying y,Result.andThen_ok,MapKept.run_getObj_map m,B,z,e1,stays j,MapKept.run_setObj_map _ m]
end
section
variable {u:Nat→Option Obj} {p q:Nat→Prop} {g:G} {st:St} {a:Act} {w:World} {P:Program} {o:Oper} {R:Type} {K:V→St→Option R} {r:R}
def UR {t k e:TypeId}(h:Rh P t=some (k,e)):P.underlying t=some (.map k e):=by
 unfold Rh at h;split at h
 ·rename_i d i b;cases h;exact b
 ·cases h
def Fz (S:At u p g st a w)(l:∀ x,p x→q x){nid:Nat}(j:oD p q nid){t:TypeId}(A:o.op = .makeMap t none) (h:xK P t nid st K=some r):Goal u p q g st a w P o K r:=by
 unfold xK at h;split at h
 ·rename_i k e B;obtain⟨z,h⟩:=J6 h;have m:=j.zero.1;have i:=j.zero.2;have y:U5 p g ⟨g.h,fun x=>if x=nid then w.heap.size else g.blk x,g.hdr⟩:=⟨fun _ _ h=>h,fun x d=>by
   have:x≠nid:=fun e=>m (e▸d);simp [this],fun _ _=>rfl⟩
  refine Goal.res h (v:= .map (some w.heap.size)) (w':=w.alloc (.map #[] 0)) (by simp [execOp,A,Instr.makeMap]) ?_ y (tK y) ?_ i rfl rfl
  ·refine S.hp.update y rfl none (fun k z _=>heap_alloc_old w _ z) (fun b s=>by cases s) l nid ?_ ?_
   ·intro o' x d n;rw [bT,if_neg n] at d;exact⟨d,fun b _ e=>by cases e⟩
   ·intro x d;rw [bT,if_pos rfl] at d;simp only [B1] at d;subst d;refine⟨⟨#[],0,?_,.nil⟩,?_,i,trivial⟩
    ·simp only [if_true];exact heap_alloc_new w _
    ·intro b s;simp only [pC,if_true,B1] at s;exact .inr (by omega)
  ·show Value.map _ = .map (some (if nid=nid then w.heap.size else g.blk nid));rw [if_pos rfl]
 ·cases h
def Mf (S:At u p g st a w)(I:∀ x,p x→q x){t:TypeId}{x i:Operand}{ok:Bool}(ho:o.op = .lookup t x i ok) (h:vA P t (R0 st x) (R0 st i) ok st K=some r):Goal u p q g st a w P o K r:=by
 have m:=S.ev x;have l:=S.ev i;unfold vA at h;split at h
 ·rename_i k e O ht hi;rw [hi] at l;have l:VD g.h O (a.eval i):=l;split at h
  ·rename_i z xs hz n;obtain⟨N,h⟩:=J6 h;simp only [A9] at N;obtain⟨d,hd,M⟩:=Ff (hh:=g.h) N.1;have J:=M _ _ N.2 l;obtain⟨inf,zv,L,T,hZ⟩:=FZ hz;have W:=Mh (w:=w) L T;have hm:∃ es:Array MapEntry,F2 (aJ7 g.h (kF P k)) xs es.toList∧((a.eval x = .map none∧es=#[])∨∃ r clock,a.eval x = .map (some r)∧w.heap[r]? = some (.map es clock)):=by
    split at n
    ·rename_i no A;rw [A] at m;split at n
     ·rename_i kt xs' hno;obtain⟨H,n⟩:=J6 n;cases n;have H:=tH.YU H;subst H;obtain⟨es,clock,s,C⟩:=S.hp.ob _ _ hno;exact⟨es,C,.inr ⟨_,clock,m,s⟩⟩
     ·cases n
    ·rename_i A;cases n;rw [A] at m;exact⟨#[],.nil,.inl ⟨m,rfl⟩⟩
    ·cases n
   obtain⟨es,hF,hm⟩:=hm;unfold typed at h;obtain⟨E,h⟩:=J6 h;simp only [A9] at E;have main:∀ (f:Option (Nat×Value)) (y:Value),Instr.findNow d (a.eval i) es.toList 0=some f→found zv f=y→VD g.h (getM z O xs) y→f.isSome=Qq O xs→Goal u p q g st a w P o K r:=by
    intro f y hf hy B H;have b:=Gd (w:=w) (UR ht) hd J hm hf W ok;rw [hy,H] at b;have B:=BP E.2 B
    cases ok with
    |true=>simp only [cond_true,if_true] at h b;refine Goal.val S I h (v:= .tuple #[y,.bool (Qq O xs)]) (by simp only [execOp,ho];simp [b]) ⟨_,rfl,.cons B (.cons rfl .nil)⟩ (fun v B=>?_);simp only [B7,List.not_mem_nil,or_false] at B;rcases B with rfl|rfl<;>trivial
    |false=>simp only [cond_false,D6,if_false] at h b;exact Goal.val S I h (v:=y) (by simp only [execOp,ho];simp [b]) B trivial
   rcases EY N.1 M N.2 l xs es.toList 0 hF with ⟨s,C⟩|⟨j,x',e',s,C,k3,k4,k5,k6⟩
   ·refine main none zv C rfl ?_ ?_
    ·simp only [getM,s];exact hZ _
    ·simp only [Qq,s];rfl
   ·refine main _ e'.val C rfl ?_ ?_
    ·simp only [getM,s,k3,Option.getD_some];exact k6.2.1
    ·simp only [Qq,s];rfl
  ·cases h
 ·cases h
def YB (S:At u p g st a w)(O:∀ x,p x→q x){t:TypeId}{x i y:Operand}(ho:o.op = .mapUpdate t x i y) (h:CU P t (R0 st x) (R0 st i) (R0 st y) st K=some r):Goal u p q g st a w P o K r:=by
 have B:=S.ev x;have s:=S.ev i;have hvy:=S.ev y;have huy:=S.eZ y;unfold CU at h;split at h
 ·rename_i k e kd no ht hi A;rw [hi] at s;rw [A] at B;have s:VD g.h kd (a.eval i):=s;have B:a.eval x = .map (some (g.blk no)):=B;split at h
  ·rename_i kt xs dd fz T hdd;obtain⟨z,h⟩:=J6 h;simp only [A9] at z;obtain⟨⟨⟨hs,I⟩,C⟩,_⟩:=z;have hs:=tH.YU hs;subst hs;obtain⟨d,hd,hik⟩:=Ff (hh:=g.h) I;have hkey:=hik _ _ C s;obtain⟨g1,f1,f2,f3,L⟩:=S.hp.freeze fz;have m:bJ st.h fz no=some (.mp (kF P k) xs):=by
    rcases xF fz st.h no with k|k
    ·rw [k,T]
    ·rw [k,T];rfl
   (obtain⟨es,clock,J,k2⟩:=L.ob _ _ m;have M:=KN hvy huy hdd (fun o ho=>ho) f1 L;have n:=oO f1.h _ _ s;have hik1:∀ (a:D) (x:Value),eO (kF P k) a=true→VD g1.h a x→MapKept.IsKey d x:=by obtain⟨d',hd',hik'⟩:=Ff (hh:=g1.h) I;rw [hd] at hd';cases hd';exact hik');(have hbo:g1.blk no=g.blk no:=by rw [f2]);have main:∀ f,Instr.findNow d (a.eval i) es.toList 0=some f→(∀ i' v,f=some (i',v)→∃ x,es[i']? = some x∧x.key=a.eval i)→F2 (aJ7 g1.h (kF P k)) (Sn kd dd xs) (stored es.toList clock (a.eval i) (a.eval y) f)→Goal u p q g st a w P o K r:=by
    intro f hf hfk hF;obtain⟨E,l,N,hes⟩:=TB (w:=w) (val:=a.eval y) (UR ht) hd hkey J hf hfk;obtain⟨m1,m2⟩:=MapKept.heap_set (o':=Obj.map E l) J;refine Goal.skip (w':={ w with heap:=w.heap.setIfInBounds (g1.blk no) (.map E l) }) (g':=g1) h (by simp only [execOp,ho,B];rw [← hbo];simp [N]) ?_ f1 ⟨f1.h,rfl,rfl,rfl,by simp⟩ rfl rfl;refine (L.update (w':={ w with heap:=w.heap.setIfInBounds (g1.blk no) (.map E l) }) (h':=((st.freeze fz).nM no (some (.mp (kF P k) (Sn kd dd xs)))).h) (U5.refl p g1) rfl (some (g1.blk no)) (fun b _ z=>m2 b (fun e=>z (by rw [e]))) (fun b z=>?_) O no ?_ ?_)
    ·cases z;exact L.sep no _ _ m rfl
    ·intro o' x A W;rw [bT,if_neg W] at A;refine⟨A,fun b z e=>?_⟩;cases e;exact W (L.inj o' no _ _ _ A m z rfl)
    ·intro x A;rw [bT,if_pos rfl] at A;simp only [B1] at A;subst A;refine⟨⟨E,l,m1,?_⟩,fun b z=>?_,O _ (L.use _ _ m).1,trivial⟩
     ·rw [hes];exact hF
     ·simp only [pC,B1] at z;exact .inl (by rw [z])
   have hent:aJ7 g1.h (kF P k) (.agg [kd,dd]) { key:=a.eval i,val:=a.eval y,born:=clock }:=⟨n,M,C⟩;rcases EY I hik1 C n xs es.toList 0 k2 with ⟨J,H⟩|⟨j,x',e',J,H,k3,k4,k5,k6⟩
   ·refine main none H (fun _ _ h=>by cases h) ?_;simp only [Sn,J];exact F2.append k2 (.cons hent .nil)
   ·refine main _ H (fun i' v h=>?_) ?_
    ·simp only [B1,C7] at h;obtain⟨h,_⟩:=h;rw [← h,C5];exact⟨e',by simpa using k4,k5⟩
    ·simp only [Sn,J,C5];exact F2.modify k2 fun b _=>⟨n,M,C⟩
  ·cases h
 ·cases h
end
end Go.AE
namespace Go.AE
open Go.RowKit
def tC:∀ {ren:List (Nat×Nat)} {l o:Nat},W4 ren l=some o→Qr ren o=true
 |[],_,_,h=>by cases h
 |(a,b)::r,l,o,h=>by
  simp only [W4] at h;simp only [Qr,Bool.or_eq_true]
  cases e:Nat.beq l a with
  |true=>rw [e] at h;simp only [cond_true,B1] at h;subst h;exact .inl (Nat.beq_refl b)
  |false=>rw [e] at h;exact .inr (tC h)
def uO (ren:List (Nat×Nat)):Prop:=∀ l b o,W4 ren l=some o→W4 ren b=some o→l=b
def uF {ren:List (Nat×Nat)}{l o x:Nat}:W4 ((l,o)::ren) x=if x=l then some o else W4 ren x:=by
 simp only [W4];by_cases e:x=l
 ·rw [if_pos e,beq_iff.2 e];rfl
 ·rw [if_neg e]
  cases k:Nat.beq x l with
  |true=>exact absurd (beq_iff.1 k) e
  |false=>rfl
def MW {ren d:List (Nat×Nat)}{l o:Nat}(h:Km ren l o=some d):W4 d l=some o∧(∀ n o',W4 ren n=some o'→W4 d n=some o')∧(uO ren→uO d):=by
 unfold Km at h;split at h
 ·rename_i o' e;obtain⟨m,h⟩:=J6 h;cases h;have:o=o':=beq_iff.1 m;subst this;exact⟨e,fun _ _ h=>h,id⟩
 ·rename_i e;obtain⟨m,h⟩:=N9 h;cases h;refine⟨by rw [uF,if_pos rfl],fun n o' j=>?_,fun h1=>?_⟩
  ·rw [uF,if_neg]
   ·exact j
   ·intro y;rw [y,e] at j;cases j
  ·intro a b x k i;rw [uF] at k i;split at k<;>split at i
   ·rename_i t s;rw [t,s]
   ·rename_i t s;cases k;have:=tC i;rw [m] at this;cases this
   ·rename_i t s;cases i;have:=tC k;rw [m] at this;cases this
   ·exact h1 a b x k i
def QI {n:Nat}:∀ {ren:List (Nat×Nat)},Ik n ren=true→∀ l o,W4 ren l=some o→l<n
 |[],_,_,_,h=>by cases h
 |(a,b)::r,h,l,o,hl=>by
  simp only [Ik,A9] at h;rw [uF] at hl;split at hl
  ·rename_i e;subst e;have h1:Nat.ble (l+1) n=true:=h.1;exact B3 h1
  ·exact QI h.2 l o hl
def TP {ren:List (Nat×Nat)}:∀ {os:List Nat},WA ren os=true→∀ l o,W4 ren l=some o→o∉os
 |[],_,_,_,_=>by simp
 |o'::os,h,l,o,hl=>by
  simp only [WA,A9,D8] at h;intro hm;rcases B7.1 hm with rfl|hm
  ·rw [tC hl] at h;simp at h
  ·exact TP h.2 l o hl hm
structure Le (c F:Cf):Prop where
 ds:∃ t,F.ds=c.ds++t
 fz:∀ o∈c.fz,o∈F.fz
 ren:∀ l o,W4 c.ren l=some o→W4 F.ren l=some o
def Le.refl (c:Cf):Le c c:=⟨⟨[],by simp⟩,fun _ h=>h,fun _ _ h=>h⟩
def Le.trans {a b c:Cf}(h:Le a b)(h':Le b c):Le a c:=by obtain⟨⟨t,n⟩,h2,s⟩:=h;obtain⟨⟨m,d⟩,j,i⟩:=h';exact⟨⟨t++m,by rw [d,n];simp⟩,fun o k=>j o (h2 o k),fun l o k=>i l o (s l o k)⟩
def QS:∀ (a:List D) (x:D) (t:List D),Y (a++x::t) a.length=x
 |[],_,_=>rfl
 |_::a,x,t=>by simpa [Y] using QS a x t
def Le.Y {c F:Cf}{x:D}(h:Le ⟨c.ds++[x],c.fz,c.ren⟩ F):AE.Y F.ds c.ds.length=x:=by obtain⟨t,b⟩:=h.ds;rw [b];simp only [C1,List.singleton_append];exact QS _ _ _
def E0:Ty→D→D:=fun _ x=>x
def yN (g gF:G)(ren:List (Nat×Nat)):G:=⟨gF.h,fun l=>g.blk ((W4 ren l).getD 0),fun l=>g.hdr ((W4 ren l).getD 0)⟩
section
variable {u:Nat→Option Obj} {p q:Nat→Prop} {g gF:G} {h:Nat→Option Ob} {w:World} {F:Cf}
def Rk {cs:List V}{t o f:Nat}:aY3 cs≠ .bp t o f:=by unfold aY3;split<;>exact fun h=>by cases h
def Vs {E:Ty→D→D}{ds:List D}{s:SV}{j t o f:Nat}(h:(kG E ds s j).1 = .bp t o f):s = .bp t o f:=by
 match s,h with
 | .bp ..,h=>cases h;rfl
 | .agg ss,h=>exact absurd h Rk
 | .fn _ [],h=>cases h
 | .fn _ (_::_),h=>cases h
 | .d _,h=>cases h
 | .ptr ..,h=>cases h
 | .row ..,h=>cases h
 | .mp ..,h=>cases h
 | .x,h=>cases h
def BE {E:Ty→D→D}{ds:List D}{t o f:Nat}:∀ {ss:List SV} {j:Nat},V.bp t o f∈(aZ E ds ss j).1→SV.bp t o f∈ss
 |[],j,h=>by cases h
 |s::ss,j,h=>by
  simp only [aZ] at h;rcases B7.1 h with h|h
  ·rw [Vs h.symm];exact B8 ..
  ·exact C0 _ (BE h)
def HI {E:Ty→D→D}{ds:List D}{t o f:Nat}:∀ {ss:List SV} {j:Nat},SV.bp t o f∈ss→V.bp t o f∈(aZ E ds ss j).1
 |[],j,h=>by cases h
 |s::ss,j,h=>by
  simp only [aZ];rcases B7.1 h with h|h
  ·subst h;exact B8 ..
  ·exact C0 _ (HI h)
def GO {h:Nat→Option Ob}{t l f:Nat}:∀ {ss:List SV} {cs:List V} {c c':Cf},nS h c ss cs=some c'→SV.bp t l f∈ss→∃ o i,V.bp t o i∈cs
 |[],[],c,c',_,hm=>by cases hm
 |[],_::_,c,c',b,hm=>by cases hm
 |_::_,[],c,c',b,hm=>by cases b
 |s::ss,v::k,c,c',b,hm=>by
  simp only [nS] at b;split at b
  ·rename_i n h1;rcases B7.1 hm with hm|hm
   ·subst hm
    match v,h1 with
    | .bp m o i,h1=>simp only [KX] at h1;obtain⟨j,_⟩:=J6 h1;simp only [A9] at j;rw [beq_iff.1 j.1];exact⟨o,i,B8 ..⟩
    | .d (.agg _),h1=>simp [KX,mV] at h1
    | .d .top,h1 | .d (.bool _),h1 | .d (.int _ _),h1 | .d (.str _),h1 | .d (.Z _ _),h1 | .d (.nils _ _),h1 | .d .und,h1 | .d (.fn _),h1 | .d .nilp,h1 | .d .nilf,h1 | .d .nilm,h1 | .d .nili,h1 | .d .ub,h1 | .d (.iface _ _),h1=>simp [KX,mV] at h1
    | .ptr ..,h1 | .el ..,h1 | .rp ..,h1 | .row _,h1 | .sub ..,h1 | .agg _,h1 | .fn _ _,h1 | .tup _,h1 | .mp _,h1=>simp [KX,mV] at h1
   ·obtain⟨o,i,h⟩:=GO b hm;exact⟨o,i,C0 _ h⟩
  ·cases b
structure CX (u:Nat→Option Obj) (p q:Nat→Prop) (g gF:G) (h:Nat→Option Ob) (w:World) (F:Cf):Prop where
 S:aS u p gF (bJ h F.fz) w
 a:U5 p g gF
 q:∀ l o,W4 F.ren l=some o→q l
def KW (X:CX u p q g gF h w F){c c':Cf}{s:SV}{v:V}(b:mV h c s v=some c')(y:Le c' F) :Le c c'∧c'.ds.length=(dG E0 F.ds s c.ds.length).2∧(uO c.ren→uO c'.ren)∧∀ val,VV g v val→v.aU p→VL (yN g gF F.ren) (dG E0 F.ds s c.ds.length).1 val∧(dG E0 F.ds s c.ds.length).1.pF q:=by
 unfold mV at b;split at b
 ·split at b
  ·rename_i x fz I;cases b;rename_i t _;refine⟨⟨⟨[FG t x],rfl⟩,fun o h=>by simp [h],fun _ _ h=>h⟩,by simp [dG],id,fun val d B=>?_⟩;have H:Y F.ds c.ds.length=FG t x:=by
    obtain⟨t,C⟩:=y.ds;rw [C];simp only [C1,List.singleton_append];exact QS _ _ _
   simp only [dG,E0,H];have z:VD gF.h (FG t x) val:=JZ (RI d B I (fun o E=>y.fz o (by simp [E])) X.a X.S);exact⟨z,trivial⟩
  ·cases b
 ·obtain⟨i,b⟩:=J6 b;simp only [A9] at i;split at b
  ·rename_i l f o J _ _ r n;cases b;obtain⟨m,k,j⟩:=MW n;refine⟨⟨⟨[],by simp⟩,fun _ h=>h,k⟩,rfl,j,fun val d _=>?_⟩;have hl:=y.ren _ _ m;have A:f=J:=beq_iff.1 i.1;subst A;refine⟨?_,X.q _ _ hl⟩;show val=_;simp only [yN,hl,Option.getD_some];exact d
  ·cases b
 ·obtain⟨i,b⟩:=J6 b;split at b
  ·rename_i l o _ _ r n;cases b;obtain⟨m,k,j⟩:=MW n;refine⟨⟨⟨[],by simp⟩,fun _ h=>h,k⟩,rfl,j,fun val d _=>?_⟩;have hl:=y.ren _ _ m;refine⟨?_,X.q _ _ hl⟩;show val=_∧_;simp only [yN,hl,Option.getD_some];exact d
  ·cases b
 ·cases b;exact⟨Le.refl c,rfl,id,fun val _ _=>⟨(trivial:VD _ .top _),trivial⟩⟩
 ·obtain⟨i,b⟩:=J6 b;split at b
  ·rename_i l o _ _ r n;cases b;obtain⟨m,k,j⟩:=MW n;refine⟨⟨⟨[],by simp⟩,fun _ h=>h,k⟩,rfl,j,fun val d _=>?_⟩;have hl:=y.ren _ _ m;refine⟨?_,X.q _ _ hl⟩;show val=_;simp only [yN,hl,Option.getD_some];exact d
  ·cases b
 ·obtain⟨i,b⟩:=J6 b;cases b;refine⟨Le.refl c,rfl,id,fun val d _=>⟨?_,trivial⟩⟩;rw [beq_iff.1 i];exact d
 ·obtain⟨i,b⟩:=J6 b;cases b;refine⟨Le.refl c,rfl,id,fun val d _=>⟨?_,trivial⟩⟩;rw [beq_iff.1 i];exact d
 ·cases b
def AO (X:CX u p q g gF h w F):∀ {ss:List SV} {j:List V} {c c':Cf},lT h c ss j=some c'→Le c' F→Le c c'∧c'.ds.length=(V1 E0 F.ds ss c.ds.length).2∧(uO c.ren→uO c'.ren)∧∀ vals,F2 (VV g) j vals→(∀ v∈j,v.aU p)→F2 (VL (yN g gF F.ren)) (V1 E0 F.ds ss c.ds.length).1 vals∧∀ v∈(V1 E0 F.ds ss c.ds.length).1,v.pF q
 |[],[],c,c',d,t=>by simp only [lT,B1] at d;subst d;exact⟨Le.refl c,rfl,id,fun vals i _=>by cases i;exact⟨.nil,fun v i=>by cases i⟩⟩
 |s::ss,v::j,c,c',d,t=>by
  simp only [lT] at d;split at d
  ·rename_i y h1;obtain⟨a1,a2,a3,a4⟩:=AO X d t;obtain⟨H,E,C,B⟩:=KW X h1 (a1.trans t);have e1:V1 E0 F.ds (s::ss) c.ds.length=((dG E0 F.ds s c.ds.length).1::(V1 E0 F.ds ss y.ds.length).1,(V1 E0 F.ds ss y.ds.length).2):=by
    simp only [V1];rw [E]
   refine⟨H.trans a1,by rw [e1];exact a2,fun k=>a3 (C k),fun vals i x=>?_⟩;rw [e1]
   cases i with
   |cons n m=>obtain⟨x1,x2⟩:=B _ n (x v (by simp));obtain⟨A,z⟩:=a4 _ m (fun l b=>x l (by simp [b]));exact⟨.cons x1 A,fun l b=>by rcases B7.1 b with rfl|b;exact x2;exact z l b⟩
  ·cases d
 |[],_::_,_,_,d,_=>by simp [lT] at d
 |_::_,[],_,_,d,_=>by simp [lT] at d
def mZ {E:Ty→D→D}{ds:List D}:∀ (ss:List SV) (j:Nat),(V1 E ds ss j).1.length=ss.length
 |[],_=>rfl
 |s::ss,j=>by simp only [V1,A0];rw [mZ ss]
def Ai (X:CX u p q g gF h w F){c c':Cf}{s:SV}{v:V}(k:KX h c s v=some c')(S:Le c' F) :Le c c'∧c'.ds.length=(kG E0 F.ds s c.ds.length).2∧(uO c.ren→uO c'.ren)∧∀ val,VV g v val→v.aU p→VA (yN g gF F.ren) (kG E0 F.ds s c.ds.length).1 val∧(kG E0 F.ds s c.ds.length).1.bO q:=by
 have leaf:kG E0 F.ds s c.ds.length=dG E0 F.ds s c.ds.length→mV h c s v=some c'→Le c c'∧c'.ds.length=(kG E0 F.ds s c.ds.length).2∧(uO c.ren→uO c'.ren)∧∀ val,VV g v val→v.aU p→VA (yN g gF F.ren) (kG E0 F.ds s c.ds.length).1 val∧(kG E0 F.ds s c.ds.length).1.bO q:=by intro e k;obtain⟨a1,a2,a3,a4⟩:=KW X k S;rw [e];refine⟨a1,a2,a3,fun val m B=>?_⟩;obtain⟨x1,x2⟩:=a4 val m B;exact⟨mR x1,pJ x1 x2⟩
 have C:∀ ss cs,s = .agg ss→lT h c ss cs=some c'→(∀ val,VV g v val→v.aU p→∃ us:Array Value,val = .agg us∧F2 (VV g) cs us.toList∧∀ x∈cs,x.aU p)→Le c c'∧c'.ds.length=(kG E0 F.ds s c.ds.length).2∧(uO c.ren→uO c'.ren)∧∀ val,VV g v val→v.aU p→VA (yN g gF F.ren) (kG E0 F.ds s c.ds.length).1 val∧(kG E0 F.ds s c.ds.length).1.bO q:=by intro ss cs hs n L;subst hs;obtain⟨a1,a2,a3,a4⟩:=AO X n S;have e:kG E0 F.ds (.agg ss) c.ds.length=(aY3 (V1 E0 F.ds ss c.ds.length).1,(V1 E0 F.ds ss c.ds.length).2):=rfl;rw [e];refine⟨a1,a2,a3,fun val m B=>?_⟩;obtain⟨us,rfl,A,M⟩:=L val m B;obtain⟨x1,x2⟩:=a4 us.toList A M;have:=vZ (x1.mono fun _ _ _ h=>mR h);rw [Array.toArray_toList] at this;refine⟨this,rF fun y hy=>?_⟩;obtain⟨b,_,z⟩:=x1.mem y hy;exact pJ z (x2 y hy)
 unfold KX at k;split at k
 ·rename_i f i W j;obtain⟨z,n⟩:=J6 k;have I:f=W:=beq_iff.1 z;subst I;clear k;obtain⟨a1,a2,a3,a4⟩:=AO X n S
  cases i with
  |nil=>(have N:j=[]:=by cases j with|nil=>rfl|cons=>simp [lT] at n);subst N;refine⟨a1,a2,a3,fun val m _=>⟨m,trivial⟩⟩
  |cons J i=>
   cases j with
   |nil=>simp [lT] at n
   |cons v0 j=>
    (have e:kG E0 F.ds (.fn f (J::i)) c.ds.length=(.fn f (V1 E0 F.ds (J::i) c.ds.length).1,(V1 E0 F.ds (J::i) c.ds.length).2):=rfl;rw [e];refine⟨a1,a2,a3,fun val m B=>?_⟩;obtain⟨us,rfl,A⟩:=m;have T:∀ x∈v0::j,x.aU p:=fun x H=>by obtain⟨b,_,z⟩:=A.mem x H;exact fH (pJ z (B x H)));obtain⟨x1,x2⟩:=a4 us.toList (A.mono fun _ _ _ h=>gX (mR h)) T;have O:=mZ (E:=E0) (ds:=F.ds) (J::i) c.ds.length;refine⟨?_,x2⟩;generalize (V1 E0 F.ds (J::i) c.ds.length).1=vs at *
    cases vs with
    |nil=>simp at O
    |cons y ys=>exact⟨us,rfl,x1⟩
 ·rename_i t l f t' o W;obtain⟨z,k⟩:=J6 k;simp only [A9] at z;split at k
  ·rename_i r hr;cases k;obtain⟨k1,k2,k3⟩:=MW hr;refine⟨⟨⟨[],by simp⟩,fun _ h=>h,k2⟩,rfl,k3,fun val m _=>?_⟩;have hl:=S.ren _ _ k1;have I:f=W:=beq_iff.1 z.2;subst I;refine⟨?_,X.q _ _ hl⟩;show val=_∨val=_;simp only [yN,hl,Option.getD_some];exact m
  ·cases k
 ·rename_i ss cs;refine C ss cs rfl k (fun val m B=>?_);obtain⟨us,h1,h2⟩:=Ec m;refine⟨us,h1,h2.mono fun _ _ _ h=>gX (mR h),fun x H=>?_⟩;obtain⟨b,_,z⟩:=h2.mem x H;exact fH (pJ z (B x H))
 ·rename_i ss cs;refine C ss _ rfl k (fun val m B=>?_);obtain⟨us,h1,h2⟩:=m;refine⟨us,h1,F2.HU (((mS _ _ _).1 h2).mono fun _ _ _ h=>h),fun x H=>?_⟩;obtain⟨d,_,rfl⟩:=List.mem_map.1 H;trivial
 ·rename_i h1 h2 h3;refine leaf ?_ k;unfold kG;split
  ·rename_i f J i;exfalso;simp only [mV] at k;cases k
  ·rename_i ss;simp only [mV] at k;cases k
  ·simp only [mV] at k;cases k
  ·rfl
def GP (X:CX u p q g gF h w F):∀ {ss:List SV} {j:List V} {c c':Cf},nS h c ss j=some c'→Le c' F→Le c c'∧c'.ds.length=(aZ E0 F.ds ss c.ds.length).2∧(uO c.ren→uO c'.ren)∧∀ vals,F2 (VA g) j vals→(∀ v∈j,v.bO p)→F2 (VA (yN g gF F.ren)) (aZ E0 F.ds ss c.ds.length).1 vals∧∀ v∈(aZ E0 F.ds ss c.ds.length).1,v.bO q
 |[],[],c,c',d,t=>by simp only [nS,B1] at d;subst d;exact⟨Le.refl c,rfl,id,fun vals i _=>by cases i;exact⟨.nil,fun v i=>by cases i⟩⟩
 |s::ss,v::j,c,c',d,t=>by
  simp only [nS] at d;split at d
  ·rename_i y h1;obtain⟨a1,a2,a3,a4⟩:=GP X d t;obtain⟨H,E,C,B⟩:=Ai X h1 (a1.trans t);have e1:aZ E0 F.ds (s::ss) c.ds.length=((kG E0 F.ds s c.ds.length).1::(aZ E0 F.ds ss y.ds.length).1,(aZ E0 F.ds ss y.ds.length).2):=by
    simp only [aZ];rw [E]
   refine⟨H.trans a1,by rw [e1];exact a2,fun k=>a3 (C k),fun vals i x=>?_⟩;rw [e1]
   cases i with
   |cons n m=>obtain⟨x1,x2⟩:=B _ (gX n) (fH (x v (by simp)));obtain⟨A,z⟩:=a4 _ m (fun l b=>x l (by simp [b]));exact⟨.cons x1 A,fun l b=>by rcases B7.1 b with rfl|b;exact x2;exact z l b⟩
  ·cases d
 |[],_::_,_,_,d,_=>by simp [nS] at d
 |_::_,[],_,_,d,_=>by simp [nS] at d
def GQ {st:St}(X:CX u p q g gF st.h w F){tm:Nat→Value}(l:∀ t,VV g (st.t t) (tm t))(j:∀ t,(st.t t).aU p):∀ {sl:List (Nat×SV)} {c c':Cf},vT st c sl=some c'→Le c' F→Le c c'∧c'.ds.length=(bF E0 F.ds sl c.ds.length).2∧(uO c.ren→uO c'.ren)∧∀ t,VV (yN g gF F.ren) ((bF E0 F.ds sl c.ds.length).1 t) (tm t)∧((bF E0 F.ds sl c.ds.length).1 t).aU q
 |[],c,c',b,i=>by simp only [vT,B1] at b;subst b;exact⟨Le.refl c,rfl,id,fun t=>⟨(trivial:VD _ .top _),trivial⟩⟩
 |(d,s)::sl,c,c',b,i=>by
  simp only [vT] at b;split at b
  ·rename_i z h1;obtain⟨a1,a2,a3,a4⟩:=GQ X l j b i;obtain⟨y,m,x,n⟩:=Ai X h1 (a1.trans i);obtain⟨x1,x2⟩:=n _ (l d) (j d);refine⟨y.trans a1,?_,fun k=>a3 (x k),fun t=>?_⟩
   ·simp only [bF];rw [← m];exact a2
   ·simp only [bF];rw [← m];by_cases e:t=d
    ·subst e;rw [beq_iff.2 rfl];exact⟨gX x1,fH x2⟩
    ·have:Nat.beq t d=false:=by
      cases k:Nat.beq t d with
      |true=>exact absurd (beq_iff.1 k) e
      |false=>rfl
     rw [this];exact a4 t
  ·cases b
def Oe (g g0:G)(p q:Nat→Prop)(h:Nat→Option Ob)(w:World)(ren:List (Nat×Nat))(l:Nat)(x0:Ob):Prop:=
 OB g0 l x0 w∧x0.aU q∧∃ o x,W4 ren l=some o∧h o=some x∧(∀ b,pC g0 l x0=some b→pC g o x=some b)
def tV (X:CX u p q g gF h w F)(S:aS u p g h w):∀ {obs:List IQ} {l:Nat} {c c':Cf},rM h c l obs=some c'→Le c' F→(c'.fz=c.fz∨True)→Le c c'∧(uO c.ren→uO c'.ren)∧∀ l0 x0,bA E0 F.ds obs l c.ds.length l0=some x0→Oe g (yN g gF F.ren) p q h w F.ren l0 x0
 |[],l,c,c',d,n,_=>by simp only [rM,B1] at d;subst d;exact⟨Le.refl c,id,fun l0 x0 h0=>by simp [bA] at h0⟩
 | .gone::r,l,c,c',d,n,W=>tV X S (obs:=r) (l:=l+1) d n W
 | .var ss::r,l,c,c',d,n,_=>by
  simp only [rM] at d;split at d
  ·rename_i o hl;split at d
   ·rename_i cs y;split at d
    ·rename_i c1 h1;obtain⟨a1,a3,a4⟩:=tV X S d n (.inr trivial);obtain⟨B,b2,b3,b4⟩:=GP X h1 (a1.trans n);refine⟨B.trans a1,fun k=>a3 (b3 k),fun l0 x0 h0=>?_⟩;have e1:bA E0 F.ds (.var ss::r) l c.ds.length l0=bif Nat.beq l0 l then some (.var (aZ E0 F.ds ss c.ds.length).1) else bA E0 F.ds r (l+1) c1.ds.length l0:=by
      simp only [bA];rw [← b2]
     rw [e1] at h0
     cases e:Nat.beq l0 l with
     |false=>rw [e] at h0;exact a4 l0 x0 h0
     |true=>(rw [e] at h0;have e:l0=l:=beq_iff.1 e;subst e;simp only [cond_true,B1] at h0;subst h0;have i:=((B.trans a1).trans n).ren _ _ hl;obtain⟨cc,ee,H,E,I⟩:=S.ob _ _ y;obtain⟨x1,x2⟩:=b4 _ E (S.use _ _ y).2;have j:(yN g gF F.ren).blk l0=g.blk o:=by simp [yN,i]);refine⟨⟨cc,ee,by rw [j];exact H,x1,I.1,fun t o' f hm=>by obtain⟨T,f',O⟩:=GO h1 (BE hm);exact I.2 _ _ _ O⟩,x2,o,_,i,y,fun b A=>?_⟩;simp only [pC,j] at A;exact A
    ·cases d
   ·cases d
  ·cases d
 | .row e sz m::r,l,c,c',d,n,_=>by
  simp only [rM] at d;split at d
  ·rename_i o hl;split at d
   ·rename_i e' J xs y;obtain⟨A,d⟩:=J6 d;simp only [A9] at A;have he:e=e':=beq_iff.1 A.1;have C:sz=J:=beq_iff.1 A.2;obtain⟨a1,a3,a4⟩:=tV X S d n (.inr trivial);have B:Le c ⟨c.ds++[.Z sz xs],c.fz,c.ren⟩:=⟨⟨_,rfl⟩,fun _ h=>h,fun _ _ h=>h⟩;refine⟨B.trans a1,a3,fun l0 x0 h0=>?_⟩;have N:Y F.ds c.ds.length = .Z sz xs:=Le.Y (a1.trans n);have e1:bA E0 F.ds (.row e sz m::r) l c.ds.length l0=bif Nat.beq l0 l then some (.row e sz xs false) else bA E0 F.ds r (l+1) (c.ds.length+1) l0:=by
     simp only [bA,N,D.l]
    rw [e1] at h0
    cases x:Nat.beq l0 l with
    |false=>rw [x] at h0;exact a4 l0 x0 (by simpa using h0)
    |true=>
     (rw [x] at h0;have x:l0=l:=beq_iff.1 x;subst x;simp only [cond_true,B1] at h0;subst h0;have i:=((B.trans a1).trans n).ren _ _ hl;obtain⟨us,H,E,I⟩:=S.ob _ _ y;have z:(yN g gF F.ren).hdr l0=g.hdr o:=by simp [yN,i]);refine⟨⟨us,by rw [C];exact H,?_,?_⟩,trivial,o,_,i,y,fun b s=>?_⟩
     ·rw [z,he,C];exact E
     ·rw [C];exact NU X.a.h _ _ _ I
     ·simp only [pC,z] at s;exact s
   ·cases d
  ·cases d
 | .mp M::r,l,c,c',d,n,_=>by
  simp only [rM] at d;split at d
  ·rename_i o hl;split at d
   ·rename_i L xs y;obtain⟨A,d⟩:=J6 d;have hk:M=L:=tH.YU A;obtain⟨a1,a3,a4⟩:=tV X S d n (.inr trivial);have B:Le c ⟨c.ds++[.Z 2 xs],c.fz,c.ren⟩:=⟨⟨_,rfl⟩,fun _ h=>h,fun _ _ h=>h⟩;refine⟨B.trans a1,a3,fun l0 x0 h0=>?_⟩;have N:Y F.ds c.ds.length = .Z 2 xs:=Le.Y (a1.trans n);have e1:bA E0 F.ds (.mp M::r) l c.ds.length l0=bif Nat.beq l0 l then some (.mp M xs) else bA E0 F.ds r (l+1) (c.ds.length+1) l0:=by
     simp only [bA,N,D.l]
    rw [e1] at h0
    cases x:Nat.beq l0 l with
    |false=>rw [x] at h0;exact a4 l0 x0 (by simpa using h0)
    |true=>
     (rw [x] at h0;have x:l0=l:=beq_iff.1 x;subst x;simp only [cond_true,B1] at h0;subst h0;have i:=((B.trans a1).trans n).ren _ _ hl;obtain⟨es,clock,H,E⟩:=S.ob _ _ y;have j:(yN g gF F.ren).blk l0=g.blk o:=by simp [yN,i]);refine⟨⟨es,clock,by rw [j];exact H,?_⟩,trivial,o,_,i,y,fun b s=>?_⟩
     ·rw [hk];exact E.mono fun _ _ _ k=>⟨oO X.a.h _ _ k.1,oO X.a.h _ _ k.2.1,k.2.2⟩
     ·simp only [pC,j] at s;exact s
   ·cases d
  ·cases d
def Li (E:Ty→D→D)(sk:Sk)(ds:List D):(W3 E sk ds).h=bA E ds sk.objs 0 (bF E ds sk.slots 0).2:=rfl
structure Gz (u:Nat→Option Obj) (p:Nat→Prop) (g gF:G) (st:St) (tm:Nat→Value) (w:World) (sk:Sk) (pre:List (Nat×Nat)) (cf:Cf):Prop where
 a:U5 p g gF
 blk:gF.blk=g.blk
 hdr:gF.hdr=g.hdr
 S:aS u p gF (bJ st.h cf.fz) w
 tm:∀ t,VV (yN g gF cf.ren) ((W3 E0 sk cf.ds).t t) (tm t)
 nm:∀ t,((W3 E0 sk cf.ds).t t).aU (·<sk.objs.length)
 ob:∀ l x0,(W3 E0 sk cf.ds).h l=some x0→Oe g (yN g gF cf.ren) p (·<sk.objs.length) st.h w cf.ren l x0
 one:uO cf.ren
 pre:∀ l o,W4 pre l=some o→W4 cf.ren l=some o
 lt:∀ l o,W4 cf.ren l=some o→o∉cf.fz∧l<sk.objs.length
def ET {sk:Sk}{pre:List (Nat×Nat)}{st:St}{tm:Nat→Value}{cf:Cf}(b:WK sk pre st=some cf)(S:aS u p g st.h w)(s:∀ t,VV g (st.t t) (tm t))(n:∀ t,(st.t t).aU p)(d:uO pre) :∃ gF,Gz u p g gF st tm w sk pre cf:=by
 unfold WK at b;split at b
 ·rename_i z h1;split at b
  ·rename_i E h2;obtain⟨i,b⟩:=J6 b;cases b;simp only [A9] at i;obtain⟨gF,k,y,x,j⟩:=S.freeze cf.fz;have X:CX u p (·<sk.objs.length) g gF st.h w cf:=⟨j,k,fun l o h=>QI i.2 l o h⟩;obtain⟨a1,a2,a3⟩:=tV X S h2 (Le.refl cf) (.inr trivial);obtain⟨C,B,A,m⟩:=GQ X s n h1 a1;have e:(bF E0 cf.ds sk.slots 0).2=z.ds.length:=B.symm;refine⟨gF,k,y,x,j,fun t=>(m t).1,fun t=>(m t).2,fun l x0 h0=>?_,a2 (A d),fun l o h=>a1.ren l o (C.ren l o h),fun l o h=>⟨TP i.1 l o h,QI i.2 l o h⟩⟩;rw [Li,e] at h0;exact a3 l x0 h0
  ·cases b
 ·cases b
def Gz.aH0 {sk:Sk}{pre:List (Nat×Nat)}{st:St}{tm:Nat→Value}{cf:Cf}(M:Gz u p g gF st tm w sk pre cf)(S0:aS u p g st.h w) :aS u (·<sk.objs.length) (yN g gF cf.ren) (W3 E0 sk cf.ds).h w:=by
 have d:∀ l x0 b,(W3 E0 sk cf.ds).h l=some x0→pC (yN g gF cf.ren) l x0=some b→∃ o x,W4 cf.ren l=some o∧bJ st.h cf.fz o=some x∧pC gF o x=some b:=by intro l x0 b h0 i;obtain⟨_,_,o,x,h1,h2,j⟩:=M.ob l x0 h0;refine⟨o,x,h1,by rw [rY _ _ _ (M.lt l o h1).1];exact h2,?_⟩;rw [jK M.a (S0.use _ _ h2).1];exact j b i
 refine⟨M.S.frz,M.S.unt,fun l x0 h0=>(M.ob l x0 h0).1,fun l x0 b h0 i=>?_,fun l z x0 k b h0 y i m=>?_,fun l x0 h0=>?_,M.S.dj⟩
 ·obtain⟨o,x,_,h2,j⟩:=d l x0 b h0 i;exact M.S.sep o x b h2 j
 ·obtain⟨o,x,h1,h2,j⟩:=d l x0 b h0 i;obtain⟨o',x',t,s,n⟩:=d z k b y m;have:=M.S.inj o o' x x' b h2 s j n;subst this;exact M.one l z o h1 t
 ·obtain⟨_,h1,o,x,h2,_⟩:=M.ob l x0 h0;exact⟨(M.lt l o h2).2,h1⟩
def Pos (ds:List D)(j:Nat)(rest:List D):Prop:=∃ pre,pre.length=j∧ds=pre++rest
def LV (g:G)(q:Nat→Prop)(x:V)(v:Value):Prop:=VL g x v∧x.pF q
def AV (g:G)(q:Nat→Prop)(x:V)(v:Value):Prop:=VA g x v∧x.bO q
def Au {ds:List D}{s:SV}{v:Value}{j:Nat}{rest:List D}(hp:Pos ds j rest)(k:(mL s rest).1=true)(h:LV g q (dG E0 ds s j).1 v) :LV g q (dG K4 ds s j).1 v∧Pos ds (dG E0 ds s j).2 (mL s rest).2∧(dG K4 ds s j).2=(dG E0 ds s j).2:=by
 match s,k,h with
 | .d t,k,h=>
  obtain⟨pre,i,b⟩:=hp
  cases rest with
  |nil=>simp [mL] at k
  |cons x rest=>(have l:Y ds j=x:=by rw [b,← i];exact QS _ _ _);simp only [dG,l,E0] at h ⊢;exact⟨⟨BP k h.1,trivial⟩,⟨pre++[x],by simp [i],by rw [b];simp [mL]⟩,trivial⟩
 | .ptr ..,_,h=>exact⟨h,hp,rfl⟩
 | .row ..,_,h=>exact⟨h,hp,rfl⟩
 | .mp ..,_,h=>exact⟨h,hp,rfl⟩
 | .bp ..,_,h=>exact⟨h,hp,rfl⟩
 | .fn ..,_,h=>exact⟨h,hp,rfl⟩
 | .agg ..,_,h=>exact⟨h,hp,rfl⟩
 | .x,_,h=>exact⟨h,hp,rfl⟩
def PG {ds:List D}:∀ {ss:List SV} {b:List Value} {j:Nat} {rest:List D},Pos ds j rest→(oR ss rest).1=true→F2 (LV g q) (V1 E0 ds ss j).1 b→F2 (LV g q) (V1 K4 ds ss j).1 b∧Pos ds (V1 E0 ds ss j).2 (oR ss rest).2∧(V1 K4 ds ss j).2=(V1 E0 ds ss j).2
 |[],b,j,rest,hp,_,h=>⟨h,hp,rfl⟩
 |s::ss,b,j,rest,hp,d,h=>by
  simp only [oR,A9] at d;simp only [V1] at h ⊢
  cases h with
  |cons h1 h2=>obtain⟨a1,a2,a3⟩:=Au hp d.1 h1;rw [a3];obtain⟨l,k,i⟩:=PG a2 d.2 h2;exact⟨.cons a1 l,k,i⟩
def Nt (x:V):Prop:=pY x=x
def SF {E:Ty→D→D}{ds:List D}(s:SV)(j:Nat):Nt (dG E ds s j).1:=by cases s<;>rfl
def DQ {E:Ty→D→D}{ds:List D}:∀ (ss:List SV) (j:Nat),∀ x∈(V1 E ds ss j).1,Nt x
 |[],_,x,h=>by cases h
 |s::ss,j,x,h=>by
  simp only [V1] at h;rcases B7.1 h with rfl|h
  ·exact SF s j
  ·exact DQ ss _ x h
def GF:∀ {cs:List V} {xs:List D},VZ cs=some xs→cs=xs.map V.d
 |[],xs,h=>by simp only [VZ,B1] at h;subst h;rfl
 |c::cs,xs,h=>by
  simp only [VZ] at h;split at h
  ·rename_i x xs' e;simp only [B1] at h;subst h;rw [GF e];rfl
  ·cases h
def F2.both {α β:Type}{R:α→β→Prop}{S:α→Prop}{zs:List α}{bs:List β}(h:F2 R zs bs)(d:∀ a∈zs,S a):F2 (fun a b=>R a b∧S a) zs bs:=by
 induction h with
 |nil=>exact .nil
 |cons h1 _ ih=>exact .cons ⟨h1,d _ (by simp)⟩ (ih fun a i=>d a (by simp [i]))
def Lu {cs:List V}{v:Value}(hl:∀ c∈cs,Nt c)(h:AV g q (aY3 cs) v):∃ us:Array Value,v = .agg us∧F2 (LV g q) cs us.toList:=by
 obtain⟨h1,h2⟩:=h;unfold aY3 at h1 h2;split at h1
 ·rename_i xs e;obtain⟨us,rfl,b⟩:=h1;refine⟨us,rfl,?_⟩;rw [GF e];exact F2.HU (((mS _ _ _).1 b).mono fun _ _ _ h=>⟨h,trivial⟩)
 ·rename_i e;rw [e] at h2;have i:cs.map pY=cs:=by
   (conv=>rhs;rw [← List.map_id cs]);exact List.map_congr_left fun c d=>hl c d
  simp only [i] at h1 h2;obtain⟨us,rfl,b⟩:=h1;exact⟨us,rfl,F2.both b h2⟩
def Bu {cs:List V}{us:Array Value}(h:F2 (LV g q) cs us.toList):AV g q (aY3 cs) (.agg us):=by have:=vZ (h.mono fun _ _ _ h=>mR h.1);rw [Array.toArray_toList] at this;refine⟨this,rF fun y i=>?_⟩;obtain⟨b,_,d⟩:=h.mem y i;exact pJ d.1 d.2
def Yf {ds:List D}{s:SV}{v:Value}{j:Nat}{rest:List D}(hp:Pos ds j rest)(k:(MJ s rest).1=true)(h:AV g q (kG E0 ds s j).1 v) :AV g q (kG K4 ds s j).1 v∧Pos ds (kG E0 ds s j).2 (MJ s rest).2∧(kG K4 ds s j).2=(kG E0 ds s j).2:=by
 have leaf:∀ s,(∀ E,kG E ds s j=dG E ds s j)→MJ s rest=mL s rest→(MJ s rest).1=true→AV g q (kG E0 ds s j).1 v→AV g q (kG K4 ds s j).1 v∧Pos ds (kG E0 ds s j).2 (MJ s rest).2∧(kG K4 ds s j).2=(kG E0 ds s j).2:=by
  intro s e1 H k h;rw [e1,e1,H] at *;have hl:LV g q (dG E0 ds s j).1 v:=by
   match s,h with
   | .d _,h=>exact h
   | .ptr ..,h=>exact h
   | .row ..,h=>exact h
   | .mp ..,h=>exact h
   | .bp ..,h=>exact h
   | .fn ..,h=>exact h
   | .agg ..,h=>exact h
   | .x,h=>exact h
  obtain⟨a1,a2,a3⟩:=Au hp k hl;exact⟨⟨mR a1.1,pJ a1.1 a1.2⟩,a2,a3⟩
 match s,k,h with
 | .fn f [],k,h=>refine leaf (.fn f []) (fun E=>rfl) ?_ k h;simp [MJ,mL,oR]
 | .fn f (c::i),k,h=>
  have k:(oR (c::i) rest).1=true:=k;have e:∀ E,kG E ds (.fn f (c::i)) j=(.fn f (V1 E ds (c::i) j).1,(V1 E ds (c::i) j).2):=fun E=>rfl;rw [e,e] at *;have m:=mZ (E:=E0) (ds:=ds) (c::i) j;have l:=mZ (E:=K4) (ds:=ds) (c::i) j;obtain⟨h1,h2⟩:=h;have C:∃ us:Array Value,v = .func (.func f) #[] us∧F2 (LV g q) (V1 E0 ds (c::i) j).1 us.toList:=by
   simp only [] at h1 h2;generalize (V1 E0 ds (c::i) j).1=xs at *
   cases xs with
   |nil=>simp at m
   |cons x xs=>obtain⟨us,rfl,n⟩:=h1;exact⟨us,rfl,F2.both n h2⟩
  obtain⟨us,rfl,n⟩:=C;obtain⟨a1,a2,a3⟩:=PG hp k n;refine⟨?_,a2,a3⟩;simp only [] at *;generalize (V1 K4 ds (c::i) j).1=ys at *
  cases ys with
  |nil=>simp at l
  |cons y ys=>refine⟨⟨us,rfl,a1.mono fun _ _ _ h=>h.1⟩,fun z A=>?_⟩;obtain⟨b,_,B⟩:=a1.mem z A;exact B.2
 | .agg ss,k,h=>have k:(oR ss rest).1=true:=k;have e:∀ E,kG E ds (.agg ss) j=(aY3 (V1 E ds ss j).1,(V1 E ds ss j).2):=fun E=>rfl;rw [e,e] at *;obtain⟨us,rfl,n⟩:=Lu (DQ ss j) h;obtain⟨a1,a2,a3⟩:=PG hp k n;exact⟨Bu a1,a2,a3⟩
 | .d t,k,h=>exact leaf (.d t) (fun E=>rfl) rfl k h
 | .ptr ..,k,h=>exact leaf (.ptr ..) (fun E=>rfl) rfl k h
 | .row ..,k,h=>exact leaf (.row ..) (fun E=>rfl) rfl k h
 | .mp ..,k,h=>exact leaf (.mp ..) (fun E=>rfl) rfl k h
 | .bp ..,_,h=>exact⟨h,hp,rfl⟩
 | .x,k,h=>exact leaf .x (fun E=>rfl) rfl k h
def UA {ds:List D}:∀ {ss:List SV} {b:List Value} {j:Nat} {rest:List D},Pos ds j rest→(tU ss rest).1=true→F2 (AV g q) (aZ E0 ds ss j).1 b→F2 (AV g q) (aZ K4 ds ss j).1 b
 |[],b,j,rest,hp,_,h=>h
 |s::ss,b,j,rest,hp,d,h=>by
  simp only [tU,A9] at d;simp only [aZ] at h ⊢
  cases h with
  |cons h1 h2=>obtain⟨a1,a2,a3⟩:=Yf hp d.1 h1;rw [a3];exact .cons a1 (UA a2 d.2 h2)
def Cl {E:Ty→D→D}{ds:List D}{s:SV}{j:Nat}{rest:List D}(hp:Pos ds j rest)(k:(mL s rest).1=true):Pos ds (dG E ds s j).2 (mL s rest).2∧(dG E ds s j).2=(dG E0 ds s j).2:=by
 match s,k with
 | .d t,k=>
  obtain⟨pre,i,b⟩:=hp
  cases rest with
  |nil=>simp [mL] at k
  |cons x rest=>exact⟨⟨pre++[x],by simp [i,dG],by rw [b];simp [mL]⟩,rfl⟩
 | .ptr ..,_=>exact⟨hp,rfl⟩
 | .row ..,_=>exact⟨hp,rfl⟩
 | .mp ..,_=>exact⟨hp,rfl⟩
 | .bp ..,_=>exact⟨hp,rfl⟩
 | .fn ..,_=>exact⟨hp,rfl⟩
 | .agg ..,_=>exact⟨hp,rfl⟩
 | .x,_=>exact⟨hp,rfl⟩
def QX {E:Ty→D→D}{ds:List D}:∀ {ss:List SV} {j:Nat} {rest:List D},Pos ds j rest→(oR ss rest).1=true→Pos ds (V1 E ds ss j).2 (oR ss rest).2∧(V1 E ds ss j).2=(V1 E0 ds ss j).2
 |[],j,rest,hp,_=>⟨hp,rfl⟩
 |s::ss,j,rest,hp,b=>by simp only [oR,A9] at b;simp only [V1];obtain⟨a1,a2⟩:=Cl (E:=E) hp b.1;obtain⟨i,d⟩:=QX (E:=E) a1 b.2;exact⟨i,by rw [d,a2]⟩
def Sj {E:Ty→D→D}{ds:List D}{s:SV}{j:Nat}{rest:List D}(hp:Pos ds j rest)(b:(MJ s rest).1=true):Pos ds (kG E ds s j).2 (MJ s rest).2∧(kG E ds s j).2=(kG E0 ds s j).2:=by
 match s,b with
 | .fn f [],b=>exact⟨hp,rfl⟩
 | .fn f (c::i),b=>exact QX (ss:=c::i) hp b
 | .agg ss,b=>exact QX (ss:=ss) hp b
 | .d t,b=>exact Cl (s:= .d t) hp b
 | .ptr ..,b=>exact⟨hp,rfl⟩
 | .row ..,b=>exact⟨hp,rfl⟩
 | .mp ..,b=>exact⟨hp,rfl⟩
 | .bp ..,b=>exact⟨hp,rfl⟩
 | .x,b=>exact⟨hp,rfl⟩
def KF {E:Ty→D→D}{ds:List D}:∀ {ss:List SV} {j:Nat} {rest:List D},Pos ds j rest→(tU ss rest).1=true→Pos ds (aZ E ds ss j).2 (tU ss rest).2∧(aZ E ds ss j).2=(aZ E0 ds ss j).2
 |[],j,rest,hp,_=>⟨hp,rfl⟩
 |s::ss,j,rest,hp,b=>by simp only [tU,A9] at b;simp only [aZ];obtain⟨a1,a2⟩:=Sj (E:=E) hp b.1;obtain⟨i,d⟩:=KF (E:=E) a1 b.2;exact⟨i,by rw [d,a2]⟩
def Rj {cs:List V}{v:Value}(h:VV g (aY3 cs) v)(b:(aY3 cs).aU q):AV g q (aY3 cs) v:=by
 unfold aY3 at *;split
 ·rename_i xs e;rw [e] at h;exact⟨h,trivial⟩
 ·rename_i e;rw [e] at h b;exact⟨h,b⟩
def Vr {E:Ty→D→D}{ds:List D}{s:SV}{j:Nat}{v:Value}(h:VV g (kG E ds s j).1 v)(b:(kG E ds s j).1.aU q):AV g q (kG E ds s j).1 v:=by
 match s,h,b with
 | .fn f [],h,_=>exact⟨h,trivial⟩
 | .fn f (c::i),h,b=>simp only [kG,V1] at h b ⊢;exact⟨h,b⟩
 | .agg ss,h,b=>exact Rj h b
 | .d t,h,_=>exact⟨h,trivial⟩
 | .ptr ..,h,b=>exact⟨h,b⟩
 | .row ..,h,b=>exact⟨h,b⟩
 | .mp ..,h,b=>exact⟨h,b⟩
 | .bp ..,h,b=>exact⟨h,b⟩
 | .x,h,_=>exact⟨h,trivial⟩
def UB {ds:List D}{tm:Nat→Value}:∀ {sl:List (Nat×SV)} {j:Nat} {rest:List D},Pos ds j rest→(rT sl rest).1=true→Pos ds (bF E0 ds sl j).2 (rT sl rest).2∧(bF K4 ds sl j).2=(bF E0 ds sl j).2∧(∀ t,VV g ((bF E0 ds sl j).1 t) (tm t)∧((bF E0 ds sl j).1 t).aU q→VV g ((bF K4 ds sl j).1 t) (tm t)∧((bF K4 ds sl j).1 t).aU q)
 |[],j,rest,hp,_=>⟨hp,rfl,fun _=>id⟩
 |(i,s)::sl,j,rest,hp,d=>by
  simp only [rT,A9] at d;obtain⟨a1,_⟩:=Sj (E:=E0) hp d.1;obtain⟨_,a2⟩:=Sj (E:=K4) hp d.1;obtain⟨x,n,m⟩:=UB (tm:=tm) a1 d.2;simp only [bF,rT];rw [a2];refine⟨x,n,fun t b=>?_⟩;by_cases e:t=i
  ·subst e;rw [beq_iff.2 rfl] at b ⊢;have h1:=Vr b.1 b.2;obtain⟨l,_,_⟩:=Yf hp d.1 h1;exact⟨gX l.1,fH l.2⟩
  ·have:Nat.beq t i=false:=by
    cases k:Nat.beq t i with
    |true=>exact absurd (beq_iff.1 k) e
    |false=>rfl
   rw [this] at b ⊢;exact m t b
def HA {ds:List D}{w:World}:∀ {obs:List IQ} {l j:Nat} {rest:List D},Pos ds j rest→qZ obs rest=true→∀ l0 x,bA K4 ds obs l j l0=some x→∃ x0,bA E0 ds obs l j l0=some x0∧(OB g l0 x0 w→x0.aU q→OB g l0 x w∧x.aU q)∧(∀ b,pC g l0 x=some b→pC g l0 x0=some b)
 |[],l,j,rest,hp,d,l0,x,h=>by simp [bA] at h
 | .gone::r,l,j,rest,hp,d,l0,x,h=>HA (obs:=r) (l:=l+1) hp d l0 x h
 | .var ss::r,l,j,rest,hp,d,l0,x,h=>by
  simp only [qZ,A9] at d;obtain⟨a1,_⟩:=KF (E:=E0) hp d.1;obtain⟨_,a2⟩:=KF (E:=K4) hp d.1;simp only [bA] at h ⊢;rw [a2] at h
  cases e:Nat.beq l0 l with
  |false=>rw [e] at h;simpa using HA a1 d.2 l0 x (by simpa using h)
  |true=>rw [e] at h;simp only [cond_true,B1] at h;subst h;refine⟨_,rfl,fun z s=>?_,fun b n=>n⟩;obtain⟨c,J,H,C,A⟩:=z;have h1:F2 (AV g q) (aZ E0 ds ss j).1 c.toList:=F2.both C s;have h2:=UA hp d.1 h1;refine⟨⟨c,J,H,h2.mono fun _ _ _ h=>h.1,A.1,fun t o' f hm=>A.2 _ _ _ (HI (BE hm))⟩,fun y I=>?_⟩;obtain⟨b,_,n⟩:=h2.mem y I;exact n.2
 | .row e sz m::r,l,j,[],hp,d,l0,x,h=>by simp [qZ] at d
 | .row e sz m::r,l,j,y::rest,hp,d,l0,x,h=>by
  simp only [qZ,A9] at d;obtain⟨pre,k,i⟩:=hp;have a1:Pos ds (j+1) rest:=⟨pre++[y],by simp [k],by rw [i];simp⟩;simp only [bA] at h ⊢
  cases e2:Nat.beq l0 l with
  |false=>rw [e2] at h;simpa using HA a1 d.2 l0 x (by simpa using h)
  |true=>rw [e2] at h;simp only [cond_true,B1] at h;subst h;exact⟨_,rfl,fun z s=>⟨z,s⟩,fun b n=>n⟩
 | .mp B::r,l,j,[],hp,d,l0,x,h=>by simp [qZ] at d
 | .mp B::r,l,j,y::rest,hp,d,l0,x,h=>by
  simp only [qZ,A9] at d;obtain⟨pre,k,i⟩:=hp;have a1:Pos ds (j+1) rest:=⟨pre++[y],by simp [k],by rw [i];simp⟩;simp only [bA] at h ⊢
  cases e2:Nat.beq l0 l with
  |false=>rw [e2] at h;simpa using HA a1 d.2 l0 x (by simpa using h)
  |true=>rw [e2] at h;simp only [cond_true,B1] at h;subst h;exact⟨_,rfl,fun z s=>⟨z,s⟩,fun b n=>n⟩
def Hy {u:Nat→Option Obj}{sk:Sk}{ds:List D}{tm:Nat→Value}{w:World}(i:Q5 sk ds=true)(S:aS u q g (W3 E0 sk ds).h w)(z:∀ t,VV g ((W3 E0 sk ds).t t) (tm t)∧((W3 E0 sk ds).t t).aU q) :aS u q g (fD sk ds).h w∧∀ t,VV g ((fD sk ds).t t) (tm t)∧((fD sk ds).t t).aU q:=by
 unfold Q5 at i;simp only [A9] at i;obtain⟨a1,a2,a3⟩:=UB (g:=g) (q:=q) (tm:=tm) (ds:=ds) (j:=0) (rest:=ds) ⟨[],rfl,rfl⟩ i.1;refine⟨?_,fun t=>a3 t (z t)⟩;have d:∀ l x,(fD sk ds).h l=some x→∃ x0,(W3 E0 sk ds).h l=some x0∧(OB g l x0 w→x0.aU q→OB g l x w∧x.aU q)∧(∀ b,pC g l x=some b→pC g l x0=some b):=by intro l x h;have h:bA K4 ds sk.objs 0 (bF K4 ds sk.slots 0).2 l=some x:=h;rw [a2] at h;exact HA a1 i.2 l x h
 refine⟨S.frz,S.unt,fun o x h=>?_,fun o x b h n=>?_,fun o o' x x' b h h' n m=>?_,fun o x h=>?_,S.dj⟩
 ·obtain⟨x0,h0,h1,_⟩:=d o x h;exact (h1 (S.ob _ _ h0) (S.use _ _ h0).2).1
 ·obtain⟨x0,h0,_,h2⟩:=d o x h;exact S.sep o x0 b h0 (h2 b n)
 ·obtain⟨x0,h0,_,h2⟩:=d o x h;obtain⟨k,y,_,s⟩:=d o' x' h';exact S.inj o o' x0 k b h0 y (h2 b n) (s b m)
 ·obtain⟨x0,h0,h1,_⟩:=d o x h;exact⟨(S.use _ _ h0).1,(h1 (S.ob _ _ h0) (S.use _ _ h0).2).2⟩
end
end Go.AE
namespace Go.AE
open Go.RowKit
open Classical in
noncomputable def yV (g0:G) (h0:Nat→Option Ob) (w:World):Nat→Option Obj:=fun b=>
 if ∃ l x0,h0 l=some x0∧pC g0 l x0=some b then none else if g0.h b=none then w.heap[b]? else none
section
variable {u:Nat→Option Obj} {p q q1 q2:Nat→Prop} {gH g0 g1 g2:G} {hold h0 h1 h2:Nat→Option Ob} {w w1:World} {R:Nat→Nat→Prop} {f:Nat→Nat}
def RA {b:Nat}{y:Obj}(h:yV g0 h0 w b=some y):(¬ ∃ l x0,h0 l=some x0∧pC g0 l x0=some b)∧g0.h b=none∧w.heap[b]? = some y:=by
 unfold yV at h;split at h
 ·cases h
 ·rename_i k;split at h
  ·rename_i d;exact⟨k,d,h⟩
  ·cases h
def ID {b:Nat}{y:Obj}(h1:¬ ∃ l x0,h0 l=some x0∧pC g0 l x0=some b)(h2:g0.h b=none)(d:w.heap[b]? = some y):yV g0 h0 w b=some y:=by unfold yV;rw [if_neg h1,if_pos h2];exact d
structure Pass (u:Nat→Option Obj) (p q:Nat→Prop) (gH g0:G) (hold h0:Nat→Option Ob) (w:World) (R:Nat→Nat→Prop):Prop where
 S:aS u p gH hold w
 S0:aS u q g0 h0 w
 sub:∀ b x,gH.h b=some x→g0.h b=some x
 ob:∀ l x0,h0 l=some x0→∃ o x,R l o∧hold o=some x∧∀ b,pC g0 l x0=some b→pC gH o x=some b
def Pass.aH0 (X:Pass u p q gH g0 hold h0 w R):aS (yV g0 h0 w) q g0 h0 w:=by
 refine⟨X.S0.frz,fun b x h=>(RA h).2.2,X.S0.ob,fun o x b h d=>⟨(X.S0.sep o x b h d).1,?_⟩,X.S0.inj,X.S0.use,fun b=>?_⟩
 ·unfold yV;rw [if_pos ⟨o,x,h,d⟩]
 ·cases e:yV g0 h0 w b with
  |none=>exact .inr rfl
  |some y=>exact .inl (RA e).2.1
def Pass.back (X:Pass u p q gH g0 hold h0 w R)(L:aS (yV g0 h0 w) q1 g1 h1 w1)(N:∀ b x,g0.h b=some x→g1.h b=some x)(ha:U5 p gH g2)(B:∀ b x,g2.h b=some x→g1.h b=some x) (hpq:∀ x,p x→q2 x) (m:∀ x ob,h2 x=some ob→(hold x=some ob∧(∀ l x0,h0 l=some x0→¬ R l x)∧(∀ b,pC gH x ob=some b→g0.h b=none∨g2.h b=none))∨(∃ l d,h1 l=some d∧x=f l∧OB g2 x ob w1∧(∀ b,pC g2 x ob=some b→pC g1 l d=some b)∧q2 x∧ob.aU q2)):aS u q2 g2 h2 w1:=by
 have z:∀ x ob b,hold x=some ob→(∀ l x0,h0 l=some x0→¬ R l x)→pC gH x ob=some b→¬ ∃ l x0,h0 l=some x0∧pC g0 l x0=some b:=by rintro x ob b h1 h2 j ⟨l,x0,W,h4⟩;obtain⟨o,x',i,t,A⟩:=X.ob l x0 W;have:=X.S.inj x o ob x' b h1 t j (A b h4);subst this;exact h2 l x0 W i
 have key:∀ x ob b,hold x=some ob→(∀ l x0,h0 l=some x0→¬ R l x)→(∀ b,pC gH x ob=some b→g0.h b=none∨g2.h b=none)→pC gH x ob=some b→w1.heap[b]? = w.heap[b]?∧g2.h b=none∧u b=none∧∀ l d,h1 l=some d→pC g1 l d≠some b:=by
  intro x ob b h1 h2 W j;have hlt:=XU (X.S.ob _ _ h1) j;obtain⟨y,hy⟩:∃ y,w.heap[b]? = some y:=⟨_,C8 hlt⟩;have T:=z x ob b h1 h2 j;refine⟨?_,?_,(X.S.sep x ob b h1 j).2,?_⟩
  ·cases e:g0.h b with
   |none=>rw [L.unt b y (ID T e hy),hy]
   |some M=>rw [L.frz b M (N b M e),X.S0.frz b M e]
  ·cases e:g0.h b with
   |none=>
    have h4:=ID T e hy
    cases e2:g2.h b with
    |none=>rfl
    |some y2=>
     have:=B b y2 e2;rcases L.dj b with k|k
     ·rw [this] at k;cases k
     ·rw [h4] at k;cases k
   |some M=>
    rcases W b j with k|k
    ·rw [e] at k;cases k
    ·exact k
  ·intro l d h5 h6;obtain⟨i,t⟩:=L.sep l d b h5 h6
   cases e:g0.h b with
   |none=>rw [ID T e hy] at t;cases t
   |some M=>rw [N b M e] at i;cases i
 have n:∀ b x,u b=some x→yV g0 h0 w b=some x:=by
  intro b x j;refine ID ?_ ?_ (X.S.unt b x j)
  ·rintro ⟨l,x0,W,h4⟩;obtain⟨o,x',i,t,A⟩:=X.ob l x0 W;have:=(X.S.sep o x' b t (A b h4)).2;rw [j] at this;cases this
  ·rcases X.S0.dj b with k|k
   ·exact k
   ·rw [j] at k;cases k
 have J:∀ x ob,hold x=some ob→pC g2 x ob=pC gH x ob:=fun x ob h=>jK ha (X.S.use _ _ h).1;refine⟨fun b x h=>L.frz b x (B b x h),fun b x h=>L.unt b x (n b x h),fun x ob h=>?_,fun x ob b h j=>?_,fun x x' ob C b h h' j E=>?_,fun x ob h=>?_,fun b=>?_⟩
 ·rcases m x ob h with ⟨i,t,A⟩|⟨l,d,i,t,A,_⟩
  ·exact (X.S.ob _ _ i).keep ha (X.S.use _ _ i).1 (X.S.use _ _ i).2 fun b j=>(key x ob b i t A j).1
  ·exact A
 ·rcases m x ob h with ⟨i,t,A⟩|⟨l,d,i,t,A,k4,_⟩
  ·rw [J x ob i] at j;exact⟨(key x ob b i t A j).2.1,(key x ob b i t A j).2.2.1⟩
  ·obtain⟨j1,j2⟩:=L.sep l d b i (k4 b j);constructor
   ·cases e:g2.h b with
    |none=>rfl
    |some y=>rw [B b y e] at j1;cases j1
   ·cases e:u b with
    |none=>rfl
    |some y=>rw [n b y e] at j2;cases j2
 ·rcases m x ob h with ⟨i,t,A⟩|⟨l,d,i,t,A,k4,_⟩
  ·rw [J x ob i] at j;rcases m x' C h' with ⟨s,I,k3'⟩|⟨l',H,s,_,_,O,_⟩
   ·rw [J x' C s] at E;exact X.S.inj x x' ob C b i s j E
   ·exact absurd (O b E) ((key x ob b i t A j).2.2.2 l' H s)
  ·rcases m x' C h' with ⟨s,I,k3'⟩|⟨l',H,s,I,_,O,_⟩
   ·rw [J x' C s] at E;exact absurd (k4 b j) ((key x' C b s I k3' E).2.2.2 l d i)
   ·have:=L.inj l l' d H b i s (k4 b j) (O b E);rw [t,I,this]
 ·rcases m x ob h with ⟨i,_⟩|⟨l,d,_,_,_,_,k5,k6⟩
  ·exact⟨hpq _ (X.S.use _ _ i).1,(X.S.use _ _ i).2.mono hpq⟩
  ·exact⟨k5,k6⟩
 ·cases e:g2.h b with
  |none=>exact .inl rfl
  |some y=>
   right
   cases e':u b with
   |none=>rfl
   |some M=>
    rcases L.dj b with k|k
    ·rw [B b y e] at k;cases k
    ·rw [n b M e'] at k;cases k
end
end Go.AE
namespace Go.AE
open Go.RowKit
def wP (d:D):Prop:=∀ h h' v,VD h d v→VD h' d v
def JP (b:Bool):wP (.bool b):=fun _ _ _ h=>h
def PQ (k:IntKind)(n:Int):wP (.int k n):=fun _ _ _ h=>h
def PU (s:G1):wP (.str s):=fun _ _ _ h=>h
def BB:wP .top:=fun _ _ _ h=>h
def Ic (f:Nat):wP (.fn f):=fun _ _ _ h=>h
def ZK {h h':Nat→Option Obj}:∀ {xs:List D} {us:List Value},(∀ x∈xs,wP x)→yW h xs us→yW h' xs us
 |[],us,_,e=>e
 |x::xs,us,b,e=>by obtain⟨v,r,rfl,h1,h2⟩:=e;exact⟨v,r,rfl,b x (by simp) _ _ _ h1,ZK (fun y d=>b y (by simp [d])) h2⟩
def PN {cs:List D}(h:∀ c∈cs,wP c):wP (.agg cs):=fun _ _ _ ⟨us,h1,h2⟩=>⟨us,h1,ZK h h2⟩
def ZI {h h':Nat→Option Obj}{sz:Nat}:∀ {xs:List D} {us:List Value},(∀ x∈xs,wP x)→sO h sz xs us→sO h' sz xs us
 |[],us,_,e=>e
 |x::xs,us,b,e=>by obtain⟨v,r,rfl,h1,h2,j,i⟩:=e;exact⟨v,r,rfl,h1,h2,b x (by simp) _ _ _ j,ZI (fun y d=>b y (by simp [d])) i⟩
def BA {t:tH}(h:wD t=true)(x:D):wP (NA t x):=by
 cases t<;>simp [wD] at h
 ·exact JP _
 ·exact PQ _ _
 ·exact PU _
def AZ:∀ {ts:List tH} {x:D} {j:Nat},ts.all wD=true→∀ c∈vU ts x j,wP c
 |[],_,_,_,c,b=>by cases b
 |t::ts,x,j,h,c,b=>by
  simp only [List.all_cons,A9] at h;simp only [vU] at b;rcases B7.1 b with rfl|b
  ·exact BA h.1 _
  ·exact AZ h.2 c b
def XE {t:Ty}(h:NJ t=true)(x:D):wP (K4 t x):=by
 cases t with
 |leaf t=>exact BA h x
 |agg ts=>exact PN (AZ h)
def Ay {x:D}(h:YJ x=true):wP x:=by
 cases x with
 |bool b=>exact JP b
 |int k n=>exact PQ k n
 |str s=>exact PU s
 |agg cs=>refine PN fun c d=>?_;have:=B6.1 (show cs.all _=true from h) c d;cases c<;>first|exact JP _|exact PQ _ _|exact PU _|cases this
 |_=>cases h
def VS:V→Prop
 | .d _=>True
 | .ptr _ _=>True
 | .row _=>True
 | .mp _=>True
 |_=>False
def RY:V→Prop
 | .fn _ (c::cs)=>∀ x∈c::cs,VS x
 | .agg cs=>∀ x∈cs,VS x
 | .bp ..=>True
 |x=>VS x
def IW (P:D→Prop):V→Prop
 | .d d=>P d
 |_=>True
def RX (P:D→Prop):V→Prop
 | .fn _ cs=>∀ x∈cs,IW P x
 | .agg cs=>∀ x∈cs,IW P x
 |x=>IW P x
def IW.mono {P Q:D→Prop}(h:∀ d,P d→Q d){x:V}(b:IW P x):IW Q x:=by cases x<;>first|exact h _ b|trivial
def RX.mono {P Q:D→Prop}(h:∀ d,P d→Q d){x:V}(i:RX P x):RX Q x:=by
 cases x with
 |fn f cs=>exact fun y b=>(i y b).mono h
 |agg cs=>exact fun y b=>(i y b).mono h
 |d _=>exact IW.mono (x:= .d _) h i
 |_=>trivial
def SG {E:Ty→D→D}{ds:List D}(s:SV)(j:Nat):VS (dG E ds s j).1:=by cases s<;>trivial
def rN {E:Ty→D→D}{ds:List D}:∀ (ss:List SV) (j:Nat),∀ x∈(V1 E ds ss j).1,VS x
 |[],_,x,h=>by cases h
 |s::ss,j,x,h=>by
  simp only [V1] at h;rcases B7.1 h with rfl|h
  ·exact SG s j
  ·exact rN ss _ x h
def HN {x:V}(h:VS x):pY x=x:=by cases x<;>first|rfl|exact h.elim
def Bv {cs:List V}(h:∀ x∈cs,VS x):RY (aY3 cs):=by
 unfold aY3;split
 ·trivial
 ·intro x d;obtain⟨c,b,rfl⟩:=List.mem_map.1 d;rw [HN (h c b)];exact h c b
def QA {E:Ty→D→D}{ds:List D}(s:SV)(j:Nat):RY (kG E ds s j).1:=by
 match s with
 | .fn f []=>trivial
 | .fn f (c::b)=>
  have e:(kG E ds (.fn f (c::b)) j).1 = .fn f (V1 E ds (c::b) j).1:=rfl;rw [e];have h1:=rN (E:=E) (ds:=ds) (c::b) j;have h2:=mZ (E:=E) (ds:=ds) (c::b) j;generalize (V1 E ds (c::b) j).1=xs at *
  cases xs with
  |nil=>simp at h2
  |cons x xs=>exact h1
 | .agg ss=>exact Bv (rN ss j)
 | .d t=>trivial
 | .ptr ..=>trivial
 | .row ..=>trivial
 | .mp ..=>trivial
 | .bp ..=>trivial
 | .x=>trivial
def uC {E:Ty→D→D}{ds:List D}:∀ (ss:List SV) (j:Nat),∀ x∈(aZ E ds ss j).1,RY x
 |[],_,x,h=>by cases h
 |s::ss,j,x,h=>by
  simp only [aZ] at h;rcases B7.1 h with rfl|h
  ·exact QA s j
  ·exact uC ss _ x h
def BF {E:Ty→D→D}{ds:List D}:∀ (sl:List (Nat×SV)) (j:Nat) (t:Nat),RY ((bF E ds sl j).1 t)
 |[],_,_=>trivial
 |(b,s)::sl,j,t=>by
  simp only [bF]
  cases Nat.beq t b with
  |true=>exact QA s j
  |false=>exact BF sl _ t
def PS {ds:List D}{s:SV}{j:Nat}(h:BX s=true):IW wP (dG K4 ds s j).1:=by
 cases s with
 |d t=>exact XE h _
 |fn f cs=>exact Ic f
 |agg _=>exact BB
 |x=>exact BB
 |bp _ _ _=>exact BB
 |_=>trivial
def JQ {ds:List D}:∀ {ss:List SV} {j:Nat},ss.all BX=true→∀ x∈(V1 K4 ds ss j).1,IW wP x
 |[],_,_,x,h=>by cases h
 |s::ss,j,hp,x,h=>by
  simp only [List.all_cons,A9] at hp;simp only [V1] at h;rcases B7.1 h with rfl|h
  ·exact PS hp.1
  ·exact JQ hp.2 x h
def Qj {ds:List D}{s:SV}{j:Nat}(h:CY s=true):RX wP (kG K4 ds s j).1:=by
 match s,h with
 | .fn f [],_=>exact Ic f
 | .fn f (c::b),h=>exact JQ (ss:=c::b) h
 | .agg ss,h=>
  have hl:=JQ (ds:=ds) (ss:=ss) (j:=j) h;have e:(kG K4 ds (.agg ss) j).1=aY3 (V1 K4 ds ss j).1:=rfl;rw [e];have l:=rN (E:=K4) (ds:=ds) ss j;generalize (V1 K4 ds ss j).1=cs at *;unfold aY3;split
  ·rename_i xs e;refine PN fun c i=>?_;have:=hl (.d c) (by rw [GF e];exact List.mem_map.2 ⟨c,i,rfl⟩);exact this
  ·intro x k;obtain⟨c,i,rfl⟩:=List.mem_map.1 k;rw [HN (l c i)];exact hl c i
 | .d t,h=>exact PS (s:= .d t) h
 | .ptr ..,_=>trivial
 | .row ..,_=>trivial
 | .mp ..,_=>trivial
 | .bp ..,_=>trivial
 | .x,_=>exact BB
def PO {ds:List D}:∀ {ss:List SV} {j:Nat},ss.all CY=true→∀ x∈(aZ K4 ds ss j).1,RX wP x
 |[],_,_,x,h=>by cases h
 |s::ss,j,hp,x,h=>by
  simp only [List.all_cons,A9] at hp;simp only [aZ] at h;rcases B7.1 h with rfl|h
  ·exact Qj hp.1
  ·exact PO hp.2 x h
def PT {ds:List D}:∀ {sl:List (Nat×SV)} {j:Nat},(sl.all fun p=>CY p.2)=true→∀ t,RX wP ((bF K4 ds sl j).1 t)
 |[],_,_,t=>BB
 |(b,s)::sl,j,hp,t=>by
  simp only [List.all_cons,A9] at hp;simp only [bF]
  cases Nat.beq t b with
  |true=>exact Qj hp.1
  |false=>exact PT hp.2 t
section
variable {p q2:Nat→Prop} {g1 g2:G} {f:Nat→Nat} {n1:Nat} {w:World}
structure Names (n1:Nat) (q2:Nat→Prop) (g1 g2:G) (f:Nat→Nat):Prop where
 blk:∀ l,l<n1→g2.blk (f l)=g1.blk l
 hdr:∀ l,l<n1→g2.hdr (f l)=g1.hdr l
 q:∀ l,l<n1→q2 (f l)
def yK (g1 g2:G)(d:D):Prop:=∀ v,VD g1.h d v→VD g2.h d v
def xU (N:Names n1 q2 g1 g2 f){x:V}{v:Value}(j:VS x)(i:IW (yK g1 g2) x)(h:VL g1 x v)(b:x.pF (·<n1)):VL g2 (xT f x) v∧(xT f x).pF q2:=by
 match x,j,i,h,b with
 | .d d,_,i,h,_=>exact⟨i v h,trivial⟩
 | .ptr o off,_,_,h,b=>have b:o<n1:=b;refine⟨?_,N.q o b⟩;show v=_;rw [N.blk o b];exact h
 | .row o,_,_,h,b=>have b:o<n1:=b;refine⟨?_,N.q o b⟩;show v=_∧_;rw [N.hdr o b];exact h
 | .mp o,_,_,h,b=>have b:o<n1:=b;refine⟨?_,N.q o b⟩;show v=_;rw [N.blk o b];exact h
def FN (N:Names n1 q2 g1 g2 f):∀ {xs:List V} {d:List Value},(∀ x∈xs,VS x)→(∀ x∈xs,IW (yK g1 g2) x)→F2 (VL g1) xs d→(∀ x∈xs,x.pF (·<n1))→F2 (VL g2) (xs.map (xT f)) d∧∀ x∈xs.map (xT f),x.pF q2
 |[],_,_,_,h,_=>by cases h;exact⟨.nil,fun x l=>by cases l⟩
 |x::xs,_,j,k,h,i=>by
  cases h with
  |cons h1 h2=>
   obtain⟨a1,a2⟩:=xU N (j x (by simp)) (k x (by simp)) h1 (i x (by simp));obtain⟨n,m⟩:=FN N (fun y b=>j y (by simp [b])) (fun y b=>k y (by simp [b])) h2 (fun y b=>i y (by simp [b]));exact⟨.cons a1 n,fun y b=>by
    simp only [List.map_cons] at b;rcases B7.1 b with rfl|b
    ·exact a2
    ·exact m y b⟩
def Jg (N:Names n1 q2 g1 g2 f){x:V}{v:Value}(i:RY x)(j:RX (yK g1 g2) x)(h:VA g1 x v)(b:x.bO (·<n1)):VA g2 (YO f x) v∧(YO f x).bO q2:=by
 match x,i,j,h,b with
 | .fn _ [],i,_,h,_=>exact i.elim
 | .fn fn (c::cs),i,j,h,b=>obtain⟨us,rfl,h1⟩:=h;obtain⟨a1,a2⟩:=FN N i j h1 b;exact⟨⟨us,rfl,a1⟩,a2⟩
 | .agg cs,i,j,h,b=>obtain⟨us,rfl,h1⟩:=h;obtain⟨a1,a2⟩:=FN N i j h1 b;exact⟨⟨us,rfl,a1⟩,a2⟩
 | .d d,i,j,h,b=>exact⟨j v h,trivial⟩
 | .ptr o off,i,j,h,b=>obtain⟨a1,a2⟩:=xU N (x:= .ptr o off) i j h b;exact⟨a1,a2⟩
 | .row o,i,j,h,b=>obtain⟨a1,a2⟩:=xU N (x:= .row o) i j h b;exact⟨a1,a2⟩
 | .mp o,i,j,h,b=>obtain⟨a1,a2⟩:=xU N (x:= .mp o) i j h b;exact⟨a1,a2⟩
 | .bp t o off,_,_,h,b=>have b:o<n1:=b;refine⟨?_,N.q o b⟩;show v=_∨v=_;rw [N.blk o b];exact h
def LX (N:Names n1 q2 g1 g2 f):∀ {xs:List V} {d:List Value},(∀ x∈xs,RY x)→(∀ x∈xs,RX (yK g1 g2) x)→F2 (VA g1) xs d→(∀ x∈xs,x.bO (·<n1))→F2 (VA g2) (xs.map (YO f)) d∧∀ x∈xs.map (YO f),x.bO q2
 |[],_,_,_,h,_=>by cases h;exact⟨.nil,fun x l=>by cases l⟩
 |x::xs,_,j,k,h,i=>by
  cases h with
  |cons h1 h2=>
   obtain⟨a1,a2⟩:=Jg N (j x (by simp)) (k x (by simp)) h1 (i x (by simp));obtain⟨n,m⟩:=LX N (fun y b=>j y (by simp [b])) (fun y b=>k y (by simp [b])) h2 (fun y b=>i y (by simp [b]));exact⟨.cons a1 n,fun y b=>by
    simp only [List.map_cons] at b;rcases B7.1 b with rfl|b
    ·exact a2
    ·exact m y b⟩
def Xd {i:Nat→Nat}{t o' f:Nat}{cs:List V}(h:V.bp t o' f∈cs.map (YO i)):∃ o,V.bp t o f∈cs:=by
 obtain⟨x,b,e⟩:=List.mem_map.1 h
 match x,b,e with
 | .bp j k l,b,e=>cases e;exact⟨_,b⟩
 | .fn _ _,_,e=>cases e
 | .agg _,_,e=>cases e
 | .d _,_,e=>cases e
 | .ptr ..,_,e=>cases e
 | .el ..,_,e=>cases e
 | .rp ..,_,e=>cases e
 | .row _,_,e=>cases e
 | .sub ..,_,e=>cases e
 | .tup _,_,e=>cases e
 | .mp _,_,e=>cases e
def Zq (g1 g2:G):Ob→Prop
 | .var cs=>(∀ x∈cs,RY x)∧∀ x∈cs,RX (yK g1 g2) x
 | .row _ _ xs _=>∀ h us sz,h=g1.h→sO h sz xs us→sO g2.h sz xs us
 | .mp _ xs=>∀ x∈xs,yK g1 g2 (x.at_ 0)∧yK g1 g2 (x.at_ 1)
def Sq (N:Names n1 q2 g1 g2 f){l:Nat}{ob:Ob}(hl:l<n1)(d:Zq g1 g2 ob)(j:∀ e sz xs,ob≠ .row e sz xs true)(h:OB g1 l ob w)(s:ob.aU (·<n1)) :OB g2 (f l) (EE f ob) w∧(EE f ob).aU q2∧∀ b,pC g2 (f l) (EE f ob)=some b→pC g1 l ob=some b:=by
 match ob,d,j,h,s with
 | .var cs,d,_,h,s=>obtain⟨c,e,n,m,y⟩:=h;obtain⟨a1,a2⟩:=LX N d.1 d.2 m s;refine⟨⟨c,e,by rw [N.blk l hl];exact n,a1,y.1,fun t o' C hm=>by obtain⟨o,z⟩:=Xd hm;exact y.2 _ _ _ z⟩,a2,fun b i=>?_⟩;simp only [EE,pC,N.blk l hl] at i;exact i
 | .row e sz xs false,d,_,h,s=>obtain⟨us,n,m,y⟩:=h;refine⟨⟨us,n,by rw [N.hdr l hl];exact m,d _ _ _ rfl y⟩,trivial,fun b i=>?_⟩;simp only [EE,pC,N.hdr l hl] at i;exact i
 | .row e sz xs true,_,j,_,_=>exact absurd rfl (j e sz xs)
 | .mp B xs,d,_,h,s=>obtain⟨es,clock,n,m⟩:=h;refine⟨⟨es,clock,by rw [N.blk l hl];exact n,m.mono fun x A _ k=>⟨(d x A).1 _ k.1,(d x A).2 _ k.2.1,k.2.2⟩⟩,trivial,fun b i=>?_⟩;simp only [EE,pC,N.blk l hl] at i;exact i
end
end Go.AE
namespace Go.AE
open Go.RowKit
def UH:IQ→Bool
 | .var _=>true
 | .row _ _ m=>Nat.beq m 1
 | .gone=>false
 | .mp _=>true
def xG:IQ→Bool
 | .gone=>true
 |_=>false
def beq_false {x y:Nat}(h:x≠y):Nat.beq x y=false:=by
 cases k:Nat.beq x y with
 |true=>exact absurd (beq_iff.1 k) h
 |false=>rfl
def Gc (l0:Nat)(s:IQ)(r:List IQ):eU l0 (s::r)=if UH s=true then (l0,l0)::eU (l0+1) r else eU (l0+1) r:=by
 cases s with
 |var _=>rfl
 |row e sz m=>have h1:eU l0 (.row e sz m::r)=bif UH (.row e sz m) then (l0,l0)::eU (l0+1) r else eU (l0+1) r:=rfl;rw [h1];cases UH (.row e sz m)<;>rfl
 |gone=>rfl
 |mp _=>rfl
def rI:∀ {objs:List IQ} {l0 l o:Nat},W4 (eU l0 objs) l=some o↔o=l∧∃ k s,l=l0+k∧objs[k]? = some s∧UH s=true
 |[],l0,l,o=>by simp [eU,W4]
 |s::r,l0,l,o=>by
  rw [Gc];have ih:=@rI r (l0+1) l o;by_cases hs:UH s=true
  ·rw [if_pos hs,uF];by_cases e:l=l0
   ·subst e;rw [if_pos rfl];constructor
    ·intro h;cases h;exact⟨rfl,0,s,rfl,rfl,hs⟩
    ·rintro ⟨rfl,_⟩;rfl
   ·rw [if_neg e,ih];constructor
    ·rintro ⟨h1,k,i,h2,b,d⟩;exact⟨h1,k+1,i,by omega,by simpa using b,d⟩
    ·rintro ⟨h1,k,i,h2,b,d⟩
     cases k with
     |zero=>omega
     |succ k=>exact⟨h1,k,i,by omega,by simpa using b,d⟩
  ·rw [if_neg hs,ih];constructor
   ·rintro ⟨h1,k,i,h2,b,d⟩;exact⟨h1,k+1,i,by omega,by simpa using b,d⟩
   ·rintro ⟨h1,k,i,h2,b,d⟩
    cases k with
    |zero=>simp at b;subst b;exact absurd d hs
    |succ k=>exact⟨h1,k,i,by omega,by simpa using b,d⟩
def nA {E:Ty→D→D}{ds:List D}:∀ {objs:List IQ} {l0 j l:Nat} {x:Ob},bA E ds objs l0 j l=some x→∃ k s,l=l0+k∧objs[k]? = some s∧xG s=false∧(∀ cs,x = .var cs→∀ c∈cs,RY c)∧(∀ e sz xs,x≠ .row e sz xs true)
 |[],_,_,_,_,h=>by simp [bA] at h
 | .gone::r,l0,j,l,x,h=>by obtain⟨k,s,h1,h2,d⟩:=nA (objs:=r) h;exact⟨k+1,s,by omega,by simpa using h2,d⟩
 | .var ss::r,l0,j,l,x,h=>by
  simp only [bA] at h;by_cases e:l=l0
  ·rw [beq_iff.2 e] at h;simp only [cond_true,B1] at h;subst h;exact⟨0,_,by omega,rfl,rfl,fun cs b=>by cases b;exact uC ss j,fun _ _ _ i=>by cases i⟩
  ·rw [beq_false e] at h;obtain⟨k,s,h1,h2,d⟩:=nA (objs:=r) h;exact⟨k+1,s,by omega,by simpa using h2,d⟩
 | .row t sz m::r,l0,j,l,x,h=>by
  simp only [bA] at h;by_cases e:l=l0
  ·rw [beq_iff.2 e] at h;simp only [cond_true,B1] at h;subst h;exact⟨0,_,by omega,rfl,rfl,fun cs b=>(by cases b),fun _ _ _ i=>by cases i⟩
  ·rw [beq_false e] at h;obtain⟨k,s,h1,h2,d⟩:=nA (objs:=r) h;exact⟨k+1,s,by omega,by simpa using h2,d⟩
 | .mp n::r,l0,j,l,x,h=>by
  simp only [bA] at h;by_cases e:l=l0
  ·rw [beq_iff.2 e] at h;simp only [cond_true,B1] at h;subst h;exact⟨0,_,by omega,rfl,rfl,fun cs b=>(by cases b),fun _ _ _ i=>by cases i⟩
  ·rw [beq_false e] at h;obtain⟨k,s,h1,h2,d⟩:=nA (objs:=r) h;exact⟨k+1,s,by omega,by simpa using h2,d⟩
def sA {E:Ty→D→D}{ds:List D}:∀ {objs:List IQ} {l0 j k:Nat} {s:IQ},objs[k]? = some s→xG s=false→∃ x,bA E ds objs l0 j (l0+k)=some x
 |[],_,_,_,_,h,_=>by simp at h
 |i::r,l0,j,0,s,h,d=>by
  simp at h;subst h
  cases i with
  |gone=>cases d
  |var ss=>simp only [bA,Nat.add_zero,beq_iff.2 rfl];exact⟨_,rfl⟩
  |row e sz m=>simp only [bA,Nat.add_zero,beq_iff.2 rfl];exact⟨_,rfl⟩
  |mp l=>simp only [bA,Nat.add_zero,beq_iff.2 rfl];exact⟨_,rfl⟩
 |i::r,l0,j,k+1,s,h,d=>by
  have h:r[k]? = some s:=by simpa using h
  cases i with
  |gone=>obtain⟨x,b⟩:=sA (E:=E) (ds:=ds) (objs:=r) (k:=k) (l0:=l0+1) (j:=j) h d;exact⟨x,by simp only [bA];rw [show l0+(k+1)=l0+1+k from by omega];exact b⟩
  |var ss=>obtain⟨x,b⟩:=sA (E:=E) (ds:=ds) (objs:=r) (k:=k) (l0:=l0+1) (j:=(aZ E ds ss j).2) h d;exact⟨x,by simp only [bA];rw [beq_false (by omega),cond_false,show l0+(k+1)=l0+1+k from by omega];exact b⟩
  |row e sz m=>obtain⟨x,b⟩:=sA (E:=E) (ds:=ds) (objs:=r) (k:=k) (l0:=l0+1) (j:=j+1) h d;exact⟨x,by simp only [bA];rw [beq_false (by omega),cond_false,show l0+(k+1)=l0+1+k from by omega];exact b⟩
  |mp l=>obtain⟨x,b⟩:=sA (E:=E) (ds:=ds) (objs:=r) (k:=k) (l0:=l0+1) (j:=j+1) h d;exact⟨x,by simp only [bA];rw [beq_false (by omega),cond_false,show l0+(k+1)=l0+1+k from by omega];exact b⟩
def Iu:∀ {ds:List D} {j:Nat} {sz:Nat} {xs:List D},Y ds j = .Z sz xs→ .Z sz xs∈ds
 |[],_,_,_,h=>by simp [Y] at h
 |x::r,0,_,_,h=>by simp only [Y] at h;simp [h]
 |x::r,j+1,_,_,h=>by simp only [Y] at h;simp [Iu h]
def Sr {sk:Sk}{ds:List D}(h:M4 sk ds=true)(j:Nat):∀ x∈(Y ds j).l,wP x:=by
 intro x b
 cases e:Y ds j with
 |Z sz xs=>rw [e] at b;have:=B6.1 (show ds.all _=true from h) _ (Iu e);exact Ay (B6.1 this x b)
 |_=>rw [e] at b;cases b
def uS {P:Program}{sk:Sk}{ds:List D}(b:M4 sk ds=true){g1 g2:G}:∀ {objs:List IQ} {l0 j l:Nat} {x:Ob},(objs.all fun | .var ss=>ss.all CY | .row e _ _=>NJ (zF P e) | .gone=>true | .mp _=>false)=true→bA K4 ds objs l0 j l=some x→Zq g1 g2 x
 |[],_,_,_,_,_,h=>by simp [bA] at h
 | .gone::r,l0,j,l,x,hp,h=>uS b (objs:=r) (by simpa using hp) h
 | .var ss::r,l0,j,l,x,hp,h=>by
  simp only [List.all_cons,A9] at hp;simp only [bA] at h;by_cases e:l=l0
  ·rw [beq_iff.2 e] at h;simp only [cond_true,B1] at h;subst h;exact⟨uC ss j,fun y i=>(PO hp.1 y i).mono fun d b v k=>b _ _ v k⟩
  ·rw [beq_false e] at h;exact uS b hp.2 h
 | .row t sz m::r,l0,j,l,x,hp,h=>by
  simp only [List.all_cons,A9] at hp;simp only [bA] at h;by_cases e:l=l0
  ·rw [beq_iff.2 e] at h;simp only [cond_true,B1] at h;subst h;exact fun _ us sz _ n=>ZI (Sr b j) n
  ·rw [beq_false e] at h;exact uS b hp.2 h
 | .mp s::r,l0,j,l,x,hp,h=>by simp at hp
def EA {f:Nat→Nat}{h' h:Nat→Option Ob}:∀ {objs:List IQ} {l0 x:Nat} {ob:Ob},qB f h' h l0 objs x=some ob→(∃ k s b,objs[k]? = some s∧xG s=false∧x=f (l0+k)∧h' (l0+k)=some b∧ob=EE f b)∨(h x=some ob∧∀ k s,objs[k]? = some s→xG s=false→x≠f (l0+k))
 |[],l0,x,ob,hm=> .inr ⟨hm,fun k s h=>by simp at h⟩
 |d::r,l0,x,ob,hm=>by
  have rest:qB f h' h (l0+1) r x=some ob→(xG d=false→x≠f l0)→(∃ k s b,(d::r)[k]? = some s∧xG s=false∧x=f (l0+k)∧h' (l0+k)=some b∧ob=EE f b)∨(h x=some ob∧∀ k s,(d::r)[k]? = some s→xG s=false→x≠f (l0+k)):=by
   intro hm m;rcases EA hm with ⟨k,s,b,h1,h2,y,t,n⟩|⟨h1,h2⟩
   ·exact .inl ⟨k+1,s,b,by simpa using h1,h2,by rw [y];congr 1;omega,by rw [← t];congr 1;omega,n⟩
   ·refine .inr ⟨h1,fun k s l i=>?_⟩
    cases k with
    |zero=>simp at l;subst l;exact m i
    |succ k=>have:=h2 k s (by simpa using l) i;rwa [show l0+(k+1)=l0+1+k from by omega]
  have j:xG d=false→qB f h' h l0 (d::r) x=(bif Nat.beq x (f l0) then (match h' l0 with|some ob=>some (EE f ob)|none=>none) else qB f h' h (l0+1) r x):=by intro i;cases d<;>first|rfl|cases i
  cases i:xG d with
  |true=>
   cases d with
   |gone=>exact rest hm (fun h=>by rw [i] at h;cases h)
   |_=>cases i
  |false=>
   rw [j i] at hm;by_cases e:x=f l0
   ·rw [beq_iff.2 e] at hm;simp only [cond_true] at hm;split at hm
    ·rename_i b h1;simp only [B1] at hm;exact .inl ⟨0,d,b,rfl,i,e,h1,hm.symm⟩
    ·cases hm
   ·rw [beq_false e] at hm;exact rest hm fun _=>e
def DN {sk:Sk}{ren pre:List (Nat×Nat)}{h:Nat→Option Ob}:∀ {objs:List IQ} {l0 x:Nat} {ob:Ob},rU sk ren pre h l0 objs x=some ob→h x=some ob∧∀ k e sz m,objs[k]? = some (.row e sz m)→W4 pre (l0+k)=none→W4 ren (l0+k)≠some x
 |[],l0,x,ob,b=>⟨b,fun k e sz m h=>by simp at h⟩
 |d::r,l0,x,ob,b=>by
  have rest:rU sk ren pre h (l0+1) r x=some ob→(∀ e sz m,d = .row e sz m→W4 pre l0=none→W4 ren l0≠some x)→h x=some ob∧∀ k e sz m,(d::r)[k]? = some (.row e sz m)→W4 pre (l0+k)=none→W4 ren (l0+k)≠some x:=by
   intro hm l;obtain⟨h1,h2⟩:=DN hm;refine⟨h1,fun k e sz m i hp=>?_⟩
   cases k with
   |zero=>simp at i;exact l e sz m i hp
   |succ k=>have:=h2 k e sz m (by simpa using i);rw [show l0+(k+1)=l0+1+k from by omega] at hp ⊢;exact this hp
  cases d with
  |var ss=>exact rest b (fun _ _ _ h=>by cases h)
  |gone=>exact rest b (fun _ _ _ h=>by cases h)
  |mp s=>exact rest b (fun _ _ _ h=>by cases h)
  |row e sz m=>simp only [rU] at b;obtain⟨j,b⟩:=N9 b;refine rest b fun _ _ _ _ hp n=>?_;rw [hp,n] at j;simp only [beq_iff.2 rfl] at j;cases j
end Go.AE
namespace Go.AE
open Go.RowKit
def FP (sl:List (Nat×SV))(tm:Nat→Value):Value:=
 match sl.map fun x=>tm x.1 with
 |[v]=>v
 |b=> .tuple b.toArray
def IX (CL:FuncId→Array Value→World→(Ending→World→Prop)→Prop)(c:sN)(f:Nat)(sk:Sk)(ds out:List D):Prop:=
 ∀ fn,c.P.funcs[f]? = some fn→∀ (u:Nat→Option Obj) (g:G),c.IS g.h→∀ (args:Array Value) (w:World),args.size=sk.slots.length→
  aS u (·<sk.objs.length) g (W3 E0 sk ds).h w→(∀ t,VV g ((W3 E0 sk ds).t t) (args.getD t undef)∧((W3 E0 sk ds).t t).aU (·<sk.objs.length))→
  CL f args w fun e w'=>∃ v,e = .returned v∧∃ g' tm',aS u (·<(oB c.P (c.dres f) fn.resultTypes.toList sk).objs.length) g' (W3 E0 (oB c.P (c.dres f) fn.resultTypes.toList sk) out).h w'∧
   (∀ t,VV g' ((W3 E0 (oB c.P (c.dres f) fn.resultTypes.toList sk) out).t t) (tm' t)∧((W3 E0 (oB c.P (c.dres f) fn.resultTypes.toList sk) out).t t).aU (·<(oB c.P (c.dres f) fn.resultTypes.toList sk).objs.length))∧
   Ext g w g' w'∧(∀ l o,W4 (eU 0 sk.objs) l=some o→g'.blk l=g.blk l∧g'.hdr l=g.hdr l)∧v=FP (oB c.P (c.dres f) fn.resultTypes.toList sk).slots tm'
def tN (c:sN)(f:Nat)(sk:Sk)(ds out:List D):Prop:=IX (Calls c.P) c f sk ds out
def Xu (P:Program)(f:FuncId)(args:Array Value)(w:World)(R:Ending→World→Prop):Prop:=CallsD P f args .returning w fun e b w'=>b = .returning∧R e w'
def Ki (c:sN)(f:Nat)(sk:Sk)(ds out:List D):Prop:=IX (Xu c.P) c f sk ds out
def Ur {g:G}{q:Nat→Prop}{x:V}{v:Value}(i:RY x)(h:VV g x v)(b:x.aU q):VA g x v∧x.bO q:=by
 match x,i,h,b with
 | .fn _ [],i,_,_=>exact i.elim
 | .fn _ (_::_),_,h,b=>exact⟨h,b⟩
 | .agg _,_,h,b=>exact⟨h,b⟩
 | .d _,_,h,_=>exact⟨h,trivial⟩
 | .ptr ..,_,h,b=>exact⟨h,b⟩
 | .row _,_,h,b=>exact⟨h,b⟩
 | .mp _,_,h,b=>exact⟨h,b⟩
 | .bp ..,_,h,b=>exact⟨h,b⟩
 | .tup _,i,_,_=>exact i.elim
def QU:∀ {objs:List IQ} {k:Nat} {s:IQ},objs[k]? = some s→UH s=true→(BU objs)[k]? = some s
 |[],_,_,h,_=>by simp at h
 |b::r,0,s,h,hp=>by
  simp at h;subst h
  cases b with
  |var _=>rfl
  |mp _=>rfl
  |gone=>cases hp
  |row e sz m=>have:m=1:=beq_iff.1 hp;subst this;rfl
 |b::r,k+1,s,h,hp=>by have:=QU (objs:=r) (k:=k) (by simpa using h) hp;cases b<;>simpa [BU] using this
def Ga (P:Program)(dres:Nat→Nat)(ts:List TypeId)(sk:Sk):∃ b,(oB P dres ts sk).objs=BU sk.objs++b:=⟨_,rfl⟩
section
variable {u:Nat→Option Obj} {p q:Nat→Prop} {g gF gH g':G} {st:St} {hold:Nat→Option Ob} {tm tm':Nat→Value} {w w':World} {P:Program} {sk I6:Sk} {cf:Cf} {out:List D} {nid:Nat}
def Ri (M:Gz u p g gF st tm w sk [] cf)(SH:aS u p gH hold w)(S0:aS u p g st.h w)(aH:U5 p g gH)(bH:gH.blk=g.blk)(dH:gH.hdr=g.hdr)(sub:∀ b x,gH.h b=some x→gF.h b=some x) (hhold:∀ o x,o∉cf.fz→st.h o=some x→hold o=some x) (W:∀ k,k<16→¬ p (nid+k)∧q (nid+k)) (hpq:∀ x,p x→q x) (hosk:∃ b,I6.objs=BU sk.objs++b) (hlen:I6.objs.length≤16) (I:(∀ b,gF.h b≠none→gH.h b≠none)∨(CZ P I6=true∧M4 I6 out=true)) (hchk:Q5 I6 out=true) (S1:aS (yV (yN g gF cf.ren) (W3 E0 sk cf.ds).h w) (·<I6.objs.length) g' (W3 E0 I6 out).h w') (T1:∀ t,VV g' ((W3 E0 I6 out).t t) (tm' t)∧((W3 E0 I6 out).t t).aU (·<I6.objs.length)) (X1:Ext (yN g gF cf.ren) w g' w') (hkeep:∀ l o,W4 (eU 0 sk.objs) l=some o→g'.blk l=(yN g gF cf.ren).blk l∧g'.hdr l=(yN g gF cf.ren).hdr l) :∃ g2,aS u q g2 (qB (DP cf.ren (eU 0 sk.objs) nid) (fD I6 out).h (rU sk cf.ren (eU 0 sk.objs) hold 0 sk.objs) 0 I6.objs) w'∧U5 p gH g2∧Ext gH w g2 w'∧VV g2 (XW (rO (DP cf.ren (eU 0 sk.objs) nid) (fD I6 out).t I6.slots)) (FP I6.slots tm')∧(XW (rO (DP cf.ren (eU 0 sk.objs) nid) (fD I6 out).t I6.slots)).aU q:=by
 obtain⟨S2,T2⟩:=Hy hchk S1 T1;let f:=DP cf.ren (eU 0 sk.objs) nid;let g0:=yN g gF cf.ren;have S:∀ l o,W4 (eU 0 sk.objs) l=some o→∃ x0 H x,(W3 E0 sk cf.ds).h l=some x0∧W4 cf.ren l=some H∧st.h H=some x∧f l=H∧p H:=by
  intro l o h;obtain⟨_,k,s,A,hs,hp⟩:=rI.1 h;obtain⟨x0,hx0⟩:=sA (E:=E0) (ds:=cf.ds) (l0:=0) (j:=(bF E0 cf.ds sk.slots 0).2) hs (by cases s<;>first|rfl|cases hp)
  rw [← A] at hx0;obtain⟨_,_,H,x,h1,h2,_⟩:=M.ob l x0 hx0;refine⟨x0,H,x,hx0,h1,h2,?_,(S0.use _ _ h2).1⟩;show DP cf.ren (eU 0 sk.objs) nid l=H;unfold DP;rw [h];simp [h1]
 have hfnew:∀ l,W4 (eU 0 sk.objs) l=none→f l=nid+l:=by intro l h;show DP cf.ren (eU 0 sk.objs) nid l=nid+l;unfold DP;rw [h]
 let g2:G:=⟨fun b=>if gF.h b≠none∧gH.h b=none then none else g'.h b,fun x=>if nid≤x∧x<nid+16 then g'.blk (x-nid) else gH.blk x,fun x=>if nid≤x∧x<nid+16 then g'.hdr (x-nid) else gH.hdr x⟩;have B:∀ x,p x→¬ (nid≤x∧x<nid+16):=by intro x n ⟨h1,h2⟩;have:=(W (x-nid) (by omega)).1;rw [show nid+(x-nid)=x from by omega] at this;exact this n
 have ha:U5 p gH g2:=by
  refine⟨fun b x h=>?_,fun x n=>?_,fun x n=>?_⟩
  ·show (if gF.h b≠none∧gH.h b=none then none else g'.h b)=some x;rw [if_neg (by rw [h];simp)];exact X1.h b x (sub b x h)
  ·show (if nid≤x∧x<nid+16 then g'.blk (x-nid) else gH.blk x)=gH.blk x;rw [if_neg (B x n)]
  ·show (if nid≤x∧x<nid+16 then g'.hdr (x-nid) else gH.hdr x)=gH.hdr x;rw [if_neg (B x n)]
 have hsub:∀ b x,g2.h b=some x→g'.h b=some x:=by
  intro b x h;have h:(if gF.h b≠none∧gH.h b=none then none else g'.h b)=some x:=h;split at h
  ·cases h
  ·exact h
 have N:Names I6.objs.length q g' g2 f:=by
  have both:∀ l,l<I6.objs.length→(g2.blk (f l)=g'.blk l∧g2.hdr (f l)=g'.hdr l)∧q (f l):=by
   intro l hl
   cases hp:W4 (eU 0 sk.objs) l with
   |some o=>
    obtain⟨x0,H,x,h1,h2,L,J,h5⟩:=S l o hp;rw [J];obtain⟨k1,k2⟩:=hkeep l o hp;refine⟨⟨?_,?_⟩,hpq _ h5⟩
    ·rw [ha.blk H h5,bH,k1];simp [yN,h2]
    ·rw [ha.hdr H h5,dH,k2];simp [yN,h2]
   |none=>
    (rw [hfnew l hp];have hc:nid≤nid+l∧nid+l<nid+16:=by omega);refine⟨⟨?_,?_⟩,(W l (by omega)).2⟩
    ·show (if nid≤nid+l∧nid+l<nid+16 then g'.blk (nid+l-nid) else gH.blk (nid+l))=_;rw [if_pos hc,Nat.add_sub_cancel_left]
    ·show (if nid≤nid+l∧nid+l<nid+16 then g'.hdr (nid+l-nid) else gH.hdr (nid+l))=_;rw [if_pos hc,Nat.add_sub_cancel_left]
  exact⟨fun l hl=>(both l hl).1.1,fun l hl=>(both l hl).1.2,fun l hl=>(both l hl).2⟩
 have same:(∀ b,gF.h b≠none→gH.h b≠none)→g2.h=g'.h:=by intro hm;funext b;show (if gF.h b≠none∧gH.h b=none then none else g'.h b)=g'.h b;rw [if_neg];rintro ⟨h1,h2⟩;exact hm b h1 h2
 have O:∀ t,RX (yK g' g2) ((fD I6 out).t t):=by
  intro t;rcases I with hm|⟨hm,_⟩
  ·(have e:=same hm;have A:∀ d,yK g' g2 d:=fun d v hv=>by rw [e];exact hv);have z:∀ x,IW (yK g' g2) x:=fun x=>by cases x<;>first|exact A _|trivial
   cases (fD I6 out).t t with
   |fn f cs=>exact fun y _=>z y
   |agg cs=>exact fun y _=>z y
   |d _=>exact A _
   |_=>trivial
  ·unfold CZ at hm;simp only [A9] at hm;exact (PT hm.1 t).mono fun d hd v hv=>hd _ _ v hv
 have hobj:∀ l x,(fD I6 out).h l=some x→Zq g' g2 x:=by
  intro l x n;rcases I with hm|⟨hm,hm2⟩
  ·(have e:=same hm;have A:∀ d,yK g' g2 d:=fun d v hv=>by rw [e];exact hv);have z:∀ x,IW (yK g' g2) x:=fun x=>by cases x<;>first|exact A _|trivial
   obtain⟨_,_,_,_,_,k1,_⟩:=nA (E:=K4) n
   cases x with
   |row e' sz xs fz=>exact fun h us sz' hh hf=>by rw [hh] at hf;rw [e];exact hf
   |mp kt xs=>exact fun x _=>⟨A _,A _⟩
   |var cs=>
    refine⟨k1 cs rfl,fun y _=>?_⟩
    cases y with
    |fn f cs=>exact fun y _=>z y
    |agg cs=>exact fun y _=>z y
    |d _=>exact A _
    |_=>trivial
  ·unfold CZ at hm;simp only [A9] at hm;exact uS (P:=P) hm2 hm.2 n
 have hpass:Pass u p (·<sk.objs.length) gH g0 hold (W3 E0 sk cf.ds).h w (fun l o=>W4 cf.ren l=some o):=by refine⟨SH,M.aH0 S0,sub,fun l x0 h0=>?_⟩;obtain⟨_,_,o,x,h1,h2,L⟩:=M.ob l x0 h0;refine⟨o,x,h1,hhold o x (M.lt l o h1).1 h2,fun b hb=>?_⟩;rw [jK aH (S0.use _ _ h2).1];exact L b hb
 refine⟨g2,hpass.back S2 X1.h ha hsub hpq (f:=f) (fun x ob n=>?_),ha,⟨ha.h,X1.os,X1.tape,X1.output,X1.size⟩,?_⟩
 ·rcases EA n with ⟨k,s,ob1,h1,h2,L,J,h5⟩|⟨h1,h2⟩
  ·right;rw [C5] at L J;have A:k<I6.objs.length:=(List.getElem?_eq_some_iff.1 h1).1;obtain⟨_,_,_,_,_,_,k2⟩:=nA (E:=K4) J;obtain⟨r1,r2,r3⟩:=Sq N A (hobj k ob1 J) k2 (S2.ob _ _ J) (S2.use _ _ J).2;refine⟨k,ob1,J,L,?_,?_,?_,?_⟩
   ·rw [L,h5];exact r1
   ·rw [L,h5];exact r3
   ·rw [L];exact N.q k A
   ·rw [h5];exact r2
  ·left;obtain⟨d1,d2⟩:=DN h1;refine⟨d1,fun l x0 h0 hr=>?_,fun b hb=>?_⟩
   ·obtain⟨k,s,A,hs,hg,_⟩:=nA (E:=E0) h0;rw [C5] at A;subst A
    cases hp:W4 (eU 0 sk.objs) l with
    |some o=>
     (obtain⟨_,H,_,_,j1,_,j2,_⟩:=S l o hp;rw [hr] at j1;cases j1;obtain⟨_,k',s',hk',hs',hp'⟩:=rI.1 hp;rw [C5] at hk';subst hk';obtain⟨b,hb⟩:=hosk;have hget:I6.objs[l]? = some s':=by have e1:=QU hs' hp';have hlt:=(List.getElem?_eq_some_iff.1 e1).1;rw [hb,List.getElem?_append_left hlt];exact e1);(have:=h2 l s' hget (by cases s'<;>first|rfl|cases hp'));rw [C5] at this
     exact this j2.symm
    |none=>
     cases s with
     |gone=>cases hg
     |var ss=>have:W4 (eU 0 sk.objs) l=some l:=rI.2 ⟨rfl,l,_,by omega,hs,rfl⟩;rw [hp] at this;cases this
     |mp kt=>have:W4 (eU 0 sk.objs) l=some l:=rI.2 ⟨rfl,l,_,by omega,hs,rfl⟩;rw [hp] at this;cases this
     |row e sz m=>have:=d2 l e sz m hs (by rw [C5];exact hp);rw [C5] at this;exact this hr
   ·have hsep:=(SH.sep x ob b d1 hb).1
    cases e:gF.h b with
    |none=>exact .inl e
    |some y=>right;show (if gF.h b≠none∧gH.h b=none then none else g'.h b)=none;rw [if_pos ⟨by rw [e];simp,hsep⟩]
 ·have T:∀ t,VA g2 (YO f ((fD I6 out).t t)) (tm' t)∧(YO f ((fD I6 out).t t)).bO q:=by
   intro t;have C:RY ((fD I6 out).t t):=BF _ _ _;obtain⟨v1,v2⟩:=Ur C (T2 t).1 (T2 t).2;exact Jg N C (O t) v1 v2
  have hlist:∀ sl:List (Nat×SV),F2 (VA g2) (rO f (fD I6 out).t sl) (sl.map fun x=>tm' x.1)∧∀ x∈rO f (fD I6 out).t sl,x.bO q:=by
   intro sl
   induction sl with
   |nil=>exact⟨.nil,fun x n=>by cases n⟩
   |cons s sl ih=>
    obtain⟨i,s⟩:=s;exact⟨.cons (T i).1 ih.1,fun x n=>by
     simp only [rO] at n;rcases B7.1 n with rfl|n
     ·exact (T i).2
     ·exact ih.2 x n⟩
  obtain⟨l1,l2⟩:=hlist I6.slots;show VV g2 (XW (rO f (fD I6 out).t I6.slots)) _∧(XW (rO f (fD I6 out).t I6.slots)).aU q;unfold FP;generalize rO f (fD I6 out).t I6.slots=xs at *;generalize (I6.slots.map fun x=>tm' x.1)=vs at *
  cases l1 with
  |nil=>exact⟨⟨#[],rfl,.nil⟩,fun x n=>by cases n⟩
  |cons h1 h2=>
   cases h2 with
   |nil=>have e1:∀ x:V,XW [x]=x:=fun _=>rfl;rw [e1] at *;exact⟨gX h1,fH (l2 _ (C3.2 rfl))⟩
   |cons L J=>exact⟨⟨_,rfl,.cons h1 (.cons L J)⟩,l2⟩
def Oi {own:Nat→Nat}(H:∀ k,k<16→¬ p (nid+16+k)):∀ {ts:List TypeId} {i:Nat} {xs:List V} {vals:List Value} {h:Nat→Option Ob} {g:G},i+ts.length≤16→aS u (fun x=>p x∨(nid+16≤x∧x<nid+16+i)) g h w→F2 (VV g) xs vals→(∀ x∈xs,x.aU fun x=>p x∨(nid+16≤x∧x<nid+16+i))→∃ g1,aS u (fun x=>p x∨(nid+16≤x∧x<nid+32)) g1 (gY P own nid i ts xs h).2 w∧U5 (fun x=>p x∨(nid+16≤x∧x<nid+16+i)) g g1∧g1.h=g.h∧g1.blk=g.blk∧F2 (VV g1) (gY P own nid i ts xs h).1 vals∧(∀ x∈(gY P own nid i ts xs h).1,x.aU fun x=>p x∨(nid+16≤x∧x<nid+32)):=by
 intro ts
 induction ts with
 |nil=>
  intro i xs vals h g W S hF B;have e:gY P own nid i [] xs h=(xs,h):=by cases xs<;>rfl
  rw [e];have hm:∀ x,(p x∨(nid+16≤x∧x<nid+16+i))→(p x∨(nid+16≤x∧x<nid+32)):=by
   intro x j;rcases j with j|j
   ·exact .inl j
   ·simp only [A8] at W;exact .inr (by omega)
  exact⟨g,S.more hm,U5.refl _ g,rfl,rfl,hF,fun x j=>(B x j).mono hm⟩
 |cons t ts ih=>
  intro i xs vals h g W S hF B;simp only [A0] at W
  cases hF with
  |nil=>
   have e:gY P own nid i (t::ts) [] h=([],h):=rfl;rw [e];have hm:∀ x,(p x∨(nid+16≤x∧x<nid+16+i))→(p x∨(nid+16≤x∧x<nid+32)):=by
    intro x j;rcases j with j|j
    ·exact .inl j
    ·exact .inr (by omega)
   exact⟨g,S.more hm,U5.refl _ g,rfl,rfl,.nil,fun x j=>by cases j⟩
  |@cons x v xs vals j E=>
   have l:∀ x,(p x∨(nid+16≤x∧x<nid+16+i))→(p x∨(nid+16≤x∧x<nid+16+(i+1))):=by
    intro x j;rcases j with j|j
    ·exact .inl j
    ·exact .inr (by omega)
   have T:∀ x,(p x∨(nid+16≤x∧x<nid+16+i))→(p x∨(nid+16≤x∧x<nid+32)):=by
    intro x j;rcases j with j|j
    ·exact .inl j
    ·exact .inr (by omega)
   have keep:∀ x':V,VV g x' v→x'.aU (fun x=>p x∨(nid+16≤x∧x<nid+16+i))→∃ g1,aS u (fun x=>p x∨(nid+16≤x∧x<nid+32)) g1 (gY P own nid (i+1) ts xs h).2 w∧U5 (fun x=>p x∨(nid+16≤x∧x<nid+16+i)) g g1∧g1.h=g.h∧g1.blk=g.blk∧F2 (VV g1) (x'::(gY P own nid (i+1) ts xs h).1) (v::vals)∧(∀ y∈x'::(gY P own nid (i+1) ts xs h).1,y.aU fun x=>p x∨(nid+16≤x∧x<nid+32)):=by
    intro x' L A;obtain⟨g1,a1,a2,a3,a4,a5,a6⟩:=ih (i:=i+1) (by omega) (S.more l) E (fun y n=>(B y (by simp [n])).mono l);have I:U5 (fun x=>p x∨(nid+16≤x∧x<nid+16+i)) g g1:=⟨a2.h,fun o s=>a2.blk o (l o s),fun o s=>a2.hdr o (l o s)⟩;refine⟨g1,a1,I,a3,a4,.cons (L.agree I A) a5,fun y n=>?_⟩;rcases B7.1 n with rfl|n
    ·exact A.mono T
    ·exact a6 y n
   (have plain:gY P own nid i (t::ts) (x::xs) h=(x::(gY P own nid (i+1) ts xs h).1,(gY P own nid (i+1) ts xs h).2)→∃ g1,aS u (fun x=>p x∨(nid+16≤x∧x<nid+32)) g1 (gY P own nid i (t::ts) (x::xs) h).2 w∧U5 (fun x=>p x∨(nid+16≤x∧x<nid+16+i)) g g1∧g1.h=g.h∧g1.blk=g.blk∧F2 (VV g1) (gY P own nid i (t::ts) (x::xs) h).1 (v::vals)∧(∀ y∈(gY P own nid i (t::ts) (x::xs) h).1,y.aU fun x=>p x∨(nid+16≤x∧x<nid+32)):=by intro e;rw [e];exact keep x j (B x (by simp)));by_cases m:∃ a b,x = .d (.nils a b)
   ·obtain⟨a,b,rfl⟩:=m
    cases he:oI P t with
    |none=>exact plain (by simp only [gY,he])
    |some e=>
     cases s:Nat.beq (own i) 0 with
     |true=>(have e1:gY P own nid i (t::ts) (.d (.nils a b)::xs) h=(.d (.Z (cA P e) [])::(gY P own nid (i+1) ts xs h).1,(gY P own nid (i+1) ts xs h).2):=by simp only [gY,he,s,cond_true]);rw [e1];refine keep _ ?_ trivial;have j:v = .slice none 0 0:=j;subst j;exact⟨none,0,rfl,B9 _,C4 _,.inl rfl⟩
     |false=>
      cases C:Nat.blt 0 (cA P e) with
      |false=>exact plain (by simp only [gY,he,s,C,cond_false])
      |true=>
       (have e1:gY P own nid i (t::ts) (.d (.nils a b)::xs) h=(.row (nid+16+i)::(gY P own nid (i+1) ts xs (fun x=>bif Nat.beq x (nid+16+i) then some (.row e (cA P e) [] false) else h x)).1,(gY P own nid (i+1) ts xs (fun x=>bif Nat.beq x (nid+16+i) then some (.row e (cA P e) [] false) else h x)).2):=by simp only [gY,he,s,C,cond_true,cond_false]);rw [e1];have j:v = .slice none 0 0:=j;subst j;have M:0<cA P e:=by have h1:Nat.ble 1 (cA P e)=true:=C;exact B3 h1
       have N:¬ (p (nid+16+i)∨(nid+16≤nid+16+i∧nid+16+i<nid+16+i)):=by
        rintro (k|k)
        ·exact H i (by omega) k
        ·omega
       obtain⟨g1,J,b2,b3,b4,b5⟩:=kB (h':=fun x=>bif Nat.beq x (nid+16+i) then some (.row e (cA P e) [] false) else h x) S l N (.inr (by omega)) (e:=e) (sz:=cA P e) (xs:=[]) (v:= .slice none 0 0) (us:=[]) (row:=none) (uB w none) (World.ownsRow_nil w 0 e (cA P e)) M rfl (fun b hb=>by cases hb) (fun b hb=>by cases hb) (fun o' x j O=>by rw [beq_false O] at j;exact⟨j,fun _ _ e=>by cases e⟩) (by rw [beq_iff.2 rfl];rfl);obtain⟨g2,a1,a2,a3,a4,a5,a6⟩:=ih (i:=i+1) (by omega) b5 (F2.mono E fun y n z C=>VV.agree J (B y (by simp [n])) C) (fun y n=>(B y (by simp [n])).mono l);have ha:U5 (fun x=>p x∨(nid+16≤x∧x<nid+16+i)) g g2:=⟨fun b x k=>a2.h b x (J.h b x k),fun o s=>(a2.blk o (l o s)).trans (J.blk o s),fun o s=>(a2.hdr o (l o s)).trans (J.hdr o s)⟩;refine⟨g2,a1,ha,a3.trans b2,a4.trans b3,.cons ⟨?_,rfl⟩ a5,fun y n=>?_⟩
       ·rw [a2.hdr _ (.inr (by omega)),b4]
       ·rcases B7.1 n with rfl|n
        ·exact .inr (by omega)
        ·exact a6 y n
   ·refine plain ?_
    match x,m with
    | .d (.nils a b),m=>exact absurd ⟨a,b,rfl⟩ m
    | .d .top,_ | .d (.bool _),_ | .d (.int _ _),_ | .d (.str _),_ | .d (.Z _ _),_ | .d .und,_ | .d (.agg _),_ | .d (.fn _),_ | .d .nilp,_ | .d .nilf,_ | .d .nilm,_ | .d .nili,_ | .d .ub,_ | .d (.iface _ _),_=>simp only [gY]
    | .ptr ..,_ | .el ..,_ | .rp ..,_ | .row _,_ | .sub ..,_ | .agg _,_ | .fn ..,_ | .tup _,_ | .mp _,_ | .bp ..,_=>simp only [gY]
end
end Go.AE
namespace Go.AE
open Go.RowKit
section
variable {u:Nat→Option Obj} {p q:Nat→Prop} {g:G} {st:St} {a:Act} {w:World} {c:sN} {o:Oper} {R:Type} {K:V→St→Option R} {r:R} {nid:Nat} {rec:Task→Out}
def yL (c:sN)(rec:Task→Out):Prop:=∀ f sk ds out,rec (.call f sk ds)=some (true,out)→tN c f sk ds out∧(c.SQ f sk ds=none→Ki c f sk ds out)
def XT:∀ {xs:List V} {vals:List Value},F2 (VV g) xs vals→∀ t,VV g (SM xs t) (vals.getD t undef)
 |[],_,h,t=>by cases h;exact (trivial:VD _ .top _)
 |x::xs,_,h,t=>by
  cases h with
  |cons h1 h2=>
   cases t with
   |zero=>exact h1
   |succ t=>exact XT h2 t
def KA:∀ {xs:List V},(∀ x∈xs,x.aU p)→∀ t,(SM xs t).aU p
 |[],_,t=>trivial
 |x::xs,h,t=>by
  cases t with
  |zero=>exact h x (by simp)
  |succ t=>exact KA (xs:=xs) (fun y b=>h y (by simp [b])) t
def MD {h:Nat→Option Ob}{all:List Nat}:∀ (xs:List V) (i:Nat),(NN h all i xs).length=xs.length
 |[],_=>rfl
 |x::xs,i=>by simp [NN,MD xs]
def WJ {h:Nat→Option Ob}{own:Nat→Nat}{xs:List V}:(OT h own xs).slots.length=xs.length:=by unfold OT;exact MD xs 0
def Ns (c:sN):Prop:=∀ h h':Nat→Option Obj,(∀ b x,h b=some x→h' b=some x)→c.IS h→c.IS h'
def KY {CL:FuncId→Array Value→World→(Ending→World→Prop)→Prop}(I:∀ f a w R R',CL f a w R→(∀ e w',R e w'→R' e w')→CL f a w R'){no:Bool}(hm:Ns c)(hg:c.IS g.h){d:Nat} (hrec:∀ sk ds out,rec (.call d sk ds)=some (true,out)→(no=true→c.SQ d sk ds=none)→IX CL c d sk ds out) (S:aS u p g st.h w) (hpq:∀ x,p x→q x) (A:oD p q nid) {n:List V} {vals:List Value} (hF:F2 (VV g) n vals) (hu:∀ x∈n,x.aU p) (h:wZ c rec no d n nid st K=some r):∃ fn,c.P.funcs[d]? = some fn∧fn.body.isSome=true∧∃ vv mJ,K vv mJ=some r∧CL d vals.toArray w fun e w'=>∃ v,e = .returned v∧Xx u p q g st w vv mJ v w':=by
 unfold wZ at h;split at h
 ·cases h
 ·rename_i fn hfn;obtain⟨hb,h⟩:=N9 h;rw [Bool.not_eq_false',A9] at hb;have hparams:fn.params.toList.length≤16:=by simpa using B3 hb.2
  have hp0:∀ x,p x→(p x∨(nid+16≤x∧x<nid+16+0)):=fun x s=> .inl s;obtain⟨g1,T,A2,A3,A4,A5,A6⟩:=Oi (P:=c.P) (own:=c.own d) (p:=p) (nid:=nid) (fun k hk=>by have:=(A (16+k) (by omega)).1;rwa [← Nat.add_assoc] at this) (ts:=fn.params.toList) (i:=0) (xs:=n) (vals:=vals) (h:=st.h) (g:=g) (by omega) (S.more hp0) hF (fun x s=>(hu x s).mono hp0);have O:U5 p g g1:=⟨A2.h,fun o ho=>A2.blk o (.inl ho),fun o ho=>A2.hdr o (.inl ho)⟩;generalize hargs:gY c.P (c.own d) nid 0 fn.params.toList n st.h=ah at h T A5 A6;obtain⟨args,h0⟩:=ah;simp only [] at h T A5 A6;split at h
  ·cases h
  ·rename_i cf hcf;obtain⟨hno,h⟩:=N9 h;have hno':no=true→c.SQ d (OT h0 (c.own d) args) cf.ds=none:=by
    intro e;rw [e,Bool.true_and] at hno;simpa using hno
   unfold J3 at h;split at h
   ·rename_i out C;have y:=hrec _ _ _ C hno' fn hfn;generalize hsk:OT h0 (c.own d) args=sk at h hcf C y;obtain⟨gF,M⟩:=ET (tm:=fun t=>vals.getD t undef) hcf T (XT A5) (KA A6) (fun l l' o h=>by cases h);have hlen:vals.toArray.size=sk.slots.length:=by
     rw [← hsk,WJ];simp [A5.length]
    (let W:Nat→Prop:=fun x=>p x∨(nid+16≤x∧x<nid+32);have H:Pass u W (·<sk.objs.length) gF (yN g1 gF cf.ren) (bJ h0 cf.fz) (W3 E0 sk cf.ds).h w (fun l o=>W4 cf.ren l=some o):=by refine⟨M.S,M.aH0 T,fun _ _ h=>h,fun l x0 h0'=>?_⟩;obtain⟨_,_,o,x,h1,h2,h3⟩:=M.ob l x0 h0';refine⟨o,x,h1,by rw [rY _ _ _ (M.lt l o h1).1];exact h2,fun b hb=>?_⟩;rw [jK M.a (T.use _ _ h2).1];exact h3 b hb);have B:=y (yV (yN g1 gF cf.ren) (W3 E0 sk cf.ds).h w) (yN g1 gF cf.ren) (hm g.h gF.h (fun b x k=>M.a.h b x (O.h b x k)) hg) vals.toArray w hlen H.aH0 (fun t=>⟨by simpa using M.tm t,M.nm t⟩);let I6:=oB c.P (c.dres d) fn.resultTypes.toList sk;obtain⟨z,h⟩:=N9 h;rw [Bool.not_eq_false'] at z;have z:I6.objs.length≤16:=B3 z;have hnew:∀ k,k<16→¬ W (nid+k)∧q (nid+k):=by
     intro k hk;refine⟨?_,(A k (by omega)).2⟩;rintro (k1|k1)
     ·exact (A k (by omega)).1 k1
     ·omega
    have hpq1:∀ x,W x→q x:=by
     intro x s;rcases s with s|⟨k1,k2⟩
     ·exact hpq x s
     ·have:=(A (x-nid) (by omega)).2
      rwa [show nid+(x-nid)=x from by omega] at this
    have fin:∀ (gH:G) (hold:Nat→Option Ob) (mJ:St),aS u W gH hold w→U5 W g1 gH→gH.blk=g1.blk→gH.hdr=g1.hdr→(∀ b x,gH.h b=some x→gF.h b=some x)→(∀ o x,o∉cf.fz→h0 o=some x→hold o=some x)→((∀ b,gF.h b≠none→gH.h b≠none)∨(CZ c.P I6=true∧M4 I6 out=true))→Q5 I6 out=true→mJ.h=hold→mJ.t=st.t→mJ.m=st.m→K (merge sk I6 cf.ren (eU 0 sk.objs) nid mJ out).1 (merge sk I6 cf.ren (eU 0 sk.objs) nid mJ out).2=some r→∃ fn,c.P.funcs[d]? = some fn∧fn.body.isSome=true∧∃ vv mJ,K vv mJ=some r∧CL d vals.toArray w fun e w'=>∃ v,e = .returned v∧Xx u p q g st w vv mJ v w':=by
     (intro gH hold mJ SH aH bH dH sub N J j e1 e2 e3 hk;refine⟨fn,hfn,hb.1,_,_,hk,I _ _ _ _ _ B ?_⟩;rintro e w' ⟨v,rfl,g',tm',S1,T1,X1,L,rfl⟩;refine⟨_,rfl,?_⟩;obtain⟨g2,m1,m2,m3,m4,m5⟩:=Ri (P:=c.P) (I6:=I6) (nid:=nid) (q:=q) M SH T aH bH dH sub N hnew hpq1 (Ga _ _ _ _) z J j S1 T1 X1 L;have hm2:(merge sk I6 cf.ren (eU 0 sk.objs) nid mJ out).2.h=qB (DP cf.ren (eU 0 sk.objs) nid) (fD I6 out).h (rU sk cf.ren (eU 0 sk.objs) hold 0 sk.objs) 0 I6.objs:=by rw [← e1];rfl);refine⟨g2,by rw [hm2];exact m1,⟨fun b x k=>m2.h b x (aH.h b x (A2.h b x k)),fun x s=>?_,fun x s=>?_⟩,⟨fun b x k=>m2.h b x (aH.h b x (A2.h b x k)),m3.os,m3.tape,m3.output,m3.size⟩,m4,m5,e2,e3⟩
     ·rw [m2.blk x (.inl s),aH.blk x (.inl s),O.blk x s]
     ·rw [m2.hdr x (.inl s),aH.hdr x (.inl s),O.hdr x s]
    have gFh:∀ b x,g1.h b=some x→gF.h b=some x:=M.a.h
    cases hfz:cf.fz.isEmpty with
    |true=>
     (rw [hfz] at h;simp only [cond_true] at h;obtain⟨j,h⟩:=J6 h;have hnil:cf.fz=[]:=by simpa using hfz);have hS:aS u W gF h0 w:=by have:=M.S;rw [hnil] at this;exact this
     exact fin gF h0 { st with h:=h0 } hS M.a M.blk M.hdr (fun _ _ h=>h) (fun _ _ _ h=>h) (.inl fun _ h=>h) j rfl rfl rfl h
    |false=>
     rw [hfz] at h;simp only [cond_false] at h
     cases E:CZ c.P (oB c.P (c.dres d) fn.resultTypes.toList sk) with
     |true=>rw [E] at h;simp only [cond_true] at h;obtain⟨j,h⟩:=J6 h;simp only [A9] at j;exact fin g1 h0 { st with h:=h0 } T (U5.refl _ g1) rfl rfl gFh (fun _ _ _ h=>h) (.inr ⟨E,j.2⟩) j.1 rfl rfl rfl h
     |false=>rw [E] at h;simp only [cond_false] at h;obtain⟨j,h⟩:=J6 h;exact fin gF (bJ h0 cf.fz) (St.freeze { st with h:=h0 } cf.fz) M.S M.a M.blk M.hdr (fun _ _ h=>h) (fun o x ho s=>by rw [rY _ _ _ ho];exact s) (.inl fun _ h=>h) j rfl rfl rfl h
   ·cases h
def TY (hm:Ns c)(y:c.IS g.h)(j:yL c rec)(S:At u p g st a w)(k:∀ x,p x→q x)(l:oD p q nid){d:Nat}{b:List V}{vals:List Value}(B:F2 (VV g) b vals)(n:∀ x∈b,x.aU p) (i:∀ fn,c.P.funcs[d]? = some fn→fn.body.isSome=true→(execOp a.eval o).run c.P w = .ok (.enter d vals.toArray) w) (h:wZ c rec false d b nid st K=some r):Goal u p q g st a w c.P o K r:=by obtain⟨fn,m,A,vv,mJ,t,z⟩:=KY (CL:=Calls c.P) (fun f a w R R' h s=>h.mono s) hm y (fun sk ds out h _=>(j _ _ _ _ h).1) S.hp k l B n h;exact⟨vv,mJ,t,.inr (.inr ⟨d,vals.toArray,w,i fn m A,z⟩)⟩
end
end Go.AE
namespace Go.AE
open Go.RowKit
section
variable {u:Nat→Option Obj} {p q:Nat→Prop} {g:G} {st:St} {a:Act} {w:World} {c:sN} {o:Oper} {R:Type} {K:V→St→Option R} {r:R} {nid:Nat} {rec:Task→Out}
def Gw (c:sN):Prop:=∀ (f:Nat) (ds r:List D),c.ext f ds=some (true,r)→∀ (g:G) (vals:Array Value) (w:World),F2 (VV g) (ds.map V.d) vals.toList→
 ∃ v,(callFunc f vals).run c.P w = .ok (.value v) w∧VV g (XW (r.map V.d)) v
def ZG (c:sN):Prop:=∀ (n:Nat) (xs:List D),c.glob n=some xs→∀ h,c.IS h→ZJ h 1 xs ⟨n,0,none⟩
def Dv (c:sN):Prop:=∀ f,c.cc f=true→∀ e off,c.bld e=some off→∀ (w:World) (b:Nat) (cells:Array Value) (d:Value),w.heap[b]? = some (.cells cells e (0,0))→cells.size=cA c.P e→cells.toList[off]? = some d→
 (d = .pointer none∨d = .pointer (some ⟨b,off,none⟩))→(∃ fn,c.P.funcs[f]? = some fn∧fn.body.isSome=true)∧Calls c.P f #[.pointer (some ⟨b,off,none⟩)] w fun ex w'=>ex = .returned (.tuple #[])∧
  (w'=w∨w'=w.setRow b (cells.setIfInBounds off (.pointer (some ⟨b,off,none⟩))))
def NQ (c:sN):Prop:=∀ f,c.bstr f=true→∀ e off,c.bld e=some off→∀ (w:World) (b:Nat) (cells:Array Value) (v:Value) (l:G1),w.heap[b]? = some (.cells cells e (0,0))→cells.toList[off+1]? = some v→
 w.ownsRow 0 c.bty 1 v l.length (l.map fun x=>Value.int .u8 x.toNat)→v.ownBlock≠some b→l.length≤maxLen→
 (∃ fn,c.P.funcs[f]? = some fn∧fn.body.isSome=true)∧Calls c.P f #[.pointer (some ⟨b,off,none⟩)] w fun ex w'=>ex = .returned (.string ⟨l.toArray⟩)∧w'.os=w.os∧w'.tape=w.tape∧w'.output=w.output∧w.heap.size≤w'.heap.size∧
  ∀ k,k<w.heap.size→some k≠v.ownBlock→w'.heap[k]? = w.heap[k]?
def mK (c:sN):Prop:=(∀ (f:Nat) (fn:Func),c.P.funcs[f]? = some fn→(fn.name=="runtime.NumGoroutine")=false)∧Gw c∧Ns c∧ZG c∧Dv c∧NQ c
def Qg (S:At u p g st a w):∀ xs:List Operand,F2 (VV g) (xs.map (R0 st)) (xs.map a.eval)
 |[]=> .nil
 |x::xs=> .cons (S.ev x) (Qg S xs)
def KI (t:mK c){d:Nat}{fn:Func}(k:c.P.funcs[d]? = some fn)(l:fn.body.isSome=true){q:Call}{m:Operand}(s:o.op = .call q)(x:q.callee = .value m){i:Array Value}(n:a.eval m = .func (.func d) #[] i) :(execOp a.eval o).run c.P w = .ok (.enter d (q.args.map a.eval++i)) w:=by
 have b:=t.1 d fn k;have b:fn.name≠"runtime.NumGoroutine":=by simpa using b
 have j:fn.body≠none:=by intro h;rw [h] at l;cases l
 simp only [execOp,s,resolve,x,n,Deferred.ofValue];simp [invoke,callFunc,k,b,j]
def F2.aU4 {α β:Type}{R:α→β→Prop}{zs:List α}{bs:List β}(h:F2 R zs bs):∀ {j:Nat} {a:α} {b:β},zs[j]? = some a→R a b→F2 R zs (bs.set j b):=by
 induction h with
 |nil=>intro j a b d;simp at d
 |cons l k ih=>
  intro j a b d i
  cases j with
  |zero=>simp at d;subst d;exact .cons i k
  |succ j=>exact .cons l (ih (by simpa using d) i)
def ED:∀ {xs:List D} {us:List Value} {h:Nat→Option Obj},vC xs=true→sO h 1 xs us→us=(xs.map toByte).map fun x=>Value.int .u8 x.toNat
 |[],us,h,_,i=>by cases i;rfl
 | .int .u8 n::xs,us,h,j,i=>by
  simp only [vC,A9,decide_eq_true_eq] at j;obtain⟨v,r,rfl,_,_,b,d⟩:=i;have b:v = .int .u8 n:=b;subst b;have e:((UInt8.ofNat n.toNat).toNat:Int)=n:=by rw [UInt8.toNat_ofNat_of_lt' (by show n.toNat<256;omega)];omega
  rw [ED j.2 d];simp only [List.map_cons,toByte,e];rfl
def Tl (hcc:Dv c)(hbs:NQ c)(S:aS u p g st.h w)(I:∀ x,p x→q x){m:Nat}{args:List V}{vals:List Value}{vv:V}{st':St}(hF:F2 (VV g) args vals)(d:Tj c m args st=some (true,vv,st')) :(∃ fn,c.P.funcs[m]? = some fn∧fn.body.isSome=true)∧Calls c.P m vals.toArray w fun ex w'=>∃ v,ex = .returned v∧Xx u p q g st w vv st' v w':=by
 unfold Tj at d;split at d
 ·rename_i o off;split at d
  ·rename_i cs j;split at d
   ·rename_i t o' f M;replace d:=J6 d;obtain⟨C,d⟩:=d;simp only [A9] at C;obtain⟨⟨⟨hb1,hb2⟩,O⟩,hb4⟩:=C;have ho:o'=o:=B0 hb1;have hf:f=off:=B0 hb2;subst ho;subst hf;have B:c.bld t=some f:=by
     split at O
     ·rename_i k hk;rw [hk,B0 O]
     ·cases O
    (obtain⟨cells,e,N,n,h1,h2⟩:=S.ob _ _ j;have he:e=t:=h2 _ _ _ (List.mem_of_getElem? M);subst he;have hsz:cells.size=cA c.P e:=by rw [← E4,← n.length];exact B0 hb4);obtain⟨v0,hv0,H⟩:=n.get f _ M;have H:v0 = .pointer none∨v0 = .pointer (some ⟨g.blk o',f,none⟩):=H
    cases hF with
    |cons ha hF=>
    cases hF;have ha:=IZ ha;subst ha;have hpo:p o':=(S.use _ _ j).1
    cases hc1:c.cc m with
    |true=>
     rw [hc1] at d;simp only [cond_true,B1,C7,true_and] at d;obtain⟨rfl,rfl⟩:=d;obtain⟨J,l⟩:=hcc m hc1 e f B w (g.blk o') cells v0 N hsz hv0 H;refine⟨J,l.mono fun ex w' ⟨L,hw⟩=>⟨_,L,?_⟩⟩;have hV:VV g (.tup []) (.tuple #[]):=⟨#[],rfl,.nil⟩;rcases hw with rfl|rfl
     ·exact⟨g,S.more I,U5.refl p g,Ext.refl g _,hV,(fun z hz=>by cases hz),rfl,rfl⟩
     ·have hn:VA g (.bp e o' f) (.pointer (some ⟨g.blk o',f,none⟩)):=Or.inr rfl;have T:=yF (h':=st.h) (cs':=cs) (c':=cells.setIfInBounds f (.pointer (some ⟨g.blk o',f,none⟩))) S j N (by rw [Array.toList_setIfInBounds];exact n.aU4 M hn) (by
        intro y W;rw [Array.toList_setIfInBounds] at W;rcases List.mem_or_eq_of_mem_set W with W|rfl
        ·exact h1 y W
        ·rfl) (S.use _ _ j).2 h2 (fun x=>by
         by_cases e:x=o'
         ·subst e;rw [if_pos rfl];exact j
         ·rw [if_neg e])
      exact⟨g,T.more I,U5.refl p g,tZ (U5.refl p g) _ _,hV,(fun z hz=>by cases hz),rfl,rfl⟩
    |false=>
     rw [hc1] at d;simp only [cond_false] at d
     cases hc2:c.bstr m with
     |false=>rw [hc2] at d;cases d
     |true=>
      rw [hc2] at d;simp only [cond_true] at d;split at d
      ·rename_i ro hro;split at d
       ·rename_i e2 sz xs i;simp only [B1,C7,A9] at d;obtain⟨C,d⟩:=d;obtain⟨⟨k1,k2⟩,k3⟩:=C;have k2:sz=1:=B0 k2;have k3:e2=c.bty:=B0 k3;subst k2;subst k3;obtain⟨rfl,rfl⟩:=d;obtain⟨v1,hv1,E⟩:=n.get (f+1) _ hro;have E:v1=g.hdr ro:=E.1;subst E;obtain⟨us,hpos,s,hf⟩:=S.ob _ _ i;have hus:=ED k1 hf;subst hus;have hne:(g.hdr ro).ownBlock≠some (g.blk o'):=by
         intro e;have:=S.inj ro o' _ _ (g.blk o') i j e rfl;subst this;rw [i] at j;cases j
        have hml:xs.length≤maxLen:=by
         rcases cP s with ⟨_,h0,_⟩|⟨_,cap,_,_,_,_,h4,h5,_⟩
         ·rw [h0];exact C4 _
         ·omega
        obtain⟨J,l⟩:=hbs m hc2 e f B w (g.blk o') cells _ (xs.map toByte) N hv1 (by rw [List.length_map];exact s) hne (by rw [List.length_map];exact hml);refine⟨J,l.mono fun ex w' ⟨L,a1,a2,a3,a4,a5⟩=>⟨_,L,g,?_,U5.refl p g,⟨fun _ _ h=>h,a1,a2,a3,a4⟩,⟨_,rfl,rfl⟩,trivial,rfl,rfl⟩⟩;refine S.update (U5.refl p g) rfl (g.hdr ro).ownBlock a5 (fun b C=>S.sep ro _ b i C) I ro ?_ ?_
        ·intro o1 x d A;rw [bT,if_neg A] at d;exact⟨d,fun b C e=>A (S.inj o1 ro _ _ b d i C e.symm)⟩
        ·intro x d;rw [bT,if_pos rfl] at d;cases d
       ·cases d
      ·cases d
   ·cases d
  ·cases d
 ·cases d
def Wn (A:mK c)(hg:c.IS g.h)(t:yL c rec)(S:At u p g st a w)(m:∀ x,p x→q x)(L:oD p q nid){s:Call}{H:Operand}(M:o.op = .call s)(N:s.callee = .value H) (h:TT c rec (R0 st H) (s.args.toList.map (R0 st)) nid st K=some r):Goal u p q g st a w c.P o K r:=by
 have k:=S.ev H;have I:=S.eZ H;have i:=Qg S s.args.toList;have J:∀ x∈s.args.toList.map (R0 st),x.aU p:=fun x j=>by obtain⟨y,_,rfl⟩:=List.mem_map.1 j;exact S.eZ y
 unfold TT at h;split at h
 ·rename_i n he;rw [he] at k;split at h
  ·rename_i b1 O mJ j;obtain⟨hb1,h⟩:=J6 h;subst hb1;obtain⟨⟨fn,W,hbd⟩,hc1⟩:=Tl A.2.2.2.2.1 A.2.2.2.2.2 S.hp m (vals:=s.args.toList.map a.eval) i j;refine⟨O,mJ,h,.inr (.inr ⟨n,(s.args.toList.map a.eval).toArray,w,?_,hc1⟩)⟩;rw [KI A W hbd M N k];congr 2;apply Array.ext';simp
  split at h
  ·rename_i b E j;split at j
   ·rename_i ds hds;obtain⟨C,h⟩:=J6 h;subst C;have hl:=GF hds;rw [hl] at i;obtain⟨v,h1,h2⟩:=A.2.1 n ds E j g (s.args.map a.eval) w (by simpa using i);refine Goal.val S m h (v:=v) ?_ h2 ?_
    ·simp only [execOp,M,resolve,N,show a.eval H=_ from k,Deferred.ofValue];simp [invoke,h1]
    ·cases E with
     |nil=>intro z T;cases T
     |cons x E=>cases E with
      |nil=>trivial
      |cons y E=>intro z T;obtain⟨d,_,rfl⟩:=List.mem_map.1 (show z∈(x::y::E).map V.d from T);trivial
   ·cases j
  refine TY A.2.2.1 hg t S m L i J (fun fn hf C=>?_) h;rw [KI A hf C M N k];congr 2;apply Array.ext';simp
 ·rename_i n l he;rw [he] at k I;have B:∃ us:Array Value,a.eval H = .func (.func n) #[] us∧F2 (VV g) l us.toList∧∀ x∈l,x.aU p:=by
   cases l with
   |nil=>exact⟨#[],k,.nil,fun x j=>by cases j⟩
   |cons c0 l=>obtain⟨us,h1,h2⟩:=k;refine⟨us,h1,h2.mono fun _ _ _ h=>gX (mR h),fun x j=>?_⟩;obtain⟨b,_,C⟩:=h2.mem x j;exact fH (pJ C (I x j))
  obtain⟨us,h1,h2,h3⟩:=B;refine TY A.2.2.1 hg t S m L (i.append h2) (fun x j=>?_) (fun fn hf C=>?_) h
  ·rcases D3.1 j with j|j
   ·exact J x j
   ·exact h3 x j
  ·rw [KI A hf C M N h1];congr 2;apply Array.ext';simp
 ·cases h
def Fv (S:At u p g st a w)(i:∀ x,p x→q x)(I:oD p q nid){z:Call}{b:Builtin}(C:o.op = .call z)(E:z.callee = .builtin b) (h:tP c b z.argTypes (z.args.toList.map (R0 st)) nid st K=some r):Goal u p q g st a w c.P o K r:=by
 unfold tP at h;have one:∀ v,z.args.toList.map (R0 st)=[v]→∃ x,z.args=#[x]∧R0 st x=v:=by
  intro v j
  cases ha:z.args.toList with
  |nil=>rw [ha] at j;cases j
  |cons x xs=>rw [ha] at j;simp only [List.map_cons,List.cons.injEq,List.map_eq_nil_iff] at j;obtain⟨h1,h2⟩:=j;subst h2;exact⟨x,by apply Array.ext';simpa using ha,h1⟩
 have two:∀ v N,z.args.toList.map (R0 st)=[v,N]→∃ x y,z.args=#[x,y]∧R0 st x=v∧R0 st y=N:=by
  intro v N j
  cases ha:z.args.toList with
  |nil=>rw [ha] at j;cases j
  |cons x xs=>
   rw [ha] at j;simp only [List.map_cons,List.cons.injEq] at j;obtain⟨h1,h2⟩:=j
   cases xs with
   |nil=>cases h2
   |cons y ys=>simp only [List.map_cons,List.cons.injEq,List.map_eq_nil_iff] at h2;obtain⟨h2,J⟩:=h2;subst J;exact⟨x,y,by apply Array.ext';simpa using ha,h1,h2⟩
 split at h
 ·rename_i x A;obtain⟨x',h1,rfl⟩:=one _ A;split at h
  ·rename_i t ht;exact YA S i C E h1 rfl ht h
  ·cases h
 ·rename_i s x A;obtain⟨x',M,h1,rfl,rfl⟩:=two _ _ A;split at h
  ·rename_i t L l
   cases htb:Nat.beq t L with
   |true=>rw [htb] at h;simp only [cond_true] at h;have O:t=L:=beq_iff.1 htb;rw [← O] at l;exact Md S i I C E h1 (by apply Array.ext';simpa using l) h
   |false=>
    rw [htb] at h;simp only [cond_false] at h;obtain⟨H,h⟩:=J6 h;split at h
    ·rename_i s' T;have hu:c.P.underlying L=some .string:=by
      split at H
      ·rename_i k;exact k
      ·cases H
     exact Fu S i I C E h1 (by apply Array.ext';simpa using l) hu T h
    ·cases h
  ·cases h
 ·rename_i d x A;obtain⟨x',M,h1,rfl,rfl⟩:=two _ _ A;split at h
  ·rename_i t L l;split at h
   ·rename_i e he;obtain⟨B,h⟩:=J6 h;simp only [A9] at B;exact Wo S i C E h1 rfl (by apply Array.ext';simpa using l) he B.1 h (beq_iff.1 B.2)
   ·cases h
  ·cases h
 ·rename_i k n W m A;obtain⟨x',M,h1,h2,J⟩:=two _ _ A;obtain⟨B,h⟩:=J6 h;exact (UW S i C E h1 h2 J (E7 B)).1 rfl h
 ·rename_i k n W m A;obtain⟨x',M,h1,h2,J⟩:=two _ _ A;obtain⟨B,h⟩:=J6 h;exact (UW S i C E h1 h2 J (E7 B)).2 rfl h
 ·cases h
def Fy (I:ZG c)(L:c.IS g.h)(S:At u p g st a w)(l:∀ x,p x→q x){x i:Operand}{t:TypeId}(z:o.op = .indexAddr t x i) (h:rZ c t x (R0 st x) (R0 st i) st K=some r):Goal u p q g st a w c.P o K r:=by
 unfold rZ at h;split at h
 ·rename_i n;have b:=S.ev i;split at h
  ·(rename_i xs len e k m E s J;obtain⟨A,h⟩:=J6 h;simp only [A9,decide_eq_true_eq] at A;obtain⟨⟨⟨⟨h1,h2⟩,O⟩,N⟩,M⟩:=A;rw [J] at b;have b:=wQ b;obtain⟨d,info,W,j,_,y⟩:=lX h1;have hl:len=xs.length:=B0 O;have H:cA c.P e=1:=B0 h2;have C:c.P.elem t=e:=by simp [Program.elem,s]);have B:c.P.arrayLen t=len:=by simp [Program.arrayLen,s]
   (have run:(execOp a.eval o).run c.P w = .ok (.value (.pointer (some ((⟨n,0,none⟩:Addr).add (m.toNat*1))))) w:=by have T:a.eval (.global n) = .pointer (some ⟨n,0,none⟩):=rfl;simp only [execOp,z,T,b];simp [run_indexAt_array w t ⟨n,0,none⟩ k m (by rw [B,C];exact s),N,B,hl,M,C,lB j,← y,H]);refine Goal.val S l h run ?_ trivial;exact⟨⟨n,0,none⟩,I n xs E _ L,by omega,by rw [Nat.add_zero]⟩
  ·cases h
 ·exact XY S l z h
def Ch (L:mK c)(N:c.IS g.h)(E:yL c rec)(S:At u p g st a w)(j:∀ x,p x→q x)(m:oD p q nid)(h:Nk c rec o nid st K=some r):Goal u p q g st a w c.P o K r:=by
 unfold Nk at h;simp only [] at h;split at h
 ·rename_i x l;rw [rB] at h;exact⟨_,_,h,Iy S j (.inl l)⟩
 ·rename_i x l;exact Me S j m l h
 ·rename_i x y z l;split at h
  ·rename_i b C;have hp:=Ws (P:=c.P) S j l C
   cases b with
   |true=>simp only [cond_true] at h;rw [rB] at h;exact⟨_,_,h,by simpa using hp⟩
   |false=>simp only [cond_false] at h;rw [rB] at h;exact⟨_,_,h,by simpa using hp⟩
  ·cases h
 ·rename_i t l;exact Rv S j m l h
 ·rename_i t x l;exact aE7 S j m l h
 ·rename_i t ps l;exact Rx S j l h
 ·rename_i t n ps l;exact SN S j m l h
 ·rename_i t x l;exact Wp S j l h
 ·rename_i t x y l;exact Sd S j m l h
 ·rename_i x l;split at h
  ·rename_i q f A;have:=sE (P:=c.P) S j l (.inl ⟨q,f,A⟩);rw [A] at this;exact⟨_,_,h,this⟩
  ·rename_i sz xs i f A;have:=sE (P:=c.P) S j l (.inr (.inl ⟨sz,xs,i,f,A⟩));rw [A] at this;exact⟨_,_,h,this⟩
  ·rename_i q sz i f A;have:=sE (P:=c.P) S j l (.inr (.inr (.inl ⟨q,sz,i,f,A⟩)));rw [A] at this;exact⟨_,_,h,this⟩
  ·rename_i f A;have:=sE (P:=c.P) S j l (.inr (.inr (.inr (.inl ⟨f,A⟩))));rw [A] at this;exact⟨_,_,h,this⟩
  ·rename_i f cs A;have:=sE (P:=c.P) S j l (.inr (.inr (.inr (.inr ⟨f,cs,A⟩))));rw [A] at this;exact⟨_,_,h,this⟩
  ·cases h
 ·rename_i op t x y z l;split at h
  ·rename_i d e B T;exact Rw (b:=true) S j ⟨z,l⟩ B T h
  ·cases h
 ·rename_i op t x l;split at h
  ·rename_i d B;exact Wt S j l B h
  ·cases h
 ·rename_i src dst x l;exact Fw S j l h
 ·rename_i f first captured l;exact Cg S j l h
 ·rename_i t x k l;split at h
  ·rename_i off ft I;obtain⟨C,h⟩:=J6 h;exact XX S j l I C h
  ·cases h
 ·rename_i t x k l;split at h
  ·rename_i off ft I;obtain⟨C,h⟩:=N9 h;exact Ry S j l I (by simpa using C) h
  ·cases h
 ·rename_i t x i l;exact Fy L.2.2.2.1 N S j l h
 ·rename_i t x i l;split at h
  ·rename_i s k n W B M;obtain⟨C,h⟩:=J6 h;exact XZ S j l W B M C h
  ·cases h
 ·rename_i t x y l;exact Wq S j m l h
 ·rename_i t r' l;split at h
  ·exact Fz S j m l h
  ·cases h
 ·rename_i t x y ok l;exact Mf S j l h
 ·rename_i t x y z l;exact YB S j l h
 ·rename_i t x lo M mx l;exact Sc S j l h
 ·rename_i x k l;split at h
  ·rename_i O B;obtain⟨H,h⟩:=J6 h;rw [rB] at h;have H:Nat.ble (k+1) O.length=true:=H;exact Fx S j l B (B3 H) h
  ·cases h
 ·rename_i q' l;split at h
  ·rename_i f J;exact Wn L N E S j m l J h
  ·rename_i b J;exact Fv S j m l J h
  ·cases h
 ·cases h
end
end Go.AE
namespace Go.AE
section
variable {R:Type} {c:sN} {rec:Task→Out} {P:Program} {st:St} {nid:Nat}
def M7 {α β:Type}{b:Bool}{x y:Option α}{k:α→Option β}:(bif b then x else y).bind k=bif b then x.bind k else y.bind k:=by cases b<;>rfl
def qD (t:TypeId)(o:Nat)(v:V)(st:St)(K:V→St→Option R):FH P t o v st K=(FH P t o v st fun v s=>some (v,s)).bind fun p=>K p.1 p.2:=by
 unfold FH;split
 ·split
  ·rw [M7];rfl
  ·rfl
 ·rfl
def CS (v:V)(K:V→Option R):force v K=K v:=by cases v<;>rfl
def Ls (t:TypeId)(p:V)(K:V→St→Option R):LP P t p st K=(LP P t p st fun v s=>some (v,s)).bind fun p=>K p.1 p.2:=by
 unfold LP typed;simp only [CS,M7,Option.bind_none];congr 1
 cases p with
 |ptr o off=>
  simp only [];split
  ·simp only [M7,Option.bind_none,Option.bind_some];congr 1;split<;>rfl
  ·rfl
 |el sz xs i off=>simp only [M7,Option.bind_none,Option.bind_some]
 |rp o sz i off=>
  simp only [];split
  ·simp only [M7,Option.bind_none,Option.bind_some]
  ·rfl
 |_=>rfl
def Gj (t:TypeId)(p v:V)(K:V→St→Option R):KM P t p v nid st K=(KM P t p v nid st fun v s=>some (v,s)).bind fun p=>K p.1 p.2:=by
 unfold KM;simp only [M7,Option.bind_none];congr 1;split
 ·split
  ·simp only [M7,Option.bind_none,Option.bind_some];congr 2;congr 1;rw [qD];(conv=>rhs;rw [qD]);simp [Option.bind_assoc]
  ·rfl
 ·split
  ·rw [M7];split<;>simp only [M7,Option.bind_none,Option.bind_some]
  ·rfl
 ·rfl
def ZO (t:TypeId)(x y:V)(K:V→St→Option R):CH P t x y nid st K=(CH P t x y nid st fun v s=>some (v,s)).bind fun p=>K p.1 p.2:=by
 unfold CH;split
 ·rfl
 ·split
  ·rfl
  ·simp only [M7,Option.bind_none];congr 1;split
   ·simp only [M7,Option.bind_none,Option.bind_some]
   ·split
    ·simp only [M7,Option.bind_none,Option.bind_some]
    ·rfl
   ·rfl
def Lt (t:TypeId)(x y:V)(K:V→St→Option R):QM P t x y nid st K=(QM P t x y nid st fun v s=>some (v,s)).bind fun p=>K p.1 p.2:=by
 unfold QM;split
 ·split
  ·simp only [M7,Option.bind_none,Option.bind_some]
  ·rfl
 ·rfl
def Kz (x y:V)(K:V→St→Option R):TW P x y st K=(TW P x y st fun v s=>some (v,s)).bind fun p=>K p.1 p.2:=by
 unfold TW;split
 ·split
  ·rw [M7];rfl
  ·rfl
 ·rfl
def Ra (t:TypeId)(x:V)(K:V→St→Option R):(Bg P t st x fun n=>K (.d (.int .i64 n)) st)=(Bg P t st x fun n=>some (V.d (.int .i64 n),st)).bind fun p=>K p.1 p.2:=by
 unfold Bg;split
 ·split<;>rfl
 ·split<;>rfl
 ·split
  ·split<;>rfl
  ·rfl
  ·rfl
 ·rfl
def By (t:TypeId)(K:V→St→Option R):xK P t nid st K=(xK P t nid st fun v s=>some (v,s)).bind fun p=>K p.1 p.2:=by
 unfold xK;split
 ·rw [M7];rfl
 ·rfl
def Br (t:TypeId)(x i:V)(ok:Bool)(K:V→St→Option R):vA P t x i ok st K=(vA P t x i ok st fun v s=>some (v,s)).bind fun p=>K p.1 p.2:=by
 unfold vA;split
 ·split
  ·unfold typed;rw [M7,M7];cases ok<;>rfl
  ·rfl
 ·rfl
def Bt (t:TypeId)(x i y:V)(K:V→St→Option R):CU P t x i y st K=(CU P t x i y st fun v s=>some (v,s)).bind fun p=>K p.1 p.2:=by
 unfold CU;split
 ·split
  ·rw [M7];rfl
  ·rfl
 ·rfl
def PZ (t:TypeId)(x i:V)(K:V→St→Option R):mY P t x i st K=(mY P t x i st fun v s=>some (v,s)).bind fun p=>K p.1 p.2:=by
 unfold mY;rw [M7];congr 1;split
 ·split
  ·rw [M7];rfl
  ·split
   ·rw [M7];rfl
   ·rfl
  ·split
   ·rw [M7];rfl
   ·rfl
  ·rfl
 ·rfl
def XG (t:TypeId)(x:Operand)(b i:V)(K:V→St→Option R):rZ c t x b i st K=(rZ c t x b i st fun v s=>some (v,s)).bind fun p=>K p.1 p.2:=by
 unfold rZ;split
 ·split
  ·rw [M7];rfl
  ·rfl
 ·exact PZ _ _ _ _
def Gh (t:TypeId)(x:V)(d i b:Option V)(K:V→St→Option R):CB P t x d i b st K=(CB P t x d i b st fun v s=>some (v,s)).bind fun p=>K p.1 p.2:=by
 unfold CB;split
 ·rfl
 ·rw [M7];congr 1;split
  ·split
   ·rw [M7];rfl
   ·rfl
  ·split
   ·rw [M7];rfl
   ·rfl
  ·split
   ·rw [M7];congr 1;split
    ·rw [M7];rfl
    ·rfl
   ·rfl
  ·rfl
def UG (op:BinOp)(k:IntKind)(a b:Int)(K:V→St→Option R):(LH op k a b fun z=>K (.d z) st)=(LH op k a b fun z=>some (V.d z,st)).bind fun p=>K p.1 p.2:=by cases op<;>simp only [LH]<;>first|rfl|(rw [M7];rfl)
def Mu (op:BinOp)(a b:G1)(K:V→St→Option R):(MC op a b fun z=>K (.d z) st)=(MC op a b fun z=>some (V.d z,st)).bind fun p=>K p.1 p.2:=by cases op<;>simp only [MC]<;>first|rfl|(rw [M7];rfl)
def Ef (op:BinOp)(t:TypeId)(x y:D)(K:V→St→Option R):(AB P op t x y fun z=>K (.d z) st)=(AB P op t x y fun z=>some (V.d z,st)).bind fun p=>K p.1 p.2:=by
 unfold AB;split
 ·split
  ·rw [M7];rfl
  ·rw [M7];rfl
  ·rw [M7,UG];rfl
 ·exact Mu _ _ _ _
 ·split
  ·split<;>rfl
  ·rfl
 ·rw [M7];congr 1;split<;>rfl
 ·rw [M7];congr 1;split
  ·rw [M7];rfl
  ·rw [M7];rfl
  ·rfl
 ·rw [M7];congr 1;split<;>rfl
 ·rfl
def Mz (op:UnOp)(x:D)(K:V→St→Option R):(MF op x fun z=>K (.d z) st)=(MF op x fun z=>some (V.d z,st)).bind fun p=>K p.1 p.2:=by unfold MF;split<;>rfl
def Kr (r:Out)(k:List D→Option R)(b:List D→Option (V×St))(K:V×St→Option R)(h:∀ ds,k ds=(b ds).bind K):J3 r k=(J3 r b).bind K:=by
 unfold J3;split
 ·exact h _
 ·rfl
def EV (no:Bool)(f:Nat)(args:List V)(K:V→St→Option R):wZ c rec no f args nid st K=(wZ c rec no f args nid st fun v s=>some (v,s)).bind fun p=>K p.1 p.2:=by
 unfold wZ;split
 ·rfl
 ·rw [M7];congr 1;simp only [];split
  ·rfl
  ·rw [M7];congr 1;refine Kr _ _ _ _ fun ds=>?_;simp only [M7,Option.bind_none,Option.bind_some]
def WB (t:TypeId)(x:V)(s:G1)(K:V→St→Option R):vR P t x s nid st K=(vR P t x s nid st fun v s=>some (v,s)).bind fun p=>K p.1 p.2:=by
 unfold vR;split
 ·split
  ·rw [M7];rfl
  ·rfl
 ·rfl
def Ad (t:Nat)(cs:List V)(K:V→St→Option R):OK c t nid cs st K=(OK c t nid cs st fun v s=>some (v,s)).bind fun p=>K p.1 p.2:=by unfold OK;split<;>rfl
def Kx (f:V)(args:List V)(K:V→St→Option R):TT c rec f args nid st K=(TT c rec f args nid st fun v s=>some (v,s)).bind fun p=>K p.1 p.2:=by
 unfold TT;split
 ·split
  ·rw [M7];rfl
  ·split
   ·rw [M7];rfl
   ·exact EV _ _ _ _
 ·exact EV _ _ _ _
 ·rfl
def WI (b:Builtin)(ts:Array TypeId)(args:List V)(K:V→St→Option R):tP c b ts args nid st K=(tP c b ts args nid st fun v s=>some (v,s)).bind fun p=>K p.1 p.2:=by
 unfold tP;split
 ·split
  ·exact Ra _ _ _
  ·rfl
 ·split
  ·rw [M7,ZO,M7];congr 2;split
   ·exact WB _ _ _ _
   ·rfl
  ·rfl
 ·split
  ·split
   ·rw [M7,Kz];rfl
   ·rfl
  ·rfl
 ·rw [M7];rfl
 ·rw [M7];rfl
 ·rfl
def Wl (o:Oper)(K:V→St→Option R):Nk c rec o nid st K=(Nk c rec o nid st fun v s=>some (v,s)).bind fun p=>K p.1 p.2:=by
 unfold Nk;simp only [CS];split
 ·rfl
 ·split
  ·rw [M7,qD];rfl
  ·rfl
 ·split
  ·rw [M7];rfl
  ·rfl
 ·split
  ·rw [M7,M7,qD];(conv=>rhs;rw [qD]);rw [Ad];simp [Option.bind_assoc]
  ·rfl
 ·rw [M7,M7,M7,qD]
  conv=>rhs;rw [qD]
  rw [Ad];simp [Option.bind_assoc]
 ·split
  ·rw [M7];congr 1;split<;>rfl
  ·rfl
 ·split
  ·split
   ·rw [M7];congr 1;split<;>rfl
   ·rfl
  ·rfl
 ·exact Ls _ _ _
 ·exact Gj _ _ _ _
 ·split<;>rfl
 ·split
  ·exact Ef _ _ _ _ _
  ·rfl
 ·split
  ·exact Mz _ _ _
  ·rfl
 ·split
  ·rfl
  ·rw [M7];rfl
  ·rfl
  ·split
   ·split
    ·rw [M7];rfl
    ·rfl
   ·rfl
  ·rfl
 ·rw [M7,M7];rfl
 ·split
  ·rw [M7];congr 1;split<;>rfl
  ·rfl
 ·split
  ·rw [M7];congr 1;split
   ·rw [M7,M7];congr 2;split<;>rfl
   ·rw [M7,M7];congr 2;split<;>rfl
   ·rfl
  ·rfl
 ·exact XG _ _ _ _ _
 ·split
  ·rw [M7];rfl
  ·rfl
 ·exact Lt _ _ _ _
 ·split
  ·exact By _ _
  ·rfl
 ·exact Br _ _ _ _ _
 ·exact Bt _ _ _ _ _
 ·exact Gh _ _ _ _ _ _
 ·split
  ·rw [M7];rfl
  ·rfl
 ·split
  ·exact Kx _ _ _
  ·exact WI _ _ _ _
  ·rfl
 ·rfl
end
end Go.AE
namespace Go.AE
section
variable {c:sN} {rec:Task→Out} {P:Program} {st st':St} {nid:Nat} {v:V}
def Own (nid:Nat)(st st':St):Prop:=∀ x,¬ (nid≤x∧x<nid+32)→st'.h x=st.h x
def Own.refl (nid:Nat)(st:St):Own nid st st:=fun _ _=>rfl
def Own.nM {o:Nat}{ob:Option Ob}(h:Own nid st st')(i:nid≤o∧o<nid+32):Own nid st (st'.nM o ob):=fun x d=>by have b:x≠o:=fun e=>d (by rw [e];exact i);rw [bT,if_neg b];exact h x d
def QW {t:TypeId}{o:Nat}(d:nid≤o∧o<nid+32){v b:V}(h:FH P t o v st (fun v s=>some (v,s))=some (b,st')):Own nid st st':=by
 unfold FH at h;split at h
 ·split at h
  ·obtain⟨_,h⟩:=J6 h;cases h;exact (Own.refl nid st).nM d
  ·cases h
 ·cases h;exact Own.refl nid st
def AD {α β:Type}{x:Option α}{k:α→Option β}{y:β}(h:x.bind k=some y):∃ a,x=some a∧k a=some y:=by
 cases x with
 |none=>cases h
 |some a=>exact⟨a,rfl,h⟩
def Lr {t:TypeId}{p:V}(h:LP P t p st (fun v s=>some (v,s))=some (v,st')):st'=st:=by
 unfold LP typed at h;simp only [CS] at h;replace h:=(N9 h).2;split at h
 ·split at h
  ·cases hb:X7 P t with
   |true=>rw [hb] at h;obtain⟨_,h⟩:=J6 h;cases h;rfl
   |false=>
    rw [hb] at h;simp only [cond_false] at h;split at h
    ·cases h;rfl
    ·cases h
  ·cases h
 ·rename_i sz xs i off
  cases hb:(Nat.beq off 0&&Nat.beq (cA P t) sz) with
  |true=>rw [hb] at h;obtain⟨_,h⟩:=J6 h;cases h;rfl
  |false=>rw [hb] at h;simp only [cond_false] at h;obtain⟨_,h⟩:=J6 h;obtain⟨_,h⟩:=J6 h;obtain⟨_,h⟩:=J6 h;cases h;rfl
 ·rename_i o sz i off;split at h
  ·obtain⟨_,h⟩:=J6 h
   cases hb:(Nat.beq off 0&&Nat.beq (cA P t) sz) with
   |true=>rw [hb] at h;obtain⟨_,h⟩:=J6 h;cases h;rfl
   |false=>rw [hb] at h;simp only [cond_false] at h;obtain⟨_,h⟩:=J6 h;obtain⟨_,h⟩:=J6 h;obtain⟨_,h⟩:=J6 h;cases h;rfl
  ·cases h
 ·cases h
def Lj {op:BinOp}{k:IntKind}{a b:Int}(h:(LH op k a b fun z=>some (V.d z,st))=some (v,st')):st'=st:=by rw [UG (K:=fun v s=>some (v,s))] at h;obtain⟨p,h1,h2⟩:=AD h;cases h2;cases op<;>simp only [LH] at h1<;>first|(cases h1;done)|(cases h1;rfl)|(obtain⟨_,h1⟩:=N9 h1;cases h1;rfl)
def Ms {op:BinOp}{a b:G1}(h:(MC op a b fun z=>some (V.d z,st))=some (v,st')):st'=st:=by cases op<;>simp only [MC] at h<;>first|(cases h;done)|(cases h;rfl)|(obtain⟨_,h⟩:=J6 h;cases h;rfl)
def Ee {op:BinOp}{t:TypeId}{x y:D}(h:(AB P op t x y fun z=>some (V.d z,st))=some (v,st')):st'=st:=by
 unfold AB at h;split at h
 ·split at h
  ·replace h:=(N9 h).2;cases h;rfl
  ·replace h:=(N9 h).2;cases h;rfl
  ·exact Lj (J6 h).2
 ·exact Ms h
 ·split at h
  ·split at h<;>first|(cases h;done)|(cases h;rfl)
  ·cases h
 ·replace h:=(J6 h).2;split at h<;>first|(cases h;done)|(cases h;rfl)
 ·rename_i sz xs e1 b;replace h:=(J6 h).2
  cases he:xs.isEmpty with
  |true=>simp only [he,cond_true] at h;split at h<;>first|(cases h;done)|(cases h;rfl)
  |false=>simp only [he,cond_false] at h;split at h<;>first|(cases h;done)|(cases h;rfl)
 ·replace h:=(J6 h).2;split at h<;>first|(cases h;done)|(cases h;rfl)
 ·cases h
def My {op:UnOp}{x:D}(h:(MF op x fun z=>some (V.d z,st))=some (v,st')):st'=st:=by unfold MF at h;split at h<;>first|(cases h;done)|(cases h;rfl)
def Qz {t:TypeId}{x:V}(h:(Bg P t st x fun n=>some (V.d (.int .i64 n),st))=some (v,st')):st'=st:=by
 unfold Bg at h;split at h
 ·split at h<;>first|(cases h;done)|(cases h;rfl)
 ·split at h<;>first|(cases h;done)|(cases h;rfl)
 ·split at h
  ·split at h<;>first|(cases h;done)|(cases h;rfl)
  ·cases h;rfl
  ·cases h
 ·cases h
def Bq {t:TypeId}{x i:V}{ok:Bool}(h:vA P t x i ok st (fun v s=>some (v,s))=some (v,st')):st'=st:=by
 unfold vA at h;split at h
 ·split at h
  ·replace h:=(J6 h).2;unfold typed at h;replace h:=(J6 h).2;cases ok<;>(cases h;rfl)
  ·cases h
 ·cases h
def PY {t:TypeId}{x i:V}(h:mY P t x i st (fun v s=>some (v,s))=some (v,st')):st'=st:=by
 unfold mY at h;replace h:=(N9 h).2;split at h
 ·split at h
  ·replace h:=(J6 h).2;cases h;rfl
  ·split at h
   ·replace h:=(J6 h).2;cases h;rfl
   ·cases h
  ·split at h
   ·replace h:=(J6 h).2;cases h;rfl
   ·cases h
  ·cases h
 ·cases h
def XF {t:TypeId}{x:Operand}{b i:V}(h:rZ c t x b i st (fun v s=>some (v,s))=some (v,st')):st'=st:=by
 unfold rZ at h;split at h
 ·split at h
  ·replace h:=(J6 h).2;cases h;rfl
  ·cases h
 ·exact PY h
def Gf {t:TypeId}{x:V}{d i b:Option V}(h:CB P t x d i b st (fun v s=>some (v,s))=some (v,st')):st'=st:=by
 unfold CB at h;split at h
 ·cases h
 ·replace h:=(N9 h).2;split at h
  ·split at h
   ·replace h:=(J6 h).2;cases h;rfl
   ·cases h
  ·split at h
   ·replace h:=(J6 h).2;cases h;rfl
   ·cases h
  ·split at h
   ·replace h:=(N9 h).2;split at h
    ·replace h:=(J6 h).2;cases h;rfl
    ·cases h
   ·cases h
  ·cases h
def Ac {c:sN}{t:Nat}{cs:List V}{v:V}(h:OK c t nid cs st (fun v s=>some (v,s))=some (v,st')):Own nid st st':=by
 unfold OK at h;split at h
 ·rename_i cs' h' b;cases h;refine Own.nM (st':={ st with h:=h' }) ?_ ⟨B9 _,by omega⟩;unfold OJ at b;split at b
  ·cases b;exact Own.refl nid st
  ·split at b
   ·replace b:=(J6 b).2;cases b;intro x d;have i:Nat.beq x (nid+1)=false:=by
     rw [← Bool.not_eq_true];intro j;have:=B0 j;exact d (by omega)
    show (bif Nat.beq x (nid+1) then _ else _)=_;rw [i];rfl
   ·cases b
 ·cases h
def Ix {o:Oper}(d:SI o.op=true)(h:Nk c rec o nid st (fun v s=>some (v,s))=some (v,st')):Own nid st st':=by
 have same:st'=st→Own nid st st':=fun e=>by rw [e];exact Own.refl nid st
 unfold Nk at h;simp only [CS] at h;split at h
 ·cases h;exact Own.refl nid _
 ·split at h
  ·rename_i i _ _ _ _
   cases hs:gZ c.P o.type with
   |true=>rw [hs] at h;exact QW ⟨B9 _,by omega⟩ h
   |false=>rw [hs] at h;cases h;exact Own.refl nid _
  ·cases h;exact Own.refl nid _
 ·split at h
  ·rename_i b _;cases b<;>(cases h;exact Own.refl nid _)
  ·cases h
 ·rename_i t i;split at h
  ·rename_i z m;replace h:=(J6 h).2
   cases hs:gZ c.P t with
   |true=>rw [hs] at h;simp only [cond_true] at h;rw [qD] at h;obtain⟨⟨k,s1⟩,h1,h2⟩:=AD h;cases h2;exact (QW (nid:=nid) ⟨by omega,by omega⟩ h1).nM ⟨B9 _,by omega⟩
   |false=>rw [hs] at h;exact Ac h
  ·cases h
 ·rename_i t x i;replace h:=(N9 h).2
  cases hs:gZ c.P t with
  |true=>rw [hs] at h;simp only [cond_true] at h;rw [qD] at h;obtain⟨⟨k,s1⟩,h1,h2⟩:=AD h;cases h2;exact (QW (nid:=nid) ⟨by omega,by omega⟩ h1).nM ⟨B9 _,by omega⟩
  |false=>rw [hs] at h;replace h:=(J6 h).2;exact Ac h
 ·split at h
  ·replace h:=(N9 h).2;split at h
   ·cases h;exact Own.refl nid _
   ·cases h
  ·cases h
 ·rename_i i;rw [i] at d;cases d
 ·exact same (Lr h)
 ·rename_i i;rw [i] at d;cases d
 ·split at h<;>first|(cases h;done)|(cases h;exact Own.refl nid _)
 ·split at h
  ·exact same (Ee h)
  ·cases h
 ·split at h
  ·exact same (My h)
  ·cases h
 ·split at h
  ·cases h;exact Own.refl nid _
  ·replace h:=(J6 h).2;cases h;exact Own.refl nid _
  ·cases h;exact Own.refl nid _
  ·split at h
   ·split at h
    ·replace h:=(J6 h).2;cases h;exact Own.refl nid _
    ·cases h
   ·cases h
  ·cases h
 ·rename_i f first captured i
  cases hb:(captured.isEmpty&&first.isEmpty) with
  |true=>rw [hb] at h;cases h;exact Own.refl nid _
  |false=>rw [hb] at h;replace h:=(J6 h).2;cases h;exact Own.refl nid _
 ·split at h
  ·replace h:=(J6 h).2;split at h<;>first|(cases h;done)|(cases h;exact Own.refl nid _)
  ·cases h
 ·split at h
  ·rename_i off ft _;replace h:=(N9 h).2;split at h
   ·replace h:=(J6 h).2
    cases hag:X7 c.P ft with
    |true=>rw [hag] at h;cases h;exact Own.refl nid _
    |false=>rw [hag] at h;simp only [cond_false] at h;split at h<;>first|(cases h;done)|(cases h;exact Own.refl nid _)
   ·replace h:=(J6 h).2
    cases hag:X7 c.P ft with
    |true=>rw [hag] at h;cases h;exact Own.refl nid _
    |false=>rw [hag] at h;simp only [cond_false] at h;split at h<;>first|(cases h;done)|(cases h;exact Own.refl nid _)
   ·cases h
  ·cases h
 ·exact same (XF h)
 ·split at h
  ·replace h:=(J6 h).2;cases h;exact Own.refl nid _
  ·cases h
 ·unfold QM at h;split at h
  ·split at h
   ·replace h:=(J6 h).2;replace h:=(J6 h).2;cases h;exact (Own.refl nid st).nM ⟨B9 _,by omega⟩
   ·cases h
  ·cases h
 ·split at h
  ·unfold xK at h;split at h
   ·replace h:=(J6 h).2;cases h;exact (Own.refl nid st).nM ⟨B9 _,by omega⟩
   ·cases h
  ·cases h
 ·exact same (Bq h)
 ·rename_i i;rw [i] at d;cases d
 ·exact same (Gf h)
 ·split at h
  ·replace h:=(J6 h).2;cases h;exact Own.refl nid _
  ·cases h
 ·rename_i l i;rw [i] at d;simp only [SI] at d;split at h
  ·rename_i f j;rw [j] at d;cases d
  ·rename_i b j;rw [j] at d;unfold tP at h;split at h
   ·split at h
    ·exact same (Qz h)
    ·cases h
   ·cases d
   ·cases d
   ·replace h:=(J6 h).2;cases h;exact Own.refl nid _
   ·replace h:=(J6 h).2;cases h;exact Own.refl nid _
   ·cases h
  ·cases h
 ·cases h
end
end Go.AE
namespace Go.AE
section
variable {Rs Vl:Type} (m0:Rs→Vl) (wr:Nat→Rs→Bool) (e:Nat→Rs→Vl)
def oJ (L:Nat→Bool):Nat→Rs→Vl
 |0=>m0
 |i+1=>fun x=>bif L i&&wr i x then e i x else oJ L i x
def rX {L L':Nat→Bool}{x:Rs}:∀ n,(∀ i,i<n→L i=L' i∨wr i x=false)→oJ m0 wr e L n x=oJ m0 wr e L' n x
 |0,_=>rfl
 |n+1,h=>by
  have ih:=rX (L:=L) (L':=L') n fun i b=>h i (by omega);simp only [oJ];rcases h n (by omega) with k|k
  ·rw [k,ih]
  ·rw [k,Bool.and_false,Bool.and_false,ih]
def UE {L:Nat→Bool}{x:Rs}{j:Nat}:∀ n,j≤n→(∀ i,j≤i→i<n→L i=false∨wr i x=false)→oJ m0 wr e L n x=oJ m0 wr e L j x
 |0,b,_=>by have:j=0:=by omega
            subst this;rfl
 |n+1,b,h=>by
  by_cases hn:j=n+1
  ·subst hn;rfl
  ·simp only [oJ];have ih:=UE (L:=L) (x:=x) (j:=j) n (by omega) fun i h1 h2=>h i h1 (by omega);rcases h n (by omega) (by omega) with k|k
   ·rw [k,Bool.false_and,cond_false,ih]
   ·rw [k,Bool.and_false,cond_false,ih]
def PL {L:Nat→Bool}{x:Rs}{j n:Nat}(s:j<n)(m:L j=false)(d:∀ i,i<j→L i=true∨wr i x=false)(l:∀ i,j<i→i<n→L i=false∨wr i x=false) :oJ m0 wr e L n x=oJ m0 wr e (fun _=>true) j x:=by
 rw [UE m0 wr e (j:=j) n (by omega) fun i h1 h2=>by
  rcases Nat.eq_or_lt_of_le h1 with k|k
  ·subst k;exact .inl m
  ·exact l i k h2]
 exact rX m0 wr e j fun i b=>d i b
def JO {L:Nat→Bool}{x:Rs}{j:Nat}:∀ n,j<n→(∀ i,j<i→i<n→L i=false∨wr j x=false∨wr i x=false)→oJ m0 wr e (fun i=>bif Nat.beq i j then true else L i) n x=bif wr j x then e j x else oJ m0 wr e L n x
 |0,b,_=>by omega
 |n+1,b,h=>by
  by_cases hn:j=n
  ·subst hn;simp only [oJ];have e1:Nat.beq j j=true:=Nat.beq_refl j;rw [e1,cond_true,Bool.true_and]
   cases hw:wr j x with
   |true=>rfl
   |false=>
    rw [Bool.and_false,cond_false,cond_false,cond_false];refine rX m0 wr e j fun i d=> .inl ?_;have:Nat.beq i j=false:=by
     cases k:Nat.beq i j with
     |true=>have:=B0 k;omega
     |false=>rfl
    rw [this];rfl
  ·have ih:=JO (L:=L) (x:=x) (j:=j) n (by omega) fun i h1 h2=>h i h1 (by omega);simp only [oJ];have e1:Nat.beq n j=false:=by
    cases k:Nat.beq n j with
    |true=>have:=B0 k;omega
    |false=>rfl
   rw [e1,cond_false,ih];rcases h n (by omega) (by omega) with k|k|k
   ·rw [k,Bool.false_and,cond_false,cond_false]
   ·rw [k,cond_false,cond_false]
   ·rw [k,Bool.and_false,cond_false,cond_false]
end
end Go.AE
namespace Go.AE
open Go.RowKit
structure FX where
 c:sN
 fn:Func
 u:Nat→Option Obj
 I6:Sk
 pre:List (Nat×Nat)
 g0:G
 w0:World
def Vi (g0:G)(df:List (Nat×List (Nat×Nat))):List Deferred:=df.map fun d=>⟨.fn (.func d.1) #[],(d.2.map fun l=>Value.pointer (some ⟨g0.blk l.1,l.2,none⟩)).toArray⟩
def VU (pre:List (Nat×Nat))(g0 g:G):Prop:=∀ l o,W4 pre l=some o→g.blk l=g0.blk l∧g.hdr l=g0.hdr l
structure GB (X:FX) (p:Nat→Prop) (g:G) (st:St) (a:Act) (w:World):Prop where
 at_:At X.u p g st a w
 size:X.fn.ntmps≤a.tmps.size
 def_:a.defers=Vi X.g0 st.m.df∧∀ d∈st.m.df,∀ l∈d.2,W4 X.pre l.1=some l.1
 ext:Ext X.g0 X.w0 g w
 keep:VU X.pre X.g0 g
 pre:∀ l o,W4 X.pre l=some o→p l
section
variable {X:FX} {p q:Nat→Prop} {g g':G} {st st':St} {a a':Act} {w w':World} {rec:Task→Out} {r:Bool×List D} {Q:Exit→Act→World→Prop}
def VU.agree (h:VU X.pre X.g0 g)(b:U5 p g g')(hp:∀ l o,W4 X.pre l=some o→p l):VU X.pre X.g0 g':=fun l o hl=>by rw [b.blk l (hp l o hl),b.hdr l (hp l o hl)];exact h l o hl
def Jp (st:St)(d:Nat)(v:V)(t:Nat):(st.set d v).t t=if t=d then v else st.t t:=by
 simp only [St.set];by_cases e:t=d
 ·rw [if_pos e,beq_iff.2 e];rfl
 ·rw [if_neg e,beq_false e];rfl
def CA {st:St}{d:Nat}{v:V}(h:st.t d=v):st.set d v=st:=by
 have:(st.set d v).t=st.t:=by
  funext t;rw [Jp];split
  ·rename_i e;rw [e,h]
  ·rfl
 show (⟨(st.set d v).t,st.h,st.m⟩:St)=st;rw [this]
def Qo {tm:Array Value}{d:Nat}{v:Value}(b:d<tm.size)(t:Nat):(tm.setIfInBounds d v).getD t undef=if t=d then v else tm.getD t undef:=by
 by_cases e:t=d
 ·subst e;rw [if_pos rfl];simp [D2,b]
 ·rw [if_neg e];simp [D2,Array.getElem?_setIfInBounds,Ne.symm e]
def GB.put (N:GB X p g st a w){dst:Option Tmp}(i:(match dst with|some d=>Nat.blt d X.fn.ntmps|none=>true)=true){vv:V}{mJ:St}{v:Value}(b:∀ x,p x→q x)(S:aS X.u q g' mJ.h w')(s:U5 p g g')(y:Ext g w g' w')
  (A:VV g' vv v) (B:vv.aU q) (k:mJ.t=st.t) (hm:mJ.m=st.m):GB X q g' (mJ.put dst vv) (a.put dst v) w':=by
 have z:∀ t,VV g' (st.t t) (a.tmps.getD t undef):=fun t=>(N.at_.tm t).agree s (N.at_.nm t);have j:∀ t,(st.t t).aU q:=fun t=>(N.at_.nm t).mono b
 cases dst with
 |none=>
  refine⟨⟨S,fun t=>?_,fun t=>?_⟩,N.size,(by show a.defers=Vi X.g0 mJ.m.df∧∀ d∈mJ.m.df,∀ l∈d.2,W4 X.pre l.1=some l.1;rw [hm];exact N.def_),N.ext.trans y,N.keep.agree s N.pre,fun l o h=>b _ (N.pre l o h)⟩
  ·show VV g' (mJ.t t) _;rw [k];exact z t
  ·show (mJ.t t).aU q;rw [k];exact j t
 |some d=>
  have i:Nat.ble (d+1) X.fn.ntmps=true:=i;have i:=B3 i;have n:d<a.tmps.size:=Nat.lt_of_lt_of_le i N.size;refine⟨⟨S,fun t=>?_,fun t=>?_⟩,?_,(by show a.defers=Vi X.g0 mJ.m.df∧∀ d∈mJ.m.df,∀ l∈d.2,W4 X.pre l.1=some l.1;rw [hm];exact N.def_),N.ext.trans y,N.keep.agree s N.pre,fun l o h=>b _ (N.pre l o h)⟩
  ·show VV g' ((mJ.set d vv).t t) ((a.tmps.setIfInBounds d v).getD t undef);rw [Jp,Qo n,k];split
   ·exact A
   ·exact z t
  ·show ((mJ.set d vv).t t).aU q;rw [Jp,k];split
   ·exact B
   ·exact j t
  ·show X.fn.ntmps≤(a.tmps.setIfInBounds d v).size;simpa using N.size
def RR {ops:Array Oper}{j d:Nat}{b:Bool}(k:(ops[j]?).bind (·.dst)=some d)(i:a.tmps.getD d undef = .bool b):yielded ops a.tmps j=some b:=by
 unfold yielded;rw [k];simp only [Option.bind_some];rw [D2] at i
 cases e:a.tmps[d]? with
 |none=>rw [e] at i;simp [undef] at i
 |some x=>rw [e] at i;simp at i;subst i;rfl
def MH {ops:Array Oper}{j d:Nat}(i:(ops[j]?).bind (·.dst)=some d)(b:a.tmps.getD d undef=undef):yielded ops a.tmps j=none:=by
 unfold yielded;rw [i];simp only [Option.bind_some];rw [D2] at b
 cases e:a.tmps[d]? with
 |none=>rfl
 |some x=>rw [e] at b;simp at b;subst b;rfl
def UK {S:At X.u p g st a w}(b:VU X.pre X.g0 g):∀ {xs:List V} {vals:List Value} {zs:List (Nat×Nat)},F2 (VV g) xs vals→labels X.pre xs=some zs→vals=(zs.map fun l=>Value.pointer (some ⟨X.g0.blk l.1,l.2,none⟩))∧∀ l∈zs,W4 X.pre l.1=some l.1
 |[],_,zs,h,e=>by cases h;simp only [labels,B1] at e;subst e;exact⟨rfl,fun l hl=>by cases hl⟩
 |x::xs,_,zs,h,e=>by
  cases h with
  |cons h1 h2=>
   (cases x<;>simp only [labels] at e<;>try (cases e;done));split at e
   ·rename_i o off _ _ o' d e1 n;obtain⟨m,e⟩:=J6 e;cases e;have k:o=o':=beq_iff.1 m;subst k;obtain⟨j,i⟩:=UK (S:=S) b h2 n;have h1:=IZ h1;rw [(b _ _ e1).1] at h1;refine⟨by rw [h1,j];rfl,fun l hl=>?_⟩;rcases B7.1 hl with rfl|hl
    ·exact e1
    ·exact i l hl
   ·cases e
def Ew {o:Oper}{d:Nat×List (Nat×Nat)}(N:GB X p g st a w)(h:WV X.pre st o=some d) :(execOp a.eval o).run X.c.P w = .ok (.defer ⟨.fn (.func d.1) #[],(d.2.map fun l=>Value.pointer (some ⟨X.g0.blk l.1,l.2,none⟩)).toArray⟩) w∧o.guard=none∧o.dst=none∧∀ l∈d.2,W4 X.pre l.1=some l.1:=by
 unfold WV at h;split at h
 ·rename_i j n;split at h
  ·rename_i f x s b;split at h
   ·rename_i gid t;split at h
    ·rename_i zs hl;cases h;have i:=N.at_.ev f;rw [t] at i;have i:a.eval f = .func (.func gid) #[] #[]:=i;obtain⟨m,k⟩:=UK (S:=N.at_) N.keep (Qg N.at_ j.args.toList) hl;refine⟨?_,s,b,k⟩;simp only [execOp,n,resolve,x,i,Deferred.ofValue];have e:j.args.map a.eval=(zs.map fun l=>Value.pointer (some ⟨X.g0.blk l.1,l.2,none⟩)).toArray:=by
      apply Array.ext';simpa using m
     simp [e]
    ·cases h
   ·cases h
  ·cases h
 ·cases h
def xR (M:mK X.c)(C:X.c.IS X.g0.h)(y:yL X.c rec){ops:Array Oper}{st0:Nat}:∀ (os:List Oper) (i:Nat) {st:St} {a:Act} {w:World} {g:G} {K:St→Out},SO X.c rec X.fn.ntmps X.pre ops.toList st0 i os st K=some r→GB X (·<st0+32*i) g st a w→st.n=st0→(∀ st' a' w' g',K st'=some r→GB X (·<st0+32*(i+os.length)) g' st' a' w'→st'.n=st0→Q .normal a' w')→wpList X.c.P ops Q os a w
 |[],i,st,a,w,g,K,h,N,z,hK=>hK st a w g h (by simpa using N) z
 |o::os,i,st,a,w,g,K,h,N,z,hK=>by
  have hfr:oD (fun x=>x<st0+32*i) (fun x=>x<st0+32*(i+1)) (st0+32*i):=fun k hk=>⟨by omega,by omega⟩;have s:∀ x,x<st0+32*i→x<st0+32*(i+1):=fun x hx=>by omega
  have L:∀ st' a' w' g',K st'=some r→GB X (·<st0+32*((i+1)+os.length)) g' st' a' w'→st'.n=st0→Q .normal a' w':=by intro st' a' w' g' h1 h2;refine hK st' a' w' g' h1 ?_;rw [show i+(o::os).length=i+1+os.length from by simp;omega];exact h2
  have on:Region.wanted o (yielded ops a.tmps)=true→(bif (match o.dst with|some d=>Nat.blt d X.fn.ntmps|none=>true) then Nk X.c rec o (st0+32*i) st fun v st'=>SO X.c rec X.fn.ntmps X.pre ops.toList st0 (i+1) os (st'.put o.dst v) K else none)=some r→
    wpList X.c.P ops Q (o::os) a w:=by
   intro hw h;obtain⟨H,h⟩:=J6 h;obtain⟨vv,mJ,hk,I⟩:=Ch M (M.2.2.1 _ _ N.ext.h C) y N.at_ s hfr h;refine wpList_step fun KK A=>?_;rw [if_pos hw];refine I.wp fun v w' ⟨g',s1,s2,s3,s4,s5,s6,s7⟩=>A _ _ ?_;refine xR M C y os (i+1) hk (N.put H s s1 s2 s3 s4 s5 s6 s7) ?_ L;cases o.dst<;>(show mJ.m.k=st0;rw [s7];exact z)
  have off:Region.wanted o (yielded ops a.tmps)=false→(bif (match o.dst with|some d=>Nat.blt d X.fn.ntmps|none=>true) then SO X.c rec X.fn.ntmps X.pre ops.toList st0 (i+1) os (st.put o.dst (.d .und)) K else none)=some r→wpList X.c.P ops Q (o::os) a w:=by intro hw h;obtain⟨H,h⟩:=J6 h;refine wpList_step fun KK A=>?_;rw [if_neg (by rw [hw];simp)];refine A _ _ ?_;refine xR M C y os (i+1) h (N.put (vv:= .d .und) H s (N.at_.hp.more s) (U5.refl _ g) (Ext.refl g w) rfl trivial rfl rfl) ?_ L;cases o.dst<;>exact z
  simp only [SO] at h;split at h
  ·rename_i d H;obtain⟨I,E,T,O⟩:=Ew N H;refine wpList_step fun KK A=>?_;rw [if_pos (by simp [Region.wanted,E])];unfold Oper.wp;rw [I,Oper.upon_defer,T];refine A _ _ ?_;refine xR M C y os (i+1) h (st:={ st with m:=⟨st.m.k,d::st.m.df⟩ }) ⟨⟨N.at_.hp.more s,N.at_.tm,fun t=>(N.at_.nm t).mono s⟩,N.size,⟨?_,?_⟩,N.ext,N.keep,fun l o h=>s _ (N.pre l o h)⟩ z L
   ·show _::a.defers=_::Vi X.g0 st.m.df;rw [N.def_.1]
   ·intro d' J l hl;rcases B7.1 J with rfl|J
    ·exact O l hl
    ·exact N.def_.2 d' J l hl
  split at h
  ·rename_i E;exact on (by simp [Region.wanted,E]) h
  ·rename_i j want E;split at h
   ·cases h
   ·rename_i d H;rw [D0] at H;have B:=N.at_.tm d;split at h
    ·rename_i S;rw [S] at B;exact off (by simp [Region.wanted,E,MH H B]) h
    ·rename_i b S;rw [S] at B;have W:=RR H (GD B)
     cases b with
     |true=>
      simp only [cond_true] at h;rw [CA S] at h
      cases want with
      |true=>exact on (by simp [Region.wanted,E,W]) h
      |false=>exact off (by simp [Region.wanted,E,W]) h
     |false=>
      simp only [cond_false] at h;rw [CA S] at h
      cases want with
      |true=>exact off (by simp [Region.wanted,E,W]) h
      |false=>exact on (by simp [Region.wanted,E,W]) h
    ·cases h
def QZ:∀ {new:List (Nat×Ob)} {h:Nat→Option Ob} {x:Nat},(∀ e∈new,e.1≠x)→rJ h new x=h x
 |[],_,_,_=>rfl
 |(o,ob)::r,h,x,b=>by simp only [rJ];rw [beq_false (fun e=>b (o,ob) (by simp) e.symm),cond_false];exact QZ fun e d=>b e (by simp [d])
def BY {o:Nat}{ob:Ob}:∀ {new:List (Nat×Ob)} {h:Nat→Option Ob} (x:Nat),(∀ e∈new,e.1≠o)→rJ (fun x=>bif Nat.beq x o then some ob else h x) new x=(bif Nat.beq x o then some ob else rJ h new x)
 |[],_,_,_=>rfl
 |(o',b)::r,h,x,d=>by
  simp only [rJ];have ih:=BY (ob:=ob) (new:=r) (h:=h) x (fun e i=>d e (by simp [i]));rw [ih];by_cases e:x=o'
  ·subst e;rw [beq_iff.2 rfl,beq_false (d (x,b) (by simp))];rfl
  ·rw [beq_false e];rfl
def TJ {u:Nat→Option Obj}:∀ {cs:List V} {m:Nat} {g:G} {h:Nat→Option Ob} {vals:List Value},aS u (·<m) g h w→F2 (VA g) cs vals→(∀ c∈cs,c.bO (·<m))→∃ g',U5 (·<m) g g'∧g'.h=g.h∧g'.blk=g.blk∧F2 (VA g') (O8 cs m).1 vals∧(∀ c∈(O8 cs m).1,c.bO (·<(O8 cs m).2.2))∧m≤(O8 cs m).2.2∧(∀ e∈(O8 cs m).2.1,m≤e.1)∧aS u (·<(O8 cs m).2.2) g' (rJ h (O8 cs m).2.1) w:=by
 intro cs
 induction cs with
 |nil=>intro m g h vals S I n;cases I;have W:O8 [] m=([],[],m):=rfl;rw [W];exact⟨g,U5.refl _ g,rfl,rfl,.nil,(fun c N=>nomatch N),B9 _,(fun e M=>nomatch M),S⟩
 |cons c cs ih=>
  intro m g h vals S I n
  cases I with
  |@cons _ v _ vals h1 h2=>
   have plain:O8 (c::cs) m=(c::(O8 cs m).1,(O8 cs m).2.1,(O8 cs m).2.2)→∃ g',U5 (·<m) g g'∧g'.h=g.h∧g'.blk=g.blk∧F2 (VA g') (O8 (c::cs) m).1 (v::vals)∧(∀ x∈(O8 (c::cs) m).1,x.bO (·<(O8 (c::cs) m).2.2))∧m≤(O8 (c::cs) m).2.2∧(∀ e∈(O8 (c::cs) m).2.1,m≤e.1)∧aS u (·<(O8 (c::cs) m).2.2) g' (rJ h (O8 (c::cs) m).2.1) w:=by
    intro e;rw [e];obtain⟨g',a1,a2,a3,a4,J,t,C,a8⟩:=ih S h2 (fun x i=>n x (by simp [i]));refine⟨g',a1,a2,a3,.cons (VA.agree a1 (n c (by simp)) h1) a4,fun x i=>?_,t,C,a8⟩;rcases B7.1 i with rfl|i
    ·exact (n _ (by simp)).mono fun o (l:o<m)=>Nat.lt_of_lt_of_le l t
    ·exact J x i
   by_cases A:∃ e sz,c = .d (.nils (e+1) (sz+1))
   ·(obtain⟨e,sz,rfl⟩:=A;have e1:O8 (.d (.nils (e+1) (sz+1))::cs) m=(.row m::(O8 cs (m+1)).1,(m,.row (e+1) (sz+1) [] false)::(O8 cs (m+1)).2.1,(O8 cs (m+1)).2.2):=rfl;rw [e1];have h1:v = .slice none 0 0:=h1;subst h1;have j:∀ x,x<m→x<m+1:=fun x i=>by omega);obtain⟨g1,B,b2,b3,b4,b5⟩:=kB (h':=fun x=>bif Nat.beq x m then some (.row (e+1) (sz+1) [] false) else h x) S j (Nat.lt_irrefl m) (Nat.lt_succ_self m) (e:=e+1) (sz:=sz+1) (xs:=[]) (v:= .slice none 0 0) (us:=[]) (row:=none) (uB w none) (World.ownsRow_nil w 0 (e+1) (sz+1)) (Nat.succ_pos sz) rfl (fun b H=>by cases H) (fun b H=>by cases H) (fun o' x i E=>by rw [beq_false E] at i;exact⟨i,fun _ _ e=>by cases e⟩) (by rw [beq_iff.2 rfl];rfl);obtain⟨g2,a1,a2,a3,a4,J,t,C,a8⟩:=ih (m:=m+1) b5 (F2.mono h2 fun y s z L=>VA.agree B (n y (by simp [s])) L) (fun y s=>(n y (by simp [s])).mono j);have O:U5 (·<m) g g2:=⟨fun b x k=>a1.h b x (B.h b x k),fun o l=>(a1.blk o (j o l)).trans (B.blk o l),fun o l=>(a1.hdr o (j o l)).trans (B.hdr o l)⟩;refine⟨g2,O,a2.trans b2,a3.trans b3,.cons ⟨by rw [a1.hdr m (Nat.lt_succ_self m),b4],rfl⟩ a4,fun x i=>?_,Nat.le_trans (Nat.le_succ m) t,fun x i=>?_,?_⟩
    ·rcases B7.1 i with rfl|i
     ·exact Nat.lt_of_lt_of_le (Nat.lt_succ_self m) t
     ·exact J x i
    ·rcases B7.1 i with rfl|i
     ·exact B9 _
     ·have:=C x i;omega
    ·have T:rJ h ((m,.row (e+1) (sz+1) [] false)::(O8 cs (m+1)).2.1)=rJ (fun x=>bif Nat.beq x m then some (.row (e+1) (sz+1) [] false) else h x) (O8 cs (m+1)).2.1:=by
      funext x;rw [BY x fun y s=>by have:=C y s;omega];rfl
     rw [T];exact a8
   ·refine plain ?_
    match c,A with
    | .d (.nils (e+1) (sz+1)),A=>exact absurd ⟨e,sz,rfl⟩ A
    | .d (.nils 0 _),_=>rfl
    | .d (.nils (_+1) 0),_=>rfl
    | .d .top,_ | .d (.bool _),_ | .d (.int _ _),_ | .d (.str _),_ | .d (.Z _ _),_ | .d .und,_ | .d (.agg _),_ | .d (.fn _),_ | .d .nilp,_ | .d .nilf,_ | .d .nilm,_ | .d .nili,_ | .d .ub,_ | .d (.iface _ _),_=>rfl
    | .ptr ..,_ | .el ..,_ | .rp ..,_ | .row _,_ | .sub ..,_ | .agg _,_ | .fn ..,_ | .tup _,_ | .mp _,_ | .bp ..,_=>rfl
def vO {ty o f:Nat}:∀ {cs:List V} {n:Nat},V.bp ty o f∈(O8 cs n).1→V.bp ty o f∈cs
 |[],n,h=>by cases h
 |c::r,n,h=>by
  by_cases b:∃ e sz,c = .d (.nils (e+1) (sz+1))
  ·obtain⟨e,sz,rfl⟩:=b;simp only [O8] at h;rcases B7.1 h with h|h
   ·cases h
   ·exact C0 _ (vO h)
  ·have e:(O8 (c::r) n).1=c::(O8 r n).1:=by
    match c,b with
    | .d (.nils 0 _),_=>rfl
    | .d (.nils (_+1) 0),_=>rfl
    | .d (.nils (e+1) (sz+1)),b=>exact absurd ⟨e,sz,rfl⟩ b
    | .d .top,_ | .d (.bool _),_ | .d (.int _ _),_ | .d (.str _),_ | .d (.Z _ _),_ | .d .und,_ | .d (.agg _),_ | .d (.fn _),_ | .d .nilp,_ | .d .nilf,_ | .d .nilm,_ | .d .nili,_ | .d .ub,_ | .d (.iface _ _),_=>rfl
    | .ptr ..,_ | .el ..,_ | .rp ..,_ | .row _,_ | .sub ..,_ | .agg _,_ | .fn ..,_ | .tup _,_ | .mp _,_ | .bp ..,_=>rfl
   rw [e] at h;rcases B7.1 h with h|h
   ·rw [h];exact B8 ..
   ·exact C0 _ (vO h)
def CF:∀ (os:List Nat) {st:St} {g:G},aS X.u (·<st.n) g st.h w→∃ g',U5 (·<st.n) g g'∧g'.h=g.h∧st.n≤(lY os st).n∧aS X.u (·<(lY os st).n) g' (lY os st).h w∧(lY os st).t=st.t
 |[],st,g,S=>⟨g,U5.refl _ g,rfl,B9 _,S,rfl⟩
 |o::os,st,g,S=>by
  simp only [lY];split
  ·(rename_i c cs y;obtain⟨cc,A,I,H,E,k4⟩:=S.ob _ _ y;obtain⟨g1,a1,a2,a3,a4,a5,B,W,a8⟩:=TJ S H (S.use _ _ y).2;have J:o<st.n:=(S.use _ _ y).1;have d:∀ e∈(O8 (c::cs) st.n).2.1,e.1≠o:=fun e L=>by have:=W e L;omega);have s:w.heap[g1.blk o]? = some (.cells cc A (0,0)):=by rw [a3];exact I
   have j:=setRow_self w (g1.blk o) cc A (0,0) s;have C:=yF (h':=rJ (fun x=>bif Nat.beq x o then some (.var (O8 (c::cs) st.n).1) else st.h x) (O8 (c::cs) st.n).2.1) (c':=cc) a8 (by rw [QZ d];exact y) s a4 E a5 (fun t o' f hm=>k4 t o' f (vO hm)) (fun x=>by
    rw [BY x d];by_cases e:x=o
    ·rw [if_pos e,beq_iff.2 e];rfl
    ·rw [if_neg e,beq_false e];rfl)
   rw [j] at C;obtain⟨g2,z,T,O,N,M⟩:=CF os (st:={ st with h:=rJ (fun x=>bif Nat.beq x o then some (.var (O8 (c::cs) st.n).1) else st.h x) (O8 (c::cs) st.n).2.1,m:=⟨(O8 (c::cs) st.n).2.2,st.m.df⟩ }) C;have l:∀ x,x<st.n→x<(O8 (c::cs) st.n).2.2:=fun x i=>Nat.lt_of_lt_of_le i B;exact⟨g2,⟨fun b x k=>z.h b x (a1.h b x k),fun x i=>(z.blk x (l x i)).trans (a1.blk x i),fun x i=>(z.hdr x (l x i)).trans (a1.hdr x i)⟩,T.trans a2,Nat.le_trans B O,N,M⟩
  ·exact CF os S
def CE:∀ (os:List Nat) (st:St),(lY os st).m.df=st.m.df
 |[],_=>rfl
 |o::os,st=>by
  simp only [lY];split
  ·rw [CE os]
  ·exact CE os st
def Dn (N:GB X (·<st.n) g st a w)(pre keep:List Nat):∃ g',GB X (·<(VM st pre keep).n) g' (VM st pre keep) a w:=by
 obtain⟨g',a1,a2,a3,a4,i⟩:=CF (X:=X) (reach st.h 3 (qU pre (keep.flatMap fun t=>AL st.h (st.t t)))) N.at_.hp;have b:∀ x,x<st.n→x<(VM st pre keep).n:=fun x j=>Nat.lt_of_lt_of_le j a3;have d:(VM st pre keep).m.df=st.m.df:=CE _ st;refine⟨g',⟨a4,fun t=>?_,fun t=>?_⟩,N.size,(by rw [d];exact N.def_),N.ext.trans ⟨a1.h,rfl,rfl,rfl,B9 _⟩,N.keep.agree a1 N.pre,fun l o h=>b _ (N.pre l o h)⟩
 ·show VV g' ((lY _ st).t t) _;rw [i];exact (N.at_.tm t).agree a1 (N.at_.nm t)
 ·show ((lY _ st).t t).aU _;rw [i];exact (N.at_.nm t).mono b
def AP (N:GB X (·<st.n) g st a w)(b:∀ l o,W4 X.pre l=some o→o=l){sk:Sk}{cf:Cf}(s:WK sk X.pre st=some cf) :∃ g',GB X (·<sk.objs.length) g' ((W3 E0 sk cf.ds).later st.m.df) a w:=by
 have d:uO X.pre:=fun l i o h h'=>by rw [← b l o h,← b i o h']
 obtain⟨gF,M⟩:=ET (tm:=fun t=>a.tmps.getD t undef) s N.at_.hp N.at_.tm N.at_.nm d;refine⟨yN g gF cf.ren,⟨M.aH0 N.at_.hp,M.tm,M.nm⟩,N.size,N.def_,N.ext.trans ⟨M.a.h,rfl,rfl,rfl,B9 _⟩,fun l o h=>?_,fun l o h=>(M.lt l o (M.pre l o h)).2⟩;have h1:=M.pre l o h;have h2:=b l o h;subst h2;obtain⟨k,j⟩:=N.keep o o h;exact⟨by simp only [yN,h1,Option.getD_some];exact k,by simp only [yN,h1,Option.getD_some];exact j⟩
def NB {sk:Sk}{ds:List D}{df:List (Nat×List (Nat×Nat))}(N:GB X (·<sk.objs.length) g ((W3 E0 sk ds).later df) a w)(b:Q5 sk ds=true):GB X (·<((fD sk ds).later df).n) g ((fD sk ds).later df) a w:=by obtain⟨h1,h2⟩:=Hy (tm:=fun t=>a.tmps.getD t undef) b N.at_.hp (fun t=>⟨N.at_.tm t,N.at_.nm t⟩);exact⟨⟨h1,fun t=>(h2 t).1,fun t=>(h2 t).2⟩,N.size,N.def_,N.ext,N.keep,N.pre⟩
end
end Go.AE
namespace Go.AE
open Go.RowKit
def oM {x:Nat}{xs:List Nat}:uG x xs=true↔x∈xs:=by unfold uG;rw [List.any_eq_true];exact⟨fun ⟨y,h1,h2⟩=>by rw [beq_iff.1 h2];exact h1,fun h=>⟨x,h,beq_iff.2 rfl⟩⟩
def xJ {x:Nat}{xs:List Nat}:uG x xs=false↔x∉xs:=by rw [← oM];simp
def tL {nid x:Nat}:LF nid x=true↔nid≤x∧x<nid+32:=by
 unfold LF;rw [A9];constructor
 ·rintro ⟨h1,h2⟩;have h2:Nat.ble (x+1) (nid+32)=true:=h2;exact⟨B3 h1,B3 h2⟩
 ·rintro ⟨h1,h2⟩;exact⟨B2 h1,(B2 h2:Nat.ble (x+1) (nid+32)=true)⟩
def FE:∀ {ys xs:List Nat} {x:Nat},x∈qU xs ys→x∈xs∨x∈ys
 |[],_,_,h=> .inl h
 |o::os,xs,x,h=>by
  simp only [qU] at h;rcases FE h with h|h
  ·cases hb:xs.any (Nat.beq o) with
   |true=>rw [hb] at h;exact .inl h
   |false=>
    rw [hb] at h;simp only [cond_false] at h;rcases D3.1 h with h|h
    ·exact .inl h
    ·simp at h;subst h;exact .inr (by simp)
  ·exact .inr (by simp [h])
def JW {b:List (List Nat)}:∀ {es:List Edge} {j:Nat},j∈vQ b es→∃ e∈es,kN e=true∧(j=e.on∨j∈(b[e.on]?).getD [])
 |[],_,h=>by cases h
 |e::es,j,h=>by
  simp only [vQ] at h
  cases hb:kN e with
  |false=>rw [hb] at h;obtain⟨d,h1,h2⟩:=JW (es:=es) h;exact⟨d,by simp [h1],h2⟩
  |true=>
   rw [hb] at h;simp only [cond_true] at h;rcases FE h with h|h
   ·rcases FE h with h|h
    ·simp at h;exact⟨e,by simp,hb,.inl h⟩
    ·exact⟨e,by simp,hb,.inr h⟩
   ·obtain⟨d,h1,h2⟩:=JW (es:=es) h;exact⟨d,by simp [h1],h2⟩
def TS (e:Edge):Region.binds .any e=kN e:=by unfold Region.binds kN;cases e.ground<;>rfl
def EW {i:Nat}:∀ {es:List Edge} {e:Edge},uQ i es=true→e∈es→kN e=true→e.on<i
 |[],_,_,h,_=>by cases h
 |e::es,d,h,hm,b=>by
  simp only [uQ,A9] at h;rcases B7.1 hm with rfl|hm
  ·(have h1:=h.1;rw [b] at h1;have h1:Nat.blt d.on i=true:=by simpa only [Bool.not_true,Bool.false_or] using h1);have h1:Nat.ble (d.on+1) i=true:=h1;exact B3 h1
  ·exact EW h.2 hm b
def KQ {st0:Nat}{ZD:List Nat}{b:vJ}:∀ {fs:List vJ} {d:Nat},rQ st0 ZD b d fs=true→∀ k a,fs[k]? = some a→d+k∈ZD∨OU (st0+32*(d+k)) a b=false
 |[],_,_,k,a,h=>by simp at h
 |f::fs,d,h,k,a,i=>by
  simp only [rQ,A9] at h
  cases k with
  |zero=>
   simp only [List.getElem?_cons_zero,B1] at i;subst i;have h1:=h.1;rw [Bool.or_eq_true] at h1;rcases h1 with h1|h1
   ·exact .inl (oM.1 h1)
   ·exact .inr (by simpa using h1)
  |succ k=>have:=KQ h.2 k a (by simpa using i);rw [show d+1+k=d+(k+1) by omega] at this;exact this
section
variable {c:sN} {rec:Task→Out} {nt st0:Nat} {all:List Oper}
structure Xy (c:sN) (rec:Task→Out) (all:List Oper) (st0 i:Nat) (o:Oper) (st:St) (on:Bool) (v:V) (st':St) (ft:vJ):Prop where
 t:st'.t=(st.put o.dst v).t
 n:st'.m=st.m
 dst:ft.dst=o.dst
 guard:∀ j want,o.guard=some (j,want)→∃ d,(all[j]?).bind (·.dst)=some d∧d∈ft.temps∧((st.t d = .d .und∧on=false)∨∃ b,st.t d = .d (.bool b)∧on=(b==want))
 free:o.guard=none→on=true
 cT:on=true→∃ mJ,(∀ t∈fV o.op.operands.toList,t∈ft.temps)∧ft.writes=(bif SI o.op then [] else ft.objs)∧(∀ x∈ft.objs,x<st0+32*i)∧
  Nk c rec o (st0+32*i) (sJ (fV o.op.operands.toList) ft.objs st) (fun v s=>some (v,s))=some (v,mJ)∧st'.h=UJ ft.objs (st0+32*i) st.h mJ.h
 no:on=false→v = .d .und∧st'.h=st.h
structure Gx (c:sN) (rec:Task→Out) (nt:Nat) (all:List Oper) (st0 i:Nat) (o:Oper) (s:Nat→St) (v:Nat→V) (ft:Nat→vJ) (an:Nat→List Nat) (on:Nat→Bool):Prop where
 okd:(match o.dst with|some d=>Nat.blt d nt|none=>true)=true
 edges:∀ e∈o.after.toList,kN e=true→e.on<i
 ZD:∀ j∈an i,∃ e∈o.after.toList,kN e=true∧(j=e.on∨j∈an e.on)
 apart:∀ j,j<i→j∈an i∨OU (st0+32*j) (ft j) (ft i)=false
 step:Xy c rec all st0 i o (s i) (on i) (v i) (s (i+1)) (ft i)
def aF3 {α:Type}(f:Nat→α)(i:Nat)(x:α):Nat→α:=fun k=>if k=i then x else f k
def IB {α:Type}(f:Nat→α)(i:Nat)(x:α):aF3 f i x i=x:=by simp [aF3]
def KC {α:Type}(f:Nat→α){i k:Nat}(x:α)(h:k≠i):aF3 f i x k=f k:=by simp [aF3,h]
def PB {r:Bool×List D}{K:St→Out}:∀ (os:List Oper) (i:Nat) (fs:List vJ) (l:List (List Nat)) (st:St),fs.length=i→l.length=i→GX c rec nt all st0 i os fs l st K=some r→∃ (s:Nat→St) (v:Nat→V) (ft:Nat→vJ) (an:Nat→List Nat) (on:Nat→Bool),s i=st∧(∀ j,j<i→fs[j]? = some (ft j))∧(∀ j,j<i→l[j]? = some (an j))∧(∀ k o,os[k]? = some o→Gx c rec nt all st0 (i+k) o s v ft an on)∧K (s (i+os.length))=some r
 |[],i,fs,l,st,hf,ha,h=>by
  refine⟨fun _=>st,fun _=> .top,fun j=>(fs[j]?).getD ⟨[],none,[],[]⟩,fun j=>(l[j]?).getD [],fun _=>true,rfl,fun j y=>?_,fun j y=>?_,fun k o O=>by simp at O,h⟩
  ·show fs[j]? = some ((fs[j]?).getD _);rw [C2 (by omega)];rfl
  ·show l[j]? = some ((l[j]?).getD _);rw [C2 (by omega)];rfl
 |o::os,i,fs,l,st,hf,ha,h=>by
  have go:∀ (m:Bool) (M:V) (st':St) (f0:vJ),(match o.dst with|some d=>Nat.blt d nt|none=>true)=true→uQ i o.after.toList=true→rQ st0 (vQ l o.after.toList) f0 0 fs=true→
    Xy c rec all st0 i o st m M st' f0→GX c rec nt all st0 (i+1) os (fs++[f0]) (l++[vQ l o.after.toList]) st' K=some r→
    ∃ (s:Nat→St) (v:Nat→V) (ft:Nat→vJ) (an:Nat→List Nat) (on:Nat→Bool),s i=st∧(∀ j,j<i→fs[j]? = some (ft j))∧(∀ j,j<i→l[j]? = some (an j))∧
   (∀ k o',(o::os)[k]? = some o'→Gx c rec nt all st0 (i+k) o' s v ft an on)∧K (s (i+(o::os).length))=some r:=by
   (intro m M st' f0 h1 h2 T h4 h5;obtain⟨s,v,ft,an,on,e1,e2,e3,e4,e5⟩:=PB os (i+1) (fs++[f0]) (l++[vQ l o.after.toList]) st' (by simp [hf]) (by simp [ha]) h5;have ef:ft i=f0:=by have:=e2 i (by omega);rw [F5 (by omega),hf] at this;simpa using this.symm);have ea:an i=vQ l o.after.toList:=by have:=e3 i (by omega);rw [F5 (by omega),ha] at this;simpa using this.symm
   have e2':∀ j,j<i→fs[j]? = some (ft j):=fun j y=>by
    have:=e2 j (by omega)
    rwa [List.getElem?_append_left (by omega)] at this
   have W:∀ j,j<i→l[j]? = some (an j):=fun j y=>by
    have:=e3 j (by omega)
    rwa [List.getElem?_append_left (by omega)] at this
   refine⟨aF3 s i st,aF3 v i M,ft,an,aF3 on i m,IB _ _ _,e2',W,fun k o' O=>?_,?_⟩
   ·cases k with
    |zero=>
     simp only [List.getElem?_cons_zero,B1] at O;subst O;refine⟨h1,fun e I z=>EW h2 I z,fun j y=>?_,fun j y=>?_,?_⟩
     ·rw [Nat.add_zero,ea] at y;obtain⟨e,k1,k2,k3⟩:=JW y;refine⟨e,k1,k2,k3.imp id fun k3=>?_⟩;have hlt:=EW h2 k1 k2;rw [W e.on hlt] at k3;exact k3
     ·rw [Nat.add_zero] at y ⊢;have:=KQ T j (ft j) (e2' j y);rw [C5] at this;rw [ea,ef];exact this
     ·rw [Nat.add_zero,IB,IB,IB,KC _ _ (by omega),e1,ef];exact h4
    |succ k=>have:=e4 k o' (by simpa using O);rw [show i+1+k=i+(k+1) by omega] at this;refine⟨this.okd,this.edges,this.ZD,this.apart,?_⟩;rw [KC _ _ (by omega),KC _ _ (by omega),KC _ _ (by omega),KC _ _ (by omega)];exact this.step
   ·rw [show i+(o::os).length=i+1+os.length by simp;omega,KC _ _ (by omega)];exact e5
  have fin:∀ (G:List Nat) (m:Bool),(∀ j want,o.guard=some (j,want)→∃ d,(all[j]?).bind (·.dst)=some d∧d∈G∧((st.t d = .d .und∧m=false)∨∃ b,st.t d = .d (.bool b)∧m=(b==want)))→(o.guard=none→m=true)→(m=true→(bif (match o.dst with|some d=>Nat.blt d nt|none=>true)&&uQ i o.after.toList&&rQ st0 (vQ l o.after.toList) ⟨fV o.op.operands.toList++G,o.dst,given st o,bif SI o.op then [] else given st o⟩ 0 fs&&(given st o).all (fun x=>Nat.blt x (st0+32*i)) then
     Nk c rec o (st0+32*i) (sJ (fV o.op.operands.toList) (given st o) st) fun v st'=>GX c rec nt all st0 (i+1) os (fs++[⟨fV o.op.operands.toList++G,o.dst,given st o,bif SI o.op then [] else given st o⟩]) (l++[vQ l o.after.toList]) { st.put o.dst v with h:=UJ (given st o) (st0+32*i) st.h st'.h } K
     else none)=some r)→
    (m=false→(bif (match o.dst with|some d=>Nat.blt d nt|none=>true)&&uQ i o.after.toList&&rQ st0 (vQ l o.after.toList) ⟨G,o.dst,[],[]⟩ 0 fs then GX c rec nt all st0 (i+1) os (fs++[⟨G,o.dst,[],[]⟩]) (l++[vQ l o.after.toList]) (st.put o.dst (.d .und)) K else none)=some r)→
    ∃ (s:Nat→St) (v:Nat→V) (ft:Nat→vJ) (an:Nat→List Nat) (on:Nat→Bool),s i=st∧(∀ j,j<i→fs[j]? = some (ft j))∧(∀ j,j<i→l[j]? = some (an j))∧
   (∀ k o',(o::os)[k]? = some o'→Gx c rec nt all st0 (i+k) o' s v ft an on)∧K (s (i+(o::os).length))=some r:=by
   intro G m B L hon N
   cases m with
   |true=>
    obtain⟨S,h⟩:=J6 (hon rfl);simp only [A9] at S;obtain⟨⟨⟨h1,h2⟩,T⟩,h4⟩:=S;rw [Wl] at h;obtain⟨⟨M,mJ⟩,k1,k2⟩:=AD h;refine go true M { st.put o.dst M with h:=UJ (given st o) (st0+32*i) st.h mJ.h } ⟨fV o.op.operands.toList++G,o.dst,given st o,bif SI o.op then [] else given st o⟩ h1 h2 T ⟨rfl,?_,rfl,fun j want y=>?_,fun _=>rfl,fun _=>⟨mJ,fun t ht=>?_,rfl,fun x hx=>?_,k1,rfl⟩,fun z=>by cases z⟩ k2
    ·cases o.dst<;>rfl
    ·obtain⟨d,a1,a2,a3⟩:=B j want y;exact⟨d,a1,by simp [a2],a3⟩
    ·simp [ht]
    ·have:=B6.1 h4 x hx;have:Nat.ble (x+1) (st0+32*i)=true:=this;exact B3 this
   |false=>
    obtain⟨S,h⟩:=J6 (N rfl);simp only [A9] at S;obtain⟨⟨h1,h2⟩,T⟩:=S;refine go false (.d .und) _ _ h1 h2 T ⟨rfl,?_,rfl,B,fun J=>(by cases L J),fun z=>(by cases z),fun _=>⟨rfl,?_⟩⟩ h
    ·cases o.dst<;>rfl
    ·cases o.dst<;>rfl
  simp only [GX] at h;split at h
  ·rename_i B;exact fin [] true (fun j want y=>by rw [B] at y;cases y) (fun _=>rfl) (fun _=>h) (fun z=>by cases z)
  ·rename_i j want B;split at h
   ·cases h
   ·rename_i d hd;have E:(all[j]?).bind (·.dst)=some d:=hd;simp only [E] at h;split at h
    ·rename_i I;exact fin [d] false (fun H n y=>by rw [B] at y;cases y;exact⟨d,E,by simp,.inl ⟨I,rfl⟩⟩) (fun J=>by rw [B] at J;cases J) (fun z=>by cases z) (fun _=>h)
    ·rename_i b I;have hgd:∀ m,m=(b==want)→∀ H n,o.guard=some (H,n)→∃ d,(all[H]?).bind (·.dst)=some d∧d∈[d]∧((st.t d = .d .und∧m=false)∨∃ b,st.t d = .d (.bool b)∧m=(b==n)):=by
      intro m ho H n y;rw [B] at y;cases y;exact⟨d,E,by simp,.inr ⟨b,I,ho⟩⟩
     (have A:∀ m,m=(b==want)→∀ H n,o.guard=some (H,n)→∃ d',(all[H]?).bind (·.dst)=some d'∧d'∈[d]∧((st.t d' = .d .und∧m=false)∨∃ b,st.t d' = .d (.bool b)∧m=(b==n)):=by intro m ho H n y;rw [B] at y;cases y;exact⟨d,E,by simp,.inr ⟨b,I,ho⟩⟩);have C:∀ m:Bool,o.guard=none→m=true:=fun _ J=>by rw [B] at J;cases J
     cases b with
     |true=>
      simp only [cond_true] at h;rw [CA I] at h
      cases want with
      |true=>simp only [cond_true] at h;exact fin [d] true (A true rfl) (C _) (fun _=>h) (fun z=>by cases z)
      |false=>simp only [cond_false] at h;exact fin [d] false (A false rfl) (C _) (fun z=>by cases z) (fun _=>h)
     |false=>
      simp only [cond_false] at h;rw [CA I] at h
      cases want with
      |true=>simp only [cond_true] at h;exact fin [d] false (A false rfl) (C _) (fun z=>by cases z) (fun _=>h)
      |false=>simp only [cond_false] at h;exact fin [d] true (A true rfl) (C _) (fun _=>h) (fun z=>by cases z)
    ·cases h
end
end Go.AE
