import Derived.Test.YthlhbocobgkdmaaGreatM4
import Derived.Test.YthlhbocobgkdmaaGreatZsW
namespace Go.Proofs.YthlhbocobgkdmaaGreat
open Go.AE
set_option linter.all false
mutual
theorem BX {ns:Nat}{M:Int→Prop}:∀ t:TE,Good ns M t→∀ i∈aR t,0≤i∧i<(ns:Int)
 | .mk k op wd sg lo sn v ts,h,i,hi=>by
  obtain⟨hv,ar,h3,hr,h0,hm,hg⟩:=h
  unfold aR at hi
  rcases D3.1 hi with hi|hi
  ·by_cases hk:k=2∨k=3
   ·rw [if_pos hk] at hi
    rw [C3.1 hi];exact hr hk
   ·rw [if_neg hk] at hi;cases hi
  ·exact IY ts hg i hi
theorem IY {ns:Nat}{M:Int→Prop}:∀ ts:List TE,kC ns M ts→∀ i∈iW ts,0≤i∧i<(ns:Int)
 |[],_,i,hi=>by cases hi
 |t::r,h,i,hi=>by
  unfold iW at hi
  rcases D3.1 hi with hi|hi
  ·exact BX t h.1 i hi
  ·exact IY r h.2 i hi
end
mutual
theorem XN {ns:Nat}{M:Int→Prop}{args:List TE}(ha:∀ a∈args,Good ns M a):∀ t:TE,Good ns M t→Good ns M (iO args t)
 | .mk k op wd sg lo sn v ts,h=>by
  have h':=h
  obtain⟨hv,ar,h3,hr,h0,hm,hg⟩:=h'
  unfold iO
  by_cases k2:k=2
  ·rw [if_pos k2]
   by_cases hr:0≤sg∧sg<(args.length:Int)
   ·rw [if_pos hr,C2 (by omega)]
    exact ha _ (C6 _)
   ·rw [if_neg hr];exact h
  ·rw [if_neg k2]
   exact⟨hv,by rw [zM];exact ar,fun h=>by rw [zM];exact h3 h,hr,fun h=>absurd h k2,hm,QS ha ts hg⟩
theorem QS {ns:Nat}{M:Int→Prop}{args:List TE}(ha:∀ a∈args,Good ns M a):∀ ts:List TE,kC ns M ts→kC ns M (jC args ts)
 |[],_=>trivial
 |t::r,h=>⟨XN ha t h.1,QS ha r h.2⟩
end
theorem Kw {b:List D}(hb:Bytes b):U (fun n=>lI n (.Z 1 b) (4:Int)) fun z=>∃ x,z=(true,[x])∧rS 4 x:=by
 refine U.eq (fun n=>OX n ..) (U.H3 (QZ hb) ?_)
 rintro _ _ ⟨b',h,hb',hl⟩;cases h
 refine⟨rfl,U.H5 rfl (U.H3 (XX 3 4 (by decide) (by decide) (by decide) b' 0 ⟨hb',hl,by decide,by omega⟩) ?_)⟩
 rintro _ _ ⟨x,a',h,hw,hm⟩;cases h
 have hk:=Nj hw
 obtain⟨k,p,q,c,t,ys,rfl⟩:=P6 hk
 refine⟨rfl,U.H5 rfl (U.H3 (RL 4 _ 1 hk) ?_)⟩
 rintro _ _ ⟨z,m',h,hz⟩;cases h
 obtain⟨k,p,q,c,t,ys,rfl⟩:=P6 hz
 exact⟨rfl,U.H5 rfl (U.ret ⟨_,rfl,hz⟩)⟩
theorem Ur {ws:List WS}{R:List Int}(hR:∀ i∈R,0≤i∧i<(ws.length:Int))(hp:R.Pairwise (fun a b=>a<b))(hl:R.length≤1000000)(a2 a4 a12 a13:List D)(k op wd sg lo v:Int)(sn:Bool):U (fun n=>P5 n ((R.map iI).length:Int) (0:Int) (.Z 2 a2) (.Z 5 (ws.map aS)) (.Z 10 a4) k op wd sg lo (.bool sn) v (.Z 1 a12) (.Z 9 a13) (.Z 1 (R.map iI)) (.Z 1 ((List.replicate ws.length (0:Int)).map iI))) fun z=>∃ (j':Int) (l:List Int),z=(false,[.int .i64 ((R.map iI).length:Int),.int .i64 j',.Z 2 a2,.Z 5 (ws.map aS),.Z 10 a4,.int .i64 k,.int .i64 op,.int .i64 wd,.int .i64 sg,.int .i64 lo,.bool sn,.int .i64 v,.Z 1 a12,.Z 9 a13,.Z 1 (R.map iI),.Z 1 (l.map iI)])∧l.length=ws.length∧∀ i∈R,l[i.toNat]? = some 1:=by
 have loop:∀ (q j:Nat) (l:List Int),R.length-j=q→j≤R.length→l.length=ws.length→(∀ i∈R.take j,l[i.toNat]? = some 1)→
   U (fun n=>P5 n ((R.map iI).length:Int) (j:Int) (.Z 2 a2) (.Z 5 (ws.map aS)) (.Z 10 a4) k op wd sg lo (.bool sn) v (.Z 1 a12) (.Z 9 a13) (.Z 1 (R.map iI)) (.Z 1 (l.map iI))) fun z=>∃ (j':Int) (l:List Int),z=(false,[.int .i64 ((R.map iI).length:Int),.int .i64 j',.Z 2 a2,.Z 5 (ws.map aS),.Z 10 a4,.int .i64 k,.int .i64 op,.int .i64 wd,.int .i64 sg,.int .i64 lo,.bool sn,.int .i64 v,.Z 1 a12,.Z 9 a13,.Z 1 (R.map iI),.Z 1 (l.map iI)])∧l.length=ws.length∧∀ i∈R,l[i.toNat]? = some 1:=by
  intro q
  induction q with
  |zero=>
   intro j l hk hj hl hi
   rw [List.take_of_length_le (by omega)] at hi
   exact U.eq (fun n=>mZ n ..) (U.no (E6 (by rw [List.length_map];omega)) (U.ret ⟨_,l,rfl,hl,hi⟩))
  |succ q ih=>
   intro j l hk hj hll hi
   have hj2:j<R.length:=by omega
   have hj3:j<(R.map iI).length:=by rw [List.length_map];exact hj2
   have hw:IntKind.i64.wrap ((j:Int)+1)=((j+1:Nat):Int):=J9 (by omega)
   obtain⟨r0,r1⟩:=hR _ (C6 hj2)
   have e:(l.set R[j].toNat 1).map iI=(l.map iI).set R[j].toNat (1:Int):=by rw [List.map_set];rfl
   have nx:=ih (j+1) (l.set R[j].toNat 1) (by omega) hj2 (by rw [List.length_set];exact hll) fun i hi'=>by
    rw [List.take_succ_eq_append_getElem hj2] at hi'
    rcases D3.1 hi' with hi'|hi'
    ·have:=hi i hi'
     by_cases he:R[j].toNat=i.toNat
     ·rw [he,List.getElem?_set_self (by
       rcases Nat.lt_or_ge i.toNat l.length with h|h
       ·exact h
       ·rw [List.getElem?_eq_none h] at this;cases this)]
     ·rw [List.getElem?_set_ne he];exact this
    ·rw [C3.1 hi',List.getElem?_set_self (by omega)]
   rw [e] at nx
   refine U.eq (fun n=>mZ n ..) (U.H5 (E4 (by rw [List.length_map];omega)) (U.H5 (J8 hj3) ?_))
   rw [W7 hj3,List.getElem_map,hw]
   have ir:(decide ((0:Int)≤R[j])&&decide (R[j]<((l.map iI).length:Int)))=true:=N7 (E4 r0) (E4 (by rw [List.length_map,hll];exact r1))
   refine U.H5 rfl (U.no (E6 (show ¬ R[j]<0 by omega)) (U.no (E6 (show ¬ R[j]≥((ws.map aS).length:Int) by rw [List.length_map];omega)) (U.P7 (fun h=>?_) fun _=>U.H5 ir nx)))
   have h:=E5 h
   obtain⟨i,rfl⟩:∃ i,j=i+1:=⟨j-1,by omega⟩
   have hi2:i<(R.map iI).length:=by rw [List.length_map];omega
   have hwi:IntKind.i64.wrap (((i+1:Nat):Int)-1)=(i:Int):=by rw [N8 (by omega) (by omega)];omega
   have hlt:R[i]<R[i+1]:=List.pairwise_iff_getElem.1 hp i (i+1) (by omega) hj2 (by omega)
   rw [hwi,W7 hi2,List.getElem_map]
   exact U.H5 (J8 hi2) (U.H5 rfl (U.no (E6 (show ¬ R[i]≥R[i+1] by omega)) (U.H5 ir nx)))
 exact loop R.length 0 _ rfl (C4 _) (by rw [List.length_replicate]) fun i hi=>by simp at hi
theorem Tb {l:List Bool}(hl:l.length≤1000):U (fun n=>lU n (.Z 1 (l.map bD))) fun z=>∃ l':List Bool,z=(true,[.Z 1 (l'.map bD)]):=by
 have loop:∀ (q j:Nat) (o:List Bool),l.length-j=q→j≤l.length→o.length=l.length→
   U (fun n=>cT n (.Z 1 (l.map bD)) (j:Int) (.Z 1 (o.map bD))) fun z=>∃ (j':Int) (o:List Bool),z=(false,[.Z 1 (l.map bD),.int .i64 j',.Z 1 (o.map bD)]):=by
  intro q
  induction q with
  |zero=>
   intro j o hk hj ho
   exact U.eq (fun n=>vS n ..) (U.no (E6 (by rw [List.length_map];omega)) (U.ret ⟨_,o,rfl⟩))
  |succ q ih=>
   intro j o hk hj ho
   have hj2:j<l.length:=by omega
   have hj3:j<(l.map bD).length:=by rw [List.length_map];exact hj2
   have hw:IntKind.i64.wrap ((j:Int)+1)=((j+1:Nat):Int):=J9 (by omega)
   refine U.eq (fun n=>vS n ..) (U.H5 (E4 (by rw [List.length_map];omega)) (U.H5 (J8 hj3) ?_))
   rw [W7 hj3,List.getElem_map,hw]
   refine U.H5 rfl (U.H5 (J8 (by rw [List.length_map,ho];exact hj2)) ?_)
   have e:(o.map bD).set j (.bool (!l[j]))=(o.set j (!l[j])).map bD:=by rw [List.map_set];rfl
   show U (fun n=>cT n _ _ (.Z 1 ((o.map bD).set ((j:Nat):Int).toNat (.bool (!l[j]))))) _
   rw [E1,e]
   exact ih (j+1) _ (by omega) hj2 (by rw [List.length_set];exact ho)
 have e0:List.replicate ((l.map bD).length:Int).toNat (D.bool false)=(List.replicate l.length false).map bD:=by rw [E1,List.length_map,List.map_replicate];rfl
 refine U.eq (fun n=>VE n ..) (U.H5 (N7 (N7 (E4 (by omega)) (E4 (Int.le_refl _))) (E4 (by rw [List.length_map];show (l.length:Int)≤68719476736;omega))) ?_)
 rw [e0]
 refine U.J2 (loop l.length 0 _ rfl (C4 _) (by rw [List.length_replicate])) (fun ds h=>by obtain⟨_,_,h⟩:=h;cases h) fun ds h=>?_
 obtain⟨_,o,h⟩:=h
 cases h
 exact U.H5 rfl (U.ret ⟨o,rfl⟩)
structure Uw (ws us:List WS) (l:List Int):Prop where
 len:us.length=ws.length
 same:∀ i:Nat,l[i]? = some 1→us[i]? = ws[i]?
 wd:∀ s∈us,s.w≤1000
theorem Ly {ws:List WS}(hw:∀ s∈ws,s.w≤1000∧s.bits.length≤1000)(hl:ws.length≤1000){l:List Int}(hll:l.length=ws.length)(a3 a5 a12 a13 a16 a17:List D)(k op wd sg lo v:Int)(sn:Bool):U (fun n=>Q7 n (.Z 5 (ws.map aS)) ((ws.map aS).length:Int) (0:Int) (.Z 2 a3) (.Z 5 (ws.map aS)) (.Z 10 a5) k op wd sg lo (.bool sn) v (.Z 1 a12) (.Z 9 a13) (.Z 1 (l.map iI)) (.Z 2 a16) (.Z 10 a17) (.Z 5 [])) fun z=>∃ (j':Int) (us:List WS),z=(false,[.Z 5 (ws.map aS),.int .i64 ((ws.map aS).length:Int),.int .i64 j',.Z 2 a3,.Z 5 (ws.map aS),.Z 10 a5,.int .i64 k,.int .i64 op,.int .i64 wd,.int .i64 sg,.int .i64 lo,.bool sn,.int .i64 v,.Z 1 a12,.Z 9 a13,.Z 1 (l.map iI),.Z 2 a16,.Z 10 a17,.Z 5 (us.map aS)])∧Uw ws us l:=by
 have loop:∀ (q j:Nat) (us:List WS),ws.length-j=q→j≤ws.length→us.length=j→(∀ i:Nat,i<j→l[i]? = some 1→us[i]? = ws[i]?)→(∀ s∈us,s.w≤1000)→
   U (fun n=>Q7 n (.Z 5 (ws.map aS)) ((ws.map aS).length:Int) (j:Int) (.Z 2 a3) (.Z 5 (ws.map aS)) (.Z 10 a5) k op wd sg lo (.bool sn) v (.Z 1 a12) (.Z 9 a13) (.Z 1 (l.map iI)) (.Z 2 a16) (.Z 10 a17) (.Z 5 (us.map aS))) fun z=>∃ (j':Int) (us:List WS),z=(false,[.Z 5 (ws.map aS),.int .i64 ((ws.map aS).length:Int),.int .i64 j',.Z 2 a3,.Z 5 (ws.map aS),.Z 10 a5,.int .i64 k,.int .i64 op,.int .i64 wd,.int .i64 sg,.int .i64 lo,.bool sn,.int .i64 v,.Z 1 a12,.Z 9 a13,.Z 1 (l.map iI),.Z 2 a16,.Z 10 a17,.Z 5 (us.map aS)])∧Uw ws us l:=by
  intro q
  induction q with
  |zero=>
   intro j us hk hj hu hs hwd
   refine U.eq (fun n=>nA n ..) (U.no (E6 (by rw [List.length_map];omega)) (U.ret ⟨_,us,rfl,by omega,fun i hi=>?_,hwd⟩))
   rcases Nat.lt_or_ge i j with h|h
   ·exact hs i h hi
   ·rw [List.getElem?_eq_none (by omega),List.getElem?_eq_none (by omega)]
  |succ q ih=>
   intro j us hk hj hu hs hwd
   have hj2:j<ws.length:=by omega
   have hj3:j<(ws.map aS).length:=by rw [List.length_map];exact hj2
   have hj4:j<l.length:=by omega
   have hj5:j<(l.map iI).length:=by rw [List.length_map];exact hj4
   have hwr:IntKind.i64.wrap ((j:Int)+1)=((j+1:Nat):Int):=J9 (by omega)
   obtain⟨w1,w2⟩:=hw _ (C6 hj2)
   have hbl:Nat.ble ((us.map aS).length+1) J5=true:=B2 (by rw [List.length_map,hu];simp only [J5];omega)
   have c1:∀ s:WS,(us++[s]).length=j+1:=fun s=>by rw [A7,hu];rfl
   have c2:∀ s:WS,(l[j]? = some 1→s=ws[j])→∀ i:Nat,i<j+1→l[i]? = some 1→(us++[s])[i]? = ws[i]?:=fun s h2 i hi h=>by
    rcases Nat.lt_or_ge i j with h'|h'
    ·rw [List.getElem?_append_left (by omega)];exact hs i h' h
    ·have:i=j:=by omega
     subst this
     rw [F3 (by omega),hu,Nat.sub_self,C2 hj2,← h2 h];rfl
   have c3:∀ s:WS,s.w≤1000→∀ x∈us++[s],x.w≤1000:=fun s h1 x hx=>by
    rcases D3.1 hx with hx|hx
    ·exact hwd x hx
    ·rw [C3.1 hx];exact h1
   refine U.eq (fun n=>nA n ..) (U.H5 (E4 (by rw [List.length_map];omega)) (U.H5 (J8 hj3) ?_))
   rw [W7 hj3,W7 hj5,List.getElem_map,List.getElem_map,hwr]
   refine U.H5 rfl (U.H5 (J8 hj5) (U.H5 rfl (U.P7 (fun h=>?_) fun h=>?_)))
   ·have h:(l[j]==0)=true:=h
    refine U.H3 (Tb w2) ?_
    rintro _ _ ⟨l',h'⟩;cases h'
    have nx:=ih (j+1) (us++[⟨ws[j].nm,ws[j].w,ws[j].sg,l',[]⟩]) (by omega) hj2 (c1 _) (c2 _ fun h1=>by
     rw [C2 hj4,eq_of_beq h] at h1
     cases h1) (c3 _ w1)
    rw [← DK] at nx
    exact⟨rfl,U.H5 rfl (U.H5 hbl nx)⟩
   ·have nx:=ih (j+1) (us++[ws[j]]) (by omega) hj2 (c1 _) (c2 _ fun _=>rfl) (c3 _ w1)
    rw [← DK] at nx
    exact U.H5 hbl nx
 exact loop ws.length 0 [] rfl (C4 _) rfl (fun i h=>absurd h (Nat.not_lt_zero _)) fun s h=>by cases h
def Vu (ws:List WS)(i:Nat):TE:= .mk 1 0 ((RT ws (i:Int)).1:Int) 0 0 false (RT ws (i:Int)) []
def rU (ws:List WS):List TE:=(List.range ws.length).map (Vu ws)
theorem LH (ws:List WS):(rU ws).length=ws.length:=by unfold rU;rw [List.length_map,List.length_range]
theorem LG (ws:List WS){i:Nat}(h:i<(rU ws).length):(rU ws)[i]=Vu ws i:=by
 simp [rU]
theorem consts (ws:List WS):Iq (RT ws) (rU ws):=⟨fun i h=>⟨_,LG ws h⟩⟩
theorem Px (p:Nat×Nat):U (fun n=>dR n (vz p)) fun r=>r=(true,[enc (.mk 1 0 (p.1:Int) 0 0 false p [])]):=by
 rw [Rt]
 exact U.eq (fun k=>EY k ..) (H4 (ds:=[.int .i64 (p.1:Int)]) (U.eq (fun n=>kW n ..) (U.ret rfl)) (U.H5 rfl (U.ret rfl)))
theorem Nz {ws:List WS}(hw:∀ s∈ws,s.w≤1000∧s.bits.length≤1000)(hl:ws.length≤1000)(a2 a4 a12 a13 a14 a15 a17:List D)(k op wd sg lo v:Int)(sn:Bool):U (fun n=>T4 n (ws.length:Int) (0:Int) (.Z 2 a2) (.Z 5 (ws.map aS)) (.Z 10 a4) k op wd sg lo (.bool sn) v (.Z 1 a12) (.Z 9 a13) (.Z 2 a14) (.Z 10 a15) (.Z 9 []) (.Z 5 a17)) fun z=>∃ j':Int,z=(false,[.int .i64 (ws.length:Int),.int .i64 j',.Z 2 a2,.Z 5 (ws.map aS),.Z 10 a4,.int .i64 k,.int .i64 op,.int .i64 wd,.int .i64 sg,.int .i64 lo,.bool sn,.int .i64 v,.Z 1 a12,.Z 9 a13,.Z 2 a14,.Z 10 a15,.Z 9 (O7 (rU ws)),.Z 5 a17]):=by
 have S:=NX a2 a4 (ws:=ws) fun s hs=>(hw s hs).1
 have loop:∀ (q j:Nat),ws.length-j=q→j≤ws.length→
   U (fun n=>T4 n (ws.length:Int) (j:Int) (.Z 2 a2) (.Z 5 (ws.map aS)) (.Z 10 a4) k op wd sg lo (.bool sn) v (.Z 1 a12) (.Z 9 a13) (.Z 2 a14) (.Z 10 a15) (.Z 9 (O7 ((rU ws).take j))) (.Z 5 a17)) fun z=>∃ j':Int,z=(false,[.int .i64 (ws.length:Int),.int .i64 j',.Z 2 a2,.Z 5 (ws.map aS),.Z 10 a4,.int .i64 k,.int .i64 op,.int .i64 wd,.int .i64 sg,.int .i64 lo,.bool sn,.int .i64 v,.Z 1 a12,.Z 9 a13,.Z 2 a14,.Z 10 a15,.Z 9 (O7 (rU ws)),.Z 5 a17]):=by
  intro q
  induction q with
  |zero=>
   intro j hk hj
   rw [List.take_of_length_le (by rw [LH];omega)]
   exact U.eq (fun n=>nB n ..) (U.no (E6 (by omega)) (U.ret ⟨_,rfl⟩))
  |succ q ih=>
   intro j hk hj
   have hj2:j<ws.length:=by omega
   have hj3:j<(rU ws).length:=by rw [LH];exact hj2
   have hwr:IntKind.i64.wrap ((j:Int)+1)=((j+1:Nat):Int):=J9 (by omega)
   have hc:I7 U4.H9 [vz (RT ws (j:Int))]=true:=by
    rcases dN (RT ws (j:Int)) with ⟨_,q⟩|⟨_,q⟩<;>rw [q]<;>rfl
   refine U.eq (fun n=>nB n ..) (U.H5 (E4 (by omega)) (H4 (S.sig (j:Int)) (U.H5 hc ?_)))
   show U (fun n=>AE.H3 (dR n (H7 I0 (vz (RT ws (j:Int))))) _) _
   rw [dX]
   refine H4 (Px _) (U.H5 rfl (U.H5 (B2 (by rw [eI,D7];simp only [J5];omega)) ?_))
   have e:O7 ((rU ws).take j)++[enc (Vu ws j)]=O7 ((rU ws).take (j+1)):=by
    rw [List.take_succ_eq_append_getElem hj3,lO,LG];rfl
   have nx:=ih (j+1) (by omega) hj2
   rw [← e,← hwr] at nx
   exact nx
 exact loop ws.length 0 rfl (C4 _)
theorem Pq {ws:List WS}{R:List Int}(hR:∀ i∈R,i<(ws.length:Int)∧Mw ws i)(hl:R.length≤1000000)(a2 a4 a12 a13 a14 a15 b12 b13 a26:List D)(k op wd sg lo v k2 o2 w2 s2 l2 v2:Int)(sn n2:Bool):U (fun n=>T5 n ((R.map iI).length:Int) (0:Int) (.Z 2 a2) (.Z 5 (ws.map aS)) (.Z 10 a4) k op wd sg lo (.bool sn) v (.Z 1 a12) (.Z 9 a13) (.Z 2 a14) (.Z 10 a15) k2 o2 w2 s2 l2 (.bool n2) v2 (.Z 1 b12) (.Z 9 b13) (.Z 1 (R.map iI)) (.Z 5 a26)) fun z=>∃ j':Int,z=(false,[.int .i64 ((R.map iI).length:Int),.int .i64 j',.Z 2 a2,.Z 5 (ws.map aS),.Z 10 a4,.int .i64 k,.int .i64 op,.int .i64 wd,.int .i64 sg,.int .i64 lo,.bool sn,.int .i64 v,.Z 1 a12,.Z 9 a13,.Z 2 a14,.Z 10 a15,.int .i64 k2,.int .i64 o2,.int .i64 w2,.int .i64 s2,.int .i64 l2,.bool n2,.int .i64 v2,.Z 1 b12,.Z 9 b13,.Z 1 (R.map iI),.Z 5 a26]):=by
 have loop:∀ (q j:Nat),R.length-j=q→j≤R.length→
   U (fun n=>T5 n ((R.map iI).length:Int) (j:Int) (.Z 2 a2) (.Z 5 (ws.map aS)) (.Z 10 a4) k op wd sg lo (.bool sn) v (.Z 1 a12) (.Z 9 a13) (.Z 2 a14) (.Z 10 a15) k2 o2 w2 s2 l2 (.bool n2) v2 (.Z 1 b12) (.Z 9 b13) (.Z 1 (R.map iI)) (.Z 5 a26)) fun z=>∃ j':Int,z=(false,[.int .i64 ((R.map iI).length:Int),.int .i64 j',.Z 2 a2,.Z 5 (ws.map aS),.Z 10 a4,.int .i64 k,.int .i64 op,.int .i64 wd,.int .i64 sg,.int .i64 lo,.bool sn,.int .i64 v,.Z 1 a12,.Z 9 a13,.Z 2 a14,.Z 10 a15,.int .i64 k2,.int .i64 o2,.int .i64 w2,.int .i64 s2,.int .i64 l2,.bool n2,.int .i64 v2,.Z 1 b12,.Z 9 b13,.Z 1 (R.map iI),.Z 5 a26]):=by
  intro q
  induction q with
  |zero=>
   intro j hk hj
   exact U.eq (fun n=>nC n ..) (U.no (E6 (by rw [List.length_map];omega)) (U.ret ⟨_,rfl⟩))
  |succ q ih=>
   intro j hk hj
   have hj2:j<R.length:=by omega
   have hj3:j<(R.map iI).length:=by rw [List.length_map];exact hj2
   have hwr:IntKind.i64.wrap ((j:Int)+1)=((j+1:Nat):Int):=J9 (by omega)
   obtain⟨h1,h0,s,hs,hne⟩:=hR _ (C6 hj2)
   refine U.eq (fun n=>nC n ..) (U.H5 (E4 (by rw [List.length_map];omega)) (U.H5 (J8 hj3) ?_))
   rw [W7 hj3,List.getElem_map,hwr]
   have e:(ws.map aS)[R[j].toNat]?.getD D.top=aS s:=by rw [List.getElem?_map,hs];rfl
   refine U.H5 rfl (U.H5 (N7 (E4 h0) (E4 (show R[j]<((ws.map aS).length:Int) by rw [List.length_map];exact h1))) ?_)
   show U (fun n=>bif OQ ((ws.map aS)[R[j].toNat]?.getD D.top) then (bif I5 (.leaf (.Z 1))&&K0 (.leaf (.Z 1)) (((ws.map aS)[R[j].toNat]?.getD D.top).at_ 4) then (bif (((((ws.map aS)[R[j].toNat]?.getD D.top).at_ 4).l.length:Int)==0) then _ else _) else _) else _) _
   rw [e]
   refine U.H5 rfl (U.H5 rfl (U.no ?_ (ih (j+1) (by omega) hj2)))
   rw [E9]
   show ((s.words.map fun l=>D.Z 1 (l.map bD)).length:Int)≠0
   rw [List.length_map]
   have:s.words.length≠0:=fun h=>hne (D1 h)
   omega
 exact loop R.length 0 rfl (C4 _)
theorem Oa:U (fun n=>jQ n) fun r=>r=(true,[.bool true]):=by
 refine⟨_,rfl,24,fun n hn=>?_⟩
 obtain⟨k,rfl⟩:∃ k,n=k+24:=⟨n-24,by omega⟩
 exact WK k
theorem WW:∀ l:List Int,(U5 l).length≤l.length
 |[]=>by simp [U5]
 |[y]=>by simp [U5]
 |y::z::l=>by
  have ih:=WW (z::l)
  rw [nL]
  split
  ·simp only [A0] at *;omega
  ·simp only [A0] at *;omega
theorem YS (t:TE):(U5 (dJ (aR t))).length≤L6 t:=by
 have h:=WW (dJ (aR t))
 have:=(nZ (aR t)).length_eq
 have:=zI t
 omega
theorem JL {b xs c:List D}(hb:Bytes b)(hx:∀ y∈xs,Iu y)(hc:Bytes c):U (fun n=>Z4 n (.Z 1 b) (.agg [.Z 2 xs,.Z 1 c])) fun r=>r=(true,[.bool true]):=by
 refine U.eq (fun n=>BL n ..) (H4 Oa (U.H5 rfl (U.no rfl (U.H3 (Np hx hc) ?_))))
 rintro _ _ ⟨nums,fns,l,e,ws,h,hI,hlen,hwd⟩;cases h
 refine⟨rfl,U.H5 rfl (U.H3 (Kw hb) ?_)⟩
 rintro _ _ ⟨x,h,hxk⟩;cases h
 have hown:=TU 4 x (Cu hxk)
 have hres:=NQ (hI.sc (by decide)) (d:=4) (B9 _) hxk 0
 obtain⟨k0,p0,q0,c0,t0,ys0,rfl⟩:=P6 hxk
 refine⟨rfl,U.H5 rfl (H4 hown (U.H5 rfl (U.H3 hres ?_)))⟩
 rintro _ _ ⟨t,q1,q2,q3,er,h,her,hok⟩;cases h
 refine⟨rfl,U.H5 (by cases t;rfl) ?_⟩
 by_cases h0:er=0
 rotate_left
 ·rw [her h0]
  exact U.H5 (by simp [Y,D.i,h0]) (U.ret rfl)
 obtain⟨hg,hz⟩:=hok h0
 refine U.no (by simp [Y,D.i,h0]) ?_
 have hrefs:=Eh t (by omega)
 have hrl:=YS t
 have hrr:∀ i∈U5 (dJ (aR t)),0≤i∧i<(ws.length:Int):=fun i hi=>BX t hg i ((NP i _).1 hi)
 have hrp:=Mf (aR t)
 have S:=NX nums fns (ws:=ws) fun s hs=>(hwd s hs).1
 have hC:=consts ws
 have hg':Good (rU ws).length (Mw ws) t:=by rw [LH];exact hg
 obtain⟨ev1,ev2,ev3⟩:=Dj (sv:=RT ws) (wv:=Fe ws) hC t hg'
 have hca:∀ a∈rU ws,Good ws.length (Mw ws) a:=fun a ha=>by
  obtain⟨i,hi,rfl⟩:=List.getElem_of_mem ha
  rw [LG]
  exact⟨S.ws _,Wh,fun h=>absurd h (by decide),fun h=>absurd h (by decide),fun h=>absurd h (by decide),fun h=>absurd h (by decide),trivial⟩
 have hgz:=XN hca t hg
 have e1:=JQ S t hg
 have e3:=JQ S (iO (rU ws) t) hgz
 have hn1:=EG t (by omega)
 have hn2:=EG (iO (rU ws) t) (by omega)
 have hsub:=NZ (args:=rU ws) t hg
 have hzr:=Eh (iO (rU ws) t) (by omega)
 have hzl:=YS (iO (rU ws) t)
 have hzm:∀ i∈U5 (dJ (aR (iO (rU ws) t))),i<(ws.length:Int)∧Mw ws i:=fun i hi=>by
  have hi:=(NP i _).1 hi
  exact⟨(BX _ hgz i hi).2,(ev3 i hi).1⟩
 have hnum:IntKind.i64.wrap (1+((match t with | .mk _ _ _ _ _ _ _ ts=>O7 ts).length:Int))≤(L6 t:Int):=by
  obtain⟨k,op,wd,sg,lo,sn,v,ts⟩:=t
  have h1:=yG ts
  have h2:L6 (.mk k op wd sg lo sn v ts)=1+cG ts:=by simp only [L6]
  show IntKind.i64.wrap (1+((O7 ts).length:Int))≤_
  rw [eI,N8 (by omega) (by omega)]
  omega
 show U (fun n=>AE.H3 (gD n (H7 H2 (enc t))) _) _
 rw [M3]
 have hall:∀ us,Uw ws us (us.map fun _=>0)→True:=fun _ _=>trivial
 generalize hR:U5 (dJ (aR t))=R at hrefs hrl hrr hrp
 generalize hRz:U5 (dJ (aR (iO (rU ws) t)))=Rz at hzr hzl hzm
 generalize hz':iO (rU ws) t=z at *
 have hsame:∀ us (l:List Int),Uw ws us l→(∀ i∈R,l[i.toNat]? = some 1)→TD (RT us) (Fe us) t=TD (RT ws) (Fe ws) t:=fun us l hu hl=>by
  refine XF t fun i hi=>?_
  have hi:i∈R:=by rw [← hR];exact (NP i _).2 hi
  have hs:=hu.same i.toNat (hl i hi)
  unfold RT Fe
  rw [hs]
  exact⟨rfl,fun _=>rfl⟩
 obtain⟨k,op,wd,sg,lo,sn,v,ts⟩:=t
 obtain⟨kz,oz,wz',sz',lz,nz,vz',tz⟩:=z
 refine H4 hrefs (U.H5 rfl (U.H5 (N7 (N7 (E4 (by omega)) (E4 (Int.le_refl _))) (E4 (by show ((ws.map aS).length:Int)≤68719476736;rw [List.length_map];omega))) ?_))
 have er0:List.replicate ((ws.map aS).length:Int).toNat (D.int .i64 0)=(List.replicate ws.length (0:Int)).map iI:=by rw [E1,List.length_map,List.map_replicate];rfl
 show U (fun n=>AE.J2 (P5 n _ _ _ _ _ _ _ _ _ _ _ _ _ _ _ (.Z 1 (List.replicate ((ws.map aS).length:Int).toNat (D.int .i64 0)))) _) _
 rw [er0]
 refine U.J2 (Ur hrr hrp (by omega) nums fns (wz v) (O7 ts) k op wd sg lo (v.1:Int) sn) (fun ds h=>by obtain⟨_,_,h,_⟩:=h;cases h) fun ds h=>?_
 obtain⟨j0,inl,h,hil,hin⟩:=h
 cases h
 refine U.H5 rfl (U.J2 (Ly hwd (by omega) hil nums fns (wz v) (O7 ts) nums fns k op wd sg lo (v.1:Int) sn) (fun ds h=>by obtain⟨_,_,h,_⟩:=h;cases h) fun ds h=>?_)
 obtain⟨j2,us,h,hU⟩:=h
 cases h
 have hargs:=Nz hwd (by omega) nums fns (wz v) (O7 ts) nums fns (us.map aS) k op wd sg lo (v.1:Int) sn
 rw [show (ws.length:Int)=((ws.map aS).length:Int) by rw [List.length_map]] at hargs
 refine U.H5 rfl (U.J2 hargs (fun ds h=>by obtain⟨_,h⟩:=h;cases h) fun ds h=>?_)
 obtain⟨j4,h⟩:=h
 cases h
 refine U.H5 rfl (H4 hsub (U.H5 rfl (H4 hzr (U.H5 rfl (U.J2 (Pq hzm (by omega) nums fns (wz v) (O7 ts) nums fns (wz vz') (O7 tz) (us.map aS) k op wd sg lo (v.1:Int) kz oz wz' sz' lz (vz'.1:Int) sn nz) (fun ds h=>by obtain⟨_,h⟩:=h;cases h) fun ds h=>?_)))))
 obtain⟨j6,h⟩:=h
 cases h
 have Uq:=NX nums fns (ws:=us) hU.wd
 have e2:=JQ Uq (.mk k op wd sg lo sn v ts) hg
 rw [hsame us inl hU hin] at e2
 rw [ev1] at e3
 have heq:=As e1.1
 have hchk:=KX (TD (RT ws) (Fe ws) (.mk k op wd sg lo sn v ts))
 have hex:=dX (TD (RT ws) (Fe ws) (.mk k op wd sg lo sn v ts))
 generalize TD (RT ws) (Fe ws) (.mk k op wd sg lo sn v ts)=val at e1 e2 e3 heq hchk hex
 refine U.H5 rfl (H4 e1.2 (U.H5 hchk (H4 e2.2 (U.H5 hchk ?_))))
 show U (fun n=>AE.H3 (cD n (H7 I0 (vz val)) (H7 I0 (vz val))) _) _
 rw [hex]
 refine H4 heq (U.H5 rfl (U.H5 rfl (H4 e3.2 (U.H5 hchk ?_))))
 show U (fun n=>AE.H3 (cD n (H7 I0 (vz val)) (H7 I0 (vz val))) _) _
 rw [hex]
 refine H4 heq (U.H5 rfl (U.H5 rfl (H4 hn2 (U.H5 rfl (H4 hn1 (U.H5 rfl (U.H5 ?_ (H4 hn1 (U.H5 rfl (U.ret ?_))))))))))
 ·show ((L6 (.mk kz oz wz' sz' lz nz vz' tz):Int)==(L6 (.mk k op wd sg lo sn v ts):Int))=true
  rw [ev2];exact E8 _
 ·show (true,[D.bool (decide ((L6 (.mk k op wd sg lo sn v ts):Int)≥IntKind.i64.wrap (1+((O7 ts).length:Int))))])=_
  rw [E4 hnum]
end Go.Proofs.YthlhbocobgkdmaaGreat
