import Derived.Test.YthlhbocobgkdmaaGreatZCatC
import Derived.Test.YthlhbocobgkdmaaGreatEng
set_option linter.all false
namespace Go.Proofs.YthlhbocobgkdmaaGreatZ
open Go.AE Go.RowKit
theorem Ra {h:Nat→Option Obj}{p:Nat×Nat}{r:Value}(hr:VD h (vz p) r):∃ k A n c,r = .agg #[.int .i64 k,.slice A n c]:=by
 have key:∀ (k:Int) (ws:List D),VD h (.agg [.int .i64 k,.Z 1 ws]) r→∃ k A n c,r = .agg #[.int .i64 k,.slice A n c]:=by
  rintro k ws ⟨us,rfl,v1,r1,e1,h1,v2,r2,e2,h2,e3⟩
  have h1:v1 = .int .i64 k:=h1
  obtain⟨A,cap,e4,_⟩:=h2
  have e3:r2=[]:=e3
  refine⟨k,A,ws.length,cap,?_⟩
  rw [← Array.toArray_toList (xs:=us),e1,e2,e3,h1,e4]
 unfold vz at hr
 split at hr
 ·exact key _ _ hr
 ·exact key _ _ hr
theorem Jy {h:Nat→Option Obj}{ps:List (Nat×Nat)}{ad:Addr}(hv:Aa h 2 (ps.map vz) ad)(i:Nat)(hi:i<ps.length):∃ k A n c,VD h (vz ps[i]) (.agg #[.int .i64 k,.slice A n c])∧kH h (ad.add (i*2))=some (.int .i64 k)∧kH h ((ad.add (i*2)).add 1)=some (.slice A n c):=by
 have h1:=WB hv i
 have e:(ps.map vz).drop i=vz ps[i]::(ps.map vz).drop (i+1):=by
  rw [List.drop_eq_getElem_cons (by simpa using hi)]
  simp
 rw [e] at h1
 obtain⟨⟨v,_,hc,_,hd⟩,_⟩:=h1
 obtain⟨k,A,n,c,rfl⟩:=Ra hd
 exact⟨k,A,n,c,hd,by simpa [Addr.add] using hc 0 (.int .i64 k) rfl,hc 1 (.slice A n c) rfl⟩
theorem Hy {h:Nat→Option Obj}{ad:Addr}{v:Value}(hc:kH h ad=some v):ad=⟨ad.block,ad.off,none⟩:=by
 unfold kH at hc
 split at hc
 ·split at hc
  ·cases hc
  ·rename_i hs
   cases ad with
   |mk b o s=>cases s with
    |none=>rfl
    |some _=>simp at hs
 ·cases hc
theorem IB {h:Nat→Option Obj}{w:World}(hfrz:∀ b x,h b=some x→w.heap[b]? = some x){b off:Nat}{v:Value}(hc:kH h ⟨b,off,none⟩=some v):w.cell? ⟨b,off,none⟩=some v∧b<w.heap.size:=by
 unfold kH at hc
 split at hc
 ·rename_i c e f hb
  have hb':=hfrz b _ hb
  refine⟨?_,xN hb'⟩
  simp only [Option.isSome_none,D6,if_false] at hc
  simp [World.cell?,hb',hc]
 ·cases hc
theorem WG (b off n:Nat):(⟨b,off,none⟩:Addr).add n=⟨b,off+n,none⟩:=by
 unfold Addr.add
 split
 ·rename_i h;rw [h];rfl
 ·rfl
def Jo:Sk:=⟨[(0,.d (.leaf (.Z 2)))],[]⟩
def Uk (xs:List D)(ps:List (Nat×Nat)):Prop:=(∀ p∈ps,p.1≤128∧p.2<2 ^ p.1)∧ps.length≤4611686018427387903∧xs=ps.map vz
open Classical in
noncomputable def GW:Sk→List D→Option (List D)
 |⟨[(0,.d (.leaf (.Z 2)))],[]⟩,[.Z 2 xs]=>if h:∃ ps,Uk xs ps then some [(FL (Classical.choose h).reverse).1,.int .i64 (FL (Classical.choose h).reverse).2] else none
 |_,_=>none
theorem YL {c:oA}(hP:c.P=Tryz.prog)(ho:cF c.P (c.dres 65) Tryz.f65.resultTypes.toList Jo=gV.H9):∀ sk ds r,GW sk ds=some r→fO c 65 sk ds r:=by
 intro sk ds r h fn hf u g _ args w hsz S ht
 unfold GW at h
 split at h
 ·rename_i xs
  split at h
  ·rename_i hex
   obtain⟨ps,hps⟩:∃ ps,Classical.choose hex=ps:=⟨_,rfl⟩
   have hV:=Classical.choose_spec hex
   rw [hps] at h hV
   obtain⟨hb,hlen,rfl⟩:=hV
   cases h
   have ef:fn=Tryz.f65:=by
    rw [hP] at hf
    have:=hf.symm.trans Tryz.func65
    cases this;rfl
   subst ef
   rw [show (⟨[(0,.d (.leaf (.Z 2)))],[]⟩:Sk)=Jo from rfl,ho,hP]
   have ha:args=#[args.getD 0 undef]:=by
    have h4:args.size=1:=hsz
    apply Array.ext
    ·simpa using h4
    ·intro i hi1 hi2
     have:i=0:=by omega
     subst this
     rw [D2,C8 hi1]
     simp
   have hv:VD g.h (.Z 2 (ps.map vz)) (args.getD 0 undef):=(ht 0).1
   obtain⟨A,cap,e1,e2,e3,e4⟩:=hv
   rw [ha,e1,List.length_map]
   have hh0:∀ b x,g.h b=some x→b<w.heap.size:=fun b x h=>xN (S.frz b x h)
   have d0:El g.h:=⟨0,0,none,0,0,(0,0),by simp,⟨#[.int .i64 0,.slice none 0 0],rfl,_,_,rfl,rfl,_,_,rfl,⟨none,0,rfl,B9 _,C4 _,.inl rfl⟩,rfl⟩⟩
   have key:∃ f:Nat→El g.h,(∀ k,k<ps.length→(f k).ix=(ps.length:Int)-1-k)∧Ub w.heap.size w (.slice A ps.length cap) ps.length f∧(upto f ps.length).map El.p=ps.reverse:=by
    by_cases h0:ps=[]
    ·subst h0
     exact⟨fun _=>d0,(fun k hk=>by cases hk),.inl ⟨A,cap,rfl,rfl⟩,rfl⟩
    ·rcases e4 with e4|⟨ad,rfl,hr⟩
     ·exact absurd (List.map_eq_nil_iff.1 e4) h0
     ·have hpos:0<ps.length:=List.length_pos_iff.2 h0
      have had:ad=⟨ad.block,ad.off,none⟩:=by
       obtain⟨k,A',n,c',_,hc,_⟩:=Jy hr 0 hpos
       exact Hy (by simpa [Addr.add] using hc)
      obtain⟨b,off,rfl⟩:∃ b off,ad=⟨b,off,none⟩:=⟨_,_,had⟩
      have el:∀ k,k<ps.length→∃ x:El g.h,x.ix=(ps.length:Int)-1-k∧x.p=ps[ps.length-1-k]?.getD (0,0)∧w.cell? ⟨b,off+(ps.length-1-k)*2,none⟩=some (.int .i64 x.w)∧w.cell? ⟨b,off+(ps.length-1-k)*2+1,none⟩=some (.slice x.A x.n x.c)∧b<w.heap.size:=by
       intro k hk
       have hi:ps.length-1-k<ps.length:=by omega
       obtain⟨k',A',n',c',hd,hc1,hc2⟩:=Jy hr (ps.length-1-k) hi
       rw [WG] at hc1 hc2
       rw [WG] at hc2
       obtain⟨m1,m2⟩:=IB S.frz hc1
       refine⟨⟨(ps.length:Int)-1-k,k',A',n',c',ps[ps.length-1-k],hb _ (C6 hi),hd⟩,rfl,?_,m1,(IB S.frz hc2).1,m2⟩
       rw [C2 hi];rfl
      refine⟨fun k=>if hk:k<ps.length then Classical.choose (el k hk) else d0,fun k hk=>?_,.inr ⟨b,off,cap,rfl,(Classical.choose_spec (el 0 hpos)).2.2.2.2,fun k hk=>?_⟩,?_⟩
      ·simp only [dif_pos hk];exact (Classical.choose_spec (el k hk)).1
      ·simp only [dif_pos hk]
       exact⟨(Classical.choose_spec (el k hk)).2.2.1,(Classical.choose_spec (el k hk)).2.2.2.1⟩
      ·apply List.ext_getElem
       ·simp [upto]
       ·intro i h1 h2
        have hi:i<ps.length:=by simpa [upto] using h1
        simp only [upto,List.getElem_map,List.getElem_range,dif_pos hi]
        rw [(Classical.choose_spec (el i hi)).2.1,List.getElem_reverse,C2 (by omega)]
        rfl
   obtain⟨f,k1,k2,k3⟩:=key
   refine (Si S.frz hh0 ps.length cap A f hlen k1 k2).mono ?_
   rintro e W' ⟨r,rfl,hok⟩
   rw [k3] at hok ⊢
   obtain⟨h',m1,m2,m3,m4⟩:=hok.ex
   have hlt:∀ b x,u b=some x→b<w.heap.size:=fun b x h=>xN (S.unt b x h)
   refine⟨_,rfl,⟨h',g.blk,g.hdr⟩,(fun t=>if t=0 then r else if t=1 then .int .i64 (FL ps.reverse).2 else undef),⟨m2,fun b x hb=>(hok.bel.block b (hlt b x hb)).trans (S.unt b x hb),(fun _ _ h=>by cases h),(fun _ _ _ h=>by cases h),(fun _ _ _ _ _ h=>by cases h),(fun _ _ h=>by cases h),fun b=>?_⟩,fun t=>?_,⟨m1,hok.bel.os,hok.bel.tape,hok.bel.output,hok.bel.size⟩,(fun l o h=>by cases h),rfl⟩
   ·by_cases hbs:b<w.heap.size
    ·show h' b=none∨_
     rw [m3 b hbs];exact S.dj b
    ·right
     cases e:u b with
     |none=>rfl
     |some x=>exact absurd (hlt b x e) hbs
   ·match t with
    |0=>exact⟨m4,True.intro⟩
    |1=>exact⟨(rfl:_=_),True.intro⟩
    |(t+2)=>exact⟨True.intro,True.intro⟩
  ·cases h
 ·cases h
end Go.Proofs.YthlhbocobgkdmaaGreatZ
