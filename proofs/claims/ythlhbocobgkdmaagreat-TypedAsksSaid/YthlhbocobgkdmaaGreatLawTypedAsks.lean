import Derived.Test.YthlhbocobgkdmaaGreatTaLaw
import Derived.Test.YthlhbocobgkdmaaGreatM5
set_option linter.all false
namespace Go.Proofs.YthlhbocobgkdmaaGreat
open Go.AE
open Go.ChangeShapes Go.WideShapes Go.ChangeAt Go.RowKit
namespace Claim
theorem Ru {P:Program}{n:Nat}{t:TypeId}{xs:List D}{fs:Array Field}(ht:P.underlying t=some (.struct fs))(h:wF P (n+1) t xs):∃ parts:List (List D),xs=parts.flatten∧F2 (fun f p=>wF P n f.type p) fs.toList parts:=by
 simp only [wF,ht] at h
 exact h
theorem Nq {P:Program}{n:Nat}{t:TypeId}{xs:List D}{k:IntKind}(ht:P.underlying t=some (.int k))(h:wF P (n+1) t xs):∃ i:Int,xs=[.int k i]∧(Lit.int k i).wf=true:=by
 simp only [wF,ht] at h
 exact h
theorem Uf {P:Program}{n:Nat}{t:TypeId}{xs:List D}(ht:P.underlying t=some .bool)(h:wF P (n+1) t xs):∃ b,xs=[.bool b]:=by
 simp only [wF,ht] at h
 exact h
theorem Nr {P:Program}{n:Nat}{t:TypeId}{xs:List D}(ht:P.underlying t=some .string)(h:wF P (n+1) t xs):∃ s,xs=[.str s]:=by
 simp only [wF,ht] at h
 exact h
set_option maxRecDepth 100000 in
theorem Jn {n:Nat}{x:D}(h:SA Tryz.prog (n+2) 84 x):∃ b,x = .Z 1 b∧Bytes b:=by
 obtain⟨ys,e,hy⟩:=Il Tryz.underlying84 h
 have hs:AE.L6 Tryz.prog 5=1:=by kernel_rfl
 rw [hs] at e
 refine⟨ys,e,fun y h'=>?_⟩
 obtain⟨i,e1,e2⟩:=Fc Tryz.underlying5 (hy y h')
 obtain⟨h1,h2⟩:=wf_u8 e2
 exact⟨i,e1,h1,h2⟩
set_option maxRecDepth 100000 in
theorem Lh {n:Nat}{x:D}(h:SA Tryz.prog (n+4) 159 x):Iu x:=by
 obtain⟨parts,rfl,g⟩:=OK Tryz.underlying159 h
 cases g with|cons h1 g=>cases g with|cons h2 g=>
 cases g
 obtain⟨t,rfl⟩:=Nr (n:=n+2) (t:=9) Tryz.underlying9 h1
 obtain⟨v,rfl,_⟩:=Nq (n:=n+2) (t:=3) Tryz.underlying3 h2
 exact⟨t,v,rfl⟩
theorem OJ {P:Program}{n:Nat}{t e:TypeId}{xs:List D}(ht:P.underlying t=some (.slice e))(h:wF P (n+1) t xs):∃ ys,xs=[.Z (AE.L6 P e) ys]∧∀ y∈ys,SA P n e y:=by
 simp only [wF,ht] at h
 exact h
set_option maxRecDepth 100000 in
theorem Ow {n:Nat}{x:D}(h:SA Tryz.prog (n+6) 86 x):∃ ps b,x = .agg [.Z 2 ps,.Z 1 b]∧(∀ y∈ps,Iu y)∧Bytes b:=by
 obtain⟨parts,rfl,g⟩:=OK Tryz.underlying86 h
 cases g with|cons h1 g=>cases g with|cons h2 g=>
 cases g
 obtain⟨ys,rfl,hy⟩:=OJ (n:=n+4) (t:=57) Tryz.underlying57 h1
 obtain⟨zs,rfl,hz⟩:=OJ (n:=n+4) (t:=84) Tryz.underlying84 h2
 have hs:AE.L6 Tryz.prog 159=2:=by kernel_rfl
 have hs2:AE.L6 Tryz.prog 5=1:=by kernel_rfl
 refine⟨ys,zs,?_,fun y h'=>Lh (hy y h'),fun y h'=>?_⟩
 ·show D.agg [.Z (AE.L6 Tryz.prog 159) ys,.Z (AE.L6 Tryz.prog 5) zs]=_
  rw [hs,hs2]
 ·obtain⟨i,e1,e2⟩:=Fc Tryz.underlying5 (hz y h')
  obtain⟨h1,h2⟩:=wf_u8 e2
  exact⟨i,e1,h1,h2⟩
theorem params5:Tryz.f5.params.toList=[84,86]:=by kernel_rfl
theorem Wt:IL C.P [84,86]=Z4.sk:=by kernel_rfl
set_option maxRecDepth 100000 in
theorem runs (xs:List D)(h:F2 (SA C.P 8) Tryz.f5.params.toList xs):∃ n,run C n (.call 5 (IL C.P Tryz.f5.params.toList) xs)=some (true,[.bool true]):=by
 rw [params5,CP] at h
 rw [params5]
 cases h with|cons h1 h=>
 cases h with|cons h2 h=>
 cases h
 obtain⟨b,rfl,hb⟩:=Jn h1
 obtain⟨ps,c,rfl,hp,hc⟩:=Ow h2
 obtain⟨r,hr,n,hn⟩:=(JL hb hp hc).run
 rw [hr] at hn
 exact⟨n,by rw [Wt];exact hn⟩
set_option maxRecDepth 100000 in
theorem Jv (H:Type)(enc:TypeId×Value→H)(W:World)(base:Nat)(args:Array Value)(ds gs:List (DataW H))(before:List MemPlace)
  (hval:∀ (j:Nat) t v,Tryz.f5.params[j]? = some t→args[j]? = some v→Value.okWide Tryz.prog W .any base t v)
  (hW:DataW.Whole enc Tryz.prog Tryz.f5.params.toList Rows.typedAsksSpec.vars false W args.toList ds gs before) (hsh:W.ShapedOpen Tryz.prog) :
  Calls Tryz.prog 5 args W fun e W'=>∃ v,e = .returned v∧Rows.typedAsksSpec.post enc Tryz.prog Tryz.f5 false true false false W args v W':=by
 refine Gr (c:=C) (fn:=Tryz.f5) names Ti Tryz.func5 (tb:=4) (by kernel_rfl) Tryz.underlying4 (by kernel_rfl) (FD hsh) (by kernel_rfl) (by kernel_rfl) (B:=Rows.uptoBulkAll (ds++gs)) (fun xs h _=>runs xs h) Vx hval rfl hW (B9 _) ?_
 intro hg
 subst hg
 obtain⟨p,q,hA,_⟩:=hW
 rw [params5] at hA
 obtain⟨v0,vs0,d0,ds0,p0,q0,_,hd0,_,_,r0⟩:=trodAll_cons hA
 obtain⟨v1,vs1,d1,ds1,p1,q1,_,hd1,_,_,r1⟩:=trodAll_cons r0
 obtain⟨_,h0,_⟩:=trodAll_nil r1
 rw [hd0,hd1,h0]
 rfl
set_option maxRecDepth 100000 in
theorem lifted (os:Os)(started:os.Started)(H:Type)(enc:TypeId×Value→H) :
  ReturnsInHanded {} Tryz.checked os 5 .any (Rows.typedAsksSpec.pre6 enc Tryz.prog Tryz.f5 Rows.typedAsksRow.domain false) (Rows.typedAsksSpec.post enc Tryz.prog Tryz.f5 false true false false):=by
 refine returnsInHanded_of_change_shaped (C:=Tryz.checked) own started (by kernel_rfl) Tryz.func5
  (ChangeSpec.witness6 (enc:=enc) (C:=Tryz.checked) false ⟨#[],#[.slice none 0 0,.agg #[.slice none 0 0,.slice none 0 0]],[]⟩ 8 (by kernel_rfl) (by kernel_rfl) (by kernel_rfl) (by kernel_rfl)) ?_
 intro W base args ds gs before hval hW _ _ hsh _
 exact Jv H enc W base args ds gs before hval hW hsh
theorem Vy:Rows.typedAsksRow.holds Tryz.pinned (OpenSpec.ofChange Rows.typedAsksSpec):=
 OpenClaim.holds_of_wide 5 Tryz.f5 rfl rfl rfl rfl rfl rfl rfl ⟨rfl,rfl,rfl,rfl,rfl⟩ rfl rfl rfl rfl rfl (by kernel_rfl) Tryz.func5 (by kernel_rfl)
  (E5 (by kernel_rfl)) (by unfold Func.isWrapper;first|(rw [if_pos (by decide +kernel)];kernel_rfl)|(rw [if_neg (by decide +kernel)];exact⟨rfl,rfl⟩))
  (fun os started H enc _=>lifted os started H enc)
end Claim
theorem typedAsks_holds:Rows.TypedAsksSaid:=Claim.Vy
end Go.Proofs.YthlhbocobgkdmaaGreat
