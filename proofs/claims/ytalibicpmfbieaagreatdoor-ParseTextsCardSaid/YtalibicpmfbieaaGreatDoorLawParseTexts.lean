import Derived.Test.YtalibicpmfbieaaGreatDoorDoorLawX
import Derived.Test.YtalibicpmfbieaaGreatDoorM8
import Derived.Test.YtalibicpmfbieaaGreatDoorTie
import Derived.Test.YtalibicpmfbieaaGreatDoorCards
namespace Go.Proofs.YtalibicpmfbieaaGreatDoor
open Go.AE
set_option linter.unusedVariables false
set_option linter.unusedSimpArgs false
open Go.ChangeShapes Go.WideShapes Go.ChangeAt Go.RowKit
namespace Claim
set_option maxRecDepth 100000 in
theorem Hi {n:Nat}{x:D}(h:Ab Tryz.prog (n+2) 22 x):∃ b,x = .Z 1 b∧Bytes b:=by
 obtain⟨ys,e,hy⟩:=Fk Tryz.underlying22 h
 have hs:V7 Tryz.prog 5=1:=by kernel_rfl
 rw [hs] at e
 refine⟨ys,e,fun y h'=>?_⟩
 obtain⟨i,e1,e2⟩:=Of Tryz.underlying5 (hy y h')
 obtain⟨h1,h2⟩:=wf_u8 e2
 exact⟨i,e1,h1,h2⟩
theorem params8:Tryz.f8.params.toList=[22]:=by kernel_rfl
theorem Xq:HK C.P [22]=cX.sk:=by kernel_rfl
set_option maxRecDepth 100000 in
theorem runs (xs:List D)(h:F2 (Ab C.P 8) Tryz.f8.params.toList xs):∃ n,run C n (.call 8 (HK C.P Tryz.f8.params.toList) xs)=some (true,[.bool true]):=by
 rw [params8,CP] at h
 rw [params8]
 cases h with|cons h1 h=>
 cases h
 obtain⟨b,rfl,hb⟩:=Hi h1
 obtain⟨r,hr,n,hn⟩:=(GG hb).run
 rw [hr] at hn
 exact⟨n,by rw [Xq];exact hn⟩
set_option maxRecDepth 100000 in
theorem KJ (H:Type)(enc:TypeId×Value→H)(W:World)(base:Nat)(args:Array Value)(ds gs:List (DataW H))(before:List MemPlace)
  (hval:∀ (j:Nat) t v,Tryz.f8.params[j]? = some t→args[j]? = some v→Value.okWide Tryz.prog W .any base t v)
  (hW:DataW.Whole enc Tryz.prog Tryz.f8.params.toList Rows.parseTextsSpec.vars false W args.toList ds gs before) (hsh:W.ShapedOpen Tryz.prog) (hL:laidMet Tryz.prog PQ W) :
  Calls Tryz.prog 8 args W fun e W'=>∃ v,e = .returned v∧Rows.parseTextsSpec.post enc Tryz.prog Tryz.f8 false true false false W args v W':=by
 refine Du (c:=C) (fn:=Tryz.f8) names Wv Tryz.func8 (tb:=4) (by kernel_rfl) Tryz.underlying4 (by kernel_rfl) (EX hsh hL) (by kernel_rfl) (by kernel_rfl) (B:=Rows.uptoBulkAll (ds++gs)) (fun xs h _=>runs xs h) Wp hval rfl hW (Yj _) ?_
 intro hg
 subst hg
 obtain⟨p,q,hA,_⟩:=hW
 rw [params8] at hA
 obtain⟨v0,vs0,d0,ds0,p0,q0,_,hd0,_,_,r0⟩:=trodAll_cons hA
 obtain⟨_,h0,_⟩:=trodAll_nil r0
 rw [hd0,h0]
 rfl
set_option maxRecDepth 100000 in
theorem lifted (os:Os)(started:os.Started)(H:Type)(enc:TypeId×Value→H) :
  ReturnsInHanded {} Tryz.checked os 8 .any (fun w args=>(Rows.parseTextsSpec.pre enc Tryz.prog Tryz.f8 [] false w args∧laidMet Tryz.prog PQ w)∧sizedMet enc Tryz.prog Tryz.f8 (OpenSpec.ofChange Rows.parseTextsSpec) false w args) (Rows.parseTextsSpec.post enc Tryz.prog Tryz.f8 false true false false):=by
 refine TI (P:=Tryz.checked) (X:=fun w _=>laidMet Tryz.prog PQ w) (fun _ _ _ hh h=>h.of_heap hh) own started (by kernel_rfl) Tryz.func8
  (ChangeSpec.witness_at (enc:=enc) (C:=Tryz.checked) (os:=os) (X:=fun w _=>laidMet Tryz.prog PQ w) false (PS os) #[.slice none 0 0] 8 rfl (by kernel_rfl) (by kernel_rfl) (by kernel_rfl) (by kernel_rfl) (by kernel_rfl) (YV os #[.slice none 0 0])) ?_
 intro W base args ds gs before hval hW hsh hL
 exact KJ H enc W base args ds gs before hval hW hsh hL
theorem over:Rows.parseTextsRow.holds Tryz.pinned (OpenSpec.ofChange Rows.parseTextsSpec):=
 OpenClaim.holds_of_wide 8 Tryz.f8 rfl rfl rfl rfl rfl rfl rfl ⟨rfl,rfl,rfl,rfl,rfl⟩ rfl rfl rfl rfl rfl (by kernel_rfl) Tryz.func8 (by kernel_rfl)
  (Zj (by kernel_rfl)) (by unfold Func.isWrapper;first|(rw [if_pos (by decide +kernel)];kernel_rfl)|(rw [if_neg (by decide +kernel)];exact⟨rfl,rfl⟩))
  (fun os started H enc _=>lifted os started H enc)
theorem ZC:(Tryz.f8.params.toList.all fun t=>!(Tryz.prog.wantsStandIn t))=true:=by kernel_rfl
end Claim
theorem parseTexts_holds:Rows.ParseTextsCardSaid:=
 Claim7.holds_tied_plain_at .later [] [.data,.data,.pinned] true (true,"278d277594453031122dac758a069a8c800bad646047491acf910157d533b717") false
  Claim.over (fun _ h=>by cases h) (by kernel_rfl) (fun _ h=>by cases h) parseTexts_row_tie rfl ⟨rfl,rfl⟩ (by kernel_rfl) rfl
  (fun f fn hf hfn=>by
   obtain rfl:f=8:=Option.some.inj ((show Tryz.prog.funcNamed "sluicegate/sluicegatelaw10.ParseTexts"=some 8 by kernel_rfl).symm.trans hf) |>.symm
   obtain rfl:fn=Tryz.f8:=(Option.some.inj (Tryz.func8.symm.trans hfn)).symm
   refine⟨by kernel_rfl,fun j t ht=>?_⟩
   have hm:t∈Tryz.f8.params.toList:=List.mem_of_getElem? (by rw [Yv];exact ht)
   have:=Yg.1 Claim.ZC t hm
   exact (by simpa using this:Tryz.prog.wantsStandIn t=false))
  (by kernel_rfl)
end Go.Proofs.YtalibicpmfbieaaGreatDoor
