import Derived.Test.YtalibicpmfbieaaGreatDoorDoorLawX
import Derived.Test.YtalibicpmfbieaaGreatDoorM8
import Derived.Test.YtalibicpmfbieaaGreatDoorTie
import Derived.Test.YtalibicpmfbieaaGreatDoorCards
set_option linter.all false
namespace Go.Proofs.YtalibicpmfbieaaGreatDoor
open Go.AE
open Go.ChangeShapes Go.WideShapes Go.ChangeAt Go.RowKit
namespace Claim
set_option maxRecDepth 100000 in
theorem YJ {n:Nat}{x:D}(h:Dq Tryz.prog (n+2) 22 x):∃ b,x = .Z 1 b∧Bytes b:=by
 obtain⟨ys,e,hy⟩:=Jf Tryz.underlying22 h
 have hs:aZ Tryz.prog 5=1:=by kernel_rfl
 rw [hs] at e
 refine⟨ys,e,fun y h'=>?_⟩
 obtain⟨i,e1,e2⟩:=Sg Tryz.underlying5 (hy y h')
 obtain⟨h1,h2⟩:=wf_u8 e2
 exact⟨i,e1,h1,h2⟩
theorem params9:Tryz.f9.params.toList=[22,22]:=by kernel_rfl
theorem aE5:KN C.P [22,22]=dY.sk:=by kernel_rfl
set_option maxRecDepth 100000 in
theorem runs (xs:List D)(h:F2 (Dq C.P 8) Tryz.f9.params.toList xs):∃ n,run C n (.call 9 (KN C.P Tryz.f9.params.toList) xs)=some (true,[.bool true]):=by
 rw [params9,CP] at h
 rw [params9]
 cases h with|cons h1 h=>
 cases h with|cons h2 h=>
 cases h
 obtain⟨b,rfl,hb⟩:=YJ h1
 obtain⟨b2,rfl,hb2⟩:=YJ h2
 obtain⟨r,hr,n,hn⟩:=(JJ hb hb2).run
 rw [hr] at hn
 exact⟨n,by rw [aE5];exact hn⟩
set_option maxRecDepth 100000 in
theorem NN (H:Type)(enc:TypeId×Value→H)(W:World)(base:Nat)(args:Array Value)(ds gs:List (DataW H))(before:List MemPlace)
  (hval:∀ (j:Nat) t v,Tryz.f9.params[j]? = some t→args[j]? = some v→Value.okWide Tryz.prog W .any base t v)
  (hW:DataW.Whole enc Tryz.prog Tryz.f9.params.toList Rows.parseJoinsSpec.vars false W args.toList ds gs before) (hsh:W.ShapedOpen Tryz.prog) (hL:laidMet Tryz.prog SR W) :
  Calls Tryz.prog 9 args W fun e W'=>∃ v,e = .returned v∧Rows.parseJoinsSpec.post enc Tryz.prog Tryz.f9 false true false false W args v W':=by
 refine Hm (c:=C) (fn:=Tryz.f9) names aC2 Tryz.func9 (tb:=4) (by kernel_rfl) Tryz.underlying4 (by kernel_rfl) (ID hsh hL) (by kernel_rfl) (by kernel_rfl) (B:=Rows.uptoBulkAll (ds++gs)) (fun xs h _=>runs xs h) aB7 hval rfl hW (B9 _) ?_
 intro hg
 subst hg
 obtain⟨p,q,hA,_⟩:=hW
 rw [params9] at hA
 obtain⟨v0,vs0,d0,ds0,p0,q0,_,hd0,_,_,r0⟩:=trodAll_cons hA
 obtain⟨v1,vs1,d1,ds1,p1,q1,_,hd1,_,_,r1⟩:=trodAll_cons r0
 obtain⟨_,h0,_⟩:=trodAll_nil r1
 rw [hd0,hd1,h0]
 rfl
set_option maxRecDepth 100000 in
theorem lifted (os:Os)(started:os.Started)(H:Type)(enc:TypeId×Value→H) :
  ReturnsInHanded {} Tryz.checked os 9 .any (fun w args=>(Rows.parseJoinsSpec.pre enc Tryz.prog Tryz.f9 [] false w args∧laidMet Tryz.prog SR w)∧sizedMet enc Tryz.prog Tryz.f9 (OpenSpec.ofChange Rows.parseJoinsSpec) false w args) (Rows.parseJoinsSpec.post enc Tryz.prog Tryz.f9 false true false false):=by
 refine WS (P:=Tryz.checked) (X:=fun w _=>laidMet Tryz.prog SR w) (fun _ _ _ hh h=>h.of_heap hh) own started (by kernel_rfl) Tryz.func9
  (ChangeSpec.witness_at (enc:=enc) (C:=Tryz.checked) (os:=os) (X:=fun w _=>laidMet Tryz.prog SR w) false (SS os) #[.slice none 0 0,.slice none 0 0] 8 rfl (by kernel_rfl) (by kernel_rfl) (by kernel_rfl) (by kernel_rfl) (by kernel_rfl) (Ce os #[.slice none 0 0,.slice none 0 0])) ?_
 intro W base args ds gs before hval hW hsh hL
 exact NN H enc W base args ds gs before hval hW hsh hL
theorem over:Rows.parseJoinsRow.holds Tryz.pinned (OpenSpec.ofChange Rows.parseJoinsSpec):=
 OpenClaim.holds_of_wide 9 Tryz.f9 rfl rfl rfl rfl rfl rfl rfl ⟨rfl,rfl,rfl,rfl,rfl⟩ rfl rfl rfl rfl rfl (by kernel_rfl) Tryz.func9 (by kernel_rfl)
  (E7 (by kernel_rfl)) (by unfold Func.isWrapper;first|(rw [if_pos (by decide +kernel)];kernel_rfl)|(rw [if_neg (by decide +kernel)];exact⟨rfl,rfl⟩))
  (fun os started H enc _=>lifted os started H enc)
theorem Cm:(Tryz.f9.params.toList.all fun t=>!(Tryz.prog.wantsStandIn t))=true:=by kernel_rfl
end Claim
theorem parseJoins_holds:Rows.ParseJoinsCardSaid:=
 Claim7.holds_tied_plain_at .later [] [.data,.data,.pinned] true (true,"278d277594453031122dac758a069a8c800bad646047491acf910157d533b717") false
  Claim.over (fun _ h=>by cases h) (by kernel_rfl) (fun _ h=>by cases h) parseJoins_row_tie rfl ⟨rfl,rfl⟩ (by kernel_rfl) rfl
  (fun f fn hf hfn=>by
   obtain rfl:f=9:=Option.some.inj ((show Tryz.prog.funcNamed "sluicegate/sluicegatelaw10.ParseJoins"=some 9 by kernel_rfl).symm.trans hf) |>.symm
   obtain rfl:fn=Tryz.f9:=(Option.some.inj (Tryz.func9.symm.trans hfn)).symm
   refine⟨by kernel_rfl,fun j t ht=>?_⟩
   have hm:t∈Tryz.f9.params.toList:=List.mem_of_getElem? (by rw [D0];exact ht)
   have:=B6.1 Claim.Cm t hm
   exact (by simpa using this:Tryz.prog.wantsStandIn t=false))
  (by kernel_rfl)
end Go.Proofs.YtalibicpmfbieaaGreatDoor
