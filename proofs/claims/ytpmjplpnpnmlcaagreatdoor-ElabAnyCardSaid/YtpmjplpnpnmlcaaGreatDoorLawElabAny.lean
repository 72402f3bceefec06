/- For all slices of bytes and names ElabAny returns true and leaves its arguments as they were; the laid tables are tied to the program. No condition. -/
import Derived.Test.YtpmjplpnpnmlcaaGreatDoorDoorLawE
import Derived.Test.YtpmjplpnpnmlcaaGreatDoorQaO
import Derived.Test.YtpmjplpnpnmlcaaGreatDoorFmC
import Derived.Test.YtpmjplpnpnmlcaaGreatDoorTie
import Derived.Test.YtpmjplpnpnmlcaaGreatDoorCards
set_option linter.all false
namespace Go.Proofs.YtpmjplpnpnmlcaaGreatDoor
open Go.AE
open Go.ChangeShapes Go.WideShapes Go.ChangeAt Go.RowKit
namespace Claim
open Go.AE.Q Go.AE.Dc
set_option maxRecDepth 100000 in
theorem UB {n:Nat}{x:D}(h:KL Tryz.prog (n+2) 41 x):∃ b,x = .Z 1 b∧∀ x∈b,HP U6 5 [] x:=by
 obtain⟨ys,e,hy⟩:=SS Tryz.underlying41 h
 have hs:K2 Tryz.prog 5=1:=by kernel_rfl
 rw [hs] at e
 refine⟨ys,e,fun y h'=>?_⟩
 obtain⟨i,e1,e2⟩:=Eg Tryz.underlying5 (hy y h')
 obtain⟨h1,h2⟩:=wf_u8 e2
 rw [e1]
 exact ZV h1 h2
set_option maxRecDepth 100000 in
theorem Me {n:Nat}{x:D}(h:KL Tryz.prog (n+1) 9 x):∃ s,x = .str s:=Eh Tryz.underlying9 h
theorem params5:Tryz.f5.params.toList=[41,9]:=by kernel_rfl
theorem aE3:uG C.P [41,9]=⟨sl [dL 1,dS],[]⟩:=by kernel_rfl
theorem aE8 (xs:List D):(sg 0).tk xs = .call 5 ⟨sl [dL 1,dS],[]⟩ xs:=by kernel_rfl
set_option maxRecDepth 100000 in
theorem runs (xs:List D)(h:F2 (KL C.P 8) Tryz.f5.params.toList xs):∃ n,run C n (.call 5 (uG C.P Tryz.f5.params.toList) xs)=some (true,[.bool true]):=by
 rw [params5,CP] at h
 rw [params5]
 cases h with|cons h1 h=>
 cases h with|cons h2 h=>
 cases h
 obtain⟨b,rfl,hb⟩:=UB h1
 obtain⟨s,rfl⟩:=Me h2
 obtain⟨n,hn⟩:=AP s hb
 exact⟨n,by rw [aE3,← aE8];exact hn n (B9 _)⟩
set_option maxRecDepth 100000 in
theorem xD (H:Type)(enc:TypeId×Value→H)(W:World)(base:Nat)(args:Array Value)(ds gs:List (DataW H))(before:List MemPlace)
  (hval:∀ (j:Nat) t v,Tryz.f5.params[j]? = some t→args[j]? = some v→Value.okWide Tryz.prog W .any base t v)
  (hW:DataW.Whole enc Tryz.prog Tryz.f5.params.toList Rows.elabAnySpec.vars false W args.toList ds gs before) (hsh:W.ShapedOpen Tryz.prog) (hL:laidMet Tryz.prog CJ W) :
  Calls Tryz.prog 5 args W fun e W'=>∃ v,e = .returned v∧Rows.elabAnySpec.post enc Tryz.prog Tryz.f5 false true false false W args v W':=by
 refine RP (c:=C) (fn:=Tryz.f5) names Wl Tryz.func5 (tb:=4) (by kernel_rfl) Tryz.underlying4 ⟨by kernel_rfl,by kernel_rfl⟩ (qH hsh hL) (by kernel_rfl) (by kernel_rfl) (B:=Rows.uptoBulkAll (ds++gs)) (fun xs h _=>runs xs h) Wh hval rfl hW (B9 _) ?_
 intro hg
 subst hg
 obtain⟨p,q,hA,_⟩:=hW
 rw [params5] at hA
 obtain⟨v0,vs0,d0,ds0,p0,q0,_,hd0,_,_,r0⟩:=trodAll_cons hA
 obtain⟨v1,vs1,d1,ds1,p1,q1,_,hd1,_,_,r1⟩:=trodAll_cons r0
 obtain⟨_,h0,_⟩:=trodAll_nil r1
 rw [hd0,hd1,h0]
 rfl
set_option maxRecDepth 100000 in
theorem lifted (os:Os)(started:os.Started)(H:Type)(enc:TypeId×Value→H) :
  ReturnsInHanded {} Tryz.checked os 5 .any (fun w args=>(Rows.elabAnySpec.pre enc Tryz.prog Tryz.f5 [] false w args∧laidMet Tryz.prog CJ w)∧sizedMet enc Tryz.prog Tryz.f5 (OpenSpec.ofChange Rows.elabAnySpec) false w args) (Rows.elabAnySpec.post enc Tryz.prog Tryz.f5 false true false false):=by
 refine GO (P:=Tryz.checked) (X:=fun w _=>laidMet Tryz.prog CJ w) (fun _ _ _ hh h=>h.of_heap hh) own started (by kernel_rfl) Tryz.func5
  (ChangeSpec.witness_at (enc:=enc) (C:=Tryz.checked) (os:=os) (X:=fun w _=>laidMet Tryz.prog CJ w) false (CK os) #[.slice none 0 0,.string ⟨#[]⟩] 8 rfl (by kernel_rfl) (by kernel_rfl) (by kernel_rfl) (by kernel_rfl) (by kernel_rfl) (MB os #[.slice none 0 0,.string ⟨#[]⟩])) ?_
 intro W base args ds gs before hval hW hsh hL
 exact xD H enc W base args ds gs before hval hW hsh hL
theorem over:Rows.elabAnyRow.holds Tryz.pinned (OpenSpec.ofChange Rows.elabAnySpec):=
 OpenClaim.holds_of_wide 5 Tryz.f5 rfl rfl rfl rfl rfl rfl rfl ⟨rfl,rfl,rfl,rfl,rfl⟩ rfl rfl rfl rfl rfl Hy Tryz.func5 Io Hw Hz
  (fun os started H enc _=>lifted os started H enc)
theorem MK:(Tryz.f5.params.toList.all fun t=>!(Tryz.prog.wantsStandIn t))=true:=by kernel_rfl
end Claim
theorem elabAny_holds:Rows.ElabAnyCardSaid:=
 Claim7.holds_tied_plain_at .later [] [.data,.data,.data,.data] true (true,"16a04560f04ee2d2d31e39f31ee3eeabb448da85cdc95d70a2d66cfb2a1bfef6") false
  Claim.over (fun _ h=>by cases h) Claim.Vv (fun _ h=>by cases h) elabAny_row_tie rfl ⟨rfl,rfl⟩ Claim.Hx rfl
  (fun f fn hf hfn=>by
   obtain rfl:f=5:=Option.some.inj (Claim.Am.symm.trans hf) |>.symm
   obtain rfl:fn=Tryz.f5:=(Option.some.inj (Tryz.func5.symm.trans hfn)).symm
   refine⟨Claim.Al,fun j t ht=>?_⟩
   have hm:t∈Tryz.f5.params.toList:=List.mem_of_getElem? (by rw [D0];exact ht)
   have:=B6.1 Claim.MK t hm
   exact (by simpa using this:Tryz.prog.wantsStandIn t=false))
  Claim.Hv
end Go.Proofs.YtpmjplpnpnmlcaaGreatDoor
