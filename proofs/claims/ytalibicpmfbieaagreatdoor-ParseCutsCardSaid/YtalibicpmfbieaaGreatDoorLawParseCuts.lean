import Derived.Test.YtalibicpmfbieaaGreatDoorDoorLawX
import Derived.Test.YtalibicpmfbieaaGreatDoorM9
import Derived.Test.YtalibicpmfbieaaGreatDoorTie
import Derived.Test.YtalibicpmfbieaaGreatDoorCards
set_option linter.all false
namespace Go.Proofs.YtalibicpmfbieaaGreatDoor
open Go.AE
open Go.ChangeShapes Go.WideShapes Go.ChangeAt Go.RowKit
namespace Claim
set_option maxRecDepth 100000 in
theorem Pe {n:Nat}{x:D}(h:Du Tryz.prog (n+2) 22 x):∃ b,x = .Z 1 b∧Bytes b:=by
 obtain⟨ys,e,a⟩:=Nb Tryz.underlying22 h;have c:cA Tryz.prog 5=1:=by kernel_rfl
 rw [c] at e;refine⟨ys,e,fun y h'=>?_⟩;obtain⟨i,e1,f⟩:=Kb Tryz.underlying5 (a y h');obtain⟨h1,d⟩:=wf_u8 f;exact⟨i,e1,h1,d⟩
set_option maxRecDepth 100000 in
theorem aC5 {n:Nat}{x:D}(h:Du Tryz.prog (n+1) 3 x):∃ i:Int,x = .int .i64 i:=by obtain⟨i,e,_⟩:=Kb Tryz.underlying3 h;exact⟨i,e⟩
theorem params7:Tryz.f7.params.toList=[22,3]:=by kernel_rfl
theorem aX2:LL C.P [22,3]=gT.sk:=by kernel_rfl
set_option maxRecDepth 100000 in
theorem runs (xs:List D)(h:F2 (Du C.P 8) Tryz.f7.params.toList xs):∃ n,run C n (.call 7 (LL C.P Tryz.f7.params.toList) xs)=some (true,[.bool true]):=by
 rw [params7,CP] at h;rw [params7];cases h with|cons h1 h=>
 cases h with|cons e h=>
 cases h;obtain⟨b,rfl,d⟩:=Pe h1;obtain⟨n,rfl⟩:=aC5 e;obtain⟨r,c,n,a⟩:=(MO d n).run;rw [c] at a;exact⟨n,by rw [aX2];exact a⟩
set_option maxRecDepth 100000 in
theorem OX (H:Type)(enc:TypeId×Value→H)(W:World)(base:Nat)(args:Array Value)(ds gs:List (DataW H))(before:List MemPlace) (a:∀ (j:Nat) t v,Tryz.f7.params[j]? = some t→args[j]? = some v→Value.okWide Tryz.prog W .any base t v) (g:DataW.Whole enc Tryz.prog Tryz.f7.params.toList Rows.parseCutsSpec.vars false W args.toList ds gs before) (b:W.ShapedOpen Tryz.prog) (o:laidMet Tryz.prog UL W) :Calls Tryz.prog 7 args W fun e u=>∃ v,e = .returned v∧Rows.parseCutsSpec.post enc Tryz.prog Tryz.f7 false true false false W args v u:=by refine Lm (c:=C) (fn:=Tryz.f7) names aU1 Tryz.func7 (tb:=4) (by kernel_rfl) Tryz.underlying4 (by kernel_rfl) (IS b o) (by kernel_rfl) (by kernel_rfl) (B:=Rows.uptoBulkAll (ds++gs)) (fun xs h _=>runs xs h) aT6 a rfl g (B9 _) ?_;intro n;subst n;obtain⟨p,q,i,_⟩:=g;rw [params7] at i;obtain⟨x,l,F,s,D,z,_,f,_,_,r0⟩:=trodAll_cons i;obtain⟨w,k,E,r,A,y,_,d,_,_,m⟩:=trodAll_cons r0;obtain⟨_,h0,_⟩:=trodAll_nil m;rw [f,d,h0];rfl
set_option maxRecDepth 100000 in
theorem lifted (os:Os)(started:os.Started)(H:Type)(enc:TypeId×Value→H) :ReturnsInHanded {} Tryz.checked os 7 .any (fun w args=>(Rows.parseCutsSpec.pre enc Tryz.prog Tryz.f7 [] false w args∧laidMet Tryz.prog UL w)∧sizedMet enc Tryz.prog Tryz.f7 (OpenSpec.ofChange Rows.parseCutsSpec) false w args) (Rows.parseCutsSpec.post enc Tryz.prog Tryz.f7 false true false false):=by refine YQ (P:=Tryz.checked) (X:=fun w _=>laidMet Tryz.prog UL w) (fun _ _ _ hh h=>h.of_heap hh) own started (by kernel_rfl) Tryz.func7 (ChangeSpec.witness_at (enc:=enc) (C:=Tryz.checked) (os:=os) (X:=fun w _=>laidMet Tryz.prog UL w) false (UM os) #[.slice none 0 0,.int .i64 0] 8 rfl (by kernel_rfl) (by kernel_rfl) (by kernel_rfl) (by kernel_rfl) (by kernel_rfl) (Fg os #[.slice none 0 0,.int .i64 0])) ?_;intro W base args ds gs before a c b d;exact OX H enc W base args ds gs before a c b d
theorem over:Rows.parseCutsRow.holds Tryz.pinned (OpenSpec.ofChange Rows.parseCutsSpec):=OpenClaim.holds_of_wide 7 Tryz.f7 rfl rfl rfl rfl rfl rfl rfl ⟨rfl,rfl,rfl,rfl,rfl⟩ rfl rfl rfl rfl rfl (by kernel_rfl) Tryz.func7 (by kernel_rfl) (E7 (by kernel_rfl)) (by unfold Func.isWrapper;first|(rw [if_pos (by decide +kernel)];kernel_rfl)|(rw [if_neg (by decide +kernel)];exact⟨rfl,rfl⟩)) (fun os started H enc _=>lifted os started H enc)
theorem Fo:(Tryz.f7.params.toList.all fun t=>!(Tryz.prog.wantsStandIn t))=true:=by kernel_rfl
end Claim
theorem parseCuts_holds:Rows.ParseCutsCardSaid:=Claim7.holds_tied_plain_at .later [] [.data,.data,.pinned] true (true,"278d277594453031122dac758a069a8c800bad646047491acf910157d533b717") false
  Claim.over (fun _ h=>by cases h) (by kernel_rfl) (fun _ h=>by cases h) parseCuts_row_tie rfl ⟨rfl,rfl⟩ (by kernel_rfl) rfl
  (fun f fn c a=>by obtain rfl:f=7:=Option.some.inj ((show Tryz.prog.funcNamed "sluicegate/sluicegatelaw10.ParseCuts"=some 7 by kernel_rfl).symm.trans c) |>.symm;obtain rfl:fn=Tryz.f7:=(Option.some.inj (Tryz.func7.symm.trans a)).symm;refine⟨by kernel_rfl,fun j t b=>?_⟩;have hm:t∈Tryz.f7.params.toList:=List.mem_of_getElem? (by rw [D0];exact b);have:=B6.1 Claim.Fo t hm;exact (by simpa using this:Tryz.prog.wantsStandIn t=false))
  (by kernel_rfl)
end Go.Proofs.YtalibicpmfbieaaGreatDoor
