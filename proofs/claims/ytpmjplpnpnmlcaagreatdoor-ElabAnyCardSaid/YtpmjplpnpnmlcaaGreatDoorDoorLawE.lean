import Derived.Test.YtpmjplpnpnmlcaaGreatDoorRows
import Derived.Test.YtpmjplpnpnmlcaaGreatDoorShelf
import Derived.Test.YtpmjplpnpnmlcaaGreatDoorIf0
import Derived.Test.YtpmjplpnpnmlcaaGreatDoorQaD
import Derived.Test.YtpmjplpnpnmlcaaGreatDoorEng
import Derived.Shelf.Vars
import Derived.HandedShaped
import Derived.LaidLaws
import Derived.Stop.LaidErr
import Derived.Handed
import Derived.LaidHandle
import Derived.Tactics
import Derived.Tactics2
import Derived.StillTactics
import Derived.WalkKit
import Derived.Lib.Walk
set_option linter.all false
namespace Go.Proofs.YtpmjplpnpnmlcaaGreatDoor
open Go.AE
open Go.ChangeShapes Go.WideShapes Go.ChangeAt Go.RowKit
namespace Claim
theorem QW:(Tryz.prog.funcs.all fun fn=>!(fn.name=="runtime.NumGoroutine"))=true:=by kernel_rfl
set_option maxHeartbeats 1000000 in
set_option maxRecDepth 100000 in
theorem UH (w:World):Calls Tryz.prog 180 #[.slice none 0 0] w fun e w'=>e = .returned (.slice none 0 0)∧w'=w:=by
 have q:∀ (w:World) (a:Option Addr) (n c n' c':Nat),(binOp .eql (166:TypeId) (.slice a n c) (.slice none n' c')).run Tryz.prog w = .ok (.bool a.isNone) w:=fun w a n c n' c'=>Lib.run_eql_slice_nil w _ _ a n c n' c' Tryz.underlying166
 go_enter Tryz.func180,Tryz.ntmps180
 go_wp2
 go_ret
 exact⟨rfl,rfl⟩
theorem Vm:DN C:=by
 intro f hf w
 simp only [C,List.any_cons,List.any_nil,Bool.or_false,Bool.or_eq_true] at hf
 have hf:=hf
 obtain rfl:=B0 hf
 exact⟨⟨_,Tryz.func180,by kernel_rfl⟩,UH w⟩
theorem names:S8 C:=by
 refine⟨fun f fn hf=>?_,IG EU ?_ (fun f ds=>rfl),fun h h' hh k=>⟨⟨IP hh k.1.1,SO hh k.1.2⟩,fun n xs hn=>kE hh 1 xs _ (k.2 n xs hn)⟩,fun n xs hn h hk=>hk.2 n xs hn,(fun _ h=>by cases h),(fun _ h=>by cases h),Vm⟩
 ·have h:Tryz.prog.funcs[f]? = some fn:=hf
  have:=Array.all_eq_true.1 QW f (Array.getElem?_eq_some_iff.1 h).1
  rw [(Array.getElem?_eq_some_iff.1 h).2] at this
  simpa using this
 ·intro p hp
  simp only [EU,B7,List.not_mem_nil,or_false] at hp
  rcases hp with rfl|rfl
  ·exact RF (fn:=Tryz.f214) Tryz.func214 (by kernel_rfl) (by kernel_rfl) (by kernel_rfl) (by kernel_rfl)
  ·exact AQ (fn:=Tryz.f263) Tryz.func263 (by kernel_rfl) (by kernel_rfl) (by kernel_rfl) (by kernel_rfl)
theorem Kw:V5 C.P (C.dres 107) Tryz.f107.resultTypes.toList ⟨[(0,.d (.leaf (.int .i64)))],[]⟩=⟨[(0,.d (.leaf .str))],[]⟩:=by kernel_rfl
theorem Ky:V5 C.P (C.dres 272) Tryz.f272.resultTypes.toList ⟨[(0,.d (.leaf .str)),(1,.d (.leaf .str))],[]⟩=⟨[(0,.d (.leaf .bool))],[]⟩:=by kernel_rfl
theorem Kx:V5 C.P (C.dres 266) Tryz.f266.resultTypes.toList ⟨[(0,.d (.leaf .str)),(1,.d (.leaf .str))],[]⟩=⟨[(0,.d (.leaf .str)),(1,.d (.leaf .str)),(2,.d (.leaf .bool))],[]⟩:=by kernel_rfl
set_option maxRecDepth 100000 in
theorem Wl:∀ f sk ds r,C.orc f sk ds=some r→cU C f sk ds r:=by
 intro f sk ds r h
 refine uN GI (fun p hp=>?_) f sk ds r h
 simp only [GI,B7,List.not_mem_nil,or_false] at hp
 rcases hp with rfl|rfl|rfl|rfl
 ·refine zD (zs:=Ej) rfl (by decide) (fun blk cap n i us w a b c d e f g=>Hn blk 0 cap n i us w a b c d e f g) (fun fn hf=>?_) ⟨by kernel_rfl,by kernel_rfl⟩
  have:fn=Tryz.f332:=Option.some.inj (hf.symm.trans Tryz.func332)
  subst this
  exact⟨292,by kernel_rfl,by kernel_rfl,.inr trivial⟩
 ·refine GH (name:="internal/strconv.uint64pow10") (gv:=0) (by kernel_rfl) (fun h k=>k.1.2) (fun n h0 h1 w ht=>Tryz.strconv_Itoa n h0 h1 w ht) (fun fn hf=>?_)
  have:fn=Tryz.f107:=Option.some.inj (hf.symm.trans Tryz.func107)
  subst this
  exact Kw
 ·refine sT (gv:=1) (fun h k=>k.1.1) (fun s sub m w h1 h2=>Tryz.strings_Contains s sub m w h1 h2) (fun fn hf=>?_)
  have:fn=Tryz.f272:=Option.some.inj (hf.symm.trans Tryz.func272)
  subst this
  exact Ky
 ·refine JO (gv:=1) (fun h k=>k.1.1) (fun s sep m w h1 h2=>Tryz.strings_Cut s sep m w h1 h2) (fun fn hf=>?_)
  have:fn=Tryz.f266:=Option.some.inj (hf.symm.trans Tryz.func266)
  subst this
  exact Kx
theorem UA {H:Type}(d:DataW H):1≤Rows.uptoBulk d:=by
 cases d with
 |lit l=>cases l<;>simp [Rows.uptoBulk]
 |nil=>simp [Rows.uptoBulk]
 |ptr d=>simp [Rows.uptoBulk]
 |slice elems spare=>simp [Rows.uptoBulk]
 |agg parts=>simp [Rows.uptoBulk]
 |iface t d=>simp [Rows.uptoBulk]
 |map entries=>simp [Rows.uptoBulk]
 |held h=>simp [Rows.uptoBulk]
theorem Wh {H:Type}:KS (H:=H) Rows.uptoBulk Rows.uptoBulkAll:=
 ⟨UA,fun b=>by simp [Rows.uptoBulk],fun e s=>by simp only [Rows.uptoBulk];omega,fun p=>by simp only [Rows.uptoBulk];omega,by simp [Rows.uptoBulkAll],fun d r=>by simp [Rows.uptoBulkAll]⟩
theorem CP:C.P=Tryz.prog:=rfl
theorem own:ownKnob Tryz.prog.godebug=none:=by kernel_rfl
theorem tN {h:Nat→Option Obj}{g:Nat}:∀ (l:List G0) (k:Nat),(∀ (j:Nat) (s:G0),l[j]? = some s→∃ b:ByteArray,dW h ⟨g,k+j,none⟩=some (.string b)∧b.data.toList=s)→HG h 1 (l.map D.str) ⟨g,k,none⟩
 |[],_,_=>trivial
 |s::l,k,H=>by
  obtain⟨b,h1,h2⟩:=H 0 s rfl
  refine⟨⟨.string b,rfl,fun j u hj=>?_,fun u hu=>?_,b,rfl,h2⟩,?_⟩
  ·cases j with
   |zero=>simp [Value.cells] at hj;subst hj;exact h1
   |succ j=>simp [Value.cells] at hj
  ·simp [Value.cells] at hu;subst hu;rfl
  ·refine tN l (k+1) fun j s' hj=>?_
   have:=H (j+1) s' (by simpa using hj)
   rwa [show k+1+j=k+(j+1) from by omega]
theorem GV {P:Program}{W:World}{name:String}{ss:List G0}{rest:List (String×DataW Unit)}{g:Nat}{t e:TypeId}{n:Nat}
  (hg:P.globalNamed name=some g) (hty:(P.globals[g]?).map (·.type)=some t) (ht:P.underlying t=some (.array n e)) (he:P.underlying e=some .string) (hce:P.cellsOf e=1) (hn:ss.length=n)
  (h:laidMet P ((name,.agg (ss.map fun s=> .lit (.string s)))::rest) W):HG (snap W) 1 (ss.map D.str) ⟨g,0,none⟩:=by
 obtain⟨ps,⟨g',t',cs,fuel,p,q,hg',ht',hvar,hd,_,_⟩,_⟩:=h
 obtain rfl:=Option.some.inj (hg.symm.trans hg')
 obtain rfl:=Option.some.inj (hty.symm.trans ht')
 obtain⟨xs,m,rfl,hx,hcl,hxl,hget⟩:=DataW.trod_array ht hd
 have hxs:xs.map (·.1)=ss.map fun s=>(DataW.lit (.string s):DataW Unit):=by
  have:=congrArg Prod.fst hx
  simpa using this.symm
 refine tN ss 0 fun j s hj=>?_
 have hjn:j<n:=by
  rcases Nat.lt_or_ge j ss.length with h|h
  ·omega
  ·rw [List.getElem?_eq_none h] at hj;cases hj
 have hr:=hget j hjn
 have hxj:xs[j]? = some xs[j]:=C2 (by omega)
 rw [hxj,hce,Nat.mul_one] at hr
 obtain⟨b,hc,hb,_⟩:=DataW.trod_string he hr
 have h1:cs.toList[j]? = some (.string b):=by
  have:=congrArg (·[0]?) hc
  simpa [List.getElem?_take,List.getElem?_drop] using this
 have h2:(xs.map (·.1))[j]? = some (DataW.lit (.string b.data.toList)):=by rw [List.getElem?_map,hxj,hb];rfl
 rw [hxs,List.getElem?_map,hj] at h2
 simp only [Option.map_some,B1,DataW.lit.injEq,Lit.string.injEq] at h2
 refine⟨b,?_,h2.symm⟩
 have:=World.var?_cell hg hvar j
 rw [C5]
 exact this.trans (by rw [← D0];exact h1)
def CJ:List (String×DataW Unit):=[("math/bits.deBruijn32tab",Rows.laid_math_bits_deBruijn32tab),("math/bits.deBruijn64tab",Rows.laid_math_bits_deBruijn64tab),("internal/strconv.uint64pow10",Rows.laid_internal_strconv_uint64pow10),("sluicegate/parse.levels",Rows.laid_sluicegate_parse_levels)]
theorem Ds:(Rows.laid_internal_strconv_uint64pow10:DataW Unit)=Lib.tabData .u64 Lib.pow10Tab:=by kernel_rfl
theorem Bn:(Rows.laid_sluicegate_parse_levels:DataW Unit) = .agg ((([[32,124,124,32],[32,38,38,32],[32,124,32],[32,94,32,126,94,32,94,126,32],[32,38,32],[32,61,61,32,33,61,32],[32,60,32,60,61,32,62,32,62,61,32],[32,60,60,32,62,62,32,60,60,60,32,62,62,62,32],[32,43,32,45,32],[32,42,32,47,32,37,32]]:List G0)).map fun s=> .lit (.string s)):=by kernel_rfl
theorem qH {W:World}(h:W.ShapedOpen Tryz.prog)(hL:laidMet Tryz.prog CJ W):C.qH (snap W):=by
 obtain⟨m,hm⟩:=cell_of_shapedOpen_int (g:=1) (t:=3) (zero:=#[.int .i64 0]) (k:= .i64) h (E7 (by kernel_rfl)) (by kernel_rfl) rfl (by kernel_rfl) (by kernel_rfl) Tryz.underlying3
 have h3:=hL.tail.tail.tail
 rw [Bn] at h3
 have ht:=GV (g:=2) (t:=411) (n:=10) (by kernel_rfl) (by kernel_rfl) Tryz.underlying411 (by kernel_rfl) (by kernel_rfl) rfl h3
 have h4:=hL.tail.tail
 rw [Ds] at h4
 have hp:=Lib.tabIs_of_head (g:=0) (t:=403) (n:=20) (by kernel_rfl) (by kernel_rfl) Tryz.underlying403 (by kernel_rfl) (by kernel_rfl) (by kernel_rfl) h4
 refine⟨⟨⟨m,hm⟩,Ed (by kernel_rfl) hp⟩,fun n xs hn=>?_⟩
 by_cases h1:n=2
 ·subst h1
  obtain rfl:=Option.some.inj (hn.symm.trans (rfl:SN qG 2=some _))
  exact ht
 ·have:SN qG n=none:=by
   unfold qG SN
   rw [show Nat.beq n 2=false from by cases hb:Nat.beq n 2 with|false=>rfl|true=>exact absurd (B0 hb) h1]
   rfl
  rw [this] at hn;cases hn
def put (zs:Array Value):Obj→Obj
 | .cells _ t frozen=> .cells zs t frozen
 |x=>x
noncomputable def CK (os:Os):World:={ World.holding Tryz.prog os ⟨#[],#[],[]⟩ with heap:=(((((World.holding Tryz.prog os ⟨#[],#[],[]⟩).heap.modify 3 (put (([0,1,28,2,29,14,24,3,30,22,20,15,25,17,4,8,31,27,13,23,21,19,16,7,26,12,18,6,11,5,10,9]:List Int).map (Value.int .u8)).toArray)).modify 4 (put (([0,1,56,2,57,49,28,3,61,58,42,50,38,29,17,4,62,47,59,36,45,43,51,22,53,39,33,30,24,18,12,5,63,55,48,27,60,41,37,16,46,35,44,21,52,32,23,11,54,26,40,15,34,20,31,10,25,14,19,9,13,8,7,6]:List Int).map (Value.int .u8)).toArray)).modify 0 (put #[.int .u64 1,.int .u64 10,.int .u64 100,.int .u64 1000,.int .u64 10000,.int .u64 100000,.int .u64 1000000,.int .u64 10000000,.int .u64 100000000,.int .u64 1000000000,.int .u64 10000000000,.int .u64 100000000000,.int .u64 1000000000000,.int .u64 10000000000000,.int .u64 100000000000000,.int .u64 1000000000000000,.int .u64 10000000000000000,.int .u64 100000000000000000,.int .u64 1000000000000000000,.int .u64 10000000000000000000])).modify 2 (put #[.string ⟨#[32,124,124,32]⟩,.string ⟨#[32,38,38,32]⟩,.string ⟨#[32,124,32]⟩,.string ⟨#[32,94,32,126,94,32,94,126,32]⟩,.string ⟨#[32,38,32]⟩,.string ⟨#[32,61,61,32,33,61,32]⟩,.string ⟨#[32,60,32,60,61,32,62,32,62,61,32]⟩,.string ⟨#[32,60,60,32,62,62,32,60,60,60,32,62,62,62,32]⟩,.string ⟨#[32,43,32,45,32]⟩,.string ⟨#[32,42,32,47,32,37,32]⟩])) }
theorem MB (os:Os)(args:Array Value):laidMet Tryz.prog CJ ((CK os).forCall (fun _ _=>0) ⟨#[],args,[]⟩).memory:=
 laidMet_of_run' 8 (by kernel_rfl) (by kernel_rfl)
theorem GO {a:Assume}{P:Checked}{os:Os}{f:FuncId}{fn:Func}{H:Type}{enc:TypeId×Value→H}{s:ChangeSpec}{conds:List PathCond}{apart fresh handsOn again:Bool}{X:World→Array Value→Prop}
  (hX:∀ (w w':World) (args:Array Value),w.heap=w'.heap→X w args→X w' args)
  (own:ownKnob P.prog.godebug=none) (started:os.Started) (noInit:P.prog.inits.idxOf? f=none) (hfn:P.prog.funcs[f]? = some fn)
  (witness:∃ (w:World) (tape:Tape) (i:Input),w.os=os∧(w.forCall tape i).Shaped P.prog∧i.vars=[]∧Input.okWide P.prog (w.forCall tape i) .any w.heap.size f i∧
   ((s.pre enc P.prog fn conds apart (w.forCall tape i).memory i.args∧X (w.forCall tape i).memory i.args)∧sizedMet enc P.prog fn (OpenSpec.ofChange s) apart (w.forCall tape i).memory i.args)∧a.holds P.prog (lone (Frame.enter P.prog f i.args .normal) [] (w.forCall tape i)))
  (xD:∀ (W:World) (base:Nat) (args:Array Value) (ds gs:List (DataW H)) (before:List MemPlace),
   (∀ (j:Nat) t v,fn.params[j]? = some t→args[j]? = some v→Value.okWide P.prog W .any base t v)→
   DataW.Whole enc P.prog fn.params.toList s.vars apart W args.toList ds gs before→W.ShapedOpen P.prog→X W args→
   Calls P.prog f args W fun e W'=>∃ v,e = .returned v∧s.post enc P.prog fn apart fresh handsOn again W args v W') :
  ReturnsInHanded a P os f .any (fun w args=>(s.pre enc P.prog fn conds apart w args∧X w args)∧sizedMet enc P.prog fn (OpenSpec.ofChange s) apart w args) (s.post enc P.prog fn apart fresh handsOn again):=by
 refine returnsInHanded_of_calls own started noInit witness ?_
 intro w tape i _ hsh _ hok hpre hholds
 obtain⟨_,_,_,fn',hfn',_,_,_,_,hval⟩:=hok
 have e:fn'=fn:=Option.some.inj (hfn'.symm.trans hfn)
 subst e
 obtain⟨⟨⟨ds,gs,before,hw,hc⟩,hx⟩,hz⟩:=hpre
 have hw':=DataW.Whole.of_heap (w':=w.forCall tape i) (by rfl) hw
 refine (xD (w.forCall tape i) w.heap.size i.args ds gs before hval hw' hsh (hX _ _ _ (by rfl) hx)).mono fun e W' ⟨v,he,hp⟩=>?_
 subst he
 exact ChangeSpec.post_blind hp
end Claim
end Go.Proofs.YtpmjplpnpnmlcaaGreatDoor
