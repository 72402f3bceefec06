import Derived.Test.YtalibicpmfbieaaGreatDoorRows
import Derived.Test.YtalibicpmfbieaaGreatDoorShelf
import Derived.Test.YtalibicpmfbieaaGreatDoorAe0
import Derived.Test.YtalibicpmfbieaaGreatDoorBldLaw
import Derived.Test.YtalibicpmfbieaaGreatDoorEng
import Derived.Shelf.Vars
import Derived.HandedShaped
import Derived.LaidLaws
import Derived.Stop.LaidErr
import Derived.Handed
import Derived.LaidHandle
set_option linter.all false
namespace Go.Proofs.YtalibicpmfbieaaGreatDoor
open Go.AE
open Go.ChangeShapes Go.WideShapes Go.ChangeAt Go.RowKit
namespace Claim
def Kp:(Tryz.prog.funcs.all fun fn=>!(fn.name=="runtime.NumGoroutine"))=true:=by kernel_rfl
def names:mK C:=by
 refine⟨fun f fn c=>?_,Aw WZ ?_ (fun f ds=>rfl),fun h h' hh k=>⟨Az hh k.1,fun n xs a=>zN hh 1 xs _ (k.2 n xs a)⟩,fun n xs a h b=>b.2 n xs a,aB0,Pc⟩
 ·have h:Tryz.prog.funcs[f]? = some fn:=c;have:=Array.all_eq_true.1 Kp f (Array.getElem?_eq_some_iff.1 h).1;rw [(Array.getElem?_eq_some_iff.1 h).2] at this;simpa using this
 ·intro p hp;simp only [WZ,B7,List.not_mem_nil,or_false] at hp;rcases hp with rfl|rfl
  ·exact Lf (fn:=Tryz.f224) Tryz.func224 (by kernel_rfl) (by kernel_rfl) (by kernel_rfl) (by kernel_rfl)
  ·exact SD (fn:=Tryz.f161) Tryz.func161 (by kernel_rfl) (by kernel_rfl) (by kernel_rfl) (by kernel_rfl)
def aF1:oB C.P (C.dres 170) Tryz.f170.resultTypes.toList ⟨[(0,.d (.leaf .str)),(1,.d (.leaf .str))],[]⟩=⟨[(0,.d (.leaf .bool))],[]⟩:=by kernel_rfl
def aF0:oB C.P (C.dres 164) Tryz.f164.resultTypes.toList ⟨[(0,.d (.leaf .str)),(1,.d (.leaf .str))],[]⟩=⟨[(0,.d (.leaf .str)),(1,.d (.leaf .str)),(2,.d (.leaf .bool))],[]⟩:=by kernel_rfl
def aO2:oB C.P (C.dres 85) Tryz.f85.resultTypes.toList ⟨[(0,.d (.leaf .str)),(1,.d (.leaf .str))],[]⟩=⟨[(0,.row 0)],[.row 9 1 0]⟩:=by kernel_rfl
set_option maxRecDepth 100000 in
def aU1:∀ f sk ds r,C.SQ f sk ds=some r→tN C f sk ds r:=by
 intro f sk ds r h;refine LU YE (fun p hp=>?_) f sk ds r h;simp only [YE,B7,List.not_mem_nil,or_false] at hp;rcases hp with rfl|rfl|rfl
 ·refine KB (gv:=0) (fun h k=>k.1) (fun s sub m w h1 b=>Tryz.strings_Contains s sub m w h1 b) (fun fn a=>?_);have:fn=Tryz.f170:=Option.some.inj (a.symm.trans Tryz.func170);subst this;exact aF1
 ·refine Ci (gv:=0) (fun h k=>k.1) (fun s sep m w h1 b=>Tryz.strings_Cut s sep m w h1 b) (fun fn a=>?_);have:fn=Tryz.f164:=Option.some.inj (a.symm.trans Tryz.func164);subst this;exact aF0
 ·refine SR (gv:=0) (fun h k=>k.1) (fun s sep m w h1 b c=>Tryz.strings_Split s sep m w h1 b c) (fun fn a=>?_);have:fn=Tryz.f85:=Option.some.inj (a.symm.trans Tryz.func85);subst this;exact aO2
def Pd {H:Type}(d:DataW H):1≤Rows.uptoBulk d:=by
 cases d with
 |lit l=>cases l<;>simp [Rows.uptoBulk]
 |nil=>simp [Rows.uptoBulk]
 |ptr d=>simp [Rows.uptoBulk]
 |slice elems spare=>simp [Rows.uptoBulk]
 |agg parts=>simp [Rows.uptoBulk]
 |iface t d=>simp [Rows.uptoBulk]
 |map entries=>simp [Rows.uptoBulk]
 |held h=>simp [Rows.uptoBulk]
def aT6 {H:Type}:Dy (H:=H) Rows.uptoBulk Rows.uptoBulkAll:=⟨Pd,fun b=>by simp [Rows.uptoBulk],fun e s=>by simp only [Rows.uptoBulk];omega,fun p=>by simp only [Rows.uptoBulk];omega,by simp [Rows.uptoBulkAll],fun d r=>by simp [Rows.uptoBulkAll]⟩
def CP:C.P=Tryz.prog:=rfl
def own:ownKnob Tryz.prog.godebug=none:=by kernel_rfl
def KP {h:Nat→Option Obj}{g:Nat}:∀ (l:List G1) (k:Nat),(∀ (j:Nat) (s:G1),l[j]? = some s→∃ b:ByteArray,tS h ⟨g,k+j,none⟩=some (.string b)∧b.data.toList=s)→ZJ h 1 (l.map D.str) ⟨g,k,none⟩
 |[],_,_=>trivial
 |s::l,k,H=>by
  obtain⟨b,h1,e⟩:=H 0 s rfl;refine⟨⟨.string b,rfl,fun j u a=>?_,fun u c=>?_,b,rfl,e⟩,?_⟩
  ·cases j with
   |zero=>simp [Value.cells] at a;subst a;exact h1
   |succ j=>simp [Value.cells] at a
  ·simp [Value.cells] at c;subst c;rfl
  ·refine KP l (k+1) fun j d a=>?_;have:=H (j+1) d (by simpa using a)
   rwa [show k+1+j=k+(j+1) from by omega]
def YV {P:Program}{W:World}{name:String}{ss:List G1}{rest:List (String×DataW Unit)}{g:Nat}{t e:TypeId}{n:Nat} (x:P.globalNamed name=some g) (i:(P.globals[g]?).map (·.type)=some t) (A:P.underlying t=some (.array n e)) (B:P.underlying e=some .string) (u:P.cellsOf e=1) (I:ss.length=n) (h:laidMet P ((name,.agg (ss.map fun s=> .lit (.string s)))::rest) W):ZJ (snap W) 1 (ss.map D.str) ⟨g,0,none⟩:=by
 obtain⟨ps,⟨g',H,cs,fuel,p,q,r,k,c,C,_,_⟩,_⟩:=h;obtain rfl:=Option.some.inj (x.symm.trans r);obtain rfl:=Option.some.inj (i.symm.trans k);obtain⟨xs,m,rfl,z,E,y,d⟩:=DataW.trod_array A C;have f:xs.map (·.1)=ss.map fun s=>(DataW.lit (.string s):DataW Unit):=by have:=congrArg Prod.fst z;simpa using this.symm
 refine KP ss 0 fun j s o=>?_;have l:j<n:=by
  rcases Nat.lt_or_ge j ss.length with h|h
  ·omega
  ·rw [List.getElem?_eq_none h] at o;cases o
 have w:=d j l;have a:xs[j]? = some xs[j]:=C2 (by omega);rw [a,u,Nat.mul_one] at w;obtain⟨b,F,G,_⟩:=DataW.trod_string B w;have h1:cs.toList[j]? = some (.string b):=by have:=congrArg (·[0]?) F;simpa [List.getElem?_take,List.getElem?_drop] using this
 have v:(xs.map (·.1))[j]? = some (DataW.lit (.string b.data.toList)):=by rw [List.getElem?_map,a,G];rfl
 rw [f,List.getElem?_map,o] at v;simp only [Option.map_some,B1,DataW.lit.injEq,Lit.string.injEq] at v;refine⟨b,?_,v.symm⟩;have:=World.var?_cell x c j;rw [C5];exact this.trans (by rw [← D0];exact h1)
def UL:List (String×DataW Unit):=[("unicode/utf8.acceptRanges",Rows.laid_unicode_utf8_acceptRanges),("sluicegate/parse.levels",Rows.laid_sluicegate_parse_levels),("unicode/utf8.first",Rows.laid_unicode_utf8_first)]
def Wa:(Rows.laid_sluicegate_parse_levels:DataW Unit) = .agg ((([[32,124,124,32],[32,38,38,32],[32,124,32],[32,94,32,126,94,32,94,126,32],[32,38,32],[32,61,61,32,33,61,32],[32,60,32,60,61,32,62,32,62,61,32],[32,60,60,32,62,62,32,60,60,60,32,62,62,62,32],[32,43,32,45,32],[32,42,32,47,32,37,32]]:List G1)).map fun s=> .lit (.string s)):=by kernel_rfl
def IS {W:World}(h:W.ShapedOpen Tryz.prog)(d:laidMet Tryz.prog UL W):C.IS (snap W):=by
 obtain⟨m,hm⟩:=cell_of_shapedOpen_int (g:=0) (t:=3) (zero:=#[.int .i64 0]) (k:= .i64) h (E7 (by kernel_rfl)) (by kernel_rfl) rfl (by kernel_rfl) (by kernel_rfl) Tryz.underlying3;have b:laidMet Tryz.prog [("sluicegate/parse.levels",Rows.laid_sluicegate_parse_levels),("unicode/utf8.first",Rows.laid_unicode_utf8_first)] W:=d.tail;rw [Wa] at b;have c:=YV (g:=1) (t:=247) (n:=10) (by kernel_rfl) (by kernel_rfl) Tryz.underlying247 (by kernel_rfl) (by kernel_rfl) rfl b;refine⟨⟨m,hm⟩,fun n xs a=>?_⟩;by_cases h1:n=1
 ·subst h1;obtain rfl:=Option.some.inj (a.symm.trans (rfl:Mv HF 1=some _));exact c
 ·have:Mv HF n=none:=by
   unfold HF Mv;rw [show Nat.beq n 1=false from by cases hb:Nat.beq n 1 with|false=>rfl|true=>exact absurd (B0 hb) h1];rfl
  rw [this] at a;cases a
def put (zs:Array Value):Obj→Obj
 | .cells _ t frozen=> .cells zs t frozen
 |x=>x
noncomputable def UM (os:Os):World:={ World.holding Tryz.prog os ⟨#[],#[],[]⟩ with heap:=(((World.holding Tryz.prog os ⟨#[],#[],[]⟩).heap.modify 3 (put (([128,191,160,191,128,159,144,191,128,143]++List.replicate 22 0:List Int).map (Value.int .u8)).toArray)).modify 1 (put #[.string ⟨#[32,124,124,32]⟩,.string ⟨#[32,38,38,32]⟩,.string ⟨#[32,124,32]⟩,.string ⟨#[32,94,32,126,94,32,94,126,32]⟩,.string ⟨#[32,38,32]⟩,.string ⟨#[32,61,61,32,33,61,32]⟩,.string ⟨#[32,60,32,60,61,32,62,32,62,61,32]⟩,.string ⟨#[32,60,60,32,62,62,32,60,60,60,32,62,62,62,32]⟩,.string ⟨#[32,43,32,45,32]⟩,.string ⟨#[32,42,32,47,32,37,32]⟩])).modify 2 (put ((List.replicate 128 240++List.replicate 66 241++List.replicate 30 2++[19]++List.replicate 12 3++[35,3,3,52,4,4,4,68]++List.replicate 11 241:List Int).map (Value.int .u8)).toArray) }
def Fg (os:Os)(args:Array Value):laidMet Tryz.prog UL ((UM os).forCall (fun _ _=>0) ⟨#[],args,[]⟩).memory:=laidMet_of_run' 8 (by kernel_rfl) (by kernel_rfl)
def YQ {a:Assume}{P:Checked}{os:Os}{f:FuncId}{fn:Func}{H:Type}{enc:TypeId×Value→H}{s:ChangeSpec}{conds:List PathCond}{apart fresh handsOn again:Bool}{X:World→Array Value→Prop} (x:∀ (w w':World) (args:Array Value),w.heap=w'.heap→X w args→X w' args) (own:ownKnob P.prog.godebug=none) (started:os.Started) (b:P.prog.inits.idxOf? f=none) (n:P.prog.funcs[f]? = some fn) (witness:∃ (w:World) (tape:Tape) (i:Input),w.os=os∧(w.forCall tape i).Shaped P.prog∧i.vars=[]∧Input.okWide P.prog (w.forCall tape i) .any w.heap.size f i∧((s.pre enc P.prog fn conds apart (w.forCall tape i).memory i.args∧X (w.forCall tape i).memory i.args)∧sizedMet enc P.prog fn (OpenSpec.ofChange s) apart (w.forCall tape i).memory i.args)∧a.holds P.prog (lone (Frame.enter P.prog f i.args .normal) [] (w.forCall tape i))) (OX:∀ (W:World) (base:Nat) (args:Array Value) (ds gs:List (DataW H)) (before:List MemPlace),(∀ (j:Nat) t v,fn.params[j]? = some t→args[j]? = some v→Value.okWide P.prog W .any base t v)→DataW.Whole enc P.prog fn.params.toList s.vars apart W args.toList ds gs before→W.ShapedOpen P.prog→X W args→Calls P.prog f args W fun e p=>∃ v,e = .returned v∧s.post enc P.prog fn apart fresh handsOn again W args v p) :ReturnsInHanded a P os f .any (fun w args=>(s.pre enc P.prog fn conds apart w args∧X w args)∧sizedMet enc P.prog fn (OpenSpec.ofChange s) apart w args) (s.post enc P.prog fn apart fresh handsOn again):=by refine returnsInHanded_of_calls own started b witness ?_;intro w tape i _ l _ m d h;obtain⟨_,_,_,o,g,_,_,_,_,c⟩:=m;have e:o=fn:=Option.some.inj (g.symm.trans n);subst e;obtain⟨⟨⟨ds,gs,before,r,z⟩,q⟩,y⟩:=d;have k:=DataW.Whole.of_heap (w':=w.forCall tape i) (by rfl) r;refine (OX (w.forCall tape i) w.heap.size i.args ds gs before c k l (x _ _ _ (by rfl) q)).mono fun e p ⟨v,u,hp⟩=>?_;subst u;exact ChangeSpec.post_blind hp
end Claim
end Go.Proofs.YtalibicpmfbieaaGreatDoor
